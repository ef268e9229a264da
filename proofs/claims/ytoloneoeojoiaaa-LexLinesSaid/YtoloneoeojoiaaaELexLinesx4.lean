-- Written by a program of this seat, over a copy of the print; parts by hand.
import Derived.Test.YtoloneoeojoiaaaELexLinesx0
import Derived.Test.YtoloneoeojoiaaaELexLinesx1
import Derived.Test.YtoloneoeojoiaaaELexLinesx3
namespace Go.Proofs.Ytoloneoeojoiaaa.ELexLines
open Go.RowKit Go.Proofs.YtoloneoeojoiaaaW.PrintWords Go.Proofs.YtoloneoeojoiaaaW.PrintLast Go.Proofs.YtoloneoeojoiaaaW.PrintMore
attribute [local go_sem] max2_int min2_int max_two min_two max_three min_three max_four min_four   -- for this text's walks alone
set_option linter.unusedVariables false
set_option linter.unusedSimpArgs false

attribute [local go_sem high] eqA31
/-! ### waybilllaw04_alive: function 14 -/
def waybilllaw04_alive.f  : Option (Bool) := (lex_Tokens.f (⟨#[97, 32, 61, 32, 49, 50, 59, 32, 35, 32, 120]⟩ : ByteArray)).bind fun bt103 => ((waybilllaw04_num.f bt103.2.2).bind fun t108 => (if t108 = 0 then (if bt103.2.1 = 0 then (if (bt103.1.length : Int) = 4 then (if 2 < (bt103.1.length : Int) then (some (((rd_T31 bt103.1 2).f0) == 2 && ((((rd_T31 bt103.1 2).f1).toList) == ([49, 50] : List UInt8) && (((rd_T31 bt103.1 2).f2) == 1)))) else (none)) else (some false)) else (some false)) else (some false)))
set_option maxHeartbeats 8000000 in
set_option maxRecDepth 100000 in
theorem waybilllaw04_alive.calls  (r : Bool) (w : World) (h : waybilllaw04_alive.f  = some r) :
    Calls Try.prog 14 #[] w fun e w' => e = .returned (.bool r) ∧ Below w.heap.size w w' := by
  have hu31 := Try.underlying31
  have HB := Aside0.mk (Below.refl w.heap.size w)
  have H : ((lex_Tokens.f (⟨#[97, 32, 61, 32, 49, 50, 59, 32, 35, 32, 120]⟩ : ByteArray)).bind fun bt103 => ((waybilllaw04_num.f bt103.2.2).bind fun t108 => (if t108 = 0 then (if bt103.2.1 = 0 then (if (bt103.1.length : Int) = 4 then (if 2 < (bt103.1.length : Int) then (some (((rd_T31 bt103.1 2).f0) == 2 && ((((rd_T31 bt103.1 2).f1).toList) == ([49, 50] : List UInt8) && (((rd_T31 bt103.1 2).f2) == 1)))) else (none)) else (some false)) else (some false)) else (some false)))) = some r := h
  clear h
  replace H := Option.bind_eq_some_iff.mp H
  obtain ⟨⟨t103, t104, t105⟩, A10, H⟩ := H
  replace H : ((waybilllaw04_num.f t105).bind fun t108 => (if t108 = 0 then (if t104 = 0 then (if (t103.length : Int) = 4 then (if 2 < (t103.length : Int) then (some (((rd_T31 t103 2).f0) == 2 && ((((rd_T31 t103 2).f1).toList) == ([49, 50] : List UInt8) && (((rd_T31 t103 2).f2) == 1)))) else (none)) else (some false)) else (some false)) else (some false))) = some r := H
  have A1 := Aside0.mk A10
  clear A10
  replace H := Option.bind_eq_some_iff.mp H
  obtain ⟨t108, A20, H⟩ := H
  replace H : (if t108 = 0 then (if t104 = 0 then (if (t103.length : Int) = 4 then (if 2 < (t103.length : Int) then (some (((rd_T31 t103 2).f0) == 2 && ((((rd_T31 t103 2).f1).toList) == ([49, 50] : List UInt8) && (((rd_T31 t103 2).f2) == 1)))) else (none)) else (some false)) else (some false)) else (some false)) = some r := H
  have A2 := Aside0.mk A20
  clear A20
  by_cases c3 : t108 = 0
  · rw [if_pos c3] at H
    have c3b0 : (t108 == 0) = true := beq_iff_eq.mpr c3
    have c3b1 : (t108 != 0) = false := bne_eq_false_iff_eq.mpr c3
    clear c3
    by_cases c4 : t104 = 0
    · rw [if_pos c4] at H
      have c4b0 : (t104 == 0) = true := beq_iff_eq.mpr c4
      have c4b1 : (t104 != 0) = false := bne_eq_false_iff_eq.mpr c4
      clear c4
      by_cases c5 : (t103.length : Int) = 4
      · rw [if_pos c5] at H
        have c5b0 : ((t103.length : Int) == 4) = true := beq_iff_eq.mpr c5
        have c5b1 : ((t103.length : Int) != 4) = false := bne_eq_false_iff_eq.mpr c5
        clear c5
        by_cases c6 : 2 < (t103.length : Int)
        · rw [if_pos c6] at H
          have c6b0 : decide (2 < (t103.length : Int)) = true := decide_eq_true c6
          have c6b1 : decide (2 < t103.length) = true := decide_eq_true (by omega)
          clear c6
          obtain rfl := Option.some.inj H
          go_enter Try.func14, Try.ntmps14
          go_wp2_with (first | ((with_reducible refine gate_callee (f := 15) rfl ?_); refine goesL_ (some 5) rfl rfl Try.func15 (by kernel_rfl) rfl #[.string (⟨#[97, 32, 61, 32, 49, 50, 59, 32, 35, 32, 120]⟩ : ByteArray)] rfl (by (try simp only [List.map_toArray, List.map_cons, List.map_nil]); first | done | rfl | (simp only [List.length_drop, List.length_take]; rfl)) ?_; (with_reducible refine (lex_Tokens.calls (⟨#[97, 32, 61, 32, 49, 50, 59, 32, 35, 32, 120]⟩ : ByteArray) t103 t104 t105 _ A1.out).mono ?_); rintro e w7 ⟨v106, rfl, ho0, hb⟩; refine ⟨_, rfl, ?_⟩; have n0_ := Aside0.mk (Kd.R_lower ho0 (below_size (by repeat (first | (with_reducible first | exact HB.out | apply below_alloc | apply pw_below_drewN | apply below_drew1) | exact HB.out)))); have n1_ := Aside0.mk (below_step (by repeat (first | (with_reducible first | exact HB.out | apply below_alloc | apply pw_below_drewN | apply below_drew1) | exact HB.out)) hb); clear HB; have HO107 := n0_; have HB := n1_; clear n0_ n1_; (try clear hb); (try clear hb2); (try clear hk); (try clear hi); (try clear ho0)) | ((with_reducible refine gate_callee (f := 17) rfl ?_); refine goesL_ (some 10) rfl rfl Try.func17 (by kernel_rfl) rfl #[.int .i64 t105] rfl (by (try simp only [List.map_toArray, List.map_cons, List.map_nil]); first | done | rfl | (simp only [List.length_drop, List.length_take]; rfl)) ?_; (with_reducible refine (waybilllaw04_num.calls t105 t108 _ A2.out).mono ?_); rintro e w' ⟨rfl, ⟨nd, rfl⟩⟩; refine ⟨_, rfl, ?_⟩; obtain ⟨Ao8, co8, eo8⟩ := Kd.R_slice HO107.out; subst eo8; have p109 : 0 ≤ (2 : Int) := (by omega); have q109 : 2 < (t103.length : Int) := of_decide_eq_true (by first | (with_reducible assumption) | assumption); obtain ⟨ad109, e109, hx109_0, hx109_1, hx109_2⟩ := at_T31 (Kd.R_reads' HO107.out).2.2 2 p109 q109; cases e109; (try simp only [show (2 : Int).toNat = 2 from rfl, Nat.reduceMul, Nat.reduceEqDiff, Go.Addr.add, ↓reduceIte] at hx109_0); (try simp only [show (2 : Int).toNat = 2 from rfl, Nat.reduceMul, Nat.reduceEqDiff, Go.Addr.add, ↓reduceIte] at hx109_1); (try simp only [show (2 : Int).toNat = 2 from rfl, Nat.reduceMul, Nat.reduceEqDiff, Go.Addr.add, ↓reduceIte] at hx109_2); have qi109 : (2 < t103.length) = True := eq_true (by omega); (try rw [show ((2 : Int)).toNat = 2 from rfl] at hx109_0); (try rw [show 2 * 3 = 6 from rfl] at hx109_0); (try rw [show ((2 : Int)).toNat = 2 from rfl] at hx109_1); (try rw [show 2 * 3 = 6 from rfl] at hx109_1); (try rw [show ((2 : Int)).toNat = 2 from rfl] at hx109_2); (try rw [show 2 * 3 = 6 from rfl] at hx109_2); replace p109 := eq_true p109; replace q109 := eq_true q109))
          go_ret
          exact ⟨by first | rfl | (simp [errW_none, errW_some] <;> rfl) | (simp [*, errW_none, errW_some] <;> rfl), by repeat (first | (with_reducible first | exact HB.out | apply below_alloc | apply pw_below_drewN | apply below_drew1) | exact HB.out)⟩
        · rw [if_neg c6] at H
          exact absurd H (by simp)
      · rw [if_neg c5] at H
        have c5b0 : ((t103.length : Int) == 4) = false := beq_eq_false_iff_ne.mpr c5
        have c5b1 : ((t103.length : Int) != 4) = true := bne_iff_ne.mpr c5
        obtain rfl := Option.some.inj H
        go_enter Try.func14, Try.ntmps14
        go_wp2_with (first | ((with_reducible refine gate_callee (f := 15) rfl ?_); refine goesL_ (some 5) rfl rfl Try.func15 (by kernel_rfl) rfl #[.string (⟨#[97, 32, 61, 32, 49, 50, 59, 32, 35, 32, 120]⟩ : ByteArray)] rfl (by (try simp only [List.map_toArray, List.map_cons, List.map_nil]); first | done | rfl | (simp only [List.length_drop, List.length_take]; rfl)) ?_; (with_reducible refine (lex_Tokens.calls (⟨#[97, 32, 61, 32, 49, 50, 59, 32, 35, 32, 120]⟩ : ByteArray) t103 t104 t105 _ A1.out).mono ?_); rintro e w9 ⟨v106, rfl, ho0, hb⟩; refine ⟨_, rfl, ?_⟩; have n0_ := Aside0.mk (Kd.R_lower ho0 (below_size (by repeat (first | (with_reducible first | exact HB.out | apply below_alloc | apply pw_below_drewN | apply below_drew1) | exact HB.out)))); have n1_ := Aside0.mk (below_step (by repeat (first | (with_reducible first | exact HB.out | apply below_alloc | apply pw_below_drewN | apply below_drew1) | exact HB.out)) hb); clear HB; have HO107 := n0_; have HB := n1_; clear n0_ n1_; (try clear hb); (try clear hb2); (try clear hk); (try clear hi); (try clear ho0)) | ((with_reducible refine gate_callee (f := 17) rfl ?_); refine goesL_ (some 10) rfl rfl Try.func17 (by kernel_rfl) rfl #[.int .i64 t105] rfl (by (try simp only [List.map_toArray, List.map_cons, List.map_nil]); first | done | rfl | (simp only [List.length_drop, List.length_take]; rfl)) ?_; (with_reducible refine (waybilllaw04_num.calls t105 t108 _ A2.out).mono ?_); rintro e w' ⟨rfl, ⟨nd, rfl⟩⟩; refine ⟨_, rfl, ?_⟩; obtain ⟨Ao10, co10, eo10⟩ := Kd.R_slice HO107.out; subst eo10))
        go_ret
        exact ⟨by first | rfl | (simp [errW_none, errW_some] <;> rfl) | (simp [*, errW_none, errW_some] <;> rfl), by repeat (first | (with_reducible first | exact HB.out | apply below_alloc | apply pw_below_drewN | apply below_drew1) | exact HB.out)⟩
    · rw [if_neg c4] at H
      have c4b0 : (t104 == 0) = false := beq_eq_false_iff_ne.mpr c4
      have c4b1 : (t104 != 0) = true := bne_iff_ne.mpr c4
      obtain rfl := Option.some.inj H
      go_enter Try.func14, Try.ntmps14
      go_wp2_with (first | ((with_reducible refine gate_callee (f := 15) rfl ?_); refine goesL_ (some 5) rfl rfl Try.func15 (by kernel_rfl) rfl #[.string (⟨#[97, 32, 61, 32, 49, 50, 59, 32, 35, 32, 120]⟩ : ByteArray)] rfl (by (try simp only [List.map_toArray, List.map_cons, List.map_nil]); first | done | rfl | (simp only [List.length_drop, List.length_take]; rfl)) ?_; (with_reducible refine (lex_Tokens.calls (⟨#[97, 32, 61, 32, 49, 50, 59, 32, 35, 32, 120]⟩ : ByteArray) t103 t104 t105 _ A1.out).mono ?_); rintro e w11 ⟨v106, rfl, ho0, hb⟩; refine ⟨_, rfl, ?_⟩; have n0_ := Aside0.mk (Kd.R_lower ho0 (below_size (by repeat (first | (with_reducible first | exact HB.out | apply below_alloc | apply pw_below_drewN | apply below_drew1) | exact HB.out)))); have n1_ := Aside0.mk (below_step (by repeat (first | (with_reducible first | exact HB.out | apply below_alloc | apply pw_below_drewN | apply below_drew1) | exact HB.out)) hb); clear HB; have HO107 := n0_; have HB := n1_; clear n0_ n1_; (try clear hb); (try clear hb2); (try clear hk); (try clear hi); (try clear ho0)) | ((with_reducible refine gate_callee (f := 17) rfl ?_); refine goesL_ (some 10) rfl rfl Try.func17 (by kernel_rfl) rfl #[.int .i64 t105] rfl (by (try simp only [List.map_toArray, List.map_cons, List.map_nil]); first | done | rfl | (simp only [List.length_drop, List.length_take]; rfl)) ?_; (with_reducible refine (waybilllaw04_num.calls t105 t108 _ A2.out).mono ?_); rintro e w' ⟨rfl, ⟨nd, rfl⟩⟩; refine ⟨_, rfl, ?_⟩))
      go_ret
      exact ⟨by first | rfl | (simp [errW_none, errW_some] <;> rfl) | (simp [*, errW_none, errW_some] <;> rfl), by repeat (first | (with_reducible first | exact HB.out | apply below_alloc | apply pw_below_drewN | apply below_drew1) | exact HB.out)⟩
  · rw [if_neg c3] at H
    have c3b0 : (t108 == 0) = false := beq_eq_false_iff_ne.mpr c3
    have c3b1 : (t108 != 0) = true := bne_iff_ne.mpr c3
    obtain rfl := Option.some.inj H
    go_enter Try.func14, Try.ntmps14
    go_wp2_with (first | ((with_reducible refine gate_callee (f := 15) rfl ?_); refine goesL_ (some 5) rfl rfl Try.func15 (by kernel_rfl) rfl #[.string (⟨#[97, 32, 61, 32, 49, 50, 59, 32, 35, 32, 120]⟩ : ByteArray)] rfl (by (try simp only [List.map_toArray, List.map_cons, List.map_nil]); first | done | rfl | (simp only [List.length_drop, List.length_take]; rfl)) ?_; (with_reducible refine (lex_Tokens.calls (⟨#[97, 32, 61, 32, 49, 50, 59, 32, 35, 32, 120]⟩ : ByteArray) t103 t104 t105 _ A1.out).mono ?_); rintro e w12 ⟨v106, rfl, ho0, hb⟩; refine ⟨_, rfl, ?_⟩; have n0_ := Aside0.mk (Kd.R_lower ho0 (below_size (by repeat (first | (with_reducible first | exact HB.out | apply below_alloc | apply pw_below_drewN | apply below_drew1) | exact HB.out)))); have n1_ := Aside0.mk (below_step (by repeat (first | (with_reducible first | exact HB.out | apply below_alloc | apply pw_below_drewN | apply below_drew1) | exact HB.out)) hb); clear HB; have HO107 := n0_; have HB := n1_; clear n0_ n1_; (try clear hb); (try clear hb2); (try clear hk); (try clear hi); (try clear ho0)) | ((with_reducible refine gate_callee (f := 17) rfl ?_); refine goesL_ (some 10) rfl rfl Try.func17 (by kernel_rfl) rfl #[.int .i64 t105] rfl (by (try simp only [List.map_toArray, List.map_cons, List.map_nil]); first | done | rfl | (simp only [List.length_drop, List.length_take]; rfl)) ?_; (with_reducible refine (waybilllaw04_num.calls t105 t108 _ A2.out).mono ?_); rintro e w' ⟨rfl, ⟨nd, rfl⟩⟩; refine ⟨_, rfl, ?_⟩))
    go_ret
    exact ⟨by first | rfl | (simp [errW_none, errW_some] <;> rfl) | (simp [*, errW_none, errW_some] <;> rfl), by repeat (first | (with_reducible first | exact HB.out | apply below_alloc | apply pw_below_drewN | apply below_drew1) | exact HB.out)⟩

/-! ### waybilllaw04_LexLines: function 4 -/
mutual
def waybilllaw04_LexLines.l0 : Nat → ByteArray → Int → ByteArray → Int → Option (Bool)
  | 0, _, _, _, _ => none
  | k + 1, x0, x1, x5, x6 => if x6 < x1 then (if 1 + x5.size ≤ 9223372036854775807 then (waybilllaw04_LexLines.l0 k x0 x1 ((⟨#[10]⟩ : ByteArray) ++ x5) (wrap64 (x6 + 1))) else (none)) else ((lex_Tokens.f x0).bind fun bt111 => ((lex_Tokens.f x5).bind fun bt116 => (if bt111.2.2 = bt116.2.2 then (if (bt111.1.length : Int) = (bt116.1.length : Int) then ((waybilllaw04_num.f bt111.2.2).bind fun t121 => (if t121 = 0 then ((waybilllaw04_num.f bt111.2.2).bind fun t122 => (if t122 = 0 then (waybilllaw04_LexLines.j1 k x1 bt111.1 bt116.1 (bt116.2.1 != 0)) else (waybilllaw04_LexLines.j1 k x1 bt111.1 bt116.1 false))) else (if (wrap64 (bt116.2.1 - bt111.2.1)) = x1 then ((waybilllaw04_num.f bt111.2.2).bind fun t123 => (if t123 = 0 then (waybilllaw04_LexLines.j1 k x1 bt111.1 bt116.1 (bt116.2.1 != 0)) else (waybilllaw04_LexLines.j1 k x1 bt111.1 bt116.1 false))) else (waybilllaw04_LexLines.j1 k x1 bt111.1 bt116.1 true)))) else (waybilllaw04_LexLines.j1 k x1 bt111.1 bt116.1 true)) else (waybilllaw04_LexLines.j1 k x1 bt111.1 bt116.1 true))))
def waybilllaw04_LexLines.j1 : Nat → Int → List (S31) → List (S31) → Bool → Option (Bool)
  | 0, _, _, _, _ => none
  | k + 1, x1, x7, x10, x73 => if x73 = true then (some false) else (waybilllaw04_LexLines.l1 k x1 x7 x10 0)
def waybilllaw04_LexLines.l1 : Nat → Int → List (S31) → List (S31) → Int → Option (Bool)
  | 0, _, _, _, _ => none
  | k + 1, x1, x7, x10, x13 => if x13 < (x7.length : Int) then (if 0 ≤ x13 then (if x13 < (x10.length : Int) then (if ((rd_T31 x7 x13).f0) = ((rd_T31 x10 x13).f0) then (if ((rd_T31 x7 x13).f1).toList = ((rd_T31 x10 x13).f1).toList then (if (wrap64 (((rd_T31 x10 x13).f2) - ((rd_T31 x7 x13).f2))) = x1 then (waybilllaw04_LexLines.l1 k x1 x7 x10 (wrap64 (x13 + 1))) else (some false)) else (some false)) else (some false)) else (none)) else (none)) else (some true)
end
def waybilllaw04_LexLines.f (k : Nat) (a0 : ByteArray) (a1 : Int) : Option (Bool) := (waybilllaw04_alive.f).bind fun t110 => (if t110 = true then (if (a0.size : Int) > 60000 then (some true) else (waybilllaw04_LexLines.l0 k a0 (Int.tmod (wrap64 ((Int.tmod a1 50) + 50)) 50) a0 0)) else (some false))
theorem waybilllaw04_LexLines.mono_l : ∀ k, (∀ y0 y1 y2 y3, LeO (waybilllaw04_LexLines.l0 k y0 y1 y2 y3) (waybilllaw04_LexLines.l0 (k + 1) y0 y1 y2 y3)) ∧ (∀ y0 y1 y2 y3, LeO (waybilllaw04_LexLines.j1 k y0 y1 y2 y3) (waybilllaw04_LexLines.j1 (k + 1) y0 y1 y2 y3)) ∧ (∀ y0 y1 y2 y3, LeO (waybilllaw04_LexLines.l1 k y0 y1 y2 y3) (waybilllaw04_LexLines.l1 (k + 1) y0 y1 y2 y3))
  | 0 => ⟨fun _ _ _ _ r h => by simp [waybilllaw04_LexLines.l0] at h, fun _ _ _ _ r h => by simp [waybilllaw04_LexLines.j1] at h, fun _ _ _ _ r h => by simp [waybilllaw04_LexLines.l1] at h⟩
  | k + 1 => by
    obtain ⟨ih0, ih1, ih2⟩ := waybilllaw04_LexLines.mono_l k
    refine ⟨?_, ?_, ?_⟩
    · intro y0 y1 y2 y3
      unfold waybilllaw04_LexLines.l0
      repeat' first
      | (with_reducible exact ih0 _ _ _ _)
      | (with_reducible exact ih1 _ _ _ _)
      | (with_reducible exact ih2 _ _ _ _)
      | (with_reducible exact LeO.refl _)
      | (with_reducible exact LeO.none _)
      | (with_reducible refine LeO.ite ?_ ?_)
      | (with_reducible refine LeO.bind ?_ (fun _ => ?_))
      | exact ih0 _ _ _ _
      | exact ih1 _ _ _ _
      | exact ih2 _ _ _ _
      | exact LeO.none _
      | refine LeO.ite ?_ ?_
      | refine LeO.bind ?_ (fun _ => ?_)
    · intro y0 y1 y2 y3
      unfold waybilllaw04_LexLines.j1
      repeat' first
      | (with_reducible exact ih0 _ _ _ _)
      | (with_reducible exact ih1 _ _ _ _)
      | (with_reducible exact ih2 _ _ _ _)
      | (with_reducible exact LeO.refl _)
      | (with_reducible exact LeO.none _)
      | (with_reducible refine LeO.ite ?_ ?_)
      | (with_reducible refine LeO.bind ?_ (fun _ => ?_))
      | exact ih0 _ _ _ _
      | exact ih1 _ _ _ _
      | exact ih2 _ _ _ _
      | exact LeO.none _
      | refine LeO.ite ?_ ?_
      | refine LeO.bind ?_ (fun _ => ?_)
    · intro y0 y1 y2 y3
      unfold waybilllaw04_LexLines.l1
      repeat' first
      | (with_reducible exact ih0 _ _ _ _)
      | (with_reducible exact ih1 _ _ _ _)
      | (with_reducible exact ih2 _ _ _ _)
      | (with_reducible exact LeO.refl _)
      | (with_reducible exact LeO.none _)
      | (with_reducible refine LeO.ite ?_ ?_)
      | (with_reducible refine LeO.bind ?_ (fun _ => ?_))
      | exact ih0 _ _ _ _
      | exact ih1 _ _ _ _
      | exact ih2 _ _ _ _
      | exact LeO.none _
      | refine LeO.ite ?_ ?_
      | refine LeO.bind ?_ (fun _ => ?_)
theorem waybilllaw04_LexLines.mono : ∀ a0 a1 k, LeO (waybilllaw04_LexLines.f k a0 a1) (waybilllaw04_LexLines.f (k + 1) a0 a1) := by
  intro a0 a1 k
  obtain ⟨ih0, ih1, ih2⟩ := waybilllaw04_LexLines.mono_l k
  unfold waybilllaw04_LexLines.f
  repeat' first
      | (with_reducible exact ih0 _ _ _ _)
      | (with_reducible exact ih1 _ _ _ _)
      | (with_reducible exact ih2 _ _ _ _)
      | (with_reducible exact LeO.refl _)
      | (with_reducible exact LeO.none _)
      | (with_reducible refine LeO.ite ?_ ?_)
      | (with_reducible refine LeO.bind ?_ (fun _ => ?_))
      | exact ih0 _ _ _ _
      | exact ih1 _ _ _ _
      | exact ih2 _ _ _ _
      | exact LeO.none _
      | refine LeO.ite ?_ ?_
      | refine LeO.bind ?_ (fun _ => ?_)
set_option maxHeartbeats 8000000 in
set_option maxRecDepth 100000 in
theorem waybilllaw04_LexLines.calls (k : Nat) (a0 : ByteArray) (a1 : Int) (r : Bool) (w : World) (h : waybilllaw04_LexLines.f k a0 a1 = some r) :
    Calls Try.prog 4 #[.string a0, .int .i64 a1] w fun e w' => e = .returned (.bool r) ∧ Below w.heap.size w w' := by
  have HB := Aside0.mk (Below.refl w.heap.size w)
  have H : ((waybilllaw04_alive.f).bind fun t110 => (if t110 = true then (if (a0.size : Int) > 60000 then (some true) else (waybilllaw04_LexLines.l0 k a0 (Int.tmod (wrap64 ((Int.tmod a1 50) + 50)) 50) a0 0)) else (some false))) = some r := h
  clear h
  replace H := Option.bind_eq_some_iff.mp H
  obtain ⟨t110, A30, H⟩ := H
  replace H : (if t110 = true then (if (a0.size : Int) > 60000 then (some true) else (waybilllaw04_LexLines.l0 k a0 (Int.tmod (wrap64 ((Int.tmod a1 50) + 50)) 50) a0 0)) else (some false)) = some r := H
  have A3 := Aside0.mk A30
  clear A30
  by_cases c4 : t110 = true
  · subst c4
    have H1 : (if (a0.size : Int) > 60000 then (some true) else (waybilllaw04_LexLines.l0 k a0 (Int.tmod (wrap64 ((Int.tmod a1 50) + 50)) 50) a0 0)) = some r := by rw [if_pos rfl] at H; exact H
    clear H
    have H := H1
    clear H1
    by_cases c5 : (a0.size : Int) > 60000
    · rw [if_pos c5] at H
      have c5b0 : decide (60000 < (a0.size : Int)) = true := decide_eq_true c5
      have c5b1 : decide (60000 < a0.size) = true := decide_eq_true (by omega)
      clear c5
      obtain rfl := Option.some.inj H
      go_enter Try.func4, Try.ntmps4
      go_wp2_with (first | (go_at_call 14; (with_reducible refine (waybilllaw04_alive.calls  true _ A3.out).mono ?_); rintro e w6 ⟨rfl, hb⟩; have n0_ := Aside0.mk (below_step (by repeat (first | (with_reducible first | exact HB.out | apply below_alloc | apply pw_below_drewN | apply below_drew1) | exact HB.out)) hb); clear HB; have HB := n0_; clear n0_; (try clear hb); (try clear hb2); (try clear hk); (try clear hi)))
      repeat (go_quiet (first | (go_at_call 14; (with_reducible refine (waybilllaw04_alive.calls  true _ A3.out).mono ?_); rintro e w6 ⟨rfl, hb⟩; have n0_ := Aside0.mk (below_step (by repeat (first | (with_reducible first | exact HB.out | apply below_alloc | apply pw_below_drewN | apply below_drew1) | exact HB.out)) hb); clear HB; have HB := n0_; clear n0_; (try clear hb); (try clear hb2); (try clear hk); (try clear hi))); try go_wp2_with (first | (go_at_call 14; (with_reducible refine (waybilllaw04_alive.calls  true _ A3.out).mono ?_); rintro e w6 ⟨rfl, hb⟩; have n0_ := Aside0.mk (below_step (by repeat (first | (with_reducible first | exact HB.out | apply below_alloc | apply pw_below_drewN | apply below_drew1) | exact HB.out)) hb); clear HB; have HB := n0_; clear n0_; (try clear hb); (try clear hb2); (try clear hk); (try clear hi))))
      go_ret
      exact ⟨by first | rfl | (simp [errW_none, errW_some] <;> rfl) | (simp [*, errW_none, errW_some] <;> rfl), by repeat (first | (with_reducible first | exact HB.out | apply below_alloc | apply pw_below_drewN | apply below_drew1) | exact HB.out)⟩
    · rw [if_neg c5] at H
      have c5b0 : decide (60000 < (a0.size : Int)) = false := decide_eq_false c5
      have c5b1 : decide (60000 < a0.size) = false := decide_eq_false (by omega)
      clear c5
      have H' := Aside0.mk H
      clear H
      go_enter Try.func4, Try.ntmps4
      go_wp2_with (first | (go_at_call 14; (with_reducible refine (waybilllaw04_alive.calls  true _ A3.out).mono ?_); rintro e w7 ⟨rfl, hb⟩; have n0_ := Aside0.mk (below_step (by repeat (first | (with_reducible first | exact HB.out | apply below_alloc | apply pw_below_drewN | apply below_drew1) | exact HB.out)) hb); clear HB; have HB := n0_; clear n0_; (try clear hb); (try clear hb2); (try clear hk); (try clear hi)))
      repeat (go_quiet (first | (go_at_call 14; (with_reducible refine (waybilllaw04_alive.calls  true _ A3.out).mono ?_); rintro e w7 ⟨rfl, hb⟩; have n0_ := Aside0.mk (below_step (by repeat (first | (with_reducible first | exact HB.out | apply below_alloc | apply pw_below_drewN | apply below_drew1) | exact HB.out)) hb); clear HB; have HB := n0_; clear n0_; (try clear hb); (try clear hb2); (try clear hk); (try clear hi))); try go_wp2_with (first | (go_at_call 14; (with_reducible refine (waybilllaw04_alive.calls  true _ A3.out).mono ?_); rintro e w7 ⟨rfl, hb⟩; have n0_ := Aside0.mk (below_step (by repeat (first | (with_reducible first | exact HB.out | apply below_alloc | apply pw_below_drewN | apply below_drew1) | exact HB.out)) hb); clear HB; have HB := n0_; clear n0_; (try clear hb); (try clear hb2); (try clear hk); (try clear hi))))
      go_loopg [5, 6] k (fun kq v5 v6 w' => ∃ (x5_1 : ByteArray) (x6_1 : Int), v5 = .string x5_1 ∧ v6 = .int .i64 x6_1 ∧ Aside0 (waybilllaw04_LexLines.l0 kq a0 (Int.tmod (wrap64 ((Int.tmod a1 50) + 50)) 50) x5_1 x6_1 = some r) ∧ Aside0 (kq ≤ k) ∧ Aside0 (Below w.heap.size w w'))
      case atStart => exact ⟨(a0), (0), (by first | rfl | (simp; done) | (simp [*]; done)), (by first | rfl | (simp; done) | (simp [*]; done)), H', ⟨Nat.le_refl _⟩, ⟨by repeat (first | (with_reducible first | exact HB.out | apply below_alloc | apply pw_below_drewN | apply below_drew1) | exact HB.out)⟩⟩
      case round =>
        clear H'
        try clear p2
        try clear c4
        try clear c5
        try clear c5b0
        try clear c5b1
        try clear p6
        obtain ⟨x5_1, x6_1, rfl, rfl, HA, HK1, HB⟩ := hrel
        cases gk with
        | zero => exact absurd HA.out (by simp [waybilllaw04_LexLines.l0])
        | succ k1 =>
          have H := HA.out
          clear HA
          simp only [waybilllaw04_LexLines.l0] at H
          by_cases c8 : x6_1 < (Int.tmod (wrap64 ((Int.tmod a1 50) + 50)) 50)
          · rw [if_pos c8] at H
            have c8b0 : decide (x6_1 < (Int.tmod (wrap64 ((Int.tmod a1 50) + 50)) 50)) = true := decide_eq_true c8
            clear c8
            by_cases c9 : 1 + x5_1.size ≤ 9223372036854775807
            · rw [if_pos c9] at H
              have c9b0 := eq_true c9
              have c9b1 : decide (1 + x5_1.size ≤ 9223372036854775807) = true := decide_eq_true c9
              try have c9b2 : (9223372036854775807 < 1 + x5_1.size) = False := eq_false (Nat.not_lt.2 c9)
              have H' := Aside0.mk H
              clear H
              go_wp2
              repeat (go_quiet (fail); try go_wp2)
              go_roundg k1
              case measure => have := HK1.out; omega
              case rel => exact ⟨((⟨#[10]⟩ : ByteArray) ++ x5_1), (wrap64 (x6_1 + 1)), (by first | rfl | (simp; done) | (simp [*]; done)), (by first | rfl | (simp; done) | (simp [*]; done)), H', ⟨by have := HK1.out; omega⟩, ⟨by repeat (first | (with_reducible first | exact HB.out | apply below_alloc | apply pw_below_drewN | apply below_drew1) | exact HB.out)⟩⟩
            · rw [if_neg c9] at H
              exact absurd H (by simp)
          · rw [if_neg c8] at H
            have c8b0 : decide (x6_1 < (Int.tmod (wrap64 ((Int.tmod a1 50) + 50)) 50)) = false := decide_eq_false c8
            clear c8
            replace H := Option.bind_eq_some_iff.mp H
            obtain ⟨⟨t111, t112, t113⟩, A100, H⟩ := H
            replace H : ((lex_Tokens.f x5_1).bind fun bt116 => (if t113 = bt116.2.2 then (if (t111.length : Int) = (bt116.1.length : Int) then ((waybilllaw04_num.f t113).bind fun t121 => (if t121 = 0 then ((waybilllaw04_num.f t113).bind fun t122 => (if t122 = 0 then (waybilllaw04_LexLines.j1 k1 (Int.tmod (wrap64 ((Int.tmod a1 50) + 50)) 50) t111 bt116.1 (bt116.2.1 != 0)) else (waybilllaw04_LexLines.j1 k1 (Int.tmod (wrap64 ((Int.tmod a1 50) + 50)) 50) t111 bt116.1 false))) else (if (wrap64 (bt116.2.1 - t112)) = (Int.tmod (wrap64 ((Int.tmod a1 50) + 50)) 50) then ((waybilllaw04_num.f t113).bind fun t123 => (if t123 = 0 then (waybilllaw04_LexLines.j1 k1 (Int.tmod (wrap64 ((Int.tmod a1 50) + 50)) 50) t111 bt116.1 (bt116.2.1 != 0)) else (waybilllaw04_LexLines.j1 k1 (Int.tmod (wrap64 ((Int.tmod a1 50) + 50)) 50) t111 bt116.1 false))) else (waybilllaw04_LexLines.j1 k1 (Int.tmod (wrap64 ((Int.tmod a1 50) + 50)) 50) t111 bt116.1 true)))) else (waybilllaw04_LexLines.j1 k1 (Int.tmod (wrap64 ((Int.tmod a1 50) + 50)) 50) t111 bt116.1 true)) else (waybilllaw04_LexLines.j1 k1 (Int.tmod (wrap64 ((Int.tmod a1 50) + 50)) 50) t111 bt116.1 true))) = some r := H
            have A10 := Aside0.mk A100
            clear A100
            replace H := Option.bind_eq_some_iff.mp H
            obtain ⟨⟨t116, t117, t118⟩, A110, H⟩ := H
            replace H : (if t113 = t118 then (if (t111.length : Int) = (t116.length : Int) then ((waybilllaw04_num.f t113).bind fun t121 => (if t121 = 0 then ((waybilllaw04_num.f t113).bind fun t122 => (if t122 = 0 then (waybilllaw04_LexLines.j1 k1 (Int.tmod (wrap64 ((Int.tmod a1 50) + 50)) 50) t111 t116 (t117 != 0)) else (waybilllaw04_LexLines.j1 k1 (Int.tmod (wrap64 ((Int.tmod a1 50) + 50)) 50) t111 t116 false))) else (if (wrap64 (t117 - t112)) = (Int.tmod (wrap64 ((Int.tmod a1 50) + 50)) 50) then ((waybilllaw04_num.f t113).bind fun t123 => (if t123 = 0 then (waybilllaw04_LexLines.j1 k1 (Int.tmod (wrap64 ((Int.tmod a1 50) + 50)) 50) t111 t116 (t117 != 0)) else (waybilllaw04_LexLines.j1 k1 (Int.tmod (wrap64 ((Int.tmod a1 50) + 50)) 50) t111 t116 false))) else (waybilllaw04_LexLines.j1 k1 (Int.tmod (wrap64 ((Int.tmod a1 50) + 50)) 50) t111 t116 true)))) else (waybilllaw04_LexLines.j1 k1 (Int.tmod (wrap64 ((Int.tmod a1 50) + 50)) 50) t111 t116 true)) else (waybilllaw04_LexLines.j1 k1 (Int.tmod (wrap64 ((Int.tmod a1 50) + 50)) 50) t111 t116 true)) = some r := H
            have A11 := Aside0.mk A110
            clear A110
            have HC12 := Aside0.mk H
            clear H
            go_upto_region 13 with (first | (go_at_call 15; (with_reducible refine (lex_Tokens.calls a0 t111 t112 t113 _ A10.out).mono ?_); rintro e w13 ⟨v114, rfl, ho0, hb⟩; have n0_ := Aside0.mk (Kd.R_lower ho0 (below_size (by repeat (first | (with_reducible first | exact HB.out | apply below_alloc | apply pw_below_drewN | apply below_drew1) | exact HB.out)))); have n1_ := Aside0.mk (below_step (by repeat (first | (with_reducible first | exact HB.out | apply below_alloc | apply pw_below_drewN | apply below_drew1) | exact HB.out)) hb); clear HB; have HO115 := n0_; have HB := n1_; clear n0_ n1_; (try clear hb); (try clear hb2); (try clear hk); (try clear hi); (try clear ho0)) | (go_at_call 15; (with_reducible refine (lex_Tokens.calls x5_1 t116 t117 t118 _ A11.out).mono ?_); rintro e w14 ⟨v119, rfl, ho0, hb⟩; have n0_ := Aside0.mk (Kd.R_elder' (by (with_reducible repeat (first | apply Kd.R_alloc | apply Kd.R_drewN | apply Kd.R_drew)); exact HO115.out) (Kd.R_base ho0) hb); have n1_ := Aside0.mk (Kd.R_lower (Kd.R_new' ho0 (Kd.R_lt (by (with_reducible repeat (first | apply Kd.R_alloc | apply Kd.R_drewN | apply Kd.R_drew)); exact HO115.out))) (below_size (by repeat (first | (with_reducible first | exact HB.out | apply below_alloc | apply pw_below_drewN | apply below_drew1) | exact HB.out)))); have n2_ := Aside0.mk (below_step (by repeat (first | (with_reducible first | exact HB.out | apply below_alloc | apply pw_below_drewN | apply below_drew1) | exact HB.out)) hb); clear HO115; clear HB; have HO115 := n0_; have HO120 := n1_; have HB := n2_; clear n0_ n1_ n2_; (try clear hb); (try clear hb2); (try clear hk); (try clear hi); (try clear ho0)))
            repeat (go_quiet (first | (go_at_call 15; (with_reducible refine (lex_Tokens.calls a0 t111 t112 t113 _ A10.out).mono ?_); rintro e w13 ⟨v114, rfl, ho0, hb⟩; have n0_ := Aside0.mk (Kd.R_lower ho0 (below_size (by repeat (first | (with_reducible first | exact HB.out | apply below_alloc | apply pw_below_drewN | apply below_drew1) | exact HB.out)))); have n1_ := Aside0.mk (below_step (by repeat (first | (with_reducible first | exact HB.out | apply below_alloc | apply pw_below_drewN | apply below_drew1) | exact HB.out)) hb); clear HB; have HO115 := n0_; have HB := n1_; clear n0_ n1_; (try clear hb); (try clear hb2); (try clear hk); (try clear hi); (try clear ho0)) | (go_at_call 15; (with_reducible refine (lex_Tokens.calls x5_1 t116 t117 t118 _ A11.out).mono ?_); rintro e w14 ⟨v119, rfl, ho0, hb⟩; have n0_ := Aside0.mk (Kd.R_elder' (by (with_reducible repeat (first | apply Kd.R_alloc | apply Kd.R_drewN | apply Kd.R_drew)); exact HO115.out) (Kd.R_base ho0) hb); have n1_ := Aside0.mk (Kd.R_lower (Kd.R_new' ho0 (Kd.R_lt (by (with_reducible repeat (first | apply Kd.R_alloc | apply Kd.R_drewN | apply Kd.R_drew)); exact HO115.out))) (below_size (by repeat (first | (with_reducible first | exact HB.out | apply below_alloc | apply pw_below_drewN | apply below_drew1) | exact HB.out)))); have n2_ := Aside0.mk (below_step (by repeat (first | (with_reducible first | exact HB.out | apply below_alloc | apply pw_below_drewN | apply below_drew1) | exact HB.out)) hb); clear HO115; clear HB; have HO115 := n0_; have HO120 := n1_; have HB := n2_; clear n0_ n1_ n2_; (try clear hb); (try clear hb2); (try clear hk); (try clear hi); (try clear ho0))); go_upto_region 13 with (first | (go_at_call 15; (with_reducible refine (lex_Tokens.calls a0 t111 t112 t113 _ A10.out).mono ?_); rintro e w13 ⟨v114, rfl, ho0, hb⟩; have n0_ := Aside0.mk (Kd.R_lower ho0 (below_size (by repeat (first | (with_reducible first | exact HB.out | apply below_alloc | apply pw_below_drewN | apply below_drew1) | exact HB.out)))); have n1_ := Aside0.mk (below_step (by repeat (first | (with_reducible first | exact HB.out | apply below_alloc | apply pw_below_drewN | apply below_drew1) | exact HB.out)) hb); clear HB; have HO115 := n0_; have HB := n1_; clear n0_ n1_; (try clear hb); (try clear hb2); (try clear hk); (try clear hi); (try clear ho0)) | (go_at_call 15; (with_reducible refine (lex_Tokens.calls x5_1 t116 t117 t118 _ A11.out).mono ?_); rintro e w14 ⟨v119, rfl, ho0, hb⟩; have n0_ := Aside0.mk (Kd.R_elder' (by (with_reducible repeat (first | apply Kd.R_alloc | apply Kd.R_drewN | apply Kd.R_drew)); exact HO115.out) (Kd.R_base ho0) hb); have n1_ := Aside0.mk (Kd.R_lower (Kd.R_new' ho0 (Kd.R_lt (by (with_reducible repeat (first | apply Kd.R_alloc | apply Kd.R_drewN | apply Kd.R_drew)); exact HO115.out))) (below_size (by repeat (first | (with_reducible first | exact HB.out | apply below_alloc | apply pw_below_drewN | apply below_drew1) | exact HB.out)))); have n2_ := Aside0.mk (below_step (by repeat (first | (with_reducible first | exact HB.out | apply below_alloc | apply pw_below_drewN | apply below_drew1) | exact HB.out)) hb); clear HO115; clear HB; have HO115 := n0_; have HO120 := n1_; have HB := n2_; clear n0_ n1_ n2_; (try clear hb); (try clear hb2); (try clear hk); (try clear hi); (try clear ho0))))
            (try simp only [Act.put, List.setIfInBounds_toArray, List.set_cons_zero, List.set_cons_succ])
            go_cut [73] (fun v73 wc => ∃ (kq : Nat) (x73_11 : Bool), v73 = .bool x73_11 ∧ Aside0 (waybilllaw04_LexLines.j1 kq (Int.tmod (wrap64 ((Int.tmod a1 50) + 50)) 50) t111 t116 x73_11 = some r) ∧ Aside0 (kq ≤ k1) ∧ Aside0 (Kd.R k31 31 wc w.heap.size (fun k_ => some k_ ≠ (v119 : Value).ownBlock) v114 t111) ∧ Aside0 (Kd.R k31 31 wc w.heap.size (fun k_ => some k_ ≠ (v114 : Value).ownBlock) v119 t116) ∧ Aside0 (Below w.heap.size w wc))
            case first =>
              have H := HC12.out
              clear HC12
              by_cases c15 : t113 = t118
              · rw [if_pos c15] at H
                have c15b0 : (t113 == t118) = true := beq_iff_eq.mpr c15
                have c15b1 : (t113 != t118) = false := bne_eq_false_iff_eq.mpr c15
                clear c15
                (first | rw [c15b0] | (simp only [i64_w, i32_w]; rw [c15b0]) | skip)
                by_cases c16 : (t111.length : Int) = (t116.length : Int)
                · rw [if_pos c16] at H
                  have c16b0 : ((t111.length : Int) == (t116.length : Int)) = true := beq_iff_eq.mpr c16
                  have c16b1 : ((t111.length : Int) != (t116.length : Int)) = false := bne_eq_false_iff_eq.mpr c16
                  have c16b2 : (t111.length == t116.length) = true := by first | simpa using c16 | (simp at c16 ⊢; omega)
                  clear c16
                  replace H := Option.bind_eq_some_iff.mp H
                  obtain ⟨t121, A170, H⟩ := H
                  replace H : (if t121 = 0 then ((waybilllaw04_num.f t113).bind fun t122 => (if t122 = 0 then (waybilllaw04_LexLines.j1 k1 (Int.tmod (wrap64 ((Int.tmod a1 50) + 50)) 50) t111 t116 (t117 != 0)) else (waybilllaw04_LexLines.j1 k1 (Int.tmod (wrap64 ((Int.tmod a1 50) + 50)) 50) t111 t116 false))) else (if (wrap64 (t117 - t112)) = (Int.tmod (wrap64 ((Int.tmod a1 50) + 50)) 50) then ((waybilllaw04_num.f t113).bind fun t123 => (if t123 = 0 then (waybilllaw04_LexLines.j1 k1 (Int.tmod (wrap64 ((Int.tmod a1 50) + 50)) 50) t111 t116 (t117 != 0)) else (waybilllaw04_LexLines.j1 k1 (Int.tmod (wrap64 ((Int.tmod a1 50) + 50)) 50) t111 t116 false))) else (waybilllaw04_LexLines.j1 k1 (Int.tmod (wrap64 ((Int.tmod a1 50) + 50)) 50) t111 t116 true))) = some r := H
                  have A17 := Aside0.mk A170
                  clear A170
                  by_cases c18 : t121 = 0
                  · rw [if_pos c18] at H
                    have c18b0 : (t121 == 0) = true := beq_iff_eq.mpr c18
                    have c18b1 : (t121 != 0) = false := bne_eq_false_iff_eq.mpr c18
                    clear c18
                    replace H := Option.bind_eq_some_iff.mp H
                    obtain ⟨t122, A190, H⟩ := H
                    replace H : (if t122 = 0 then (waybilllaw04_LexLines.j1 k1 (Int.tmod (wrap64 ((Int.tmod a1 50) + 50)) 50) t111 t116 (t117 != 0)) else (waybilllaw04_LexLines.j1 k1 (Int.tmod (wrap64 ((Int.tmod a1 50) + 50)) 50) t111 t116 false)) = some r := H
                    have A19 := Aside0.mk A190
                    clear A190
                    by_cases c20 : t122 = 0
                    · rw [if_pos c20] at H
                      have c20b0 : (t122 == 0) = true := beq_iff_eq.mpr c20
                      have c20b1 : (t122 != 0) = false := bne_eq_false_iff_eq.mpr c20
                      clear c20
                      have H' := Aside0.mk H
                      clear H
                      obtain ⟨Ao21, co21, eo21⟩ := Kd.R_slice HO115.out
                      subst eo21
                      obtain ⟨Ao22, co22, eo22⟩ := Kd.R_slice HO120.out
                      subst eo22
                      go_wp2_with (first | (go_at_call 17; (with_reducible refine (waybilllaw04_num.calls t113 t121 _ A17.out).mono ?_); rintro e w' ⟨rfl, ⟨nd, rfl⟩⟩; (try first | exact ⟨rfl, _, World.drewN_drewN _ _ _⟩ | exact ⟨rfl, _, Eq.trans (World.drewN_drewN _ _ _) (congrArg (World.drewN _) (Nat.add_assoc _ _ _))⟩)) | (go_at_call 17; (with_reducible refine (waybilllaw04_num.calls t113 t122 _ A19.out).mono ?_); rintro e w' ⟨rfl, ⟨nd, rfl⟩⟩; (try first | exact ⟨rfl, _, World.drewN_drewN _ _ _⟩ | exact ⟨rfl, _, Eq.trans (World.drewN_drewN _ _ _) (congrArg (World.drewN _) (Nat.add_assoc _ _ _))⟩)))
                      repeat (go_quiet (first | (go_at_call 17; (with_reducible refine (waybilllaw04_num.calls t113 t121 _ A17.out).mono ?_); rintro e w' ⟨rfl, ⟨nd, rfl⟩⟩; (try first | exact ⟨rfl, _, World.drewN_drewN _ _ _⟩ | exact ⟨rfl, _, Eq.trans (World.drewN_drewN _ _ _) (congrArg (World.drewN _) (Nat.add_assoc _ _ _))⟩)) | (go_at_call 17; (with_reducible refine (waybilllaw04_num.calls t113 t122 _ A19.out).mono ?_); rintro e w' ⟨rfl, ⟨nd, rfl⟩⟩; (try first | exact ⟨rfl, _, World.drewN_drewN _ _ _⟩ | exact ⟨rfl, _, Eq.trans (World.drewN_drewN _ _ _) (congrArg (World.drewN _) (Nat.add_assoc _ _ _))⟩))); try go_wp2_with (first | (go_at_call 17; (with_reducible refine (waybilllaw04_num.calls t113 t121 _ A17.out).mono ?_); rintro e w' ⟨rfl, ⟨nd, rfl⟩⟩; (try first | exact ⟨rfl, _, World.drewN_drewN _ _ _⟩ | exact ⟨rfl, _, Eq.trans (World.drewN_drewN _ _ _) (congrArg (World.drewN _) (Nat.add_assoc _ _ _))⟩)) | (go_at_call 17; (with_reducible refine (waybilllaw04_num.calls t113 t122 _ A19.out).mono ?_); rintro e w' ⟨rfl, ⟨nd, rfl⟩⟩; (try first | exact ⟨rfl, _, World.drewN_drewN _ _ _⟩ | exact ⟨rfl, _, Eq.trans (World.drewN_drewN _ _ _) (congrArg (World.drewN _) (Nat.add_assoc _ _ _))⟩))))
                      go_meet
                      case rel => exact ⟨_, ((t117 != 0)), (by first | rfl | (simp; done) | (simp [*]; done)), H', ⟨by have := HK1.out; first | omega | exact Nat.le_refl _⟩, ⟨by (with_reducible repeat (first | apply Kd.R_alloc | apply Kd.R_drewN | apply Kd.R_drew)); exact Kd.R_mono HO115.out (fun _ hk => hk.2)⟩, ⟨by (with_reducible repeat (first | apply Kd.R_alloc | apply Kd.R_drewN | apply Kd.R_drew)); exact Kd.R_mono HO120.out (fun _ hk => hk.2)⟩, ⟨by repeat (first | (with_reducible first | exact HB.out | apply below_alloc | apply pw_below_drewN | apply below_drew1) | exact HB.out)⟩⟩
                    · exact absurd ((Option.some.inj (A19.out.symm.trans A17.out)).trans (eq_of_beq c18b0)) c20
                  · rw [if_neg c18] at H
                    have c18b0 : (t121 == 0) = false := beq_eq_false_iff_ne.mpr c18
                    have c18b1 : (t121 != 0) = true := bne_iff_ne.mpr c18
                    by_cases c25 : (wrap64 (t117 - t112)) = (Int.tmod (wrap64 ((Int.tmod a1 50) + 50)) 50)
                    · rw [if_pos c25] at H
                      have c25b0 : ((wrap64 (t117 - t112)) == (Int.tmod (wrap64 ((Int.tmod a1 50) + 50)) 50)) = true := beq_iff_eq.mpr c25
                      have c25b1 : ((wrap64 (t117 - t112)) != (Int.tmod (wrap64 ((Int.tmod a1 50) + 50)) 50)) = false := bne_eq_false_iff_eq.mpr c25
                      clear c25
                      replace H := Option.bind_eq_some_iff.mp H
                      obtain ⟨t123, A260, H⟩ := H
                      replace H : (if t123 = 0 then (waybilllaw04_LexLines.j1 k1 (Int.tmod (wrap64 ((Int.tmod a1 50) + 50)) 50) t111 t116 (t117 != 0)) else (waybilllaw04_LexLines.j1 k1 (Int.tmod (wrap64 ((Int.tmod a1 50) + 50)) 50) t111 t116 false)) = some r := H
                      have A26 := Aside0.mk A260
                      clear A260
                      by_cases c27 : t123 = 0
                      · exact absurd ((Option.some.inj (A17.out.symm.trans A26.out)).trans c27) (by simpa using c18b0)
                      · rw [if_neg c27] at H
                        have c27b0 : (t123 == 0) = false := beq_eq_false_iff_ne.mpr c27
                        have c27b1 : (t123 != 0) = true := bne_iff_ne.mpr c27
                        have H' := Aside0.mk H
                        clear H
                        obtain ⟨Ao30, co30, eo30⟩ := Kd.R_slice HO115.out
                        subst eo30
                        obtain ⟨Ao31, co31, eo31⟩ := Kd.R_slice HO120.out
                        subst eo31
                        go_wp2_with (first | (go_at_call 17; (with_reducible refine (waybilllaw04_num.calls t113 t121 _ A17.out).mono ?_); rintro e w' ⟨rfl, ⟨nd, rfl⟩⟩; (try first | exact ⟨rfl, _, World.drewN_drewN _ _ _⟩ | exact ⟨rfl, _, Eq.trans (World.drewN_drewN _ _ _) (congrArg (World.drewN _) (Nat.add_assoc _ _ _))⟩)) | (go_at_call 17; (with_reducible refine (waybilllaw04_num.calls t113 t123 _ A26.out).mono ?_); rintro e w' ⟨rfl, ⟨nd, rfl⟩⟩; (try first | exact ⟨rfl, _, World.drewN_drewN _ _ _⟩ | exact ⟨rfl, _, Eq.trans (World.drewN_drewN _ _ _) (congrArg (World.drewN _) (Nat.add_assoc _ _ _))⟩)))
                        repeat (go_quiet (first | (go_at_call 17; (with_reducible refine (waybilllaw04_num.calls t113 t121 _ A17.out).mono ?_); rintro e w' ⟨rfl, ⟨nd, rfl⟩⟩; (try first | exact ⟨rfl, _, World.drewN_drewN _ _ _⟩ | exact ⟨rfl, _, Eq.trans (World.drewN_drewN _ _ _) (congrArg (World.drewN _) (Nat.add_assoc _ _ _))⟩)) | (go_at_call 17; (with_reducible refine (waybilllaw04_num.calls t113 t123 _ A26.out).mono ?_); rintro e w' ⟨rfl, ⟨nd, rfl⟩⟩; (try first | exact ⟨rfl, _, World.drewN_drewN _ _ _⟩ | exact ⟨rfl, _, Eq.trans (World.drewN_drewN _ _ _) (congrArg (World.drewN _) (Nat.add_assoc _ _ _))⟩))); try go_wp2_with (first | (go_at_call 17; (with_reducible refine (waybilllaw04_num.calls t113 t121 _ A17.out).mono ?_); rintro e w' ⟨rfl, ⟨nd, rfl⟩⟩; (try first | exact ⟨rfl, _, World.drewN_drewN _ _ _⟩ | exact ⟨rfl, _, Eq.trans (World.drewN_drewN _ _ _) (congrArg (World.drewN _) (Nat.add_assoc _ _ _))⟩)) | (go_at_call 17; (with_reducible refine (waybilllaw04_num.calls t113 t123 _ A26.out).mono ?_); rintro e w' ⟨rfl, ⟨nd, rfl⟩⟩; (try first | exact ⟨rfl, _, World.drewN_drewN _ _ _⟩ | exact ⟨rfl, _, Eq.trans (World.drewN_drewN _ _ _) (congrArg (World.drewN _) (Nat.add_assoc _ _ _))⟩))))
                        go_meet
                        case rel => exact ⟨_, (false), (by first | rfl | (simp; done) | (simp [*]; done)), H', ⟨by have := HK1.out; first | omega | exact Nat.le_refl _⟩, ⟨by (with_reducible repeat (first | apply Kd.R_alloc | apply Kd.R_drewN | apply Kd.R_drew)); exact Kd.R_mono HO115.out (fun _ hk => hk.2)⟩, ⟨by (with_reducible repeat (first | apply Kd.R_alloc | apply Kd.R_drewN | apply Kd.R_drew)); exact Kd.R_mono HO120.out (fun _ hk => hk.2)⟩, ⟨by repeat (first | (with_reducible first | exact HB.out | apply below_alloc | apply pw_below_drewN | apply below_drew1) | exact HB.out)⟩⟩
                    · rw [if_neg c25] at H
                      have c25b0 : ((wrap64 (t117 - t112)) == (Int.tmod (wrap64 ((Int.tmod a1 50) + 50)) 50)) = false := beq_eq_false_iff_ne.mpr c25
                      have c25b1 : ((wrap64 (t117 - t112)) != (Int.tmod (wrap64 ((Int.tmod a1 50) + 50)) 50)) = true := bne_iff_ne.mpr c25
                      have H' := Aside0.mk H
                      clear H
                      obtain ⟨Ao32, co32, eo32⟩ := Kd.R_slice HO115.out
                      subst eo32
                      obtain ⟨Ao33, co33, eo33⟩ := Kd.R_slice HO120.out
                      subst eo33
                      go_wp2_with (first | (go_at_call 17; (with_reducible refine (waybilllaw04_num.calls t113 t121 _ A17.out).mono ?_); rintro e w' ⟨rfl, ⟨nd, rfl⟩⟩; (try first | exact ⟨rfl, _, World.drewN_drewN _ _ _⟩ | exact ⟨rfl, _, Eq.trans (World.drewN_drewN _ _ _) (congrArg (World.drewN _) (Nat.add_assoc _ _ _))⟩)))
                      repeat (go_quiet (first | (go_at_call 17; (with_reducible refine (waybilllaw04_num.calls t113 t121 _ A17.out).mono ?_); rintro e w' ⟨rfl, ⟨nd, rfl⟩⟩; (try first | exact ⟨rfl, _, World.drewN_drewN _ _ _⟩ | exact ⟨rfl, _, Eq.trans (World.drewN_drewN _ _ _) (congrArg (World.drewN _) (Nat.add_assoc _ _ _))⟩))); try go_wp2_with (first | (go_at_call 17; (with_reducible refine (waybilllaw04_num.calls t113 t121 _ A17.out).mono ?_); rintro e w' ⟨rfl, ⟨nd, rfl⟩⟩; (try first | exact ⟨rfl, _, World.drewN_drewN _ _ _⟩ | exact ⟨rfl, _, Eq.trans (World.drewN_drewN _ _ _) (congrArg (World.drewN _) (Nat.add_assoc _ _ _))⟩))))
                      go_meet
                      case rel => exact ⟨_, (true), (by first | rfl | (simp; done) | (simp [*]; done)), H', ⟨by have := HK1.out; first | omega | exact Nat.le_refl _⟩, ⟨by (with_reducible repeat (first | apply Kd.R_alloc | apply Kd.R_drewN | apply Kd.R_drew)); exact Kd.R_mono HO115.out (fun _ hk => hk.2)⟩, ⟨by (with_reducible repeat (first | apply Kd.R_alloc | apply Kd.R_drewN | apply Kd.R_drew)); exact Kd.R_mono HO120.out (fun _ hk => hk.2)⟩, ⟨by repeat (first | (with_reducible first | exact HB.out | apply below_alloc | apply pw_below_drewN | apply below_drew1) | exact HB.out)⟩⟩
                · rw [if_neg c16] at H
                  have c16b0 : ((t111.length : Int) == (t116.length : Int)) = false := beq_eq_false_iff_ne.mpr c16
                  have c16b1 : ((t111.length : Int) != (t116.length : Int)) = true := bne_iff_ne.mpr c16
                  have c16b2 : (t111.length == t116.length) = false := by first | simpa using c16 | (simp at c16 ⊢; omega)
                  have H' := Aside0.mk H
                  clear H
                  obtain ⟨Ao34, co34, eo34⟩ := Kd.R_slice HO115.out
                  subst eo34
                  obtain ⟨Ao35, co35, eo35⟩ := Kd.R_slice HO120.out
                  subst eo35
                  go_wp2
                  repeat (go_quiet (fail); try go_wp2)
                  go_meet
                  case rel => exact ⟨_, (true), (by first | rfl | (simp; done) | (simp [*]; done)), H', ⟨by have := HK1.out; first | omega | exact Nat.le_refl _⟩, ⟨by (with_reducible repeat (first | apply Kd.R_alloc | apply Kd.R_drewN | apply Kd.R_drew)); exact Kd.R_mono HO115.out (fun _ hk => hk.2)⟩, ⟨by (with_reducible repeat (first | apply Kd.R_alloc | apply Kd.R_drewN | apply Kd.R_drew)); exact Kd.R_mono HO120.out (fun _ hk => hk.2)⟩, ⟨by repeat (first | (with_reducible first | exact HB.out | apply below_alloc | apply pw_below_drewN | apply below_drew1) | exact HB.out)⟩⟩
              · rw [if_neg c15] at H
                have c15b0 : (t113 == t118) = false := beq_eq_false_iff_ne.mpr c15
                have c15b1 : (t113 != t118) = true := bne_iff_ne.mpr c15
                (first | rw [c15b0] | (simp only [i64_w, i32_w]; rw [c15b0]) | skip)
                have H' := Aside0.mk H
                clear H
                go_wp2
                repeat (go_quiet (fail); try go_wp2)
                go_meet
                case rel => exact ⟨_, (true), (by first | rfl | (simp; done) | (simp [*]; done)), H', ⟨by have := HK1.out; first | omega | exact Nat.le_refl _⟩, ⟨by (with_reducible repeat (first | apply Kd.R_alloc | apply Kd.R_drewN | apply Kd.R_drew)); exact Kd.R_mono HO115.out (fun _ hk => hk.2)⟩, ⟨by (with_reducible repeat (first | apply Kd.R_alloc | apply Kd.R_drewN | apply Kd.R_drew)); exact Kd.R_mono HO120.out (fun _ hk => hk.2)⟩, ⟨by repeat (first | (with_reducible first | exact HB.out | apply below_alloc | apply pw_below_drewN | apply below_drew1) | exact HB.out)⟩⟩
            case rest =>
              clear HC12
              try clear c1
              try clear c2
              try clear p2
              try clear c4
              try clear c5
              try clear c5b0
              try clear c5b1
              try clear p6
              try clear c8
              try clear c8b0
              try clear c9
              try clear c9b0
              try clear c9b1
              try clear c9b2
              try clear c15
              try clear c15b0
              try clear c15b1
              try clear c16
              try clear c16b0
              try clear c16b1
              try clear c16b2
              try clear c18
              try clear c18b0
              try clear c18b1
              try clear c20
              try clear c20b0
              try clear c20b1
              try clear c25
              try clear c25b0
              try clear c25b1
              try clear c27
              try clear c27b0
              try clear c27b1
              try clear p2
              try clear p6
              obtain ⟨kq, x73_11, rfl, HA, HJ11, HO_7, HO_10, HB⟩ := hcut
              cases kq with
              | zero => exact absurd HA.out (by simp [waybilllaw04_LexLines.j1])
              | succ kj11 =>
                have H := HA.out
                clear HA
                simp only [waybilllaw04_LexLines.j1] at H
                by_cases c36 : x73_11 = true
                · subst c36
                  have H1 : (some false) = some r := by rw [if_pos rfl] at H; exact H
                  clear H
                  have H := H1
                  clear H1
                  obtain rfl := Option.some.inj H
                  go_wp2
                  repeat (go_quiet (fail); try go_wp2)
                  go_ret
                  exact ⟨by first | rfl | (simp [errW_none, errW_some] <;> rfl) | (simp [*, errW_none, errW_some] <;> rfl), by repeat (first | (with_reducible first | exact HB.out | apply below_alloc | apply pw_below_drewN | apply below_drew1) | exact HB.out)⟩
                · replace c36 := Bool.eq_false_iff.mpr c36
                  subst c36
                  have H1 : (waybilllaw04_LexLines.l1 kj11 (Int.tmod (wrap64 ((Int.tmod a1 50) + 50)) 50) t111 t116 0) = some r := by rw [if_neg (show ¬ (false = true) by decide)] at H; exact H
                  clear H
                  have H := H1
                  clear H1
                  have H' := Aside0.mk H
                  clear H
                  go_wp2
                  repeat (go_quiet (fail); try go_wp2)
                  go_loopg [13] kj11 (fun kq v13 w' => ∃ (x13_3 : Int), v13 = .int .i64 x13_3 ∧ Aside0 (waybilllaw04_LexLines.l1 kq (Int.tmod (wrap64 ((Int.tmod a1 50) + 50)) 50) t111 t116 x13_3 = some r) ∧ Aside0 (kq ≤ kj11) ∧ Aside0 (Kd.R k31 31 w' w.heap.size (fun k_ => some k_ ≠ (v119 : Value).ownBlock) v114 t111) ∧ Aside0 (Kd.R k31 31 w' w.heap.size (fun k_ => some k_ ≠ (v114 : Value).ownBlock) v119 t116) ∧ Aside0 (Below w.heap.size w w'))
                  case atStart => exact ⟨(0), (by first | rfl | (simp; done) | (simp [*]; done)), H', ⟨Nat.le_refl _⟩, ⟨by (with_reducible repeat (first | apply Kd.R_alloc | apply Kd.R_drewN | apply Kd.R_drew)); exact HO_7.out⟩, ⟨by (with_reducible repeat (first | apply Kd.R_alloc | apply Kd.R_drewN | apply Kd.R_drew)); exact HO_10.out⟩, ⟨by repeat (first | (with_reducible first | exact HB.out | apply below_alloc | apply pw_below_drewN | apply below_drew1) | exact HB.out)⟩⟩
                  case round =>
                    clear H'
                    try clear c1
                    try clear c2
                    try clear p2
                    try clear c3
                    try clear c4
                    try clear c5
                    try clear c5b0
                    try clear c5b1
                    try clear p6
                    try clear c8
                    try clear c8b0
                    try clear c9
                    try clear c9b0
                    try clear c9b1
                    try clear c9b2
                    try clear c15
                    try clear c15b0
                    try clear c15b1
                    try clear c16
                    try clear c16b0
                    try clear c16b1
                    try clear c16b2
                    try clear c18
                    try clear c18b0
                    try clear c18b1
                    try clear c20
                    try clear c20b0
                    try clear c20b1
                    try clear c25
                    try clear c25b0
                    try clear c25b1
                    try clear c27
                    try clear c27b0
                    try clear c27b1
                    try clear c36
                    try clear p2
                    try clear p6
                    obtain ⟨x13_3, rfl, HA, HK3, HO_7, HO_10, HB⟩ := hrel
                    cases gk with
                    | zero => exact absurd HA.out (by simp [waybilllaw04_LexLines.l1])
                    | succ k3 =>
                      have H := HA.out
                      clear HA
                      simp only [waybilllaw04_LexLines.l1] at H
                      by_cases c37 : x13_3 < (t111.length : Int)
                      · rw [if_pos c37] at H
                        have c37b0 : decide (x13_3 < (t111.length : Int)) = true := decide_eq_true c37
                        clear c37
                        by_cases c38 : 0 ≤ x13_3
                        · rw [if_pos c38] at H
                          have c38b0 : decide (0 ≤ x13_3) = true := decide_eq_true c38
                          clear c38
                          by_cases c39 : x13_3 < (t116.length : Int)
                          · rw [if_pos c39] at H
                            have c39b0 : decide (x13_3 < (t116.length : Int)) = true := decide_eq_true c39
                            clear c39
                            by_cases c40 : ((rd_T31 t111 x13_3).f0) = ((rd_T31 t116 x13_3).f0)
                            · rw [if_pos c40] at H
                              have c40b0 : (((rd_T31 t111 x13_3).f0) == ((rd_T31 t116 x13_3).f0)) = true := beq_iff_eq.mpr c40
                              have c40b1 : (((rd_T31 t111 x13_3).f0) != ((rd_T31 t116 x13_3).f0)) = false := bne_eq_false_iff_eq.mpr c40
                              clear c40
                              by_cases c41 : ((rd_T31 t111 x13_3).f1).toList = ((rd_T31 t116 x13_3).f1).toList
                              · rw [if_pos c41] at H
                                have c41b0 : (((rd_T31 t111 x13_3).f1).toList == ((rd_T31 t116 x13_3).f1).toList) = true := beq_iff_eq.mpr c41
                                have c41b1 : (((rd_T31 t111 x13_3).f1).toList != ((rd_T31 t116 x13_3).f1).toList) = false := bne_eq_false_iff_eq.mpr c41
                                clear c41
                                by_cases c42 : (wrap64 (((rd_T31 t116 x13_3).f2) - ((rd_T31 t111 x13_3).f2))) = (Int.tmod (wrap64 ((Int.tmod a1 50) + 50)) 50)
                                · rw [if_pos c42] at H
                                  have c42b0 : ((wrap64 (((rd_T31 t116 x13_3).f2) - ((rd_T31 t111 x13_3).f2))) == (Int.tmod (wrap64 ((Int.tmod a1 50) + 50)) 50)) = true := beq_iff_eq.mpr c42
                                  have c42b1 : ((wrap64 (((rd_T31 t116 x13_3).f2) - ((rd_T31 t111 x13_3).f2))) != (Int.tmod (wrap64 ((Int.tmod a1 50) + 50)) 50)) = false := bne_eq_false_iff_eq.mpr c42
                                  clear c42
                                  have H' := Aside0.mk H
                                  clear H
                                  obtain ⟨Ao43, co43, eo43⟩ := Kd.R_slice HO_7.out
                                  subst eo43
                                  have p124 : 0 ≤ (x13_3 : Int) := of_decide_eq_true (by first | (with_reducible assumption) | assumption)
                                  have q124 : x13_3 < (t111.length : Int) := of_decide_eq_true (by first | (with_reducible assumption) | assumption)
                                  obtain ⟨ad124, e124, hx124_0, hx124_1, hx124_2⟩ := at_T31 (Kd.R_reads' HO_7.out).2.2 x13_3 p124 q124
                                  cases e124
                                  replace p124 := eq_true p124
                                  replace q124 := eq_true q124
                                  obtain ⟨Ao44, co44, eo44⟩ := Kd.R_slice HO_10.out
                                  subst eo44
                                  have p125 : 0 ≤ (x13_3 : Int) := of_decide_eq_true (by first | (with_reducible assumption) | assumption)
                                  have q125 : x13_3 < (t116.length : Int) := of_decide_eq_true (by first | (with_reducible assumption) | assumption)
                                  obtain ⟨ad125, e125, hx125_0, hx125_1, hx125_2⟩ := at_T31 (Kd.R_reads' HO_10.out).2.2 x13_3 p125 q125
                                  cases e125
                                  replace p125 := eq_true p125
                                  replace q125 := eq_true q125
                                  have p126 : 0 ≤ (x13_3 : Int) := of_decide_eq_true (by first | (with_reducible assumption) | assumption)
                                  have q126 : x13_3 < (t111.length : Int) := of_decide_eq_true (by first | (with_reducible assumption) | assumption)
                                  obtain ⟨ad126, e126, hx126_0, hx126_1, hx126_2⟩ := at_T31 (Kd.R_reads' HO_7.out).2.2 x13_3 p126 q126
                                  obtain rfl : ad124 = ad126 := (by injection e126)
                                  replace p126 := eq_true p126
                                  replace q126 := eq_true q126
                                  have p127 : 0 ≤ (x13_3 : Int) := of_decide_eq_true (by first | (with_reducible assumption) | assumption)
                                  have q127 : x13_3 < (t116.length : Int) := of_decide_eq_true (by first | (with_reducible assumption) | assumption)
                                  obtain ⟨ad127, e127, hx127_0, hx127_1, hx127_2⟩ := at_T31 (Kd.R_reads' HO_10.out).2.2 x13_3 p127 q127
                                  obtain rfl : ad125 = ad127 := (by injection e127)
                                  replace p127 := eq_true p127
                                  replace q127 := eq_true q127
                                  have p128 : 0 ≤ (x13_3 : Int) := of_decide_eq_true (by first | (with_reducible assumption) | assumption)
                                  have q128 : x13_3 < (t116.length : Int) := of_decide_eq_true (by first | (with_reducible assumption) | assumption)
                                  obtain ⟨ad128, e128, hx128_0, hx128_1, hx128_2⟩ := at_T31 (Kd.R_reads' HO_10.out).2.2 x13_3 p128 q128
                                  obtain rfl : ad125 = ad128 := (by injection e128)
                                  replace p128 := eq_true p128
                                  replace q128 := eq_true q128
                                  have p129 : 0 ≤ (x13_3 : Int) := of_decide_eq_true (by first | (with_reducible assumption) | assumption)
                                  have q129 : x13_3 < (t111.length : Int) := of_decide_eq_true (by first | (with_reducible assumption) | assumption)
                                  obtain ⟨ad129, e129, hx129_0, hx129_1, hx129_2⟩ := at_T31 (Kd.R_reads' HO_7.out).2.2 x13_3 p129 q129
                                  obtain rfl : ad124 = ad129 := (by injection e129)
                                  replace p129 := eq_true p129
                                  replace q129 := eq_true q129
                                  go_wp2
                                  repeat (go_quiet (fail); try go_wp2)
                                  go_roundg k3
                                  case measure => have := HK1.out; have := HJ11.out; have := HK3.out; omega
                                  case rel => exact ⟨(wrap64 (x13_3 + 1)), (by first | rfl | (simp; done) | (simp [*]; done)), H', ⟨by have := HK1.out; have := HJ11.out; have := HK3.out; omega⟩, ⟨by (with_reducible repeat (first | apply Kd.R_alloc | apply Kd.R_drewN | apply Kd.R_drew)); exact HO_7.out⟩, ⟨by (with_reducible repeat (first | apply Kd.R_alloc | apply Kd.R_drewN | apply Kd.R_drew)); exact HO_10.out⟩, ⟨by repeat (first | (with_reducible first | exact HB.out | apply below_alloc | apply pw_below_drewN | apply below_drew1) | exact HB.out)⟩⟩
                                · rw [if_neg c42] at H
                                  have c42b0 : ((wrap64 (((rd_T31 t116 x13_3).f2) - ((rd_T31 t111 x13_3).f2))) == (Int.tmod (wrap64 ((Int.tmod a1 50) + 50)) 50)) = false := beq_eq_false_iff_ne.mpr c42
                                  have c42b1 : ((wrap64 (((rd_T31 t116 x13_3).f2) - ((rd_T31 t111 x13_3).f2))) != (Int.tmod (wrap64 ((Int.tmod a1 50) + 50)) 50)) = true := bne_iff_ne.mpr c42
                                  obtain rfl := Option.some.inj H
                                  obtain ⟨Ao45, co45, eo45⟩ := Kd.R_slice HO_7.out
                                  subst eo45
                                  have p124 : 0 ≤ (x13_3 : Int) := of_decide_eq_true (by first | (with_reducible assumption) | assumption)
                                  have q124 : x13_3 < (t111.length : Int) := of_decide_eq_true (by first | (with_reducible assumption) | assumption)
                                  obtain ⟨ad124, e124, hx124_0, hx124_1, hx124_2⟩ := at_T31 (Kd.R_reads' HO_7.out).2.2 x13_3 p124 q124
                                  cases e124
                                  replace p124 := eq_true p124
                                  replace q124 := eq_true q124
                                  obtain ⟨Ao46, co46, eo46⟩ := Kd.R_slice HO_10.out
                                  subst eo46
                                  have p125 : 0 ≤ (x13_3 : Int) := of_decide_eq_true (by first | (with_reducible assumption) | assumption)
                                  have q125 : x13_3 < (t116.length : Int) := of_decide_eq_true (by first | (with_reducible assumption) | assumption)
                                  obtain ⟨ad125, e125, hx125_0, hx125_1, hx125_2⟩ := at_T31 (Kd.R_reads' HO_10.out).2.2 x13_3 p125 q125
                                  cases e125
                                  replace p125 := eq_true p125
                                  replace q125 := eq_true q125
                                  have p126 : 0 ≤ (x13_3 : Int) := of_decide_eq_true (by first | (with_reducible assumption) | assumption)
                                  have q126 : x13_3 < (t111.length : Int) := of_decide_eq_true (by first | (with_reducible assumption) | assumption)
                                  obtain ⟨ad126, e126, hx126_0, hx126_1, hx126_2⟩ := at_T31 (Kd.R_reads' HO_7.out).2.2 x13_3 p126 q126
                                  obtain rfl : ad124 = ad126 := (by injection e126)
                                  replace p126 := eq_true p126
                                  replace q126 := eq_true q126
                                  have p127 : 0 ≤ (x13_3 : Int) := of_decide_eq_true (by first | (with_reducible assumption) | assumption)
                                  have q127 : x13_3 < (t116.length : Int) := of_decide_eq_true (by first | (with_reducible assumption) | assumption)
                                  obtain ⟨ad127, e127, hx127_0, hx127_1, hx127_2⟩ := at_T31 (Kd.R_reads' HO_10.out).2.2 x13_3 p127 q127
                                  obtain rfl : ad125 = ad127 := (by injection e127)
                                  replace p127 := eq_true p127
                                  replace q127 := eq_true q127
                                  have p128 : 0 ≤ (x13_3 : Int) := of_decide_eq_true (by first | (with_reducible assumption) | assumption)
                                  have q128 : x13_3 < (t116.length : Int) := of_decide_eq_true (by first | (with_reducible assumption) | assumption)
                                  obtain ⟨ad128, e128, hx128_0, hx128_1, hx128_2⟩ := at_T31 (Kd.R_reads' HO_10.out).2.2 x13_3 p128 q128
                                  obtain rfl : ad125 = ad128 := (by injection e128)
                                  replace p128 := eq_true p128
                                  replace q128 := eq_true q128
                                  have p129 : 0 ≤ (x13_3 : Int) := of_decide_eq_true (by first | (with_reducible assumption) | assumption)
                                  have q129 : x13_3 < (t111.length : Int) := of_decide_eq_true (by first | (with_reducible assumption) | assumption)
                                  obtain ⟨ad129, e129, hx129_0, hx129_1, hx129_2⟩ := at_T31 (Kd.R_reads' HO_7.out).2.2 x13_3 p129 q129
                                  obtain rfl : ad124 = ad129 := (by injection e129)
                                  replace p129 := eq_true p129
                                  replace q129 := eq_true q129
                                  go_wp2
                                  repeat (go_quiet (fail); try go_wp2)
                                  go_ret
                                  exact ⟨by first | rfl | (simp [errW_none, errW_some] <;> rfl) | (simp [*, errW_none, errW_some] <;> rfl), by repeat (first | (with_reducible first | exact HB.out | apply below_alloc | apply pw_below_drewN | apply below_drew1) | exact HB.out)⟩
                              · rw [if_neg c41] at H
                                have c41b0 : (((rd_T31 t111 x13_3).f1).toList == ((rd_T31 t116 x13_3).f1).toList) = false := beq_eq_false_iff_ne.mpr c41
                                have c41b1 : (((rd_T31 t111 x13_3).f1).toList != ((rd_T31 t116 x13_3).f1).toList) = true := bne_iff_ne.mpr c41
                                obtain rfl := Option.some.inj H
                                obtain ⟨Ao47, co47, eo47⟩ := Kd.R_slice HO_7.out
                                subst eo47
                                have p124 : 0 ≤ (x13_3 : Int) := of_decide_eq_true (by first | (with_reducible assumption) | assumption)
                                have q124 : x13_3 < (t111.length : Int) := of_decide_eq_true (by first | (with_reducible assumption) | assumption)
                                obtain ⟨ad124, e124, hx124_0, hx124_1, hx124_2⟩ := at_T31 (Kd.R_reads' HO_7.out).2.2 x13_3 p124 q124
                                cases e124
                                replace p124 := eq_true p124
                                replace q124 := eq_true q124
                                obtain ⟨Ao48, co48, eo48⟩ := Kd.R_slice HO_10.out
                                subst eo48
                                have p125 : 0 ≤ (x13_3 : Int) := of_decide_eq_true (by first | (with_reducible assumption) | assumption)
                                have q125 : x13_3 < (t116.length : Int) := of_decide_eq_true (by first | (with_reducible assumption) | assumption)
                                obtain ⟨ad125, e125, hx125_0, hx125_1, hx125_2⟩ := at_T31 (Kd.R_reads' HO_10.out).2.2 x13_3 p125 q125
                                cases e125
                                replace p125 := eq_true p125
                                replace q125 := eq_true q125
                                have p126 : 0 ≤ (x13_3 : Int) := of_decide_eq_true (by first | (with_reducible assumption) | assumption)
                                have q126 : x13_3 < (t111.length : Int) := of_decide_eq_true (by first | (with_reducible assumption) | assumption)
                                obtain ⟨ad126, e126, hx126_0, hx126_1, hx126_2⟩ := at_T31 (Kd.R_reads' HO_7.out).2.2 x13_3 p126 q126
                                obtain rfl : ad124 = ad126 := (by injection e126)
                                replace p126 := eq_true p126
                                replace q126 := eq_true q126
                                have p127 : 0 ≤ (x13_3 : Int) := of_decide_eq_true (by first | (with_reducible assumption) | assumption)
                                have q127 : x13_3 < (t116.length : Int) := of_decide_eq_true (by first | (with_reducible assumption) | assumption)
                                obtain ⟨ad127, e127, hx127_0, hx127_1, hx127_2⟩ := at_T31 (Kd.R_reads' HO_10.out).2.2 x13_3 p127 q127
                                obtain rfl : ad125 = ad127 := (by injection e127)
                                replace p127 := eq_true p127
                                replace q127 := eq_true q127
                                go_wp2
                                repeat (go_quiet (fail); try go_wp2)
                                go_ret
                                exact ⟨by first | rfl | (simp [errW_none, errW_some] <;> rfl) | (simp [*, errW_none, errW_some] <;> rfl), by repeat (first | (with_reducible first | exact HB.out | apply below_alloc | apply pw_below_drewN | apply below_drew1) | exact HB.out)⟩
                            · rw [if_neg c40] at H
                              have c40b0 : (((rd_T31 t111 x13_3).f0) == ((rd_T31 t116 x13_3).f0)) = false := beq_eq_false_iff_ne.mpr c40
                              have c40b1 : (((rd_T31 t111 x13_3).f0) != ((rd_T31 t116 x13_3).f0)) = true := bne_iff_ne.mpr c40
                              obtain rfl := Option.some.inj H
                              obtain ⟨Ao49, co49, eo49⟩ := Kd.R_slice HO_7.out
                              subst eo49
                              have p124 : 0 ≤ (x13_3 : Int) := of_decide_eq_true (by first | (with_reducible assumption) | assumption)
                              have q124 : x13_3 < (t111.length : Int) := of_decide_eq_true (by first | (with_reducible assumption) | assumption)
                              obtain ⟨ad124, e124, hx124_0, hx124_1, hx124_2⟩ := at_T31 (Kd.R_reads' HO_7.out).2.2 x13_3 p124 q124
                              cases e124
                              replace p124 := eq_true p124
                              replace q124 := eq_true q124
                              obtain ⟨Ao50, co50, eo50⟩ := Kd.R_slice HO_10.out
                              subst eo50
                              have p125 : 0 ≤ (x13_3 : Int) := of_decide_eq_true (by first | (with_reducible assumption) | assumption)
                              have q125 : x13_3 < (t116.length : Int) := of_decide_eq_true (by first | (with_reducible assumption) | assumption)
                              obtain ⟨ad125, e125, hx125_0, hx125_1, hx125_2⟩ := at_T31 (Kd.R_reads' HO_10.out).2.2 x13_3 p125 q125
                              cases e125
                              replace p125 := eq_true p125
                              replace q125 := eq_true q125
                              go_wp2
                              repeat (go_quiet (fail); try go_wp2)
                              go_ret
                              exact ⟨by first | rfl | (simp [errW_none, errW_some] <;> rfl) | (simp [*, errW_none, errW_some] <;> rfl), by repeat (first | (with_reducible first | exact HB.out | apply below_alloc | apply pw_below_drewN | apply below_drew1) | exact HB.out)⟩
                          · rw [if_neg c39] at H
                            exact absurd H (by simp)
                        · rw [if_neg c38] at H
                          exact absurd H (by simp)
                      · rw [if_neg c37] at H
                        have c37b0 : decide (x13_3 < (t111.length : Int)) = false := decide_eq_false c37
                        clear c37
                        obtain rfl := Option.some.inj H
                        obtain ⟨Ao51, co51, eo51⟩ := Kd.R_slice HO_7.out
                        subst eo51
                        go_wp2
                        repeat (go_quiet (fail); try go_wp2)
                        go_ret
                        exact ⟨by first | rfl | (simp [errW_none, errW_some] <;> rfl) | (simp [*, errW_none, errW_some] <;> rfl), by repeat (first | (with_reducible first | exact HB.out | apply below_alloc | apply pw_below_drewN | apply below_drew1) | exact HB.out)⟩
  · replace c4 := Bool.eq_false_iff.mpr c4
    subst c4
    have H1 : (some false) = some r := by rw [if_neg (show ¬ (false = true) by decide)] at H; exact H
    clear H
    have H := H1
    clear H1
    obtain rfl := Option.some.inj H
    go_enter Try.func4, Try.ntmps4
    go_wp2_with (first | (go_at_call 14; (with_reducible refine (waybilllaw04_alive.calls  false _ A3.out).mono ?_); rintro e w52 ⟨rfl, hb⟩; have n0_ := Aside0.mk (below_step (by repeat (first | (with_reducible first | exact HB.out | apply below_alloc | apply pw_below_drewN | apply below_drew1) | exact HB.out)) hb); clear HB; have HB := n0_; clear n0_; (try clear hb); (try clear hb2); (try clear hk); (try clear hi)))
    repeat (go_quiet (first | (go_at_call 14; (with_reducible refine (waybilllaw04_alive.calls  false _ A3.out).mono ?_); rintro e w52 ⟨rfl, hb⟩; have n0_ := Aside0.mk (below_step (by repeat (first | (with_reducible first | exact HB.out | apply below_alloc | apply pw_below_drewN | apply below_drew1) | exact HB.out)) hb); clear HB; have HB := n0_; clear n0_; (try clear hb); (try clear hb2); (try clear hk); (try clear hi))); try go_wp2_with (first | (go_at_call 14; (with_reducible refine (waybilllaw04_alive.calls  false _ A3.out).mono ?_); rintro e w52 ⟨rfl, hb⟩; have n0_ := Aside0.mk (below_step (by repeat (first | (with_reducible first | exact HB.out | apply below_alloc | apply pw_below_drewN | apply below_drew1) | exact HB.out)) hb); clear HB; have HB := n0_; clear n0_; (try clear hb); (try clear hb2); (try clear hk); (try clear hi))))
    go_ret
    exact ⟨by first | rfl | (simp [errW_none, errW_some] <;> rfl) | (simp [*, errW_none, errW_some] <;> rfl), by repeat (first | (with_reducible first | exact HB.out | apply below_alloc | apply pw_below_drewN | apply below_drew1) | exact HB.out)⟩

/-- THE ONE PURE STATEMENT of waybilllaw04_LexLines: yours. -/
def waybilllaw04_LexLines.Pure : Prop := ∀ (a0 : ByteArray) (a1 : Int), a0.size ≤ 140737488351232 → (Lit.int .i64 a1).wf = true → ∃ k, waybilllaw04_LexLines.f k a0 a1 = some true
theorem waybilllaw04_LexLines.walk (P : waybilllaw04_LexLines.Pure) (a0 : ByteArray) (a1 : Int) (w : World) (w0 : a0.size ≤ 140737488351232) (w1 : (Lit.int .i64 a1).wf = true) :
    Calls Try.prog 4 #[.string a0, .int .i64 a1] w fun e w' => e = .returned (.bool true) ∧ Below w.heap.size w w' := by
  obtain ⟨k, h⟩ := P a0 a1 w0 w1
  refine (waybilllaw04_LexLines.calls k a0 a1 true w h).mono ?_
  rintro e w' ⟨rfl, hd⟩
  exact ⟨rfl, hd⟩

end Go.Proofs.Ytoloneoeojoiaaa.ELexLines
