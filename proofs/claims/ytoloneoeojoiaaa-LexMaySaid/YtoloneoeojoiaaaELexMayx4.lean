-- Written by a program of this seat, over a copy of the print; parts by hand.
import Derived.Test.YtoloneoeojoiaaaELexMayx0
import Derived.Test.YtoloneoeojoiaaaELexMayx1
import Derived.Test.YtoloneoeojoiaaaELexMayx2
import Derived.Test.YtoloneoeojoiaaaELexMayx3
namespace Go.Proofs.Ytoloneoeojoiaaa.ELexMay
open Go.RowKit Go.Proofs.YtoloneoeojoiaaaW.PrintWords Go.Proofs.YtoloneoeojoiaaaW.PrintLast Go.Proofs.YtoloneoeojoiaaaW.PrintMore
attribute [local go_sem] max2_int min2_int max_two min_two max_three min_three max_four min_four   -- for this text's walks alone
set_option linter.unusedVariables false
set_option linter.unusedSimpArgs false

attribute [local go_sem high] eqA31
/-! ### waybilllaw04_alive: function 14 -/
def waybilllaw04_alive.f  : Option (Bool) := (lex_Tokens.f (⟨#[97, 32, 61, 32, 49, 50, 59, 32, 35, 32, 120]⟩ : ByteArray)).bind fun bt103 => ((waybilllaw04_num.f bt103.2.2).bind fun t108 => (if t108 = 0 then (if bt103.2.1 = 0 then (if (bt103.1.length : Int) = 4 then (if 2 < (bt103.1.length : Int) then (some (((rd_T31 bt103.1 2).f0) == 2 && ((((rd_T31 bt103.1 2).f1).toList) == ([49, 50] : List UInt8) && (((rd_T31 bt103.1 2).f2) == 1)))) else (none)) else (some false)) else (some false)) else (some false)))
set_option maxHeartbeats 8000000 in
set_option maxRecDepth 100000 in
theorem waybilllaw04_alive.calls  (r : Bool) (w : World) (h : waybilllaw04_alive.f  = some r) :
    Calls Try.prog 14 #[] w fun e w' => e = .returned (.bool r) ∧ Below w.heap.size w w' := by
  have hu31 := Try.underlying31
  have HB := Aside0.mk (Below.refl w.heap.size w)
  have H : ((lex_Tokens.f (⟨#[97, 32, 61, 32, 49, 50, 59, 32, 35, 32, 120]⟩ : ByteArray)).bind fun bt103 => ((waybilllaw04_num.f bt103.2.2).bind fun t108 => (if t108 = 0 then (if bt103.2.1 = 0 then (if (bt103.1.length : Int) = 4 then (if 2 < (bt103.1.length : Int) then (some (((rd_T31 bt103.1 2).f0) == 2 && ((((rd_T31 bt103.1 2).f1).toList) == ([49, 50] : List UInt8) && (((rd_T31 bt103.1 2).f2) == 1)))) else (none)) else (some false)) else (some false)) else (some false)))) = some r := h
  clear h
  replace H := Option.bind_eq_some_iff.mp H
  obtain ⟨⟨t103, t104, t105⟩, A10, H⟩ := H
  replace H : ((waybilllaw04_num.f t105).bind fun t108 => (if t108 = 0 then (if t104 = 0 then (if (t103.length : Int) = 4 then (if 2 < (t103.length : Int) then (some (((rd_T31 t103 2).f0) == 2 && ((((rd_T31 t103 2).f1).toList) == ([49, 50] : List UInt8) && (((rd_T31 t103 2).f2) == 1)))) else (none)) else (some false)) else (some false)) else (some false))) = some r := H
  have A1 := Aside0.mk A10
  clear A10
  replace H := Option.bind_eq_some_iff.mp H
  obtain ⟨t108, A20, H⟩ := H
  replace H : (if t108 = 0 then (if t104 = 0 then (if (t103.length : Int) = 4 then (if 2 < (t103.length : Int) then (some (((rd_T31 t103 2).f0) == 2 && ((((rd_T31 t103 2).f1).toList) == ([49, 50] : List UInt8) && (((rd_T31 t103 2).f2) == 1)))) else (none)) else (some false)) else (some false)) else (some false)) = some r := H
  have A2 := Aside0.mk A20
  clear A20
  by_cases c3 : t108 = 0
  · rw [if_pos c3] at H
    have c3b0 : (t108 == 0) = true := beq_iff_eq.mpr c3
    have c3b1 : (t108 != 0) = false := bne_eq_false_iff_eq.mpr c3
    clear c3
    by_cases c4 : t104 = 0
    · rw [if_pos c4] at H
      have c4b0 : (t104 == 0) = true := beq_iff_eq.mpr c4
      have c4b1 : (t104 != 0) = false := bne_eq_false_iff_eq.mpr c4
      clear c4
      by_cases c5 : (t103.length : Int) = 4
      · rw [if_pos c5] at H
        have c5b0 : ((t103.length : Int) == 4) = true := beq_iff_eq.mpr c5
        have c5b1 : ((t103.length : Int) != 4) = false := bne_eq_false_iff_eq.mpr c5
        clear c5
        by_cases c6 : 2 < (t103.length : Int)
        · rw [if_pos c6] at H
          have c6b0 : decide (2 < (t103.length : Int)) = true := decide_eq_true c6
          have c6b1 : decide (2 < t103.length) = true := decide_eq_true (by omega)
          clear c6
          obtain rfl := Option.some.inj H
          go_enter Try.func14, Try.ntmps14
          go_wp2_with (first | ((with_reducible refine gate_callee (f := 15) rfl ?_); refine goesL_ (some 5) rfl rfl Try.func15 (by kernel_rfl) rfl #[.string (⟨#[97, 32, 61, 32, 49, 50, 59, 32, 35, 32, 120]⟩ : ByteArray)] rfl (by (try simp only [List.map_toArray, List.map_cons, List.map_nil]); first | done | rfl | (simp only [List.length_drop, List.length_take]; rfl)) ?_; (with_reducible refine (lex_Tokens.calls (⟨#[97, 32, 61, 32, 49, 50, 59, 32, 35, 32, 120]⟩ : ByteArray) t103 t104 t105 _ A1.out).mono ?_); rintro e w7 ⟨v106, rfl, ho0, hb⟩; refine ⟨_, rfl, ?_⟩; have n0_ := Aside0.mk (Kd.R_lower ho0 (below_size (by repeat (first | (with_reducible first | exact HB.out | apply below_alloc | apply pw_below_drewN | apply below_drew1) | exact HB.out)))); have n1_ := Aside0.mk (below_step (by repeat (first | (with_reducible first | exact HB.out | apply below_alloc | apply pw_below_drewN | apply below_drew1) | exact HB.out)) hb); clear HB; have HO107 := n0_; have HB := n1_; clear n0_ n1_; (try clear hb); (try clear hb2); (try clear hk); (try clear hi); (try clear ho0)) | ((with_reducible refine gate_callee (f := 17) rfl ?_); refine goesL_ (some 10) rfl rfl Try.func17 (by kernel_rfl) rfl #[.int .i64 t105] rfl (by (try simp only [List.map_toArray, List.map_cons, List.map_nil]); first | done | rfl | (simp only [List.length_drop, List.length_take]; rfl)) ?_; (with_reducible refine (waybilllaw04_num.calls t105 t108 _ A2.out).mono ?_); rintro e w' ⟨rfl, ⟨nd, rfl⟩⟩; refine ⟨_, rfl, ?_⟩; obtain ⟨Ao8, co8, eo8⟩ := Kd.R_slice HO107.out; subst eo8; have p109 : 0 ≤ (2 : Int) := (by omega); have q109 : 2 < (t103.length : Int) := of_decide_eq_true (by first | (with_reducible assumption) | assumption); obtain ⟨ad109, e109, hx109_0, hx109_1, hx109_2⟩ := at_T31 (Kd.R_reads' HO107.out).2.2 2 p109 q109; cases e109; (try simp only [show (2 : Int).toNat = 2 from rfl, Nat.reduceMul, Nat.reduceEqDiff, Go.Addr.add, ↓reduceIte] at hx109_0); (try simp only [show (2 : Int).toNat = 2 from rfl, Nat.reduceMul, Nat.reduceEqDiff, Go.Addr.add, ↓reduceIte] at hx109_1); (try simp only [show (2 : Int).toNat = 2 from rfl, Nat.reduceMul, Nat.reduceEqDiff, Go.Addr.add, ↓reduceIte] at hx109_2); have qi109 : (2 < t103.length) = True := eq_true (by omega); (try rw [show ((2 : Int)).toNat = 2 from rfl] at hx109_0); (try rw [show 2 * 3 = 6 from rfl] at hx109_0); (try rw [show ((2 : Int)).toNat = 2 from rfl] at hx109_1); (try rw [show 2 * 3 = 6 from rfl] at hx109_1); (try rw [show ((2 : Int)).toNat = 2 from rfl] at hx109_2); (try rw [show 2 * 3 = 6 from rfl] at hx109_2); replace p109 := eq_true p109; replace q109 := eq_true q109))
          go_ret
          exact ⟨by first | rfl | (simp [errW_none, errW_some] <;> rfl) | (simp [*, errW_none, errW_some] <;> rfl), by repeat (first | (with_reducible first | exact HB.out | apply below_alloc | apply pw_below_drewN | apply below_drew1) | exact HB.out)⟩
        · rw [if_neg c6] at H
          exact absurd H (by simp)
      · rw [if_neg c5] at H
        have c5b0 : ((t103.length : Int) == 4) = false := beq_eq_false_iff_ne.mpr c5
        have c5b1 : ((t103.length : Int) != 4) = true := bne_iff_ne.mpr c5
        obtain rfl := Option.some.inj H
        go_enter Try.func14, Try.ntmps14
        go_wp2_with (first | ((with_reducible refine gate_callee (f := 15) rfl ?_); refine goesL_ (some 5) rfl rfl Try.func15 (by kernel_rfl) rfl #[.string (⟨#[97, 32, 61, 32, 49, 50, 59, 32, 35, 32, 120]⟩ : ByteArray)] rfl (by (try simp only [List.map_toArray, List.map_cons, List.map_nil]); first | done | rfl | (simp only [List.length_drop, List.length_take]; rfl)) ?_; (with_reducible refine (lex_Tokens.calls (⟨#[97, 32, 61, 32, 49, 50, 59, 32, 35, 32, 120]⟩ : ByteArray) t103 t104 t105 _ A1.out).mono ?_); rintro e w9 ⟨v106, rfl, ho0, hb⟩; refine ⟨_, rfl, ?_⟩; have n0_ := Aside0.mk (Kd.R_lower ho0 (below_size (by repeat (first | (with_reducible first | exact HB.out | apply below_alloc | apply pw_below_drewN | apply below_drew1) | exact HB.out)))); have n1_ := Aside0.mk (below_step (by repeat (first | (with_reducible first | exact HB.out | apply below_alloc | apply pw_below_drewN | apply below_drew1) | exact HB.out)) hb); clear HB; have HO107 := n0_; have HB := n1_; clear n0_ n1_; (try clear hb); (try clear hb2); (try clear hk); (try clear hi); (try clear ho0)) | ((with_reducible refine gate_callee (f := 17) rfl ?_); refine goesL_ (some 10) rfl rfl Try.func17 (by kernel_rfl) rfl #[.int .i64 t105] rfl (by (try simp only [List.map_toArray, List.map_cons, List.map_nil]); first | done | rfl | (simp only [List.length_drop, List.length_take]; rfl)) ?_; (with_reducible refine (waybilllaw04_num.calls t105 t108 _ A2.out).mono ?_); rintro e w' ⟨rfl, ⟨nd, rfl⟩⟩; refine ⟨_, rfl, ?_⟩; obtain ⟨Ao10, co10, eo10⟩ := Kd.R_slice HO107.out; subst eo10))
        go_ret
        exact ⟨by first | rfl | (simp [errW_none, errW_some] <;> rfl) | (simp [*, errW_none, errW_some] <;> rfl), by repeat (first | (with_reducible first | exact HB.out | apply below_alloc | apply pw_below_drewN | apply below_drew1) | exact HB.out)⟩
    · rw [if_neg c4] at H
      have c4b0 : (t104 == 0) = false := beq_eq_false_iff_ne.mpr c4
      have c4b1 : (t104 != 0) = true := bne_iff_ne.mpr c4
      obtain rfl := Option.some.inj H
      go_enter Try.func14, Try.ntmps14
      go_wp2_with (first | ((with_reducible refine gate_callee (f := 15) rfl ?_); refine goesL_ (some 5) rfl rfl Try.func15 (by kernel_rfl) rfl #[.string (⟨#[97, 32, 61, 32, 49, 50, 59, 32, 35, 32, 120]⟩ : ByteArray)] rfl (by (try simp only [List.map_toArray, List.map_cons, List.map_nil]); first | done | rfl | (simp only [List.length_drop, List.length_take]; rfl)) ?_; (with_reducible refine (lex_Tokens.calls (⟨#[97, 32, 61, 32, 49, 50, 59, 32, 35, 32, 120]⟩ : ByteArray) t103 t104 t105 _ A1.out).mono ?_); rintro e w11 ⟨v106, rfl, ho0, hb⟩; refine ⟨_, rfl, ?_⟩; have n0_ := Aside0.mk (Kd.R_lower ho0 (below_size (by repeat (first | (with_reducible first | exact HB.out | apply below_alloc | apply pw_below_drewN | apply below_drew1) | exact HB.out)))); have n1_ := Aside0.mk (below_step (by repeat (first | (with_reducible first | exact HB.out | apply below_alloc | apply pw_below_drewN | apply below_drew1) | exact HB.out)) hb); clear HB; have HO107 := n0_; have HB := n1_; clear n0_ n1_; (try clear hb); (try clear hb2); (try clear hk); (try clear hi); (try clear ho0)) | ((with_reducible refine gate_callee (f := 17) rfl ?_); refine goesL_ (some 10) rfl rfl Try.func17 (by kernel_rfl) rfl #[.int .i64 t105] rfl (by (try simp only [List.map_toArray, List.map_cons, List.map_nil]); first | done | rfl | (simp only [List.length_drop, List.length_take]; rfl)) ?_; (with_reducible refine (waybilllaw04_num.calls t105 t108 _ A2.out).mono ?_); rintro e w' ⟨rfl, ⟨nd, rfl⟩⟩; refine ⟨_, rfl, ?_⟩))
      go_ret
      exact ⟨by first | rfl | (simp [errW_none, errW_some] <;> rfl) | (simp [*, errW_none, errW_some] <;> rfl), by repeat (first | (with_reducible first | exact HB.out | apply below_alloc | apply pw_below_drewN | apply below_drew1) | exact HB.out)⟩
  · rw [if_neg c3] at H
    have c3b0 : (t108 == 0) = false := beq_eq_false_iff_ne.mpr c3
    have c3b1 : (t108 != 0) = true := bne_iff_ne.mpr c3
    obtain rfl := Option.some.inj H
    go_enter Try.func14, Try.ntmps14
    go_wp2_with (first | ((with_reducible refine gate_callee (f := 15) rfl ?_); refine goesL_ (some 5) rfl rfl Try.func15 (by kernel_rfl) rfl #[.string (⟨#[97, 32, 61, 32, 49, 50, 59, 32, 35, 32, 120]⟩ : ByteArray)] rfl (by (try simp only [List.map_toArray, List.map_cons, List.map_nil]); first | done | rfl | (simp only [List.length_drop, List.length_take]; rfl)) ?_; (with_reducible refine (lex_Tokens.calls (⟨#[97, 32, 61, 32, 49, 50, 59, 32, 35, 32, 120]⟩ : ByteArray) t103 t104 t105 _ A1.out).mono ?_); rintro e w12 ⟨v106, rfl, ho0, hb⟩; refine ⟨_, rfl, ?_⟩; have n0_ := Aside0.mk (Kd.R_lower ho0 (below_size (by repeat (first | (with_reducible first | exact HB.out | apply below_alloc | apply pw_below_drewN | apply below_drew1) | exact HB.out)))); have n1_ := Aside0.mk (below_step (by repeat (first | (with_reducible first | exact HB.out | apply below_alloc | apply pw_below_drewN | apply below_drew1) | exact HB.out)) hb); clear HB; have HO107 := n0_; have HB := n1_; clear n0_ n1_; (try clear hb); (try clear hb2); (try clear hk); (try clear hi); (try clear ho0)) | ((with_reducible refine gate_callee (f := 17) rfl ?_); refine goesL_ (some 10) rfl rfl Try.func17 (by kernel_rfl) rfl #[.int .i64 t105] rfl (by (try simp only [List.map_toArray, List.map_cons, List.map_nil]); first | done | rfl | (simp only [List.length_drop, List.length_take]; rfl)) ?_; (with_reducible refine (waybilllaw04_num.calls t105 t108 _ A2.out).mono ?_); rintro e w' ⟨rfl, ⟨nd, rfl⟩⟩; refine ⟨_, rfl, ?_⟩))
    go_ret
    exact ⟨by first | rfl | (simp [errW_none, errW_some] <;> rfl) | (simp [*, errW_none, errW_some] <;> rfl), by repeat (first | (with_reducible first | exact HB.out | apply below_alloc | apply pw_below_drewN | apply below_drew1) | exact HB.out)⟩

/-! ### waybillplain_SameTokens: function 16 -/
def waybillplain_SameTokens.l0 : Nat → List (S31) → List (S31) → Int → Option (Bool)
  | 0, _, _, _ => none
  | k + 1, x0, x1, x5 => if x5 < (x0.length : Int) then (if 0 ≤ x5 then (if x5 < (x1.length : Int) then (if (!(((rd_T31 x0 x5).f0) == ((rd_T31 x1 x5).f0)) || (!((((rd_T31 x0 x5).f1).toList) == (((rd_T31 x1 x5).f1).toList)) || (!(((rd_T31 x0 x5).f2) == ((rd_T31 x1 x5).f2))))) = true then (some false) else (waybillplain_SameTokens.l0 k x0 x1 (wrap64 (x5 + 1)))) else (none)) else (none)) else (some true)
def waybillplain_SameTokens.f (k : Nat) (l0 : List (S31)) (l1 : List (S31)) : Option (Bool) := if (l0.length : Int) = (l1.length : Int) then (waybillplain_SameTokens.l0 k l0 l1 0) else (some false)
theorem waybillplain_SameTokens.mono_l : ∀ k, (∀ y0 y1 y2, LeO (waybillplain_SameTokens.l0 k y0 y1 y2) (waybillplain_SameTokens.l0 (k + 1) y0 y1 y2))
  | 0 => fun _ _ _ r h => by simp [waybillplain_SameTokens.l0] at h
  | k + 1 => by
    have ih0 := waybillplain_SameTokens.mono_l k
    · intro y0 y1 y2
      unfold waybillplain_SameTokens.l0
      repeat' first
      | (with_reducible exact ih0 _ _ _)
      | (with_reducible exact LeO.refl _)
      | (with_reducible exact LeO.none _)
      | (with_reducible refine LeO.ite ?_ ?_)
      | (with_reducible refine LeO.bind ?_ (fun _ => ?_))
      | exact ih0 _ _ _
      | exact LeO.none _
      | refine LeO.ite ?_ ?_
      | refine LeO.bind ?_ (fun _ => ?_)
theorem waybillplain_SameTokens.mono : ∀ a0 a1 k, LeO (waybillplain_SameTokens.f k a0 a1) (waybillplain_SameTokens.f (k + 1) a0 a1) := by
  intro a0 a1 k
  have ih0 := waybillplain_SameTokens.mono_l k
  unfold waybillplain_SameTokens.f
  repeat' first
      | (with_reducible exact ih0 _ _ _)
      | (with_reducible exact LeO.refl _)
      | (with_reducible exact LeO.none _)
      | (with_reducible refine LeO.ite ?_ ?_)
      | (with_reducible refine LeO.bind ?_ (fun _ => ?_))
      | exact ih0 _ _ _
      | exact LeO.none _
      | refine LeO.ite ?_ ?_
      | refine LeO.bind ?_ (fun _ => ?_)
set_option maxHeartbeats 8000000 in
set_option maxRecDepth 100000 in
theorem waybillplain_SameTokens.calls (k : Nat) (A0 : Option Addr) (c0 : Nat) (l0 : List (S31)) (A1 : Option Addr) (c1 : Nat) (l1 : List (S31)) (r : Bool) (w : World) (hr0 : Kd.C k31 w A0 l0.length l0) (hc0 : l0.length ≤ c0) (hr1 : Kd.C k31 w A1 l1.length l1) (hc1 : l1.length ≤ c1) (h : waybillplain_SameTokens.f k l0 l1 = some r) :
    Calls Try.prog 16 #[.slice A0 l0.length c0, .slice A1 l1.length c1] w fun e w' => e = .returned (.bool r) ∧ Drawn0 w w' := by
  have hu31 := Try.underlying31
  have HR0 := Aside0.mk hr0
  have HC0 := Aside0.mk hc0
  clear hr0 hc0
  have HR1 := Aside0.mk hr1
  have HC1 := Aside0.mk hc1
  clear hr1 hc1
  have H : (if (l0.length : Int) = (l1.length : Int) then (waybillplain_SameTokens.l0 k l0 l1 0) else (some false)) = some r := h
  clear h
  by_cases c3 : (l0.length : Int) = (l1.length : Int)
  · rw [if_pos c3] at H
    have c3b0 : ((l0.length : Int) == (l1.length : Int)) = true := beq_iff_eq.mpr c3
    have c3b1 : ((l0.length : Int) != (l1.length : Int)) = false := bne_eq_false_iff_eq.mpr c3
    have c3b2 : (l0.length == l1.length) = true := by first | simpa using c3 | (simp at c3 ⊢; omega)
    clear c3
    have H' := Aside0.mk H
    clear H
    go_enter Try.func16, Try.ntmps16
    go_wp2
    repeat (go_quiet (fail); try go_wp2)
    go_loopg [5] k (fun kq v5 w' => ∃ (x5_1 : Int), v5 = .int .i64 x5_1 ∧ Aside0 (waybillplain_SameTokens.l0 kq l0 l1 x5_1 = some r) ∧ Aside0 (kq ≤ k) ∧ Drawn0 w w')
    case atStart => exact ⟨(0), (by first | rfl | (simp; done) | (simp [*]; done)), H', ⟨Nat.le_refl _⟩, by repeat (first | exact Drawn0.refl _ | apply Drawn0.step)⟩
    case round =>
      clear H'
      try clear c1
      try clear p2
      try clear c3
      try clear c3b0
      try clear c3b1
      try clear c3b2
      obtain ⟨x5_1, rfl, HA, HK1, ⟨m1, rfl⟩⟩ := hrel
      cases gk with
      | zero => exact absurd HA.out (by simp [waybillplain_SameTokens.l0])
      | succ k1 =>
        have H := HA.out
        clear HA
        simp only [waybillplain_SameTokens.l0] at H
        by_cases c4 : x5_1 < (l0.length : Int)
        · rw [if_pos c4] at H
          have c4b0 : decide (x5_1 < (l0.length : Int)) = true := decide_eq_true c4
          clear c4
          by_cases c5 : 0 ≤ x5_1
          · rw [if_pos c5] at H
            have c5b0 : decide (0 ≤ x5_1) = true := decide_eq_true c5
            clear c5
            by_cases c6 : x5_1 < (l1.length : Int)
            · rw [if_pos c6] at H
              have c6b0 : decide (x5_1 < (l1.length : Int)) = true := decide_eq_true c6
              clear c6
              by_cases c7 : (!(((rd_T31 l0 x5_1).f0) == ((rd_T31 l1 x5_1).f0)) || (!((((rd_T31 l0 x5_1).f1).toList) == (((rd_T31 l1 x5_1).f1).toList)) || (!(((rd_T31 l0 x5_1).f2) == ((rd_T31 l1 x5_1).f2))))) = true
              · rw [if_pos c7] at H
                have c7b0 : (!(((rd_T31 l0 x5_1).f0) == ((rd_T31 l1 x5_1).f0)) || (!((((rd_T31 l0 x5_1).f1).toList) == (((rd_T31 l1 x5_1).f1).toList)) || (!(((rd_T31 l0 x5_1).f2) == ((rd_T31 l1 x5_1).f2))))) = true := c7
                clear c7
                obtain rfl := Option.some.inj H
                have p110 : 0 ≤ (x5_1 : Int) := of_decide_eq_true (by first | (with_reducible assumption) | assumption)
                have q110 : x5_1 < (l0.length : Int) := of_decide_eq_true (by first | (with_reducible assumption) | assumption)
                obtain ⟨ad110, e110, hx110_0, hx110_1, hx110_2⟩ := at_T31 HR0.out x5_1 p110 q110
                cases e110
                replace p110 := eq_true p110
                replace q110 := eq_true q110
                have p111 : 0 ≤ (x5_1 : Int) := of_decide_eq_true (by first | (with_reducible assumption) | assumption)
                have q111 : x5_1 < (l1.length : Int) := of_decide_eq_true (by first | (with_reducible assumption) | assumption)
                obtain ⟨ad111, e111, hx111_0, hx111_1, hx111_2⟩ := at_T31 HR1.out x5_1 p111 q111
                cases e111
                replace p111 := eq_true p111
                replace q111 := eq_true q111
                go_wp2
                repeat (go_quiet (fail); try go_wp2)
                go_ret
                exact ⟨by first | rfl | (simp; done) | (simp [*]; done), by repeat (first | exact Drawn0.refl _ | apply Drawn0.step)⟩
              · rw [if_neg c7] at H
                have c7b0 : (!(((rd_T31 l0 x5_1).f0) == ((rd_T31 l1 x5_1).f0)) || (!((((rd_T31 l0 x5_1).f1).toList) == (((rd_T31 l1 x5_1).f1).toList)) || (!(((rd_T31 l0 x5_1).f2) == ((rd_T31 l1 x5_1).f2))))) = false := by simpa using c7
                clear c7
                have H' := Aside0.mk H
                clear H
                have p110 : 0 ≤ (x5_1 : Int) := of_decide_eq_true (by first | (with_reducible assumption) | assumption)
                have q110 : x5_1 < (l0.length : Int) := of_decide_eq_true (by first | (with_reducible assumption) | assumption)
                obtain ⟨ad110, e110, hx110_0, hx110_1, hx110_2⟩ := at_T31 HR0.out x5_1 p110 q110
                cases e110
                replace p110 := eq_true p110
                replace q110 := eq_true q110
                have p111 : 0 ≤ (x5_1 : Int) := of_decide_eq_true (by first | (with_reducible assumption) | assumption)
                have q111 : x5_1 < (l1.length : Int) := of_decide_eq_true (by first | (with_reducible assumption) | assumption)
                obtain ⟨ad111, e111, hx111_0, hx111_1, hx111_2⟩ := at_T31 HR1.out x5_1 p111 q111
                cases e111
                replace p111 := eq_true p111
                replace q111 := eq_true q111
                go_wp2
                repeat (go_quiet (fail); try go_wp2)
                go_roundg k1
                case measure => have := HK1.out; omega
                case rel => exact ⟨(wrap64 (x5_1 + 1)), (by first | rfl | (simp; done) | (simp [*]; done)), H', ⟨by have := HK1.out; omega⟩, by repeat (first | exact Drawn0.refl _ | apply Drawn0.step)⟩
            · rw [if_neg c6] at H
              exact absurd H (by simp)
          · rw [if_neg c5] at H
            exact absurd H (by simp)
        · rw [if_neg c4] at H
          have c4b0 : decide (x5_1 < (l0.length : Int)) = false := decide_eq_false c4
          clear c4
          obtain rfl := Option.some.inj H
          go_wp2
          repeat (go_quiet (fail); try go_wp2)
          go_ret
          exact ⟨by first | rfl | (simp; done) | (simp [*]; done), by repeat (first | exact Drawn0.refl _ | apply Drawn0.step)⟩
  · rw [if_neg c3] at H
    have c3b0 : ((l0.length : Int) == (l1.length : Int)) = false := beq_eq_false_iff_ne.mpr c3
    have c3b1 : ((l0.length : Int) != (l1.length : Int)) = true := bne_iff_ne.mpr c3
    have c3b2 : (l0.length == l1.length) = false := by first | simpa using c3 | (simp at c3 ⊢; omega)
    obtain rfl := Option.some.inj H
    go_enter Try.func16, Try.ntmps16
    go_wp2
    repeat (go_quiet (fail); try go_wp2)
    go_ret
    exact ⟨by first | rfl | (simp; done) | (simp [*]; done), by repeat (first | exact Drawn0.refl _ | apply Drawn0.step)⟩

-- by hand: lexcheck.inc
/-- The three of a text. -/
def tokF (s : ByteArray) : List S31 × Int × Int := if (s.size : Int) > 65536 then ([], 0, 5) else toksL (s.size + 1) s.data.toList 1 []
theorem tok_f (s : ByteArray) : lex_Tokens.f s = some (tokF s) := by
  unfold lex_Tokens.f tokF
  split <;> rfl
/-- Is the first one this one, on line 1? -/
def isTok (l : List S31) (t : S31) : Bool := (rd_T31 l 0).f0 == t.f0 && ((rd_T31 l 0).f1.toList == t.f1.toList && (rd_T31 l 0).f2 == 1)
def checkT (t : S31) : Int :=
  if t.f0 < 1 then 23 else if t.f0 > 3 then 23 else if (tokF t.f1).2.2 ≠ 0 then 32 else if (tokF t.f1).1.length ≠ 1 then 32 else if isTok (tokF t.f1).1 t = false then 32 else if t.f2 < 1 then 4 else 0
def lex_Check.f (a0_0 : Int) (a0_1 : ByteArray) (a0_2 : Int) : Option Int := some (checkT ⟨a0_0, a0_1, a0_2⟩)
theorem neq31 (w : World) (x0 y0 : Int) (x1 y1 : ByteArray) (x2 y2 : Int) :
    (binOp .neq 31 (.agg #[.int .i64 x0, .string x1, .int .i64 x2]) (.agg #[.int .i64 y0, .string y1, .int .i64 y2])).run Try.prog w = .ok (.bool (!(x0 == y0 && (x1.toList == y1.toList && x2 == y2)))) w := by
  simp only [binOp]
  simp [Op.equal, Op.maxDepth, eqA31 9998 w x0 y0 x1 y1 x2 y2]
theorem below_ls {B : Nat} {w0 w w1 : World} (h : Below B w0 w) (k : Below w.heap.size w w1) (hB : B ≤ w.heap.size) : Below B w0 w1 := below_ch h (Ch.of_below k (fun _ => False)) hB (fun _ h => h.elim)
set_option maxRecDepth 100000 in
set_option maxHeartbeats 2000000 in
theorem lex_Check.calls (a0_0 : Int) (a0_1 : ByteArray) (a0_2 : Int) (r : Int) (w : World) (h : lex_Check.f a0_0 a0_1 a0_2 = some r) :
    Calls Try.prog 26 #[.agg #[.int .i64 a0_0, .string a0_1, .int .i64 a0_2]] w fun e w' => e = .returned (.int .i64 r) ∧ Below w.heap.size w w' := by
  have hu31 := Try.underlying31
  have h := Option.some.inj h
  unfold checkT at h
  simp only [] at h
  by_cases c0 : a0_0 < 1
  · rw [if_pos c0] at h
    subst h
    go_enter Try.func26, Try.ntmps26
    go_wp2_with fail
    go_ret
    exact ⟨rfl, below_alloc (Below.refl _ _) _⟩
  rw [if_neg c0] at h
  by_cases c1 : a0_0 > 3
  · rw [if_pos c1] at h
    subst h
    go_enter Try.func26, Try.ntmps26
    go_wp2_with fail
    go_ret
    exact ⟨rfl, below_alloc (Below.refl _ _) _⟩
  rw [if_neg c1] at h
  obtain ⟨⟨l, li, er⟩, hR⟩ : ∃ R, R = tokF a0_1 := ⟨_, rfl⟩
  rw [← hR] at h
  have HT : Aside0 (lex_Tokens.f a0_1 = some (l, li, er)) := ⟨by rw [tok_f, hR]⟩
  clear hR
  simp only [] at h
  have HX0 := Aside0.mk (heap_alloc_new w (.cells #[.int .i64 a0_0, .string a0_1, .int .i64 a0_2] 31 (0, 0)))
  have HBW := Aside0.mk (below_alloc (Below.refl w.heap.size w) (.cells #[.int .i64 a0_0, .string a0_1, .int .i64 a0_2] 31 (0, 0)))
  by_cases c2 : er = 0
  · subst c2
    rw [if_neg (by simp)] at h
    by_cases c3 : l.length = 1
    · rw [if_neg (by rw [c3]; simp)] at h
      obtain ⟨x, rfl⟩ : ∃ x, l = [x] := by match l, c3 with | [x], _ => exact ⟨x, rfl⟩
      clear c3
      obtain ⟨m, hm⟩ : ∃ m, m = isTok [x] ⟨a0_0, a0_1, a0_2⟩ := ⟨_, rfl⟩
      rw [← hm] at h
      have hm2 : m = (x.f0 == a0_0 && (x.f1.toList == a0_1.toList && x.f2 == 1)) := hm
      have HM := Aside0.mk hm2
      clear hm hm2
      go_enter Try.func26, Try.ntmps26
      go_wp2_with fail
      refine (lex_Tokens.calls a0_1 [x] li 0 _ HT.out).mono ?_
      rintro e w1 ⟨v, rfl, hv, hb⟩
      obtain ⟨g, cap, rfl, _, _, _⟩ := Kd.R_form hv (by simp)
      have hX := (Ch.of_below hb (fun _ => False)).heap HX0.out (fun h => h)
      have x0 := zcell hX 0 (.int .i64 a0_0) rfl
      have x1 := zcell hX 1 (.string a0_1) rfl
      have x2 := zcell hX 2 (.int .i64 a0_2) rfl
      obtain ⟨ad, ea, hx, hy, hz⟩ := at_T31 (Kd.R_reads' hv).2.2 0 (by omega) (by simp)
      cases ea
      have hx : w1.cell? ⟨g, 0, none⟩ = some (.int .i64 x.f0) := hx
      have hy : w1.cell? ⟨g, 1, none⟩ = some (.string x.f1) := hy
      have hz : w1.cell? ⟨g, 2, none⟩ = some (.int .i64 x.f2) := hz
      have HB := Aside0.mk (below_ls HBW.out hb HBW.out.size)
      clear hb hv hX
      have hq : ∀ W, (binOp .neq 31 (.agg #[.int .i64 x.f0, .string x.f1, .int .i64 x.f2]) (.agg #[.int .i64 a0_0, .string a0_1, .int .i64 1])).run Try.prog W = .ok (.bool (!m)) W := fun W => by rw [neq31, ← HM.out]
      cases m
      · rw [if_pos rfl] at h
        subst h
        go_wp2_with fail
        go_quiet (fail)
        go_wp2_with fail
        go_ret
        exact ⟨rfl, by repeat (first | exact HB.out | apply pw_below_drewN | apply below_drew1)⟩
      · rw [if_neg (by decide)] at h
        by_cases c4 : a0_2 < 1
        all_goals
          first | rw [if_pos c4] at h | rw [if_neg c4] at h
          subst h
          go_wp2_with fail
          go_quiet (fail)
          go_wp2_with fail
          go_ret
          exact ⟨rfl, by repeat (first | exact HB.out | apply pw_below_drewN | apply below_drew1)⟩
    · rw [if_pos c3] at h
      subst h
      have hl : decide ((l.length : Int) = 1) = false := decide_eq_false (by omega)
      have hl2 : ((l.length : Int) != 1) = true := bne_iff_ne.mpr (by omega)
      have hl3 : ¬ (l.length : Int) = 1 := by omega
      clear c3
      go_enter Try.func26, Try.ntmps26
      go_wp2_with fail
      refine (lex_Tokens.calls a0_1 l li 0 _ HT.out).mono ?_
      rintro e w1 ⟨v, rfl, hv, hb⟩
      obtain ⟨A, c, rfl⟩ := Kd.R_slice hv
      have hX := (Ch.of_below hb (fun _ => False)).heap HX0.out (fun h => h)
      have HB := Aside0.mk (below_ls HBW.out hb HBW.out.size)
      clear hb hv
      go_wp2_with fail
      go_quiet (fail)
      go_wp2_with fail
      go_ret
      exact ⟨rfl, by repeat (first | exact HB.out | apply pw_below_drewN | apply below_drew1)⟩
  · rw [if_pos c2] at h
    subst h
    have hl2 : (er != 0) = true := bne_iff_ne.mpr c2
    go_enter Try.func26, Try.ntmps26
    go_wp2_with fail
    refine (lex_Tokens.calls a0_1 l li er _ HT.out).mono ?_
    rintro e w1 ⟨v, rfl, hv, hb⟩
    obtain ⟨A, c, rfl⟩ := Kd.R_slice hv
    have HB := Aside0.mk (below_ls HBW.out hb HBW.out.size)
    clear hb hv
    go_wp2_with fail
    go_quiet (fail)
    go_wp2_with fail
    go_ret
    exact ⟨rfl, by repeat (first | exact HB.out | apply pw_below_drewN | apply below_drew1)⟩

-- by hand: lexpage.inc
theorem heap31 : Kd.Heap k31 := Kd.heap_iso _ ⟨fun _ h => h⟩
theorem C31_below {w w1 : World} {A : Option Addr} {n B : Nat} {xs : List S31} (h : Kd.C k31 w A n xs) (hb : Below B w w1) (hB : w.heap.size ≤ B) : Kd.C k31 w1 A n xs := heap31.C (fun k hk => hb.block k (by omega)) h
/-- Tokens that are to be printed. -/
def ckL : Int → List S31 → Int
  | _, [] => 0
  | last, t :: r => if checkT t = 0 then (if t.f2 < last then 9 else if t.f2 > 65536 then 4 else ckL t.f2 r) else checkT t
theorem rd31 (l : List S31) (i : Nat) (h : i < l.length) : rd_T31 l (i : Int) = l[i] := by
  unfold rd_T31
  rw [Int.toNat_natCast, List.getD_eq_getElem?_getD, List.getElem?_eq_getElem h]; rfl
theorem drop31 (l : List S31) (i : Nat) (h : i < l.length) : l.drop i = rd_T31 l (i : Int) :: l.drop (i + 1) := by
  rw [rd31 l i h]; exact List.drop_eq_getElem_cons h
set_option maxRecDepth 100000 in
set_option maxHeartbeats 2000000 in
theorem check.calls (A : Option Addr) (c : Nat) (l : List S31) (w : World) (hr : Kd.C k31 w A l.length l) (hc : l.length ≤ c) :
    Calls Try.prog 43 #[.slice A l.length c] w fun e w' => e = .returned (.int .i64 (ckL 0 l)) ∧ Below w.heap.size w w' := by
  have hu31 := Try.underlying31
  have HR := Aside0.mk hr
  have hlen : l.length ≤ 9223372036854775807 := hr.2.1
  have HB := Aside0.mk (Below.refl w.heap.size w)
  clear hr
  obtain ⟨q, hq⟩ : ∃ q, q = ckL 0 l := ⟨_, rfl⟩
  rw [← hq]
  have HQ : Aside0 (q = ckL 0 (l.drop 0)) := ⟨hq⟩
  clear hq
  go_enter Try.func43, Try.ntmps43
  go_wp2_with fail
  go_loopw [3, 9] (fun v3 v9 W => ∃ (i : Nat) (last : Int), i ≤ l.length ∧ v3 = .int .i64 last ∧ v9 = .int .i64 i ∧ Aside0 (q = ckL last (l.drop i)) ∧ Aside0 (Below w.heap.size w W)) (fun _ v _ => l.length - (intOf v).toNat)
  case atStart => exact ⟨0, 0, by omega, rfl, rfl, HQ, HB⟩
  case round =>
    clear HB HQ
    obtain ⟨i, last, hi, rfl, rfl, HQ, HB⟩ := hrel
    by_cases hlt : i < l.length
    · obtain ⟨ad, ea, hx, hy, hz⟩ := at_T31 (C31_below HR.out HB.out (Nat.le_refl _)) (i : Int) (by omega) (by omega)
      cases ea
      rw [Int.toNat_natCast] at hx hy hz
      have hq := HQ.out
      rw [drop31 l i hlt] at hq
      obtain ⟨x, hxe⟩ : ∃ x, x = rd_T31 l (i : Int) := ⟨_, rfl⟩
      rw [← hxe] at hx hy hz hq
      clear hxe HQ
      replace hq : q = if checkT x = 0 then (if x.f2 < last then 9 else if x.f2 > 65536 then 4 else ckL x.f2 (l.drop (i + 1))) else checkT x := hq
      obtain ⟨k, hk⟩ : ∃ k, k = checkT x := ⟨_, rfl⟩
      have HK : Aside0 (lex_Check.f x.f0 x.f1 x.f2 = some k) := ⟨by rw [hk]; rfl⟩
      rw [← hk] at hq
      clear hk
      have HX0 := Aside0.mk (heap_alloc_new wr (.cells #[.int .i64 x.f0, .string x.f1, .int .i64 x.f2] 31 (0, 0)))
      have HBW := Aside0.mk (below_alloc HB.out (.cells #[.int .i64 x.f0, .string x.f1, .int .i64 x.f2] 31 (0, 0)))
      have y0 := zcell HX0.out 0 (.int .i64 x.f0) rfl
      have y1 := zcell HX0.out 1 (.string x.f1) rfl
      have y2 := zcell HX0.out 2 (.int .i64 x.f2) rfl
      by_cases c0 : k = 0
      · subst c0
        rw [if_pos rfl] at hq
        by_cases c1 : x.f2 < last
        · rw [if_pos c1] at hq
          subst hq
          go_wp2_with fail
          refine (lex_Check.calls x.f0 x.f1 x.f2 0 _ HK.out).mono ?_
          rintro e w1 ⟨rfl, hb⟩
          have z2 := zcell ((Ch.of_below hb (fun _ => False)).heap HX0.out (fun h => h)) 2 (.int .i64 x.f2) rfl
          have HB1 := Aside0.mk (below_ls HBW.out hb HBW.out.size)
          clear hb y0 y1 y2
          go_wp2_with fail
          go_ret
          exact ⟨rfl, HB1.out⟩
        · rw [if_neg c1] at hq
          by_cases c2 : x.f2 > 65536
          · rw [if_pos c2] at hq
            subst hq
            go_wp2_with fail
            refine (lex_Check.calls x.f0 x.f1 x.f2 0 _ HK.out).mono ?_
            rintro e w1 ⟨rfl, hb⟩
            have z2 := zcell ((Ch.of_below hb (fun _ => False)).heap HX0.out (fun h => h)) 2 (.int .i64 x.f2) rfl
            have HB1 := Aside0.mk (below_ls HBW.out hb HBW.out.size)
            clear hb y0 y1 y2
            go_wp2_with fail
            go_ret
            exact ⟨rfl, HB1.out⟩
          · rw [if_neg c2] at hq
            have HQ2 := Aside0.mk hq
            clear hq
            go_wp2_with fail
            refine (lex_Check.calls x.f0 x.f1 x.f2 0 _ HK.out).mono ?_
            rintro e w1 ⟨rfl, hb⟩
            have z2 := zcell ((Ch.of_below hb (fun _ => False)).heap HX0.out (fun h => h)) 2 (.int .i64 x.f2) rfl
            have HB1 := Aside0.mk (below_ls HBW.out hb HBW.out.size)
            clear hb y0 y1 y2
            go_wp2_with fail
            exact ⟨⟨i + 1, x.f2, by omega, rfl, by go_num, HQ2, HB1⟩, by simp [intOf]; omega⟩
      · rw [if_neg c0] at hq
        subst hq
        have b1 : (q != 0) = true := bne_iff_ne.mpr c0
        go_wp2_with fail
        refine (lex_Check.calls x.f0 x.f1 x.f2 q _ HK.out).mono ?_
        rintro e w1 ⟨rfl, hb⟩
        have HB1 := Aside0.mk (below_ls HBW.out hb HBW.out.size)
        clear hb y0 y1 y2
        go_wp2_with fail
        go_ret
        exact ⟨rfl, HB1.out⟩
    · obtain rfl : q = 0 := by rw [HQ.out, List.drop_eq_nil_of_le (by omega)]; rfl
      go_wp2_with fail
      go_ret
      exact ⟨rfl, HB.out⟩
/-! A strings.Builder at the head of a block (of type T, more cells cs behind it): it holds l. -/
def Bld (T : TypeId) (base b : Nat) (l : List UInt8) (cs : List Value) (W : World) : Prop :=
  ∃ p v, W.heap[b]? = some (.cells (p :: v :: cs).toArray T (0, 0)) ∧ (p = .pointer none ∨ p = .pointer (some ⟨b, 0, none⟩)) ∧ W.ownsRow base 5 1 v l.length (Lib.byteCells l) ∧ v.ownBlock ≠ some b
/-- What a write to it leaves: all blocks but its own and rows of bytes. -/
structure KpB (b : Nat) (w w' : World) : Prop where
  keep : ∀ k cs t f, w.heap[k]? = some (.cells cs t f) → k ≠ b → t ≠ 5 → w'.heap[k]? = some (.cells cs t f)
theorem KpB.refl (b : Nat) (w : World) : KpB b w w := ⟨fun _ _ _ _ h _ _ => h⟩
theorem KpB.trans {b : Nat} {w w1 w2 : World} (h : KpB b w w1) (k : KpB b w1 w2) : KpB b w w2 := ⟨fun i cs t f h1 h2 h3 => k.keep i cs t f (h.keep i cs t f h1 h2 h3) h2 h3⟩
theorem KpB.of_ch {b : Nat} {w w1 : World} (h : Ch (fun k => k = b) w w1) : KpB b w w1 := ⟨fun i cs t f h1 h2 _ => (h.block i (lt_of_block h1) h2).trans h1⟩
theorem KpB.of_below {b : Nat} {w w1 : World} (h : Below w.heap.size w w1) : KpB b w w1 := KpB.of_ch (Ch.of_below h _)
theorem Bld.step {T : TypeId} {base b : Nat} {l : List UInt8} {cs : List Value} {w w1 : World} (h : Bld T base b l cs w) (hC : Ch (fun _ => False) w w1) : Bld T base b l cs w1 := by
  obtain ⟨p, v, hb, hp, hown, hne⟩ := h
  exact ⟨p, v, hC.heap hb (fun h => h), hp, own_move hown (fun k hk => hC.block k (World.ownsRow.lt hown k hk).2 (fun h => h)), hne⟩
theorem bld_fresh (T : TypeId) (cs : List Value) (w : World) (base : Nat) (hb : base ≤ w.heap.size) : Bld T base w.heap.size [] cs (w.alloc (.cells (.pointer none :: .slice none 0 0 :: cs).toArray T (0, 0))) :=
  ⟨_, _, heap_alloc_new w _, .inl rfl, World.ownsRow_nil _ _ _ _, by simp [Value.ownBlock]⟩
set_option maxHeartbeats 1000000 in
theorem bcopy.calls (T : TypeId) (b : Nat) (p v : Value) (cs : List Value) (w : World) (hb : w.heap[b]? = some (.cells (p :: v :: cs).toArray T (0, 0))) (hp : p = .pointer none ∨ p = .pointer (some ⟨b, 0, none⟩))
    (hl : liesAt Try.prog Try.prog.depth T ((cs.length + 2) / Try.prog.cellsOf T) 0 101 1 = true) :
    Calls Try.prog 105 #[.pointer (some ⟨b, 0, none⟩)] w fun e w' => e = .returned (.tuple #[]) ∧ Ch (fun k => k = b) w w' ∧ w'.heap[b]? = some (.cells (.pointer (some ⟨b, 0, none⟩) :: v :: cs).toArray T (0, 0)) := by
  have HL := Aside0.mk hl
  have HBK := Aside0.mk hb
  have hc0 := zcell hb 0 p rfl
  have hf0 := zfree hb 0
  have hsz : (Try.prog.info? 101).map (·.size) = some 2 := by kernel_rfl
  obtain ⟨j, hj, hjs⟩ := Option.map_eq_some_iff.1 hsz
  rcases hp with rfl | rfl
  · have hsh : w.shape? b = some (T, cs.length + 2) := by simp [World.shape?, hb]
    have q1 := Lib.run_to_unsafe (P := Try.prog) w ⟨b, 0, none⟩ Try.underlying98 Try.underlying151 hj (by rw [hjs]; decide) hsh (by show 0 < cs.length + 2; omega)
    have q2 : ∀ a W, (callFunc 116 #[a]).run Try.prog W = .ok (.value a) W := fun a W => by
      rw [run_callFunc_extern Try.func116 (by kernel_rfl) (by kernel_rfl) (by kernel_rfl) (e := Extern.AbiNoEscape.same) (by kernel_rfl), Lib.run_noEscape]; rfl
    have q3 := Lib.run_from_unsafe (P := Try.prog) w ⟨b, 0, none⟩ Try.underlying151 Try.underlying98 hj hsh HL.out
    clear hb hl hsz hj hjs hsh
    go_enter Try.func105, Try.ntmps105
    go_wp2
    go_end0
    exact ⟨rfl, (Ch.refl (fun k => k = b) w).set (p := ⟨b, 0, none⟩) (.inl rfl) _, by have := zset HBK.out 0 (.pointer (some ⟨b, 0, none⟩)); simpa using this⟩
  · have q1 := Lib.run_neq_ptr_same (P := Try.prog) (w := w) ⟨b, 0, none⟩ Try.underlying98 hj
    clear hb hl hsz hj hjs
    go_enter Try.func105, Try.ntmps105
    go_wp2
    go_end0
    exact ⟨rfl, Ch.refl _ w, HBK.out⟩
set_option maxHeartbeats 2000000 in
theorem bwrite.calls (T : TypeId) (base b : Nat) (l : List UInt8) (cs : List Value) (s : ByteArray) (w : World) (h : Bld T base b l cs w) (hT : T ≠ 5) (hbb : base ≤ b) (hlen : l.length + s.size ≤ 140737488355328)
    (hl : liesAt Try.prog Try.prog.depth T ((cs.length + 2) / Try.prog.cellsOf T) 0 101 1 = true) :
    Calls Try.prog 91 #[.pointer (some ⟨b, 0, none⟩), .string s] w fun e w' => e = .returned (.tuple #[.int .i64 s.size, .nilIface]) ∧ Bld T base b (l ++ s.data.toList) cs w' ∧ KpB b w w' ∧ Below base w w' := by
  obtain ⟨p, v, hb, hp, hown, hne⟩ := h
  have hi0 : (Try.prog.info? 5).map (fun i => (i.zero, i.size, i.bytes)) = some (some (.int .u8 0), 1, 1) := by kernel_rfl
  obtain ⟨i0, hi, hz0, hz1, hz2⟩ := info_parts hi0
  have hlt : b < w.heap.size := lt_of_block hb
  have HC := Aside0.mk (bcopy.calls T b p v cs w hb hp hl)
  clear hb hp hl
  go_enter Try.func91, Try.ntmps91
  go_wp2_with fail
  refine HC.out.mono ?_
  rintro e w1 ⟨rfl, hC, hb1⟩
  have hown1 : w1.ownsRow base 5 1 v l.length (Lib.byteCells l) := own_move hown (fun k hk => hC.block k (World.ownsRow.lt hown k hk).2 (fun e => hne (by rw [hk, e])))
  have c1 := zcell hb1 1 v rfl
  have hsz1 : w.heap.size ≤ w1.heap.size := hC.size
  have HCH := Aside0.mk hC
  have HB1 := Aside0.mk hb1
  have HOW := Aside0.mk hown1
  clear hC hb1 hown hown1
  go_wp2_with (at_builtin; refine Lib.wpList_append_own_string _ rfl _ _ 99 9 rfl base 5 i0 Try.underlying99 Try.underlying9 hi hz0 hz1 hz2 _ _ _ rfl HOW.out s rfl ?c3 ?c4 ?c5 ?_)
  case c3 => unfold maxLen; omega
  case c4 => exact hlen
  case c5 => omega
  intro v' w2 hown' hgrow _
  have hb2 : w2.heap[b]? = some (.cells (.pointer (some ⟨b, 0, none⟩) :: v :: cs).toArray T (0, 0)) := (hgrow.block b (by omega) (fun e => hne e.symm)).trans HB1.out
  have d1 := zcell hb2 1 v rfl
  have f1 := zfree hb2 1
  have HB2 := Aside0.mk hb2
  have HOW2 := Aside0.mk hown'
  have HG := Aside0.mk hgrow
  obtain ⟨ao, n', cap, rfl⟩ : ∃ ao n' cap, v' = .slice ao n' cap := by
    rcases hown'.2 with ⟨hv, _⟩ | ⟨g, cap, cur, hv, _⟩
    · exact ⟨_, _, _, hv⟩
    · exact ⟨_, _, _, hv⟩
  clear hb2 hown' hgrow
  go_wp2_with fail
  go_ret2
  have hset := zset HB2.out 1 (.slice ao n' cap)
  have hne2 : (Value.slice ao n' cap).ownBlock ≠ some b := by
    intro e
    obtain ⟨cells, hc⟩ := own_typed HOW2.out b e
    rw [HB2.out] at hc
    injection hc with hc
    injection hc with _ hc
    exact hT hc
  refine ⟨rfl, ⟨.pointer (some ⟨b, 0, none⟩), .slice ao n' cap, by simpa using hset, .inr rfl, ?_, hne2⟩, ?_, ?_⟩
  · rw [List.length_append, Lib.byteCells_append, ← Lib.strCells_eq]
    have e1 : s.data.toList.length = s.size := Array.length_toList
    rw [e1]
    exact own_move HOW2.out (fun k hk => Below.heap_setCell w2 _ _ k (fun e => hne2 (by rw [hk, e])))
  · refine (KpB.of_ch HCH.out).trans (KpB.trans ⟨fun i cs t f h1 h2 h3 => (HG.out.block i (lt_of_block h1) (fun e => ?_)).trans h1⟩ (KpB.of_ch ((Ch.refl (fun k => k = b) w2).set (p := ⟨b, 1, none⟩) (.inl rfl) _)))
    obtain ⟨cells, hc⟩ := own_typed HOW.out i e.symm
    rw [hc] at h1
    injection h1 with h1
    injection h1 with _ h1
    exact h3 h1.symm
  · refine below_ch ?_ ((Ch.refl (fun k => k = b) w2).set (p := ⟨b, 1, none⟩) (.inl rfl) _) (by have := HG.out.size; omega) (fun k h => by omega)
    exact Below.grown (below_ch (Below.refl base w) HCH.out (by omega) (fun k h => by omega)) HG.out (by omega) (fun k hk => (World.ownsRow.lt HOW.out k hk).1)
set_option maxHeartbeats 2000000 in
theorem bstring.calls (T : TypeId) (base b : Nat) (l : List UInt8) (cs : List Value) (w : World) (h : Bld T base b l cs w) (hbb : base ≤ b) :
    Calls Try.prog 45 #[.pointer (some ⟨b, 0, none⟩)] w fun e w' => e = .returned (.string ⟨l.toArray⟩) ∧ Below base w w' := by
  obtain ⟨p, v, hb, hp, hown, hne⟩ := h
  have hlt : b < w.heap.size := lt_of_block hb
  have HBK := Aside0.mk hb
  have hUN := fun W q => Lib.run_unsafeString_none (P := Try.prog) W 124 3 9 q
  rcases hown.2 with ⟨hv, hz⟩ | ⟨g, cap, cur, hv, hbg, hg, hnc, hcm, hcs, htake⟩
  · subst hv
    have hl : l = [] := List.eq_nil_of_length_eq_zero hz
    subst hl
    have c1 : w.drew.cell? ⟨b, 1, none⟩ = some (.slice none 0 0) := zcell (w := w.drew) hb 1 (.slice none 0 0) rfl
    have hSD : (Builtin.unsafeSliceData_ #[99] 124 #[.slice none 0 0]).run Try.prog w.drew = .ok (.pointer none) w.drew := rfl
    clear hown hb hz hp
    go_enter Try.func45, Try.ntmps45
    go_wp2
    go_region
    all_goals (go_wp2; go_ret; exact ⟨rfl, Below.drew (Below.refl base w)⟩)
  · subst hv
    by_cases h0 : l = []
    · subst h0
      by_cases hc0 : cap = 0
      · subst hc0
        have c1 : w.drew.cell? ⟨b, 1, none⟩ = some (.slice (some ⟨g, 0, none⟩) 0 0) := zcell (w := w.drew) hb 1 (.slice (some ⟨g, 0, none⟩) 0 0) rfl
        have hSD : (Builtin.unsafeSliceData_ #[99] 124 #[.slice (some ⟨g, 0, none⟩) 0 0]).run Try.prog w.drew = .ok (.pointer (some ⟨w.drew.heap.size, 0, none⟩)) (w.drew.alloc (.view ⟨g, 0, none⟩ 5)) :=
          Lib.run_unsafeSliceData_zero w.drew _ _ 5 Try.underlying124 ⟨g, 0, none⟩ 0 (5, cur.size) (by have hg' : w.drew.heap[g]? = some (.cells cur 5 (0, 0)) := hg; simp [World.shape?, hg'])
        have c2 : (w.drew.alloc (.view ⟨g, 0, none⟩ 5)).cell? ⟨b, 1, none⟩ = some (.slice (some ⟨g, 0, none⟩) 0 0) := zcell ((Lib.alloc_old w.drew _ b hlt).trans hb) 1 _ rfl
        have c3 : (w.alloc (.view ⟨g, 0, none⟩ 5)).drew.cell? ⟨b, 1, none⟩ = some (.slice (some ⟨g, 0, none⟩) 0 0) := c2
        have c0 : w.cell? ⟨b, 1, none⟩ = some (.slice (some ⟨g, 0, none⟩) 0 0) := c1
        clear hown hb hg htake hcs
        go_enter Try.func45, Try.ntmps45
        go_wp2
        go_region
        all_goals (go_wp2; go_ret; exact ⟨rfl, (Below.drew (Below.refl base w)).alloc (Nat.le_trans hbb (Nat.le_of_lt hlt)) _⟩)
      · have c1 : w.drew.cell? ⟨b, 1, none⟩ = some (.slice (some ⟨g, 0, none⟩) 0 cap) := zcell (w := w.drew) hb 1 (.slice (some ⟨g, 0, none⟩) 0 cap) rfl
        have hSD : (Builtin.unsafeSliceData_ #[99] 124 #[.slice (some ⟨g, 0, none⟩) 0 cap]).run Try.prog w.drew = .ok (.pointer (some ⟨g, 0, none⟩)) w.drew :=
          Lib.run_unsafeSliceData_row _ _ _ _ _ _ hc0
        clear hown hb hg htake hcs hc0
        go_enter Try.func45, Try.ntmps45
        go_wp2
        go_region
        all_goals (go_wp2; go_ret; exact ⟨rfl, Below.drew (Below.refl base w)⟩)
    · have hl0 : l.length ≠ 0 := by simpa using h0
      have c1 : w.drew.cell? ⟨b, 1, none⟩ = some (.slice (some ⟨g, 0, none⟩) l.length cap) := zcell (w := w.drew) hb 1 _ rfl
      have hSD : (Builtin.unsafeSliceData_ #[99] 124 #[.slice (some ⟨g, 0, none⟩) l.length cap]).run Try.prog w.drew = .ok (.pointer (some ⟨g, 0, none⟩)) w.drew :=
        Lib.run_unsafeSliceData_row _ _ _ _ _ _ (by omega)
      have hUS : (Builtin.unsafeString_ #[124, 3] 9 #[.pointer (some ⟨g, 0, none⟩), .int .i64 l.length]).run Try.prog w.drew = .ok (.string ⟨l.toArray⟩) (w.drew.freeze ⟨g, 0, none⟩ l.length) := by
        refine Lib.run_unsafeString_row w.drew 124 3 9 5 Try.underlying124 (by kernel_rfl) g cur.size (by have hg' : w.drew.heap[g]? = some (.cells cur 5 (0, 0)) := hg; simp [World.shape?, hg']) l h0 (by omega) (by unfold maxLen at hcm; omega) ?_
        intro j x hx
        have := hown.cells (g := g) rfl j (.int .u8 x.toNat) (by simp [Lib.byteCells, hx])
        exact this
      clear hown hb hg htake hcs h0 hl0 hUN
      go_enter Try.func45, Try.ntmps45
      go_wp2
      go_region
      all_goals (go_wp2; go_ret; exact ⟨rfl, Lib.below_freeze (Below.drew (Below.refl base w)) (p := ⟨g, 0, none⟩) hbg _⟩)
attribute [local go_sem] txt_toList txt_size txt_get txt_extract
theorem lies103 : liesAt Try.prog Try.prog.depth 103 ((([.int .i64 0, .int .i64 0, .bool false] : List Value).length + 2) / Try.prog.cellsOf 103) 0 101 1 = true := by kernel_rfl
def rep (s : List UInt8) : Nat → List UInt8
  | 0 => []
  | n + 1 => s ++ rep s n
theorem rep_eq (s : List UInt8) : ∀ n, Lib.repeatL s n = rep s n
  | 0 => rfl
  | n + 1 => by
    show s ++ Lib.repeatL s n = s ++ rep s n
    rw [rep_eq s n]
theorem rep_len (s : List UInt8) : ∀ n, (rep s n).length = s.length * n
  | 0 => by simp [rep]
  | n + 1 => by rw [rep, List.length_append, rep_len s n, Nat.mul_succ, Nat.add_comm]
set_option maxHeartbeats 1000000 in
theorem put0.calls (b : Nat) (p v : Value) (size line : Int) (s : List UInt8) (times m : Int) (w : World) (hb : w.heap[b]? = some (.cells #[p, v, .int .i64 size, .int .i64 line, .bool false] 103 (0, 0)))
    (hm : wrap64 ((s.length : Int) * times) = m) (h0 : 0 ≤ size) (h1 : 0 ≤ m) (h2 : size + m ≤ 4611686018427387904) :
    Calls Try.prog 67 #[.pointer (some ⟨b, 0, none⟩), .string (txt s), .int .i64 times] w fun e w' => e = .returned (.tuple #[]) ∧ Ch (fun k => k = b) w w' ∧ w'.heap[b]? = some (.cells #[p, v, .int .i64 (size + m), .int .i64 line, .bool false] 103 (0, 0)) := by
  have HB := Aside0.mk hb
  have c2 := zcell hb 2 (.int .i64 size) rfl
  have c4 := zcell hb 4 (.bool false) rfl
  have f2 := zfree hb 2
  clear hb
  go_enter Try.func67, Try.ntmps67
  go_wp2_with fail
  go_end0
  exact ⟨rfl, (Ch.refl (fun k => k = b) w).set (p := ⟨b, 2, none⟩) (.inl rfl) _, zset HB.out 2 (.int .i64 (size + m))⟩
set_option maxHeartbeats 2000000 in
theorem put1.calls (base b : Nat) (l : List UInt8) (size line : Int) (s : List UInt8) (times : Nat) (m : Int) (w : World) (h : Bld 103 base b l [.int .i64 size, .int .i64 line, .bool true] w)
    (hm : wrap64 ((s.length : Int) * times) = m) (h0 : 0 ≤ size) (h1 : 0 ≤ m) (h2 : size + m ≤ 4611686018427387904) (hbb : base ≤ b) (ht : times ≤ 9223372036854775807) (hl : s.length * times ≤ 140737488355328) (hll : l.length + s.length * times ≤ 140737488355328) :
    Calls Try.prog 67 #[.pointer (some ⟨b, 0, none⟩), .string (txt s), .int .i64 times] w fun e w' => e = .returned (.tuple #[]) ∧ Bld 103 base b (l ++ rep s times) [.int .i64 (size + m), .int .i64 line, .bool true] w' ∧ KpB b w w' ∧ Below base w w' := by
  obtain ⟨p, v, hb, hp, hown, hne⟩ := h
  replace hb : w.heap[b]? = some (.cells #[p, v, .int .i64 size, .int .i64 line, .bool true] 103 (0, 0)) := hb
  have HB := Aside0.mk hb
  have hs1 := zset hb 2 (.int .i64 (size + m))
  have hC := (Ch.refl (fun k => k = b) w).set (p := ⟨b, 2, none⟩) (.inl rfl) (.int .i64 (size + m))
  have hbl : Bld 103 base b l [.int .i64 (size + m), .int .i64 line, .bool true] (w.setCell ⟨b, 2, none⟩ (.int .i64 (size + m))) :=
    ⟨p, v, hs1, hp, own_move hown (fun k hk => hC.block k (World.ownsRow.lt hown k hk).2 (fun e => hne (by rw [hk, e]))), hne⟩
  have HBL := Aside0.mk hbl
  have HCC := Aside0.mk hC
  have c2 := zcell hb 2 (.int .i64 size) rfl
  have f2 := zfree hb 2
  have c4 := zcell hs1 4 (.bool true) rfl
  have hlt : b < w.heap.size := lt_of_block hb
  have HRP := Aside0.mk (fun W => Try.strings_Repeat (txt s) times W ht (by rw [txt_size]; exact hl))
  have HLL := Aside0.mk hll
  clear hb hp hown hne hs1 hC hbl ht hl hll
  go_enter Try.func67, Try.ntmps67
  go_wp2_with fail
  generalize w.setCell ⟨b, 2, none⟩ (.int .i64 (size + m)) = W1 at HBL HCC c4 ⊢
  have HRL : Aside0 ((⟨(Lib.repeatL (txt s).data.toList times).toArray⟩ : ByteArray) = txt (rep s times)) := ⟨by rw [txt_list, rep_eq]; rfl⟩
  have HLN : Aside0 (l.length + (txt (rep s times)).size ≤ 140737488355328) := ⟨by rw [txt_size, rep_len]; exact HLL.out⟩
  go_region_with (first | (go_at_call 92; refine (HRP.out _).mono ?_; rintro e W2 ⟨rfl, hb2⟩; rw [HRL.out]; have HC2 : Aside0 (Ch (fun _ => False) W1 W2) := ⟨by first | exact Ch.of_below hb2 _ | exact ((Ch.refl _ W1).drew).thenB hb2⟩; clear hb2) | (go_at_call 91; refine (bwrite.calls 103 base b l [.int .i64 (size + m), .int .i64 line, .bool true] (txt (rep s times)) _ (by first | exact HBL.out.step HC2.out | exact (HBL.out.step HC2.out).step ((Ch.refl _ _).drew)) (by decide) hbb HLN.out lies103).mono ?_; rintro e W3 ⟨rfl, h3, hk3, hb3⟩; have H3 := Aside0.mk h3; have HK3 : Aside0 (KpB b W2 W3) := ⟨by first | exact hk3 | exact (KpB.of_ch ((Ch.refl _ _).drew)).trans hk3⟩; have HB3 : Aside0 (Below base W2 W3) := ⟨by first | exact hb3 | exact (Below.drew (Below.refl _ _)).trans hb3⟩; clear h3 hk3 hb3))
  all_goals
    go_wp2_with fail
    go_end0
    rw [txt_list] at H3
    refine ⟨rfl, ?_, ?_, ?_⟩
    · first | exact H3.out | exact H3.out.step ((Ch.refl _ _).drew) | exact H3.out.step ((Ch.refl _ _).drewN _)
    · have hk := ((KpB.of_ch HCC.out).trans (KpB.of_ch (HC2.out.mono (fun _ h => h.elim)))).trans HK3.out
      first | exact hk | exact hk.trans (KpB.of_ch ((Ch.refl _ _).drew))
    · have hz := HCC.out.size
      have hz2 := HC2.out.size
      have hk := (below_ch (below_ch (Below.refl base w) HCC.out (by omega) (fun k h => by omega)) HC2.out (by omega) (fun k h => h.elim)).trans HB3.out
      first | exact hk | exact Below.drew hk
/-- A page on its way: l is written, or (not full) would be. -/
def PG (full : Bool) (base b : Nat) (l : List UInt8) (size line : Int) (W : World) : Prop :=
  match full with
  | true => Bld 103 base b l [.int .i64 size, .int .i64 line, .bool true] W
  | false => ∃ p v, W.heap[b]? = some (.cells #[p, v, .int .i64 size, .int .i64 line, .bool false] 103 (0, 0))
theorem PG.block {full : Bool} {base b : Nat} {l : List UInt8} {size line : Int} {W : World} (h : PG full base b l size line W) : ∃ p v, W.heap[b]? = some (.cells #[p, v, .int .i64 size, .int .i64 line, .bool full] 103 (0, 0)) := by
  cases full with
  | true => obtain ⟨p, v, hb, _⟩ := h; exact ⟨p, v, hb⟩
  | false => exact h
theorem PG.step {full : Bool} {base b : Nat} {l : List UInt8} {size line : Int} {W W1 : World} (h : PG full base b l size line W) (hC : Ch (fun _ => False) W W1) : PG full base b l size line W1 := by
  cases full with
  | true => exact Bld.step h hC
  | false => obtain ⟨p, v, hb⟩ := h; exact ⟨p, v, hC.heap hb (fun h => h)⟩
theorem PG.line {full : Bool} {base b : Nat} {l : List UInt8} {size line : Int} {W : World} (h : PG full base b l size line W) (line' : Int) : PG full base b l size line' (W.setCell ⟨b, 3, none⟩ (.int .i64 line')) := by
  cases full with
  | true =>
    obtain ⟨p, v, hb, hp, hown, hne⟩ := h
    exact ⟨p, v, zset hb 3 (.int .i64 line'), hp, own_move hown (fun k hk => Below.heap_setCell W _ _ k (fun e => hne (by rw [hk, e]))), hne⟩
  | false => obtain ⟨p, v, hb⟩ := h; exact ⟨p, v, zset hb 3 (.int .i64 line')⟩
theorem put.calls (full : Bool) (base b : Nat) (l : List UInt8) (size line : Int) (s : List UInt8) (times : Nat) (w : World) (h : PG full base b l size line w) (h0 : 0 ≤ size) (h2 : size + ((s.length * times : Nat) : Int) ≤ 4611686018427387904) (hbb : base ≤ b)
    (ht : times ≤ 9223372036854775807) (hll : full = true → l.length + s.length * times ≤ 140737488355328) :
    Calls Try.prog 67 #[.pointer (some ⟨b, 0, none⟩), .string (txt s), .int .i64 times] w fun e w' => e = .returned (.tuple #[]) ∧ PG full base b (l ++ rep s times) (size + ((s.length * times : Nat) : Int)) line w' ∧ KpB b w w' ∧ Below base w w' := by
  have hm : wrap64 ((s.length : Int) * times) = ((s.length * times : Nat) : Int) := by
    rw [show (s.length : Int) * times = ((s.length * times : Nat) : Int) by push_cast; rfl]
    unfold wrap64; omega
  cases full with
  | true =>
    have := hll rfl
    exact put1.calls base b l size line s times _ w h hm h0 (by omega) h2 hbb ht (by omega) this
  | false =>
    obtain ⟨p, v, hb⟩ := h
    refine (put0.calls b p v size line s times _ w hb hm h0 (by omega) h2).mono ?_
    rintro e w' ⟨rfl, hC, hb'⟩
    exact ⟨rfl, ⟨p, v, hb'⟩, KpB.of_ch hC, below_ch (Below.refl _ _) hC (by have := lt_of_block hb; omega) (fun k h => by omega)⟩
/-- Tokens on their lines, behind some (nf) on a line. -/
def txtA : Bool → Int → List S31 → List UInt8
  | _, _, [] => []
  | nf, line, t :: r => (if t.f2 = line ∧ nf = true then [32] else []) ++ (rep [10] (t.f2 - line).toNat ++ (t.f1.data.toList ++ txtA true t.f2 r))
def okA : Int → List S31 → Prop
  | _, [] => True
  | line, t :: r => line ≤ t.f2 ∧ t.f2 ≤ 65536 ∧ t.f1.size ≤ 65536 ∧ okA t.f2 r
theorem txtA_step (nf : Bool) (line : Int) (t : S31) (r : List S31) : txtA nf line (t :: r) = (if t.f2 = line ∧ nf = true then [32] else []) ++ (rep [10] (t.f2 - line).toNat ++ (t.f1.data.toList ++ txtA true t.f2 r)) := rfl
/-- What must still fit. -/
def fitA (full : Bool) (size : Int) (l : List UInt8) (rest : List UInt8) : Prop := 0 ≤ size ∧ size + ((rest.length : Nat) : Int) + 1 ≤ 4611686018427387904 ∧ (full = true → l.length + rest.length + 1 ≤ 140737488355328)

/-! ### bits_Mul32: function 117 -/
def bits_Mul32.f (a0 : Int) (a1 : Int) : Option (Int × Int) := some (((IntKind.u64.wrap ((IntKind.u64.wrap (a0)) * (IntKind.u64.wrap (a1)))) / 4294967296) % 4294967296, (IntKind.u64.wrap ((IntKind.u64.wrap (a0)) * (IntKind.u64.wrap (a1)))) % 4294967296)
set_option maxHeartbeats 8000000 in
set_option maxRecDepth 100000 in
theorem bits_Mul32.calls (a0 : Int) (a1 : Int) (r1 : Int) (r2 : Int) (w : World) (h : bits_Mul32.f a0 a1 = some (r1, r2)) :
    Calls Try.prog 117 #[.int .u32 a0, .int .u32 a1] w fun e w' => e = .returned (.tuple #[.int .u32 r1, .int .u32 r2]) ∧ Drawn0 w w' := by
  have H : (some (((IntKind.u64.wrap ((IntKind.u64.wrap (a0)) * (IntKind.u64.wrap (a1)))) / 4294967296) % 4294967296, (IntKind.u64.wrap ((IntKind.u64.wrap (a0)) * (IntKind.u64.wrap (a1)))) % 4294967296)) = some (r1, r2) := h
  clear h
  simp only [Option.some.injEq, Prod.mk.injEq] at H
  obtain ⟨rfl, rfl⟩ := H
  go_enter Try.func117, Try.ntmps117
  go_wp2
  go_ret2
  exact ⟨by first | rfl | (simp; done) | (simp [*]; done), by repeat (first | exact Drawn0.refl _ | apply Drawn0.step)⟩

/-! ### bits_Mul64: function 118 -/
def bits_Mul64.f (a0 : Int) (a1 : Int) : Option (Int × Int) := some (IntKind.u64.wrap ((IntKind.u64.wrap ((IntKind.u64.wrap ((a0 / 4294967296) * (a1 / 4294967296))) + ((IntKind.u64.wrap ((IntKind.u64.wrap ((a0 / 4294967296) * (Go.bits .and .u64 a1 4294967295))) + ((IntKind.u64.wrap ((Go.bits .and .u64 a0 4294967295) * (Go.bits .and .u64 a1 4294967295))) / 4294967296))) / 4294967296))) + ((IntKind.u64.wrap ((Go.bits .and .u64 (IntKind.u64.wrap ((IntKind.u64.wrap ((a0 / 4294967296) * (Go.bits .and .u64 a1 4294967295))) + ((IntKind.u64.wrap ((Go.bits .and .u64 a0 4294967295) * (Go.bits .and .u64 a1 4294967295))) / 4294967296))) 4294967295) + (IntKind.u64.wrap ((Go.bits .and .u64 a0 4294967295) * (a1 / 4294967296))))) / 4294967296)), IntKind.u64.wrap (a0 * a1))
set_option maxHeartbeats 8000000 in
set_option maxRecDepth 100000 in
theorem bits_Mul64.calls (a0 : Int) (a1 : Int) (r1 : Int) (r2 : Int) (w : World) (h : bits_Mul64.f a0 a1 = some (r1, r2)) :
    Calls Try.prog 118 #[.int .u64 a0, .int .u64 a1] w fun e w' => e = .returned (.tuple #[.int .u64 r1, .int .u64 r2]) ∧ Drawn0 w w' := by
  have H : (some (IntKind.u64.wrap ((IntKind.u64.wrap ((IntKind.u64.wrap ((a0 / 4294967296) * (a1 / 4294967296))) + ((IntKind.u64.wrap ((IntKind.u64.wrap ((a0 / 4294967296) * (Go.bits .and .u64 a1 4294967295))) + ((IntKind.u64.wrap ((Go.bits .and .u64 a0 4294967295) * (Go.bits .and .u64 a1 4294967295))) / 4294967296))) / 4294967296))) + ((IntKind.u64.wrap ((Go.bits .and .u64 (IntKind.u64.wrap ((IntKind.u64.wrap ((a0 / 4294967296) * (Go.bits .and .u64 a1 4294967295))) + ((IntKind.u64.wrap ((Go.bits .and .u64 a0 4294967295) * (Go.bits .and .u64 a1 4294967295))) / 4294967296))) 4294967295) + (IntKind.u64.wrap ((Go.bits .and .u64 a0 4294967295) * (a1 / 4294967296))))) / 4294967296)), IntKind.u64.wrap (a0 * a1))) = some (r1, r2) := h
  clear h
  simp only [Option.some.injEq, Prod.mk.injEq] at H
  obtain ⟨rfl, rfl⟩ := H
  go_enter Try.func118, Try.ntmps118
  go_wp2
  go_ret2
  exact ⟨by first | rfl | (simp; done) | (simp [*]; done), by repeat (first | exact Drawn0.refl _ | apply Drawn0.step)⟩

/-! ### bits_Mul: function 106 -/
def bits_Mul.f (a0 : Int) (a1 : Int) : Option (Int × Int) := (bits_Mul64.f a0 a1).bind fun bt112 => (some (bt112.1, bt112.2))
set_option maxHeartbeats 8000000 in
set_option maxRecDepth 100000 in
theorem bits_Mul.calls (a0 : Int) (a1 : Int) (r1 : Int) (r2 : Int) (w : World) (h : bits_Mul.f a0 a1 = some (r1, r2)) :
    Calls Try.prog 106 #[.int .u64 a0, .int .u64 a1] w fun e w' => e = .returned (.tuple #[.int .u64 r1, .int .u64 r2]) ∧ Drawn0 w w' := by
  have H : ((bits_Mul64.f a0 a1).bind fun bt112 => (some (bt112.1, bt112.2))) = some (r1, r2) := h
  clear h
  replace H := Option.bind_eq_some_iff.mp H
  obtain ⟨⟨t112, t113⟩, A30, H⟩ := H
  replace H : (some (t112, t113)) = some (r1, r2) := H
  have A3 := Aside0.mk A30
  clear A30
  simp only [Option.some.injEq, Prod.mk.injEq] at H
  obtain ⟨rfl, rfl⟩ := H
  go_enter Try.func106, Try.ntmps106
  go_wp2_with (first | ((with_reducible refine gate_callee (f := 118) rfl ?_); refine goesL_ (some 25) rfl rfl Try.func118 (by kernel_rfl) rfl #[.int .u64 a0, .int .u64 a1] rfl (by (try simp only [List.map_toArray, List.map_cons, List.map_nil]); first | done | rfl | (simp only [List.length_drop, List.length_take]; rfl)) ?_; (with_reducible refine (bits_Mul64.calls a0 a1 t112 t113 _ A3.out).mono ?_); rintro e w' ⟨rfl, ⟨nd, rfl⟩⟩; refine ⟨_, rfl, ?_⟩))
  go_ret2
  exact ⟨by first | rfl | (simp; done) | (simp [*]; done), by repeat (first | exact Drawn0.refl _ | apply Drawn0.step)⟩

/-! ### stringslite_HasPrefix: function 119 -/
def stringslite_HasPrefix.f (a0 : ByteArray) (a1 : ByteArray) : Option (Bool) := if (a0.size : Int) ≥ (a1.size : Int) then (if 0 ≤ (a1.size : Int) then (if (a1.size : Int) ≤ (a0.size : Int) then (some ((a0.extract 0 ((a1.size : Int) : Int).toNat).toList == a1.toList)) else (none)) else (none)) else (some false)
set_option maxHeartbeats 8000000 in
set_option maxRecDepth 100000 in
theorem stringslite_HasPrefix.calls (a0 : ByteArray) (a1 : ByteArray) (r : Bool) (w : World) (h : stringslite_HasPrefix.f a0 a1 = some r) :
    Calls Try.prog 119 #[.string a0, .string a1] w fun e w' => e = .returned (.bool r) ∧ Drawn0 w w' := by
  have H : (if (a0.size : Int) ≥ (a1.size : Int) then (if 0 ≤ (a1.size : Int) then (if (a1.size : Int) ≤ (a0.size : Int) then (some ((a0.extract 0 ((a1.size : Int) : Int).toNat).toList == a1.toList)) else (none)) else (none)) else (some false)) = some r := h
  clear h
  by_cases c3 : (a0.size : Int) ≥ (a1.size : Int)
  · rw [if_pos c3] at H
    have c3b0 : decide ((a1.size : Int) ≤ (a0.size : Int)) = true := decide_eq_true c3
    have c3b1 : decide (a1.size ≤ a0.size) = true := decide_eq_true (Int.ofNat_le.mp c3)
    clear c3
    by_cases c4 : 0 ≤ (a1.size : Int)
    · rw [if_pos c4] at H
      have c4b0 := eq_true c4
      have c4b1 : decide (0 ≤ (a1.size : Int)) = true := decide_eq_true c4
      clear c4
      by_cases c5 : (a1.size : Int) ≤ (a0.size : Int)
      · rw [if_pos c5] at H
        have c5b0 := eq_true c5
        have c5b1 : decide ((a1.size : Int) ≤ (a0.size : Int)) = true := decide_eq_true c5
        clear c5
        obtain rfl := Option.some.inj H
        go_enter Try.func119, Try.ntmps119
        go_wp2
        go_ret
        exact ⟨by first | rfl | (simp; done) | (simp [*]; done), by repeat (first | exact Drawn0.refl _ | apply Drawn0.step)⟩
      · rw [if_neg c5] at H
        exact absurd H (by simp)
    · rw [if_neg c4] at H
      exact absurd H (by simp)
  · rw [if_neg c3] at H
    have c3b0 : decide ((a1.size : Int) ≤ (a0.size : Int)) = false := decide_eq_false c3
    have c3b1 : decide (a1.size ≤ a0.size) = false := decide_eq_false (fun h => c3 (Int.ofNat_le.mpr h))
    clear c3
    obtain rfl := Option.some.inj H
    go_enter Try.func119, Try.ntmps119
    go_wp2
    go_ret
    exact ⟨by first | rfl | (simp; done) | (simp [*]; done), by repeat (first | exact Drawn0.refl _ | apply Drawn0.step)⟩

/-! ### strings_HasPrefix: function 107 -/
def strings_HasPrefix.f (a0 : ByteArray) (a1 : ByteArray) : Option (Bool) := (stringslite_HasPrefix.f a0 a1).bind fun t114 => (some t114)
set_option maxHeartbeats 8000000 in
set_option maxRecDepth 100000 in
theorem strings_HasPrefix.calls (a0 : ByteArray) (a1 : ByteArray) (r : Bool) (w : World) (h : strings_HasPrefix.f a0 a1 = some r) :
    Calls Try.prog 107 #[.string a0, .string a1] w fun e w' => e = .returned (.bool r) ∧ Drawn0 w w' := by
  have H : ((stringslite_HasPrefix.f a0 a1).bind fun t114 => (some t114)) = some r := h
  clear h
  replace H := Option.bind_eq_some_iff.mp H
  obtain ⟨t114, A30, H⟩ := H
  replace H : (some t114) = some r := H
  have A3 := Aside0.mk A30
  clear A30
  obtain rfl := Option.some.inj H
  go_enter Try.func107, Try.ntmps107
  go_wp2_with (first | ((with_reducible refine gate_callee (f := 119) rfl ?_); refine goesL_ (some 7) rfl rfl Try.func119 (by kernel_rfl) rfl #[.string a0, .string a1] rfl (by (try simp only [List.map_toArray, List.map_cons, List.map_nil]); first | done | rfl | (simp only [List.length_drop, List.length_take]; rfl)) ?_; (with_reducible refine (stringslite_HasPrefix.calls a0 a1 t114 _ A3.out).mono ?_); rintro e w' ⟨rfl, ⟨nd, rfl⟩⟩; refine ⟨_, rfl, ?_⟩))
  go_ret
  exact ⟨by first | rfl | (simp; done) | (simp [*]; done), by repeat (first | exact Drawn0.refl _ | apply Drawn0.step)⟩

end Go.Proofs.Ytoloneoeojoiaaa.ELexMay
