-- Written by a program of this seat, over a copy of the print; parts by hand.
import Derived.Test.YtoloneoeojoiaaaEParseBackx0
import Derived.Test.YtoloneoeojoiaaaEParseBackx1
import Derived.Test.YtoloneoeojoiaaaEParseBackx5
import Derived.Test.YtoloneoeojoiaaaEParseBackx6
namespace Go.Proofs.Ytoloneoeojoiaaa.EParseBack
open Go.RowKit Go.Proofs.YtoloneoeojoiaaaW.PrintWords Go.Proofs.YtoloneoeojoiaaaW.PrintLast Go.Proofs.YtoloneoeojoiaaaW.PrintMore
attribute [local go_sem] max2_int min2_int max_two min_two max_three min_three max_four min_four   -- for this text's walks alone
set_option linter.unusedVariables false
set_option linter.unusedSimpArgs false

/-! ### parse_Shape: function 95 -/
def parse_Shape.f (k : Nat) (a0_0 : Int) (a0_1 : ByteArray) (l0_2 : List (S50)) : Option (Int) := (parse_Deep.f k a0_0 a0_1 l0_2).bind fun t167 => (if t167 > 8 then (some 42) else ((parse_shape.f k a0_0 a0_1 l0_2).bind fun t168 => (some t168)))
theorem parse_Shape.mono : ∀ a0 a1 a2 k, LeO (parse_Shape.f k a0 a1 a2) (parse_Shape.f (k + 1) a0 a1 a2) := by
  intro a0 a1 a2 k
  unfold parse_Shape.f
  repeat' first
      | (with_reducible exact parse_Deep.mono _ _ _ _)
      | (with_reducible exact parse_shape.mono _ _ _ _)
      | (with_reducible exact LeO.refl _)
      | (with_reducible exact LeO.none _)
      | (with_reducible refine LeO.ite ?_ ?_)
      | (with_reducible refine LeO.bind ?_ (fun _ => ?_))
      | exact parse_Deep.mono _ _ _ _
      | exact parse_shape.mono _ _ _ _
      | exact LeO.none _
      | refine LeO.ite ?_ ?_
      | refine LeO.bind ?_ (fun _ => ?_)
set_option maxHeartbeats 8000000 in
set_option maxRecDepth 100000 in
theorem parse_Shape.calls (k : Nat) (a0_0 : Int) (a0_1 : ByteArray) (A0_2 : Option Addr) (c0_2 : Nat) (l0_2 : List (S50)) (r : Int) (w : World) (hr0_2 : Kd.C k50 w A0_2 l0_2.length l0_2) (hc0_2 : l0_2.length ≤ c0_2) (h : parse_Shape.f k a0_0 a0_1 l0_2 = some r) :
    Calls Try.prog 95 #[.agg #[.int .i64 a0_0, .string a0_1, .slice A0_2 l0_2.length c0_2]] w fun e w' => e = .returned (.int .i64 r) ∧ Below w.heap.size w w' := by
  have hu50 := Try.underlying50
  have HR0_2 := Aside0.mk hr0_2
  have HC0_2 := Aside0.mk hc0_2
  clear hr0_2 hc0_2
  have HB := Aside0.mk (Below.refl w.heap.size w)
  have H : ((parse_Deep.f k a0_0 a0_1 l0_2).bind fun t167 => (if t167 > 8 then (some 42) else ((parse_shape.f k a0_0 a0_1 l0_2).bind fun t168 => (some t168)))) = some r := h
  clear h
  replace H := Option.bind_eq_some_iff.mp H
  obtain ⟨t167, A20, H⟩ := H
  replace H : (if t167 > 8 then (some 42) else ((parse_shape.f k a0_0 a0_1 l0_2).bind fun t168 => (some t168))) = some r := H
  have A2 := Aside0.mk A20
  clear A20
  by_cases c3 : t167 > 8
  · rw [if_pos c3] at H
    have c3b0 : decide (8 < t167) = true := decide_eq_true c3
    clear c3
    obtain rfl := Option.some.inj H
    go_enter Try.func95, Try.ntmps95
    go_wp2_with (first | ((with_reducible refine gate_dst (N := 1) rfl ?_); refine box_event ?hg (N := 1) ?hd (cs := #[.int .i64 a0_0, .string a0_1, .slice A0_2 l0_2.length c0_2]) (t := 50) ?hr ?_; (case hd => rfl); (case hg => rfl); (case hr => first | (go_simp; done) | (go_simp; rfl)); intro gb166 hg w4 hbox hb; have n0_ := Aside0.mk (below_step (by repeat (first | (with_reducible first | exact HB.out | apply below_alloc | apply pw_below_drewN | apply below_drew1) | exact HB.out)) hb); have n1_ := Aside0.mk (hbox); have n2_ := Aside0.mk ((by rw [hg]; exact (below_size (by repeat (first | (with_reducible first | exact HB.out | apply below_alloc | apply pw_below_drewN | apply below_drew1) | exact HB.out))) : w.heap.size ≤ gb166)); have n3_ := Aside0.mk ((by rw [hg]; exact (below_size (by repeat (first | (with_reducible first | exact HB.out | apply below_alloc | apply pw_below_drewN | apply below_drew1) | exact HB.out))) : w.heap.size ≤ gb166)); clear HB; have HB := n0_; have BK166 := n1_; have GW166 := n2_; have GE166 := n3_; clear n0_ n1_ n2_ n3_; clear hb hbox hg; have hcz5_0 : w4.cell? ⟨gb166, 0, none⟩ = some (.int .i64 a0_0) := (blk_cell BK166.out 0).trans rfl; have hcz5_1 : w4.cell? ⟨gb166, 1, none⟩ = some (.string a0_1) := (blk_cell BK166.out 1).trans rfl; have hcz5_2 : w4.cell? ⟨gb166, 2, none⟩ = some (.slice A0_2 l0_2.length c0_2) := (blk_cell BK166.out 2).trans rfl; have hfz5_0 := blk_frozen BK166.out 0; have hfz5_1 := blk_frozen BK166.out 1; have hfz5_2 := blk_frozen BK166.out 2) | ((with_reducible refine gate_callee (f := 110) rfl ?_); refine goesL_ (some 4) rfl rfl Try.func110 (by kernel_rfl) rfl #[.agg #[.int .i64 a0_0, .string a0_1, .slice A0_2 l0_2.length c0_2]] rfl (by (try simp only [List.map_toArray, List.map_cons, List.map_nil]); first | done | rfl | (simp only [List.length_drop, List.length_take]; rfl)) ?_; (with_reducible refine (parse_Deep.calls k a0_0 a0_1 _ _ l0_2 t167 _ ?side1 ?side2 A2.out).mono ?_); (case side1 => repeat (first | exact (Kd.C_below HR0_2.out HB.out) | (with_reducible refine Kd.C_alloc ?_ _) | (with_reducible refine Kd.C_drewN ?_ _) | (with_reducible refine Kd.C_drew ?_))); (case side2 => exact HC0_2.out); rintro e w6 ⟨rfl, hb⟩; refine ⟨_, rfl, ?_⟩; have n0_ := Aside0.mk (blk_below (g := gb166) (o := .cells #[.int .i64 a0_0, .string a0_1, .slice A0_2 l0_2.length c0_2] 50 (0, 0)) (by (with_reducible repeat (first | refine blk_drewN ?_ _ | refine blk_drew ?_ | refine blk_alloc ?_ _)); exact BK166.out) hb); have n1_ := Aside0.mk (below_step (by repeat (first | (with_reducible first | exact HB.out | apply below_alloc | apply pw_below_drewN | apply below_drew1 | refine below_set ?_ GE166.out) | exact HB.out)) hb); clear BK166; clear HB; have BK166 := n0_; have HB := n1_; clear n0_ n1_; (try clear hb); (try clear hb2); (try clear hk); (try clear hi)))
    go_ret
    exact ⟨by first | rfl | (simp [errW_none, errW_some] <;> rfl) | (simp [*, errW_none, errW_some] <;> rfl) | kernel_rfl, by repeat (first | (with_reducible first | exact HB.out | apply below_alloc | apply pw_below_drewN | apply below_drew1 | refine below_set ?_ GE166.out) | exact HB.out)⟩
  · rw [if_neg c3] at H
    have c3b0 : decide (8 < t167) = false := decide_eq_false c3
    clear c3
    replace H := Option.bind_eq_some_iff.mp H
    obtain ⟨t168, A70, H⟩ := H
    replace H : (some t168) = some r := H
    have A7 := Aside0.mk A70
    clear A70
    obtain rfl := Option.some.inj H
    go_enter Try.func95, Try.ntmps95
    go_wp2_with (first | ((with_reducible refine gate_dst (N := 1) rfl ?_); refine box_event ?hg (N := 1) ?hd (cs := #[.int .i64 a0_0, .string a0_1, .slice A0_2 l0_2.length c0_2]) (t := 50) ?hr ?_; (case hd => rfl); (case hg => rfl); (case hr => first | (go_simp; done) | (go_simp; rfl)); intro gb166 hg w8 hbox hb; have n0_ := Aside0.mk (below_step (by repeat (first | (with_reducible first | exact HB.out | apply below_alloc | apply pw_below_drewN | apply below_drew1) | exact HB.out)) hb); have n1_ := Aside0.mk (hbox); have n2_ := Aside0.mk ((by rw [hg]; exact (below_size (by repeat (first | (with_reducible first | exact HB.out | apply below_alloc | apply pw_below_drewN | apply below_drew1) | exact HB.out))) : w.heap.size ≤ gb166)); have n3_ := Aside0.mk ((by rw [hg]; exact (below_size (by repeat (first | (with_reducible first | exact HB.out | apply below_alloc | apply pw_below_drewN | apply below_drew1) | exact HB.out))) : w.heap.size ≤ gb166)); clear HB; have HB := n0_; have BK166 := n1_; have GW166 := n2_; have GE166 := n3_; clear n0_ n1_ n2_ n3_; clear hb hbox hg; have hcz9_0 : w8.cell? ⟨gb166, 0, none⟩ = some (.int .i64 a0_0) := (blk_cell BK166.out 0).trans rfl; have hcz9_1 : w8.cell? ⟨gb166, 1, none⟩ = some (.string a0_1) := (blk_cell BK166.out 1).trans rfl; have hcz9_2 : w8.cell? ⟨gb166, 2, none⟩ = some (.slice A0_2 l0_2.length c0_2) := (blk_cell BK166.out 2).trans rfl; have hfz9_0 := blk_frozen BK166.out 0; have hfz9_1 := blk_frozen BK166.out 1; have hfz9_2 := blk_frozen BK166.out 2) | ((with_reducible refine gate_callee (f := 110) rfl ?_); refine goesL_ (some 4) rfl rfl Try.func110 (by kernel_rfl) rfl #[.agg #[.int .i64 a0_0, .string a0_1, .slice A0_2 l0_2.length c0_2]] rfl (by (try simp only [List.map_toArray, List.map_cons, List.map_nil]); first | done | rfl | (simp only [List.length_drop, List.length_take]; rfl)) ?_; (with_reducible refine (parse_Deep.calls k a0_0 a0_1 _ _ l0_2 t167 _ ?side1 ?side2 A2.out).mono ?_); (case side1 => repeat (first | exact (Kd.C_below HR0_2.out HB.out) | (with_reducible refine Kd.C_alloc ?_ _) | (with_reducible refine Kd.C_drewN ?_ _) | (with_reducible refine Kd.C_drew ?_))); (case side2 => exact HC0_2.out); rintro e w10 ⟨rfl, hb⟩; refine ⟨_, rfl, ?_⟩; have n0_ := Aside0.mk (blk_below (g := gb166) (o := .cells #[.int .i64 a0_0, .string a0_1, .slice A0_2 l0_2.length c0_2] 50 (0, 0)) (by (with_reducible repeat (first | refine blk_drewN ?_ _ | refine blk_drew ?_ | refine blk_alloc ?_ _)); exact BK166.out) hb); have n1_ := Aside0.mk (below_step (by repeat (first | (with_reducible first | exact HB.out | apply below_alloc | apply pw_below_drewN | apply below_drew1 | refine below_set ?_ GE166.out) | exact HB.out)) hb); clear BK166; clear HB; have BK166 := n0_; have HB := n1_; clear n0_ n1_; (try clear hb); (try clear hb2); (try clear hk); (try clear hi); have hcz11_0 : w10.cell? ⟨gb166, 0, none⟩ = some (.int .i64 a0_0) := (blk_cell BK166.out 0).trans rfl; have hcz11_1 : w10.cell? ⟨gb166, 1, none⟩ = some (.string a0_1) := (blk_cell BK166.out 1).trans rfl; have hcz11_2 : w10.cell? ⟨gb166, 2, none⟩ = some (.slice A0_2 l0_2.length c0_2) := (blk_cell BK166.out 2).trans rfl; have hfz11_0 := blk_frozen BK166.out 0; have hfz11_1 := blk_frozen BK166.out 1; have hfz11_2 := blk_frozen BK166.out 2) | ((with_reducible refine gate_callee (f := 111) rfl ?_); refine goesL_ (some 7) rfl rfl Try.func111 (by kernel_rfl) rfl #[.agg #[.int .i64 a0_0, .string a0_1, .slice A0_2 l0_2.length c0_2]] rfl (by (try simp only [List.map_toArray, List.map_cons, List.map_nil]); first | done | rfl | (simp only [List.length_drop, List.length_take]; rfl)) ?_; (with_reducible refine (parse_shape.calls k a0_0 a0_1 _ _ l0_2 t168 _ ?side1 ?side2 A7.out).mono ?_); (case side1 => repeat (first | exact (Kd.C_below HR0_2.out HB.out) | (with_reducible refine Kd.C_alloc ?_ _) | (with_reducible refine Kd.C_drewN ?_ _) | (with_reducible refine Kd.C_drew ?_))); (case side2 => exact HC0_2.out); rintro e w12 ⟨rfl, hb⟩; refine ⟨_, rfl, ?_⟩; have n0_ := Aside0.mk (blk_below (g := gb166) (o := .cells #[.int .i64 a0_0, .string a0_1, .slice A0_2 l0_2.length c0_2] 50 (0, 0)) (by (with_reducible repeat (first | refine blk_drewN ?_ _ | refine blk_drew ?_ | refine blk_alloc ?_ _)); exact BK166.out) hb); have n1_ := Aside0.mk (below_step (by repeat (first | (with_reducible first | exact HB.out | apply below_alloc | apply pw_below_drewN | apply below_drew1 | refine below_set ?_ GE166.out) | exact HB.out)) hb); clear BK166; clear HB; have BK166 := n0_; have HB := n1_; clear n0_ n1_; (try clear hb); (try clear hb2); (try clear hk); (try clear hi)))
    go_ret
    exact ⟨by first | rfl | (simp [errW_none, errW_some] <;> rfl) | (simp [*, errW_none, errW_some] <;> rfl) | kernel_rfl, by repeat (first | (with_reducible first | exact HB.out | apply below_alloc | apply pw_below_drewN | apply below_drew1 | refine below_set ?_ GE166.out) | exact HB.out)⟩

-- by hand: parseword.inc
def parse_word.f : Nat → Int → ByteArray → List (S50) → Option (ByteArray)
  | 0, _, _, _ => none
  | k + 1, a0, a1, l => if a0 = 6 ∨ a0 = 7 then (if 0 < l.length then (parse_word.f k (rd_T50 l 0).f0 (rd_T50 l 0).f1 (rd_T50 l 0).f2).bind fun s => (if s.size ≤ 1000000 then some (if a0 = 6 then (⟨#[91]⟩ : ByteArray) ++ s ++ (⟨#[93]⟩ : ByteArray) else (⟨#[63]⟩ : ByteArray) ++ s) else none) else none)
    else (if a0 = 8 then some a1 else (if 1 ≤ a0 ∧ a0 ≤ 5 then some (PLAINS.getD (a0 - 1).toNat ByteArray.empty) else none))
set_option maxHeartbeats 4000000 in
set_option maxRecDepth 100000 in
theorem word_named.calls (a1 : ByteArray) (v : Value) (w : World) (hv : ∃ A n c, v = .slice A n c) :
    Calls Try.prog 96 #[.agg #[.int .i64 8, .string a1, v]] w fun e w' => e = .returned (.string a1) ∧ Below w.heap.size w w' := by
  obtain ⟨A, n, c, rfl⟩ := hv
  go_enter Try.func96, Try.ntmps96
  go_wp2_with (first | ((with_reducible refine gate_dst (N := 1) rfl ?_); refine box_event ?hg (N := 1) ?hd (cs := #[.int .i64 8, .string a1, .slice A n c]) (t := 50) ?hr ?_; (case hd => rfl); (case hg => rfl); (case hr => first | (go_simp; done) | (go_simp; rfl)); intro g2 hg1 w1 hbox hb; have K1 := Aside0.mk hbox; have HW1 := Aside0.mk hb; clear hg1 hbox hb; have z1 := zcell K1.out 0 _ rfl; have z2 := zcell K1.out 1 _ rfl; have z3 := zcell K1.out 2 _ rfl))
  go_ret
  exact ⟨rfl, HW1.out⟩
set_option maxHeartbeats 4000000 in
set_option maxRecDepth 100000 in
theorem word_plain.calls (a0 : Int) (a1 : ByteArray) (v : Value) (w : World) (hv : ∃ A n c, v = .slice A n c) (h1 : 1 ≤ a0) (h5 : a0 ≤ 5) :
    Calls Try.prog 96 #[.agg #[.int .i64 a0, .string a1, v]] w fun e w' => e = .returned (.string (PLAINS.getD (a0 - 1).toNat ByteArray.empty)) ∧ Below w.heap.size w w' := by
  obtain ⟨A, n, c, rfl⟩ := hv
  obtain ⟨j, hj⟩ : ∃ j : Nat, a0 - 1 = (j : Int) := ⟨(a0 - 1).toNat, by omega⟩
  have hj4 : j ≤ 4 := by omega
  rw [hj, Int.toNat_natCast]
  have hwr : IntKind.i64.wrap (a0 - 1) = (j : Int) := by rw [IntKind.wrap_i64]; omega
  have hwr2 : IntKind.i64.wrap (j : Int) = (j : Int) := by rw [IntKind.wrap_i64]; omega
  have q6 : (a0 == 6) = false := beq_eq_false_iff_ne.mpr (by omega)
  have q7 : (a0 == 7) = false := beq_eq_false_iff_ne.mpr (by omega)
  have q8 : (a0 == 8) = false := beq_eq_false_iff_ne.mpr (by omega)
  go_enter Try.func96, Try.ntmps96
  go_wp2_with (first | ((with_reducible refine gate_dst (N := 1) rfl ?_); refine box_event ?hg (N := 1) ?hd (cs := #[.int .i64 a0, .string a1, .slice A n c]) (t := 50) ?hr ?_; (case hd => rfl); (case hg => rfl); (case hr => first | (go_simp; done) | (go_simp; rfl)); intro g2 hg1 w1 hbox hb; have K1 := Aside0.mk hbox; have HW1 := Aside0.mk hb; clear hg1 hbox hb; have z1 := zcell K1.out 0 _ rfl; have z2 := zcell K1.out 1 _ rfl; have z3 := zcell K1.out 2 _ rfl))
  refine wp_region_held_drew (S := fun W : World => W.cell? ⟨g2, 0, none⟩ = some (.int .i64 a0)) (by kernel_rfl) (by exact z1) (fun hHeld => ?_)
  refine wpAnyH_take (i := 1) (v := ?v0) rfl (by kernel_rfl) (by kernel_rfl) (by kernel_rfl) (fun _ _ _ h => h) (Or.inl ⟨by rfl, ?h0⟩) (by assumption) ?r0
  case h0 => (intro w hSw; (try dsimp only at hSw); go_simp; (first | done | with_reducible rfl))
  case r0 =>
  (try simp only [Act.put, List.setIfInBounds_toArray, List.set_cons_zero, List.set_cons_succ])
  refine wpAnyH_take (i := 2) (v := ?v1) rfl (by kernel_rfl) (by kernel_rfl) (by kernel_rfl) (fun _ _ _ h => h) (Or.inl ⟨by rfl, ?h1⟩) (by assumption) ?r1
  case h1 => (intro w hSw; (try dsimp only at hSw); go_simp; (first | done | with_reducible rfl))
  case r1 =>
  (try simp only [Act.put, List.setIfInBounds_toArray, List.set_cons_zero, List.set_cons_succ])
  refine wpAnyH_take (i := 3) (v := .int .i64 (j : Int)) rfl (by kernel_rfl) (by kernel_rfl) (by kernel_rfl) (fun _ _ _ h => h) (Or.inl ⟨by rfl, ?h2⟩) (by assumption) ?r2
  case h2 => (intro w hSw; (try dsimp only at hSw); go_simp; (first | done | with_reducible rfl | rw [hwr2]))
  case r2 =>
  (try simp only [Act.put, List.setIfInBounds_toArray, List.set_cons_zero, List.set_cons_succ])
  refine wpAnyH_ready (rs := [0]) (by kernel_rfl) (by simp) ?_
  refine AllReadyH.cons rfl (fun K hK => ?_) (AllReadyH.nil)
  go_simp
  go_wp2_with (go_at_call 112; refine (plains.calls _).mono ?_; rintro e w3 ⟨⟨g, rfl, hC⟩, hb⟩; obtain ⟨ad, e0, hx⟩ := Kd.at_string hC (j : Int) (by omega) (by show (j : Int) < 5; omega); cases e0; have HB3 := Aside0.mk hb; have HX := Aside0.mk hx; clear hC hb hx)
  refine hK.out _ _ ?s20 (fun hHeld2 => ?t20)
  case s20 => ((try dsimp only); exact cell_step HB3.out hHeld)
  case t20 =>
  clear hK K hHeld
  have hHeld := hHeld2
  clear hHeld2
  (try simp only [Act.put, List.setIfInBounds_toArray, List.set_cons_zero, List.set_cons_succ])
  have hr0 : (0 : Int) ≤ (j : Int) := by omega
  have hr5 : (j : Int) < 5 := by omega
  obtain ⟨s, hs⟩ : ∃ s, s = rdOf ByteArray.empty PLAINS (j : Int) := ⟨_, rfl⟩
  have hx : w3.cell? ⟨g, j, none⟩ = some (.string s) := by have := HX.out; rw [← hs, Int.toNat_natCast] at this; (by_cases j0 : j = 0); (subst j0; exact this); (simpa [Addr.add, j0] using this)
  have HSS := Aside0.mk hs
  clear hs HX
  refine wpAnyH_take (i := 4) (v := ?v21) rfl (by kernel_rfl) (by kernel_rfl) (by kernel_rfl) (fun _ _ _ h => h) (Or.inl ⟨by rfl, ?h21⟩) (by assumption) ?r21
  case h21 => (intro w hSw; (try dsimp only at hSw); go_simp; (first | done | with_reducible rfl))
  case r21 =>
  (try simp only [Act.put, List.setIfInBounds_toArray, List.set_cons_zero, List.set_cons_succ])
  refine wpAnyH_ready (rs := [5]) (by kernel_rfl) (by simp) ?_
  refine AllReadyH.cons rfl (fun K hK => ?_) (AllReadyH.nil)
  go_simp
  refine hK.out _ _ ?s22 (fun hHeld2 => ?t22)
  case s22 => ((try dsimp only); exact hHeld)
  case t22 =>
  clear hK K hHeld
  have hHeld := hHeld2
  clear hHeld2
  (try simp only [Act.put, List.setIfInBounds_toArray, List.set_cons_zero, List.set_cons_succ])
  refine wpAnyH_ready (rs := [6]) (by kernel_rfl) (by simp) ?_
  refine AllReadyH.cons rfl (fun K hK => ?_) (AllReadyH.nil)
  go_simp
  refine hK.out _ _ ?s40 (fun hHeld2 => ?t40)
  case s40 => ((try dsimp only); exact hHeld)
  case t40 =>
  clear hK K hHeld
  (try simp only [Act.put, List.setIfInBounds_toArray, List.set_cons_zero, List.set_cons_succ])
  refine wpAnyH_done (by kernel_rfl) ?_ _
  go_wp2_with fail
  go_ret
  refine ⟨?_, below_b HW1.out (below_drew1 (Below.refl _ _) |>.trans HB3.out) HW1.out.size⟩
  rw [HSS.out]; rfl
theorem add0_3 (a : Addr) : a.add (Int.toNat 0 * 3) = a := by cases a; simp [Addr.add]
set_option maxHeartbeats 4000000 in
set_option maxRecDepth 100000 in
theorem word_of.calls (a0 : Int) (h67 : a0 = 6 ∨ a0 = 7) (a1 : ByteArray) (A : Option Addr) (c : Nat) (l : List S50) (s : ByteArray) (w : World) (hr : Kd.C k50 w A l.length l) (hc : l.length ≤ c) (h0 : 0 < l.length) (hs : s.size ≤ 1000000)
    (ih : ∀ (A2 : Option Addr) (c2 : Nat) (w2 : World), Kd.C k50 w2 A2 (rd_T50 l 0).f2.length (rd_T50 l 0).f2 → (rd_T50 l 0).f2.length ≤ c2 → Calls Try.prog 96 #[.agg #[.int .i64 (rd_T50 l 0).f0, .string (rd_T50 l 0).f1, .slice A2 (rd_T50 l 0).f2.length c2]] w2 fun e w' => e = .returned (.string s) ∧ Below w2.heap.size w2 w') :
    Calls Try.prog 96 #[.agg #[.int .i64 a0, .string a1, .slice A l.length c]] w fun e w' => e = .returned (.string (if a0 = 6 then (⟨#[91]⟩ : ByteArray) ++ s ++ (⟨#[93]⟩ : ByteArray) else (⟨#[63]⟩ : ByteArray) ++ s)) ∧ Below w.heap.size w w' := by
  have HR := Aside0.mk hr
  have HIH := Aside0.mk ih
  have HS := Aside0.mk hs
  obtain ⟨ad0, e0⟩ : ∃ ad, A = some ad := by
    obtain ⟨ad0, _, _, e0, _⟩ := at_T50 hr 0 (Int.le_refl 0) (by omega)
    exact ⟨ad0, e0⟩
  subst e0
  clear hr ih hs
  obtain ⟨t, ht⟩ : ∃ t, t = rd_T50 l 0 := ⟨_, rfl⟩
  have HT := Aside0.mk ht
  rw [← ht] at HIH
  clear ht
  obtain ⟨n, hn⟩ : ∃ n, n = l.length := ⟨_, rfl⟩
  rw [← hn]
  rw [← hn] at HR hc h0
  have hd0 : decide ((0 : Int) < ((n : Nat) : Int)) = true := decide_eq_true (by omega)
  have hi0 : (0 : Int) < ((n : Nat) : Int) := by omega
  have HN := Aside0.mk hn
  clear hn
  have z1 : (⟨#[91]⟩ : ByteArray).size + s.size ≤ 140737488355328 := by have := HS.out; show 1 + s.size ≤ _; omega
  have z2 : ((⟨#[91]⟩ : ByteArray) ++ s).size + (⟨#[93]⟩ : ByteArray).size ≤ 140737488355328 := by have := HS.out; rw [ByteArray.size_append]; show 1 + s.size + 1 ≤ _; omega
  have z3 : (⟨#[63]⟩ : ByteArray).size + s.size ≤ 140737488355328 := by have := HS.out; show 1 + s.size ≤ _; omega
  rcases h67 with rfl | rfl
  · go_enter Try.func96, Try.ntmps96
    go_wp2_with (first | ((with_reducible refine gate_dst (N := 1) rfl ?_); refine box_event ?hg (N := 1) ?hd (cs := #[.int .i64 6, .string a1, .slice (some ad0) n c]) (t := 50) ?hr ?_; (case hd => rfl); (case hg => rfl); (case hr => first | (go_simp; done) | (go_simp; rfl)); intro g2 hg1 w1 hbox hb; have K1 := Aside0.mk hbox; have HW1 := Aside0.mk hb; clear hg1 hbox hb; have y1 := zcell K1.out 0 _ rfl; have y2 := zcell K1.out 1 _ rfl; have y3 := zcell K1.out 2 _ rfl; obtain ⟨ad1, A2, c2, e1, x0, x1, x2, l2, C2⟩ := at_T50 (Kd.C_below HR.out HW1.out) 0 (Int.le_refl 0) hi0; (cases e1); rw [← HT.out] at x0 x1 x2 l2 C2; rw [add0_3] at x0 x1 x2; have HC2 := Aside0.mk C2; clear C2))
    go_at_call 96
    refine (HIH.out A2 c2 w1 HC2.out l2).mono ?_
    rintro e w2 ⟨rfl, hb⟩
    have HW2 := Aside0.mk (below_b HW1.out hb HW1.out.size)
    clear hb y1 y2 y3 x0 x1 x2 HC2
    go_wp2_with fail
    go_ret
    exact ⟨rfl, HW2.out⟩
  · go_enter Try.func96, Try.ntmps96
    go_wp2_with (first | ((with_reducible refine gate_dst (N := 1) rfl ?_); refine box_event ?hg (N := 1) ?hd (cs := #[.int .i64 7, .string a1, .slice (some ad0) n c]) (t := 50) ?hr ?_; (case hd => rfl); (case hg => rfl); (case hr => first | (go_simp; done) | (go_simp; rfl)); intro g2 hg1 w1 hbox hb; have K1 := Aside0.mk hbox; have HW1 := Aside0.mk hb; clear hg1 hbox hb; have y1 := zcell K1.out 0 _ rfl; have y2 := zcell K1.out 1 _ rfl; have y3 := zcell K1.out 2 _ rfl; obtain ⟨ad1, A2, c2, e1, x0, x1, x2, l2, C2⟩ := at_T50 (Kd.C_below HR.out HW1.out) 0 (Int.le_refl 0) hi0; (cases e1); rw [← HT.out] at x0 x1 x2 l2 C2; rw [add0_3] at x0 x1 x2; have HC2 := Aside0.mk C2; clear C2))
    go_at_call 96
    refine (HIH.out A2 c2 w1 HC2.out l2).mono ?_
    rintro e w2 ⟨rfl, hb⟩
    have HW2 := Aside0.mk (below_b HW1.out hb HW1.out.size)
    clear hb y1 y2 y3 x0 x1 x2 HC2
    go_wp2_with fail
    go_ret
    exact ⟨rfl, HW2.out⟩
set_option maxHeartbeats 1000000 in
theorem parse_word.calls (k : Nat) : ∀ (a0_0 : Int) (a0_1 : ByteArray) (A0_2 : Option Addr) (c0_2 : Nat) (l0_2 : List (S50)) (r : ByteArray) (w : World) (hr0_2 : Kd.C k50 w A0_2 l0_2.length l0_2) (hc0_2 : l0_2.length ≤ c0_2) (h : parse_word.f k a0_0 a0_1 l0_2 = some r),
    Calls Try.prog 96 #[.agg #[.int .i64 a0_0, .string a0_1, .slice A0_2 l0_2.length c0_2]] w fun e w' => e = .returned (.string r) ∧ Below w.heap.size w w' := by
  induction k with
  | zero => intro a0 a1 A c l r w hr hc h; rw [parse_word.f] at h; cases h
  | succ k ih =>
    intro a0 a1 A c l r w hr hc h
    rw [parse_word.f] at h
    by_cases h67 : a0 = 6 ∨ a0 = 7
    · rw [if_pos h67] at h
      by_cases h0 : 0 < l.length
      · rw [if_pos h0] at h
        cases hq : parse_word.f k (rd_T50 l 0).f0 (rd_T50 l 0).f1 (rd_T50 l 0).f2 with
        | none => rw [hq] at h; cases h
        | some s =>
          rw [hq] at h
          replace h : (if s.size ≤ 1000000 then some (if a0 = 6 then (⟨#[91]⟩ : ByteArray) ++ s ++ (⟨#[93]⟩ : ByteArray) else (⟨#[63]⟩ : ByteArray) ++ s) else none) = some r := h
          by_cases hs : s.size ≤ 1000000
          · rw [if_pos hs] at h
            cases h
            exact word_of.calls a0 h67 a1 A c l s w hr hc h0 hs (fun A2 c2 w2 hC hl => ih _ _ A2 c2 _ s w2 hC hl hq)
          · rw [if_neg hs] at h; cases h
      · rw [if_neg h0] at h; cases h
    · rw [if_neg h67] at h
      by_cases h8 : a0 = 8
      · rw [if_pos h8] at h
        cases h
        subst h8
        exact word_named.calls a1 _ w ⟨A, l.length, c, rfl⟩
      · rw [if_neg h8] at h
        by_cases h15 : 1 ≤ a0 ∧ a0 ≤ 5
        · rw [if_pos h15] at h
          cases h
          exact word_plain.calls a0 a1 _ w ⟨A, l.length, c, rfl⟩ h15.1 h15.2
        · rw [if_neg h15] at h; cases h

-- NOT PRINTED: function 71 (parse_printer_typed)

-- NOT PRINTED: function 72 (parse_printer_method)

-- NOT PRINTED: function 47 (parse_printer_all)

-- NOT PRINTED: function 31 (parse_Print)

-- NOT PRINTED: function 12 (waybilllaw05_ParseBack)

end Go.Proofs.Ytoloneoeojoiaaa.EParseBack

