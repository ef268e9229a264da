/- Searches among events, a copy, what is left without some, equal ones. -/
import Derived.Test.YtemleanglkaedaaCalm1
namespace Go.Proofs.Ytemleanglkaedaa.ECalmPlans
open Go.RowKit Go.Shelf Go.Proofs.YtemleanglkaedaaW.PrintWords Go.Proofs.YtemleanglkaedaaW.PrintLast Go.Proofs.YtemleanglkaedaaW.PrintMore
set_option linter.unusedVariables false
set_option linter.unusedSimpArgs false
def issB (x : SE) : Bool := decide (x.f0 = 1)
set_option maxHeartbeats 400000 in
set_option maxRecDepth 100000 in
theorem iss1.calls (x : SE) (w : World) : Calls Try.prog 79 #[.agg #[.int .i64 x.f0, .int .i64 x.f1, .int .i64 x.f2, .int .i64 x.g0, .int .i64 x.g1, .int .i64 x.g2, .int .i64 x.g3, .int .i64 x.v, .slice x.s.1 x.s.2.1 x.s.2.2]] w fun e w' => e = .returned (.bool (issB x)) ∧ Below w.heap.size w w' := by
  unfold issB
  by_cases h : x.f0 = 1
  · have hd : decide (x.f0 = 1) = true := by simp [h]
    try rw [hd]
    try simp only [Bool.true_or, Bool.false_or, Bool.not_true, Bool.not_false]
    go_enter Try.func79, Try.ntmps79
    go_wp2_with fail
    all_goals (try go_wp2)
    go_ret
    exact ⟨by first | rfl | (simp [h]; done) | (simp [h] <;> rfl), below_alloc (Below.refl _ _) _⟩
  · have hd : decide (x.f0 = 1) = false := by simp [h]
    try rw [hd]
    try simp only [Bool.true_or, Bool.false_or, Bool.not_true, Bool.not_false]
    go_enter Try.func79, Try.ntmps79
    go_wp2_with fail
    all_goals (try go_wp2)
    go_ret
    exact ⟨by first | rfl | (simp [h]; done) | (simp [h] <;> rfl), below_alloc (Below.refl _ _) _⟩
def nisB (x : SE) : Bool := !(decide (x.f0 = 1))
set_option maxHeartbeats 400000 in
set_option maxRecDepth 100000 in
theorem nis1.calls (x : SE) (w : World) : Calls Try.prog 55 #[.agg #[.int .i64 x.f0, .int .i64 x.f1, .int .i64 x.f2, .int .i64 x.g0, .int .i64 x.g1, .int .i64 x.g2, .int .i64 x.g3, .int .i64 x.v, .slice x.s.1 x.s.2.1 x.s.2.2]] w fun e w' => e = .returned (.bool (nisB x)) ∧ Below w.heap.size w w' := by
  unfold nisB
  by_cases h : x.f0 = 1
  · have hd : decide (x.f0 = 1) = true := by simp [h]
    try rw [hd]
    try simp only [Bool.true_or, Bool.false_or, Bool.not_true, Bool.not_false]
    go_enter Try.func55, Try.ntmps55
    go_wp2_with fail
    all_goals (try go_wp2)
    go_ret
    exact ⟨by first | rfl | (simp [h]; done) | (simp [h] <;> rfl), below_alloc (Below.refl _ _) _⟩
  · have hd : decide (x.f0 = 1) = false := by simp [h]
    try rw [hd]
    try simp only [Bool.true_or, Bool.false_or, Bool.not_true, Bool.not_false]
    go_enter Try.func55, Try.ntmps55
    go_wp2_with fail
    all_goals (try go_wp2)
    go_ret
    exact ⟨by first | rfl | (simp [h]; done) | (simp [h] <;> rfl), below_alloc (Below.refl _ _) _⟩
def othB (x : SE) : Bool := !(decide (x.f0 = 2)) || !(decide (x.f2 = 0))
set_option maxHeartbeats 400000 in
set_option maxRecDepth 100000 in
theorem oth1.calls (x : SE) (w : World) : Calls Try.prog 113 #[.agg #[.int .i64 x.f0, .int .i64 x.f1, .int .i64 x.f2, .int .i64 x.g0, .int .i64 x.g1, .int .i64 x.g2, .int .i64 x.g3, .int .i64 x.v, .slice x.s.1 x.s.2.1 x.s.2.2]] w fun e w' => e = .returned (.bool (othB x)) ∧ Below w.heap.size w w' := by
  unfold othB
  by_cases h : x.f0 = 2
  · have hd : decide (x.f0 = 2) = true := by simp [h]
    try rw [hd]
    try simp only [Bool.true_or, Bool.false_or, Bool.not_true, Bool.not_false]
    go_enter Try.func113, Try.ntmps113
    go_wp2_with fail
    all_goals (try go_wp2)
    go_ret
    exact ⟨by first | rfl | (simp [h]; done) | (simp [h] <;> rfl), below_alloc (Below.refl _ _) _⟩
  · have hd : decide (x.f0 = 2) = false := by simp [h]
    try rw [hd]
    try simp only [Bool.true_or, Bool.false_or, Bool.not_true, Bool.not_false]
    go_enter Try.func113, Try.ntmps113
    go_wp2_with fail
    all_goals (try go_wp2)
    go_ret
    exact ⟨by first | rfl | (simp [h]; done) | (simp [h] <;> rfl), below_alloc (Below.refl _ _) _⟩
set_option maxHeartbeats 1000000 in
set_option maxRecDepth 100000 in
theorem iss_idx.calls (A : Option Addr) (c : Nat) (l : List SE) (w : World) (hr : Kd.C kE w A l.length l) (hc : l.length ≤ c) :
    Calls Try.prog 76 #[.slice A l.length c, .func (.func 79) #[] #[]] w fun e w' => e = .returned (.int .i64 (idxL issB l)) ∧ Below w.heap.size w w' := by
  have HR := Aside0.mk hr
  have hlen : l.length ≤ 9223372036854775807 := hr.2.1
  have HB := Aside0.mk (Below.refl w.heap.size w)
  clear hr
  obtain ⟨g, hg⟩ : ∃ g, g = idxL issB l := ⟨_, rfl⟩
  rw [← hg]
  have HG : Aside0 (g = idxFrom issB 0 (l.drop 0)) := ⟨hg⟩
  clear hg
  go_enter Try.func76, Try.ntmps76
  go_wp2
  go_loopw [5, 8] (fun v5 v8 W => ∃ i : Int, 0 ≤ i ∧ i ≤ l.length ∧ v8 = .int .i64 i ∧ Aside0 (g = idxFrom issB i (l.drop i.toNat)) ∧ Aside0 (Below w.heap.size w W)) (fun _ v _ => l.length - (intOf v).toNat)
  case atStart => exact ⟨0, by omega, by omega, rfl, HG, HB⟩
  case round =>
    clear HB HG
    obtain ⟨i, i0, ile, rfl, HG, HB⟩ := hrel
    have HRw := Aside0.mk (Kd.C_below HR.out HB.out)
    by_cases hlt : i < l.length
    · obtain ⟨ad, e1, hx0, hx1, hx2, hx3, hx4, hx5, hx6, hx7, hx8⟩ := at_E HRw.out i i0 hlt
      cases e1
      have HS := Aside0.mk (idx_step issB l zE i i0 hlt)
      obtain ⟨o, ho⟩ : ∃ o, o = issB (rdE l i) := ⟨_, rfl⟩
      have HO := Aside0.mk ho
      clear ho
      cases o
      · have hgi : g = idxFrom issB (i + 1) (l.drop (i + 1).toNat) := by rw [HG.out, HS.out]; exact if_neg (by show ¬ issB (rdE l i) = true; rw [← HO.out]; decide)
        have HG2 := Aside0.mk hgi
        clear hgi
        go_wp2_with (first | (go_at_call 79; refine (iss1.calls (rdE l i) _).mono ?_; rintro e w1 ⟨rfl, hb⟩; rw [← HO.out]; have HB1 := Aside0.mk (below_b HB.out hb HB.out.size); clear hb))
        refine ⟨⟨i + 1, by omega, by omega, rfl, HG2, HB1⟩, ?_⟩
        simp [intOf]; omega
      · obtain rfl : i = g := by rw [HG.out, HS.out]; exact (if_pos HO.out.symm).symm
        go_wp2_with (first | (go_at_call 79; refine (iss1.calls (rdE l i) _).mono ?_; rintro e w1 ⟨rfl, hb⟩; rw [← HO.out]; have HB1 := Aside0.mk (below_b HB.out hb HB.out.size); clear hb))
        go_ret
        exact ⟨rfl, HB1.out⟩
    · obtain rfl : g = -1 := by rw [HG.out, List.drop_eq_nil_of_le (by omega)]; rfl
      go_wp2
      go_ret
      exact ⟨rfl, HB.out⟩
set_option maxHeartbeats 1000000 in
set_option maxRecDepth 100000 in
theorem nis_idx.calls (A : Option Addr) (c : Nat) (l : List SE) (w : World) (hr : Kd.C kE w A l.length l) (hc : l.length ≤ c) :
    Calls Try.prog 76 #[.slice A l.length c, .func (.func 55) #[] #[]] w fun e w' => e = .returned (.int .i64 (idxL nisB l)) ∧ Below w.heap.size w w' := by
  have HR := Aside0.mk hr
  have hlen : l.length ≤ 9223372036854775807 := hr.2.1
  have HB := Aside0.mk (Below.refl w.heap.size w)
  clear hr
  obtain ⟨g, hg⟩ : ∃ g, g = idxL nisB l := ⟨_, rfl⟩
  rw [← hg]
  have HG : Aside0 (g = idxFrom nisB 0 (l.drop 0)) := ⟨hg⟩
  clear hg
  go_enter Try.func76, Try.ntmps76
  go_wp2
  go_loopw [5, 8] (fun v5 v8 W => ∃ i : Int, 0 ≤ i ∧ i ≤ l.length ∧ v8 = .int .i64 i ∧ Aside0 (g = idxFrom nisB i (l.drop i.toNat)) ∧ Aside0 (Below w.heap.size w W)) (fun _ v _ => l.length - (intOf v).toNat)
  case atStart => exact ⟨0, by omega, by omega, rfl, HG, HB⟩
  case round =>
    clear HB HG
    obtain ⟨i, i0, ile, rfl, HG, HB⟩ := hrel
    have HRw := Aside0.mk (Kd.C_below HR.out HB.out)
    by_cases hlt : i < l.length
    · obtain ⟨ad, e1, hx0, hx1, hx2, hx3, hx4, hx5, hx6, hx7, hx8⟩ := at_E HRw.out i i0 hlt
      cases e1
      have HS := Aside0.mk (idx_step nisB l zE i i0 hlt)
      obtain ⟨o, ho⟩ : ∃ o, o = nisB (rdE l i) := ⟨_, rfl⟩
      have HO := Aside0.mk ho
      clear ho
      cases o
      · have hgi : g = idxFrom nisB (i + 1) (l.drop (i + 1).toNat) := by rw [HG.out, HS.out]; exact if_neg (by show ¬ nisB (rdE l i) = true; rw [← HO.out]; decide)
        have HG2 := Aside0.mk hgi
        clear hgi
        go_wp2_with (first | (go_at_call 55; refine (nis1.calls (rdE l i) _).mono ?_; rintro e w1 ⟨rfl, hb⟩; rw [← HO.out]; have HB1 := Aside0.mk (below_b HB.out hb HB.out.size); clear hb))
        refine ⟨⟨i + 1, by omega, by omega, rfl, HG2, HB1⟩, ?_⟩
        simp [intOf]; omega
      · obtain rfl : i = g := by rw [HG.out, HS.out]; exact (if_pos HO.out.symm).symm
        go_wp2_with (first | (go_at_call 55; refine (nis1.calls (rdE l i) _).mono ?_; rintro e w1 ⟨rfl, hb⟩; rw [← HO.out]; have HB1 := Aside0.mk (below_b HB.out hb HB.out.size); clear hb))
        go_ret
        exact ⟨rfl, HB1.out⟩
    · obtain rfl : g = -1 := by rw [HG.out, List.drop_eq_nil_of_le (by omega)]; rfl
      go_wp2
      go_ret
      exact ⟨rfl, HB.out⟩
set_option maxHeartbeats 1000000 in
set_option maxRecDepth 100000 in
theorem oth_idx.calls (A : Option Addr) (c : Nat) (l : List SE) (w : World) (hr : Kd.C kE w A l.length l) (hc : l.length ≤ c) :
    Calls Try.prog 76 #[.slice A l.length c, .func (.func 113) #[] #[]] w fun e w' => e = .returned (.int .i64 (idxL othB l)) ∧ Below w.heap.size w w' := by
  have HR := Aside0.mk hr
  have hlen : l.length ≤ 9223372036854775807 := hr.2.1
  have HB := Aside0.mk (Below.refl w.heap.size w)
  clear hr
  obtain ⟨g, hg⟩ : ∃ g, g = idxL othB l := ⟨_, rfl⟩
  rw [← hg]
  have HG : Aside0 (g = idxFrom othB 0 (l.drop 0)) := ⟨hg⟩
  clear hg
  go_enter Try.func76, Try.ntmps76
  go_wp2
  go_loopw [5, 8] (fun v5 v8 W => ∃ i : Int, 0 ≤ i ∧ i ≤ l.length ∧ v8 = .int .i64 i ∧ Aside0 (g = idxFrom othB i (l.drop i.toNat)) ∧ Aside0 (Below w.heap.size w W)) (fun _ v _ => l.length - (intOf v).toNat)
  case atStart => exact ⟨0, by omega, by omega, rfl, HG, HB⟩
  case round =>
    clear HB HG
    obtain ⟨i, i0, ile, rfl, HG, HB⟩ := hrel
    have HRw := Aside0.mk (Kd.C_below HR.out HB.out)
    by_cases hlt : i < l.length
    · obtain ⟨ad, e1, hx0, hx1, hx2, hx3, hx4, hx5, hx6, hx7, hx8⟩ := at_E HRw.out i i0 hlt
      cases e1
      have HS := Aside0.mk (idx_step othB l zE i i0 hlt)
      obtain ⟨o, ho⟩ : ∃ o, o = othB (rdE l i) := ⟨_, rfl⟩
      have HO := Aside0.mk ho
      clear ho
      cases o
      · have hgi : g = idxFrom othB (i + 1) (l.drop (i + 1).toNat) := by rw [HG.out, HS.out]; exact if_neg (by show ¬ othB (rdE l i) = true; rw [← HO.out]; decide)
        have HG2 := Aside0.mk hgi
        clear hgi
        go_wp2_with (first | (go_at_call 113; refine (oth1.calls (rdE l i) _).mono ?_; rintro e w1 ⟨rfl, hb⟩; rw [← HO.out]; have HB1 := Aside0.mk (below_b HB.out hb HB.out.size); clear hb))
        refine ⟨⟨i + 1, by omega, by omega, rfl, HG2, HB1⟩, ?_⟩
        simp [intOf]; omega
      · obtain rfl : i = g := by rw [HG.out, HS.out]; exact (if_pos HO.out.symm).symm
        go_wp2_with (first | (go_at_call 113; refine (oth1.calls (rdE l i) _).mono ?_; rintro e w1 ⟨rfl, hb⟩; rw [← HO.out]; have HB1 := Aside0.mk (below_b HB.out hb HB.out.size); clear hb))
        go_ret
        exact ⟨rfl, HB1.out⟩
    · obtain rfl : g = -1 := by rw [HG.out, List.drop_eq_nil_of_le (by omega)]; rfl
      go_wp2
      go_ret
      exact ⟨rfl, HB.out⟩
set_option maxHeartbeats 400000 in
theorem nis_any.calls (A : Option Addr) (c : Nat) (l : List SE) (w : World) (hr : Kd.C kE w A l.length l) (hc : l.length ≤ c) :
    Calls Try.prog 54 #[.slice A l.length c, .func (.func 55) #[] #[]] w fun e w' => e = .returned (.bool (l.any nisB)) ∧ Below w.heap.size w w' := by
  have HI := Aside0.mk (idx_any nisB l)
  have HC := Aside0.mk (nis_idx.calls A c l w hr hc)
  clear hr
  go_enter Try.func54, Try.ntmps54
  go_wp2_with (first | (go_at_call 76; refine HC.out.mono ?_; rintro e w' ⟨rfl, hb⟩; have HB := Aside0.mk hb; clear hb))
  go_ret
  exact ⟨by rw [← HI.out]; rfl, HB.out⟩
theorem sp_R_empty {α : Type} (d : Kd α) (e : Nat) (w : World) (base : Nat) (ok : Nat → Prop) (hb : base ≤ w.heap.size) (hok : ok w.heap.size) : d.R e (w.alloc (.cells #[] e)) base ok (.slice (some ⟨w.heap.size, 0, none⟩) 0 0) [] :=
  ⟨fun k hk => by have : w.heap.size = k := by simpa [Value.ownBlock] using hk
                  rw [← this]; exact hok, [], World.ownsRow_made w #[] 0 hb (by decide) (by simp), Reps.none _ _⟩
set_option maxHeartbeats 1000000 in
set_option maxRecDepth 100000 in
theorem cloneE.calls (A : Option Addr) (c : Nat) (l : List SE) (w : World) (hr : Kd.C kE w A l.length l) (hc : l.length ≤ c) (hl : l.length ≤ 1000) :
    Calls Try.prog 56 #[.slice A l.length c] w fun e w' => (∃ v, e = .returned v ∧ Kd.R kE 77 w' w.heap.size (fun _ => True) v l) ∧ Below w.heap.size w w' := by
  have HR := Aside0.mk hr
  have HL := Aside0.mk hl
  clear hl
  cases A with
  | none =>
    have hl0 : l = [] := by
      have h3 := hr.2.2
      rcases Nat.eq_zero_or_pos l.length with h | h
      · exact List.eq_nil_of_length_eq_zero h
      · obtain ⟨ad, e, _⟩ := h3 h
        cases e
    clear hr
    subst hl0
    have hnl : Sem.run Try.prog (binOp .eql 71 (.slice none 0 c) (.slice none 0 0)) w = .ok (.bool true) w := Lib.run_eql_slice_nil (P := Try.prog) w 71 77 none 0 c 0 0 Try.underlying71
    have hl1 : ([] : List SE).length = 0 := rfl
    rw [hl1]
    clear HR HL hc hl1
    go_enter Try.func56, Try.ntmps56
    go_wp2_with fail
    go_ret
    exact ⟨⟨_, rfl, Kd.R_nil _ _ _ _ _⟩, Below.refl _ _⟩
  | some ad =>
    clear hr
    have hnl := Lib.run_eql_slice_nil (P := Try.prog) w 71 77 (some ad) l.length c 0 0 Try.underlying71
    go_enter Try.func56, Try.ntmps56
    go_wp2_with (first | ((with_reducible refine gate_builtin (b := .append) (xs := #[.tmp 5, .tmp 6]) rfl ?_); at_builtin; refine Kd.R_append_rows kE (w0 := w) w.heap.size rfl (.tmp 5) (.tmp 6) 71 77 (.agg #[(.int .i64 0), (.int .i64 0), (.int .i64 0), (.int .i64 0), (.int .i64 0), (.int .i64 0), (.int .i64 0), (.int .i64 0), (.slice none 0 0)]) 88 rfl Try.underlying71 info77 rfl (by decide) (by omega) (.slice (some ⟨w.heap.size, 0, none⟩) 0 0) ([] : List (SE)) l _ _ _ (fun _ => True) (fun _ => False) rfl rfl ?aO ?aR (fun _ _ h => h) (fun _ h => h.elim) ?aF ?aB ?aS ?aL ?_; (case aR => exact Kd.C_alloc HR.out _); (case aB => exact below_alloc (Below.refl _ _) _); (case aF => exact (fun _ _ => trivial)); (case aO => exact sp_R_empty kE 77 w _ _ (Nat.le_refl _) trivial); (case aS => exact below_size (below_alloc (Below.refl _ _) _)); (case aL => have := HL.out; simp only [List.length_nil]; omega); intro v117 w3 ho hb hg hat; have HB := Aside0.mk hb; have HO := Aside0.mk ho; clear ho hb hg hat))
    go_ret
    exact ⟨⟨_, rfl, HO.out⟩, HB.out⟩
section
variable {P : Program} {ops : Array Oper} {rest : List Oper} {o : Oper} {a : Act} {Q : Exit → Act → World → Prop}
theorem clearCells_run {W : World} {g c' n k : Nat} {cur : Array Value} {z : Array Value} {t e ty : TypeId} (ht : P.underlying t = some (.slice e)) (hz : (zeroValue e).run P W = .ok (.agg z) W) (hh : W.heap[g]? = some (.cells cur e (0, 0))) (h1 : ∀ q ∈ (Builtin.zeroCells z (n + 1)).toList, q.oneCell' = true)
    (hfit : k + (Builtin.zeroCells z (n + 1)).size ≤ cur.size) : (Builtin.clear_ #[t] ty #[.slice (some ⟨g, k, none⟩) (n + 1) c']).run P W = .ok (.tuple #[]) (W.setCells g k (Builtin.zeroCells z (n + 1)).toList) := by
  have hst := run_storeCells_cells (P := P) g k (Builtin.zeroCells z (n + 1)).toList 0 W (fun j hj => by rw [cell_of_row W g _ cur e (0, 0) hh]; simp at hj ⊢; omega) (fun j _ => blk_frozen hh _) h1
  simp only [Nat.add_zero] at hst
  have hzc : (Value.agg z).cells = z := rfl
  simp [Builtin.clear_, run_underlying ht, hz, hst, hzc]
end
theorem zeroE_one (m : Nat) : ∀ q ∈ (Builtin.zeroCells #[.int .i64 0, .int .i64 0, .int .i64 0, .int .i64 0, .int .i64 0, .int .i64 0, .int .i64 0, .int .i64 0, .slice none 0 0] m).toList, q.oneCell' = true := by
  intro q hq
  simp only [Builtin.zeroCells, Array.toList_map, List.mem_map] at hq
  obtain ⟨i, _, rfl⟩ := hq
  have : i % 9 < 9 := Nat.mod_lt _ (by decide)
  show (#[Value.int .i64 0, .int .i64 0, .int .i64 0, .int .i64 0, .int .i64 0, .int .i64 0, .int .i64 0, .int .i64 0, .slice none 0 0][i % 9]!).oneCell' = true
  generalize i % 9 = r at this
  have hr : r = 0 ∨ r = 1 ∨ r = 2 ∨ r = 3 ∨ r = 4 ∨ r = 5 ∨ r = 6 ∨ r = 7 ∨ r = 8 := by omega
  rcases hr with rfl | rfl | rfl | rfl | rfl | rfl | rfl | rfl | rfl <;> rfl
theorem zeroE_size (m : Nat) : (Builtin.zeroCells #[.int .i64 0, .int .i64 0, .int .i64 0, .int .i64 0, .int .i64 0, .int .i64 0, .int .i64 0, .int .i64 0, .slice none 0 0] m).size = m * 9 := by simp [Builtin.zeroCells]
theorem kE_sz : kE.sz = 9 := rfl
/-- What lies behind the first m elements is written: these stay. -/
theorem R_tailE {W : World} {base g n cap m : Nat} {ok : Nat → Prop} {xs : List SE} (h : kE.R 77 W base ok (.slice (some ⟨g, 0, none⟩) n cap) xs) (hm : m ≤ n) (vs : List Value) (hv : m * 9 + vs.length ≤ n * 9) :
    kE.R 77 (W.setCells g (m * 9) vs) base ok (.slice (some ⟨g, 0, none⟩) m cap) (xs.take m) := by
  have hn := (Kd.R_reads' h).1
  obtain ⟨h0, inner, ho, hr⟩ := Kd.R_take h (m := m) (by omega)
  refine ⟨h0, inner, ?_, hr.imp_ (fun x c hp => by
    have := kE_openM hp
    subst this
    exact kE_mkM _ _ _ x)⟩
  obtain ⟨h1, h2⟩ := ho
  refine ⟨h1, ?_⟩
  have hl : (xs.take m).length = m := by rw [List.length_take]; omega
  rw [hl, kE_sz] at h2 ⊢
  rcases h2 with ⟨hv2, _⟩ | ⟨g', cap', cur, hv2, hb, hh, hnc', hcm, hcs, ht⟩
  · cases hv2
  injection hv2 with ha _ hc
  injection ha with ha
  injection ha with hg
  subst hg; subst hc
  have hnc : n ≤ cap := (Kd.R_reads' h).2.1
  have hfit : m * 9 + vs.length ≤ cur.size := by rw [hcs]; omega
  obtain ⟨cur', h3, h4, h5⟩ := setCells_row vs (m * 9) W cur hh hfit
  refine .inr ⟨g, cap, cur', rfl, hb, h3, hnc', hcm, by rw [h4, hcs], ?_⟩
  rw [h5, List.append_assoc, List.take_append_of_le_length (by rw [List.length_take, Array.length_toList]; omega), List.take_take, Nat.min_self]
  exact ht
section
variable {ops : Array Oper} {rest : List Oper} {o : Oper} {a : Act} {Q : Exit → Act → World → Prop}
set_option maxRecDepth 100000 in
theorem store_E {W : World} {base : Nat} (hgd : o.guard = none) (hN : o.dst = none) (p x : Operand) (ho : o.op = .store 77 p x) {g n cap o' : Nat} {ok : Nat → Prop} (i : Int) (ys : List SE) (x' : SE) (haddr : a.eval p = .pointer (some ⟨g, o', none⟩)) (hoff : o' = i.toNat * 9) (hx : a.eval x = .agg (cellsE x').toArray)
    (HO : kE.R 77 W base ok (.slice (some ⟨g, 0, none⟩) n cap) ys) (h0 : 0 ≤ i) (hi : i < n)
    (h : ∀ w1, kE.R 77 w1 base ok (.slice (some ⟨g, 0, none⟩) n cap) (ys.set i.toNat x') → Ch (fun k => k = g) W w1 → wpList Try.prog ops Q rest a w1) : wpList Try.prog ops Q (o :: rest) a W := by
  obtain ⟨c, hcl, hM, hcc, _⟩ := Kd.R_elem HO zE i h0 hi
  refine Kd.R_store (P := Try.prog) kE (w0 := W) (W := W) 0 hN hgd 77 p x ho 77 i 0 ys x' (.agg (cellsE x').toArray) (cellsE x') c ok (fun _ => False) haddr (by rw [hoff, kE_sz, Nat.add_zero]) hx (by simp [Value.cells]) (by exact (by kernel_rfl : (Try.prog.info? 77).map (·.size) = some 9)) (fun q hq => kE.K_one (kE_mk W x') q hq) (Kd.R_lower HO (Nat.zero_le _)) h0 hi hcl hcc (by exact (by decide : 0 + 9 ≤ 9)) ?_ (fun _ hk => hk.elim) ⟨rfl, rfl, rfl, Nat.le_refl _, fun _ _ => rfl⟩ ?_
  · have : c.take 0 ++ cellsE x' ++ c.drop (0 + (cellsE x').length) = cellsE x' := by
      have h9 : c.length = 9 := hcl
      rw [List.drop_eq_nil_of_le (by rw [h9]; exact Nat.le_refl _)]
      simp
    rw [this]
    exact kE_mkM _ _ _ x'
  · intro w1 hR hB hg
    refine h w1 ?_ ((Ch.refl (fun k => k = g) W).grown hg (fun k hk => .inl (by injection hk with hk; exact hk.symm)))
    have hb : base ≤ g := Kd.R_base HO g (by simp [Value.ownBlock])
    obtain ⟨h0', inner, ⟨h1, h2⟩, hr⟩ := hR
    refine ⟨h0', inner, ⟨h1, ?_⟩, hr.imp_ (fun x c hp => by
      have := kE_openM hp
      subst this
      exact kE_mkM _ _ _ x)⟩
    rcases h2 with h2 | ⟨g', cap', cur, hv2, _, r⟩
    · exact .inl h2
    · refine .inr ⟨g', cap', cur, hv2, ?_, r⟩
      injection hv2 with ha _ _
      injection ha with ha
      injection ha with ha
      omega
set_option maxRecDepth 100000 in
theorem clear_E {W : World} {base : Nat} (hgd : o.guard = none) (hN : o.dst = none) (x : Operand) (ho : o.op = .call { callee := .builtin .clear, args := #[x], argTypes := #[71] }) {g n m cap o' n' c' : Nat} {ok : Nat → Prop} (ys : List SE) (hx : a.eval x = .slice (some ⟨g, o', none⟩) n' c') (hoff : o' = m * 9) (hm : m < n) (hn' : n' = n - m)
    (HO : kE.R 77 W base ok (.slice (some ⟨g, 0, none⟩) n cap) ys)
    (h : ∀ w1, kE.R 77 w1 base ok (.slice (some ⟨g, 0, none⟩) m cap) (ys.take m) → Ch (fun k => k = g) W w1 → wpList Try.prog ops Q rest a w1) : wpList Try.prog ops Q (o :: rest) a W := by
  subst hoff
  obtain ⟨k, hk⟩ : ∃ k, n - m = k + 1 := ⟨n - m - 1, by omega⟩
  rw [hk] at hn'
  subst hn'
  have hfin := R_tailE HO (m := m) (by omega) (Builtin.zeroCells #[.int .i64 0, .int .i64 0, .int .i64 0, .int .i64 0, .int .i64 0, .int .i64 0, .int .i64 0, .int .i64 0, .slice none 0 0] (k + 1)).toList (by rw [Array.length_toList, zeroE_size]; omega)
  obtain ⟨hn0, hnc, _⟩ := Kd.R_reads' HO
  obtain ⟨_, inner, hown, hr⟩ := HO
  have hrun : (Builtin.clear_ #[71] o.type #[.slice (some ⟨g, m * 9, none⟩) (k + 1) c']).run Try.prog W = .ok (.tuple #[]) (W.setCells g (m * 9) (Builtin.zeroCells #[.int .i64 0, .int .i64 0, .int .i64 0, .int .i64 0, .int .i64 0, .int .i64 0, .int .i64 0, .int .i64 0, .slice none 0 0] (k + 1)).toList) := by
    rcases hown.2 with ⟨hv, _⟩ | ⟨g', cap', cur, hv, hb, hh, hnc', hcm, hcs, _⟩
    · cases hv
    injection hv with ha _ hc
    injection ha with ha
    injection ha with hg'
    subst hg'; subst hc
    refine clearCells_run Try.underlying71 ?_ hh (zeroE_one _) ?_
    · obtain ⟨i0, hi, hzz⟩ := Option.map_eq_some_iff.1 info77
      simp only [Prod.mk.injEq] at hzz
      simp [zeroValue, typeInfo, hi, hzz.1]
    · rw [zeroE_size, hcs, kE_sz]; omega
  refine wpList_plain hgd fun K hK => ?_
  unfold Oper.wp execOp
  simp only [ho, resolve, invoke, builtin, Sem.run_bind, Sem.run_pure, Result.andThen_ok, List.map_toArray, List.map_cons, List.map_nil, hx, hrun]
  show K (a.put o.dst _) _
  rw [hN]
  exact hK _ _ (h _ hfin (ch_setCells W g (m * 9) _))
end
/-! slices.DeleteFunc at events: in place. -/
def keepB (x : SE) : Bool := !(issB x)
def DelR (xs ys : List SE) (i j n : Int) : Prop := 0 ≤ i ∧ i < j ∧ j ≤ n ∧ ys.length = xs.length ∧ ys.take i.toNat = (xs.take j.toNat).filter keepB ∧ ys.drop j.toNat = xs.drop j.toNat
theorem filter_len_lt {α : Type} (p : α → Bool) (l : List α) : (l.filter p).length ≤ l.length := List.length_filter_le p l
theorem drop_rd (l : List SE) (j : Nat) (h : j < l.length) : l.drop j = rdE l j :: l.drop (j + 1) := by
  rw [List.drop_eq_getElem_cons h]
  congr 1
  unfold rdE
  rw [Int.toNat_natCast, List.getD_eq_getElem?_getD, List.getElem?_eq_getElem h]; rfl
theorem take_rd (l : List SE) (j : Nat) (h : j < l.length) : l.take (j + 1) = l.take j ++ [rdE l j] := by
  rw [List.take_succ_eq_append_getElem h]
  congr 2
  unfold rdE
  rw [Int.toNat_natCast, List.getD_eq_getElem?_getD, List.getElem?_eq_getElem h]; rfl
theorem DelR.rd {xs ys : List SE} {i j n : Int} (h : DelR xs ys i j n) (hn : n = xs.length) (hj : j < n) : rdE ys j = rdE xs j := by
  obtain ⟨h0, h1, h2, h3, h4, h5⟩ := h
  obtain ⟨k, rfl⟩ : ∃ k : Nat, j = k := ⟨j.toNat, by omega⟩
  rw [Int.toNat_natCast] at h5
  rw [drop_rd ys k (by omega), drop_rd xs k (by omega)] at h5
  exact (List.cons.inj h5).1
theorem DelR.skip {xs ys : List SE} {i j n : Int} (h : DelR xs ys i j n) (hn : n = xs.length) (hj : j < n) (hi : issB (rdE xs j) = true) : DelR xs ys i (j + 1) n := by
  obtain ⟨h0, h1, h2, h3, h4, h5⟩ := h
  obtain ⟨k, rfl⟩ : ∃ k : Nat, j = k := ⟨j.toNat, by omega⟩
  have e : ((k : Int) + 1).toNat = k + 1 := by omega
  rw [Int.toNat_natCast] at h4 h5
  refine ⟨h0, by omega, by omega, h3, ?_, ?_⟩
  · rw [e, take_rd xs k (by omega), List.filter_append, h4]
    have : keepB (rdE xs k) = false := by unfold keepB; rw [hi]; rfl
    simp [List.filter_cons, this]
  · rw [e]
    rw [drop_rd ys k (by omega), drop_rd xs k (by omega)] at h5
    exact (List.cons.inj h5).2
theorem DelR.put {xs ys : List SE} {i j n : Int} (h : DelR xs ys i j n) (hn : n = xs.length) (hj : j < n) (hi : issB (rdE xs j) = false) : DelR xs (ys.set i.toNat (rdE xs j)) (i + 1) (j + 1) n := by
  have hrd := h.rd hn hj
  obtain ⟨h0, h1, h2, h3, h4, h5⟩ := h
  obtain ⟨k, rfl⟩ : ∃ k : Nat, j = k := ⟨j.toNat, by omega⟩
  obtain ⟨m, rfl⟩ : ∃ m : Nat, i = m := ⟨i.toNat, by omega⟩
  have e : ((k : Int) + 1).toNat = k + 1 := by omega
  have e2 : ((m : Int) + 1).toNat = m + 1 := by omega
  rw [Int.toNat_natCast] at h4 h5
  rw [Int.toNat_natCast] at h4
  rw [Int.toNat_natCast]
  refine ⟨by omega, by omega, by omega, by rw [List.length_set]; exact h3, ?_, ?_⟩
  · rw [e, e2, take_rd xs k (by omega), List.filter_append, ← h4]
    have : keepB (rdE xs k) = true := by unfold keepB; rw [hi]; rfl
    have hm : m < ys.length := by omega
    rw [List.take_succ_eq_append_getElem (by rw [List.length_set]; exact hm), List.take_set_of_le (Nat.le_refl _)]
    simp [List.filter_cons, this]
  · rw [e, List.drop_set_of_lt (by omega)]
    rw [drop_rd ys k (by omega), drop_rd xs k (by omega)] at h5
    exact (List.cons.inj h5).2
theorem DelR.start {xs : List SE} {g : Int} (hg : g = idxL issB xs) (h : g ≠ -1) : 0 ≤ g ∧ g < xs.length ∧ DelR xs xs g (g + 1) xs.length := by
  rcases idxFrom_spec issB xs 0 with ⟨h1, _⟩ | ⟨n, h1, h2, h3, h4⟩
  · exact absurd (hg.trans h1) h
  · have e : g = n := by rw [hg]; unfold idxL; rw [h1]; omega
    subst e
    refine ⟨by omega, by omega, by omega, by omega, by omega, rfl, ?_, rfl⟩
    have e2 : ((n : Int) + 1).toNat = n + 1 := by omega
    rw [e2, Int.toNat_natCast, List.take_succ_eq_append_getElem h2, List.filter_append]
    have hk : keepB xs[n] = false := by unfold keepB; rw [h3]; rfl
    rw [List.filter_cons, if_neg (by rw [hk]; decide), List.filter_nil, List.append_nil]
    refine (List.filter_eq_self.2 fun x hx => ?_).symm
    obtain ⟨m, hm, rfl⟩ := List.mem_iff_getElem.1 hx
    have hm' : m < n := by rw [List.length_take] at hm; omega
    rw [List.getElem_take]
    unfold keepB
    rw [h4 m hm']; rfl
theorem DelR.stop {xs ys : List SE} {i j n : Int} (h : DelR xs ys i j n) (hn : n = xs.length) (hj : ¬ j < n) : ys.take i.toNat = xs.filter keepB := by
  obtain ⟨h0, h1, h2, h3, h4, h5⟩ := h
  rw [h4, List.take_of_length_le (by omega)]
theorem none_keep {xs : List SE} (h : (-1 : Int) = idxL issB xs) : xs.filter keepB = xs := by
  rcases idxFrom_spec issB xs 0 with ⟨h1, h2⟩ | ⟨n, h1, _⟩
  · exact List.filter_eq_self.2 fun x hx => by unfold keepB; rw [h2 x hx]; rfl
  · have : idxL issB xs = 0 + n := h1
    omega
def k9 (x : SE) : List Value := [.int .i64 x.f0, .int .i64 x.f1, .int .i64 x.f2, .int .i64 x.g0, .int .i64 x.g1, .int .i64 x.g2, .int .i64 x.g3, .int .i64 x.v, .slice x.s.1 x.s.2.1 x.s.2.2]
theorem R_chE {d : Kd SE} {W W1 : World} {base : Nat} {S ok : Nat → Prop} {v : Value} {xs : List SE} (h : d.R 77 W base ok v xs) (hc : Ch S W W1) (hs : ∀ k, v.ownBlock = some k → ¬ S k) (hM : ∀ w base ok ok' x c, d.M w base ok x c → ∀ w1, d.M w1 base ok' x c) : d.R 77 W1 base ok v xs := by
  obtain ⟨h0, inner, ho, hr⟩ := h
  exact ⟨h0, inner, own_move ho (fun k hk => hc.block k (own_lt ho k hk) (hs k hk)), hr.imp_ (fun _ _ hp => hM _ _ _ _ _ _ hp _)⟩
theorem own_is {gb n c k : Nat} (h : (Value.slice (some ⟨gb, 0, none⟩) n c).ownBlock = some k) : gb = k := by simpa [Value.ownBlock] using h
theorem kE_any (w : World) (base : Nat) (ok ok' : Nat → Prop) (x : SE) (c : List Value) (h : kE.M w base ok x c) (w1 : World) : kE.M w1 base ok' x c := by
  have := kE_openM h
  subst this
  exact kE_mkM _ _ _ x
theorem R_rangeE {W : World} {base g n cap : Nat} {ok : Nat → Prop} {xs : List SE} (h : Kd.R kE 77 W base ok (.slice (some ⟨g, 0, none⟩) n cap) xs) (i : Int) (h0 : 0 ≤ i) (h1 : i < n) : W.rangeAt g (i.toNat * 9) (cellsE (rdE xs i)) := by
  obtain ⟨c, hcl, hM, hcc, _⟩ := Kd.R_elem h zE i h0 h1
  have := kE_openM hM
  subst this
  exact fun j v hj => hcc j v hj
set_option maxHeartbeats 1000000 in
set_option maxRecDepth 100000 in
theorem del.calls (A : Option Addr) (c : Nat) (xs : List SE) (w0 w : World) (base : Nat) (hR : Kd.R kE 77 w base (fun _ => True) (.slice A xs.length c) xs) (hB : Below base w0 w) (hb : base ≤ w.heap.size) :
    Calls Try.prog 78 #[.slice A xs.length c, .func (.func 79) #[] #[]] w fun e w' => (∃ v, e = .returned v ∧ Kd.R kE 77 w' base (fun _ => True) v (xs.filter keepB)) ∧ Below base w0 w' := by
  have HR := Aside0.mk hR
  have HB := Aside0.mk hB
  have HBS := Aside0.mk hb
  obtain ⟨_, hcap, hC⟩ := Kd.R_reads' hR
  have HC := Aside0.mk hC
  have hlen : xs.length ≤ 9223372036854775807 := hC.2.1
  clear hR hB hb hC
  obtain ⟨g, hg⟩ : ∃ g, g = idxL issB xs := ⟨_, rfl⟩
  have HG := Aside0.mk hg
  by_cases hm : g = -1
  · subst hm
    have HF := Aside0.mk (none_keep hg)
    clear hg
    go_enter Try.func78, Try.ntmps78
    go_wp2_with (first | (go_at_call 76; refine (iss_idx.calls A c xs _ HC.out hcap).mono ?_; rintro e w1 ⟨rfl, hb⟩; rw [← HG.out]; have HB1 := Aside0.mk hb; clear hb))
    go_ret
    refine ⟨⟨_, rfl, ?_⟩, HB.out.trans (HB1.out.mono HBS.out)⟩
    rw [HF.out]
    exact Kd.R_below HR.out HB1.out
  · obtain ⟨g0, g1, hD⟩ := DelR.start hg hm
    have HD := Aside0.mk hD
    clear hg hD
    have hgf : (g == -1) = false := by simpa using hm
    have hpos : 0 < xs.length := by omega
    obtain ⟨gb, cap, hv, hbg, hgl, _⟩ := Kd.R_form HR.out hpos
    injection hv with hA _ hc
    subst hA hc
    have HBG := Aside0.mk hbg
    clear hbg hgl hpos
    go_enter Try.func78, Try.ntmps78
    go_wp2_with (first | (go_at_call 76; refine (iss_idx.calls (some ⟨gb, 0, none⟩) c xs _ HC.out hcap).mono ?_; rintro e w1 ⟨rfl, hb⟩; rw [← HG.out]; have HB1 := Aside0.mk (HB.out.trans (hb.mono HBS.out)); have HR1 := Aside0.mk (Kd.R_below HR.out hb); have HS1 := Aside0.mk (Nat.le_trans HBS.out hb.size); clear hb))
    go_loopw [5, 6, 7] (fun v5 v6 v7 W => ∃ (i j : Int) (ys : List SE), 0 ≤ i ∧ i < j ∧ j ≤ xs.length ∧ v5 = .int .i64 i ∧ v6 = .int .i64 j ∧ Aside0 (DelR xs ys i j xs.length) ∧ Aside0 (Kd.R kE 77 W base (fun _ => True) (.slice (some ⟨gb, 0, none⟩) xs.length c) ys) ∧ Aside0 (Below base w0 W) ∧ Aside0 (base ≤ W.heap.size)) (fun _ v _ _ => xs.length - (intOf v).toNat)
    case atStart => exact ⟨g, g + 1, xs, g0, by omega, by omega, rfl, rfl, HD, HR1, HB1, HS1⟩
    case round =>
      clear HD HR1 HB1 HS1 HB HR HC HBS
      obtain ⟨i, j, ys, i0, ij, jn, rfl, rfl, HD, HR, HB, HBS⟩ := hrel
      by_cases hlt : j < xs.length
      · have hrd := DelR.rd HD.out rfl hlt
        obtain ⟨hyl, _, hCy⟩ := Kd.R_reads' HR.out
        have HGL := Aside0.mk (Kd.R_lt HR.out gb rfl)
        have hra := R_rangeE HR.out j (by omega) (by omega)
        rw [hrd] at hra
        obtain ⟨o, ho⟩ : ∃ o, o = issB (rdE xs j) := ⟨_, rfl⟩
        have HDS := Aside0.mk (fun h : issB (rdE xs j) = true => DelR.skip HD.out rfl hlt h)
        have HDP := Aside0.mk (fun h : issB (rdE xs j) = false => DelR.put HD.out rfl hlt h)
        clear hCy hrd hyl
        obtain ⟨x, hx⟩ : ∃ x, x = rdE xs j := ⟨_, rfl⟩
        rw [← hx] at hra ho HDS HDP
        have HRA := Aside0.mk hra
        clear hra
        have HO := Aside0.mk ho
        clear ho hx
        cases o
        · go_wp2_with (first | ((with_reducible refine gate_dst (N := 25) rfl ?_); refine load_mid_w ?hw 77 _ rfl gb (j.toNat * 9) rfl [.int .i64 x.f0, .int .i64 x.f1, .int .i64 x.f2, .int .i64 x.g0, .int .i64 x.g1, .int .i64 x.g2, .int .i64 x.g3, .int .i64 x.v, .slice x.s.1 x.s.2.1 x.s.2.2] _ HRA.out Try.underlying77 rfl (by kernel_rfl) ?_; (case hw => first | rfl | (go_simp; done) | (go_simp; rfl))) | ((with_reducible refine gate_dst (N := 7) rfl ?_); refine box_event ?hg (N := 7) ?hd (cs := #[(.int .i64 0), (.int .i64 0), (.int .i64 0), (.int .i64 0), (.int .i64 0), (.int .i64 0), (.int .i64 0), (.int .i64 0), (.slice none 0 0)]) (t := 77) ?hr ?_; (case hd => rfl); (case hg => rfl); (case hr => first | (go_simp; done) | (go_simp; rfl)); intro b2 hg w2 hbox hb; have HB2 := Aside0.mk (below_b HB.out hb HBS.out); have HBS2 := Aside0.mk (Nat.le_trans HBS.out hb.size); have HR2 := Aside0.mk (Kd.R_below HR.out hb); have BK2 := Aside0.mk hbox; have HNE := Aside0.mk (show gb ≠ b2 from by rw [hg]; exact Nat.ne_of_lt HGL.out); have HSB := Aside0.mk (show base ≤ b2 from by rw [hg]; exact HBS.out); clear hb hbox hg) | ((with_reducible refine gate_store (p := 7) rfl ?_); refine store_all rfl rfl 77 _ _ rfl #[.int .i64 x.f0, .int .i64 x.f1, .int .i64 x.f2, .int .i64 x.g0, .int .i64 x.g1, .int .i64 x.g2, .int .i64 x.g3, .int .i64 x.v, .slice x.s.1 x.s.2.1 x.s.2.2] rfl rfl BK2.out rfl (by kernel_rfl) (by rfl) ?_; intro w3 h1 h2; have BK3 := Aside0.mk h1; have HR3 := Aside0.mk (R_chE HR2.out h2 (fun k hk e => HNE.out ((own_is hk).trans e)) kE_any); have HB3 := Aside0.mk (below_ch HB2.out h2 HBS2.out (fun k e => by rw [e]; exact HSB.out)); have HBS3 := Aside0.mk (Nat.le_trans HBS2.out h2.size); clear h1 h2) | ((with_reducible refine gate_dst (N := 27) rfl ?_); refine load_mid_w ?hw 77 _ rfl b2 0 rfl [.int .i64 x.f0, .int .i64 x.f1, .int .i64 x.f2, .int .i64 x.g0, .int .i64 x.g1, .int .i64 x.g2, .int .i64 x.g3, .int .i64 x.v, .slice x.s.1 x.s.2.1 x.s.2.2] _ (range_of BK3.out (by rfl)) Try.underlying77 rfl (by kernel_rfl) ?_; (case hw => first | rfl | (go_simp; done) | (go_simp; rfl))) | (go_at_call 79; refine (iss1.calls x _).mono ?_; rintro e w4 ⟨rfl, hb⟩; rw [← HO.out]; have HB4 := Aside0.mk (below_b HB3.out hb HBS3.out); have HR4 := Aside0.mk (Kd.R_below HR3.out hb); have HBS4 := Aside0.mk (Nat.le_trans HBS3.out hb.size); have BK4 := Aside0.mk ((Ch.of_below hb (fun _ => False)).heap BK3.out (fun h => h)); clear hb) | ((with_reducible refine gate_dst (N := 32) rfl ?_); refine load_mid_w ?hw 77 _ rfl b2 0 rfl [.int .i64 x.f0, .int .i64 x.f1, .int .i64 x.f2, .int .i64 x.g0, .int .i64 x.g1, .int .i64 x.g2, .int .i64 x.g3, .int .i64 x.v, .slice x.s.1 x.s.2.1 x.s.2.2] _ (range_of BK4.out (by rfl)) Try.underlying77 rfl (by kernel_rfl) ?_; (case hw => first | rfl | (go_simp; done) | (go_simp; rfl))) | ((with_reducible refine gate_store (p := 33) rfl ?_); refine store_E rfl rfl (.tmp 33) (.tmp 32) rfl i ys x rfl rfl rfl HR4.out i0 (by omega) ?_; intro w5 hr hc; have HR5 := Aside0.mk hr; have HB5 := Aside0.mk (below_ch HB4.out hc HBS4.out (fun k e => by rw [e]; exact HBG.out)); have HBS5 := Aside0.mk (Nat.le_trans HBS4.out hc.size); clear hr hc))
          refine ⟨⟨i + 1, j + 1, _, by omega, by omega, by omega, rfl, rfl, ⟨HDP.out HO.out.symm⟩, HR5, HB5, HBS5⟩, ?_⟩
          simp [intOf]; omega
        · go_wp2_with (first | ((with_reducible refine gate_dst (N := 25) rfl ?_); refine load_mid_w ?hw 77 _ rfl gb (j.toNat * 9) rfl [.int .i64 x.f0, .int .i64 x.f1, .int .i64 x.f2, .int .i64 x.g0, .int .i64 x.g1, .int .i64 x.g2, .int .i64 x.g3, .int .i64 x.v, .slice x.s.1 x.s.2.1 x.s.2.2] _ HRA.out Try.underlying77 rfl (by kernel_rfl) ?_; (case hw => first | rfl | (go_simp; done) | (go_simp; rfl))) | ((with_reducible refine gate_dst (N := 7) rfl ?_); refine box_event ?hg (N := 7) ?hd (cs := #[(.int .i64 0), (.int .i64 0), (.int .i64 0), (.int .i64 0), (.int .i64 0), (.int .i64 0), (.int .i64 0), (.int .i64 0), (.slice none 0 0)]) (t := 77) ?hr ?_; (case hd => rfl); (case hg => rfl); (case hr => first | (go_simp; done) | (go_simp; rfl)); intro b2 hg w2 hbox hb; have HB2 := Aside0.mk (below_b HB.out hb HBS.out); have HBS2 := Aside0.mk (Nat.le_trans HBS.out hb.size); have HR2 := Aside0.mk (Kd.R_below HR.out hb); have BK2 := Aside0.mk hbox; have HNE := Aside0.mk (show gb ≠ b2 from by rw [hg]; exact Nat.ne_of_lt HGL.out); have HSB := Aside0.mk (show base ≤ b2 from by rw [hg]; exact HBS.out); clear hb hbox hg) | ((with_reducible refine gate_store (p := 7) rfl ?_); refine store_all rfl rfl 77 _ _ rfl #[.int .i64 x.f0, .int .i64 x.f1, .int .i64 x.f2, .int .i64 x.g0, .int .i64 x.g1, .int .i64 x.g2, .int .i64 x.g3, .int .i64 x.v, .slice x.s.1 x.s.2.1 x.s.2.2] rfl rfl BK2.out rfl (by kernel_rfl) (by rfl) ?_; intro w3 h1 h2; have BK3 := Aside0.mk h1; have HR3 := Aside0.mk (R_chE HR2.out h2 (fun k hk e => HNE.out ((own_is hk).trans e)) kE_any); have HB3 := Aside0.mk (below_ch HB2.out h2 HBS2.out (fun k e => by rw [e]; exact HSB.out)); have HBS3 := Aside0.mk (Nat.le_trans HBS2.out h2.size); clear h1 h2) | ((with_reducible refine gate_dst (N := 27) rfl ?_); refine load_mid_w ?hw 77 _ rfl b2 0 rfl [.int .i64 x.f0, .int .i64 x.f1, .int .i64 x.f2, .int .i64 x.g0, .int .i64 x.g1, .int .i64 x.g2, .int .i64 x.g3, .int .i64 x.v, .slice x.s.1 x.s.2.1 x.s.2.2] _ (range_of BK3.out (by rfl)) Try.underlying77 rfl (by kernel_rfl) ?_; (case hw => first | rfl | (go_simp; done) | (go_simp; rfl))) | (go_at_call 79; refine (iss1.calls x _).mono ?_; rintro e w4 ⟨rfl, hb⟩; rw [← HO.out]; have HB4 := Aside0.mk (below_b HB3.out hb HBS3.out); have HR4 := Aside0.mk (Kd.R_below HR3.out hb); have HBS4 := Aside0.mk (Nat.le_trans HBS3.out hb.size); have BK4 := Aside0.mk ((Ch.of_below hb (fun _ => False)).heap BK3.out (fun h => h)); clear hb) | ((with_reducible refine gate_dst (N := 32) rfl ?_); refine load_mid_w ?hw 77 _ rfl b2 0 rfl [.int .i64 x.f0, .int .i64 x.f1, .int .i64 x.f2, .int .i64 x.g0, .int .i64 x.g1, .int .i64 x.g2, .int .i64 x.g3, .int .i64 x.v, .slice x.s.1 x.s.2.1 x.s.2.2] _ (range_of BK4.out (by rfl)) Try.underlying77 rfl (by kernel_rfl) ?_; (case hw => first | rfl | (go_simp; done) | (go_simp; rfl))) | ((with_reducible refine gate_store (p := 33) rfl ?_); refine store_E rfl rfl (.tmp 33) (.tmp 32) rfl i ys x rfl rfl rfl HR4.out i0 (by omega) ?_; intro w5 hr hc; have HR5 := Aside0.mk hr; have HB5 := Aside0.mk (below_ch HB4.out hc HBS4.out (fun k e => by rw [e]; exact HBG.out)); have HBS5 := Aside0.mk (Nat.le_trans HBS4.out hc.size); clear hr hc))
          refine ⟨⟨i, j + 1, ys, by omega, by omega, by omega, rfl, rfl, ⟨HDS.out HO.out.symm⟩, HR4, HB4, HBS4⟩, ?_⟩
          simp [intOf]; omega
      · have hfin := DelR.stop HD.out rfl hlt
        have HF := Aside0.mk hfin
        clear hfin
        go_wp2_with (first | ((with_reducible refine gate_ (.call { callee := .builtin .clear, args := #[.tmp 38], argTypes := #[71] }) rfl ?_); refine Aside0.out (?_ : Aside0 _)))
        refine ⟨?_⟩
        refine clear_E rfl rfl (.tmp 38) rfl (m := i.toNat) (n := xs.length) ys rfl ?hoff (by omega) ?hn HR.out ?_
        case hoff => rfl
        case hn => rfl
        intro w5 hr hc; have HR5 := Aside0.mk hr; have HB5 := Aside0.mk (below_ch HB.out hc HBS.out (fun k e => by rw [e]; exact HBG.out)); clear hr hc
        go_wp2_with fail
        go_ret
        refine ⟨⟨_, rfl, ?_⟩, HB5.out⟩
        rw [← HF.out]
        exact HR5.out
/-- The nine cells of an event at an address. -/
def C9 (w : World) (a : Addr) (x : SE) : Prop := w.cell? a = some (.int .i64 x.f0) ∧ w.cell? ⟨a.block, a.off + 1, none⟩ = some (.int .i64 x.f1) ∧ w.cell? ⟨a.block, a.off + 2, none⟩ = some (.int .i64 x.f2) ∧ w.cell? ⟨a.block, a.off + 3, none⟩ = some (.int .i64 x.g0) ∧ w.cell? ⟨a.block, a.off + 4, none⟩ = some (.int .i64 x.g1) ∧ w.cell? ⟨a.block, a.off + 5, none⟩ = some (.int .i64 x.g2) ∧ w.cell? ⟨a.block, a.off + 6, none⟩ = some (.int .i64 x.g3) ∧ w.cell? ⟨a.block, a.off + 7, none⟩ = some (.int .i64 x.v) ∧ w.cell? ⟨a.block, a.off + 8, none⟩ = some (.slice x.s.1 x.s.2.1 x.s.2.2)
theorem C9.step {w w1 : World} {a : Addr} {x : SE} (h : C9 w a x) (hb : Below w.heap.size w w1) : C9 w1 a x := by
  obtain ⟨h0, h1, h2, h3, h4, h5, h6, h7, h8⟩ := h
  exact ⟨cell_step hb h0, cell_step hb h1, cell_step hb h2, cell_step hb h3, cell_step hb h4, cell_step hb h5, cell_step hb h6, cell_step hb h7, cell_step hb h8⟩
def tickB (x y : SE) : Bool := decide (x.f0 = y.f0) && decide (x.f1 = y.f1)
set_option maxHeartbeats 400000 in
set_option maxRecDepth 100000 in
theorem tick1.calls (x y : SE) (w : World) : Calls Try.prog 112 #[.agg #[.int .i64 x.f0, .int .i64 x.f1, .int .i64 x.f2, .int .i64 x.g0, .int .i64 x.g1, .int .i64 x.g2, .int .i64 x.g3, .int .i64 x.v, .slice x.s.1 x.s.2.1 x.s.2.2], .agg #[.int .i64 y.f0, .int .i64 y.f1, .int .i64 y.f2, .int .i64 y.g0, .int .i64 y.g1, .int .i64 y.g2, .int .i64 y.g3, .int .i64 y.v, .slice y.s.1 y.s.2.1 y.s.2.2]] w fun e w' => e = .returned (.bool (tickB x y)) ∧ Below w.heap.size w w' := by
  unfold tickB
  by_cases h : x.f0 = y.f0
  · have hd : decide (x.f0 = y.f0) = true := by simp [h]
    rw [hd, Bool.true_and]
    go_enter Try.func112, Try.ntmps112
    go_wp2_with fail
    all_goals (try go_wp2)
    go_ret
    exact ⟨by first | rfl | (simp [h]; done) | (simp [h] <;> rfl), below_alloc (below_alloc (Below.refl _ _) _) _⟩
  · have hd : decide (x.f0 = y.f0) = false := by simp [h]
    rw [hd, Bool.false_and]
    go_enter Try.func112, Try.ntmps112
    go_wp2_with fail
    all_goals (try go_wp2)
    go_ret
    exact ⟨by first | rfl | (simp [h]; done) | (simp [h] <;> rfl), below_alloc (below_alloc (Below.refl _ _) _) _⟩
def eqL : List SE → List SE → Bool
  | x :: l, y :: m => tickB x y && eqL l m
  | _, _ => true
theorem eqL_step (l m : List SE) (i : Int) (h0 : 0 ≤ i) (h : i < l.length) (hlm : l.length = m.length) : eqL (l.drop i.toNat) (m.drop i.toNat) = (tickB (rdE l i) (rdE m i) && eqL (l.drop (i + 1).toNat) (m.drop (i + 1).toNat)) := by
  obtain ⟨k, rfl⟩ : ∃ k : Nat, i = k := ⟨i.toNat, by omega⟩
  have e : ((k : Int) + 1).toNat = k + 1 := by omega
  rw [e, Int.toNat_natCast, drop_rd l k (by omega), drop_rd m k (by omega)]
  rfl
theorem eqL_stop (l m : List SE) (i : Int) (h : ¬ i < l.length) : eqL (l.drop i.toNat) (m.drop i.toNat) = true := by
  rw [List.drop_eq_nil_of_le (by omega)]
  unfold eqL
  rfl
set_option maxHeartbeats 1000000 in
set_option maxRecDepth 100000 in
theorem eq_ev.calls (A : Option Addr) (c : Nat) (l : List SE) (A' : Option Addr) (c' : Nat) (m : List SE) (w : World) (hr : Kd.C kE w A l.length l) (hr' : Kd.C kE w A' m.length m) (hlm : l.length = m.length) :
    Calls Try.prog 111 #[.slice A l.length c, .slice A' m.length c', .func (.func 112) #[] #[]] w fun e w' => e = .returned (.bool (eqL l m)) ∧ Below w.heap.size w w' := by
  have HR := Aside0.mk hr
  have HR' := Aside0.mk hr'
  have hlen : l.length ≤ 9223372036854775807 := hr.2.1
  have HB := Aside0.mk (Below.refl w.heap.size w)
  have HLM := Aside0.mk hlm
  rw [← hlm]
  clear hr hr' hlm
  obtain ⟨g, hg⟩ : ∃ g, g = eqL l m := ⟨_, rfl⟩
  rw [← hg]
  have HG : Aside0 (g = eqL (l.drop (0 : Int).toNat) (m.drop (0 : Int).toNat)) := ⟨hg⟩
  clear hg
  go_enter Try.func111, Try.ntmps111
  go_wp2
  go_loopw [7, 8, 9, 17] (fun v7 v8 v9 v17 W => ∃ i : Int, 0 ≤ i ∧ i ≤ l.length ∧ v17 = .int .i64 i ∧ Aside0 (g = eqL (l.drop i.toNat) (m.drop i.toNat)) ∧ Aside0 (Below w.heap.size w W)) (fun _ _ _ v _ => l.length - (intOf v).toNat)
  case atStart => exact ⟨0, by omega, by omega, rfl, HG, HB⟩
  case round =>
    clear HB HG
    obtain ⟨i, i0, ile, rfl, HG, HB⟩ := hrel
    by_cases hlt : i < l.length
    · obtain ⟨ad, e1, h9x⟩ := at_E (Kd.C_below HR.out HB.out) i i0 hlt
      obtain ⟨ad', e2, h9y⟩ := at_E (Kd.C_below HR'.out HB.out) i i0 (by rw [← HLM.out]; exact hlt)
      cases e1
      cases e2
      have HS := Aside0.mk (eqL_step l m i i0 hlt HLM.out)
      obtain ⟨x, hx⟩ : ∃ x, x = rdE l i := ⟨_, rfl⟩
      obtain ⟨y, hy⟩ : ∃ y, y = rdE m i := ⟨_, rfl⟩
      rw [← hx, ← hy] at HS
      rw [← hx] at h9x
      rw [← hy] at h9y
      obtain ⟨hx0, hx1, hx2, hx3, hx4, hx5, hx6, hx7, hx8⟩ := h9x
      have H9y : Aside0 (C9 wr (ad'.add (i.toNat * 9)) y) := ⟨h9y⟩
      obtain ⟨o, ho⟩ : ∃ o, o = tickB x y := ⟨_, rfl⟩
      have HO := Aside0.mk ho
      clear ho hx hy h9y
      cases o
      · obtain rfl : g = false := by rw [HG.out, HS.out, ← HO.out]; rfl
        go_wp2_with (first | ((with_reducible refine gate_dst (N := 8) rfl ?_); refine box_event ?hg (N := 8) ?hd (cs := #[(.int .i64 0), (.int .i64 0), (.int .i64 0), (.int .i64 0), (.int .i64 0), (.int .i64 0), (.int .i64 0), (.int .i64 0), (.slice none 0 0)]) (t := 77) ?hr ?_; (case hd => rfl); (case hg => rfl); (case hr => first | (go_simp; done) | (go_simp; rfl)); intro b8 hg w2 hbox hb; have HW2 := Aside0.mk hb; have BK2 := Aside0.mk hbox; have HG8 := Aside0.mk hg; clear hb hbox hg) | ((with_reducible refine gate_store (p := 8) rfl ?_); refine store_all rfl rfl 77 _ _ rfl #[.int .i64 x.f0, .int .i64 x.f1, .int .i64 x.f2, .int .i64 x.g0, .int .i64 x.g1, .int .i64 x.g2, .int .i64 x.g3, .int .i64 x.v, .slice x.s.1 x.s.2.1 x.s.2.2] rfl rfl BK2.out rfl (by kernel_rfl) (by rfl) ?_; intro w3 h1 h2; have BK3 := Aside0.mk h1; have HW3 := Aside0.mk (below_ch HW2.out h2 HW2.out.size (fun k e => by rw [e, HG8.out]; exact Nat.le_refl _)); obtain ⟨hy0, hy1, hy2, hy3, hy4, hy5, hy6, hy7, hy8⟩ := H9y.out.step HW3.out; clear h1 h2) | ((with_reducible refine gate_dst (N := 9) rfl ?_); refine box_event ?hg (N := 9) ?hd (cs := #[(.int .i64 0), (.int .i64 0), (.int .i64 0), (.int .i64 0), (.int .i64 0), (.int .i64 0), (.int .i64 0), (.int .i64 0), (.slice none 0 0)]) (t := 77) ?hr ?_; (case hd => rfl); (case hg => rfl); (case hr => first | (go_simp; done) | (go_simp; rfl)); intro b9 hg w5 hbox hb; have HW5 := Aside0.mk (below_b HW3.out hb HW3.out.size); have BK5 := Aside0.mk hbox; have BX5 := Aside0.mk ((Ch.of_below hb (fun _ => False)).heap BK3.out (fun h => h)); have HNE := Aside0.mk (show b8 ≠ b9 from by rw [hg]; exact Nat.ne_of_lt (lt_of_block BK3.out)); have HG9 := Aside0.mk (show wr.heap.size ≤ b9 from by rw [hg]; exact HW3.out.size); clear hb hbox hg hy0 hy1 hy2 hy3 hy4 hy5 hy6 hy7 hy8) | ((with_reducible refine gate_store (p := 9) rfl ?_); refine store_all rfl rfl 77 _ _ rfl #[.int .i64 y.f0, .int .i64 y.f1, .int .i64 y.f2, .int .i64 y.g0, .int .i64 y.g1, .int .i64 y.g2, .int .i64 y.g3, .int .i64 y.v, .slice y.s.1 y.s.2.1 y.s.2.2] rfl rfl BK5.out rfl (by kernel_rfl) (by rfl) ?_; intro w6 h1 h2; have BK6 := Aside0.mk h1; have BX6 := Aside0.mk (h2.heap BX5.out HNE.out); have HW6 := Aside0.mk (below_ch HW5.out h2 HW5.out.size (fun k e => by rw [e]; exact HG9.out)); clear h1 h2) | ((with_reducible refine gate_dst (N := 27) rfl ?_); refine load_mid_w ?hw 77 _ rfl b8 0 rfl [.int .i64 x.f0, .int .i64 x.f1, .int .i64 x.f2, .int .i64 x.g0, .int .i64 x.g1, .int .i64 x.g2, .int .i64 x.g3, .int .i64 x.v, .slice x.s.1 x.s.2.1 x.s.2.2] _ (range_of BX6.out (by rfl)) Try.underlying77 rfl (by kernel_rfl) ?_; (case hw => first | rfl | (go_simp; done) | (go_simp; rfl))) | ((with_reducible refine gate_dst (N := 28) rfl ?_); refine load_mid_w ?hw 77 _ rfl b9 0 rfl [.int .i64 y.f0, .int .i64 y.f1, .int .i64 y.f2, .int .i64 y.g0, .int .i64 y.g1, .int .i64 y.g2, .int .i64 y.g3, .int .i64 y.v, .slice y.s.1 y.s.2.1 y.s.2.2] _ (range_of BK6.out (by rfl)) Try.underlying77 rfl (by kernel_rfl) ?_; (case hw => first | rfl | (go_simp; done) | (go_simp; rfl))) | (go_at_call 112; refine (tick1.calls x y _).mono ?_; rintro e w7 ⟨rfl, hb⟩; rw [← HO.out]; have HB7 := Aside0.mk (below_b HB.out (below_b HW6.out hb HW6.out.size) HB.out.size); clear hb))
        go_ret
        exact ⟨rfl, HB7.out⟩
      · have hgi : g = eqL (l.drop (i + 1).toNat) (m.drop (i + 1).toNat) := by rw [HG.out, HS.out, ← HO.out]; rfl
        have HG2 := Aside0.mk hgi
        clear hgi
        go_wp2_with (first | ((with_reducible refine gate_dst (N := 8) rfl ?_); refine box_event ?hg (N := 8) ?hd (cs := #[(.int .i64 0), (.int .i64 0), (.int .i64 0), (.int .i64 0), (.int .i64 0), (.int .i64 0), (.int .i64 0), (.int .i64 0), (.slice none 0 0)]) (t := 77) ?hr ?_; (case hd => rfl); (case hg => rfl); (case hr => first | (go_simp; done) | (go_simp; rfl)); intro b8 hg w2 hbox hb; have HW2 := Aside0.mk hb; have BK2 := Aside0.mk hbox; have HG8 := Aside0.mk hg; clear hb hbox hg) | ((with_reducible refine gate_store (p := 8) rfl ?_); refine store_all rfl rfl 77 _ _ rfl #[.int .i64 x.f0, .int .i64 x.f1, .int .i64 x.f2, .int .i64 x.g0, .int .i64 x.g1, .int .i64 x.g2, .int .i64 x.g3, .int .i64 x.v, .slice x.s.1 x.s.2.1 x.s.2.2] rfl rfl BK2.out rfl (by kernel_rfl) (by rfl) ?_; intro w3 h1 h2; have BK3 := Aside0.mk h1; have HW3 := Aside0.mk (below_ch HW2.out h2 HW2.out.size (fun k e => by rw [e, HG8.out]; exact Nat.le_refl _)); obtain ⟨hy0, hy1, hy2, hy3, hy4, hy5, hy6, hy7, hy8⟩ := H9y.out.step HW3.out; clear h1 h2) | ((with_reducible refine gate_dst (N := 9) rfl ?_); refine box_event ?hg (N := 9) ?hd (cs := #[(.int .i64 0), (.int .i64 0), (.int .i64 0), (.int .i64 0), (.int .i64 0), (.int .i64 0), (.int .i64 0), (.int .i64 0), (.slice none 0 0)]) (t := 77) ?hr ?_; (case hd => rfl); (case hg => rfl); (case hr => first | (go_simp; done) | (go_simp; rfl)); intro b9 hg w5 hbox hb; have HW5 := Aside0.mk (below_b HW3.out hb HW3.out.size); have BK5 := Aside0.mk hbox; have BX5 := Aside0.mk ((Ch.of_below hb (fun _ => False)).heap BK3.out (fun h => h)); have HNE := Aside0.mk (show b8 ≠ b9 from by rw [hg]; exact Nat.ne_of_lt (lt_of_block BK3.out)); have HG9 := Aside0.mk (show wr.heap.size ≤ b9 from by rw [hg]; exact HW3.out.size); clear hb hbox hg hy0 hy1 hy2 hy3 hy4 hy5 hy6 hy7 hy8) | ((with_reducible refine gate_store (p := 9) rfl ?_); refine store_all rfl rfl 77 _ _ rfl #[.int .i64 y.f0, .int .i64 y.f1, .int .i64 y.f2, .int .i64 y.g0, .int .i64 y.g1, .int .i64 y.g2, .int .i64 y.g3, .int .i64 y.v, .slice y.s.1 y.s.2.1 y.s.2.2] rfl rfl BK5.out rfl (by kernel_rfl) (by rfl) ?_; intro w6 h1 h2; have BK6 := Aside0.mk h1; have BX6 := Aside0.mk (h2.heap BX5.out HNE.out); have HW6 := Aside0.mk (below_ch HW5.out h2 HW5.out.size (fun k e => by rw [e]; exact HG9.out)); clear h1 h2) | ((with_reducible refine gate_dst (N := 27) rfl ?_); refine load_mid_w ?hw 77 _ rfl b8 0 rfl [.int .i64 x.f0, .int .i64 x.f1, .int .i64 x.f2, .int .i64 x.g0, .int .i64 x.g1, .int .i64 x.g2, .int .i64 x.g3, .int .i64 x.v, .slice x.s.1 x.s.2.1 x.s.2.2] _ (range_of BX6.out (by rfl)) Try.underlying77 rfl (by kernel_rfl) ?_; (case hw => first | rfl | (go_simp; done) | (go_simp; rfl))) | ((with_reducible refine gate_dst (N := 28) rfl ?_); refine load_mid_w ?hw 77 _ rfl b9 0 rfl [.int .i64 y.f0, .int .i64 y.f1, .int .i64 y.f2, .int .i64 y.g0, .int .i64 y.g1, .int .i64 y.g2, .int .i64 y.g3, .int .i64 y.v, .slice y.s.1 y.s.2.1 y.s.2.2] _ (range_of BK6.out (by rfl)) Try.underlying77 rfl (by kernel_rfl) ?_; (case hw => first | rfl | (go_simp; done) | (go_simp; rfl))) | (go_at_call 112; refine (tick1.calls x y _).mono ?_; rintro e w7 ⟨rfl, hb⟩; rw [← HO.out]; have HB7 := Aside0.mk (below_b HB.out (below_b HW6.out hb HW6.out.size) HB.out.size); clear hb))
        refine ⟨⟨i + 1, by omega, by omega, rfl, HG2, HB7⟩, ?_⟩
        simp [intOf]; omega
    · obtain rfl : g = true := by rw [HG.out, eqL_stop l m i hlt]
      go_wp2
      go_ret
      exact ⟨rfl, HB.out⟩
end Go.Proofs.Ytemleanglkaedaa.ECalmPlans
