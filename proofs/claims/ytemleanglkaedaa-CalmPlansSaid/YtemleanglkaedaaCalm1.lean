/- Settings' checks at the statements' settings; events as cells. -/
import Derived.WalkSpells
import Derived.WalkLawsBesides
import Derived.Deep.RegionHeld3
import Derived.RangeFuncNested
import Derived.RangeFuncBound
import Derived.RangeFuncCalls
import Derived.RangeFuncLeaves
import Derived.RangeFuncWrites
import Derived.Shelf.Abstract
import Derived.Shelf.RegionOpen
import Derived.WalkKit
import Derived.Maps.AppendAt
import Derived.Lib.SliceRun
import Derived.Deep.Slices
import Derived.Deep.MidRow
import Derived.Deep.RegionLaw
import Derived.Test.YtemleanglkaedaaECalmPlansx3
import Derived.Test.YtemleanglkaedaaECalmPlansx4
import Derived.Test.YtemleanglkaedaaECalmPlansx
namespace Go.Proofs.Ytemleanglkaedaa.ECalmPlans
open Go.RowKit Go.Shelf Go.Proofs.YtemleanglkaedaaW.PrintWords Go.Proofs.YtemleanglkaedaaW.PrintLast Go.Proofs.YtemleanglkaedaaW.PrintMore
set_option linter.unusedVariables false
set_option linter.unusedSimpArgs false
theorem below_b {B : Nat} {w0 w w1 : World} (h : Below B w0 w) (k : Below w.heap.size w w1) (hB : B ≤ w.heap.size) : Below B w0 w1 := below_ch h (Ch.of_below k (fun _ => False)) hB (fun _ h => h.elim)
theorem cell_step {W W1 : World} {p : Addr} {v : Value} (hb : Below W.heap.size W W1) (h : W.cell? p = some v) : W1.cell? p = some v := by
  rw [hb.cell (by
    refine Nat.lt_of_not_le fun hk => ?_
    have : W.heap[p.block]? = none := by simp [hk]
    unfold World.cell? at h
    rw [this] at h
    simp at h)]
  exact h
section
variable {P : Program} {ops : Array Oper} {rest : List Oper} {o : Oper} {a : Act} {Q : Exit → Act → World → Prop}
theorem put_all {w : World} {g : Nat} {cs : Array Value} {t : TypeId} (vs : Array Value) (hh : w.heap[g]? = some (.cells cs t (0, 0))) (hl : vs.size = cs.size) : (w.setCells g 0 vs.toList).heap[g]? = some (.cells vs t (0, 0)) := by
  obtain ⟨cur, h1, h2, h3⟩ := setCells_row vs.toList 0 w cs hh (by simp; omega)
  rw [h1]
  congr 2
  apply Array.ext'
  rw [h3]
  simp [hl]
theorem ch_setCells (w : World) (g o : Nat) (vs : List Value) : Ch (fun k => k = g) w (w.setCells g o vs) :=
  have h := setCells_same g vs o w
  ⟨h.1, h.2.1, h.2.2.1, by rw [h.2.2.2]; exact Nat.le_refl _, fun k _ hk => setCells_far vs o k hk⟩
/-- A whole block is written by one store. -/
theorem store_all {W : World} (hgd : o.guard = none) (hN : o.dst = none) (t : TypeId) (p x : Operand) (ho : o.op = .store t p x) {g : Nat} {cs : Array Value} {tb : TypeId} (vs : Array Value) (haddr : a.eval p = .pointer (some ⟨g, 0, none⟩)) (hx : a.eval x = .agg vs) (hh : W.heap[g]? = some (.cells cs tb (0, 0))) (hl : vs.size = cs.size) (hi : (P.info? t).map (·.size) = some vs.size) (h1 : vs.toList.all (·.oneCell') = true)
    (h : ∀ w1, w1.heap[g]? = some (.cells vs tb (0, 0)) → Ch (fun k => k = g) W w1 → wpList P ops Q rest a w1) : wpList P ops Q (o :: rest) a W := by
  refine wpList_plain hgd fun K hK => ?_
  have hrun : (Instr.storeAt t (.pointer (some ⟨g, 0, none⟩)) (.agg vs)).run P W = .ok () (W.setCells g 0 vs.toList) :=
    run_store_run t (.agg vs) vs.toList hh rfl (by rw [hi]; simp) (by simp; omega) (fun q hq => List.all_eq_true.1 h1 q hq)
  unfold Oper.wp execOp
  simp only [ho, haddr, hx, Sem.run_bind, Sem.run_pure, Result.andThen_ok, hrun]
  show K (a.put o.dst undef) _
  rw [hN]
  exact hK _ _ (h _ (put_all vs hh hl) (ch_setCells W g 0 vs.toList))
end
theorem range_of {w : World} {g o : Nat} {cs : Array Value} {t : TypeId} {vs : List Value} (h : w.heap[g]? = some (.cells cs t (0, 0))) (hv : (cs.toList.drop o).take vs.length = vs) : w.rangeAt g o vs := by
  intro j v hj
  have hl : j < vs.length := (List.getElem?_eq_some_iff.1 hj).1
  rw [← hv, List.getElem?_take_of_lt hl, List.getElem?_drop] at hj
  refine zcell h (o + j) v ?_
  simpa using hj
section
variable {P : Program} {ops : Array Oper} {rest : List Oper} {op : Oper} {a : Act} {w : World} {Q : Exit → Act → World → Prop}
theorem load_mid_w (hw : Region.wanted op (yielded ops a.tmps) = true) (ty : TypeId) (x : Operand) (ho : op.op = .load ty x)
    (b o : Nat) (hx : a.eval x = .pointer (some ⟨b, o, none⟩)) (cs : List Value) (d : TypeDesc) (hc : w.rangeAt b o cs)
    (hu : P.underlying ty = some d) (hd : d.isRow = true) (hi : (P.info? ty).map (·.size) = some cs.length)
    (h : wpList P ops Q rest (a.put op.dst (.agg cs.toArray)) w) : wpList P ops Q (op :: rest) a w := by
  unfold wpList
  rw [if_pos hw]
  exact .inl (wp_load_mid ty x ho b o hx cs d hc hu hd hi h)
end
/-- Is it outside? -/
def outB (lo hi x : Int) : Bool := decide (x < lo) || decide (x > hi)
set_option maxHeartbeats 400000 in
theorem cin1.calls (x lo hi : Int) (p q : Addr) (w : World) (hp : w.cell? p = some (.int .i64 lo)) (hq : w.cell? q = some (.int .i64 hi)) :
    Calls Try.prog 106 #[.int .i64 x, .pointer (some p), .pointer (some q)] w fun e w' => e = .returned (.bool (outB lo hi x)) ∧ Below w.heap.size w w' := by
  unfold outB
  by_cases h : x < lo
  · have hd : decide (x < lo) = true := by simp [h]
    rw [hd, Bool.true_or]
    go_enter Try.func106, Try.ntmps106
    go_wp2_with fail
    all_goals (try go_wp2)
    go_ret
    exact ⟨rfl, Below.refl _ _⟩
  · have hd : decide (x < lo) = false := by simp [h]
    rw [hd, Bool.false_or]
    go_enter Try.func106, Try.ntmps106
    go_wp2_with fail
    all_goals (try go_wp2)
    go_ret
    exact ⟨rfl, Below.refl _ _⟩
set_option maxHeartbeats 1000000 in
theorem cin_idx.calls (A : Option Addr) (c : Nat) (l : List Int) (lo hi : Int) (p q : Addr) (w : World) (hr : Kd.C (Kd.int .i64) w A l.length l) (hc : l.length ≤ c) (hp : w.cell? p = some (.int .i64 lo)) (hq : w.cell? q = some (.int .i64 hi)) :
    Calls Try.prog 47 #[.slice A l.length c, .func (.func 106) #[] #[.pointer (some p), .pointer (some q)]] w fun e w' => e = .returned (.int .i64 (idxL (outB lo hi) l)) ∧ Below w.heap.size w w' := by
  have HR := Aside0.mk hr
  have HP := Aside0.mk hp
  have HQ := Aside0.mk hq
  have hlen : l.length ≤ 9223372036854775807 := hr.2.1
  have HB := Aside0.mk (Below.refl w.heap.size w)
  clear hr hp hq
  obtain ⟨g, hg⟩ : ∃ g, g = idxL (outB lo hi) l := ⟨_, rfl⟩
  rw [← hg]
  have HG : Aside0 (g = idxFrom (outB lo hi) 0 (l.drop 0)) := ⟨hg⟩
  clear hg
  go_enter Try.func47, Try.ntmps47
  go_wp2
  go_loopw [5, 8] (fun v5 v8 W => ∃ i : Int, 0 ≤ i ∧ i ≤ l.length ∧ v8 = .int .i64 i ∧ Aside0 (g = idxFrom (outB lo hi) i (l.drop i.toNat)) ∧ Aside0 (Below w.heap.size w W)) (fun _ v _ => l.length - (intOf v).toNat)
  case atStart => exact ⟨0, by omega, by omega, rfl, HG, HB⟩
  case round =>
    clear HB HG
    obtain ⟨i, i0, ile, rfl, HG, HB⟩ := hrel
    have HRw := Aside0.mk (Kd.C_below HR.out HB.out)
    have HPw := Aside0.mk (cell_step HB.out HP.out)
    have HQw := Aside0.mk (cell_step HB.out HQ.out)
    by_cases hlt : i < l.length
    · obtain ⟨ad, e1, hx0⟩ := Kd.at_int HRw.out i i0 hlt
      cases e1
      have HS := Aside0.mk (idx_step (outB lo hi) l 0 i i0 hlt)
      obtain ⟨x, hx⟩ : ∃ x, x = rd l i := ⟨_, rfl⟩
      obtain ⟨o, ho⟩ : ∃ o, o = outB lo hi (rd l i) := ⟨_, rfl⟩
      rw [← hx] at ho hx0
      have HO := Aside0.mk ho
      have HX := Aside0.mk hx
      clear ho hx
      cases o
      · have hgi : g = idxFrom (outB lo hi) (i + 1) (l.drop (i + 1).toNat) := by rw [HG.out, HS.out]; exact if_neg (by show ¬ outB lo hi (rd l i) = true; rw [← HX.out, ← HO.out]; decide)
        have HG2 := Aside0.mk hgi
        clear hgi
        go_wp2_with (first | (go_at_call 106; refine (cin1.calls x lo hi p q _ HPw.out HQw.out).mono ?_; rintro e w1 ⟨rfl, hb⟩; rw [← HO.out]; have HB1 := Aside0.mk (below_b HB.out hb HB.out.size); clear hb))
        refine ⟨⟨i + 1, by omega, by omega, rfl, HG2, HB1⟩, ?_⟩
        simp [intOf]; omega
      · obtain rfl : i = g := by rw [HG.out, HS.out]; exact (if_pos (by show outB lo hi (rd l i) = true; rw [← HX.out]; exact HO.out.symm)).symm
        go_wp2_with (first | (go_at_call 106; refine (cin1.calls x lo hi p q _ HPw.out HQw.out).mono ?_; rintro e w1 ⟨rfl, hb⟩; rw [← HO.out]; have HB1 := Aside0.mk (below_b HB.out hb HB.out.size); clear hb))
        go_ret
        exact ⟨rfl, HB1.out⟩
    · obtain rfl : g = -1 := by rw [HG.out, List.drop_eq_nil_of_le (by omega)]; rfl
      go_wp2
      go_ret
      exact ⟨rfl, HB.out⟩
set_option maxHeartbeats 400000 in
theorem cin_any.calls (A : Option Addr) (c : Nat) (l : List Int) (lo hi : Int) (p q : Addr) (w : World) (hr : Kd.C (Kd.int .i64) w A l.length l) (hc : l.length ≤ c) (hp : w.cell? p = some (.int .i64 lo)) (hq : w.cell? q = some (.int .i64 hi)) :
    Calls Try.prog 105 #[.slice A l.length c, .func (.func 106) #[] #[.pointer (some p), .pointer (some q)]] w fun e w' => e = .returned (.bool (l.any (outB lo hi))) ∧ Below w.heap.size w w' := by
  have HI := Aside0.mk (idx_any (outB lo hi) l)
  have HC := Aside0.mk (cin_idx.calls A c l lo hi p q w hr hc hp hq)
  clear hr hp hq
  go_enter Try.func105, Try.ntmps105
  go_wp2_with (first | (go_at_call 47; refine HC.out.mono ?_; rintro e w' ⟨rfl, hb⟩; have HB := Aside0.mk hb; clear hb))
  go_ret
  exact ⟨by rw [← HI.out]; rfl, HB.out⟩
set_option maxHeartbeats 400000 in
theorem clientIn.calls (lo hi : Int) (A : Option Addr) (c : Nat) (l : List Int) (w : World) (hr : Kd.C (Kd.int .i64) w A l.length l) (hc : l.length ≤ c) :
    Calls Try.prog 91 #[.int .i64 lo, .int .i64 hi, .slice A l.length c] w fun e w' => e = .returned (.bool (!(l.any (outB lo hi)))) ∧ Below w.heap.size w w' := by
  have HB2 := Aside0.mk (below_alloc (below_alloc (Below.refl w.heap.size w) (.cells #[.int .i64 lo] 3)) (.cells #[.int .i64 hi] 3))
  have h1 := (Boxed.alloc (Boxed.new w 3 (.int .i64 lo)) (.cells #[.int .i64 hi] 3)).cell
  have h2 := (Boxed.new (w.alloc (.cells #[.int .i64 lo] 3)) 3 (.int .i64 hi)).cell
  rw [World.size_alloc] at h2
  have HC := Aside0.mk (cin_any.calls A c l lo hi _ _ _ (Kd.C_below hr HB2.out) hc h1 h2)
  clear hr h1 h2
  go_enter Try.func91, Try.ntmps91
  go_wp2_with (first | (go_at_call 105; refine HC.out.mono ?_; rintro e w' ⟨rfl, hb⟩; have HB := Aside0.mk (below_b HB2.out hb HB2.out.size); clear hb))
  go_ret
  exact ⟨rfl, HB.out⟩
set_option maxHeartbeats 400000 in
theorem kin1.calls (x lo hi : Int) (p q : Addr) (w : World) (hp : w.cell? p = some (.int .i64 lo)) (hq : w.cell? q = some (.int .i64 hi)) :
    Calls Try.prog 117 #[.int .i64 x, .pointer (some p), .pointer (some q)] w fun e w' => e = .returned (.bool (outB lo hi x)) ∧ Below w.heap.size w w' := by
  unfold outB
  by_cases h : x < lo
  · have hd : decide (x < lo) = true := by simp [h]
    rw [hd, Bool.true_or]
    go_enter Try.func117, Try.ntmps117
    go_wp2_with fail
    all_goals (try go_wp2)
    go_ret
    exact ⟨rfl, Below.refl _ _⟩
  · have hd : decide (x < lo) = false := by simp [h]
    rw [hd, Bool.false_or]
    go_enter Try.func117, Try.ntmps117
    go_wp2_with fail
    all_goals (try go_wp2)
    go_ret
    exact ⟨rfl, Below.refl _ _⟩
set_option maxHeartbeats 1000000 in
theorem kin_idx.calls (A : Option Addr) (c : Nat) (l : List Int) (lo hi : Int) (p q : Addr) (w : World) (hr : Kd.C (Kd.int .i64) w A l.length l) (hc : l.length ≤ c) (hp : w.cell? p = some (.int .i64 lo)) (hq : w.cell? q = some (.int .i64 hi)) :
    Calls Try.prog 47 #[.slice A l.length c, .func (.func 117) #[] #[.pointer (some p), .pointer (some q)]] w fun e w' => e = .returned (.int .i64 (idxL (outB lo hi) l)) ∧ Below w.heap.size w w' := by
  have HR := Aside0.mk hr
  have HP := Aside0.mk hp
  have HQ := Aside0.mk hq
  have hlen : l.length ≤ 9223372036854775807 := hr.2.1
  have HB := Aside0.mk (Below.refl w.heap.size w)
  clear hr hp hq
  obtain ⟨g, hg⟩ : ∃ g, g = idxL (outB lo hi) l := ⟨_, rfl⟩
  rw [← hg]
  have HG : Aside0 (g = idxFrom (outB lo hi) 0 (l.drop 0)) := ⟨hg⟩
  clear hg
  go_enter Try.func47, Try.ntmps47
  go_wp2
  go_loopw [5, 8] (fun v5 v8 W => ∃ i : Int, 0 ≤ i ∧ i ≤ l.length ∧ v8 = .int .i64 i ∧ Aside0 (g = idxFrom (outB lo hi) i (l.drop i.toNat)) ∧ Aside0 (Below w.heap.size w W)) (fun _ v _ => l.length - (intOf v).toNat)
  case atStart => exact ⟨0, by omega, by omega, rfl, HG, HB⟩
  case round =>
    clear HB HG
    obtain ⟨i, i0, ile, rfl, HG, HB⟩ := hrel
    have HRw := Aside0.mk (Kd.C_below HR.out HB.out)
    have HPw := Aside0.mk (cell_step HB.out HP.out)
    have HQw := Aside0.mk (cell_step HB.out HQ.out)
    by_cases hlt : i < l.length
    · obtain ⟨ad, e1, hx0⟩ := Kd.at_int HRw.out i i0 hlt
      cases e1
      have HS := Aside0.mk (idx_step (outB lo hi) l 0 i i0 hlt)
      obtain ⟨x, hx⟩ : ∃ x, x = rd l i := ⟨_, rfl⟩
      obtain ⟨o, ho⟩ : ∃ o, o = outB lo hi (rd l i) := ⟨_, rfl⟩
      rw [← hx] at ho hx0
      have HO := Aside0.mk ho
      have HX := Aside0.mk hx
      clear ho hx
      cases o
      · have hgi : g = idxFrom (outB lo hi) (i + 1) (l.drop (i + 1).toNat) := by rw [HG.out, HS.out]; exact if_neg (by show ¬ outB lo hi (rd l i) = true; rw [← HX.out, ← HO.out]; decide)
        have HG2 := Aside0.mk hgi
        clear hgi
        go_wp2_with (first | (go_at_call 117; refine (kin1.calls x lo hi p q _ HPw.out HQw.out).mono ?_; rintro e w1 ⟨rfl, hb⟩; rw [← HO.out]; have HB1 := Aside0.mk (below_b HB.out hb HB.out.size); clear hb))
        refine ⟨⟨i + 1, by omega, by omega, rfl, HG2, HB1⟩, ?_⟩
        simp [intOf]; omega
      · obtain rfl : i = g := by rw [HG.out, HS.out]; exact (if_pos (by show outB lo hi (rd l i) = true; rw [← HX.out]; exact HO.out.symm)).symm
        go_wp2_with (first | (go_at_call 117; refine (kin1.calls x lo hi p q _ HPw.out HQw.out).mono ?_; rintro e w1 ⟨rfl, hb⟩; rw [← HO.out]; have HB1 := Aside0.mk (below_b HB.out hb HB.out.size); clear hb))
        go_ret
        exact ⟨rfl, HB1.out⟩
    · obtain rfl : g = -1 := by rw [HG.out, List.drop_eq_nil_of_le (by omega)]; rfl
      go_wp2
      go_ret
      exact ⟨rfl, HB.out⟩
set_option maxHeartbeats 400000 in
theorem kin_any.calls (A : Option Addr) (c : Nat) (l : List Int) (lo hi : Int) (p q : Addr) (w : World) (hr : Kd.C (Kd.int .i64) w A l.length l) (hc : l.length ≤ c) (hp : w.cell? p = some (.int .i64 lo)) (hq : w.cell? q = some (.int .i64 hi)) :
    Calls Try.prog 105 #[.slice A l.length c, .func (.func 117) #[] #[.pointer (some p), .pointer (some q)]] w fun e w' => e = .returned (.bool (l.any (outB lo hi))) ∧ Below w.heap.size w w' := by
  have HI := Aside0.mk (idx_any (outB lo hi) l)
  have HC := Aside0.mk (kin_idx.calls A c l lo hi p q w hr hc hp hq)
  clear hr hp hq
  go_enter Try.func105, Try.ntmps105
  go_wp2_with (first | (go_at_call 47; refine HC.out.mono ?_; rintro e w' ⟨rfl, hb⟩; have HB := Aside0.mk hb; clear hb))
  go_ret
  exact ⟨by rw [← HI.out]; rfl, HB.out⟩
set_option maxHeartbeats 400000 in
theorem callIn.calls (lo hi : Int) (A : Option Addr) (c : Nat) (l : List Int) (w : World) (hr : Kd.C (Kd.int .i64) w A l.length l) (hc : l.length ≤ c) :
    Calls Try.prog 109 #[.int .i64 lo, .int .i64 hi, .slice A l.length c] w fun e w' => e = .returned (.bool (!(l.any (outB lo hi)))) ∧ Below w.heap.size w w' := by
  have HB2 := Aside0.mk (below_alloc (below_alloc (Below.refl w.heap.size w) (.cells #[.int .i64 lo] 3)) (.cells #[.int .i64 hi] 3))
  have h1 := (Boxed.alloc (Boxed.new w 3 (.int .i64 lo)) (.cells #[.int .i64 hi] 3)).cell
  have h2 := (Boxed.new (w.alloc (.cells #[.int .i64 lo] 3)) 3 (.int .i64 hi)).cell
  rw [World.size_alloc] at h2
  have HC := Aside0.mk (kin_any.calls A c l lo hi _ _ _ (Kd.C_below hr HB2.out) hc h1 h2)
  clear hr h1 h2
  go_enter Try.func109, Try.ntmps109
  go_wp2_with (first | (go_at_call 105; refine HC.out.mono ?_; rintro e w' ⟨rfl, hb⟩; have HB := Aside0.mk (below_b HB2.out hb HB2.out.size); clear hb))
  go_ret
  exact ⟨rfl, HB.out⟩
/-! An event as its nine cells alone: what a slice in it leads to is not asked. -/
structure SE where
  f0 : Int
  f1 : Int
  f2 : Int
  g0 : Int
  g1 : Int
  g2 : Int
  g3 : Int
  v : Int
  s : Option Addr × Nat × Nat
def zE : SE := ⟨0, 0, 0, 0, 0, 0, 0, 0, (none, 0, 0)⟩
instance : Inhabited SE := ⟨zE⟩
def encS (s : Option Addr × Nat × Nat) : Value := .slice s.1 s.2.1 s.2.2
def cellsE (x : SE) : List Value := [.int .i64 x.f0, .int .i64 x.f1, .int .i64 x.f2, .int .i64 x.g0, .int .i64 x.g1, .int .i64 x.g2, .int .i64 x.g3, .int .i64 x.v, .slice x.s.1 x.s.2.1 x.s.2.2]
def valE (x : SE) : Value := .agg #[.int .i64 x.f0, .int .i64 x.f1, .int .i64 x.f2, .int .i64 x.g0, .int .i64 x.g1, .int .i64 x.g2, .int .i64 x.g3, .int .i64 x.v, .slice x.s.1 x.s.2.1 x.s.2.2]
def kI : Kd Int := Kd.int .i64
def kE : Kd SE := Kd.iso (Kd.pair kI (Kd.pair kI (Kd.pair kI (Kd.pair kI (Kd.pair kI (Kd.pair kI (Kd.pair kI (Kd.pair kI (Kd.scalar encS (fun _ => rfl)))))))))) (fun x : SE => (x.f0, x.f1, x.f2, x.g0, x.g1, x.g2, x.g3, x.v, x.s))
theorem kE_open {w : World} {x : SE} {cs : List Value} (h : kE.K w x cs) : cs = cellsE x := by
  obtain ⟨_, _, rfl, rfl, ⟨_, _, rfl, rfl, ⟨_, _, rfl, rfl, ⟨_, _, rfl, rfl, ⟨_, _, rfl, rfl, ⟨_, _, rfl, rfl, ⟨_, _, rfl, rfl, ⟨_, _, rfl, rfl, rfl⟩⟩⟩⟩⟩⟩⟩⟩ := h
  exact rfl
theorem kE_openM {w : World} {base : Nat} {ok : Nat → Prop} {x : SE} {cs : List Value} (h : kE.M w base ok x cs) : cs = cellsE x := by
  obtain ⟨_, _, rfl, rfl, ⟨_, _, rfl, rfl, ⟨_, _, rfl, rfl, ⟨_, _, rfl, rfl, ⟨_, _, rfl, rfl, ⟨_, _, rfl, rfl, ⟨_, _, rfl, rfl, ⟨_, _, rfl, rfl, rfl⟩⟩⟩⟩⟩⟩⟩⟩ := h
  exact rfl
theorem kE_mk (w : World) (x : SE) : kE.K w x (cellsE x) := ⟨[_], _, rfl, rfl, ⟨[_], _, rfl, rfl, ⟨[_], _, rfl, rfl, ⟨[_], _, rfl, rfl, ⟨[_], _, rfl, rfl, ⟨[_], _, rfl, rfl, ⟨[_], _, rfl, rfl, ⟨[_], _, rfl, rfl, rfl⟩⟩⟩⟩⟩⟩⟩⟩
theorem kE_mkM (w : World) (base : Nat) (ok : Nat → Prop) (x : SE) : kE.M w base ok x (cellsE x) := ⟨[_], _, rfl, rfl, ⟨[_], _, rfl, rfl, ⟨[_], _, rfl, rfl, ⟨[_], _, rfl, rfl, ⟨[_], _, rfl, rfl, ⟨[_], _, rfl, rfl, ⟨[_], _, rfl, rfl, ⟨[_], _, rfl, rfl, rfl⟩⟩⟩⟩⟩⟩⟩⟩
def rdE (xs : List SE) (i : Int) : SE := xs.getD i.toNat zE
theorem at_E {w : World} {A : Option Addr} {n : Nat} {xs : List SE} (h : Kd.C kE w A n xs) (i : Int) (h0 : 0 ≤ i) (h1 : i < n) : ∃ ad, A = some ad ∧ w.cell? (ad.add (i.toNat * 9)) = some (.int .i64 (rdE xs i).f0) ∧ w.cell? ⟨(ad.add (i.toNat * 9)).block, (ad.add (i.toNat * 9)).off + 1, none⟩ = some (.int .i64 (rdE xs i).f1) ∧ w.cell? ⟨(ad.add (i.toNat * 9)).block, (ad.add (i.toNat * 9)).off + 2, none⟩ = some (.int .i64 (rdE xs i).f2) ∧ w.cell? ⟨(ad.add (i.toNat * 9)).block, (ad.add (i.toNat * 9)).off + 3, none⟩ = some (.int .i64 (rdE xs i).g0) ∧ w.cell? ⟨(ad.add (i.toNat * 9)).block, (ad.add (i.toNat * 9)).off + 4, none⟩ = some (.int .i64 (rdE xs i).g1) ∧ w.cell? ⟨(ad.add (i.toNat * 9)).block, (ad.add (i.toNat * 9)).off + 5, none⟩ = some (.int .i64 (rdE xs i).g2) ∧ w.cell? ⟨(ad.add (i.toNat * 9)).block, (ad.add (i.toNat * 9)).off + 6, none⟩ = some (.int .i64 (rdE xs i).g3) ∧ w.cell? ⟨(ad.add (i.toNat * 9)).block, (ad.add (i.toNat * 9)).off + 7, none⟩ = some (.int .i64 (rdE xs i).v) ∧ w.cell? ⟨(ad.add (i.toNat * 9)).block, (ad.add (i.toNat * 9)).off + 8, none⟩ = some (.slice (rdE xs i).s.1 (rdE xs i).s.2.1 (rdE xs i).s.2.2) := by
  obtain ⟨ad, c, e, _, hK, hc0⟩ := Kd.C_get h zE i h0 h1
  have hc : ∀ j u, c[j]? = some u → w.cell? (ad.add (i.toNat * 9 + j)) = some u := hc0
  obtain rfl := kE_open hK
  exact ⟨ad, e, hc 0 _ rfl, by rw [← add_field _ _ 1 (by omega)]; exact hc 1 _ rfl, by rw [← add_field _ _ 2 (by omega)]; exact hc 2 _ rfl, by rw [← add_field _ _ 3 (by omega)]; exact hc 3 _ rfl, by rw [← add_field _ _ 4 (by omega)]; exact hc 4 _ rfl, by rw [← add_field _ _ 5 (by omega)]; exact hc 5 _ rfl, by rw [← add_field _ _ 6 (by omega)]; exact hc 6 _ rfl, by rw [← add_field _ _ 7 (by omega)]; exact hc 7 _ rfl, by rw [← add_field _ _ 8 (by omega)]; exact hc 8 _ rfl⟩
/-- What calm reads of an event. -/
def pE (x : SE) : Int × Int × Int := (x.f0, x.f1, x.f2)
def p77 (x : S77) : Int × Int × Int := (x.f0, x.f1, x.f2)
theorem readsRow_len {α : Type} {R : α → List Value → Prop} {sz : Nat} {w : World} {A : Option Addr} {n : Nat} {xs : List α} (h : ReadsRow R sz w A n xs) : xs.length = n := h.1
theorem C77_E {w : World} {A : Option Addr} {n : Nat} {l : List S77} (h : Kd.C k77 w A n l) : ∃ l' : List SE, Kd.C kE w A n l' ∧ l'.map pE = l.map p77 := by
  obtain ⟨h1, h2, h3⟩ := h
  have hall : ∀ i, i < n → ∃ x : SE, (∀ ad, A = some ad → ∀ k u, (cellsE x)[k]? = some u → w.cell? (ad.add (i * 9 + k)) = some u) ∧ l[i]?.map p77 = some (pE x) := fun i hi => by
    have hi' : i < l.length := by omega
    obtain ⟨ad, e, h4⟩ := h3 (by omega)
    obtain ⟨c, h5, h6, h7⟩ := h4 i _ (List.getElem?_eq_getElem hi')
    obtain ⟨A8, c8, rfl, _, _⟩ := k77_open h6
    refine ⟨⟨l[i].f0, l[i].f1, l[i].f2, l[i].f3.f0, l[i].f3.f1, l[i].f3.f2, l[i].f3.f3, l[i].f4.f0, (A8, l[i].f4.f1.length, c8)⟩, fun ad' e' => ?_, by rw [List.getElem?_eq_getElem hi']; rfl⟩
    rw [e] at e'
    injection e' with e'
    subst e'
    exact h7
  obtain ⟨f, hf⟩ := Deep.choose_lt hall
  refine ⟨(List.range n).map f, ⟨by simp, h2, fun hp => ?_⟩, ?_⟩
  · obtain ⟨ad, e, _⟩ := h3 hp
    refine ⟨ad, e, fun j p hj => ?_⟩
    have hjl : j < n := by have := (List.getElem?_eq_some_iff.1 hj).1; simpa using this
    have hpj : p = f j := by simp [hjl] at hj; exact hj.symm
    subst hpj
    exact ⟨_, rfl, kE_mk w _, (hf j hjl).1 ad e⟩
  · apply List.ext_getElem?
    intro i
    by_cases hi : i < n
    · simp only [List.getElem?_map]
      rw [(hf i hi).2]
      simp [hi]
    · rw [List.getElem?_eq_none (by simp; omega), List.getElem?_eq_none (by simp; omega)]
def setsV : Value := .agg #[.int .i64 3, .bool false, .int .i64 4, .int .i64 2, .int .i64 6, .int .i64 1, .int .i64 3, .int .i64 800, .int .i64 5, .int .i64 4, .int .i64 16, .int .i64 50, .int .i64 40, .int .i64 200, .int .i64 50, .int .i64 2, .int .i64 5, .int .i64 3, .int .i64 1, .int .i64 5, .int .i64 900, .int .i64 2, .int .i64 1, .int .i64 4, .int .i64 500, .int .i64 4]
def cfgV (cl be sd : Int) : Value := .agg #[.int .i64 cl, .int .i64 be, .int .u64 sd, .int .i64 3, .bool false, .int .i64 4, .int .i64 2, .int .i64 6, .int .i64 1, .int .i64 3, .int .i64 800, .int .i64 5, .int .i64 4, .int .i64 16, .int .i64 50, .int .i64 40, .int .i64 200, .int .i64 50, .int .i64 2, .int .i64 5, .int .i64 3, .int .i64 1, .int .i64 5, .int .i64 900, .int .i64 2, .int .i64 1, .int .i64 4, .int .i64 500, .int .i64 4, .int .i64 4, .int .i64 30, .int .i64 8]
theorem callIn.yes (lo hi : Int) (l : List Int) (w W : World) (g : Nat) (o : Obj) (hg : g = W.heap.size) (ho : o = .cells (nums .i64 l).toArray 3) (hm : l.length ≤ 9223372036854775807) (h : (!(l.any (outB lo hi))) = true) :
    Calls Try.prog 109 #[.int .i64 lo, .int .i64 hi, .slice (some ⟨g, 0, none⟩) l.length l.length] (W.alloc o) fun e w' => e = .returned (.bool true) ∧ Below (W.alloc o).heap.size (W.alloc o) w' := by
  subst ho
  rw [← h]
  exact callIn.calls lo hi _ _ l _ (zC_new .i64 3 l W g hg hm) (Nat.le_refl _)
theorem clientIn.yes (lo hi : Int) (l : List Int) (w W : World) (g : Nat) (o : Obj) (hg : g = W.heap.size) (ho : o = .cells (nums .i64 l).toArray 3) (hm : l.length ≤ 9223372036854775807) (h : (!(l.any (outB lo hi))) = true) :
    Calls Try.prog 91 #[.int .i64 lo, .int .i64 hi, .slice (some ⟨g, 0, none⟩) l.length l.length] (W.alloc o) fun e w' => e = .returned (.bool true) ∧ Below (W.alloc o).heap.size (W.alloc o) w' := by
  subst ho
  rw [← h]
  exact clientIn.calls lo hi _ _ l _ (zC_new .i64 3 l W g hg hm) (Nat.le_refl _)
set_option maxHeartbeats 400000 in
set_option maxRecDepth 100000 in
theorem callSets.calls (w : World) : Calls Try.prog 94 #[.agg #[.int .i64 3, .int .i64 1, .int .i64 5, .int .i64 900, .int .i64 2, .int .i64 1, .int .i64 4, .int .i64 500]] w fun e w' => e = .returned (.int .i64 0) ∧ Below w.heap.size w w' := by
  go_enter Try.func94, Try.ntmps94
  go_wp2_with (first | ((with_reducible refine gate_dst (N := 1) rfl ?_); refine box_event ?hg (N := 1) ?hd (cs := #[.int .i64 3, .int .i64 1, .int .i64 5, .int .i64 900, .int .i64 2, .int .i64 1, .int .i64 4, .int .i64 500]) (t := 63) ?hr ?_; (case hd => rfl); (case hg => rfl); (case hr => first | (go_simp; done) | (go_simp; rfl)); intro gb hg w0 hbox hb; have HB0 := Aside0.mk hb; have BK0 := Aside0.mk hbox; clear hb hbox hg; have c0_0 := zcell BK0.out 0 _ rfl))
  go_at_call 109
  refine (callIn.yes 1 16 [3] w _ _ _ ?hg rfl (by decide) (by decide)).mono ?_
  case hg => first | exact (World.size_alloc _ _).symm | (with_reducible exact rfl)
  rintro e w1 ⟨rfl, hb⟩
  have HB1 := Aside0.mk (below_b (below_alloc HB0.out _) hb (below_alloc HB0.out _).size)
  have BK1 := Aside0.mk ((Ch.of_below hb (fun _ => False)).heap ((Ch.of_below (below_alloc (Below.refl _ _) _) (fun _ => False)).heap BK0.out (fun h => h)) (fun h => h))
  clear hb
  have c1_1 := zcell BK1.out 1 _ rfl
  clear c0_0
  go_wp2_with fail
  go_at_call 109
  refine (callIn.yes 0 8 [1] w _ _ _ ?hg rfl (by decide) (by decide)).mono ?_
  case hg => first | exact (World.size_alloc _ _).symm | (with_reducible exact rfl)
  rintro e w2 ⟨rfl, hb⟩
  have HB2 := Aside0.mk (below_b (below_alloc HB1.out _) hb (below_alloc HB1.out _).size)
  have BK2 := Aside0.mk ((Ch.of_below hb (fun _ => False)).heap ((Ch.of_below (below_alloc (Below.refl _ _) _) (fun _ => False)).heap BK1.out (fun h => h)) (fun h => h))
  clear hb
  have c2_2 := zcell BK2.out 2 _ rfl
  have c2_4 := zcell BK2.out 4 _ rfl
  clear c1_1
  go_wp2_with fail
  go_at_call 109
  refine (callIn.yes 1 1048576 [5, 2] w _ _ _ ?hg rfl (by decide) (by decide)).mono ?_
  case hg => first | exact (World.size_alloc _ _).symm | (with_reducible exact rfl)
  rintro e w3 ⟨rfl, hb⟩
  have HB3 := Aside0.mk (below_b (below_alloc HB2.out _) hb (below_alloc HB2.out _).size)
  have BK3 := Aside0.mk ((Ch.of_below hb (fun _ => False)).heap ((Ch.of_below (below_alloc (Below.refl _ _) _) (fun _ => False)).heap BK2.out (fun h => h)) (fun h => h))
  clear hb
  have c3_3 := zcell BK3.out 3 _ rfl
  clear c2_2
  clear c2_4
  go_wp2_with fail
  go_at_call 109
  refine (callIn.yes 1 1000 [900] w _ _ _ ?hg rfl (by decide) (by decide)).mono ?_
  case hg => first | exact (World.size_alloc _ _).symm | (with_reducible exact rfl)
  rintro e w4 ⟨rfl, hb⟩
  have HB4 := Aside0.mk (below_b (below_alloc HB3.out _) hb (below_alloc HB3.out _).size)
  have BK4 := Aside0.mk ((Ch.of_below hb (fun _ => False)).heap ((Ch.of_below (below_alloc (Below.refl _ _) _) (fun _ => False)).heap BK3.out (fun h => h)) (fun h => h))
  clear hb
  clear c3_3
  go_wp2_with (first | ((with_reducible refine gate_dst (N := 32) rfl ?_); refine load_mid_w ?hw 61 _ rfl gb 5 rfl [.int .i64 1, .int .i64 4, .int .i64 500] _ (range_of BK4.out (by rfl)) Try.underlying61 rfl (by kernel_rfl) ?_; (case hw => first | rfl | (go_simp; done) | (go_simp; rfl))))
  go_at_call 110
  refine (backoff_Check.calls 1 4 500 0 _ rfl).mono ?_
  rintro e w5 ⟨rfl, hb⟩
  have HB5 := Aside0.mk (below_b (HB4.out) hb (HB4.out).size)
  have BK5 := Aside0.mk ((Ch.of_below hb (fun _ => False)).heap (BK4.out) (fun h => h))
  clear hb
  go_wp2_with fail
  go_ret
  exact ⟨rfl, HB5.out⟩
set_option maxHeartbeats 400000 in
set_option maxRecDepth 100000 in
theorem clientSets.calls (w : World) : Calls Try.prog 74 #[.agg #[.int .i64 3, .bool false, .int .i64 4, .int .i64 2, .int .i64 6, .int .i64 1, .int .i64 3, .int .i64 800, .int .i64 5, .int .i64 4, .int .i64 16, .int .i64 50, .int .i64 40, .int .i64 200, .int .i64 50, .int .i64 2, .int .i64 5, .int .i64 3, .int .i64 1, .int .i64 5, .int .i64 900, .int .i64 2, .int .i64 1, .int .i64 4, .int .i64 500, .int .i64 4]] w fun e w' => e = .returned (.int .i64 0) ∧ Below w.heap.size w w' := by
  go_enter Try.func74, Try.ntmps74
  go_wp2_with (first | ((with_reducible refine gate_dst (N := 1) rfl ?_); refine box_event ?hg (N := 1) ?hd (cs := #[.int .i64 3, .bool false, .int .i64 4, .int .i64 2, .int .i64 6, .int .i64 1, .int .i64 3, .int .i64 800, .int .i64 5, .int .i64 4, .int .i64 16, .int .i64 50, .int .i64 40, .int .i64 200, .int .i64 50, .int .i64 2, .int .i64 5, .int .i64 3, .int .i64 1, .int .i64 5, .int .i64 900, .int .i64 2, .int .i64 1, .int .i64 4, .int .i64 500, .int .i64 4]) (t := 65) ?hr ?_; (case hd => rfl); (case hg => rfl); (case hr => first | (go_simp; done) | (go_simp; rfl)); intro gb hg w0 hbox hb; have HB0 := Aside0.mk hb; have BK0 := Aside0.mk hbox; clear hb hbox hg; have c0_0 := zcell BK0.out 0 _ rfl))
  go_at_call 91
  refine (clientIn.yes 1 32 [3] w _ _ _ ?hg rfl (by decide) (by decide)).mono ?_
  case hg => first | exact (World.size_alloc _ _).symm | (with_reducible exact rfl)
  rintro e w1 ⟨rfl, hb⟩
  have HB1 := Aside0.mk (below_b (below_alloc HB0.out _) hb (below_alloc HB0.out _).size)
  have BK1 := Aside0.mk ((Ch.of_below hb (fun _ => False)).heap ((Ch.of_below (below_alloc (Below.refl _ _) _) (fun _ => False)).heap BK0.out (fun h => h)) (fun h => h))
  clear hb
  have c1_2 := zcell BK1.out 2 _ rfl
  clear c0_0
  go_wp2_with fail
  go_at_call 91
  refine (clientIn.yes 1 64 [4] w _ _ _ ?hg rfl (by decide) (by decide)).mono ?_
  case hg => first | exact (World.size_alloc _ _).symm | (with_reducible exact rfl)
  rintro e w2 ⟨rfl, hb⟩
  have HB2 := Aside0.mk (below_b (below_alloc HB1.out _) hb (below_alloc HB1.out _).size)
  have BK2 := Aside0.mk ((Ch.of_below hb (fun _ => False)).heap ((Ch.of_below (below_alloc (Below.refl _ _) _) (fun _ => False)).heap BK1.out (fun h => h)) (fun h => h))
  clear hb
  have c2_25 := zcell BK2.out 25 _ rfl
  clear c1_2
  go_wp2_with fail
  go_at_call 91
  refine (clientIn.yes 1 1048576 [4] w _ _ _ ?hg rfl (by decide) (by decide)).mono ?_
  case hg => first | exact (World.size_alloc _ _).symm | (with_reducible exact rfl)
  rintro e w3 ⟨rfl, hb⟩
  have HB3 := Aside0.mk (below_b (below_alloc HB2.out _) hb (below_alloc HB2.out _).size)
  have BK3 := Aside0.mk ((Ch.of_below hb (fun _ => False)).heap ((Ch.of_below (below_alloc (Below.refl _ _) _) (fun _ => False)).heap BK2.out (fun h => h)) (fun h => h))
  clear hb
  clear c2_25
  go_wp2_with (first | ((with_reducible refine gate_dst (N := 23) rfl ?_); refine load_mid_w ?hw 65 _ rfl gb 0 rfl [.int .i64 3, .bool false, .int .i64 4, .int .i64 2, .int .i64 6, .int .i64 1, .int .i64 3, .int .i64 800, .int .i64 5, .int .i64 4, .int .i64 16, .int .i64 50, .int .i64 40, .int .i64 200, .int .i64 50, .int .i64 2, .int .i64 5, .int .i64 3, .int .i64 1, .int .i64 5, .int .i64 900, .int .i64 2, .int .i64 1, .int .i64 4, .int .i64 500, .int .i64 4] _ (range_of BK3.out (by rfl)) Try.underlying65 rfl (by kernel_rfl) ?_; (case hw => first | rfl | (go_simp; done) | (go_simp; rfl))))
  go_at_call 92
  refine (health_Sets.calls 20 3 false 4 2 6 1 3 800 5 4 16 50 40 200 50 2 5 3 1 5 900 2 1 4 500 4 true _ (by decide +kernel)).mono ?_
  rintro e w4 ⟨rfl, hb⟩
  have HB4 := Aside0.mk (below_b (HB3.out) hb (HB3.out).size)
  have BK4 := Aside0.mk ((Ch.of_below hb (fun _ => False)).heap (BK3.out) (fun h => h))
  clear hb
  go_wp2_with (first | ((with_reducible refine gate_dst (N := 29) rfl ?_); refine load_mid_w ?hw 59 _ rfl gb 13 rfl [.int .i64 200, .int .i64 50, .int .i64 2, .int .i64 5] _ (range_of BK4.out (by rfl)) Try.underlying59 rfl (by kernel_rfl) ?_; (case hw => first | rfl | (go_simp; done) | (go_simp; rfl))))
  go_at_call 93
  refine (bucket_Sets.calls 200 50 2 5 true _ (by decide +kernel)).mono ?_
  rintro e w5 ⟨rfl, hb⟩
  have HB5 := Aside0.mk (below_b (HB4.out) hb (HB4.out).size)
  have BK5 := Aside0.mk ((Ch.of_below hb (fun _ => False)).heap (BK4.out) (fun h => h))
  clear hb
  go_wp2_with (first | ((with_reducible refine gate_dst (N := 34) rfl ?_); refine load_mid_w ?hw 63 _ rfl gb 17 rfl [.int .i64 3, .int .i64 1, .int .i64 5, .int .i64 900, .int .i64 2, .int .i64 1, .int .i64 4, .int .i64 500] _ (range_of BK5.out (by rfl)) Try.underlying63 rfl (by kernel_rfl) ?_; (case hw => first | rfl | (go_simp; done) | (go_simp; rfl))))
  go_at_call 94
  refine (callSets.calls _).mono ?_
  rintro e w6 ⟨rfl, hb⟩
  have HB6 := Aside0.mk (below_b (HB5.out) hb (HB5.out).size)
  have BK6 := Aside0.mk ((Ch.of_below hb (fun _ => False)).heap (BK5.out) (fun h => h))
  clear hb
  go_wp2_with fail
  go_ret
  exact ⟨rfl, HB6.out⟩
set_option maxHeartbeats 400000 in
set_option maxRecDepth 100000 in
theorem sets28.calls (w : World) : Calls Try.prog 52 #[] w fun e w' => e = .returned (.agg #[.int .i64 3, .bool false, .int .i64 4, .int .i64 2, .int .i64 6, .int .i64 1, .int .i64 3, .int .i64 800, .int .i64 5, .int .i64 4, .int .i64 16, .int .i64 50, .int .i64 40, .int .i64 200, .int .i64 50, .int .i64 2, .int .i64 5, .int .i64 3, .int .i64 1, .int .i64 5, .int .i64 900, .int .i64 2, .int .i64 1, .int .i64 4, .int .i64 500, .int .i64 4]) ∧ Below w.heap.size w w' := by
  go_enter Try.func52, Try.ntmps52
  go_wp2_with (first | ((with_reducible refine gate_dst (N := 0) rfl ?_); refine box_event ?hg (N := 0) ?hd (cs := #[.int .i64 0, .bool false, .int .i64 0, .int .i64 0, .int .i64 0, .int .i64 0, .int .i64 0, .int .i64 0, .int .i64 0, .int .i64 0, .int .i64 0, .int .i64 0, .int .i64 0, .int .i64 0, .int .i64 0, .int .i64 0, .int .i64 0, .int .i64 0, .int .i64 0, .int .i64 0, .int .i64 0, .int .i64 0, .int .i64 0, .int .i64 0, .int .i64 0, .int .i64 0]) (t := 65) ?hr ?_; (case hd => rfl); (case hg => rfl); (case hr => first | (go_simp; done) | (go_simp; rfl)); intro gb hg w0 hbox hb; have HB0 := Aside0.mk hb; have BK0 := Aside0.mk hbox; have GB := Aside0.mk hg; clear hb hbox hg) | ((with_reducible refine gate_store (p := 0) rfl ?_); refine store_all rfl rfl 65 _ _ rfl #[.int .i64 3, .bool false, .int .i64 4, .int .i64 2, .int .i64 6, .int .i64 1, .int .i64 3, .int .i64 800, .int .i64 5, .int .i64 4, .int .i64 16, .int .i64 50, .int .i64 40, .int .i64 200, .int .i64 50, .int .i64 2, .int .i64 5, .int .i64 3, .int .i64 1, .int .i64 5, .int .i64 900, .int .i64 2, .int .i64 1, .int .i64 4, .int .i64 500, .int .i64 4] rfl rfl BK0.out rfl (by kernel_rfl) (by decide) ?_; intro w1 h1 h2; have BK1 := Aside0.mk h1; have HB1 := Aside0.mk h2; clear h1 h2))
  refine bodyPost_ret ?_ rfl ⟨rfl, ?_⟩
  · exact results_single rfl (.cell gb 65 #[.int .i64 3, .bool false, .int .i64 4, .int .i64 2, .int .i64 6, .int .i64 1, .int .i64 3, .int .i64 800, .int .i64 5, .int .i64 4, .int .i64 16, .int .i64 50, .int .i64 40, .int .i64 200, .int .i64 50, .int .i64 2, .int .i64 5, .int .i64 3, .int .i64 1, .int .i64 5, .int .i64 900, .int .i64 2, .int .i64 1, .int .i64 4, .int .i64 500, .int .i64 4] (0, 0) _ rfl BK1.out Try.underlying65 rfl (by exact (by kernel_rfl : (Try.prog.info? 65).map (·.size) = some 26)) .nil)
  · exact below_ch HB0.out HB1.out HB0.out.size (fun k h => by have := GB.out; omega)
set_option maxHeartbeats 400000 in
set_option maxRecDepth 100000 in
theorem config.calls (cl be sd : Int) (w : World) : Calls Try.prog 25 #[.int .i64 cl, .int .i64 be, .int .u64 sd] w fun e w' => e = .returned (.agg #[.int .i64 (wrap64 (1 + Int.tmod (wrap64 (Int.tmod cl 3 + 3)) 3)), .int .i64 (wrap64 (1 + Int.tmod (wrap64 (Int.tmod be 4 + 4)) 4)), .int .u64 sd, .int .i64 3, .bool false, .int .i64 4, .int .i64 2, .int .i64 6, .int .i64 1, .int .i64 3, .int .i64 800, .int .i64 5, .int .i64 4, .int .i64 16, .int .i64 50, .int .i64 40, .int .i64 200, .int .i64 50, .int .i64 2, .int .i64 5, .int .i64 3, .int .i64 1, .int .i64 5, .int .i64 900, .int .i64 2, .int .i64 1, .int .i64 4, .int .i64 500, .int .i64 4, .int .i64 4, .int .i64 30, .int .i64 8]) ∧ Below w.heap.size w w' := by
  go_enter Try.func25, Try.ntmps25
  go_wp2_with (first | ((with_reducible refine gate_dst (N := 6) rfl ?_); refine box_event ?hg (N := 6) ?hd (cs := #[.int .i64 0, .int .i64 0, .int .u64 0, .int .i64 0, .bool false, .int .i64 0, .int .i64 0, .int .i64 0, .int .i64 0, .int .i64 0, .int .i64 0, .int .i64 0, .int .i64 0, .int .i64 0, .int .i64 0, .int .i64 0, .int .i64 0, .int .i64 0, .int .i64 0, .int .i64 0, .int .i64 0, .int .i64 0, .int .i64 0, .int .i64 0, .int .i64 0, .int .i64 0, .int .i64 0, .int .i64 0, .int .i64 0, .int .i64 0, .int .i64 0, .int .i64 0]) (t := 69) ?hr ?_; (case hd => rfl); (case hg => rfl); (case hr => first | (go_simp; done) | (go_simp; rfl)); intro gb hg w0 hbox hb; have HB0 := Aside0.mk hb; have BK0 := Aside0.mk hbox; have GB := Aside0.mk hg; clear hb hbox hg) | (go_at_call 52; refine (sets28.calls _).mono ?_; rintro e w1 ⟨rfl, hb⟩; have HB1 := Aside0.mk (below_b HB0.out hb HB0.out.size); have BK1 := Aside0.mk ((Ch.of_below hb (fun _ => False)).heap BK0.out (fun h => h)); clear hb) | ((with_reducible refine gate_store (p := 6) rfl ?_); refine store_all rfl rfl 69 _ _ rfl #[.int .i64 (wrap64 (1 + Int.tmod (wrap64 (Int.tmod cl 3 + 3)) 3)), .int .i64 (wrap64 (1 + Int.tmod (wrap64 (Int.tmod be 4 + 4)) 4)), .int .u64 sd, .int .i64 3, .bool false, .int .i64 4, .int .i64 2, .int .i64 6, .int .i64 1, .int .i64 3, .int .i64 800, .int .i64 5, .int .i64 4, .int .i64 16, .int .i64 50, .int .i64 40, .int .i64 200, .int .i64 50, .int .i64 2, .int .i64 5, .int .i64 3, .int .i64 1, .int .i64 5, .int .i64 900, .int .i64 2, .int .i64 1, .int .i64 4, .int .i64 500, .int .i64 4, .int .i64 4, .int .i64 30, .int .i64 8] rfl rfl BK1.out rfl (by kernel_rfl) (by rfl) ?_; intro w2 h1 h2; have BK2 := Aside0.mk h1; have HB2 := Aside0.mk h2; clear h1 h2))
  refine bodyPost_ret ?_ rfl ⟨rfl, ?_⟩
  · exact results_single rfl (.cell gb 69 #[.int .i64 (wrap64 (1 + Int.tmod (wrap64 (Int.tmod cl 3 + 3)) 3)), .int .i64 (wrap64 (1 + Int.tmod (wrap64 (Int.tmod be 4 + 4)) 4)), .int .u64 sd, .int .i64 3, .bool false, .int .i64 4, .int .i64 2, .int .i64 6, .int .i64 1, .int .i64 3, .int .i64 800, .int .i64 5, .int .i64 4, .int .i64 16, .int .i64 50, .int .i64 40, .int .i64 200, .int .i64 50, .int .i64 2, .int .i64 5, .int .i64 3, .int .i64 1, .int .i64 5, .int .i64 900, .int .i64 2, .int .i64 1, .int .i64 4, .int .i64 500, .int .i64 4, .int .i64 4, .int .i64 30, .int .i64 8] (0, 0) _ rfl BK2.out Try.underlying69 rfl (by exact (by kernel_rfl : (Try.prog.info? 69).map (·.size) = some 32)) .nil)
  · exact below_ch HB1.out HB2.out HB1.out.size (fun k h => by have := GB.out; omega)
set_option maxHeartbeats 400000 in
set_option maxRecDepth 100000 in
theorem worldCheck.calls (cl be sd : Int) (h0 : 1 ≤ cl) (h1 : cl ≤ 8) (h2 : 1 ≤ be) (h3 : be ≤ 32) (w : World) : Calls Try.prog 53 #[.agg #[.int .i64 cl, .int .i64 be, .int .u64 sd, .int .i64 3, .bool false, .int .i64 4, .int .i64 2, .int .i64 6, .int .i64 1, .int .i64 3, .int .i64 800, .int .i64 5, .int .i64 4, .int .i64 16, .int .i64 50, .int .i64 40, .int .i64 200, .int .i64 50, .int .i64 2, .int .i64 5, .int .i64 3, .int .i64 1, .int .i64 5, .int .i64 900, .int .i64 2, .int .i64 1, .int .i64 4, .int .i64 500, .int .i64 4, .int .i64 4, .int .i64 30, .int .i64 8]] w fun e w' => e = .returned (.int .i64 0) ∧ Below w.heap.size w w' := by
  go_enter Try.func53, Try.ntmps53
  go_wp2_with (first | ((with_reducible refine gate_dst (N := 1) rfl ?_); refine box_event ?hg (N := 1) ?hd (cs := #[.int .i64 cl, .int .i64 be, .int .u64 sd, .int .i64 3, .bool false, .int .i64 4, .int .i64 2, .int .i64 6, .int .i64 1, .int .i64 3, .int .i64 800, .int .i64 5, .int .i64 4, .int .i64 16, .int .i64 50, .int .i64 40, .int .i64 200, .int .i64 50, .int .i64 2, .int .i64 5, .int .i64 3, .int .i64 1, .int .i64 5, .int .i64 900, .int .i64 2, .int .i64 1, .int .i64 4, .int .i64 500, .int .i64 4, .int .i64 4, .int .i64 30, .int .i64 8]) (t := 69) ?hr ?_; (case hd => rfl); (case hg => rfl); (case hr => first | (go_simp; done) | (go_simp; rfl)); intro gb hg w0 hbox hb; have HB0 := Aside0.mk hb; have BK0 := Aside0.mk hbox; clear hb hbox hg; have c0_0 := zcell BK0.out 0 _ rfl; have c0_1 := zcell BK0.out 1 _ rfl) | ((with_reducible refine gate_dst (N := 23) rfl ?_); refine load_mid_w ?hw 65 _ rfl gb 3 rfl [.int .i64 3, .bool false, .int .i64 4, .int .i64 2, .int .i64 6, .int .i64 1, .int .i64 3, .int .i64 800, .int .i64 5, .int .i64 4, .int .i64 16, .int .i64 50, .int .i64 40, .int .i64 200, .int .i64 50, .int .i64 2, .int .i64 5, .int .i64 3, .int .i64 1, .int .i64 5, .int .i64 900, .int .i64 2, .int .i64 1, .int .i64 4, .int .i64 500, .int .i64 4] _ (range_of BK0.out (by rfl)) Try.underlying65 rfl (by kernel_rfl) ?_; (case hw => first | rfl | (go_simp; done) | (go_simp; rfl))))
  go_at_call 74
  refine (clientSets.calls _).mono ?_
  rintro e w1 ⟨rfl, hb⟩
  have HB1 := Aside0.mk (below_b (HB0.out) hb (HB0.out).size)
  have BK1 := Aside0.mk ((Ch.of_below hb (fun _ => False)).heap (BK0.out) (fun h => h))
  clear hb
  clear c0_0
  clear c0_1
  go_wp2_with (first | ((with_reducible refine gate_dst (N := 29) rfl ?_); refine load_mid_w ?hw 67 _ rfl gb 29 rfl [.int .i64 4, .int .i64 30, .int .i64 8] _ (range_of BK1.out (by rfl)) Try.underlying67 rfl (by kernel_rfl) ?_; (case hw => first | rfl | (go_simp; done) | (go_simp; rfl))))
  go_at_call 75
  refine (session_Sets.calls 4 30 8 true _ (by decide +kernel)).mono ?_
  rintro e w2 ⟨rfl, hb⟩
  have HB2 := Aside0.mk (below_b (HB1.out) hb (HB1.out).size)
  have BK2 := Aside0.mk ((Ch.of_below hb (fun _ => False)).heap (BK1.out) (fun h => h))
  clear hb
  go_wp2_with fail
  go_ret
  exact ⟨rfl, HB2.out⟩
end Go.Proofs.Ytemleanglkaedaa.ECalmPlans
