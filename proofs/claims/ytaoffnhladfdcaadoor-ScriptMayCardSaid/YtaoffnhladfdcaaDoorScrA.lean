/- The reader of a script: its tokens, words, numbers. -/
import Derived.Deep.RegionHeld2
import Derived.WalkSpells
import Derived.WalkLawsBesides
import Derived.WalkKit
import Derived.Deep.RegionHeld3
import Derived.Deep.RegionLaw
import Derived.StillTailTactics
import Derived.Deep.MidRow
import Derived.Defers
import Derived.Recover
import Derived.Test.YtaoffnhladfdcaaDoorEScriptTracex
namespace Go.Proofs.YtaoffnhladfdcaaDoor.EScriptTrace
open Go.RowKit Go.Shelf Go.Proofs.YtaoffnhladfdcaaDoorW.PrintWords Go.Proofs.YtaoffnhladfdcaaDoorW.PrintLast Go.Proofs.YtaoffnhladfdcaaDoorW.PrintMore
set_option linter.unusedVariables false
set_option linter.unusedSimpArgs false
theorem below_b {B : Nat} {w0 w w1 : World} (h : Below B w0 w) (k : Below w.heap.size w w1) (hB : B ≤ w.heap.size) : Below B w0 w1 := below_ch h (Ch.of_below k (fun _ => False)) hB (fun _ h => h.elim)
theorem cell_step {W W1 : World} {p : Addr} {v : Value} (hb : Below W.heap.size W W1) (h : W.cell? p = some v) : W1.cell? p = some v := by
  rw [hb.cell (by
    refine Nat.lt_of_not_le fun hk => ?_
    have : W.heap[p.block]? = none := by simp [hk]
    unfold World.cell? at h
    rw [this] at h
    simp at h)]
  exact h
section
variable {P : Program} {ops : Array Oper} {rest : List Oper} {o : Oper} {a : Act} {Q : Exit → Act → World → Prop}
theorem put_all {w : World} {g : Nat} {cs : Array Value} {t : TypeId} (vs : Array Value) (hh : w.heap[g]? = some (.cells cs t (0, 0))) (hl : vs.size = cs.size) : (w.setCells g 0 vs.toList).heap[g]? = some (.cells vs t (0, 0)) := by
  obtain ⟨cur, h1, h2, h3⟩ := setCells_row vs.toList 0 w cs hh (by simp; omega)
  rw [h1]
  congr 2
  apply Array.ext'
  rw [h3]
  simp [hl]
theorem ch_setCells (w : World) (g o : Nat) (vs : List Value) : Ch (fun k => k = g) w (w.setCells g o vs) :=
  have h := setCells_same g vs o w
  ⟨h.1, h.2.1, h.2.2.1, by rw [h.2.2.2]; exact Nat.le_refl _, fun k _ hk => setCells_far vs o k hk⟩
/-- A whole block is written by one store. -/
theorem store_all {W : World} (hgd : o.guard = none) (hN : o.dst = none) (t : TypeId) (p x : Operand) (ho : o.op = .store t p x) {g : Nat} {cs : Array Value} {tb : TypeId} (vs : Array Value) (haddr : a.eval p = .pointer (some ⟨g, 0, none⟩)) (hx : a.eval x = .agg vs) (hh : W.heap[g]? = some (.cells cs tb (0, 0))) (hl : vs.size = cs.size) (hi : (P.info? t).map (·.size) = some vs.size) (h1 : vs.toList.all (·.oneCell') = true)
    (h : ∀ w1, w1.heap[g]? = some (.cells vs tb (0, 0)) → Ch (fun k => k = g) W w1 → wpList P ops Q rest a w1) : wpList P ops Q (o :: rest) a W := by
  refine wpList_plain hgd fun K hK => ?_
  have hrun : (Instr.storeAt t (.pointer (some ⟨g, 0, none⟩)) (.agg vs)).run P W = .ok () (W.setCells g 0 vs.toList) :=
    run_store_run t (.agg vs) vs.toList hh rfl (by rw [hi]; simp) (by simp; omega) (fun q hq => List.all_eq_true.1 h1 q hq)
  unfold Oper.wp execOp
  simp only [ho, haddr, hx, Sem.run_bind, Sem.run_pure, Result.andThen_ok, hrun]
  show K (a.put o.dst undef) _
  rw [hN]
  exact hK _ _ (h _ (put_all vs hh hl) (ch_setCells W g 0 vs.toList))
end
theorem range_of {w : World} {g o : Nat} {cs : Array Value} {t : TypeId} {vs : List Value} (h : w.heap[g]? = some (.cells cs t (0, 0))) (hv : (cs.toList.drop o).take vs.length = vs) : w.rangeAt g o vs := by
  intro j v hj
  have hl : j < vs.length := (List.getElem?_eq_some_iff.1 hj).1
  rw [← hv, List.getElem?_take_of_lt hl, List.getElem?_drop] at hj
  refine zcell h (o + j) v ?_
  simpa using hj
section
variable {P : Program} {ops : Array Oper} {rest : List Oper} {op : Oper} {a : Act} {w : World} {Q : Exit → Act → World → Prop}
theorem load_mid_w (hw : Region.wanted op (yielded ops a.tmps) = true) (ty : TypeId) (x : Operand) (ho : op.op = .load ty x)
    (b o : Nat) (hx : a.eval x = .pointer (some ⟨b, o, none⟩)) (cs : List Value) (d : TypeDesc) (hc : w.rangeAt b o cs)
    (hu : P.underlying ty = some d) (hd : d.isRow = true) (hi : (P.info? ty).map (·.size) = some cs.length)
    (h : wpList P ops Q rest (a.put op.dst (.agg cs.toArray)) w) : wpList P ops Q (op :: rest) a w := by
  unfold wpList
  rw [if_pos hw]
  exact .inl (wp_load_mid ty x ho b o hx cs d hc hu hd hi h)
end
/-! The reader of a script: its tokens and its line; the laid table. -/
def Tab (w : World) : Prop := Lib.TabIs Tryd.prog w "strings.asciiSpace" .u8 Lib.asciiSpaceTab ∧ 0 < w.heap.size
theorem g0 : Tryd.prog.globalNamed "strings.asciiSpace" = some 0 := by kernel_rfl
theorem Tab.heap {w w1 : World} (h : Tab w) (e : w1.heap[0]? = w.heap[0]?) : Tab w1 := by
  refine ⟨?_, ?_⟩
  · have h1 := h.1
    unfold Lib.TabIs World.var? at h1 ⊢
    rw [g0] at h1 ⊢
    simp only [Option.bind_some] at h1 ⊢
    rw [e]; exact h1
  · have h0 : w.heap[0]? = some (w.heap[0]'h.2) := Array.getElem?_eq_getElem h.2
    rw [h0] at e
    exact lt_of_block e
theorem Tab.below {w w1 : World} (h : Tab w) (hb : Below w.heap.size w w1) : Tab w1 := h.heap (hb.block 0 h.2)
theorem Tab.ch {w w1 : World} {S : Nat → Prop} (h : Tab w) (hc : Ch S w w1) (hs : ¬ S 0) : Tab w1 := h.heap (hc.block 0 h.2 hs)
/-- A panic with an error. -/
def pnc (c : Int) : List PanicEntry := [{ v := .iface 40 (.int .i64 c), recovered := false }]
set_option maxHeartbeats 400000 in
theorem need_yes.calls (c : Int) (w : World) : Calls Tryd.prog 39 #[.bool true, .int .i64 c] w fun e w' => e = .returned (.tuple #[]) ∧ w = w' := by
  go_enter Tryd.func39, Tryd.ntmps39
  go_wp2_with fail
  go_end0
  exact ⟨rfl, rfl⟩
set_option maxHeartbeats 400000 in
theorem need_no.calls (c : Int) (w : World) : Calls Tryd.prog 39 #[.bool false, .int .i64 c] w fun e w' => e = .panicked (pnc c) ∧ w = w' := by
  go_enter Tryd.func39, Tryd.ntmps39
  go_wp2_with fail
  exact ⟨rfl, rfl, rfl⟩
/-- The row's memory is none of the block's. -/
def FarT (A : Option Addr) (n pb : Nat) : Prop := ∀ ad, A = some ad → 0 < n → ad.block ≠ pb
theorem addT_block (a : Addr) (k : Nat) : (a.add k).block = a.block := by
  unfold Addr.add; split <;> rfl
theorem C98_ch {w w1 : World} {A : Option Addr} {n pb : Nat} {l : List S98} (h : Kd.C k98 w A n l) (hc : Ch (fun k => k = pb) w w1) (hf : FarT A n pb) : Kd.C k98 w1 A n l := by
  refine ⟨h.1, h.2.1, fun hp => ?_⟩
  obtain ⟨ad, e, f⟩ := h.2.2 hp
  refine ⟨ad, e, fun j p hj => ?_⟩
  obtain ⟨c, h1, h2, h3⟩ := f j p hj
  have := k98_open h2
  subst this
  exact ⟨_, h1, k98_mk _ _, fun i u hu => hc.cell (h3 i u hu) (by rw [addT_block]; exact hf ad e hp)⟩
def dropT (A : Option Addr) (c m : Nat) : Option Addr := if c = m then A else A.map (·.add (m * 3))
theorem C_dropT {w : World} {A : Option Addr} {c m : Nat} {l : List S98} (h : Kd.C k98 w A l.length l) (hm : m ≤ l.length) (hc : l.length ≤ c) : Kd.C k98 w (dropT A c m) (l.drop m).length (l.drop m) := Kd.C_drop h hm hc
theorem far_dropT {A : Option Addr} {c m n k rb : Nat} (h : FarT A n rb) (hk : 0 < k → 0 < n) : FarT (dropT A c m) k rb := by
  intro ad e hp
  unfold dropT at e
  split at e
  · exact h ad e (hk hp)
  · cases A with
    | none => cases e
    | some a =>
      injection e with e
      subst e
      rw [addT_block]
      exact h a rfl (hk hp)
theorem cutT (A : Option Addr) (n c : Nat) (lo : Int) (h0 : 0 ≤ lo) (h2 : lo ≤ n) : ∀ W : World, (Instr.slice 90 (.slice A n c) (some (.int .i64 lo)) none none).run Tryd.prog W = .ok (.slice (dropT A c lo.toNat) (n - lo.toNat) (c - lo.toNat)) W := by
  obtain ⟨i0, hi, hzz⟩ := Option.map_eq_some_iff.1 info98
  simp only [Prod.mk.injEq] at hzz
  exact cut_from 90 98 .i64 Tryd.underlying90 hi 3 hzz.2.1 A n c lo h0 h2
/-- The row that a block's first cell names lies below B. -/
def LowT (w : World) (pb B : Nat) : Prop := ∀ ad k c cs T m, w.heap[pb]? = some (.cells cs T m) → cs[0]? = some (.slice (some ad) k c) → 0 < k → ad.block < B
theorem LowT.heap {w w1 : World} {pb B : Nat} (h : LowT w pb B) (e : w1.heap[pb]? = w.heap[pb]?) : LowT w1 pb B := fun ad k c cs T m h1 h2 h3 => h ad k c cs T m (by rw [← e]; exact h1) h2 h3
theorem LowT.mk' {w : World} {pb B m c : Nat} {A : Option Addr} {u : Value} {T : TypeId} {q : Nat × Nat} (h1 : w.heap[pb]? = some (.cells #[.slice A m c, u] T q)) (h : ∀ ad, A = some ad → 0 < m → ad.block < B) : LowT w pb B := by
  intro ad' k' c' cs T' m' h3 h4 h5
  rw [h1] at h3
  injection h3 with h3
  injection h3 with h3 _ _
  subst h3
  simp only [List.getElem?_toArray, List.getElem?_cons_zero, Option.some.injEq, Value.slice.injEq] at h4
  exact h ad' h4.1 (by omega)
theorem LowT.of {w : World} {pb B n c : Nat} {A : Option Addr} {u : Value} {T : TypeId} {q : Nat × Nat} (h : LowT w pb B) (h1 : w.heap[pb]? = some (.cells #[.slice A n c, u] T q)) : ∀ ad, A = some ad → 0 < n → ad.block < B := fun ad e hn => h ad n c _ _ _ h1 (by rw [e]; rfl) hn
theorem low_dropT {A : Option Addr} {c m n k B : Nat} (h : ∀ ad, A = some ad → 0 < n → ad.block < B) (hk : 0 < k → 0 < n) : ∀ ad, dropT A c m = some ad → 0 < k → ad.block < B := by
  intro ad e hp
  unfold dropT at e
  split at e
  · exact h ad e (hk hp)
  · cases A with
    | none => cases e
    | some a =>
      injection e with e
      subst e
      rw [addT_block]
      exact h a rfl (hk hp)
/-- The reader stands ahead of these tokens. -/
structure TokAt (w : World) (pb B : Nat) (l : List S98) (n : Int) : Prop where
  mk ::
  at_ : ∃ A c, w.heap[pb]? = some (.cells #[.slice A l.length c, .int .i64 n] 95 (0, 0)) ∧ l.length ≤ c ∧ Kd.C k98 w A l.length l ∧ FarT A l.length pb
  low : LowT w pb B
  tab : Tab w
  pos : pb ≠ 0
theorem TokAt.below {w w1 : World} {pb B : Nat} {l : List S98} {n : Int} (h : TokAt w pb B l n) (hb : Below w.heap.size w w1) : TokAt w1 pb B l n := by
  obtain ⟨A, c, h1, h2, h3, h4⟩ := h.at_
  exact ⟨⟨A, c, (Ch.of_below hb (fun _ => False)).heap h1 (fun h => h), h2, Kd.C_below h3 hb, h4⟩, h.low.heap (hb.block pb (lt_of_block h1)), h.tab.below hb, h.pos⟩
theorem C98_low {w w1 : World} {A : Option Addr} {n B : Nat} {l : List S98} (h : Kd.C k98 w A n l) (hc : Ch (fun k => B ≤ k) w w1) (hf : ∀ ad, A = some ad → 0 < n → ad.block < B) : Kd.C k98 w1 A n l := by
  refine ⟨h.1, h.2.1, fun hp => ?_⟩
  obtain ⟨ad, e, f⟩ := h.2.2 hp
  refine ⟨ad, e, fun j p hj => ?_⟩
  obtain ⟨c, h1, h2, h3⟩ := f j p hj
  have := k98_open h2
  subst this
  exact ⟨_, h1, k98_mk _ _, fun i u hu => hc.cell (h3 i u hu) (by rw [addT_block]; have := hf ad e hp; omega)⟩
/-- What happens above B, the block itself apart, leaves the tokens. -/
theorem TokAt.above {w w1 : World} {pb B B' : Nat} {l : List S98} {n : Int} (h : TokAt w pb B' l n) (hc : Ch (fun k => B ≤ k) w w1) (hB : B' ≤ B) (hp : pb < B) : TokAt w1 pb B' l n := by
  obtain ⟨A, c, h1, h2, h3, h4⟩ := h.at_
  have h5 := hc.heap h1 (by omega)
  exact ⟨⟨A, c, h5, h2, C98_low h3 hc (fun ad e hn => Nat.lt_of_lt_of_le (LowT.of h.low h1 ad e hn) hB), h4⟩, h.low.heap (by rw [h5, h1]), h.tab.ch hc (by have := h.pos; omega), h.pos⟩
theorem keep_set {W : World} {p a : Addr} {u v : Value} (h : W.cell? a = some v) (hn : a.block ≠ p.block) : (W.setCell p u).cell? a = some v := by
  have e := Below.heap_setCell W p u a.block hn
  unfold World.cell? at h ⊢
  rw [e]; exact h
theorem TokAt.lt {w : World} {pb B : Nat} {l : List S98} {n : Int} (h : TokAt w pb B l n) : pb < w.heap.size := by
  obtain ⟨A, c, hk, _⟩ := h.at_
  exact lt_of_block hk
theorem TokAt.cons {w : World} {pb B : Nat} {t : S98} {r : List S98} {n : Int} (h : TokAt w pb B (t :: r) n) : ∃ ad m c, m = r.length + 1 ∧ w.heap[pb]? = some (.cells #[.slice (some ad) m c, .int .i64 n] 95 (0, 0)) ∧ m ≤ c ∧ m ≤ 9223372036854775807 ∧ Kd.C k98 w (some ad) m (t :: r) ∧ FarT (some ad) m pb ∧ w.cell? ad = some (.int .i64 t.f0) ∧ w.cell? ⟨ad.block, ad.off + 1, none⟩ = some (.string t.f1) ∧ w.cell? ⟨ad.block, ad.off + 2, none⟩ = some (.int .i64 t.f2) ∧ ad.block ≠ pb := by
  obtain ⟨A, c, hb, hc, hC, hF⟩ := h.at_
  obtain ⟨ad, e1, hy0, hy1, hy2⟩ := at_T98 hC 0 (by omega) (by simp only [List.length_cons]; omega)
  subst e1
  have e : ad.add (Int.toNat 0 * 3) = ad := by
    show ad.add 0 = ad
    unfold Addr.add; simp
  rw [e] at hy0 hy1 hy2
  exact ⟨ad, _, c, rfl, hb, hc, hC.2.1, hC, hF, hy0, hy1, hy2, hF ad rfl (by simp)⟩
/-- The line is noted. -/
theorem TokAt.line {w W : World} {pb B : Nat} {l : List S98} {n m : Int} (h : TokAt w pb B l n) (hc : Ch (fun k => k = pb) w W) {A : Option Addr} {k c : Nat} (h1 : w.heap[pb]? = some (.cells #[.slice A k c, .int .i64 n] 95 (0, 0))) (hk : W.heap[pb]? = some (.cells #[.slice A k c, .int .i64 m] 95 (0, 0))) : TokAt W pb B l m := by
  obtain ⟨A', c', h1', h2, h3, h4⟩ := h.at_
  rw [h1] at h1'
  simp only [Option.some.injEq, Obj.cells.injEq, Array.mk.injEq, List.cons.injEq, Value.slice.injEq, and_true] at h1'
  obtain ⟨rfl, rfl, rfl⟩ := h1'
  exact ⟨⟨A, c, hk, h2, C98_ch h3 hc h4, h4⟩, LowT.mk' hk (LowT.of h.low h1), h.tab.ch hc h.pos.symm, h.pos⟩
/-- A token is taken. -/
theorem TokAt.next {w W : World} {pb B : Nat} {t : S98} {r : List S98} {n n' : Int} {ad : Addr} {m c : Nat} (h : TokAt w pb B (t :: r) n) (hc : Ch (fun k => k = pb) w W) (hm : m = r.length + 1) (hb : w.heap[pb]? = some (.cells #[.slice (some ad) m c, .int .i64 n] 95 (0, 0))) (hmc : m ≤ c) (hC : Kd.C k98 w (some ad) m (t :: r)) (hF : FarT (some ad) m pb) (hk : W.heap[pb]? = some (.cells #[.slice (dropT (some ad) c 1) (m - 1) (c - 1), .int .i64 n'] 95 (0, 0))) : TokAt W pb B r n' := by
  have hmr : m - 1 = r.length := by omega
  have hlen : (t :: r).length = m := by rw [hm]; rfl
  have hcd := C_dropT (m := 1) (c := c) (l := t :: r) (by rw [hlen]; exact C98_ch hC hc hF) (by rw [hlen]; omega) (by rw [hlen]; exact hmc)
  exact ⟨⟨dropT (some ad) c 1, c - 1, by rw [← hmr]; exact hk, by omega, hcd, far_dropT hF (fun h => by omega)⟩, LowT.mk' hk (low_dropT (LowT.of h.low hb) (fun h => by omega)), h.tab.ch hc h.pos.symm, h.pos⟩
abbrev St31 := List S98 × Int
abbrev Out (α : Type) := Sum (Int × St31) (α × St31)
def peekS (st : St31) : Out S98 := match st.1 with
  | [] => .inl (8, st)
  | t :: r => .inr (t, (t :: r, t.f2))
def askS (ok : Bool) (st : St31) : Out ByteArray := match st.1 with
  | [] => .inl (8, st)
  | t :: r => if ok = true then .inr (t.f1, (r, t.f2)) else .inl (33, (t :: r, t.f2))
/-- How a step of the reader ends. -/
def Ends (w : World) (pb B : Nat) {α : Type} (R : α → World → Value → Prop) : Out α → Ending → World → Prop
  | .inl (c, st), e, w' => e = .panicked (pnc c) ∧ TokAt w' pb B st.1 st.2 ∧ Ch (fun k => k = pb) w w'
  | .inr (a, st), e, w' => (∃ v, e = .returned v ∧ R a w' v) ∧ TokAt w' pb B st.1 st.2 ∧ Ch (fun k => k = pb) w w'
def isStr (a : ByteArray) (_ : World) (v : Value) : Prop := v = .string a
def isInt (a : Int) (_ : World) (v : Value) : Prop := v = .int .i64 a
def isTk (a : S98) (_ : World) (v : Value) : Prop := v = .agg #[.int .i64 a.f0, .string a.f1, .int .i64 a.f2]
set_option maxHeartbeats 1000000 in
set_option maxRecDepth 100000 in
theorem peek.calls (pb B : Nat) (st : St31) (w : World) (h : TokAt w pb B st.1 st.2) : Calls Tryd.prog 38 #[.pointer (some ⟨pb, 0, none⟩)] w (Ends w pb B isTk (peekS st)) := by
  obtain ⟨l, n⟩ := st
  have HT := Aside0.mk h
  clear h
  cases l with
  | nil =>
    show Calls Tryd.prog 38 _ w (fun e w' => e = .panicked (pnc 8) ∧ TokAt w' pb B [] n ∧ Ch (fun k => k = pb) w w')
    go_enter Tryd.func38, Tryd.ntmps38
    go_wp2_with ((with_reducible refine gate_dst (N := 2) rfl ?_); refine box_event ?hg (N := 2) ?hd (cs := #[.int .i64 0, .string ⟨#[]⟩, .int .i64 0]) (t := 98) ?hr ?_; (case hd => rfl); (case hg => rfl); (case hr => first | (go_simp; done) | (go_simp; rfl)); intro gb hg w2 hbox hb; have HT2 := Aside0.mk (HT.out.below hb); have HB2 := Aside0.mk hb; obtain ⟨A, c, hk, hc, hC, hF⟩ := (HT.out.below hb).at_; have hx0 : w2.cell? ⟨pb, 0, none⟩ = some (.slice A 0 c) := zcell hk 0 _ rfl; clear hk hC hF hb hbox hg)
    try go_at_call 39
    refine (need_no.calls 8 _).mono ?_
    rintro e w1 ⟨rfl, rfl⟩
    go_wp2_with fail
    exact ⟨rfl, rfl, HT2.out, Ch.of_below HB2.out _⟩
  | cons t r =>
    show Calls Tryd.prog 38 _ w (fun e w' => (∃ v, e = .returned v ∧ v = .agg #[.int .i64 t.f0, .string t.f1, .int .i64 t.f2]) ∧ TokAt w' pb B (t :: r) t.f2 ∧ Ch (fun k => k = pb) w w')
    have HP0 := Aside0.mk HT.out.pos
    go_enter Tryd.func38, Tryd.ntmps38
    go_wp2_with ((with_reducible refine gate_dst (N := 2) rfl ?_); refine box_event ?hg (N := 2) ?hd (cs := #[.int .i64 0, .string ⟨#[]⟩, .int .i64 0]) (t := 98) ?hr ?_; (case hd => rfl); (case hg => rfl); (case hr => first | (go_simp; done) | (go_simp; rfl)); intro gb hg w2 hbox hb; have HT2 := Aside0.mk (HT.out.below hb); have HB2 := Aside0.mk hb; have BK2 := Aside0.mk hbox; have HG := Aside0.mk hg; obtain ⟨ad, m, c, hm, hk, hc, hm2, hC, hF, hy0, hy1, hy2, hne⟩ := (HT.out.below hb).cons; have hx0 : w2.cell? ⟨pb, 0, none⟩ = some (.slice (some ad) m c) := zcell hk 0 _ rfl; have hx1 : w2.cell? ⟨pb, 1, none⟩ = some (.int .i64 n) := zcell hk 1 _ rfl; have hz1 := zfree hk 1; have hp : (0 : Int) < ((m : Nat) : Int) := (by omega); have hq : decide (0 < m) = true := (decide_eq_true (by omega)); have HK := Aside0.mk hk; clear hm hk hC hF hb hbox hg)
    try go_at_call 39
    refine (need_yes.calls 8 _).mono ?_
    rintro e w1 ⟨rfl, rfl⟩
    have hK3 : (w2.setCell ⟨pb, 1, none⟩ (.int .i64 t.f2)).heap[pb]? = some (.cells #[.slice (some ad) m c, .int .i64 t.f2] 95 (0, 0)) := by simpa using zset HK.out 1 (.int .i64 t.f2)
    have HK3 := Aside0.mk hK3
    have hC3 : Ch (fun k => k = pb) w2 (w2.setCell ⟨pb, 1, none⟩ (.int .i64 t.f2)) := (Ch.refl (fun k => k = pb) w2).set (p := ⟨pb, 1, none⟩) (.inl rfl) _
    have HC3 := Aside0.mk hC3
    have BK3 := Aside0.mk (hC3.heap BK2.out (by have := HG.out; have := HT.out.lt; omega))
    have hs0 : (w2.setCell ⟨pb, 1, none⟩ (.int .i64 t.f2)).cell? ⟨pb, 0, none⟩ = some (.slice (some ad) m c) := zcell hK3 0 _ rfl
    have hs1 : (w2.setCell ⟨pb, 1, none⟩ (.int .i64 t.f2)).cell? ad = some (.int .i64 t.f0) := keep_set hy0 hne
    have hs2 : (w2.setCell ⟨pb, 1, none⟩ (.int .i64 t.f2)).cell? ⟨ad.block, ad.off + 1, none⟩ = some (.string t.f1) := keep_set hy1 hne
    have hs3 : (w2.setCell ⟨pb, 1, none⟩ (.int .i64 t.f2)).cell? ⟨ad.block, ad.off + 2, none⟩ = some (.int .i64 t.f2) := keep_set hy2 hne
    clear hne hK3 hC3
    go_wp2_with ((with_reducible refine gate_store (p := 2) rfl ?_); refine store_all rfl rfl 98 _ _ rfl #[.int .i64 t.f0, .string t.f1, .int .i64 t.f2] rfl rfl BK3.out rfl (by kernel_rfl) (by rfl) ?_; intro w4 h1 h2; have BK4 := Aside0.mk h1; have HC4 := Aside0.mk h2; clear h1 h2)
    refine bodyPost_ret (results_single rfl (.cell gb 98 #[.int .i64 t.f0, .string t.f1, .int .i64 t.f2] (0, 0) _ rfl BK4.out Tryd.underlying98 rfl (by exact (by kernel_rfl : (Tryd.prog.info? 98).map (·.size) = some 3)) .nil)) rfl ⟨⟨_, rfl, rfl⟩, ?_, ?_⟩
    all_goals have hcc : Ch (fun k => k = pb) w w4 := ((Ch.of_below HB2.out (fun k => k = pb)).trans HC3.out (fun k h => .inl h)).trans HC4.out (fun k h => .inr (by have := HG.out; omega))
    · exact HT.out.line hcc ((HB2.out.block pb HT.out.lt).symm.trans HK.out) (HC4.out.heap HK3.out (by have := HG.out; have := HT.out.lt; omega))
    · exact hcc
set_option maxHeartbeats 1000000 in
set_option maxRecDepth 100000 in
theorem take.calls (pb B : Nat) (ok : Bool) (st : St31) (w : World) (h : TokAt w pb B st.1 st.2) : Calls Tryd.prog 109 #[.pointer (some ⟨pb, 0, none⟩), .bool ok] w (Ends w pb B isStr (askS ok st)) := by
  obtain ⟨l, n⟩ := st
  have HT := Aside0.mk h
  clear h
  cases l with
  | nil =>
    show Calls Tryd.prog 109 _ w (fun e w' => e = .panicked (pnc 8) ∧ TokAt w' pb B [] n ∧ Ch (fun k => k = pb) w w')
    go_enter Tryd.func109, Tryd.ntmps109
    go_wp2_with fail
    try go_at_call 38
    refine (peek.calls pb B ([], n) _ HT.out).mono ?_
    rintro e w1 ⟨rfl, ht, hc⟩
    have HT1 := Aside0.mk ht
    have HC1 := Aside0.mk hc
    clear ht hc
    go_wp2_with fail
    exact ⟨rfl, rfl, HT1.out, HC1.out⟩
  | cons t r =>
    cases ok
    · show Calls Tryd.prog 109 _ w (fun e w' => e = .panicked (pnc 33) ∧ TokAt w' pb B (t :: r) t.f2 ∧ Ch (fun k => k = pb) w w')
      go_enter Tryd.func109, Tryd.ntmps109
      go_wp2_with fail
      try go_at_call 38
      refine (peek.calls pb B (t :: r, n) _ HT.out).mono ?_
      rintro e w1 ⟨⟨v, rfl, rfl⟩, ht, hc⟩
      have HT1 := Aside0.mk ht
      have HC1 := Aside0.mk hc
      clear ht hc
      go_wp2_with fail
      try go_at_call 39
      refine (need_no.calls 33 _).mono ?_
      rintro e w2 ⟨rfl, rfl⟩
      go_wp2_with fail
      exact ⟨rfl, rfl, HT1.out.below (below_alloc (Below.refl _ _) _), HC1.out.alloc _⟩
    · show Calls Tryd.prog 109 _ w (fun e w' => (∃ v, e = .returned v ∧ v = .string t.f1) ∧ TokAt w' pb B r t.f2 ∧ Ch (fun k => k = pb) w w')
      go_enter Tryd.func109, Tryd.ntmps109
      go_wp2_with fail
      try go_at_call 38
      refine (peek.calls pb B (t :: r, n) _ HT.out).mono ?_
      rintro e w1 ⟨⟨v, rfl, rfl⟩, ht, hc⟩
      have HT1 := Aside0.mk ht
      have HC1 := Aside0.mk hc
      clear ht hc
      go_wp2_with fail
      try go_at_call 39
      refine (need_yes.calls 33 _).mono ?_
      rintro e w2 ⟨rfl, rfl⟩
      have HT2 := Aside0.mk (HT1.out.below (below_alloc (Below.refl _ _) (.cells #[.int .i64 t.f0, .string t.f1, .int .i64 t.f2] 98)))
      have HC2 := Aside0.mk (HC1.out.alloc (.cells #[.int .i64 t.f0, .string t.f1, .int .i64 t.f2] 98))
      have BK2 := Aside0.mk (heap_alloc_new w1 (.cells #[.int .i64 t.f0, .string t.f1, .int .i64 t.f2] 98))
      have HNE : Aside0 (w1.heap.size ≠ pb) := ⟨by have := HT1.out.lt; omega⟩
      obtain ⟨g, hg⟩ : ∃ g, g = w1.heap.size := ⟨_, rfl⟩
      rw [← hg] at BK2 HNE ⊢
      clear hg
      generalize w1.alloc (.cells #[.int .i64 t.f0, .string t.f1, .int .i64 t.f2] 98) = W at HT2 HC2 BK2 ⊢
      obtain ⟨ad, m, c, hm, hk, hc, hm2, hC, hF, hy0, hy1, hy2, hne⟩ := HT2.out.cons
      have HK := Aside0.mk hk
      have HM := Aside0.mk (And.intro hm (And.intro hc (And.intro hC hF)))
      have hx0 : W.cell? ⟨pb, 0, none⟩ = some (.slice (some ad) m c) := zcell hk 0 _ rfl
      have hz0 := zfree hk 0
      have hcut := cutT (some ad) m c 1 (by omega) (by omega)
      have hk2 : (W.setCell ⟨pb, 0, none⟩ (.slice (dropT (some ad) c 1) (m - 1) (c - 1))).heap[pb]? = some (.cells #[.slice (dropT (some ad) c 1) (m - 1) (c - 1), .int .i64 t.f2] 95 (0, 0)) := by simpa using zset hk 0 (.slice (dropT (some ad) c 1) (m - 1) (c - 1))
      have HK2 := Aside0.mk hk2
      have hb1 : (W.setCell ⟨pb, 0, none⟩ (.slice (dropT (some ad) c 1) (m - 1) (c - 1))).cell? ⟨g, 1, none⟩ = some (.string t.f1) := keep_set (zcell BK2.out 1 _ rfl) HNE.out
      have hp : (1 : Int) ≤ ((m : Nat) : Int) := by omega
      have hcW : Ch (fun k => k = pb) W (W.setCell ⟨pb, 0, none⟩ (.slice (dropT (some ad) c 1) (m - 1) (c - 1))) := (Ch.refl (fun k => k = pb) W).set (p := ⟨pb, 0, none⟩) (.inl rfl) _
      have HCW := Aside0.mk hcW
      clear hm hk hC hF hy0 hy1 hy2 hne hk2 hcW
      go_wp2_with fail
      go_ret
      exact ⟨⟨_, rfl, rfl⟩, HT2.out.next HCW.out HM.out.1 HK.out HM.out.2.1 HM.out.2.2.1 HM.out.2.2.2 HK2.out, HC2.out.trans HCW.out (fun k h => .inl h)⟩
/-! The first that meets a test: its place; -1 of none. -/
def idxFrom {α : Type} (p : α → Bool) : Int → List α → Int
  | _, [] => -1
  | i, x :: t => if p x = true then i else idxFrom p (i + 1) t
def idxL {α : Type} (p : α → Bool) (l : List α) : Int := idxFrom p 0 l
theorem idx_step {α : Type} (p : α → Bool) (l : List α) (z : α) (i : Int) (h0 : 0 ≤ i) (h : i < l.length) : idxFrom p i (l.drop i.toNat) = if p (l.getD i.toNat z) = true then i else idxFrom p (i + 1) (l.drop (i + 1).toNat) := by
  obtain ⟨n, rfl⟩ : ∃ n : Nat, i = n := ⟨i.toNat, by omega⟩
  have hn : n < l.length := by omega
  rw [show ((n : Int) + 1).toNat = n + 1 by omega, Int.toNat_natCast, List.drop_eq_getElem_cons hn, List.getD_eq_getElem?_getD, List.getElem?_eq_getElem hn]
  rfl
theorem idxFrom_any {α : Type} (p : α → Bool) : ∀ (l : List α) (i : Int), 0 ≤ i → decide (0 ≤ idxFrom p i l) = l.any p
  | [], i, h => rfl
  | x :: t, i, h => by
    unfold idxFrom
    by_cases hx : p x = true
    · rw [if_pos hx, decide_eq_true h]; simp [hx]
    · rw [if_neg hx, idxFrom_any p t (i + 1) (by omega)]; simp [hx]
theorem idx_any {α : Type} (p : α → Bool) (l : List α) : decide (0 ≤ idxL p l) = l.any p := idxFrom_any p l 0 (Int.le_refl _)
theorem idxFrom_spec {α : Type} (p : α → Bool) : ∀ (l : List α) (i : Int), idxFrom p i l = -1 ∧ (∀ x ∈ l, p x = false) ∨ ∃ n : Nat, idxFrom p i l = i + n ∧ ∃ h : n < l.length, p l[n] = true ∧ ∀ m (hm : m < n), p (l[m]'(by omega)) = false
  | [], i => .inl ⟨rfl, by simp⟩
  | x :: t, i => by
    unfold idxFrom
    by_cases hx : p x = true
    · rw [if_pos hx]
      exact .inr ⟨0, by simp, by simp, by simpa using hx, fun m hm => by omega⟩
    · rw [if_neg hx]
      rcases idxFrom_spec p t (i + 1) with ⟨h1, h2⟩ | ⟨n, h1, h2, h3, h4⟩
      · exact .inl ⟨h1, fun y hy => by
          rcases List.mem_cons.1 hy with rfl | hy
          · simpa using hx
          · exact h2 y hy⟩
      · refine .inr ⟨n + 1, by rw [h1]; omega, by simp; omega, by simpa using h3, fun m hm => ?_⟩
        cases m with
        | zero => simpa using hx
        | succ m => simpa using h4 m (by omega)
/-! The first of some texts that is this one. -/
def eqS (t x : ByteArray) : Bool := t.toList == x.toList
set_option maxHeartbeats 1000000 in
set_option maxRecDepth 100000 in
theorem index.calls (A : Option Addr) (c : Nat) (l : List ByteArray) (t : ByteArray) (w : World) (hr : Kd.C Kd.string w A l.length l) (hc : l.length ≤ c) :
    Calls Tryd.prog 104 #[.slice A l.length c, .string t] w fun e w' => e = .returned (.int .i64 (idxL (eqS t) l)) ∧ Below w.heap.size w w' := by
  have HR := Aside0.mk hr
  have hlen : l.length ≤ 9223372036854775807 := hr.2.1
  have HB := Aside0.mk (Below.refl w.heap.size w)
  clear hr
  obtain ⟨g, hg⟩ : ∃ g, g = idxL (eqS t) l := ⟨_, rfl⟩
  rw [← hg]
  have HG : Aside0 (g = idxFrom (eqS t) 0 (l.drop 0)) := ⟨hg⟩
  clear hg
  go_enter Tryd.func104, Tryd.ntmps104
  go_wp2
  go_loopw [5, 8] (fun v5 v8 W => ∃ i : Int, 0 ≤ i ∧ i ≤ l.length ∧ v8 = .int .i64 i ∧ Aside0 (g = idxFrom (eqS t) i (l.drop i.toNat)) ∧ Aside0 (Below w.heap.size w W)) (fun _ v _ => l.length - (intOf v).toNat)
  case atStart => exact ⟨0, by omega, by omega, rfl, HG, HB⟩
  case round =>
    clear HB HG
    obtain ⟨i, i0, ile, rfl, HG, HB⟩ := hrel
    by_cases hlt : i < l.length
    · obtain ⟨ad, e1, hx0⟩ := Kd.at_string (Kd.C_below HR.out HB.out) i i0 hlt
      cases e1
      have HS := Aside0.mk (idx_step (eqS t) l ByteArray.empty i i0 hlt)
      obtain ⟨x, hx⟩ : ∃ x, x = rdOf ByteArray.empty l i := ⟨_, rfl⟩
      have HX : Aside0 (x = l.getD i.toNat ByteArray.empty) := ⟨hx⟩
      rw [← hx] at hx0
      clear hx
      by_cases hq : (t.toList == x.toList) = true
      · have hgi : g = i := by rw [HG.out, HS.out]; exact if_pos (by show (t.toList == (l.getD i.toNat ByteArray.empty).toList) = true; rw [← HX.out]; exact hq)
        subst hgi
        go_wp2_with fail
        go_ret
        exact ⟨rfl, HB.out⟩
      · have hq2 : (t.toList == x.toList) = false := by simpa using hq
        have hgi : g = idxFrom (eqS t) (i + 1) (l.drop (i + 1).toNat) := by rw [HG.out, HS.out]; exact if_neg (by show ¬ (t.toList == (l.getD i.toNat ByteArray.empty).toList) = true; rw [← HX.out]; exact hq)
        have HG2 := Aside0.mk hgi
        clear hgi hq
        go_wp2_with fail
        refine ⟨⟨i + 1, by omega, by omega, rfl, HG2, HB⟩, ?_⟩
        simp [intOf]; omega
    · obtain rfl : g = -1 := by rw [HG.out, List.drop_eq_nil_of_le (by omega)]; rfl
      go_wp2
      go_ret
      exact ⟨rfl, HB.out⟩
def wordsS : ByteArray := ⟨(([105, 115, 115, 117, 101, 32, 100, 101, 108, 105, 118, 101, 114, 32, 108, 111, 115, 101, 32, 116, 119, 105, 99, 101, 32, 99, 108, 105, 101, 110, 116, 32, 98] : List UInt8).append [97, 99, 107, 101, 110, 100, 32, 114, 101, 115, 111, 108, 118, 101, 32, 99, 114, 97, 115, 104, 32, 115, 116, 97, 114, 116, 32, 99, 97, 110, 99, 101, 108]).toArray⟩
def wordsL : List ByteArray := (Lib.fields wordsS.data.toList).map fun l => ⟨l.toArray⟩
theorem strC_block (xs : List ByteArray) {W : World} {g e : Nat} (h : W.heap[g]? = some (.cells (xs.map Value.string).toArray e (0, 0))) (hm : xs.length ≤ 9223372036854775807) : Kd.C Kd.string W (some ⟨g, 0, none⟩) xs.length xs := by
  refine ⟨rfl, hm, fun _ => ⟨_, rfl, fun j p hp => ⟨[.string p], rfl, rfl, fun i u hu => ?_⟩⟩⟩
  obtain ⟨rfl, rfl⟩ : i = 0 ∧ u = .string p := by
    cases i with
    | zero => simp at hu; exact ⟨rfl, hu.symm⟩
    | succ i => simp at hu
  rw [add_plain]
  have hs : Kd.string.sz = 1 := rfl
  rw [hs, Nat.mul_one, Nat.add_zero]
  have hj : (xs.map Value.string)[j]? = some (.string p) := by simp [hp]
  simp only [World.cell?, h]
  simp [hj]
theorem words_ascii : ∀ (j : Nat) b, wordsS.data.toList[j]? = some b → b.toNat < 128 := by
  have h : ∀ b ∈ wordsS.data.toList, b.toNat < 128 := by decide +kernel
  exact fun j b hb => h b (List.mem_of_getElem? hb)
set_option maxHeartbeats 1000000 in
theorem words.calls (w : World) (ht : Tab w) : Calls Tryd.prog 65 #[] w fun e w' => e = .returned (.slice (some ⟨w.heap.size, 0, none⟩) 10 10) ∧ w' = w.alloc (.cells (wordsL.map Value.string).toArray 9) := by
  have HT := Aside0.mk ht
  clear ht
  have e10 : (Lib.fields wordsS.data.toList).length = 10 := by decide +kernel
  have hf := Tryd.strings_Fields wordsS w (by decide +kernel) words_ascii HT.out.1
  rw [e10] at hf
  have HF := Aside0.mk hf
  clear hf e10
  go_enter Tryd.func65, Tryd.ntmps65
  go_wp2_with fail
  try go_at_call 53
  refine (HF.out).mono ?_
  rintro e w1 ⟨rfl, rfl⟩
  go_wp2_with fail
  go_ret
  refine ⟨rfl, ?_⟩
  unfold wordsL
  rw [List.map_map]
  rfl
def wordS (l : List ByteArray) (st : St31) : Out Int := match st.1 with
  | [] => .inl (8, st)
  | t :: r => if 0 ≤ idxL (eqS t.f1) l then .inr (idxL (eqS t.f1) l, (r, t.f2)) else .inl (33, (t :: r, t.f2))
def numberS (st : St31) : Out Int := match st.1 with
  | [] => .inl (8, st)
  | t :: r => if t.f0 = 2 then (if (numT t).2 = 0 then .inr ((numT t).1, (r, t.f2)) else .inl ((numT t).2, (r, t.f2))) else .inl (33, (t :: r, t.f2))
theorem strC_ch {w w1 : World} {S : Nat → Prop} {A : Option Addr} {n : Nat} {l : List ByteArray} (h : Kd.C Kd.string w A n l) (hc : Ch S w w1) (hf : ∀ ad, A = some ad → ¬ S ad.block) : Kd.C Kd.string w1 A n l := by
  refine ⟨h.1, h.2.1, fun hp => ?_⟩
  obtain ⟨ad, e, f⟩ := h.2.2 hp
  refine ⟨ad, e, fun j p hj => ?_⟩
  obtain ⟨c, h1, h2, h3⟩ := f j p hj
  have h2' : c = [.string p] := h2
  subst h2'
  exact ⟨_, h1, rfl, fun i u hu => hc.cell (h3 i u hu) (by rw [addT_block]; exact hf ad e)⟩
attribute [local go_sem] Instr.field asAgg
set_option maxHeartbeats 1000000 in
set_option maxRecDepth 100000 in
theorem word.calls (pb B : Nat) (A : Option Addr) (c : Nat) (l : List ByteArray) (st : St31) (w : World) (h : TokAt w pb B st.1 st.2) (hl : Kd.C Kd.string w A l.length l) (hc : l.length ≤ c) (hA : ∀ ad, A = some ad → ad.block ≠ pb) :
    Calls Tryd.prog 64 #[.pointer (some ⟨pb, 0, none⟩), .slice A l.length c] w (Ends w pb B isInt (wordS l st)) := by
  obtain ⟨tl, n⟩ := st
  have HT := Aside0.mk h
  have HL := Aside0.mk hl
  have HC := Aside0.mk hc
  have HA := Aside0.mk hA
  clear h hl hc hA
  cases tl with
  | nil =>
    show Calls Tryd.prog 64 _ w (fun e w' => e = .panicked (pnc 8) ∧ TokAt w' pb B [] n ∧ Ch (fun k => k = pb) w w')
    go_enter Tryd.func64, Tryd.ntmps64
    go_wp2_with fail
    try go_at_call 38
    refine (peek.calls pb B ([], n) _ HT.out).mono ?_
    rintro e w1 ⟨rfl, ht, hc⟩
    have HT1 := Aside0.mk ht
    have HC1 := Aside0.mk hc
    clear ht hc
    go_wp2_with fail
    exact ⟨rfl, rfl, HT1.out, HC1.out⟩
  | cons t r =>
    obtain ⟨x, hx⟩ : ∃ x, x = idxL (eqS t.f1) l := ⟨_, rfl⟩
    have HX := Aside0.mk hx
    have hw : wordS l (t :: r, n) = if 0 ≤ x then .inr (x, (r, t.f2)) else .inl (33, (t :: r, t.f2)) := by rw [hx]; rfl
    rw [hw]
    clear hx hw
    by_cases h0 : 0 ≤ x
    · rw [if_pos h0]
      show Calls Tryd.prog 64 _ w (fun e w' => (∃ v, e = .returned v ∧ v = .int .i64 x) ∧ TokAt w' pb B r t.f2 ∧ Ch (fun k => k = pb) w w')
      go_enter Tryd.func64, Tryd.ntmps64
      go_wp2_with fail
      try go_at_call 38
      refine (peek.calls pb B (t :: r, n) _ HT.out).mono ?_
      rintro e w1 ⟨⟨v, rfl, rfl⟩, ht, hc⟩
      have HT1 := Aside0.mk ht
      have HC1 := Aside0.mk hc
      have HL1 : Aside0 (Kd.C Kd.string w1 A l.length l) := ⟨strC_ch HL.out hc (fun ad e => HA.out ad e)⟩
      clear ht hc
      go_wp2_with fail
      try go_at_call 104
      refine (index.calls A c l t.f1 _ HL1.out HC.out).mono ?_
      rw [← HX.out]
      rintro e w2 ⟨rfl, hb⟩
      have HT2 := Aside0.mk (HT1.out.below hb)
      have HC2 := Aside0.mk (HC1.out.thenB hb)
      clear hb
      go_wp2_with fail
      try go_at_call 109
      refine (take.calls pb B true (t :: r, t.f2) _ HT2.out).mono ?_
      rintro e w3 ⟨⟨v, rfl, rfl⟩, ht, hc⟩
      have HT3 := Aside0.mk ht
      have HC3 := Aside0.mk (HC2.out.trans hc (fun k h => .inl h))
      clear ht hc
      go_wp2_with fail
      go_ret
      exact ⟨⟨_, rfl, rfl⟩, HT3.out, HC3.out⟩
    · rw [if_neg h0]
      have hd : decide (0 ≤ x) = false := decide_eq_false h0
      clear h0
      show Calls Tryd.prog 64 _ w (fun e w' => e = .panicked (pnc 33) ∧ TokAt w' pb B (t :: r) t.f2 ∧ Ch (fun k => k = pb) w w')
      go_enter Tryd.func64, Tryd.ntmps64
      go_wp2_with fail
      try go_at_call 38
      refine (peek.calls pb B (t :: r, n) _ HT.out).mono ?_
      rintro e w1 ⟨⟨v, rfl, rfl⟩, ht, hc⟩
      have HT1 := Aside0.mk ht
      have HC1 := Aside0.mk hc
      have HL1 : Aside0 (Kd.C Kd.string w1 A l.length l) := ⟨strC_ch HL.out hc (fun ad e => HA.out ad e)⟩
      clear ht hc
      go_wp2_with fail
      try go_at_call 104
      refine (index.calls A c l t.f1 _ HL1.out HC.out).mono ?_
      rw [← HX.out]
      rintro e w2 ⟨rfl, hb⟩
      have HT2 := Aside0.mk (HT1.out.below hb)
      have HC2 := Aside0.mk (HC1.out.thenB hb)
      clear hb
      go_wp2_with fail
      try go_at_call 109
      with_reducible refine (take.calls pb B false (t :: r, t.f2) _ HT2.out).mono ?_
      rintro e w3 ⟨rfl, ht, hc⟩
      have HT3 := Aside0.mk ht
      have HC3 := Aside0.mk (HC2.out.trans hc (fun k h => .inl h))
      clear ht hc
      go_wp2_with fail
      exact ⟨rfl, rfl, HT3.out, HC3.out⟩
set_option maxHeartbeats 1000000 in
set_option maxRecDepth 100000 in
theorem number.calls (pb B : Nat) (st : St31) (w : World) (h : TokAt w pb B st.1 st.2) : Calls Tryd.prog 110 #[.pointer (some ⟨pb, 0, none⟩)] w (Ends w pb B isInt (numberS st)) := by
  obtain ⟨tl, n⟩ := st
  have HT := Aside0.mk h
  clear h
  cases tl with
  | nil =>
    show Calls Tryd.prog 110 _ w (fun e w' => e = .panicked (pnc 8) ∧ TokAt w' pb B [] n ∧ Ch (fun k => k = pb) w w')
    go_enter Tryd.func110, Tryd.ntmps110
    go_wp2_with fail
    try go_at_call 38
    refine (peek.calls pb B ([], n) _ HT.out).mono ?_
    rintro e w1 ⟨rfl, ht, hc⟩
    have HT1 := Aside0.mk ht
    have HC1 := Aside0.mk hc
    clear ht hc
    go_wp2_with fail
    exact ⟨rfl, rfl, HT1.out, HC1.out⟩
  | cons t r =>
    have start : ∀ (o : Out Int), Calls Tryd.prog 110 #[.pointer (some ⟨pb, 0, none⟩)] w (Ends w pb B isInt o) → True := fun _ _ => trivial
    clear start
    obtain ⟨q, hq⟩ : ∃ q, q = numT t := ⟨_, rfl⟩
    have HQ : Aside0 (lex_Number.f t.f0 t.f1 t.f2 = some (q.1, q.2)) := ⟨by rw [hq]; rfl⟩
    have hw : numberS (t :: r, n) = if t.f0 = 2 then (if q.2 = 0 then .inr (q.1, (r, t.f2)) else .inl (q.2, (r, t.f2))) else .inl (33, (t :: r, t.f2)) := by rw [hq]; rfl
    rw [hw]
    clear hq hw
    by_cases h2 : t.f0 = 2
    · rw [if_pos h2]
      by_cases h0 : q.2 = 0
      · rw [if_pos h0]
        rw [h0] at HQ
        show Calls Tryd.prog 110 _ w (fun e w' => (∃ v, e = .returned v ∧ v = .int .i64 q.1) ∧ TokAt w' pb B r t.f2 ∧ Ch (fun k => k = pb) w w')
        have hb2 : (t.f0 == 2) = true := by rw [h2]; rfl
        clear h2 h0
        go_enter Tryd.func110, Tryd.ntmps110
        go_wp2_with fail
        try go_at_call 38
        refine (peek.calls pb B (t :: r, n) _ HT.out).mono ?_
        rintro e w1 ⟨⟨v, rfl, rfl⟩, ht, hc⟩
        have HT1 := Aside0.mk (ht.below (below_alloc (Below.refl _ _) (.cells #[.int .i64 t.f0, .string t.f1, .int .i64 t.f2] 98)))
        have HC1 := Aside0.mk (hc.alloc (.cells #[.int .i64 t.f0, .string t.f1, .int .i64 t.f2] 98))
        have BK1 := Aside0.mk (heap_alloc_new w1 (.cells #[.int .i64 t.f0, .string t.f1, .int .i64 t.f2] 98))
        have HNE : Aside0 (w1.heap.size ≠ pb) := ⟨by have := ht.lt; omega⟩
        clear ht hc
        go_wp2_with fail
        try go_at_call 109
        refine (take.calls pb B true (t :: r, t.f2) _ HT1.out).mono ?_
        rintro e w2 ⟨⟨v, rfl, rfl⟩, ht, hc⟩
        have HT2 := Aside0.mk ht
        have HC2 := Aside0.mk (HC1.out.trans hc (fun k h => .inl h))
        have BK2 := Aside0.mk (hc.heap BK1.out HNE.out)
        have hx0 : w2.cell? ⟨w1.heap.size, 0, none⟩ = some (.int .i64 t.f0) := zcell BK2.out 0 _ rfl
        have hx1 : w2.cell? ⟨w1.heap.size, 1, none⟩ = some (.string t.f1) := zcell BK2.out 1 _ rfl
        have hx2 : w2.cell? ⟨w1.heap.size, 2, none⟩ = some (.int .i64 t.f2) := zcell BK2.out 2 _ rfl
        clear ht hc
        go_wp2_with fail
        try go_at_call 84
        refine (lex_Number.calls _ _ _ q.1 0 _ HQ.out).mono ?_
        rintro e w3 ⟨rfl, hb⟩
        have HT3 := Aside0.mk (HT2.out.below hb)
        have HC3 := Aside0.mk (HC2.out.thenB hb)
        clear hb
        go_wp2_with fail
        try go_at_call 39
        refine (need_yes.calls 0 _).mono ?_
        rintro e w4 ⟨rfl, rfl⟩
        go_wp2_with fail
        go_ret
        exact ⟨⟨_, rfl, rfl⟩, HT3.out, HC3.out⟩
      · rw [if_neg h0]
        show Calls Tryd.prog 110 _ w (fun e w' => e = .panicked (pnc q.2) ∧ TokAt w' pb B r t.f2 ∧ Ch (fun k => k = pb) w w')
        have hb2 : (t.f0 == 2) = true := by rw [h2]; rfl
        have hb0 : (q.2 == 0) = false := beq_eq_false_iff_ne.mpr h0
        clear h2 h0
        go_enter Tryd.func110, Tryd.ntmps110
        go_wp2_with fail
        try go_at_call 38
        refine (peek.calls pb B (t :: r, n) _ HT.out).mono ?_
        rintro e w1 ⟨⟨v, rfl, rfl⟩, ht, hc⟩
        have HT1 := Aside0.mk (ht.below (below_alloc (Below.refl _ _) (.cells #[.int .i64 t.f0, .string t.f1, .int .i64 t.f2] 98)))
        have HC1 := Aside0.mk (hc.alloc (.cells #[.int .i64 t.f0, .string t.f1, .int .i64 t.f2] 98))
        have BK1 := Aside0.mk (heap_alloc_new w1 (.cells #[.int .i64 t.f0, .string t.f1, .int .i64 t.f2] 98))
        have HNE : Aside0 (w1.heap.size ≠ pb) := ⟨by have := ht.lt; omega⟩
        clear ht hc
        go_wp2_with fail
        try go_at_call 109
        refine (take.calls pb B true (t :: r, t.f2) _ HT1.out).mono ?_
        rintro e w2 ⟨⟨v, rfl, rfl⟩, ht, hc⟩
        have HT2 := Aside0.mk ht
        have HC2 := Aside0.mk (HC1.out.trans hc (fun k h => .inl h))
        have BK2 := Aside0.mk (hc.heap BK1.out HNE.out)
        have hx0 : w2.cell? ⟨w1.heap.size, 0, none⟩ = some (.int .i64 t.f0) := zcell BK2.out 0 _ rfl
        have hx1 : w2.cell? ⟨w1.heap.size, 1, none⟩ = some (.string t.f1) := zcell BK2.out 1 _ rfl
        have hx2 : w2.cell? ⟨w1.heap.size, 2, none⟩ = some (.int .i64 t.f2) := zcell BK2.out 2 _ rfl
        clear ht hc
        go_wp2_with fail
        try go_at_call 84
        refine (lex_Number.calls _ _ _ q.1 q.2 _ HQ.out).mono ?_
        rintro e w3 ⟨rfl, hb⟩
        have HT3 := Aside0.mk (HT2.out.below hb)
        have HC3 := Aside0.mk (HC2.out.thenB hb)
        clear hb
        go_wp2_with fail
        try go_at_call 39
        refine (need_no.calls q.2 _).mono ?_
        rintro e w4 ⟨rfl, rfl⟩
        go_wp2_with fail
        exact ⟨rfl, rfl, HT3.out, HC3.out⟩
    · rw [if_neg h2]
      show Calls Tryd.prog 110 _ w (fun e w' => e = .panicked (pnc 33) ∧ TokAt w' pb B (t :: r) t.f2 ∧ Ch (fun k => k = pb) w w')
      have hb2 : (t.f0 == 2) = false := beq_eq_false_iff_ne.mpr h2
      clear h2
      go_enter Tryd.func110, Tryd.ntmps110
      go_wp2_with fail
      try go_at_call 38
      refine (peek.calls pb B (t :: r, n) _ HT.out).mono ?_
      rintro e w1 ⟨⟨v, rfl, rfl⟩, ht, hc⟩
      have HT1 := Aside0.mk (ht.below (below_alloc (Below.refl _ _) (.cells #[.int .i64 t.f0, .string t.f1, .int .i64 t.f2] 98)))
      have HC1 := Aside0.mk (hc.alloc (.cells #[.int .i64 t.f0, .string t.f1, .int .i64 t.f2] 98))
      clear ht hc
      go_wp2_with fail
      try go_at_call 109
      refine (take.calls pb B false (t :: r, t.f2) _ HT1.out).mono ?_
      rintro e w2 ⟨rfl, ht, hc⟩
      have HT2 := Aside0.mk ht
      have HC2 := Aside0.mk (HC1.out.trans hc (fun k h => .inl h))
      clear ht hc
      go_wp2_with fail
      exact ⟨rfl, rfl, HT2.out, HC2.out⟩
def bindO {α β : Type} (o : Out α) (f : α → St31 → Out β) : Out β := match o with
  | .inl e => .inl e
  | .inr (a, st) => f a st
theorem bindO_l {α β : Type} {o : Out α} {f : α → St31 → Out β} {e : Int × St31} (h : o = .inl e) : bindO o f = .inl e := by subst h; rfl
theorem bindO_r {α β : Type} {o : Out α} {f : α → St31 → Out β} {a : α} {st : St31} (h : o = .inr (a, st)) : bindO o f = f a st := by subst h; rfl
/-- How a step ends that writes into a block g of its caller's. -/
def EndsG (w : World) (pb B g : Nat) {α : Type} (J : α → World → Prop) : Out α → Ending → World → Prop
  | .inl (c, st), e, w' => e = .panicked (pnc c) ∧ TokAt w' pb B st.1 st.2 ∧ Ch (fun k => k = pb ∨ k = g) w w'
  | .inr (a, st), e, w' => e = .returned (.tuple #[]) ∧ J a w' ∧ TokAt w' pb B st.1 st.2 ∧ Ch (fun k => k = pb ∨ k = g) w w'
/-- Numbers, into the cells of these places. -/
def numsS : List Nat → List Value → St31 → Out (List Value)
  | [], cs, st => .inr (cs, st)
  | o :: os, cs, st => bindO (numberS st) fun n st1 => numsS os (cs.set o (.int .i64 n)) st1
def ptrs (g : Nat) (offs : List Nat) : List Value := offs.map fun o => .pointer (some ⟨g, o, none⟩)
theorem TokAt.atG {w w1 : World} {pb B g : Nat} {l : List S98} {n : Int} (h : TokAt w pb B l n) (hc : Ch (fun k => k = g) w w1) (hB : B ≤ g) (hp : pb < B) : TokAt w1 pb B l n := h.above (hc.mono (S' := fun k => B ≤ k) (fun k h => by omega)) (Nat.le_refl _) hp
set_option maxHeartbeats 2000000 in
set_option maxRecDepth 100000 in
theorem numbers.calls (pb B g g2 T : Nat) (offs : List Nat) (cs : List Value) (st : St31) (w : World) (h : TokAt w pb B st.1 st.2) (hg : w.heap[g]? = some (.cells cs.toArray T (0, 0))) (h2 : w.heap[g2]? = some (.cells (ptrs g offs).toArray 85 (0, 0))) (hB : B ≤ g) (hp : pb < B) (hgg : g2 ≠ g) (hB2 : B ≤ g2) (hl : offs.length ≤ 1000) (ho : ∀ o ∈ offs, o < cs.length) :
    Calls Tryd.prog 66 #[.pointer (some ⟨pb, 0, none⟩), .slice (some ⟨g2, 0, none⟩) offs.length offs.length] w (EndsG w pb B g (fun cs' w' => w'.heap[g]? = some (.cells cs'.toArray T (0, 0))) (numsS offs cs st)) := by
  have HT := Aside0.mk h
  have HG := Aside0.mk hg
  have H2 := Aside0.mk h2
  have HO := Aside0.mk ho
  have HN : Aside0 (g ≠ pb ∧ g2 ≠ pb ∧ B ≤ g ∧ pb < B ∧ g2 ≠ g) := ⟨by omega, by omega, hB, hp, hgg⟩
  obtain ⟨F, hF⟩ : ∃ F, F = numsS offs cs st := ⟨_, rfl⟩
  rw [← hF]
  have HF : Aside0 (F = numsS (offs.drop 0) cs st) := ⟨hF⟩
  clear h hg h2 ho hF hB hp hgg hB2
  go_enter Tryd.func66, Tryd.ntmps66
  go_wp2_with fail
  go_loopw [5, 8] (fun v5 v8 W => ∃ (i : Nat) (cs' : List Value) (st' : St31), i ≤ offs.length ∧ v8 = .int .i64 i ∧ Aside0 (F = numsS (offs.drop i) cs' st') ∧ Aside0 (cs'.length = cs.length) ∧ Aside0 (W.heap[g]? = some (.cells cs'.toArray T (0, 0))) ∧ Aside0 (W.heap[g2]? = some (.cells (ptrs g offs).toArray 85 (0, 0))) ∧ Aside0 (TokAt W pb B st'.1 st'.2) ∧ Aside0 (Ch (fun k => k = pb ∨ k = g) w W)) (fun _ v _ => offs.length - (intOf v).toNat)
  case atStart => exact ⟨0, cs, st, by omega, rfl, HF, ⟨rfl⟩, HG, H2, HT, ⟨Ch.refl _ _⟩⟩
  case round =>
    clear HF HG H2 HT
    obtain ⟨i, cs', st', hi, rfl, HF, HL, HG, H2, HT, HC⟩ := hrel
    by_cases hlt : i < offs.length
    · obtain ⟨o, hoo⟩ : ∃ o, o = offs[i] := ⟨_, rfl⟩
      have hst : F = bindO (numberS st') fun n st1 => numsS (offs.drop (i + 1)) (cs'.set o (.int .i64 n)) st1 := by
        rw [HF.out, List.drop_eq_getElem_cons hlt, hoo]; rfl
      have HST := Aside0.mk hst
      have hom : o < cs'.length := by rw [HL.out, hoo]; exact HO.out _ (List.getElem_mem _)
      have HOM := Aside0.mk hom
      have hx : wr.cell? ⟨g2, i, none⟩ = some (.pointer (some ⟨g, o, none⟩)) := by
        have h0 := H2.out
        unfold World.cell?
        rw [h0]
        simp [ptrs, hlt, hoo]
      rcases hn : numberS st' with ⟨c, st1⟩ | ⟨n, st1⟩
      · have hF : F = .inl (c, st1) := by rw [HST.out, hn]; rfl
        subst hF
        clear hst hom hoo HF HST
        have HN1 := Aside0.mk hn
        clear hn
        go_wp2_with fail
        try go_at_call 110
        refine (number.calls pb B st' _ HT.out).mono ?_
        rw [HN1.out]
        rintro e w1 ⟨rfl, ht, hc⟩
        have HT1 := Aside0.mk ht
        have HC1 := Aside0.mk (HC.out.trans hc (fun k h => .inl (.inl h)))
        clear ht hc
        go_wp2_with fail
        exact ⟨rfl, rfl, HT1.out, HC1.out⟩
      · have hF : F = numsS (offs.drop (i + 1)) (cs'.set o (.int .i64 n)) st1 := by rw [HST.out, hn]; rfl
        have HF1 := Aside0.mk hF
        have HN1 := Aside0.mk hn
        clear hst hom hoo HF HST hF hn
        go_wp2_with fail
        try go_at_call 110
        refine (number.calls pb B st' _ HT.out).mono ?_
        rw [HN1.out]
        rintro e w1 ⟨⟨v, rfl, rfl⟩, ht, hc⟩
        have HT1 := Aside0.mk ht
        have HC1 := Aside0.mk (HC.out.trans hc (fun k h => .inl (.inl h)))
        have HG1 := Aside0.mk (hc.heap HG.out HN.out.1)
        have H21 := Aside0.mk (hc.heap H2.out HN.out.2.1)
        have hy : w1.cell? ⟨g, o, none⟩ = some (cs'[o]'HOM.out) := zcell HG1.out o _ (by simp [HOM.out])
        have hz := zfree HG1.out o
        clear ht hc hx
        go_wp2_with fail
        have hcs : Ch (fun k => k = g) w1 (w1.setCell ⟨g, o, none⟩ (.int .i64 n)) := (Ch.refl (fun k => k = g) w1).set (p := ⟨g, o, none⟩) (.inl rfl) _
        refine ⟨⟨i + 1, cs'.set o (.int .i64 n), st1, by omega, by simp, HF1, ⟨by rw [List.length_set]; exact HL.out⟩, ⟨?_⟩, ⟨hcs.heap H21.out HN.out.2.2.2.2⟩, ⟨HT1.out.atG hcs HN.out.2.2.1 HN.out.2.2.2.1⟩, ⟨HC1.out.trans hcs (fun k h => .inl (.inr h))⟩⟩, ?_⟩
        · have := zset HG1.out o (.int .i64 n)
          rw [this]
          simp
        · simp [intOf]; omega
    · obtain rfl : i = offs.length := by omega
      have hF : F = .inr (cs', st') := by rw [HF.out, List.drop_eq_nil_of_le (Nat.le_refl _)]; rfl
      subst hF
      clear HF
      go_wp2_with fail
      go_end0
      exact ⟨rfl, HG.out, HT.out, HC.out⟩
end Go.Proofs.YtaoffnhladfdcaaDoor.EScriptTrace
