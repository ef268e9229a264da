/- The parser, plain; the closure of an enum's case. -/
import Derived.Test.YtoloneoeojoiaaaPar1
namespace Go.Proofs.Ytoloneoeojoiaaa.EParseOwn
open Go.RowKit Go.Shelf Go.Proofs.YtoloneoeojoiaaaW.PrintWords Go.Proofs.YtoloneoeojoiaaaW.PrintLast Go.Proofs.YtoloneoeojoiaaaW.PrintMore
set_option linter.unusedVariables false
set_option linter.unusedSimpArgs false
theorem TokAt.block {w : World} {pb : Nat} {s : Sch} {l : List S31} {n : Int} (h : TokAt w pb s l n) : ∃ cs, w.heap[pb]? = some (.cells cs 80 (0, 0)) := by
  obtain ⟨A, c, hb, _⟩ := h.at_
  exact ⟨_, hb⟩
def tSC : ByteArray := ⟨#[59]⟩
/-- A closure's captures: the parser's pointer in its box, and the declaration that is being read. -/
def JX {α : Type} (d : Kd α) (e T B pb bp bx : Nat) (nm : ByteArray) (xs : List α) (w : World) : Prop :=
  w.heap[bp]? = some (.cells #[.pointer (some ⟨pb, 0, none⟩)] 76 (0, 0)) ∧ ∃ v, w.heap[bx]? = some (.cells #[.string nm, v] T (0, 0)) ∧ d.R e w B (fun _ => True) v xs
theorem JX.ch {α : Type} {d : Kd α} {e T B pb bp bx : Nat} {nm : ByteArray} {xs : List α} {w w1 : World} {cs : Array Value} (h : JX d e T B pb bp bx nm xs w) (hc : Ch (fun k => k = pb) w w1) (hp : bp ≠ pb) (hx : bx ≠ pb) (hb : w.heap[pb]? = some (.cells cs 80 (0, 0))) (ht : ∀ q, q ∈ e :: d.E → q ≠ 80) : JX d e T B pb bp bx nm xs w1 := by
  obtain ⟨h1, v, h2, h3⟩ := h
  exact ⟨hc.heap h1 hp, v, hc.heap h2 hx, Kd.R_mono (R_ch (Kd.R_types h3 hb ht) hc (fun k hk e => hk.2 e)) (fun _ _ => trivial)⟩
/-- How a closure ends. -/
def EndsC (w : World) (pb : Nat) (s : Sch) (B : Nat) {α : Type} (J : α → World → Prop) : Out α → Ending → World → Prop
  | .inl (c, st), e, w' => e = .panicked (pnc c) ∧ TokAt w' pb s st.1 st.2 ∧ Ch (fun k => k = pb ∨ B ≤ k) w w'
  | .inr (a, st), e, w' => e = .returned (.tuple #[]) ∧ J a w' ∧ TokAt w' pb s st.1 st.2 ∧ Ch (fun k => k = pb ∨ B ≤ k) w w'
def bindO {α β : Type} (o : Out α) (f : α → St31 → Out β) : Out β := match o with
  | .inl e => .inl e
  | .inr (a, st) => f a st
theorem bindO_l {α β : Type} {o : Out α} {f : α → St31 → Out β} {e : Int × St31} (h : o = .inl e) : bindO o f = .inl e := by subst h; rfl
theorem bindO_r {α β : Type} {o : Out α} {f : α → St31 → Out β} {a : α} {st : St31} (h : o = .inr (a, st)) : bindO o f = f a st := by subst h; rfl
def tCO : ByteArray := ⟨#[58]⟩
def tLP : ByteArray := ⟨#[40]⟩
def tRP : ByteArray := ⟨#[41]⟩
def enum1P (st : St31) : Out S88 := bindO (numberP st) fun n st1 => bindO (nameP st1) fun a st2 => bindO (signP tSC st2) fun _ st3 => .inr (⟨a, n⟩, st3)
def struct1P (st : St31) : Out S52 := bindO (numberP st) fun n st1 => bindO (nameP st1) fun a st2 => bindO (signP tCO st2) fun _ st3 => bindO (typedP 8 st3) fun ty st4 => bindO (signP tSC st4) fun _ st5 => .inr (⟨a, n, ty⟩, st5)
def tOnce : ByteArray := ⟨#[111, 110, 99, 101]⟩
def tRead : ByteArray := ⟨#[114, 101, 97, 100]⟩
def svc1P (st : St31) : Out S94 := bindO (askP (eqS (peekP st.1).f1 tOnce || eqS (peekP st.1).f1 tRead) st) fun k st1 => bindO (nameP st1) fun a st2 => bindO (signP tLP st2) fun _ st3 => bindO (typedP 8 st3) fun x st4 => bindO (signP tRP st4) fun _ st5 => bindO (typedP 8 st5) fun y st6 => bindO (signP tSC st6) fun _ st7 => .inr (⟨a, eqS k tOnce, x, y⟩, st7)
theorem Ch.of_belowB {B : Nat} {w w1 : World} (h : Below B w w1) : Ch (fun k => B ≤ k) w w1 := ⟨h.os, h.tape, h.output, h.size, fun k _ hn => h.block k (by omega)⟩
theorem TokAt.setc {w : World} {pb g B : Nat} {s : Sch} {l : List S31} {n : Int} (h : TokAt w pb s l n) (hB : s.B ≤ B) (hp : pb < B) (hg : B ≤ g) (j : Nat) (u : Value) : TokAt (w.setCell ⟨g, j, none⟩ u) pb s l n := h.above ((Ch.refl (fun k => B ≤ k) w).set (p := ⟨g, j, none⟩) (.inl hg) u) hB hp
/-- The declaration's row has grown by one, and its new slice is stored. -/
theorem JX.snoc {α : Type} {d : Kd α} {e T B pb bp bx : Nat} {nm : ByteArray} {xs ys : List α} {W w1 : World} {v v1 : Value} (hp : W.heap[bp]? = some (.cells #[.pointer (some ⟨pb, 0, none⟩)] 76 (0, 0))) (hx : W.heap[bx]? = some (.cells #[.string nm, v] T (0, 0))) (hr : d.R e W B (fun _ => True) v xs) (hg : W.grownBy w1 v.ownBlock) (hr1 : d.R e w1 B (fun _ => True) v1 ys) (hne : bp ≠ bx) (ht : ∀ q, q ∈ e :: d.E → q ≠ T) (he : e ≠ 76) :
    w1.heap[bx]? = some (.cells #[.string nm, v] T (0, 0)) ∧ JX d e T B pb bp bx nm ys (w1.setCell ⟨bx, 1, none⟩ v1) := by
  have hx1 : w1.heap[bx]? = some (.cells #[.string nm, v] T (0, 0)) := (hg.block bx (lt_of_block hx) (Kd.R_ne hr hx (ht e List.mem_cons_self))).trans hx
  have hp1 : w1.heap[bp]? = some (.cells #[.pointer (some ⟨pb, 0, none⟩)] 76 (0, 0)) := (hg.block bp (lt_of_block hp) (Kd.R_ne hr hp he)).trans hp
  refine ⟨hx1, (Below.heap_setCell w1 ⟨bx, 1, none⟩ v1 bp hne).trans hp1, v1, ?_, Kd.R_set hr1 hx1 ht 1 v1⟩
  have := zset hx1 1 v1
  simpa using this
/-- Two cells of a block, written one behind the other. -/
theorem two_cells {w : World} {g T : Nat} {u v : Value} (a b : Value) (h : w.heap[g]? = some (.cells #[u, v] T (0, 0))) : ((w.setCell ⟨g, 0, none⟩ a).setCell ⟨g, 1, none⟩ b).heap[g]? = some (.cells #[a, b] T (0, 0)) ∧ Ch (fun k => k = g) w ((w.setCell ⟨g, 0, none⟩ a).setCell ⟨g, 1, none⟩ b) := by
  refine ⟨?_, ((Ch.refl (fun k => k = g) w).set (p := ⟨g, 0, none⟩) (.inl rfl) _).set (p := ⟨g, 1, none⟩) (.inl rfl) _⟩
  have := zset (zset h 0 a) 1 b
  simpa using this
/-- All the cells of a new block, written one behind the other. -/
theorem five_cells {w : World} {g T : Nat} {u0 u1 u2 u3 u4 : Value} (a b c d e : Value) (h : w.heap[g]? = some (.cells #[u0, u1, u2, u3, u4] T (0, 0))) : (((((w.setCell ⟨g, 0, none⟩ a).setCell ⟨g, 1, none⟩ b).setCell ⟨g, 2, none⟩ c).setCell ⟨g, 3, none⟩ d).setCell ⟨g, 4, none⟩ e).heap[g]? = some (.cells #[a, b, c, d, e] T (0, 0)) ∧ Ch (fun k => k = g) w (((((w.setCell ⟨g, 0, none⟩ a).setCell ⟨g, 1, none⟩ b).setCell ⟨g, 2, none⟩ c).setCell ⟨g, 3, none⟩ d).setCell ⟨g, 4, none⟩ e) := by
  refine ⟨?_, (((((Ch.refl (fun k => k = g) w).set (p := ⟨g, 0, none⟩) (.inl rfl) _).set (p := ⟨g, 1, none⟩) (.inl rfl) _).set (p := ⟨g, 2, none⟩) (.inl rfl) _).set (p := ⟨g, 3, none⟩) (.inl rfl) _).set (p := ⟨g, 4, none⟩) (.inl rfl) _⟩
  have := zset (zset (zset (zset (zset h 0 a) 1 b) 2 c) 3 d) 4 e
  simpa using this
section
variable {P : Program} {ops : Array Oper} {rest : List Oper} {o : Oper} {a : Act} {Q : Exit → Act → World → Prop}
/-- A part of a block is written by one store. -/
theorem store_part {W : World} (hgd : o.guard = none) (hN : o.dst = none) (t : TypeId) (p x : Operand) (ho : o.op = .store t p x) {g o' : Nat} {cs : Array Value} {tb : TypeId} (vs cs' : Array Value) (haddr : a.eval p = .pointer (some ⟨g, o', none⟩)) (hx : a.eval x = .agg vs) (hh : W.heap[g]? = some (.cells cs tb (0, 0))) (hl : o' + vs.size ≤ cs.size) (hcs : cs'.toList = cs.toList.take o' ++ vs.toList ++ cs.toList.drop (o' + vs.size)) (hi : (P.info? t).map (·.size) = some vs.size) (h1 : vs.toList.all (·.oneCell') = true)
    (h : ∀ w1, w1.heap[g]? = some (.cells cs' tb (0, 0)) → Ch (fun k => k = g) W w1 → wpList P ops Q rest (a.put o.dst undef) w1) : wpList P ops Q (o :: rest) a W := by
  refine wpList_plain hgd fun K hK => ?_
  have hrun : (Instr.storeAt t (.pointer (some ⟨g, o', none⟩)) (.agg vs)).run P W = .ok () (W.setCells g o' vs.toList) :=
    run_store_run t (.agg vs) vs.toList hh rfl (by rw [hi]; simp) (by simp; omega) (fun q hq => List.all_eq_true.1 h1 q hq)
  unfold Oper.wp execOp
  simp only [ho, haddr, hx, Sem.run_bind, Sem.run_pure, Result.andThen_ok, hrun]
  refine hK _ _ (h _ ?_ (ch_setCells W g o' vs.toList))
  obtain ⟨cur, e1, e2, e3⟩ := setCells_row vs.toList o' W cs hh (by simp; omega)
  rw [e1]
  congr 2
  apply Array.ext'
  rw [e3, hcs]
  simp
end
theorem keep_set {W : World} {p a : Addr} {u v : Value} (h : W.cell? a = some v) (hn : a.block ≠ p.block) : (W.setCell p u).cell? a = some v := by
  have e := Below.heap_setCell W p u a.block hn
  unfold World.cell? at h ⊢
  rw [e]; exact h
theorem keep_alloc {W : World} {o : Obj} {a : Addr} {v : Value} (h : W.cell? a = some v) : (W.alloc o).cell? a = some v := cell_step (below_alloc (Below.refl _ _) o) h
theorem keep_drew {W : World} {a : Addr} {v : Value} (h : W.cell? a = some v) : W.drew.cell? a = some v := h
theorem info88 : (Try.prog.info? 88).map (fun i => (i.zero, i.size, i.bytes)) = some (some (.agg #[.string ⟨#[]⟩, .int .i64 0]), 2, 24) := by kernel_rfl
theorem info52 : (Try.prog.info? 52).map (fun i => (i.zero, i.size, i.bytes)) = some (some (.agg #[.string ⟨#[]⟩, .int .i64 0, .int .i64 0, .string ⟨#[]⟩, .slice none 0 0]), 5, 72) := by kernel_rfl
theorem info94 : (Try.prog.info? 94).map (fun i => (i.zero, i.size, i.bytes)) = some (some (.agg #[.string ⟨#[]⟩, .bool false, .int .i64 0, .string ⟨#[]⟩, .slice none 0 0, .int .i64 0, .string ⟨#[]⟩, .slice none 0 0]), 8, 120) := by kernel_rfl
theorem info47 : (Try.prog.info? 47).map (fun i => (i.zero, i.size, i.bytes)) = some (some (.agg #[.string ⟨#[]⟩, .slice none 0 0]), 2, 40) := by kernel_rfl
theorem info86 : (Try.prog.info? 86).map (fun i => (i.zero, i.size, i.bytes)) = some (some (.agg #[.string ⟨#[]⟩, .slice none 0 0]), 2, 40) := by kernel_rfl
theorem info91 : (Try.prog.info? 91).map (fun i => (i.zero, i.size, i.bytes)) = some (some (.agg #[.string ⟨#[]⟩, .slice none 0 0]), 2, 40) := by kernel_rfl
section
variable {P : Program} {ops : Array Oper} {o : Oper} {a : Act} {Q : Exit → Act → World → Prop} {Kc : Act → World → Prop} {E : Prop}
/-- A whole block is written by one store, in a region that draws. -/
theorem store_all_step {W : World} (hgd : o.guard = none) (hN : o.dst = none) (t : TypeId) (p x : Operand) (ho : o.op = .store t p x) {g : Nat} {cs : Array Value} {tb : TypeId} (vs : Array Value) (haddr : a.eval p = .pointer (some ⟨g, 0, none⟩)) (hx : a.eval x = .agg vs) (hh : W.heap[g]? = some (.cells cs tb (0, 0))) (hl : vs.size = cs.size) (hi : (P.info? t).map (·.size) = some vs.size) (h1 : vs.toList.all (·.oneCell') = true)
    (h : ∀ w1, w1.heap[g]? = some (.cells vs tb (0, 0)) → Ch (fun k => k = g) W w1 → Kc (a.put o.dst undef) w1) : if Region.wanted o (yielded ops a.tmps) = true then Oper.wp P o a W Kc Q else E := by
  have hw : Region.wanted o (yielded ops a.tmps) = true := by simp [Region.wanted, hgd]
  rw [if_pos hw]
  have hrun : (Instr.storeAt t (.pointer (some ⟨g, 0, none⟩)) (.agg vs)).run P W = .ok () (W.setCells g 0 vs.toList) :=
    run_store_run t (.agg vs) vs.toList hh rfl (by rw [hi]; simp) (by simp; omega) (fun q hq => List.all_eq_true.1 h1 q hq)
  unfold Oper.wp execOp
  simp only [ho, haddr, hx, Sem.run_bind, Sem.run_pure, Result.andThen_ok, hrun]
  exact h _ (put_all vs hh hl) (ch_setCells W g 0 vs.toList)
end
theorem pack3 {w W w3 : World} {g pb bp B : Nat} {s : Sch} {l : List S31} {m : Int} {o : Obj} (h2 : Ch (fun k => k = g) W w3) (hT : TokAt W pb s l m) (hC : Ch (fun k => k = pb) w W) (hge : w.heap.size ≤ g) (hP : w.heap[bp]? = some o) (hbp : B ≤ bp) (hsB : s.B ≤ B) (hpB : pb < B) (nep : ¬ bp = pb) :
    TokAt w3 pb s l m ∧ Ch (fun k => k = pb) w w3 ∧ w3.heap[bp]? = some o ∧ B ≤ g ∧ w.heap.size ≤ g := by
  have hg : B ≤ g := Nat.le_trans (Nat.le_of_lt (Nat.lt_of_le_of_lt hbp (lt_of_block hP))) hge
  have hC3 : Ch (fun k => k = pb) w w3 := hC.trans h2 (fun k h => .inr (by rw [h]; exact hge))
  exact ⟨hT.above (h2.mono (S' := fun k => B ≤ k) (fun k h => by rw [h]; exact hg)) hsB hpB, hC3, hC3.heap hP nep, hg, hge⟩
theorem pack4 {w W : World} {g pb bp B : Nat} {s : Sch} {l : List S31} {m : Int} {o : Obj} {cs : Array Value} {tb : TypeId} (vs : Array Value) (hh : W.heap[g]? = some (.cells cs tb (0, 0))) (hl : vs.size = cs.size) (hT : TokAt W pb s l m) (hC : Ch (fun k => k = pb) w W) (hge : w.heap.size ≤ g) (hP : w.heap[bp]? = some o) (hbp : B ≤ bp) (hsB : s.B ≤ B) (hpB : pb < B) (nep : ¬ bp = pb) :
    Aside0 (TokAt (W.setCells g 0 vs.toList) pb s l m) ∧ Aside0 (Ch (fun k => k = pb) w (W.setCells g 0 vs.toList)) ∧ Aside0 ((W.setCells g 0 vs.toList).heap[g]? = some (.cells vs tb (0, 0))) ∧ Aside0 (B ≤ g) ∧ Aside0 (w.heap.size ≤ g) ∧ Aside0 (g < (W.setCells g 0 vs.toList).heap.size) := by
  obtain ⟨h1, h2, h3, h4, h5⟩ := pack3 (ch_setCells W g 0 vs.toList) hT hC hge hP hbp hsB hpB nep
  have h6 := put_all vs hh hl
  exact ⟨⟨h1⟩, ⟨h2⟩, ⟨h6⟩, ⟨h4⟩, ⟨h5⟩, ⟨lt_of_block h6⟩⟩
theorem fin_alloc {w w2 : World} {pb bp B : Nat} {s : Sch} {l : List S31} {m : Int} {o : Obj} {vs : Array Value} {tb : TypeId} (hT : TokAt w2 pb s l m) (hC : Ch (fun k => k = pb) w w2) (hP : w.heap[bp]? = some o) (hbp : B ≤ bp) (hsB : s.B ≤ B) (hpB : pb < B) (nep : ¬ bp = pb) :
    Aside0 (TokAt (w2.alloc (.cells vs tb)) pb s l m) ∧ Aside0 (Ch (fun k => k = pb) w (w2.alloc (.cells vs tb))) ∧ Aside0 ((w2.alloc (.cells vs tb)).heap[w2.heap.size]? = some (.cells vs tb (0, 0))) ∧ Aside0 (B ≤ w2.heap.size) ∧ Aside0 (w.heap.size ≤ w2.heap.size) ∧ Aside0 (w2.heap.size < (w2.alloc (.cells vs tb)).heap.size) :=
  ⟨⟨hT.below (below_alloc (Below.refl _ _) _)⟩, ⟨hC.alloc _⟩, ⟨heap_alloc_new w2 _⟩, ⟨Nat.le_trans (Nat.le_of_lt (Nat.lt_of_le_of_lt hbp (lt_of_block hP))) hC.size⟩, ⟨hC.size⟩, ⟨lt_of_block (heap_alloc_new w2 _)⟩⟩
theorem fin_set2 {w w2 : World} {g pb bp B : Nat} {s : Sch} {l : List S31} {m : Int} {o : Obj} {cs : Array Value} {tb : TypeId} {a0 a1 : Value} (hh : w2.heap[g]? = some (.cells cs tb (0, 0))) (hl : cs.size = 2) (hT : TokAt w2 pb s l m) (hC : Ch (fun k => k = pb) w w2) (hge : w.heap.size ≤ g) (hP : w.heap[bp]? = some o) (hbp : B ≤ bp) (hsB : s.B ≤ B) (hpB : pb < B) (nep : ¬ bp = pb) :
    Aside0 (TokAt ((w2.setCell ⟨g, 0, none⟩ a0).setCell ⟨g, 1, none⟩ a1) pb s l m) ∧ Aside0 (Ch (fun k => k = pb) w ((w2.setCell ⟨g, 0, none⟩ a0).setCell ⟨g, 1, none⟩ a1)) ∧ Aside0 (((w2.setCell ⟨g, 0, none⟩ a0).setCell ⟨g, 1, none⟩ a1).heap[g]? = some (.cells #[a0, a1] tb (0, 0))) ∧ Aside0 (B ≤ g) ∧ Aside0 (w.heap.size ≤ g) ∧ Aside0 (g < ((w2.setCell ⟨g, 0, none⟩ a0).setCell ⟨g, 1, none⟩ a1).heap.size) :=
  pack4 #[a0, a1] hh hl.symm hT hC hge hP hbp hsB hpB nep
theorem fin_set5 {w w2 : World} {g pb bp B : Nat} {s : Sch} {l : List S31} {m : Int} {o : Obj} {cs : Array Value} {tb : TypeId} {a0 a1 a2 a3 a4 : Value} (hh : w2.heap[g]? = some (.cells cs tb (0, 0))) (hl : cs.size = 5) (hT : TokAt w2 pb s l m) (hC : Ch (fun k => k = pb) w w2) (hge : w.heap.size ≤ g) (hP : w.heap[bp]? = some o) (hbp : B ≤ bp) (hsB : s.B ≤ B) (hpB : pb < B) (nep : ¬ bp = pb) :
    Aside0 (TokAt (((((w2.setCell ⟨g, 0, none⟩ a0).setCell ⟨g, 1, none⟩ a1).setCell ⟨g, 2, none⟩ a2).setCell ⟨g, 3, none⟩ a3).setCell ⟨g, 4, none⟩ a4) pb s l m) ∧ Aside0 (Ch (fun k => k = pb) w (((((w2.setCell ⟨g, 0, none⟩ a0).setCell ⟨g, 1, none⟩ a1).setCell ⟨g, 2, none⟩ a2).setCell ⟨g, 3, none⟩ a3).setCell ⟨g, 4, none⟩ a4)) ∧ Aside0 ((((((w2.setCell ⟨g, 0, none⟩ a0).setCell ⟨g, 1, none⟩ a1).setCell ⟨g, 2, none⟩ a2).setCell ⟨g, 3, none⟩ a3).setCell ⟨g, 4, none⟩ a4).heap[g]? = some (.cells #[a0, a1, a2, a3, a4] tb (0, 0))) ∧ Aside0 (B ≤ g) ∧ Aside0 (w.heap.size ≤ g) ∧ Aside0 (g < (((((w2.setCell ⟨g, 0, none⟩ a0).setCell ⟨g, 1, none⟩ a1).setCell ⟨g, 2, none⟩ a2).setCell ⟨g, 3, none⟩ a3).setCell ⟨g, 4, none⟩ a4).heap.size) :=
  pack4 #[a0, a1, a2, a3, a4] hh hl.symm hT hC hge hP hbp hsB hpB nep
theorem fin_set8 {w w2 : World} {g pb bp B : Nat} {s : Sch} {l : List S31} {m : Int} {o : Obj} {cs : Array Value} {tb : TypeId} {a0 a1 a2 a3 a4 a5 a6 a7 : Value} (hh : w2.heap[g]? = some (.cells cs tb (0, 0))) (hl : cs.size = 8) (hT : TokAt w2 pb s l m) (hC : Ch (fun k => k = pb) w w2) (hge : w.heap.size ≤ g) (hP : w.heap[bp]? = some o) (hbp : B ≤ bp) (hsB : s.B ≤ B) (hpB : pb < B) (nep : ¬ bp = pb) :
    Aside0 (TokAt ((((((((w2.setCell ⟨g, 0, none⟩ a0).setCell ⟨g, 1, none⟩ a1).setCell ⟨g, 2, none⟩ a2).setCell ⟨g, 3, none⟩ a3).setCell ⟨g, 4, none⟩ a4).setCell ⟨g, 5, none⟩ a5).setCell ⟨g, 6, none⟩ a6).setCell ⟨g, 7, none⟩ a7) pb s l m) ∧ Aside0 (Ch (fun k => k = pb) w ((((((((w2.setCell ⟨g, 0, none⟩ a0).setCell ⟨g, 1, none⟩ a1).setCell ⟨g, 2, none⟩ a2).setCell ⟨g, 3, none⟩ a3).setCell ⟨g, 4, none⟩ a4).setCell ⟨g, 5, none⟩ a5).setCell ⟨g, 6, none⟩ a6).setCell ⟨g, 7, none⟩ a7)) ∧ Aside0 (((((((((w2.setCell ⟨g, 0, none⟩ a0).setCell ⟨g, 1, none⟩ a1).setCell ⟨g, 2, none⟩ a2).setCell ⟨g, 3, none⟩ a3).setCell ⟨g, 4, none⟩ a4).setCell ⟨g, 5, none⟩ a5).setCell ⟨g, 6, none⟩ a6).setCell ⟨g, 7, none⟩ a7).heap[g]? = some (.cells #[a0, a1, a2, a3, a4, a5, a6, a7] tb (0, 0))) ∧ Aside0 (B ≤ g) ∧ Aside0 (w.heap.size ≤ g) ∧ Aside0 (g < ((((((((w2.setCell ⟨g, 0, none⟩ a0).setCell ⟨g, 1, none⟩ a1).setCell ⟨g, 2, none⟩ a2).setCell ⟨g, 3, none⟩ a3).setCell ⟨g, 4, none⟩ a4).setCell ⟨g, 5, none⟩ a5).setCell ⟨g, 6, none⟩ a6).setCell ⟨g, 7, none⟩ a7).heap.size) :=
  pack4 #[a0, a1, a2, a3, a4, a5, a6, a7] hh hl.symm hT hC hge hP hbp hsB hpB nep
/-! The parser, plain: what the steps of a declaration leave. -/
def tLC : ByteArray := ⟨#[123]⟩
def tRC : ByteArray := ⟨#[125]⟩
/-- Parts up to the end, m more at most. -/
def partsP {α : Type} (one : St31 → Out α) : Nat → St31 → Out (List α)
  | 0, st => if eqS (peekP st.1).f1 tRC = true then bindO (signP tRC st) fun _ st1 => .inr ([], st1) else if st.1.length = 0 then bindO (one st) fun _ st1 => .inl (3, st1) else .inl (3, st)
  | m + 1, st => if eqS (peekP st.1).f1 tRC = true then bindO (signP tRC st) fun _ st1 => .inr ([], st1) else bindO (one st) fun a st1 => bindO (partsP one m st1) fun l st2 => .inr (a :: l, st2)
def blockP {α : Type} (one : St31 → Out α) (st : St31) : Out (ByteArray × List α) := bindO (nameP st) fun a st1 => bindO (signP tLC st1) fun _ st2 => bindO (partsP one 32 st2) fun l st3 => .inr ((a, l), st3)
inductive DeclT
  | s (a : ByteArray) (l : List S52)
  | e (a : ByteArray) (l : List S88)
  | v (a : ByteArray) (l : List S94)
def tStruct : ByteArray := ⟨#[115, 116, 114, 117, 99, 116]⟩
def tEnum : ByteArray := ⟨#[101, 110, 117, 109]⟩
def tService : ByteArray := ⟨#[115, 101, 114, 118, 105, 99, 101]⟩
def wordB (x : ByteArray) : Bool := eqS x tStruct || (eqS x tEnum || eqS x tService)
def declP (st : St31) : Out DeclT := bindO (askP (wordB (peekP st.1).f1) st) fun k st1 =>
  if eqS k tStruct = true then bindO (blockP struct1P st1) fun x st2 => .inr (.s x.1 x.2, st2)
  else if eqS k tEnum = true then bindO (blockP enum1P st1) fun x st2 => .inr (.e x.1 x.2, st2)
  else bindO (blockP svc1P st1) fun x st2 => .inr (.v x.1 x.2, st2)
def declsP : Nat → St31 → Out (List DeclT)
  | 0, st => if st.1.length = 0 then .inr ([], st) else .inl (3, st)
  | m + 1, st => if st.1.length = 0 then .inr ([], st) else bindO (declP st) fun d st1 => bindO (declsP m st1) fun l st2 => .inr (d :: l, st2)
def enum1R (n : Int) (a : ByteArray) : ByteArray → St31 → Out S88 := fun _ st3 => .inr (⟨a, n⟩, st3)
def struct1R (n : Int) (a : ByteArray) : ByteArray → St31 → Out S52 := fun _ st3 => bindO (typedP 8 st3) fun ty st4 => bindO (signP tSC st4) fun _ st5 => .inr (⟨a, n, ty⟩, st5)
def svc1R (k a : ByteArray) : ByteArray → St31 → Out S94 := fun _ st3 => bindO (typedP 8 st3) fun x st4 => bindO (signP tRP st4) fun _ st5 => bindO (typedP 8 st5) fun y st6 => bindO (signP tSC st6) fun _ st7 => .inr (⟨a, eqS k tOnce, x, y⟩, st7)
set_option maxHeartbeats 2000000 in
set_option maxRecDepth 100000 in
theorem enum1.calls (B pb bp bx : Nat) (s : Sch) (st : St31) (nm : ByteArray) (xs : List S88) (w : World) (h : TokAt w pb s st.1 st.2) (hj : JX k88 88 86 B pb bp bx nm xs w) (hsB : s.B ≤ B) (hpB : pb < B) (hbp : B ≤ bp) (hbx : B ≤ bx) (hne : bp ≠ bx) (hl : xs.length ≤ 32) :
    Calls Try.prog 84 #[.pointer (some ⟨bp, 0, none⟩), .pointer (some ⟨bx, 0, none⟩)] w (EndsC w pb s B (fun c w' => JX k88 88 86 B pb bp bx nm (xs ++ [c]) w') (enum1P st)) := by
  obtain ⟨hp, v, hx, hr⟩ := hj
  have HT := Aside0.mk h
  have HP := Aside0.mk hp
  have HX := Aside0.mk hx
  have HR := Aside0.mk hr
  have nep : ¬ bp = pb := by omega
  have nex : ¬ bx = pb := by omega
  have HNX := Aside0.mk nex
  have hp0 := zcell hp 0 _ rfl
  obtain ⟨O, hO⟩ : ∃ o, o = enum1P st := ⟨_, rfl⟩
  have HO0 := Aside0.mk hO.symm
  rw [← hO]
  clear h hp hx hr hO nex
  go_enter Try.func84, Try.ntmps84
  go_wp2_with fail
  go_cut [2] from 3 to 11 (fun v2 W => ∃ num a st2 g, v2 = .pointer (some ⟨g, 0, none⟩) ∧ Aside0 (bindO (signP tSC st2) (enum1R num a) = O) ∧ Aside0 (TokAt W pb s st2.1 st2.2) ∧ Aside0 (Ch (fun k => k = pb) w W) ∧ Aside0 (W.heap[g]? = some (.cells #[.string a, .int .i64 num] 88 (0, 0))) ∧ Aside0 (B ≤ g) ∧ Aside0 (w.heap.size ≤ g) ∧ Aside0 (g < W.heap.size))
  case first =>
    go_region_held2 (fun W => W.cell? ⟨bp, 0, none⟩ = some (.pointer (some ⟨pb, 0, none⟩)))
      (((repeat' (first | (with_reducible refine keep_set ?_ ?_) | (with_reducible refine keep_alloc ?_) | (with_reducible refine keep_drew ?_) | exact hp0 | exact HQ1.out | exact HQ2.out | (first | (show bp ≠ w.heap.size; have hlt := lt_of_block HP.out; omega) | (show bp ≠ w1.heap.size; have hlt := lt_of_block HP1.out; omega) | (show bp ≠ w2.heap.size; have hlt := lt_of_block HP2.out; omega)))); done))
      (first | (go_at_call 82; refine (number.calls pb s st _ (HT.out.below (by repeat (first | exact Below.refl _ _ | apply below_alloc | apply below_drew)))).mono ?_; rcases ho1 : numberP st with ⟨c', st1⟩ | ⟨num, st1⟩; (focus (rintro e w1 ⟨rfl, ht, hc⟩; have ho := (bindO_l ho1).symm.trans HO0.out; subst ho; exact ⟨rfl, rfl, ht, ((Ch.of_below (by repeat (first | exact Below.refl _ _ | apply below_alloc | apply below_drew)) (fun k => k = pb ∨ B ≤ k)).trans hc (fun k h => .inl (.inl h)))⟩)); rintro e w1 ⟨⟨vv, rfl, rfl⟩, ht, hc⟩; have HO1 := Aside0.mk ((bindO_r ho1).symm.trans HO0.out); have HT1 := Aside0.mk ht; have HC1 : Aside0 (Ch (fun k => k = pb) w w1) := ⟨(Ch.of_below (by repeat (first | exact Below.refl _ _ | apply below_alloc | apply below_drew)) (fun k => k = pb)).trans hc (fun k h => .inl h)⟩; have HP1 := Aside0.mk (HC1.out.heap HP.out nep); have HQ1 := Aside0.mk (zcell HP1.out 0 _ rfl); (try have HGA := Aside0.mk (hc.heap (heap_alloc_new _ (.cells #[.string ⟨#[]⟩, .int .i64 0] 88)) (by have := tok_lt HT.out; simp; omega))); clear ht hc ho1)
             | (go_at_call 78; refine (name.calls pb s st1 _ (HT1.out.below (by repeat (first | exact Below.refl _ _ | apply below_alloc | apply below_drew)))).mono ?_; rcases ho2 : nameP st1 with ⟨c', st2⟩ | ⟨a, st2⟩; (focus (rintro e w2 ⟨rfl, ht, hc⟩; have ho := (bindO_l ho2).symm.trans HO1.out; subst ho; exact ⟨rfl, rfl, ht, ((HC1.out.mono (S' := fun k => k = pb ∨ B ≤ k) (fun k h => .inl h)).trans ((Ch.of_below (by repeat (first | exact Below.refl _ _ | apply below_alloc | apply below_drew)) (fun k => k = pb ∨ B ≤ k)).trans hc (fun k h => .inl (.inl h))) (fun k h => .inl h))⟩)); rintro e w2 ⟨⟨vv, rfl, rfl⟩, ht, hc⟩; have HO2 := Aside0.mk ((bindO_r ho2).symm.trans HO1.out); have HT2 := Aside0.mk ht; have HC2 : Aside0 (Ch (fun k => k = pb) w w2) := ⟨HC1.out.trans ((Ch.of_below (by repeat (first | exact Below.refl _ _ | apply below_alloc | apply below_drew)) (fun k => k = pb)).trans hc (fun k h => .inl h)) (fun k h => .inl h)⟩; have HP2 := Aside0.mk (HC2.out.heap HP.out nep); have HQ2 := Aside0.mk (zcell HP2.out 0 _ rfl); (try have HGB := Aside0.mk (hc.heap (heap_alloc_new _ (.cells #[.string ⟨#[]⟩, .int .i64 0] 88)) (by have := tok_lt HT1.out; simp; omega))); (try have HGB := Aside0.mk (hc.heap HGA.out (by have := tok_lt HT.out; simp; omega))); (try have hq0 := zcell HGB.out 0 _ rfl); (try have hf0 := zfree HGB.out 0); (try have hq1 := zcell HGB.out 1 _ rfl); (try have hf1 := zfree HGB.out 1); clear ho2 ht hc))
    all_goals
      clear hp0
      go_wp2_with fail
      go_meet
      refine ⟨num, a, st2, _, rfl, HO2, ?_⟩
      first
      | with_reducible exact fin_alloc HT2.out HC2.out HP.out hbp hsB hpB nep
      | with_reducible exact fin_set2 HGB.out rfl HT2.out HC2.out HC1.out.size HP.out hbp hsB hpB nep
      | with_reducible exact fin_set2 HGB.out rfl HT2.out HC2.out (Nat.le_refl _) HP.out hbp hsB hpB nep
  case rest =>
    obtain ⟨num, a, st2, g, rfl, HO2, HT3, HC3, HK3, HG3, HGE, HGL3⟩ := hcut
    obtain ⟨W, rfl⟩ : ∃ x, x = wc := ⟨_, rfl⟩
    clear hp0 HO0
    have hp0 := zcell (HC3.out.heap HP.out nep) 0 _ rfl
    go_wp2_with fail
    refine (sign.calls pb s tSC st2 _ W.heap.size (HT3.out.below (below_alloc (Below.refl _ _) _)) (heap_alloc_new W _) (by have := tok_lt HT3.out; omega)).mono ?_
    rcases ho3 : signP tSC st2 with ⟨c', st3⟩ | ⟨q3, st3⟩
    · rintro e w4 ⟨rfl, ht, hc⟩
      have ho := (bindO_l ho3).symm.trans HO2.out
      subst ho
      exact ⟨rfl, rfl, ht, ((HC3.out.alloc _).mono (S' := fun k => k = pb ∨ B ≤ k) (fun k h => .inl h)).trans hc (fun k h => .inl (.inl h))⟩
    rintro e w4 ⟨⟨vv, rfl, rfl⟩, ht, hc⟩
    have HO3 := Aside0.mk ((bindO_r ho3).symm.trans HO2.out)
    have HT4 := Aside0.mk ht
    have hcc : Ch (fun k => k = pb) W w4 := ((Ch.refl (fun k => k = pb) W).alloc _).trans hc (fun k h => .inl h)
    have HC4 := Aside0.mk (HC3.out.trans hcc (fun k h => .inl h))
    have HK4 := Aside0.mk (hcc.heap HK3.out (by have := HG3.out; omega))
    have HGL4 := Aside0.mk (Nat.lt_of_lt_of_le HGL3.out hcc.size)
    clear ht hc hcc ho3 hp0 HT3 HC3 HK3 HO2 HGL3
    have HX4 := Aside0.mk (HC4.out.heap HX.out HNX.out)
    have HP4 := Aside0.mk (HC4.out.heap HP.out nep)
    have HR4 : Aside0 (k88.R 88 w4 B (fun _ => True) v xs) := by
      obtain ⟨cs_, hb_⟩ := HT.out.block
      exact ⟨Kd.R_mono (R_ch (Kd.R_types HR.out hb_ (by decide)) HC4.out (fun k hk e => hk.2 e)) (fun _ _ => trivial)⟩
    have hp0 := zcell HX4.out 1 _ rfl
    have hk0 := zcell HK4.out 0 _ rfl
    have hk1 := zcell HK4.out 1 _ rfl
    go_wp2_with ((with_reducible refine gate_builtin (b := .append) (xs := #[.tmp 18, .tmp 20]) rfl ?_); at_builtin; refine Kd.R_append k88 (w0 := w4) B rfl (.tmp 18) (.tmp 20) 84 88 (.agg #[.string ⟨#[]⟩, .int .i64 0]) 24 rfl Try.underlying84 info88 rfl (by decide) (by decide) v xs ⟨a, num⟩ [.string a, .int .i64 num] (fun _ => True) (fun _ => False) rfl rfl (k88_mkM _ _ _ _) (fun _ h => h.elim) (fun _ _ => trivial) HR4.out (Below.refl _ _) (by have := lt_of_block HP4.out; omega) (by omega) ?_; intro v1 wz hr1 hb1 hg1 hat1; obtain ⟨A5, c5, rfl⟩ := Kd.R_slice hr1; have HB5 := Aside0.mk hb1; have HJ5 := Aside0.mk (JX.snoc HP4.out HX4.out HR4.out hg1 hr1 hne (by decide) (by decide)); have hx1 := zcell HJ5.out.1 1 _ rfl; have hf1 := zfree HJ5.out.1 1; clear hr1 hb1 hg1 hat1)
    go_end0
    have hj5 := HJ5.out.2
    simp only [List.length_append, List.length_cons, List.length_nil, Nat.zero_add] at hj5
    have ho := HO3.out
    subst ho
    exact ⟨rfl, hj5, (HT4.out.above (Ch.of_belowB HB5.out) hsB hpB).setc hsB hpB hbx 1 _, ((HC4.out.mono (S' := fun k => k = pb ∨ B ≤ k) (fun k h => .inl h)).trans (Ch.of_belowB HB5.out) (fun k h => .inl (.inr h))).set (p := ⟨bx, 1, none⟩) (.inl (.inr hbx)) _⟩
end Go.Proofs.Ytoloneoeojoiaaa.EParseOwn
