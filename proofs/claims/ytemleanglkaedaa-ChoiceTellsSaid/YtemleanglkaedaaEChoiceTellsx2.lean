-- Written by a program of this seat, over a copy of the print; parts by hand.
import Derived.Test.YtemleanglkaedaaEChoiceTellsx0
namespace Go.Proofs.Ytemleanglkaedaa.EChoiceTells
open Go.RowKit Go.Proofs.YtemleanglkaedaaW.PrintWords Go.Proofs.YtemleanglkaedaaW.PrintLast Go.Proofs.YtemleanglkaedaaW.PrintMore
attribute [local go_sem] max2_int min2_int max_two min_two max_three min_three max_four min_four   -- for this text's walks alone
set_option linter.unusedVariables false
set_option linter.unusedSimpArgs false

-- by hand: ../lib/Aid.inc
/-! What a call changes: the blocks of S, and what is new since. -/
structure Ch (S : Nat → Prop) (w w' : World) : Prop where
  os : w'.os = w.os
  tape : w'.tape = w.tape
  output : w'.output = w.output
  size : w.heap.size ≤ w'.heap.size
  block : ∀ k, k < w.heap.size → ¬ S k → w'.heap[k]? = w.heap[k]?
section
variable {S S' : Nat → Prop} {w w1 w2 : World}
theorem Ch.refl (S : Nat → Prop) (w : World) : Ch S w w := ⟨rfl, rfl, rfl, Nat.le_refl _, fun _ _ _ => rfl⟩
theorem Ch.trans (h : Ch S w w1) (k : Ch S' w1 w2) (hs : ∀ k, S' k → S k ∨ w.heap.size ≤ k) : Ch S w w2 :=
  ⟨k.os.trans h.os, k.tape.trans h.tape, k.output.trans h.output, Nat.le_trans h.size k.size, fun i hi hn => (k.block i (Nat.lt_of_lt_of_le hi h.size) (fun h2 => (hs i h2).elim hn (fun h3 => by omega))).trans (h.block i hi hn)⟩
theorem Ch.mono (h : Ch S w w1) (hs : ∀ k, S k → S' k) : Ch S' w w1 := ⟨h.os, h.tape, h.output, h.size, fun i hi hn => h.block i hi (fun hk => hn (hs i hk))⟩
theorem Ch.of_below (h : Below w.heap.size w w1) (S : Nat → Prop) : Ch S w w1 := ⟨h.os, h.tape, h.output, h.size, fun k hk _ => h.block k hk⟩
theorem Ch.thenB (h : Ch S w w1) (k : Below w1.heap.size w1 w2) : Ch S w w2 := h.trans (Ch.of_below k (fun _ => False)) (fun _ h => h.elim)
theorem Ch.alloc (h : Ch S w w1) (o : Obj) : Ch S w (w1.alloc o) := h.thenB (below_alloc (Below.refl _ _) o)
theorem Ch.drewN (h : Ch S w w1) (n : Nat) : Ch S w (w1.drewN n) := ⟨h.os, h.tape, h.output, h.size, h.block⟩
theorem Ch.drew (h : Ch S w w1) : Ch S w w1.drew := ⟨h.os, h.tape, h.output, h.size, h.block⟩
theorem Ch.drawn (h : Ch S w w1) (k : Drawn0 w1 w2) : Ch S w w2 := h.thenB k.below
theorem Ch.set (h : Ch S w w1) {p : Addr} (hp : S p.block ∨ w.heap.size ≤ p.block) (u : Value) : Ch S w (w1.setCell p u) :=
  h.trans (S' := fun k => k = p.block) ⟨rfl, rfl, rfl, by simp [World.setCell], fun i _ hn => Below.heap_setCell w1 p u i hn⟩ (fun k hk => by rw [hk]; exact hp)
theorem Ch.grown {row : Option Nat} (h : Ch S w w1) (hg : w1.grownBy w2 row) (hr : ∀ k, row = some k → S k ∨ w.heap.size ≤ k) : Ch S w w2 :=
  h.trans (S' := fun k => row = some k) ⟨hg.os, hg.tape, hg.output, hg.size, fun i hi hn => hg.block i hi (fun he => hn he.symm)⟩ hr
theorem Ch.toB {B : Nat} (h : Ch S w w1) (hB : B ≤ w.heap.size) (hs : ∀ k, S k → B ≤ k) : Below B w w1 :=
  ⟨h.os, h.tape, h.output, h.size, fun k hk => h.block k (Nat.lt_of_lt_of_le hk hB) (fun h2 => by have := hs k h2; omega)⟩
theorem Ch.below (h : Ch (fun _ => False) w w1) : Below w.heap.size w w1 := h.toB (Nat.le_refl _) (fun _ h => h.elim)
theorem Ch.belowN (h : Ch S w w1) (hs : ∀ k, S k → w.heap.size ≤ k) : Below w.heap.size w w1 := h.toB (Nat.le_refl _) hs
theorem Ch.cell (h : Ch S w w1) {a : Addr} {v : Value} (hc : w.cell? a = some v) (hn : ¬ S a.block) : w1.cell? a = some v := by
  have := h.block a.block (World.block_lt_of_cell? w a hc) hn
  simpa [World.cell?, this] using hc
theorem Ch.heap (h : Ch S w w1) {g : Nat} {o : Obj} (hb : w.heap[g]? = some o) (hn : ¬ S g) : w1.heap[g]? = some o := (h.block g (lt_of_block hb) hn).trans hb
end
/-- below(B, w0, W) and on. -/
theorem below_ch {B : Nat} {w0 w w1 : World} {S : Nat → Prop} (h : Below B w0 w) (k : Ch S w w1) (hB : B ≤ w.heap.size) (hs : ∀ k, S k → B ≤ k) : Below B w0 w1 := h.trans (k.toB hB hs)
theorem R_ch {α : Type} {d : Kd α} {e base : Nat} {ok S : Nat → Prop} {w w1 : World} {v : Value} {xs : List α} (h : d.R e w base ok v xs) (k : Ch S w w1) (hok : ∀ k, ok k → ¬ S k) : d.R e w1 base ok v xs :=
  Kd.R_step h (fun i ho hi => k.block i hi (hok i ho))
theorem setCell_drewN_ (w : World) (n : Nat) (a : Addr) (v : Value) : (w.drewN n).setCell a v = (w.setCell a v).drewN n := rfl
/-- A slice's length, for a measure. -/
def slen (v : Value) : Nat := match v with | .slice _ m _ => m | _ => 0
theorem zC_block (k : IntKind) (e : TypeId) (xs : List Int) {W : World} {g : Nat} (h : W.heap[g]? = some (.cells (nums k xs).toArray e (0, 0))) (hm : xs.length ≤ 9223372036854775807) : Kd.C (Kd.int k) W (some ⟨g, 0, none⟩) xs.length xs := by
  refine ⟨rfl, hm, fun _ => ⟨_, rfl, fun j p hp => ⟨[.int k p], rfl, rfl, fun i u hu => ?_⟩⟩⟩
  obtain ⟨rfl, rfl⟩ : i = 0 ∧ u = .int k p := by
    cases i with
    | zero => simp at hu; exact ⟨rfl, hu.symm⟩
    | succ i => simp at hu
  rw [add_plain]
  have hs : (Kd.int k).sz = 1 := rfl
  rw [hs, Nat.mul_one, Nat.add_zero]
  have hj : (nums k xs)[j]? = some (.int k p) := by simp [nums, hp]
  simp only [World.cell?, h]
  simp [hj]
theorem zC_new (k : IntKind) (e : TypeId) (xs : List Int) (W : World) (g : Nat) (hg : g = W.heap.size) (hm : xs.length ≤ 9223372036854775807) : Kd.C (Kd.int k) (W.alloc (.cells (nums k xs).toArray e)) (some ⟨g, 0, none⟩) xs.length xs := by
  subst hg
  exact zC_block k e xs (heap_alloc_new W _) hm

-- by hand: ../lib/Aid2.inc
/-! A block's cells. -/
theorem zcell {w : World} {b : Nat} {cs : Array Value} {t : TypeId} (h : w.heap[b]? = some (.cells cs t (0, 0))) (j : Nat) (v : Value) (hv : cs[j]? = some v) : w.cell? ⟨b, j, none⟩ = some v := by simp [World.cell?, h, hv]
theorem zfree {w : World} {b : Nat} {cs : Array Value} {t : TypeId} (h : w.heap[b]? = some (.cells cs t (0, 0))) (j : Nat) : w.frozen? ⟨b, j, none⟩ = false := by simp [World.frozen?, h]
theorem zset {w : World} {b : Nat} {cs : Array Value} {t : TypeId} (h : w.heap[b]? = some (.cells cs t (0, 0))) (j : Nat) (u : Value) : (w.setCell ⟨b, j, none⟩ u).heap[b]? = some (.cells (cs.setIfInBounds j u) t (0, 0)) := by
  have hlt := lt_of_block h
  have h' : w.heap[b] = .cells cs t (0, 0) := by simpa [Array.getElem?_eq_getElem hlt] using h
  show (w.heap.modify b _)[b]? = _
  rw [Array.getElem?_eq_getElem (by simpa using hlt), Array.getElem_modify_self, h']
  simp

-- by hand: ../lib/Idx.inc
/-! The first that meets a test: its place; -1 of none. -/
def idxFrom {α : Type} (p : α → Bool) : Int → List α → Int
  | _, [] => -1
  | i, x :: t => if p x = true then i else idxFrom p (i + 1) t
def idxL {α : Type} (p : α → Bool) (l : List α) : Int := idxFrom p 0 l
theorem idx_step {α : Type} (p : α → Bool) (l : List α) (z : α) (i : Int) (h0 : 0 ≤ i) (h : i < l.length) : idxFrom p i (l.drop i.toNat) = if p (l.getD i.toNat z) = true then i else idxFrom p (i + 1) (l.drop (i + 1).toNat) := by
  obtain ⟨n, rfl⟩ : ∃ n : Nat, i = n := ⟨i.toNat, by omega⟩
  have hn : n < l.length := by omega
  rw [show ((n : Int) + 1).toNat = n + 1 by omega, Int.toNat_natCast, List.drop_eq_getElem_cons hn, List.getD_eq_getElem?_getD, List.getElem?_eq_getElem hn]
  rfl
theorem idxFrom_any {α : Type} (p : α → Bool) : ∀ (l : List α) (i : Int), 0 ≤ i → decide (0 ≤ idxFrom p i l) = l.any p
  | [], i, h => rfl
  | x :: t, i, h => by
    unfold idxFrom
    by_cases hx : p x = true
    · rw [if_pos hx, decide_eq_true h]; simp [hx]
    · rw [if_neg hx, idxFrom_any p t (i + 1) (by omega)]; simp [hx]
theorem idx_any {α : Type} (p : α → Bool) (l : List α) : decide (0 ≤ idxL p l) = l.any p := idxFrom_any p l 0 (Int.le_refl _)
theorem idxFrom_spec {α : Type} (p : α → Bool) : ∀ (l : List α) (i : Int), idxFrom p i l = -1 ∧ (∀ x ∈ l, p x = false) ∨ ∃ n : Nat, idxFrom p i l = i + n ∧ ∃ h : n < l.length, p l[n] = true ∧ ∀ m (hm : m < n), p (l[m]'(by omega)) = false
  | [], i => .inl ⟨rfl, by simp⟩
  | x :: t, i => by
    unfold idxFrom
    by_cases hx : p x = true
    · rw [if_pos hx]
      exact .inr ⟨0, by simp, by simp, by simpa using hx, fun m hm => by omega⟩
    · rw [if_neg hx]
      rcases idxFrom_spec p t (i + 1) with ⟨h1, h2⟩ | ⟨n, h1, h2, h3, h4⟩
      · exact .inl ⟨h1, fun y hy => by
          rcases List.mem_cons.1 hy with rfl | hy
          · simpa using hx
          · exact h2 y hy⟩
      · refine .inr ⟨n + 1, by rw [h1]; omega, by simp; omega, by simpa using h3, fun m hm => ?_⟩
        cases m with
        | zero => simpa using hx
        | succ m => simpa using h4 m (by omega)

/-! ### choice_odd: function 51 -/
def choice_odd.f (a0_0 : Int) (a0_1 : Int) : Option (Bool) := if a0_0 < 0 then (some true) else (if a0_0 > 2147483647 then (some true) else (if a0_1 < 0 then (some true) else (some (decide (a0_1 > 1048576)))))
set_option maxHeartbeats 8000000 in
set_option maxRecDepth 100000 in
theorem choice_odd.calls (a0_0 : Int) (a0_1 : Int) (r : Bool) (w : World) (h : choice_odd.f a0_0 a0_1 = some r) :
    Calls Try.prog 51 #[.agg #[.int .i64 a0_0, .int .i64 a0_1]] w fun e w' => e = .returned (.bool r) ∧ Below w.heap.size w w' := by
  have hu30 := Try.underlying30
  have HB := Aside0.mk (Below.refl w.heap.size w)
  have H : (if a0_0 < 0 then (some true) else (if a0_0 > 2147483647 then (some true) else (if a0_1 < 0 then (some true) else (some (decide (a0_1 > 1048576)))))) = some r := h
  clear h
  by_cases c2 : a0_0 < 0
  · rw [if_pos c2] at H
    have c2b0 : decide (a0_0 < 0) = true := decide_eq_true c2
    clear c2
    obtain rfl := Option.some.inj H
    go_enter Try.func51, Try.ntmps51
    go_wp2_with (first | ((with_reducible refine gate_dst (N := 1) rfl ?_); refine box_event ?hg (N := 1) ?hd (cs := #[.int .i64 a0_0, .int .i64 a0_1]) (t := 30) ?hr ?_; (case hd => rfl); (case hg => rfl); (case hr => first | (go_simp; done) | (go_simp; rfl)); intro gb101 hg w3 hbox hb; have n0_ := Aside0.mk (below_step (by repeat (first | (with_reducible first | exact HB.out | apply below_alloc | apply pw_below_drewN | apply below_drew1) | exact HB.out)) hb); have n1_ := Aside0.mk (hbox); have n2_ := Aside0.mk ((by rw [hg]; exact (below_size (by repeat (first | (with_reducible first | exact HB.out | apply below_alloc | apply pw_below_drewN | apply below_drew1) | exact HB.out))) : w.heap.size ≤ gb101)); have n3_ := Aside0.mk ((by rw [hg]; exact (below_size (by repeat (first | (with_reducible first | exact HB.out | apply below_alloc | apply pw_below_drewN | apply below_drew1) | exact HB.out))) : w.heap.size ≤ gb101)); clear HB; have HB := n0_; have BK101 := n1_; have GW101 := n2_; have GE101 := n3_; clear n0_ n1_ n2_ n3_; clear hb hbox hg; have hcz4_0 : w3.cell? ⟨gb101, 0, none⟩ = some (.int .i64 a0_0) := (blk_cell BK101.out 0).trans rfl; have hcz4_1 : w3.cell? ⟨gb101, 1, none⟩ = some (.int .i64 a0_1) := (blk_cell BK101.out 1).trans rfl; have hfz4_0 := blk_frozen BK101.out 0; have hfz4_1 := blk_frozen BK101.out 1))
    go_ret
    exact ⟨by first | rfl | (simp [errW_none, errW_some] <;> rfl) | (simp [*, errW_none, errW_some] <;> rfl), by repeat (first | (with_reducible first | exact HB.out | apply below_alloc | apply pw_below_drewN | apply below_drew1 | refine below_set ?_ GE101.out) | exact HB.out)⟩
  · rw [if_neg c2] at H
    have c2b0 : decide (a0_0 < 0) = false := decide_eq_false c2
    clear c2
    by_cases c5 : a0_0 > 2147483647
    · rw [if_pos c5] at H
      have c5b0 : decide (2147483647 < a0_0) = true := decide_eq_true c5
      clear c5
      obtain rfl := Option.some.inj H
      go_enter Try.func51, Try.ntmps51
      go_wp2_with (first | ((with_reducible refine gate_dst (N := 1) rfl ?_); refine box_event ?hg (N := 1) ?hd (cs := #[.int .i64 a0_0, .int .i64 a0_1]) (t := 30) ?hr ?_; (case hd => rfl); (case hg => rfl); (case hr => first | (go_simp; done) | (go_simp; rfl)); intro gb101 hg w6 hbox hb; have n0_ := Aside0.mk (below_step (by repeat (first | (with_reducible first | exact HB.out | apply below_alloc | apply pw_below_drewN | apply below_drew1) | exact HB.out)) hb); have n1_ := Aside0.mk (hbox); have n2_ := Aside0.mk ((by rw [hg]; exact (below_size (by repeat (first | (with_reducible first | exact HB.out | apply below_alloc | apply pw_below_drewN | apply below_drew1) | exact HB.out))) : w.heap.size ≤ gb101)); have n3_ := Aside0.mk ((by rw [hg]; exact (below_size (by repeat (first | (with_reducible first | exact HB.out | apply below_alloc | apply pw_below_drewN | apply below_drew1) | exact HB.out))) : w.heap.size ≤ gb101)); clear HB; have HB := n0_; have BK101 := n1_; have GW101 := n2_; have GE101 := n3_; clear n0_ n1_ n2_ n3_; clear hb hbox hg; have hcz7_0 : w6.cell? ⟨gb101, 0, none⟩ = some (.int .i64 a0_0) := (blk_cell BK101.out 0).trans rfl; have hcz7_1 : w6.cell? ⟨gb101, 1, none⟩ = some (.int .i64 a0_1) := (blk_cell BK101.out 1).trans rfl; have hfz7_0 := blk_frozen BK101.out 0; have hfz7_1 := blk_frozen BK101.out 1))
      go_ret
      exact ⟨by first | rfl | (simp [errW_none, errW_some] <;> rfl) | (simp [*, errW_none, errW_some] <;> rfl), by repeat (first | (with_reducible first | exact HB.out | apply below_alloc | apply pw_below_drewN | apply below_drew1 | refine below_set ?_ GE101.out) | exact HB.out)⟩
    · rw [if_neg c5] at H
      have c5b0 : decide (2147483647 < a0_0) = false := decide_eq_false c5
      clear c5
      by_cases c8 : a0_1 < 0
      · rw [if_pos c8] at H
        have c8b0 : decide (a0_1 < 0) = true := decide_eq_true c8
        clear c8
        obtain rfl := Option.some.inj H
        go_enter Try.func51, Try.ntmps51
        go_wp2_with (first | ((with_reducible refine gate_dst (N := 1) rfl ?_); refine box_event ?hg (N := 1) ?hd (cs := #[.int .i64 a0_0, .int .i64 a0_1]) (t := 30) ?hr ?_; (case hd => rfl); (case hg => rfl); (case hr => first | (go_simp; done) | (go_simp; rfl)); intro gb101 hg w9 hbox hb; have n0_ := Aside0.mk (below_step (by repeat (first | (with_reducible first | exact HB.out | apply below_alloc | apply pw_below_drewN | apply below_drew1) | exact HB.out)) hb); have n1_ := Aside0.mk (hbox); have n2_ := Aside0.mk ((by rw [hg]; exact (below_size (by repeat (first | (with_reducible first | exact HB.out | apply below_alloc | apply pw_below_drewN | apply below_drew1) | exact HB.out))) : w.heap.size ≤ gb101)); have n3_ := Aside0.mk ((by rw [hg]; exact (below_size (by repeat (first | (with_reducible first | exact HB.out | apply below_alloc | apply pw_below_drewN | apply below_drew1) | exact HB.out))) : w.heap.size ≤ gb101)); clear HB; have HB := n0_; have BK101 := n1_; have GW101 := n2_; have GE101 := n3_; clear n0_ n1_ n2_ n3_; clear hb hbox hg; have hcz10_0 : w9.cell? ⟨gb101, 0, none⟩ = some (.int .i64 a0_0) := (blk_cell BK101.out 0).trans rfl; have hcz10_1 : w9.cell? ⟨gb101, 1, none⟩ = some (.int .i64 a0_1) := (blk_cell BK101.out 1).trans rfl; have hfz10_0 := blk_frozen BK101.out 0; have hfz10_1 := blk_frozen BK101.out 1))
        go_ret
        exact ⟨by first | rfl | (simp [errW_none, errW_some] <;> rfl) | (simp [*, errW_none, errW_some] <;> rfl), by repeat (first | (with_reducible first | exact HB.out | apply below_alloc | apply pw_below_drewN | apply below_drew1 | refine below_set ?_ GE101.out) | exact HB.out)⟩
      · rw [if_neg c8] at H
        have c8b0 : decide (a0_1 < 0) = false := decide_eq_false c8
        clear c8
        obtain rfl := Option.some.inj H
        go_enter Try.func51, Try.ntmps51
        go_wp2_with (first | ((with_reducible refine gate_dst (N := 1) rfl ?_); refine box_event ?hg (N := 1) ?hd (cs := #[.int .i64 a0_0, .int .i64 a0_1]) (t := 30) ?hr ?_; (case hd => rfl); (case hg => rfl); (case hr => first | (go_simp; done) | (go_simp; rfl)); intro gb101 hg w11 hbox hb; have n0_ := Aside0.mk (below_step (by repeat (first | (with_reducible first | exact HB.out | apply below_alloc | apply pw_below_drewN | apply below_drew1) | exact HB.out)) hb); have n1_ := Aside0.mk (hbox); have n2_ := Aside0.mk ((by rw [hg]; exact (below_size (by repeat (first | (with_reducible first | exact HB.out | apply below_alloc | apply pw_below_drewN | apply below_drew1) | exact HB.out))) : w.heap.size ≤ gb101)); have n3_ := Aside0.mk ((by rw [hg]; exact (below_size (by repeat (first | (with_reducible first | exact HB.out | apply below_alloc | apply pw_below_drewN | apply below_drew1) | exact HB.out))) : w.heap.size ≤ gb101)); clear HB; have HB := n0_; have BK101 := n1_; have GW101 := n2_; have GE101 := n3_; clear n0_ n1_ n2_ n3_; clear hb hbox hg; have hcz12_0 : w11.cell? ⟨gb101, 0, none⟩ = some (.int .i64 a0_0) := (blk_cell BK101.out 0).trans rfl; have hcz12_1 : w11.cell? ⟨gb101, 1, none⟩ = some (.int .i64 a0_1) := (blk_cell BK101.out 1).trans rfl; have hfz12_0 := blk_frozen BK101.out 0; have hfz12_1 := blk_frozen BK101.out 1))
        go_ret
        exact ⟨by first | rfl | (simp [errW_none, errW_some] <;> rfl) | (simp [*, errW_none, errW_some] <;> rfl), by repeat (first | (with_reducible first | exact HB.out | apply below_alloc | apply pw_below_drewN | apply below_drew1 | refine below_set ?_ GE101.out) | exact HB.out)⟩

-- by hand: choicecheck.inc
/-! The loads, plain. -/
theorem below_b {B : Nat} {w0 w w1 : World} (h : Below B w0 w) (k : Below w.heap.size w w1) (hB : B ≤ w.heap.size) : Below B w0 w1 := below_ch h (Ch.of_below k (fun _ => False)) hB (fun _ h => h.elim)
theorem heap30 : Kd.Heap k30 := Kd.heap_iso _ ⟨fun _ h => h⟩
/-- What a call that writes only what is new leaves of a row that came in. -/
theorem C30_below {w w1 : World} {A : Option Addr} {n B : Nat} {xs : List S30} (h : Kd.C k30 w A n xs) (hb : Below B w w1) (hB : w.heap.size ≤ B) : Kd.C k30 w1 A n xs := heap30.C (fun k hk => hb.block k (by omega)) h
def oddB (x : S30) : Bool := decide (x.f0 < 0) || decide (x.f0 > 2147483647) || decide (x.f1 < 0) || decide (x.f1 > 1048576)
theorem odd_f (x : S30) : choice_odd.f x.f0 x.f1 = some (oddB x) := by
  unfold choice_odd.f oddB
  split
  · rename_i h; rw [decide_eq_true h]; rfl
  · rename_i h1
    split
    · rename_i h; rw [decide_eq_true h]; simp
    · rename_i h2
      split
      · rename_i h; rw [decide_eq_true h]; simp
      · rename_i h3
        rw [decide_eq_false h1, decide_eq_false h2, decide_eq_false h3]; rfl
theorem odd.calls (x : S30) (w : World) : Calls Try.prog 51 #[.agg #[.int .i64 x.f0, .int .i64 x.f1]] w fun e w' => e = .returned (.bool (oddB x)) ∧ Below w.heap.size w w' := choice_odd.calls x.f0 x.f1 _ w (odd_f x)
set_option maxHeartbeats 1000000 in
theorem oddIdx.calls (A : Option Addr) (c : Nat) (l : List S30) (w : World) (hr : Kd.C k30 w A l.length l) (hc : l.length ≤ c) :
    Calls Try.prog 65 #[.slice A l.length c, .func (.func 51) #[] #[]] w fun e w' => (∃ i : Int, e = .returned (.int .i64 i) ∧ decide (0 ≤ i) = l.any oddB) ∧ Below w.heap.size w w' := by
  have HR := Aside0.mk hr
  have hlen : l.length ≤ 9223372036854775807 := hr.2.1
  have HB := Aside0.mk (Below.refl w.heap.size w)
  clear hr
  go_enter Try.func65, Try.ntmps65
  go_wp2
  go_loopw [5, 8] (fun v5 v8 W => ∃ i : Int, 0 ≤ i ∧ i ≤ l.length ∧ v8 = .int .i64 i ∧ Aside0 (∀ j, j < i.toNat → oddB (l.getD j z30) = false) ∧ Aside0 (Below w.heap.size w W)) (fun _ v _ => l.length - (intOf v).toNat)
  case atStart => exact ⟨0, by omega, by omega, rfl, ⟨fun j hj => by omega⟩, HB⟩
  case round =>
    clear HB
    obtain ⟨i, h0, hi, rfl, HN, HB⟩ := hrel
    have HRw := Aside0.mk (C30_below HR.out HB.out (Nat.le_refl _))
    by_cases hlt : i < l.length
    · obtain ⟨ad, e1, hx, hy⟩ := at_T30 HRw.out i h0 hlt
      cases e1
      obtain ⟨o, ho⟩ : ∃ o, o = oddB (rd_T30 l i) := ⟨_, rfl⟩
      have HO := Aside0.mk ho
      clear ho
      go_wp2_with (first | (go_at_call 51; refine (odd.calls (rd_T30 l i) _).mono ?_; rintro e w1 ⟨rfl, hb⟩; rw [← HO.out]; have HB1 := Aside0.mk (below_b HB.out hb HB.out.size); clear hb))
      · rename_i ht
        have HT := HO.out
        rw [ht] at HT
        go_ret
        exact ⟨⟨i, rfl, by rw [decide_eq_true h0]; symm; rw [List.any_eq_true]; exact ⟨l.getD i.toNat z30, by rw [List.getD_eq_getElem?_getD, List.getElem?_eq_getElem (by omega)]; exact List.getElem_mem _, HT.symm⟩⟩, HB1.out⟩
      · rename_i hf
        have HF := HO.out
        rw [hf] at HF
        refine ⟨⟨i + 1, by omega, by omega, rfl, ⟨fun j hj => by
          by_cases h : j < i.toNat
          · exact HN.out j h
          · obtain rfl : j = i.toNat := by omega
            exact HF.symm⟩, HB1⟩, ?_⟩
        simp [intOf]; omega
    · go_wp2
      go_ret
      refine ⟨⟨-1, rfl, ?_⟩, HB.out⟩
      symm
      rw [show decide ((0 : Int) ≤ -1) = false from rfl, List.any_eq_false]
      intro x hx
      obtain ⟨j, hj, rfl⟩ := List.getElem_of_mem hx
      have := HN.out j (by omega)
      rw [List.getD_eq_getElem?_getD, List.getElem?_eq_getElem hj] at this
      simpa using this
theorem oddAny.calls (A : Option Addr) (c : Nat) (l : List S30) (w : World) (hr : Kd.C k30 w A l.length l) (hc : l.length ≤ c) :
    Calls Try.prog 38 #[.slice A l.length c, .func (.func 51) #[] #[]] w fun e w' => e = .returned (.bool (l.any oddB)) ∧ Below w.heap.size w w' := by
  go_enter Try.func38, Try.ntmps38
  go_wp2_with (first | (go_at_call 65; refine (oddIdx.calls _ _ _ _ hr hc).mono ?_; rintro e w' ⟨⟨i, rfl, hi⟩, hb⟩; have HI := Lib.hid hi; have HB := Aside0.mk hb; clear hi hb))
  go_ret
  exact ⟨by rw [← HI.out]; rfl, HB.out⟩
/-- No one's number is beneath that of the one ahead of it. -/
def upL : List S30 → Bool
  | a :: b :: t => decide (a.f0 < b.f0) && upL (b :: t)
  | _ => true
def checkL (l : List S30) : Int := if l.length > 32 then 3 else if l.any oddB = true then 4 else if upL l = true then 0 else 6
theorem rd30 (l : List S30) (i : Nat) (h : i < l.length) : rd_T30 l (i : Int) = l[i] := by
  unfold rd_T30
  rw [Int.toNat_natCast, List.getD_eq_getElem?_getD, List.getElem?_eq_getElem h]; rfl
theorem up_step (l : List S30) (i : Nat) (h : i + 1 < l.length) : upL (l.drop i) = (decide ((rd_T30 l (i : Int)).f0 < (rd_T30 l ((i : Int) + 1)).f0) && upL (l.drop (i + 1))) := by
  have h1 : l.drop i = l[i] :: l.drop (i + 1) := List.drop_eq_getElem_cons (by omega)
  have h2 : l.drop (i + 1) = l[i + 1] :: l.drop (i + 1 + 1) := List.drop_eq_getElem_cons h
  rw [rd30 l i (by omega), show (i : Int) + 1 = ((i + 1 : Nat) : Int) by omega, rd30 l (i + 1) h, h1, h2]
  rfl
theorem up_end (l : List S30) (i : Nat) (h : l.length ≤ i + 1) : upL (l.drop i) = true := by
  match hd : l.drop i with
  | [] => rfl
  | [_] => rfl
  | a :: b :: t =>
    have : (l.drop i).length = t.length + 2 := by rw [hd]; simp
    rw [List.length_drop] at this
    omega
set_option maxRecDepth 100000 in
set_option maxHeartbeats 2000000 in
theorem check.calls (A : Option Addr) (c : Nat) (l : List S30) (w : World) (hr : Kd.C k30 w A l.length l) (hc : l.length ≤ c) :
    Calls Try.prog 23 #[.slice A l.length c] w fun e w' => e = .returned (.int .i64 (checkL l)) ∧ Below w.heap.size w w' := by
  unfold checkL
  have HR := Aside0.mk hr
  have hlen : l.length ≤ 9223372036854775807 := hr.2.1
  clear hr
  by_cases h32 : l.length > 32
  · rw [if_pos h32]
    have h32' : (32 : Int) < (l.length : Int) := by omega
    go_enter Try.func23, Try.ntmps23
    go_wp2_with fail
    go_ret
    exact ⟨rfl, Below.refl _ _⟩
  · rw [if_neg h32]
    have h32' : ¬ (32 : Int) < (l.length : Int) := by omega
    obtain ⟨o, ho⟩ : ∃ o, o = l.any oddB := ⟨_, rfl⟩
    rw [← ho]
    have HO := Aside0.mk ho
    clear ho
    cases o
    · rw [if_neg (by decide)]
      have HU : Aside0 ((if upL l = true then (0 : Int) else 6) = if upL (l.drop 0) = true then 0 else 6) := ⟨rfl⟩
      generalize (if upL l = true then (0 : Int) else 6) = g at HU ⊢
      go_enter Try.func23, Try.ntmps23
      go_wp2_with (first | (go_at_call 38; refine (oddAny.calls _ _ _ _ HR.out hc).mono ?_; rintro e w1 ⟨rfl, hb⟩; rw [← HO.out]; have HB := Aside0.mk hb; clear hb) )
      go_loopw [3, 4, 14] (fun v3 v4 v14 W => ∃ i : Nat, i ≤ l.length ∧ v14 = .int .i64 (i : Int) ∧ Aside0 (g = if upL (l.drop (i - 1)) = true then 0 else 6) ∧ Aside0 (Below w.heap.size w W)) (fun _ _ v _ => l.length - (intOf v).toNat)
      case atStart => exact ⟨0, by omega, rfl, HU, HB⟩
      case round =>
        clear HB HU
        obtain ⟨i, hi, rfl, HU, HB⟩ := hrel
        have HRw := Aside0.mk (C30_below HR.out HB.out (Nat.le_refl _))
        by_cases hlt : i < l.length
        · have hltI : (i : Int) < (l.length : Int) := by omega
          obtain ⟨ad, e1, hx, hy⟩ := at_T30 HRw.out (i : Int) (by omega) hltI
          cases e1
          rw [Int.toNat_natCast] at hx hy
          by_cases hz : i = 0
          · subst hz
            have hx0 : wr.cell? (ad.add 0) = _ := hx
            have hy0 : wr.cell? ⟨(ad.add 0).block, (ad.add 0).off + 1, none⟩ = _ := hy
            have hx1 : wr.cell? ad = _ := hx
            have hy1 : wr.cell? ⟨ad.block, ad.off + 1, none⟩ = _ := hy
            go_wp2_with fail
            go_quiet (fail)
            go_wp2_with fail
            exact ⟨⟨1, by omega, rfl, HU, ⟨by repeat (first | exact HB.out | apply below_alloc | apply pw_below_drewN | apply below_drew1)⟩⟩, by simp [intOf]; omega⟩
          · obtain ⟨j, rfl⟩ : ∃ j, i = j + 1 := ⟨i - 1, by omega⟩
            have hjI : (j : Int) < (l.length : Int) := by omega
            obtain ⟨ad2, e2, hu, hv⟩ := at_T30 HRw.out (j : Int) (by omega) hjI
            cases e2
            rw [Int.toNat_natCast] at hu
            have hs := up_step l j (by omega)
            rw [show (j : Int) + 1 = ((j + 1 : Nat) : Int) by omega] at hs
            have HS := Aside0.mk hs
            clear hs hv
            obtain ⟨x, hxe⟩ : ∃ x, x = rd_T30 l ((j + 1 : Nat) : Int) := ⟨_, rfl⟩
            obtain ⟨y, hye⟩ : ∃ y, y = rd_T30 l (j : Int) := ⟨_, rfl⟩
            rw [← hxe] at hx hy HS
            rw [← hye] at hu HS
            clear hxe hye
            have hu2 := (Ch.alloc (Ch.refl (fun _ => False) wr) (.cells #[.int .i64 x.f0, .int .i64 x.f1] 30 (0, 0))).cell hu (fun h => h)
            have hpos : (0 : Int) < ((j + 1 : Nat) : Int) := by omega
            have hsub : wrap64 (((j + 1 : Nat) : Int) - 1) = (j : Int) := by unfold wrap64; omega
            by_cases hle : x.f0 ≤ y.f0
            · obtain rfl : g = 6 := by
                rw [HU.out, show j + 1 - 1 = j from rfl, HS.out, decide_eq_false (by omega)]; rfl
              go_wp2_with fail
              go_quiet (fail)
              go_wp2_with fail
              go_ret
              exact ⟨rfl, by repeat (first | exact HB.out | apply below_alloc | apply pw_below_drewN | apply below_drew1)⟩
            · have HU2 : Aside0 (g = if upL (l.drop (j + 1 + 1 - 1)) = true then 0 else 6) := ⟨by
                rw [HU.out, show j + 1 - 1 = j from rfl, HS.out, decide_eq_true (by omega), Bool.true_and]; rfl⟩
              go_wp2_with fail
              go_quiet (fail)
              go_wp2_with fail
              exact ⟨⟨j + 1 + 1, by omega, rfl, HU2, ⟨by repeat (first | exact HB.out | apply below_alloc | apply pw_below_drewN | apply below_drew1)⟩⟩, by simp [intOf]; omega⟩
        · obtain rfl : i = l.length := by omega
          obtain rfl : g = 0 := by rw [HU.out, up_end l _ (by omega), if_pos rfl]
          go_wp2_with fail
          go_ret
          exact ⟨rfl, HB.out⟩
    · rw [if_pos rfl]
      go_enter Try.func23, Try.ntmps23
      go_wp2_with (first | (go_at_call 38; refine (oddAny.calls _ _ _ _ HR.out hc).mono ?_; rintro e w1 ⟨rfl, hb⟩; rw [← HO.out]; have HB := Aside0.mk hb; clear hb) )
      go_ret
      exact ⟨rfl, HB.out⟩
def choice_Check.f (l0 : List S30) : Option Int := some (checkL l0)
theorem choice_Check.calls (A0 : Option Addr) (c0 : Nat) (l0 : List S30) (r : Int) (w : World) (hr0 : Kd.C k30 w A0 l0.length l0) (hc0 : l0.length ≤ c0) (h : choice_Check.f l0 = some r) :
    Calls Try.prog 23 #[.slice A0 l0.length c0] w fun e w' => e = .returned (.int .i64 r) ∧ Below w.heap.size w w' := by
  refine (check.calls A0 c0 l0 w hr0 hc0).mono ?_
  rintro e w1 ⟨rfl, hb⟩
  rw [Option.some.inj h]
  exact ⟨rfl, hb⟩

/-! ### cmp_isNaN_int: function 82 -/
def cmp_isNaN_int.f (a0 : Int) : Option (Bool) := some (a0 != a0)
set_option maxHeartbeats 8000000 in
set_option maxRecDepth 100000 in
theorem cmp_isNaN_int.calls (a0 : Int) (r : Bool) (w : World) (h : cmp_isNaN_int.f a0 = some r) :
    Calls Try.prog 82 #[.int .i64 a0] w fun e w' => e = .returned (.bool r) ∧ Drawn0 w w' := by
  have H : (some (a0 != a0)) = some r := h
  clear h
  obtain rfl := Option.some.inj H
  go_enter Try.func82, Try.ntmps82
  go_wp2
  go_ret
  exact ⟨by first | rfl | (simp; done) | (simp [*]; done), by repeat (first | exact Drawn0.refl _ | apply Drawn0.step)⟩

/-! ### cmp_Compare_int: function 63 -/
def cmp_Compare_int.f (a0 : Int) (a1 : Int) : Option (Int) := (cmp_isNaN_int.f a0).bind fun t102 => ((cmp_isNaN_int.f a1).bind fun t103 => (if t102 = true then (if t103 = true then (some 0) else (some (-1))) else (if t103 = true then (some 1) else (if a0 < a1 then (some (-1)) else (if a0 > a1 then (some 1) else (some 0))))))
set_option maxHeartbeats 8000000 in
set_option maxRecDepth 100000 in
theorem cmp_Compare_int.calls (a0 : Int) (a1 : Int) (r : Int) (w : World) (h : cmp_Compare_int.f a0 a1 = some r) :
    Calls Try.prog 63 #[.int .i64 a0, .int .i64 a1] w fun e w' => e = .returned (.int .i64 r) ∧ Drawn0 w w' := by
  have H : ((cmp_isNaN_int.f a0).bind fun t102 => ((cmp_isNaN_int.f a1).bind fun t103 => (if t102 = true then (if t103 = true then (some 0) else (some (-1))) else (if t103 = true then (some 1) else (if a0 < a1 then (some (-1)) else (if a0 > a1 then (some 1) else (some 0))))))) = some r := h
  clear h
  replace H := Option.bind_eq_some_iff.mp H
  obtain ⟨t102, A30, H⟩ := H
  replace H : ((cmp_isNaN_int.f a1).bind fun t103 => (if t102 = true then (if t103 = true then (some 0) else (some (-1))) else (if t103 = true then (some 1) else (if a0 < a1 then (some (-1)) else (if a0 > a1 then (some 1) else (some 0)))))) = some r := H
  have A3 := Aside0.mk A30
  clear A30
  replace H := Option.bind_eq_some_iff.mp H
  obtain ⟨t103, A40, H⟩ := H
  replace H : (if t102 = true then (if t103 = true then (some 0) else (some (-1))) else (if t103 = true then (some 1) else (if a0 < a1 then (some (-1)) else (if a0 > a1 then (some 1) else (some 0))))) = some r := H
  have A4 := Aside0.mk A40
  clear A40
  by_cases c5 : t102 = true
  · subst c5
    have H1 : (if t103 = true then (some 0) else (some (-1))) = some r := by rw [if_pos rfl] at H; exact H
    clear H
    have H := H1
    clear H1
    by_cases c6 : t103 = true
    · subst c6
      have H1 : (some 0) = some r := by rw [if_pos rfl] at H; exact H
      clear H
      have H := H1
      clear H1
      obtain rfl := Option.some.inj H
      go_enter Try.func63, Try.ntmps63
      go_wp2_with (first | ((with_reducible refine gate_callee (f := 82) rfl ?_); refine goesL_ (some 8) rfl rfl Try.func82 (by kernel_rfl) rfl #[.int .i64 a0] rfl (by (try simp only [List.map_toArray, List.map_cons, List.map_nil]); first | done | rfl | (simp only [List.length_drop, List.length_take]; rfl)) ?_; (with_reducible refine (cmp_isNaN_int.calls a0 true _ A3.out).mono ?_); rintro e w' ⟨rfl, ⟨nd, rfl⟩⟩; refine ⟨_, rfl, ?_⟩) | ((with_reducible refine gate_callee (f := 82) rfl ?_); refine goesL_ (some 10) rfl rfl Try.func82 (by kernel_rfl) rfl #[.int .i64 a1] rfl (by (try simp only [List.map_toArray, List.map_cons, List.map_nil]); first | done | rfl | (simp only [List.length_drop, List.length_take]; rfl)) ?_; (with_reducible refine (cmp_isNaN_int.calls a1 true _ A4.out).mono ?_); rintro e w' ⟨rfl, ⟨nd, rfl⟩⟩; refine ⟨_, rfl, ?_⟩))
      go_ret
      exact ⟨by first | rfl | (simp; done) | (simp [*]; done), by repeat (first | exact Drawn0.refl _ | apply Drawn0.step)⟩
    · replace c6 := Bool.eq_false_iff.mpr c6
      subst c6
      have H1 : (some (-1)) = some r := by rw [if_neg (show ¬ (false = true) by decide)] at H; exact H
      clear H
      have H := H1
      clear H1
      obtain rfl := Option.some.inj H
      go_enter Try.func63, Try.ntmps63
      go_wp2_with (first | ((with_reducible refine gate_callee (f := 82) rfl ?_); refine goesL_ (some 8) rfl rfl Try.func82 (by kernel_rfl) rfl #[.int .i64 a0] rfl (by (try simp only [List.map_toArray, List.map_cons, List.map_nil]); first | done | rfl | (simp only [List.length_drop, List.length_take]; rfl)) ?_; (with_reducible refine (cmp_isNaN_int.calls a0 true _ A3.out).mono ?_); rintro e w' ⟨rfl, ⟨nd, rfl⟩⟩; refine ⟨_, rfl, ?_⟩) | ((with_reducible refine gate_callee (f := 82) rfl ?_); refine goesL_ (some 10) rfl rfl Try.func82 (by kernel_rfl) rfl #[.int .i64 a1] rfl (by (try simp only [List.map_toArray, List.map_cons, List.map_nil]); first | done | rfl | (simp only [List.length_drop, List.length_take]; rfl)) ?_; (with_reducible refine (cmp_isNaN_int.calls a1 false _ A4.out).mono ?_); rintro e w' ⟨rfl, ⟨nd, rfl⟩⟩; refine ⟨_, rfl, ?_⟩))
      go_ret
      exact ⟨by first | rfl | (simp; done) | (simp [*]; done), by repeat (first | exact Drawn0.refl _ | apply Drawn0.step)⟩
  · replace c5 := Bool.eq_false_iff.mpr c5
    subst c5
    have H1 : (if t103 = true then (some 1) else (if a0 < a1 then (some (-1)) else (if a0 > a1 then (some 1) else (some 0)))) = some r := by rw [if_neg (show ¬ (false = true) by decide)] at H; exact H
    clear H
    have H := H1
    clear H1
    by_cases c7 : t103 = true
    · subst c7
      have H1 : (some 1) = some r := by rw [if_pos rfl] at H; exact H
      clear H
      have H := H1
      clear H1
      obtain rfl := Option.some.inj H
      go_enter Try.func63, Try.ntmps63
      go_wp2_with (first | ((with_reducible refine gate_callee (f := 82) rfl ?_); refine goesL_ (some 8) rfl rfl Try.func82 (by kernel_rfl) rfl #[.int .i64 a0] rfl (by (try simp only [List.map_toArray, List.map_cons, List.map_nil]); first | done | rfl | (simp only [List.length_drop, List.length_take]; rfl)) ?_; (with_reducible refine (cmp_isNaN_int.calls a0 false _ A3.out).mono ?_); rintro e w' ⟨rfl, ⟨nd, rfl⟩⟩; refine ⟨_, rfl, ?_⟩) | ((with_reducible refine gate_callee (f := 82) rfl ?_); refine goesL_ (some 10) rfl rfl Try.func82 (by kernel_rfl) rfl #[.int .i64 a1] rfl (by (try simp only [List.map_toArray, List.map_cons, List.map_nil]); first | done | rfl | (simp only [List.length_drop, List.length_take]; rfl)) ?_; (with_reducible refine (cmp_isNaN_int.calls a1 true _ A4.out).mono ?_); rintro e w' ⟨rfl, ⟨nd, rfl⟩⟩; refine ⟨_, rfl, ?_⟩))
      go_ret
      exact ⟨by first | rfl | (simp; done) | (simp [*]; done), by repeat (first | exact Drawn0.refl _ | apply Drawn0.step)⟩
    · replace c7 := Bool.eq_false_iff.mpr c7
      subst c7
      have H1 : (if a0 < a1 then (some (-1)) else (if a0 > a1 then (some 1) else (some 0))) = some r := by rw [if_neg (show ¬ (false = true) by decide)] at H; exact H
      clear H
      have H := H1
      clear H1
      by_cases c8 : a0 < a1
      · rw [if_pos c8] at H
        have c8b0 : decide (a0 < a1) = true := decide_eq_true c8
        clear c8
        obtain rfl := Option.some.inj H
        go_enter Try.func63, Try.ntmps63
        go_wp2_with (first | ((with_reducible refine gate_callee (f := 82) rfl ?_); refine goesL_ (some 8) rfl rfl Try.func82 (by kernel_rfl) rfl #[.int .i64 a0] rfl (by (try simp only [List.map_toArray, List.map_cons, List.map_nil]); first | done | rfl | (simp only [List.length_drop, List.length_take]; rfl)) ?_; (with_reducible refine (cmp_isNaN_int.calls a0 false _ A3.out).mono ?_); rintro e w' ⟨rfl, ⟨nd, rfl⟩⟩; refine ⟨_, rfl, ?_⟩) | ((with_reducible refine gate_callee (f := 82) rfl ?_); refine goesL_ (some 10) rfl rfl Try.func82 (by kernel_rfl) rfl #[.int .i64 a1] rfl (by (try simp only [List.map_toArray, List.map_cons, List.map_nil]); first | done | rfl | (simp only [List.length_drop, List.length_take]; rfl)) ?_; (with_reducible refine (cmp_isNaN_int.calls a1 false _ A4.out).mono ?_); rintro e w' ⟨rfl, ⟨nd, rfl⟩⟩; refine ⟨_, rfl, ?_⟩))
        go_ret
        exact ⟨by first | rfl | (simp; done) | (simp [*]; done), by repeat (first | exact Drawn0.refl _ | apply Drawn0.step)⟩
      · rw [if_neg c8] at H
        have c8b0 : decide (a0 < a1) = false := decide_eq_false c8
        clear c8
        by_cases c9 : a0 > a1
        · rw [if_pos c9] at H
          have c9b0 : decide (a1 < a0) = true := decide_eq_true c9
          clear c9
          obtain rfl := Option.some.inj H
          go_enter Try.func63, Try.ntmps63
          go_wp2_with (first | ((with_reducible refine gate_callee (f := 82) rfl ?_); refine goesL_ (some 8) rfl rfl Try.func82 (by kernel_rfl) rfl #[.int .i64 a0] rfl (by (try simp only [List.map_toArray, List.map_cons, List.map_nil]); first | done | rfl | (simp only [List.length_drop, List.length_take]; rfl)) ?_; (with_reducible refine (cmp_isNaN_int.calls a0 false _ A3.out).mono ?_); rintro e w' ⟨rfl, ⟨nd, rfl⟩⟩; refine ⟨_, rfl, ?_⟩) | ((with_reducible refine gate_callee (f := 82) rfl ?_); refine goesL_ (some 10) rfl rfl Try.func82 (by kernel_rfl) rfl #[.int .i64 a1] rfl (by (try simp only [List.map_toArray, List.map_cons, List.map_nil]); first | done | rfl | (simp only [List.length_drop, List.length_take]; rfl)) ?_; (with_reducible refine (cmp_isNaN_int.calls a1 false _ A4.out).mono ?_); rintro e w' ⟨rfl, ⟨nd, rfl⟩⟩; refine ⟨_, rfl, ?_⟩))
          go_ret
          exact ⟨by first | rfl | (simp; done) | (simp [*]; done), by repeat (first | exact Drawn0.refl _ | apply Drawn0.step)⟩
        · rw [if_neg c9] at H
          have c9b0 : decide (a1 < a0) = false := decide_eq_false c9
          clear c9
          obtain rfl := Option.some.inj H
          go_enter Try.func63, Try.ntmps63
          go_wp2_with (first | ((with_reducible refine gate_callee (f := 82) rfl ?_); refine goesL_ (some 8) rfl rfl Try.func82 (by kernel_rfl) rfl #[.int .i64 a0] rfl (by (try simp only [List.map_toArray, List.map_cons, List.map_nil]); first | done | rfl | (simp only [List.length_drop, List.length_take]; rfl)) ?_; (with_reducible refine (cmp_isNaN_int.calls a0 false _ A3.out).mono ?_); rintro e w' ⟨rfl, ⟨nd, rfl⟩⟩; refine ⟨_, rfl, ?_⟩) | ((with_reducible refine gate_callee (f := 82) rfl ?_); refine goesL_ (some 10) rfl rfl Try.func82 (by kernel_rfl) rfl #[.int .i64 a1] rfl (by (try simp only [List.map_toArray, List.map_cons, List.map_nil]); first | done | rfl | (simp only [List.length_drop, List.length_take]; rfl)) ?_; (with_reducible refine (cmp_isNaN_int.calls a1 false _ A4.out).mono ?_); rintro e w' ⟨rfl, ⟨nd, rfl⟩⟩; refine ⟨_, rfl, ?_⟩))
          go_ret
          exact ⟨by first | rfl | (simp; done) | (simp [*]; done), by repeat (first | exact Drawn0.refl _ | apply Drawn0.step)⟩

/-! ### choice_less: function 36 -/
def choice_less.f (a0_0 : Int) (a0_1 : Int) (a1_0 : Int) (a1_1 : Int) : Option (Int) := (cmp_Compare_int.f a0_1 a1_1).bind fun t106 => (some t106)
set_option maxHeartbeats 8000000 in
set_option maxRecDepth 100000 in
theorem choice_less.calls (a0_0 : Int) (a0_1 : Int) (a1_0 : Int) (a1_1 : Int) (r : Int) (w : World) (h : choice_less.f a0_0 a0_1 a1_0 a1_1 = some r) :
    Calls Try.prog 36 #[.agg #[.int .i64 a0_0, .int .i64 a0_1], .agg #[.int .i64 a1_0, .int .i64 a1_1]] w fun e w' => e = .returned (.int .i64 r) ∧ Below w.heap.size w w' := by
  have hu30 := Try.underlying30
  have HB := Aside0.mk (Below.refl w.heap.size w)
  have H : ((cmp_Compare_int.f a0_1 a1_1).bind fun t106 => (some t106)) = some r := h
  clear h
  replace H := Option.bind_eq_some_iff.mp H
  obtain ⟨t106, A30, H⟩ := H
  replace H : (some t106) = some r := H
  have A3 := Aside0.mk A30
  clear A30
  obtain rfl := Option.some.inj H
  go_enter Try.func36, Try.ntmps36
  go_wp2_with (first | ((with_reducible refine gate_dst (N := 2) rfl ?_); refine box_event ?hg (N := 2) ?hd (cs := #[.int .i64 a0_0, .int .i64 a0_1]) (t := 30) ?hr ?_; (case hd => rfl); (case hg => rfl); (case hr => first | (go_simp; done) | (go_simp; rfl)); intro gb104 hg w4 hbox hb; have n0_ := Aside0.mk (below_step (by repeat (first | (with_reducible first | exact HB.out | apply below_alloc | apply pw_below_drewN | apply below_drew1) | exact HB.out)) hb); have n1_ := Aside0.mk (hbox); have n2_ := Aside0.mk ((by rw [hg]; exact (below_size (by repeat (first | (with_reducible first | exact HB.out | apply below_alloc | apply pw_below_drewN | apply below_drew1) | exact HB.out))) : w.heap.size ≤ gb104)); have n3_ := Aside0.mk ((by rw [hg]; exact (below_size (by repeat (first | (with_reducible first | exact HB.out | apply below_alloc | apply pw_below_drewN | apply below_drew1) | exact HB.out))) : w.heap.size ≤ gb104)); clear HB; have HB := n0_; have BK104 := n1_; have GW104 := n2_; have GE104 := n3_; clear n0_ n1_ n2_ n3_; clear hb hbox hg) | ((with_reducible refine gate_dst (N := 3) rfl ?_); refine box_event ?hg (N := 3) ?hd (cs := #[.int .i64 a1_0, .int .i64 a1_1]) (t := 30) ?hr ?_; (case hd => rfl); (case hg => rfl); (case hr => first | (go_simp; done) | (go_simp; rfl)); intro gb105 hg w5 hbox hb; have n0_ := Aside0.mk (blk_below (g := gb104) (o := .cells #[.int .i64 a0_0, .int .i64 a0_1] 30 (0, 0)) (by (with_reducible repeat (first | refine blk_drewN ?_ _ | refine blk_drew ?_ | refine blk_alloc ?_ _)); exact BK104.out) hb); have n1_ := Aside0.mk (below_step (by repeat (first | (with_reducible first | exact HB.out | apply below_alloc | apply pw_below_drewN | apply below_drew1 | refine below_set ?_ GE104.out) | exact HB.out)) hb); have n2_ := Aside0.mk (hbox); have n3_ := Aside0.mk ((by rw [hg]; exact (below_size (by repeat (first | (with_reducible first | exact HB.out | apply below_alloc | apply pw_below_drewN | apply below_drew1 | refine below_set ?_ GE104.out) | exact HB.out))) : w.heap.size ≤ gb105)); have n4_ := Aside0.mk ((by rw [hg]; exact (below_size (by repeat (first | (with_reducible first | exact HB.out | apply below_alloc | apply pw_below_drewN | apply below_drew1 | refine below_set ?_ GE104.out) | exact HB.out))) : w.heap.size ≤ gb105)); have n5_ := Aside0.mk ((by rw [hg]; exact Nat.ne_of_lt (blk_lt (g := gb104) (o := .cells #[.int .i64 a0_0, .int .i64 a0_1] 30 (0, 0)) (by (with_reducible repeat (first | refine blk_drewN ?_ _ | refine blk_drew ?_ | refine blk_alloc ?_ _)); exact BK104.out)) : gb104 ≠ gb105)); have n6_ := Aside0.mk ((by rw [hg]; exact Nat.ne_of_gt (blk_lt (g := gb104) (o := .cells #[.int .i64 a0_0, .int .i64 a0_1] 30 (0, 0)) (by (with_reducible repeat (first | refine blk_drewN ?_ _ | refine blk_drew ?_ | refine blk_alloc ?_ _)); exact BK104.out)) : gb105 ≠ gb104)); clear BK104; clear HB; have BK104 := n0_; have HB := n1_; have BK105 := n2_; have GW105 := n3_; have GE105 := n4_; have NB104_105 := n5_; have NB105_104 := n6_; clear n0_ n1_ n2_ n3_ n4_ n5_ n6_; clear hb hbox hg; have hnb6 := NB104_105.out; have hnc6 := NB105_104.out; have hcz7_0 : w5.cell? ⟨gb104, 0, none⟩ = some (.int .i64 a0_0) := (blk_cell BK104.out 0).trans rfl; have hcz7_1 : w5.cell? ⟨gb104, 1, none⟩ = some (.int .i64 a0_1) := (blk_cell BK104.out 1).trans rfl; have hfz7_0 := blk_frozen BK104.out 0; have hfz7_1 := blk_frozen BK104.out 1; have hcz8_0 : w5.cell? ⟨gb105, 0, none⟩ = some (.int .i64 a1_0) := (blk_cell BK105.out 0).trans rfl; have hcz8_1 : w5.cell? ⟨gb105, 1, none⟩ = some (.int .i64 a1_1) := (blk_cell BK105.out 1).trans rfl; have hfz8_0 := blk_frozen BK105.out 0; have hfz8_1 := blk_frozen BK105.out 1) | ((with_reducible refine gate_callee (f := 63) rfl ?_); refine goesL_ (some 9) rfl rfl Try.func63 (by kernel_rfl) rfl #[.int .i64 a0_1, .int .i64 a1_1] rfl (by (try simp only [List.map_toArray, List.map_cons, List.map_nil]); first | done | rfl | (simp only [List.length_drop, List.length_take]; rfl)) ?_; (with_reducible refine (cmp_Compare_int.calls a0_1 a1_1 t106 _ A3.out).mono ?_); rintro e w' ⟨rfl, ⟨nd, rfl⟩⟩; refine ⟨_, rfl, ?_⟩))
  go_ret
  exact ⟨by first | rfl | (simp [errW_none, errW_some] <;> rfl) | (simp [*, errW_none, errW_some] <;> rfl), by repeat (first | (with_reducible first | exact HB.out | apply below_alloc | apply pw_below_drewN | apply below_drew1 | refine below_set ?_ GE104.out | refine below_set ?_ GE105.out) | exact HB.out)⟩

-- by hand: choiceleast.inc
theorem new_at (w : World) (o : Obj) : (w.alloc o).heap[w.heap.size]? = some o := Array.getElem?_push_size
theorem new_at' (w : World) (o o2 : Obj) : ((w.alloc o).alloc o2).heap[w.heap.size + 1]? = some o2 := by
  have := new_at (w.alloc o) o2
  rwa [show (w.alloc o).heap.size = w.heap.size + 1 from Array.size_push _] at this
def askL (l : List S30) : Int := if checkL l = 0 then (if l.length = 0 then 71 else 0) else checkL l
set_option maxRecDepth 100000 in
set_option maxHeartbeats 2000000 in
theorem ask.calls (A : Option Addr) (c : Nat) (l : List S30) (w : World) (hr : Kd.C k30 w A l.length l) (hc : l.length ≤ c) :
    Calls Try.prog 34 #[.slice A l.length c] w fun e w' => e = .returned (.int .i64 (askL l)) ∧ Below w.heap.size w w' := by
  have HR := Aside0.mk hr
  unfold askL
  obtain ⟨k, hk⟩ : ∃ k, k = checkL l := ⟨_, rfl⟩
  have HK := Aside0.mk hk
  rw [← hk]
  clear hr hk
  by_cases h0 : k = 0
  · subst h0
    rw [if_pos rfl]
    by_cases hl : l.length = 0
    · rw [if_pos hl]
      have HLI : Aside0 ((l.length : Int) = 0) := ⟨by omega⟩
      clear hl
      go_enter Try.func34, Try.ntmps34
      go_wp2_with (first | (go_at_call 23; refine (check.calls _ _ _ _ HR.out hc).mono ?_; rintro e w1 ⟨rfl, hb⟩; rw [← HK.out]; have HB := Aside0.mk hb; have hlI := HLI.out; clear hb))
      go_ret
      exact ⟨rfl, HB.out⟩
    · rw [if_neg hl]
      have HLI : Aside0 (¬ (l.length : Int) = 0) := ⟨by omega⟩
      clear hl
      go_enter Try.func34, Try.ntmps34
      go_wp2_with (first | (go_at_call 23; refine (check.calls _ _ _ _ HR.out hc).mono ?_; rintro e w1 ⟨rfl, hb⟩; rw [← HK.out]; have HB := Aside0.mk hb; have hlI := HLI.out; clear hb))
      go_ret
      exact ⟨rfl, HB.out⟩
  · rw [if_neg h0]
    go_enter Try.func34, Try.ntmps34
    go_wp2_with (first | (go_at_call 23; refine (check.calls _ _ _ _ HR.out hc).mono ?_; rintro e w1 ⟨rfl, hb⟩; rw [← HK.out]; have HB := Aside0.mk hb; clear hb))
    go_ret
    exact ⟨rfl, HB.out⟩
def lessI (x m : S30) : Int := if x.f1 < m.f1 then -1 else if x.f1 > m.f1 then 1 else 0
theorem less_f (x m : S30) : choice_less.f x.f0 x.f1 m.f0 m.f1 = some (lessI x m) := by
  unfold choice_less.f cmp_Compare_int.f cmp_isNaN_int.f lessI
  simp only [Option.bind_some, ne_eq, not_true, decide_false, bne_self_eq_false, Bool.false_eq_true, if_false]
  split
  · rfl
  · split <;> rfl
/-- The first of those that none is beneath, behind m. -/
def minS (m : S30) : List S30 → S30
  | [] => m
  | x :: t => minS (if x.f1 < m.f1 then x else m) t
theorem min_step (l : List S30) (i : Nat) (h : i < l.length) (m : S30) : minS m (l.drop i) = minS (if (rd_T30 l (i : Int)).f1 < m.f1 then rd_T30 l (i : Int) else m) (l.drop (i + 1)) := by
  rw [List.drop_eq_getElem_cons h, rd30 l i h]; rfl
set_option maxRecDepth 100000 in
set_option maxHeartbeats 2000000 in
theorem min.calls (A : Option Addr) (c : Nat) (l : List S30) (w : World) (hr : Kd.C k30 w A l.length l) (hc : l.length ≤ c) (hl : 0 < l.length) :
    Calls Try.prog 35 #[.slice A l.length c, .func (.func 36) #[] #[]] w fun e w' => e = .returned (.agg #[.int .i64 (minS (rd_T30 l 0) (l.drop 1)).f0, .int .i64 (minS (rd_T30 l 0) (l.drop 1)).f1]) ∧ Below w.heap.size w w' := by
  have HR := Aside0.mk hr
  have hlen : l.length ≤ 9223372036854775807 := hr.2.1
  obtain ⟨g, hg⟩ : ∃ g, g = minS (rd_T30 l 0) (l.drop 1) := ⟨_, rfl⟩
  rw [← hg]
  have HG : Aside0 (g = minS (rd_T30 l 0) (l.drop 1)) := ⟨hg⟩
  obtain ⟨ad, e1, hx, hy⟩ := at_T30 hr (0 : Int) (by omega) (by omega)
  cases e1
  have hx0 : w.cell? (ad.add 0) = _ := hx
  have hy0 : w.cell? ⟨(ad.add 0).block, (ad.add 0).off + 1, none⟩ = _ := hy
  have hx1 : w.cell? ad = _ := hx
  have hy1 : w.cell? ⟨ad.block, ad.off + 1, none⟩ = _ := hy
  obtain ⟨m0, hm0⟩ : ∃ m, m = rd_T30 l 0 := ⟨_, rfl⟩
  rw [← hm0] at hx0 hy0 hx1 hy1 HG
  have ha1 := (Ch.alloc (Ch.refl (fun _ => False) w) (.cells #[.int .i64 0, .int .i64 0] 30 (0, 0))).cell hx1 (fun h => h)
  have ha2 := (Ch.alloc (Ch.refl (fun _ => False) w) (.cells #[.int .i64 0, .int .i64 0] 30 (0, 0))).cell hy1 (fun h => h)
  clear hr hg hx hy hm0
  have h1 : ¬ (l.length : Int) < 1 := by omega
  have h00 : (0 : Int) < (l.length : Int) := by omega
  go_enter Try.func35, Try.ntmps35
  go_wp2_with fail
  clear hx0 hy0 hx1 hy1 ha1 ha2
  go_loopw [6] (fun v6 W => ∃ (i : Nat) (m : S30), 1 ≤ i ∧ i ≤ l.length ∧ v6 = .int .i64 (i : Int) ∧ Aside0 (g = minS m (l.drop i)) ∧ Aside0 (W.heap[w.heap.size]? = some (.cells #[.int .i64 0, .int .i64 0] 30 (0, 0))) ∧ Aside0 (W.heap[w.heap.size + 1]? = some (.cells #[.int .i64 m.f0, .int .i64 m.f1] 30 (0, 0))) ∧ Aside0 (Below w.heap.size w W)) (fun v _ => l.length - (intOf v).toNat)
  case atStart => exact ⟨1, m0, by omega, by omega, rfl, HG, ⟨(Ch.alloc (Ch.refl (fun _ => False) _) _).heap (new_at w _) (fun h => h)⟩, ⟨new_at' w _ _⟩, ⟨below_alloc (below_alloc (Below.refl _ _) _) _⟩⟩
  case round =>
    clear HG
    obtain ⟨i, m, hi1, hi, rfl, HG, HA, HM, HB⟩ := hrel
    have hm0 := zcell HM.out 0 _ rfl
    have hm1 := zcell HM.out 1 _ rfl
    have hf0 := zfree HM.out 0
    have hf1 := zfree HM.out 1
    by_cases hlt : i < l.length
    · have hltI : (i : Int) < (l.length : Int) := by omega
      obtain ⟨ad3, e3, hx, hy⟩ := at_T30 (C30_below HR.out HB.out (Nat.le_refl _)) (i : Int) (by omega) hltI
      cases e3
      rw [Int.toNat_natCast] at hx hy
      have hs := min_step l i hlt m
      obtain ⟨x, hxe⟩ : ∃ x, x = rd_T30 l (i : Int) := ⟨_, rfl⟩
      rw [← hxe] at hx hy hs
      have HS := Aside0.mk hs
      clear hs hxe
      go_wp2_with fail
      go_region_with (go_at_call 36; refine (choice_less.calls x.f0 x.f1 m.f0 m.f1 _ _ (less_f x m)).mono ?_; rintro e w1 ⟨rfl, hb⟩; have HB1 := Aside0.mk (below_b (B := w.heap.size) (w0 := w) (by first | exact HB.out | exact below_drew1 HB.out) hb HB.out.size); have HC1 : Aside0 (Ch (fun _ => False) wr w1) := ⟨by first | exact Ch.of_below hb _ | exact ((Ch.refl _ wr).drew).thenB hb⟩; clear hb)
      all_goals
        have hA1 := HC1.out.heap HA.out (fun h => h)
        have hM1 := HC1.out.heap HM.out (fun h => h)
        have hm0 := zcell hM1 0 _ rfl
        have hm1 := zcell hM1 1 _ rfl
        have hf0 := zfree hM1 0
        have hf1 := zfree hM1 1
        have hx1 := HC1.out.cell hx (fun h => h)
        have hy1 := HC1.out.cell hy (fun h => h)
        have HA1 := Aside0.mk hA1
        have HM1 := Aside0.mk hM1
        clear hA1 hM1 hx hy HA HM HB
        by_cases hlt2 : x.f1 < m.f1
        · have hle : lessI x m = -1 := by unfold lessI; rw [if_pos hlt2]
          rw [if_pos hlt2] at HS
          rw [hle]
          go_wp2_with fail
          have hne : ¬ (w.heap.size = w.heap.size + 1) := by omega
          have hS1 := zset (zset HM1.out 0 (.int .i64 x.f0)) 1 (.int .i64 x.f1)
          have hA2 := ((Ch.refl (fun k => k = w.heap.size + 1) w1).set (p := ⟨w.heap.size + 1, 0, none⟩) (.inl rfl) (.int .i64 x.f0) |>.set (p := ⟨w.heap.size + 1, 1, none⟩) (.inl rfl) (.int .i64 x.f1)).heap HA1.out hne
          have hB2 := below_ch HB1.out ((Ch.refl (fun k => k = w.heap.size + 1) w1).set (p := ⟨w.heap.size + 1, 0, none⟩) (.inl rfl) (.int .i64 x.f0) |>.set (p := ⟨w.heap.size + 1, 1, none⟩) (.inl rfl) (.int .i64 x.f1)) HB1.out.size (fun k h => by omega)
          exact ⟨⟨i + 1, x, by omega, by omega, by simp, ⟨HG.out.trans HS.out⟩, ⟨hA2⟩, ⟨hS1⟩, ⟨hB2⟩⟩, by simp [intOf]; omega⟩
        · have hle : lessI x m = 0 ∨ lessI x m = 1 := by unfold lessI; rw [if_neg hlt2]; split <;> simp
          rw [if_neg hlt2] at HS
          obtain ⟨z, hz⟩ : ∃ z, z = lessI x m := ⟨_, rfl⟩
          rw [← hz] at hle ⊢
          have hz0 : ¬ z < 0 := by omega
          clear hz hle
          go_wp2_with fail
          exact ⟨⟨i + 1, m, by omega, by omega, by simp, ⟨HG.out.trans HS.out⟩, HA1, HM1, HB1⟩, by simp [intOf]; omega⟩
    · obtain rfl : i = l.length := by omega
      have hgm : g = m := by rw [HG.out, List.drop_eq_nil_of_le (Nat.le_refl _)]; rfl
      subst hgm
      have hn0 := zcell HA.out 0 _ rfl
      have hn1 := zcell HA.out 1 _ rfl
      have hq0 := zfree HA.out 0
      have hq1 := zfree HA.out 1
      go_wp2_with fail
      have hS1 := zset (zset HA.out 0 (.int .i64 g.f0)) 1 (.int .i64 g.f1)
      have y0 := zcell hS1 0 (.int .i64 g.f0) rfl
      have y1 := zcell hS1 1 (.int .i64 g.f1) rfl
      have hB2 := below_ch HB.out ((Ch.refl (fun k => k = w.heap.size) wr).set (p := ⟨w.heap.size, 0, none⟩) (.inl rfl) (.int .i64 g.f0) |>.set (p := ⟨w.heap.size, 1, none⟩) (.inl rfl) (.int .i64 g.f1)) HB.out.size (fun k h => by omega)
      refine bodyPost_ret (v := .agg #[.int .i64 g.f0, .int .i64 g.f1]) ?_ rfl ⟨rfl, hB2⟩
      simp [results, Try.results35, go_sem, y0, y1]

def leastL (l : List S30) : Int × Int := if askL l = 0 then ((minS (rd_T30 l 0) (l.drop 1)).f0, 0) else (0, askL l)
theorem ask_pos (l : List S30) (h : askL l = 0) : 0 < l.length := by
  unfold askL at h
  split at h
  · split at h
    · exact absurd (show (71 : Int) = 0 from h) (by decide)
    · omega
  · rename_i h2; exact absurd h h2
def choice_Least.f (l : List S30) : Option (Int × Int) := some (leastL l)
attribute [local go_sem] Instr.field asAgg
set_option maxRecDepth 100000 in
set_option maxHeartbeats 2000000 in
theorem choice_Least.calls (A0 : Option Addr) (c0 : Nat) (l0 : List S30) (r0 r1 : Int) (w : World) (hr0 : Kd.C k30 w A0 l0.length l0) (hc0 : l0.length ≤ c0) (h : choice_Least.f l0 = some (r0, r1)) :
    Calls Try.prog 12 #[.slice A0 l0.length c0] w fun e w' => e = .returned (.tuple #[.int .i64 r0, .int .i64 r1]) ∧ Below w.heap.size w w' := by
  have hu30 := Try.underlying30
  have HR := Aside0.mk hr0
  have h := Option.some.inj h
  unfold leastL at h
  obtain ⟨k, hk⟩ : ∃ k, k = askL l0 := ⟨_, rfl⟩
  have HP : Aside0 (k = 0 → 0 < l0.length) := ⟨fun h => ask_pos l0 (by rw [← hk]; exact h)⟩
  rw [← hk] at h
  have HK := Aside0.mk hk
  clear hk hr0
  by_cases h0 : k = 0
  · subst h0
    rw [if_pos rfl] at h
    injection h with h1 h2
    subst h2
    have HG := Aside0.mk h1
    have HPos := Aside0.mk (HP.out rfl)
    clear HP h1
    go_enter Try.func12, Try.ntmps12
    go_wp2_with (first | (go_at_call 34; refine (ask.calls _ _ _ _ HR.out hc0).mono ?_; rintro e w1 ⟨rfl, hb⟩; rw [← HK.out]; have HB := Aside0.mk hb; have HR1 := Aside0.mk (C30_below HR.out hb (Nat.le_refl _)); clear hb) | (go_at_call 35; refine (min.calls _ _ _ _ HR1.out hc0 HPos.out).mono ?_; rintro e w2 ⟨rfl, hb⟩; rw [HG.out]; have HB2 := Aside0.mk (below_b HB.out hb HB.out.size); clear hb))
    go_ret2
    exact ⟨rfl, HB2.out⟩
  · rw [if_neg h0] at h
    injection h with h1 h2
    subst h1 h2
    go_enter Try.func12, Try.ntmps12
    go_wp2_with (first | (go_at_call 34; refine (ask.calls _ _ _ _ HR.out hc0).mono ?_; rintro e w1 ⟨rfl, hb⟩; rw [← HK.out]; have HB := Aside0.mk hb; clear hb))
    go_ret2
    exact ⟨rfl, HB.out⟩

/-! ### waybilllaw14_num: function 13 -/
def waybilllaw14_num.f (a0 : Int) : Option (Int) := some a0
set_option maxHeartbeats 8000000 in
set_option maxRecDepth 100000 in
theorem waybilllaw14_num.calls (a0 : Int) (r : Int) (w : World) (h : waybilllaw14_num.f a0 = some r) :
    Calls Try.prog 13 #[.int .i64 a0] w fun e w' => e = .returned (.int .i64 r) ∧ Drawn0 w w' := by
  have H : (some a0) = some r := h
  clear h
  obtain rfl := Option.some.inj H
  go_enter Try.func13, Try.ntmps13
  go_wp2
  go_ret
  exact ⟨by first | rfl | (simp; done) | (simp [*]; done), by repeat (first | exact Drawn0.refl _ | apply Drawn0.step)⟩

/-! ### waybilllaw14_alive: function 11 -/
def waybilllaw14_alive.f  : Option (Bool) := (choice_Least.f (([(⟨1, 5⟩ : S30), (⟨2, 3⟩ : S30)] : List (S30)))).bind fun bt110 => ((waybilllaw14_num.f bt110.2).bind fun t112 => (if t112 = 0 then (some (bt110.1 == 2)) else (some false)))
set_option maxHeartbeats 8000000 in
set_option maxRecDepth 100000 in
theorem waybilllaw14_alive.calls  (r : Bool) (w : World) (h : waybilllaw14_alive.f  = some r) :
    Calls Try.prog 11 #[] w fun e w' => e = .returned (.bool r) ∧ Below w.heap.size w w' := by
  have hu30 := Try.underlying30
  have HB := Aside0.mk (Below.refl w.heap.size w)
  have H : ((choice_Least.f (([(⟨1, 5⟩ : S30), (⟨2, 3⟩ : S30)] : List (S30)))).bind fun bt110 => ((waybilllaw14_num.f bt110.2).bind fun t112 => (if t112 = 0 then (some (bt110.1 == 2)) else (some false)))) = some r := h
  clear h
  obtain ⟨y107, hy107⟩ : ∃ y_ : List (S30), y_ = (([(⟨1, 5⟩ : S30), (⟨2, 3⟩ : S30)] : List (S30))) := ⟨_, rfl⟩
  replace H : ((choice_Least.f y107).bind fun bt110 => ((waybilllaw14_num.f bt110.2).bind fun t112 => (if t112 = 0 then (some (bt110.1 == 2)) else (some false)))) = some r := by first | (rw [hy107]; with_reducible exact H) | (have H2_ := (Option.bind_some _ _).symm.trans H; rw [hy107]; with_reducible exact H2_) | (have H2_ := (Option.bind_some _ _).symm.trans H; with_reducible exact H2_) | with_reducible exact H | (rw [hy107]; exact H) | exact H
  have Ny107 := Aside0.mk hy107
  clear hy107
  replace H := Option.bind_eq_some_iff.mp H
  obtain ⟨⟨t110, t111⟩, A10, H⟩ := H
  replace H : ((waybilllaw14_num.f t111).bind fun t112 => (if t112 = 0 then (some (t110 == 2)) else (some false))) = some r := H
  have A1 := Aside0.mk A10
  clear A10
  replace H := Option.bind_eq_some_iff.mp H
  obtain ⟨t112, A20, H⟩ := H
  replace H : (if t112 = 0 then (some (t110 == 2)) else (some false)) = some r := H
  have A2 := Aside0.mk A20
  clear A20
  by_cases c3 : t112 = 0
  · rw [if_pos c3] at H
    have c3b0 : (t112 == 0) = true := beq_iff_eq.mpr c3
    have c3b1 : (t112 != 0) = false := bne_eq_false_iff_eq.mpr c3
    clear c3
    obtain rfl := Option.some.inj H
    go_enter Try.func11, Try.ntmps11
    go_wp2_with (first | ((with_reducible refine gate_dst (N := 6) rfl ?_); refine Kd.R_lit k30 _ 30 ?hg (N := 6) ?hd (xs := ([(⟨1, 5⟩ : S30), (⟨2, 3⟩ : S30)] : List (S30))) (inner := [.int .i64 1, .int .i64 5, .int .i64 2, .int .i64 3]) (ok := fun _ => True) (okp := fun _ => True) ?hr ?hp (fun _ hk => hk) trivial (Below.refl _ _) (Nat.le_refl _) (by simp) ?_; (case hd => rfl); (case hg => rfl); (case hr => first | (go_simp; done) | (go_simp; rfl)); (case hp => exact (Reps.c2 (show Kd.M k30 _ _ _ (⟨1, 5⟩ : S30) [.int .i64 1, .int .i64 5] from (k30_mkM _ _ _ (⟨1, 5⟩ : S30) )) (Reps.c2 (show Kd.M k30 _ _ _ (⟨2, 3⟩ : S30) [.int .i64 2, .int .i64 3] from (k30_mkM _ _ _ (⟨2, 3⟩ : S30) )) (Reps.none _ _)))); intro v108 w4 ho5 hb hg_ hnew_; clear hg_ hnew_; (first | rw [← Ny107.out] at ho5 | (simp only [Int.reduceToNat] at ho5; rw [← Ny107.out] at ho5)); have n0_ := Aside0.mk (Kd.R_lower ho5 (below_size (by repeat (first | (with_reducible first | exact HB.out | apply below_alloc | apply pw_below_drewN | apply below_drew1) | exact HB.out)))); have n1_ := Aside0.mk (below_step (by repeat (first | (with_reducible first | exact HB.out | apply below_alloc | apply pw_below_drewN | apply below_drew1) | exact HB.out)) hb); clear HB; have HO109 := n0_; have HB := n1_; clear n0_ n1_; clear hb ho5; obtain ⟨Ao6, co6, eo6⟩ := Kd.R_slice HO109.out; subst eo6) | ((with_reducible refine gate_callee (f := 12) rfl ?_); refine goesL_ (some 7) rfl rfl Try.func12 (by kernel_rfl) rfl #[.slice Ao6 y107.length co6] rfl (by (try simp only [List.map_toArray, List.map_cons, List.map_nil]); first | done | rfl | (simp only [List.length_drop, List.length_take]; rfl)) ?_; (with_reducible refine (choice_Least.calls _ _ y107 t110 t111 _ ?side1 ?side2 A1.out).mono ?_); (case side1 => repeat (first | exact (Kd.R_reads' HO109.out).2.2 | (with_reducible refine Kd.C_alloc ?_ _) | (with_reducible refine Kd.C_drewN ?_ _) | (with_reducible refine Kd.C_drew ?_))); (case side2 => exact (Kd.R_reads' HO109.out).2.1); rintro e w7 ⟨rfl, hb⟩; refine ⟨_, rfl, ?_⟩; have n0_ := Aside0.mk (Kd.R_below (by (with_reducible repeat (first | apply Kd.R_alloc | apply Kd.R_drewN | apply Kd.R_drew)); exact HO109.out) hb); have n1_ := Aside0.mk (below_step (by repeat (first | (with_reducible first | exact HB.out | apply below_alloc | apply pw_below_drewN | apply below_drew1) | exact HB.out)) hb); clear HO109; clear HB; have HO109 := n0_; have HB := n1_; clear n0_ n1_; (try clear hb); (try clear hb2); (try clear hk); (try clear hi)) | ((with_reducible refine gate_callee (f := 13) rfl ?_); refine goesL_ (some 11) rfl rfl Try.func13 (by kernel_rfl) rfl #[.int .i64 t111] rfl (by (try simp only [List.map_toArray, List.map_cons, List.map_nil]); first | done | rfl | (simp only [List.length_drop, List.length_take]; rfl)) ?_; (with_reducible refine (waybilllaw14_num.calls t111 t112 _ A2.out).mono ?_); rintro e w' ⟨rfl, ⟨nd, rfl⟩⟩; refine ⟨_, rfl, ?_⟩))
    go_ret
    exact ⟨by first | rfl | (simp [errW_none, errW_some] <;> rfl) | (simp [*, errW_none, errW_some] <;> rfl), by repeat (first | (with_reducible first | exact HB.out | apply below_alloc | apply pw_below_drewN | apply below_drew1) | exact HB.out)⟩
  · rw [if_neg c3] at H
    have c3b0 : (t112 == 0) = false := beq_eq_false_iff_ne.mpr c3
    have c3b1 : (t112 != 0) = true := bne_iff_ne.mpr c3
    obtain rfl := Option.some.inj H
    go_enter Try.func11, Try.ntmps11
    go_wp2_with (first | ((with_reducible refine gate_dst (N := 6) rfl ?_); refine Kd.R_lit k30 _ 30 ?hg (N := 6) ?hd (xs := ([(⟨1, 5⟩ : S30), (⟨2, 3⟩ : S30)] : List (S30))) (inner := [.int .i64 1, .int .i64 5, .int .i64 2, .int .i64 3]) (ok := fun _ => True) (okp := fun _ => True) ?hr ?hp (fun _ hk => hk) trivial (Below.refl _ _) (Nat.le_refl _) (by simp) ?_; (case hd => rfl); (case hg => rfl); (case hr => first | (go_simp; done) | (go_simp; rfl)); (case hp => exact (Reps.c2 (show Kd.M k30 _ _ _ (⟨1, 5⟩ : S30) [.int .i64 1, .int .i64 5] from (k30_mkM _ _ _ (⟨1, 5⟩ : S30) )) (Reps.c2 (show Kd.M k30 _ _ _ (⟨2, 3⟩ : S30) [.int .i64 2, .int .i64 3] from (k30_mkM _ _ _ (⟨2, 3⟩ : S30) )) (Reps.none _ _)))); intro v108 w8 ho9 hb hg_ hnew_; clear hg_ hnew_; (first | rw [← Ny107.out] at ho9 | (simp only [Int.reduceToNat] at ho9; rw [← Ny107.out] at ho9)); have n0_ := Aside0.mk (Kd.R_lower ho9 (below_size (by repeat (first | (with_reducible first | exact HB.out | apply below_alloc | apply pw_below_drewN | apply below_drew1) | exact HB.out)))); have n1_ := Aside0.mk (below_step (by repeat (first | (with_reducible first | exact HB.out | apply below_alloc | apply pw_below_drewN | apply below_drew1) | exact HB.out)) hb); clear HB; have HO109 := n0_; have HB := n1_; clear n0_ n1_; clear hb ho9; obtain ⟨Ao10, co10, eo10⟩ := Kd.R_slice HO109.out; subst eo10) | ((with_reducible refine gate_callee (f := 12) rfl ?_); refine goesL_ (some 7) rfl rfl Try.func12 (by kernel_rfl) rfl #[.slice Ao10 y107.length co10] rfl (by (try simp only [List.map_toArray, List.map_cons, List.map_nil]); first | done | rfl | (simp only [List.length_drop, List.length_take]; rfl)) ?_; (with_reducible refine (choice_Least.calls _ _ y107 t110 t111 _ ?side1 ?side2 A1.out).mono ?_); (case side1 => repeat (first | exact (Kd.R_reads' HO109.out).2.2 | (with_reducible refine Kd.C_alloc ?_ _) | (with_reducible refine Kd.C_drewN ?_ _) | (with_reducible refine Kd.C_drew ?_))); (case side2 => exact (Kd.R_reads' HO109.out).2.1); rintro e w11 ⟨rfl, hb⟩; refine ⟨_, rfl, ?_⟩; have n0_ := Aside0.mk (Kd.R_below (by (with_reducible repeat (first | apply Kd.R_alloc | apply Kd.R_drewN | apply Kd.R_drew)); exact HO109.out) hb); have n1_ := Aside0.mk (below_step (by repeat (first | (with_reducible first | exact HB.out | apply below_alloc | apply pw_below_drewN | apply below_drew1) | exact HB.out)) hb); clear HO109; clear HB; have HO109 := n0_; have HB := n1_; clear n0_ n1_; (try clear hb); (try clear hb2); (try clear hk); (try clear hi)) | ((with_reducible refine gate_callee (f := 13) rfl ?_); refine goesL_ (some 11) rfl rfl Try.func13 (by kernel_rfl) rfl #[.int .i64 t111] rfl (by (try simp only [List.map_toArray, List.map_cons, List.map_nil]); first | done | rfl | (simp only [List.length_drop, List.length_take]; rfl)) ?_; (with_reducible refine (waybilllaw14_num.calls t111 t112 _ A2.out).mono ?_); rintro e w' ⟨rfl, ⟨nd, rfl⟩⟩; refine ⟨_, rfl, ?_⟩))
    go_ret
    exact ⟨by first | rfl | (simp [errW_none, errW_some] <;> rfl) | (simp [*, errW_none, errW_some] <;> rfl), by repeat (first | (with_reducible first | exact HB.out | apply below_alloc | apply pw_below_drewN | apply below_drew1) | exact HB.out)⟩

/-! ### hash_fold: function 118 -/
def hash_fold.f (a0 : Int) : Option (Int) := some (Go.bits .xor .u64 a0 (a0 / 8589934592))
set_option maxHeartbeats 8000000 in
set_option maxRecDepth 100000 in
theorem hash_fold.calls (a0 : Int) (r : Int) (w : World) (h : hash_fold.f a0 = some r) :
    Calls Try.prog 118 #[.int .u64 a0] w fun e w' => e = .returned (.int .u64 r) ∧ Drawn0 w w' := by
  have H : (some (Go.bits .xor .u64 a0 (a0 / 8589934592))) = some r := h
  clear h
  obtain rfl := Option.some.inj H
  go_enter Try.func118, Try.ntmps118
  go_wp2
  go_ret
  exact ⟨by first | rfl | (simp; done) | (simp [*]; done), by repeat (first | exact Drawn0.refl _ | apply Drawn0.step)⟩

/-! ### hash_Mix: function 114 -/
def hash_Mix.f (a0 : Int) : Option (Int) := (hash_fold.f a0).bind fun t113 => ((hash_fold.f (IntKind.u64.wrap (t113 * 18397679294719823053))).bind fun t114 => ((hash_fold.f (IntKind.u64.wrap (t114 * 14181476777654086739))).bind fun t115 => (some t115)))
set_option maxHeartbeats 8000000 in
set_option maxRecDepth 100000 in
theorem hash_Mix.calls (a0 : Int) (r : Int) (w : World) (h : hash_Mix.f a0 = some r) :
    Calls Try.prog 114 #[.int .u64 a0] w fun e w' => e = .returned (.int .u64 r) ∧ Drawn0 w w' := by
  have H : ((hash_fold.f a0).bind fun t113 => ((hash_fold.f (IntKind.u64.wrap (t113 * 18397679294719823053))).bind fun t114 => ((hash_fold.f (IntKind.u64.wrap (t114 * 14181476777654086739))).bind fun t115 => (some t115)))) = some r := h
  clear h
  replace H := Option.bind_eq_some_iff.mp H
  obtain ⟨t113, A20, H⟩ := H
  replace H : ((hash_fold.f (IntKind.u64.wrap (t113 * 18397679294719823053))).bind fun t114 => ((hash_fold.f (IntKind.u64.wrap (t114 * 14181476777654086739))).bind fun t115 => (some t115))) = some r := H
  have A2 := Aside0.mk A20
  clear A20
  replace H := Option.bind_eq_some_iff.mp H
  obtain ⟨t114, A30, H⟩ := H
  replace H : ((hash_fold.f (IntKind.u64.wrap (t114 * 14181476777654086739))).bind fun t115 => (some t115)) = some r := H
  have A3 := Aside0.mk A30
  clear A30
  replace H := Option.bind_eq_some_iff.mp H
  obtain ⟨t115, A40, H⟩ := H
  replace H : (some t115) = some r := H
  have A4 := Aside0.mk A40
  clear A40
  obtain rfl := Option.some.inj H
  go_enter Try.func114, Try.ntmps114
  go_wp2_with (first | ((with_reducible refine gate_callee (f := 118) rfl ?_); refine goesL_ (some 4) rfl rfl Try.func118 (by kernel_rfl) rfl #[.int .u64 a0] rfl (by (try simp only [List.map_toArray, List.map_cons, List.map_nil]); first | done | rfl | (simp only [List.length_drop, List.length_take]; rfl)) ?_; (with_reducible refine (hash_fold.calls a0 t113 _ A2.out).mono ?_); rintro e w' ⟨rfl, ⟨nd, rfl⟩⟩; refine ⟨_, rfl, ?_⟩) | ((with_reducible refine gate_callee (f := 118) rfl ?_); refine goesL_ (some 6) rfl rfl Try.func118 (by kernel_rfl) rfl #[.int .u64 (IntKind.u64.wrap (t113 * 18397679294719823053))] rfl (by (try simp only [List.map_toArray, List.map_cons, List.map_nil]); first | done | rfl | (simp only [List.length_drop, List.length_take]; rfl)) ?_; (with_reducible refine (hash_fold.calls (IntKind.u64.wrap (t113 * 18397679294719823053)) t114 _ A3.out).mono ?_); rintro e w' ⟨rfl, ⟨nd, rfl⟩⟩; refine ⟨_, rfl, ?_⟩) | ((with_reducible refine gate_callee (f := 118) rfl ?_); refine goesL_ (some 8) rfl rfl Try.func118 (by kernel_rfl) rfl #[.int .u64 (IntKind.u64.wrap (t114 * 14181476777654086739))] rfl (by (try simp only [List.map_toArray, List.map_cons, List.map_nil]); first | done | rfl | (simp only [List.length_drop, List.length_take]; rfl)) ?_; (with_reducible refine (hash_fold.calls (IntKind.u64.wrap (t114 * 14181476777654086739)) t115 _ A4.out).mono ?_); rintro e w' ⟨rfl, ⟨nd, rfl⟩⟩; refine ⟨_, rfl, ?_⟩))
  go_ret
  exact ⟨by first | rfl | (simp; done) | (simp [*]; done), by repeat (first | exact Drawn0.refl _ | apply Drawn0.step)⟩

/-! ### draw_Next: function 102 -/
def draw_Next.f (a0 : Int) : Option (Int × Int) := (hash_Mix.f (IntKind.u64.wrap (a0 + 11400714819323198485))).bind fun t116 => (some (IntKind.u64.wrap (a0 + 11400714819323198485), t116))
set_option maxHeartbeats 8000000 in
set_option maxRecDepth 100000 in
theorem draw_Next.calls (a0 : Int) (r1 : Int) (r2 : Int) (w : World) (h : draw_Next.f a0 = some (r1, r2)) :
    Calls Try.prog 102 #[.int .u64 a0] w fun e w' => e = .returned (.tuple #[.int .u64 r1, .int .u64 r2]) ∧ Drawn0 w w' := by
  have H : ((hash_Mix.f (IntKind.u64.wrap (a0 + 11400714819323198485))).bind fun t116 => (some (IntKind.u64.wrap (a0 + 11400714819323198485), t116))) = some (r1, r2) := h
  clear h
  replace H := Option.bind_eq_some_iff.mp H
  obtain ⟨t116, A20, H⟩ := H
  replace H : (some (IntKind.u64.wrap (a0 + 11400714819323198485), t116)) = some (r1, r2) := H
  have A2 := Aside0.mk A20
  clear A20
  simp only [Option.some.injEq, Prod.mk.injEq] at H
  obtain ⟨rfl, rfl⟩ := H
  go_enter Try.func102, Try.ntmps102
  go_wp2_with (first | ((with_reducible refine gate_callee (f := 114) rfl ?_); refine goesL_ (some 8) rfl rfl Try.func114 (by kernel_rfl) rfl #[.int .u64 (IntKind.u64.wrap (a0 + 11400714819323198485))] rfl (by (try simp only [List.map_toArray, List.map_cons, List.map_nil]); first | done | rfl | (simp only [List.length_drop, List.length_take]; rfl)) ?_; (with_reducible refine (hash_Mix.calls (IntKind.u64.wrap (a0 + 11400714819323198485)) t116 _ A2.out).mono ?_); rintro e w' ⟨rfl, ⟨nd, rfl⟩⟩; refine ⟨_, rfl, ?_⟩))
  go_ret2
  exact ⟨by first | rfl | (simp; done) | (simp [*]; done), by repeat (first | exact Drawn0.refl _ | apply Drawn0.step)⟩

/-! ### bits_Mul64: function 97 -/
def bits_Mul64.f (a0 : Int) (a1 : Int) : Option (Int × Int) := some (IntKind.u64.wrap ((IntKind.u64.wrap ((IntKind.u64.wrap ((a0 / 4294967296) * (a1 / 4294967296))) + ((IntKind.u64.wrap ((IntKind.u64.wrap ((a0 / 4294967296) * (Go.bits .and .u64 a1 4294967295))) + ((IntKind.u64.wrap ((Go.bits .and .u64 a0 4294967295) * (Go.bits .and .u64 a1 4294967295))) / 4294967296))) / 4294967296))) + ((IntKind.u64.wrap ((Go.bits .and .u64 (IntKind.u64.wrap ((IntKind.u64.wrap ((a0 / 4294967296) * (Go.bits .and .u64 a1 4294967295))) + ((IntKind.u64.wrap ((Go.bits .and .u64 a0 4294967295) * (Go.bits .and .u64 a1 4294967295))) / 4294967296))) 4294967295) + (IntKind.u64.wrap ((Go.bits .and .u64 a0 4294967295) * (a1 / 4294967296))))) / 4294967296)), IntKind.u64.wrap (a0 * a1))
set_option maxHeartbeats 8000000 in
set_option maxRecDepth 100000 in
theorem bits_Mul64.calls (a0 : Int) (a1 : Int) (r1 : Int) (r2 : Int) (w : World) (h : bits_Mul64.f a0 a1 = some (r1, r2)) :
    Calls Try.prog 97 #[.int .u64 a0, .int .u64 a1] w fun e w' => e = .returned (.tuple #[.int .u64 r1, .int .u64 r2]) ∧ Drawn0 w w' := by
  have H : (some (IntKind.u64.wrap ((IntKind.u64.wrap ((IntKind.u64.wrap ((a0 / 4294967296) * (a1 / 4294967296))) + ((IntKind.u64.wrap ((IntKind.u64.wrap ((a0 / 4294967296) * (Go.bits .and .u64 a1 4294967295))) + ((IntKind.u64.wrap ((Go.bits .and .u64 a0 4294967295) * (Go.bits .and .u64 a1 4294967295))) / 4294967296))) / 4294967296))) + ((IntKind.u64.wrap ((Go.bits .and .u64 (IntKind.u64.wrap ((IntKind.u64.wrap ((a0 / 4294967296) * (Go.bits .and .u64 a1 4294967295))) + ((IntKind.u64.wrap ((Go.bits .and .u64 a0 4294967295) * (Go.bits .and .u64 a1 4294967295))) / 4294967296))) 4294967295) + (IntKind.u64.wrap ((Go.bits .and .u64 a0 4294967295) * (a1 / 4294967296))))) / 4294967296)), IntKind.u64.wrap (a0 * a1))) = some (r1, r2) := h
  clear h
  simp only [Option.some.injEq, Prod.mk.injEq] at H
  obtain ⟨rfl, rfl⟩ := H
  go_enter Try.func97, Try.ntmps97
  go_wp2
  go_ret2
  exact ⟨by first | rfl | (simp; done) | (simp [*]; done), by repeat (first | exact Drawn0.refl _ | apply Drawn0.step)⟩

/-! ### hash_Share: function 103 -/
def hash_Share.f (a0 : Int) (a1 : Int) : Option (Int × Int) := if a1 < 1 then (some (0, 4)) else (if a1 > 1048576 then (some (0, 4)) else ((bits_Mul64.f (IntKind.u64.wrap ((a0 / 4294967296) * 4294967296)) (IntKind.u64.wrap (a1))).bind fun bt117 => (some (wrap64 (bt117.1), 0))))
set_option maxHeartbeats 8000000 in
set_option maxRecDepth 100000 in
theorem hash_Share.calls (a0 : Int) (a1 : Int) (r1 : Int) (r2 : Int) (w : World) (h : hash_Share.f a0 a1 = some (r1, r2)) :
    Calls Try.prog 103 #[.int .u64 a0, .int .i64 a1] w fun e w' => e = .returned (.tuple #[.int .i64 r1, .int .i64 r2]) ∧ Drawn0 w w' := by
  have H : (if a1 < 1 then (some (0, 4)) else (if a1 > 1048576 then (some (0, 4)) else ((bits_Mul64.f (IntKind.u64.wrap ((a0 / 4294967296) * 4294967296)) (IntKind.u64.wrap (a1))).bind fun bt117 => (some (wrap64 (bt117.1), 0))))) = some (r1, r2) := h
  clear h
  by_cases c3 : a1 < 1
  · rw [if_pos c3] at H
    have c3b0 : decide (a1 < 1) = true := decide_eq_true c3
    clear c3
    simp only [Option.some.injEq, Prod.mk.injEq] at H
    obtain ⟨rfl, rfl⟩ := H
    go_enter Try.func103, Try.ntmps103
    go_wp2
    go_ret2
    exact ⟨by first | rfl | (simp; done) | (simp [*]; done), by repeat (first | exact Drawn0.refl _ | apply Drawn0.step)⟩
  · rw [if_neg c3] at H
    have c3b0 : decide (a1 < 1) = false := decide_eq_false c3
    clear c3
    by_cases c4 : a1 > 1048576
    · rw [if_pos c4] at H
      have c4b0 : decide (1048576 < a1) = true := decide_eq_true c4
      clear c4
      simp only [Option.some.injEq, Prod.mk.injEq] at H
      obtain ⟨rfl, rfl⟩ := H
      go_enter Try.func103, Try.ntmps103
      go_wp2
      go_ret2
      exact ⟨by first | rfl | (simp; done) | (simp [*]; done), by repeat (first | exact Drawn0.refl _ | apply Drawn0.step)⟩
    · rw [if_neg c4] at H
      have c4b0 : decide (1048576 < a1) = false := decide_eq_false c4
      clear c4
      replace H := Option.bind_eq_some_iff.mp H
      obtain ⟨⟨t117, t118⟩, A50, H⟩ := H
      replace H : (some (wrap64 (t117), 0)) = some (r1, r2) := H
      have A5 := Aside0.mk A50
      clear A50
      simp only [Option.some.injEq, Prod.mk.injEq] at H
      obtain ⟨rfl, rfl⟩ := H
      go_enter Try.func103, Try.ntmps103
      go_wp2_with (first | ((with_reducible refine gate_callee (f := 97) rfl ?_); refine goesL_ (some 20) rfl rfl Try.func97 (by kernel_rfl) rfl #[.int .u64 (IntKind.u64.wrap ((a0 / 4294967296) * 4294967296)), .int .u64 (IntKind.u64.wrap (a1))] rfl (by (try simp only [List.map_toArray, List.map_cons, List.map_nil]); first | done | rfl | (simp only [List.length_drop, List.length_take]; rfl)) ?_; (with_reducible refine (bits_Mul64.calls (IntKind.u64.wrap ((a0 / 4294967296) * 4294967296)) (IntKind.u64.wrap (a1)) t117 t118 _ A5.out).mono ?_); rintro e w' ⟨rfl, ⟨nd, rfl⟩⟩; refine ⟨_, rfl, ?_⟩))
      go_ret2
      exact ⟨by first | rfl | (simp; done) | (simp [*]; done), by repeat (first | exact Drawn0.refl _ | apply Drawn0.step)⟩

end Go.Proofs.Ytemleanglkaedaa.EChoiceTells
