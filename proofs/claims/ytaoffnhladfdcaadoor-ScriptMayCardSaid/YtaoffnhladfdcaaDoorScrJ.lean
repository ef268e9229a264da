/- Trace. -/
import Derived.Test.YtaoffnhladfdcaaDoorScrI
namespace Go.Proofs.YtaoffnhladfdcaaDoor.EScriptTrace
open Go.RowKit Go.Shelf Go.Proofs.YtaoffnhladfdcaaDoorW.PrintWords Go.Proofs.YtaoffnhladfdcaaDoorW.PrintLast Go.Proofs.YtaoffnhladfdcaaDoorW.PrintMore
set_option linter.unusedVariables false
set_option linter.unusedSimpArgs false
/-! A strings.Builder at the head of a block (of type T, more cells cs behind it): it holds l. -/
def Bld (T : TypeId) (base b : Nat) (l : List UInt8) (cs : List Value) (W : World) : Prop :=
  ∃ p v, W.heap[b]? = some (.cells (p :: v :: cs).toArray T (0, 0)) ∧ (p = .pointer none ∨ p = .pointer (some ⟨b, 0, none⟩)) ∧ W.ownsRow base 5 1 v l.length (Lib.byteCells l) ∧ v.ownBlock ≠ some b
/-- What a write to it leaves: all blocks but its own and rows of bytes. -/
structure KpB (b : Nat) (w w' : World) : Prop where
  keep : ∀ k cs t f, w.heap[k]? = some (.cells cs t f) → k ≠ b → t ≠ 5 → w'.heap[k]? = some (.cells cs t f)
theorem KpB.refl (b : Nat) (w : World) : KpB b w w := ⟨fun _ _ _ _ h _ _ => h⟩
theorem KpB.trans {b : Nat} {w w1 w2 : World} (h : KpB b w w1) (k : KpB b w1 w2) : KpB b w w2 := ⟨fun i cs t f h1 h2 h3 => k.keep i cs t f (h.keep i cs t f h1 h2 h3) h2 h3⟩
theorem KpB.of_ch {b : Nat} {w w1 : World} (h : Ch (fun k => k = b) w w1) : KpB b w w1 := ⟨fun i cs t f h1 h2 _ => (h.block i (lt_of_block h1) h2).trans h1⟩
theorem KpB.of_below {b : Nat} {w w1 : World} (h : Below w.heap.size w w1) : KpB b w w1 := KpB.of_ch (Ch.of_below h _)
theorem Bld.step {T : TypeId} {base b : Nat} {l : List UInt8} {cs : List Value} {w w1 : World} (h : Bld T base b l cs w) (hC : Ch (fun _ => False) w w1) : Bld T base b l cs w1 := by
  obtain ⟨p, v, hb, hp, hown, hne⟩ := h
  exact ⟨p, v, hC.heap hb (fun h => h), hp, own_move hown (fun k hk => hC.block k (World.ownsRow.lt hown k hk).2 (fun h => h)), hne⟩
theorem bld_fresh (T : TypeId) (cs : List Value) (w : World) (base : Nat) (hb : base ≤ w.heap.size) : Bld T base w.heap.size [] cs (w.alloc (.cells (.pointer none :: .slice none 0 0 :: cs).toArray T (0, 0))) :=
  ⟨_, _, heap_alloc_new w _, .inl rfl, World.ownsRow_nil _ _ _ _, by simp [Value.ownBlock]⟩
set_option maxHeartbeats 1000000 in
theorem bcopy.calls (T : TypeId) (b : Nat) (p v : Value) (cs : List Value) (w : World) (hb : w.heap[b]? = some (.cells (p :: v :: cs).toArray T (0, 0))) (hp : p = .pointer none ∨ p = .pointer (some ⟨b, 0, none⟩))
    (hl : liesAt Tryd.prog Tryd.prog.depth T ((cs.length + 2) / Tryd.prog.cellsOf T) 0 116 1 = true) :
    Calls Tryd.prog 85 #[.pointer (some ⟨b, 0, none⟩)] w fun e w' => e = .returned (.tuple #[]) ∧ Ch (fun k => k = b) w w' ∧ w'.heap[b]? = some (.cells (.pointer (some ⟨b, 0, none⟩) :: v :: cs).toArray T (0, 0)) := by
  have HL := Aside0.mk hl
  have HBK := Aside0.mk hb
  have hc0 := zcell hb 0 p rfl
  have hf0 := zfree hb 0
  have hsz : (Tryd.prog.info? 116).map (·.size) = some 2 := by kernel_rfl
  obtain ⟨j, hj, hjs⟩ := Option.map_eq_some_iff.1 hsz
  rcases hp with rfl | rfl
  · have hsh : w.shape? b = some (T, cs.length + 2) := by simp [World.shape?, hb]
    have q1 := Lib.run_to_unsafe (P := Tryd.prog) w ⟨b, 0, none⟩ Tryd.underlying113 Tryd.underlying186 hj (by rw [hjs]; decide) hsh (by show 0 < cs.length + 2; omega)
    have q2 : ∀ a W, (callFunc 117 #[a]).run Tryd.prog W = .ok (.value a) W := fun a W => by
      rw [run_callFunc_extern Tryd.func117 (by kernel_rfl) (by kernel_rfl) (by kernel_rfl) (e := Extern.AbiNoEscape.same) (by kernel_rfl), Lib.run_noEscape]; rfl
    have q3 := Lib.run_from_unsafe (P := Tryd.prog) w ⟨b, 0, none⟩ Tryd.underlying186 Tryd.underlying113 hj hsh HL.out
    clear hb hl hsz hj hjs hsh
    go_enter Tryd.func85, Tryd.ntmps85
    go_wp2
    go_end0
    exact ⟨rfl, (Ch.refl (fun k => k = b) w).set (p := ⟨b, 0, none⟩) (.inl rfl) _, by have := zset HBK.out 0 (.pointer (some ⟨b, 0, none⟩)); simpa using this⟩
  · have q1 := Lib.run_neq_ptr_same (P := Tryd.prog) (w := w) ⟨b, 0, none⟩ Tryd.underlying113 hj
    clear hb hl hsz hj hjs
    go_enter Tryd.func85, Tryd.ntmps85
    go_wp2
    go_end0
    exact ⟨rfl, Ch.refl _ w, HBK.out⟩
set_option maxHeartbeats 2000000 in
theorem bwrite.calls (T : TypeId) (base b : Nat) (l : List UInt8) (cs : List Value) (s : ByteArray) (w : World) (h : Bld T base b l cs w) (hT : T ≠ 5) (hbb : base ≤ b) (hlen : l.length + s.size ≤ 140737488355328)
    (hl : liesAt Tryd.prog Tryd.prog.depth T ((cs.length + 2) / Tryd.prog.cellsOf T) 0 116 1 = true) :
    Calls Tryd.prog 48 #[.pointer (some ⟨b, 0, none⟩), .string s] w fun e w' => e = .returned (.tuple #[.int .i64 s.size, .nilIface]) ∧ Bld T base b (l ++ s.data.toList) cs w' ∧ KpB b w w' ∧ Below base w w' := by
  obtain ⟨p, v, hb, hp, hown, hne⟩ := h
  have hi0 : (Tryd.prog.info? 5).map (fun i => (i.zero, i.size, i.bytes)) = some (some (.int .u8 0), 1, 1) := by kernel_rfl
  obtain ⟨i0, hi, hz0, hz1, hz2⟩ := info_parts hi0
  have hlt : b < w.heap.size := lt_of_block hb
  have HC := Aside0.mk (bcopy.calls T b p v cs w hb hp hl)
  clear hb hp hl
  go_enter Tryd.func48, Tryd.ntmps48
  go_wp2_with fail
  refine HC.out.mono ?_
  rintro e w1 ⟨rfl, hC, hb1⟩
  have hown1 : w1.ownsRow base 5 1 v l.length (Lib.byteCells l) := own_move hown (fun k hk => hC.block k (World.ownsRow.lt hown k hk).2 (fun e => hne (by rw [hk, e])))
  have c1 := zcell hb1 1 v rfl
  have hsz1 : w.heap.size ≤ w1.heap.size := hC.size
  have HCH := Aside0.mk hC
  have HB1 := Aside0.mk hb1
  have HOW := Aside0.mk hown1
  clear hC hb1 hown hown1
  go_wp2_with (at_builtin; refine Lib.wpList_append_own_string _ rfl _ _ 114 9 rfl base 5 i0 Tryd.underlying114 Tryd.underlying9 hi hz0 hz1 hz2 _ _ _ rfl HOW.out s rfl ?c3 ?c4 ?c5 ?_)
  case c3 => unfold maxLen; omega
  case c4 => exact hlen
  case c5 => omega
  intro v' w2 hown' hgrow _
  have hb2 : w2.heap[b]? = some (.cells (.pointer (some ⟨b, 0, none⟩) :: v :: cs).toArray T (0, 0)) := (hgrow.block b (by omega) (fun e => hne e.symm)).trans HB1.out
  have d1 := zcell hb2 1 v rfl
  have f1 := zfree hb2 1
  have HB2 := Aside0.mk hb2
  have HOW2 := Aside0.mk hown'
  have HG := Aside0.mk hgrow
  obtain ⟨ao, n', cap, rfl⟩ : ∃ ao n' cap, v' = .slice ao n' cap := by
    rcases hown'.2 with ⟨hv, _⟩ | ⟨g, cap, cur, hv, _⟩
    · exact ⟨_, _, _, hv⟩
    · exact ⟨_, _, _, hv⟩
  clear hb2 hown' hgrow
  go_wp2_with fail
  go_ret2
  have hset := zset HB2.out 1 (.slice ao n' cap)
  have hne2 : (Value.slice ao n' cap).ownBlock ≠ some b := by
    intro e
    obtain ⟨cells, hc⟩ := own_typed HOW2.out b e
    rw [HB2.out] at hc
    injection hc with hc
    injection hc with _ hc
    exact hT hc
  refine ⟨rfl, ⟨.pointer (some ⟨b, 0, none⟩), .slice ao n' cap, by simpa using hset, .inr rfl, ?_, hne2⟩, ?_, ?_⟩
  · rw [List.length_append, Lib.byteCells_append, ← Lib.strCells_eq]
    have e1 : s.data.toList.length = s.size := Array.length_toList
    rw [e1]
    exact own_move HOW2.out (fun k hk => Below.heap_setCell w2 _ _ k (fun e => hne2 (by rw [hk, e])))
  · refine (KpB.of_ch HCH.out).trans (KpB.trans ⟨fun i cs t f h1 h2 h3 => (HG.out.block i (lt_of_block h1) (fun e => ?_)).trans h1⟩ (KpB.of_ch ((Ch.refl (fun k => k = b) w2).set (p := ⟨b, 1, none⟩) (.inl rfl) _)))
    obtain ⟨cells, hc⟩ := own_typed HOW.out i e.symm
    rw [hc] at h1
    injection h1 with h1
    injection h1 with _ h1
    exact h3 h1.symm
  · refine below_ch ?_ ((Ch.refl (fun k => k = b) w2).set (p := ⟨b, 1, none⟩) (.inl rfl) _) (by have := HG.out.size; omega) (fun k h => by omega)
    exact Below.grown (below_ch (Below.refl base w) HCH.out (by omega) (fun k h => by omega)) HG.out (by omega) (fun k hk => (World.ownsRow.lt HOW.out k hk).1)
set_option maxHeartbeats 2000000 in
theorem bstring.calls (T : TypeId) (base b : Nat) (l : List UInt8) (cs : List Value) (w : World) (h : Bld T base b l cs w) (hbb : base ≤ b) :
    Calls Tryd.prog 50 #[.pointer (some ⟨b, 0, none⟩)] w fun e w' => e = .returned (.string ⟨l.toArray⟩) ∧ Below base w w' := by
  obtain ⟨p, v, hb, hp, hown, hne⟩ := h
  have hlt : b < w.heap.size := lt_of_block hb
  have HBK := Aside0.mk hb
  have hUN := fun W q => Lib.run_unsafeString_none (P := Tryd.prog) W 162 3 9 q
  rcases hown.2 with ⟨hv, hz⟩ | ⟨g, cap, cur, hv, hbg, hg, hnc, hcm, hcs, htake⟩
  · subst hv
    have hl : l = [] := List.eq_nil_of_length_eq_zero hz
    subst hl
    have c1 : w.drew.cell? ⟨b, 1, none⟩ = some (.slice none 0 0) := zcell (w := w.drew) hb 1 (.slice none 0 0) rfl
    have hSD : (Builtin.unsafeSliceData_ #[114] 162 #[.slice none 0 0]).run Tryd.prog w.drew = .ok (.pointer none) w.drew := rfl
    clear hown hb hz hp
    go_enter Tryd.func50, Tryd.ntmps50
    go_wp2
    go_region
    all_goals (go_wp2; go_ret; exact ⟨rfl, Below.drew (Below.refl base w)⟩)
  · subst hv
    by_cases h0 : l = []
    · subst h0
      by_cases hc0 : cap = 0
      · subst hc0
        have c1 : w.drew.cell? ⟨b, 1, none⟩ = some (.slice (some ⟨g, 0, none⟩) 0 0) := zcell (w := w.drew) hb 1 (.slice (some ⟨g, 0, none⟩) 0 0) rfl
        have hSD : (Builtin.unsafeSliceData_ #[114] 162 #[.slice (some ⟨g, 0, none⟩) 0 0]).run Tryd.prog w.drew = .ok (.pointer (some ⟨w.drew.heap.size, 0, none⟩)) (w.drew.alloc (.view ⟨g, 0, none⟩ 5)) :=
          Lib.run_unsafeSliceData_zero w.drew _ _ 5 Tryd.underlying162 ⟨g, 0, none⟩ 0 (5, cur.size) (by have hg' : w.drew.heap[g]? = some (.cells cur 5 (0, 0)) := hg; simp [World.shape?, hg'])
        have c2 : (w.drew.alloc (.view ⟨g, 0, none⟩ 5)).cell? ⟨b, 1, none⟩ = some (.slice (some ⟨g, 0, none⟩) 0 0) := zcell ((Lib.alloc_old w.drew _ b hlt).trans hb) 1 _ rfl
        have c3 : (w.alloc (.view ⟨g, 0, none⟩ 5)).drew.cell? ⟨b, 1, none⟩ = some (.slice (some ⟨g, 0, none⟩) 0 0) := c2
        have c0 : w.cell? ⟨b, 1, none⟩ = some (.slice (some ⟨g, 0, none⟩) 0 0) := c1
        clear hown hb hg htake hcs
        go_enter Tryd.func50, Tryd.ntmps50
        go_wp2
        go_region
        all_goals (go_wp2; go_ret; exact ⟨rfl, (Below.drew (Below.refl base w)).alloc (Nat.le_trans hbb (Nat.le_of_lt hlt)) _⟩)
      · have c1 : w.drew.cell? ⟨b, 1, none⟩ = some (.slice (some ⟨g, 0, none⟩) 0 cap) := zcell (w := w.drew) hb 1 (.slice (some ⟨g, 0, none⟩) 0 cap) rfl
        have hSD : (Builtin.unsafeSliceData_ #[114] 162 #[.slice (some ⟨g, 0, none⟩) 0 cap]).run Tryd.prog w.drew = .ok (.pointer (some ⟨g, 0, none⟩)) w.drew :=
          Lib.run_unsafeSliceData_row _ _ _ _ _ _ hc0
        clear hown hb hg htake hcs hc0
        go_enter Tryd.func50, Tryd.ntmps50
        go_wp2
        go_region
        all_goals (go_wp2; go_ret; exact ⟨rfl, Below.drew (Below.refl base w)⟩)
    · have hl0 : l.length ≠ 0 := by simpa using h0
      have c1 : w.drew.cell? ⟨b, 1, none⟩ = some (.slice (some ⟨g, 0, none⟩) l.length cap) := zcell (w := w.drew) hb 1 _ rfl
      have hSD : (Builtin.unsafeSliceData_ #[114] 162 #[.slice (some ⟨g, 0, none⟩) l.length cap]).run Tryd.prog w.drew = .ok (.pointer (some ⟨g, 0, none⟩)) w.drew :=
        Lib.run_unsafeSliceData_row _ _ _ _ _ _ (by omega)
      have hUS : (Builtin.unsafeString_ #[162, 3] 9 #[.pointer (some ⟨g, 0, none⟩), .int .i64 l.length]).run Tryd.prog w.drew = .ok (.string ⟨l.toArray⟩) (w.drew.freeze ⟨g, 0, none⟩ l.length) := by
        refine Lib.run_unsafeString_row w.drew 162 3 9 5 Tryd.underlying162 (by kernel_rfl) g cur.size (by have hg' : w.drew.heap[g]? = some (.cells cur 5 (0, 0)) := hg; simp [World.shape?, hg']) l h0 (by omega) (by unfold maxLen at hcm; omega) ?_
        intro j x hx
        have := hown.cells (g := g) rfl j (.int .u8 x.toNat) (by simp [Lib.byteCells, hx])
        exact this
      clear hown hb hg htake hcs h0 hl0 hUN
      go_enter Tryd.func50, Tryd.ntmps50
      go_wp2
      go_region
      all_goals (go_wp2; go_ret; exact ⟨rfl, Lib.below_freeze (Below.drew (Below.refl base w)) (p := ⟨g, 0, none⟩) hbg _⟩)
/-! Trace. -/
def rowL (x : S132) : List UInt8 := Lib.join ((nums x).map fun a => (decS a).data.toList) [32] ++ [10]
def textL (l : List S132) : List UInt8 := l.flatMap rowL
def traceS (l : List S132) : List UInt8 × Int := if 4096 < l.length then ([], 3) else if l.any rowB = true then ([], 23) else (textL l, 0)
theorem jtail_len : ∀ (xs : List (List UInt8)) (m : Nat), (∀ x ∈ xs, x.length ≤ m) → (Lib.joinTail [32] xs).length ≤ xs.length * (m + 1)
  | [], m, h => by simp [Lib.joinTail]
  | x :: t, m, h => by
    have h1 := jtail_len t m (fun y hy => h y (List.mem_cons_of_mem _ hy))
    have h2 := h x List.mem_cons_self
    have e : Lib.joinTail [32] (x :: t) = [32] ++ x ++ Lib.joinTail [32] t := by simp [Lib.joinTail]
    rw [e, List.length_append, List.length_append, List.length_cons, List.length_cons, List.length_nil]
    have e2 : (t.length + 1) * (m + 1) = t.length * (m + 1) + (m + 1) := Nat.succ_mul _ _
    omega
theorem join_len (xs : List (List UInt8)) (m : Nat) (h : ∀ x ∈ xs, x.length ≤ m) : (Lib.join xs [32]).length ≤ xs.length * (m + 1) := by
  cases xs with
  | nil => simp [Lib.join]
  | cons x t =>
    have h1 := jtail_len t m (fun y hy => h y (List.mem_cons_of_mem _ hy))
    have h2 := h x List.mem_cons_self
    rw [Lib.join_cons, List.length_append, List.length_cons]
    have e2 : (t.length + 1) * (m + 1) = t.length * (m + 1) + (m + 1) := Nat.succ_mul _ _
    omega
theorem jtail_count : ∀ (xs : List (List UInt8)), (∀ x ∈ xs, (10 : UInt8) ∉ x) → (10 : UInt8) ∉ Lib.joinTail [32] xs
  | [], h => by simp [Lib.joinTail]
  | x :: t, h => by
    have h1 := jtail_count t (fun y hy => h y (List.mem_cons_of_mem _ hy))
    have h2 := h x List.mem_cons_self
    have e : Lib.joinTail [32] (x :: t) = [32] ++ x ++ Lib.joinTail [32] t := by simp [Lib.joinTail]
    rw [e]
    simp only [List.mem_append, not_or]
    exact ⟨⟨by decide, h2⟩, h1⟩
theorem join_count (xs : List (List UInt8)) (h : ∀ x ∈ xs, (10 : UInt8) ∉ x) : (10 : UInt8) ∉ Lib.join xs [32] := by
  cases xs with
  | nil => simp [Lib.join]
  | cons x t =>
    have h1 := jtail_count t (fun y hy => h y (List.mem_cons_of_mem _ hy))
    have h2 := h x List.mem_cons_self
    rw [Lib.join_cons, List.mem_append, not_or]
    exact ⟨h2, h1⟩
theorem rowL_count {x : S132} (h : In64 (nums x)) : (rowL x).count 10 = 1 := by
  unfold rowL
  rw [List.count_append, List.count_eq_zero_of_not_mem]
  · rfl
  · refine join_count _ (fun y hy => ?_)
    obtain ⟨a, ha, rfl⟩ := List.mem_map.1 hy
    intro h10
    rcases (decS_ok (h a ha).1 (h a ha).2).2.2.2 _ h10 with e | ⟨e1, e2⟩
    · exact absurd e (by decide)
    · exact absurd e1 (by decide)
theorem textL_count : ∀ (l : List S132), (∀ x ∈ l, In64 (nums x)) → (textL l).count 10 = l.length
  | [], _ => rfl
  | x :: t, h => by
    have h1 := textL_count t (fun y hy => h y (List.mem_cons_of_mem _ hy))
    have h2 := rowL_count (h x List.mem_cons_self)
    have e : textL (x :: t) = rowL x ++ textL t := rfl
    rw [e, List.count_append, h1, h2, List.length_cons]
    omega
theorem rowL_len {x : S132} (h : In64 (nums x)) : (rowL x).length ≤ 400 := by
  unfold rowL
  rw [List.length_append]
  have := join_len ((nums x).map fun a => (decS a).data.toList) 22 (fun y hy => by
    obtain ⟨a, ha, rfl⟩ := List.mem_map.1 hy
    have := (decS_ok (h a ha).1 (h a ha).2).2.2.1
    show (decS a).data.toList.length ≤ 22
    rw [Array.length_toList]; exact this)
  rw [List.length_map] at this
  have e : (nums x).length = 16 := rfl
  simp only [List.length_cons, List.length_nil]
  omega
theorem textL_len : ∀ (l : List S132), (∀ x ∈ l, In64 (nums x)) → (textL l).length ≤ l.length * 400
  | [], _ => by simp [textL]
  | x :: t, h => by
    have h1 := textL_len t (fun y hy => h y (List.mem_cons_of_mem _ hy))
    have h2 := rowL_len (h x List.mem_cons_self)
    have e : textL (x :: t) = rowL x ++ textL t := rfl
    rw [e, List.length_append, List.length_cons]
    omega
set_option maxHeartbeats 4000000 in
set_option maxRecDepth 100000 in
theorem trace.calls (A : Option Addr) (c : Nat) (l : List S132) (w : World) (hr : Kd.C k132 w A l.length l) (hc : l.length ≤ c) (h64 : ∀ x ∈ l, In64 (nums x)) : Calls Tryd.prog 28 #[.slice A l.length c] w fun e w' => e = .returned (.tuple #[.string ⟨(traceS l).1.toArray⟩, .int .i64 (traceS l).2]) ∧ Below w.heap.size w w' := by
  have HR := Aside0.mk hr
  have HC := Aside0.mk hc
  have H64 := Aside0.mk h64
  have HA := Aside0.mk (row_any.calls A c l w hr hc)
  obtain ⟨F, hF⟩ : ∃ F, F = traceS l := ⟨_, rfl⟩
  rw [← hF]
  have HF : Aside0 (F = if 4096 < l.length then ([], 3) else if l.any rowB = true then ([], 23) else (textL l, 0)) := ⟨hF⟩
  clear hr hc h64 hF
  by_cases h1 : 4096 < l.length
  · have hF : F = ([], 3) := HF.out.trans (if_pos h1)
    subst hF
    clear HF
    go_enter Tryd.func28, Tryd.ntmps28
    go_wp2_with fail
    go_ret2
    exact ⟨rfl, Below.refl _ _⟩
  · obtain ⟨o, ho⟩ : ∃ o, o = l.any rowB := ⟨_, rfl⟩
    have HF := Aside0.mk (HF.out.trans (if_neg h1))
    rw [← ho] at HF HA
    clear ho
    cases o
    · have hF : F = (textL l, 0) := HF.out.trans (if_neg (by decide))
      subst hF
      clear HF
      go_enter Tryd.func28, Tryd.ntmps28
      go_wp2_with fail
      try go_at_call 55
      refine HA.out.mono ?_
      rintro e w1 ⟨rfl, hb⟩
      have HB := Aside0.mk hb
      have HBL := Aside0.mk (bld_fresh 116 [] w1 w.heap.size hb.size)
      have HB1 := Aside0.mk (hb.trans ((below_alloc (Below.refl w1.heap.size w1) (.cells #[.pointer none, .slice none 0 0] 116 (0, 0))).mono hb.size))
      clear hb HA
      go_wp2_with fail
      go_loopw [6, 7, 17] (fun v6 v7 v17 W => ∃ i : Nat, i ≤ l.length ∧ v17 = .int .i64 i ∧ Aside0 (Bld 116 w.heap.size w1.heap.size (textL (l.take i)) [] W) ∧ Aside0 (Below w.heap.size w W)) (fun _ _ v _ => l.length - (intOf v).toNat)
      case atStart => exact ⟨0, by omega, rfl, HBL, HB1⟩
      case round =>
        clear HBL HB1
        obtain ⟨i, hi, rfl, HBL, HB1⟩ := hrel
        by_cases hlt : i < l.length
        · obtain ⟨ad, e1, hx0, hx1, hx2, hx3, hx4, hx5, hx6, hx7, hx8, hx9, hx10, hx11, hx12, hx13, hx14, hx15⟩ := at_T132 (k132_C_below HR.out HB1.out (Nat.le_refl _)) ((i : Nat) : Int) (by omega) (by omega)
          cases e1
          have HT : Aside0 (textL (l.take (i + 1)) = textL (l.take i) ++ rowL (rd_T132 l ((i : Nat) : Int))) := ⟨by
            rw [List.take_succ_eq_append_getElem hlt]
            unfold textL rd_T132
            rw [List.flatMap_append, Int.toNat_natCast, List.getD_eq_getElem?_getD, List.getElem?_eq_getElem hlt]
            simp⟩
          have HX64 : Aside0 (In64 (nums (rd_T132 l ((i : Nat) : Int)))) := ⟨by
            unfold rd_T132
            rw [Int.toNat_natCast, List.getD_eq_getElem?_getD, List.getElem?_eq_getElem hlt]
            exact H64.out _ (List.getElem_mem hlt)⟩
          have HLN : Aside0 ((textL (l.take i)).length ≤ 1700000) := ⟨by
            have := textL_len (l.take i) (fun y hy => H64.out y (List.mem_of_mem_take hy))
            have := List.length_take_le i l
            omega⟩
          simp only [Int.toNat_natCast] at hx0 hx1 hx2 hx3 hx4 hx5 hx6 hx7 hx8 hx9 hx10 hx11 hx12 hx13 hx14 hx15
          generalize rd_T132 l ((i : Nat) : Int) = x at hx0 hx1 hx2 hx3 hx4 hx5 hx6 hx7 hx8 hx9 hx10 hx11 hx12 hx13 hx14 hx15 HT HX64
          go_wp2_with (first | ((with_reducible refine gate_dst (N := 6) rfl ?_); refine box_event ?hg (N := 6) ?hd (cs := #[.int .i64 0, .int .i64 0, .int .i64 0, .int .i64 0, .int .i64 0, .int .i64 0, .int .i64 0, .int .i64 0, .int .i64 0, .int .i64 0, .int .i64 0, .int .i64 0, .int .i64 0, .int .i64 0, .int .i64 0, .int .i64 0]) (t := 132) ?hr ?_; (case hd => rfl); (case hg => rfl); (case hr => first | (go_simp; done) | (go_simp; rfl)); intro gb hg w2 hbox hb; have HB2 := Aside0.mk hb; have BK2 := Aside0.mk hbox; have HG := Aside0.mk hg; clear hb hbox hg) | ((with_reducible refine gate_store (p := 6) rfl ?_); refine store_all rfl rfl 132 _ _ rfl #[.int .i64 x.f0, .int .i64 x.f1, .int .i64 x.f2, .int .i64 x.f3, .int .i64 x.f4, .int .i64 x.f5, .int .i64 x.f6, .int .i64 x.f7, .int .i64 x.f8, .int .i64 x.f9, .int .i64 x.f10, .int .i64 x.f11, .int .i64 x.f12, .int .i64 x.f13, .int .i64 x.f14, .int .i64 x.f15] rfl rfl BK2.out rfl (by kernel_rfl) (by rfl) ?_; intro w4 h1 h2; have BK4 := Aside0.mk h1; have HC4 := Aside0.mk h2; have BK5 := Aside0.mk ((Ch.of_below (below_alloc (Below.refl w4.heap.size w4) (.cells #[.slice none 0 0] 136 (0, 0))) (fun _ => False)).heap h1 (fun h => h)); have hc0 : (w4.alloc (.cells #[.slice none 0 0] 136 (0, 0))).cell? ⟨gb, 0, none⟩ = some (.int .i64 x.f0) := zcell BK5.out 0 _ rfl; have hc1 : (w4.alloc (.cells #[.slice none 0 0] 136 (0, 0))).cell? ⟨gb, 1, none⟩ = some (.int .i64 x.f1) := zcell BK5.out 1 _ rfl; have hc2 : (w4.alloc (.cells #[.slice none 0 0] 136 (0, 0))).cell? ⟨gb, 2, none⟩ = some (.int .i64 x.f2) := zcell BK5.out 2 _ rfl; have hc3 : (w4.alloc (.cells #[.slice none 0 0] 136 (0, 0))).cell? ⟨gb, 3, none⟩ = some (.int .i64 x.f3) := zcell BK5.out 3 _ rfl; have hc4 : (w4.alloc (.cells #[.slice none 0 0] 136 (0, 0))).cell? ⟨gb, 4, none⟩ = some (.int .i64 x.f4) := zcell BK5.out 4 _ rfl; have hc5 : (w4.alloc (.cells #[.slice none 0 0] 136 (0, 0))).cell? ⟨gb, 5, none⟩ = some (.int .i64 x.f5) := zcell BK5.out 5 _ rfl; have hc6 : (w4.alloc (.cells #[.slice none 0 0] 136 (0, 0))).cell? ⟨gb, 6, none⟩ = some (.int .i64 x.f6) := zcell BK5.out 6 _ rfl; have hc7 : (w4.alloc (.cells #[.slice none 0 0] 136 (0, 0))).cell? ⟨gb, 7, none⟩ = some (.int .i64 x.f7) := zcell BK5.out 7 _ rfl; clear h1 h2 hx0 hx1 hx2 hx3 hx4 hx5 hx6 hx7 hx8 hx9 hx10 hx11 hx12 hx13 hx14 hx15))
          try go_at_call 57
          have hgp : gb < w4.heap.size := lt_of_block BK4.out
          have e5 : (w4.alloc (.cells #[.slice none 0 0] 136 (0, 0))).heap.size = w4.heap.size + 1 := Array.size_push _
          have LA5 : LineAt (w4.alloc (.cells #[.slice none 0 0] 136 (0, 0))) w4.heap.size (w4.heap.size + 1) [] := ⟨_, heap_alloc_new w4 _, Kd.R_nil _ _ _ _ _⟩
          have LA6 := LA5.below (below_alloc (Below.refl _ _) (.cells #[.int .i64 x.f0, .int .i64 x.f1, .int .i64 x.f2, .int .i64 x.f3, .int .i64 x.f4, .int .i64 x.f5, .int .i64 x.f6, .int .i64 x.f7] 3 (0, 0)))
          have HG6 := heap_alloc_new (w4.alloc (.cells #[.slice none 0 0] 136 (0, 0))) (.cells #[.int .i64 x.f0, .int .i64 x.f1, .int .i64 x.f2, .int .i64 x.f3, .int .i64 x.f4, .int .i64 x.f5, .int .i64 x.f6, .int .i64 x.f7] 3 (0, 0))
          rw [e5] at HG6
          have HB6 : Below wr.heap.size wr ((w4.alloc (.cells #[.slice none 0 0] 136 (0, 0))).alloc (.cells #[.int .i64 x.f0, .int .i64 x.f1, .int .i64 x.f2, .int .i64 x.f3, .int .i64 x.f4, .int .i64 x.f5, .int .i64 x.f6, .int .i64 x.f7] 3 (0, 0))) := ((below_ch HB2.out HC4.out HB2.out.size (fun k h => by have := HG.out; omega)).trans ((below_alloc (Below.refl w4.heap.size w4) _).mono (by have := HG.out; omega))).trans ((below_alloc (Below.refl _ _) _).mono (by have := HG.out; omega))
          have e6 : ((w4.alloc (.cells #[.slice none 0 0] 136 (0, 0))).alloc (.cells #[.int .i64 x.f0, .int .i64 x.f1, .int .i64 x.f2, .int .i64 x.f3, .int .i64 x.f4, .int .i64 x.f5, .int .i64 x.f6, .int .i64 x.f7] 3 (0, 0))).heap.size = w4.heap.size + 2 := (Array.size_push _).trans (by rw [e5])
          have BK6 := (Ch.of_below (below_alloc (Below.refl _ _) (.cells #[.int .i64 x.f0, .int .i64 x.f1, .int .i64 x.f2, .int .i64 x.f3, .int .i64 x.f4, .int .i64 x.f5, .int .i64 x.f6, .int .i64 x.f7] 3 (0, 0))) (fun _ => False)).heap BK5.out (fun h => h)
          have h641 : In64 [x.f0, x.f1, x.f2, x.f3, x.f4, x.f5, x.f6, x.f7] := fun y hy => HX64.out y (List.mem_append_left [x.f8, x.f9, x.f10, x.f11, x.f12, x.f13, x.f14, x.f15] hy)
          have h642 : In64 [x.f8, x.f9, x.f10, x.f11, x.f12, x.f13, x.f14, x.f15] := fun y hy => HX64.out y (List.mem_append_right [x.f0, x.f1, x.f2, x.f3, x.f4, x.f5, x.f6, x.f7] hy)
          generalize (w4.alloc (.cells #[.slice none 0 0] 136 (0, 0))).alloc (.cells #[.int .i64 x.f0, .int .i64 x.f1, .int .i64 x.f2, .int .i64 x.f3, .int .i64 x.f4, .int .i64 x.f5, .int .i64 x.f6, .int .i64 x.f7] 3 (0, 0)) = w6 at LA6 HG6 HB6 e6 BK6 ⊢
          obtain ⟨pb, hpb⟩ : ∃ pb, pb = w4.heap.size := ⟨_, rfl⟩
          rw [← hpb] at LA6 HG6 e6 hgp ⊢
          have HGP : Aside0 (gb < pb) := ⟨hgp⟩
          have HPW : Aside0 (wr.heap.size ≤ pb) := ⟨by have := HG.out; omega⟩
          clear hc0 hc1 hc2 hc3 hc4 hc5 hc6 hc7 LA5 e5 BK5 BK4 hpb HB2 HC4 BK2
          refine (lnumbers.calls pb (pb + 1) [] [x.f0, x.f1, x.f2, x.f3, x.f4, x.f5, x.f6, x.f7] (pb + 1) 8 w6 LA6 HG6 (by omega) (by omega) (by omega) h641 (by simp) (by simp)).mono ?_
          rintro e w7 ⟨rfl, h1', h2', h3'⟩
          have LA7 := Aside0.mk h1'
          have HB7 := Aside0.mk (HB6.trans (h3'.mono HPW.out))
          have HZ7 : Aside0 (pb + 2 ≤ w7.heap.size) := ⟨by have := h3'.size; omega⟩
          have BK7 := Aside0.mk (h2'.keep _ _ _ BK6 (by omega) (by decide))
          have hc8 : w7.cell? ⟨gb, 8, none⟩ = some (.int .i64 x.f8) := zcell BK7.out 8 _ rfl
          have hc9 : w7.cell? ⟨gb, 9, none⟩ = some (.int .i64 x.f9) := zcell BK7.out 9 _ rfl
          have hc10 : w7.cell? ⟨gb, 10, none⟩ = some (.int .i64 x.f10) := zcell BK7.out 10 _ rfl
          have hc11 : w7.cell? ⟨gb, 11, none⟩ = some (.int .i64 x.f11) := zcell BK7.out 11 _ rfl
          have hc12 : w7.cell? ⟨gb, 12, none⟩ = some (.int .i64 x.f12) := zcell BK7.out 12 _ rfl
          have hc13 : w7.cell? ⟨gb, 13, none⟩ = some (.int .i64 x.f13) := zcell BK7.out 13 _ rfl
          have hc14 : w7.cell? ⟨gb, 14, none⟩ = some (.int .i64 x.f14) := zcell BK7.out 14 _ rfl
          have hc15 : w7.cell? ⟨gb, 15, none⟩ = some (.int .i64 x.f15) := zcell BK7.out 15 _ rfl
          have H642 := Aside0.mk h642
          clear h1' h2' h3' LA6 HG6 HB6 e6 BK6 h641 h642 hgp
          go_wp2_with fail
          try go_at_call 57
          have LA8 := LA7.out.below (below_alloc (Below.refl _ _) (.cells #[.int .i64 x.f8, .int .i64 x.f9, .int .i64 x.f10, .int .i64 x.f11, .int .i64 x.f12, .int .i64 x.f13, .int .i64 x.f14, .int .i64 x.f15] 3 (0, 0)))
          have HG8 := heap_alloc_new w7 (.cells #[.int .i64 x.f8, .int .i64 x.f9, .int .i64 x.f10, .int .i64 x.f11, .int .i64 x.f12, .int .i64 x.f13, .int .i64 x.f14, .int .i64 x.f15] 3 (0, 0))
          have HB8 := HB7.out.trans ((below_alloc (Below.refl w7.heap.size w7) (.cells #[.int .i64 x.f8, .int .i64 x.f9, .int .i64 x.f10, .int .i64 x.f11, .int .i64 x.f12, .int .i64 x.f13, .int .i64 x.f14, .int .i64 x.f15] 3 (0, 0))).mono (by have := HZ7.out; have := HPW.out; omega))
          have e8 : (w7.alloc (.cells #[.int .i64 x.f8, .int .i64 x.f9, .int .i64 x.f10, .int .i64 x.f11, .int .i64 x.f12, .int .i64 x.f13, .int .i64 x.f14, .int .i64 x.f15] 3 (0, 0))).heap.size = w7.heap.size + 1 := Array.size_push _
          refine (lnumbers.calls pb (pb + 1) _ [x.f8, x.f9, x.f10, x.f11, x.f12, x.f13, x.f14, x.f15] w7.heap.size 8 _ LA8 HG8 (by have := HZ7.out; omega) (by omega) (by have := HZ7.out; omega) H642.out (by simp) (by simp)).mono ?_
          rintro e w9 ⟨rfl, h1', h2', h3'⟩
          have LA9 : Aside0 (LineAt w9 pb (pb + 1) ((nums x).map decS)) := ⟨h1'⟩
          have HB9 := Aside0.mk (HB8.trans (h3'.mono HPW.out))
          clear h1' h2' h3' LA8 HG8 HB8 e8 LA7 HB7 BK7 H642 hc8 hc9 hc10 hc11 hc12 hc13 hc14 hc15
          go_wp2_with fail
          try go_at_call 58
          refine (lstring.calls pb (pb + 1) _ w9 LA9.out (by simp [nums]) (by have := rowL_len HX64.out; unfold rowL at this; rw [List.length_append] at this; rw [List.map_map]; exact Nat.le_trans (Nat.le_trans (Nat.le_add_right _ _) this) (by decide))).mono ?_
          rintro e w10 ⟨rfl, hb'⟩
          have HJ : Aside0 ((joinL ((nums x).map decS) ++ (⟨#[10]⟩ : ByteArray)).data.toList = rowL x) := ⟨by
            rw [ByteArray.data_append, Array.toList_append]
            unfold joinL rowL
            rw [List.map_map]
            rfl⟩
          have HJZ : Aside0 ((joinL ((nums x).map decS) ++ (⟨#[10]⟩ : ByteArray)).size ≤ 400) := ⟨by
            have := rowL_len HX64.out
            rw [← HJ.out, Array.length_toList] at this
            exact this⟩
          generalize joinL ((nums x).map decS) = js at HJ HJZ ⊢
          have hjs : js.size + 1 ≤ 400 := by have := HJZ.out; rw [ByteArray.size_append] at this; exact this
          have HB10 := Aside0.mk (HB9.out.trans (hb'.mono (by have := HB9.out.size; omega)))
          clear hb' HB9 LA9
          go_wp2_with fail
          try go_at_call 48
          refine (bwrite.calls 116 w.heap.size w1.heap.size (textL (l.take i)) [] (js ++ (⟨#[10]⟩ : ByteArray)) w10 (HBL.out.step (Ch.of_below HB10.out (fun _ => False))) (by decide) HB.out.size (by have := HLN.out; have := HJZ.out; omega) (by kernel_rfl)).mono ?_
          rintro e w11 ⟨rfl, h1', h2', h3'⟩
          have HBL2 : Aside0 (Bld 116 w.heap.size w1.heap.size (textL (l.take (i + 1))) [] w11) := ⟨by rw [HT.out, ← HJ.out]; exact h1'⟩
          have HB2 := Aside0.mk ((HB1.out.trans (HB10.out.mono HB1.out.size)).trans h3')
          clear h1' h2' h3' HJ HJZ hjs HT HBL HB1 HB10 HX64
          go_wp2_with fail
          refine ⟨⟨i + 1, by omega, by go_num, HBL2, HB2⟩, ?_⟩
          simp [intOf]; omega
        · obtain rfl : i = l.length := by omega
          have HBL2 := Aside0.mk (show Bld 116 w.heap.size w1.heap.size (textL l) [] wr from by have := HBL.out; rw [List.take_length] at this; exact this)
          clear HBL
          go_wp2_with fail
          try go_at_call 50
          refine (bstring.calls 116 w.heap.size w1.heap.size (textL l) [] wr HBL2.out HB.out.size).mono ?_
          rintro e w5 ⟨rfl, hb⟩
          have HB5 := Aside0.mk (HB1.out.trans hb)
          clear hb HBL2
          go_wp2_with fail
          go_ret2
          exact ⟨rfl, HB5.out⟩
    · have hF : F = ([], 23) := HF.out.trans (if_pos rfl)
      subst hF
      clear HF
      go_enter Tryd.func28, Tryd.ntmps28
      go_wp2_with fail
      try go_at_call 55
      refine HA.out.mono ?_
      rintro e w1 ⟨rfl, hb⟩
      have HB := Aside0.mk hb
      clear hb HA
      go_wp2_with fail
      go_ret2
      exact ⟨rfl, HB.out⟩
end Go.Proofs.YtaoffnhladfdcaaDoor.EScriptTrace
