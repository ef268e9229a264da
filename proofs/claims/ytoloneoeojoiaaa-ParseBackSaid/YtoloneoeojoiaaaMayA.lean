/- The printer's texts, names, numbers. -/
import Derived.Deep.RegionHeld2
import Derived.WalkSpells
import Derived.WalkLawsBesides
import Derived.WalkKit
import Derived.Deep.RegionHeld3
import Derived.Deep.RegionLaw
import Derived.StillTailTactics
import Derived.Deep.MidRow
import Derived.Defers
import Derived.Recover
import Derived.Test.YtoloneoeojoiaaaEParseBackx0
import Derived.Test.YtoloneoeojoiaaaEParseBackx1
import Derived.Test.YtoloneoeojoiaaaEParseBackx2
import Derived.Test.YtoloneoeojoiaaaEParseBackx3
import Derived.Test.YtoloneoeojoiaaaEParseBackx5
namespace Go.Proofs.Ytoloneoeojoiaaa.EParseBack
open Go.RowKit Go.Shelf Go.Proofs.YtoloneoeojoiaaaW.PrintWords Go.Proofs.YtoloneoeojoiaaaW.PrintLast Go.Proofs.YtoloneoeojoiaaaW.PrintMore
set_option linter.unusedVariables false
set_option linter.unusedSimpArgs false
/-- A panic with an error. -/
def pnc (c : Int) : List PanicEntry := [{ v := .iface 24 (.int .i64 c), recovered := false }]
set_option maxHeartbeats 400000 in
theorem need_yes.calls (c : Int) (w : World) : Calls Try.prog 54 #[.bool true, .int .i64 c] w fun e w' => e = .returned (.tuple #[]) ∧ w = w' := by
  go_enter Try.func54, Try.ntmps54
  go_wp2_with fail
  go_end0
  exact ⟨rfl, rfl⟩
set_option maxHeartbeats 400000 in
theorem need_no.calls (c : Int) (w : World) : Calls Try.prog 54 #[.bool false, .int .i64 c] w fun e w' => e = .panicked (pnc c) ∧ w = w' := by
  go_enter Try.func54, Try.ntmps54
  go_wp2_with fail
  exact ⟨rfl, rfl, rfl⟩
/-- The row's memory is none of the block's. -/
def FarT (A : Option Addr) (n pb : Nat) : Prop := ∀ ad, A = some ad → 0 < n → ad.block ≠ pb
theorem addT_block (a : Addr) (k : Nat) : (a.add k).block = a.block := by
  unfold Addr.add; split <;> rfl
theorem C31_ch {w w1 : World} {A : Option Addr} {n pb : Nat} {l : List S31} (h : Kd.C k31 w A n l) (hc : Ch (fun k => k = pb) w w1) (hf : FarT A n pb) : Kd.C k31 w1 A n l := by
  refine ⟨h.1, h.2.1, fun hp => ?_⟩
  obtain ⟨ad, e, f⟩ := h.2.2 hp
  refine ⟨ad, e, fun j p hj => ?_⟩
  obtain ⟨c, h1, h2, h3⟩ := f j p hj
  have := k31_open h2
  subst this
  exact ⟨_, h1, k31_mk _ _, fun i u hu => hc.cell (h3 i u hu) (by rw [addT_block]; exact hf ad e hp)⟩
def dropT (A : Option Addr) (c m : Nat) : Option Addr := if c = m then A else A.map (·.add (m * 3))
theorem C_dropT {w : World} {A : Option Addr} {c m : Nat} {l : List S31} (h : Kd.C k31 w A l.length l) (hm : m ≤ l.length) (hc : l.length ≤ c) : Kd.C k31 w (dropT A c m) (l.drop m).length (l.drop m) := Kd.C_drop h hm hc
theorem far_dropT {A : Option Addr} {c m n k rb : Nat} (h : FarT A n rb) (hk : 0 < k → 0 < n) : FarT (dropT A c m) k rb := by
  intro ad e hp
  unfold dropT at e
  split at e
  · exact h ad e (hk hp)
  · cases A with
    | none => cases e
    | some a =>
      injection e with e
      subst e
      rw [addT_block]
      exact h a rfl (hk hp)
theorem cutT (A : Option Addr) (n c : Nat) (lo : Int) (h0 : 0 ≤ lo) (h2 : lo ≤ n) : ∀ W : World, (Instr.slice 23 (.slice A n c) (some (.int .i64 lo)) none none).run Try.prog W = .ok (.slice (dropT A c lo.toNat) (n - lo.toNat) (c - lo.toNat)) W := by
  obtain ⟨i0, hi, hzz⟩ := Option.map_eq_some_iff.1 info31
  simp only [Prod.mk.injEq] at hzz
  exact cut_from 23 31 .i64 Try.underlying23 hi 3 hzz.2.1 A n c lo h0 h2
/-- What else a parser's block holds. -/
structure Sch where
  a : Value
  b : Value
  c : Value
  B : Nat
/-- The row that a block's first cell names lies below B. -/
def LowT (w : World) (pb B : Nat) : Prop := ∀ ad k c cs T m, w.heap[pb]? = some (.cells cs T m) → cs[0]? = some (.slice (some ad) k c) → 0 < k → ad.block < B
theorem LowT.heap {w w1 : World} {pb B : Nat} (h : LowT w pb B) (e : w1.heap[pb]? = w.heap[pb]?) : LowT w1 pb B := fun ad k c cs T m h1 h2 h3 => h ad k c cs T m (by rw [← e]; exact h1) h2 h3
theorem LowT.drop {w w1 : World} {pb B m c : Nat} {ad : Addr} {x y z u x' y' z' u' : Value} {T T' : TypeId} {q q' : Nat × Nat} (h : LowT w pb B) (h1 : w.heap[pb]? = some (.cells #[.slice (some ad) m c, x, y, z, u] T q)) (h2 : w1.heap[pb]? = some (.cells #[.slice (dropT (some ad) c 1) (m - 1) (c - 1), x', y', z', u'] T' q')) : LowT w1 pb B := by
  intro ad' k' c' cs T m' h3 h4 h5
  rw [h2] at h3
  injection h3 with h3
  injection h3 with h3 _ _
  subst h3
  simp only [List.getElem?_toArray, List.getElem?_cons_zero, Option.some.injEq, Value.slice.injEq] at h4
  obtain ⟨e1, e2, e3⟩ := h4
  have hb := h ad m c _ _ _ h1 rfl (by omega)
  unfold dropT at e1
  split at e1
  · injection e1 with e1
    rw [← e1]; exact hb
  · simp only [Option.map_some, Option.some.injEq] at e1
    rw [← e1, addT_block]; exact hb
/-- The parser stands ahead of these tokens. -/
structure TokAt (w : World) (pb : Nat) (s : Sch) (l : List S31) (n : Int) : Prop where
  mk ::
  at_ : ∃ A c, w.heap[pb]? = some (.cells #[.slice A l.length c, .int .i64 n, s.a, s.b, s.c] 80 (0, 0)) ∧ l.length ≤ c ∧ Kd.C k31 w A l.length l ∧ FarT A l.length pb
  low : LowT w pb s.B
theorem TokAt.below {w w1 : World} {pb : Nat} {s : Sch} {l : List S31} {n : Int} (h : TokAt w pb s l n) (hb : Below w.heap.size w w1) : TokAt w1 pb s l n := by
  obtain ⟨A, c, h1, h2, h3, h4⟩ := h.at_
  exact ⟨⟨A, c, (Ch.of_below hb (fun _ => False)).heap h1 (fun h => h), h2, Kd.C_below h3 hb, h4⟩, h.low.heap (hb.block pb (lt_of_block h1))⟩
def peekP (l : List S31) : S31 := match l with | [] => ⟨0, ⟨#[]⟩, 0⟩ | t :: _ => t
def hereP (l : List S31) (n : Int) : Int := match l with | [] => n | t :: _ => t.f2
theorem FarT.of_low {w : World} {pb B n c g : Nat} {A : Option Addr} {x y z u : Value} {T : TypeId} {q : Nat × Nat} (h : LowT w pb B) (h1 : w.heap[pb]? = some (.cells #[.slice A n c, x, y, z, u] T q)) : ∀ ad, A = some ad → 0 < n → ad.block < B := fun ad e hn => h ad n c _ _ _ h1 (by rw [e]; rfl) hn
theorem C31_low {w w1 : World} {A : Option Addr} {n B : Nat} {l : List S31} (h : Kd.C k31 w A n l) (hc : Ch (fun k => B ≤ k) w w1) (hf : ∀ ad, A = some ad → 0 < n → ad.block < B) : Kd.C k31 w1 A n l := by
  refine ⟨h.1, h.2.1, fun hp => ?_⟩
  obtain ⟨ad, e, f⟩ := h.2.2 hp
  refine ⟨ad, e, fun j p hj => ?_⟩
  obtain ⟨c, h1, h2, h3⟩ := f j p hj
  have := k31_open h2
  subst this
  exact ⟨_, h1, k31_mk _ _, fun i u hu => hc.cell (h3 i u hu) (by rw [addT_block]; have := hf ad e hp; omega)⟩
/-- What happens above B, the block itself apart, leaves the tokens. -/
theorem TokAt.above {w w1 : World} {pb B : Nat} {s : Sch} {l : List S31} {n : Int} (h : TokAt w pb s l n) (hc : Ch (fun k => B ≤ k) w w1) (hB : s.B ≤ B) (hp : pb < B) : TokAt w1 pb s l n := by
  obtain ⟨A, c, h1, h2, h3, h4⟩ := h.at_
  have h5 := hc.heap h1 (by omega)
  exact ⟨⟨A, c, h5, h2, C31_low h3 hc (fun ad e hn => Nat.lt_of_lt_of_le (FarT.of_low (g := 0) h.low h1 ad e hn) hB), h4⟩, h.low.heap (by rw [h5, h1])⟩
/-! A strings.Builder at the head of a block (of type T, more cells cs behind it): it holds l. -/
def Bld (T : TypeId) (base b : Nat) (l : List UInt8) (cs : List Value) (W : World) : Prop :=
  ∃ p v, W.heap[b]? = some (.cells (p :: v :: cs).toArray T (0, 0)) ∧ (p = .pointer none ∨ p = .pointer (some ⟨b, 0, none⟩)) ∧ W.ownsRow base 5 1 v l.length (Lib.byteCells l) ∧ v.ownBlock ≠ some b
/-- What a write to it leaves: all blocks but its own and rows of bytes. -/
structure KpB (b : Nat) (w w' : World) : Prop where
  keep : ∀ k cs t f, w.heap[k]? = some (.cells cs t f) → k ≠ b → t ≠ 5 → w'.heap[k]? = some (.cells cs t f)
theorem KpB.refl (b : Nat) (w : World) : KpB b w w := ⟨fun _ _ _ _ h _ _ => h⟩
theorem KpB.trans {b : Nat} {w w1 w2 : World} (h : KpB b w w1) (k : KpB b w1 w2) : KpB b w w2 := ⟨fun i cs t f h1 h2 h3 => k.keep i cs t f (h.keep i cs t f h1 h2 h3) h2 h3⟩
theorem KpB.of_ch {b : Nat} {w w1 : World} (h : Ch (fun k => k = b) w w1) : KpB b w w1 := ⟨fun i cs t f h1 h2 _ => (h.block i (lt_of_block h1) h2).trans h1⟩
theorem KpB.of_below {b : Nat} {w w1 : World} (h : Below w.heap.size w w1) : KpB b w w1 := KpB.of_ch (Ch.of_below h _)
theorem Bld.step {T : TypeId} {base b : Nat} {l : List UInt8} {cs : List Value} {w w1 : World} (h : Bld T base b l cs w) (hC : Ch (fun _ => False) w w1) : Bld T base b l cs w1 := by
  obtain ⟨p, v, hb, hp, hown, hne⟩ := h
  exact ⟨p, v, hC.heap hb (fun h => h), hp, own_move hown (fun k hk => hC.block k (World.ownsRow.lt hown k hk).2 (fun h => h)), hne⟩
set_option maxHeartbeats 1000000 in
theorem bcopy.calls (T : TypeId) (b : Nat) (p v : Value) (cs : List Value) (w : World) (hb : w.heap[b]? = some (.cells (p :: v :: cs).toArray T (0, 0))) (hp : p = .pointer none ∨ p = .pointer (some ⟨b, 0, none⟩))
    (hl : liesAt Try.prog Try.prog.depth T ((cs.length + 2) / Try.prog.cellsOf T) 0 101 1 = true) :
    Calls Try.prog 105 #[.pointer (some ⟨b, 0, none⟩)] w fun e w' => e = .returned (.tuple #[]) ∧ Ch (fun k => k = b) w w' ∧ w'.heap[b]? = some (.cells (.pointer (some ⟨b, 0, none⟩) :: v :: cs).toArray T (0, 0)) := by
  have HL := Aside0.mk hl
  have HBK := Aside0.mk hb
  have hc0 := zcell hb 0 p rfl
  have hf0 := zfree hb 0
  have hsz : (Try.prog.info? 101).map (·.size) = some 2 := by kernel_rfl
  obtain ⟨j, hj, hjs⟩ := Option.map_eq_some_iff.1 hsz
  rcases hp with rfl | rfl
  · have hsh : w.shape? b = some (T, cs.length + 2) := by simp [World.shape?, hb]
    have q1 := Lib.run_to_unsafe (P := Try.prog) w ⟨b, 0, none⟩ Try.underlying98 Try.underlying151 hj (by rw [hjs]; decide) hsh (by show 0 < cs.length + 2; omega)
    have q2 : ∀ a W, (callFunc 116 #[a]).run Try.prog W = .ok (.value a) W := fun a W => by
      rw [run_callFunc_extern Try.func116 (by kernel_rfl) (by kernel_rfl) (by kernel_rfl) (e := Extern.AbiNoEscape.same) (by kernel_rfl), Lib.run_noEscape]; rfl
    have q3 := Lib.run_from_unsafe (P := Try.prog) w ⟨b, 0, none⟩ Try.underlying151 Try.underlying98 hj hsh HL.out
    clear hb hl hsz hj hjs hsh
    go_enter Try.func105, Try.ntmps105
    go_wp2
    go_end0
    exact ⟨rfl, (Ch.refl (fun k => k = b) w).set (p := ⟨b, 0, none⟩) (.inl rfl) _, by have := zset HBK.out 0 (.pointer (some ⟨b, 0, none⟩)); simpa using this⟩
  · have q1 := Lib.run_neq_ptr_same (P := Try.prog) (w := w) ⟨b, 0, none⟩ Try.underlying98 hj
    clear hb hl hsz hj hjs
    go_enter Try.func105, Try.ntmps105
    go_wp2
    go_end0
    exact ⟨rfl, Ch.refl _ w, HBK.out⟩
set_option maxHeartbeats 2000000 in
theorem bwrite.calls (T : TypeId) (base b : Nat) (l : List UInt8) (cs : List Value) (s : ByteArray) (w : World) (h : Bld T base b l cs w) (hT : T ≠ 5) (hbb : base ≤ b) (hlen : l.length + s.size ≤ 140737488355328)
    (hl : liesAt Try.prog Try.prog.depth T ((cs.length + 2) / Try.prog.cellsOf T) 0 101 1 = true) :
    Calls Try.prog 91 #[.pointer (some ⟨b, 0, none⟩), .string s] w fun e w' => e = .returned (.tuple #[.int .i64 s.size, .nilIface]) ∧ Bld T base b (l ++ s.data.toList) cs w' ∧ KpB b w w' ∧ Below base w w' := by
  obtain ⟨p, v, hb, hp, hown, hne⟩ := h
  have hi0 : (Try.prog.info? 5).map (fun i => (i.zero, i.size, i.bytes)) = some (some (.int .u8 0), 1, 1) := by kernel_rfl
  obtain ⟨i0, hi, hz0, hz1, hz2⟩ := info_parts hi0
  have hlt : b < w.heap.size := lt_of_block hb
  have HC := Aside0.mk (bcopy.calls T b p v cs w hb hp hl)
  clear hb hp hl
  go_enter Try.func91, Try.ntmps91
  go_wp2_with fail
  refine HC.out.mono ?_
  rintro e w1 ⟨rfl, hC, hb1⟩
  have hown1 : w1.ownsRow base 5 1 v l.length (Lib.byteCells l) := own_move hown (fun k hk => hC.block k (World.ownsRow.lt hown k hk).2 (fun e => hne (by rw [hk, e])))
  have c1 := zcell hb1 1 v rfl
  have hsz1 : w.heap.size ≤ w1.heap.size := hC.size
  have HCH := Aside0.mk hC
  have HB1 := Aside0.mk hb1
  have HOW := Aside0.mk hown1
  clear hC hb1 hown hown1
  go_wp2_with (at_builtin; refine Lib.wpList_append_own_string _ rfl _ _ 99 9 rfl base 5 i0 Try.underlying99 Try.underlying9 hi hz0 hz1 hz2 _ _ _ rfl HOW.out s rfl ?c3 ?c4 ?c5 ?_)
  case c3 => unfold maxLen; omega
  case c4 => exact hlen
  case c5 => omega
  intro v' w2 hown' hgrow _
  have hb2 : w2.heap[b]? = some (.cells (.pointer (some ⟨b, 0, none⟩) :: v :: cs).toArray T (0, 0)) := (hgrow.block b (by omega) (fun e => hne e.symm)).trans HB1.out
  have d1 := zcell hb2 1 v rfl
  have f1 := zfree hb2 1
  have HB2 := Aside0.mk hb2
  have HOW2 := Aside0.mk hown'
  have HG := Aside0.mk hgrow
  obtain ⟨ao, n', cap, rfl⟩ : ∃ ao n' cap, v' = .slice ao n' cap := by
    rcases hown'.2 with ⟨hv, _⟩ | ⟨g, cap, cur, hv, _⟩
    · exact ⟨_, _, _, hv⟩
    · exact ⟨_, _, _, hv⟩
  clear hb2 hown' hgrow
  go_wp2_with fail
  go_ret2
  have hset := zset HB2.out 1 (.slice ao n' cap)
  have hne2 : (Value.slice ao n' cap).ownBlock ≠ some b := by
    intro e
    obtain ⟨cells, hc⟩ := own_typed HOW2.out b e
    rw [HB2.out] at hc
    injection hc with hc
    injection hc with _ hc
    exact hT hc
  refine ⟨rfl, ⟨.pointer (some ⟨b, 0, none⟩), .slice ao n' cap, by simpa using hset, .inr rfl, ?_, hne2⟩, ?_, ?_⟩
  · rw [List.length_append, Lib.byteCells_append, ← Lib.strCells_eq]
    have e1 : s.data.toList.length = s.size := Array.length_toList
    rw [e1]
    exact own_move HOW2.out (fun k hk => Below.heap_setCell w2 _ _ k (fun e => hne2 (by rw [hk, e])))
  · refine (KpB.of_ch HCH.out).trans (KpB.trans ⟨fun i cs t f h1 h2 h3 => (HG.out.block i (lt_of_block h1) (fun e => ?_)).trans h1⟩ (KpB.of_ch ((Ch.refl (fun k => k = b) w2).set (p := ⟨b, 1, none⟩) (.inl rfl) _)))
    obtain ⟨cells, hc⟩ := own_typed HOW.out i e.symm
    rw [hc] at h1
    injection h1 with h1
    injection h1 with _ h1
    exact h3 h1.symm
  · refine below_ch ?_ ((Ch.refl (fun k => k = b) w2).set (p := ⟨b, 1, none⟩) (.inl rfl) _) (by have := HG.out.size; omega) (fun k h => by omega)
    exact Below.grown (below_ch (Below.refl base w) HCH.out (by omega) (fun k h => by omega)) HG.out (by omega) (fun k hk => (World.ownsRow.lt HOW.out k hk).1)
theorem kp_freeze (b : Nat) {w : World} {g : Nat} {cur : Array Value} (hg : w.heap[g]? = some (.cells cur 5 (0, 0))) (n : Nat) : KpB b w (w.drew.freeze ⟨g, 0, none⟩ n) := ⟨fun k cs t f h _ ht => by
  unfold World.freeze
  split
  · exact h
  · simp only [Array.getElem?_modify]
    rw [if_neg]
    · exact h
    · intro e
      have e : g = k := e
      subst e
      rw [hg] at h
      injection h with h
      injection h with _ h2 _
      exact ht h2.symm⟩
set_option maxHeartbeats 2000000 in
theorem bstring.calls (T : TypeId) (base b : Nat) (l : List UInt8) (cs : List Value) (w : World) (h : Bld T base b l cs w) (hbb : base ≤ b) :
    Calls Try.prog 45 #[.pointer (some ⟨b, 0, none⟩)] w fun e w' => e = .returned (.string ⟨l.toArray⟩) ∧ Below base w w' ∧ KpB b w w' := by
  obtain ⟨p, v, hb, hp, hown, hne⟩ := h
  have hlt : b < w.heap.size := lt_of_block hb
  have HBK := Aside0.mk hb
  have hUN := fun W q => Lib.run_unsafeString_none (P := Try.prog) W 124 3 9 q
  rcases hown.2 with ⟨hv, hz⟩ | ⟨g, cap, cur, hv, hbg, hg, hnc, hcm, hcs, htake⟩
  · subst hv
    have hl : l = [] := List.eq_nil_of_length_eq_zero hz
    subst hl
    have c1 : w.drew.cell? ⟨b, 1, none⟩ = some (.slice none 0 0) := zcell (w := w.drew) hb 1 (.slice none 0 0) rfl
    have hSD : (Builtin.unsafeSliceData_ #[99] 124 #[.slice none 0 0]).run Try.prog w.drew = .ok (.pointer none) w.drew := rfl
    clear hown hb hz hp
    go_enter Try.func45, Try.ntmps45
    go_wp2
    go_region
    all_goals (go_wp2; go_ret; exact ⟨rfl, Below.drew (Below.refl base w), KpB.of_below (below_drew (Below.refl _ _))⟩)
  · subst hv
    by_cases h0 : l = []
    · subst h0
      by_cases hc0 : cap = 0
      · subst hc0
        have c1 : w.drew.cell? ⟨b, 1, none⟩ = some (.slice (some ⟨g, 0, none⟩) 0 0) := zcell (w := w.drew) hb 1 (.slice (some ⟨g, 0, none⟩) 0 0) rfl
        have hSD : (Builtin.unsafeSliceData_ #[99] 124 #[.slice (some ⟨g, 0, none⟩) 0 0]).run Try.prog w.drew = .ok (.pointer (some ⟨w.drew.heap.size, 0, none⟩)) (w.drew.alloc (.view ⟨g, 0, none⟩ 5)) :=
          Lib.run_unsafeSliceData_zero w.drew _ _ 5 Try.underlying124 ⟨g, 0, none⟩ 0 (5, cur.size) (by have hg' : w.drew.heap[g]? = some (.cells cur 5 (0, 0)) := hg; simp [World.shape?, hg'])
        have c2 : (w.drew.alloc (.view ⟨g, 0, none⟩ 5)).cell? ⟨b, 1, none⟩ = some (.slice (some ⟨g, 0, none⟩) 0 0) := zcell ((Lib.alloc_old w.drew _ b hlt).trans hb) 1 _ rfl
        have c3 : (w.alloc (.view ⟨g, 0, none⟩ 5)).drew.cell? ⟨b, 1, none⟩ = some (.slice (some ⟨g, 0, none⟩) 0 0) := c2
        have c0 : w.cell? ⟨b, 1, none⟩ = some (.slice (some ⟨g, 0, none⟩) 0 0) := c1
        clear hown hb hg htake hcs
        go_enter Try.func45, Try.ntmps45
        go_wp2
        go_region
        all_goals (go_wp2; go_ret; exact ⟨rfl, (Below.drew (Below.refl base w)).alloc (Nat.le_trans hbb (Nat.le_of_lt hlt)) _, KpB.of_below (below_alloc (below_drew (Below.refl _ _)) _)⟩)
      · have c1 : w.drew.cell? ⟨b, 1, none⟩ = some (.slice (some ⟨g, 0, none⟩) 0 cap) := zcell (w := w.drew) hb 1 (.slice (some ⟨g, 0, none⟩) 0 cap) rfl
        have hSD : (Builtin.unsafeSliceData_ #[99] 124 #[.slice (some ⟨g, 0, none⟩) 0 cap]).run Try.prog w.drew = .ok (.pointer (some ⟨g, 0, none⟩)) w.drew :=
          Lib.run_unsafeSliceData_row _ _ _ _ _ _ hc0
        clear hown hb hg htake hcs hc0
        go_enter Try.func45, Try.ntmps45
        go_wp2
        go_region
        all_goals (go_wp2; go_ret; exact ⟨rfl, Below.drew (Below.refl base w), KpB.of_below (below_drew (Below.refl _ _))⟩)
    · have hl0 : l.length ≠ 0 := by simpa using h0
      have c1 : w.drew.cell? ⟨b, 1, none⟩ = some (.slice (some ⟨g, 0, none⟩) l.length cap) := zcell (w := w.drew) hb 1 _ rfl
      have hSD : (Builtin.unsafeSliceData_ #[99] 124 #[.slice (some ⟨g, 0, none⟩) l.length cap]).run Try.prog w.drew = .ok (.pointer (some ⟨g, 0, none⟩)) w.drew :=
        Lib.run_unsafeSliceData_row _ _ _ _ _ _ (by omega)
      have hUS : (Builtin.unsafeString_ #[124, 3] 9 #[.pointer (some ⟨g, 0, none⟩), .int .i64 l.length]).run Try.prog w.drew = .ok (.string ⟨l.toArray⟩) (w.drew.freeze ⟨g, 0, none⟩ l.length) := by
        refine Lib.run_unsafeString_row w.drew 124 3 9 5 Try.underlying124 (by kernel_rfl) g cur.size (by have hg' : w.drew.heap[g]? = some (.cells cur 5 (0, 0)) := hg; simp [World.shape?, hg']) l h0 (by omega) (by unfold maxLen at hcm; omega) ?_
        intro j x hx
        have := hown.cells (g := g) rfl j (.int .u8 x.toNat) (by simp [Lib.byteCells, hx])
        exact this
      have HKF := Aside0.mk (kp_freeze b hg l.length)
      clear hown hb hg htake hcs h0 hl0 hUN
      go_enter Try.func45, Try.ntmps45
      go_wp2
      go_region
      all_goals (go_wp2; go_ret; exact ⟨rfl, Lib.below_freeze (Below.drew (Below.refl base w)) (p := ⟨g, 0, none⟩) hbg _, HKF.out⟩)
/-! The printer: what is written to its text. -/
def catL (l : List ByteArray) : List UInt8 := l.flatMap fun s => s.data.toList
theorem catL_snoc (l : List ByteArray) (s : ByteArray) : catL (l ++ [s]) = catL l ++ s.data.toList := by simp [catL]
theorem catL_le (l : List ByteArray) (i : Nat) : (catL (l.take i)).length ≤ (catL l).length := by
  have : catL l = catL (l.take i) ++ catL (l.drop i) := by
    unfold catL
    rw [← List.flatMap_append, List.take_append_drop]
  rw [this]; simp
theorem strs_get (ss : List ByteArray) (i : Nat) (h : i < ss.length) : (strs ss).toArray[i]? = some (.string (ss.getD i ByteArray.empty)) := by
  simp [strs, List.getD_eq_getElem?_getD, h]
theorem take_cat (ss : List ByteArray) (i : Nat) (h : i < ss.length) : catL (ss.take (i + 1)) = catL (ss.take i) ++ (ss.getD i ByteArray.empty).data.toList ∧ (catL (ss.take i)).length + (ss.getD i ByteArray.empty).size ≤ (catL ss).length := by
  have e : catL (ss.take (i + 1)) = catL (ss.take i) ++ (ss.getD i ByteArray.empty).data.toList := by
    rw [List.take_succ_eq_append_getElem h, catL_snoc]
    simp [List.getD_eq_getElem?_getD, h]
  refine ⟨e, ?_⟩
  have h1 := catL_le ss (i + 1)
  rw [e, List.length_append] at h1
  exact h1
/-- How a step of the printer ends: some letters more. -/
def Wrote (base b : Nat) (w : World) (l : List UInt8) (e : Ending) (w' : World) : Prop := e = .returned (.tuple #[]) ∧ Bld 108 base b l [] w' ∧ KpB b w w' ∧ Below base w w'
set_option maxHeartbeats 2000000 in
set_option maxRecDepth 100000 in
theorem texts.calls (base b g : Nat) (l : List UInt8) (ss : List ByteArray) (w : World) (h : Bld 108 base b l [] w) (hbb : base ≤ b) (hg : w.heap[g]? = some (.cells (strs ss).toArray 9 (0, 0))) (hgb : g ≠ b) (hss : ss.length ≤ 9) (hlen : l.length + (catL ss).length ≤ 100000000) :
    Calls Try.prog 70 #[.pointer (some ⟨b, 0, none⟩), .slice (some ⟨g, 0, none⟩) ss.length ss.length] w (Wrote base b w (l ++ catL ss)) := by
  have HB := Aside0.mk h
  have HG := Aside0.mk hg
  have HL := Aside0.mk hlen
  obtain ⟨n, hn⟩ : ∃ n, n = ss.length := ⟨_, rfl⟩
  rw [← hn] at hss ⊢
  have HN := Aside0.mk hn
  clear h hg hlen hn
  unfold Wrote
  go_enter Try.func70, Try.ntmps70
  go_wp2_with fail
  go_loopw [8] (fun v8 W => ∃ i : Nat, i ≤ n ∧ v8 = .int .i64 (i : Int) ∧ Aside0 (Bld 108 base b (l ++ catL (ss.take i)) [] W) ∧ Aside0 (W.heap[g]? = some (.cells (strs ss).toArray 9 (0, 0))) ∧ Aside0 (KpB b w W) ∧ Aside0 (Below base w W)) (fun v _ => n - (intOf v).toNat)
  case atStart => exact ⟨0, by omega, rfl, ⟨by simpa [catL] using HB.out⟩, HG, ⟨KpB.refl _ _⟩, ⟨Below.refl _ _⟩⟩
  case round =>
    clear HB HG
    obtain ⟨i, ile, rfl, HB, HG, HK, HBW⟩ := hrel
    by_cases hlt : i < n
    · have h2 : i < ss.length := by rw [← HN.out]; exact hlt
      have hx := zcell HG.out i _ (strs_get ss i h2)
      obtain ⟨e1, e2⟩ := take_cat ss i h2
      have HE := Aside0.mk e1
      have HLT := Aside0.mk (show (l ++ catL (ss.take i)).length + (ss.getD i ByteArray.empty).size ≤ 140737488355328 from by have h4 := HL.out; rw [List.length_append]; omega)
      clear e1 e2 h2
      obtain ⟨s, hs⟩ : ∃ s, s = ss.getD i ByteArray.empty := ⟨_, rfl⟩
      rw [← hs] at hx HLT HE
      clear hs
      go_wp2_with fail
      go_at_call 91
      refine (bwrite.calls 108 base b (l ++ catL (ss.take i)) [] s _ HB.out (by decide) hbb HLT.out (by kernel_rfl)).mono ?_
      rintro e w2 ⟨rfl, hb2, hk2, hbl⟩
      have HB2 : Aside0 (Bld 108 base b (l ++ catL (ss.take (i + 1))) [] w2) := ⟨by rw [HE.out, ← List.append_assoc]; exact hb2⟩
      have HG2 := Aside0.mk (hk2.keep _ _ _ _ HG.out hgb (by decide))
      have HK2 := Aside0.mk (HK.out.trans hk2)
      have HW2 := Aside0.mk (HBW.out.trans hbl)
      clear hb2 hk2 hbl hx
      go_wp2_with fail
      refine ⟨⟨i + 1, by omega, by go_num, HB2, HG2, HK2, HW2⟩, ?_⟩
      simp [intOf]; omega
    · obtain rfl : i = n := by omega
      go_wp2_with fail
      go_end0
      refine ⟨rfl, ?_, HK.out, HBW.out⟩
      have := HB.out
      rw [HN.out, List.take_length] at this
      exact this
theorem Wrote.from {base b : Nat} {w0 w : World} {l : List UInt8} {e : Ending} {w' : World} (h : Wrote base b w l e w') (hb : Below w0.heap.size w0 w) (hB : base ≤ w0.heap.size) : Wrote base b w0 l e w' :=
  ⟨h.1, h.2.1, (KpB.of_below hb).trans h.2.2.1, (below_b (Below.refl base w0) hb hB).trans h.2.2.2⟩
theorem Bld.below {base b : Nat} {l : List UInt8} {w w1 : World} (h : Bld 108 base b l [] w) (hb : Below w.heap.size w w1) : Bld 108 base b l [] w1 := h.step (Ch.of_below hb _)
theorem Bld.lt {base b : Nat} {l : List UInt8} {w : World} (h : Bld 108 base b l [] w) : b < w.heap.size := by
  obtain ⟨p, v, hb, _⟩ := h
  exact lt_of_block hb
/-- A fresh row of texts is written. -/
theorem texts_new (base b : Nat) (l : List UInt8) (ss : List ByteArray) (w : World) (h : Bld 108 base b l [] w) (hbb : base ≤ b) (hss : ss.length ≤ 9) (hlen : l.length + (catL ss).length ≤ 100000000) :
    Calls Try.prog 70 #[.pointer (some ⟨b, 0, none⟩), .slice (some ⟨w.heap.size, 0, none⟩) ss.length ss.length] (w.alloc (.cells (strs ss).toArray 9 (0, 0))) (Wrote base b w (l ++ catL ss)) :=
  (texts.calls base b w.heap.size l ss _ (h.below (below_alloc (Below.refl _ _) _)) hbb (heap_alloc_new w _) (Nat.ne_of_gt h.lt) hss hlen).mono fun e w' k => k.from (below_alloc (Below.refl _ _) _) (Nat.le_trans hbb (Nat.le_of_lt h.lt))
theorem texts_new1 (base b g : Nat) (l : List UInt8) (ss : List ByteArray) (w : World) (hg : g = w.heap.size) (h : Bld 108 base b l [] w) (hbb : base ≤ b) (hss : ss.length ≤ 9) (hlen : l.length + (catL ss).length ≤ 100000000) :
    Calls Try.prog 70 #[.pointer (some ⟨b, 0, none⟩), .slice (some ⟨g, 0, none⟩) ss.length ss.length] (w.alloc (.cells (strs ss).toArray 9 (0, 0))) (Wrote base b w (l ++ catL ss)) := by
  subst hg; exact texts_new base b l ss w h hbb hss hlen
theorem catL_one (s : ByteArray) : (catL [s]).length = s.size := by
  unfold catL
  rw [List.flatMap_cons, List.flatMap_nil, List.append_nil]
  exact Array.length_toList
theorem conv1 (w : World) (c : UInt8) (x : Int) (hx : (c.toNat : Int) = x) : (convert 99 9 (.slice (some ⟨w.heap.size, 0, none⟩) 1 1)).run Try.prog (w.alloc (.cells #[.int .u8 x] 5 (0, 0))) = .ok (.string (txt [c])) (w.alloc (.cells #[.int .u8 x] 5 (0, 0))) := by
  refine run_convert_bytes_back (P := Try.prog) _ 99 9 5 ⟨w.heap.size, 0, none⟩ 1 [c] (by kernel_rfl) (by kernel_rfl) (by kernel_rfl) ?_
  intro j hj
  have hj0 : j = 0 := by simpa using hj
  subst hj0
  have := zcell (heap_alloc_new w (.cells #[.int .u8 x] 5 (0, 0))) 0 _ rfl
  rw [List.getElem_singleton, hx]
  exact this
def decN (n : Nat) : List UInt8 := if n < 10 then [UInt8.ofNat (48 + n)] else decN (n / 10) ++ [UInt8.ofNat (48 + n % 10)]
decreasing_by omega
theorem decN_lt {n : Nat} (h : n < 10) : decN n = [UInt8.ofNat (48 + n)] := by
  rw [decN, if_pos h]
theorem decN_ge {n : Nat} (h : ¬ n < 10) : decN n = decN (n / 10) ++ [UInt8.ofNat (48 + n % 10)] := by
  rw [decN, if_neg h]
theorem digit_of (m : Nat) (hm : m ≤ 9) : ∃ c : UInt8, UInt8.ofNat (48 + m) = c ∧ (c.toNat : Int) = 48 + (m : Int) := by
  refine ⟨_, rfl, ?_⟩
  rw [UInt8.toNat_ofNat_of_lt' (by show 48 + m < 256; omega)]; omega
theorem dig_len (m k : Nat) (hm : 9 < m) (h : m * 10 ^ k ≤ 999999999) : k + 1 ≤ 10 ∧ (m / 10) * 10 ^ (k + 1) ≤ 999999999 := by
  constructor
  · rcases Nat.lt_or_ge k 9 with h1 | h1
    · omega
    · exfalso
      have h2 : 10 ^ 9 ≤ 10 ^ k := Nat.pow_le_pow_right (by decide) h1
      have h3 := Nat.mul_le_mul (Nat.le_of_lt hm) h2
      have h4 : 9 * 10 ^ 9 ≤ 999999999 := Nat.le_trans h3 h
      exact absurd h4 (by decide)
  · refine Nat.le_trans ?_ h
    rw [Nat.pow_succ, Nat.mul_comm (10 ^ k) 10, ← Nat.mul_assoc]
    exact Nat.mul_le_mul_right _ (Nat.div_mul_le_self m 10)
theorem catL_two (c : UInt8) (b : List UInt8) : catL [txt [c], txt b] = c :: b := by simp [catL, txt]
theorem two_le (l : List UInt8) (c : UInt8) (b : List UInt8) (h : l.length + 20 ≤ 100000000) (hb : b.length ≤ 10) : l.length + (catL [txt [c], txt b]).length ≤ 100000000 := by
  rw [catL_two, List.length_cons]; omega
theorem decN_two (n m : Nat) (l s : List UInt8) (c : UInt8) (h : decN n = decN m ++ s) (hm : m ≤ 9) (hc : UInt8.ofNat (48 + m) = c) : l ++ catL [txt [c], txt s] = l ++ decN n := by
  rw [catL_two, h, decN_lt (by omega), hc]; rfl
theorem txt_cat (a b : List UInt8) : txt a ++ txt b = txt (a ++ b) := by
  apply ByteArray.ext
  simp [txt, ByteArray.data_append]
set_option maxHeartbeats 400000 in
set_option maxRecDepth 100000 in
theorem pname.calls (base b : Nat) (l : List UInt8) (s : ByteArray) (w : World) (h : Bld 108 base b l [] w) (hbb : base ≤ b) (hs : nameB s = true) (hlen : l.length + s.size ≤ 100000000) :
    Calls Try.prog 93 #[.pointer (some ⟨b, 0, none⟩), .string s] w (Wrote base b w (l ++ s.data.toList)) := by
  have HB := Aside0.mk h
  have HS := Aside0.mk hs
  have HL := Aside0.mk hlen
  have HBB := Aside0.mk hbb
  clear h hs hlen hbb
  unfold Wrote
  go_enter Try.func93, Try.ntmps93
  go_wp2_with fail
  go_at_call 101
  refine (name_.calls s _).mono ?_
  rw [HS.out]
  rintro e w1 ⟨rfl, hb⟩
  have HB1 := Aside0.mk (HB.out.below hb)
  have HW1 := Aside0.mk hb
  clear hb
  go_wp2_with fail
  go_at_call 54
  refine (need_yes.calls 31 _).mono ?_
  rintro e w2 ⟨rfl, rfl⟩
  go_wp2_with fail
  go_at_call 70
  refine (texts_new base b l [s] w1 HB1.out HBB.out (by simp) (by rw [catL_one]; exact HL.out)).mono ?_
  rintro e w3 ⟨rfl, hb3, hk3, hw3⟩
  have HB3 := Aside0.mk hb3
  have HK3 := Aside0.mk ((KpB.of_below HW1.out).trans hk3)
  have HW3 := Aside0.mk ((below_b (Below.refl base w) HW1.out (Nat.le_trans HBB.out (Nat.le_of_lt HB.out.lt))).trans hw3)
  clear hb3 hk3 hw3
  go_wp2_with fail
  go_end0
  exact ⟨rfl, by have := HB3.out; simpa [catL] using this, HK3.out, HW3.out⟩
set_option maxHeartbeats 400000 in
set_option maxRecDepth 100000 in
theorem pnumber.calls (base b : Nat) (l : List UInt8) (n : Nat) (w : World) (h : Bld 108 base b l [] w) (hbb : base ≤ b) (hn : n ≤ 999999999) (hlen : l.length + 20 ≤ 100000000) :
    Calls Try.prog 94 #[.pointer (some ⟨b, 0, none⟩), .int .i64 (n : Int)] w (Wrote base b w (l ++ decN n)) := by
  have HB := Aside0.mk h
  have HN := Aside0.mk hn
  have HL := Aside0.mk hlen
  have HBB := Aside0.mk hbb
  have h0 : (0 : Int) ≤ ((n : Nat) : Int) := by omega
  have h1 : ((n : Nat) : Int) ≤ 999999999 := by omega
  have hd0 : decide ((0 : Int) ≤ ((n : Nat) : Int)) = true := decide_eq_true h0
  have hd1 : decide (((n : Nat) : Int) ≤ 999999999) = true := decide_eq_true h1
  have hs0 := HB.out.lt
  clear h hn hlen hbb
  unfold Wrote
  go_enter Try.func94, Try.ntmps94
  go_wp2_with fail
  go_at_call 54
  refine (need_yes.calls 4 _).mono ?_
  rintro e w1 ⟨rfl, rfl⟩
  go_wp2_with fail
  clear h0 h1 hd0 hd1
  go_loopw [1, 4] (fun v1 v4 W => ∃ (m : Nat) (s : List UInt8), v1 = .int .i64 (m : Int) ∧ v4 = .string (txt s) ∧ m ≤ 999999999 ∧ s.length ≤ 10 ∧ Aside0 (decN n = decN m ++ s) ∧ Aside0 ((m : Nat) * 10 ^ s.length ≤ 999999999) ∧ Aside0 (Below w.heap.size w W)) (fun v _ _ => (intOf v).toNat)
  case atStart => exact ⟨n, [], rfl, rfl, HN.out, by simp, ⟨by simp⟩, ⟨by simpa using HN.out⟩, ⟨Below.refl _ _⟩⟩
  case round =>
    obtain ⟨m, s, rfl, rfl, hm, hsl, HD, HP, HW⟩ := hrel
    by_cases h9 : 9 < m
    · have q1 : (9 : Int) < ((m : Nat) : Int) := by omega
      have q2 : ((m : Nat) : Int) ≤ 999999999 := by omega
      obtain ⟨c, hc, hci⟩ := digit_of (m % 10) (by omega)
      have hci2 : (c.toNat : Int) = 48 + (m : Int) % 10 := by omega
      have HC := Aside0.mk hc
      clear hc hci
      go_wp2_with fail
      rw [conv1 _ c _ hci2]
      simp only [Result.andThen]
      clear hci2
      have hsz : (txt [c]).size + (txt s).size ≤ 140737488355328 := by rw [txt_size, txt_size, List.length_singleton]; omega
      go_wp2_with fail
      rw [txt_cat]
      obtain ⟨d1, d2⟩ := dig_len m s.length h9 HP.out
      refine ⟨⟨m / 10, c :: s, by go_num, rfl, by omega, by rw [List.length_cons]; exact d1, ⟨?_⟩, ⟨by rw [List.length_cons]; exact d2⟩, ⟨below_alloc HW.out _⟩⟩, ?_⟩
      · rw [HD.out, decN_ge (by omega), HC.out, List.append_assoc]
        rfl
      · simp only [intOf]
        omega
    · have q1 : ¬ (9 : Int) < ((m : Nat) : Int) := by omega
      have q2 : ((m : Nat) : Int) ≤ 9 := by omega
      have q3 : (0 : Int) ≤ ((m : Nat) : Int) := by omega
      obtain ⟨c, hc, hci⟩ := digit_of m (by omega)
      have HC := Aside0.mk hc
      have HCI := Aside0.mk hci
      clear hc hci
      go_wp2_with fail
      rw [conv1 _ c _ HCI.out]
      simp only [Result.andThen]
      go_wp2_with fail
      have HB2 := HB.out.below (below_alloc HW.out (.cells #[.int .u8 (48 + (m : Int))] 5 (0, 0)))
      have HT := Aside0.mk (texts_new1 base b (wr.heap.size + 1) l [txt [c], txt s] (wr.alloc (.cells #[.int .u8 (48 + (m : Int))] 5 (0, 0))) (World.size_alloc wr _).symm HB2 HBB.out (show 2 ≤ 9 by decide) (two_le l c s HL.out hsl))
      refine (show Calls Try.prog 70 #[.pointer (some ⟨b, 0, none⟩), .slice (some ⟨wr.heap.size + 1, 0, none⟩) 2 2] _ _ from HT.out).mono ?_
      rintro e w3 ⟨rfl, hb3, hk3, hw3⟩
      go_wp2_with fail
      go_end0
      rw [decN_two n m l s c HD.out (by omega) HC.out] at hb3
      exact ⟨rfl, hb3, (KpB.of_below (below_alloc HW.out _)).trans hk3, (below_b (Below.refl base w) (below_alloc HW.out _) (Nat.le_trans HBB.out (Nat.le_of_lt HB.out.lt))).trans hw3⟩
theorem sz_list (s : ByteArray) : s.data.toList.length = s.size := Array.length_toList
theorem catL_cons (s : ByteArray) (ss : List ByteArray) : catL (s :: ss) = s.data.toList ++ catL ss := rfl
theorem catL_nil : catL [] = [] := rfl
theorem word_sp (u : ByteArray) : (catL [u, ⟨#[32]⟩]).length = u.size + 1 := by
  rw [catL_cons, List.length_append, sz_list]; rfl
/-- A literal is written. -/
theorem lits_new (base b g : Nat) (l : List UInt8) (ss : List ByteArray) (w : World) (h : Bld 108 base b l [] w) (hbb : base ≤ b) (hg : g = w.heap.size) (hss : ss.length ≤ 9) (hlen : l.length + (catL ss).length ≤ 100000000) :
    Calls Try.prog 70 #[.pointer (some ⟨b, 0, none⟩), .slice (some ⟨g, 0, none⟩) ss.length ss.length] (w.alloc (.cells (strs ss).toArray 9 (0, 0))) (Wrote base b w (l ++ catL ss)) := texts_new1 base b g l ss w hg h hbb hss hlen
theorem Wrote.then {base b : Nat} {w0 w1 : World} {l : List UInt8} {e : Ending} {w' : World} (hk : KpB b w0 w1) (hb : Below base w0 w1) (h : Wrote base b w1 l e w') : e = .returned (.tuple #[]) ∧ Bld 108 base b l [] w' ∧ KpB b w0 w' ∧ Below base w0 w' :=
  ⟨h.1, h.2.1, hk.trans h.2.2.1, hb.trans h.2.2.2⟩
def beginL (word name : ByteArray) : List UInt8 := word.data.toList ++ [32] ++ name.data.toList ++ [32, 123, 10]
set_option maxHeartbeats 2000000 in
set_option maxRecDepth 100000 in
theorem pbegin.calls (base b : Nat) (l : List UInt8) (u s : ByteArray) (n : Nat) (w : World) (h : Bld 108 base b l [] w) (hbb : base ≤ b) (hs : nameB s = true) (hn : n ≤ 32) (hlen : l.length + u.size + s.size + 10 ≤ 100000000) :
    Calls Try.prog 68 #[.pointer (some ⟨b, 0, none⟩), .string u, .string s, .int .i64 (n : Int)] w (Wrote base b w (l ++ beginL u s)) := by
  have HB := Aside0.mk h
  have HS := Aside0.mk hs
  have HL := Aside0.mk hlen
  have HBB := Aside0.mk hbb
  have h0 : (0 : Int) ≤ ((n : Nat) : Int) := by omega
  have h1 : ((n : Nat) : Int) ≤ 32 := by omega
  have hd1 : decide (((n : Nat) : Int) ≤ 32) = true := decide_eq_true h1
  clear h hs hlen hbb
  unfold Wrote
  go_enter Try.func68, Try.ntmps68
  go_wp2_with fail
  go_at_call 54
  refine (need_yes.calls 3 _).mono ?_
  rintro e w1 ⟨rfl, rfl⟩
  clear h0 h1 hd1 hn
  go_wp2_with fail
  go_at_call 70
  have HT := Aside0.mk (lits_new base b w.heap.size l [u, ⟨#[32]⟩] w HB.out HBB.out rfl (show 2 ≤ 9 by decide) (by
    have := HL.out
    rw [word_sp u]; omega))
  refine (show Calls Try.prog 70 #[.pointer (some ⟨b, 0, none⟩), .slice (some ⟨w.heap.size, 0, none⟩) 2 2] _ _ from HT.out).mono ?_
  rintro e w2 ⟨rfl, hb2, hk2, hw2⟩
  clear HT
  have HB2 := Aside0.mk hb2
  have HK2 := Aside0.mk hk2
  have HW2 := Aside0.mk hw2
  clear hb2 hk2 hw2
  have hl2 : (l ++ catL [u, ⟨#[32]⟩]).length = l.length + u.size + 1 := by rw [List.length_append, word_sp]; omega
  have HL2 := Aside0.mk hl2
  clear hl2
  obtain ⟨l2, hl2⟩ : ∃ l2, l2 = l ++ catL [u, ⟨#[32]⟩] := ⟨_, rfl⟩
  rw [← hl2] at HB2 HL2
  have HE2 := Aside0.mk hl2
  clear hl2
  go_wp2_with fail
  go_at_call 93
  refine (pname.calls base b l2 s w2 HB2.out HBB.out HS.out (by have := HL.out; have := HL2.out; omega)).mono ?_
  rintro e w3 ⟨rfl, hb3, hk3, hw3⟩
  have HB3 := Aside0.mk hb3
  have HK3 := Aside0.mk (HK2.out.trans hk3)
  have HW3 := Aside0.mk (HW2.out.trans hw3)
  have HL3 := Aside0.mk (show (l2 ++ s.data.toList).length = l2.length + s.size by rw [List.length_append, sz_list])
  clear hb3 hk3 hw3 HK2 HW2
  obtain ⟨l3, hl3⟩ : ∃ l3, l3 = l2 ++ s.data.toList := ⟨_, rfl⟩
  rw [← hl3] at HB3 HL3
  have HE3 := Aside0.mk hl3
  clear hl3
  go_wp2_with fail
  go_at_call 70
  have HT := Aside0.mk (lits_new base b w3.heap.size l3 [⟨#[32, 123, 10]⟩] w3 HB3.out HBB.out rfl (show 1 ≤ 9 by decide) (by
    have := HL.out; have := HL2.out; have := HL3.out
    have e : (catL [⟨#[32, 123, 10]⟩]).length = 3 := rfl
    rw [e]; omega))
  refine (show Calls Try.prog 70 #[.pointer (some ⟨b, 0, none⟩), .slice (some ⟨w3.heap.size, 0, none⟩) 1 1] _ _ from HT.out).mono ?_
  rintro e w4 h4
  have h5 := Aside0.mk (Wrote.then HK3.out HW3.out h4)
  clear h4 HT
  obtain ⟨⟨rfl, hb4, hk4, hw4⟩⟩ := h5
  have HB4 := Aside0.mk hb4
  clear hb4
  go_wp2_with fail
  go_end0
  refine ⟨rfl, ?_, hk4, hw4⟩
  have := HB4.out
  rw [HE3.out, HE2.out] at this
  have E : l ++ catL [u, ⟨#[32]⟩] ++ s.data.toList ++ catL [⟨#[32, 123, 10]⟩] = l ++ beginL u s := by simp only [catL_cons, catL_nil, beginL, List.append_assoc, List.append_nil]
  rw [E] at this
  exact this
def partL (n : Nat) (name : ByteArray) : List UInt8 := [9] ++ decN n ++ [32] ++ name.data.toList
theorem decN_len (n : Nat) : n ≤ 999999999 → (decN n).length ≤ 10 := by
  have : ∀ k n, n < 10 ^ (k + 1) → (decN n).length ≤ k + 1 := by
    intro k
    induction k with
    | zero => intro n h; rw [decN_lt (by simpa using h)]; exact Nat.le_refl 1
    | succ k ih =>
      intro n h
      by_cases h9 : n < 10
      · rw [decN_lt h9]; show 1 ≤ _; omega
      · rw [decN_ge h9, List.length_append]
        have := ih (n / 10) (by rw [Nat.pow_succ] at h; omega)
        show _ + 1 ≤ _; omega
  intro h
  exact this 9 n (by have : (10 : Nat) ^ (9 + 1) = 10000000000 := by decide
                     omega)
set_option maxHeartbeats 2000000 in
set_option maxRecDepth 100000 in
theorem ppart.calls (base b : Nat) (l : List UInt8) (n : Nat) (s : ByteArray) (w : World) (h : Bld 108 base b l [] w) (hbb : base ≤ b) (hn : n ≤ 999999999) (hs : nameB s = true) (hlen : l.length + s.size + 60 ≤ 100000000) :
    Calls Try.prog 69 #[.pointer (some ⟨b, 0, none⟩), .int .i64 (n : Int), .string s] w (Wrote base b w (l ++ partL n s)) := by
  have HB := Aside0.mk h
  have HS := Aside0.mk hs
  have HN := Aside0.mk hn
  have HL := Aside0.mk hlen
  have HBB := Aside0.mk hbb
  clear h hs hlen hbb hn
  unfold Wrote
  go_enter Try.func69, Try.ntmps69
  go_wp2_with fail
  go_at_call 70
  have HT := Aside0.mk (lits_new base b w.heap.size l [⟨#[9]⟩] w HB.out HBB.out rfl (show 1 ≤ 9 by decide) (by
    have := HL.out
    have e : (catL [⟨#[9]⟩]).length = 1 := rfl
    rw [e]; omega))
  refine (show Calls Try.prog 70 #[.pointer (some ⟨b, 0, none⟩), .slice (some ⟨w.heap.size, 0, none⟩) 1 1] _ _ from HT.out).mono ?_
  rintro e w2 ⟨rfl, hb2, hk2, hw2⟩
  clear HT
  have HB2 := Aside0.mk hb2
  have HK2 := Aside0.mk hk2
  have HW2 := Aside0.mk hw2
  clear hb2 hk2 hw2
  have HL2 := Aside0.mk (show (l ++ catL [⟨#[9]⟩]).length = l.length + 1 by rw [List.length_append]; rfl)
  obtain ⟨l2, hl2⟩ : ∃ l2, l2 = l ++ catL [⟨#[9]⟩] := ⟨_, rfl⟩
  rw [← hl2] at HB2 HL2
  have HE2 := Aside0.mk hl2
  clear hl2
  go_wp2_with fail
  go_at_call 94
  refine (pnumber.calls base b l2 n w2 HB2.out HBB.out HN.out (by have := HL.out; have := HL2.out; omega)).mono ?_
  rintro e w3 ⟨rfl, hb3, hk3, hw3⟩
  have HB3 := Aside0.mk hb3
  have HK3 := Aside0.mk (HK2.out.trans hk3)
  have HW3 := Aside0.mk (HW2.out.trans hw3)
  have HL3 := Aside0.mk (show (l2 ++ decN n).length ≤ l2.length + 10 by rw [List.length_append]; have := decN_len n HN.out; omega)
  clear hb3 hk3 hw3 HK2 HW2
  obtain ⟨l3, hl3⟩ : ∃ l3, l3 = l2 ++ decN n := ⟨_, rfl⟩
  rw [← hl3] at HB3 HL3
  have HE3 := Aside0.mk hl3
  clear hl3
  go_wp2_with fail
  go_at_call 70
  have HT := Aside0.mk (lits_new base b w3.heap.size l3 [⟨#[32]⟩] w3 HB3.out HBB.out rfl (show 1 ≤ 9 by decide) (by
    have := HL.out; have := HL2.out; have := HL3.out
    have e : (catL [⟨#[32]⟩]).length = 1 := rfl
    rw [e]; omega))
  refine (show Calls Try.prog 70 #[.pointer (some ⟨b, 0, none⟩), .slice (some ⟨w3.heap.size, 0, none⟩) 1 1] _ _ from HT.out).mono ?_
  rintro e w4 h4
  have h5 := Wrote.then HK3.out HW3.out h4
  clear h4 HT
  obtain ⟨rfl, hb4, hk4, hw4⟩ := h5
  have HB4 := Aside0.mk hb4
  have HK4 := Aside0.mk hk4
  have HW4 := Aside0.mk hw4
  clear hb4 hk4 hw4 HK3 HW3
  have HL4 := Aside0.mk (show (l3 ++ catL [⟨#[32]⟩]).length = l3.length + 1 by rw [List.length_append]; rfl)
  obtain ⟨l4, hl4⟩ : ∃ l4, l4 = l3 ++ catL [⟨#[32]⟩] := ⟨_, rfl⟩
  rw [← hl4] at HB4 HL4
  have HE4 := Aside0.mk hl4
  clear hl4
  go_wp2_with fail
  go_at_call 93
  refine (pname.calls base b l4 s w4 HB4.out HBB.out HS.out (by have := HL.out; have := HL2.out; have := HL3.out; have := HL4.out; omega)).mono ?_
  rintro e w5 h5
  have h6 := Wrote.then HK4.out HW4.out h5
  clear h5
  obtain ⟨rfl, hb5, hk5, hw5⟩ := h6
  have HB5 := Aside0.mk hb5
  clear hb5
  go_wp2_with fail
  go_end0
  refine ⟨rfl, ?_, hk5, hw5⟩
  have := HB5.out
  rw [HE4.out, HE3.out, HE2.out] at this
  have E : l ++ catL [⟨#[9]⟩] ++ decN n ++ catL [⟨#[32]⟩] ++ s.data.toList = l ++ partL n s := by simp only [catL_cons, catL_nil, partL, List.append_assoc, List.append_nil]
  rw [E] at this
  exact this
end Go.Proofs.Ytoloneoeojoiaaa.EParseBack

