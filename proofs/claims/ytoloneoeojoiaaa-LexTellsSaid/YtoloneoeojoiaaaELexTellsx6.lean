-- Written by a program of this seat, over a copy of the print; parts by hand.
import Derived.Test.YtoloneoeojoiaaaELexTellsx0
import Derived.Test.YtoloneoeojoiaaaELexTellsx2
import Derived.Test.YtoloneoeojoiaaaELexTellsx3
import Derived.Test.YtoloneoeojoiaaaELexTellsx5
namespace Go.Proofs.Ytoloneoeojoiaaa.ELexTells
open Go.RowKit Go.Proofs.YtoloneoeojoiaaaW.PrintWords Go.Proofs.YtoloneoeojoiaaaW.PrintLast Go.Proofs.YtoloneoeojoiaaaW.PrintMore
attribute [local go_sem] max2_int min2_int max_two min_two max_three min_three max_four min_four   -- for this text's walks alone
set_option linter.unusedVariables false
set_option linter.unusedSimpArgs false

-- by hand: lexpage.inc
theorem heap31 : Kd.Heap k31 := Kd.heap_iso _ ⟨fun _ h => h⟩
theorem C31_below {w w1 : World} {A : Option Addr} {n B : Nat} {xs : List S31} (h : Kd.C k31 w A n xs) (hb : Below B w w1) (hB : w.heap.size ≤ B) : Kd.C k31 w1 A n xs := heap31.C (fun k hk => hb.block k (by omega)) h
/-- Tokens that are to be printed. -/
def ckL : Int → List S31 → Int
  | _, [] => 0
  | last, t :: r => if checkT t = 0 then (if t.f2 < last then 9 else if t.f2 > 65536 then 4 else ckL t.f2 r) else checkT t
theorem rd31 (l : List S31) (i : Nat) (h : i < l.length) : rd_T31 l (i : Int) = l[i] := by
  unfold rd_T31
  rw [Int.toNat_natCast, List.getD_eq_getElem?_getD, List.getElem?_eq_getElem h]; rfl
theorem drop31 (l : List S31) (i : Nat) (h : i < l.length) : l.drop i = rd_T31 l (i : Int) :: l.drop (i + 1) := by
  rw [rd31 l i h]; exact List.drop_eq_getElem_cons h
set_option maxRecDepth 100000 in
set_option maxHeartbeats 2000000 in
theorem check.calls (A : Option Addr) (c : Nat) (l : List S31) (w : World) (hr : Kd.C k31 w A l.length l) (hc : l.length ≤ c) :
    Calls Try.prog 43 #[.slice A l.length c] w fun e w' => e = .returned (.int .i64 (ckL 0 l)) ∧ Below w.heap.size w w' := by
  have hu31 := Try.underlying31
  have HR := Aside0.mk hr
  have hlen : l.length ≤ 9223372036854775807 := hr.2.1
  have HB := Aside0.mk (Below.refl w.heap.size w)
  clear hr
  obtain ⟨q, hq⟩ : ∃ q, q = ckL 0 l := ⟨_, rfl⟩
  rw [← hq]
  have HQ : Aside0 (q = ckL 0 (l.drop 0)) := ⟨hq⟩
  clear hq
  go_enter Try.func43, Try.ntmps43
  go_wp2_with fail
  go_loopw [3, 9] (fun v3 v9 W => ∃ (i : Nat) (last : Int), i ≤ l.length ∧ v3 = .int .i64 last ∧ v9 = .int .i64 i ∧ Aside0 (q = ckL last (l.drop i)) ∧ Aside0 (Below w.heap.size w W)) (fun _ v _ => l.length - (intOf v).toNat)
  case atStart => exact ⟨0, 0, by omega, rfl, rfl, HQ, HB⟩
  case round =>
    clear HB HQ
    obtain ⟨i, last, hi, rfl, rfl, HQ, HB⟩ := hrel
    by_cases hlt : i < l.length
    · obtain ⟨ad, ea, hx, hy, hz⟩ := at_T31 (C31_below HR.out HB.out (Nat.le_refl _)) (i : Int) (by omega) (by omega)
      cases ea
      rw [Int.toNat_natCast] at hx hy hz
      have hq := HQ.out
      rw [drop31 l i hlt] at hq
      obtain ⟨x, hxe⟩ : ∃ x, x = rd_T31 l (i : Int) := ⟨_, rfl⟩
      rw [← hxe] at hx hy hz hq
      clear hxe HQ
      replace hq : q = if checkT x = 0 then (if x.f2 < last then 9 else if x.f2 > 65536 then 4 else ckL x.f2 (l.drop (i + 1))) else checkT x := hq
      obtain ⟨k, hk⟩ : ∃ k, k = checkT x := ⟨_, rfl⟩
      have HK : Aside0 (lex_Check.f x.f0 x.f1 x.f2 = some k) := ⟨by rw [hk]; rfl⟩
      rw [← hk] at hq
      clear hk
      have HX0 := Aside0.mk (heap_alloc_new wr (.cells #[.int .i64 x.f0, .string x.f1, .int .i64 x.f2] 31 (0, 0)))
      have HBW := Aside0.mk (below_alloc HB.out (.cells #[.int .i64 x.f0, .string x.f1, .int .i64 x.f2] 31 (0, 0)))
      have y0 := zcell HX0.out 0 (.int .i64 x.f0) rfl
      have y1 := zcell HX0.out 1 (.string x.f1) rfl
      have y2 := zcell HX0.out 2 (.int .i64 x.f2) rfl
      by_cases c0 : k = 0
      · subst c0
        rw [if_pos rfl] at hq
        by_cases c1 : x.f2 < last
        · rw [if_pos c1] at hq
          subst hq
          go_wp2_with fail
          refine (lex_Check.calls x.f0 x.f1 x.f2 0 _ HK.out).mono ?_
          rintro e w1 ⟨rfl, hb⟩
          have z2 := zcell ((Ch.of_below hb (fun _ => False)).heap HX0.out (fun h => h)) 2 (.int .i64 x.f2) rfl
          have HB1 := Aside0.mk (below_ls HBW.out hb HBW.out.size)
          clear hb y0 y1 y2
          go_wp2_with fail
          go_ret
          exact ⟨rfl, HB1.out⟩
        · rw [if_neg c1] at hq
          by_cases c2 : x.f2 > 65536
          · rw [if_pos c2] at hq
            subst hq
            go_wp2_with fail
            refine (lex_Check.calls x.f0 x.f1 x.f2 0 _ HK.out).mono ?_
            rintro e w1 ⟨rfl, hb⟩
            have z2 := zcell ((Ch.of_below hb (fun _ => False)).heap HX0.out (fun h => h)) 2 (.int .i64 x.f2) rfl
            have HB1 := Aside0.mk (below_ls HBW.out hb HBW.out.size)
            clear hb y0 y1 y2
            go_wp2_with fail
            go_ret
            exact ⟨rfl, HB1.out⟩
          · rw [if_neg c2] at hq
            have HQ2 := Aside0.mk hq
            clear hq
            go_wp2_with fail
            refine (lex_Check.calls x.f0 x.f1 x.f2 0 _ HK.out).mono ?_
            rintro e w1 ⟨rfl, hb⟩
            have z2 := zcell ((Ch.of_below hb (fun _ => False)).heap HX0.out (fun h => h)) 2 (.int .i64 x.f2) rfl
            have HB1 := Aside0.mk (below_ls HBW.out hb HBW.out.size)
            clear hb y0 y1 y2
            go_wp2_with fail
            exact ⟨⟨i + 1, x.f2, by omega, rfl, by go_num, HQ2, HB1⟩, by simp [intOf]; omega⟩
      · rw [if_neg c0] at hq
        subst hq
        have b1 : (q != 0) = true := bne_iff_ne.mpr c0
        go_wp2_with fail
        refine (lex_Check.calls x.f0 x.f1 x.f2 q _ HK.out).mono ?_
        rintro e w1 ⟨rfl, hb⟩
        have HB1 := Aside0.mk (below_ls HBW.out hb HBW.out.size)
        clear hb y0 y1 y2
        go_wp2_with fail
        go_ret
        exact ⟨rfl, HB1.out⟩
    · obtain rfl : q = 0 := by rw [HQ.out, List.drop_eq_nil_of_le (by omega)]; rfl
      go_wp2_with fail
      go_ret
      exact ⟨rfl, HB.out⟩
/-! A strings.Builder at the head of a block (of type T, more cells cs behind it): it holds l. -/
def Bld (T : TypeId) (base b : Nat) (l : List UInt8) (cs : List Value) (W : World) : Prop :=
  ∃ p v, W.heap[b]? = some (.cells (p :: v :: cs).toArray T (0, 0)) ∧ (p = .pointer none ∨ p = .pointer (some ⟨b, 0, none⟩)) ∧ W.ownsRow base 5 1 v l.length (Lib.byteCells l) ∧ v.ownBlock ≠ some b
/-- What a write to it leaves: all blocks but its own and rows of bytes. -/
structure KpB (b : Nat) (w w' : World) : Prop where
  keep : ∀ k cs t f, w.heap[k]? = some (.cells cs t f) → k ≠ b → t ≠ 5 → w'.heap[k]? = some (.cells cs t f)
theorem KpB.refl (b : Nat) (w : World) : KpB b w w := ⟨fun _ _ _ _ h _ _ => h⟩
theorem KpB.trans {b : Nat} {w w1 w2 : World} (h : KpB b w w1) (k : KpB b w1 w2) : KpB b w w2 := ⟨fun i cs t f h1 h2 h3 => k.keep i cs t f (h.keep i cs t f h1 h2 h3) h2 h3⟩
theorem KpB.of_ch {b : Nat} {w w1 : World} (h : Ch (fun k => k = b) w w1) : KpB b w w1 := ⟨fun i cs t f h1 h2 _ => (h.block i (lt_of_block h1) h2).trans h1⟩
theorem KpB.of_below {b : Nat} {w w1 : World} (h : Below w.heap.size w w1) : KpB b w w1 := KpB.of_ch (Ch.of_below h _)
theorem Bld.step {T : TypeId} {base b : Nat} {l : List UInt8} {cs : List Value} {w w1 : World} (h : Bld T base b l cs w) (hC : Ch (fun _ => False) w w1) : Bld T base b l cs w1 := by
  obtain ⟨p, v, hb, hp, hown, hne⟩ := h
  exact ⟨p, v, hC.heap hb (fun h => h), hp, own_move hown (fun k hk => hC.block k (World.ownsRow.lt hown k hk).2 (fun h => h)), hne⟩
theorem bld_fresh (T : TypeId) (cs : List Value) (w : World) (base : Nat) (hb : base ≤ w.heap.size) : Bld T base w.heap.size [] cs (w.alloc (.cells (.pointer none :: .slice none 0 0 :: cs).toArray T (0, 0))) :=
  ⟨_, _, heap_alloc_new w _, .inl rfl, World.ownsRow_nil _ _ _ _, by simp [Value.ownBlock]⟩
set_option maxHeartbeats 1000000 in
theorem bcopy.calls (T : TypeId) (b : Nat) (p v : Value) (cs : List Value) (w : World) (hb : w.heap[b]? = some (.cells (p :: v :: cs).toArray T (0, 0))) (hp : p = .pointer none ∨ p = .pointer (some ⟨b, 0, none⟩))
    (hl : liesAt Try.prog Try.prog.depth T ((cs.length + 2) / Try.prog.cellsOf T) 0 101 1 = true) :
    Calls Try.prog 105 #[.pointer (some ⟨b, 0, none⟩)] w fun e w' => e = .returned (.tuple #[]) ∧ Ch (fun k => k = b) w w' ∧ w'.heap[b]? = some (.cells (.pointer (some ⟨b, 0, none⟩) :: v :: cs).toArray T (0, 0)) := by
  have HL := Aside0.mk hl
  have HBK := Aside0.mk hb
  have hc0 := zcell hb 0 p rfl
  have hf0 := zfree hb 0
  have hsz : (Try.prog.info? 101).map (·.size) = some 2 := by kernel_rfl
  obtain ⟨j, hj, hjs⟩ := Option.map_eq_some_iff.1 hsz
  rcases hp with rfl | rfl
  · have hsh : w.shape? b = some (T, cs.length + 2) := by simp [World.shape?, hb]
    have q1 := Lib.run_to_unsafe (P := Try.prog) w ⟨b, 0, none⟩ Try.underlying98 Try.underlying151 hj (by rw [hjs]; decide) hsh (by show 0 < cs.length + 2; omega)
    have q2 : ∀ a W, (callFunc 116 #[a]).run Try.prog W = .ok (.value a) W := fun a W => by
      rw [run_callFunc_extern Try.func116 (by kernel_rfl) (by kernel_rfl) (by kernel_rfl) (e := Extern.AbiNoEscape.same) (by kernel_rfl), Lib.run_noEscape]; rfl
    have q3 := Lib.run_from_unsafe (P := Try.prog) w ⟨b, 0, none⟩ Try.underlying151 Try.underlying98 hj hsh HL.out
    clear hb hl hsz hj hjs hsh
    go_enter Try.func105, Try.ntmps105
    go_wp2
    go_end0
    exact ⟨rfl, (Ch.refl (fun k => k = b) w).set (p := ⟨b, 0, none⟩) (.inl rfl) _, by have := zset HBK.out 0 (.pointer (some ⟨b, 0, none⟩)); simpa using this⟩
  · have q1 := Lib.run_neq_ptr_same (P := Try.prog) (w := w) ⟨b, 0, none⟩ Try.underlying98 hj
    clear hb hl hsz hj hjs
    go_enter Try.func105, Try.ntmps105
    go_wp2
    go_end0
    exact ⟨rfl, Ch.refl _ w, HBK.out⟩
set_option maxHeartbeats 2000000 in
theorem bwrite.calls (T : TypeId) (base b : Nat) (l : List UInt8) (cs : List Value) (s : ByteArray) (w : World) (h : Bld T base b l cs w) (hT : T ≠ 5) (hbb : base ≤ b) (hlen : l.length + s.size ≤ 140737488355328)
    (hl : liesAt Try.prog Try.prog.depth T ((cs.length + 2) / Try.prog.cellsOf T) 0 101 1 = true) :
    Calls Try.prog 91 #[.pointer (some ⟨b, 0, none⟩), .string s] w fun e w' => e = .returned (.tuple #[.int .i64 s.size, .nilIface]) ∧ Bld T base b (l ++ s.data.toList) cs w' ∧ KpB b w w' ∧ Below base w w' := by
  obtain ⟨p, v, hb, hp, hown, hne⟩ := h
  have hi0 : (Try.prog.info? 5).map (fun i => (i.zero, i.size, i.bytes)) = some (some (.int .u8 0), 1, 1) := by kernel_rfl
  obtain ⟨i0, hi, hz0, hz1, hz2⟩ := info_parts hi0
  have hlt : b < w.heap.size := lt_of_block hb
  have HC := Aside0.mk (bcopy.calls T b p v cs w hb hp hl)
  clear hb hp hl
  go_enter Try.func91, Try.ntmps91
  go_wp2_with fail
  refine HC.out.mono ?_
  rintro e w1 ⟨rfl, hC, hb1⟩
  have hown1 : w1.ownsRow base 5 1 v l.length (Lib.byteCells l) := own_move hown (fun k hk => hC.block k (World.ownsRow.lt hown k hk).2 (fun e => hne (by rw [hk, e])))
  have c1 := zcell hb1 1 v rfl
  have hsz1 : w.heap.size ≤ w1.heap.size := hC.size
  have HCH := Aside0.mk hC
  have HB1 := Aside0.mk hb1
  have HOW := Aside0.mk hown1
  clear hC hb1 hown hown1
  go_wp2_with (at_builtin; refine Lib.wpList_append_own_string _ rfl _ _ 99 9 rfl base 5 i0 Try.underlying99 Try.underlying9 hi hz0 hz1 hz2 _ _ _ rfl HOW.out s rfl ?c3 ?c4 ?c5 ?_)
  case c3 => unfold maxLen; omega
  case c4 => exact hlen
  case c5 => omega
  intro v' w2 hown' hgrow _
  have hb2 : w2.heap[b]? = some (.cells (.pointer (some ⟨b, 0, none⟩) :: v :: cs).toArray T (0, 0)) := (hgrow.block b (by omega) (fun e => hne e.symm)).trans HB1.out
  have d1 := zcell hb2 1 v rfl
  have f1 := zfree hb2 1
  have HB2 := Aside0.mk hb2
  have HOW2 := Aside0.mk hown'
  have HG := Aside0.mk hgrow
  obtain ⟨ao, n', cap, rfl⟩ : ∃ ao n' cap, v' = .slice ao n' cap := by
    rcases hown'.2 with ⟨hv, _⟩ | ⟨g, cap, cur, hv, _⟩
    · exact ⟨_, _, _, hv⟩
    · exact ⟨_, _, _, hv⟩
  clear hb2 hown' hgrow
  go_wp2_with fail
  go_ret2
  have hset := zset HB2.out 1 (.slice ao n' cap)
  have hne2 : (Value.slice ao n' cap).ownBlock ≠ some b := by
    intro e
    obtain ⟨cells, hc⟩ := own_typed HOW2.out b e
    rw [HB2.out] at hc
    injection hc with hc
    injection hc with _ hc
    exact hT hc
  refine ⟨rfl, ⟨.pointer (some ⟨b, 0, none⟩), .slice ao n' cap, by simpa using hset, .inr rfl, ?_, hne2⟩, ?_, ?_⟩
  · rw [List.length_append, Lib.byteCells_append, ← Lib.strCells_eq]
    have e1 : s.data.toList.length = s.size := Array.length_toList
    rw [e1]
    exact own_move HOW2.out (fun k hk => Below.heap_setCell w2 _ _ k (fun e => hne2 (by rw [hk, e])))
  · refine (KpB.of_ch HCH.out).trans (KpB.trans ⟨fun i cs t f h1 h2 h3 => (HG.out.block i (lt_of_block h1) (fun e => ?_)).trans h1⟩ (KpB.of_ch ((Ch.refl (fun k => k = b) w2).set (p := ⟨b, 1, none⟩) (.inl rfl) _)))
    obtain ⟨cells, hc⟩ := own_typed HOW.out i e.symm
    rw [hc] at h1
    injection h1 with h1
    injection h1 with _ h1
    exact h3 h1.symm
  · refine below_ch ?_ ((Ch.refl (fun k => k = b) w2).set (p := ⟨b, 1, none⟩) (.inl rfl) _) (by have := HG.out.size; omega) (fun k h => by omega)
    exact Below.grown (below_ch (Below.refl base w) HCH.out (by omega) (fun k h => by omega)) HG.out (by omega) (fun k hk => (World.ownsRow.lt HOW.out k hk).1)
set_option maxHeartbeats 2000000 in
theorem bstring.calls (T : TypeId) (base b : Nat) (l : List UInt8) (cs : List Value) (w : World) (h : Bld T base b l cs w) (hbb : base ≤ b) :
    Calls Try.prog 45 #[.pointer (some ⟨b, 0, none⟩)] w fun e w' => e = .returned (.string ⟨l.toArray⟩) ∧ Below base w w' := by
  obtain ⟨p, v, hb, hp, hown, hne⟩ := h
  have hlt : b < w.heap.size := lt_of_block hb
  have HBK := Aside0.mk hb
  have hUN := fun W q => Lib.run_unsafeString_none (P := Try.prog) W 124 3 9 q
  rcases hown.2 with ⟨hv, hz⟩ | ⟨g, cap, cur, hv, hbg, hg, hnc, hcm, hcs, htake⟩
  · subst hv
    have hl : l = [] := List.eq_nil_of_length_eq_zero hz
    subst hl
    have c1 : w.drew.cell? ⟨b, 1, none⟩ = some (.slice none 0 0) := zcell (w := w.drew) hb 1 (.slice none 0 0) rfl
    have hSD : (Builtin.unsafeSliceData_ #[99] 124 #[.slice none 0 0]).run Try.prog w.drew = .ok (.pointer none) w.drew := rfl
    clear hown hb hz hp
    go_enter Try.func45, Try.ntmps45
    go_wp2
    go_region
    all_goals (go_wp2; go_ret; exact ⟨rfl, Below.drew (Below.refl base w)⟩)
  · subst hv
    by_cases h0 : l = []
    · subst h0
      by_cases hc0 : cap = 0
      · subst hc0
        have c1 : w.drew.cell? ⟨b, 1, none⟩ = some (.slice (some ⟨g, 0, none⟩) 0 0) := zcell (w := w.drew) hb 1 (.slice (some ⟨g, 0, none⟩) 0 0) rfl
        have hSD : (Builtin.unsafeSliceData_ #[99] 124 #[.slice (some ⟨g, 0, none⟩) 0 0]).run Try.prog w.drew = .ok (.pointer (some ⟨w.drew.heap.size, 0, none⟩)) (w.drew.alloc (.view ⟨g, 0, none⟩ 5)) :=
          Lib.run_unsafeSliceData_zero w.drew _ _ 5 Try.underlying124 ⟨g, 0, none⟩ 0 (5, cur.size) (by have hg' : w.drew.heap[g]? = some (.cells cur 5 (0, 0)) := hg; simp [World.shape?, hg'])
        have c2 : (w.drew.alloc (.view ⟨g, 0, none⟩ 5)).cell? ⟨b, 1, none⟩ = some (.slice (some ⟨g, 0, none⟩) 0 0) := zcell ((Lib.alloc_old w.drew _ b hlt).trans hb) 1 _ rfl
        have c3 : (w.alloc (.view ⟨g, 0, none⟩ 5)).drew.cell? ⟨b, 1, none⟩ = some (.slice (some ⟨g, 0, none⟩) 0 0) := c2
        have c0 : w.cell? ⟨b, 1, none⟩ = some (.slice (some ⟨g, 0, none⟩) 0 0) := c1
        clear hown hb hg htake hcs
        go_enter Try.func45, Try.ntmps45
        go_wp2
        go_region
        all_goals (go_wp2; go_ret; exact ⟨rfl, (Below.drew (Below.refl base w)).alloc (Nat.le_trans hbb (Nat.le_of_lt hlt)) _⟩)
      · have c1 : w.drew.cell? ⟨b, 1, none⟩ = some (.slice (some ⟨g, 0, none⟩) 0 cap) := zcell (w := w.drew) hb 1 (.slice (some ⟨g, 0, none⟩) 0 cap) rfl
        have hSD : (Builtin.unsafeSliceData_ #[99] 124 #[.slice (some ⟨g, 0, none⟩) 0 cap]).run Try.prog w.drew = .ok (.pointer (some ⟨g, 0, none⟩)) w.drew :=
          Lib.run_unsafeSliceData_row _ _ _ _ _ _ hc0
        clear hown hb hg htake hcs hc0
        go_enter Try.func45, Try.ntmps45
        go_wp2
        go_region
        all_goals (go_wp2; go_ret; exact ⟨rfl, Below.drew (Below.refl base w)⟩)
    · have hl0 : l.length ≠ 0 := by simpa using h0
      have c1 : w.drew.cell? ⟨b, 1, none⟩ = some (.slice (some ⟨g, 0, none⟩) l.length cap) := zcell (w := w.drew) hb 1 _ rfl
      have hSD : (Builtin.unsafeSliceData_ #[99] 124 #[.slice (some ⟨g, 0, none⟩) l.length cap]).run Try.prog w.drew = .ok (.pointer (some ⟨g, 0, none⟩)) w.drew :=
        Lib.run_unsafeSliceData_row _ _ _ _ _ _ (by omega)
      have hUS : (Builtin.unsafeString_ #[124, 3] 9 #[.pointer (some ⟨g, 0, none⟩), .int .i64 l.length]).run Try.prog w.drew = .ok (.string ⟨l.toArray⟩) (w.drew.freeze ⟨g, 0, none⟩ l.length) := by
        refine Lib.run_unsafeString_row w.drew 124 3 9 5 Try.underlying124 (by kernel_rfl) g cur.size (by have hg' : w.drew.heap[g]? = some (.cells cur 5 (0, 0)) := hg; simp [World.shape?, hg']) l h0 (by omega) (by unfold maxLen at hcm; omega) ?_
        intro j x hx
        have := hown.cells (g := g) rfl j (.int .u8 x.toNat) (by simp [Lib.byteCells, hx])
        exact this
      clear hown hb hg htake hcs h0 hl0 hUN
      go_enter Try.func45, Try.ntmps45
      go_wp2
      go_region
      all_goals (go_wp2; go_ret; exact ⟨rfl, Lib.below_freeze (Below.drew (Below.refl base w)) (p := ⟨g, 0, none⟩) hbg _⟩)
attribute [local go_sem] txt_toList txt_size txt_get txt_extract
theorem lies103 : liesAt Try.prog Try.prog.depth 103 ((([.int .i64 0, .int .i64 0, .bool false] : List Value).length + 2) / Try.prog.cellsOf 103) 0 101 1 = true := by kernel_rfl
def rep (s : List UInt8) : Nat → List UInt8
  | 0 => []
  | n + 1 => s ++ rep s n
theorem rep_eq (s : List UInt8) : ∀ n, Lib.repeatL s n = rep s n
  | 0 => rfl
  | n + 1 => by
    show s ++ Lib.repeatL s n = s ++ rep s n
    rw [rep_eq s n]
theorem rep_len (s : List UInt8) : ∀ n, (rep s n).length = s.length * n
  | 0 => by simp [rep]
  | n + 1 => by rw [rep, List.length_append, rep_len s n, Nat.mul_succ, Nat.add_comm]
set_option maxHeartbeats 1000000 in
theorem put0.calls (b : Nat) (p v : Value) (size line : Int) (s : List UInt8) (times m : Int) (w : World) (hb : w.heap[b]? = some (.cells #[p, v, .int .i64 size, .int .i64 line, .bool false] 103 (0, 0)))
    (hm : wrap64 ((s.length : Int) * times) = m) (h0 : 0 ≤ size) (h1 : 0 ≤ m) (h2 : size + m ≤ 4611686018427387904) :
    Calls Try.prog 67 #[.pointer (some ⟨b, 0, none⟩), .string (txt s), .int .i64 times] w fun e w' => e = .returned (.tuple #[]) ∧ Ch (fun k => k = b) w w' ∧ w'.heap[b]? = some (.cells #[p, v, .int .i64 (size + m), .int .i64 line, .bool false] 103 (0, 0)) := by
  have HB := Aside0.mk hb
  have c2 := zcell hb 2 (.int .i64 size) rfl
  have c4 := zcell hb 4 (.bool false) rfl
  have f2 := zfree hb 2
  clear hb
  go_enter Try.func67, Try.ntmps67
  go_wp2_with fail
  go_end0
  exact ⟨rfl, (Ch.refl (fun k => k = b) w).set (p := ⟨b, 2, none⟩) (.inl rfl) _, zset HB.out 2 (.int .i64 (size + m))⟩
set_option maxHeartbeats 2000000 in
theorem put1.calls (base b : Nat) (l : List UInt8) (size line : Int) (s : List UInt8) (times : Nat) (m : Int) (w : World) (h : Bld 103 base b l [.int .i64 size, .int .i64 line, .bool true] w)
    (hm : wrap64 ((s.length : Int) * times) = m) (h0 : 0 ≤ size) (h1 : 0 ≤ m) (h2 : size + m ≤ 4611686018427387904) (hbb : base ≤ b) (ht : times ≤ 9223372036854775807) (hl : s.length * times ≤ 140737488355328) (hll : l.length + s.length * times ≤ 140737488355328) :
    Calls Try.prog 67 #[.pointer (some ⟨b, 0, none⟩), .string (txt s), .int .i64 times] w fun e w' => e = .returned (.tuple #[]) ∧ Bld 103 base b (l ++ rep s times) [.int .i64 (size + m), .int .i64 line, .bool true] w' ∧ KpB b w w' ∧ Below base w w' := by
  obtain ⟨p, v, hb, hp, hown, hne⟩ := h
  replace hb : w.heap[b]? = some (.cells #[p, v, .int .i64 size, .int .i64 line, .bool true] 103 (0, 0)) := hb
  have HB := Aside0.mk hb
  have hs1 := zset hb 2 (.int .i64 (size + m))
  have hC := (Ch.refl (fun k => k = b) w).set (p := ⟨b, 2, none⟩) (.inl rfl) (.int .i64 (size + m))
  have hbl : Bld 103 base b l [.int .i64 (size + m), .int .i64 line, .bool true] (w.setCell ⟨b, 2, none⟩ (.int .i64 (size + m))) :=
    ⟨p, v, hs1, hp, own_move hown (fun k hk => hC.block k (World.ownsRow.lt hown k hk).2 (fun e => hne (by rw [hk, e]))), hne⟩
  have HBL := Aside0.mk hbl
  have HCC := Aside0.mk hC
  have c2 := zcell hb 2 (.int .i64 size) rfl
  have f2 := zfree hb 2
  have c4 := zcell hs1 4 (.bool true) rfl
  have hlt : b < w.heap.size := lt_of_block hb
  have HRP := Aside0.mk (fun W => Try.strings_Repeat (txt s) times W ht (by rw [txt_size]; exact hl))
  have HLL := Aside0.mk hll
  clear hb hp hown hne hs1 hC hbl ht hl hll
  go_enter Try.func67, Try.ntmps67
  go_wp2_with fail
  generalize w.setCell ⟨b, 2, none⟩ (.int .i64 (size + m)) = W1 at HBL HCC c4 ⊢
  have HRL : Aside0 ((⟨(Lib.repeatL (txt s).data.toList times).toArray⟩ : ByteArray) = txt (rep s times)) := ⟨by rw [txt_list, rep_eq]; rfl⟩
  have HLN : Aside0 (l.length + (txt (rep s times)).size ≤ 140737488355328) := ⟨by rw [txt_size, rep_len]; exact HLL.out⟩
  go_region_with (first | (go_at_call 92; refine (HRP.out _).mono ?_; rintro e W2 ⟨rfl, hb2⟩; rw [HRL.out]; have HC2 : Aside0 (Ch (fun _ => False) W1 W2) := ⟨by first | exact Ch.of_below hb2 _ | exact ((Ch.refl _ W1).drew).thenB hb2⟩; clear hb2) | (go_at_call 91; refine (bwrite.calls 103 base b l [.int .i64 (size + m), .int .i64 line, .bool true] (txt (rep s times)) _ (by first | exact HBL.out.step HC2.out | exact (HBL.out.step HC2.out).step ((Ch.refl _ _).drew)) (by decide) hbb HLN.out lies103).mono ?_; rintro e W3 ⟨rfl, h3, hk3, hb3⟩; have H3 := Aside0.mk h3; have HK3 : Aside0 (KpB b W2 W3) := ⟨by first | exact hk3 | exact (KpB.of_ch ((Ch.refl _ _).drew)).trans hk3⟩; have HB3 : Aside0 (Below base W2 W3) := ⟨by first | exact hb3 | exact (Below.drew (Below.refl _ _)).trans hb3⟩; clear h3 hk3 hb3))
  all_goals
    go_wp2_with fail
    go_end0
    rw [txt_list] at H3
    refine ⟨rfl, ?_, ?_, ?_⟩
    · first | exact H3.out | exact H3.out.step ((Ch.refl _ _).drew) | exact H3.out.step ((Ch.refl _ _).drewN _)
    · have hk := ((KpB.of_ch HCC.out).trans (KpB.of_ch (HC2.out.mono (fun _ h => h.elim)))).trans HK3.out
      first | exact hk | exact hk.trans (KpB.of_ch ((Ch.refl _ _).drew))
    · have hz := HCC.out.size
      have hz2 := HC2.out.size
      have hk := (below_ch (below_ch (Below.refl base w) HCC.out (by omega) (fun k h => by omega)) HC2.out (by omega) (fun k h => h.elim)).trans HB3.out
      first | exact hk | exact Below.drew hk
/-- A page on its way: l is written, or (not full) would be. -/
def PG (full : Bool) (base b : Nat) (l : List UInt8) (size line : Int) (W : World) : Prop :=
  match full with
  | true => Bld 103 base b l [.int .i64 size, .int .i64 line, .bool true] W
  | false => ∃ p v, W.heap[b]? = some (.cells #[p, v, .int .i64 size, .int .i64 line, .bool false] 103 (0, 0))
theorem PG.block {full : Bool} {base b : Nat} {l : List UInt8} {size line : Int} {W : World} (h : PG full base b l size line W) : ∃ p v, W.heap[b]? = some (.cells #[p, v, .int .i64 size, .int .i64 line, .bool full] 103 (0, 0)) := by
  cases full with
  | true => obtain ⟨p, v, hb, _⟩ := h; exact ⟨p, v, hb⟩
  | false => exact h
theorem PG.step {full : Bool} {base b : Nat} {l : List UInt8} {size line : Int} {W W1 : World} (h : PG full base b l size line W) (hC : Ch (fun _ => False) W W1) : PG full base b l size line W1 := by
  cases full with
  | true => exact Bld.step h hC
  | false => obtain ⟨p, v, hb⟩ := h; exact ⟨p, v, hC.heap hb (fun h => h)⟩
theorem PG.line {full : Bool} {base b : Nat} {l : List UInt8} {size line : Int} {W : World} (h : PG full base b l size line W) (line' : Int) : PG full base b l size line' (W.setCell ⟨b, 3, none⟩ (.int .i64 line')) := by
  cases full with
  | true =>
    obtain ⟨p, v, hb, hp, hown, hne⟩ := h
    exact ⟨p, v, zset hb 3 (.int .i64 line'), hp, own_move hown (fun k hk => Below.heap_setCell W _ _ k (fun e => hne (by rw [hk, e]))), hne⟩
  | false => obtain ⟨p, v, hb⟩ := h; exact ⟨p, v, zset hb 3 (.int .i64 line')⟩
theorem put.calls (full : Bool) (base b : Nat) (l : List UInt8) (size line : Int) (s : List UInt8) (times : Nat) (w : World) (h : PG full base b l size line w) (h0 : 0 ≤ size) (h2 : size + ((s.length * times : Nat) : Int) ≤ 4611686018427387904) (hbb : base ≤ b)
    (ht : times ≤ 9223372036854775807) (hll : full = true → l.length + s.length * times ≤ 140737488355328) :
    Calls Try.prog 67 #[.pointer (some ⟨b, 0, none⟩), .string (txt s), .int .i64 times] w fun e w' => e = .returned (.tuple #[]) ∧ PG full base b (l ++ rep s times) (size + ((s.length * times : Nat) : Int)) line w' ∧ KpB b w w' ∧ Below base w w' := by
  have hm : wrap64 ((s.length : Int) * times) = ((s.length * times : Nat) : Int) := by
    rw [show (s.length : Int) * times = ((s.length * times : Nat) : Int) by push_cast; rfl]
    unfold wrap64; omega
  cases full with
  | true =>
    have := hll rfl
    exact put1.calls base b l size line s times _ w h hm h0 (by omega) h2 hbb ht (by omega) this
  | false =>
    obtain ⟨p, v, hb⟩ := h
    refine (put0.calls b p v size line s times _ w hb hm h0 (by omega) h2).mono ?_
    rintro e w' ⟨rfl, hC, hb'⟩
    exact ⟨rfl, ⟨p, v, hb'⟩, KpB.of_ch hC, below_ch (Below.refl _ _) hC (by have := lt_of_block hb; omega) (fun k h => by omega)⟩
/-- Tokens on their lines, behind some (nf) on a line. -/
def txtA : Bool → Int → List S31 → List UInt8
  | _, _, [] => []
  | nf, line, t :: r => (if t.f2 = line ∧ nf = true then [32] else []) ++ (rep [10] (t.f2 - line).toNat ++ (t.f1.data.toList ++ txtA true t.f2 r))
def okA : Int → List S31 → Prop
  | _, [] => True
  | line, t :: r => line ≤ t.f2 ∧ t.f2 ≤ 65536 ∧ t.f1.size ≤ 65536 ∧ okA t.f2 r
theorem txtA_step (nf : Bool) (line : Int) (t : S31) (r : List S31) : txtA nf line (t :: r) = (if t.f2 = line ∧ nf = true then [32] else []) ++ (rep [10] (t.f2 - line).toNat ++ (t.f1.data.toList ++ txtA true t.f2 r)) := rfl
/-- What must still fit. -/
def fitA (full : Bool) (size : Int) (l : List UInt8) (rest : List UInt8) : Prop := 0 ≤ size ∧ size + ((rest.length : Nat) : Int) + 1 ≤ 4611686018427387904 ∧ (full = true → l.length + rest.length + 1 ≤ 140737488355328)

/-! ### bits_Mul32: function 117 -/
def bits_Mul32.f (a0 : Int) (a1 : Int) : Option (Int × Int) := some (((IntKind.u64.wrap ((IntKind.u64.wrap (a0)) * (IntKind.u64.wrap (a1)))) / 4294967296) % 4294967296, (IntKind.u64.wrap ((IntKind.u64.wrap (a0)) * (IntKind.u64.wrap (a1)))) % 4294967296)
set_option maxHeartbeats 8000000 in
set_option maxRecDepth 100000 in
theorem bits_Mul32.calls (a0 : Int) (a1 : Int) (r1 : Int) (r2 : Int) (w : World) (h : bits_Mul32.f a0 a1 = some (r1, r2)) :
    Calls Try.prog 117 #[.int .u32 a0, .int .u32 a1] w fun e w' => e = .returned (.tuple #[.int .u32 r1, .int .u32 r2]) ∧ Drawn0 w w' := by
  have H : (some (((IntKind.u64.wrap ((IntKind.u64.wrap (a0)) * (IntKind.u64.wrap (a1)))) / 4294967296) % 4294967296, (IntKind.u64.wrap ((IntKind.u64.wrap (a0)) * (IntKind.u64.wrap (a1)))) % 4294967296)) = some (r1, r2) := h
  clear h
  simp only [Option.some.injEq, Prod.mk.injEq] at H
  obtain ⟨rfl, rfl⟩ := H
  go_enter Try.func117, Try.ntmps117
  go_wp2
  go_ret2
  exact ⟨by first | rfl | (simp; done) | (simp [*]; done), by repeat (first | exact Drawn0.refl _ | apply Drawn0.step)⟩

/-! ### bits_Mul64: function 118 -/
def bits_Mul64.f (a0 : Int) (a1 : Int) : Option (Int × Int) := some (IntKind.u64.wrap ((IntKind.u64.wrap ((IntKind.u64.wrap ((a0 / 4294967296) * (a1 / 4294967296))) + ((IntKind.u64.wrap ((IntKind.u64.wrap ((a0 / 4294967296) * (Go.bits .and .u64 a1 4294967295))) + ((IntKind.u64.wrap ((Go.bits .and .u64 a0 4294967295) * (Go.bits .and .u64 a1 4294967295))) / 4294967296))) / 4294967296))) + ((IntKind.u64.wrap ((Go.bits .and .u64 (IntKind.u64.wrap ((IntKind.u64.wrap ((a0 / 4294967296) * (Go.bits .and .u64 a1 4294967295))) + ((IntKind.u64.wrap ((Go.bits .and .u64 a0 4294967295) * (Go.bits .and .u64 a1 4294967295))) / 4294967296))) 4294967295) + (IntKind.u64.wrap ((Go.bits .and .u64 a0 4294967295) * (a1 / 4294967296))))) / 4294967296)), IntKind.u64.wrap (a0 * a1))
set_option maxHeartbeats 8000000 in
set_option maxRecDepth 100000 in
theorem bits_Mul64.calls (a0 : Int) (a1 : Int) (r1 : Int) (r2 : Int) (w : World) (h : bits_Mul64.f a0 a1 = some (r1, r2)) :
    Calls Try.prog 118 #[.int .u64 a0, .int .u64 a1] w fun e w' => e = .returned (.tuple #[.int .u64 r1, .int .u64 r2]) ∧ Drawn0 w w' := by
  have H : (some (IntKind.u64.wrap ((IntKind.u64.wrap ((IntKind.u64.wrap ((a0 / 4294967296) * (a1 / 4294967296))) + ((IntKind.u64.wrap ((IntKind.u64.wrap ((a0 / 4294967296) * (Go.bits .and .u64 a1 4294967295))) + ((IntKind.u64.wrap ((Go.bits .and .u64 a0 4294967295) * (Go.bits .and .u64 a1 4294967295))) / 4294967296))) / 4294967296))) + ((IntKind.u64.wrap ((Go.bits .and .u64 (IntKind.u64.wrap ((IntKind.u64.wrap ((a0 / 4294967296) * (Go.bits .and .u64 a1 4294967295))) + ((IntKind.u64.wrap ((Go.bits .and .u64 a0 4294967295) * (Go.bits .and .u64 a1 4294967295))) / 4294967296))) 4294967295) + (IntKind.u64.wrap ((Go.bits .and .u64 a0 4294967295) * (a1 / 4294967296))))) / 4294967296)), IntKind.u64.wrap (a0 * a1))) = some (r1, r2) := h
  clear h
  simp only [Option.some.injEq, Prod.mk.injEq] at H
  obtain ⟨rfl, rfl⟩ := H
  go_enter Try.func118, Try.ntmps118
  go_wp2
  go_ret2
  exact ⟨by first | rfl | (simp; done) | (simp [*]; done), by repeat (first | exact Drawn0.refl _ | apply Drawn0.step)⟩

/-! ### bits_Mul: function 106 -/
def bits_Mul.f (a0 : Int) (a1 : Int) : Option (Int × Int) := (bits_Mul64.f a0 a1).bind fun bt134 => (some (bt134.1, bt134.2))
set_option maxHeartbeats 8000000 in
set_option maxRecDepth 100000 in
theorem bits_Mul.calls (a0 : Int) (a1 : Int) (r1 : Int) (r2 : Int) (w : World) (h : bits_Mul.f a0 a1 = some (r1, r2)) :
    Calls Try.prog 106 #[.int .u64 a0, .int .u64 a1] w fun e w' => e = .returned (.tuple #[.int .u64 r1, .int .u64 r2]) ∧ Drawn0 w w' := by
  have H : ((bits_Mul64.f a0 a1).bind fun bt134 => (some (bt134.1, bt134.2))) = some (r1, r2) := h
  clear h
  replace H := Option.bind_eq_some_iff.mp H
  obtain ⟨⟨t134, t135⟩, A30, H⟩ := H
  replace H : (some (t134, t135)) = some (r1, r2) := H
  have A3 := Aside0.mk A30
  clear A30
  simp only [Option.some.injEq, Prod.mk.injEq] at H
  obtain ⟨rfl, rfl⟩ := H
  go_enter Try.func106, Try.ntmps106
  go_wp2_with (first | ((with_reducible refine gate_callee (f := 118) rfl ?_); refine goesL_ (some 25) rfl rfl Try.func118 (by kernel_rfl) rfl #[.int .u64 a0, .int .u64 a1] rfl (by (try simp only [List.map_toArray, List.map_cons, List.map_nil]); first | done | rfl | (simp only [List.length_drop, List.length_take]; rfl)) ?_; (with_reducible refine (bits_Mul64.calls a0 a1 t134 t135 _ A3.out).mono ?_); rintro e w' ⟨rfl, ⟨nd, rfl⟩⟩; refine ⟨_, rfl, ?_⟩))
  go_ret2
  exact ⟨by first | rfl | (simp; done) | (simp [*]; done), by repeat (first | exact Drawn0.refl _ | apply Drawn0.step)⟩

/-! ### stringslite_HasPrefix: function 119 -/
def stringslite_HasPrefix.f (a0 : ByteArray) (a1 : ByteArray) : Option (Bool) := if (a0.size : Int) ≥ (a1.size : Int) then (if 0 ≤ (a1.size : Int) then (if (a1.size : Int) ≤ (a0.size : Int) then (some ((a0.extract 0 ((a1.size : Int) : Int).toNat).toList == a1.toList)) else (none)) else (none)) else (some false)
set_option maxHeartbeats 8000000 in
set_option maxRecDepth 100000 in
theorem stringslite_HasPrefix.calls (a0 : ByteArray) (a1 : ByteArray) (r : Bool) (w : World) (h : stringslite_HasPrefix.f a0 a1 = some r) :
    Calls Try.prog 119 #[.string a0, .string a1] w fun e w' => e = .returned (.bool r) ∧ Drawn0 w w' := by
  have H : (if (a0.size : Int) ≥ (a1.size : Int) then (if 0 ≤ (a1.size : Int) then (if (a1.size : Int) ≤ (a0.size : Int) then (some ((a0.extract 0 ((a1.size : Int) : Int).toNat).toList == a1.toList)) else (none)) else (none)) else (some false)) = some r := h
  clear h
  by_cases c3 : (a0.size : Int) ≥ (a1.size : Int)
  · rw [if_pos c3] at H
    have c3b0 : decide ((a1.size : Int) ≤ (a0.size : Int)) = true := decide_eq_true c3
    have c3b1 : decide (a1.size ≤ a0.size) = true := decide_eq_true (Int.ofNat_le.mp c3)
    clear c3
    by_cases c4 : 0 ≤ (a1.size : Int)
    · rw [if_pos c4] at H
      have c4b0 := eq_true c4
      have c4b1 : decide (0 ≤ (a1.size : Int)) = true := decide_eq_true c4
      clear c4
      by_cases c5 : (a1.size : Int) ≤ (a0.size : Int)
      · rw [if_pos c5] at H
        have c5b0 := eq_true c5
        have c5b1 : decide ((a1.size : Int) ≤ (a0.size : Int)) = true := decide_eq_true c5
        clear c5
        obtain rfl := Option.some.inj H
        go_enter Try.func119, Try.ntmps119
        go_wp2
        go_ret
        exact ⟨by first | rfl | (simp; done) | (simp [*]; done), by repeat (first | exact Drawn0.refl _ | apply Drawn0.step)⟩
      · rw [if_neg c5] at H
        exact absurd H (by simp)
    · rw [if_neg c4] at H
      exact absurd H (by simp)
  · rw [if_neg c3] at H
    have c3b0 : decide ((a1.size : Int) ≤ (a0.size : Int)) = false := decide_eq_false c3
    have c3b1 : decide (a1.size ≤ a0.size) = false := decide_eq_false (fun h => c3 (Int.ofNat_le.mpr h))
    clear c3
    obtain rfl := Option.some.inj H
    go_enter Try.func119, Try.ntmps119
    go_wp2
    go_ret
    exact ⟨by first | rfl | (simp; done) | (simp [*]; done), by repeat (first | exact Drawn0.refl _ | apply Drawn0.step)⟩

/-! ### strings_HasPrefix: function 107 -/
def strings_HasPrefix.f (a0 : ByteArray) (a1 : ByteArray) : Option (Bool) := (stringslite_HasPrefix.f a0 a1).bind fun t136 => (some t136)
set_option maxHeartbeats 8000000 in
set_option maxRecDepth 100000 in
theorem strings_HasPrefix.calls (a0 : ByteArray) (a1 : ByteArray) (r : Bool) (w : World) (h : strings_HasPrefix.f a0 a1 = some r) :
    Calls Try.prog 107 #[.string a0, .string a1] w fun e w' => e = .returned (.bool r) ∧ Drawn0 w w' := by
  have H : ((stringslite_HasPrefix.f a0 a1).bind fun t136 => (some t136)) = some r := h
  clear h
  replace H := Option.bind_eq_some_iff.mp H
  obtain ⟨t136, A30, H⟩ := H
  replace H : (some t136) = some r := H
  have A3 := Aside0.mk A30
  clear A30
  obtain rfl := Option.some.inj H
  go_enter Try.func107, Try.ntmps107
  go_wp2_with (first | ((with_reducible refine gate_callee (f := 119) rfl ?_); refine goesL_ (some 7) rfl rfl Try.func119 (by kernel_rfl) rfl #[.string a0, .string a1] rfl (by (try simp only [List.map_toArray, List.map_cons, List.map_nil]); first | done | rfl | (simp only [List.length_drop, List.length_take]; rfl)) ?_; (with_reducible refine (stringslite_HasPrefix.calls a0 a1 t136 _ A3.out).mono ?_); rintro e w' ⟨rfl, ⟨nd, rfl⟩⟩; refine ⟨_, rfl, ?_⟩))
  go_ret
  exact ⟨by first | rfl | (simp; done) | (simp [*]; done), by repeat (first | exact Drawn0.refl _ | apply Drawn0.step)⟩

-- by hand: lexall3.inc
/-- The whole text. -/
def textA (l : List S31) : List UInt8 := txtA false 1 l ++ (if l.length = 0 then [] else [10])
set_option maxRecDepth 100000 in
set_option maxHeartbeats 4000000 in
theorem all.calls (full : Bool) (b : Nat) (A : Option Addr) (c : Nat) (l : List S31) (line0 : Int) (w0 w : World) (hr : Kd.C k31 w0 A l.length l) (hc : l.length ≤ c) (hB0 : Below w0.heap.size w0 w) (hbb : w0.heap.size ≤ b) (hpg : PG full w0.heap.size b [] 0 line0 w) (hok : okA 1 l) (hfit : fitA full 0 [] (txtA false 1 l)) :
    Calls Try.prog 44 #[.pointer (some ⟨b, 0, none⟩), .slice A l.length c] w fun e w' => e = .returned (.tuple #[]) ∧ (∃ line1, PG full w0.heap.size b (textA l) (((textA l).length : Nat) : Int) line1 w') ∧ Below w0.heap.size w0 w' := by
  have hu31 := Try.underlying31
  have HR := Aside0.mk hr
  have hlen : l.length ≤ 9223372036854775807 := hr.2.1
  have HB := Aside0.mk (below_ch hB0 ((Ch.refl (fun k => k = b) w).set (p := ⟨b, 3, none⟩) (.inl rfl) (.int .i64 1)) hB0.size (fun k h => by omega))
  have HPG := Aside0.mk (hpg.line 1)
  have HOK : Aside0 (okA 1 (l.drop 0)) := ⟨hok⟩
  have HFIT : Aside0 (fitA full 0 [] (txtA false 1 (l.drop 0))) := ⟨hfit⟩
  obtain ⟨T, hT⟩ : ∃ T, T = txtA false 1 l := ⟨_, rfl⟩
  have HTA : Aside0 (textA l = T ++ (if l.length = 0 then [] else [10])) := ⟨by rw [hT]; rfl⟩
  have HT : Aside0 (T = [] ++ txtA false 1 (l.drop 0)) := ⟨hT⟩
  obtain ⟨p, v, hb⟩ := hpg.block
  have f3 := zfree hb 3
  have c3 := zcell hb 3 (.int .i64 line0) rfl
  clear hr hB0 hpg hok hfit hT hb
  go_enter Try.func44, Try.ntmps44
  go_wp2_with fail
  clear f3 c3
  generalize w.setCell ⟨b, 3, none⟩ (.int .i64 1) = W1 at HPG HB ⊢
  go_loopw [11] (fun v11 W => ∃ (i : Nat) (s : List UInt8) (line : Int) (nf : Bool), i ≤ l.length ∧ 1 ≤ line ∧ v11 = .int .i64 i ∧ Aside0 (nf = decide ((0 : Int) < (i : Int))) ∧ Aside0 (T = s ++ txtA nf line (l.drop i)) ∧ Aside0 (okA line (l.drop i)) ∧ Aside0 (fitA full ((s.length : Nat) : Int) s (txtA nf line (l.drop i))) ∧ Aside0 (PG full w0.heap.size b s ((s.length : Nat) : Int) line W) ∧ Aside0 (Below w0.heap.size w0 W)) (fun v _ => l.length - (intOf v).toNat)
  case atStart => exact ⟨0, [], 1, false, by omega, by omega, rfl, ⟨rfl⟩, HT, HOK, HFIT, HPG, HB⟩
  case round =>
    clear HB HPG HOK HFIT HT
    obtain ⟨i, s, line, nf, hi, h1, rfl, HNF, HT, HOK, HFIT, HPG, HB⟩ := hrel
    by_cases hlt : i < l.length
    · obtain ⟨ad, ea, hx, hy, hz⟩ := at_T31 (C31_below HR.out HB.out (Nat.le_refl _)) (i : Int) (by omega) (by omega)
      cases ea
      rw [Int.toNat_natCast] at hx hy hz
      have hT := HT.out
      have hok := HOK.out
      have hfit := HFIT.out
      rw [drop31 l i hlt] at hT hok hfit
      obtain ⟨x, hxe⟩ : ∃ x, x = rd_T31 l (i : Int) := ⟨_, rfl⟩
      rw [← hxe] at hx hy hz hT hok hfit
      clear hxe HT HOK HFIT
      obtain ⟨o1, o2, o3, o4⟩ := hok
      have HOK2 := Aside0.mk o4
      obtain ⟨xs, hxs⟩ : ∃ xs, x.f1 = txt xs := ⟨x.f1.data.toList, (txt_data _).symm⟩
      rw [hxs] at hy o3
      rw [txt_size] at o3
      rw [txtA_step, hxs, txt_list] at hT hfit
      obtain ⟨d, hd⟩ : ∃ d : Nat, x.f2 - line = d := ⟨(x.f2 - line).toNat, by omega⟩
      rw [hd, Int.toNat_natCast] at hT hfit
      obtain ⟨p, v, hb⟩ := HPG.out.block
      obtain ⟨q0, q1, q2⟩ := hfit
      have hz0 : wr.heap.size ≠ b := by have := lt_of_block hb; omega
      have hb1 := ((Ch.refl (fun _ => False) wr).alloc (.cells #[.int .i64 x.f0, .string (txt xs), .int .i64 x.f2] 31 (0, 0))).heap hb (fun h => h)
      have HPG1 := Aside0.mk (HPG.out.step ((Ch.refl (fun _ => False) wr).alloc (.cells #[.int .i64 x.f0, .string (txt xs), .int .i64 x.f2] 31 (0, 0))))
      have HX1 := Aside0.mk (heap_alloc_new wr (.cells #[.int .i64 x.f0, .string (txt xs), .int .i64 x.f2] 31 (0, 0)))
      have HB1 := Aside0.mk (below_alloc HB.out (.cells #[.int .i64 x.f0, .string (txt xs), .int .i64 x.f2] 31 (0, 0)))
      have y0 := zcell HX1.out 0 (.int .i64 x.f0) rfl
      have y1 := zcell HX1.out 1 (.string (txt xs)) rfl
      have y2 := zcell HX1.out 2 (.int .i64 x.f2) rfl
      have z3 := zcell hb1 3 (.int .i64 line) rfl
      have HBX : Aside0 (w0.heap.size ≤ wr.heap.size) := ⟨HB.out.size⟩
      obtain ⟨bx, hbx⟩ : ∃ bx, bx = wr.heap.size := ⟨_, rfl⟩
      have HT2 := Aside0.mk hT
      have HQ1 := Aside0.mk q1
      have HQ2 := Aside0.mk q2
      have HLN : Aside0 (x.f2 - line = (d : Int) ∧ line ≤ x.f2 ∧ x.f2 ≤ 65536 ∧ 1 ≤ line) := ⟨hd, o1, o2, h1⟩
      have HXS := Aside0.mk o3
      clear hb hb1 HPG HB hT q0 q1 q2 o4 hd o1 o2 o3 h1
      have HDL : Aside0 (x.f2 - line = (d : Int) ∧ (d : Int) ≤ 65536 ∧ line ≤ x.f2) := ⟨by
        have := HLN.out; omega⟩
      have HDL : Aside0 (x.f2 - line = (d : Int) ∧ (d : Int) ≤ 65536 ∧ line ≤ x.f2) := ⟨by
        have := HLN.out; omega⟩
      obtain ⟨R, hR⟩ : ∃ R, R = txtA true x.f2 (l.drop (i + 1)) := ⟨_, rfl⟩
      go_wp2_with fail
      by_cases he : x.f2 = line
      · by_cases hi0 : 0 < i
        · have hb0 : (x.f2 == line) = true := beq_iff_eq.mpr he
          have hb1 : decide (0 < i) = true := decide_eq_true hi0
          have hnf : nf = true := by rw [HNF.out]; exact decide_eq_true (by omega)
          have hT := HT2.out
          have q1 := HQ1.out
          have q2 := HQ2.out
          rw [if_pos ⟨he, hnf⟩, ← hR] at hT q1 q2
          simp only [List.length_append, rep_len, List.length_cons, List.length_nil] at q1 q2
          have HT3 : Aside0 (T = (s ++ [32]) ++ (rep [10] d ++ (xs ++ R))) := ⟨by rw [hT]; simp⟩
          have HF2 : Aside0 ((((s ++ [32]).length : Nat) : Int) + ((d + (xs.length + R.length) : Nat) : Int) + 1 ≤ 4611686018427387904 ∧ (full = true → (s ++ [32]).length + (d + (xs.length + R.length)) + 1 ≤ 140737488355328)) := ⟨by simp only [List.length_append, List.length_cons, List.length_nil]; omega, fun h => by have := q2 h; simp only [List.length_append, List.length_cons, List.length_nil]; omega⟩
          have HF1 : Aside0 (((s.length : Nat) : Int) + 1 ≤ 4611686018427387904 ∧ (full = true → s.length + 1 ≤ 140737488355328)) := ⟨by omega, fun h => by have := q2 h; omega⟩
          clear he hi0 hnf hT q1 q2 HT2 HQ1 HQ2
          go_quiet (fail)
          go_wp2_with fail
          refine (put.calls full w0.heap.size b s ((s.length : Nat) : Int) line [32] 1 _ (HPG1.out.step ((Ch.refl _ _).drewN _)) (by omega) (by have := HF1.out.1; simp only [List.length_cons, List.length_nil]; omega) hbb (by omega) (fun h => by have := HF1.out.2 h; simp only [List.length_cons, List.length_nil]; omega)).mono ?_
          rintro e W2 ⟨rfl, h2, hk2, hb2⟩
          have e5 : s ++ rep [32] 1 = s ++ [32] := by simp [rep]
          have e6 : ((s.length : Nat) : Int) + ((([32] : List UInt8).length * 1 : Nat) : Int) = (((s ++ [32]).length : Nat) : Int) := by simp
          rw [e5, e6] at h2
          have HPG2 := Aside0.mk h2
          have HX2 : Aside0 (W2.heap[wr.heap.size]? = some (.cells #[.int .i64 x.f0, .string (txt xs), .int .i64 x.f2] 31 (0, 0))) := ⟨hk2.keep _ _ _ _ HX1.out hz0 (by decide)⟩
          have HB2 := Aside0.mk ((pw_below_drewN HB1.out _).trans hb2)
          clear h2 hk2 hb2 e5 e6 y0 y1 y2 z3
          go_wp2_with fail
          obtain ⟨s2, hs2e⟩ : ∃ s2, s2 = s ++ [32] := ⟨_, rfl⟩
          rw [← hs2e] at HT3 HF2 HPG2
          have HT2 : Aside0 (T = s2 ++ (rep [10] d ++ (xs ++ txtA true x.f2 (l.drop (i + 1))))) := ⟨by rw [HT3.out, hR]⟩
          have HFF := Aside0.mk hR
          rw [hR] at HF2
          clear hs2e hR
          have e0 := zcell HX2.out 0 (.int .i64 x.f0) rfl
          have e1 := zcell HX2.out 1 (.string (txt xs)) rfl
          have e2 := zcell HX2.out 2 (.int .i64 x.f2) rfl
          obtain ⟨p2, v2, hb2⟩ := HPG2.out.block
          have d3 := zcell hb2 3 (.int .i64 line) rfl
          have hs1 : wrap64 (x.f2 - line) = (d : Int) := by unfold wrap64; have := HDL.out; omega
          have hs2 : IntKind.i64.wrap (x.f2 - line) = (d : Int) := by rw [IntKind.wrap_i64]; have := HDL.out; omega
          have hnb : ¬ (wr.heap.size = b) := hz0
          clear hb2
          go_region_with (go_at_call 67; refine (put.calls full w0.heap.size b s2 ((s2.length : Nat) : Int) line [10] d _ (by first | exact HPG2.out | exact HPG2.out.step ((Ch.refl _ _).drew)) (by omega) (by have := HF2.out.1; simp only [List.length_cons, List.length_nil]; omega) hbb (by have := HDL.out; omega) (fun h => by have := HF2.out.2 h; simp only [List.length_cons, List.length_nil]; omega)).mono ?_; rintro e W3 ⟨rfl, h3, hk3, hb3⟩; have H3 := Aside0.mk h3; have HX3 : Aside0 (W3.heap[wr.heap.size]? = some (.cells #[.int .i64 x.f0, .string (txt xs), .int .i64 x.f2] 31 (0, 0))) := ⟨hk3.keep _ _ _ _ HX2.out hz0 (by decide)⟩; have HB3 := Aside0.mk (by first | exact HB2.out.trans hb3 | exact (Below.drew HB2.out).trans hb3); clear h3 hk3 hb3)
          all_goals
            clear e0 e1 e2 d3 hs1 hs2
            have e1 := zcell HX3.out 1 (.string (txt xs)) rfl
            go_wp2_with fail
            refine (put.calls full w0.heap.size b _ _ line xs 1 _ H3.out (by omega) (by have := HF2.out.1; simp only [List.length_cons, List.length_nil]; omega) hbb (by omega) (fun h => by have := HF2.out.2 h; simp only [List.length_append, rep_len, List.length_cons, List.length_nil]; omega)).mono ?_
            rintro e W4 ⟨rfl, h4, hk4, hb4⟩
            have HX4 : Aside0 (W4.heap[wr.heap.size]? = some (.cells #[.int .i64 x.f0, .string (txt xs), .int .i64 x.f2] 31 (0, 0))) := ⟨hk4.keep _ _ _ _ HX3.out hz0 (by decide)⟩
            have HB4 := Aside0.mk (HB3.out.trans hb4)
            obtain ⟨p4, v4, hb4'⟩ := h4.block
            have H4 := Aside0.mk h4
            have d3 := zcell hb4' 3 (.int .i64 line) rfl
            have f3 := zfree hb4' 3
            have e2 := zcell HX4.out 2 (.int .i64 x.f2) rfl
            clear h4 hk4 hb4 hb4' e1
            go_wp2_with fail
            have h5 := H4.out.line x.f2
            have e5 : s2 ++ rep [10] d ++ rep xs 1 = s2 ++ (rep [10] d ++ xs) := by simp [rep]
            have e6 : ((s2.length : Nat) : Int) + ((([10] : List UInt8).length * d : Nat) : Int) + ((xs.length * 1 : Nat) : Int) = (((s2 ++ (rep [10] d ++ xs)).length : Nat) : Int) := by simp only [List.length_append, rep_len, List.length_cons, List.length_nil]; omega
            rw [e5, e6] at h5
            have hB5 := below_ch HB4.out ((Ch.refl (fun k => k = b) W4).set (p := ⟨b, 3, none⟩) (.inl rfl) (.int .i64 x.f2)) HB4.out.size (fun k h => by omega)
            refine ⟨⟨i + 1, s2 ++ (rep [10] d ++ xs), x.f2, true, by omega, by have := HLN.out; omega, by go_num, ⟨by symm; exact decide_eq_true (by omega)⟩, ⟨by rw [HT2.out]; simp⟩, HOK2, ⟨by omega, ?_, fun h => ?_⟩, ⟨h5⟩, ⟨hB5⟩⟩, by simp [intOf]; omega⟩
            · have := HF2.out.1; simp only [List.length_append, rep_len, List.length_cons, List.length_nil]; omega
            · have := HF2.out.2 h; simp only [List.length_append, rep_len, List.length_cons, List.length_nil]; omega
        · have hb0 : (x.f2 == line) = true := beq_iff_eq.mpr he
          have hb1 : decide (0 < i) = false := decide_eq_false hi0
          have hnf : ¬ nf = true := by rw [HNF.out]; intro h; have := of_decide_eq_true h; omega
          have hT := HT2.out
          have q1 := HQ1.out
          have q2 := HQ2.out
          rw [if_neg (fun h => hnf h.2)] at hT q1 q2
          simp only [List.nil_append, List.length_append, rep_len, List.length_cons, List.length_nil] at hT q1 q2
          clear HT2
          have HT2 := Aside0.mk hT
          have HF2 : Aside0 (((s.length : Nat) : Int) + ((d + (xs.length + (txtA true x.f2 (l.drop (i + 1))).length) : Nat) : Int) + 1 ≤ 4611686018427387904 ∧ (full = true → s.length + (d + (xs.length + (txtA true x.f2 (l.drop (i + 1))).length)) + 1 ≤ 140737488355328)) := ⟨by omega, fun h => by have := q2 h; omega⟩
          clear he hi0 hnf hT q1 q2 HQ1 HQ2 hR
          go_quiet (fail)
          go_wp2_with fail
          have HPG2 := Aside0.mk (HPG1.out.step ((Ch.refl _ _).drewN nq))
          have HX2 := Aside0.mk (((Ch.refl (fun _ => False) _).drewN nq).heap HX1.out (fun h => h))
          have HB2 := Aside0.mk (pw_below_drewN HB1.out nq)
          clear y0 y1 y2 z3
          generalize (wr.alloc (.cells #[.int .i64 x.f0, .string (txt xs), .int .i64 x.f2] 31 (0, 0))).drewN nq = W2 at HPG2 HX2 HB2 ⊢
          have e0 := zcell HX2.out 0 (.int .i64 x.f0) rfl
          have e1 := zcell HX2.out 1 (.string (txt xs)) rfl
          have e2 := zcell HX2.out 2 (.int .i64 x.f2) rfl
          obtain ⟨p2, v2, hb2⟩ := HPG2.out.block
          have d3 := zcell hb2 3 (.int .i64 line) rfl
          have hs1 : wrap64 (x.f2 - line) = (d : Int) := by unfold wrap64; have := HDL.out; omega
          have hs2 : IntKind.i64.wrap (x.f2 - line) = (d : Int) := by rw [IntKind.wrap_i64]; have := HDL.out; omega
          have hnb : ¬ (wr.heap.size = b) := hz0
          clear hb2
          go_region_with (go_at_call 67; refine (put.calls full w0.heap.size b s ((s.length : Nat) : Int) line [10] d _ (by first | exact HPG2.out | exact HPG2.out.step ((Ch.refl _ _).drew)) (by omega) (by have := HF2.out.1; simp only [List.length_cons, List.length_nil]; omega) hbb (by have := HDL.out; omega) (fun h => by have := HF2.out.2 h; simp only [List.length_cons, List.length_nil]; omega)).mono ?_; rintro e W3 ⟨rfl, h3, hk3, hb3⟩; have H3 := Aside0.mk h3; have HX3 : Aside0 (W3.heap[wr.heap.size]? = some (.cells #[.int .i64 x.f0, .string (txt xs), .int .i64 x.f2] 31 (0, 0))) := ⟨hk3.keep _ _ _ _ HX2.out hz0 (by decide)⟩; have HB3 := Aside0.mk (by first | exact HB2.out.trans hb3 | exact (Below.drew HB2.out).trans hb3); clear h3 hk3 hb3)
          all_goals
            clear e0 e1 e2 d3 hs1 hs2
            have e1 := zcell HX3.out 1 (.string (txt xs)) rfl
            go_wp2_with fail
            refine (put.calls full w0.heap.size b _ _ line xs 1 _ H3.out (by omega) (by have := HF2.out.1; simp only [List.length_cons, List.length_nil]; omega) hbb (by omega) (fun h => by have := HF2.out.2 h; simp only [List.length_append, rep_len, List.length_cons, List.length_nil]; omega)).mono ?_
            rintro e W4 ⟨rfl, h4, hk4, hb4⟩
            have HX4 : Aside0 (W4.heap[wr.heap.size]? = some (.cells #[.int .i64 x.f0, .string (txt xs), .int .i64 x.f2] 31 (0, 0))) := ⟨hk4.keep _ _ _ _ HX3.out hz0 (by decide)⟩
            have HB4 := Aside0.mk (HB3.out.trans hb4)
            obtain ⟨p4, v4, hb4'⟩ := h4.block
            have H4 := Aside0.mk h4
            have d3 := zcell hb4' 3 (.int .i64 line) rfl
            have f3 := zfree hb4' 3
            have e2 := zcell HX4.out 2 (.int .i64 x.f2) rfl
            clear h4 hk4 hb4 hb4' e1
            go_wp2_with fail
            have h5 := H4.out.line x.f2
            have e5 : s ++ rep [10] d ++ rep xs 1 = s ++ (rep [10] d ++ xs) := by simp [rep]
            have e6 : ((s.length : Nat) : Int) + ((([10] : List UInt8).length * d : Nat) : Int) + ((xs.length * 1 : Nat) : Int) = (((s ++ (rep [10] d ++ xs)).length : Nat) : Int) := by simp only [List.length_append, rep_len, List.length_cons, List.length_nil]; omega
            rw [e5, e6] at h5
            have hB5 := below_ch HB4.out ((Ch.refl (fun k => k = b) W4).set (p := ⟨b, 3, none⟩) (.inl rfl) (.int .i64 x.f2)) HB4.out.size (fun k h => by omega)
            refine ⟨⟨i + 1, s ++ (rep [10] d ++ xs), x.f2, true, by omega, by have := HLN.out; omega, by go_num, ⟨by symm; exact decide_eq_true (by omega)⟩, ⟨by rw [HT2.out]; simp⟩, HOK2, ⟨by omega, ?_, fun h => ?_⟩, ⟨h5⟩, ⟨hB5⟩⟩, by simp [intOf]; omega⟩
            · have := HF2.out.1; simp only [List.length_append, rep_len, List.length_cons, List.length_nil]; omega
            · have := HF2.out.2 h; simp only [List.length_append, rep_len, List.length_cons, List.length_nil]; omega
      · have hb0 : (x.f2 == line) = false := beq_eq_false_iff_ne.mpr he
        have hT := HT2.out
        have q1 := HQ1.out
        have q2 := HQ2.out
        rw [if_neg (fun h => he h.1)] at hT q1 q2
        simp only [List.nil_append, List.length_append, rep_len, List.length_cons, List.length_nil] at hT q1 q2
        clear HT2
        have HT2 := Aside0.mk hT
        have HF2 : Aside0 (((s.length : Nat) : Int) + ((d + (xs.length + (txtA true x.f2 (l.drop (i + 1))).length) : Nat) : Int) + 1 ≤ 4611686018427387904 ∧ (full = true → s.length + (d + (xs.length + (txtA true x.f2 (l.drop (i + 1))).length)) + 1 ≤ 140737488355328)) := ⟨by omega, fun h => by have := q2 h; omega⟩
        clear he hT q1 q2 HQ1 HQ2 hR
        go_quiet (fail)
        go_wp2_with fail
        have HPG2 := Aside0.mk (HPG1.out.step ((Ch.refl _ _).drewN nq))
        have HX2 := Aside0.mk (((Ch.refl (fun _ => False) _).drewN nq).heap HX1.out (fun h => h))
        have HB2 := Aside0.mk (pw_below_drewN HB1.out nq)
        clear y0 y1 y2 z3
        generalize (wr.alloc (.cells #[.int .i64 x.f0, .string (txt xs), .int .i64 x.f2] 31 (0, 0))).drewN nq = W2 at HPG2 HX2 HB2 ⊢
        have e0 := zcell HX2.out 0 (.int .i64 x.f0) rfl
        have e1 := zcell HX2.out 1 (.string (txt xs)) rfl
        have e2 := zcell HX2.out 2 (.int .i64 x.f2) rfl
        obtain ⟨p2, v2, hb2⟩ := HPG2.out.block
        have d3 := zcell hb2 3 (.int .i64 line) rfl
        have hs1 : wrap64 (x.f2 - line) = (d : Int) := by unfold wrap64; have := HDL.out; omega
        have hs2 : IntKind.i64.wrap (x.f2 - line) = (d : Int) := by rw [IntKind.wrap_i64]; have := HDL.out; omega
        have hnb : ¬ (wr.heap.size = b) := hz0
        clear hb2
        go_region_with (go_at_call 67; refine (put.calls full w0.heap.size b s ((s.length : Nat) : Int) line [10] d _ (by first | exact HPG2.out | exact HPG2.out.step ((Ch.refl _ _).drew)) (by omega) (by have := HF2.out.1; simp only [List.length_cons, List.length_nil]; omega) hbb (by have := HDL.out; omega) (fun h => by have := HF2.out.2 h; simp only [List.length_cons, List.length_nil]; omega)).mono ?_; rintro e W3 ⟨rfl, h3, hk3, hb3⟩; have H3 := Aside0.mk h3; have HX3 : Aside0 (W3.heap[wr.heap.size]? = some (.cells #[.int .i64 x.f0, .string (txt xs), .int .i64 x.f2] 31 (0, 0))) := ⟨hk3.keep _ _ _ _ HX2.out hz0 (by decide)⟩; have HB3 := Aside0.mk (by first | exact HB2.out.trans hb3 | exact (Below.drew HB2.out).trans hb3); clear h3 hk3 hb3)
        all_goals
          clear e0 e1 e2 d3 hs1 hs2
          have e1 := zcell HX3.out 1 (.string (txt xs)) rfl
          go_wp2_with fail
          refine (put.calls full w0.heap.size b _ _ line xs 1 _ H3.out (by omega) (by have := HF2.out.1; simp only [List.length_cons, List.length_nil]; omega) hbb (by omega) (fun h => by have := HF2.out.2 h; simp only [List.length_append, rep_len, List.length_cons, List.length_nil]; omega)).mono ?_
          rintro e W4 ⟨rfl, h4, hk4, hb4⟩
          have HX4 : Aside0 (W4.heap[wr.heap.size]? = some (.cells #[.int .i64 x.f0, .string (txt xs), .int .i64 x.f2] 31 (0, 0))) := ⟨hk4.keep _ _ _ _ HX3.out hz0 (by decide)⟩
          have HB4 := Aside0.mk (HB3.out.trans hb4)
          obtain ⟨p4, v4, hb4'⟩ := h4.block
          have H4 := Aside0.mk h4
          have d3 := zcell hb4' 3 (.int .i64 line) rfl
          have f3 := zfree hb4' 3
          have e2 := zcell HX4.out 2 (.int .i64 x.f2) rfl
          clear h4 hk4 hb4 hb4' e1
          go_wp2_with fail
          have h5 := H4.out.line x.f2
          have e5 : s ++ rep [10] d ++ rep xs 1 = s ++ (rep [10] d ++ xs) := by simp [rep]
          have e6 : ((s.length : Nat) : Int) + ((([10] : List UInt8).length * d : Nat) : Int) + ((xs.length * 1 : Nat) : Int) = (((s ++ (rep [10] d ++ xs)).length : Nat) : Int) := by simp only [List.length_append, rep_len, List.length_cons, List.length_nil]; omega
          rw [e5, e6] at h5
          have hB5 := below_ch HB4.out ((Ch.refl (fun k => k = b) W4).set (p := ⟨b, 3, none⟩) (.inl rfl) (.int .i64 x.f2)) HB4.out.size (fun k h => by omega)
          refine ⟨⟨i + 1, s ++ (rep [10] d ++ xs), x.f2, true, by omega, by have := HLN.out; omega, by go_num, ⟨by symm; exact decide_eq_true (by omega)⟩, ⟨by rw [HT2.out]; simp⟩, HOK2, ⟨by omega, ?_, fun h => ?_⟩, ⟨h5⟩, ⟨hB5⟩⟩, by simp [intOf]; omega⟩
          · have := HF2.out.1; simp only [List.length_append, rep_len, List.length_cons, List.length_nil]; omega
          · have := HF2.out.2 h; simp only [List.length_append, rep_len, List.length_cons, List.length_nil]; omega
    · have hdr : l.drop i = [] := List.drop_eq_nil_of_le (by omega)
      have hT := HT.out
      have hfit := HFIT.out
      rw [hdr] at hT hfit
      simp only [txtA, List.append_nil] at hT hfit
      have hTs : s = T := by rw [hT]
      subst hTs
      clear hT HT HFIT HOK hdr
      by_cases hl0 : l.length = 0
      · have HL0 := Aside0.mk hl0
        have hg : decide ((0 : Int) < (l.length : Int)) = false := decide_eq_false (by omega)
        have hg2 : decide (0 < l.length) = false := decide_eq_false (by omega)
        have hnl : ¬ (0 : Int) < (l.length : Int) := by omega
        clear hl0
        go_wp2_with fail
        go_end0
        exact ⟨rfl, ⟨_, by rw [HTA.out, if_pos HL0.out, List.append_nil]; exact HPG.out⟩, HB.out⟩
      · have HL0 := Aside0.mk hl0
        have hg : decide ((0 : Int) < (l.length : Int)) = true := decide_eq_true (by omega)
        have hg2 : decide (0 < l.length) = true := decide_eq_true (by omega)
        obtain ⟨q0, q1, q2⟩ := hfit
        have HF1 : Aside0 (((s.length : Nat) : Int) + 1 ≤ 4611686018427387904 ∧ (full = true → s.length + 1 ≤ 140737488355328)) := ⟨by simpa using q1, fun h => by simpa using q2 h⟩
        clear hl0 q0 q1 q2
        go_wp2_with fail
        refine (put.calls full w0.heap.size b s ((s.length : Nat) : Int) line [10] 1 _ HPG.out (by omega) (by have := HF1.out.1; simp only [List.length_cons, List.length_nil]; omega) hbb (by omega) (fun h => by have := HF1.out.2 h; simp only [List.length_cons, List.length_nil]; omega)).mono ?_
        rintro e W2 ⟨rfl, h2, hk2, hb2⟩
        have e5 : s ++ rep [10] 1 = s ++ [10] := by simp [rep]
        have e6 : ((s.length : Nat) : Int) + ((([10] : List UInt8).length * 1 : Nat) : Int) = (((s ++ [10]).length : Nat) : Int) := by simp
        rw [e5, e6] at h2
        have H2 := Aside0.mk h2
        have HB2 := Aside0.mk (HB.out.trans hb2)
        clear h2 hk2 hb2 e5 e6
        go_wp2_with fail
        go_end0
        exact ⟨rfl, ⟨_, by rw [HTA.out, if_neg HL0.out]; exact H2.out⟩, HB2.out⟩

end Go.Proofs.Ytoloneoeojoiaaa.ELexTells
