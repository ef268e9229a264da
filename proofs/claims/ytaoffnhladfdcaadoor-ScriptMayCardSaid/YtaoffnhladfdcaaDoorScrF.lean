/- An event that is read. -/
import Derived.Test.YtaoffnhladfdcaaDoorScrE
namespace Go.Proofs.YtaoffnhladfdcaaDoor.EScriptTrace
open Go.RowKit Go.Shelf Go.Proofs.YtaoffnhladfdcaaDoorW.PrintWords Go.Proofs.YtaoffnhladfdcaaDoorW.PrintLast Go.Proofs.YtaoffnhladfdcaaDoorW.PrintMore
set_option linter.unusedVariables false
set_option linter.unusedSimpArgs false
def tSC : ByteArray := ⟨#[59]⟩
def backsS : Nat → List S62 → St31 → Out (List S62)
  | 0, _, st => .inl (8, st)
  | n + 1, bs, st => bindO (peekS st) fun t st1 => if eqS t.f1 tSC = true then .inr (bs, st1) else bindO (numberS st1) fun a st2 => bindO (numberS st2) fun b st3 => backsS n (bs ++ [⟨a, b⟩]) st3
def body1 (st : St31) : Out Ev := bindO (numberS st) fun a st2 => bindO (numberS st2) fun b st3 => bindO (opS st3) fun g st4 => .inr (⟨1, a, b, g, 0, []⟩, st4)
def bodyN (k : Int) (st : St31) : Out Ev := bindO (numberS st) fun b st2 => .inr (⟨k, 0, b, zOp, 0, []⟩, st2)
def bodyA (k : Int) (st : St31) : Out Ev := bindO (numberS st) fun a st2 => .inr (⟨k, a, 0, zOp, 0, []⟩, st2)
def body10 (st : St31) : Out Ev := bindO (numberS st) fun a st2 => bindO (numberS st2) fun b st3 => .inr (⟨10, a, b, zOp, 0, []⟩, st3)
def body7 (st : St31) : Out Ev := bindO (numberS st) fun a st2 => bindO (numberS st2) fun v st3 => bindO (backsS (st3.1.length + 1) [] st3) fun bs st4 => .inr (⟨7, a, 0, zOp, v, bs⟩, st4)
def bodyS (k : Int) (st : St31) : Out Ev := if k = 1 then body1 st else if k = 2 ∨ k = 3 ∨ k = 4 then bodyN k st else if k = 10 then body10 st else if k = 7 then body7 st else bodyA k st
def tailS (e : Ev) (st : St31) : Out Ev := bindO (wordS [tSC] st) fun _ st' => if checkE e = 0 then .inr (e, st') else .inl (checkE e, st')
def eventS (st : St31) : Out Ev := bindO (wordS wordsL st) fun i st1 => bindO (bodyS (i + 1) st1) tailS
def evA (e : Ev) (vs : Value) : Array Value := #[.int .i64 e.f0, .int .i64 e.f1, .int .i64 e.f2, .int .i64 e.g.f0, .int .i64 e.g.f1, .int .i64 e.g.f2, .int .i64 e.g.f3, .int .i64 e.v, vs]
/-- An event as it is handed back: its backends in memory above B0. -/
def isEv (B0 : Nat) (e : Ev) (w : World) (v : Value) : Prop := ∃ vs, v = .agg (evA e vs) ∧ Kd.R k62 62 w B0 (fun _ => True) vs e.bs
theorem wordS_len {l : List ByteArray} {st st1 : St31} {i : Int} (h : wordS l st = .inr (i, st1)) : st1.1.length + 1 = st.1.length := by
  obtain ⟨tl, n⟩ := st
  cases tl with
  | nil => exact absurd h (by intro h; cases h)
  | cons t r =>
    have h : (if 0 ≤ idxL (eqS t.f1) l then .inr (idxL (eqS t.f1) l, (r, t.f2)) else .inl (33, (t :: r, t.f2)) : Out Int) = .inr (i, st1) := h
    by_cases h0 : 0 ≤ idxL (eqS t.f1) l
    · rw [if_pos h0] at h
      injection h with h
      injection h with h1 h2
      subst h2
      rfl
    · rw [if_neg h0] at h; cases h
theorem numberS_len {st st1 : St31} {i : Int} (h : numberS st = .inr (i, st1)) : st1.1.length + 1 = st.1.length := by
  obtain ⟨tl, n⟩ := st
  cases tl with
  | nil => exact absurd h (by intro h; cases h)
  | cons t r =>
    have h : (if t.f0 = 2 then (if (numT t).2 = 0 then .inr ((numT t).1, (r, t.f2)) else .inl ((numT t).2, (r, t.f2))) else .inl (33, (t :: r, t.f2)) : Out Int) = .inr (i, st1) := h
    by_cases h0 : t.f0 = 2
    · rw [if_pos h0] at h
      by_cases h1 : (numT t).2 = 0
      · rw [if_pos h1] at h
        injection h with h
        injection h with h1 h2
        subst h2
        rfl
      · rw [if_neg h1] at h; cases h
    · rw [if_neg h0] at h; cases h
theorem peekS_len {st st1 : St31} {t : S98} (h : peekS st = .inr (t, st1)) : st1.1.length = st.1.length := by
  obtain ⟨tl, n⟩ := st
  cases tl with
  | nil => exact absurd h (by intro h; cases h)
  | cons t' r =>
    have h : (.inr (t', (t' :: r, t'.f2)) : Out S98) = .inr (t, st1) := h
    injection h with h
    injection h with h1 h2
    subst h2
    rfl
theorem Ch.of_belowB {B : Nat} {w w1 : World} (h : Below B w w1) : Ch (fun k => B ≤ k) w w1 := ⟨h.os, h.tape, h.output, h.size, fun k _ hn => h.block k (by omega)⟩
theorem wordsL_len : wordsL.length = 10 := by decide +kernel

attribute [local go_sem] Instr.field asAgg
set_option maxHeartbeats 8000000 in
set_option maxRecDepth 100000 in
theorem event.calls (pb B : Nat) (st : St31) (w : World) (h : TokAt w pb B st.1 st.2) (hB : B ≤ w.heap.size) (hp : pb < B) (hn : st.1.length ≤ 65536) : Calls Tryd.prog 40 #[.pointer (some ⟨pb, 0, none⟩)] w (Ends w pb B (isEv w.heap.size) (eventS st)) := by
  have HT := Aside0.mk h
  have HB0 := Aside0.mk (And.intro hB (And.intro hp hn))
  obtain ⟨F, hF⟩ : ∃ F, F = eventS st := ⟨_, rfl⟩
  rw [← hF]
  have HF := Aside0.mk hF
  clear h hB hp hn hF
  go_enter Tryd.func40, Tryd.ntmps40
  go_wp2_with ((with_reducible refine gate_dst (N := 2) rfl ?_); refine box_event ?hg (N := 2) ?hd (cs := #[.int .i64 0, .int .i64 0, .int .i64 0, .int .i64 0, .int .i64 0, .int .i64 0, .int .i64 0, .int .i64 0, .slice none 0 0]) (t := 60) ?hr ?_; (case hd => rfl); (case hg => rfl); (case hr => first | (go_simp; done) | (go_simp; rfl)); intro g hg w2 hbox hb; have HT2 := Aside0.mk (HT.out.below hb); have HB2 := Aside0.mk hb; have BK2 := Aside0.mk hbox; have HG := Aside0.mk hg; clear hb hbox hg)
  try go_at_call 65
  refine (words.calls _ HT2.out.tab).mono ?_
  rintro e w3 ⟨rfl, rfl⟩
  have HN : Aside0 (B ≤ g ∧ pb < B ∧ g ≠ pb ∧ w.heap.size ≤ g) := ⟨by have := HB0.out; have := HG.out; omega⟩
  have hn := heap_alloc_new w2 (.cells (wordsL.map Value.string).toArray 9)
  have HL := Aside0.mk (strC_block wordsL hn (by rw [wordsL_len]; decide))
  have HT2b := Aside0.mk (HT2.out.below (below_alloc (Below.refl _ _) (.cells (wordsL.map Value.string).toArray 9)))
  have HC2 := Aside0.mk ((Ch.of_below HB2.out (fun k => k = pb)).alloc (.cells (wordsL.map Value.string).toArray 9))
  have BK2b := Aside0.mk ((Ch.of_below (below_alloc (Below.refl _ _) (.cells (wordsL.map Value.string).toArray 9)) (fun _ => False)).heap BK2.out (fun h => h))
  have hW := word.calls pb B (some ⟨w2.heap.size, 0, none⟩) 10 wordsL st _ HT2b.out HL.out (by rw [wordsL_len]; decide) (fun ad e => by injection e with e; subst e; have := HT2.out.lt; show w2.heap.size ≠ pb; omega)
  rw [wordsL_len] at hW
  have HW := Aside0.mk hW
  clear hn hW
  go_wp2_with fail
  try go_at_call 64
  rcases hw : wordS wordsL st with ⟨ce, se⟩ | ⟨i, st1⟩
  · have hF : F = .inl (ce, se) := by rw [HF.out]; unfold eventS; rw [hw]; rfl
    subst hF
    rw [hw] at HW
    refine HW.out.mono ?_
    rintro e w3 ⟨rfl, ht, hc⟩
    have HT3 := Aside0.mk ht
    have HC3 := Aside0.mk (HC2.out.trans hc (fun k h => .inl h))
    clear ht hc
    go_wp2_with fail
    exact ⟨rfl, rfl, HT3.out, HC3.out⟩
  have hr := wordS_inr hw
  rw [wordsL_len] at hr
  rw [hw] at HW
  obtain ⟨k, hk⟩ : ∃ k, k = i + 1 := ⟨_, rfl⟩
  have HF : Aside0 (F = bindO (bodyS k st1) tailS) := ⟨by rw [HF.out]; unfold eventS; rw [hw, hk]; rfl⟩
  have HST : Aside0 (st1.1.length ≤ 65536) := ⟨by have := wordS_len hw; have := HB0.out; omega⟩
  have HK : Aside0 (1 ≤ k ∧ k ≤ 10) := ⟨by omega⟩
  have hw1 : wrap64 (i + 1) = k := by unfold wrap64; omega
  have hw2 : IntKind.i64.wrap (i + 1) = k := by unfold IntKind.wrap; simp [IntKind.bits, IntKind.signed]; omega
  clear hw hr hk
  refine HW.out.mono ?_
  rintro e w3 ⟨⟨v, rfl, rfl⟩, ht, hc⟩
  have HT3 := Aside0.mk ht
  have HC3 := Aside0.mk (HC2.out.trans hc (fun k h => .inl h))
  have BK3 := Aside0.mk (hc.heap BK2b.out HN.out.2.2.1)
  have HS3 : Aside0 (w.heap.size ≤ w3.heap.size) := ⟨HC3.out.size⟩
  clear ht hc HW HL HT2b HC2 BK2b BK2 HT2
  go_upto_block 0 with (((with_reducible refine gate_store (p := 9) rfl ?_); refine store_seg rfl rfl 3 _ _ rfl (g := g) (o' := 0) (.int .i64 k) [.int .i64 k] #[.int .i64 k, .int .i64 0, .int .i64 0, .int .i64 0, .int .i64 0, .int .i64 0, .int .i64 0, .int .i64 0, .slice none 0 0] rfl (by first | rfl | (go_simp; done) | (go_simp; rfl)) rfl BK3.out (by simp) rfl (by kernel_rfl) (by rfl) ?_; intro w4 h1 h2; have BK4 := Aside0.mk h1; have HT4 := Aside0.mk (HT3.out.atG h2 HN.out.1 HN.out.2.1); have HC4 := Aside0.mk (HC3.out.trans h2 (fun k h => .inr (by have := HN.out; omega))); have hx0 : w4.cell? ⟨g, 0, none⟩ = some (.int .i64 k) := zcell h1 0 _ rfl; clear h1 h2))
  clear hw1 hw2
  go_cut [] from 12 to 65 (fun W => ∃ (ev : Ev) (vs : Value) (st2 : St31), Aside0 (F = tailS ev st2) ∧ Aside0 (W.heap[g]? = some (.cells (evA ev vs) 60 (0, 0))) ∧ Aside0 (Kd.R k62 62 W (g + 1) (fun _ => True) vs ev.bs) ∧ Aside0 (TokAt W pb B st2.1 st2.2) ∧ Aside0 (Ch (fun k => k = pb) w W))
  case first =>
    have h10 : k = 1 ∨ k = 2 ∨ k = 3 ∨ k = 4 ∨ k = 5 ∨ k = 6 ∨ k = 7 ∨ k = 8 ∨ k = 9 ∨ k = 10 := by have := HK.out; omega
    rcases h10 with rfl | rfl | rfl | rfl | rfl | rfl | rfl | rfl | rfl | rfl

    · -- 1
      have HI : Aside0 (F = bindO (body1 st1) tailS) := ⟨HF.out⟩
      go_wp2_with fail
      try go_at_call 66
      have HT5 := Aside0.mk (HT4.out.below (below_alloc (Below.refl _ _) (.cells #[.pointer (some ⟨g, 1, none⟩), .pointer (some ⟨g, 2, none⟩)] 85)))
      have HK5 := Aside0.mk (keep_al (o := (.cells #[.pointer (some ⟨g, 1, none⟩), .pointer (some ⟨g, 2, none⟩)] 85)) BK4.out)
      have HP5 := Aside0.mk (heap_alloc_new w4 (.cells #[.pointer (some ⟨g, 1, none⟩), .pointer (some ⟨g, 2, none⟩)] 85))
      have HC5 := Aside0.mk (HC4.out.alloc (.cells #[.pointer (some ⟨g, 1, none⟩), .pointer (some ⟨g, 2, none⟩)] 85))
      have HL5 : Aside0 (g < w4.heap.size) := ⟨lt_of_block BK4.out⟩
      have HQ := Aside0.mk (numbers.calls pb B g w4.heap.size 60 [1, 2] [.int .i64 1, .int .i64 0, .int .i64 0, .int .i64 0, .int .i64 0, .int .i64 0, .int .i64 0, .int .i64 0, .slice none 0 0] st1 _ HT5.out HK5.out HP5.out HN.out.1 HN.out.2.1 (by have := HL5.out; omega) (by have := HL5.out; have := HN.out.1; omega) (by decide) (by simp))
      obtain ⟨g5, hg5⟩ : ∃ g, g = w4.heap.size := ⟨_, rfl⟩
      rw [← hg5] at HQ ⊢
      generalize w4.alloc (.cells #[.pointer (some ⟨g, 1, none⟩), .pointer (some ⟨g, 2, none⟩)] 85) = W5 at HT5 HK5 HP5 HC5 HQ ⊢
      clear HT4 HC4 HL5 hg5 HP5 HK5 BK4
      rcases h0 : numberS st1 with ⟨ce, se⟩ | ⟨a, st2⟩
      · have hq : numsS [1, 2] [.int .i64 1, .int .i64 0, .int .i64 0, .int .i64 0, .int .i64 0, .int .i64 0, .int .i64 0, .int .i64 0, .slice none 0 0] st1 = .inl (ce, se) := by simp only [numsS, h0, bindO]
        have hF : F = .inl (ce, se) := by rw [HI.out]; simp only [body1, h0, bindO]
        subst hF
        rw [hq] at HQ
        refine HQ.out.mono ?_
        rintro e w6 ⟨rfl, ht, hc⟩
        have HT6 := Aside0.mk ht
        have HC6 := Aside0.mk (HC5.out.trans hc (fun k h => h.elim .inl (fun h => .inr (by have := HN.out; omega))))
        clear ht hc
        go_wp2_with fail
        exact ⟨rfl, rfl, HT6.out, HC6.out⟩
      rcases h1 : numberS st2 with ⟨ce, se⟩ | ⟨b, st3⟩
      · have hq : numsS [1, 2] [.int .i64 1, .int .i64 0, .int .i64 0, .int .i64 0, .int .i64 0, .int .i64 0, .int .i64 0, .int .i64 0, .slice none 0 0] st1 = .inl (ce, se) := by simp only [numsS, h0, h1, bindO]
        have hF : F = .inl (ce, se) := by rw [HI.out]; simp only [body1, h0, h1, bindO]
        subst hF
        rw [hq] at HQ
        refine HQ.out.mono ?_
        rintro e w6 ⟨rfl, ht, hc⟩
        have HT6 := Aside0.mk ht
        have HC6 := Aside0.mk (HC5.out.trans hc (fun k h => h.elim .inl (fun h => .inr (by have := HN.out; omega))))
        clear ht hc
        go_wp2_with fail
        exact ⟨rfl, rfl, HT6.out, HC6.out⟩
      have hq : numsS [1, 2] [.int .i64 1, .int .i64 0, .int .i64 0, .int .i64 0, .int .i64 0, .int .i64 0, .int .i64 0, .int .i64 0, .slice none 0 0] st1 = .inr ([.int .i64 1, .int .i64 a, .int .i64 b, .int .i64 0, .int .i64 0, .int .i64 0, .int .i64 0, .int .i64 0, .slice none 0 0], st3) := by simp only [numsS, h0, h1, bindO] <;> rfl
      rw [hq] at HQ
      refine HQ.out.mono ?_
      rintro e w6 ⟨rfl, hk, ht, hc⟩
      have HT6 := Aside0.mk ht
      have HC6 := Aside0.mk (HC5.out.trans hc (fun k h => h.elim .inl (fun h => .inr (by have := HN.out; omega))))
      have BK6 := Aside0.mk hk
      clear ht hc hk hq
      go_wp2_with fail
      try go_at_call 67
      have HO := Aside0.mk (op.calls pb B st3 _ HT6.out (by have := HC6.out.size; have := HB0.out; omega) HN.out.2.1)
      rcases h2 : opS st3 with ⟨ce, se⟩ | ⟨x, st4⟩
      · have hF : F = .inl (ce, se) := by rw [HI.out]; simp only [body1, h0, h1, h2, bindO]
        subst hF
        rw [h2] at HO
        refine HO.out.mono ?_
        rintro e w7 ⟨rfl, ht, hc⟩
        have HT7 := Aside0.mk ht
        have HC7 := Aside0.mk (HC6.out.trans hc (fun k h => .inl h))
        clear ht hc
        go_wp2_with fail
        exact ⟨rfl, rfl, HT7.out, HC7.out⟩
      have hF : F = tailS ⟨1, a, b, x, 0, []⟩ st4 := by rw [HI.out]; simp only [body1, h0, h1, h2, bindO]
      have HFF := Aside0.mk hF
      rw [h2] at HO
      refine HO.out.mono ?_
      rintro e w7 ⟨⟨v, rfl, rfl⟩, ht, hc⟩
      have HT7 := Aside0.mk ht
      have HC7 := Aside0.mk (HC6.out.trans hc (fun k h => .inl h))
      have BK7 := Aside0.mk (hc.heap BK6.out HN.out.2.2.1)
      clear ht hc hF
      go_wp2_with (((with_reducible refine gate_store (p := 25) rfl ?_); refine store_seg rfl rfl 58 _ _ rfl (g := g) (o' := 3) (.agg #[.int .i64 x.f0, .int .i64 x.f1, .int .i64 x.f2, .int .i64 x.f3]) [.int .i64 x.f0, .int .i64 x.f1, .int .i64 x.f2, .int .i64 x.f3] #[.int .i64 1, .int .i64 a, .int .i64 b, .int .i64 x.f0, .int .i64 x.f1, .int .i64 x.f2, .int .i64 x.f3, .int .i64 0, .slice none 0 0] rfl (by first | rfl | (go_simp; done) | (go_simp; rfl)) rfl BK7.out (by simp) rfl (by kernel_rfl) (by rfl) ?_; intro w8 h1' h2'; have BK8 := Aside0.mk h1'; have HT8 := Aside0.mk (HT7.out.atG h2' HN.out.1 HN.out.2.1); have HC8 := Aside0.mk (HC7.out.trans h2' (fun k h => .inr (by have := HN.out; omega))); clear h1' h2'))
      go_meet
      exact ⟨⟨1, a, b, x, 0, []⟩, .slice none 0 0, st4, HFF, BK8, ⟨Kd.R_nil _ _ _ _ _⟩, HT8, HC8⟩
    · -- 2
      have HI : Aside0 (F = bindO (bodyN 2 st1) tailS) := ⟨HF.out⟩
      go_wp2_with fail
      try go_at_call 66
      have HT5 := Aside0.mk (HT4.out.below (below_alloc (Below.refl _ _) (.cells #[.pointer (some ⟨g, 2, none⟩)] 85)))
      have HK5 := Aside0.mk (keep_al (o := (.cells #[.pointer (some ⟨g, 2, none⟩)] 85)) BK4.out)
      have HP5 := Aside0.mk (heap_alloc_new w4 (.cells #[.pointer (some ⟨g, 2, none⟩)] 85))
      have HC5 := Aside0.mk (HC4.out.alloc (.cells #[.pointer (some ⟨g, 2, none⟩)] 85))
      have HL5 : Aside0 (g < w4.heap.size) := ⟨lt_of_block BK4.out⟩
      have HQ := Aside0.mk (numbers.calls pb B g w4.heap.size 60 [2] [.int .i64 2, .int .i64 0, .int .i64 0, .int .i64 0, .int .i64 0, .int .i64 0, .int .i64 0, .int .i64 0, .slice none 0 0] st1 _ HT5.out HK5.out HP5.out HN.out.1 HN.out.2.1 (by have := HL5.out; omega) (by have := HL5.out; have := HN.out.1; omega) (by decide) (by simp))
      obtain ⟨g5, hg5⟩ : ∃ g, g = w4.heap.size := ⟨_, rfl⟩
      rw [← hg5] at HQ ⊢
      generalize w4.alloc (.cells #[.pointer (some ⟨g, 2, none⟩)] 85) = W5 at HT5 HK5 HP5 HC5 HQ ⊢
      clear HT4 HC4 HL5 hg5 HP5 HK5 BK4
      rcases h0 : numberS st1 with ⟨ce, se⟩ | ⟨a, st2⟩
      · have hq : numsS [2] [.int .i64 2, .int .i64 0, .int .i64 0, .int .i64 0, .int .i64 0, .int .i64 0, .int .i64 0, .int .i64 0, .slice none 0 0] st1 = .inl (ce, se) := by simp only [numsS, h0, bindO]
        have hF : F = .inl (ce, se) := by rw [HI.out]; simp only [bodyN, h0, bindO]
        subst hF
        rw [hq] at HQ
        refine HQ.out.mono ?_
        rintro e w6 ⟨rfl, ht, hc⟩
        have HT6 := Aside0.mk ht
        have HC6 := Aside0.mk (HC5.out.trans hc (fun k h => h.elim .inl (fun h => .inr (by have := HN.out; omega))))
        clear ht hc
        go_wp2_with fail
        exact ⟨rfl, rfl, HT6.out, HC6.out⟩
      have hq : numsS [2] [.int .i64 2, .int .i64 0, .int .i64 0, .int .i64 0, .int .i64 0, .int .i64 0, .int .i64 0, .int .i64 0, .slice none 0 0] st1 = .inr ([.int .i64 2, .int .i64 0, .int .i64 a, .int .i64 0, .int .i64 0, .int .i64 0, .int .i64 0, .int .i64 0, .slice none 0 0], st2) := by simp only [numsS, h0, bindO] <;> rfl
      rw [hq] at HQ
      refine HQ.out.mono ?_
      rintro e w6 ⟨rfl, hk, ht, hc⟩
      have HT6 := Aside0.mk ht
      have HC6 := Aside0.mk (HC5.out.trans hc (fun k h => h.elim .inl (fun h => .inr (by have := HN.out; omega))))
      have BK6 := Aside0.mk hk
      clear ht hc hk hq
      have hF : F = tailS ⟨2, 0, a, zOp, 0, []⟩ st2 := by rw [HI.out]; simp only [bodyN, h0, bindO]
      have HFF := Aside0.mk hF
      clear hF
      go_wp2_with fail
      go_meet
      exact ⟨⟨2, 0, a, zOp, 0, []⟩, .slice none 0 0, st2, HFF, BK6, ⟨Kd.R_nil _ _ _ _ _⟩, HT6, HC6⟩
    · -- 3
      have HI : Aside0 (F = bindO (bodyN 3 st1) tailS) := ⟨HF.out⟩
      go_wp2_with fail
      try go_at_call 66
      have HT5 := Aside0.mk (HT4.out.below (below_alloc (Below.refl _ _) (.cells #[.pointer (some ⟨g, 2, none⟩)] 85)))
      have HK5 := Aside0.mk (keep_al (o := (.cells #[.pointer (some ⟨g, 2, none⟩)] 85)) BK4.out)
      have HP5 := Aside0.mk (heap_alloc_new w4 (.cells #[.pointer (some ⟨g, 2, none⟩)] 85))
      have HC5 := Aside0.mk (HC4.out.alloc (.cells #[.pointer (some ⟨g, 2, none⟩)] 85))
      have HL5 : Aside0 (g < w4.heap.size) := ⟨lt_of_block BK4.out⟩
      have HQ := Aside0.mk (numbers.calls pb B g w4.heap.size 60 [2] [.int .i64 3, .int .i64 0, .int .i64 0, .int .i64 0, .int .i64 0, .int .i64 0, .int .i64 0, .int .i64 0, .slice none 0 0] st1 _ HT5.out HK5.out HP5.out HN.out.1 HN.out.2.1 (by have := HL5.out; omega) (by have := HL5.out; have := HN.out.1; omega) (by decide) (by simp))
      obtain ⟨g5, hg5⟩ : ∃ g, g = w4.heap.size := ⟨_, rfl⟩
      rw [← hg5] at HQ ⊢
      generalize w4.alloc (.cells #[.pointer (some ⟨g, 2, none⟩)] 85) = W5 at HT5 HK5 HP5 HC5 HQ ⊢
      clear HT4 HC4 HL5 hg5 HP5 HK5 BK4
      rcases h0 : numberS st1 with ⟨ce, se⟩ | ⟨a, st2⟩
      · have hq : numsS [2] [.int .i64 3, .int .i64 0, .int .i64 0, .int .i64 0, .int .i64 0, .int .i64 0, .int .i64 0, .int .i64 0, .slice none 0 0] st1 = .inl (ce, se) := by simp only [numsS, h0, bindO]
        have hF : F = .inl (ce, se) := by rw [HI.out]; simp only [bodyN, h0, bindO]
        subst hF
        rw [hq] at HQ
        refine HQ.out.mono ?_
        rintro e w6 ⟨rfl, ht, hc⟩
        have HT6 := Aside0.mk ht
        have HC6 := Aside0.mk (HC5.out.trans hc (fun k h => h.elim .inl (fun h => .inr (by have := HN.out; omega))))
        clear ht hc
        go_wp2_with fail
        exact ⟨rfl, rfl, HT6.out, HC6.out⟩
      have hq : numsS [2] [.int .i64 3, .int .i64 0, .int .i64 0, .int .i64 0, .int .i64 0, .int .i64 0, .int .i64 0, .int .i64 0, .slice none 0 0] st1 = .inr ([.int .i64 3, .int .i64 0, .int .i64 a, .int .i64 0, .int .i64 0, .int .i64 0, .int .i64 0, .int .i64 0, .slice none 0 0], st2) := by simp only [numsS, h0, bindO] <;> rfl
      rw [hq] at HQ
      refine HQ.out.mono ?_
      rintro e w6 ⟨rfl, hk, ht, hc⟩
      have HT6 := Aside0.mk ht
      have HC6 := Aside0.mk (HC5.out.trans hc (fun k h => h.elim .inl (fun h => .inr (by have := HN.out; omega))))
      have BK6 := Aside0.mk hk
      clear ht hc hk hq
      have hF : F = tailS ⟨3, 0, a, zOp, 0, []⟩ st2 := by rw [HI.out]; simp only [bodyN, h0, bindO]
      have HFF := Aside0.mk hF
      clear hF
      go_wp2_with fail
      go_meet
      exact ⟨⟨3, 0, a, zOp, 0, []⟩, .slice none 0 0, st2, HFF, BK6, ⟨Kd.R_nil _ _ _ _ _⟩, HT6, HC6⟩
    · -- 4
      have HI : Aside0 (F = bindO (bodyN 4 st1) tailS) := ⟨HF.out⟩
      go_wp2_with fail
      try go_at_call 66
      have HT5 := Aside0.mk (HT4.out.below (below_alloc (Below.refl _ _) (.cells #[.pointer (some ⟨g, 2, none⟩)] 85)))
      have HK5 := Aside0.mk (keep_al (o := (.cells #[.pointer (some ⟨g, 2, none⟩)] 85)) BK4.out)
      have HP5 := Aside0.mk (heap_alloc_new w4 (.cells #[.pointer (some ⟨g, 2, none⟩)] 85))
      have HC5 := Aside0.mk (HC4.out.alloc (.cells #[.pointer (some ⟨g, 2, none⟩)] 85))
      have HL5 : Aside0 (g < w4.heap.size) := ⟨lt_of_block BK4.out⟩
      have HQ := Aside0.mk (numbers.calls pb B g w4.heap.size 60 [2] [.int .i64 4, .int .i64 0, .int .i64 0, .int .i64 0, .int .i64 0, .int .i64 0, .int .i64 0, .int .i64 0, .slice none 0 0] st1 _ HT5.out HK5.out HP5.out HN.out.1 HN.out.2.1 (by have := HL5.out; omega) (by have := HL5.out; have := HN.out.1; omega) (by decide) (by simp))
      obtain ⟨g5, hg5⟩ : ∃ g, g = w4.heap.size := ⟨_, rfl⟩
      rw [← hg5] at HQ ⊢
      generalize w4.alloc (.cells #[.pointer (some ⟨g, 2, none⟩)] 85) = W5 at HT5 HK5 HP5 HC5 HQ ⊢
      clear HT4 HC4 HL5 hg5 HP5 HK5 BK4
      rcases h0 : numberS st1 with ⟨ce, se⟩ | ⟨a, st2⟩
      · have hq : numsS [2] [.int .i64 4, .int .i64 0, .int .i64 0, .int .i64 0, .int .i64 0, .int .i64 0, .int .i64 0, .int .i64 0, .slice none 0 0] st1 = .inl (ce, se) := by simp only [numsS, h0, bindO]
        have hF : F = .inl (ce, se) := by rw [HI.out]; simp only [bodyN, h0, bindO]
        subst hF
        rw [hq] at HQ
        refine HQ.out.mono ?_
        rintro e w6 ⟨rfl, ht, hc⟩
        have HT6 := Aside0.mk ht
        have HC6 := Aside0.mk (HC5.out.trans hc (fun k h => h.elim .inl (fun h => .inr (by have := HN.out; omega))))
        clear ht hc
        go_wp2_with fail
        exact ⟨rfl, rfl, HT6.out, HC6.out⟩
      have hq : numsS [2] [.int .i64 4, .int .i64 0, .int .i64 0, .int .i64 0, .int .i64 0, .int .i64 0, .int .i64 0, .int .i64 0, .slice none 0 0] st1 = .inr ([.int .i64 4, .int .i64 0, .int .i64 a, .int .i64 0, .int .i64 0, .int .i64 0, .int .i64 0, .int .i64 0, .slice none 0 0], st2) := by simp only [numsS, h0, bindO] <;> rfl
      rw [hq] at HQ
      refine HQ.out.mono ?_
      rintro e w6 ⟨rfl, hk, ht, hc⟩
      have HT6 := Aside0.mk ht
      have HC6 := Aside0.mk (HC5.out.trans hc (fun k h => h.elim .inl (fun h => .inr (by have := HN.out; omega))))
      have BK6 := Aside0.mk hk
      clear ht hc hk hq
      have hF : F = tailS ⟨4, 0, a, zOp, 0, []⟩ st2 := by rw [HI.out]; simp only [bodyN, h0, bindO]
      have HFF := Aside0.mk hF
      clear hF
      go_wp2_with fail
      go_meet
      exact ⟨⟨4, 0, a, zOp, 0, []⟩, .slice none 0 0, st2, HFF, BK6, ⟨Kd.R_nil _ _ _ _ _⟩, HT6, HC6⟩
    · -- 5
      have HI : Aside0 (F = bindO (bodyA 5 st1) tailS) := ⟨HF.out⟩
      go_wp2_with fail
      try go_at_call 66
      have HT5 := Aside0.mk (HT4.out.below (below_alloc (Below.refl _ _) (.cells #[.pointer (some ⟨g, 1, none⟩)] 85)))
      have HK5 := Aside0.mk (keep_al (o := (.cells #[.pointer (some ⟨g, 1, none⟩)] 85)) BK4.out)
      have HP5 := Aside0.mk (heap_alloc_new w4 (.cells #[.pointer (some ⟨g, 1, none⟩)] 85))
      have HC5 := Aside0.mk (HC4.out.alloc (.cells #[.pointer (some ⟨g, 1, none⟩)] 85))
      have HL5 : Aside0 (g < w4.heap.size) := ⟨lt_of_block BK4.out⟩
      have HQ := Aside0.mk (numbers.calls pb B g w4.heap.size 60 [1] [.int .i64 5, .int .i64 0, .int .i64 0, .int .i64 0, .int .i64 0, .int .i64 0, .int .i64 0, .int .i64 0, .slice none 0 0] st1 _ HT5.out HK5.out HP5.out HN.out.1 HN.out.2.1 (by have := HL5.out; omega) (by have := HL5.out; have := HN.out.1; omega) (by decide) (by simp))
      obtain ⟨g5, hg5⟩ : ∃ g, g = w4.heap.size := ⟨_, rfl⟩
      rw [← hg5] at HQ ⊢
      generalize w4.alloc (.cells #[.pointer (some ⟨g, 1, none⟩)] 85) = W5 at HT5 HK5 HP5 HC5 HQ ⊢
      clear HT4 HC4 HL5 hg5 HP5 HK5 BK4
      rcases h0 : numberS st1 with ⟨ce, se⟩ | ⟨a, st2⟩
      · have hq : numsS [1] [.int .i64 5, .int .i64 0, .int .i64 0, .int .i64 0, .int .i64 0, .int .i64 0, .int .i64 0, .int .i64 0, .slice none 0 0] st1 = .inl (ce, se) := by simp only [numsS, h0, bindO]
        have hF : F = .inl (ce, se) := by rw [HI.out]; simp only [bodyA, h0, bindO]
        subst hF
        rw [hq] at HQ
        refine HQ.out.mono ?_
        rintro e w6 ⟨rfl, ht, hc⟩
        have HT6 := Aside0.mk ht
        have HC6 := Aside0.mk (HC5.out.trans hc (fun k h => h.elim .inl (fun h => .inr (by have := HN.out; omega))))
        clear ht hc
        go_wp2_with fail
        exact ⟨rfl, rfl, HT6.out, HC6.out⟩
      have hq : numsS [1] [.int .i64 5, .int .i64 0, .int .i64 0, .int .i64 0, .int .i64 0, .int .i64 0, .int .i64 0, .int .i64 0, .slice none 0 0] st1 = .inr ([.int .i64 5, .int .i64 a, .int .i64 0, .int .i64 0, .int .i64 0, .int .i64 0, .int .i64 0, .int .i64 0, .slice none 0 0], st2) := by simp only [numsS, h0, bindO] <;> rfl
      rw [hq] at HQ
      refine HQ.out.mono ?_
      rintro e w6 ⟨rfl, hk, ht, hc⟩
      have HT6 := Aside0.mk ht
      have HC6 := Aside0.mk (HC5.out.trans hc (fun k h => h.elim .inl (fun h => .inr (by have := HN.out; omega))))
      have BK6 := Aside0.mk hk
      clear ht hc hk hq
      have hF : F = tailS ⟨5, a, 0, zOp, 0, []⟩ st2 := by rw [HI.out]; simp only [bodyA, h0, bindO]
      have HFF := Aside0.mk hF
      clear hF
      go_wp2_with fail
      go_meet
      exact ⟨⟨5, a, 0, zOp, 0, []⟩, .slice none 0 0, st2, HFF, BK6, ⟨Kd.R_nil _ _ _ _ _⟩, HT6, HC6⟩
    · -- 6
      have HI : Aside0 (F = bindO (bodyA 6 st1) tailS) := ⟨HF.out⟩
      go_wp2_with fail
      try go_at_call 66
      have HT5 := Aside0.mk (HT4.out.below (below_alloc (Below.refl _ _) (.cells #[.pointer (some ⟨g, 1, none⟩)] 85)))
      have HK5 := Aside0.mk (keep_al (o := (.cells #[.pointer (some ⟨g, 1, none⟩)] 85)) BK4.out)
      have HP5 := Aside0.mk (heap_alloc_new w4 (.cells #[.pointer (some ⟨g, 1, none⟩)] 85))
      have HC5 := Aside0.mk (HC4.out.alloc (.cells #[.pointer (some ⟨g, 1, none⟩)] 85))
      have HL5 : Aside0 (g < w4.heap.size) := ⟨lt_of_block BK4.out⟩
      have HQ := Aside0.mk (numbers.calls pb B g w4.heap.size 60 [1] [.int .i64 6, .int .i64 0, .int .i64 0, .int .i64 0, .int .i64 0, .int .i64 0, .int .i64 0, .int .i64 0, .slice none 0 0] st1 _ HT5.out HK5.out HP5.out HN.out.1 HN.out.2.1 (by have := HL5.out; omega) (by have := HL5.out; have := HN.out.1; omega) (by decide) (by simp))
      obtain ⟨g5, hg5⟩ : ∃ g, g = w4.heap.size := ⟨_, rfl⟩
      rw [← hg5] at HQ ⊢
      generalize w4.alloc (.cells #[.pointer (some ⟨g, 1, none⟩)] 85) = W5 at HT5 HK5 HP5 HC5 HQ ⊢
      clear HT4 HC4 HL5 hg5 HP5 HK5 BK4
      rcases h0 : numberS st1 with ⟨ce, se⟩ | ⟨a, st2⟩
      · have hq : numsS [1] [.int .i64 6, .int .i64 0, .int .i64 0, .int .i64 0, .int .i64 0, .int .i64 0, .int .i64 0, .int .i64 0, .slice none 0 0] st1 = .inl (ce, se) := by simp only [numsS, h0, bindO]
        have hF : F = .inl (ce, se) := by rw [HI.out]; simp only [bodyA, h0, bindO]
        subst hF
        rw [hq] at HQ
        refine HQ.out.mono ?_
        rintro e w6 ⟨rfl, ht, hc⟩
        have HT6 := Aside0.mk ht
        have HC6 := Aside0.mk (HC5.out.trans hc (fun k h => h.elim .inl (fun h => .inr (by have := HN.out; omega))))
        clear ht hc
        go_wp2_with fail
        exact ⟨rfl, rfl, HT6.out, HC6.out⟩
      have hq : numsS [1] [.int .i64 6, .int .i64 0, .int .i64 0, .int .i64 0, .int .i64 0, .int .i64 0, .int .i64 0, .int .i64 0, .slice none 0 0] st1 = .inr ([.int .i64 6, .int .i64 a, .int .i64 0, .int .i64 0, .int .i64 0, .int .i64 0, .int .i64 0, .int .i64 0, .slice none 0 0], st2) := by simp only [numsS, h0, bindO] <;> rfl
      rw [hq] at HQ
      refine HQ.out.mono ?_
      rintro e w6 ⟨rfl, hk, ht, hc⟩
      have HT6 := Aside0.mk ht
      have HC6 := Aside0.mk (HC5.out.trans hc (fun k h => h.elim .inl (fun h => .inr (by have := HN.out; omega))))
      have BK6 := Aside0.mk hk
      clear ht hc hk hq
      have hF : F = tailS ⟨6, a, 0, zOp, 0, []⟩ st2 := by rw [HI.out]; simp only [bodyA, h0, bindO]
      have HFF := Aside0.mk hF
      clear hF
      go_wp2_with fail
      go_meet
      exact ⟨⟨6, a, 0, zOp, 0, []⟩, .slice none 0 0, st2, HFF, BK6, ⟨Kd.R_nil _ _ _ _ _⟩, HT6, HC6⟩
    · -- 7
      have HI : Aside0 (F = bindO (body7 st1) tailS) := ⟨HF.out⟩
      go_wp2_with fail
      try go_at_call 66
      have HT5 := Aside0.mk (HT4.out.below (below_alloc (Below.refl _ _) (.cells #[.pointer (some ⟨g, 1, none⟩), .pointer (some ⟨g, 7, none⟩)] 85)))
      have HK5 := Aside0.mk (keep_al (o := (.cells #[.pointer (some ⟨g, 1, none⟩), .pointer (some ⟨g, 7, none⟩)] 85)) BK4.out)
      have HP5 := Aside0.mk (heap_alloc_new w4 (.cells #[.pointer (some ⟨g, 1, none⟩), .pointer (some ⟨g, 7, none⟩)] 85))
      have HC5 := Aside0.mk (HC4.out.alloc (.cells #[.pointer (some ⟨g, 1, none⟩), .pointer (some ⟨g, 7, none⟩)] 85))
      have HL5 : Aside0 (g < w4.heap.size) := ⟨lt_of_block BK4.out⟩
      have HQ := Aside0.mk (numbers.calls pb B g w4.heap.size 60 [1, 7] [.int .i64 7, .int .i64 0, .int .i64 0, .int .i64 0, .int .i64 0, .int .i64 0, .int .i64 0, .int .i64 0, .slice none 0 0] st1 _ HT5.out HK5.out HP5.out HN.out.1 HN.out.2.1 (by have := HL5.out; omega) (by have := HL5.out; have := HN.out.1; omega) (by decide) (by simp))
      obtain ⟨g5, hg5⟩ : ∃ g, g = w4.heap.size := ⟨_, rfl⟩
      rw [← hg5] at HQ ⊢
      generalize w4.alloc (.cells #[.pointer (some ⟨g, 1, none⟩), .pointer (some ⟨g, 7, none⟩)] 85) = W5 at HT5 HK5 HP5 HC5 HQ ⊢
      clear HT4 HC4 HL5 hg5 HP5 HK5 BK4
      rcases h0 : numberS st1 with ⟨ce, se⟩ | ⟨a, st2⟩
      · have hq : numsS [1, 7] [.int .i64 7, .int .i64 0, .int .i64 0, .int .i64 0, .int .i64 0, .int .i64 0, .int .i64 0, .int .i64 0, .slice none 0 0] st1 = .inl (ce, se) := by simp only [numsS, h0, bindO]
        have hF : F = .inl (ce, se) := by rw [HI.out]; simp only [body7, h0, bindO]
        subst hF
        rw [hq] at HQ
        refine HQ.out.mono ?_
        rintro e w6 ⟨rfl, ht, hc⟩
        have HT6 := Aside0.mk ht
        have HC6 := Aside0.mk (HC5.out.trans hc (fun k h => h.elim .inl (fun h => .inr (by have := HN.out; omega))))
        clear ht hc
        go_wp2_with fail
        exact ⟨rfl, rfl, HT6.out, HC6.out⟩
      rcases h1 : numberS st2 with ⟨ce, se⟩ | ⟨b, st3⟩
      · have hq : numsS [1, 7] [.int .i64 7, .int .i64 0, .int .i64 0, .int .i64 0, .int .i64 0, .int .i64 0, .int .i64 0, .int .i64 0, .slice none 0 0] st1 = .inl (ce, se) := by simp only [numsS, h0, h1, bindO]
        have hF : F = .inl (ce, se) := by rw [HI.out]; simp only [body7, h0, h1, bindO]
        subst hF
        rw [hq] at HQ
        refine HQ.out.mono ?_
        rintro e w6 ⟨rfl, ht, hc⟩
        have HT6 := Aside0.mk ht
        have HC6 := Aside0.mk (HC5.out.trans hc (fun k h => h.elim .inl (fun h => .inr (by have := HN.out; omega))))
        clear ht hc
        go_wp2_with fail
        exact ⟨rfl, rfl, HT6.out, HC6.out⟩
      have hq : numsS [1, 7] [.int .i64 7, .int .i64 0, .int .i64 0, .int .i64 0, .int .i64 0, .int .i64 0, .int .i64 0, .int .i64 0, .slice none 0 0] st1 = .inr ([.int .i64 7, .int .i64 a, .int .i64 0, .int .i64 0, .int .i64 0, .int .i64 0, .int .i64 0, .int .i64 b, .slice none 0 0], st3) := by simp only [numsS, h0, h1, bindO] <;> rfl
      rw [hq] at HQ
      refine HQ.out.mono ?_
      rintro e w6 ⟨rfl, hk, ht, hc⟩
      have HT6 := Aside0.mk ht
      have HC6 := Aside0.mk (HC5.out.trans hc (fun k h => h.elim .inl (fun h => .inr (by have := HN.out; omega))))
      have BK6 := Aside0.mk hk
      clear ht hc hk hq
      have HL3 : Aside0 (st3.1.length ≤ 65536) := ⟨by have := numberS_len h0; have := numberS_len h1; have := HST.out; omega⟩
      have HF7 : Aside0 (F = bindO (bindO (backsS (st3.1.length + 1) [] st3) fun bs st4 => .inr (⟨7, a, 0, zOp, b, bs⟩, st4)) tailS) := ⟨by rw [HI.out]; simp only [body7, h0, h1, bindO]⟩
      have HGL : Aside0 (g + 1 ≤ w6.heap.size) := ⟨lt_of_block BK6.out⟩
      clear h0 h1 HI HQ HC5 HT5
      go_wp2_with fail
      go_loopg [3] (st3.1.length + 1) (fun kq v3 wr => ∃ (bs : List S62) (vs : Value) (st' : St31), Aside0 (F = bindO (bindO (backsS kq bs st') fun bs st4 => .inr (⟨7, a, 0, zOp, b, bs⟩, st4)) tailS) ∧ Aside0 (st'.1.length + 1 ≤ kq) ∧ Aside0 (bs.length + st'.1.length ≤ 65536) ∧ Aside0 (wr.heap[g]? = some (.cells #[.int .i64 7, .int .i64 a, .int .i64 0, .int .i64 0, .int .i64 0, .int .i64 0, .int .i64 0, .int .i64 b, vs] 60 (0, 0))) ∧ Aside0 (Kd.R k62 62 wr (g + 1) (fun _ => True) vs bs) ∧ Aside0 (TokAt wr pb B st'.1 st'.2) ∧ Aside0 (Ch (fun k => k = pb) w wr))
      case atStart => exact ⟨[], .slice none 0 0, st3, HF7, ⟨Nat.le_refl _⟩, ⟨by simpa using HL3.out⟩, BK6, ⟨Kd.R_nil _ _ _ _ _⟩, HT6, HC6⟩
      case round =>
        clear HF7 HL3 BK6 HT6 HC6 HGL
        obtain ⟨bs, vs, st', HFr, HKr, HLr, HKg, HRr, HTr, HCr⟩ := hrel
        obtain ⟨n, hn⟩ : ∃ n, gk = n + 1 := ⟨gk - 1, by have := HKr.out; omega⟩
        subst hn
        obtain ⟨Av, cv, hvs⟩ := Kd.R_slice HRr.out
        subst hvs
        rcases hp : peekS st' with ⟨ce, se⟩ | ⟨t, st5⟩
        · have hF : F = .inl (ce, se) := by rw [HFr.out]; simp only [backsS, hp, bindO]
          subst hF
          go_wp2_with fail
          try go_at_call 38
          refine (peek.calls pb B st' _ HTr.out).mono ?_
          rw [hp]
          rintro e w7 ⟨rfl, ht, hc⟩
          have HT7 := Aside0.mk ht
          have HC7 := Aside0.mk (HCr.out.trans hc (fun k h => .inl h))
          clear ht hc
          go_wp2_with fail
          exact ⟨rfl, rfl, HT7.out, HC7.out⟩
        have hl5 : st5.1.length = st'.1.length := peekS_len hp
        have HL5 := Aside0.mk hl5
        have hFr : F = bindO (bindO (if eqS t.f1 tSC = true then .inr (bs, st5) else bindO (numberS st5) fun a st2 => bindO (numberS st2) fun b st3 => backsS n (bs ++ [⟨a, b⟩]) st3) fun bs st4 => .inr (⟨7, a, 0, zOp, b, bs⟩, st4)) tailS := by rw [HFr.out]; simp only [backsS, hp, bindO]
        have HFr2 := Aside0.mk hFr
        have HPK := Aside0.mk (peek.calls pb B st' _ HTr.out)
        rw [hp] at HPK
        clear hFr HFr hp hl5
        obtain ⟨q, hq⟩ : ∃ q, q = (t.f1.toList == [59]) := ⟨_, rfl⟩
        have HQE : Aside0 (eqS t.f1 tSC = q) := ⟨by rw [hq]; unfold eqS; rw [show tSC.toList = [59] from by decide +kernel]⟩
        rw [HQE.out] at HFr2
        have hq' := hq.symm
        clear hq
        cases q
        · have HFr3 : Aside0 (F = bindO (bindO (bindO (numberS st5) fun a st2 => bindO (numberS st2) fun b st3 => backsS n (bs ++ [⟨a, b⟩]) st3) fun bs st4 => .inr (⟨7, a, 0, zOp, b, bs⟩, st4)) tailS) := ⟨HFr2.out⟩
          clear HFr2
          go_wp2_with fail
          try go_at_call 38
          refine HPK.out.mono ?_
          rintro e w7 ⟨⟨v, rfl, rfl⟩, ht, hc⟩
          have HT7 := Aside0.mk ht
          have HC7 := Aside0.mk (HCr.out.trans hc (fun k h => .inl h))
          have BK7 := Aside0.mk (hc.heap HKg.out HN.out.2.2.1)
          have HR7 := Aside0.mk (R_ch (Kd.R_bound HRr.out) hc (fun k hk e => by have := hk.2.1; have := HN.out; omega))
          clear ht hc HKg HRr HTr HCr HPK
          go_wp2_with ((with_reducible refine gate_dst (N := 3) rfl ?_); refine box_event ?hg (N := 3) ?hd (cs := #[.int .i64 0, .int .i64 0]) (t := 62) ?hr ?_; (case hd => rfl); (case hg => rfl); (case hr => first | (go_simp; done) | (go_simp; rfl)); intro gx hgx w8 hbox hb; have HT8 := Aside0.mk (HT7.out.below hb); have HC8 := Aside0.mk (HC7.out.thenB hb); have BX8 := Aside0.mk hbox; have BK8 := Aside0.mk ((Ch.of_below hb (fun _ => False)).heap BK7.out (fun h => h)); have HR8 := Aside0.mk (Kd.R_below (Kd.R_bound HR7.out) hb); have HGX : Aside0 (gx ≠ g ∧ gx = w7.heap.size ∧ g < gx ∧ w.heap.size ≤ gx) := ⟨by have := lt_of_block BK7.out; have := HC7.out.size; omega⟩; clear hb hbox hgx)
          try go_at_call 66
          have HT9 := Aside0.mk (HT8.out.below (below_alloc (Below.refl _ _) (.cells #[.pointer (some ⟨gx, 0, none⟩), .pointer (some ⟨gx, 1, none⟩)] 85)))
          have BX9 := Aside0.mk (keep_al (o := .cells #[.pointer (some ⟨gx, 0, none⟩), .pointer (some ⟨gx, 1, none⟩)] 85) BX8.out)
          have BP9 := Aside0.mk (heap_alloc_new w8 (.cells #[.pointer (some ⟨gx, 0, none⟩), .pointer (some ⟨gx, 1, none⟩)] 85))
          have BK9 := Aside0.mk (keep_al (o := .cells #[.pointer (some ⟨gx, 0, none⟩), .pointer (some ⟨gx, 1, none⟩)] 85) BK8.out)
          have HC9 := Aside0.mk (HC8.out.alloc (.cells #[.pointer (some ⟨gx, 0, none⟩), .pointer (some ⟨gx, 1, none⟩)] 85))
          have HR9 := Aside0.mk (Kd.R_below HR8.out (below_alloc (Below.refl w8.heap.size w8) (.cells #[.pointer (some ⟨gx, 0, none⟩), .pointer (some ⟨gx, 1, none⟩)] 85)))
          have HL9 : Aside0 (gx < w8.heap.size) := ⟨lt_of_block BX8.out⟩
          have HQ := Aside0.mk (numbers.calls pb B gx w8.heap.size 62 [0, 1] [.int .i64 0, .int .i64 0] st5 _ HT9.out BX9.out BP9.out (by have := HGX.out; have := HN.out; omega) HN.out.2.1 (by have := HL9.out; omega) (by have := HL9.out; have := HGX.out; have := HN.out.1; omega) (by decide) (by simp))
          rcases h0 : numberS st5 with ⟨ce, se⟩ | ⟨x, st6⟩
          · have hq : numsS [0, 1] [.int .i64 0, .int .i64 0] st5 = .inl (ce, se) := by simp only [numsS, h0, bindO]
            have hF : F = .inl (ce, se) := by rw [HFr3.out]; simp only [h0, bindO]
            subst hF
            rw [hq] at HQ
            refine HQ.out.mono ?_
            rintro e wa ⟨rfl, ht, hc⟩
            have HTa := Aside0.mk ht
            have HCa := Aside0.mk (HC9.out.trans hc (fun k h => h.elim .inl (fun h => .inr (by have := HGX.out; omega))))
            clear ht hc
            go_wp2_with fail
            exact ⟨rfl, rfl, HTa.out, HCa.out⟩
          rcases h1 : numberS st6 with ⟨ce, se⟩ | ⟨y, st7⟩
          · have hq : numsS [0, 1] [.int .i64 0, .int .i64 0] st5 = .inl (ce, se) := by simp only [numsS, h0, h1, bindO]
            have hF : F = .inl (ce, se) := by rw [HFr3.out]; simp only [h0, h1, bindO]
            subst hF
            rw [hq] at HQ
            refine HQ.out.mono ?_
            rintro e wa ⟨rfl, ht, hc⟩
            have HTa := Aside0.mk ht
            have HCa := Aside0.mk (HC9.out.trans hc (fun k h => h.elim .inl (fun h => .inr (by have := HGX.out; omega))))
            clear ht hc
            go_wp2_with fail
            exact ⟨rfl, rfl, HTa.out, HCa.out⟩
          have hq : numsS [0, 1] [.int .i64 0, .int .i64 0] st5 = .inr ([.int .i64 x, .int .i64 y], st7) := by simp only [numsS, h0, h1, bindO] <;> rfl
          have HFr4 : Aside0 (F = bindO (bindO (backsS n (bs ++ [⟨x, y⟩]) st7) fun bs st4 => .inr (⟨7, a, 0, zOp, b, bs⟩, st4)) tailS) := ⟨by rw [HFr3.out]; simp only [h0, h1, bindO]⟩
          have HL7 : Aside0 (st7.1.length + 2 = st'.1.length) := ⟨by have := numberS_len h0; have := numberS_len h1; have := HL5.out; omega⟩
          rw [hq] at HQ
          clear h0 h1 hq HFr3
          refine HQ.out.mono ?_
          rintro e wa ⟨rfl, hk, ht, hc⟩
          have HTa := Aside0.mk ht
          have HCa := Aside0.mk (HC9.out.trans hc (fun k h => h.elim .inl (fun h => .inr (by have := HGX.out; omega))))
          have BXa := Aside0.mk hk
          have BKa := Aside0.mk (hc.heap BK9.out (fun h => h.elim HN.out.2.2.1 (fun h => HGX.out.1 h.symm)))
          have HRa := Aside0.mk (R_ch (ok := _) HR9.out hc (fun k hk e => by have h2 := hk.2.1; have h3 := hk.2.2.1; have := HN.out; have := HGX.out; rcases e with e | e <;> omega))
          clear hk ht hc HQ HT9 BX9 BP9 BK9 HC9 HR9 HT8 BX8 BK8 HC8 HR8 HT7 BK7 HC7 HR7
          have HRb := Aside0.mk (Kd.R_mono (ok' := fun _ => True) HRa.out (fun _ _ => trivial))
          have hx8 : wa.cell? ⟨g, 8, none⟩ = some (.slice Av bs.length cv) := zcell BKa.out 8 _ rfl
          have HLB : Aside0 ((bs.length + 1) * 16 ≤ 140737488355328) := ⟨by have := HLr.out; omega⟩
          have HGLa : Aside0 (g + 1 ≤ wa.heap.size) := ⟨lt_of_block BKa.out⟩
          clear HRa
          go_wp2_with (first | ((with_reducible refine gate_dst (N := 61) rfl ?_); refine load_mid_w ?hw 62 _ rfl gx 0 rfl [.int .i64 x, .int .i64 y] _ (range_of BXa.out (by rfl)) Tryd.underlying62 rfl (by kernel_rfl) ?_; (case hw => first | rfl | (go_simp; done) | (go_simp; rfl))) | ((with_reducible refine gate_builtin (b := .append) (xs := #[.tmp 60, .tmp 62]) rfl ?_); at_builtin; refine Aside0.out (?_ : Aside0 _)))
          refine ⟨?_⟩
          refine Kd.R_append k62 (w0 := wa) (g + 1) rfl (.tmp 60) (.tmp 62) 54 62 (.agg #[.int .i64 0, .int .i64 0]) 16 rfl Tryd.underlying54 info62 rfl (by decide) (by decide) _ bs ⟨x, y⟩ [.int .i64 x, .int .i64 y] (fun _ => True) (fun _ => False) rfl rfl (k62_mkM _ _ _ ⟨x, y⟩) (fun _ hk => hk.elim) (fun _ _ => trivial) HRb.out (Below.refl _ _) HGLa.out HLB.out ?_
          intro v1 wb hR hB hG _
          obtain ⟨A1, c1, hv1⟩ := Kd.R_slice hR
          obtain ⟨m1, hm1⟩ : ∃ m, m = (bs ++ [(⟨x, y⟩ : S62)]).length := ⟨_, rfl⟩
          rw [← hm1] at hv1
          subst hv1
          clear hm1
          have hcb : Ch (fun k => g + 1 ≤ k) wa wb := Ch.of_belowB hB
          have HTb := Aside0.mk (HTa.out.above hcb (by have := HN.out; omega) (by have := HN.out; omega))
          have BKb := Aside0.mk (hcb.heap BKa.out (by omega))
          have HCb := Aside0.mk (HCa.out.trans hcb (fun k h => .inr (by have := HN.out; omega)))
          have HRc := Aside0.mk (Kd.R_bound hR)
          clear hR hB hG hcb hx8 HRb
          have BKb' : Aside0 (wb.heap[g]? = some (.cells #[.int .i64 7, .int .i64 a, .int .i64 0, .int .i64 0, .int .i64 0, .int .i64 0, .int .i64 0, .int .i64 b, .slice Av bs.length cv] 60 (0, 0))) := ⟨BKb.out⟩
          clear BKb HTa BKa HCa BXa
          go_wp2_with (((with_reducible refine gate_store (p := 65) rfl ?_); refine store_seg rfl rfl 54 _ _ rfl (g := g) (o' := 8) (.slice A1 m1 c1) [.slice A1 m1 c1] #[.int .i64 7, .int .i64 a, .int .i64 0, .int .i64 0, .int .i64 0, .int .i64 0, .int .i64 0, .int .i64 b, .slice A1 m1 c1] rfl (by first | rfl | (go_simp; done) | (go_simp; rfl)) rfl BKb'.out (by simp) rfl (by kernel_rfl) (by rfl) ?_; intro wd h1' h2'; have BKd := Aside0.mk h1'; have HTd := Aside0.mk (HTb.out.atG h2' HN.out.1 HN.out.2.1); have HCd := Aside0.mk (HCb.out.trans h2' (fun k h => .inr (by have := HN.out; omega))); have HRd := Aside0.mk (Kd.R_mono (ok' := fun _ => True) (R_ch HRc.out h2' (fun k hk e => by have := hk.2.1; omega)) (fun _ _ => trivial)); clear h1' h2'))
          have hgn := HL7.out
          go_roundg n
          case measure => omega
          case rel => exact ⟨bs ++ [⟨x, y⟩], _, st7, HFr4, ⟨by have := HKr.out; omega⟩, ⟨by have := HLr.out; simp; omega⟩, BKd, HRd, HTd, HCd⟩
        · have HFF : Aside0 (F = tailS ⟨7, a, 0, zOp, b, bs⟩ st5) := ⟨HFr2.out⟩
          clear HFr2
          go_wp2_with fail
          try go_at_call 38
          refine HPK.out.mono ?_
          rintro e w7 ⟨⟨v, rfl, rfl⟩, ht, hc⟩
          have HT7 := Aside0.mk ht
          have HC7 := Aside0.mk (HCr.out.trans hc (fun k h => .inl h))
          have BK7 := Aside0.mk (hc.heap HKg.out HN.out.2.2.1)
          have HR7 := Aside0.mk (Kd.R_mono (R_ch (Kd.R_bound HRr.out) hc (fun k hk e => by have := hk.2.1; have := HN.out; omega)) (fun _ _ => trivial))
          clear ht hc HKg HRr HTr HCr HPK
          go_wp2_with fail
          go_meet
          exact ⟨⟨7, a, 0, zOp, b, bs⟩, _, st5, HFF, BK7, HR7, HT7, HC7⟩
    · -- 8
      have HI : Aside0 (F = bindO (bodyA 8 st1) tailS) := ⟨HF.out⟩
      go_wp2_with fail
      try go_at_call 66
      have HT5 := Aside0.mk (HT4.out.below (below_alloc (Below.refl _ _) (.cells #[.pointer (some ⟨g, 1, none⟩)] 85)))
      have HK5 := Aside0.mk (keep_al (o := (.cells #[.pointer (some ⟨g, 1, none⟩)] 85)) BK4.out)
      have HP5 := Aside0.mk (heap_alloc_new w4 (.cells #[.pointer (some ⟨g, 1, none⟩)] 85))
      have HC5 := Aside0.mk (HC4.out.alloc (.cells #[.pointer (some ⟨g, 1, none⟩)] 85))
      have HL5 : Aside0 (g < w4.heap.size) := ⟨lt_of_block BK4.out⟩
      have HQ := Aside0.mk (numbers.calls pb B g w4.heap.size 60 [1] [.int .i64 8, .int .i64 0, .int .i64 0, .int .i64 0, .int .i64 0, .int .i64 0, .int .i64 0, .int .i64 0, .slice none 0 0] st1 _ HT5.out HK5.out HP5.out HN.out.1 HN.out.2.1 (by have := HL5.out; omega) (by have := HL5.out; have := HN.out.1; omega) (by decide) (by simp))
      obtain ⟨g5, hg5⟩ : ∃ g, g = w4.heap.size := ⟨_, rfl⟩
      rw [← hg5] at HQ ⊢
      generalize w4.alloc (.cells #[.pointer (some ⟨g, 1, none⟩)] 85) = W5 at HT5 HK5 HP5 HC5 HQ ⊢
      clear HT4 HC4 HL5 hg5 HP5 HK5 BK4
      rcases h0 : numberS st1 with ⟨ce, se⟩ | ⟨a, st2⟩
      · have hq : numsS [1] [.int .i64 8, .int .i64 0, .int .i64 0, .int .i64 0, .int .i64 0, .int .i64 0, .int .i64 0, .int .i64 0, .slice none 0 0] st1 = .inl (ce, se) := by simp only [numsS, h0, bindO]
        have hF : F = .inl (ce, se) := by rw [HI.out]; simp only [bodyA, h0, bindO]
        subst hF
        rw [hq] at HQ
        refine HQ.out.mono ?_
        rintro e w6 ⟨rfl, ht, hc⟩
        have HT6 := Aside0.mk ht
        have HC6 := Aside0.mk (HC5.out.trans hc (fun k h => h.elim .inl (fun h => .inr (by have := HN.out; omega))))
        clear ht hc
        go_wp2_with fail
        exact ⟨rfl, rfl, HT6.out, HC6.out⟩
      have hq : numsS [1] [.int .i64 8, .int .i64 0, .int .i64 0, .int .i64 0, .int .i64 0, .int .i64 0, .int .i64 0, .int .i64 0, .slice none 0 0] st1 = .inr ([.int .i64 8, .int .i64 a, .int .i64 0, .int .i64 0, .int .i64 0, .int .i64 0, .int .i64 0, .int .i64 0, .slice none 0 0], st2) := by simp only [numsS, h0, bindO] <;> rfl
      rw [hq] at HQ
      refine HQ.out.mono ?_
      rintro e w6 ⟨rfl, hk, ht, hc⟩
      have HT6 := Aside0.mk ht
      have HC6 := Aside0.mk (HC5.out.trans hc (fun k h => h.elim .inl (fun h => .inr (by have := HN.out; omega))))
      have BK6 := Aside0.mk hk
      clear ht hc hk hq
      have hF : F = tailS ⟨8, a, 0, zOp, 0, []⟩ st2 := by rw [HI.out]; simp only [bodyA, h0, bindO]
      have HFF := Aside0.mk hF
      clear hF
      go_wp2_with fail
      go_meet
      exact ⟨⟨8, a, 0, zOp, 0, []⟩, .slice none 0 0, st2, HFF, BK6, ⟨Kd.R_nil _ _ _ _ _⟩, HT6, HC6⟩
    · -- 9
      have HI : Aside0 (F = bindO (bodyA 9 st1) tailS) := ⟨HF.out⟩
      go_wp2_with fail
      try go_at_call 66
      have HT5 := Aside0.mk (HT4.out.below (below_alloc (Below.refl _ _) (.cells #[.pointer (some ⟨g, 1, none⟩)] 85)))
      have HK5 := Aside0.mk (keep_al (o := (.cells #[.pointer (some ⟨g, 1, none⟩)] 85)) BK4.out)
      have HP5 := Aside0.mk (heap_alloc_new w4 (.cells #[.pointer (some ⟨g, 1, none⟩)] 85))
      have HC5 := Aside0.mk (HC4.out.alloc (.cells #[.pointer (some ⟨g, 1, none⟩)] 85))
      have HL5 : Aside0 (g < w4.heap.size) := ⟨lt_of_block BK4.out⟩
      have HQ := Aside0.mk (numbers.calls pb B g w4.heap.size 60 [1] [.int .i64 9, .int .i64 0, .int .i64 0, .int .i64 0, .int .i64 0, .int .i64 0, .int .i64 0, .int .i64 0, .slice none 0 0] st1 _ HT5.out HK5.out HP5.out HN.out.1 HN.out.2.1 (by have := HL5.out; omega) (by have := HL5.out; have := HN.out.1; omega) (by decide) (by simp))
      obtain ⟨g5, hg5⟩ : ∃ g, g = w4.heap.size := ⟨_, rfl⟩
      rw [← hg5] at HQ ⊢
      generalize w4.alloc (.cells #[.pointer (some ⟨g, 1, none⟩)] 85) = W5 at HT5 HK5 HP5 HC5 HQ ⊢
      clear HT4 HC4 HL5 hg5 HP5 HK5 BK4
      rcases h0 : numberS st1 with ⟨ce, se⟩ | ⟨a, st2⟩
      · have hq : numsS [1] [.int .i64 9, .int .i64 0, .int .i64 0, .int .i64 0, .int .i64 0, .int .i64 0, .int .i64 0, .int .i64 0, .slice none 0 0] st1 = .inl (ce, se) := by simp only [numsS, h0, bindO]
        have hF : F = .inl (ce, se) := by rw [HI.out]; simp only [bodyA, h0, bindO]
        subst hF
        rw [hq] at HQ
        refine HQ.out.mono ?_
        rintro e w6 ⟨rfl, ht, hc⟩
        have HT6 := Aside0.mk ht
        have HC6 := Aside0.mk (HC5.out.trans hc (fun k h => h.elim .inl (fun h => .inr (by have := HN.out; omega))))
        clear ht hc
        go_wp2_with fail
        exact ⟨rfl, rfl, HT6.out, HC6.out⟩
      have hq : numsS [1] [.int .i64 9, .int .i64 0, .int .i64 0, .int .i64 0, .int .i64 0, .int .i64 0, .int .i64 0, .int .i64 0, .slice none 0 0] st1 = .inr ([.int .i64 9, .int .i64 a, .int .i64 0, .int .i64 0, .int .i64 0, .int .i64 0, .int .i64 0, .int .i64 0, .slice none 0 0], st2) := by simp only [numsS, h0, bindO] <;> rfl
      rw [hq] at HQ
      refine HQ.out.mono ?_
      rintro e w6 ⟨rfl, hk, ht, hc⟩
      have HT6 := Aside0.mk ht
      have HC6 := Aside0.mk (HC5.out.trans hc (fun k h => h.elim .inl (fun h => .inr (by have := HN.out; omega))))
      have BK6 := Aside0.mk hk
      clear ht hc hk hq
      have hF : F = tailS ⟨9, a, 0, zOp, 0, []⟩ st2 := by rw [HI.out]; simp only [bodyA, h0, bindO]
      have HFF := Aside0.mk hF
      clear hF
      go_wp2_with fail
      go_meet
      exact ⟨⟨9, a, 0, zOp, 0, []⟩, .slice none 0 0, st2, HFF, BK6, ⟨Kd.R_nil _ _ _ _ _⟩, HT6, HC6⟩
    · -- 10
      have HI : Aside0 (F = bindO (body10 st1) tailS) := ⟨HF.out⟩
      go_wp2_with fail
      try go_at_call 66
      have HT5 := Aside0.mk (HT4.out.below (below_alloc (Below.refl _ _) (.cells #[.pointer (some ⟨g, 1, none⟩), .pointer (some ⟨g, 2, none⟩)] 85)))
      have HK5 := Aside0.mk (keep_al (o := (.cells #[.pointer (some ⟨g, 1, none⟩), .pointer (some ⟨g, 2, none⟩)] 85)) BK4.out)
      have HP5 := Aside0.mk (heap_alloc_new w4 (.cells #[.pointer (some ⟨g, 1, none⟩), .pointer (some ⟨g, 2, none⟩)] 85))
      have HC5 := Aside0.mk (HC4.out.alloc (.cells #[.pointer (some ⟨g, 1, none⟩), .pointer (some ⟨g, 2, none⟩)] 85))
      have HL5 : Aside0 (g < w4.heap.size) := ⟨lt_of_block BK4.out⟩
      have HQ := Aside0.mk (numbers.calls pb B g w4.heap.size 60 [1, 2] [.int .i64 10, .int .i64 0, .int .i64 0, .int .i64 0, .int .i64 0, .int .i64 0, .int .i64 0, .int .i64 0, .slice none 0 0] st1 _ HT5.out HK5.out HP5.out HN.out.1 HN.out.2.1 (by have := HL5.out; omega) (by have := HL5.out; have := HN.out.1; omega) (by decide) (by simp))
      obtain ⟨g5, hg5⟩ : ∃ g, g = w4.heap.size := ⟨_, rfl⟩
      rw [← hg5] at HQ ⊢
      generalize w4.alloc (.cells #[.pointer (some ⟨g, 1, none⟩), .pointer (some ⟨g, 2, none⟩)] 85) = W5 at HT5 HK5 HP5 HC5 HQ ⊢
      clear HT4 HC4 HL5 hg5 HP5 HK5 BK4
      rcases h0 : numberS st1 with ⟨ce, se⟩ | ⟨a, st2⟩
      · have hq : numsS [1, 2] [.int .i64 10, .int .i64 0, .int .i64 0, .int .i64 0, .int .i64 0, .int .i64 0, .int .i64 0, .int .i64 0, .slice none 0 0] st1 = .inl (ce, se) := by simp only [numsS, h0, bindO]
        have hF : F = .inl (ce, se) := by rw [HI.out]; simp only [body10, h0, bindO]
        subst hF
        rw [hq] at HQ
        refine HQ.out.mono ?_
        rintro e w6 ⟨rfl, ht, hc⟩
        have HT6 := Aside0.mk ht
        have HC6 := Aside0.mk (HC5.out.trans hc (fun k h => h.elim .inl (fun h => .inr (by have := HN.out; omega))))
        clear ht hc
        go_wp2_with fail
        exact ⟨rfl, rfl, HT6.out, HC6.out⟩
      rcases h1 : numberS st2 with ⟨ce, se⟩ | ⟨b, st3⟩
      · have hq : numsS [1, 2] [.int .i64 10, .int .i64 0, .int .i64 0, .int .i64 0, .int .i64 0, .int .i64 0, .int .i64 0, .int .i64 0, .slice none 0 0] st1 = .inl (ce, se) := by simp only [numsS, h0, h1, bindO]
        have hF : F = .inl (ce, se) := by rw [HI.out]; simp only [body10, h0, h1, bindO]
        subst hF
        rw [hq] at HQ
        refine HQ.out.mono ?_
        rintro e w6 ⟨rfl, ht, hc⟩
        have HT6 := Aside0.mk ht
        have HC6 := Aside0.mk (HC5.out.trans hc (fun k h => h.elim .inl (fun h => .inr (by have := HN.out; omega))))
        clear ht hc
        go_wp2_with fail
        exact ⟨rfl, rfl, HT6.out, HC6.out⟩
      have hq : numsS [1, 2] [.int .i64 10, .int .i64 0, .int .i64 0, .int .i64 0, .int .i64 0, .int .i64 0, .int .i64 0, .int .i64 0, .slice none 0 0] st1 = .inr ([.int .i64 10, .int .i64 a, .int .i64 b, .int .i64 0, .int .i64 0, .int .i64 0, .int .i64 0, .int .i64 0, .slice none 0 0], st3) := by simp only [numsS, h0, h1, bindO] <;> rfl
      rw [hq] at HQ
      refine HQ.out.mono ?_
      rintro e w6 ⟨rfl, hk, ht, hc⟩
      have HT6 := Aside0.mk ht
      have HC6 := Aside0.mk (HC5.out.trans hc (fun k h => h.elim .inl (fun h => .inr (by have := HN.out; omega))))
      have BK6 := Aside0.mk hk
      clear ht hc hk hq
      have hF : F = tailS ⟨10, a, b, zOp, 0, []⟩ st3 := by rw [HI.out]; simp only [body10, h0, h1, bindO]
      have HFF := Aside0.mk hF
      clear hF
      go_wp2_with fail
      go_meet
      exact ⟨⟨10, a, b, zOp, 0, []⟩, .slice none 0 0, st3, HFF, BK6, ⟨Kd.R_nil _ _ _ _ _⟩, HT6, HC6⟩
  case rest =>
    obtain ⟨ev, vs, st2, HFT, BK, HR, HTW, HCW⟩ := hcut
    obtain ⟨W, rfl⟩ : ∃ x, x = wc := ⟨_, rfl⟩
    clear HF HK HST HT3 HC3 BK3 HS3 hx0 BK4 HT4 HC4
    go_wp2_with fail
    try go_at_call 64
    have hn := heap_alloc_new W (.cells #[.string tSC] 9)
    have HL := Aside0.mk (strC_block [tSC] hn (by decide))
    have HTb := Aside0.mk (HTW.out.below (below_alloc (Below.refl _ _) (.cells #[.string tSC] 9)))
    have HCb := Aside0.mk (HCW.out.alloc (.cells #[.string tSC] 9))
    have BKb := Aside0.mk (keep_al (o := .cells #[.string tSC] 9) BK.out)
    have HRb := Aside0.mk (Kd.R_below HR.out (below_alloc (Below.refl W.heap.size W) (.cells #[.string tSC] 9)))
    have HWW := Aside0.mk (word.calls pb B (some ⟨W.heap.size, 0, none⟩) 1 [tSC] st2 _ HTb.out HL.out (by decide) (fun ad e => by injection e with e; subst e; have := HTW.out.lt; show W.heap.size ≠ pb; omega))
    clear hn BK HR HTW HCW
    rcases hw : wordS [tSC] st2 with ⟨ce, se⟩ | ⟨j, st3⟩
    · have hF : F = .inl (ce, se) := by rw [HFT.out]; unfold tailS; rw [hw]; rfl
      subst hF
      rw [hw] at HWW
      refine HWW.out.mono ?_
      rintro e w6 ⟨rfl, ht, hc⟩
      have HT6 := Aside0.mk ht
      have HC6 := Aside0.mk (HCb.out.trans hc (fun k h => .inl h))
      clear ht hc
      go_wp2_with fail
      exact ⟨rfl, rfl, HT6.out, HC6.out⟩
    have HFT : Aside0 (F = if checkE ev = 0 then .inr (ev, st3) else .inl (checkE ev, st3)) := ⟨by rw [HFT.out]; unfold tailS; rw [hw]; rfl⟩
    rw [hw] at HWW
    clear hw
    refine HWW.out.mono ?_
    rintro e w6 ⟨⟨v, rfl, rfl⟩, ht, hc⟩
    have HT6 := Aside0.mk ht
    have HC6 := Aside0.mk (HCb.out.trans hc (fun k h => .inl h))
    have BK6 := Aside0.mk (hc.heap BKb.out HN.out.2.2.1)
    have HR6 := Aside0.mk (Kd.R_mono (ok' := fun _ => True) (R_ch (Kd.R_bound HRb.out) hc (fun k hk e => by have := hk.2.1; have := HN.out; omega)) (fun _ _ => trivial))
    clear ht hc HWW HTb HCb BKb HRb HL
    obtain ⟨Av, cv, hvs⟩ := Kd.R_slice HR6.out
    subst hvs
    have HCK := Aside0.mk (fun W (h : Kd.C k62 W Av ev.bs.length ev.bs) => check.calls ev Av cv W h (Kd.R_reads' HR6.out).2.1)
    have HCC := Aside0.mk (Kd.R_reads' HR6.out).2.2
    obtain ⟨q, hq⟩ : ∃ q, q = checkE ev := ⟨_, rfl⟩
    rw [← hq] at HCK HFT
    clear hq
    obtain ⟨f0, f1, f2, ⟨ga, gb, gd, gm⟩, vv, bs⟩ := ev
    have BK6 : Aside0 (w6.heap[g]? = some (.cells #[.int .i64 f0, .int .i64 f1, .int .i64 f2, .int .i64 ga, .int .i64 gb, .int .i64 gd, .int .i64 gm, .int .i64 vv, .slice Av bs.length cv] 60 (0, 0))) := ⟨BK6.out⟩
    simp only [evV] at HCK HCC HR6
    go_wp2_with ((with_reducible refine gate_dst (N := 69) rfl ?_); refine load_mid_w ?hw 60 _ rfl g 0 rfl [.int .i64 f0, .int .i64 f1, .int .i64 f2, .int .i64 ga, .int .i64 gb, .int .i64 gd, .int .i64 gm, .int .i64 vv, .slice Av bs.length cv] _ (range_of BK6.out (by rfl)) Tryd.underlying60 rfl (by kernel_rfl) ?_; (case hw => first | rfl | (go_simp; done) | (go_simp; rfl)))
    try go_at_call 59
    refine (HCK.out _ HCC.out).mono ?_
    rintro e w7 ⟨rfl, hb⟩
    have HT7 := Aside0.mk (HT6.out.below hb)
    have HC7 := Aside0.mk (HC6.out.thenB hb)
    have BK7 := Aside0.mk ((Ch.of_below hb (fun _ => False)).heap BK6.out (fun h => h))
    have HR7 := Aside0.mk (Kd.R_below HR6.out hb)
    clear hb HCK HCC HT6 HC6 BK6 HR6
    by_cases h0 : q = 0
    · subst h0
      have hF : F = .inr (⟨f0, f1, f2, ⟨ga, gb, gd, gm⟩, vv, bs⟩, st3) := HFT.out.trans (if_pos rfl)
      subst hF
      clear HFT
      go_wp2_with fail
      try go_at_call 39
      refine (need_yes.calls 0 _).mono ?_
      rintro e w8 ⟨rfl, rfl⟩
      go_wp2_with (first | ((with_reducible refine gate_dst (N := 75) rfl ?_); refine load_mid_w ?hw 60 _ rfl g 0 rfl [.int .i64 f0, .int .i64 f1, .int .i64 f2, .int .i64 ga, .int .i64 gb, .int .i64 gd, .int .i64 gm, .int .i64 vv, .slice Av bs.length cv] _ (range_of BK7.out (by rfl)) Tryd.underlying60 rfl (by kernel_rfl) ?_; (case hw => first | rfl | (go_simp; done) | (go_simp; rfl))) | ((with_reducible refine gate_store (p := 2) rfl ?_); refine store_all rfl rfl 60 _ _ rfl #[.int .i64 f0, .int .i64 f1, .int .i64 f2, .int .i64 ga, .int .i64 gb, .int .i64 gd, .int .i64 gm, .int .i64 vv, .slice Av bs.length cv] rfl rfl BK7.out rfl (by kernel_rfl) (by rfl) ?_; intro w9 h1 h2; have BK9 := Aside0.mk h1; have HC9 := Aside0.mk h2; clear h1 h2))
      refine bodyPost_ret (results_single rfl (.cell g 60 #[.int .i64 f0, .int .i64 f1, .int .i64 f2, .int .i64 ga, .int .i64 gb, .int .i64 gd, .int .i64 gm, .int .i64 vv, .slice Av bs.length cv] (0, 0) _ rfl BK9.out Tryd.underlying60 rfl (by exact (by kernel_rfl : (Tryd.prog.info? 60).map (·.size) = some 9)) .nil)) rfl ⟨⟨_, rfl, ⟨.slice Av bs.length cv, rfl, ?_⟩⟩, HT7.out.atG HC9.out HN.out.1 HN.out.2.1, HC7.out.trans HC9.out (fun k h => .inr (by have := HN.out; omega))⟩
      exact Kd.R_lower (Kd.R_mono (ok' := fun _ => True) (R_ch (Kd.R_bound HR7.out) HC9.out (fun k hk e => by have := hk.2.1; omega)) (fun _ _ => trivial)) (by have := HN.out; omega)
    · have hF : F = .inl (q, st3) := HFT.out.trans (if_neg h0)
      subst hF
      have hb0 : (q == 0) = false := beq_eq_false_iff_ne.mpr h0
      clear HFT h0
      go_wp2_with fail
      try go_at_call 39
      refine (need_no.calls q _).mono ?_
      rintro e w8 ⟨rfl, rfl⟩
      go_wp2_with fail
      exact ⟨rfl, rfl, HT7.out, HC7.out⟩
end Go.Proofs.YtaoffnhladfdcaaDoor.EScriptTrace
