/- An operation; the numbers in range; the ring's check. -/
import Derived.Test.YtaoffnhladfdcaaDoorScrA
namespace Go.Proofs.YtaoffnhladfdcaaDoor.EScriptTrace
open Go.RowKit Go.Shelf Go.Proofs.YtaoffnhladfdcaaDoorW.PrintWords Go.Proofs.YtaoffnhladfdcaaDoorW.PrintLast Go.Proofs.YtaoffnhladfdcaaDoorW.PrintMore
set_option linter.unusedVariables false
set_option linter.unusedSimpArgs false
structure Op4 where
  f0 : Int
  f1 : Int
  f2 : Int
  f3 : Int
def zOp : Op4 := ⟨0, 0, 0, 0⟩
def opW : List ByteArray := [⟨#[97, 100, 100]⟩, ⟨#[100, 114, 111, 112]⟩, ⟨#[109, 111, 118, 101]⟩, ⟨#[103, 101, 116]⟩, ⟨#[115, 117, 109]⟩]
def opS (st : St31) : Out Op4 := bindO (wordS opW st) fun i st1 =>
  if i = 0 then bindO (numberS st1) fun a st2 => bindO (numberS st2) fun b st3 => .inr (⟨1, a, 0, b⟩, st3)
  else if i = 1 then bindO (numberS st1) fun a st2 => bindO (numberS st2) fun b st3 => .inr (⟨1, a, 0, wrap64 (-b)⟩, st3)
  else if i = 2 then bindO (numberS st1) fun a st2 => bindO (numberS st2) fun b st3 => bindO (numberS st3) fun c st4 => .inr (⟨2, a, b, c⟩, st4)
  else if i = 3 then bindO (numberS st1) fun a st2 => .inr (⟨3, a, 0, 0⟩, st2)
  else .inr (⟨4, 0, 0, 0⟩, st1)
def isOp (a : Op4) (_ : World) (v : Value) : Prop := v = .agg #[.int .i64 a.f0, .int .i64 a.f1, .int .i64 a.f2, .int .i64 a.f3]
theorem idxFrom_range (p : ByteArray → Bool) : ∀ (l : List ByteArray) (i : Int), idxFrom p i l = -1 ∨ (i ≤ idxFrom p i l ∧ idxFrom p i l < i + l.length)
  | [], i => .inl rfl
  | x :: t, i => by
    unfold idxFrom
    by_cases h : p x = true
    · rw [if_pos h]; right; simp only [List.length_cons]; omega
    · rw [if_neg h]
      rcases idxFrom_range p t (i + 1) with e | ⟨h1, h2⟩
      · exact .inl e
      · right; simp only [List.length_cons]; omega
theorem wordS_inr {l : List ByteArray} {st st1 : St31} {i : Int} (h : wordS l st = .inr (i, st1)) : 0 ≤ i ∧ i < l.length := by
  obtain ⟨tl, n⟩ := st
  cases tl with
  | nil => exact absurd h (by intro h; cases h)
  | cons t r =>
    have h : (if 0 ≤ idxL (eqS t.f1) l then .inr (idxL (eqS t.f1) l, (r, t.f2)) else .inl (33, (t :: r, t.f2)) : Out Int) = .inr (i, st1) := h
    by_cases h0 : 0 ≤ idxL (eqS t.f1) l
    · rw [if_pos h0] at h
      injection h with h
      injection h with h1 h2
      subst h1
      refine ⟨h0, ?_⟩
      rcases idxFrom_range (eqS t.f1) l 0 with e | ⟨_, h2⟩
      · exact absurd h0 (by rw [show idxL (eqS t.f1) l = -1 from e]; decide)
      · have : idxL (eqS t.f1) l < 0 + l.length := h2
        omega
    · rw [if_neg h0] at h; cases h
set_option maxHeartbeats 4000000 in
set_option maxRecDepth 100000 in
theorem op.calls (pb B : Nat) (st : St31) (w : World) (h : TokAt w pb B st.1 st.2) (hB : B ≤ w.heap.size) (hp : pb < B) : Calls Tryd.prog 67 #[.pointer (some ⟨pb, 0, none⟩)] w (Ends w pb B isOp (opS st)) := by
  have HT := Aside0.mk h
  have HB0 := Aside0.mk (And.intro hB hp)
  obtain ⟨F, hF⟩ : ∃ F, F = opS st := ⟨_, rfl⟩
  rw [← hF]
  have HF := Aside0.mk hF
  clear h hB hp hF
  go_enter Tryd.func67, Tryd.ntmps67
  go_wp2_with ((with_reducible refine gate_dst (N := 2) rfl ?_); refine box_event ?hg (N := 2) ?hd (cs := #[.int .i64 0, .int .i64 0, .int .i64 0, .int .i64 0]) (t := 58) ?hr ?_; (case hd => rfl); (case hg => rfl); (case hr => first | (go_simp; done) | (go_simp; rfl)); intro gb hg w2 hbox hb; have HT2 := Aside0.mk (HT.out.below hb); have HB2 := Aside0.mk hb; have BK2 := Aside0.mk hbox; have HG := Aside0.mk hg; clear hb hbox hg)
  try go_at_call 64
  have HN : Aside0 (B ≤ gb ∧ pb < B ∧ gb ≠ pb) := ⟨by have := HB0.out; have := HG.out; omega⟩
  have hn := heap_alloc_new w2 (.cells (opW.map Value.string).toArray 9)
  have HL := Aside0.mk (strC_block opW hn (by decide))
  have HT2b := Aside0.mk (HT2.out.below (below_alloc (Below.refl _ _) (.cells (opW.map Value.string).toArray 9)))
  have HC2 := Aside0.mk ((Ch.of_below HB2.out (fun k => k = pb)).alloc (.cells (opW.map Value.string).toArray 9))
  have BK2b := Aside0.mk ((Ch.of_below (below_alloc (Below.refl _ _) (.cells (opW.map Value.string).toArray 9)) (fun _ => False)).heap BK2.out (fun h => h))
  have HW := Aside0.mk (word.calls pb B (some ⟨w2.heap.size, 0, none⟩) 5 opW st _ HT2b.out HL.out (by decide) (fun ad e => by injection e with e; subst e; have := HT2.out.lt; show w2.heap.size ≠ pb; omega))
  clear hn
  rcases hw : wordS opW st with ⟨ce, se⟩ | ⟨i, st1⟩
  · have hF : F = .inl (ce, se) := by rw [HF.out]; unfold opS; rw [hw]; rfl
    subst hF
    rw [hw] at HW
    refine HW.out.mono ?_
    rintro e w3 ⟨rfl, ht, hc⟩
    have HT3 := Aside0.mk ht
    have HC3 := Aside0.mk (HC2.out.trans hc (fun k h => .inl h))
    clear ht hc
    go_wp2_with fail
    exact ⟨rfl, rfl, HT3.out, HC3.out⟩
  · have hr := wordS_inr hw
    rw [hw] at HW
    have HWW := Aside0.mk hw
    clear hw
    refine HW.out.mono ?_
    rintro e w3 ⟨⟨v, rfl, rfl⟩, ht, hc⟩
    have HT3 := Aside0.mk ht
    have HC3 := Aside0.mk (HC2.out.trans hc (fun k h => .inl h))
    have BK3 := Aside0.mk (hc.heap BK2b.out HN.out.2.2)
    have hx0 : w3.cell? ⟨gb, 0, none⟩ = some (.int .i64 0) := zcell BK3.out 0 _ rfl
    have hz0 := zfree BK3.out 0
    clear ht hc HW HL HT2b HC2 BK2b BK2 HT2
    have h5 : i = 0 ∨ i = 1 ∨ i = 2 ∨ i = 3 ∨ i = 4 := by have : opW.length = 5 := rfl; omega
    clear hr
    rcases h5 with rfl | rfl | rfl | rfl | rfl
    · -- 0
      have HI : Aside0 (F = bindO (numberS st1) fun a st2 => bindO (numberS st2) fun b st3 => .inr (⟨1, a, 0, b⟩, st3)) := ⟨by rw [HF.out]; unfold opS; rw [HWW.out]; rfl⟩
      clear HF HWW
      have hS : Ch (fun k => k = gb) w3 (w3.setCell ⟨gb, 0, none⟩ (.int .i64 1)) := (Ch.refl (fun k => k = gb) w3).set (p := ⟨gb, 0, none⟩) (.inl rfl) _
      have HT4 := Aside0.mk (HT3.out.atG hS HN.out.1 HN.out.2.1)
      have hK4 : (w3.setCell ⟨gb, 0, none⟩ (.int .i64 1)).heap[gb]? = some (.cells #[.int .i64 1, .int .i64 0, .int .i64 0, .int .i64 0] 58 (0, 0)) := by simpa using zset BK3.out 0 (.int .i64 1)
      have HK4 := Aside0.mk hK4
      have HC4 := Aside0.mk (HC3.out.trans hS (fun k h => .inr (by have := HG.out; omega)))
      clear hS hK4
      go_wp2_with fail
      try go_at_call 66
      have HT5 := Aside0.mk (HT4.out.below (below_alloc (Below.refl _ _) (.cells #[.pointer (some ⟨gb, 1, none⟩), .pointer (some ⟨gb, 3, none⟩)] 85)))
      have HK5 := Aside0.mk ((Ch.of_below (below_alloc (Below.refl _ _) (.cells #[.pointer (some ⟨gb, 1, none⟩), .pointer (some ⟨gb, 3, none⟩)] 85)) (fun _ => False)).heap HK4.out (fun h => h))
      have hsz : (w3.setCell ⟨gb, 0, none⟩ (.int .i64 1)).heap.size = w3.heap.size := by simp [World.setCell]
      have hp5 := heap_alloc_new (w3.setCell ⟨gb, 0, none⟩ (.int .i64 1)) (.cells #[.pointer (some ⟨gb, 1, none⟩), .pointer (some ⟨gb, 3, none⟩)] 85)
      rw [hsz] at hp5
      have HP5 := Aside0.mk hp5
      have HC5 := Aside0.mk (HC4.out.alloc (.cells #[.pointer (some ⟨gb, 1, none⟩), .pointer (some ⟨gb, 3, none⟩)] 85))
      have HL5 : Aside0 (gb < w3.heap.size) := ⟨lt_of_block BK3.out⟩
      clear hsz hp5
      have HQ := numbers.calls pb B gb w3.heap.size 58 [1, 3] [.int .i64 1, .int .i64 0, .int .i64 0, .int .i64 0] st1 _ HT5.out HK5.out HP5.out HN.out.1 HN.out.2.1 (by have := HL5.out; omega) (by have := HL5.out; have := HN.out.1; omega) (by decide) (by decide)
      have HQ := Aside0.mk HQ
      obtain ⟨g5, hg5⟩ : ∃ g, g = w3.heap.size := ⟨_, rfl⟩
      rw [← hg5] at HQ ⊢
      generalize (w3.setCell ⟨gb, 0, none⟩ (.int .i64 1)).alloc (.cells #[.pointer (some ⟨gb, 1, none⟩), .pointer (some ⟨gb, 3, none⟩)] 85) = W5 at HT5 HK5 HP5 HC5 HQ ⊢
      clear HT4 HK4 HC4 HL5 hg5 HP5 HK5
      rcases h0 : numberS st1 with ⟨ce, se⟩ | ⟨a, st2⟩
      · have hq : numsS [1, 3] [.int .i64 1, .int .i64 0, .int .i64 0, .int .i64 0] st1 = .inl (ce, se) := by simp only [numsS, h0, bindO] <;> rfl
        have hF : F = .inl (ce, se) := by rw [HI.out]; simp only [h0, bindO]
        subst hF
        rw [hq] at HQ
        refine HQ.out.mono ?_
        rintro e w6 ⟨rfl, ht, hc⟩
        have HT6 := Aside0.mk ht
        have HC6 := Aside0.mk (HC5.out.trans hc (fun k h => h.elim .inl (fun h => .inr (by have := HG.out; omega))))
        clear ht hc
        go_wp2_with fail
        exact ⟨rfl, rfl, HT6.out, HC6.out⟩
      · -- goes on
        rcases h1 : numberS st2 with ⟨ce, se⟩ | ⟨b, st3⟩
        · have hq : numsS [1, 3] [.int .i64 1, .int .i64 0, .int .i64 0, .int .i64 0] st1 = .inl (ce, se) := by simp only [numsS, h0, h1, bindO] <;> rfl
          have hF : F = .inl (ce, se) := by rw [HI.out]; simp only [h0, h1, bindO]
          subst hF
          rw [hq] at HQ
          refine HQ.out.mono ?_
          rintro e w6 ⟨rfl, ht, hc⟩
          have HT6 := Aside0.mk ht
          have HC6 := Aside0.mk (HC5.out.trans hc (fun k h => h.elim .inl (fun h => .inr (by have := HG.out; omega))))
          clear ht hc
          go_wp2_with fail
          exact ⟨rfl, rfl, HT6.out, HC6.out⟩
        · -- goes on
          have hq : numsS [1, 3] [.int .i64 1, .int .i64 0, .int .i64 0, .int .i64 0] st1 = .inr ([.int .i64 1, .int .i64 a, .int .i64 0, .int .i64 b], st3) := by simp only [numsS, h0, h1, bindO] <;> rfl
          have hF : F = .inr (⟨1, a, 0, b⟩, st3) := by rw [HI.out]; simp only [h0, h1, bindO]
          subst hF
          rw [hq] at HQ
          refine HQ.out.mono ?_
          rintro e w6 ⟨rfl, hk, ht, hc⟩
          have HT6 := Aside0.mk ht
          have HC6 := Aside0.mk (HC5.out.trans hc (fun k h => h.elim .inl (fun h => .inr (by have := HG.out; omega))))
          have HK6 := Aside0.mk hk
          clear ht hc hk hq
          go_wp2_with (first | ((with_reducible refine gate_store (p := 2) rfl ?_); refine store_all rfl rfl 58 _ _ rfl #[.int .i64 1, .int .i64 a, .int .i64 0, .int .i64 b] rfl rfl HK6.out rfl (by kernel_rfl) (by rfl) ?_; intro w9 h1 h2; have BK9 := Aside0.mk h1; have HC9 := Aside0.mk h2; clear h1 h2) | ((with_reducible refine gate_dst (N := 40) rfl ?_); refine load_mid_w ?hw 58 _ rfl gb 0 rfl [.int .i64 1, .int .i64 a, .int .i64 0, .int .i64 b] _ (range_of HK6.out (by rfl)) Tryd.underlying58 rfl (by kernel_rfl) ?_; (case hw => first | rfl | (go_simp; done) | (go_simp; rfl))))
          refine bodyPost_ret (results_single rfl (.cell gb 58 #[.int .i64 1, .int .i64 a, .int .i64 0, .int .i64 b] (0, 0) _ rfl BK9.out Tryd.underlying58 rfl (by exact (by kernel_rfl : (Tryd.prog.info? 58).map (·.size) = some 4)) .nil)) rfl ⟨⟨_, rfl, rfl⟩, HT6.out.atG HC9.out HN.out.1 HN.out.2.1, HC6.out.trans HC9.out (fun k h => .inr (by have := HG.out; omega))⟩
    · -- 1
      have HI : Aside0 (F = bindO (numberS st1) fun a st2 => bindO (numberS st2) fun b st3 => .inr (⟨1, a, 0, wrap64 (-b)⟩, st3)) := ⟨by rw [HF.out]; unfold opS; rw [HWW.out]; rfl⟩
      clear HF HWW
      have hS : Ch (fun k => k = gb) w3 (w3.setCell ⟨gb, 0, none⟩ (.int .i64 1)) := (Ch.refl (fun k => k = gb) w3).set (p := ⟨gb, 0, none⟩) (.inl rfl) _
      have HT4 := Aside0.mk (HT3.out.atG hS HN.out.1 HN.out.2.1)
      have hK4 : (w3.setCell ⟨gb, 0, none⟩ (.int .i64 1)).heap[gb]? = some (.cells #[.int .i64 1, .int .i64 0, .int .i64 0, .int .i64 0] 58 (0, 0)) := by simpa using zset BK3.out 0 (.int .i64 1)
      have HK4 := Aside0.mk hK4
      have HC4 := Aside0.mk (HC3.out.trans hS (fun k h => .inr (by have := HG.out; omega)))
      clear hS hK4
      go_wp2_with fail
      try go_at_call 66
      have HT5 := Aside0.mk (HT4.out.below (below_alloc (Below.refl _ _) (.cells #[.pointer (some ⟨gb, 1, none⟩), .pointer (some ⟨gb, 3, none⟩)] 85)))
      have HK5 := Aside0.mk ((Ch.of_below (below_alloc (Below.refl _ _) (.cells #[.pointer (some ⟨gb, 1, none⟩), .pointer (some ⟨gb, 3, none⟩)] 85)) (fun _ => False)).heap HK4.out (fun h => h))
      have hsz : (w3.setCell ⟨gb, 0, none⟩ (.int .i64 1)).heap.size = w3.heap.size := by simp [World.setCell]
      have hp5 := heap_alloc_new (w3.setCell ⟨gb, 0, none⟩ (.int .i64 1)) (.cells #[.pointer (some ⟨gb, 1, none⟩), .pointer (some ⟨gb, 3, none⟩)] 85)
      rw [hsz] at hp5
      have HP5 := Aside0.mk hp5
      have HC5 := Aside0.mk (HC4.out.alloc (.cells #[.pointer (some ⟨gb, 1, none⟩), .pointer (some ⟨gb, 3, none⟩)] 85))
      have HL5 : Aside0 (gb < w3.heap.size) := ⟨lt_of_block BK3.out⟩
      clear hsz hp5
      have HQ := numbers.calls pb B gb w3.heap.size 58 [1, 3] [.int .i64 1, .int .i64 0, .int .i64 0, .int .i64 0] st1 _ HT5.out HK5.out HP5.out HN.out.1 HN.out.2.1 (by have := HL5.out; omega) (by have := HL5.out; have := HN.out.1; omega) (by decide) (by decide)
      have HQ := Aside0.mk HQ
      obtain ⟨g5, hg5⟩ : ∃ g, g = w3.heap.size := ⟨_, rfl⟩
      rw [← hg5] at HQ ⊢
      generalize (w3.setCell ⟨gb, 0, none⟩ (.int .i64 1)).alloc (.cells #[.pointer (some ⟨gb, 1, none⟩), .pointer (some ⟨gb, 3, none⟩)] 85) = W5 at HT5 HK5 HP5 HC5 HQ ⊢
      clear HT4 HK4 HC4 HL5 hg5 HP5 HK5
      rcases h0 : numberS st1 with ⟨ce, se⟩ | ⟨a, st2⟩
      · have hq : numsS [1, 3] [.int .i64 1, .int .i64 0, .int .i64 0, .int .i64 0] st1 = .inl (ce, se) := by simp only [numsS, h0, bindO] <;> rfl
        have hF : F = .inl (ce, se) := by rw [HI.out]; simp only [h0, bindO]
        subst hF
        rw [hq] at HQ
        refine HQ.out.mono ?_
        rintro e w6 ⟨rfl, ht, hc⟩
        have HT6 := Aside0.mk ht
        have HC6 := Aside0.mk (HC5.out.trans hc (fun k h => h.elim .inl (fun h => .inr (by have := HG.out; omega))))
        clear ht hc
        go_wp2_with fail
        exact ⟨rfl, rfl, HT6.out, HC6.out⟩
      · -- goes on
        rcases h1 : numberS st2 with ⟨ce, se⟩ | ⟨b, st3⟩
        · have hq : numsS [1, 3] [.int .i64 1, .int .i64 0, .int .i64 0, .int .i64 0] st1 = .inl (ce, se) := by simp only [numsS, h0, h1, bindO] <;> rfl
          have hF : F = .inl (ce, se) := by rw [HI.out]; simp only [h0, h1, bindO]
          subst hF
          rw [hq] at HQ
          refine HQ.out.mono ?_
          rintro e w6 ⟨rfl, ht, hc⟩
          have HT6 := Aside0.mk ht
          have HC6 := Aside0.mk (HC5.out.trans hc (fun k h => h.elim .inl (fun h => .inr (by have := HG.out; omega))))
          clear ht hc
          go_wp2_with fail
          exact ⟨rfl, rfl, HT6.out, HC6.out⟩
        · -- goes on
          have hq : numsS [1, 3] [.int .i64 1, .int .i64 0, .int .i64 0, .int .i64 0] st1 = .inr ([.int .i64 1, .int .i64 a, .int .i64 0, .int .i64 b], st3) := by simp only [numsS, h0, h1, bindO] <;> rfl
          have hF : F = .inr (⟨1, a, 0, wrap64 (-b)⟩, st3) := by rw [HI.out]; simp only [h0, h1, bindO]
          subst hF
          rw [hq] at HQ
          refine HQ.out.mono ?_
          rintro e w6 ⟨rfl, hk, ht, hc⟩
          have HT6 := Aside0.mk ht
          have HC6 := Aside0.mk (HC5.out.trans hc (fun k h => h.elim .inl (fun h => .inr (by have := HG.out; omega))))
          have HK6 := Aside0.mk hk
          clear ht hc hk hq
          have hx3 : w6.cell? ⟨gb, 3, none⟩ = some (.int .i64 b) := zcell HK6.out 3 _ rfl
          have hz3 := zfree HK6.out 3
          have hS : Ch (fun k => k = gb) w6 (w6.setCell ⟨gb, 3, none⟩ (.int .i64 (wrap64 (-b)))) := (Ch.refl (fun k => k = gb) w6).set (p := ⟨gb, 3, none⟩) (.inl rfl) _
          have HT7 := Aside0.mk (HT6.out.atG hS HN.out.1 HN.out.2.1)
          have HK7 : Aside0 ((w6.setCell ⟨gb, 3, none⟩ (.int .i64 (wrap64 (-b)))).heap[gb]? = some (.cells #[.int .i64 1, .int .i64 a, .int .i64 0, .int .i64 (wrap64 (-b))] 58 (0, 0))) := ⟨by simpa using zset HK6.out 3 (.int .i64 (wrap64 (-b)))⟩
          have HC7 := Aside0.mk (HC6.out.trans hS (fun k h => .inr (by have := HG.out; omega)))
          clear hS
          go_wp2_with (first | ((with_reducible refine gate_store (p := 2) rfl ?_); refine store_all rfl rfl 58 _ _ rfl #[.int .i64 1, .int .i64 a, .int .i64 0, .int .i64 (wrap64 (-b))] rfl rfl HK7.out rfl (by kernel_rfl) (by rfl) ?_; intro w9 h1 h2; have BK9 := Aside0.mk h1; have HC9 := Aside0.mk h2; clear h1 h2) | ((with_reducible refine gate_dst (N := 40) rfl ?_); refine load_mid_w ?hw 58 _ rfl gb 0 rfl [.int .i64 1, .int .i64 a, .int .i64 0, .int .i64 (wrap64 (-b))] _ (range_of HK7.out (by rfl)) Tryd.underlying58 rfl (by kernel_rfl) ?_; (case hw => first | rfl | (go_simp; done) | (go_simp; rfl))))
          refine bodyPost_ret (results_single rfl (.cell gb 58 #[.int .i64 1, .int .i64 a, .int .i64 0, .int .i64 (wrap64 (-b))] (0, 0) _ rfl BK9.out Tryd.underlying58 rfl (by exact (by kernel_rfl : (Tryd.prog.info? 58).map (·.size) = some 4)) .nil)) rfl ⟨⟨_, rfl, rfl⟩, HT7.out.atG HC9.out HN.out.1 HN.out.2.1, HC7.out.trans HC9.out (fun k h => .inr (by have := HG.out; omega))⟩
    · -- 2
      have HI : Aside0 (F = bindO (numberS st1) fun a st2 => bindO (numberS st2) fun b st3 => bindO (numberS st3) fun c st4 => .inr (⟨2, a, b, c⟩, st4)) := ⟨by rw [HF.out]; unfold opS; rw [HWW.out]; rfl⟩
      clear HF HWW
      have hS : Ch (fun k => k = gb) w3 (w3.setCell ⟨gb, 0, none⟩ (.int .i64 2)) := (Ch.refl (fun k => k = gb) w3).set (p := ⟨gb, 0, none⟩) (.inl rfl) _
      have HT4 := Aside0.mk (HT3.out.atG hS HN.out.1 HN.out.2.1)
      have hK4 : (w3.setCell ⟨gb, 0, none⟩ (.int .i64 2)).heap[gb]? = some (.cells #[.int .i64 2, .int .i64 0, .int .i64 0, .int .i64 0] 58 (0, 0)) := by simpa using zset BK3.out 0 (.int .i64 2)
      have HK4 := Aside0.mk hK4
      have HC4 := Aside0.mk (HC3.out.trans hS (fun k h => .inr (by have := HG.out; omega)))
      clear hS hK4
      go_wp2_with fail
      try go_at_call 66
      have HT5 := Aside0.mk (HT4.out.below (below_alloc (Below.refl _ _) (.cells #[.pointer (some ⟨gb, 1, none⟩), .pointer (some ⟨gb, 2, none⟩), .pointer (some ⟨gb, 3, none⟩)] 85)))
      have HK5 := Aside0.mk ((Ch.of_below (below_alloc (Below.refl _ _) (.cells #[.pointer (some ⟨gb, 1, none⟩), .pointer (some ⟨gb, 2, none⟩), .pointer (some ⟨gb, 3, none⟩)] 85)) (fun _ => False)).heap HK4.out (fun h => h))
      have hsz : (w3.setCell ⟨gb, 0, none⟩ (.int .i64 2)).heap.size = w3.heap.size := by simp [World.setCell]
      have hp5 := heap_alloc_new (w3.setCell ⟨gb, 0, none⟩ (.int .i64 2)) (.cells #[.pointer (some ⟨gb, 1, none⟩), .pointer (some ⟨gb, 2, none⟩), .pointer (some ⟨gb, 3, none⟩)] 85)
      rw [hsz] at hp5
      have HP5 := Aside0.mk hp5
      have HC5 := Aside0.mk (HC4.out.alloc (.cells #[.pointer (some ⟨gb, 1, none⟩), .pointer (some ⟨gb, 2, none⟩), .pointer (some ⟨gb, 3, none⟩)] 85))
      have HL5 : Aside0 (gb < w3.heap.size) := ⟨lt_of_block BK3.out⟩
      clear hsz hp5
      have HQ := numbers.calls pb B gb w3.heap.size 58 [1, 2, 3] [.int .i64 2, .int .i64 0, .int .i64 0, .int .i64 0] st1 _ HT5.out HK5.out HP5.out HN.out.1 HN.out.2.1 (by have := HL5.out; omega) (by have := HL5.out; have := HN.out.1; omega) (by decide) (by decide)
      have HQ := Aside0.mk HQ
      obtain ⟨g5, hg5⟩ : ∃ g, g = w3.heap.size := ⟨_, rfl⟩
      rw [← hg5] at HQ ⊢
      generalize (w3.setCell ⟨gb, 0, none⟩ (.int .i64 2)).alloc (.cells #[.pointer (some ⟨gb, 1, none⟩), .pointer (some ⟨gb, 2, none⟩), .pointer (some ⟨gb, 3, none⟩)] 85) = W5 at HT5 HK5 HP5 HC5 HQ ⊢
      clear HT4 HK4 HC4 HL5 hg5 HP5 HK5
      rcases h0 : numberS st1 with ⟨ce, se⟩ | ⟨a, st2⟩
      · have hq : numsS [1, 2, 3] [.int .i64 2, .int .i64 0, .int .i64 0, .int .i64 0] st1 = .inl (ce, se) := by simp only [numsS, h0, bindO] <;> rfl
        have hF : F = .inl (ce, se) := by rw [HI.out]; simp only [h0, bindO]
        subst hF
        rw [hq] at HQ
        refine HQ.out.mono ?_
        rintro e w6 ⟨rfl, ht, hc⟩
        have HT6 := Aside0.mk ht
        have HC6 := Aside0.mk (HC5.out.trans hc (fun k h => h.elim .inl (fun h => .inr (by have := HG.out; omega))))
        clear ht hc
        go_wp2_with fail
        exact ⟨rfl, rfl, HT6.out, HC6.out⟩
      · -- goes on
        rcases h1 : numberS st2 with ⟨ce, se⟩ | ⟨b, st3⟩
        · have hq : numsS [1, 2, 3] [.int .i64 2, .int .i64 0, .int .i64 0, .int .i64 0] st1 = .inl (ce, se) := by simp only [numsS, h0, h1, bindO] <;> rfl
          have hF : F = .inl (ce, se) := by rw [HI.out]; simp only [h0, h1, bindO]
          subst hF
          rw [hq] at HQ
          refine HQ.out.mono ?_
          rintro e w6 ⟨rfl, ht, hc⟩
          have HT6 := Aside0.mk ht
          have HC6 := Aside0.mk (HC5.out.trans hc (fun k h => h.elim .inl (fun h => .inr (by have := HG.out; omega))))
          clear ht hc
          go_wp2_with fail
          exact ⟨rfl, rfl, HT6.out, HC6.out⟩
        · -- goes on
          rcases h2 : numberS st3 with ⟨ce, se⟩ | ⟨c, st4⟩
          · have hq : numsS [1, 2, 3] [.int .i64 2, .int .i64 0, .int .i64 0, .int .i64 0] st1 = .inl (ce, se) := by simp only [numsS, h0, h1, h2, bindO] <;> rfl
            have hF : F = .inl (ce, se) := by rw [HI.out]; simp only [h0, h1, h2, bindO]
            subst hF
            rw [hq] at HQ
            refine HQ.out.mono ?_
            rintro e w6 ⟨rfl, ht, hc⟩
            have HT6 := Aside0.mk ht
            have HC6 := Aside0.mk (HC5.out.trans hc (fun k h => h.elim .inl (fun h => .inr (by have := HG.out; omega))))
            clear ht hc
            go_wp2_with fail
            exact ⟨rfl, rfl, HT6.out, HC6.out⟩
          · -- goes on
            have hq : numsS [1, 2, 3] [.int .i64 2, .int .i64 0, .int .i64 0, .int .i64 0] st1 = .inr ([.int .i64 2, .int .i64 a, .int .i64 b, .int .i64 c], st4) := by simp only [numsS, h0, h1, h2, bindO] <;> rfl
            have hF : F = .inr (⟨2, a, b, c⟩, st4) := by rw [HI.out]; simp only [h0, h1, h2, bindO]
            subst hF
            rw [hq] at HQ
            refine HQ.out.mono ?_
            rintro e w6 ⟨rfl, hk, ht, hc⟩
            have HT6 := Aside0.mk ht
            have HC6 := Aside0.mk (HC5.out.trans hc (fun k h => h.elim .inl (fun h => .inr (by have := HG.out; omega))))
            have HK6 := Aside0.mk hk
            clear ht hc hk hq
            go_wp2_with (first | ((with_reducible refine gate_store (p := 2) rfl ?_); refine store_all rfl rfl 58 _ _ rfl #[.int .i64 2, .int .i64 a, .int .i64 b, .int .i64 c] rfl rfl HK6.out rfl (by kernel_rfl) (by rfl) ?_; intro w9 h1 h2; have BK9 := Aside0.mk h1; have HC9 := Aside0.mk h2; clear h1 h2) | ((with_reducible refine gate_dst (N := 40) rfl ?_); refine load_mid_w ?hw 58 _ rfl gb 0 rfl [.int .i64 2, .int .i64 a, .int .i64 b, .int .i64 c] _ (range_of HK6.out (by rfl)) Tryd.underlying58 rfl (by kernel_rfl) ?_; (case hw => first | rfl | (go_simp; done) | (go_simp; rfl))))
            refine bodyPost_ret (results_single rfl (.cell gb 58 #[.int .i64 2, .int .i64 a, .int .i64 b, .int .i64 c] (0, 0) _ rfl BK9.out Tryd.underlying58 rfl (by exact (by kernel_rfl : (Tryd.prog.info? 58).map (·.size) = some 4)) .nil)) rfl ⟨⟨_, rfl, rfl⟩, HT6.out.atG HC9.out HN.out.1 HN.out.2.1, HC6.out.trans HC9.out (fun k h => .inr (by have := HG.out; omega))⟩
    · -- 3
      have HI : Aside0 (F = bindO (numberS st1) fun a st2 => .inr (⟨3, a, 0, 0⟩, st2)) := ⟨by rw [HF.out]; unfold opS; rw [HWW.out]; rfl⟩
      clear HF HWW
      have hS : Ch (fun k => k = gb) w3 (w3.setCell ⟨gb, 0, none⟩ (.int .i64 3)) := (Ch.refl (fun k => k = gb) w3).set (p := ⟨gb, 0, none⟩) (.inl rfl) _
      have HT4 := Aside0.mk (HT3.out.atG hS HN.out.1 HN.out.2.1)
      have hK4 : (w3.setCell ⟨gb, 0, none⟩ (.int .i64 3)).heap[gb]? = some (.cells #[.int .i64 3, .int .i64 0, .int .i64 0, .int .i64 0] 58 (0, 0)) := by simpa using zset BK3.out 0 (.int .i64 3)
      have HK4 := Aside0.mk hK4
      have HC4 := Aside0.mk (HC3.out.trans hS (fun k h => .inr (by have := HG.out; omega)))
      clear hS hK4
      go_wp2_with fail
      try go_at_call 66
      have HT5 := Aside0.mk (HT4.out.below (below_alloc (Below.refl _ _) (.cells #[.pointer (some ⟨gb, 1, none⟩)] 85)))
      have HK5 := Aside0.mk ((Ch.of_below (below_alloc (Below.refl _ _) (.cells #[.pointer (some ⟨gb, 1, none⟩)] 85)) (fun _ => False)).heap HK4.out (fun h => h))
      have hsz : (w3.setCell ⟨gb, 0, none⟩ (.int .i64 3)).heap.size = w3.heap.size := by simp [World.setCell]
      have hp5 := heap_alloc_new (w3.setCell ⟨gb, 0, none⟩ (.int .i64 3)) (.cells #[.pointer (some ⟨gb, 1, none⟩)] 85)
      rw [hsz] at hp5
      have HP5 := Aside0.mk hp5
      have HC5 := Aside0.mk (HC4.out.alloc (.cells #[.pointer (some ⟨gb, 1, none⟩)] 85))
      have HL5 : Aside0 (gb < w3.heap.size) := ⟨lt_of_block BK3.out⟩
      clear hsz hp5
      have HQ := numbers.calls pb B gb w3.heap.size 58 [1] [.int .i64 3, .int .i64 0, .int .i64 0, .int .i64 0] st1 _ HT5.out HK5.out HP5.out HN.out.1 HN.out.2.1 (by have := HL5.out; omega) (by have := HL5.out; have := HN.out.1; omega) (by decide) (by decide)
      have HQ := Aside0.mk HQ
      obtain ⟨g5, hg5⟩ : ∃ g, g = w3.heap.size := ⟨_, rfl⟩
      rw [← hg5] at HQ ⊢
      generalize (w3.setCell ⟨gb, 0, none⟩ (.int .i64 3)).alloc (.cells #[.pointer (some ⟨gb, 1, none⟩)] 85) = W5 at HT5 HK5 HP5 HC5 HQ ⊢
      clear HT4 HK4 HC4 HL5 hg5 HP5 HK5
      rcases h0 : numberS st1 with ⟨ce, se⟩ | ⟨a, st2⟩
      · have hq : numsS [1] [.int .i64 3, .int .i64 0, .int .i64 0, .int .i64 0] st1 = .inl (ce, se) := by simp only [numsS, h0, bindO] <;> rfl
        have hF : F = .inl (ce, se) := by rw [HI.out]; simp only [h0, bindO]
        subst hF
        rw [hq] at HQ
        refine HQ.out.mono ?_
        rintro e w6 ⟨rfl, ht, hc⟩
        have HT6 := Aside0.mk ht
        have HC6 := Aside0.mk (HC5.out.trans hc (fun k h => h.elim .inl (fun h => .inr (by have := HG.out; omega))))
        clear ht hc
        go_wp2_with fail
        exact ⟨rfl, rfl, HT6.out, HC6.out⟩
      · -- goes on
        have hq : numsS [1] [.int .i64 3, .int .i64 0, .int .i64 0, .int .i64 0] st1 = .inr ([.int .i64 3, .int .i64 a, .int .i64 0, .int .i64 0], st2) := by simp only [numsS, h0, bindO] <;> rfl
        have hF : F = .inr (⟨3, a, 0, 0⟩, st2) := by rw [HI.out]; simp only [h0, bindO]
        subst hF
        rw [hq] at HQ
        refine HQ.out.mono ?_
        rintro e w6 ⟨rfl, hk, ht, hc⟩
        have HT6 := Aside0.mk ht
        have HC6 := Aside0.mk (HC5.out.trans hc (fun k h => h.elim .inl (fun h => .inr (by have := HG.out; omega))))
        have HK6 := Aside0.mk hk
        clear ht hc hk hq
        go_wp2_with (first | ((with_reducible refine gate_store (p := 2) rfl ?_); refine store_all rfl rfl 58 _ _ rfl #[.int .i64 3, .int .i64 a, .int .i64 0, .int .i64 0] rfl rfl HK6.out rfl (by kernel_rfl) (by rfl) ?_; intro w9 h1 h2; have BK9 := Aside0.mk h1; have HC9 := Aside0.mk h2; clear h1 h2) | ((with_reducible refine gate_dst (N := 40) rfl ?_); refine load_mid_w ?hw 58 _ rfl gb 0 rfl [.int .i64 3, .int .i64 a, .int .i64 0, .int .i64 0] _ (range_of HK6.out (by rfl)) Tryd.underlying58 rfl (by kernel_rfl) ?_; (case hw => first | rfl | (go_simp; done) | (go_simp; rfl))))
        refine bodyPost_ret (results_single rfl (.cell gb 58 #[.int .i64 3, .int .i64 a, .int .i64 0, .int .i64 0] (0, 0) _ rfl BK9.out Tryd.underlying58 rfl (by exact (by kernel_rfl : (Tryd.prog.info? 58).map (·.size) = some 4)) .nil)) rfl ⟨⟨_, rfl, rfl⟩, HT6.out.atG HC9.out HN.out.1 HN.out.2.1, HC6.out.trans HC9.out (fun k h => .inr (by have := HG.out; omega))⟩
    · -- 4
      have HI : Aside0 (F = .inr (⟨4, 0, 0, 0⟩, st1)) := ⟨by rw [HF.out]; unfold opS; rw [HWW.out]; rfl⟩
      clear HF HWW
      have hS : Ch (fun k => k = gb) w3 (w3.setCell ⟨gb, 0, none⟩ (.int .i64 4)) := (Ch.refl (fun k => k = gb) w3).set (p := ⟨gb, 0, none⟩) (.inl rfl) _
      have HT4 := Aside0.mk (HT3.out.atG hS HN.out.1 HN.out.2.1)
      have hK4 : (w3.setCell ⟨gb, 0, none⟩ (.int .i64 4)).heap[gb]? = some (.cells #[.int .i64 4, .int .i64 0, .int .i64 0, .int .i64 0] 58 (0, 0)) := by simpa using zset BK3.out 0 (.int .i64 4)
      have HK4 := Aside0.mk hK4
      have HC4 := Aside0.mk (HC3.out.trans hS (fun k h => .inr (by have := HG.out; omega)))
      clear hS hK4
      have hF : F = .inr (⟨4, 0, 0, 0⟩, st1) := HI.out
      subst hF
      go_wp2_with (first | ((with_reducible refine gate_store (p := 2) rfl ?_); refine store_all rfl rfl 58 _ _ rfl #[.int .i64 4, .int .i64 0, .int .i64 0, .int .i64 0] rfl rfl HK4.out rfl (by kernel_rfl) (by rfl) ?_; intro w9 h1 h2; have BK9 := Aside0.mk h1; have HC9 := Aside0.mk h2; clear h1 h2) | ((with_reducible refine gate_dst (N := 40) rfl ?_); refine load_mid_w ?hw 58 _ rfl gb 0 rfl [.int .i64 4, .int .i64 0, .int .i64 0, .int .i64 0] _ (range_of HK4.out (by rfl)) Tryd.underlying58 rfl (by kernel_rfl) ?_; (case hw => first | rfl | (go_simp; done) | (go_simp; rfl))))
      refine bodyPost_ret (results_single rfl (.cell gb 58 #[.int .i64 4, .int .i64 0, .int .i64 0, .int .i64 0] (0, 0) _ rfl BK9.out Tryd.underlying58 rfl (by exact (by kernel_rfl : (Tryd.prog.info? 58).map (·.size) = some 4)) .nil)) rfl ⟨⟨_, rfl, rfl⟩, HT4.out.atG HC9.out HN.out.1 HN.out.2.1, HC4.out.trans HC9.out (fun k h => .inr (by have := HG.out; omega))⟩
def outN (x : Int) : Bool := decide (x < 0) || decide (x > 999999999)
theorem outN.calls (x : Int) (w : World) : Calls Tryd.prog 127 #[.int .i64 x] w fun e w' => e = .returned (.bool (outN x)) ∧ w = w' := by
  by_cases h : x < 0
  · go_enter Tryd.func127, Tryd.ntmps127
    go_wp2
    go_ret
    exact ⟨by simp [outN, h], rfl⟩
  · by_cases h2 : 999999999 < x
    · go_enter Tryd.func127, Tryd.ntmps127
      go_wp2
      go_ret
      exact ⟨by simp [outN, h2], rfl⟩
    · go_enter Tryd.func127, Tryd.ntmps127
      go_wp2
      go_ret
      exact ⟨by simp [outN]; omega, rfl⟩
set_option maxHeartbeats 400000 in
theorem anyOut_idx.calls (A : Option Addr) (c : Nat) (l : List Int) (w : World) (hr : Kd.C (Kd.int .i64) w A l.length l) (hc : l.length ≤ c) :
    Calls Tryd.prog 137 #[.slice A l.length c, .func (.func 127) #[] #[]] w fun e w' => (∃ i : Int, e = .returned (.int .i64 i) ∧ decide (0 ≤ i) = l.any outN) ∧ w = w' := by
  have HR := Aside0.mk hr
  have hlen : l.length ≤ 9223372036854775807 := hr.2.1
  clear hr
  go_enter Tryd.func137, Tryd.ntmps137
  go_wp2
  go_loop [5, 8] (fun v5 v8 => ∃ i : Int, 0 ≤ i ∧ i ≤ l.length ∧ v8 = .int .i64 i ∧ Aside0 (∀ j, j < i.toNat → outN (l.getD j 0) = false)) (fun _ v => l.length - (intOf v).toNat)
  case atStart => exact ⟨0, by omega, by omega, rfl, ⟨fun j hj => by omega⟩⟩
  case round =>
    obtain ⟨i, h0, hi, rfl, HN⟩ := hrel
    by_cases hlt : i < l.length
    · obtain ⟨ad, e1, hx⟩ := Kd.at_int HR.out i h0 hlt
      cases e1
      have ho : outN (l.getD i.toNat 0) = true ∨ outN (l.getD i.toNat 0) = false := by cases outN (l.getD i.toNat 0) <;> simp
      rcases ho with ho | ho
      · have HO := Lib.hid ho
        clear ho
        go_wp2_with (first | (go_at_call 127; refine (outN.calls _ _).mono ?_; rintro e w' ⟨rfl, rfl⟩; rw [show rd l i = l.getD i.toNat 0 from rfl, HO.out]))
        go_ret
        exact ⟨⟨i, rfl, by rw [decide_eq_true h0]; symm; rw [List.any_eq_true]; exact ⟨l.getD i.toNat 0, by rw [List.getD_eq_getElem?_getD, List.getElem?_eq_getElem (by omega)]; exact List.getElem_mem _, HO.out⟩⟩, rfl⟩
      · have HO := Lib.hid ho
        clear ho
        go_wp2_with (first | (go_at_call 127; refine (outN.calls _ _).mono ?_; rintro e w' ⟨rfl, rfl⟩; rw [show rd l i = l.getD i.toNat 0 from rfl, HO.out]))
        go_round
        case rel => exact ⟨i + 1, by omega, by omega, rfl, ⟨fun j hj => by
          by_cases h : j < i.toNat
          · exact HN.out j h
          · obtain rfl : j = i.toNat := by omega
            exact HO.out⟩⟩
        case measure => simp [intOf]; omega
    · go_wp2
      go_ret
      refine ⟨⟨-1, rfl, ?_⟩, rfl⟩
      symm
      rw [show decide ((0 : Int) ≤ -1) = false from rfl, List.any_eq_false]
      intro x hx
      obtain ⟨j, hj, rfl⟩ := List.getElem_of_mem hx
      have := HN.out j (by omega)
      rw [List.getD_eq_getElem?_getD, List.getElem?_eq_getElem hj] at this
      simpa using this
theorem anyOut.calls (A : Option Addr) (c : Nat) (l : List Int) (w : World) (hr : Kd.C (Kd.int .i64) w A l.length l) (hc : l.length ≤ c) :
    Calls Tryd.prog 118 #[.slice A l.length c, .func (.func 127) #[] #[]] w fun e w' => e = .returned (.bool (l.any outN)) ∧ w = w' := by
  go_enter Tryd.func118, Tryd.ntmps118
  go_wp2_with (first | (go_at_call 137; refine (anyOut_idx.calls _ _ _ _ hr hc).mono ?_; rintro e w' ⟨⟨i, rfl, hi⟩, rfl⟩; have HI := Lib.hid hi; clear hi))
  go_ret
  exact ⟨by rw [← HI.out]; rfl, rfl⟩

def inL (l : List Int) : Bool := !(l.any outN)
theorem in.calls (A : Option Addr) (c : Nat) (l : List Int) (w : World) (hr : Kd.C (Kd.int .i64) w A l.length l) (hc : l.length ≤ c) : Calls Tryd.prog 97 #[.slice A l.length c] w fun e w' => e = .returned (.bool (inL l)) ∧ w = w' := by
  have HR := Aside0.mk hr
  have HC := Aside0.mk hc
  clear hr hc
  go_enter Tryd.func97, Tryd.ntmps97
  go_wp2_with fail
  try go_at_call 118
  refine (anyOut.calls A c l _ HR.out HC.out).mono ?_
  rintro e w1 ⟨rfl, rfl⟩
  go_wp2_with fail
  go_ret
  exact ⟨rfl, rfl⟩
def badB (x : S62) : Bool := decide (x.f0 < 0) || decide (x.f0 > 2147483647) || decide (x.f1 < 1) || decide (x.f1 > 16)
theorem badB.calls (x : S62) (w : World) : Calls Tryd.prog 152 #[.agg #[.int .i64 x.f0, .int .i64 x.f1]] w fun e w' => e = .returned (.bool (badB x)) ∧ Below w.heap.size w w' := by
  obtain ⟨a, b⟩ := x
  have hu62 := Tryd.underlying62
  by_cases h : a < 0
  · go_enter Tryd.func152, Tryd.ntmps152
    go_wp2
    go_ret
    exact ⟨by simp [badB, h], below_alloc (Below.refl _ _) _⟩
  · by_cases h2 : 2147483647 < a
    · go_enter Tryd.func152, Tryd.ntmps152
      go_wp2
      go_ret
      exact ⟨by simp [badB, h2], below_alloc (Below.refl _ _) _⟩
    · by_cases h3 : b < 1
      · go_enter Tryd.func152, Tryd.ntmps152
        go_wp2
        go_ret
        exact ⟨by simp [badB, h3], below_alloc (Below.refl _ _) _⟩
      · by_cases h4 : 16 < b
        · go_enter Tryd.func152, Tryd.ntmps152
          go_wp2
          go_ret
          exact ⟨by simp [badB, h4], below_alloc (Below.refl _ _) _⟩
        · go_enter Tryd.func152, Tryd.ntmps152
          go_wp2
          go_ret
          exact ⟨by simp [badB]; omega, below_alloc (Below.refl _ _) _⟩
theorem k62_C_below {w w1 : World} {A : Option Addr} {n : Nat} {l : List S62} (h : Kd.C k62 w A n l) (hb : Below w.heap.size w w1) (_ : w.heap.size ≤ w.heap.size) : Kd.C k62 w1 A n l := Kd.C_below h hb
theorem anyBad_idx.calls (A : Option Addr) (c : Nat) (l : List S62)  (w : World) (hr : Kd.C k62 w A l.length l) (hc : l.length ≤ c)  :
    Calls Tryd.prog 155 #[.slice A l.length c, .func (.func 152) #[] #[]] w fun e w' => e = .returned (.int .i64 (idxL badB l)) ∧ Below w.heap.size w w' := by
  have HR := Aside0.mk hr
  have hlen : l.length ≤ 9223372036854775807 := hr.2.1
  have HB := Aside0.mk (Below.refl w.heap.size w)
  clear hr
  obtain ⟨g, hg⟩ : ∃ g, g = idxL badB l := ⟨_, rfl⟩
  rw [← hg]
  have HG : Aside0 (g = idxFrom badB 0 (l.drop 0)) := ⟨hg⟩
  clear hg
  go_enter Tryd.func155, Tryd.ntmps155
  go_wp2
  go_loopw [5, 8] (fun v5 v8 W => ∃ i : Int, 0 ≤ i ∧ i ≤ l.length ∧ v8 = .int .i64 i ∧ Aside0 (g = idxFrom badB i (l.drop i.toNat)) ∧ Aside0 (Below w.heap.size w W)) (fun _ v _ => l.length - (intOf v).toNat)
  case atStart => exact ⟨0, by omega, by omega, rfl, HG, HB⟩
  case round =>
    clear HB HG
    obtain ⟨i, i0, ile, rfl, HG, HB⟩ := hrel
    have HRw := Aside0.mk (k62_C_below HR.out HB.out (Nat.le_refl _))
    by_cases hlt : i < l.length
    · obtain ⟨ad, e1, hx0, hx1⟩ := at_T62 HRw.out i i0 hlt
      cases e1
      have HS := Aside0.mk (idx_step badB l z62 i i0 hlt)
      obtain ⟨o, ho⟩ : ∃ o, o = badB (rd_T62 l i) := ⟨_, rfl⟩
      have HO := Aside0.mk ho
      clear ho
      cases o
      · have hgi : g = idxFrom badB (i + 1) (l.drop (i + 1).toNat) := by rw [HG.out, HS.out]; exact if_neg (by show ¬ badB (rd_T62 l i) = true; rw [← HO.out]; decide)
        have HG2 := Aside0.mk hgi
        clear hgi
        go_wp2_with (first | (go_at_call 152; refine (badB.calls (rd_T62 l i) _).mono ?_; rintro e w1 ⟨rfl, hb⟩; rw [← HO.out]; have HB1 := Aside0.mk (below_b HB.out hb HB.out.size); clear hb))
        refine ⟨⟨i + 1, by omega, by omega, rfl, HG2, HB1⟩, ?_⟩
        simp [intOf]; omega
      · obtain rfl : i = g := by rw [HG.out, HS.out]; exact (if_pos HO.out.symm).symm
        go_wp2_with (first | (go_at_call 152; refine (badB.calls (rd_T62 l i) _).mono ?_; rintro e w1 ⟨rfl, hb⟩; rw [← HO.out]; have HB1 := Aside0.mk (below_b HB.out hb HB.out.size); clear hb))
        go_ret
        exact ⟨rfl, HB1.out⟩
    · obtain rfl : g = -1 := by rw [HG.out, List.drop_eq_nil_of_le (by omega)]; rfl
      go_wp2
      go_ret
      exact ⟨rfl, HB.out⟩
theorem anyBad_any.calls (A : Option Addr) (c : Nat) (l : List S62)  (w : World) (hr : Kd.C k62 w A l.length l) (hc : l.length ≤ c)  :
    Calls Tryd.prog 153 #[.slice A l.length c, .func (.func 152) #[] #[]] w fun e w' => e = .returned (.bool (l.any badB)) ∧ Below w.heap.size w w' := by
  have HI := Aside0.mk (idx_any badB l)
  have HC := Aside0.mk (anyBad_idx.calls A c l  w hr hc)
  clear hr
  go_enter Tryd.func153, Tryd.ntmps153
  go_wp2_with (first | (go_at_call 155; refine HC.out.mono ?_; rintro e w' ⟨rfl, hb⟩; have HB := Aside0.mk hb; clear hb))
  go_ret
  exact ⟨by rw [← HI.out]; rfl, HB.out⟩

theorem wrap_pred (i : Nat) (h : i ≤ 9223372036854775807) : IntKind.i64.wrap ((i : Int) - 1) = (i : Int) - 1 := by
  unfold IntKind.wrap
  simp [IntKind.bits, IntKind.signed]
  omega
def upL : List S62 → Bool
  | a :: b :: t => decide (a.f0 < b.f0) && upL (b :: t)
  | _ => true
def ringC (l : List S62) : Int := if l.length > 32 then 3 else if l.any badB = true then 4 else if upL l = true then 0 else 6
set_option maxHeartbeats 2000000 in
set_option maxRecDepth 100000 in
theorem ring_Check.calls (A : Option Addr) (c : Nat) (l : List S62) (w : World) (hr : Kd.C k62 w A l.length l) (hc : l.length ≤ c) : Calls Tryd.prog 146 #[.slice A l.length c] w fun e w' => e = .returned (.int .i64 (ringC l)) ∧ Below w.heap.size w w' := by
  have HR := Aside0.mk hr
  have HC := Aside0.mk hc
  have hlen : l.length ≤ 9223372036854775807 := hr.2.1
  obtain ⟨F, hF⟩ : ∃ F, F = ringC l := ⟨_, rfl⟩
  rw [← hF]
  clear hr hc
  by_cases c1 : l.length > 32
  · have h : F = 3 := by rw [hF]; exact if_pos c1
    subst h
    clear hF
    go_enter Tryd.func146, Tryd.ntmps146
    go_wp2_with fail
    go_ret
    exact ⟨rfl, Below.refl _ _⟩
  · have hF1 : F = if l.any badB = true then 4 else if upL l = true then 0 else 6 := by rw [hF]; exact if_neg c1
    have hd1 : decide ((32 : Int) < (l.length : Int)) = false := decide_eq_false (by omega)
    obtain ⟨o, ho⟩ : ∃ o, o = l.any badB := ⟨_, rfl⟩
    have HQ := Aside0.mk (anyBad_any.calls A c l w HR.out HC.out)
    rw [← ho] at hF1 HQ
    clear ho hF
    cases o
    · have HF : Aside0 (F = if upL (l.drop (0 - 1)) = true then 0 else 6) := ⟨hF1⟩
      clear hF1
      go_enter Tryd.func146, Tryd.ntmps146
      go_wp2_with fail
      try go_at_call 153
      refine HQ.out.mono ?_
      rintro e w1 ⟨rfl, hb⟩
      have HB := Aside0.mk hb
      clear hb HQ
      go_wp2_with fail
      go_loopw [4, 15] (fun v4 v15 W => ∃ i : Nat, i ≤ l.length ∧ v15 = .int .i64 i ∧ Aside0 (F = if upL (l.drop (i - 1)) = true then 0 else 6) ∧ Aside0 (Below w.heap.size w W)) (fun _ v _ => l.length - (intOf v).toNat)
      case atStart => exact ⟨0, by omega, rfl, HF, HB⟩
      case round =>
        clear HF HB
        obtain ⟨i, hi, rfl, HF, HB⟩ := hrel
        have HRw := Aside0.mk (Kd.C_below HR.out HB.out)
        by_cases hlt : i < l.length
        · have HBq : Aside0 (∀ m : Nat, Below w.heap.size w (wr.drewN m)) := ⟨fun m => ⟨HB.out.os, HB.out.tape, HB.out.output, HB.out.size, HB.out.block⟩⟩
          by_cases hi0 : i = 0
          · subst hi0
            go_wp2_with fail
            go_quiet (fail)
            go_wp2_with fail
            refine ⟨⟨1, by omega, rfl, HF, ⟨HBq.out _⟩⟩, ?_⟩
            simp [intOf]; omega
          · have hip : (0 : Int) < (i : Int) := by omega
            obtain ⟨k, hik⟩ : ∃ k : Nat, (i : Int) - 1 = (k : Int) := ⟨i - 1, by omega⟩
            have hwr : IntKind.i64.wrap ((i : Int) - 1) = (k : Int) := (wrap_pred i (by omega)).trans hik
            have hkN : k < l.length := by omega
            have hki : i = k + 1 := by omega
            obtain ⟨ad, e1, hx0, hx1⟩ := at_T62 HRw.out ((k : Nat) : Int) (by omega) (by omega)
            obtain ⟨ad2, e2, hy0, hy1⟩ := at_T62 HRw.out ((i : Nat) : Int) (by omega) (by omega)
            cases e1
            cases e2
            have hstep : F = if (decide ((rd_T62 l ((k : Nat) : Int)).f0 < (rd_T62 l ((i : Nat) : Int)).f0) && upL (l.drop i)) = true then 0 else 6 := by
              rw [HF.out, show i - 1 = k from by omega, List.drop_eq_getElem_cons hkN, hki, List.drop_eq_getElem_cons (show k + 1 < l.length from by omega)]
              have r1 : rd_T62 l ((k : Nat) : Int) = l[k] := by unfold rd_T62; rw [Int.toNat_natCast, List.getD_eq_getElem?_getD, List.getElem?_eq_getElem hkN]; rfl
              have r2 : rd_T62 l ((k + 1 : Nat) : Int) = l[k + 1]'(by omega) := by unfold rd_T62; rw [Int.toNat_natCast, List.getD_eq_getElem?_getD, List.getElem?_eq_getElem (show k + 1 < l.length from by omega)]; rfl
              rw [r1, r2]
              rfl
            have HSTEP := Aside0.mk hstep
            obtain ⟨x, hx⟩ : ∃ x, x = (rd_T62 l ((k : Nat) : Int)).f0 := ⟨_, rfl⟩
            obtain ⟨y, hy⟩ : ∃ y, y = (rd_T62 l ((i : Nat) : Int)).f0 := ⟨_, rfl⟩
            rw [← hx] at hx0 HSTEP
            rw [← hy] at hy0 HSTEP
            clear hx1 hy1 hstep hx hy HF hki
            simp only [Int.toNat_natCast] at hx0 hy0
            have hdi : decide ((0 : Int) < (i : Int)) = true := decide_eq_true hip
            have hip0 : 0 < i := by omega
            have hdi0 : decide (0 < i) = true := decide_eq_true hip0
            by_cases hnp : y ≤ x
            · have hF : F = 6 := by rw [HSTEP.out, decide_eq_false (show ¬ x < y from by omega)]; rfl
              have hdn : decide (y ≤ x) = true := decide_eq_true hnp
              subst hF
              clear hi0 hip HSTEP
              go_wp2_with fail
              go_quiet (fail)
              go_wp2_with fail
              go_ret
              exact ⟨rfl, HBq.out _⟩
            · have hF : F = if upL (l.drop (i + 1 - 1)) = true then 0 else 6 := by rw [HSTEP.out, decide_eq_true (show x < y from by omega), Bool.true_and]; rfl
              have HF2 := Aside0.mk hF
              have hdn : decide (y ≤ x) = false := decide_eq_false hnp
              clear hi0 hip hF HSTEP hnp
              go_wp2_with fail
              go_quiet (fail)
              clear hx0 hy0 hik hwr
              go_wp2_with fail
              refine ⟨⟨i + 1, by omega, by go_num, HF2, ⟨HBq.out _⟩⟩, ?_⟩
              simp [intOf]; omega
        · obtain rfl : i = l.length := by omega
          have hF : F = 0 := by
            rw [HF.out]
            refine if_pos ?_
            cases l with
            | nil => rfl
            | cons a t =>
              have : ((a :: t).drop ((a :: t).length - 1)).length = 1 := by simp
              obtain ⟨z, hz⟩ := List.length_eq_one_iff.1 this
              rw [hz]; rfl
          subst hF
          go_wp2_with fail
          go_ret
          exact ⟨rfl, HB.out⟩
    · have h : F = 4 := hF1
      subst h
      clear hF1
      go_enter Tryd.func146, Tryd.ntmps146
      go_wp2_with fail
      try go_at_call 153
      refine HQ.out.mono ?_
      rintro e w1 ⟨rfl, hb⟩
      have HB := Aside0.mk hb
      clear hb HQ
      go_wp2_with fail
      go_ret
      exact ⟨rfl, HB.out⟩
end Go.Proofs.YtaoffnhladfdcaaDoor.EScriptTrace
