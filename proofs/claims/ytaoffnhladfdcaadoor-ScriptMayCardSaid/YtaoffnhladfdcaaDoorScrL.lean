/- Line, Print. -/
import Derived.Test.YtaoffnhladfdcaaDoorScrK
namespace Go.Proofs.YtaoffnhladfdcaaDoor.EScriptTrace
open Go.RowKit Go.Shelf Go.Proofs.YtaoffnhladfdcaaDoorW.PrintWords Go.Proofs.YtaoffnhladfdcaaDoorW.PrintLast Go.Proofs.YtaoffnhladfdcaaDoorW.PrintMore
set_option linter.unusedVariables false
set_option linter.unusedSimpArgs false
/-! What Check's word says. -/
theorem inL_one {x : Int} {l : List Int} (h : inL l = true) (hx : x ∈ l) : outN x = false := by
  unfold inL at h
  rw [Bool.not_eq_true'] at h
  have := List.any_eq_false.1 h x hx
  simpa using this
structure EvOk (e : Ev) : Prop where
  k0 : 1 ≤ e.f0
  k1 : e.f0 ≤ 10
  h1 : 0 ≤ e.f1 ∧ e.f1 ≤ 999999999
  h2 : 0 ≤ e.f2 ∧ e.f2 ≤ 999999999
  op : e.f0 = 1 → ledC e.g = 0
  am : -999999999 ≤ e.g.f3 ∧ e.g.f3 ≤ 999999999
  sn : e.f0 = 7 → snapC e.v e.bs = 0
  vv : 0 ≤ e.v ∧ e.v ≤ 999999999
  ok : okE e = true
  bl : e.bs.length ≤ 32
  ids : ∀ b ∈ e.bs, (0 ≤ b.f0 ∧ b.f0 ≤ 999999999) ∧ 1 ≤ b.f1 ∧ b.f1 ≤ 16
theorem evOk {e : Ev} (h : checkE e = 0) : EvOk e := by
  unfold checkE at h
  by_cases c1 : e.f0 < 1 ∨ e.f0 > 10
  · rw [if_pos c1] at h; exact absurd h (by decide)
  rw [if_neg c1] at h
  cases c2 : inL [e.f1, e.f2]
  · rw [c2, if_pos rfl] at h; exact absurd h (by decide)
  rw [c2, if_neg (by decide)] at h
  by_cases c3 : opsE e ≠ 0
  · rw [if_pos c3] at h; exact absurd h c3
  rw [if_neg c3] at h
  by_cases c4 : snapE e ≠ 0
  · rw [if_pos c4] at h; exact absurd h c4
  rw [if_neg c4] at h
  cases c5 : okE e
  · rw [c5, if_neg (by decide)] at h; exact absurd h (by decide)
  have a1 := inL_one c2 (x := e.f1) (by simp)
  have a2 := inL_one c2 (x := e.f2) (by simp)
  have c3 := Decidable.not_not.1 c3
  have c4 := Decidable.not_not.1 c4
  have hop : e.f0 = 1 → ledC e.g = 0 ∧ inL [max e.g.f3 (-e.g.f3)] = true := fun h1 => by
    unfold opsE at c3
    rw [if_neg (by omega)] at c3
    by_cases d : ledC e.g ≠ 0
    · rw [if_pos d] at c3; exact absurd c3 d
    rw [if_neg d] at c3
    cases d2 : inL [max e.g.f3 (-e.g.f3)]
    · rw [d2, if_neg (by decide)] at c3; exact absurd c3 (by decide)
    exact ⟨Decidable.not_not.1 d, rfl⟩
  have hsn : e.f0 = 7 → snapC e.v e.bs = 0 ∧ inL [e.v] = true ∧ inL (e.bs.map S62.f0) = true := fun h1 => by
    unfold snapE at c4
    rw [if_neg (by omega)] at c4
    by_cases d : snapC e.v e.bs ≠ 0
    · rw [if_pos d] at c4; exact absurd c4 d
    rw [if_neg d] at c4
    by_cases d2 : inL [e.v] = true ∧ inL (e.bs.map S62.f0) = true
    · exact ⟨Decidable.not_not.1 d, d2⟩
    · rw [if_neg d2] at c4; exact absurd c4 (by decide)
  have hok := c5
  unfold okE at hok
  simp only [Bool.and_eq_true, decide_eq_true_eq] at hok
  obtain ⟨o1, o2, o3, o4, o5⟩ := hok
  unfold outN at a1 a2
  simp only [Bool.or_eq_false_iff, decide_eq_false_iff_not] at a1 a2
  refine ⟨by omega, by omega, by omega, by omega, fun h1 => (hop h1).1, ?_, fun h1 => (hsn h1).1, ?_, c5, ?_, ?_⟩
  · rcases o3 with o3 | o3
    · have := inL_one (hop o3).2 (x := max e.g.f3 (-e.g.f3)) (by simp)
      unfold outN at this
      simp only [Bool.or_eq_false_iff, decide_eq_false_iff_not] at this
      omega
    · rw [o3]; decide
  · rcases o4 with o4 | o4
    · have := inL_one (hsn o4).2.1 (x := e.v) (by simp)
      unfold outN at this
      simp only [Bool.or_eq_false_iff, decide_eq_false_iff_not] at this
      omega
    · rw [o4]; decide
  · rcases o5 with o5 | o5
    · exact ringC_len (snapC_zero (hsn o5).1).2.2
    · rw [o5]; decide
  · rcases o5 with o5 | o5
    · intro b hb
      have h1 := inL_one (hsn o5).2.2 (x := b.f0) (List.mem_map.2 ⟨b, hb, rfl⟩)
      have h2 := (snapC_zero (hsn o5).1).2.2
      have h3 : e.bs.any badB = false := by
        unfold ringC at h2
        by_cases d : e.bs.length > 32
        · rw [if_pos d] at h2; exact absurd h2 (by decide)
        rw [if_neg d] at h2
        cases d2 : e.bs.any badB
        · rfl
        · rw [d2, if_pos rfl] at h2; exact absurd h2 (by decide)
      have h4 := List.any_eq_false.1 h3 b hb
      unfold badB at h4
      unfold outN at h1
      simp at h1 h4
      omega
    · rw [o5]; intro b hb; cases hb
theorem evOk_g {e : Ev} (h : EvOk e) : (0 ≤ e.g.f1 ∧ e.g.f1 ≤ 15) ∧ (0 ≤ e.g.f2 ∧ e.g.f2 ≤ 15) ∧ (0 ≤ e.g.f0 ∧ e.g.f0 ≤ 4) := by
  by_cases h1 : e.f0 = 1
  · have := ledC_zero (h.op h1)
    omega
  · have hok := h.ok
    unfold okE at hok
    simp only [Bool.and_eq_true, decide_eq_true_eq] at hok
    rcases hok.2.2.1 with o | o
    · exact absurd o h1
    · rw [o]; decide
theorem evOk_64 {e : Ev} (h : EvOk e) : In64 [e.f1, e.f2, e.v] ∧ In64 [e.g.f1, e.g.f2, e.g.f3, -e.g.f3] ∧ ∀ b ∈ e.bs, In64 [b.f0, b.f1] := by
  have h0 := evOk_g h
  have h1 := h.h1
  have h2 := h.h2
  have h3 := h.vv
  have h4 := h.am
  refine ⟨fun y hy => ?_, fun y hy => ?_, fun b hb y hy => ?_⟩
  · revert hy; simp only [List.mem_cons, List.not_mem_nil, or_false]; omega
  · revert hy; simp only [List.mem_cons, List.not_mem_nil, or_false]; omega
  · have h5 := h.ids b hb
    revert hy; simp only [List.mem_cons, List.not_mem_nil, or_false]; omega
theorem kw_small : ∀ j : Nat, (wordsL.getD j ⟨#[]⟩).size ≤ 22 := by
  intro j
  by_cases h : j < 10
  · have h10 : ∀ j : Fin 10, (wordsL.getD j.val ⟨#[]⟩).size ≤ 22 := by decide +kernel
    exact h10 ⟨j, h⟩
  · rw [List.getD_eq_getElem?_getD, List.getElem?_eq_none (by rw [words_len]; omega)]
    decide
theorem decS_small {x : Int} (h : -9223372036854775808 ≤ x ∧ x < 9223372036854775808) : (decS x).size ≤ 22 := (decS_ok h.1 h.2).2.2.1
theorem restT_small {e : Ev} (h : EvOk e) : (∀ s ∈ kw e.f0 :: restT e, s.size ≤ 22) ∧ (kw e.f0 :: restT e).length ≤ 70 := by
  obtain ⟨h1, h2, h3⟩ := evOk_64 h
  have a1 := decS_small (h1 e.f1 (by simp))
  have a2 := decS_small (h1 e.f2 (by simp))
  have a3 := decS_small (h1 e.v (by simp))
  have a4 := decS_small (h2 e.g.f1 (by simp))
  have a5 := decS_small (h2 e.g.f2 (by simp))
  have a6 := decS_small (h2 e.g.f3 (by simp))
  have a7 := decS_small (h2 (-e.g.f3) (by simp))
  have a8 : ∀ s ∈ bsT e.bs, s.size ≤ 22 := fun s hs => by
    unfold bsT at hs
    obtain ⟨b, hb, hs⟩ := List.mem_flatMap.1 hs
    have b1 := decS_small (h3 b hb b.f0 (by simp))
    have b2 := decS_small (h3 b hb b.f1 (by simp))
    simp only [List.mem_cons, List.not_mem_nil, or_false] at hs
    rcases hs with rfl | rfl <;> assumption
  have a9 := bsT_len e.bs
  have a10 := h.bl
  have b1 : dropW.size = 4 := rfl
  have b2 : addW.size = 3 := rfl
  have b3 : moveW.size = 4 := rfl
  have b4 : getW.size = 3 := rfl
  have b5 : sumW.size = 3 := rfl
  refine ⟨fun s hs => ?_, ?_⟩
  · rcases List.mem_cons.1 hs with rfl | hs
    · exact kw_small _
    · unfold restT opT at hs
      split at hs
      · split at hs
        · split at hs <;> simp only [List.mem_append, List.mem_cons, List.not_mem_nil, or_false] at hs <;> rcases hs with (rfl | rfl) | rfl | rfl | rfl <;> omega
        · split at hs
          · simp only [List.mem_append, List.mem_cons, List.not_mem_nil, or_false] at hs; rcases hs with (rfl | rfl) | rfl | rfl | rfl | rfl <;> omega
          · split at hs
            · simp only [List.mem_append, List.mem_cons, List.not_mem_nil, or_false] at hs; rcases hs with (rfl | rfl) | rfl | rfl <;> omega
            · simp only [List.mem_append, List.mem_cons, List.not_mem_nil, or_false] at hs; rcases hs with (rfl | rfl) | rfl <;> omega
      · split at hs
        · simp only [List.mem_cons, List.not_mem_nil, or_false] at hs; rcases hs with rfl; omega
        · split at hs
          · simp only [List.mem_cons, List.not_mem_nil, or_false] at hs; rcases hs with rfl | rfl <;> omega
          · split at hs
            · simp only [List.mem_append, List.mem_cons, List.not_mem_nil, or_false] at hs
              rcases hs with (rfl | rfl) | hs
              · omega
              · omega
              · exact a8 _ hs
            · simp only [List.mem_cons, List.not_mem_nil, or_false] at hs; rcases hs with rfl; omega
  · unfold restT opT
    repeat' split
    all_goals simp only [List.length_cons, List.length_append, List.length_nil]
    all_goals omega
/-! A line. -/
def lineT (e : Ev) : ByteArray := joinL (kw e.f0 :: restT e) ++ ⟨#[59]⟩
def lineS (e : Ev) : ByteArray × Int := if checkE e = 0 then (lineT e, 0) else (⟨#[]⟩, checkE e)
theorem lineT_join {e : Ev} (h : EvOk e) : (Lib.join ((kw e.f0 :: restT e).map (·.data.toList)) [32]).length ≤ 1610 := by
  obtain ⟨h1, h2⟩ := restT_small h
  have := join_len ((kw e.f0 :: restT e).map (·.data.toList)) 22 (fun y hy => by
    obtain ⟨s, hs, rfl⟩ := List.mem_map.1 hy
    show s.data.toList.length ≤ 22
    rw [Array.length_toList]; exact h1 s hs)
  rw [List.length_map] at this
  omega
theorem lineT_size {e : Ev} (h : EvOk e) : (lineT e).size ≤ 1611 := by
  unfold lineT
  rw [ByteArray.size_append]
  have := lineT_join h
  have e1 : (joinL (kw e.f0 :: restT e)).size = (Lib.join ((kw e.f0 :: restT e).map (·.data.toList)) [32]).length := by
    unfold joinL; show (List.toArray _).size = _; rw [List.size_toArray]
  have e2 : (⟨#[59]⟩ : ByteArray).size = 1 := rfl
  omega
theorem lt_of_cell_ {w : World} {a : Addr} {v : Value} (h : w.cell? a = some v) : a.block < w.heap.size := by
  unfold World.cell? at h
  rcases hh : w.heap[a.block]? with _ | o
  · rw [hh] at h; cases h
  · exact lt_of_block hh
theorem C62_lt {w : World} {A : Option Addr} {l : List S62} (h : Kd.C k62 w A l.length l) : ∀ ad, A = some ad → 0 < l.length → ad.block < w.heap.size := by
  intro ad e hp
  obtain ⟨ad', e', hx, _⟩ := at_T62 h 0 (by omega) (by omega)
  rw [e] at e'
  injection e' with e'
  subst e'
  have := lt_of_cell_ hx
  rwa [addT_block] at this
set_option maxHeartbeats 4000000 in
set_option maxRecDepth 100000 in
theorem line.calls (e : Ev) (A : Option Addr) (c : Nat) (w : World) (ht : Tab w) (hr : Kd.C k62 w A e.bs.length e.bs) (hc : e.bs.length ≤ c) : Calls Tryd.prog 30 #[evV e A c] w fun r w' => r = .returned (.tuple #[.string (lineS e).1, .int .i64 (lineS e).2]) ∧ Below w.heap.size w w' := by
  have HR := Aside0.mk hr
  have HC := Aside0.mk hc
  have HTAB := Aside0.mk ht
  have HLT := Aside0.mk (C62_lt hr)
  obtain ⟨q, hq⟩ : ∃ q, q = checkE e := ⟨_, rfl⟩
  obtain ⟨F, hF⟩ : ∃ F, F = lineS e := ⟨_, rfl⟩
  rw [← hF]
  have HF : Aside0 (F = if q = 0 then (lineT e, 0) else (⟨#[]⟩, q)) := ⟨by rw [hF]; unfold lineS; rw [← hq]⟩
  have HQ := Aside0.mk hq
  have hb1 := below_alloc (Below.refl w.heap.size w) (.cells (evC e A c).toArray 60 (0, 0))
  have HB2 := Aside0.mk hb1
  have BK2 := Aside0.mk (heap_alloc_new w (.cells (evC e A c).toArray 60 (0, 0)))
  have HCK := Aside0.mk (check.calls e A c (w.alloc (.cells (evC e A c).toArray 60 (0, 0))) (Kd.C_below hr hb1) hc)
  rw [← hq] at HCK
  clear hr hc ht hF hq hb1
  show Calls Tryd.prog 30 #[.agg (evC e A c).toArray] w _
  go_enter Tryd.func30, Tryd.ntmps30
  go_wp2_with ((with_reducible refine gate_dst (N := 6) rfl ?_); refine load_mid_w ?hw 60 _ rfl w.heap.size 0 rfl (evC e A c) _ (range_of BK2.out (by rfl)) Tryd.underlying60 rfl (by kernel_rfl) ?_; (case hw => first | rfl | (go_simp; done) | (go_simp; rfl)))
  try go_at_call 59
  refine (show Calls Tryd.prog 59 #[.agg (evC e A c).toArray] _ _ from HCK.out).mono ?_
  rintro r w1 ⟨rfl, hb⟩
  have HB3 := Aside0.mk (below_b HB2.out hb HB2.out.size)
  have BK3 := Aside0.mk ((Ch.of_below hb (fun _ => False)).heap BK2.out (fun h => h))
  clear hb HCK BK2
  by_cases h0 : q = 0
  · have hF : F = (lineT e, 0) := HF.out.trans (if_pos h0)
    have HE := Aside0.mk (evOk (e := e) (by rw [← HQ.out]; exact h0))
    subst hF
    subst h0
    clear HF HQ HB2
    go_wp2_with ((with_reducible refine gate_dst (N := 14) rfl ?_); refine load_mid_w ?hw 60 _ rfl w.heap.size 0 rfl (evC e A c) _ (range_of (Ch.heap (Ch.of_below (below_alloc (Below.refl w1.heap.size w1) (.cells #[.slice none 0 0] 136 (0, 0))) (fun _ => False)) BK3.out (fun h => h)) (by rfl)) Tryd.underlying60 rfl (by kernel_rfl) ?_; (case hw => first | rfl | (go_simp; done) | (go_simp; rfl)))
    try go_at_call 60
    have hb4 := below_alloc (Below.refl w1.heap.size w1) (.cells #[.slice none 0 0] 136 (0, 0))
    have e4 : (w1.alloc (.cells #[.slice none 0 0] 136 (0, 0))).heap.size = w1.heap.size + 1 := Array.size_push _
    have LA4 : LineAt (w1.alloc (.cells #[.slice none 0 0] 136 (0, 0))) w1.heap.size (w1.heap.size + 1) [] := ⟨_, heap_alloc_new w1 _, Kd.R_nil _ _ _ _ _⟩
    have HB4 := below_b HB3.out hb4 HB3.out.size
    have hsz : w.heap.size < w1.heap.size := lt_of_block BK3.out
    have h64 := evOk_64 HE.out
    refine (levent.calls w1.heap.size (w1.heap.size + 1) [] e A c _ LA4 (HTAB.out.below HB4) (by omega) (by omega) (by omega) HE.out.k0 HE.out.k1 h64.1 h64.2.1 h64.2.2 (Kd.C_below HR.out HB4) HC.out (fun ad h1 h2 => by have := HLT.out ad h1 h2; omega) (by have := HE.out.bl; omega) (by simp)).mono ?_
    rintro r w5 ⟨rfl, h1', h2', h3'⟩
    have HLA5 : Aside0 (LineAt w5 w1.heap.size (w1.heap.size + 1) (kw e.f0 :: restT e)) := ⟨h1'⟩
    have HB5 := Aside0.mk (HB4.trans (h3'.mono (by omega)))
    clear h1' h2' h3' LA4 HB4 hb4 e4 hsz h64 HB3 BK3
    go_wp2_with fail
    try go_at_call 58
    refine (lstring.calls w1.heap.size (w1.heap.size + 1) _ w5 HLA5.out (by have := (restT_small HE.out).2; omega) (by have := lineT_join HE.out; omega)).mono ?_
    rintro r w6 ⟨rfl, hb⟩
    have HB6 := Aside0.mk (below_b HB5.out hb HB5.out.size)
    have HSZ := Aside0.mk (lineT_size HE.out)
    have HL : Aside0 (lineT e = joinL (kw e.f0 :: restT e) ++ ⟨#[59]⟩) := ⟨rfl⟩
    generalize joinL (kw e.f0 :: restT e) = js at HL ⊢
    have hjs : js.size + 1 ≤ 1611 := by have := HSZ.out; rw [HL.out, ByteArray.size_append] at this; exact this
    clear hb HB5 HLA5
    go_wp2_with fail
    go_ret2
    exact ⟨by rw [HL.out]; rfl, HB6.out⟩
  · have hF : F = (⟨#[]⟩, q) := HF.out.trans (if_neg h0)
    subst hF
    have hd : decide (q = 0) = false := decide_eq_false h0
    clear HF HQ
    go_wp2_with fail
    go_ret2
    exact ⟨rfl, HB3.out⟩
/-! Events as a text. -/
def printF : List Ev → List UInt8 → List UInt8 × Int
  | [], out => (out, 0)
  | e :: t, out => if checkE e = 0 then printF t (out ++ ((lineT e).data.toList ++ [10])) else ([], checkE e)
def printS (l : List Ev) : List UInt8 × Int := if 512 < l.length then ([], 3) else printF l []
theorem rd_Ev_get {l : List Ev} {i : Nat} (h : i < l.length) : rd_Ev l ((i : Nat) : Int) = l[i] := by
  unfold rd_Ev
  rw [Int.toNat_natCast, List.getD_eq_getElem?_getD, List.getElem?_eq_getElem h]; rfl
theorem kEv_C_below {w w1 : World} {A : Option Addr} {n B : Nat} {xs : List Ev} (h : Kd.C kEv w A n xs) (hb : Below B w w1) (hB : w.heap.size ≤ B) : Kd.C kEv w1 A n xs := Kd.C_below h (hb.mono hB)
set_option maxHeartbeats 4000000 in
set_option maxRecDepth 100000 in
theorem print.calls (A : Option Addr) (c : Nat) (l : List Ev) (w : World) (ht : Tab w) (hr : Kd.C kEv w A l.length l) (hc : l.length ≤ c) : Calls Tryd.prog 29 #[.slice A l.length c] w fun e w' => e = .returned (.tuple #[.string ⟨(printS l).1.toArray⟩, .int .i64 (printS l).2]) ∧ Below w.heap.size w w' := by
  have HR := Aside0.mk hr
  have HC := Aside0.mk hc
  have HTAB := Aside0.mk ht
  obtain ⟨F, hF⟩ : ∃ F, F = printS l := ⟨_, rfl⟩
  rw [← hF]
  have HF : Aside0 (F = if 512 < l.length then ([], 3) else printF l []) := ⟨hF⟩
  clear hr hc ht hF
  by_cases h1 : 512 < l.length
  · have hF : F = ([], 3) := HF.out.trans (if_pos h1)
    subst hF
    clear HF
    go_enter Tryd.func29, Tryd.ntmps29
    go_wp2_with fail
    go_ret2
    exact ⟨rfl, Below.refl _ _⟩
  · have HF := Aside0.mk (HF.out.trans (if_neg h1))
    have HBL := Aside0.mk (bld_fresh 116 [] w w.heap.size (Nat.le_refl _))
    have HB1 := Aside0.mk (below_alloc (Below.refl w.heap.size w) (.cells #[.pointer none, .slice none 0 0] 116 (0, 0)))
    go_enter Tryd.func29, Tryd.ntmps29
    go_wp2_with fail
    go_loopw [6, 7, 8, 14] (fun v6 v7 v8 v14 W => ∃ (i : Nat) (out : List UInt8), i ≤ l.length ∧ v14 = .int .i64 i ∧ Aside0 (out.length ≤ i * 1612) ∧ Aside0 (F = printF (l.drop i) out) ∧ Aside0 (Bld 116 w.heap.size w.heap.size out [] W) ∧ Aside0 (Below w.heap.size w W)) (fun _ _ _ v _ => l.length - (intOf v).toNat)
    case atStart => exact ⟨0, [], by omega, rfl, ⟨by simp⟩, HF, HBL, HB1⟩
    case round =>
      clear HF HBL HB1
      obtain ⟨i, out, hi, rfl, HON, HF, HBL, HB1⟩ := hrel
      by_cases hlt : i < l.length
      · obtain ⟨ad, A8, c8, e1, _, hcs, hl8, hC8⟩ := at_Ev (kEv_C_below HR.out HB1.out (Nat.le_refl _)) ((i : Nat) : Int) (by omega) (by omega)
        cases e1
        rw [rd_Ev_get hlt] at hcs hl8 hC8
        have HF := Aside0.mk (show F = printF (l[i] :: l.drop (i + 1)) out from by rw [HF.out, List.drop_eq_getElem_cons hlt])
        generalize l[i] = e at hcs hl8 hC8 HF
        simp only [Int.toNat_natCast] at hcs
        have hx0 : wr.cell? (ad.add (i * 9)) = some (.int .i64 e.f0) := hcs 0 _ rfl
        have hx1 : wr.cell? ⟨(ad.add (i * 9)).block, (ad.add (i * 9)).off + 1, none⟩ = some (.int .i64 e.f1) := by rw [← add_field _ _ 1 (by omega)]; exact hcs 1 _ rfl
        have hx2 : wr.cell? ⟨(ad.add (i * 9)).block, (ad.add (i * 9)).off + 2, none⟩ = some (.int .i64 e.f2) := by rw [← add_field _ _ 2 (by omega)]; exact hcs 2 _ rfl
        have hx3 : wr.cell? ⟨(ad.add (i * 9)).block, (ad.add (i * 9)).off + 3, none⟩ = some (.int .i64 e.g.f0) := by rw [← add_field _ _ 3 (by omega)]; exact hcs 3 _ rfl
        have hx4 : wr.cell? ⟨(ad.add (i * 9)).block, (ad.add (i * 9)).off + 4, none⟩ = some (.int .i64 e.g.f1) := by rw [← add_field _ _ 4 (by omega)]; exact hcs 4 _ rfl
        have hx5 : wr.cell? ⟨(ad.add (i * 9)).block, (ad.add (i * 9)).off + 5, none⟩ = some (.int .i64 e.g.f2) := by rw [← add_field _ _ 5 (by omega)]; exact hcs 5 _ rfl
        have hx6 : wr.cell? ⟨(ad.add (i * 9)).block, (ad.add (i * 9)).off + 6, none⟩ = some (.int .i64 e.g.f3) := by rw [← add_field _ _ 6 (by omega)]; exact hcs 6 _ rfl
        have hx7 : wr.cell? ⟨(ad.add (i * 9)).block, (ad.add (i * 9)).off + 7, none⟩ = some (.int .i64 e.v) := by rw [← add_field _ _ 7 (by omega)]; exact hcs 7 _ rfl
        have hx8 : wr.cell? ⟨(ad.add (i * 9)).block, (ad.add (i * 9)).off + 8, none⟩ = some (.slice A8 e.bs.length c8) := by rw [← add_field _ _ 8 (by omega)]; exact hcs 8 _ rfl
        have HC8 := Aside0.mk hC8
        have HL8 := Aside0.mk hl8
        clear hcs hC8 hl8
        go_wp2_with (first | ((with_reducible refine gate_dst (N := 6) rfl ?_); refine box_event ?hg (N := 6) ?hd (cs := #[.int .i64 0, .int .i64 0, .int .i64 0, .int .i64 0, .int .i64 0, .int .i64 0, .int .i64 0, .int .i64 0, .slice none 0 0]) (t := 60) ?hr ?_; (case hd => rfl); (case hg => rfl); (case hr => first | (go_simp; done) | (go_simp; rfl)); intro gb hg w2 hbox hb; have HB2 := Aside0.mk hb; have BK2 := Aside0.mk hbox; have HG := Aside0.mk hg; clear hb hbox hg) | ((with_reducible refine gate_store (p := 6) rfl ?_); refine store_all rfl rfl 60 _ _ rfl #[.int .i64 e.f0, .int .i64 e.f1, .int .i64 e.f2, .int .i64 e.g.f0, .int .i64 e.g.f1, .int .i64 e.g.f2, .int .i64 e.g.f3, .int .i64 e.v, .slice A8 e.bs.length c8] rfl rfl BK2.out rfl (by kernel_rfl) (by rfl) ?_; intro w4 h1 h2; have BK4 := Aside0.mk h1; have HC4 := Aside0.mk h2; clear h1 h2) | ((with_reducible refine gate_dst (N := 19) rfl ?_); refine load_mid_w ?hw 60 _ rfl gb 0 rfl [.int .i64 e.f0, .int .i64 e.f1, .int .i64 e.f2, .int .i64 e.g.f0, .int .i64 e.g.f1, .int .i64 e.g.f2, .int .i64 e.g.f3, .int .i64 e.v, .slice A8 e.bs.length c8] _ (range_of BK4.out (by rfl)) Tryd.underlying60 rfl (by kernel_rfl) ?_; (case hw => first | rfl | (go_simp; done) | (go_simp; rfl))))
        try go_at_call 30
        have HB4 : Below wr.heap.size wr w4 := below_ch HB2.out HC4.out HB2.out.size (fun k h => by have := HG.out; omega)
        refine (show Calls Tryd.prog 30 #[.agg #[.int .i64 e.f0, .int .i64 e.f1, .int .i64 e.f2, .int .i64 e.g.f0, .int .i64 e.g.f1, .int .i64 e.g.f2, .int .i64 e.g.f3, .int .i64 e.v, .slice A8 e.bs.length c8]] w4 _ from line.calls e A8 c8 w4 ((HTAB.out.below HB1.out).below HB4) (Kd.C_below HC8.out HB4) HL8.out).mono ?_
        rintro r w5 ⟨rfl, hb⟩
        have HB5 := Aside0.mk (HB4.trans (hb.mono HB4.size))
        clear hb HB4 HB2 HC4 BK2 BK4 HC8 HL8 hx0 hx1 hx2 hx3 hx4 hx5 hx6 hx7 hx8
        by_cases h0 : checkE e = 0
        · have hS : lineS e = (lineT e, 0) := if_pos h0
          have HF := Aside0.mk (show F = printF (l.drop (i + 1)) (out ++ ((lineT e).data.toList ++ [10])) from by rw [HF.out]; exact if_pos h0)
          have HSZ := Aside0.mk (lineT_size (evOk h0))
          rw [hS]
          generalize lineT e = T at HF HSZ ⊢
          have hts : T.size + 1 ≤ 1612 := by have := HSZ.out; omega
          have HTD : Aside0 ((T ++ (⟨#[10]⟩ : ByteArray)).data.toList = T.data.toList ++ [10]) := ⟨by rw [ByteArray.data_append, Array.toList_append]⟩
          have HTZ : Aside0 ((T ++ (⟨#[10]⟩ : ByteArray)).size ≤ 1612) := ⟨by rw [ByteArray.size_append]; exact hts⟩
          clear hS h0
          go_wp2_with fail
          try go_at_call 48
          refine (bwrite.calls 116 w.heap.size w.heap.size out [] (T ++ (⟨#[10]⟩ : ByteArray)) w5 (HBL.out.step (Ch.of_below HB5.out (fun _ => False))) (by decide) (Nat.le_refl _) (by have := HON.out; have := HTZ.out; omega) (by kernel_rfl)).mono ?_
          rintro r w6 ⟨rfl, h1', h2', h3'⟩
          have HBL2 : Aside0 (Bld 116 w.heap.size w.heap.size (out ++ (T.data.toList ++ [10])) [] w6) := ⟨by rw [← HTD.out]; exact h1'⟩
          have HB6 := Aside0.mk ((HB1.out.trans (HB5.out.mono HB1.out.size)).trans h3')
          have HON2 : Aside0 ((out ++ (T.data.toList ++ [10])).length ≤ (i + 1) * 1612) := ⟨by
            have h5 := HTZ.out
            rw [← ByteArray.size_data, ← Array.length_toList, HTD.out] at h5
            have := HON.out
            rw [List.length_append]; omega⟩
          clear h1' h2' h3' HBL HB1 HB5 HON HTD HTZ HSZ hts
          go_wp2_with fail
          refine ⟨⟨i + 1, _, by omega, by go_num, HON2, HF, HBL2, HB6⟩, ?_⟩
          simp [intOf]; omega
        · have hS : lineS e = (⟨#[]⟩, checkE e) := if_neg h0
          have hF : F = ([], checkE e) := by rw [HF.out]; exact if_neg h0
          have HB6 := Aside0.mk (HB1.out.trans (HB5.out.mono HB1.out.size))
          rw [hS]
          subst hF
          obtain ⟨q, hq⟩ : ∃ q, q = checkE e := ⟨_, rfl⟩
          rw [← hq] at h0 ⊢
          have HQ := Aside0.mk hq
          clear hq
          have hd : decide (q = 0) = false := decide_eq_false h0
          clear HF hS HB5 HB1
          go_wp2_with fail
          go_ret2
          exact ⟨by rw [← HQ.out]; rfl, HB6.out⟩
      · obtain rfl : i = l.length := by omega
        have hF : F = (out, 0) := by rw [HF.out, List.drop_length]; rfl
        subst hF
        clear HF
        go_wp2_with fail
        try go_at_call 50
        refine (bstring.calls 116 w.heap.size w.heap.size out [] wr HBL.out (Nat.le_refl _)).mono ?_
        rintro e w5 ⟨rfl, hb⟩
        have HB5 := Aside0.mk (HB1.out.trans hb)
        clear hb HBL
        go_wp2_with fail
        go_ret2
        exact ⟨rfl, HB5.out⟩
end Go.Proofs.YtaoffnhladfdcaaDoor.EScriptTrace
