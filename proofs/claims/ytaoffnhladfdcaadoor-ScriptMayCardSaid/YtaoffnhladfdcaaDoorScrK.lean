/- The words of an event. -/
import Derived.Test.YtaoffnhladfdcaaDoorScrJ
namespace Go.Proofs.YtaoffnhladfdcaaDoor.EScriptTrace
open Go.RowKit Go.Shelf Go.Proofs.YtaoffnhladfdcaaDoorW.PrintWords Go.Proofs.YtaoffnhladfdcaaDoorW.PrintLast Go.Proofs.YtaoffnhladfdcaaDoorW.PrintMore
set_option linter.unusedVariables false
set_option linter.unusedSimpArgs false
/-! Words and numbers in a slice that was just made. -/
theorem lnumsB.calls (pb base : Nat) (l : List ByteArray) (xs : List Int) (n : Nat) (w : World) (h : LineAt w pb base l) (hs : pb < base) (hb : base ≤ w.heap.size) (h64 : In64 xs) (hn : xs.length = n) (hl : (l.length + xs.length) * 16 ≤ 140737488355328) : Calls Tryd.prog 57 #[.pointer (some ⟨pb, 0, none⟩), .slice (some ⟨w.heap.size, 0, none⟩) n n] (w.alloc (.cells (xs.map (Value.int .i64)).toArray 3 (0, 0))) fun e w' => e = .returned (.tuple #[]) ∧ LineAt w' pb base (l ++ xs.map decS) ∧ KpL pb w w' ∧ Below pb w w' := by
  subst hn
  have hb1 := below_alloc (Below.refl w.heap.size w) (.cells (xs.map (Value.int .i64)).toArray 3 (0, 0))
  refine (lnumbers.calls pb base l xs w.heap.size xs.length _ (h.below hb1) (heap_alloc_new w _) (by omega) hs (Nat.le_trans hb hb1.size) h64 (Nat.le_refl _) hl).mono ?_
  rintro e w1 ⟨rfl, h1, h2, h3⟩
  exact ⟨rfl, h1, (KpL.of_below hb1).trans h2, (hb1.mono (by omega)).trans h3⟩
theorem lwordB.calls (pb base : Nat) (l : List ByteArray) (s : ByteArray) (w : World) (h : LineAt w pb base l) (hs : pb < base) (hb : base ≤ w.heap.size) (hl : (l.length + 1) * 16 ≤ 140737488355328) : Calls Tryd.prog 94 #[.pointer (some ⟨pb, 0, none⟩), .slice (some ⟨w.heap.size, 0, none⟩) 1 1] (w.alloc (.cells #[.string s] 9 (0, 0))) fun e w' => e = .returned (.tuple #[]) ∧ LineAt w' pb base (l ++ [s]) ∧ KpL pb w w' ∧ Below pb w w' := by
  have hb1 := below_alloc (Below.refl w.heap.size w) (.cells #[.string s] 9 (0, 0))
  refine (lword.calls pb base l [s] _ 1 1 _ (h.below hb1) (strC_block [s] (heap_alloc_new w (.cells #[.string s] 9 (0, 0))) (by simp)) rfl hs (Nat.le_trans hb hb1.size) hl).mono ?_
  rintro e w1 ⟨rfl, h1, h2, h3⟩
  exact ⟨rfl, h1, (KpL.of_below hb1).trans h2, (hb1.mono (by omega)).trans h3⟩
def dropW : ByteArray := ⟨#[100, 114, 111, 112]⟩
def addW : ByteArray := ⟨#[97, 100, 100]⟩
def moveW : ByteArray := ⟨#[109, 111, 118, 101]⟩
def getW : ByteArray := ⟨#[103, 101, 116]⟩
def sumW : ByteArray := ⟨#[115, 117, 109]⟩
def opT (g : Op4) : List ByteArray := if g.f0 = 1 then (if g.f3 < 0 then [dropW, decS g.f1, decS (-g.f3)] else [addW, decS g.f1, decS g.f3]) else if g.f0 = 2 then [moveW, decS g.f1, decS g.f2, decS g.f3] else if g.f0 = 3 then [getW, decS g.f1] else [sumW]
set_option maxHeartbeats 4000000 in
set_option maxRecDepth 100000 in
theorem lop.calls (pb base : Nat) (l : List ByteArray) (g : Op4) (w : World) (h : LineAt w pb base l) (hs : pb < base) (hb : base ≤ w.heap.size) (h64 : In64 [g.f1, g.f2, g.f3, -g.f3]) (hl : l.length ≤ 1000000) : Calls Tryd.prog 103 #[.pointer (some ⟨pb, 0, none⟩), .agg #[.int .i64 g.f0, .int .i64 g.f1, .int .i64 g.f2, .int .i64 g.f3]] w fun e w' => e = .returned (.tuple #[]) ∧ LineAt w' pb base (l ++ opT g) ∧ KpL pb w w' ∧ Below pb w w' := by
  obtain ⟨a, b, c, d⟩ := g
  have hb64 := h64 b (by simp)
  have hc64 := h64 c (by simp)
  have hd64 := h64 d (by simp)
  have hn64 := h64 (-d) (by simp)
  obtain ⟨F, hF⟩ : ∃ F, F = opT ⟨a, b, c, d⟩ := ⟨_, rfl⟩
  rw [← hF]
  have HF : Aside0 (F = if a = 1 then (if d < 0 then [dropW, decS b, decS (-d)] else [addW, decS b, decS d]) else if a = 2 then [moveW, decS b, decS c, decS d] else if a = 3 then [getW, decS b] else [sumW]) := ⟨hF⟩
  have H64 : Aside0 (In64 [b, c, d, -d]) := ⟨h64⟩
  have HLA := Aside0.mk h
  have HSZ := Aside0.mk hb
  have hwn : wrap64 (-d) = -d := by unfold wrap64; omega
  clear h64 hF h hb hb64 hc64 hd64 hn64
  show Calls Tryd.prog 103 #[.pointer (some ⟨pb, 0, none⟩), .agg #[.int .i64 a, .int .i64 b, .int .i64 c, .int .i64 d]] w _
  by_cases h1 : a = 1
  · subst h1
    by_cases hd : d < 0
    · have hdd : decide (d < 0) = true := decide_eq_true hd
      have hF := HF.out.trans ((if_pos rfl).trans (if_pos hd))
      subst hF
      clear HF
      go_enter Tryd.func103, Tryd.ntmps103
      go_wp2_with fail
      try go_at_call 94
      have BK2 := Aside0.mk (heap_alloc_new w (.cells #[.int .i64 1, .int .i64 b, .int .i64 c, .int .i64 d] 58 (0, 0)))
      have HB2 := Aside0.mk (below_alloc (Below.refl w.heap.size w) (.cells #[.int .i64 1, .int .i64 b, .int .i64 c, .int .i64 d] 58 (0, 0)))
      have hez : (w.alloc (.cells #[.int .i64 1, .int .i64 b, .int .i64 c, .int .i64 d] 58 (0, 0))).heap.size = w.heap.size + 1 := Array.size_push _
      have HCL := lwordB.calls pb base l dropW (w.alloc (.cells #[.int .i64 1, .int .i64 b, .int .i64 c, .int .i64 d] 58 (0, 0))) (HLA.out.below HB2.out) hs (Nat.le_trans HSZ.out HB2.out.size) (by omega)
      rw [hez] at HCL
      have hgp : w.heap.size ≠ pb := by have := HSZ.out; omega
      refine HCL.mono ?_
      rintro e w3 ⟨rfl, h1', h2', h3'⟩
      have HLA3 := Aside0.mk h1'
      have HKP3 := Aside0.mk ((KpL.of_below HB2.out).trans h2')
      have HBB3 := Aside0.mk ((HB2.out.mono (by have := HSZ.out; omega)).trans h3')
      have HSZ3 : Aside0 (base ≤ w3.heap.size) := ⟨Nat.le_trans (Nat.le_trans HSZ.out HB2.out.size) h3'.size⟩
      have hk3 := h2'.keep _ _ _ BK2.out hgp (by decide)
      have hx0 := zcell hk3 0 _ rfl
      have hx1 := zcell hk3 1 _ rfl
      have hx2 := zcell hk3 2 _ rfl
      have hx3 := zcell hk3 3 _ rfl
      clear h1' h2' h3' hk3 hgp BK2 HB2 HLA HSZ HCL hez
      go_wp2_with fail
      try go_at_call 57
      refine (lnumsB.calls pb base _ [b, -d] 2 w3 HLA3.out hs HSZ3.out (fun y hy => H64.out y (by revert hy; simp only [List.mem_cons, List.not_mem_nil, or_false]; omega)) rfl (by simp; omega)).mono ?_
      rintro e w4 ⟨rfl, h1', h2', h3'⟩
      have HLA4 := Aside0.mk h1'
      have HKP4 := Aside0.mk (HKP3.out.trans h2')
      have HBB4 := Aside0.mk (HBB3.out.trans h3')
      clear h1' h2' h3' HLA3 HKP3 HBB3 HSZ3 hx0 hx1 hx2 hx3
      go_wp2_with fail
      go_end0
      exact ⟨rfl, by have := HLA4.out; simpa using this, HKP4.out, HBB4.out⟩
    · have hdd : decide (d < 0) = false := decide_eq_false hd
      have hF := HF.out.trans ((if_pos rfl).trans (if_neg hd))
      subst hF
      clear HF
      go_enter Tryd.func103, Tryd.ntmps103
      go_wp2_with fail
      try go_at_call 94
      have BK2 := Aside0.mk (heap_alloc_new w (.cells #[.int .i64 1, .int .i64 b, .int .i64 c, .int .i64 d] 58 (0, 0)))
      have HB2 := Aside0.mk (below_alloc (Below.refl w.heap.size w) (.cells #[.int .i64 1, .int .i64 b, .int .i64 c, .int .i64 d] 58 (0, 0)))
      have hez : (w.alloc (.cells #[.int .i64 1, .int .i64 b, .int .i64 c, .int .i64 d] 58 (0, 0))).heap.size = w.heap.size + 1 := Array.size_push _
      have HCL := lwordB.calls pb base l addW (w.alloc (.cells #[.int .i64 1, .int .i64 b, .int .i64 c, .int .i64 d] 58 (0, 0))) (HLA.out.below HB2.out) hs (Nat.le_trans HSZ.out HB2.out.size) (by omega)
      rw [hez] at HCL
      have hgp : w.heap.size ≠ pb := by have := HSZ.out; omega
      refine HCL.mono ?_
      rintro e w3 ⟨rfl, h1', h2', h3'⟩
      have HLA3 := Aside0.mk h1'
      have HKP3 := Aside0.mk ((KpL.of_below HB2.out).trans h2')
      have HBB3 := Aside0.mk ((HB2.out.mono (by have := HSZ.out; omega)).trans h3')
      have HSZ3 : Aside0 (base ≤ w3.heap.size) := ⟨Nat.le_trans (Nat.le_trans HSZ.out HB2.out.size) h3'.size⟩
      have hk3 := h2'.keep _ _ _ BK2.out hgp (by decide)
      have hx0 := zcell hk3 0 _ rfl
      have hx1 := zcell hk3 1 _ rfl
      have hx2 := zcell hk3 2 _ rfl
      have hx3 := zcell hk3 3 _ rfl
      clear h1' h2' h3' hk3 hgp BK2 HB2 HLA HSZ HCL hez
      go_wp2_with fail
      try go_at_call 57
      refine (lnumsB.calls pb base _ [b, d] 2 w3 HLA3.out hs HSZ3.out (fun y hy => H64.out y (by revert hy; simp only [List.mem_cons, List.not_mem_nil, or_false]; omega)) rfl (by simp; omega)).mono ?_
      rintro e w4 ⟨rfl, h1', h2', h3'⟩
      have HLA4 := Aside0.mk h1'
      have HKP4 := Aside0.mk (HKP3.out.trans h2')
      have HBB4 := Aside0.mk (HBB3.out.trans h3')
      clear h1' h2' h3' HLA3 HKP3 HBB3 HSZ3 hx0 hx1 hx2 hx3
      go_wp2_with fail
      go_end0
      exact ⟨rfl, by have := HLA4.out; simpa using this, HKP4.out, HBB4.out⟩
  · have q1 : (a == 1) = false := beq_eq_false_iff_ne.mpr h1
    have q1' : decide (a = 1) = false := decide_eq_false h1
    by_cases h2 : a = 2
    · subst h2
      have hF := HF.out.trans ((if_neg (by decide)).trans (if_pos rfl))
      subst hF
      clear HF
      go_enter Tryd.func103, Tryd.ntmps103
      go_wp2_with fail
      try go_at_call 94
      have BK2 := Aside0.mk (heap_alloc_new w (.cells #[.int .i64 2, .int .i64 b, .int .i64 c, .int .i64 d] 58 (0, 0)))
      have HB2 := Aside0.mk (below_alloc (Below.refl w.heap.size w) (.cells #[.int .i64 2, .int .i64 b, .int .i64 c, .int .i64 d] 58 (0, 0)))
      have hez : (w.alloc (.cells #[.int .i64 2, .int .i64 b, .int .i64 c, .int .i64 d] 58 (0, 0))).heap.size = w.heap.size + 1 := Array.size_push _
      have HCL := lwordB.calls pb base l moveW (w.alloc (.cells #[.int .i64 2, .int .i64 b, .int .i64 c, .int .i64 d] 58 (0, 0))) (HLA.out.below HB2.out) hs (Nat.le_trans HSZ.out HB2.out.size) (by omega)
      rw [hez] at HCL
      have hgp : w.heap.size ≠ pb := by have := HSZ.out; omega
      refine HCL.mono ?_
      rintro e w3 ⟨rfl, h1', h2', h3'⟩
      have HLA3 := Aside0.mk h1'
      have HKP3 := Aside0.mk ((KpL.of_below HB2.out).trans h2')
      have HBB3 := Aside0.mk ((HB2.out.mono (by have := HSZ.out; omega)).trans h3')
      have HSZ3 : Aside0 (base ≤ w3.heap.size) := ⟨Nat.le_trans (Nat.le_trans HSZ.out HB2.out.size) h3'.size⟩
      have hk3 := h2'.keep _ _ _ BK2.out hgp (by decide)
      have hx0 := zcell hk3 0 _ rfl
      have hx1 := zcell hk3 1 _ rfl
      have hx2 := zcell hk3 2 _ rfl
      have hx3 := zcell hk3 3 _ rfl
      clear h1' h2' h3' hk3 hgp BK2 HB2 HLA HSZ HCL hez
      go_wp2_with fail
      try go_at_call 57
      refine (lnumsB.calls pb base _ [b, c, d] 3 w3 HLA3.out hs HSZ3.out (fun y hy => H64.out y (by revert hy; simp only [List.mem_cons, List.not_mem_nil, or_false]; omega)) rfl (by simp; omega)).mono ?_
      rintro e w4 ⟨rfl, h1', h2', h3'⟩
      have HLA4 := Aside0.mk h1'
      have HKP4 := Aside0.mk (HKP3.out.trans h2')
      have HBB4 := Aside0.mk (HBB3.out.trans h3')
      clear h1' h2' h3' HLA3 HKP3 HBB3 HSZ3 hx0 hx1 hx2 hx3
      go_wp2_with fail
      go_end0
      exact ⟨rfl, by have := HLA4.out; simpa using this, HKP4.out, HBB4.out⟩
    · have q2 : (a == 2) = false := beq_eq_false_iff_ne.mpr h2
      have q2' : decide (a = 2) = false := decide_eq_false h2
      by_cases h3 : a = 3
      · subst h3
        have hF := HF.out.trans ((if_neg (by decide)).trans ((if_neg (by decide)).trans (if_pos rfl)))
        subst hF
        clear HF
        go_enter Tryd.func103, Tryd.ntmps103
        go_wp2_with fail
        try go_at_call 94
        have BK2 := Aside0.mk (heap_alloc_new w (.cells #[.int .i64 3, .int .i64 b, .int .i64 c, .int .i64 d] 58 (0, 0)))
        have HB2 := Aside0.mk (below_alloc (Below.refl w.heap.size w) (.cells #[.int .i64 3, .int .i64 b, .int .i64 c, .int .i64 d] 58 (0, 0)))
        have hez : (w.alloc (.cells #[.int .i64 3, .int .i64 b, .int .i64 c, .int .i64 d] 58 (0, 0))).heap.size = w.heap.size + 1 := Array.size_push _
        have HCL := lwordB.calls pb base l getW (w.alloc (.cells #[.int .i64 3, .int .i64 b, .int .i64 c, .int .i64 d] 58 (0, 0))) (HLA.out.below HB2.out) hs (Nat.le_trans HSZ.out HB2.out.size) (by omega)
        rw [hez] at HCL
        have hgp : w.heap.size ≠ pb := by have := HSZ.out; omega
        refine HCL.mono ?_
        rintro e w3 ⟨rfl, h1', h2', h3'⟩
        have HLA3 := Aside0.mk h1'
        have HKP3 := Aside0.mk ((KpL.of_below HB2.out).trans h2')
        have HBB3 := Aside0.mk ((HB2.out.mono (by have := HSZ.out; omega)).trans h3')
        have HSZ3 : Aside0 (base ≤ w3.heap.size) := ⟨Nat.le_trans (Nat.le_trans HSZ.out HB2.out.size) h3'.size⟩
        have hk3 := h2'.keep _ _ _ BK2.out hgp (by decide)
        have hx0 := zcell hk3 0 _ rfl
        have hx1 := zcell hk3 1 _ rfl
        have hx2 := zcell hk3 2 _ rfl
        have hx3 := zcell hk3 3 _ rfl
        clear h1' h2' h3' hk3 hgp BK2 HB2 HLA HSZ HCL hez
        go_wp2_with fail
        try go_at_call 57
        refine (lnumsB.calls pb base _ [b] 1 w3 HLA3.out hs HSZ3.out (fun y hy => H64.out y (by revert hy; simp only [List.mem_cons, List.not_mem_nil, or_false]; omega)) rfl (by simp; omega)).mono ?_
        rintro e w4 ⟨rfl, h1', h2', h3'⟩
        have HLA4 := Aside0.mk h1'
        have HKP4 := Aside0.mk (HKP3.out.trans h2')
        have HBB4 := Aside0.mk (HBB3.out.trans h3')
        clear h1' h2' h3' HLA3 HKP3 HBB3 HSZ3 hx0 hx1 hx2 hx3
        go_wp2_with fail
        go_end0
        exact ⟨rfl, by have := HLA4.out; simpa using this, HKP4.out, HBB4.out⟩
      · have q3 : (a == 3) = false := beq_eq_false_iff_ne.mpr h3
        have q3' : decide (a = 3) = false := decide_eq_false h3
        have hF := HF.out.trans ((if_neg h1).trans ((if_neg h2).trans (if_neg h3)))
        subst hF
        clear HF
        go_enter Tryd.func103, Tryd.ntmps103
        go_wp2_with fail
        try go_at_call 94
        have BK2 := Aside0.mk (heap_alloc_new w (.cells #[.int .i64 a, .int .i64 b, .int .i64 c, .int .i64 d] 58 (0, 0)))
        have HB2 := Aside0.mk (below_alloc (Below.refl w.heap.size w) (.cells #[.int .i64 a, .int .i64 b, .int .i64 c, .int .i64 d] 58 (0, 0)))
        have hez : (w.alloc (.cells #[.int .i64 a, .int .i64 b, .int .i64 c, .int .i64 d] 58 (0, 0))).heap.size = w.heap.size + 1 := Array.size_push _
        have HCL := lwordB.calls pb base l sumW (w.alloc (.cells #[.int .i64 a, .int .i64 b, .int .i64 c, .int .i64 d] 58 (0, 0))) (HLA.out.below HB2.out) hs (Nat.le_trans HSZ.out HB2.out.size) (by omega)
        rw [hez] at HCL
        have hgp : w.heap.size ≠ pb := by have := HSZ.out; omega
        refine HCL.mono ?_
        rintro e w3 ⟨rfl, h1', h2', h3'⟩
        have HLA3 := Aside0.mk h1'
        have HKP3 := Aside0.mk ((KpL.of_below HB2.out).trans h2')
        have HBB3 := Aside0.mk ((HB2.out.mono (by have := HSZ.out; omega)).trans h3')
        have HSZ3 : Aside0 (base ≤ w3.heap.size) := ⟨Nat.le_trans (Nat.le_trans HSZ.out HB2.out.size) h3'.size⟩
        clear h1' h2' h3' hgp BK2 HB2 HLA HSZ HCL hez
        go_wp2_with fail
        go_end0
        exact ⟨rfl, HLA3.out, HKP3.out, HBB3.out⟩
/-! The words of an event. -/
theorem C62_low {w w1 : World} {A : Option Addr} {n pb : Nat} {l : List S62} (h : Kd.C k62 w A n l) (hb : Below pb w w1) (hf : ∀ ad, A = some ad → 0 < n → ad.block < pb) : Kd.C k62 w1 A n l := by
  have hc : Ch (fun k => pb ≤ k) w w1 := ⟨hb.os, hb.tape, hb.output, hb.size, fun k _ hn => hb.block k (by omega)⟩
  refine ⟨h.1, h.2.1, fun hp => ?_⟩
  obtain ⟨ad, e, f⟩ := h.2.2 hp
  refine ⟨ad, e, fun j p hj => ?_⟩
  obtain ⟨c, h1, h2, h3⟩ := f j p hj
  have := k62_open h2
  subst this
  exact ⟨_, h1, k62_mk _ _, fun i u hu => hc.cell (h3 i u hu) (by rw [addT_block]; have := hf ad e hp; omega)⟩
def kw (k : Int) : ByteArray := wordsL.getD (k - 1).toNat ⟨#[]⟩
def bsT (bs : List S62) : List ByteArray := bs.flatMap fun b => [decS b.f0, decS b.f1]
def restT (e : Ev) : List ByteArray := if e.f0 = 1 then [decS e.f1, decS e.f2] ++ opT e.g else if e.f0 = 2 ∨ e.f0 = 3 ∨ e.f0 = 4 then [decS e.f2] else if e.f0 = 10 then [decS e.f1, decS e.f2] else if e.f0 = 7 then [decS e.f1, decS e.v] ++ bsT e.bs else [decS e.f1]
theorem bsT_len : ∀ bs : List S62, (bsT bs).length = 2 * bs.length
  | [] => rfl
  | x :: t => by
    have e : bsT (x :: t) = decS x.f0 :: decS x.f1 :: bsT t := rfl
    rw [e, List.length_cons, List.length_cons, bsT_len t, List.length_cons]; omega
theorem words_len : wordsL.length = 10 := by decide +kernel
set_option maxHeartbeats 4000000 in
set_option maxRecDepth 100000 in
theorem levent.calls (pb base : Nat) (l : List ByteArray) (e : Ev) (A : Option Addr) (c : Nat) (w : World) (h : LineAt w pb base l) (ht : Tab w) (hp0 : 0 < pb) (hs : pb < base) (hb : base ≤ w.heap.size) (hk0 : 1 ≤ e.f0) (hk1 : e.f0 ≤ 10) (h64 : In64 [e.f1, e.f2, e.v]) (h64g : In64 [e.g.f1, e.g.f2, e.g.f3, -e.g.f3]) (h64b : ∀ b ∈ e.bs, In64 [b.f0, b.f1]) (hr : Kd.C k62 w A e.bs.length e.bs) (hc : e.bs.length ≤ c) (hlow : ∀ ad, A = some ad → 0 < e.bs.length → ad.block < pb) (hbl : e.bs.length ≤ 4096) (hl : l.length ≤ 1000) : Calls Tryd.prog 60 #[.pointer (some ⟨pb, 0, none⟩), evV e A c] w fun r w' => r = .returned (.tuple #[]) ∧ LineAt w' pb base (l ++ (kw e.f0 :: restT e)) ∧ KpL pb w w' ∧ Below pb w w' := by
  obtain ⟨k, f1, f2, ⟨ga, gb, gd, gm⟩, vv, bs⟩ := e
  obtain ⟨F, hF⟩ : ∃ F, F = restT ⟨k, f1, f2, ⟨ga, gb, gd, gm⟩, vv, bs⟩ := ⟨_, rfl⟩
  rw [← hF]
  have HF := Aside0.mk hF
  have H64 : Aside0 (In64 [f1, f2, vv]) := ⟨h64⟩
  have H64G : Aside0 (In64 [gb, gd, gm, -gm]) := ⟨h64g⟩
  have H64B : Aside0 (∀ b ∈ bs, In64 [b.f0, b.f1]) := ⟨h64b⟩
  have HR : Aside0 (Kd.C k62 w A bs.length bs) := ⟨hr⟩
  have HC : Aside0 (bs.length ≤ c) := ⟨hc⟩
  have HLOW : Aside0 (∀ ad, A = some ad → 0 < bs.length → ad.block < pb) := ⟨hlow⟩
  have HBL : Aside0 (bs.length ≤ 4096) := ⟨hbl⟩
  have HLA := Aside0.mk h
  have HSZ := Aside0.mk hb
  have HTAB := Aside0.mk ht
  have hk0' : 1 ≤ k := hk0
  have hk1' : k ≤ 10 := hk1
  obtain ⟨j, hj⟩ : ∃ j : Nat, k - 1 = (j : Int) := ⟨(k - 1).toNat, by omega⟩
  have hj9 : j ≤ 9 := by omega
  have hwr : IntKind.i64.wrap (k - 1) = (j : Int) := by rw [IntKind.wrap_i64]; omega
  have hwr1 : wrap64 (k - 1) = (j : Int) := by unfold wrap64; omega
  have hwr2 : IntKind.i64.wrap (j : Int) = (j : Int) := by rw [IntKind.wrap_i64]; omega
  have HKW : Aside0 (wordsL[j]? = some (kw k)) := ⟨by
    unfold kw
    rw [hj, Int.toNat_natCast, List.getD_eq_getElem?_getD]
    rw [List.getElem?_eq_getElem (by rw [words_len]; omega)]; rfl⟩
  clear h64 h64g h64b hF h hb hr hc hlow hbl ht hk0 hk1
  have BK2 := Aside0.mk (heap_alloc_new w (.cells #[.int .i64 k, .int .i64 f1, .int .i64 f2, .int .i64 ga, .int .i64 gb, .int .i64 gd, .int .i64 gm, .int .i64 vv, .slice A bs.length c] 60 (0, 0)))
  have HB2 := Aside0.mk (below_alloc (Below.refl w.heap.size w) (.cells #[.int .i64 k, .int .i64 f1, .int .i64 f2, .int .i64 ga, .int .i64 gb, .int .i64 gd, .int .i64 gm, .int .i64 vv, .slice A bs.length c] 60 (0, 0)))
  show Calls Tryd.prog 60 #[.pointer (some ⟨pb, 0, none⟩), .agg #[.int .i64 k, .int .i64 f1, .int .i64 f2, .int .i64 ga, .int .i64 gb, .int .i64 gd, .int .i64 gm, .int .i64 vv, .slice A bs.length c]] w _
  go_enter Tryd.func60, Tryd.ntmps60
  go_wp2_with fail
  generalize w.alloc (.cells #[.int .i64 k, .int .i64 f1, .int .i64 f2, .int .i64 ga, .int .i64 gb, .int .i64 gd, .int .i64 gm, .int .i64 vv, .slice A bs.length c] 60 (0, 0)) = w2 at BK2 HB2 ⊢
  obtain ⟨g, hg⟩ : ∃ g, g = w.heap.size := ⟨_, rfl⟩
  rw [← hg] at BK2 ⊢
  have HGP : Aside0 (g ≠ pb ∧ pb < g) := ⟨by have := HSZ.out; omega⟩
  have z0 : w2.drew.cell? ⟨g, 0, none⟩ = some (.int .i64 k) := zcell BK2.out 0 _ rfl
  clear hg
  refine wp_region_held_drew (S := fun W : World => W.cell? ⟨g, 0, none⟩ = some (.int .i64 k)) (by kernel_rfl) (by exact z0) (fun hHeld => ?_)
  refine wpAnyH_take (i := 0) (v := ?v0) rfl (by kernel_rfl) (by kernel_rfl) (by kernel_rfl) (fun _ _ _ h => h) (Or.inl ⟨by rfl, ?h0⟩) (by assumption) ?r0
  case h0 => (intro w hSw; (try dsimp only at hSw); go_simp; (first | done | with_reducible rfl | rw [hwr2] | rw [hwr1]))
  case r0 =>
  (try simp only [Act.put, List.setIfInBounds_toArray, List.set_cons_zero, List.set_cons_succ])
  refine wpAnyH_take (i := 2) (v := ?v2) rfl (by kernel_rfl) (by kernel_rfl) (by kernel_rfl) (fun _ _ _ h => h) (Or.inl ⟨by rfl, ?h2⟩) (by assumption) ?r2
  case h2 => (intro w hSw; (try dsimp only at hSw); go_simp; (first | done | with_reducible rfl | rw [hwr2] | rw [hwr1]))
  case r2 =>
  (try simp only [Act.put, List.setIfInBounds_toArray, List.set_cons_zero, List.set_cons_succ])
  refine wpAnyH_take (i := 3) (v := ?v3) rfl (by kernel_rfl) (by kernel_rfl) (by kernel_rfl) (fun _ _ _ h => h) (Or.inl ⟨by rfl, ?h3⟩) (by assumption) ?r3
  case h3 => (intro w hSw; (try dsimp only at hSw); go_simp; (first | done | with_reducible rfl | rw [hwr2] | rw [hwr1]))
  case r3 =>
  (try simp only [Act.put, List.setIfInBounds_toArray, List.set_cons_zero, List.set_cons_succ])
  refine wpAnyH_take (i := 4) (v := .int .i64 (j : Int)) rfl (by kernel_rfl) (by kernel_rfl) (by kernel_rfl) (fun _ _ _ h => h) (Or.inl ⟨by rfl, ?h4⟩) (by assumption) ?r4
  case h4 => (intro w hSw; (try dsimp only at hSw); go_simp; (first | done | with_reducible rfl | rw [hwr2] | rw [hwr1]))
  case r4 =>
  (try simp only [Act.put, List.setIfInBounds_toArray, List.set_cons_zero, List.set_cons_succ])
  refine wpAnyH_ready (rs := [1]) (by kernel_rfl) (by simp) ?_
  refine AllReadyH.cons rfl (fun K hK => ?_) (AllReadyH.nil)
  go_simp
  go_wp2_with fail
  try go_at_call 65
  have HTD : Aside0 (Tab w2.drew) := ⟨(HTAB.out.below HB2.out).below (below_drew1 (Below.refl _ _))⟩
  have HBD : Aside0 (Below w.heap.size w w2.drew) := ⟨below_drew HB2.out⟩
  have hz2 : pb < w2.drew.heap.size := by have := HB2.out.size; have := HSZ.out; show pb < w2.heap.size; omega
  have hBK3 : w2.drew.heap[g]? = some (.cells #[.int .i64 k, .int .i64 f1, .int .i64 f2, .int .i64 ga, .int .i64 gb, .int .i64 gd, .int .i64 gm, .int .i64 vv, .slice A bs.length c] 60 (0, 0)) := BK2.out
  have HLAD : Aside0 (LineAt w2.drew pb base l) := ⟨HLA.out.below HBD.out⟩
  generalize w2.drew = w3 at *
  refine (words.calls w3 HTD.out).mono ?_
  rintro e w4 ⟨rfl, rfl⟩
  have hb4 := below_alloc (Below.refl w3.heap.size w3) (.cells (wordsL.map Value.string).toArray 9)
  have HW4 := Aside0.mk (heap_alloc_new w3 (.cells (wordsL.map Value.string).toArray 9))
  have HB4 := Aside0.mk (below_b HBD.out hb4 HBD.out.size)
  have HLA4 := Aside0.mk (HLAD.out.below hb4)
  have BK4 := Aside0.mk ((Ch.of_below hb4 (fun _ => False)).heap hBK3 (fun h => h))
  obtain ⟨q, hq⟩ : ∃ q, q = w3.heap.size := ⟨_, rfl⟩
  rw [← hq] at HW4 ⊢
  generalize w3.alloc (.cells (wordsL.map Value.string).toArray 9) = w4 at HW4 HB4 HLA4 BK4 ⊢
  have hx : w4.cell? ⟨q, j, none⟩ = some (.string (kw k)) := zcell HW4.out j _ (by have := HKW.out; simp [this])
  have hz0 : w4.cell? ⟨g, 0, none⟩ = some (.int .i64 k) := zcell BK4.out 0 _ rfl
  clear hb4 HTD HBD HLAD hBK3 HTAB HB2 BK2 z0 hq
  refine hK.out _ _ ?s20 (fun hHeld2 => ?t20)
  case s20 => ((try dsimp only); exact hz0)
  case t20 =>
  clear hK K hHeld
  have hHeld := hHeld2
  clear hHeld2
  (try simp only [Act.put, List.setIfInBounds_toArray, List.set_cons_zero, List.set_cons_succ])
  have hr0 : (0 : Int) ≤ (j : Int) := by omega
  have hr10 : (j : Int) < 10 := by omega
  refine wpAnyH_take (i := 5) (v := ?v5) rfl (by kernel_rfl) (by kernel_rfl) (by kernel_rfl) (fun _ _ _ h => h) (Or.inl ⟨by rfl, ?h5⟩) (by assumption) ?r5
  case h5 => (intro w hSw; (try dsimp only at hSw); go_simp; (first | done | with_reducible rfl | rw [hwr2] | rw [hwr1]))
  case r5 =>
  (try simp only [Act.put, List.setIfInBounds_toArray, List.set_cons_zero, List.set_cons_succ])
  refine wpAnyH_ready (rs := [6]) (by kernel_rfl) (by simp) ?_
  refine AllReadyH.cons rfl (fun K hK => ?_) (AllReadyH.nil)
  go_simp
  refine hK.out _ _ ?s6 (fun hHeld2 => ?t6)
  case s6 => ((try dsimp only); exact hz0)
  case t6 =>
  clear hK K hHeld
  have hHeld := hHeld2
  clear hHeld2
  (try simp only [Act.put, List.setIfInBounds_toArray, List.set_cons_zero, List.set_cons_succ])
  have hz1 : (w4.alloc (.cells #[.string (kw k)] 9 (0, 0))).cell? ⟨g, 0, none⟩ = some (.int .i64 k) := cell_step (below_alloc (Below.refl _ _) _) hz0
  refine wpAnyH_ready (rs := [7]) (by kernel_rfl) (by simp) ?_
  refine AllReadyH.cons rfl (fun K hK => ?_) (AllReadyH.nil)
  go_simp
  refine hK.out _ _ ?s7 (fun hHeld2 => ?t7)
  case s7 => ((try dsimp only); exact hz1)
  case t7 =>
  clear hK K hHeld
  have hHeld := hHeld2
  clear hHeld2
  (try simp only [Act.put, List.setIfInBounds_toArray, List.set_cons_zero, List.set_cons_succ])
  refine wpAnyH_ready (rs := [8]) (by kernel_rfl) (by simp) ?_
  refine AllReadyH.cons rfl (fun K hK => ?_) (AllReadyH.nil)
  go_simp
  go_wp2_with fail
  try go_at_call 94
  refine (lwordB.calls pb base l (kw k) w4 HLA4.out hs (by have := HB4.out.size; have := HSZ.out; omega) (by omega)).mono ?_
  rintro e w5 ⟨rfl, h1', h2', h3'⟩
  have HLA5 := Aside0.mk h1'
  have HKP5 := Aside0.mk ((KpL.of_below HB4.out).trans h2')
  have HBB5 := Aside0.mk ((HB4.out.mono (by have := HSZ.out; omega)).trans h3')
  have BK5 := Aside0.mk (h2'.keep _ _ _ BK4.out HGP.out.1 (by decide))
  have HSZ5 : Aside0 (base ≤ w5.heap.size) := ⟨by have := h3'.size; have := HB4.out.size; have := HSZ.out; omega⟩
  have hz5 : w5.cell? ⟨g, 0, none⟩ = some (.int .i64 k) := zcell BK5.out 0 _ rfl
  clear h1' h2' h3' HLA4 HB4 BK4 HW4 hx hz0 hz1 HLA HSZ
  refine hK.out _ _ ?s8 (fun hHeld2 => ?t8)
  case s8 => ((try dsimp only); exact hz5)
  case t8 =>
  clear hK K hHeld
  have hHeld := hHeld2
  clear hHeld2
  (try simp only [Act.put, List.setIfInBounds_toArray, List.set_cons_zero, List.set_cons_succ])
  refine wpAnyH_done (by kernel_rfl) ?_ _
  have HR5 : Aside0 (Kd.C k62 w5 A bs.length bs) := ⟨C62_low HR.out HBB5.out HLOW.out⟩
  clear HR hHeld hwr hwr1 hwr2 hj HKW hr0 hr10
  have hx0 : w5.cell? ⟨g, 0, none⟩ = some (.int .i64 k) := zcell BK5.out 0 _ rfl
  have hx1 : w5.cell? ⟨g, 1, none⟩ = some (.int .i64 f1) := zcell BK5.out 1 _ rfl
  have hx2 : w5.cell? ⟨g, 2, none⟩ = some (.int .i64 f2) := zcell BK5.out 2 _ rfl
  have hx3 : w5.cell? ⟨g, 3, none⟩ = some (.int .i64 ga) := zcell BK5.out 3 _ rfl
  have hx4 : w5.cell? ⟨g, 4, none⟩ = some (.int .i64 gb) := zcell BK5.out 4 _ rfl
  have hx5 : w5.cell? ⟨g, 5, none⟩ = some (.int .i64 gd) := zcell BK5.out 5 _ rfl
  have hx6 : w5.cell? ⟨g, 6, none⟩ = some (.int .i64 gm) := zcell BK5.out 6 _ rfl
  have hx7 : w5.cell? ⟨g, 7, none⟩ = some (.int .i64 vv) := zcell BK5.out 7 _ rfl
  have hx8 : w5.cell? ⟨g, 8, none⟩ = some (.slice A bs.length c) := zcell BK5.out 8 _ rfl

  clear hx0 hx1 hx2 hx3 hx4 hx5 hx6 hx7 hx8 hz5
  obtain rfl | rfl | rfl | rfl | rfl | rfl | rfl | rfl | rfl | rfl : k = 1 ∨ k = 2 ∨ k = 3 ∨ k = 4 ∨ k = 5 ∨ k = 6 ∨ k = 7 ∨ k = 8 ∨ k = 9 ∨ k = 10 := by omega
  · have hF := HF.out
    clear HF
    have hx0 : w5.cell? ⟨g, 0, none⟩ = some (.int .i64 1) := zcell BK5.out 0 _ rfl
    have hx1 : w5.cell? ⟨g, 1, none⟩ = some (.int .i64 f1) := zcell BK5.out 1 _ rfl
    have hx2 : w5.cell? ⟨g, 2, none⟩ = some (.int .i64 f2) := zcell BK5.out 2 _ rfl
    have hx3 : w5.cell? ⟨g, 3, none⟩ = some (.int .i64 ga) := zcell BK5.out 3 _ rfl
    have hx4 : w5.cell? ⟨g, 4, none⟩ = some (.int .i64 gb) := zcell BK5.out 4 _ rfl
    have hx5 : w5.cell? ⟨g, 5, none⟩ = some (.int .i64 gd) := zcell BK5.out 5 _ rfl
    have hx6 : w5.cell? ⟨g, 6, none⟩ = some (.int .i64 gm) := zcell BK5.out 6 _ rfl
    have hx7 : w5.cell? ⟨g, 7, none⟩ = some (.int .i64 vv) := zcell BK5.out 7 _ rfl
    have hx8 : w5.cell? ⟨g, 8, none⟩ = some (.slice A bs.length c) := zcell BK5.out 8 _ rfl
    go_wp2_with fail
    try go_at_call 57
    refine (lnumsB.calls pb base _ [f1, f2] 2 w5 HLA5.out hs HSZ5.out (fun y hy => H64.out y (by revert hy; simp only [List.mem_cons, List.not_mem_nil, or_false]; omega)) rfl (by simp; omega)).mono ?_
    rintro e w6 ⟨rfl, h1', h2', h3'⟩
    have HLA6 := Aside0.mk h1'
    have HKP6 := Aside0.mk (HKP5.out.trans h2')
    have HBB6 := Aside0.mk (HBB5.out.trans h3')
    have HSZ6 : Aside0 (base ≤ w6.heap.size) := ⟨Nat.le_trans HSZ5.out h3'.size⟩
    have BK6 := Aside0.mk (h2'.keep _ _ _ BK5.out HGP.out.1 (by decide))
    have HR6 : Aside0 (Kd.C k62 w6 A bs.length bs) := ⟨C62_low HR5.out h3' HLOW.out⟩
    clear h1' h2' h3' HLA5 HKP5 HBB5 HSZ5 BK5 HR5 hx0 hx1 hx2 hx3 hx4 hx5 hx6 hx7 hx8
    have hx0 : w6.cell? ⟨g, 0, none⟩ = some (.int .i64 1) := zcell BK6.out 0 _ rfl
    have hx1 : w6.cell? ⟨g, 1, none⟩ = some (.int .i64 f1) := zcell BK6.out 1 _ rfl
    have hx2 : w6.cell? ⟨g, 2, none⟩ = some (.int .i64 f2) := zcell BK6.out 2 _ rfl
    have hx3 : w6.cell? ⟨g, 3, none⟩ = some (.int .i64 ga) := zcell BK6.out 3 _ rfl
    have hx4 : w6.cell? ⟨g, 4, none⟩ = some (.int .i64 gb) := zcell BK6.out 4 _ rfl
    have hx5 : w6.cell? ⟨g, 5, none⟩ = some (.int .i64 gd) := zcell BK6.out 5 _ rfl
    have hx6 : w6.cell? ⟨g, 6, none⟩ = some (.int .i64 gm) := zcell BK6.out 6 _ rfl
    have hx7 : w6.cell? ⟨g, 7, none⟩ = some (.int .i64 vv) := zcell BK6.out 7 _ rfl
    have hx8 : w6.cell? ⟨g, 8, none⟩ = some (.slice A bs.length c) := zcell BK6.out 8 _ rfl
    go_wp2_with ((with_reducible refine gate_dst (N := 33) rfl ?_); refine load_mid_w ?hw 58 _ rfl g 3 rfl [.int .i64 ga, .int .i64 gb, .int .i64 gd, .int .i64 gm] _ (range_of BK6.out (by rfl)) Tryd.underlying58 rfl (by kernel_rfl) ?_; (case hw => first | rfl | (go_simp; done) | (go_simp; rfl)))
    try go_at_call 103
    refine (lop.calls pb base _ ⟨ga, gb, gd, gm⟩ w6 HLA6.out hs HSZ6.out H64G.out (by simp; omega)).mono ?_
    rintro e w7 ⟨rfl, h1', h2', h3'⟩
    have HLA7 := Aside0.mk h1'
    have HKP7 := Aside0.mk (HKP6.out.trans h2')
    have HBB7 := Aside0.mk (HBB6.out.trans h3')
    clear h1' h2' h3' HLA6 HKP6 HBB6 HSZ6 BK6 HR6 hx0 hx1 hx2 hx3 hx4 hx5 hx6 hx7 hx8
    go_wp2_with fail
    go_end0
    refine ⟨rfl, ?_, HKP7.out, HBB7.out⟩
    have := HLA7.out
    rw [hF]
    simpa [restT] using this
  · have hF := HF.out
    clear HF
    have hx0 : w5.cell? ⟨g, 0, none⟩ = some (.int .i64 2) := zcell BK5.out 0 _ rfl
    have hx1 : w5.cell? ⟨g, 1, none⟩ = some (.int .i64 f1) := zcell BK5.out 1 _ rfl
    have hx2 : w5.cell? ⟨g, 2, none⟩ = some (.int .i64 f2) := zcell BK5.out 2 _ rfl
    have hx3 : w5.cell? ⟨g, 3, none⟩ = some (.int .i64 ga) := zcell BK5.out 3 _ rfl
    have hx4 : w5.cell? ⟨g, 4, none⟩ = some (.int .i64 gb) := zcell BK5.out 4 _ rfl
    have hx5 : w5.cell? ⟨g, 5, none⟩ = some (.int .i64 gd) := zcell BK5.out 5 _ rfl
    have hx6 : w5.cell? ⟨g, 6, none⟩ = some (.int .i64 gm) := zcell BK5.out 6 _ rfl
    have hx7 : w5.cell? ⟨g, 7, none⟩ = some (.int .i64 vv) := zcell BK5.out 7 _ rfl
    have hx8 : w5.cell? ⟨g, 8, none⟩ = some (.slice A bs.length c) := zcell BK5.out 8 _ rfl
    go_wp2_with fail
    try go_at_call 57
    refine (lnumsB.calls pb base _ [f2] 1 w5 HLA5.out hs HSZ5.out (fun y hy => H64.out y (by revert hy; simp only [List.mem_cons, List.not_mem_nil, or_false]; omega)) rfl (by simp; omega)).mono ?_
    rintro e w6 ⟨rfl, h1', h2', h3'⟩
    have HLA6 := Aside0.mk h1'
    have HKP6 := Aside0.mk (HKP5.out.trans h2')
    have HBB6 := Aside0.mk (HBB5.out.trans h3')
    have HSZ6 : Aside0 (base ≤ w6.heap.size) := ⟨Nat.le_trans HSZ5.out h3'.size⟩
    have BK6 := Aside0.mk (h2'.keep _ _ _ BK5.out HGP.out.1 (by decide))
    have HR6 : Aside0 (Kd.C k62 w6 A bs.length bs) := ⟨C62_low HR5.out h3' HLOW.out⟩
    clear h1' h2' h3' HLA5 HKP5 HBB5 HSZ5 BK5 HR5 hx0 hx1 hx2 hx3 hx4 hx5 hx6 hx7 hx8
    go_wp2_with fail
    go_end0
    refine ⟨rfl, ?_, HKP6.out, HBB6.out⟩
    have := HLA6.out
    rw [hF]
    simpa [restT] using this
  · have hF := HF.out
    clear HF
    have hx0 : w5.cell? ⟨g, 0, none⟩ = some (.int .i64 3) := zcell BK5.out 0 _ rfl
    have hx1 : w5.cell? ⟨g, 1, none⟩ = some (.int .i64 f1) := zcell BK5.out 1 _ rfl
    have hx2 : w5.cell? ⟨g, 2, none⟩ = some (.int .i64 f2) := zcell BK5.out 2 _ rfl
    have hx3 : w5.cell? ⟨g, 3, none⟩ = some (.int .i64 ga) := zcell BK5.out 3 _ rfl
    have hx4 : w5.cell? ⟨g, 4, none⟩ = some (.int .i64 gb) := zcell BK5.out 4 _ rfl
    have hx5 : w5.cell? ⟨g, 5, none⟩ = some (.int .i64 gd) := zcell BK5.out 5 _ rfl
    have hx6 : w5.cell? ⟨g, 6, none⟩ = some (.int .i64 gm) := zcell BK5.out 6 _ rfl
    have hx7 : w5.cell? ⟨g, 7, none⟩ = some (.int .i64 vv) := zcell BK5.out 7 _ rfl
    have hx8 : w5.cell? ⟨g, 8, none⟩ = some (.slice A bs.length c) := zcell BK5.out 8 _ rfl
    go_wp2_with fail
    try go_at_call 57
    refine (lnumsB.calls pb base _ [f2] 1 w5 HLA5.out hs HSZ5.out (fun y hy => H64.out y (by revert hy; simp only [List.mem_cons, List.not_mem_nil, or_false]; omega)) rfl (by simp; omega)).mono ?_
    rintro e w6 ⟨rfl, h1', h2', h3'⟩
    have HLA6 := Aside0.mk h1'
    have HKP6 := Aside0.mk (HKP5.out.trans h2')
    have HBB6 := Aside0.mk (HBB5.out.trans h3')
    have HSZ6 : Aside0 (base ≤ w6.heap.size) := ⟨Nat.le_trans HSZ5.out h3'.size⟩
    have BK6 := Aside0.mk (h2'.keep _ _ _ BK5.out HGP.out.1 (by decide))
    have HR6 : Aside0 (Kd.C k62 w6 A bs.length bs) := ⟨C62_low HR5.out h3' HLOW.out⟩
    clear h1' h2' h3' HLA5 HKP5 HBB5 HSZ5 BK5 HR5 hx0 hx1 hx2 hx3 hx4 hx5 hx6 hx7 hx8
    go_wp2_with fail
    go_end0
    refine ⟨rfl, ?_, HKP6.out, HBB6.out⟩
    have := HLA6.out
    rw [hF]
    simpa [restT] using this
  · have hF := HF.out
    clear HF
    have hx0 : w5.cell? ⟨g, 0, none⟩ = some (.int .i64 4) := zcell BK5.out 0 _ rfl
    have hx1 : w5.cell? ⟨g, 1, none⟩ = some (.int .i64 f1) := zcell BK5.out 1 _ rfl
    have hx2 : w5.cell? ⟨g, 2, none⟩ = some (.int .i64 f2) := zcell BK5.out 2 _ rfl
    have hx3 : w5.cell? ⟨g, 3, none⟩ = some (.int .i64 ga) := zcell BK5.out 3 _ rfl
    have hx4 : w5.cell? ⟨g, 4, none⟩ = some (.int .i64 gb) := zcell BK5.out 4 _ rfl
    have hx5 : w5.cell? ⟨g, 5, none⟩ = some (.int .i64 gd) := zcell BK5.out 5 _ rfl
    have hx6 : w5.cell? ⟨g, 6, none⟩ = some (.int .i64 gm) := zcell BK5.out 6 _ rfl
    have hx7 : w5.cell? ⟨g, 7, none⟩ = some (.int .i64 vv) := zcell BK5.out 7 _ rfl
    have hx8 : w5.cell? ⟨g, 8, none⟩ = some (.slice A bs.length c) := zcell BK5.out 8 _ rfl
    go_wp2_with fail
    try go_at_call 57
    refine (lnumsB.calls pb base _ [f2] 1 w5 HLA5.out hs HSZ5.out (fun y hy => H64.out y (by revert hy; simp only [List.mem_cons, List.not_mem_nil, or_false]; omega)) rfl (by simp; omega)).mono ?_
    rintro e w6 ⟨rfl, h1', h2', h3'⟩
    have HLA6 := Aside0.mk h1'
    have HKP6 := Aside0.mk (HKP5.out.trans h2')
    have HBB6 := Aside0.mk (HBB5.out.trans h3')
    have HSZ6 : Aside0 (base ≤ w6.heap.size) := ⟨Nat.le_trans HSZ5.out h3'.size⟩
    have BK6 := Aside0.mk (h2'.keep _ _ _ BK5.out HGP.out.1 (by decide))
    have HR6 : Aside0 (Kd.C k62 w6 A bs.length bs) := ⟨C62_low HR5.out h3' HLOW.out⟩
    clear h1' h2' h3' HLA5 HKP5 HBB5 HSZ5 BK5 HR5 hx0 hx1 hx2 hx3 hx4 hx5 hx6 hx7 hx8
    go_wp2_with fail
    go_end0
    refine ⟨rfl, ?_, HKP6.out, HBB6.out⟩
    have := HLA6.out
    rw [hF]
    simpa [restT] using this
  · have hF := HF.out
    clear HF
    have hx0 : w5.cell? ⟨g, 0, none⟩ = some (.int .i64 5) := zcell BK5.out 0 _ rfl
    have hx1 : w5.cell? ⟨g, 1, none⟩ = some (.int .i64 f1) := zcell BK5.out 1 _ rfl
    have hx2 : w5.cell? ⟨g, 2, none⟩ = some (.int .i64 f2) := zcell BK5.out 2 _ rfl
    have hx3 : w5.cell? ⟨g, 3, none⟩ = some (.int .i64 ga) := zcell BK5.out 3 _ rfl
    have hx4 : w5.cell? ⟨g, 4, none⟩ = some (.int .i64 gb) := zcell BK5.out 4 _ rfl
    have hx5 : w5.cell? ⟨g, 5, none⟩ = some (.int .i64 gd) := zcell BK5.out 5 _ rfl
    have hx6 : w5.cell? ⟨g, 6, none⟩ = some (.int .i64 gm) := zcell BK5.out 6 _ rfl
    have hx7 : w5.cell? ⟨g, 7, none⟩ = some (.int .i64 vv) := zcell BK5.out 7 _ rfl
    have hx8 : w5.cell? ⟨g, 8, none⟩ = some (.slice A bs.length c) := zcell BK5.out 8 _ rfl
    go_wp2_with fail
    try go_at_call 57
    refine (lnumsB.calls pb base _ [f1] 1 w5 HLA5.out hs HSZ5.out (fun y hy => H64.out y (by revert hy; simp only [List.mem_cons, List.not_mem_nil, or_false]; omega)) rfl (by simp; omega)).mono ?_
    rintro e w6 ⟨rfl, h1', h2', h3'⟩
    have HLA6 := Aside0.mk h1'
    have HKP6 := Aside0.mk (HKP5.out.trans h2')
    have HBB6 := Aside0.mk (HBB5.out.trans h3')
    have HSZ6 : Aside0 (base ≤ w6.heap.size) := ⟨Nat.le_trans HSZ5.out h3'.size⟩
    have BK6 := Aside0.mk (h2'.keep _ _ _ BK5.out HGP.out.1 (by decide))
    have HR6 : Aside0 (Kd.C k62 w6 A bs.length bs) := ⟨C62_low HR5.out h3' HLOW.out⟩
    clear h1' h2' h3' HLA5 HKP5 HBB5 HSZ5 BK5 HR5 hx0 hx1 hx2 hx3 hx4 hx5 hx6 hx7 hx8
    go_wp2_with fail
    go_end0
    refine ⟨rfl, ?_, HKP6.out, HBB6.out⟩
    have := HLA6.out
    rw [hF]
    simpa [restT] using this
  · have hF := HF.out
    clear HF
    have hx0 : w5.cell? ⟨g, 0, none⟩ = some (.int .i64 6) := zcell BK5.out 0 _ rfl
    have hx1 : w5.cell? ⟨g, 1, none⟩ = some (.int .i64 f1) := zcell BK5.out 1 _ rfl
    have hx2 : w5.cell? ⟨g, 2, none⟩ = some (.int .i64 f2) := zcell BK5.out 2 _ rfl
    have hx3 : w5.cell? ⟨g, 3, none⟩ = some (.int .i64 ga) := zcell BK5.out 3 _ rfl
    have hx4 : w5.cell? ⟨g, 4, none⟩ = some (.int .i64 gb) := zcell BK5.out 4 _ rfl
    have hx5 : w5.cell? ⟨g, 5, none⟩ = some (.int .i64 gd) := zcell BK5.out 5 _ rfl
    have hx6 : w5.cell? ⟨g, 6, none⟩ = some (.int .i64 gm) := zcell BK5.out 6 _ rfl
    have hx7 : w5.cell? ⟨g, 7, none⟩ = some (.int .i64 vv) := zcell BK5.out 7 _ rfl
    have hx8 : w5.cell? ⟨g, 8, none⟩ = some (.slice A bs.length c) := zcell BK5.out 8 _ rfl
    go_wp2_with fail
    try go_at_call 57
    refine (lnumsB.calls pb base _ [f1] 1 w5 HLA5.out hs HSZ5.out (fun y hy => H64.out y (by revert hy; simp only [List.mem_cons, List.not_mem_nil, or_false]; omega)) rfl (by simp; omega)).mono ?_
    rintro e w6 ⟨rfl, h1', h2', h3'⟩
    have HLA6 := Aside0.mk h1'
    have HKP6 := Aside0.mk (HKP5.out.trans h2')
    have HBB6 := Aside0.mk (HBB5.out.trans h3')
    have HSZ6 : Aside0 (base ≤ w6.heap.size) := ⟨Nat.le_trans HSZ5.out h3'.size⟩
    have BK6 := Aside0.mk (h2'.keep _ _ _ BK5.out HGP.out.1 (by decide))
    have HR6 : Aside0 (Kd.C k62 w6 A bs.length bs) := ⟨C62_low HR5.out h3' HLOW.out⟩
    clear h1' h2' h3' HLA5 HKP5 HBB5 HSZ5 BK5 HR5 hx0 hx1 hx2 hx3 hx4 hx5 hx6 hx7 hx8
    go_wp2_with fail
    go_end0
    refine ⟨rfl, ?_, HKP6.out, HBB6.out⟩
    have := HLA6.out
    rw [hF]
    simpa [restT] using this
  · have hF := HF.out
    clear HF
    have hx0 : w5.cell? ⟨g, 0, none⟩ = some (.int .i64 7) := zcell BK5.out 0 _ rfl
    have hx1 : w5.cell? ⟨g, 1, none⟩ = some (.int .i64 f1) := zcell BK5.out 1 _ rfl
    have hx2 : w5.cell? ⟨g, 2, none⟩ = some (.int .i64 f2) := zcell BK5.out 2 _ rfl
    have hx3 : w5.cell? ⟨g, 3, none⟩ = some (.int .i64 ga) := zcell BK5.out 3 _ rfl
    have hx4 : w5.cell? ⟨g, 4, none⟩ = some (.int .i64 gb) := zcell BK5.out 4 _ rfl
    have hx5 : w5.cell? ⟨g, 5, none⟩ = some (.int .i64 gd) := zcell BK5.out 5 _ rfl
    have hx6 : w5.cell? ⟨g, 6, none⟩ = some (.int .i64 gm) := zcell BK5.out 6 _ rfl
    have hx7 : w5.cell? ⟨g, 7, none⟩ = some (.int .i64 vv) := zcell BK5.out 7 _ rfl
    have hx8 : w5.cell? ⟨g, 8, none⟩ = some (.slice A bs.length c) := zcell BK5.out 8 _ rfl
    go_wp2_with fail
    try go_at_call 57
    refine (lnumsB.calls pb base _ [f1, vv] 2 w5 HLA5.out hs HSZ5.out (fun y hy => H64.out y (by revert hy; simp only [List.mem_cons, List.not_mem_nil, or_false]; omega)) rfl (by simp; omega)).mono ?_
    rintro e w6 ⟨rfl, h1', h2', h3'⟩
    have HLA6 := Aside0.mk h1'
    have HKP6 := Aside0.mk (HKP5.out.trans h2')
    have HBB6 := Aside0.mk (HBB5.out.trans h3')
    have HSZ6 : Aside0 (base ≤ w6.heap.size) := ⟨Nat.le_trans HSZ5.out h3'.size⟩
    have BK6 := Aside0.mk (h2'.keep _ _ _ BK5.out HGP.out.1 (by decide))
    have HR6 : Aside0 (Kd.C k62 w6 A bs.length bs) := ⟨C62_low HR5.out h3' HLOW.out⟩
    clear h1' h2' h3' HLA5 HKP5 HBB5 HSZ5 BK5 HR5 hx0 hx1 hx2 hx3 hx4 hx5 hx6 hx7 hx8
    have hx0 : w6.cell? ⟨g, 0, none⟩ = some (.int .i64 7) := zcell BK6.out 0 _ rfl
    have hx1 : w6.cell? ⟨g, 1, none⟩ = some (.int .i64 f1) := zcell BK6.out 1 _ rfl
    have hx2 : w6.cell? ⟨g, 2, none⟩ = some (.int .i64 f2) := zcell BK6.out 2 _ rfl
    have hx3 : w6.cell? ⟨g, 3, none⟩ = some (.int .i64 ga) := zcell BK6.out 3 _ rfl
    have hx4 : w6.cell? ⟨g, 4, none⟩ = some (.int .i64 gb) := zcell BK6.out 4 _ rfl
    have hx5 : w6.cell? ⟨g, 5, none⟩ = some (.int .i64 gd) := zcell BK6.out 5 _ rfl
    have hx6 : w6.cell? ⟨g, 6, none⟩ = some (.int .i64 gm) := zcell BK6.out 6 _ rfl
    have hx7 : w6.cell? ⟨g, 7, none⟩ = some (.int .i64 vv) := zcell BK6.out 7 _ rfl
    have hx8 : w6.cell? ⟨g, 8, none⟩ = some (.slice A bs.length c) := zcell BK6.out 8 _ rfl
    go_wp2_with fail
    clear hx0 hx1 hx2 hx3 hx4 hx5 hx6 hx7 hx8
    have hn0 : bs.length ≤ 4096 := HBL.out
    go_loopw [5, 67] (fun v5 v67 W => ∃ i : Nat, i ≤ bs.length ∧ v67 = .int .i64 i ∧ Aside0 (LineAt W pb base (l ++ [kw 7] ++ [f1, vv].map decS ++ bsT (bs.take i))) ∧ Aside0 (KpL pb w W) ∧ Aside0 (Below pb w W) ∧ Aside0 (base ≤ W.heap.size) ∧ Aside0 (Kd.C k62 W A bs.length bs)) (fun _ v _ => bs.length - (intOf v).toNat)
    case atStart => exact ⟨0, by omega, rfl, ⟨by have := HLA6.out; simpa [bsT] using this⟩, HKP6, HBB6, HSZ6, HR6⟩
    case round =>
      clear HLA6 HKP6 HBB6 HSZ6 HR6 BK6
      obtain ⟨i, hi, rfl, HLA6, HKP6, HBB6, HSZ6, HR6⟩ := hrel
      by_cases hlt : i < bs.length
      · obtain ⟨ad, e1, hx0, hx1⟩ := at_T62 HR6.out ((i : Nat) : Int) (by omega) (by omega)
        have HADL : Aside0 (ad.block < pb) := ⟨HLOW.out ad e1 (by omega)⟩
        cases e1
        have HT : Aside0 (bsT (bs.take (i + 1)) = bsT (bs.take i) ++ [decS (rd_T62 bs ((i : Nat) : Int)).f0, decS (rd_T62 bs ((i : Nat) : Int)).f1]) := ⟨by
          unfold bsT rd_T62
          rw [List.take_succ_eq_append_getElem hlt, List.flatMap_append, Int.toNat_natCast, List.getD_eq_getElem?_getD, List.getElem?_eq_getElem hlt]
          simp⟩
        have HX64 : Aside0 (In64 [(rd_T62 bs ((i : Nat) : Int)).f0, (rd_T62 bs ((i : Nat) : Int)).f1]) := ⟨by
          unfold rd_T62
          rw [Int.toNat_natCast, List.getD_eq_getElem?_getD, List.getElem?_eq_getElem hlt]
          exact H64B.out _ (List.getElem_mem hlt)⟩
        have HTL : Aside0 ((bsT (bs.take i)).length ≤ 8192) := ⟨by
          rw [bsT_len]
          have := List.length_take_le i bs
          omega⟩
        simp only [Int.toNat_natCast] at hx0 hx1
        generalize rd_T62 bs ((i : Nat) : Int) = x at hx0 hx1 HT HX64
        go_wp2_with (first | ((with_reducible refine gate_dst (N := 5) rfl ?_); refine box_event ?hg (N := 5) ?hd (cs := #[.int .i64 0, .int .i64 0]) (t := 62) ?hr ?_; (case hd => rfl); (case hg => rfl); (case hr => first | (go_simp; done) | (go_simp; rfl)); intro gb' hg w7 hbox hb; have HB7 := Aside0.mk hb; have BK7 := Aside0.mk hbox; have HG7 := Aside0.mk hg; clear hb hbox hg) | ((with_reducible refine gate_store (p := 5) rfl ?_); refine store_all rfl rfl 62 _ _ rfl #[.int .i64 x.f0, .int .i64 x.f1] rfl rfl BK7.out rfl (by kernel_rfl) (by rfl) ?_; intro w8 h1 h2; have BK8 := Aside0.mk h1; have HC8 := Aside0.mk h2; have hy0 := zcell h1 0 _ rfl; have hy1 := zcell h1 1 _ rfl; clear h1 h2 hx0 hx1))
        try go_at_call 57
        have HB8 : Below wr.heap.size wr w8 := below_ch HB7.out HC8.out HB7.out.size (fun k h => by have := HG7.out; omega)
        refine (lnumsB.calls pb base _ [x.f0, x.f1] 2 w8 (HLA6.out.below HB8) hs (Nat.le_trans HSZ6.out HB8.size) HX64.out rfl (by have := HTL.out; simp; omega)).mono ?_
        rintro e w9 ⟨rfl, h1', h2', h3'⟩
        have HLA9 : Aside0 (LineAt w9 pb base (l ++ [kw 7] ++ [f1, vv].map decS ++ bsT (bs.take (i + 1)))) := ⟨by rw [HT.out, ← List.append_assoc]; exact h1'⟩
        have HKP9 := Aside0.mk ((HKP6.out.trans (KpL.of_below HB8)).trans h2')
        have hb8 : Below pb wr w9 := (HB8.mono (by have := HSZ6.out; omega)).trans h3'
        have HBB9 := Aside0.mk (HBB6.out.trans hb8)
        have HSZ9 : Aside0 (base ≤ w9.heap.size) := ⟨Nat.le_trans HSZ6.out hb8.size⟩
        have HR9 : Aside0 (Kd.C k62 w9 (some ad) bs.length bs) := ⟨C62_low HR6.out hb8 HLOW.out⟩
        clear h1' h2' h3' hb8 HB8 HB7 HC8 BK7 BK8 HLA6 HKP6 HBB6 HSZ6 HR6 HT HX64 hy0 hy1
        go_wp2_with fail
        refine ⟨⟨i + 1, by omega, by go_num, HLA9, HKP9, HBB9, HSZ9, HR9⟩, ?_⟩
        simp [intOf]; omega
      · obtain rfl : i = bs.length := by omega
        go_wp2_with fail
        go_end0
        refine ⟨rfl, ?_, HKP6.out, HBB6.out⟩
        have := HLA6.out
        rw [List.take_length] at this
        rw [hF]
        simpa [restT] using this
  · have hF := HF.out
    clear HF
    have hx0 : w5.cell? ⟨g, 0, none⟩ = some (.int .i64 8) := zcell BK5.out 0 _ rfl
    have hx1 : w5.cell? ⟨g, 1, none⟩ = some (.int .i64 f1) := zcell BK5.out 1 _ rfl
    have hx2 : w5.cell? ⟨g, 2, none⟩ = some (.int .i64 f2) := zcell BK5.out 2 _ rfl
    have hx3 : w5.cell? ⟨g, 3, none⟩ = some (.int .i64 ga) := zcell BK5.out 3 _ rfl
    have hx4 : w5.cell? ⟨g, 4, none⟩ = some (.int .i64 gb) := zcell BK5.out 4 _ rfl
    have hx5 : w5.cell? ⟨g, 5, none⟩ = some (.int .i64 gd) := zcell BK5.out 5 _ rfl
    have hx6 : w5.cell? ⟨g, 6, none⟩ = some (.int .i64 gm) := zcell BK5.out 6 _ rfl
    have hx7 : w5.cell? ⟨g, 7, none⟩ = some (.int .i64 vv) := zcell BK5.out 7 _ rfl
    have hx8 : w5.cell? ⟨g, 8, none⟩ = some (.slice A bs.length c) := zcell BK5.out 8 _ rfl
    go_wp2_with fail
    try go_at_call 57
    refine (lnumsB.calls pb base _ [f1] 1 w5 HLA5.out hs HSZ5.out (fun y hy => H64.out y (by revert hy; simp only [List.mem_cons, List.not_mem_nil, or_false]; omega)) rfl (by simp; omega)).mono ?_
    rintro e w6 ⟨rfl, h1', h2', h3'⟩
    have HLA6 := Aside0.mk h1'
    have HKP6 := Aside0.mk (HKP5.out.trans h2')
    have HBB6 := Aside0.mk (HBB5.out.trans h3')
    have HSZ6 : Aside0 (base ≤ w6.heap.size) := ⟨Nat.le_trans HSZ5.out h3'.size⟩
    have BK6 := Aside0.mk (h2'.keep _ _ _ BK5.out HGP.out.1 (by decide))
    have HR6 : Aside0 (Kd.C k62 w6 A bs.length bs) := ⟨C62_low HR5.out h3' HLOW.out⟩
    clear h1' h2' h3' HLA5 HKP5 HBB5 HSZ5 BK5 HR5 hx0 hx1 hx2 hx3 hx4 hx5 hx6 hx7 hx8
    go_wp2_with fail
    go_end0
    refine ⟨rfl, ?_, HKP6.out, HBB6.out⟩
    have := HLA6.out
    rw [hF]
    simpa [restT] using this
  · have hF := HF.out
    clear HF
    have hx0 : w5.cell? ⟨g, 0, none⟩ = some (.int .i64 9) := zcell BK5.out 0 _ rfl
    have hx1 : w5.cell? ⟨g, 1, none⟩ = some (.int .i64 f1) := zcell BK5.out 1 _ rfl
    have hx2 : w5.cell? ⟨g, 2, none⟩ = some (.int .i64 f2) := zcell BK5.out 2 _ rfl
    have hx3 : w5.cell? ⟨g, 3, none⟩ = some (.int .i64 ga) := zcell BK5.out 3 _ rfl
    have hx4 : w5.cell? ⟨g, 4, none⟩ = some (.int .i64 gb) := zcell BK5.out 4 _ rfl
    have hx5 : w5.cell? ⟨g, 5, none⟩ = some (.int .i64 gd) := zcell BK5.out 5 _ rfl
    have hx6 : w5.cell? ⟨g, 6, none⟩ = some (.int .i64 gm) := zcell BK5.out 6 _ rfl
    have hx7 : w5.cell? ⟨g, 7, none⟩ = some (.int .i64 vv) := zcell BK5.out 7 _ rfl
    have hx8 : w5.cell? ⟨g, 8, none⟩ = some (.slice A bs.length c) := zcell BK5.out 8 _ rfl
    go_wp2_with fail
    try go_at_call 57
    refine (lnumsB.calls pb base _ [f1] 1 w5 HLA5.out hs HSZ5.out (fun y hy => H64.out y (by revert hy; simp only [List.mem_cons, List.not_mem_nil, or_false]; omega)) rfl (by simp; omega)).mono ?_
    rintro e w6 ⟨rfl, h1', h2', h3'⟩
    have HLA6 := Aside0.mk h1'
    have HKP6 := Aside0.mk (HKP5.out.trans h2')
    have HBB6 := Aside0.mk (HBB5.out.trans h3')
    have HSZ6 : Aside0 (base ≤ w6.heap.size) := ⟨Nat.le_trans HSZ5.out h3'.size⟩
    have BK6 := Aside0.mk (h2'.keep _ _ _ BK5.out HGP.out.1 (by decide))
    have HR6 : Aside0 (Kd.C k62 w6 A bs.length bs) := ⟨C62_low HR5.out h3' HLOW.out⟩
    clear h1' h2' h3' HLA5 HKP5 HBB5 HSZ5 BK5 HR5 hx0 hx1 hx2 hx3 hx4 hx5 hx6 hx7 hx8
    go_wp2_with fail
    go_end0
    refine ⟨rfl, ?_, HKP6.out, HBB6.out⟩
    have := HLA6.out
    rw [hF]
    simpa [restT] using this
  · have hF := HF.out
    clear HF
    have hx0 : w5.cell? ⟨g, 0, none⟩ = some (.int .i64 10) := zcell BK5.out 0 _ rfl
    have hx1 : w5.cell? ⟨g, 1, none⟩ = some (.int .i64 f1) := zcell BK5.out 1 _ rfl
    have hx2 : w5.cell? ⟨g, 2, none⟩ = some (.int .i64 f2) := zcell BK5.out 2 _ rfl
    have hx3 : w5.cell? ⟨g, 3, none⟩ = some (.int .i64 ga) := zcell BK5.out 3 _ rfl
    have hx4 : w5.cell? ⟨g, 4, none⟩ = some (.int .i64 gb) := zcell BK5.out 4 _ rfl
    have hx5 : w5.cell? ⟨g, 5, none⟩ = some (.int .i64 gd) := zcell BK5.out 5 _ rfl
    have hx6 : w5.cell? ⟨g, 6, none⟩ = some (.int .i64 gm) := zcell BK5.out 6 _ rfl
    have hx7 : w5.cell? ⟨g, 7, none⟩ = some (.int .i64 vv) := zcell BK5.out 7 _ rfl
    have hx8 : w5.cell? ⟨g, 8, none⟩ = some (.slice A bs.length c) := zcell BK5.out 8 _ rfl
    go_wp2_with fail
    try go_at_call 57
    refine (lnumsB.calls pb base _ [f1, f2] 2 w5 HLA5.out hs HSZ5.out (fun y hy => H64.out y (by revert hy; simp only [List.mem_cons, List.not_mem_nil, or_false]; omega)) rfl (by simp; omega)).mono ?_
    rintro e w6 ⟨rfl, h1', h2', h3'⟩
    have HLA6 := Aside0.mk h1'
    have HKP6 := Aside0.mk (HKP5.out.trans h2')
    have HBB6 := Aside0.mk (HBB5.out.trans h3')
    have HSZ6 : Aside0 (base ≤ w6.heap.size) := ⟨Nat.le_trans HSZ5.out h3'.size⟩
    have BK6 := Aside0.mk (h2'.keep _ _ _ BK5.out HGP.out.1 (by decide))
    have HR6 : Aside0 (Kd.C k62 w6 A bs.length bs) := ⟨C62_low HR5.out h3' HLOW.out⟩
    clear h1' h2' h3' HLA5 HKP5 HBB5 HSZ5 BK5 HR5 hx0 hx1 hx2 hx3 hx4 hx5 hx6 hx7 hx8
    go_wp2_with fail
    go_end0
    refine ⟨rfl, ?_, HKP6.out, HBB6.out⟩
    have := HLA6.out
    rw [hF]
    simpa [restT] using this
end Go.Proofs.YtaoffnhladfdcaaDoor.EScriptTrace
