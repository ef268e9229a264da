/- A line that is written. -/
import Derived.Test.YtaoffnhladfdcaaDoorScrG
namespace Go.Proofs.YtaoffnhladfdcaaDoor.EScriptTrace
open Go.RowKit Go.Shelf Go.Proofs.YtaoffnhladfdcaaDoorW.PrintWords Go.Proofs.YtaoffnhladfdcaaDoorW.PrintLast Go.Proofs.YtaoffnhladfdcaaDoorW.PrintMore
set_option linter.unusedVariables false
set_option linter.unusedSimpArgs false
/-! A line that is written: a block of one cell, the row of its words. -/
def LineAt (W : World) (pb base : Nat) (l : List ByteArray) : Prop := ∃ v, W.heap[pb]? = some (.cells #[v] 136 (0, 0)) ∧ Kd.R Kd.string 9 W base (fun _ => True) v l
theorem info9q : (Tryd.prog.info? 9).map (fun i => (i.zero, i.size, i.bytes)) = some (some (.string ⟨#[]⟩), 1, 16) := by kernel_rfl
theorem LineAt.far {w w1 : World} {S : Nat → Prop} {pb base : Nat} {l : List ByteArray} (h : LineAt w pb base l) (hc : Ch S w w1) (hs : ∀ k, S k → k < base ∧ k ≠ pb) : LineAt w1 pb base l := by
  obtain ⟨v, h1, h2⟩ := h
  exact ⟨v, hc.heap h1 (fun h => (hs _ h).2 rfl), Kd.R_mono (ok' := fun _ => True) (R_ch (Kd.R_bound h2) hc (fun k hk e => by have := hs k e; have := hk.2.1; omega)) (fun _ _ => trivial)⟩
theorem LineAt.below {w w1 : World} {pb base : Nat} {l : List ByteArray} (h : LineAt w pb base l) (hb : Below w.heap.size w w1) : LineAt w1 pb base l := h.far (Ch.of_below hb (fun _ => False)) (fun _ h => h.elim)
/-- What a write to the line leaves: all but the line and rows of strings. -/
structure KpL (pb : Nat) (w w' : World) : Prop where
  keep : ∀ k cs t, w.heap[k]? = some (.cells cs t (0, 0)) → k ≠ pb → t ≠ 9 → w'.heap[k]? = some (.cells cs t (0, 0))
theorem KpL.trans {b : Nat} {w w1 w2 : World} (h : KpL b w w1) (k : KpL b w1 w2) : KpL b w w2 := ⟨fun i cs t h1 h2 h3 => k.keep i cs t (h.keep i cs t h1 h2 h3) h2 h3⟩
theorem KpL.of_below {b : Nat} {w w1 : World} (h : Below w.heap.size w w1) : KpL b w w1 := ⟨fun i cs t h1 _ _ => (h.block i (lt_of_block h1)).trans h1⟩
set_option maxHeartbeats 1000000 in
set_option maxRecDepth 100000 in
theorem lword.calls (pb base : Nat) (l ys : List ByteArray) (A : Option Addr) (m c : Nat) (w : World) (h : LineAt w pb base l) (hr : Kd.C Kd.string w A ys.length ys) (hm : m = ys.length) (hs : pb < base) (hb : base ≤ w.heap.size) (hl : (l.length + ys.length) * 16 ≤ 140737488355328) : Calls Tryd.prog 94 #[.pointer (some ⟨pb, 0, none⟩), .slice A m c] w fun e w' => e = .returned (.tuple #[]) ∧ LineAt w' pb base (l ++ ys) ∧ KpL pb w w' ∧ Below pb w w' := by
  subst hm
  obtain ⟨v, h1, h2⟩ := h
  have HR := Aside0.mk hr
  have H2 := Aside0.mk h2
  have HL := Aside0.mk hl
  have HBS := Aside0.mk hb
  have H1 := Aside0.mk h1
  have hx : w.cell? ⟨pb, 0, none⟩ = some v := zcell h1 0 _ rfl
  have HN : Aside0 (some pb ≠ v.ownBlock) := ⟨Kd.R_ne h2 h1 (by decide)⟩
  clear hr h2 hl hb h1
  go_enter Tryd.func94, Tryd.ntmps94
  go_wp2_with (first | ((with_reducible refine gate_builtin (b := .append) (xs := #[.tmp 8, .tmp 9]) rfl ?_); at_builtin; refine Aside0.out (?_ : Aside0 _)))
  refine ⟨?_⟩
  refine Kd.R_append_rows Kd.string (w0 := w) base rfl (.tmp 8) (.tmp 9) 72 9 (.string ⟨#[]⟩) 16 rfl Tryd.underlying72 info9q rfl (by decide) (by decide) v l ys A ys.length c (fun _ => True) (fun _ => False) rfl rfl H2.out HR.out (fun _ _ h => h) (fun _ h => h.elim) (fun _ _ => trivial) (Below.refl _ _) HBS.out HL.out ?_
  intro v1 w1 hR hB hG _
  obtain ⟨A1, c1, rfl⟩ := Kd.R_slice hR
  obtain ⟨n1, hn1⟩ : ∃ n, n = (l ++ ys).length := ⟨_, rfl⟩
  rw [← hn1] at hR ⊢
  obtain ⟨v1, hv1⟩ : ∃ v1, v1 = Value.slice A1 n1 c1 := ⟨_, rfl⟩
  rw [← hv1] at hR
  have hp1 : w1.heap[pb]? = some (.cells #[v] 136 (0, 0)) := blk_grown H1.out hG HN.out
  have hf1 := zfree hp1 0
  have hx1 : w1.cell? ⟨pb, 0, none⟩ = some v := zcell hp1 0 _ rfl
  have hC1 : Ch (fun k => k = pb) w1 (w1.setCell ⟨pb, 0, none⟩ v1) := (Ch.refl (fun k => k = pb) w1).set (p := ⟨pb, 0, none⟩) (.inl rfl) v1
  have HQ : Aside0 (LineAt (w1.setCell ⟨pb, 0, none⟩ v1) pb base (l ++ ys) ∧ KpL pb w (w1.setCell ⟨pb, 0, none⟩ v1) ∧ Below pb w (w1.setCell ⟨pb, 0, none⟩ v1)) := ⟨⟨v1, by rw [one_setCell hp1], Kd.R_mono (ok' := fun _ => True) (R_ch (Kd.R_bound hR) hC1 (fun k hk e => by have := hk.2.1; omega)) (fun _ _ => trivial)⟩, KpL.trans ⟨fun k cs t h1 h2 h3 => blk_grown h1 hG (Kd.R_ne H2.out h1 (fun e => h3 e.symm))⟩ ⟨fun k cs t h1 h2 _ => hC1.heap h1 h2⟩, below_ch (hB.mono (by omega)) hC1 (by have := hB.size; have := HBS.out; omega) (fun k h => by omega)⟩
  rw [hv1] at HQ
  clear hR hB hG hC1 hp1 hv1 hn1
  go_wp2_with fail
  go_end0
  exact ⟨rfl, HQ.out⟩
/-! Decimals. -/
def dig (a : Int) : ByteArray := strOfNums [(IntKind.u64.wrap (48 + a)) % 256]
theorem wrapU {a : Int} (h : 0 ≤ a) (h1 : a < 18446744073709551616) : IntKind.u64.wrap a = a := by
  unfold IntKind.wrap; simp [IntKind.bits, IntKind.signed]; omega
theorem dig_ok {a : Int} (h : 0 ≤ a) (h1 : a < 10) : (dig a).size = 1 ∧ ∀ b ∈ (dig a).data.toList, 48 ≤ b.toNat ∧ b.toNat ≤ 57 := by
  refine ⟨strOfNums_size _, fun b hb => ?_⟩
  unfold dig at hb
  rw [strOfNums_data, wrapU (by omega) (by omega)] at hb
  simp only [List.map_cons, List.map_nil, List.mem_singleton] at hb
  subst hb
  rw [show (48 + a) % 256 = 48 + a by omega]
  rw [UInt8.toNat_ofNat']
  omega
theorem digits_small (k : Nat) {a : Int} (h1 : a < 10) : script_digits.f (k + 1) a = some (dig a) := by
  show (if a < 10 then _ else _) = _
  rw [if_pos h1]; rfl
theorem digits_ok : ∀ (k : Nat) (a : Int), k ≤ 1000 → 0 ≤ a → a < 10 ^ (k + 1) → a < 18446744073709551616 → ∃ r, script_digits.f (k + 1) a = some r ∧ 1 ≤ r.size ∧ r.size ≤ k + 1 ∧ ∀ b ∈ r.data.toList, 48 ≤ b.toNat ∧ b.toNat ≤ 57
  | 0, a, _, h0, h1, h2 => ⟨_, digits_small 0 (by simpa using h1), by rw [(dig_ok h0 (by simpa using h1)).1]; exact Nat.le_refl _, by rw [(dig_ok h0 (by simpa using h1)).1]; exact Nat.le_refl _, (dig_ok h0 (by simpa using h1)).2⟩
  | k + 1, a, hk, h0, h1, h2 => by
    by_cases h : a < 10
    · exact ⟨_, digits_small (k + 1) h, by rw [(dig_ok h0 h).1]; exact Nat.le_refl _, by rw [(dig_ok h0 h).1]; omega, (dig_ok h0 h).2⟩
    · have hd : Int.tdiv a 10 = a / 10 := Int.tdiv_eq_ediv_of_nonneg h0
      have hm : Int.tmod a 10 = a % 10 := Int.tmod_eq_emod_of_nonneg h0
      have hp : (10 : Int) ^ (k + 1 + 1) = 10 ^ (k + 1) * 10 := rfl
      obtain ⟨r, e, s0, s1, s2⟩ := digits_ok k (a / 10) (by omega) (by omega) (by rw [hp] at h1; omega) (by omega)
      have e2 : script_digits.f (k + 1) (a % 10) = some (dig (a % 10)) := digits_small k (by omega)
      obtain ⟨t1, t2⟩ := dig_ok (a := a % 10) (by omega) (by omega)
      refine ⟨r ++ dig (a % 10), ?_, ?_, ?_, ?_⟩
      · show (if a < 10 then _ else _) = _
        rw [if_neg h, hd, hm, wrapU (by omega) (by omega), e, e2]
        show (if r.size + (dig (a % 10)).size ≤ 9223372036854775807 then some (r ++ dig (a % 10)) else none) = _
        rw [if_pos (by omega)]
      · rw [ByteArray.size_append]; omega
      · rw [ByteArray.size_append]; omega
      · intro b hb
        rw [ByteArray.data_append, Array.toList_append, List.mem_append] at hb
        exact hb.elim (s2 b) (t2 b)
def decS (x : Int) : ByteArray := (script_decimal.f 21 x).getD ⟨#[]⟩
theorem decS_ok {x : Int} (h0 : -9223372036854775808 ≤ x) (h1 : x < 9223372036854775808) : script_decimal.f 21 x = some (decS x) ∧ 1 ≤ (decS x).size ∧ (decS x).size ≤ 22 ∧ ∀ b ∈ (decS x).data.toList, b = 45 ∨ (48 ≤ b.toNat ∧ b.toNat ≤ 57) := by
  have K : ∃ r, script_decimal.f 21 x = some r ∧ 1 ≤ r.size ∧ r.size ≤ 22 ∧ ∀ b ∈ r.data.toList, b = 45 ∨ (48 ≤ b.toNat ∧ b.toNat ≤ 57) := by
    unfold script_decimal.f
    by_cases h : x < 0
    · rw [if_pos h]
      have e1 : wrap64 (x + 1) = x + 1 := by unfold wrap64; omega
      have e2 : wrap64 (-(x + 1)) = -(x + 1) := by unfold wrap64; omega
      rw [e1, e2, wrapU (a := -(x + 1)) (by omega) (by omega), wrapU (by omega) (by omega)]
      obtain ⟨r, e, s0, s1, s2⟩ := digits_ok 20 (-(x + 1) + 1) (by decide) (by omega) (Int.lt_of_lt_of_le (b := 9223372036854775809) (by omega) (by decide)) (by omega)
      rw [e]
      refine ⟨(⟨#[45]⟩ : ByteArray) ++ r, ?_, ?_, ?_, ?_⟩
      · show (if 1 + r.size ≤ 9223372036854775807 then _ else none) = _
        rw [if_pos (by omega)]
      · rw [ByteArray.size_append]; omega
      · rw [ByteArray.size_append]
        have : (⟨#[45]⟩ : ByteArray).size = 1 := rfl
        omega
      · intro b hb
        rw [ByteArray.data_append, Array.toList_append, List.mem_append] at hb
        exact hb.elim (fun h => .inl (by simpa using h)) (fun h => .inr (s2 b h))
    · rw [if_neg h, wrapU (by omega) (by omega)]
      obtain ⟨r, e, s0, s1, s2⟩ := digits_ok 20 x (by decide) (by omega) (Int.lt_of_lt_of_le (b := 9223372036854775809) (by omega) (by decide)) (by omega)
      rw [e]
      exact ⟨r, rfl, s0, by omega, fun b hb => .inr (s2 b hb)⟩
  obtain ⟨r, e, h⟩ := K
  unfold decS
  rw [e]
  exact ⟨rfl, h⟩
/-! Numbers onto the line; the line's text. -/
def In64 (xs : List Int) : Prop := ∀ x ∈ xs, -9223372036854775808 ≤ x ∧ x < 9223372036854775808
set_option maxHeartbeats 2000000 in
set_option maxRecDepth 100000 in
theorem lnumbers.calls (pb base : Nat) (l : List ByteArray) (xs : List Int) (g c : Nat) (w : World) (h : LineAt w pb base l) (hg : w.heap[g]? = some (.cells (xs.map (Value.int .i64)).toArray 3 (0, 0))) (hgp : g ≠ pb) (hs : pb < base) (hb : base ≤ w.heap.size) (h64 : In64 xs) (hc : xs.length ≤ c) (hl : (l.length + xs.length) * 16 ≤ 140737488355328) : Calls Tryd.prog 57 #[.pointer (some ⟨pb, 0, none⟩), .slice (some ⟨g, 0, none⟩) xs.length c] w fun e w' => e = .returned (.tuple #[]) ∧ LineAt w' pb base (l ++ xs.map decS) ∧ KpL pb w w' ∧ Below pb w w' := by
  have HL := Aside0.mk hl
  have hn : xs.length ≤ 8796093022208 := by omega
  have HG := Aside0.mk hg
  have H64 := Aside0.mk h64
  have HC := Aside0.mk hc
  have HLA := Aside0.mk h
  have HSZ := Aside0.mk hb
  have HGP := Aside0.mk hgp
  have HKP : Aside0 (KpL pb w w) := ⟨⟨fun _ _ _ h _ _ => h⟩⟩
  have HBB := Aside0.mk (Below.refl pb w)
  clear hl hg h64 hc h hb hgp
  go_enter Tryd.func57, Tryd.ntmps57
  go_wp2
  go_loopw [5, 8] (fun v5 v8 W => ∃ i : Nat, i ≤ xs.length ∧ v8 = .int .i64 i ∧ Aside0 (LineAt W pb base (l ++ (xs.take i).map decS)) ∧ Aside0 (KpL pb w W) ∧ Aside0 (Below pb w W) ∧ Aside0 (base ≤ W.heap.size)) (fun _ v _ => xs.length - (intOf v).toNat)
  case atStart => exact ⟨0, by omega, rfl, ⟨by simpa using HLA.out⟩, HKP, HBB, HSZ⟩
  case round =>
    clear HLA HKP HBB HSZ
    obtain ⟨i, hi, rfl, HLA, HKP, HBB, HSZ⟩ := hrel
    by_cases hlt : i < xs.length
    · have hx : wr.cell? ⟨g, i, none⟩ = some (.int .i64 xs[i]) := zcell (HKP.out.keep _ _ _ HG.out HGP.out (by decide)) i _ (by simp [hlt])
      have HT : Aside0 ((xs.take (i + 1)).map decS = (xs.take i).map decS ++ [decS xs[i]]) := ⟨by
        rw [List.take_succ_eq_append_getElem hlt, List.map_append]; rfl⟩
      have HD := Aside0.mk (decS_ok (H64.out _ (List.getElem_mem hlt)).1 (H64.out _ (List.getElem_mem hlt)).2).1
      generalize xs[i] = x at hx HT HD
      go_wp2_with fail
      refine (script_decimal.calls 21 x (decS x) wr HD.out).mono ?_
      rintro e w1 ⟨rfl, hb1⟩
      have HLA1 := Aside0.mk ((HLA.out.below hb1).below (below_alloc (Below.refl _ _) (.cells #[.string (decS x)] 9 (0, 0))))
      have HKP1 := Aside0.mk ((HKP.out.trans (KpL.of_below hb1)).trans (KpL.of_below (below_alloc (Below.refl _ _) (.cells #[.string (decS x)] 9 (0, 0)))))
      have HBB1 := Aside0.mk ((HBB.out.trans (hb1.mono (by have := HSZ.out; omega))).trans ((below_alloc (Below.refl w1.heap.size w1) (.cells #[.string (decS x)] 9 (0, 0))).mono (by have := HSZ.out; have := hb1.size; omega)))
      have HSZ1 : Aside0 (base ≤ (w1.alloc (.cells #[.string (decS x)] 9 (0, 0))).heap.size) := ⟨by have := hb1.size; have := HSZ.out; rw [show (w1.alloc (.cells #[.string (decS x)] 9 (0, 0))).heap.size = w1.heap.size + 1 from Array.size_push _]; omega⟩
      have HNW := Aside0.mk (strC_block [decS x] (heap_alloc_new w1 (.cells #[.string (decS x)] 9 (0, 0))) (by simp))
      have HLL : Aside0 (((l ++ (xs.take i).map decS).length + [decS x].length) * 16 ≤ 140737488355328) := ⟨by have := HL.out; simp; omega⟩
      clear hb1 HLA HKP HBB HSZ hx
      go_wp2_with fail
      refine (lword.calls pb base _ [decS x] _ 1 1 _ HLA1.out HNW.out rfl hs HSZ1.out HLL.out).mono ?_
      rintro e w2 ⟨rfl, h1, h2, h3⟩
      have HLA2 : Aside0 (LineAt w2 pb base (l ++ (xs.take (i + 1)).map decS)) := ⟨by rw [HT.out, ← List.append_assoc]; exact h1⟩
      have HKP2 := Aside0.mk (HKP1.out.trans h2)
      have HBB2 := Aside0.mk (HBB1.out.trans h3)
      have HSZ2 : Aside0 (base ≤ w2.heap.size) := ⟨Nat.le_trans HSZ1.out h3.size⟩
      clear h1 h2 h3 HLA1 HKP1 HBB1 HSZ1 HNW HLL HT
      go_wp2_with fail
      refine ⟨⟨i + 1, by omega, by go_num, HLA2, HKP2, HBB2, HSZ2⟩, ?_⟩
      simp [intOf]; omega
    · obtain rfl : i = xs.length := by omega
      have HL2 := Aside0.mk (show LineAt wr pb base (l ++ xs.map decS) from by have := HLA.out; rw [List.take_length] at this; exact this)
      clear HLA
      go_wp2_with fail
      go_end0
      exact ⟨rfl, HL2.out, HKP.out, HBB.out⟩
/-- The words with spaces between. -/
def joinL (l : List ByteArray) : ByteArray := ⟨(Lib.join (l.map (·.data.toList)) [32]).toArray⟩
set_option maxHeartbeats 1000000 in
theorem lstring.calls (pb base : Nat) (l : List ByteArray) (w : World) (h : LineAt w pb base l) (hn : l.length ≤ 140737488355328) (hj : (Lib.join (l.map (·.data.toList)) [32]).length ≤ 140737488355328) : Calls Tryd.prog 58 #[.pointer (some ⟨pb, 0, none⟩)] w fun e w' => e = .returned (.string (joinL l)) ∧ Below w.heap.size w w' := by
  have HQ : ∃ A c, w.heap[pb]? = some (.cells #[.slice A l.length c] 136 (0, 0)) ∧ Aside0 (Calls Tryd.prog 96 #[.slice A l.length c, .string ⟨#[32]⟩] w fun e w' => e = .returned (.string (joinL l)) ∧ Below w.heap.size w w') := by
    obtain ⟨v, h1, h2⟩ := h
    obtain ⟨A, c, rfl, hc, hC⟩ := Kd.R_reads h2
    refine ⟨A, c, h1, ⟨?_⟩⟩
    obtain ⟨_, inner, ⟨_, ho⟩, _⟩ := h2
    rcases ho with ⟨e1, e2⟩ | ⟨g, cap, cur, e1, hbg, hg, hn1, hn2, _⟩
    · have el : l = [] := List.eq_nil_of_length_eq_zero e2
      subst el
      refine (Tryd.strings_Join_none A c ⟨#[32]⟩ w).mono ?_
      rintro e w1 ⟨rfl, rfl⟩
      exact ⟨rfl, Below.refl _ _⟩
    · injection e1 with e1 _ _
      subst e1
      have hx : ∀ (j : Nat) x, l[j]? = some x → w.cell? ⟨g, 0 + j, none⟩ = some (.string x) := by
        intro j x hx
        have hp : 0 < l.length := by rcases l with _ | _; cases hx; simp
        obtain ⟨ad, e2, f⟩ := hC.2.2 hp
        injection e2 with e2
        subst e2
        obtain ⟨cc, k1, k2, k3⟩ := f j x hx
        have k2' : cc = [.string x] := k2
        subst k2'
        have := k3 0 _ rfl
        rw [add_plain] at this
        have hs : Kd.string.sz = 1 := rfl
        rw [hs, Nat.mul_one, Nat.add_zero] at this
        rw [Nat.zero_add]; exact this
      refine (Tryd.strings_Join g 0 c l ⟨#[32]⟩ w hx (lt_of_block hg) hn hc hj).mono ?_
      rintro e w1 ⟨rfl, hb⟩
      exact ⟨rfl, hb⟩
  obtain ⟨A, c, hp, HJ⟩ := HQ
  have hx : w.cell? ⟨pb, 0, none⟩ = some (.slice A l.length c) := zcell hp 0 _ rfl
  clear hp h hj hn
  go_enter Tryd.func58, Tryd.ntmps58
  go_wp2_with fail
  refine HJ.out.mono ?_
  rintro e w1 ⟨rfl, hb⟩
  have HB := Aside0.mk hb
  clear hb
  go_wp2_with fail
  go_ret
  exact ⟨rfl, HB.out⟩
end Go.Proofs.YtaoffnhladfdcaaDoor.EScriptTrace
