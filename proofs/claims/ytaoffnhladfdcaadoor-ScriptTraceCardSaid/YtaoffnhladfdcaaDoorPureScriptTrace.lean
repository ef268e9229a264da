/- The law ScriptTrace: its walk; no condition. -/
import Derived.Test.YtaoffnhladfdcaaDoorScrJ
namespace Go.Proofs.YtaoffnhladfdcaaDoor.EScriptTrace
open Go.RowKit Go.Shelf Go.Proofs.YtaoffnhladfdcaaDoorW.PrintWords Go.Proofs.YtaoffnhladfdcaaDoorW.PrintLast Go.Proofs.YtaoffnhladfdcaaDoorW.PrintMore
set_option linter.unusedVariables false
set_option linter.unusedSimpArgs false
/-! The law ScriptTrace. -/
theorem traceS_err {l : List S132} (h : (traceS l).2 ≠ 0) : (traceS l).1 = [] := by
  unfold traceS at h ⊢
  by_cases h1 : 4096 < l.length
  · rw [if_pos h1]
  · rw [if_neg h1] at h ⊢
    by_cases h2 : l.any rowB = true
    · rw [if_pos h2]
    · rw [if_neg h2] at h; exact absurd rfl h
theorem traceS_ok {l : List S132} (h : (traceS l).2 = 0) : l.length ≤ 4096 ∧ l.any rowB = false ∧ (traceS l).1 = textL l := by
  unfold traceS at h ⊢
  by_cases h1 : 4096 < l.length
  · rw [if_pos h1] at h; exact absurd h (by decide)
  · rw [if_neg h1] at h ⊢
    by_cases h2 : l.any rowB = true
    · rw [if_pos h2] at h; exact absurd h (by decide)
    · rw [if_neg h2]; exact ⟨by omega, by simpa using h2, rfl⟩
theorem traceS_part {l l' : List S132} (h : (traceS l).2 = 0) (hs : ∀ x ∈ l', x ∈ l) (hn : l'.length ≤ l.length) : traceS l' = (textL l', 0) := by
  obtain ⟨h1, h2, _⟩ := traceS_ok h
  unfold traceS
  rw [if_neg (by omega), if_neg]
  intro hh
  obtain ⟨x, hx, hb⟩ := List.any_eq_true.1 hh
  have := List.any_eq_false.1 h2 x (hs x hx)
  exact this hb
theorem at_mod (a : Int) (n : Nat) (h0 : -9223372036854775808 ≤ a) (h1 : a < 9223372036854775808) (hn : n ≤ 4096) : ∃ k : Nat, k ≤ n ∧ Int.tmod (wrap64 (wrap64 (Int.tmod a ((n : Int) + 1) + n) + 1)) ((n : Int) + 1) = k := by
  have b1 : Int.tmod a (n + 1) < n + 1 := Int.tmod_lt_of_pos a (by omega)
  have b2 : -((n : Int) + 1) < Int.tmod a (n + 1) := by
    have := Int.tmod_lt_of_pos (-a) (b := (n : Int) + 1) (by omega)
    rw [Int.neg_tmod] at this
    omega
  generalize Int.tmod a (n + 1) = r at b1 b2
  have e2 : wrap64 (r + n) = r + n := by unfold wrap64; omega
  have e3 : wrap64 (r + n + 1) = r + n + 1 := by unfold wrap64; omega
  rw [e2, e3, Int.tmod_eq_emod_of_nonneg (by omega)]
  have c1 := Int.emod_nonneg (r + n + 1) (b := (n : Int) + 1) (by omega)
  have c2 := Int.emod_lt_of_pos (r + n + 1) (b := (n : Int) + 1) (by omega)
  exact ⟨((r + n + 1) % (n + 1)).toNat, by omega, by omega⟩
theorem info132s : Tryd.prog.info? 132 = Tryd.prog.info? 132 := rfl
set_option maxHeartbeats 4000000 in
set_option maxRecDepth 100000 in
theorem scriptTrace.calls (A : Option Addr) (c : Nat) (l : List S132) (a : Int) (w : World) (ht : Tab w) (hr : Kd.C k132 w A l.length l) (hc : l.length ≤ c) (h64 : ∀ x ∈ l, In64 (nums x)) (ha0 : -9223372036854775808 ≤ a) (ha1 : a < 9223372036854775808) : Calls Tryd.prog 8 #[.slice A l.length c, .int .i64 a] w fun e w' => e = .returned (.bool true) ∧ Below w.heap.size w w' := by
  have HR := Aside0.mk hr
  have HC := Aside0.mk hc
  have H64 := Aside0.mk h64
  have HAL := Aside0.mk (alive.calls w ht)
  have HA0 := Aside0.mk (And.intro ha0 ha1)
  clear ht hr hc h64 ha0 ha1
  go_enter Tryd.func8, Tryd.ntmps8
  go_wp2_with fail
  try go_at_call 18
  refine HAL.out.mono ?_
  rintro e w1 ⟨rfl, hb⟩
  have HB1 := Aside0.mk hb
  clear hb HAL
  go_wp2_with fail
  try go_at_call 28
  refine (trace.calls A c l w1 (k132_C_below HR.out HB1.out (Nat.le_refl _)) HC.out H64.out).mono ?_
  rintro e w2 ⟨rfl, hb⟩
  have HB2 := Aside0.mk (below_b HB1.out hb HB1.out.size)
  clear hb HB1
  obtain ⟨T, hT⟩ : ∃ T, T = traceS l := ⟨_, rfl⟩
  rw [← hT]
  have HT := Aside0.mk hT
  clear hT
  obtain ⟨s, er⟩ := T
  go_wp2_with fail
  try go_at_call 21
  refine (waybilllaw35_num.calls er er w2 rfl).mono ?_
  rintro e w3 ⟨rfl, hd⟩
  have HB3 := Aside0.mk (below_b HB2.out hd.below HB2.out.size)
  clear hd HB2
  by_cases he : er = 0
  · subst he
    obtain ⟨hn, _, hsT⟩ := traceS_ok (l := l) (by rw [← HT.out])
    have HS : Aside0 (s = textL l) := ⟨by rw [← HT.out] at hsT; exact hsT⟩
    have HP : Aside0 (∀ l' : List S132, (∀ x ∈ l', x ∈ l) → l'.length ≤ l.length → traceS l' = (textL l', 0)) := ⟨fun l' h1 h2 => traceS_part (by rw [← HT.out]) h1 h2⟩
    clear HT hsT
    obtain ⟨k, hk, hmod⟩ := at_mod a l.length HA0.out.1 HA0.out.2 hn
    obtain ⟨i132, hi132⟩ : ∃ i, Tryd.prog.info? 132 = some i := by
      rcases hh : Tryd.prog.info? 132 with _ | i
      · have := info132; rw [hh] at this; cases this
      · exact ⟨i, rfl⟩
    have hs132 : i132.size = 16 := by have := info132; rw [hi132] at this; injection this with this; exact (Prod.mk.inj (Prod.mk.inj this).2).1
    have hc1 := cut_to 76 132 .i64 Tryd.underlying76 hi132 A l.length c k (by omega) (by omega) HC.out
    have hc2 := cut_from 76 132 .i64 Tryd.underlying76 hi132 16 hs132 A l.length c k (by omega) (by omega)
    rw [Int.toNat_natCast] at hc1 hc2
    obtain ⟨A2, hA2⟩ : ∃ A2, A2 = if c = k then A else A.map (·.add (k * 16)) := ⟨_, rfl⟩
    rw [← hA2] at hc2
    have HA2 := Aside0.mk hA2
    clear hA2 hi132 hs132
    go_wp2_with fail
    try go_at_call 28
    have hlt : (l.take k).length = k := by rw [List.length_take]; omega
    have hld : (l.drop k).length = l.length - k := List.length_drop
    have HK1 := trace.calls A c (l.take k) w3 (Kd.C_take (k132_C_below HR.out HB3.out (Nat.le_refl _)) hk) (by have := HC.out; omega) (fun x h => H64.out x (List.mem_of_mem_take h))
    rw [HP.out (l.take k) (fun x h => List.mem_of_mem_take h) (by omega), hlt] at HK1
    refine HK1.mono ?_
    rintro e w4 ⟨rfl, hb⟩
    have HB4 := Aside0.mk (below_b HB3.out hb HB3.out.size)
    have HLT := Aside0.mk hlt
    have HLD := Aside0.mk hld
    clear hb HK1 HB3 hlt hld hmod hc1
    go_wp2_with fail
    try go_at_call 28
    have HK2 := trace.calls A2 (c - k) (l.drop k) w4 (by rw [HA2.out]; exact Kd.C_drop (k132_C_below HR.out HB4.out (Nat.le_refl _)) hk HC.out) (by have := HC.out; have := HLD.out; omega) (fun x h => H64.out x (List.mem_of_mem_drop h))
    rw [HP.out (l.drop k) (fun x h => List.mem_of_mem_drop h) (by have := HLD.out; omega), HLD.out] at HK2
    refine HK2.mono ?_
    rintro e w5 ⟨rfl, hb⟩
    have HB5 := Aside0.mk (below_b HB4.out hb HB4.out.size)
    have HJ : Aside0 ((⟨(textL (l.take k)).toArray⟩ : ByteArray) ++ ⟨(textL (l.drop k)).toArray⟩ = ⟨s.toArray⟩) := ⟨by
      have e : textL (l.take k) ++ textL (l.drop k) = s := by rw [HS.out]; unfold textL; rw [← List.flatMap_append, List.take_append_drop]
      apply ByteArray.ext
      rw [ByteArray.data_append]
      apply Array.ext'
      rw [Array.toList_append, ← e]⟩
    have HSZ : Aside0 (s.length ≤ 1700000) := ⟨by have := textL_len l H64.out; rw [← HS.out] at this; omega⟩
    have HCN : Aside0 (s.count 10 = l.length) := ⟨by rw [HS.out]; exact textL_count l H64.out⟩
    obtain ⟨B, hB⟩ : ∃ B : ByteArray, B = ⟨s.toArray⟩ := ⟨_, rfl⟩
    have hBs : B.size = s.length := by rw [hB]; rfl
    have hBd : B.data.toList = s := by rw [hB]
    rw [← hB] at HJ ⊢
    obtain ⟨P, hP⟩ : ∃ P : ByteArray, P = ⟨(textL (l.take k)).toArray⟩ := ⟨_, rfl⟩
    obtain ⟨Q, hQ⟩ : ∃ Q : ByteArray, Q = ⟨(textL (l.drop k)).toArray⟩ := ⟨_, rfl⟩
    rw [← hP, ← hQ] at HJ
    rw [← hP, ← hQ]
    clear hP hQ
    clear hb HK2 HB4 HLT HLD HA2 hc2 HP HR H64 HS hB
    go_wp2_with fail
    go_loopw [11, 12] (fun v11 v12 W => ∃ i : Nat, i ≤ s.length ∧ v12 = .int .i64 i ∧ v11 = .int .i64 ((s.take i).count 10 : Nat) ∧ Aside0 (Below w.heap.size w W)) (fun _ v _ => s.length - (intOf v).toNat)
    case atStart => exact ⟨0, by omega, rfl, rfl, HB5⟩
    case round =>
      clear HB5
      obtain ⟨i, hi, rfl, rfl, HB5⟩ := hrel
      have hsl := HSZ.out
      have hBs2 : (B.size : Int) = s.length := by rw [hBs]
      by_cases hlt : i < s.length
      · have hcl : (s.take i).count 10 ≤ i := Nat.le_trans List.count_le_length (List.length_take_le _ _)
        have hx : B.data.toList[i]? = some s[i] := by rw [hBd]; exact List.getElem?_eq_getElem hlt
        have HT : Aside0 ((s.take (i + 1)).count 10 = (s.take i).count 10 + if s[i] = 10 then 1 else 0) := ⟨by
          rw [List.take_succ_eq_append_getElem hlt, List.count_append]
          by_cases h : s[i] = 10 <;> simp [h, List.count_cons]⟩
        generalize s[i] = b at hx HT
        generalize (s.take i).count 10 = n at hcl HT ⊢
        have hb : ∀ h : i < B.size, B[i] = b := fun h => by
          have h2 := hx
          rw [Array.getElem?_toList, Array.getElem?_eq_getElem h] at h2
          injection h2
        have HBI := Aside0.mk hb
        clear hx hb
        go_wp2_with fail
        all_goals
          rename_i h10
          rw [HBI.out] at h10
        · have e : b = 10 := UInt8.toNat_inj.1 (by have h11 := eq_of_beq h10; show b.toNat = 10; omega)
          have hT := HT.out
          rw [if_pos e] at hT
          refine ⟨⟨i + 1, by omega, by go_num, by rw [hT]; go_num, HB5⟩, ?_⟩
          simp [intOf]; omega
        · have e : ¬ b = 10 := fun e => by rw [e] at h10; exact absurd h10 (by decide)
          have hT := HT.out
          rw [if_neg e] at hT
          refine ⟨⟨i + 1, by omega, by go_num, by rw [hT]; rfl, HB5⟩, ?_⟩
          simp [intOf]; omega
      · obtain rfl : i = s.length := by omega
        rw [List.take_length, HCN.out]
        have hpq := HJ.out
        have hps : P.size + Q.size ≤ 9223372036854775807 := by
          have := congrArg ByteArray.size hpq
          rw [ByteArray.size_append] at this
          omega
        clear hBd HCN HJ
        go_wp2_with (first | (go_at_call 21; refine (waybilllaw35_num.calls 0 0 _ rfl).mono ?_; rintro e w6 ⟨rfl, hd⟩; have HB6 := Aside0.mk (below_b HB5.out hd.below HB5.out.size); clear hd))
        refine (waybilllaw35_num.calls 0 0 _ rfl).mono ?_
        rintro e w7 ⟨rfl, hd⟩
        have HB7 := Aside0.mk (below_b HB6.out hd.below HB6.out.size)
        clear hd
        go_wp2_with fail
        go_ret
        exact ⟨rfl, HB7.out⟩
  · have hs : s = [] := by have := traceS_err (l := l) (by rw [← HT.out]; exact he); rw [← HT.out] at this; exact this
    subst hs
    have hd : decide (er = 0) = false := decide_eq_false he
    clear HT
    go_wp2_with fail
    go_ret
    exact ⟨rfl, HB3.out⟩
end Go.Proofs.YtaoffnhladfdcaaDoor.EScriptTrace
