/- The law ScriptLines: its walk; no condition. -/
import Derived.Test.YtaoffnhladfdcaaDoorScrL
namespace Go.Proofs.YtaoffnhladfdcaaDoor.EScriptTrace
open Go.RowKit Go.Shelf Go.Proofs.YtaoffnhladfdcaaDoorW.PrintWords Go.Proofs.YtaoffnhladfdcaaDoorW.PrintLast Go.Proofs.YtaoffnhladfdcaaDoorW.PrintMore
set_option linter.unusedVariables false
set_option linter.unusedSimpArgs false
/-! The law ScriptLines. -/
set_option maxHeartbeats 4000000 in
set_option maxRecDepth 100000 in
theorem scriptLines.calls (A : Option Addr) (c : Nat) (l : List Ev) (w : World) (ht : Tab w) (hr : Kd.C kEv w A l.length l) (hc : l.length ≤ c) (hn : l.length ≤ 1000000000000000) : Calls Tryd.prog 11 #[.slice A l.length c] w fun e w' => e = .returned (.bool true) ∧ Below w.heap.size w w' := by
  have HR := Aside0.mk hr
  have HC := Aside0.mk hc
  have HTAB := Aside0.mk ht
  have HAL := Aside0.mk (alive.calls w ht)
  clear ht hr hc
  go_enter Tryd.func11, Tryd.ntmps11
  go_wp2_with fail
  try go_at_call 18
  refine HAL.out.mono ?_
  rintro e w1 ⟨rfl, hb⟩
  have HB1 := Aside0.mk hb
  clear hb HAL
  go_wp2_with fail
  try go_at_call 29
  refine (print.calls A c l w1 (HTAB.out.below HB1.out) (kEv_C_below HR.out HB1.out (Nat.le_refl _)) HC.out).mono ?_
  rintro e w2 ⟨rfl, hb⟩
  have HB2 := Aside0.mk (below_b HB1.out hb HB1.out.size)
  clear hb HB1
  obtain ⟨P, hP⟩ : ∃ P, P = printF l [] := ⟨_, rfl⟩
  have hS : printS l = if 512 < l.length then ([], 3) else P := by rw [hP]; rfl
  obtain ⟨⟨s, er⟩, hT⟩ : ∃ T, T = printS l := ⟨_, rfl⟩
  rw [← hT] at hS ⊢
  have HS := Aside0.mk hS
  have HP := Aside0.mk hP
  clear hS hT hP
  obtain ⟨B, hB⟩ : ∃ B : ByteArray, B = ⟨s.toArray⟩ := ⟨_, rfl⟩
  simp only []
  rw [← hB]
  have HBS := Aside0.mk hB
  clear hB
  go_wp2_with fail

  go_loopw [5, 6, 7, 8] (fun v5 v6 v7 v8 W => ∃ (i : Nat) (t : List UInt8), i ≤ l.length ∧ v6 = .int .i64 i ∧ v5 = .string ⟨t.toArray⟩ ∧ Aside0 (t.length ≤ i * 1612) ∧ Aside0 (P = printF (l.drop i) t) ∧ Aside0 (Below w.heap.size w W)) (fun _ v _ _ _ => l.length - (intOf v).toNat)
  case atStart => exact ⟨0, [], by omega, rfl, rfl, ⟨by simp⟩, HP, HB2⟩
  case round =>
    clear HP HB2
    obtain ⟨i, t, hi, rfl, rfl, HON, HP, HB2⟩ := hrel
    by_cases hlt : i < l.length
    · obtain ⟨ad, A8, c8, e1, _, hcs, hl8, hC8⟩ := at_Ev (kEv_C_below HR.out HB2.out (Nat.le_refl _)) ((i : Nat) : Int) (by omega) (by omega)
      cases e1
      rw [rd_Ev_get hlt] at hcs hl8 hC8
      have HP := Aside0.mk (show P = printF (l[i] :: l.drop (i + 1)) t from by rw [HP.out, List.drop_eq_getElem_cons hlt])
      generalize l[i] = e at hcs hl8 hC8 HP
      simp only [Int.toNat_natCast] at hcs
      have hx0 : wr.cell? (ad.add (i * 9)) = some (.int .i64 e.f0) := hcs 0 _ rfl
      have hx1 : wr.cell? ⟨(ad.add (i * 9)).block, (ad.add (i * 9)).off + 1, none⟩ = some (.int .i64 e.f1) := by rw [← add_field _ _ 1 (by omega)]; exact hcs 1 _ rfl
      have hx2 : wr.cell? ⟨(ad.add (i * 9)).block, (ad.add (i * 9)).off + 2, none⟩ = some (.int .i64 e.f2) := by rw [← add_field _ _ 2 (by omega)]; exact hcs 2 _ rfl
      have hx3 : wr.cell? ⟨(ad.add (i * 9)).block, (ad.add (i * 9)).off + 3, none⟩ = some (.int .i64 e.g.f0) := by rw [← add_field _ _ 3 (by omega)]; exact hcs 3 _ rfl
      have hx4 : wr.cell? ⟨(ad.add (i * 9)).block, (ad.add (i * 9)).off + 4, none⟩ = some (.int .i64 e.g.f1) := by rw [← add_field _ _ 4 (by omega)]; exact hcs 4 _ rfl
      have hx5 : wr.cell? ⟨(ad.add (i * 9)).block, (ad.add (i * 9)).off + 5, none⟩ = some (.int .i64 e.g.f2) := by rw [← add_field _ _ 5 (by omega)]; exact hcs 5 _ rfl
      have hx6 : wr.cell? ⟨(ad.add (i * 9)).block, (ad.add (i * 9)).off + 6, none⟩ = some (.int .i64 e.g.f3) := by rw [← add_field _ _ 6 (by omega)]; exact hcs 6 _ rfl
      have hx7 : wr.cell? ⟨(ad.add (i * 9)).block, (ad.add (i * 9)).off + 7, none⟩ = some (.int .i64 e.v) := by rw [← add_field _ _ 7 (by omega)]; exact hcs 7 _ rfl
      have hx8 : wr.cell? ⟨(ad.add (i * 9)).block, (ad.add (i * 9)).off + 8, none⟩ = some (.slice A8 e.bs.length c8) := by rw [← add_field _ _ 8 (by omega)]; exact hcs 8 _ rfl
      have HC8 := Aside0.mk hC8
      have HL8 := Aside0.mk hl8
      clear hcs hC8 hl8
      go_wp2_with fail
      try go_at_call 30
      refine (show Calls Tryd.prog 30 #[.agg #[.int .i64 e.f0, .int .i64 e.f1, .int .i64 e.f2, .int .i64 e.g.f0, .int .i64 e.g.f1, .int .i64 e.g.f2, .int .i64 e.g.f3, .int .i64 e.v, .slice A8 e.bs.length c8]] wr _ from line.calls e A8 c8 wr (HTAB.out.below HB2.out) HC8.out HL8.out).mono ?_
      rintro r w5 ⟨rfl, hb⟩
      have HB5 := Aside0.mk (below_b HB2.out hb HB2.out.size)
      clear hb HC8 HL8 hx0 hx1 hx2 hx3 hx4 hx5 hx6 hx7 hx8
      by_cases h0 : checkE e = 0
      · have hLS : lineS e = (lineT e, 0) := if_pos h0
        have HP := Aside0.mk (show P = printF (l.drop (i + 1)) (t ++ ((lineT e).data.toList ++ [10])) from by rw [HP.out]; exact if_pos h0)
        have HSZ := Aside0.mk (lineT_size (evOk h0))
        rw [hLS]
        generalize lineT e = T at HP HSZ ⊢
        clear hLS h0
        have HTN : Aside0 ((⟨t.toArray⟩ : ByteArray) ++ T ++ ⟨#[10]⟩ = ⟨(t ++ (T.data.toList ++ [10])).toArray⟩) := ⟨by
          apply ByteArray.ext
          rw [ByteArray.data_append, ByteArray.data_append]
          apply Array.ext'
          rw [Array.toList_append, Array.toList_append]
          simp⟩
        have HTZ : Aside0 ((t ++ (T.data.toList ++ [10])).length ≤ (i + 1) * 1612) := ⟨by
          have h5 := HSZ.out
          rw [← ByteArray.size_data, ← Array.length_toList] at h5
          have := HON.out
          rw [List.length_append, List.length_append, List.length_cons, List.length_nil]; omega⟩
        obtain ⟨U, hU⟩ : ∃ U : ByteArray, U = ⟨t.toArray⟩ := ⟨_, rfl⟩
        have hu1 : U.size + T.size ≤ 9223372036854775807 := by
          have := HON.out; have := HSZ.out
          have e1 : U.size = t.length := by rw [hU]; exact List.size_toArray
          omega
        have hu2 : (U ++ T).size + 1 ≤ 9223372036854775807 := by
          have := HON.out; have := HSZ.out
          have e1 : U.size = t.length := by rw [hU]; exact List.size_toArray
          rw [ByteArray.size_append]
          omega
        have hu3 : U.size + T.size + 1 ≤ 9223372036854775807 := by rw [ByteArray.size_append] at hu2; exact hu2
        rw [← hU] at HTN ⊢
        clear hU HON
        go_wp2_with fail
        refine ⟨⟨i + 1, _, by omega, by go_num, by rw [← HTN.out], HTZ, HP, HB5⟩, ?_⟩
        simp [intOf]; omega
      · have hLS : lineS e = (⟨#[]⟩, checkE e) := if_neg h0
        have hP : P = ([], checkE e) := by rw [HP.out]; exact if_neg h0
        have hs : s = [] ∧ er ≠ 0 := by
          have h := HS.out
          by_cases h5 : 512 < l.length
          · rw [if_pos h5] at h
            obtain ⟨rfl, rfl⟩ := Prod.mk.inj h
            exact ⟨rfl, by decide⟩
          · rw [if_neg h5, hP] at h
            obtain ⟨rfl, rfl⟩ := Prod.mk.inj h
            exact ⟨rfl, h0⟩
        obtain ⟨rfl, he⟩ := hs
        have hB := HBS.out
        subst hB
        rw [hLS]
        obtain ⟨q, hq⟩ : ∃ q, q = checkE e := ⟨_, rfl⟩
        rw [← hq] at h0 ⊢
        have hd : decide (q = 0) = false := decide_eq_false h0
        have hd2 : decide (er = 0) = false := decide_eq_false he
        have hd3 : (er != 0) = true := bne_iff_ne.mpr he
        clear HP hP hq hLS HS HBS
        go_wp2_with fail
        go_ret
        exact ⟨rfl, HB5.out⟩
    · obtain rfl : i = l.length := by omega
      have hP : P = (t, 0) := by rw [HP.out, List.drop_length]; rfl
      have h := HS.out
      by_cases h5 : 512 < l.length
      · rw [if_pos h5] at h
        obtain ⟨rfl, rfl⟩ := Prod.mk.inj h
        have hB := HBS.out
        subst hB
        clear HP hP h HS HBS HON
        go_wp2_with fail
        go_ret
        exact ⟨rfl, HB2.out⟩
      · rw [if_neg h5, hP] at h
        obtain ⟨rfl, rfl⟩ := Prod.mk.inj h
        have hB := HBS.out
        subst hB
        clear HP hP h HS HBS HON
        go_wp2_with fail
        go_ret
        exact ⟨rfl, HB2.out⟩
end Go.Proofs.YtaoffnhladfdcaaDoor.EScriptTrace
