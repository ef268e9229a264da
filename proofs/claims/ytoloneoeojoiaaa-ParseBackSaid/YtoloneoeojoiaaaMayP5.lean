/- All declarations; Parse, Text, the page's example. -/
import Derived.Test.YtoloneoeojoiaaaMayP4e
import Derived.Test.YtoloneoeojoiaaaMayP4s
import Derived.Test.YtoloneoeojoiaaaMayP4v
namespace Go.Proofs.Ytoloneoeojoiaaa.EParseBack
open Go.RowKit Go.Shelf Go.Proofs.YtoloneoeojoiaaaW.PrintWords Go.Proofs.YtoloneoeojoiaaaW.PrintLast Go.Proofs.YtoloneoeojoiaaaW.PrintMore
set_option linter.unusedVariables false
set_option linter.unusedSimpArgs false
/-- How the declarations end. -/
def EndsDs (w : World) (pb Bs : Nat) (s : Sch) (x : S40) : Out (List DeclT) → Ending → World → Prop
  | .inl (c, st), e, w' => e = .panicked (pnc c) ∧ (∃ s', TokAt w' pb s' st.1 st.2) ∧ Ch (fun k => k = pb ∨ Bs ≤ k) w w'
  | .inr (d, st), e, w' => e = .returned (.tuple #[]) ∧ (∃ s' : Sch, TokAt w' pb s' st.1 st.2 ∧ SchR w' Bs s' (d.foldl addS x)) ∧ Ch (fun k => k = pb ∨ Bs ≤ k) w w'
def x0 : S40 := ⟨[], [], []⟩
theorem addS_len (x : S40) (d : DeclT) : (addS x d).f0.length ≤ x.f0.length + 1 ∧ (addS x d).f1.length ≤ x.f1.length + 1 ∧ (addS x d).f2.length ≤ x.f2.length + 1 := by
  cases d <;> simp [addS]
theorem adds_len : ∀ (acc : List DeclT) (x : S40), (acc.foldl addS x).f0.length ≤ x.f0.length + acc.length ∧ (acc.foldl addS x).f1.length ≤ x.f1.length + acc.length ∧ (acc.foldl addS x).f2.length ≤ x.f2.length + acc.length
  | [], x => by simp
  | d :: acc, x => by
    have h1 := adds_len acc (addS x d)
    have h2 := addS_len x d
    simp only [List.foldl_cons, List.length_cons]
    omega
attribute [local go_sem] Instr.field asAgg
set_option maxHeartbeats 4000000 in
set_option maxRecDepth 100000 in
theorem decls.calls (pb Bs : Nat) (s : Sch) (st : St31) (w : World) (h : TokAt w pb s st.1 st.2) (hs : SchR w Bs s x0) (hpB : pb < Bs) (hBw : Bs ≤ w.heap.size) (hsB : s.B ≤ pb) :
    Calls Try.prog 39 #[.pointer (some ⟨pb, 0, none⟩)] w (EndsDs w pb Bs s x0 (declsP 64 st)) := by
  obtain ⟨O, hO⟩ : ∃ o, o = declsP 64 st := ⟨_, rfl⟩
  rw [← hO]
  have HR0 : Aside0 (O = bindO (declsP (64 - 0) st) fun l st2 => .inr ([] ++ l, st2)) := ⟨by rw [hO]; show _ = bindO (declsP 64 st) _; rcases declsP 64 st with e | ⟨a, b⟩ <;> rfl⟩
  have HT0 := Aside0.mk h
  have HS0 : Aside0 (SchR w Bs s (([] : List DeclT).foldl addS x0)) := ⟨hs⟩
  have HSB0 := Aside0.mk hsB
  have HL : Aside0 (∀ acc : List DeclT, (acc.foldl addS x0).f0.length ≤ acc.length ∧ (acc.foldl addS x0).f1.length ≤ acc.length ∧ (acc.foldl addS x0).f2.length ≤ acc.length) := ⟨fun acc => by have := adds_len acc x0; simpa [x0] using this⟩
  clear hO h hs hsB
  go_enter Try.func39, Try.ntmps39
  go_wp2_with fail
  go_loopw [2] (fun v2 W => ∃ (n : Nat) (acc : List DeclT) (st1 : St31) (s1 : Sch), v2 = .int .i64 (n : Int) ∧ n ≤ 64 ∧ Aside0 (acc.length = n) ∧ Aside0 (O = bindO (declsP (64 - n) st1) fun l st2 => .inr (acc ++ l, st2)) ∧ Aside0 (TokAt W pb s1 st1.1 st1.2) ∧ Aside0 (SchR W Bs s1 (acc.foldl addS x0)) ∧ Aside0 (s1.B ≤ pb) ∧ Aside0 (Ch (fun k => k = pb ∨ Bs ≤ k) w W)) (fun v _ => 65 - (intOf v).toNat)
  case atStart => exact ⟨0, [], st, s, rfl, by omega, ⟨rfl⟩, HR0, HT0, HS0, HSB0, ⟨Ch.refl _ _⟩⟩
  case round =>
    clear HR0 HT0 HS0 HSB0
    obtain ⟨n, acc, st1, s1, rfl, hn, HA, HR, HT, HS, HSB, HC⟩ := hrel
    obtain ⟨l, n1⟩ := st1
    cases l with
    | nil =>
      obtain ⟨A, c, hk, hc, hC, hF⟩ := HT.out.at_
      have hk0 := zcell hk 0 _ rfl
      clear hk hC hF
      go_wp2_with fail
      have hq2 : O = .inr (acc, ([], n1)) := by
        rw [HR.out]
        cases 64 - n <;> (show (.inr (acc ++ [], _) : Out _) = _; rw [List.append_nil])
      subst hq2
      go_end0
      exact ⟨rfl, ⟨s1, HT.out, HS.out⟩, HC.out⟩
    | cons t r =>
      obtain ⟨ad, m, c, hm, hb, hc, hm2, hC, hF, hy0, hy1, hy2⟩ := HT.out.cons
      have HK0 := Aside0.mk (zcell hb 0 _ rfl)
      have hp : (0 : Int) < ((m : Nat) : Int) := by omega
      have hk0 := HK0.out
      clear hb hC hF hy0 hy1 hy2 hm
      by_cases h64 : n < 64
      · have hd : decide ((n : Int) < 64) = true := decide_eq_true (by omega)
        go_wp2_with fail
        go_at_call 54
        refine (need_yes.calls 3 _).mono ?_
        rintro e wA ⟨rfl, rfl⟩
        clear hk0
        go_wp2_with fail
        go_at_call 55
        refine (peek.calls pb s1 (t :: r) n1 _ HT.out).mono ?_
        rintro e w2 ⟨rfl, hb⟩
        rw [show (peekP (t :: r)).f1 = t.f1 from rfl]
        have HT2 := Aside0.mk (HT.out.below hb)
        have HB2 := Aside0.mk hb
        clear hb
        have HB1 := Aside0.mk (Ch.of_below HB2.out (fun k => k = pb ∨ Bs ≤ k))
        have HT1 := Aside0.mk HT2.out
        obtain ⟨b1, hb1⟩ : ∃ b, b = (t.f1.toList == [115, 116, 114, 117, 99, 116]) := ⟨_, rfl⟩
        obtain ⟨b2, hb2⟩ : ∃ b, b = (t.f1.toList == [101, 110, 117, 109]) := ⟨_, rfl⟩
        obtain ⟨b3, hb3⟩ : ∃ b, b = (t.f1.toList == [115, 101, 114, 118, 105, 99, 101]) := ⟨_, rfl⟩
        have HE1 : Aside0 (eqS t.f1 tStruct = b1) := ⟨by rw [hb1]; unfold eqS; rw [show tStruct.toList = [115, 116, 114, 117, 99, 116] from by decide +kernel]⟩
        have HE2 : Aside0 (eqS t.f1 tEnum = b2) := ⟨by rw [hb2]; unfold eqS; rw [show tEnum.toList = [101, 110, 117, 109] from by decide +kernel]⟩
        have HE3 : Aside0 (eqS t.f1 tService = b3) := ⟨by rw [hb3]; unfold eqS; rw [show tService.toList = [115, 101, 114, 118, 105, 99, 101] from by decide +kernel]⟩
        have h1 := hb1.symm
        have h2 := hb2.symm
        have h3 := hb3.symm
        clear hb1 hb2 hb3
        cases b1
        · cases b2
          · cases b3
            · have HW : Aside0 (wordB t.f1 = false) := ⟨by unfold wordB; rw [HE1.out, HE2.out, HE3.out]; rfl⟩
              go_wp2_with fail
              go_at_call 56
              refine (ask.calls pb s1 false (t :: r, n1) _ HT2.out).mono ?_
              rintro e w3 ⟨rfl, ht, hc⟩
              have hq2 : O = .inl (33, (t :: r, n1)) := by
                rw [HR.out, show 64 - n = (63 - n) + 1 by omega]
                show bindO (if (t :: r).length = 0 then _ else bindO (bindO (askP (wordB t.f1) (t :: r, n1)) _) _) _ = _
                rw [if_neg (by simp), HW.out]; rfl
              subst hq2
              exact ⟨rfl, rfl, ⟨s1, ht⟩, (HC.out.trans HB1.out (fun k h => .inl h)).trans hc (fun k h => .inl (by omega))⟩
            · have HW : Aside0 (wordB t.f1 = true) := ⟨by unfold wordB; rw [HE1.out, HE2.out, HE3.out]; rfl⟩
              obtain ⟨D, hD⟩ : ∃ D, D = bindO (blockP svc1P (r, t.f2)) fun q st2 => (.inr (DeclT.v q.1 q.2, st2) : Out DeclT) := ⟨_, rfl⟩
              have HD : Aside0 (declP (t :: r, n1) = D) := ⟨by
                rw [hD]
                show bindO (askP (wordB t.f1) (t :: r, n1)) _ = _
                rw [HW.out]
                show (if eqS t.f1 tStruct = true then _ else if eqS t.f1 tEnum = true then _ else _) = _
                rw [HE1.out, HE2.out]; rfl⟩
              have HDD := Aside0.mk hD
              clear hD
              go_wp2_with fail
              go_at_call 56
              refine (ask.calls pb s1 true (t :: r, n1) _ HT2.out).mono ?_
              rintro e w3 ⟨⟨vv, rfl, rfl⟩, ht, hc⟩
              have HT3 := Aside0.mk (show TokAt w3 pb s1 r t.f2 from ht)
              have HB3 := Aside0.mk ((Ch.of_below HB2.out (fun k => k = pb)).trans hc (fun k h => .inl h))
              clear ht hc
              go_wp2_with fail
              go_at_call 59
              have hw := HL.out acc
              rw [HA.out] at hw
              refine (services.calls pb Bs s1 (r, t.f2) (acc.foldl addS x0) w3 HT3.out (HS.out.keep hpB (HB3.out.mono (fun k h => .inl h))) hpB (by have := HC.out.size; have := HB3.out.size; omega) (by have := HSB.out; omega) (by have := hw.2.2; omega)).mono ?_
              rw [← HDD.out]
              rcases hDc : D with ⟨c', st2⟩ | ⟨d, st2⟩
              · rintro e w4 ⟨rfl, ht, hc⟩
                have hq2 : O = .inl (c', st2) := by
                  rw [HR.out, show 64 - n = (63 - n) + 1 by omega]
                  show bindO (if (t :: r).length = 0 then _ else bindO (declP (t :: r, n1)) _) _ = _
                  rw [if_neg (by simp), HD.out, hDc]; rfl
                subst hq2
                exact ⟨rfl, rfl, ⟨s1, ht⟩, (HC.out.trans HB3.out (fun k h => .inl (by omega))).trans hc (fun k h => .inl h)⟩
              · rintro e w4 ⟨rfl, ⟨s2, hs2, ht, hs⟩, hc⟩
                have HT4 := Aside0.mk ht
                have HS4 : Aside0 (SchR w4 Bs s2 ((acc ++ [d]).foldl addS x0)) := ⟨by rw [List.foldl_append]; exact hs⟩
                have HC4 := Aside0.mk ((HC.out.trans HB3.out (fun k h => .inl (by omega))).trans hc (fun k h => .inl h))
                have HSB4 : Aside0 (s2.B ≤ pb) := ⟨by rw [hs2]; exact HSB.out⟩
                have HR4 : Aside0 (O = bindO (declsP (64 - (n + 1)) st2) fun l st3 => .inr (acc ++ [d] ++ l, st3)) := ⟨by
                  rw [HR.out, show 64 - n = (63 - n) + 1 by omega, show 64 - (n + 1) = 63 - n by omega]
                  show bindO (if (t :: r).length = 0 then _ else bindO (declP (t :: r, n1)) _) _ = _
                  rw [if_neg (by simp), HD.out, hDc]
                  show bindO (bindO (declsP (63 - n) st2) _) _ = _
                  rcases declsP (63 - n) st2 with e | ⟨a, b⟩
                  · rfl
                  · show (.inr (acc ++ (d :: a), b) : Out _) = .inr (acc ++ [d] ++ a, b)
                    simp⟩
                have HA4 : Aside0 ((acc ++ [d]).length = n + 1) := ⟨by rw [List.length_append, HA.out]; rfl⟩
                clear ht hs hc hs2 hw HR HT HS HC HA HT1 HT2 HT3 HB1 HB2 HB3 HSB h1 h2 h3
                go_wp2_with fail
                refine ⟨⟨n + 1, acc ++ [d], st2, s2, by go_num, by omega, HA4, HR4, HT4, HS4, HSB4, HC4⟩, ?_⟩
                simp [intOf]; omega
          · have HW : Aside0 (wordB t.f1 = true) := ⟨by unfold wordB; rw [HE1.out, HE2.out]; cases b3 <;> rfl⟩
            obtain ⟨D, hD⟩ : ∃ D, D = bindO (blockP enum1P (r, t.f2)) fun q st2 => (.inr (DeclT.e q.1 q.2, st2) : Out DeclT) := ⟨_, rfl⟩
            have HD : Aside0 (declP (t :: r, n1) = D) := ⟨by
              rw [hD]
              show bindO (askP (wordB t.f1) (t :: r, n1)) _ = _
              rw [HW.out]
              show (if eqS t.f1 tStruct = true then _ else if eqS t.f1 tEnum = true then _ else _) = _
              rw [HE1.out, HE2.out]; rfl⟩
            have HDD := Aside0.mk hD
            clear hD
            go_wp2_with fail
            go_at_call 56
            refine (ask.calls pb s1 true (t :: r, n1) _ HT2.out).mono ?_
            rintro e w3 ⟨⟨vv, rfl, rfl⟩, ht, hc⟩
            have HT3 := Aside0.mk (show TokAt w3 pb s1 r t.f2 from ht)
            have HB3 := Aside0.mk ((Ch.of_below HB2.out (fun k => k = pb)).trans hc (fun k h => .inl h))
            clear ht hc
            go_wp2_with fail
            go_at_call 58
            have hw := HL.out acc
            rw [HA.out] at hw
            refine (enums.calls pb Bs s1 (r, t.f2) (acc.foldl addS x0) w3 HT3.out (HS.out.keep hpB (HB3.out.mono (fun k h => .inl h))) hpB (by have := HC.out.size; have := HB3.out.size; omega) (by have := HSB.out; omega) (by have := hw.2.1; omega)).mono ?_
            rw [← HDD.out]
            rcases hDc : D with ⟨c', st2⟩ | ⟨d, st2⟩
            · rintro e w4 ⟨rfl, ht, hc⟩
              have hq2 : O = .inl (c', st2) := by
                rw [HR.out, show 64 - n = (63 - n) + 1 by omega]
                show bindO (if (t :: r).length = 0 then _ else bindO (declP (t :: r, n1)) _) _ = _
                rw [if_neg (by simp), HD.out, hDc]; rfl
              subst hq2
              exact ⟨rfl, rfl, ⟨s1, ht⟩, (HC.out.trans HB3.out (fun k h => .inl (by omega))).trans hc (fun k h => .inl h)⟩
            · rintro e w4 ⟨rfl, ⟨s2, hs2, ht, hs⟩, hc⟩
              have HT4 := Aside0.mk ht
              have HS4 : Aside0 (SchR w4 Bs s2 ((acc ++ [d]).foldl addS x0)) := ⟨by rw [List.foldl_append]; exact hs⟩
              have HC4 := Aside0.mk ((HC.out.trans HB3.out (fun k h => .inl (by omega))).trans hc (fun k h => .inl h))
              have HSB4 : Aside0 (s2.B ≤ pb) := ⟨by rw [hs2]; exact HSB.out⟩
              have HR4 : Aside0 (O = bindO (declsP (64 - (n + 1)) st2) fun l st3 => .inr (acc ++ [d] ++ l, st3)) := ⟨by
                rw [HR.out, show 64 - n = (63 - n) + 1 by omega, show 64 - (n + 1) = 63 - n by omega]
                show bindO (if (t :: r).length = 0 then _ else bindO (declP (t :: r, n1)) _) _ = _
                rw [if_neg (by simp), HD.out, hDc]
                show bindO (bindO (declsP (63 - n) st2) _) _ = _
                rcases declsP (63 - n) st2 with e | ⟨a, b⟩
                · rfl
                · show (.inr (acc ++ (d :: a), b) : Out _) = .inr (acc ++ [d] ++ a, b)
                  simp⟩
              have HA4 : Aside0 ((acc ++ [d]).length = n + 1) := ⟨by rw [List.length_append, HA.out]; rfl⟩
              clear ht hs hc hs2 hw HR HT HS HC HA HT1 HT2 HT3 HB1 HB2 HB3 HSB h1 h2 h3
              go_wp2_with fail
              refine ⟨⟨n + 1, acc ++ [d], st2, s2, by go_num, by omega, HA4, HR4, HT4, HS4, HSB4, HC4⟩, ?_⟩
              simp [intOf]; omega
        · have HW : Aside0 (wordB t.f1 = true) := ⟨by unfold wordB; rw [HE1.out]; cases b2 <;> cases b3 <;> rfl⟩
          obtain ⟨D, hD⟩ : ∃ D, D = bindO (blockP struct1P (r, t.f2)) fun q st2 => (.inr (DeclT.s q.1 q.2, st2) : Out DeclT) := ⟨_, rfl⟩
          have HD : Aside0 (declP (t :: r, n1) = D) := ⟨by
            rw [hD]
            show bindO (askP (wordB t.f1) (t :: r, n1)) _ = _
            rw [HW.out]
            show (if eqS t.f1 tStruct = true then _ else if eqS t.f1 tEnum = true then _ else _) = _
            rw [HE1.out]; rfl⟩
          have HDD := Aside0.mk hD
          clear hD
          go_wp2_with fail
          go_at_call 56
          refine (ask.calls pb s1 true (t :: r, n1) _ HT2.out).mono ?_
          rintro e w3 ⟨⟨vv, rfl, rfl⟩, ht, hc⟩
          have HT3 := Aside0.mk (show TokAt w3 pb s1 r t.f2 from ht)
          have HB3 := Aside0.mk ((Ch.of_below HB2.out (fun k => k = pb)).trans hc (fun k h => .inl h))
          clear ht hc
          go_wp2_with fail
          go_at_call 57
          have hw := HL.out acc
          rw [HA.out] at hw
          refine (structs.calls pb Bs s1 (r, t.f2) (acc.foldl addS x0) w3 HT3.out (HS.out.keep hpB (HB3.out.mono (fun k h => .inl h))) hpB (by have := HC.out.size; have := HB3.out.size; omega) (by have := HSB.out; omega) (by have := hw.1; omega)).mono ?_
          rw [← HDD.out]
          rcases hDc : D with ⟨c', st2⟩ | ⟨d, st2⟩
          · rintro e w4 ⟨rfl, ht, hc⟩
            have hq2 : O = .inl (c', st2) := by
              rw [HR.out, show 64 - n = (63 - n) + 1 by omega]
              show bindO (if (t :: r).length = 0 then _ else bindO (declP (t :: r, n1)) _) _ = _
              rw [if_neg (by simp), HD.out, hDc]; rfl
            subst hq2
            exact ⟨rfl, rfl, ⟨s1, ht⟩, (HC.out.trans HB3.out (fun k h => .inl (by omega))).trans hc (fun k h => .inl h)⟩
          · rintro e w4 ⟨rfl, ⟨s2, hs2, ht, hs⟩, hc⟩
            have HT4 := Aside0.mk ht
            have HS4 : Aside0 (SchR w4 Bs s2 ((acc ++ [d]).foldl addS x0)) := ⟨by rw [List.foldl_append]; exact hs⟩
            have HC4 := Aside0.mk ((HC.out.trans HB3.out (fun k h => .inl (by omega))).trans hc (fun k h => .inl h))
            have HSB4 : Aside0 (s2.B ≤ pb) := ⟨by rw [hs2]; exact HSB.out⟩
            have HR4 : Aside0 (O = bindO (declsP (64 - (n + 1)) st2) fun l st3 => .inr (acc ++ [d] ++ l, st3)) := ⟨by
              rw [HR.out, show 64 - n = (63 - n) + 1 by omega, show 64 - (n + 1) = 63 - n by omega]
              show bindO (if (t :: r).length = 0 then _ else bindO (declP (t :: r, n1)) _) _ = _
              rw [if_neg (by simp), HD.out, hDc]
              show bindO (bindO (declsP (63 - n) st2) _) _ = _
              rcases declsP (63 - n) st2 with e | ⟨a, b⟩
              · rfl
              · show (.inr (acc ++ (d :: a), b) : Out _) = .inr (acc ++ [d] ++ a, b)
                simp⟩
            have HA4 : Aside0 ((acc ++ [d]).length = n + 1) := ⟨by rw [List.length_append, HA.out]; rfl⟩
            clear ht hs hc hs2 hw HR HT HS HC HA HT1 HT2 HT3 HB1 HB2 HB3 HSB h1 h2 h3
            go_wp2_with fail
            refine ⟨⟨n + 1, acc ++ [d], st2, s2, by go_num, by omega, HA4, HR4, HT4, HS4, HSB4, HC4⟩, ?_⟩
            simp [intOf]; omega
      · have hd : decide ((n : Int) < 64) = false := decide_eq_false (by omega)
        go_wp2_with fail
        go_at_call 54
        refine (need_no.calls 3 _).mono ?_
        rintro e wA ⟨rfl, rfl⟩
        have hq2 : O = .inl (3, (t :: r, n1)) := by
          rw [HR.out, show 64 - n = 0 by omega]
          show bindO (if (t :: r).length = 0 then _ else _) _ = _
          rw [if_neg (by simp)]; rfl
        subst hq2
        exact ⟨rfl, rfl, ⟨s1, HT.out⟩, HC.out⟩

/-- A schema of nothing, as three cells. -/
def nil40 : Array Value := #[.slice none 0 0, .slice none 0 0, .slice none 0 0]
attribute [local go_sem] Instr.field asAgg
set_option maxHeartbeats 2000000 in
set_option maxRecDepth 100000 in
theorem catch_panic (pb bp r0 r1 r2 : Nat) (s : Sch) (l : List S31) (n c : Int) (w : World) (q0 q1 q2 u0 u1 : Value) (h : TokAt w pb s l n) (hp : w.heap[bp]? = some (.cells #[.pointer (some ⟨pb, 0, none⟩)] 76 (0, 0))) (h0 : w.heap[r0]? = some (.cells #[q0, q1, q2] 40 (0, 0))) (h1 : w.heap[r1]? = some (.cells #[u0] 3 (0, 0))) (h2 : w.heap[r2]? = some (.cells #[u1] 24 (0, 0))) :
    CallsD Try.prog 37 #[.pointer (some ⟨bp, 0, none⟩), .pointer (some ⟨r0, 0, none⟩), .pointer (some ⟨r1, 0, none⟩), .pointer (some ⟨r2, 0, none⟩)] (.panicking (pnc c)) w fun e u' w' =>
      e = .returned (.tuple #[]) ∧ u' = .panicking [{ v := .iface 24 (.int .i64 c), recovered := true }] ∧ w'.heap[r0]? = some (.cells nil40 40 (0, 0)) ∧ w'.heap[r1]? = some (.cells #[.int .i64 (hereP l n)] 3 (0, 0)) ∧ w'.heap[r2]? = some (.cells #[.int .i64 c] 24 (0, 0)) ∧ Ch (fun k => k = r0 ∨ k = r1 ∨ k = r2) w w' := by
  have HT := Aside0.mk h
  have HP := Aside0.mk hp
  have H0 := Aside0.mk h0
  have H1 := Aside0.mk h1
  have H2 := Aside0.mk h2
  have hp0 := zcell hp 0 _ rfl
  clear h hp h0 h1 h2
  have hta : ∀ (v : Value) (W : World), (Instr.typeAssert (.iface 24 v) 20 24 true).run Try.prog W = .ok (.tuple #[v, .bool true]) W := fun v W => rfl
  refine callsD_of_wpS Try.func37 rfl fun c₀ cs hu => ?_
  unfold pnc at hu
  have e : ({ tmps := #[.pointer (some ⟨bp, 0, none⟩), .pointer (some ⟨r0, 0, none⟩), .pointer (some ⟨r1, 0, none⟩), .pointer (some ⟨r2, 0, none⟩)] ++ Array.replicate (Try.f37.ntmps - (#[.pointer (some ⟨bp, 0, none⟩), .pointer (some ⟨r0, 0, none⟩), .pointer (some ⟨r1, 0, none⟩), .pointer (some ⟨r2, 0, none⟩)] : Array Value).size) undef, defers := [] } : Act) = { tmps := #[.pointer (some ⟨bp, 0, none⟩), .pointer (some ⟨r0, 0, none⟩), .pointer (some ⟨r1, 0, none⟩), .pointer (some ⟨r2, 0, none⟩), undef, undef, undef, undef, undef, undef, undef, undef, undef, undef, undef, undef, undef, undef], defers := [] } := by rw [Try.ntmps37]; rfl
  rw [e]
  clear e
  apply wpS_seq
  apply wpS_region
  simp [wpOpsS, go_sem, recoverD, hu, Exit.thenS, hta]
  refine wpS_of_wp ?_
  go_wp2_with fail
  go_at_call 38
  refine (here.calls pb s l n _ HT.out).mono ?_
  rintro e w1 ⟨rfl, hb⟩
  have HB1 := Aside0.mk hb
  have K0 := Aside0.mk ((Ch.of_below hb (fun _ => False)).heap H0.out (fun h => h))
  have K1 := Aside0.mk ((Ch.of_below hb (fun _ => False)).heap H1.out (fun h => h))
  have K2 := Aside0.mk ((Ch.of_below hb (fun _ => False)).heap H2.out (fun h => h))
  clear hb
  have hne12 : ¬ r1 = r2 := fun e => by have a := K1.out; rw [e, K2.out] at a; cases a
  have hne21 : ¬ r2 = r1 := fun e => hne12 e.symm
  go_wp2_with (first | ((with_reducible refine gate_store (p := 1) rfl ?_); refine store_all rfl rfl 40 _ _ rfl nil40 rfl rfl K0.out rfl (by kernel_rfl) (by rfl) ?_; intro w2 h1 h2; have J0 := Aside0.mk h1; have C2 := Aside0.mk h2; have J1 := Aside0.mk (h2.heap K1.out (fun e => by have a := K1.out; rw [e, K0.out] at a; cases a)); have J2 := Aside0.mk (h2.heap K2.out (fun e => by have a := K2.out; rw [e, K0.out] at a; cases a)); have hz1 := zcell J1.out 0 _ rfl; have hf1 := zfree J1.out 0; have hz2 := zcell J2.out 0 _ rfl; have hf2 := zfree J2.out 0; clear h1 h2))
  have hz : ((w2.setCell ⟨r1, 0, none⟩ (.int .i64 (hereP l n))).setCell ⟨r2, 0, none⟩ (.int .i64 c)).heap[r0]? = some (.cells nil40 40 (0, 0)) ∧ ((w2.setCell ⟨r1, 0, none⟩ (.int .i64 (hereP l n))).setCell ⟨r2, 0, none⟩ (.int .i64 c)).heap[r1]? = some (.cells #[.int .i64 (hereP l n)] 3 (0, 0)) ∧ ((w2.setCell ⟨r1, 0, none⟩ (.int .i64 (hereP l n))).setCell ⟨r2, 0, none⟩ (.int .i64 c)).heap[r2]? = some (.cells #[.int .i64 c] 24 (0, 0)) ∧ Ch (fun k => k = r0 ∨ k = r1 ∨ k = r2) w ((w2.setCell ⟨r1, 0, none⟩ (.int .i64 (hereP l n))).setCell ⟨r2, 0, none⟩ (.int .i64 c)) := by
    have c1 : Ch (fun k => k = r1) w2 (w2.setCell ⟨r1, 0, none⟩ (.int .i64 (hereP l n))) := (Ch.refl (fun k => k = r1) w2).set (p := ⟨r1, 0, none⟩) (.inl rfl) _
    have c2 : Ch (fun k => k = r2) (w2.setCell ⟨r1, 0, none⟩ (.int .i64 (hereP l n))) ((w2.setCell ⟨r1, 0, none⟩ (.int .i64 (hereP l n))).setCell ⟨r2, 0, none⟩ (.int .i64 c)) := (Ch.refl (fun k => k = r2) _).set (p := ⟨r2, 0, none⟩) (.inl rfl) _
    have a1 : (w2.setCell ⟨r1, 0, none⟩ (.int .i64 (hereP l n))).heap[r1]? = some (.cells #[.int .i64 (hereP l n)] 3 (0, 0)) := by simpa using zset J1.out 0 (.int .i64 (hereP l n))
    have a2 : ((w2.setCell ⟨r1, 0, none⟩ (.int .i64 (hereP l n))).setCell ⟨r2, 0, none⟩ (.int .i64 c)).heap[r2]? = some (.cells #[.int .i64 c] 24 (0, 0)) := by simpa using zset (c1.heap J2.out hne21) 0 (.int .i64 c)
    have n01 : ¬ r0 = r1 := fun e => by have a := J0.out; rw [e, J1.out] at a; cases a
    have n02 : ¬ r0 = r2 := fun e => by have a := J0.out; rw [e, J2.out] at a; cases a
    exact ⟨c2.heap (c1.heap J0.out n01) n02, c2.heap a1 hne12, a2, (((Ch.of_below HB1.out (fun k => k = r0 ∨ k = r1 ∨ k = r2)).trans C2.out (fun k h => .inl (.inl h))).trans c1 (fun k h => .inl (.inr (.inl h)))).trans c2 (fun k h => .inl (.inr (.inr h)))⟩
  exact ⟨rfl, _, rfl, .tuple #[], by simp [results, Try.results37], rfl, rfl, hz.1, hz.2.1, hz.2.2.1, hz.2.2.2⟩
set_option maxHeartbeats 2000000 in
set_option maxRecDepth 100000 in
theorem catch_idle (bp r0 r1 r2 : Nat) (w : World) : CallsD Try.prog 37 #[.pointer (some ⟨bp, 0, none⟩), .pointer (some ⟨r0, 0, none⟩), .pointer (some ⟨r1, 0, none⟩), .pointer (some ⟨r2, 0, none⟩)] .returning w fun e u' w' => e = .returned (.tuple #[]) ∧ u' = .returning ∧ w' = w := by
  have hta : ∀ (W : World), (Instr.typeAssert .nilIface 20 24 true).run Try.prog W = .ok (.tuple #[.int .i64 0, .bool false]) W := fun W => by kernel_rfl
  refine callsD_of_wpS Try.func37 rfl fun c₀ cs hu => ?_
  have e : ({ tmps := #[.pointer (some ⟨bp, 0, none⟩), .pointer (some ⟨r0, 0, none⟩), .pointer (some ⟨r1, 0, none⟩), .pointer (some ⟨r2, 0, none⟩)] ++ Array.replicate (Try.f37.ntmps - (#[.pointer (some ⟨bp, 0, none⟩), .pointer (some ⟨r0, 0, none⟩), .pointer (some ⟨r1, 0, none⟩), .pointer (some ⟨r2, 0, none⟩)] : Array Value).size) undef, defers := [] } : Act) = { tmps := #[.pointer (some ⟨bp, 0, none⟩), .pointer (some ⟨r0, 0, none⟩), .pointer (some ⟨r1, 0, none⟩), .pointer (some ⟨r2, 0, none⟩), undef, undef, undef, undef, undef, undef, undef, undef, undef, undef, undef, undef, undef, undef], defers := [] } := by rw [Try.ntmps37]; rfl
  rw [e]
  clear e
  apply wpS_seq
  apply wpS_region
  simp [wpOpsS, go_sem, recoverD, hu, Exit.thenS, hta]
  refine wpS_of_wp ?_
  go_wp2_with fail
  exact ⟨rfl, .returning, by rw [← hu], .tuple #[], by simp [results, Try.results37], rfl, rfl, rfl⟩
/-- What the tokens declare. -/
def badT : List S31 → Option (Int × Int)
  | [] => none
  | t :: l => if checkT t = 0 then badT l else some (t.f2, checkT t)
def parseF (l : List S31) : S40 × Int × Int := match badT l with
  | some (i, e) => (x0, i, e)
  | none => match declsP 64 (l, 1) with
    | .inl (c, st) => (x0, hereP st.1 st.2, c)
    | .inr (d, _) => (d.foldl addS x0, 0, 0)
/-- What stands in a result's memory. -/
def isSch (x : S40) (base : Nat) (w : World) (v : Value) : Prop := ∃ a b c, v = .agg #[a, b, c] ∧ Kd.R k47 47 w base (fun _ => True) a x.f0 ∧ Kd.R k86 86 w base (fun _ => True) b x.f1 ∧ Kd.R k91 91 w base (fun _ => True) c x.f2
theorem badT_step (l : List S31) (i : Nat) (h : i < l.length) : badT (l.drop i) = if checkT (rd_T31 l i) = 0 then badT (l.drop (i + 1)) else some ((rd_T31 l i).f2, checkT (rd_T31 l i)) := by
  have e : rd_T31 l i = l[i] := by
    unfold rd_T31
    rw [Int.toNat_natCast, List.getD_eq_getElem?_getD, List.getElem?_eq_getElem h]; rfl
  rw [List.drop_eq_getElem_cons h, e]; rfl
/-- The cells of the results. -/
structure Res (w : World) (r0 r1 r2 : Nat) (q : Array Value) (a b : Int) : Prop where
  mk ::
  h0 : w.heap[r0]? = some (.cells q 40 (0, 0))
  h1 : w.heap[r1]? = some (.cells #[.int .i64 a] 3 (0, 0))
  h2 : w.heap[r2]? = some (.cells #[.int .i64 b] 24 (0, 0))
theorem Res.below {w w1 : World} {r0 r1 r2 : Nat} {q : Array Value} {a b : Int} (h : Res w r0 r1 r2 q a b) (hb : Below w.heap.size w w1) : Res w1 r0 r1 r2 q a b := ⟨(Ch.of_below hb (fun _ => False)).heap h.h0 (fun h => h), (Ch.of_below hb (fun _ => False)).heap h.h1 (fun h => h), (Ch.of_below hb (fun _ => False)).heap h.h2 (fun h => h)⟩
theorem Res.ch {w w1 : World} {S : Nat → Prop} {r0 r1 r2 : Nat} {q : Array Value} {a b : Int} (h : Res w r0 r1 r2 q a b) (hc : Ch S w w1) (n0 : ¬ S r0) (n1 : ¬ S r1) (n2 : ¬ S r2) : Res w1 r0 r1 r2 q a b := ⟨hc.heap h.h0 n0, hc.heap h.h1 n1, hc.heap h.h2 n2⟩
theorem Res.ne {w : World} {r0 r1 r2 : Nat} {q : Array Value} {a b : Int} (h : Res w r0 r1 r2 q a b) : (¬ r0 = r1 ∧ ¬ r0 = r2 ∧ ¬ r1 = r2) ∧ (¬ r1 = r0 ∧ ¬ r2 = r0 ∧ ¬ r2 = r1) := by
  have a1 : ¬ r0 = r1 := fun e => by have a := h.h0; rw [e, h.h1] at a; cases a
  have a2 : ¬ r0 = r2 := fun e => by have a := h.h0; rw [e, h.h2] at a; cases a
  have a3 : ¬ r1 = r2 := fun e => by have a := h.h1; rw [e, h.h2] at a; cases a
  exact ⟨⟨a1, a2, a3⟩, fun e => a1 e.symm, fun e => a2 e.symm, fun e => a3 e.symm⟩
theorem res_vals {w : World} {r0 r1 r2 : Nat} {q0 q1 q2 : Value} {a b : Int} (h : Res w r0 r1 r2 #[q0, q1, q2] a b) (tmps : Array Value) (e0 : tmps.getD 2 undef = .pointer (some ⟨r0, 0, none⟩)) (e1 : tmps.getD 3 undef = .pointer (some ⟨r1, 0, none⟩)) (e2 : tmps.getD 4 undef = .pointer (some ⟨r2, 0, none⟩)) :
    (results Try.f20 tmps).run Try.prog w = .ok (.tuple #[.agg #[q0, q1, q2], .int .i64 a, .int .i64 b]) w := by
  have z1 := zcell h.h1 0 _ rfl
  have z2 := zcell h.h2 0 _ rfl
  have l0 := run_loadVar_row (P := Try.prog) w r0 40 40 #[q0, q1, q2] (0, 0) _ h.h0 Try.underlying40 rfl (by kernel_rfl)
  have l1 : (loadVar 3 ⟨r1, 0, none⟩).run Try.prog w = .ok (.int .i64 a) w := by simp [loadVar, go_sem, z1]
  have l2 : (loadVar 24 ⟨r2, 0, none⟩).run Try.prog w = .ok (.int .i64 b) w := by simp [loadVar, go_sem, z2]
  unfold results
  rw [Try.results20]
  simp only [Array.getD_eq_getD_getElem?] at e0 e1 e2
  simp [e0, e1, e2, asAddr, l0, l1, l2]
theorem Res.drew {w : World} {r0 r1 r2 : Nat} {q : Array Value} {a b : Int} (h : Res w r0 r1 r2 q a b) : Res w.drew r0 r1 r2 q a b := ⟨h.h0, h.h1, h.h2⟩
theorem Res.write {w : World} {r0 r1 r2 : Nat} {q0 q1 q2 : Value} {a b : Int} (h : Res w r0 r1 r2 #[q0, q1, q2] a b) (x y z : Value) (a' b' : Int) :
    Res (((((w.setCell ⟨r0, 0, none⟩ x).setCell ⟨r0, 1, none⟩ y).setCell ⟨r0, 2, none⟩ z).setCell ⟨r1, 0, none⟩ (.int .i64 a')).setCell ⟨r2, 0, none⟩ (.int .i64 b')) r0 r1 r2 #[x, y, z] a' b' ∧ Ch (fun k => k = r0 ∨ k = r1 ∨ k = r2) w (((((w.setCell ⟨r0, 0, none⟩ x).setCell ⟨r0, 1, none⟩ y).setCell ⟨r0, 2, none⟩ z).setCell ⟨r1, 0, none⟩ (.int .i64 a')).setCell ⟨r2, 0, none⟩ (.int .i64 b')) := by
  obtain ⟨⟨n1, n2, n3⟩, n4, n5, n6⟩ := h.ne
  have c1 : Ch (fun k => k = r0) w (((w.setCell ⟨r0, 0, none⟩ x).setCell ⟨r0, 1, none⟩ y).setCell ⟨r0, 2, none⟩ z) := (((Ch.refl (fun k => k = r0) w).set (p := ⟨r0, 0, none⟩) (.inl rfl) _).set (p := ⟨r0, 1, none⟩) (.inl rfl) _).set (p := ⟨r0, 2, none⟩) (.inl rfl) _
  have z0 : (((w.setCell ⟨r0, 0, none⟩ x).setCell ⟨r0, 1, none⟩ y).setCell ⟨r0, 2, none⟩ z).heap[r0]? = some (.cells #[x, y, z] 40 (0, 0)) := by simpa using zset (zset (zset h.h0 0 x) 1 y) 2 z
  have z1 := c1.heap h.h1 n4
  have z2 := c1.heap h.h2 n5
  revert c1 z0 z1 z2
  generalize (((w.setCell ⟨r0, 0, none⟩ x).setCell ⟨r0, 1, none⟩ y).setCell ⟨r0, 2, none⟩ z) = W
  intro c1 z0 z1 z2
  have c2 : Ch (fun k => k = r1) W (W.setCell ⟨r1, 0, none⟩ (.int .i64 a')) := (Ch.refl (fun k => k = r1) W).set (p := ⟨r1, 0, none⟩) (.inl rfl) _
  have c3 : Ch (fun k => k = r2) (W.setCell ⟨r1, 0, none⟩ (.int .i64 a')) ((W.setCell ⟨r1, 0, none⟩ (.int .i64 a')).setCell ⟨r2, 0, none⟩ (.int .i64 b')) := (Ch.refl (fun k => k = r2) _).set (p := ⟨r2, 0, none⟩) (.inl rfl) _
  have y1 : (W.setCell ⟨r1, 0, none⟩ (.int .i64 a')).heap[r1]? = some (.cells #[.int .i64 a'] 3 (0, 0)) := by simpa using zset z1 0 (.int .i64 a')
  have y2 : ((W.setCell ⟨r1, 0, none⟩ (.int .i64 a')).setCell ⟨r2, 0, none⟩ (.int .i64 b')).heap[r2]? = some (.cells #[.int .i64 b'] 24 (0, 0)) := by simpa using zset (c2.heap z2 n6) 0 (.int .i64 b')
  exact ⟨⟨c3.heap (c2.heap z0 n1) n2, c3.heap y1 n3, y2⟩, (c1.mono (S' := fun k => k = r0 ∨ k = r1 ∨ k = r2) (fun k h => .inl h)).trans c2 (fun k h => .inl (.inr (.inl h))) |>.trans c3 (fun k h => .inl (.inr (.inr h)))⟩
theorem C31_lt {w : World} {A : Option Addr} {n : Nat} {l : List S31} (h : Kd.C k31 w A n l) : ∀ ad, A = some ad → 0 < n → ad.block < w.heap.size := by
  intro ad e hp
  obtain ⟨ad', e', f⟩ := h.2.2 hp
  rw [e] at e'
  injection e' with e'
  subst e'
  have hl : 0 < l.length := by rw [h.1]; exact hp
  obtain ⟨c, h1, h2, h3⟩ := f 0 _ (List.getElem?_eq_getElem hl)
  have := k31_open h2
  subst this
  have h4 := World.block_lt_of_cell? _ _ (h3 0 _ rfl)
  rwa [addT_block] at h4
theorem tok_start {w wr : World} {A : Option Addr} {c : Nat} {l : List S31} (hr : Kd.C k31 w A l.length l) (hc : l.length ≤ c) (hb : Below w.heap.size w wr) (o : Obj) : TokAt ((wr.alloc (.cells #[.slice A l.length c, .int .i64 1, .slice none 0 0, .slice none 0 0, .slice none 0 0] 80)).alloc o) wr.heap.size ⟨.slice none 0 0, .slice none 0 0, .slice none 0 0, wr.heap.size⟩ l 1 := by
  have hz : ((wr.alloc (.cells #[.slice A l.length c, .int .i64 1, .slice none 0 0, .slice none 0 0, .slice none 0 0] 80)).alloc o).heap[wr.heap.size]? = some (.cells #[.slice A l.length c, .int .i64 1, .slice none 0 0, .slice none 0 0, .slice none 0 0] 80 (0, 0)) := (Ch.of_below (below_alloc (Below.refl _ _) o) (fun _ => False)).heap (heap_alloc_new wr _) (fun h => h)
  have hlt := C31_lt hr
  have hbb : Below w.heap.size w ((wr.alloc (.cells #[.slice A l.length c, .int .i64 1, .slice none 0 0, .slice none 0 0, .slice none 0 0] 80)).alloc o) := below_b (below_b hb (below_alloc (Below.refl _ _) _) hb.size) (below_alloc (Below.refl _ _) _) (Nat.le_trans hb.size (below_alloc (Below.refl _ _) _).size)
  refine ⟨⟨A, c, hz, hc, Kd.C_below hr hbb, fun ad e hp => ?_⟩, fun ad k c' cs T m h1 h2 h3 => ?_⟩
  · have := hlt ad e hp; have := hb.size; omega
  · rw [hz] at h1
    injection h1 with h1
    injection h1 with h1 _ _
    subst h1
    simp only [List.getElem?_toArray, List.getElem?_cons_zero, Option.some.injEq, Value.slice.injEq] at h2
    have := hlt ad h2.1 (by omega)
    have := hb.size
    show ad.block < wr.heap.size
    omega
attribute [local go_sem] Instr.field asAgg
set_option maxHeartbeats 4000000 in
set_option maxRecDepth 100000 in
theorem Parse.calls (A : Option Addr) (c : Nat) (l : List S31) (w : World) (hr : Kd.C k31 w A l.length l) (hc : l.length ≤ c) :
    Calls Try.prog 20 #[.slice A l.length c] w fun e w' => (∃ v, e = .returned (.tuple #[v, .int .i64 (parseF l).2.1, .int .i64 (parseF l).2.2]) ∧ isSch (parseF l).1 w.heap.size w' v) ∧ Below w.heap.size w w' := by
  obtain ⟨F, hF⟩ : ∃ F, F = parseF l := ⟨_, rfl⟩
  rw [← hF]
  have HF := Aside0.mk hF
  have HR := Aside0.mk hr
  have hlen : l.length ≤ 9223372036854775807 := hr.2.1
  have HL := Aside0.mk hc
  have hmf : ∀ (fn : Fn) (first cap : Array Value) (w : World), (Instr.makeFunc fn first cap).run Try.prog w = .ok (.func fn first cap) w := fun _ _ _ _ => rfl
  clear hF hr hc
  go_enter_defers Try.func20, Try.ntmps20
  go_wp2_with (first | ((with_reducible refine gate_dst (N := 2) rfl ?_); refine box_event ?hg (N := 2) ?hd (cs := #[.slice none 0 0, .slice none 0 0, .slice none 0 0]) (t := 40) ?hr ?_; (case hd => rfl); (case hg => rfl); (case hr => first | (go_simp; done) | (go_simp; rfl)); intro r0 hg0 w1 hbox hb; have K0 := Aside0.mk hbox; have B1 := Aside0.mk hb; have G0 := Aside0.mk hg0; clear hbox hb hg0) | ((with_reducible refine gate_dst (N := 3) rfl ?_); refine box_event ?hg (N := 3) ?hd (cs := #[.int .i64 0]) (t := 3) ?hr ?_; (case hd => rfl); (case hg => rfl); (case hr => first | (go_simp; done) | (go_simp; rfl)); intro r1 hg1 w2 hbox hb; have K1 := Aside0.mk hbox; have B2 := Aside0.mk hb; have G1 := Aside0.mk hg1; clear hbox hb hg1) | ((with_reducible refine gate_dst (N := 4) rfl ?_); refine box_event ?hg (N := 4) ?hd (cs := #[.int .i64 0]) (t := 24) ?hr ?_; (case hd => rfl); (case hg => rfl); (case hr => first | (go_simp; done) | (go_simp; rfl)); intro r2 hg2 w3 hbox hb; have K2 := Aside0.mk hbox; have B3 := Aside0.mk hb; have G2 := Aside0.mk hg2; clear hbox hb hg2))
  have HQ : Aside0 (Res w3 r0 r1 r2 #[.slice none 0 0, .slice none 0 0, .slice none 0 0] 0 0) := ⟨⟨(Ch.of_below B3.out (fun _ => False)).heap ((Ch.of_below B2.out (fun _ => False)).heap K0.out (fun h => h)) (fun h => h), (Ch.of_below B3.out (fun _ => False)).heap K1.out (fun h => h), K2.out⟩⟩
  have HB3 : Aside0 (Below w.heap.size w w3) := ⟨below_b (below_b B1.out B2.out B1.out.size) B3.out (Nat.le_trans B1.out.size B2.out.size)⟩
  have HG0 : Aside0 (w.heap.size ≤ r0 ∧ w.heap.size ≤ r1 ∧ w.heap.size ≤ r2) := ⟨by rw [G0.out, G1.out, G2.out]; exact ⟨Nat.le_refl _, B1.out.size, Nat.le_trans B1.out.size B2.out.size⟩⟩
  have HBT : Aside0 (badT l = badT (l.drop (0 : Int).toNat)) := ⟨rfl⟩
  clear K0 K1 K2 B1 B2 B3 G0 G1 G2
  go_loopw [11] (fun v11 W => ∃ i : Int, 0 ≤ i ∧ i ≤ l.length ∧ v11 = .int .i64 i ∧ Aside0 (badT l = badT (l.drop i.toNat)) ∧ Aside0 (Below w.heap.size w W) ∧ Aside0 (Res W r0 r1 r2 #[.slice none 0 0, .slice none 0 0, .slice none 0 0] 0 0)) (fun v _ => l.length - (intOf v).toNat)
  case atStart => exact ⟨0, by omega, by omega, rfl, HBT, HB3, HQ⟩
  case round =>
    clear HBT HB3 HQ
    obtain ⟨i, i0, ile, rfl, HBT, HB, HQ⟩ := hrel
    by_cases hlt : i < l.length
    · obtain ⟨ad, e1, hy0, hy1, hy2⟩ := at_T31 (Kd.C_below HR.out HB.out) i i0 hlt
      cases e1
      have HST : Aside0 (badT (l.drop i.toNat) = if checkT (rd_T31 l i) = 0 then badT (l.drop (i.toNat + 1)) else some ((rd_T31 l i).f2, checkT (rd_T31 l i))) := ⟨by have := badT_step l i.toNat (by omega); rwa [Int.toNat_of_nonneg i0] at this⟩
      obtain ⟨t, ht⟩ : ∃ t, t = rd_T31 l i := ⟨_, rfl⟩
      rw [← ht] at hy0 hy1 hy2 HST
      clear ht
      obtain ⟨er, her⟩ : ∃ er, er = checkT t := ⟨_, rfl⟩
      have HER := Aside0.mk her
      rw [← her] at HST
      clear her
      go_wp2_with (first | ((with_reducible refine gate_dst (N := 6) rfl ?_); refine box_event ?hg (N := 6) ?hd (cs := #[.int .i64 0, .string ⟨#[]⟩, .int .i64 0]) (t := 31) ?hr ?_; (case hd => rfl); (case hg => rfl); (case hr => first | (go_simp; done) | (go_simp; rfl)); intro g6 hg6 w4 hbox hb; have BK4 := Aside0.mk hbox; have HQ4 := Aside0.mk (HQ.out.below hb); have HB4 := Aside0.mk (below_b HB.out hb HB.out.size); have NE6 := Aside0.mk (show ¬ r0 = g6 ∧ ¬ r1 = g6 ∧ ¬ r2 = g6 ∧ w.heap.size ≤ g6 from by have a := lt_of_block HQ.out.h0; have b := lt_of_block HQ.out.h1; have d := lt_of_block HQ.out.h2; have e := HB.out.size; omega); clear hbox hb hg6) | ((with_reducible refine gate_store (p := 6) rfl ?_); refine store_all rfl rfl 31 _ _ rfl #[.int .i64 t.f0, .string t.f1, .int .i64 t.f2] rfl rfl BK4.out rfl (by kernel_rfl) (by rfl) ?_; intro w5 h1 h2; have BK5 := Aside0.mk h1; have HQ5 := Aside0.mk (HQ4.out.ch h2 NE6.out.1 NE6.out.2.1 NE6.out.2.2.1); have HB5 := Aside0.mk (below_ch HB4.out h2 HB4.out.size (fun k e => by rw [e]; exact NE6.out.2.2.2)); have hz0 := zcell h1 0 _ rfl; have hz1 := zcell h1 1 _ rfl; have hz2 := zcell h1 2 _ rfl; clear h1 h2))
      go_at_call 26
      refine (lex_Check.calls t.f0 t.f1 t.f2 er _ (congrArg some HER.out.symm)).mono ?_
      rintro e w6 ⟨rfl, hb⟩
      have BK6 := Aside0.mk ((Ch.of_below hb (fun _ => False)).heap BK5.out (fun h => h))
      have HQ6 := Aside0.mk (HQ5.out.below hb)
      have HB6 := Aside0.mk (below_b HB5.out hb HB5.out.size)
      clear hb hz0 hz1 hz2 HQ4 HB4 BK4 HQ5 HB5 BK5 HQ HB hy0 hy1 hy2
      by_cases he : er = 0
      · subst he
        have HB7 : Aside0 (badT l = badT (l.drop (i + 1).toNat)) := ⟨by rw [HBT.out, HST.out, if_pos rfl, show (i + 1).toNat = i.toNat + 1 by omega]⟩
        clear HST HBT
        go_wp2_with fail
        refine ⟨⟨i + 1, by omega, by omega, rfl, HB7, HB6, HQ6⟩, ?_⟩
        simp [intOf]; omega
      · have HFF : Aside0 (F = (x0, t.f2, er)) := ⟨by rw [HF.out]; unfold parseF; rw [HBT.out, HST.out, if_neg he]⟩
        have hne : (er != 0) = true := bne_iff_ne.mpr he
        clear he HST HBT
        go_wp2_with fail
        obtain ⟨⟨n1, n2, n3⟩, n4, n5, n6⟩ := HQ6.out.ne
        have m1 := NE6.out.1
        have m2 := NE6.out.2.1
        have m3 := NE6.out.2.2.1
        have m4 : ¬ g6 = r0 := fun e => m1 e.symm
        have m5 : ¬ g6 = r1 := fun e => m2 e.symm
        have m6 : ¬ g6 = r2 := fun e => m3 e.symm
        have a0 := zcell HQ6.out.h0 0 _ rfl
        have a1 := zcell HQ6.out.h0 1 _ rfl
        have a2 := zcell HQ6.out.h0 2 _ rfl
        have a3 := zcell HQ6.out.h1 0 _ rfl
        have a4 := zcell HQ6.out.h2 0 _ rfl
        have f0 := zfree HQ6.out.h0 0
        have f1 := zfree HQ6.out.h0 1
        have f2 := zfree HQ6.out.h0 2
        have f3 := zfree HQ6.out.h1 0
        have f4 := zfree HQ6.out.h2 0
        have a5 := zcell BK6.out 2 _ rfl
        go_region
        all_goals
          clear a0 a1 a2 a3 a4 a5 f0 f1 f2 f3 f4 hne
          go_wp2_with fail
          have hF := HFF.out
          subst hF
          obtain ⟨hw, hcw⟩ := HQ6.out.write (.slice none 0 0) (.slice none 0 0) (.slice none 0 0) t.f2 er
          refine ⟨_, res_vals hw.drew _ rfl rfl rfl, ⟨_, rfl, ⟨_, _, _, rfl, Kd.R_nil _ _ _ _ _, Kd.R_nil _ _ _ _ _, Kd.R_nil _ _ _ _ _⟩⟩, ?_⟩
          exact below_drew (below_ch HB6.out hcw HB6.out.size (fun k h => by have := HG0.out; omega))
    · have HFN : Aside0 (badT l = none) := ⟨by rw [HBT.out, List.drop_eq_nil_of_le (by omega)]; rfl⟩
      clear HBT
      go_wp2_with fail
      go_at_call 39
      have HTW := Aside0.mk (tok_start HR.out HL.out HB.out (.cells #[.pointer (some ⟨wr.heap.size, 0, none⟩)] 76))
      have HBW : Aside0 (((wr.alloc (.cells #[.slice A l.length c, .int .i64 1, .slice none 0 0, .slice none 0 0, .slice none 0 0] 80)).alloc (.cells #[.pointer (some ⟨wr.heap.size, 0, none⟩)] 76)).heap[wr.heap.size + 1]? = some (.cells #[.pointer (some ⟨wr.heap.size, 0, none⟩)] 76 (0, 0))) := ⟨by
        have := heap_alloc_new (wr.alloc (.cells #[.slice A l.length c, .int .i64 1, .slice none 0 0, .slice none 0 0, .slice none 0 0] 80)) (.cells #[.pointer (some ⟨wr.heap.size, 0, none⟩)] 76)
        simpa using this⟩
      have HBB : Aside0 (Below wr.heap.size wr ((wr.alloc (.cells #[.slice A l.length c, .int .i64 1, .slice none 0 0, .slice none 0 0, .slice none 0 0] 80)).alloc (.cells #[.pointer (some ⟨wr.heap.size, 0, none⟩)] 76))) := ⟨below_alloc (below_alloc (Below.refl _ _) _) _⟩
      have HQW := Aside0.mk (HQ.out.below HBB.out)
      refine (decls.calls wr.heap.size (wr.heap.size + 2) _ (l, 1) _ HTW.out ⟨Kd.R_nil _ _ _ _ _, Kd.R_nil _ _ _ _ _, Kd.R_nil _ _ _ _ _⟩ (by omega) (by simp) (Nat.le_refl _)).mono ?_
      have q0 := lt_of_block HQ.out.h0
      have q1 := lt_of_block HQ.out.h1
      have q2 := lt_of_block HQ.out.h2
      have qb := HB.out.size
      rcases hd : declsP 64 (l, 1) with ⟨c', st⟩ | ⟨d, st⟩
      · rintro e w7 ⟨rfl, ⟨s', ht⟩, hch⟩
        have hF := HF.out
        unfold parseF at hF
        rw [HFN.out, hd] at hF
        subst hF
        have HQ7 := HQW.out.ch hch (by omega) (by omega) (by omega)
        have HB7 : Below w.heap.size w w7 := below_ch (below_b HB.out HBB.out HB.out.size) hch (Nat.le_trans HB.out.size HBB.out.size) (fun k h => by omega)
        have HP7 := hch.heap HBW.out (by omega)
        refine leaves_cons (f := 37) (args := #[.pointer (some ⟨wr.heap.size + 1, 0, none⟩), .pointer (some ⟨r0, 0, none⟩), .pointer (some ⟨r1, 0, none⟩), .pointer (some ⟨r2, 0, none⟩)]) (by simp) (by simp [go_sem]) ?_
        refine (catch_panic wr.heap.size (wr.heap.size + 1) r0 r1 r2 s' st.1 st.2 c' w7 _ _ _ _ _ ht HP7 HQ7.h0 HQ7.h1 HQ7.h2).mono ?_
        rintro e u' w8 ⟨rfl, rfl, k0, k1, k2, hch8⟩
        refine ⟨_, res_vals ⟨k0, k1, k2⟩ _ rfl rfl rfl, ⟨_, rfl, ⟨_, _, _, rfl, Kd.R_nil _ _ _ _ _, Kd.R_nil _ _ _ _ _, Kd.R_nil _ _ _ _ _⟩⟩, ?_⟩
        exact below_ch HB7 hch8 HB7.size (fun k h => by have := HG0.out; omega)
      · rintro e w7 ⟨rfl, ⟨s', ht, hs⟩, hch⟩
        have hF := HF.out
        unfold parseF at hF
        rw [HFN.out, hd] at hF
        subst hF
        have HQ7 := Aside0.mk (HQW.out.ch hch (by omega) (by omega) (by omega))
        have HB7 : Aside0 (Below w.heap.size w w7) := ⟨below_ch (below_b HB.out HBB.out HB.out.size) hch (Nat.le_trans HB.out.size HBB.out.size) (fun k h => by omega)⟩
        have HP7 := Aside0.mk (hch.heap HBW.out (by omega))
        have HS7 := Aside0.mk hs
        obtain ⟨A7, c7, hk7, _⟩ := ht.at_
        have HK7 := Aside0.mk hk7
        obtain ⟨sa, sb, sc, sB⟩ := s'
        obtain ⟨Aa, ca, ha⟩ := Kd.R_slice hs.1
        obtain ⟨Ab, cb, hb⟩ := Kd.R_slice hs.2.1
        obtain ⟨Ac, cc, hcc⟩ := Kd.R_slice hs.2.2
        subst ha hb hcc
        have hp0 := zcell HP7.out 0 _ rfl
        have hk2 := zcell HK7.out 2 _ rfl
        have hk3 := zcell HK7.out 3 _ rfl
        have hk4 := zcell HK7.out 4 _ rfl
        have a0 := zcell HQ7.out.h0 0 _ rfl
        have a1 := zcell HQ7.out.h0 1 _ rfl
        have a2 := zcell HQ7.out.h0 2 _ rfl
        have a3 := zcell HQ7.out.h1 0 _ rfl
        have a4 := zcell HQ7.out.h2 0 _ rfl
        have f0 := zfree HQ7.out.h0 0
        have f1 := zfree HQ7.out.h0 1
        have f2 := zfree HQ7.out.h0 2
        have f3 := zfree HQ7.out.h1 0
        have f4 := zfree HQ7.out.h2 0
        obtain ⟨⟨n1, n2, n3⟩, n4, n5, n6⟩ := HQ7.out.ne
        clear ht hs hch hk7
        go_wp2_with fail
        refine leaves_cons (f := 37) (args := #[.pointer (some ⟨wr.heap.size + 1, 0, none⟩), .pointer (some ⟨r0, 0, none⟩), .pointer (some ⟨r1, 0, none⟩), .pointer (some ⟨r2, 0, none⟩)]) (by simp) (by simp [go_sem]) ?_
        refine (catch_idle (wr.heap.size + 1) r0 r1 r2 _).mono ?_
        rintro e u' w8 ⟨rfl, rfl, rfl⟩
        obtain ⟨hw, hcw⟩ := HQ7.out.write (.slice Aa (List.foldl addS x0 d).f0.length ca) (.slice Ab (List.foldl addS x0 d).f1.length cb) (.slice Ac (List.foldl addS x0 d).f2.length cc) 0 0
        refine ⟨_, res_vals hw _ rfl rfl rfl, ⟨_, rfl, ⟨_, _, _, rfl, ?_, ?_, ?_⟩⟩, below_ch HB7.out hcw HB7.out.size (fun k h => by have := HG0.out; omega)⟩
        · exact Kd.R_lower (Kd.R_mono (R_ch (Kd.R_bound HS7.out.1) hcw (fun k hk e => by have := hk.2.1; omega)) (fun _ _ => trivial)) (by omega)
        · exact Kd.R_lower (Kd.R_mono (R_ch (Kd.R_bound HS7.out.2.1) hcw (fun k hk e => by have := hk.2.1; omega)) (fun _ _ => trivial)) (by omega)
        · exact Kd.R_lower (Kd.R_mono (R_ch (Kd.R_bound HS7.out.2.2) hcw (fun k hk e => by have := hk.2.1; omega)) (fun _ _ => trivial)) (by omega)
def textF (s : ByteArray) : S40 × Int × Int := if (tokF s).2.2 = 0 then parseF (tokF s).1 else (x0, (tokF s).2.1, (tokF s).2.2)
theorem res_vals22 {w : World} {r0 : Nat} {q0 q1 q2 : Value} (h : w.heap[r0]? = some (.cells #[q0, q1, q2] 40 (0, 0))) (tmps : Array Value) (e0 : tmps.getD 2 undef = .pointer (some ⟨r0, 0, none⟩)) :
    (results Try.f22 tmps).run Try.prog w = .ok (.tuple #[.agg #[q0, q1, q2], tmps.getD 3 undef, tmps.getD 4 undef]) w :=
  results_list (rs := [.cell 2 40, .tmp 3, .tmp 4]) Try.results22 (by simp) (.cell r0 40 #[q0, q1, q2] (0, 0) _ e0 h Try.underlying40 rfl (by kernel_rfl) (.tmp (.tmp .nil)))
set_option maxHeartbeats 4000000 in
set_option maxRecDepth 100000 in
theorem Text.calls (s : ByteArray) (w : World) : Calls Try.prog 22 #[.string s] w fun e w' => (∃ v, e = .returned (.tuple #[v, .int .i64 (textF s).2.1, .int .i64 (textF s).2.2]) ∧ isSch (textF s).1 w.heap.size w' v) ∧ Below w.heap.size w w' := by
  obtain ⟨F, hF⟩ : ∃ F, F = textF s := ⟨_, rfl⟩
  rw [← hF]
  unfold textF at hF
  obtain ⟨⟨l, i, er⟩, hT⟩ : ∃ T, T = tokF s := ⟨_, rfl⟩
  rw [← hT] at hF
  have HT : Aside0 (lex_Tokens.f s = some (l, i, er)) := ⟨by rw [tok_f, hT]⟩
  have HF := Aside0.mk hF
  clear hF hT
  go_enter Try.func22, Try.ntmps22
  go_wp2_with ((with_reducible refine gate_dst (N := 2) rfl ?_); refine box_event ?hg (N := 2) ?hd (cs := #[.slice none 0 0, .slice none 0 0, .slice none 0 0]) (t := 40) ?hr ?_; (case hd => rfl); (case hg => rfl); (case hr => first | (go_simp; done) | (go_simp; rfl)); intro r0 hg0 w1 hbox hb; have K1 := Aside0.mk hbox; have B1 := Aside0.mk hb; have G0 := Aside0.mk hg0; clear hbox hb hg0)
  go_at_call 15
  refine (lex_Tokens.calls s l i er _ HT.out).mono ?_
  rintro e w2 ⟨v, rfl, hv, hb⟩
  obtain ⟨A, c, rfl⟩ := Kd.R_slice hv
  have K2 := Aside0.mk ((Ch.of_below hb (fun _ => False)).heap K1.out (fun h => h))
  have B2 := Aside0.mk (below_b B1.out hb B1.out.size)
  have HV := Aside0.mk (Kd.R_reads' hv).2
  clear hv hb K1
  by_cases he : er = 0
  · subst he
    have HF2 : Aside0 (F = parseF l) := ⟨by rw [HF.out]; exact if_pos rfl⟩
    go_wp2_with fail
    go_at_call 20
    refine (Parse.calls A c l _ HV.out.2 HV.out.1).mono ?_
    rw [← HF2.out]
    rintro e w3 ⟨⟨v, rfl, ⟨a, b, c', rfl, h1, h2, h3⟩⟩, hb⟩
    have K3 := Aside0.mk ((Ch.of_below hb (fun _ => False)).heap K2.out (fun h => h))
    have B3 := Aside0.mk (below_b B2.out hb B2.out.size)
    have R1 := Aside0.mk h1
    have R2 := Aside0.mk h2
    have R3 := Aside0.mk h3
    obtain ⟨Aa, ca, ha⟩ := Kd.R_slice h1
    obtain ⟨Ab, cb, hb'⟩ := Kd.R_slice h2
    obtain ⟨Ac, cc, hcc⟩ := Kd.R_slice h3
    subst ha hb' hcc
    clear h1 h2 h3 hb
    go_wp2_with ((with_reducible refine gate_store (p := 2) rfl ?_); refine store_all rfl rfl 40 _ _ rfl #[.slice Aa F.1.f0.length ca, .slice Ab F.1.f1.length cb, .slice Ac F.1.f2.length cc] rfl rfl K3.out rfl (by kernel_rfl) (by rfl) ?_; intro w4 h1 h2; have K4 := Aside0.mk h1; have C4 := Aside0.mk h2; clear h1 h2)
    have hlt : r0 < w2.heap.size := lt_of_block K2.out
    have hws : w.heap.size ≤ w2.heap.size := B2.out.size
    refine bodyPost_ret (res_vals22 K4.out _ rfl) rfl ⟨⟨_, rfl, ⟨_, _, _, rfl, ?_, ?_, ?_⟩⟩, below_ch B3.out C4.out B3.out.size (fun k h => by rw [h, G0.out]; exact Nat.le_refl _)⟩
    · exact Kd.R_lower (Kd.R_mono (R_ch (Kd.R_bound R1.out) C4.out (fun k hk e => by have := hk.2.1; omega)) (fun _ _ => trivial)) hws
    · exact Kd.R_lower (Kd.R_mono (R_ch (Kd.R_bound R2.out) C4.out (fun k hk e => by have := hk.2.1; omega)) (fun _ _ => trivial)) hws
    · exact Kd.R_lower (Kd.R_mono (R_ch (Kd.R_bound R3.out) C4.out (fun k hk e => by have := hk.2.1; omega)) (fun _ _ => trivial)) hws
  · have HF2 : Aside0 (F = (x0, i, er)) := ⟨by rw [HF.out]; exact if_neg he⟩
    have hne : (er != 0) = true := bne_iff_ne.mpr he
    go_wp2_with ((with_reducible refine gate_store (p := 2) rfl ?_); refine store_all rfl rfl 40 _ _ rfl #[.slice none 0 0, .slice none 0 0, .slice none 0 0] rfl rfl K2.out rfl (by kernel_rfl) (by rfl) ?_; intro w4 h1 h2; have K4 := Aside0.mk h1; have C4 := Aside0.mk h2; clear h1 h2)
    have hF := HF2.out
    subst hF
    exact bodyPost_ret (res_vals22 K4.out _ rfl) rfl ⟨⟨_, rfl, ⟨_, _, _, rfl, Kd.R_nil _ _ _ _ _, Kd.R_nil _ _ _ _ _, Kd.R_nil _ _ _ _ _⟩⟩, below_ch B2.out C4.out B2.out.size (fun k h => by rw [h, G0.out]; exact Nat.le_refl _)⟩
def tAl : ByteArray := ⟨#[115, 116, 114, 117, 99, 116, 32, 80, 32, 123, 32, 49, 32, 120, 32, 58, 32, 105, 110, 116, 32, 59, 32, 125]⟩
theorem al_text : textF tAl = (⟨[⟨⟨#[80]⟩, [⟨⟨#[120]⟩, 1, ⟨2, ⟨#[]⟩, []⟩⟩]⟩], [], []⟩, 0, 0) := by kernel_rfl
set_option maxHeartbeats 4000000 in
set_option maxRecDepth 100000 in
theorem alive.calls (w : World) : Calls Try.prog 19 #[] w fun e w' => e = .returned (.bool true) ∧ Below w.heap.size w w' := by
  obtain ⟨F, hF⟩ : ∃ F, F = textF tAl := ⟨_, rfl⟩
  obtain ⟨a, ha⟩ : ∃ a : S47, a = ⟨⟨#[80]⟩, [⟨⟨#[120]⟩, 1, ⟨2, ⟨#[]⟩, []⟩⟩]⟩ := ⟨_, rfl⟩
  have HF : Aside0 (textF tAl = (⟨[a], [], []⟩, 0, 0)) := ⟨by rw [al_text, ha]⟩
  have HA0 : Aside0 (a.f0.toList = [80] ∧ a.f1.length = 1) := ⟨by rw [ha]; exact ⟨by decide +kernel, rfl⟩⟩
  clear ha hF
  go_enter Try.func19, Try.ntmps19
  go_wp2_with fail
  go_at_call 22
  refine (Text.calls tAl _).mono ?_
  rw [HF.out]
  rintro e w1 ⟨⟨v, rfl, ⟨v1, v2, v3, rfl, h1, h2, h3⟩⟩, hb⟩
  obtain ⟨A1, c1, hv1⟩ := Kd.R_slice h1
  obtain ⟨A2, c2, hv2⟩ := Kd.R_slice h2
  obtain ⟨A3, c3, hv3⟩ := Kd.R_slice h3
  subst hv1 hv2 hv3
  have HC1 := Aside0.mk (Kd.R_reads' h1).2.2
  have HB1 := Aside0.mk hb
  clear h1 h2 h3 hb
  go_wp2_with (first | ((with_reducible refine gate_dst (N := 1) rfl ?_); refine box_event ?hg (N := 1) ?hd (cs := #[.slice none 0 0, .slice none 0 0, .slice none 0 0]) (t := 40) ?hr ?_; (case hd => rfl); (case hg => rfl); (case hr => first | (go_simp; done) | (go_simp; rfl)); intro g1 hg1 w2 hbox hb; have BK2 := Aside0.mk hbox; have HB2 := Aside0.mk hb; have HG := Aside0.mk hg1; clear hbox hb hg1) | ((with_reducible refine gate_store (p := 1) rfl ?_); refine store_all rfl rfl 40 _ _ rfl #[.slice A1 1 c1, .slice A2 0 c2, .slice A3 0 c3] rfl rfl BK2.out rfl (by kernel_rfl) (by rfl) ?_; intro w3 h1 h2; have BK3 := Aside0.mk h1; have HB3 := Aside0.mk (below_ch HB2.out h2 HB2.out.size (fun k e => by rw [e, HG.out]; exact Nat.le_refl _)); clear h1 h2))
  go_at_call 21
  refine (waybilllaw05_num.calls 0 0 _ rfl).mono ?_
  rintro e w4 ⟨rfl, hd⟩
  have HB4 := Aside0.mk (below_b HB3.out hd.below HB3.out.size)
  have BK4 := Aside0.mk ((Ch.of_below hd.below (fun _ => False)).heap BK3.out (fun h => h))
  obtain ⟨ad, A5, c5, e5, hy0, hy1, hle5, hC5⟩ := at_T47 (Kd.C_below HC1.out HB4.out) 0 (by omega) (by simp)
  rw [show rd_T47 [a] 0 = a from rfl] at hy0 hy1 hle5 hC5
  rw [HA0.out.2] at hy1
  have ez : ad.add (Int.toNat 0 * 2) = ad := by
    show ad.add 0 = ad
    unfold Addr.add; simp
  rw [ez] at hy0 hy1
  cases e5
  have hz0 := zcell BK4.out 0 _ rfl
  have hn : (a.f0.toList == [80]) = true := by rw [HA0.out.1]; rfl
  clear hd hC5 hle5 HC1 HB2 HB3 BK2 BK3
  go_wp2_with fail
  go_ret
  exact ⟨rfl, below_b HB1.out HB4.out HB1.out.size⟩
end Go.Proofs.Ytoloneoeojoiaaa.EParseBack

