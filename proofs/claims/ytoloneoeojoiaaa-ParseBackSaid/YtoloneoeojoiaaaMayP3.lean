/- The loops over parts; a declaration that is appended. -/
import Derived.Test.YtoloneoeojoiaaaMayP2
namespace Go.Proofs.Ytoloneoeojoiaaa.EParseBack
open Go.RowKit Go.Shelf Go.Proofs.YtoloneoeojoiaaaW.PrintWords Go.Proofs.YtoloneoeojoiaaaW.PrintLast Go.Proofs.YtoloneoeojoiaaaW.PrintMore
set_option linter.unusedVariables false
set_option linter.unusedSimpArgs false
attribute [local go_sem] Instr.field asAgg
set_option maxHeartbeats 2000000 in
set_option maxRecDepth 100000 in
theorem partsE.calls (B pb bp bx : Nat) (s : Sch) (st : St31) (nm : ByteArray) (w : World) (h : TokAt w pb s st.1 st.2) (hj : JX k88 88 86 B pb bp bx nm [] w) (hsB : s.B ≤ B) (hpB : pb < B) (hbp : B ≤ bp) (hbx : B ≤ bx) (hne : bp ≠ bx) :
    Calls Try.prog 80 #[.pointer (some ⟨pb, 0, none⟩), .func (.func 84) #[] #[.pointer (some ⟨bp, 0, none⟩), .pointer (some ⟨bx, 0, none⟩)]] w (EndsC w pb s B (fun c w' => JX k88 88 86 B pb bp bx nm c w') (partsP enum1P 32 st)) := by
  obtain ⟨O, hO⟩ : ∃ o, o = partsP enum1P 32 st := ⟨_, rfl⟩
  rw [← hO]
  have HR0 : Aside0 (O = bindO (partsP enum1P (32 - 0) st) fun l st2 => .inr ([] ++ l, st2)) := ⟨by rw [hO]; show _ = bindO (partsP enum1P 32 st) _; rcases partsP enum1P 32 st with e | ⟨a, b⟩ <;> rfl⟩
  have HT0 := Aside0.mk h
  have HJ0 := Aside0.mk hj
  clear hO h hj
  go_enter Try.func80, Try.ntmps80
  go_wp2_with fail
  go_loopw [4] (fun v4 W => ∃ (n : Nat) (acc : List S88) (st1 : St31), v4 = .int .i64 (n : Int) ∧ n ≤ 32 ∧ Aside0 (acc.length = n) ∧ Aside0 (O = bindO (partsP enum1P (32 - n) st1) fun l st2 => .inr (acc ++ l, st2)) ∧ Aside0 (TokAt W pb s st1.1 st1.2) ∧ Aside0 (JX k88 88 86 B pb bp bx nm acc W) ∧ Aside0 (Ch (fun k => k = pb ∨ B ≤ k) w W)) (fun v _ => 33 - (intOf v).toNat)
  case atStart => exact ⟨0, [], st, rfl, by omega, ⟨rfl⟩, HR0, HT0, HJ0, ⟨Ch.refl _ _⟩⟩
  case round =>
    clear HR0 HT0 HJ0
    obtain ⟨n, acc, st1, rfl, hn, HA, HR, HT, HJ, HC⟩ := hrel
    have hpp := HT.out
    obtain ⟨b, hb⟩ : ∃ b, b = eqS (peekP st1.1).f1 tRC := ⟨_, rfl⟩
    have HB := Aside0.mk hb
    have hb2 : ((peekP st1.1).f1.toList == [125]) = b := by rw [hb]; unfold eqS; rw [show tRC.toList = [125] from by decide +kernel]
    have HB2 := Aside0.mk hb2
    clear hb hpp hb2
    cases b
    · -- a part, or an error
      have hb2 := HB2.out
      have hb3 : ((peekP st1.1).f1.toList != [125]) = true := by rw [bne, hb2]; rfl
      obtain ⟨A, c, hk, hc, hC, hF⟩ := HT.out.at_
      obtain ⟨m, hm⟩ : ∃ m, m = st1.1.length := ⟨_, rfl⟩
      have hml : m ≤ 9223372036854775807 := by rw [hm]; exact hC.2.1
      have HM := Aside0.mk hm
      rw [← hm] at hk
      have HK0 := Aside0.mk (zcell hk 0 _ rfl)
      clear hk hC hF hm
      have HX := Aside0.mk hb3
      by_cases hz : m = 0
      · have hq : (((m : Nat) : Int) == 0) = true := by rw [hz]; rfl
        have HZ := Aside0.mk hz
        clear hz hb2 hb3
        go_wp2_with fail
        go_at_call 55
        refine (peek.calls pb s st1.1 st1.2 _ HT.out).mono ?_
        rintro e w1 ⟨rfl, hb⟩
        have HT1 := Aside0.mk (HT.out.below hb)
        have HP1 := Aside0.mk hb
        have HB1 := Aside0.mk (Ch.of_below hb (fun k => k = pb ∨ B ≤ k))
        have hk1 := cell_step hb HK0.out
        clear hb
        have hx := HX.out
        have hx2 := HB2.out
        go_wp2_with fail
        go_at_call 54
        refine (need_yes.calls 3 _).mono ?_
        rintro e wA ⟨rfl, rfl⟩
        clear hk1
        go_wp2_with fail
        go_at_call 84
        have HJ1 : Aside0 (JX k88 88 86 B pb bp bx nm acc w1) := ⟨by obtain ⟨cs_, hb_⟩ := HT.out.block; exact JX.ch HJ.out (Ch.of_below HP1.out (fun k => k = pb)) (by omega) (by omega) hb_ (by decide)⟩
        refine (enum1.calls B pb bp bx s st1 nm acc _ HT1.out HJ1.out hsB hpB hbp hbx hne (by have := HA.out; omega)).mono ?_
        rcases ho1 : enum1P st1 with ⟨c', st2⟩ | ⟨x, st2⟩
        · rintro e w2 ⟨rfl, ht, hc⟩
          have hq2 : O = .inl (c', st2) := by
            rw [HR.out]
            have hl : st1.1.length = 0 := by rw [← HM.out]; exact HZ.out
            cases hk : 32 - n with
            | zero =>
              show bindO (if eqS (peekP st1.1).f1 tRC = true then _ else if st1.1.length = 0 then _ else _) _ = _
              rw [← HB.out, if_neg (by decide), if_pos hl, ho1]; rfl
            | succ k =>
              show bindO (if eqS (peekP st1.1).f1 tRC = true then _ else _) _ = _
              rw [← HB.out, if_neg (by decide), ho1]; rfl
          subst hq2
          exact ⟨rfl, rfl, ht, (HC.out.trans HB1.out (fun k h => .inl h)).trans hc (fun k h => .inl h)⟩
        · exfalso
          have hl : st1.1 = [] := List.eq_nil_of_length_eq_zero (by rw [← HM.out]; exact HZ.out)
          obtain ⟨l1, n1⟩ := st1
          have hl : l1 = [] := hl
          subst hl
          have ho1 : enum1P ([], n1) = .inr (x, st2) := ho1
          rw [show enum1P ([], n1) = .inl (8, ([], n1)) from rfl] at ho1
          cases ho1
      · have hq : (((m : Nat) : Int) == 0) = false := by simp; omega
        have HZ := Aside0.mk hz
        clear hz hb2 hb3
        by_cases h32 : n < 32
        · have hd : decide ((n : Int) < 32) = true := decide_eq_true (by omega)
          go_wp2_with fail
          go_at_call 55
          refine (peek.calls pb s st1.1 st1.2 _ HT.out).mono ?_
          rintro e w1 ⟨rfl, hb⟩
          have HT1 := Aside0.mk (HT.out.below hb)
          have HP1 := Aside0.mk hb
          have HB1 := Aside0.mk (Ch.of_below hb (fun k => k = pb ∨ B ≤ k))
          have hk1 := cell_step hb HK0.out
          clear hb
          have hx := HX.out
          have hx2 := HB2.out
          go_wp2_with fail
          go_at_call 54
          refine (need_yes.calls 3 _).mono ?_
          rintro e wA ⟨rfl, rfl⟩
          clear hk1
          go_wp2_with fail
          go_at_call 84
          have HJ1 : Aside0 (JX k88 88 86 B pb bp bx nm acc w1) := ⟨by obtain ⟨cs_, hb_⟩ := HT.out.block; exact JX.ch HJ.out (Ch.of_below HP1.out (fun k => k = pb)) (by omega) (by omega) hb_ (by decide)⟩
          refine (enum1.calls B pb bp bx s st1 nm acc _ HT1.out HJ1.out hsB hpB hbp hbx hne (by have := HA.out; omega)).mono ?_
          rcases ho1 : enum1P st1 with ⟨c', st2⟩ | ⟨x, st2⟩
          · rintro e w2 ⟨rfl, ht, hc⟩
            have hq2 : O = .inl (c', st2) := by
              rw [HR.out]
              rw [show 32 - n = (31 - n) + 1 by omega]
              show bindO (if eqS (peekP st1.1).f1 tRC = true then _ else _) _ = _
              rw [← HB.out, if_neg (by decide), ho1]; rfl
            subst hq2
            exact ⟨rfl, rfl, ht, (HC.out.trans HB1.out (fun k h => .inl h)).trans hc (fun k h => .inl h)⟩
          · rintro e w2 ⟨rfl, hj, ht, hc⟩
            have HT2 := Aside0.mk ht
            have HJ2 := Aside0.mk hj
            have HC2 := Aside0.mk ((HC.out.trans HB1.out (fun k h => .inl h)).trans hc (fun k h => .inl h))
            have HR2 : Aside0 (O = bindO (partsP enum1P (32 - (n + 1)) st2) fun l st3 => .inr (acc ++ [x] ++ l, st3)) := ⟨by
              rw [HR.out, show 32 - n = (31 - n) + 1 by omega, show 32 - (n + 1) = 31 - n by omega]
              show bindO (if eqS (peekP st1.1).f1 tRC = true then _ else _) _ = _
              rw [← HB.out, if_neg (by decide), ho1]
              show bindO (bindO (partsP enum1P (31 - n) st2) _) _ = _
              rcases partsP enum1P (31 - n) st2 with e | ⟨a, b⟩
              · rfl
              · show (.inr (acc ++ (x :: a), b) : Out _) = .inr (acc ++ [x] ++ a, b)
                simp⟩
            have HA2 : Aside0 ((acc ++ [x]).length = n + 1) := ⟨by rw [List.length_append, HA.out]; rfl⟩
            clear ht hj hc HR HT HJ HC HJ1 HA hx hx2
            go_wp2_with fail
            refine ⟨⟨n + 1, acc ++ [x], st2, by go_num, by omega, HA2, HR2, HT2, HJ2, HC2⟩, ?_⟩
            simp [intOf]; omega
        · have hd : decide ((n : Int) < 32) = false := decide_eq_false (by omega)
          go_wp2_with fail
          go_at_call 55
          refine (peek.calls pb s st1.1 st1.2 _ HT.out).mono ?_
          rintro e w1 ⟨rfl, hb⟩
          have HT1 := Aside0.mk (HT.out.below hb)
          have HP1 := Aside0.mk hb
          have HB1 := Aside0.mk (Ch.of_below hb (fun k => k = pb ∨ B ≤ k))
          have hk1 := cell_step hb HK0.out
          clear hb
          have hx := HX.out
          have hx2 := HB2.out
          go_wp2_with fail
          go_at_call 54
          refine (need_no.calls 3 _).mono ?_
          rintro e wA ⟨rfl, rfl⟩
          clear hk1
          go_wp2_with fail
          have hq2 : O = .inl (3, st1) := by
            rw [HR.out, show 32 - n = 0 by omega]
            show bindO (if eqS (peekP st1.1).f1 tRC = true then _ else if st1.1.length = 0 then _ else _) _ = _
            rw [← HB.out, if_neg (by decide), if_neg (by rw [← HM.out]; exact HZ.out)]; rfl
          subst hq2
          exact ⟨rfl, rfl, HT1.out, HC.out.trans HB1.out (fun k h => .inl h)⟩
    · -- the end
      have hb2 := HB2.out
      have hb3 : ((peekP st1.1).f1.toList != [125]) = false := by rw [bne, hb2]; rfl
      have HX := Aside0.mk hb3
      clear hb2 hb3
      go_wp2_with fail
      go_at_call 55
      refine (peek.calls pb s st1.1 st1.2 _ HT.out).mono ?_
      rintro e w1 ⟨rfl, hb⟩
      have HT1 := Aside0.mk (HT.out.below hb)
      have HP1 := Aside0.mk hb
      have HB1 := Aside0.mk (Ch.of_below hb (fun k => k = pb ∨ B ≤ k))
      skip
      clear hb
      have hx := HX.out
      have hx2 := HB2.out
      go_wp2_with fail
      go_at_call 79
      refine (sign.calls pb s tRC st1 _ w1.heap.size (HT1.out.below (below_alloc (Below.refl _ _) _)) (heap_alloc_new w1 _) (by have := tok_lt HT1.out; omega)).mono ?_
      rcases ho1 : signP tRC st1 with ⟨c', st2⟩ | ⟨q, st2⟩
      · rintro e w2 ⟨rfl, ht, hc⟩
        have hq2 : O = .inl (c', st2) := by
          rw [HR.out]
          cases 32 - n <;>
          · show bindO (if eqS (peekP st1.1).f1 tRC = true then _ else _) _ = _
            rw [← HB.out, if_pos rfl, ho1]; rfl
        subst hq2
        exact ⟨rfl, rfl, ht, ((HC.out.trans HB1.out (fun k h => .inl h)).alloc _).trans hc (fun k h => .inl (.inl h))⟩
      · rintro e w2 ⟨⟨vv, rfl, rfl⟩, ht, hc⟩
        have hq2 : O = .inr (acc, st2) := by
          rw [HR.out]
          cases 32 - n <;>
          · show bindO (if eqS (peekP st1.1).f1 tRC = true then _ else _) _ = _
            rw [← HB.out, if_pos rfl, ho1]
            show (.inr (acc ++ [], st2) : Out _) = _
            rw [List.append_nil]
        subst hq2
        have HT2 := Aside0.mk ht
        have hcc : Ch (fun k => k = pb) w1 w2 := ((Ch.refl (fun k => k = pb) w1).alloc _).trans hc (fun k h => .inl h)
        have HC2 := Aside0.mk ((HC.out.trans HB1.out (fun k h => .inl h)).trans hcc (fun k h => .inl (.inl h)))
        have HJ2 : Aside0 (JX k88 88 86 B pb bp bx nm acc w2) := ⟨by obtain ⟨cs_, hb_⟩ := HT.out.block; exact JX.ch HJ.out ((Ch.of_below HP1.out (fun k => k = pb)).trans hcc (fun k h => .inl h)) (by omega) (by omega) hb_ (by decide)⟩
        clear ht hc hcc HR HT HJ HC hx hx2
        go_wp2_with fail
        go_end0
        exact ⟨rfl, HJ2.out, HT2.out, HC2.out⟩

attribute [local go_sem] Instr.field asAgg
set_option maxHeartbeats 2000000 in
set_option maxRecDepth 100000 in
theorem partsS.calls (B pb bp bx : Nat) (s : Sch) (st : St31) (nm : ByteArray) (w : World) (h : TokAt w pb s st.1 st.2) (hj : JX k52 52 47 B pb bp bx nm [] w) (hsB : s.B ≤ B) (hpB : pb < B) (hbp : B ≤ bp) (hbx : B ≤ bx) (hne : bp ≠ bx) :
    Calls Try.prog 80 #[.pointer (some ⟨pb, 0, none⟩), .func (.func 81) #[] #[.pointer (some ⟨bp, 0, none⟩), .pointer (some ⟨bx, 0, none⟩)]] w (EndsC w pb s B (fun c w' => JX k52 52 47 B pb bp bx nm c w') (partsP struct1P 32 st)) := by
  obtain ⟨O, hO⟩ : ∃ o, o = partsP struct1P 32 st := ⟨_, rfl⟩
  rw [← hO]
  have HR0 : Aside0 (O = bindO (partsP struct1P (32 - 0) st) fun l st2 => .inr ([] ++ l, st2)) := ⟨by rw [hO]; show _ = bindO (partsP struct1P 32 st) _; rcases partsP struct1P 32 st with e | ⟨a, b⟩ <;> rfl⟩
  have HT0 := Aside0.mk h
  have HJ0 := Aside0.mk hj
  clear hO h hj
  go_enter Try.func80, Try.ntmps80
  go_wp2_with fail
  go_loopw [4] (fun v4 W => ∃ (n : Nat) (acc : List S52) (st1 : St31), v4 = .int .i64 (n : Int) ∧ n ≤ 32 ∧ Aside0 (acc.length = n) ∧ Aside0 (O = bindO (partsP struct1P (32 - n) st1) fun l st2 => .inr (acc ++ l, st2)) ∧ Aside0 (TokAt W pb s st1.1 st1.2) ∧ Aside0 (JX k52 52 47 B pb bp bx nm acc W) ∧ Aside0 (Ch (fun k => k = pb ∨ B ≤ k) w W)) (fun v _ => 33 - (intOf v).toNat)
  case atStart => exact ⟨0, [], st, rfl, by omega, ⟨rfl⟩, HR0, HT0, HJ0, ⟨Ch.refl _ _⟩⟩
  case round =>
    clear HR0 HT0 HJ0
    obtain ⟨n, acc, st1, rfl, hn, HA, HR, HT, HJ, HC⟩ := hrel
    have hpp := HT.out
    obtain ⟨b, hb⟩ : ∃ b, b = eqS (peekP st1.1).f1 tRC := ⟨_, rfl⟩
    have HB := Aside0.mk hb
    have hb2 : ((peekP st1.1).f1.toList == [125]) = b := by rw [hb]; unfold eqS; rw [show tRC.toList = [125] from by decide +kernel]
    have HB2 := Aside0.mk hb2
    clear hb hpp hb2
    cases b
    · -- a part, or an error
      have hb2 := HB2.out
      have hb3 : ((peekP st1.1).f1.toList != [125]) = true := by rw [bne, hb2]; rfl
      obtain ⟨A, c, hk, hc, hC, hF⟩ := HT.out.at_
      obtain ⟨m, hm⟩ : ∃ m, m = st1.1.length := ⟨_, rfl⟩
      have hml : m ≤ 9223372036854775807 := by rw [hm]; exact hC.2.1
      have HM := Aside0.mk hm
      rw [← hm] at hk
      have HK0 := Aside0.mk (zcell hk 0 _ rfl)
      clear hk hC hF hm
      have HX := Aside0.mk hb3
      by_cases hz : m = 0
      · have hq : (((m : Nat) : Int) == 0) = true := by rw [hz]; rfl
        have HZ := Aside0.mk hz
        clear hz hb2 hb3
        go_wp2_with fail
        go_at_call 55
        refine (peek.calls pb s st1.1 st1.2 _ HT.out).mono ?_
        rintro e w1 ⟨rfl, hb⟩
        have HT1 := Aside0.mk (HT.out.below hb)
        have HP1 := Aside0.mk hb
        have HB1 := Aside0.mk (Ch.of_below hb (fun k => k = pb ∨ B ≤ k))
        have hk1 := cell_step hb HK0.out
        clear hb
        have hx := HX.out
        have hx2 := HB2.out
        go_wp2_with fail
        go_at_call 54
        refine (need_yes.calls 3 _).mono ?_
        rintro e wA ⟨rfl, rfl⟩
        clear hk1
        go_wp2_with fail
        go_at_call 81
        have HJ1 : Aside0 (JX k52 52 47 B pb bp bx nm acc w1) := ⟨by obtain ⟨cs_, hb_⟩ := HT.out.block; exact JX.ch HJ.out (Ch.of_below HP1.out (fun k => k = pb)) (by omega) (by omega) hb_ (by decide)⟩
        refine (struct1.calls B pb bp bx s st1 nm acc _ HT1.out HJ1.out hsB hpB hbp hbx hne (by have := HA.out; omega)).mono ?_
        rcases ho1 : struct1P st1 with ⟨c', st2⟩ | ⟨x, st2⟩
        · rintro e w2 ⟨rfl, ht, hc⟩
          have hq2 : O = .inl (c', st2) := by
            rw [HR.out]
            have hl : st1.1.length = 0 := by rw [← HM.out]; exact HZ.out
            cases hk : 32 - n with
            | zero =>
              show bindO (if eqS (peekP st1.1).f1 tRC = true then _ else if st1.1.length = 0 then _ else _) _ = _
              rw [← HB.out, if_neg (by decide), if_pos hl, ho1]; rfl
            | succ k =>
              show bindO (if eqS (peekP st1.1).f1 tRC = true then _ else _) _ = _
              rw [← HB.out, if_neg (by decide), ho1]; rfl
          subst hq2
          exact ⟨rfl, rfl, ht, (HC.out.trans HB1.out (fun k h => .inl h)).trans hc (fun k h => .inl h)⟩
        · exfalso
          have hl : st1.1 = [] := List.eq_nil_of_length_eq_zero (by rw [← HM.out]; exact HZ.out)
          obtain ⟨l1, n1⟩ := st1
          have hl : l1 = [] := hl
          subst hl
          have ho1 : struct1P ([], n1) = .inr (x, st2) := ho1
          rw [show struct1P ([], n1) = .inl (8, ([], n1)) from rfl] at ho1
          cases ho1
      · have hq : (((m : Nat) : Int) == 0) = false := by simp; omega
        have HZ := Aside0.mk hz
        clear hz hb2 hb3
        by_cases h32 : n < 32
        · have hd : decide ((n : Int) < 32) = true := decide_eq_true (by omega)
          go_wp2_with fail
          go_at_call 55
          refine (peek.calls pb s st1.1 st1.2 _ HT.out).mono ?_
          rintro e w1 ⟨rfl, hb⟩
          have HT1 := Aside0.mk (HT.out.below hb)
          have HP1 := Aside0.mk hb
          have HB1 := Aside0.mk (Ch.of_below hb (fun k => k = pb ∨ B ≤ k))
          have hk1 := cell_step hb HK0.out
          clear hb
          have hx := HX.out
          have hx2 := HB2.out
          go_wp2_with fail
          go_at_call 54
          refine (need_yes.calls 3 _).mono ?_
          rintro e wA ⟨rfl, rfl⟩
          clear hk1
          go_wp2_with fail
          go_at_call 81
          have HJ1 : Aside0 (JX k52 52 47 B pb bp bx nm acc w1) := ⟨by obtain ⟨cs_, hb_⟩ := HT.out.block; exact JX.ch HJ.out (Ch.of_below HP1.out (fun k => k = pb)) (by omega) (by omega) hb_ (by decide)⟩
          refine (struct1.calls B pb bp bx s st1 nm acc _ HT1.out HJ1.out hsB hpB hbp hbx hne (by have := HA.out; omega)).mono ?_
          rcases ho1 : struct1P st1 with ⟨c', st2⟩ | ⟨x, st2⟩
          · rintro e w2 ⟨rfl, ht, hc⟩
            have hq2 : O = .inl (c', st2) := by
              rw [HR.out]
              rw [show 32 - n = (31 - n) + 1 by omega]
              show bindO (if eqS (peekP st1.1).f1 tRC = true then _ else _) _ = _
              rw [← HB.out, if_neg (by decide), ho1]; rfl
            subst hq2
            exact ⟨rfl, rfl, ht, (HC.out.trans HB1.out (fun k h => .inl h)).trans hc (fun k h => .inl h)⟩
          · rintro e w2 ⟨rfl, hj, ht, hc⟩
            have HT2 := Aside0.mk ht
            have HJ2 := Aside0.mk hj
            have HC2 := Aside0.mk ((HC.out.trans HB1.out (fun k h => .inl h)).trans hc (fun k h => .inl h))
            have HR2 : Aside0 (O = bindO (partsP struct1P (32 - (n + 1)) st2) fun l st3 => .inr (acc ++ [x] ++ l, st3)) := ⟨by
              rw [HR.out, show 32 - n = (31 - n) + 1 by omega, show 32 - (n + 1) = 31 - n by omega]
              show bindO (if eqS (peekP st1.1).f1 tRC = true then _ else _) _ = _
              rw [← HB.out, if_neg (by decide), ho1]
              show bindO (bindO (partsP struct1P (31 - n) st2) _) _ = _
              rcases partsP struct1P (31 - n) st2 with e | ⟨a, b⟩
              · rfl
              · show (.inr (acc ++ (x :: a), b) : Out _) = .inr (acc ++ [x] ++ a, b)
                simp⟩
            have HA2 : Aside0 ((acc ++ [x]).length = n + 1) := ⟨by rw [List.length_append, HA.out]; rfl⟩
            clear ht hj hc HR HT HJ HC HJ1 HA hx hx2
            go_wp2_with fail
            refine ⟨⟨n + 1, acc ++ [x], st2, by go_num, by omega, HA2, HR2, HT2, HJ2, HC2⟩, ?_⟩
            simp [intOf]; omega
        · have hd : decide ((n : Int) < 32) = false := decide_eq_false (by omega)
          go_wp2_with fail
          go_at_call 55
          refine (peek.calls pb s st1.1 st1.2 _ HT.out).mono ?_
          rintro e w1 ⟨rfl, hb⟩
          have HT1 := Aside0.mk (HT.out.below hb)
          have HP1 := Aside0.mk hb
          have HB1 := Aside0.mk (Ch.of_below hb (fun k => k = pb ∨ B ≤ k))
          have hk1 := cell_step hb HK0.out
          clear hb
          have hx := HX.out
          have hx2 := HB2.out
          go_wp2_with fail
          go_at_call 54
          refine (need_no.calls 3 _).mono ?_
          rintro e wA ⟨rfl, rfl⟩
          clear hk1
          go_wp2_with fail
          have hq2 : O = .inl (3, st1) := by
            rw [HR.out, show 32 - n = 0 by omega]
            show bindO (if eqS (peekP st1.1).f1 tRC = true then _ else if st1.1.length = 0 then _ else _) _ = _
            rw [← HB.out, if_neg (by decide), if_neg (by rw [← HM.out]; exact HZ.out)]; rfl
          subst hq2
          exact ⟨rfl, rfl, HT1.out, HC.out.trans HB1.out (fun k h => .inl h)⟩
    · -- the end
      have hb2 := HB2.out
      have hb3 : ((peekP st1.1).f1.toList != [125]) = false := by rw [bne, hb2]; rfl
      have HX := Aside0.mk hb3
      clear hb2 hb3
      go_wp2_with fail
      go_at_call 55
      refine (peek.calls pb s st1.1 st1.2 _ HT.out).mono ?_
      rintro e w1 ⟨rfl, hb⟩
      have HT1 := Aside0.mk (HT.out.below hb)
      have HP1 := Aside0.mk hb
      have HB1 := Aside0.mk (Ch.of_below hb (fun k => k = pb ∨ B ≤ k))
      skip
      clear hb
      have hx := HX.out
      have hx2 := HB2.out
      go_wp2_with fail
      go_at_call 79
      refine (sign.calls pb s tRC st1 _ w1.heap.size (HT1.out.below (below_alloc (Below.refl _ _) _)) (heap_alloc_new w1 _) (by have := tok_lt HT1.out; omega)).mono ?_
      rcases ho1 : signP tRC st1 with ⟨c', st2⟩ | ⟨q, st2⟩
      · rintro e w2 ⟨rfl, ht, hc⟩
        have hq2 : O = .inl (c', st2) := by
          rw [HR.out]
          cases 32 - n <;>
          · show bindO (if eqS (peekP st1.1).f1 tRC = true then _ else _) _ = _
            rw [← HB.out, if_pos rfl, ho1]; rfl
        subst hq2
        exact ⟨rfl, rfl, ht, ((HC.out.trans HB1.out (fun k h => .inl h)).alloc _).trans hc (fun k h => .inl (.inl h))⟩
      · rintro e w2 ⟨⟨vv, rfl, rfl⟩, ht, hc⟩
        have hq2 : O = .inr (acc, st2) := by
          rw [HR.out]
          cases 32 - n <;>
          · show bindO (if eqS (peekP st1.1).f1 tRC = true then _ else _) _ = _
            rw [← HB.out, if_pos rfl, ho1]
            show (.inr (acc ++ [], st2) : Out _) = _
            rw [List.append_nil]
        subst hq2
        have HT2 := Aside0.mk ht
        have hcc : Ch (fun k => k = pb) w1 w2 := ((Ch.refl (fun k => k = pb) w1).alloc _).trans hc (fun k h => .inl h)
        have HC2 := Aside0.mk ((HC.out.trans HB1.out (fun k h => .inl h)).trans hcc (fun k h => .inl (.inl h)))
        have HJ2 : Aside0 (JX k52 52 47 B pb bp bx nm acc w2) := ⟨by obtain ⟨cs_, hb_⟩ := HT.out.block; exact JX.ch HJ.out ((Ch.of_below HP1.out (fun k => k = pb)).trans hcc (fun k h => .inl h)) (by omega) (by omega) hb_ (by decide)⟩
        clear ht hc hcc HR HT HJ HC hx hx2
        go_wp2_with fail
        go_end0
        exact ⟨rfl, HJ2.out, HT2.out, HC2.out⟩

attribute [local go_sem] Instr.field asAgg
set_option maxHeartbeats 2000000 in
set_option maxRecDepth 100000 in
theorem partsV.calls (B pb bp bx : Nat) (s : Sch) (st : St31) (nm : ByteArray) (w : World) (h : TokAt w pb s st.1 st.2) (hj : JX k94 94 91 B pb bp bx nm [] w) (hsB : s.B ≤ B) (hpB : pb < B) (hbp : B ≤ bp) (hbx : B ≤ bx) (hne : bp ≠ bx) :
    Calls Try.prog 80 #[.pointer (some ⟨pb, 0, none⟩), .func (.func 85) #[] #[.pointer (some ⟨bp, 0, none⟩), .pointer (some ⟨bx, 0, none⟩)]] w (EndsC w pb s B (fun c w' => JX k94 94 91 B pb bp bx nm c w') (partsP svc1P 32 st)) := by
  obtain ⟨O, hO⟩ : ∃ o, o = partsP svc1P 32 st := ⟨_, rfl⟩
  rw [← hO]
  have HR0 : Aside0 (O = bindO (partsP svc1P (32 - 0) st) fun l st2 => .inr ([] ++ l, st2)) := ⟨by rw [hO]; show _ = bindO (partsP svc1P 32 st) _; rcases partsP svc1P 32 st with e | ⟨a, b⟩ <;> rfl⟩
  have HT0 := Aside0.mk h
  have HJ0 := Aside0.mk hj
  clear hO h hj
  go_enter Try.func80, Try.ntmps80
  go_wp2_with fail
  go_loopw [4] (fun v4 W => ∃ (n : Nat) (acc : List S94) (st1 : St31), v4 = .int .i64 (n : Int) ∧ n ≤ 32 ∧ Aside0 (acc.length = n) ∧ Aside0 (O = bindO (partsP svc1P (32 - n) st1) fun l st2 => .inr (acc ++ l, st2)) ∧ Aside0 (TokAt W pb s st1.1 st1.2) ∧ Aside0 (JX k94 94 91 B pb bp bx nm acc W) ∧ Aside0 (Ch (fun k => k = pb ∨ B ≤ k) w W)) (fun v _ => 33 - (intOf v).toNat)
  case atStart => exact ⟨0, [], st, rfl, by omega, ⟨rfl⟩, HR0, HT0, HJ0, ⟨Ch.refl _ _⟩⟩
  case round =>
    clear HR0 HT0 HJ0
    obtain ⟨n, acc, st1, rfl, hn, HA, HR, HT, HJ, HC⟩ := hrel
    have hpp := HT.out
    obtain ⟨b, hb⟩ : ∃ b, b = eqS (peekP st1.1).f1 tRC := ⟨_, rfl⟩
    have HB := Aside0.mk hb
    have hb2 : ((peekP st1.1).f1.toList == [125]) = b := by rw [hb]; unfold eqS; rw [show tRC.toList = [125] from by decide +kernel]
    have HB2 := Aside0.mk hb2
    clear hb hpp hb2
    cases b
    · -- a part, or an error
      have hb2 := HB2.out
      have hb3 : ((peekP st1.1).f1.toList != [125]) = true := by rw [bne, hb2]; rfl
      obtain ⟨A, c, hk, hc, hC, hF⟩ := HT.out.at_
      obtain ⟨m, hm⟩ : ∃ m, m = st1.1.length := ⟨_, rfl⟩
      have hml : m ≤ 9223372036854775807 := by rw [hm]; exact hC.2.1
      have HM := Aside0.mk hm
      rw [← hm] at hk
      have HK0 := Aside0.mk (zcell hk 0 _ rfl)
      clear hk hC hF hm
      have HX := Aside0.mk hb3
      by_cases hz : m = 0
      · have hq : (((m : Nat) : Int) == 0) = true := by rw [hz]; rfl
        have HZ := Aside0.mk hz
        clear hz hb2 hb3
        go_wp2_with fail
        go_at_call 55
        refine (peek.calls pb s st1.1 st1.2 _ HT.out).mono ?_
        rintro e w1 ⟨rfl, hb⟩
        have HT1 := Aside0.mk (HT.out.below hb)
        have HP1 := Aside0.mk hb
        have HB1 := Aside0.mk (Ch.of_below hb (fun k => k = pb ∨ B ≤ k))
        have hk1 := cell_step hb HK0.out
        clear hb
        have hx := HX.out
        have hx2 := HB2.out
        go_wp2_with fail
        go_at_call 54
        refine (need_yes.calls 3 _).mono ?_
        rintro e wA ⟨rfl, rfl⟩
        clear hk1
        go_wp2_with fail
        go_at_call 85
        have HJ1 : Aside0 (JX k94 94 91 B pb bp bx nm acc w1) := ⟨by obtain ⟨cs_, hb_⟩ := HT.out.block; exact JX.ch HJ.out (Ch.of_below HP1.out (fun k => k = pb)) (by omega) (by omega) hb_ (by decide)⟩
        refine (svc1.calls B pb bp bx s st1 nm acc _ HT1.out HJ1.out hsB hpB hbp hbx hne (by have := HA.out; omega)).mono ?_
        rcases ho1 : svc1P st1 with ⟨c', st2⟩ | ⟨x, st2⟩
        · rintro e w2 ⟨rfl, ht, hc⟩
          have hq2 : O = .inl (c', st2) := by
            rw [HR.out]
            have hl : st1.1.length = 0 := by rw [← HM.out]; exact HZ.out
            cases hk : 32 - n with
            | zero =>
              show bindO (if eqS (peekP st1.1).f1 tRC = true then _ else if st1.1.length = 0 then _ else _) _ = _
              rw [← HB.out, if_neg (by decide), if_pos hl, ho1]; rfl
            | succ k =>
              show bindO (if eqS (peekP st1.1).f1 tRC = true then _ else _) _ = _
              rw [← HB.out, if_neg (by decide), ho1]; rfl
          subst hq2
          exact ⟨rfl, rfl, ht, (HC.out.trans HB1.out (fun k h => .inl h)).trans hc (fun k h => .inl h)⟩
        · exfalso
          have hl : st1.1 = [] := List.eq_nil_of_length_eq_zero (by rw [← HM.out]; exact HZ.out)
          obtain ⟨l1, n1⟩ := st1
          have hl : l1 = [] := hl
          subst hl
          have ho1 : svc1P ([], n1) = .inr (x, st2) := ho1
          rw [show svc1P ([], n1) = .inl (8, ([], n1)) from rfl] at ho1
          cases ho1
      · have hq : (((m : Nat) : Int) == 0) = false := by simp; omega
        have HZ := Aside0.mk hz
        clear hz hb2 hb3
        by_cases h32 : n < 32
        · have hd : decide ((n : Int) < 32) = true := decide_eq_true (by omega)
          go_wp2_with fail
          go_at_call 55
          refine (peek.calls pb s st1.1 st1.2 _ HT.out).mono ?_
          rintro e w1 ⟨rfl, hb⟩
          have HT1 := Aside0.mk (HT.out.below hb)
          have HP1 := Aside0.mk hb
          have HB1 := Aside0.mk (Ch.of_below hb (fun k => k = pb ∨ B ≤ k))
          have hk1 := cell_step hb HK0.out
          clear hb
          have hx := HX.out
          have hx2 := HB2.out
          go_wp2_with fail
          go_at_call 54
          refine (need_yes.calls 3 _).mono ?_
          rintro e wA ⟨rfl, rfl⟩
          clear hk1
          go_wp2_with fail
          go_at_call 85
          have HJ1 : Aside0 (JX k94 94 91 B pb bp bx nm acc w1) := ⟨by obtain ⟨cs_, hb_⟩ := HT.out.block; exact JX.ch HJ.out (Ch.of_below HP1.out (fun k => k = pb)) (by omega) (by omega) hb_ (by decide)⟩
          refine (svc1.calls B pb bp bx s st1 nm acc _ HT1.out HJ1.out hsB hpB hbp hbx hne (by have := HA.out; omega)).mono ?_
          rcases ho1 : svc1P st1 with ⟨c', st2⟩ | ⟨x, st2⟩
          · rintro e w2 ⟨rfl, ht, hc⟩
            have hq2 : O = .inl (c', st2) := by
              rw [HR.out]
              rw [show 32 - n = (31 - n) + 1 by omega]
              show bindO (if eqS (peekP st1.1).f1 tRC = true then _ else _) _ = _
              rw [← HB.out, if_neg (by decide), ho1]; rfl
            subst hq2
            exact ⟨rfl, rfl, ht, (HC.out.trans HB1.out (fun k h => .inl h)).trans hc (fun k h => .inl h)⟩
          · rintro e w2 ⟨rfl, hj, ht, hc⟩
            have HT2 := Aside0.mk ht
            have HJ2 := Aside0.mk hj
            have HC2 := Aside0.mk ((HC.out.trans HB1.out (fun k h => .inl h)).trans hc (fun k h => .inl h))
            have HR2 : Aside0 (O = bindO (partsP svc1P (32 - (n + 1)) st2) fun l st3 => .inr (acc ++ [x] ++ l, st3)) := ⟨by
              rw [HR.out, show 32 - n = (31 - n) + 1 by omega, show 32 - (n + 1) = 31 - n by omega]
              show bindO (if eqS (peekP st1.1).f1 tRC = true then _ else _) _ = _
              rw [← HB.out, if_neg (by decide), ho1]
              show bindO (bindO (partsP svc1P (31 - n) st2) _) _ = _
              rcases partsP svc1P (31 - n) st2 with e | ⟨a, b⟩
              · rfl
              · show (.inr (acc ++ (x :: a), b) : Out _) = .inr (acc ++ [x] ++ a, b)
                simp⟩
            have HA2 : Aside0 ((acc ++ [x]).length = n + 1) := ⟨by rw [List.length_append, HA.out]; rfl⟩
            clear ht hj hc HR HT HJ HC HJ1 HA hx hx2
            go_wp2_with fail
            refine ⟨⟨n + 1, acc ++ [x], st2, by go_num, by omega, HA2, HR2, HT2, HJ2, HC2⟩, ?_⟩
            simp [intOf]; omega
        · have hd : decide ((n : Int) < 32) = false := decide_eq_false (by omega)
          go_wp2_with fail
          go_at_call 55
          refine (peek.calls pb s st1.1 st1.2 _ HT.out).mono ?_
          rintro e w1 ⟨rfl, hb⟩
          have HT1 := Aside0.mk (HT.out.below hb)
          have HP1 := Aside0.mk hb
          have HB1 := Aside0.mk (Ch.of_below hb (fun k => k = pb ∨ B ≤ k))
          have hk1 := cell_step hb HK0.out
          clear hb
          have hx := HX.out
          have hx2 := HB2.out
          go_wp2_with fail
          go_at_call 54
          refine (need_no.calls 3 _).mono ?_
          rintro e wA ⟨rfl, rfl⟩
          clear hk1
          go_wp2_with fail
          have hq2 : O = .inl (3, st1) := by
            rw [HR.out, show 32 - n = 0 by omega]
            show bindO (if eqS (peekP st1.1).f1 tRC = true then _ else if st1.1.length = 0 then _ else _) _ = _
            rw [← HB.out, if_neg (by decide), if_neg (by rw [← HM.out]; exact HZ.out)]; rfl
          subst hq2
          exact ⟨rfl, rfl, HT1.out, HC.out.trans HB1.out (fun k h => .inl h)⟩
    · -- the end
      have hb2 := HB2.out
      have hb3 : ((peekP st1.1).f1.toList != [125]) = false := by rw [bne, hb2]; rfl
      have HX := Aside0.mk hb3
      clear hb2 hb3
      go_wp2_with fail
      go_at_call 55
      refine (peek.calls pb s st1.1 st1.2 _ HT.out).mono ?_
      rintro e w1 ⟨rfl, hb⟩
      have HT1 := Aside0.mk (HT.out.below hb)
      have HP1 := Aside0.mk hb
      have HB1 := Aside0.mk (Ch.of_below hb (fun k => k = pb ∨ B ≤ k))
      skip
      clear hb
      have hx := HX.out
      have hx2 := HB2.out
      go_wp2_with fail
      go_at_call 79
      refine (sign.calls pb s tRC st1 _ w1.heap.size (HT1.out.below (below_alloc (Below.refl _ _) _)) (heap_alloc_new w1 _) (by have := tok_lt HT1.out; omega)).mono ?_
      rcases ho1 : signP tRC st1 with ⟨c', st2⟩ | ⟨q, st2⟩
      · rintro e w2 ⟨rfl, ht, hc⟩
        have hq2 : O = .inl (c', st2) := by
          rw [HR.out]
          cases 32 - n <;>
          · show bindO (if eqS (peekP st1.1).f1 tRC = true then _ else _) _ = _
            rw [← HB.out, if_pos rfl, ho1]; rfl
        subst hq2
        exact ⟨rfl, rfl, ht, ((HC.out.trans HB1.out (fun k h => .inl h)).alloc _).trans hc (fun k h => .inl (.inl h))⟩
      · rintro e w2 ⟨⟨vv, rfl, rfl⟩, ht, hc⟩
        have hq2 : O = .inr (acc, st2) := by
          rw [HR.out]
          cases 32 - n <;>
          · show bindO (if eqS (peekP st1.1).f1 tRC = true then _ else _) _ = _
            rw [← HB.out, if_pos rfl, ho1]
            show (.inr (acc ++ [], st2) : Out _) = _
            rw [List.append_nil]
        subst hq2
        have HT2 := Aside0.mk ht
        have hcc : Ch (fun k => k = pb) w1 w2 := ((Ch.refl (fun k => k = pb) w1).alloc _).trans hc (fun k h => .inl h)
        have HC2 := Aside0.mk ((HC.out.trans HB1.out (fun k h => .inl h)).trans hcc (fun k h => .inl (.inl h)))
        have HJ2 : Aside0 (JX k94 94 91 B pb bp bx nm acc w2) := ⟨by obtain ⟨cs_, hb_⟩ := HT.out.block; exact JX.ch HJ.out ((Ch.of_below HP1.out (fun k => k = pb)).trans hcc (fun k h => .inl h)) (by omega) (by omega) hb_ (by decide)⟩
        clear ht hc hcc HR HT HJ HC hx hx2
        go_wp2_with fail
        go_end0
        exact ⟨rfl, HJ2.out, HT2.out, HC2.out⟩

/-- The schema that is on its way. -/
def SchR (w : World) (Bs : Nat) (s : Sch) (x : S40) : Prop := Kd.R k47 47 w Bs (fun _ => True) s.a x.f0 ∧ Kd.R k86 86 w Bs (fun _ => True) s.b x.f1 ∧ Kd.R k91 91 w Bs (fun _ => True) s.c x.f2
theorem SchR.keep {w w1 : World} {pb Bs : Nat} {s : Sch} {x : S40} (h : SchR w Bs s x) (hpB : pb < Bs) (hc : Ch (fun k => k = pb ∨ w.heap.size ≤ k) w w1) : SchR w1 Bs s x :=
  ⟨Kd.R_mono (R_ch (Kd.R_bound h.1) hc (fun k hk e => by have := hk.2.1; have := hk.2.2.1; omega)) (fun _ _ => trivial), Kd.R_mono (R_ch (Kd.R_bound h.2.1) hc (fun k hk e => by have := hk.2.1; have := hk.2.2.1; omega)) (fun _ _ => trivial), Kd.R_mono (R_ch (Kd.R_bound h.2.2) hc (fun k hk e => by have := hk.2.1; have := hk.2.2.1; omega)) (fun _ _ => trivial)⟩
theorem heap_grown {w w1 : World} {row : Option Nat} {g : Nat} {o : Obj} (hg : w.drew.grownBy w1 row) (h : w.heap[g]? = some o) (hn : some g ≠ row) : w1.heap[g]? = some o := (hg.block g (lt_of_block h) hn).trans h
theorem drewR {α : Type} {d : Kd α} {e base : Nat} {ok : Nat → Prop} {w : World} {v : Value} {xs : List α} (h : d.R e w base ok v xs) : d.R e w.drew base ok v xs := Kd.R_below h (below_drew (Below.refl _ _))
def addS (x : S40) (d : DeclT) : S40 := match d with
  | .s a l => ⟨x.f0 ++ [⟨a, l⟩], x.f1, x.f2⟩
  | .e a l => ⟨x.f0, x.f1 ++ [⟨a, l⟩], x.f2⟩
  | .v a l => ⟨x.f0, x.f1, x.f2 ++ [⟨a, l⟩]⟩
/-- How a declaration ends. -/
def EndsD (w : World) (pb Bs : Nat) (s : Sch) (x : S40) : Out DeclT → Ending → World → Prop
  | .inl (c, st), e, w' => e = .panicked (pnc c) ∧ TokAt w' pb s st.1 st.2 ∧ Ch (fun k => k = pb ∨ Bs ≤ k) w w'
  | .inr (d, st), e, w' => e = .returned (.tuple #[]) ∧ (∃ s' : Sch, s'.B = s.B ∧ TokAt w' pb s' st.1 st.2 ∧ SchR w' Bs s' (addS x d)) ∧ Ch (fun k => k = pb ∨ Bs ≤ k) w w'

theorem TokAt.puta {w : World} {pb : Nat} {s : Sch} {l : List S31} {n : Int} (h : TokAt w pb s l n) (hsB : s.B ≤ pb) (v7 : Value) : TokAt (w.setCell ⟨pb, 2, none⟩ v7) pb { s with a := v7 } l n := by
  obtain ⟨A, c, hk, hc, hC, hF⟩ := h.at_
  have hc1 : Ch (fun k => k = pb) w (w.setCell ⟨pb, 2, none⟩ v7) := (Ch.refl (fun k => k = pb) w).set (p := ⟨pb, 2, none⟩) (.inl rfl) _
  have hz : (w.setCell ⟨pb, 2, none⟩ v7).heap[pb]? = some (.cells #[.slice A l.length c, .int .i64 n, v7, s.b, s.c] 80 (0, 0)) := zset hk 2 v7
  refine ⟨⟨A, c, hz, hc, C31_ch hC hc1 hF, hF⟩, fun ad k c' cs T m h1 h2 h3 => ?_⟩
  rw [hz] at h1
  injection h1 with h1
  injection h1 with h1 _ _
  subst h1
  exact h.low ad k c' _ _ _ hk h2 h3
theorem decl_fin_a {w w6 w7 : World} {pb Bs : Nat} {s : Sch} {l : List S31} {n : Int} {x : S40} {a : ByteArray} {q : List S52} {v7 : Value} (hT : TokAt w6 pb s l n) (hS : SchR w6 Bs s x) (hC : Ch (fun k => k = pb ∨ w.heap.size ≤ k) w w6) (hpB : pb < Bs) (hBw : Bs ≤ w.heap.size) (hsB : s.B ≤ pb) (hg : w6.drew.grownBy w7 s.a.ownBlock) (hb : Below Bs w6 w7) (hr : k47.R 47 w7 Bs (fun _ => True) v7 (x.f0 ++ [⟨a, q⟩])) :
    (∃ s' : Sch, s'.B = s.B ∧ TokAt (w7.setCell ⟨pb, 2, none⟩ v7) pb s' l n ∧ SchR (w7.setCell ⟨pb, 2, none⟩ v7) Bs s' (addS x (DeclT.s a q))) ∧ Ch (fun k => k = pb ∨ Bs ≤ k) w (w7.setCell ⟨pb, 2, none⟩ v7) := by
  have hT7 := hT.above (Ch.of_belowB hb) (Nat.le_trans hsB (Nat.le_of_lt hpB)) hpB
  obtain ⟨A, c, hk7, _⟩ := hT7.at_
  refine ⟨⟨{ s with a := v7 }, rfl, hT7.puta hsB v7, Kd.R_set hr hk7 (by decide) 2 v7, Kd.R_set (Kd.R_over' (drewR hS.2.1) (Kd.R_typed (drewR hS.1)) (by decide) hg) hk7 (by decide) 2 v7, Kd.R_set (Kd.R_over' (drewR hS.2.2) (Kd.R_typed (drewR hS.1)) (by decide) hg) hk7 (by decide) 2 v7⟩, ?_⟩
  exact ((hC.mono (S' := fun k => k = pb ∨ Bs ≤ k) (fun k h => by omega)).trans (Ch.of_belowB hb) (fun k h => .inl (by omega))).set (p := ⟨pb, 2, none⟩) (.inl (.inl rfl)) _
theorem TokAt.putb {w : World} {pb : Nat} {s : Sch} {l : List S31} {n : Int} (h : TokAt w pb s l n) (hsB : s.B ≤ pb) (v7 : Value) : TokAt (w.setCell ⟨pb, 3, none⟩ v7) pb { s with b := v7 } l n := by
  obtain ⟨A, c, hk, hc, hC, hF⟩ := h.at_
  have hc1 : Ch (fun k => k = pb) w (w.setCell ⟨pb, 3, none⟩ v7) := (Ch.refl (fun k => k = pb) w).set (p := ⟨pb, 3, none⟩) (.inl rfl) _
  have hz : (w.setCell ⟨pb, 3, none⟩ v7).heap[pb]? = some (.cells #[.slice A l.length c, .int .i64 n, s.a, v7, s.c] 80 (0, 0)) := zset hk 3 v7
  refine ⟨⟨A, c, hz, hc, C31_ch hC hc1 hF, hF⟩, fun ad k c' cs T m h1 h2 h3 => ?_⟩
  rw [hz] at h1
  injection h1 with h1
  injection h1 with h1 _ _
  subst h1
  exact h.low ad k c' _ _ _ hk h2 h3
theorem decl_fin_b {w w6 w7 : World} {pb Bs : Nat} {s : Sch} {l : List S31} {n : Int} {x : S40} {a : ByteArray} {q : List S88} {v7 : Value} (hT : TokAt w6 pb s l n) (hS : SchR w6 Bs s x) (hC : Ch (fun k => k = pb ∨ w.heap.size ≤ k) w w6) (hpB : pb < Bs) (hBw : Bs ≤ w.heap.size) (hsB : s.B ≤ pb) (hg : w6.drew.grownBy w7 s.b.ownBlock) (hb : Below Bs w6 w7) (hr : k86.R 86 w7 Bs (fun _ => True) v7 (x.f1 ++ [⟨a, q⟩])) :
    (∃ s' : Sch, s'.B = s.B ∧ TokAt (w7.setCell ⟨pb, 3, none⟩ v7) pb s' l n ∧ SchR (w7.setCell ⟨pb, 3, none⟩ v7) Bs s' (addS x (DeclT.e a q))) ∧ Ch (fun k => k = pb ∨ Bs ≤ k) w (w7.setCell ⟨pb, 3, none⟩ v7) := by
  have hT7 := hT.above (Ch.of_belowB hb) (Nat.le_trans hsB (Nat.le_of_lt hpB)) hpB
  obtain ⟨A, c, hk7, _⟩ := hT7.at_
  refine ⟨⟨{ s with b := v7 }, rfl, hT7.putb hsB v7, Kd.R_set (Kd.R_over' (drewR hS.1) (Kd.R_typed (drewR hS.2.1)) (by decide) hg) hk7 (by decide) 3 v7, Kd.R_set hr hk7 (by decide) 3 v7, Kd.R_set (Kd.R_over' (drewR hS.2.2) (Kd.R_typed (drewR hS.2.1)) (by decide) hg) hk7 (by decide) 3 v7⟩, ?_⟩
  exact ((hC.mono (S' := fun k => k = pb ∨ Bs ≤ k) (fun k h => by omega)).trans (Ch.of_belowB hb) (fun k h => .inl (by omega))).set (p := ⟨pb, 3, none⟩) (.inl (.inl rfl)) _
theorem TokAt.putc {w : World} {pb : Nat} {s : Sch} {l : List S31} {n : Int} (h : TokAt w pb s l n) (hsB : s.B ≤ pb) (v7 : Value) : TokAt (w.setCell ⟨pb, 4, none⟩ v7) pb { s with c := v7 } l n := by
  obtain ⟨A, c, hk, hc, hC, hF⟩ := h.at_
  have hc1 : Ch (fun k => k = pb) w (w.setCell ⟨pb, 4, none⟩ v7) := (Ch.refl (fun k => k = pb) w).set (p := ⟨pb, 4, none⟩) (.inl rfl) _
  have hz : (w.setCell ⟨pb, 4, none⟩ v7).heap[pb]? = some (.cells #[.slice A l.length c, .int .i64 n, s.a, s.b, v7] 80 (0, 0)) := zset hk 4 v7
  refine ⟨⟨A, c, hz, hc, C31_ch hC hc1 hF, hF⟩, fun ad k c' cs T m h1 h2 h3 => ?_⟩
  rw [hz] at h1
  injection h1 with h1
  injection h1 with h1 _ _
  subst h1
  exact h.low ad k c' _ _ _ hk h2 h3
theorem decl_fin_c {w w6 w7 : World} {pb Bs : Nat} {s : Sch} {l : List S31} {n : Int} {x : S40} {a : ByteArray} {q : List S94} {v7 : Value} (hT : TokAt w6 pb s l n) (hS : SchR w6 Bs s x) (hC : Ch (fun k => k = pb ∨ w.heap.size ≤ k) w w6) (hpB : pb < Bs) (hBw : Bs ≤ w.heap.size) (hsB : s.B ≤ pb) (hg : w6.drew.grownBy w7 s.c.ownBlock) (hb : Below Bs w6 w7) (hr : k91.R 91 w7 Bs (fun _ => True) v7 (x.f2 ++ [⟨a, q⟩])) :
    (∃ s' : Sch, s'.B = s.B ∧ TokAt (w7.setCell ⟨pb, 4, none⟩ v7) pb s' l n ∧ SchR (w7.setCell ⟨pb, 4, none⟩ v7) Bs s' (addS x (DeclT.v a q))) ∧ Ch (fun k => k = pb ∨ Bs ≤ k) w (w7.setCell ⟨pb, 4, none⟩ v7) := by
  have hT7 := hT.above (Ch.of_belowB hb) (Nat.le_trans hsB (Nat.le_of_lt hpB)) hpB
  obtain ⟨A, c, hk7, _⟩ := hT7.at_
  refine ⟨⟨{ s with c := v7 }, rfl, hT7.putc hsB v7, Kd.R_set (Kd.R_over' (drewR hS.1) (Kd.R_typed (drewR hS.2.2)) (by decide) hg) hk7 (by decide) 4 v7, Kd.R_set (Kd.R_over' (drewR hS.2.1) (Kd.R_typed (drewR hS.2.2)) (by decide) hg) hk7 (by decide) 4 v7, Kd.R_set hr hk7 (by decide) 4 v7⟩, ?_⟩
  exact ((hC.mono (S' := fun k => k = pb ∨ Bs ≤ k) (fun k h => by omega)).trans (Ch.of_belowB hb) (fun k h => .inl (by omega))).set (p := ⟨pb, 4, none⟩) (.inl (.inl rfl)) _
end Go.Proofs.Ytoloneoeojoiaaa.EParseBack

