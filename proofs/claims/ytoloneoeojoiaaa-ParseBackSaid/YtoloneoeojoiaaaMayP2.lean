/- The closures of an enum's case, of a struct's field, of a service's method. -/
import Derived.Test.YtoloneoeojoiaaaMayP1
namespace Go.Proofs.Ytoloneoeojoiaaa.EParseBack
open Go.RowKit Go.Shelf Go.Proofs.YtoloneoeojoiaaaW.PrintWords Go.Proofs.YtoloneoeojoiaaaW.PrintLast Go.Proofs.YtoloneoeojoiaaaW.PrintMore
set_option linter.unusedVariables false
set_option linter.unusedSimpArgs false
set_option maxHeartbeats 2000000 in
set_option maxRecDepth 100000 in
theorem enum1.calls (B pb bp bx : Nat) (s : Sch) (st : St31) (nm : ByteArray) (xs : List S88) (w : World) (h : TokAt w pb s st.1 st.2) (hj : JX k88 88 86 B pb bp bx nm xs w) (hsB : s.B ≤ B) (hpB : pb < B) (hbp : B ≤ bp) (hbx : B ≤ bx) (hne : bp ≠ bx) (hl : xs.length ≤ 32) :
    Calls Try.prog 84 #[.pointer (some ⟨bp, 0, none⟩), .pointer (some ⟨bx, 0, none⟩)] w (EndsC w pb s B (fun c w' => JX k88 88 86 B pb bp bx nm (xs ++ [c]) w') (enum1P st)) := by
  obtain ⟨hp, v, hx, hr⟩ := hj
  have HT := Aside0.mk h
  have HP := Aside0.mk hp
  have HX := Aside0.mk hx
  have HR := Aside0.mk hr
  have nep : ¬ bp = pb := by omega
  have nex : ¬ bx = pb := by omega
  have HNX := Aside0.mk nex
  have hp0 := zcell hp 0 _ rfl
  obtain ⟨O, hO⟩ : ∃ o, o = enum1P st := ⟨_, rfl⟩
  have HO0 := Aside0.mk hO.symm
  rw [← hO]
  clear h hp hx hr hO nex
  go_enter Try.func84, Try.ntmps84
  go_wp2_with fail
  go_cut [2] from 3 to 11 (fun v2 W => ∃ num a st2 g, v2 = .pointer (some ⟨g, 0, none⟩) ∧ Aside0 (bindO (signP tSC st2) (enum1R num a) = O) ∧ Aside0 (TokAt W pb s st2.1 st2.2) ∧ Aside0 (Ch (fun k => k = pb) w W) ∧ Aside0 (W.heap[g]? = some (.cells #[.string a, .int .i64 num] 88 (0, 0))) ∧ Aside0 (B ≤ g) ∧ Aside0 (w.heap.size ≤ g) ∧ Aside0 (g < W.heap.size))
  case first =>
    go_region_held2 (fun W => W.cell? ⟨bp, 0, none⟩ = some (.pointer (some ⟨pb, 0, none⟩)))
      (((repeat' (first | (with_reducible refine keep_set ?_ ?_) | (with_reducible refine keep_alloc ?_) | (with_reducible refine keep_drew ?_) | exact hp0 | exact HQ1.out | exact HQ2.out | (first | (show bp ≠ w.heap.size; have hlt := lt_of_block HP.out; omega) | (show bp ≠ w1.heap.size; have hlt := lt_of_block HP1.out; omega) | (show bp ≠ w2.heap.size; have hlt := lt_of_block HP2.out; omega)))); done))
      (first | (go_at_call 82; refine (number.calls pb s st _ (HT.out.below (by repeat (first | exact Below.refl _ _ | apply below_alloc | apply below_drew)))).mono ?_; rcases ho1 : numberP st with ⟨c', st1⟩ | ⟨num, st1⟩; (focus (rintro e w1 ⟨rfl, ht, hc⟩; have ho := (bindO_l ho1).symm.trans HO0.out; subst ho; exact ⟨rfl, rfl, ht, ((Ch.of_below (by repeat (first | exact Below.refl _ _ | apply below_alloc | apply below_drew)) (fun k => k = pb ∨ B ≤ k)).trans hc (fun k h => .inl (.inl h)))⟩)); rintro e w1 ⟨⟨vv, rfl, rfl⟩, ht, hc⟩; have HO1 := Aside0.mk ((bindO_r ho1).symm.trans HO0.out); have HT1 := Aside0.mk ht; have HC1 : Aside0 (Ch (fun k => k = pb) w w1) := ⟨(Ch.of_below (by repeat (first | exact Below.refl _ _ | apply below_alloc | apply below_drew)) (fun k => k = pb)).trans hc (fun k h => .inl h)⟩; have HP1 := Aside0.mk (HC1.out.heap HP.out nep); have HQ1 := Aside0.mk (zcell HP1.out 0 _ rfl); (try have HGA := Aside0.mk (hc.heap (heap_alloc_new _ (.cells #[.string ⟨#[]⟩, .int .i64 0] 88)) (by have := tok_lt HT.out; simp; omega))); clear ht hc ho1)
             | (go_at_call 78; refine (name.calls pb s st1 _ (HT1.out.below (by repeat (first | exact Below.refl _ _ | apply below_alloc | apply below_drew)))).mono ?_; rcases ho2 : nameP st1 with ⟨c', st2⟩ | ⟨a, st2⟩; (focus (rintro e w2 ⟨rfl, ht, hc⟩; have ho := (bindO_l ho2).symm.trans HO1.out; subst ho; exact ⟨rfl, rfl, ht, ((HC1.out.mono (S' := fun k => k = pb ∨ B ≤ k) (fun k h => .inl h)).trans ((Ch.of_below (by repeat (first | exact Below.refl _ _ | apply below_alloc | apply below_drew)) (fun k => k = pb ∨ B ≤ k)).trans hc (fun k h => .inl (.inl h))) (fun k h => .inl h))⟩)); rintro e w2 ⟨⟨vv, rfl, rfl⟩, ht, hc⟩; have HO2 := Aside0.mk ((bindO_r ho2).symm.trans HO1.out); have HT2 := Aside0.mk ht; have HC2 : Aside0 (Ch (fun k => k = pb) w w2) := ⟨HC1.out.trans ((Ch.of_below (by repeat (first | exact Below.refl _ _ | apply below_alloc | apply below_drew)) (fun k => k = pb)).trans hc (fun k h => .inl h)) (fun k h => .inl h)⟩; have HP2 := Aside0.mk (HC2.out.heap HP.out nep); have HQ2 := Aside0.mk (zcell HP2.out 0 _ rfl); (try have HGB := Aside0.mk (hc.heap (heap_alloc_new _ (.cells #[.string ⟨#[]⟩, .int .i64 0] 88)) (by have := tok_lt HT1.out; simp; omega))); (try have HGB := Aside0.mk (hc.heap HGA.out (by have := tok_lt HT.out; simp; omega))); (try have hq0 := zcell HGB.out 0 _ rfl); (try have hf0 := zfree HGB.out 0); (try have hq1 := zcell HGB.out 1 _ rfl); (try have hf1 := zfree HGB.out 1); clear ho2 ht hc))
    all_goals
      clear hp0
      go_wp2_with fail
      go_meet
      refine ⟨num, a, st2, _, rfl, HO2, ?_⟩
      first
      | with_reducible exact fin_alloc HT2.out HC2.out HP.out hbp hsB hpB nep
      | with_reducible exact fin_set2 HGB.out rfl HT2.out HC2.out HC1.out.size HP.out hbp hsB hpB nep
      | with_reducible exact fin_set2 HGB.out rfl HT2.out HC2.out (Nat.le_refl _) HP.out hbp hsB hpB nep
  case rest =>
    obtain ⟨num, a, st2, g, rfl, HO2, HT3, HC3, HK3, HG3, HGE, HGL3⟩ := hcut
    obtain ⟨W, rfl⟩ : ∃ x, x = wc := ⟨_, rfl⟩
    clear hp0 HO0
    have hp0 := zcell (HC3.out.heap HP.out nep) 0 _ rfl
    go_wp2_with fail
    refine (sign.calls pb s tSC st2 _ W.heap.size (HT3.out.below (below_alloc (Below.refl _ _) _)) (heap_alloc_new W _) (by have := tok_lt HT3.out; omega)).mono ?_
    rcases ho3 : signP tSC st2 with ⟨c', st3⟩ | ⟨q3, st3⟩
    · rintro e w4 ⟨rfl, ht, hc⟩
      have ho := (bindO_l ho3).symm.trans HO2.out
      subst ho
      exact ⟨rfl, rfl, ht, ((HC3.out.alloc _).mono (S' := fun k => k = pb ∨ B ≤ k) (fun k h => .inl h)).trans hc (fun k h => .inl (.inl h))⟩
    rintro e w4 ⟨⟨vv, rfl, rfl⟩, ht, hc⟩
    have HO3 := Aside0.mk ((bindO_r ho3).symm.trans HO2.out)
    have HT4 := Aside0.mk ht
    have hcc : Ch (fun k => k = pb) W w4 := ((Ch.refl (fun k => k = pb) W).alloc _).trans hc (fun k h => .inl h)
    have HC4 := Aside0.mk (HC3.out.trans hcc (fun k h => .inl h))
    have HK4 := Aside0.mk (hcc.heap HK3.out (by have := HG3.out; omega))
    have HGL4 := Aside0.mk (Nat.lt_of_lt_of_le HGL3.out hcc.size)
    clear ht hc hcc ho3 hp0 HT3 HC3 HK3 HO2 HGL3
    have HX4 := Aside0.mk (HC4.out.heap HX.out HNX.out)
    have HP4 := Aside0.mk (HC4.out.heap HP.out nep)
    have HR4 : Aside0 (k88.R 88 w4 B (fun _ => True) v xs) := by
      obtain ⟨cs_, hb_⟩ := HT.out.block
      exact ⟨Kd.R_mono (R_ch (Kd.R_types HR.out hb_ (by decide)) HC4.out (fun k hk e => hk.2 e)) (fun _ _ => trivial)⟩
    have hp0 := zcell HX4.out 1 _ rfl
    have hk0 := zcell HK4.out 0 _ rfl
    have hk1 := zcell HK4.out 1 _ rfl
    go_wp2_with ((with_reducible refine gate_builtin (b := .append) (xs := #[.tmp 18, .tmp 20]) rfl ?_); at_builtin; refine Kd.R_append k88 (w0 := w4) B rfl (.tmp 18) (.tmp 20) 84 88 (.agg #[.string ⟨#[]⟩, .int .i64 0]) 24 rfl Try.underlying84 info88 rfl (by decide) (by decide) v xs ⟨a, num⟩ [.string a, .int .i64 num] (fun _ => True) (fun _ => False) rfl rfl (k88_mkM _ _ _ _) (fun _ h => h.elim) (fun _ _ => trivial) HR4.out (Below.refl _ _) (by have := lt_of_block HP4.out; omega) (by omega) ?_; intro v1 wz hr1 hb1 hg1 hat1; obtain ⟨A5, c5, rfl⟩ := Kd.R_slice hr1; have HB5 := Aside0.mk hb1; have HJ5 := Aside0.mk (JX.snoc HP4.out HX4.out HR4.out hg1 hr1 hne (by decide) (by decide)); have hx1 := zcell HJ5.out.1 1 _ rfl; have hf1 := zfree HJ5.out.1 1; clear hr1 hb1 hg1 hat1)
    go_end0
    have hj5 := HJ5.out.2
    simp only [List.length_append, List.length_cons, List.length_nil, Nat.zero_add] at hj5
    have ho := HO3.out
    subst ho
    exact ⟨rfl, hj5, (HT4.out.above (Ch.of_belowB HB5.out) hsB hpB).setc hsB hpB hbx 1 _, ((HC4.out.mono (S' := fun k => k = pb ∨ B ≤ k) (fun k h => .inl h)).trans (Ch.of_belowB HB5.out) (fun k h => .inl (.inr h))).set (p := ⟨bx, 1, none⟩) (.inl (.inr hbx)) _⟩
set_option maxHeartbeats 2000000 in
set_option maxRecDepth 100000 in
theorem struct1.calls (B pb bp bx : Nat) (s : Sch) (st : St31) (nm : ByteArray) (xs : List S52) (w : World) (h : TokAt w pb s st.1 st.2) (hj : JX k52 52 47 B pb bp bx nm xs w) (hsB : s.B ≤ B) (hpB : pb < B) (hbp : B ≤ bp) (hbx : B ≤ bx) (hne : bp ≠ bx) (hl : xs.length ≤ 32) :
    Calls Try.prog 81 #[.pointer (some ⟨bp, 0, none⟩), .pointer (some ⟨bx, 0, none⟩)] w (EndsC w pb s B (fun c w' => JX k52 52 47 B pb bp bx nm (xs ++ [c]) w') (struct1P st)) := by
  obtain ⟨hp, v, hx, hr⟩ := hj
  have HT := Aside0.mk h
  have HP := Aside0.mk hp
  have HX := Aside0.mk hx
  have HR := Aside0.mk hr
  have nep : ¬ bp = pb := by omega
  have nex : ¬ bx = pb := by omega
  have HNX := Aside0.mk nex
  have hp0 := zcell hp 0 _ rfl
  obtain ⟨O, hO⟩ : ∃ o, o = struct1P st := ⟨_, rfl⟩
  have HO0 := Aside0.mk hO.symm
  rw [← hO]
  clear h hp hx hr hO nex
  go_enter Try.func81, Try.ntmps81
  go_wp2_with fail
  go_cut [2] from 3 to 11 (fun v2 W => ∃ num a st2 g, v2 = .pointer (some ⟨g, 0, none⟩) ∧ Aside0 (bindO (signP tCO st2) (struct1R num a) = O) ∧ Aside0 (TokAt W pb s st2.1 st2.2) ∧ Aside0 (Ch (fun k => k = pb) w W) ∧ Aside0 (W.heap[g]? = some (.cells #[.string a, .int .i64 num, .int .i64 0, .string ⟨#[]⟩, .slice none 0 0] 52 (0, 0))) ∧ Aside0 (B ≤ g) ∧ Aside0 (w.heap.size ≤ g) ∧ Aside0 (g < W.heap.size))
  case first =>
    go_region_held2 (fun W => W.cell? ⟨bp, 0, none⟩ = some (.pointer (some ⟨pb, 0, none⟩)))
      (((repeat' (first | (with_reducible refine keep_set ?_ ?_) | (with_reducible refine keep_alloc ?_) | (with_reducible refine keep_drew ?_) | exact hp0 | exact HQ1.out | exact HQ2.out | (first | (show bp ≠ w.heap.size; have hlt := lt_of_block HP.out; omega) | (show bp ≠ w1.heap.size; have hlt := lt_of_block HP1.out; omega) | (show bp ≠ w2.heap.size; have hlt := lt_of_block HP2.out; omega)))); done))
      (first | (go_at_call 82; refine (number.calls pb s st _ (HT.out.below (by repeat (first | exact Below.refl _ _ | apply below_alloc | apply below_drew)))).mono ?_; rcases ho1 : numberP st with ⟨c', st1⟩ | ⟨num, st1⟩; (focus (rintro e w1 ⟨rfl, ht, hc⟩; have ho := (bindO_l ho1).symm.trans HO0.out; subst ho; exact ⟨rfl, rfl, ht, ((Ch.of_below (by repeat (first | exact Below.refl _ _ | apply below_alloc | apply below_drew)) (fun k => k = pb ∨ B ≤ k)).trans hc (fun k h => .inl (.inl h)))⟩)); rintro e w1 ⟨⟨vv, rfl, rfl⟩, ht, hc⟩; have HO1 := Aside0.mk ((bindO_r ho1).symm.trans HO0.out); have HT1 := Aside0.mk ht; have HC1 : Aside0 (Ch (fun k => k = pb) w w1) := ⟨(Ch.of_below (by repeat (first | exact Below.refl _ _ | apply below_alloc | apply below_drew)) (fun k => k = pb)).trans hc (fun k h => .inl h)⟩; have HP1 := Aside0.mk (HC1.out.heap HP.out nep); have HQ1 := Aside0.mk (zcell HP1.out 0 _ rfl); (try have HGA := Aside0.mk (hc.heap (heap_alloc_new _ (.cells #[.string ⟨#[]⟩, .int .i64 0, .int .i64 0, .string ⟨#[]⟩, .slice none 0 0] 52)) (by have := tok_lt HT.out; simp; omega))); clear ht hc ho1)
             | (go_at_call 78; refine (name.calls pb s st1 _ (HT1.out.below (by repeat (first | exact Below.refl _ _ | apply below_alloc | apply below_drew)))).mono ?_; rcases ho2 : nameP st1 with ⟨c', st2⟩ | ⟨a, st2⟩; (focus (rintro e w2 ⟨rfl, ht, hc⟩; have ho := (bindO_l ho2).symm.trans HO1.out; subst ho; exact ⟨rfl, rfl, ht, ((HC1.out.mono (S' := fun k => k = pb ∨ B ≤ k) (fun k h => .inl h)).trans ((Ch.of_below (by repeat (first | exact Below.refl _ _ | apply below_alloc | apply below_drew)) (fun k => k = pb ∨ B ≤ k)).trans hc (fun k h => .inl (.inl h))) (fun k h => .inl h))⟩)); rintro e w2 ⟨⟨vv, rfl, rfl⟩, ht, hc⟩; have HO2 := Aside0.mk ((bindO_r ho2).symm.trans HO1.out); have HT2 := Aside0.mk ht; have HC2 : Aside0 (Ch (fun k => k = pb) w w2) := ⟨HC1.out.trans ((Ch.of_below (by repeat (first | exact Below.refl _ _ | apply below_alloc | apply below_drew)) (fun k => k = pb)).trans hc (fun k h => .inl h)) (fun k h => .inl h)⟩; have HP2 := Aside0.mk (HC2.out.heap HP.out nep); have HQ2 := Aside0.mk (zcell HP2.out 0 _ rfl); (try have HGB := Aside0.mk (hc.heap (heap_alloc_new _ (.cells #[.string ⟨#[]⟩, .int .i64 0, .int .i64 0, .string ⟨#[]⟩, .slice none 0 0] 52)) (by have := tok_lt HT1.out; simp; omega))); (try have HGB := Aside0.mk (hc.heap HGA.out (by have := tok_lt HT.out; simp; omega))); (try have hq0 := zcell HGB.out 0 _ rfl); (try have hf0 := zfree HGB.out 0); (try have hq1 := zcell HGB.out 1 _ rfl); (try have hf1 := zfree HGB.out 1); (try have hq2 := zcell HGB.out 2 _ rfl); (try have hf2 := zfree HGB.out 2); (try have hq3 := zcell HGB.out 3 _ rfl); (try have hf3 := zfree HGB.out 3); (try have hq4 := zcell HGB.out 4 _ rfl); (try have hf4 := zfree HGB.out 4); clear ho2 ht hc))
    all_goals
      clear hp0
      go_wp2_with fail
      go_meet
      refine ⟨num, a, st2, _, rfl, HO2, ?_⟩
      first
      | with_reducible exact fin_alloc HT2.out HC2.out HP.out hbp hsB hpB nep
      | with_reducible exact fin_set5 HGB.out rfl HT2.out HC2.out HC1.out.size HP.out hbp hsB hpB nep
      | with_reducible exact fin_set5 HGB.out rfl HT2.out HC2.out (Nat.le_refl _) HP.out hbp hsB hpB nep
  case rest =>
    obtain ⟨num, a, st2, g, rfl, HO2, HT3, HC3, HK3, HG3, HGE, HGL3⟩ := hcut
    obtain ⟨W, rfl⟩ : ∃ x, x = wc := ⟨_, rfl⟩
    clear hp0 HO0
    have hp0 := zcell (HC3.out.heap HP.out nep) 0 _ rfl
    go_wp2_with fail
    refine (sign.calls pb s tCO st2 _ W.heap.size (HT3.out.below (below_alloc (Below.refl _ _) _)) (heap_alloc_new W _) (by have := tok_lt HT3.out; omega)).mono ?_
    rcases ho3 : signP tCO st2 with ⟨c', st3⟩ | ⟨q3, st3⟩
    · rintro e w4 ⟨rfl, ht, hc⟩
      have ho := (bindO_l ho3).symm.trans HO2.out
      subst ho
      exact ⟨rfl, rfl, ht, ((HC3.out.alloc _).mono (S' := fun k => k = pb ∨ B ≤ k) (fun k h => .inl h)).trans hc (fun k h => .inl (.inl h))⟩
    rintro e w4 ⟨⟨vv, rfl, rfl⟩, ht, hc⟩
    have HO3 := Aside0.mk ((bindO_r ho3).symm.trans HO2.out)
    have HT4 := Aside0.mk ht
    have hcc : Ch (fun k => k = pb) W w4 := ((Ch.refl (fun k => k = pb) W).alloc _).trans hc (fun k h => .inl h)
    have HC4 := Aside0.mk (HC3.out.trans hcc (fun k h => .inl h))
    have HK4 := Aside0.mk (hcc.heap HK3.out (by have := HG3.out; omega))
    have HGL4 := Aside0.mk (Nat.lt_of_lt_of_le HGL3.out hcc.size)
    clear ht hc hcc ho3 hp0 HT3 HC3 HK3 HO2 HGL3
    have hp0 := zcell (HC4.out.heap HP.out nep) 0 _ rfl
    go_wp2_with fail
    refine (typed.calls 8 pb s st3 1 _ (by rfl) (by decide) HT4.out).mono ?_
    rcases ho4 : typedP 8 st3 with ⟨c', st4⟩ | ⟨x, st4⟩
    · rintro e w4 ⟨rfl, ht, hc⟩
      have ho := (bindO_l ho4).symm.trans HO3.out
      subst ho
      exact ⟨rfl, rfl, ht, (HC4.out.mono (S' := fun k => k = pb ∨ B ≤ k) (fun k h => .inl h)).trans hc (fun k h => .inl (.inl h))⟩
    rintro e w5 ⟨⟨vv, rfl, ⟨vx, rfl, hy⟩⟩, ht, hc⟩
    have HO4 := Aside0.mk ((bindO_r ho4).symm.trans HO3.out)
    obtain ⟨Ax, cx, rfl⟩ := Kd.R_slice hy
    have HT5 := Aside0.mk ht
    have HC5 := Aside0.mk (HC4.out.trans hc (fun k h => .inl h))
    have HK5 := Aside0.mk (hc.heap HK4.out (by have := HG3.out; omega))
    have HS5 := Aside0.mk hc.size
    have HYx_5 := Aside0.mk hy
    have HBx := HGL4
    clear ht hc hy ho4 hp0 HT4 HC4 HK4 HO3
    go_wp2_with ((with_reducible refine gate_store (p := 21) rfl ?_); refine store_part rfl rfl 50 _ _ rfl #[.int .i64 x.f0, .string x.f1, .slice Ax x.f2.length cx] #[.string a, .int .i64 num, .int .i64 x.f0, .string x.f1, .slice Ax x.f2.length cx] (o' := 2) rfl rfl HK5.out (Nat.le_of_ble_eq_true rfl) rfl (by kernel_rfl) (by rfl) ?_; intro w6 h1 h2; have HK6 := Aside0.mk h1; have HC6 := Aside0.mk (HC5.out.trans h2 (fun k h => .inr (by have := HGE.out; omega))); have HT6 := Aside0.mk (HT5.out.above (h2.mono (fun k h => by have := HG3.out; omega)) hsB hpB); have HGL6 := Aside0.mk (Nat.lt_of_lt_of_le HGL4.out (Nat.le_trans HS5.out h2.size)); have HYx_6 := Aside0.mk (Kd.R_mono (R_ch (Kd.R_types HYx_5.out HK5.out (by decide)) h2 (fun k hk e => hk.2 e)) (fun _ _ => trivial)); have hp0 := zcell (HC6.out.heap HP.out nep) 0 _ rfl; clear h1 h2 HT5 HC5 HK5 HS5 HYx_5)
    have hp0 := zcell (HC6.out.heap HP.out nep) 0 _ rfl
    go_wp2_with fail
    refine (sign.calls pb s tSC st4 _ w6.heap.size (HT6.out.below (below_alloc (Below.refl _ _) _)) (heap_alloc_new w6 _) (by have := tok_lt HT6.out; omega)).mono ?_
    rcases ho5 : signP tSC st4 with ⟨c', st5⟩ | ⟨q5, st5⟩
    · rintro e w4 ⟨rfl, ht, hc⟩
      have ho := (bindO_l ho5).symm.trans HO4.out
      subst ho
      exact ⟨rfl, rfl, ht, ((HC6.out.alloc _).mono (S' := fun k => k = pb ∨ B ≤ k) (fun k h => .inl h)).trans hc (fun k h => .inl (.inl h))⟩
    rintro e w7 ⟨⟨vv, rfl, rfl⟩, ht, hc⟩
    have HO5 := Aside0.mk ((bindO_r ho5).symm.trans HO4.out)
    have HT7 := Aside0.mk ht
    have hcc : Ch (fun k => k = pb) w6 w7 := ((Ch.refl (fun k => k = pb) w6).alloc _).trans hc (fun k h => .inl h)
    have HC7 := Aside0.mk (HC6.out.trans hcc (fun k h => .inl h))
    have HK7 := Aside0.mk (hcc.heap HK6.out (by have := HG3.out; omega))
    have HGL7 := Aside0.mk (Nat.lt_of_lt_of_le HGL6.out hcc.size)
    obtain ⟨cs_, hb_⟩ := HT6.out.block
    have HYx_7 := Aside0.mk (Kd.R_mono (R_ch (Kd.R_types HYx_6.out hb_ (by decide)) hcc (fun k hk e => hk.2 e)) (fun _ _ => trivial))
    clear hb_
    clear ht hc hcc ho5 hp0 HT6 HC6 HK6 HO4 HGL6 HYx_6
    have HX7 := Aside0.mk (HC7.out.heap HX.out HNX.out)
    have HP7 := Aside0.mk (HC7.out.heap HP.out nep)
    have HR7 : Aside0 (k52.R 52 w7 B (fun _ => True) v xs) := by
      obtain ⟨cs_, hb_⟩ := HT.out.block
      exact ⟨Kd.R_mono (R_ch (Kd.R_types HR.out hb_ (by decide)) HC7.out (fun k hk e => hk.2 e)) (fun _ _ => trivial)⟩
    have hp0 := zcell HX7.out 1 _ rfl
    have hk0 := zcell HK7.out 0 _ rfl
    have hk1 := zcell HK7.out 1 _ rfl
    have hk2 := zcell HK7.out 2 _ rfl
    have hk3 := zcell HK7.out 3 _ rfl
    have hk4 := zcell HK7.out 4 _ rfl
    have HMx := Aside0.mk (Kd.R_lower (base' := B) (Kd.R_apart' HYx_7.out (Kd.R_typed HR7.out) (by decide)) (by have := HBx.out; have := HG3.out; omega))
    go_wp2_with ((with_reducible refine gate_builtin (b := .append) (xs := #[.tmp 28, .tmp 30]) rfl ?_); at_builtin; refine Kd.R_append k52 (w0 := w7) B rfl (.tmp 28) (.tmp 30) 45 52 (.agg #[.string ⟨#[]⟩, .int .i64 0, .int .i64 0, .string ⟨#[]⟩, .slice none 0 0]) 72 rfl Try.underlying45 info52 rfl (by decide) (by decide) v xs ⟨a, num, x⟩ [.string a, .int .i64 num, .int .i64 x.f0, .string x.f1, .slice Ax x.f2.length cx] (fun _ => True) (fun k => True ∧ some k ≠ v.ownBlock) rfl rfl (k52_mkM _ _ _ _ HMx.out) (fun _ h => h) (fun _ _ => trivial) HR7.out (Below.refl _ _) (by have := lt_of_block HP7.out; omega) (by omega) ?_; intro v1 wz hr1 hb1 hg1 hat1; obtain ⟨A5, c5, rfl⟩ := Kd.R_slice hr1; have HB5 := Aside0.mk hb1; have HJ5 := Aside0.mk (JX.snoc HP7.out HX7.out HR7.out hg1 hr1 hne (by decide) (by decide)); have hx1 := zcell HJ5.out.1 1 _ rfl; have hf1 := zfree HJ5.out.1 1; clear hr1 hb1 hg1 hat1)
    go_end0
    have hj5 := HJ5.out.2
    simp only [List.length_append, List.length_cons, List.length_nil, Nat.zero_add] at hj5
    have ho := HO5.out
    subst ho
    exact ⟨rfl, hj5, (HT7.out.above (Ch.of_belowB HB5.out) hsB hpB).setc hsB hpB hbx 1 _, ((HC7.out.mono (S' := fun k => k = pb ∨ B ≤ k) (fun k h => .inl h)).trans (Ch.of_belowB HB5.out) (fun k h => .inl (.inr h))).set (p := ⟨bx, 1, none⟩) (.inl (.inr hbx)) _⟩
attribute [local go_sem] Instr.field asAgg
set_option maxHeartbeats 4000000 in
set_option maxRecDepth 100000 in
theorem svc1.calls (B pb bp bx : Nat) (s : Sch) (st : St31) (nm : ByteArray) (xs : List S94) (w : World) (h : TokAt w pb s st.1 st.2) (hj : JX k94 94 91 B pb bp bx nm xs w) (hsB : s.B ≤ B) (hpB : pb < B) (hbp : B ≤ bp) (hbx : B ≤ bx) (hne : bp ≠ bx) (hl : xs.length ≤ 32) :
    Calls Try.prog 85 #[.pointer (some ⟨bp, 0, none⟩), .pointer (some ⟨bx, 0, none⟩)] w (EndsC w pb s B (fun c w' => JX k94 94 91 B pb bp bx nm (xs ++ [c]) w') (svc1P st)) := by
  obtain ⟨hp, v, hx, hr⟩ := hj
  have HT := Aside0.mk h
  have HP := Aside0.mk hp
  have HX := Aside0.mk hx
  have HR := Aside0.mk hr
  have nep : ¬ bp = pb := by omega
  have nex : ¬ bx = pb := by omega
  have HNX := Aside0.mk nex
  have hp0 := zcell hp 0 _ rfl
  obtain ⟨O, hO⟩ : ∃ o, o = svc1P st := ⟨_, rfl⟩
  have HO0 := Aside0.mk hO.symm
  rw [← hO]
  clear h hp hx hr hO nex
  go_enter Try.func85, Try.ntmps85
  go_wp2_with fail
  go_at_call 55
  refine (peek.calls pb s st.1 st.2 _ HT.out).mono ?_
  rintro e w0 ⟨rfl, hb⟩
  have HT0 := Aside0.mk (HT.out.below hb)
  have HC0 := Aside0.mk (Ch.of_below hb (fun k => k = pb))
  have HP0 := Aside0.mk (HC0.out.heap HP.out nep)
  clear hb hp0
  obtain ⟨tx, htx⟩ : ∃ tx, tx = (peekP st.1).f1 := ⟨_, rfl⟩
  have HTX := Aside0.mk htx
  rw [← htx]
  clear htx
  go_wp2_with fail
  have hp0 := zcell HP0.out 0 _ rfl
  obtain ⟨b1, hb1⟩ : ∃ b, b = (tx.toList == [111, 110, 99, 101]) := ⟨_, rfl⟩
  obtain ⟨b2, hb2⟩ : ∃ b, b = (tx.toList == [114, 101, 97, 100]) := ⟨_, rfl⟩
  have HE1 : Aside0 (eqS tx tOnce = b1) := ⟨by rw [hb1]; unfold eqS; rw [show tOnce.toList = [111, 110, 99, 101] from by decide +kernel]⟩
  have HE2 : Aside0 (eqS tx tRead = b2) := ⟨by rw [hb2]; unfold eqS; rw [show tRead.toList = [114, 101, 97, 100] from by decide +kernel]⟩
  have HO1 : Aside0 (bindO (askP (b1 || b2) st) (fun k st1 => bindO (nameP st1) fun a st2 => bindO (signP tLP st2) (svc1R k a)) = O) := ⟨by rw [← HO0.out, ← HE1.out, ← HE2.out, HTX.out]; rfl⟩
  have hb1' := hb1.symm
  have hb2' := hb2.symm
  clear hb1 hb2
  go_cut [3] from 9 to 24 (fun v3 W => ∃ q0 a st2 g, v3 = .pointer (some ⟨g, 0, none⟩) ∧ Aside0 (bindO (signP tLP st2) (svc1R q0 a) = O) ∧ Aside0 (TokAt W pb s st2.1 st2.2) ∧ Aside0 (Ch (fun k => k = pb) w W) ∧ Aside0 (W.heap[g]? = some (.cells #[.string a, .bool (eqS q0 tOnce), .int .i64 0, .string ⟨#[]⟩, .slice none 0 0, .int .i64 0, .string ⟨#[]⟩, .slice none 0 0] 94 (0, 0))) ∧ Aside0 (B ≤ g) ∧ Aside0 (w.heap.size ≤ g) ∧ Aside0 (g < W.heap.size))
  case first =>
      cases b1
      · cases b2
        · go_region_held2 (fun W => W.cell? ⟨bp, 0, none⟩ = some (.pointer (some ⟨pb, 0, none⟩))) ((((repeat' (first | (with_reducible refine keep_set ?_ ?_) | (with_reducible refine keep_alloc ?_) | (with_reducible refine keep_drew ?_) | exact hp0 | exact HQ1.out | exact HQ2.out | (first | (show bp ≠ w0.heap.size; have hlt := lt_of_block HP0.out; omega) | (show bp ≠ w1.heap.size; have hlt := lt_of_block HP1.out; omega) | (show bp ≠ w2.heap.size; have hlt := lt_of_block HP2.out; omega)))); done))) (first | (go_at_call 56; refine (ask.calls pb s _ st _ (HT0.out.below (by repeat (first | exact Below.refl _ _ | apply below_alloc | apply below_drew)))).mono ?_; (try rw [Bool.or_false]); rcases ho1 : askP false st with ⟨c', st1⟩ | ⟨q0, st1⟩; (focus (rintro e w1 ⟨rfl, ht, hc⟩; have ho := (bindO_l ho1).symm.trans HO1.out; subst ho; exact ⟨rfl, rfl, ht, ((HC0.out.mono (S' := fun k => k = pb ∨ B ≤ k) (fun k h => .inl h)).trans ((Ch.of_below (by repeat (first | exact Below.refl _ _ | apply below_alloc | apply below_drew)) (fun k => k = pb ∨ B ≤ k)).trans hc (fun k h => .inl (.inl h))) (fun k h => .inl h))⟩)); rintro e w1 ⟨⟨vv, rfl, rfl⟩, ht, hc⟩; have HO2 := Aside0.mk ((bindO_r ho1).symm.trans HO1.out); have HT1 := Aside0.mk ht; have HC1 : Aside0 (Ch (fun k => k = pb) w w1) := ⟨HC0.out.trans ((Ch.of_below (by repeat (first | exact Below.refl _ _ | apply below_alloc | apply below_drew)) (fun k => k = pb)).trans hc (fun k h => .inl h)) (fun k h => .inl h)⟩; have HP1 := Aside0.mk (HC1.out.heap HP.out nep); have HQ1 := Aside0.mk (zcell HP1.out 0 _ rfl); have hq0 : (q0.toList == [111, 110, 99, 101]) = eqS q0 tOnce := (by unfold eqS; rw [show tOnce.toList = [111, 110, 99, 101] from by decide +kernel]); (try have HGA := Aside0.mk (hc.heap (heap_alloc_new _ (.cells #[.string ⟨#[]⟩, .bool false, .int .i64 0, .string ⟨#[]⟩, .slice none 0 0, .int .i64 0, .string ⟨#[]⟩, .slice none 0 0] 94)) (by have := tok_lt HT0.out; simp; omega))); clear ht hc ho1) | (go_at_call 78; refine (name.calls pb s st1 _ (HT1.out.below (by repeat (first | exact Below.refl _ _ | apply below_alloc | apply below_drew)))).mono ?_; rcases ho2 : nameP st1 with ⟨c', st2⟩ | ⟨a, st2⟩; (focus (rintro e w2 ⟨rfl, ht, hc⟩; have ho := (bindO_l ho2).symm.trans HO2.out; subst ho; exact ⟨rfl, rfl, ht, ((HC1.out.mono (S' := fun k => k = pb ∨ B ≤ k) (fun k h => .inl h)).trans ((Ch.of_below (by repeat (first | exact Below.refl _ _ | apply below_alloc | apply below_drew)) (fun k => k = pb ∨ B ≤ k)).trans hc (fun k h => .inl (.inl h))) (fun k h => .inl h))⟩)); rintro e w2 ⟨⟨vv, rfl, rfl⟩, ht, hc⟩; have HO3 := Aside0.mk ((bindO_r ho2).symm.trans HO2.out); have HT2 := Aside0.mk ht; have HC2 : Aside0 (Ch (fun k => k = pb) w w2) := ⟨HC1.out.trans ((Ch.of_below (by repeat (first | exact Below.refl _ _ | apply below_alloc | apply below_drew)) (fun k => k = pb)).trans hc (fun k h => .inl h)) (fun k h => .inl h)⟩; have HP2 := Aside0.mk (HC2.out.heap HP.out nep); have HQ2 := Aside0.mk (zcell HP2.out 0 _ rfl); (try have HGB := Aside0.mk (hc.heap (heap_alloc_new _ (.cells #[.string ⟨#[]⟩, .bool false, .int .i64 0, .string ⟨#[]⟩, .slice none 0 0, .int .i64 0, .string ⟨#[]⟩, .slice none 0 0] 94)) (by have := tok_lt HT1.out; simp; omega))); (try have HGB := Aside0.mk (hc.heap HGA.out (by have := tok_lt HT0.out; simp; omega))); (try have hq0 := zcell HGB.out 0 _ rfl); (try have hf0 := zfree HGB.out 0); (try have hq1 := zcell HGB.out 1 _ rfl); (try have hf1 := zfree HGB.out 1); (try have hq2 := zcell HGB.out 2 _ rfl); (try have hf2 := zfree HGB.out 2); (try have hq3 := zcell HGB.out 3 _ rfl); (try have hf3 := zfree HGB.out 3); (try have hq4 := zcell HGB.out 4 _ rfl); (try have hf4 := zfree HGB.out 4); (try have hq5 := zcell HGB.out 5 _ rfl); (try have hf5 := zfree HGB.out 5); (try have hq6 := zcell HGB.out 6 _ rfl); (try have hf6 := zfree HGB.out 6); (try have hq7 := zcell HGB.out 7 _ rfl); (try have hf7 := zfree HGB.out 7); clear ho2 ht hc))
          all_goals
            clear hp0 hq0
            go_wp2_with fail
            go_meet
            refine ⟨q0, a, st2, _, rfl, HO3, ?_⟩
            first
            | with_reducible exact fin_alloc HT2.out HC2.out HP.out hbp hsB hpB nep
            | with_reducible exact fin_set8 HGB.out rfl HT2.out HC2.out HC1.out.size HP.out hbp hsB hpB nep
            | with_reducible exact fin_set8 HGB.out rfl HT2.out HC2.out HC0.out.size HP.out hbp hsB hpB nep
        · go_region_held2 (fun W => W.cell? ⟨bp, 0, none⟩ = some (.pointer (some ⟨pb, 0, none⟩))) ((((repeat' (first | (with_reducible refine keep_set ?_ ?_) | (with_reducible refine keep_alloc ?_) | (with_reducible refine keep_drew ?_) | exact hp0 | exact HQ1.out | exact HQ2.out | (first | (show bp ≠ w0.heap.size; have hlt := lt_of_block HP0.out; omega) | (show bp ≠ w1.heap.size; have hlt := lt_of_block HP1.out; omega) | (show bp ≠ w2.heap.size; have hlt := lt_of_block HP2.out; omega)))); done))) (first | (go_at_call 56; refine (ask.calls pb s _ st _ (HT0.out.below (by repeat (first | exact Below.refl _ _ | apply below_alloc | apply below_drew)))).mono ?_; (try rw [Bool.or_false]); rcases ho1 : askP true st with ⟨c', st1⟩ | ⟨q0, st1⟩; (focus (rintro e w1 ⟨rfl, ht, hc⟩; have ho := (bindO_l ho1).symm.trans HO1.out; subst ho; exact ⟨rfl, rfl, ht, ((HC0.out.mono (S' := fun k => k = pb ∨ B ≤ k) (fun k h => .inl h)).trans ((Ch.of_below (by repeat (first | exact Below.refl _ _ | apply below_alloc | apply below_drew)) (fun k => k = pb ∨ B ≤ k)).trans hc (fun k h => .inl (.inl h))) (fun k h => .inl h))⟩)); rintro e w1 ⟨⟨vv, rfl, rfl⟩, ht, hc⟩; have HO2 := Aside0.mk ((bindO_r ho1).symm.trans HO1.out); have HT1 := Aside0.mk ht; have HC1 : Aside0 (Ch (fun k => k = pb) w w1) := ⟨HC0.out.trans ((Ch.of_below (by repeat (first | exact Below.refl _ _ | apply below_alloc | apply below_drew)) (fun k => k = pb)).trans hc (fun k h => .inl h)) (fun k h => .inl h)⟩; have HP1 := Aside0.mk (HC1.out.heap HP.out nep); have HQ1 := Aside0.mk (zcell HP1.out 0 _ rfl); have hq0 : (q0.toList == [111, 110, 99, 101]) = eqS q0 tOnce := (by unfold eqS; rw [show tOnce.toList = [111, 110, 99, 101] from by decide +kernel]); (try have HGA := Aside0.mk (hc.heap (heap_alloc_new _ (.cells #[.string ⟨#[]⟩, .bool false, .int .i64 0, .string ⟨#[]⟩, .slice none 0 0, .int .i64 0, .string ⟨#[]⟩, .slice none 0 0] 94)) (by have := tok_lt HT0.out; simp; omega))); clear ht hc ho1) | (go_at_call 78; refine (name.calls pb s st1 _ (HT1.out.below (by repeat (first | exact Below.refl _ _ | apply below_alloc | apply below_drew)))).mono ?_; rcases ho2 : nameP st1 with ⟨c', st2⟩ | ⟨a, st2⟩; (focus (rintro e w2 ⟨rfl, ht, hc⟩; have ho := (bindO_l ho2).symm.trans HO2.out; subst ho; exact ⟨rfl, rfl, ht, ((HC1.out.mono (S' := fun k => k = pb ∨ B ≤ k) (fun k h => .inl h)).trans ((Ch.of_below (by repeat (first | exact Below.refl _ _ | apply below_alloc | apply below_drew)) (fun k => k = pb ∨ B ≤ k)).trans hc (fun k h => .inl (.inl h))) (fun k h => .inl h))⟩)); rintro e w2 ⟨⟨vv, rfl, rfl⟩, ht, hc⟩; have HO3 := Aside0.mk ((bindO_r ho2).symm.trans HO2.out); have HT2 := Aside0.mk ht; have HC2 : Aside0 (Ch (fun k => k = pb) w w2) := ⟨HC1.out.trans ((Ch.of_below (by repeat (first | exact Below.refl _ _ | apply below_alloc | apply below_drew)) (fun k => k = pb)).trans hc (fun k h => .inl h)) (fun k h => .inl h)⟩; have HP2 := Aside0.mk (HC2.out.heap HP.out nep); have HQ2 := Aside0.mk (zcell HP2.out 0 _ rfl); (try have HGB := Aside0.mk (hc.heap (heap_alloc_new _ (.cells #[.string ⟨#[]⟩, .bool false, .int .i64 0, .string ⟨#[]⟩, .slice none 0 0, .int .i64 0, .string ⟨#[]⟩, .slice none 0 0] 94)) (by have := tok_lt HT1.out; simp; omega))); (try have HGB := Aside0.mk (hc.heap HGA.out (by have := tok_lt HT0.out; simp; omega))); (try have hq0 := zcell HGB.out 0 _ rfl); (try have hf0 := zfree HGB.out 0); (try have hq1 := zcell HGB.out 1 _ rfl); (try have hf1 := zfree HGB.out 1); (try have hq2 := zcell HGB.out 2 _ rfl); (try have hf2 := zfree HGB.out 2); (try have hq3 := zcell HGB.out 3 _ rfl); (try have hf3 := zfree HGB.out 3); (try have hq4 := zcell HGB.out 4 _ rfl); (try have hf4 := zfree HGB.out 4); (try have hq5 := zcell HGB.out 5 _ rfl); (try have hf5 := zfree HGB.out 5); (try have hq6 := zcell HGB.out 6 _ rfl); (try have hf6 := zfree HGB.out 6); (try have hq7 := zcell HGB.out 7 _ rfl); (try have hf7 := zfree HGB.out 7); clear ho2 ht hc))
          all_goals
            clear hp0 hq0
            go_wp2_with fail
            go_meet
            refine ⟨q0, a, st2, _, rfl, HO3, ?_⟩
            first
            | with_reducible exact fin_alloc HT2.out HC2.out HP.out hbp hsB hpB nep
            | with_reducible exact fin_set8 HGB.out rfl HT2.out HC2.out HC1.out.size HP.out hbp hsB hpB nep
            | with_reducible exact fin_set8 HGB.out rfl HT2.out HC2.out HC0.out.size HP.out hbp hsB hpB nep
      · skip
        refine wp_region_held_drew (S := fun W : World => W.cell? ⟨bp, 0, none⟩ = some (.pointer (some ⟨pb, 0, none⟩))) (by kernel_rfl) (by exact hp0) (fun hHeld => ?_)
        refine wpAnyH_take (i := 0) (v := ?v0) rfl (by kernel_rfl) (by kernel_rfl) (by kernel_rfl) (fun _ _ _ h => h) (Or.inl ⟨by rfl, ?h0⟩) (by assumption) ?r0
        case h0 => (intro w hSw; (try dsimp only at hSw); go_simp; (first | done | with_reducible rfl))
        case r0 =>
        (try simp only [Act.put, List.setIfInBounds_toArray, List.set_cons_zero, List.set_cons_succ])
        refine wpAnyH_take (i := 1) (v := ?v1) rfl (by kernel_rfl) (by kernel_rfl) (by kernel_rfl) (fun _ _ _ h => h) (Or.inl ⟨by rfl, ?h1⟩) (by assumption) ?r1
        case h1 => (intro w hSw; (try dsimp only at hSw); go_simp; (first | done | with_reducible rfl))
        case r1 =>
        (try simp only [Act.put, List.setIfInBounds_toArray, List.set_cons_zero, List.set_cons_succ])
        refine wpAnyH_take (i := 2) (v := ?v2) rfl (by kernel_rfl) (by kernel_rfl) (by kernel_rfl) (fun _ _ _ h => h) (Or.inl ⟨by rfl, ?h2⟩) (by assumption) ?r2
        case h2 => (intro w hSw; (try dsimp only at hSw); go_simp; (first | done | with_reducible rfl))
        case r2 =>
        (try simp only [Act.put, List.setIfInBounds_toArray, List.set_cons_zero, List.set_cons_succ])
        refine wpAnyH_take (i := 3) (v := ?v3) rfl (by kernel_rfl) (by kernel_rfl) (by kernel_rfl) (fun _ _ _ h => h) (Or.inl ⟨by rfl, ?h3⟩) (by assumption) ?r3
        case h3 => (intro w hSw; (try dsimp only at hSw); go_simp; (first | done | with_reducible rfl))
        case r3 =>
        (try simp only [Act.put, List.setIfInBounds_toArray, List.set_cons_zero, List.set_cons_succ])
        refine wpAnyH_take (i := 4) (v := ?v4) rfl (by kernel_rfl) (by kernel_rfl) (by kernel_rfl) (fun _ _ _ h => h) (Or.inl ⟨by rfl, ?h4⟩) (by assumption) ?r4
        case h4 => (intro w hSw; (try dsimp only at hSw); go_simp; (first | done | with_reducible rfl))
        case r4 =>
        (try simp only [Act.put, List.setIfInBounds_toArray, List.set_cons_zero, List.set_cons_succ])
        refine wpAnyH_take (i := 5) (v := ?v5) rfl (by kernel_rfl) (by kernel_rfl) (by kernel_rfl) (fun _ _ _ h => h) (Or.inl ⟨by rfl, ?h5⟩) (by assumption) ?r5
        case h5 => (intro w hSw; (try dsimp only at hSw); go_simp; (first | done | with_reducible rfl))
        case r5 =>
        (try simp only [Act.put, List.setIfInBounds_toArray, List.set_cons_zero, List.set_cons_succ])
        refine wpAnyH_take (i := 6) (v := undef) rfl (by kernel_rfl) (by kernel_rfl) (by kernel_rfl) (fun _ _ _ h => h) (Or.inr ⟨by rfl, rfl⟩) (by assumption) ?_
        (try simp only [Act.put, List.setIfInBounds_toArray, List.set_cons_zero, List.set_cons_succ])
        refine wpAnyH_take (i := 7) (v := undef) rfl (by kernel_rfl) (by kernel_rfl) (by kernel_rfl) (fun _ _ _ h => h) (Or.inr ⟨by rfl, rfl⟩) (by assumption) ?_
        (try simp only [Act.put, List.setIfInBounds_toArray, List.set_cons_zero, List.set_cons_succ])
        refine wpAnyH_take (i := 8) (v := ?v6) rfl (by kernel_rfl) (by kernel_rfl) (by kernel_rfl) (fun _ _ _ h => h) (Or.inl ⟨by rfl, ?h6⟩) (by assumption) ?r6
        case h6 => (intro w hSw; (try dsimp only at hSw); go_simp; (first | done | with_reducible rfl))
        case r6 =>
        (try simp only [Act.put, List.setIfInBounds_toArray, List.set_cons_zero, List.set_cons_succ])
        refine wpAnyH_take (i := 11) (v := ?v7) rfl (by kernel_rfl) (by kernel_rfl) (by kernel_rfl) (fun _ _ _ h => h) (Or.inl ⟨by rfl, ?h7⟩) (by assumption) ?r7
        case h7 => (intro w hSw; (try dsimp only at hSw); go_simp; (first | done | with_reducible rfl))
        case r7 =>
        (try simp only [Act.put, List.setIfInBounds_toArray, List.set_cons_zero, List.set_cons_succ])
        refine wpAnyH_take (i := 12) (v := ?v8) rfl (by kernel_rfl) (by kernel_rfl) (by kernel_rfl) (fun _ _ _ h => h) (Or.inl ⟨by rfl, ?h8⟩) (by assumption) ?r8
        case h8 => (intro w hSw; (try dsimp only at hSw); go_simp; (first | done | with_reducible rfl))
        case r8 =>
        (try simp only [Act.put, List.setIfInBounds_toArray, List.set_cons_zero, List.set_cons_succ])
        refine wpAnyH_take (i := 13) (v := ?v9) rfl (by kernel_rfl) (by kernel_rfl) (by kernel_rfl) (fun _ _ _ h => h) (Or.inl ⟨by rfl, ?h9⟩) (by assumption) ?r9
        case h9 => (intro w hSw; (try dsimp only at hSw); go_simp; (first | done | with_reducible rfl))
        case r9 =>
        (try simp only [Act.put, List.setIfInBounds_toArray, List.set_cons_zero, List.set_cons_succ])
        refine wpAnyH_ready (rs := [9, 16]) (by kernel_rfl) (by simp) ?_
        refine AllReadyH.cons rfl (fun K hK => ?_) (AllReadyH.cons rfl (fun K hK => ?_) (AllReadyH.nil))
        · -- asked first
          go_simp
          go_wp2_with (go_at_call 56; refine (ask.calls pb s _ st _ (HT0.out.below (by repeat (first | exact Below.refl _ _ | apply below_alloc | apply below_drew)))).mono ?_; (try rw [Bool.or_false]); rcases ho1 : askP true st with ⟨c', st1⟩ | ⟨q0, st1⟩; (focus (rintro e w1 ⟨rfl, ht, hc⟩; have ho := (bindO_l ho1).symm.trans HO1.out; subst ho; exact ⟨rfl, rfl, ht, ((HC0.out.mono (S' := fun k => k = pb ∨ B ≤ k) (fun k h => .inl h)).trans ((Ch.of_below (by repeat (first | exact Below.refl _ _ | apply below_alloc | apply below_drew)) (fun k => k = pb ∨ B ≤ k)).trans hc (fun k h => .inl (.inl h))) (fun k h => .inl h))⟩)); rintro e w1 ⟨⟨vv, rfl, rfl⟩, ht, hc⟩; have HO2 := Aside0.mk ((bindO_r ho1).symm.trans HO1.out); have HT1 := Aside0.mk ht; have HC1 : Aside0 (Ch (fun k => k = pb) w w1) := ⟨HC0.out.trans ((Ch.of_below (by repeat (first | exact Below.refl _ _ | apply below_alloc | apply below_drew)) (fun k => k = pb)).trans hc (fun k h => .inl h)) (fun k h => .inl h)⟩; have HP1 := Aside0.mk (HC1.out.heap HP.out nep); have HQ1 := Aside0.mk (zcell HP1.out 0 _ rfl); have hq0 : (q0.toList == [111, 110, 99, 101]) = eqS q0 tOnce := (by unfold eqS; rw [show tOnce.toList = [111, 110, 99, 101] from by decide +kernel]); (try have HGA := Aside0.mk (hc.heap (heap_alloc_new _ (.cells #[.string ⟨#[]⟩, .bool false, .int .i64 0, .string ⟨#[]⟩, .slice none 0 0, .int .i64 0, .string ⟨#[]⟩, .slice none 0 0] 94)) (by have := tok_lt HT0.out; simp; omega))); clear ht hc ho1)
          refine hK.out _ _ ?s10 (fun hHeld2 => ?t10)
          case s10 => ((try dsimp only); ((((repeat' (first | (with_reducible refine keep_set ?_ ?_) | (with_reducible refine keep_alloc ?_) | (with_reducible refine keep_drew ?_) | exact hp0 | exact HQ1.out | exact HQ2.out | (first | (show bp ≠ w0.heap.size; have hlt := lt_of_block HP0.out; omega) | (show bp ≠ w1.heap.size; have hlt := lt_of_block HP1.out; omega) | (show bp ≠ w2.heap.size; have hlt := lt_of_block HP2.out; omega)))); done))))
          case t10 =>
          clear hK K hHeld
          have hHeld := hHeld2
          clear hHeld2
          (try simp only [Act.put, List.setIfInBounds_toArray, List.set_cons_zero, List.set_cons_succ])
          refine wpAnyH_take (i := 10) (v := ?v11) rfl (by kernel_rfl) (by kernel_rfl) (by kernel_rfl) (fun _ _ _ h => h) (Or.inl ⟨by rfl, ?h11⟩) (by assumption) ?r11
          case h11 => (intro w hSw; (try dsimp only at hSw); go_simp; (first | done | with_reducible rfl))
          case r11 =>
          (try simp only [Act.put, List.setIfInBounds_toArray, List.set_cons_zero, List.set_cons_succ])
          refine wpAnyH_ready (rs := [14, 16]) (by kernel_rfl) (by simp) ?_
          refine AllReadyH.cons rfl (fun K hK => ?_) (AllReadyH.cons rfl (fun K hK => ?_) (AllReadyH.nil))
          · -- named
            go_simp
            go_wp2_with (go_at_call 78; refine (name.calls pb s st1 _ (HT1.out.below (by repeat (first | exact Below.refl _ _ | apply below_alloc | apply below_drew)))).mono ?_; rcases ho2 : nameP st1 with ⟨c', st2⟩ | ⟨a, st2⟩; (focus (rintro e w2 ⟨rfl, ht, hc⟩; have ho := (bindO_l ho2).symm.trans HO2.out; subst ho; exact ⟨rfl, rfl, ht, ((HC1.out.mono (S' := fun k => k = pb ∨ B ≤ k) (fun k h => .inl h)).trans ((Ch.of_below (by repeat (first | exact Below.refl _ _ | apply below_alloc | apply below_drew)) (fun k => k = pb ∨ B ≤ k)).trans hc (fun k h => .inl (.inl h))) (fun k h => .inl h))⟩)); rintro e w2 ⟨⟨vv, rfl, rfl⟩, ht, hc⟩; have HO3 := Aside0.mk ((bindO_r ho2).symm.trans HO2.out); have HT2 := Aside0.mk ht; have HC2 : Aside0 (Ch (fun k => k = pb) w w2) := ⟨HC1.out.trans ((Ch.of_below (by repeat (first | exact Below.refl _ _ | apply below_alloc | apply below_drew)) (fun k => k = pb)).trans hc (fun k h => .inl h)) (fun k h => .inl h)⟩; have HP2 := Aside0.mk (HC2.out.heap HP.out nep); have HQ2 := Aside0.mk (zcell HP2.out 0 _ rfl); (try have HGB := Aside0.mk (hc.heap (heap_alloc_new _ (.cells #[.string ⟨#[]⟩, .bool false, .int .i64 0, .string ⟨#[]⟩, .slice none 0 0, .int .i64 0, .string ⟨#[]⟩, .slice none 0 0] 94)) (by have := tok_lt HT1.out; simp; omega))); (try have HGB := Aside0.mk (hc.heap HGA.out (by have := tok_lt HT0.out; simp; omega))); (try have hq0 := zcell HGB.out 0 _ rfl); (try have hf0 := zfree HGB.out 0); (try have hq1 := zcell HGB.out 1 _ rfl); (try have hf1 := zfree HGB.out 1); (try have hq2 := zcell HGB.out 2 _ rfl); (try have hf2 := zfree HGB.out 2); (try have hq3 := zcell HGB.out 3 _ rfl); (try have hf3 := zfree HGB.out 3); (try have hq4 := zcell HGB.out 4 _ rfl); (try have hf4 := zfree HGB.out 4); (try have hq5 := zcell HGB.out 5 _ rfl); (try have hf5 := zfree HGB.out 5); (try have hq6 := zcell HGB.out 6 _ rfl); (try have hf6 := zfree HGB.out 6); (try have hq7 := zcell HGB.out 7 _ rfl); (try have hf7 := zfree HGB.out 7); clear ho2 ht hc)
            refine hK.out _ _ ?s12 (fun hHeld2 => ?t12)
            case s12 => ((try dsimp only); ((((repeat' (first | (with_reducible refine keep_set ?_ ?_) | (with_reducible refine keep_alloc ?_) | (with_reducible refine keep_drew ?_) | exact hp0 | exact HQ1.out | exact HQ2.out | (first | (show bp ≠ w0.heap.size; have hlt := lt_of_block HP0.out; omega) | (show bp ≠ w1.heap.size; have hlt := lt_of_block HP1.out; omega) | (show bp ≠ w2.heap.size; have hlt := lt_of_block HP2.out; omega)))); done))))
            case t12 =>
            clear hK K hHeld
            have hHeld := hHeld2
            clear hHeld2
            (try simp only [Act.put, List.setIfInBounds_toArray, List.set_cons_zero, List.set_cons_succ])
            refine wpAnyH_take (i := 15) (v := ?v13) rfl (by kernel_rfl) (by kernel_rfl) (by kernel_rfl) (fun _ _ _ h => h) (Or.inl ⟨by rfl, ?h13⟩) (by assumption) ?r13
            case h13 => (intro w hSw; (try dsimp only at hSw); go_simp; (first | done | with_reducible rfl))
            case r13 =>
            (try simp only [Act.put, List.setIfInBounds_toArray, List.set_cons_zero, List.set_cons_succ])
            refine wpAnyH_ready (rs := [16]) (by kernel_rfl) (by simp) ?_
            refine AllReadyH.cons rfl (fun K hK => ?_) (AllReadyH.nil)
            go_simp
            refine hK.out _ _ ?s14 (fun hHeld2 => ?t14)
            case s14 => ((try dsimp only); ((((repeat' (first | (with_reducible refine keep_set ?_ ?_) | (with_reducible refine keep_alloc ?_) | (with_reducible refine keep_drew ?_) | exact hp0 | exact HQ1.out | exact HQ2.out | (first | (show bp ≠ w0.heap.size; have hlt := lt_of_block HP0.out; omega) | (show bp ≠ w1.heap.size; have hlt := lt_of_block HP1.out; omega) | (show bp ≠ w2.heap.size; have hlt := lt_of_block HP2.out; omega)))); done))))
            case t14 =>
            clear hK K hHeld
            have hHeld := hHeld2
            clear hHeld2
            (try simp only [Act.put, List.setIfInBounds_toArray, List.set_cons_zero, List.set_cons_succ])
            refine wpAnyH_ready (rs := [17]) (by kernel_rfl) (by simp) ?_
            refine AllReadyH.cons rfl (fun K hK => ?_) (AllReadyH.nil)
            go_simp
            refine hK.out _ _ ?s15 (fun hHeld2 => ?t15)
            case s15 => ((try dsimp only); ((((repeat' (first | (with_reducible refine keep_set ?_ ?_) | (with_reducible refine keep_alloc ?_) | (with_reducible refine keep_drew ?_) | exact hp0 | exact HQ1.out | exact HQ2.out | (first | (show bp ≠ w0.heap.size; have hlt := lt_of_block HP0.out; omega) | (show bp ≠ w1.heap.size; have hlt := lt_of_block HP1.out; omega) | (show bp ≠ w2.heap.size; have hlt := lt_of_block HP2.out; omega)))); done))))
            case t15 =>
            clear hK K hHeld
            have hHeld := hHeld2
            clear hHeld2
            (try simp only [Act.put, List.setIfInBounds_toArray, List.set_cons_zero, List.set_cons_succ])
            refine wpAnyH_done (by kernel_rfl) ?_ _
            clear hp0 hq0 hHeld
            go_wp2_with fail
            go_meet
            refine ⟨q0, a, st2, _, rfl, HO3, ?_⟩
            first
            | with_reducible exact fin_alloc HT2.out HC2.out HP.out hbp hsB hpB nep
            | with_reducible exact fin_set8 HGB.out rfl HT2.out HC2.out HC1.out.size HP.out hbp hsB hpB nep
            | with_reducible exact fin_set8 HGB.out rfl HT2.out HC2.out HC0.out.size HP.out hbp hsB hpB nep
          · -- made
            go_simp
            refine hK.out _ _ ?s16 (fun hHeld2 => ?t16)
            case s16 => ((try dsimp only); ((((repeat' (first | (with_reducible refine keep_set ?_ ?_) | (with_reducible refine keep_alloc ?_) | (with_reducible refine keep_drew ?_) | exact hp0 | exact HQ1.out | exact HQ2.out | (first | (show bp ≠ w0.heap.size; have hlt := lt_of_block HP0.out; omega) | (show bp ≠ w1.heap.size; have hlt := lt_of_block HP1.out; omega) | (show bp ≠ w2.heap.size; have hlt := lt_of_block HP2.out; omega)))); done))))
            case t16 =>
            clear hK K hHeld
            have hHeld := hHeld2
            clear hHeld2
            (try simp only [Act.put, List.setIfInBounds_toArray, List.set_cons_zero, List.set_cons_succ])
            refine wpAnyH_ready (rs := [14]) (by kernel_rfl) (by simp) ?_
            refine AllReadyH.cons rfl (fun K hK => ?_) (AllReadyH.nil)
            go_simp
            go_wp2_with (go_at_call 78; refine (name.calls pb s st1 _ (HT1.out.below (by repeat (first | exact Below.refl _ _ | apply below_alloc | apply below_drew)))).mono ?_; rcases ho2 : nameP st1 with ⟨c', st2⟩ | ⟨a, st2⟩; (focus (rintro e w2 ⟨rfl, ht, hc⟩; have ho := (bindO_l ho2).symm.trans HO2.out; subst ho; exact ⟨rfl, rfl, ht, ((HC1.out.mono (S' := fun k => k = pb ∨ B ≤ k) (fun k h => .inl h)).trans ((Ch.of_below (by repeat (first | exact Below.refl _ _ | apply below_alloc | apply below_drew)) (fun k => k = pb ∨ B ≤ k)).trans hc (fun k h => .inl (.inl h))) (fun k h => .inl h))⟩)); rintro e w2 ⟨⟨vv, rfl, rfl⟩, ht, hc⟩; have HO3 := Aside0.mk ((bindO_r ho2).symm.trans HO2.out); have HT2 := Aside0.mk ht; have HC2 : Aside0 (Ch (fun k => k = pb) w w2) := ⟨HC1.out.trans ((Ch.of_below (by repeat (first | exact Below.refl _ _ | apply below_alloc | apply below_drew)) (fun k => k = pb)).trans hc (fun k h => .inl h)) (fun k h => .inl h)⟩; have HP2 := Aside0.mk (HC2.out.heap HP.out nep); have HQ2 := Aside0.mk (zcell HP2.out 0 _ rfl); (try have HGB := Aside0.mk (hc.heap (heap_alloc_new _ (.cells #[.string ⟨#[]⟩, .bool false, .int .i64 0, .string ⟨#[]⟩, .slice none 0 0, .int .i64 0, .string ⟨#[]⟩, .slice none 0 0] 94)) (by have := tok_lt HT1.out; simp; omega))); (try have HGB := Aside0.mk (hc.heap HGA.out (by have := tok_lt HT0.out; simp; omega))); (try have hq0 := zcell HGB.out 0 _ rfl); (try have hf0 := zfree HGB.out 0); (try have hq1 := zcell HGB.out 1 _ rfl); (try have hf1 := zfree HGB.out 1); (try have hq2 := zcell HGB.out 2 _ rfl); (try have hf2 := zfree HGB.out 2); (try have hq3 := zcell HGB.out 3 _ rfl); (try have hf3 := zfree HGB.out 3); (try have hq4 := zcell HGB.out 4 _ rfl); (try have hf4 := zfree HGB.out 4); (try have hq5 := zcell HGB.out 5 _ rfl); (try have hf5 := zfree HGB.out 5); (try have hq6 := zcell HGB.out 6 _ rfl); (try have hf6 := zfree HGB.out 6); (try have hq7 := zcell HGB.out 7 _ rfl); (try have hf7 := zfree HGB.out 7); clear ho2 ht hc)
            refine hK.out _ _ ?s17 (fun hHeld2 => ?t17)
            case s17 => ((try dsimp only); ((((repeat' (first | (with_reducible refine keep_set ?_ ?_) | (with_reducible refine keep_alloc ?_) | (with_reducible refine keep_drew ?_) | exact hp0 | exact HQ1.out | exact HQ2.out | (first | (show bp ≠ w0.heap.size; have hlt := lt_of_block HP0.out; omega) | (show bp ≠ w1.heap.size; have hlt := lt_of_block HP1.out; omega) | (show bp ≠ w2.heap.size; have hlt := lt_of_block HP2.out; omega)))); done))))
            case t17 =>
            clear hK K hHeld
            have hHeld := hHeld2
            clear hHeld2
            (try simp only [Act.put, List.setIfInBounds_toArray, List.set_cons_zero, List.set_cons_succ])
            refine wpAnyH_take (i := 15) (v := ?v18) rfl (by kernel_rfl) (by kernel_rfl) (by kernel_rfl) (fun _ _ _ h => h) (Or.inl ⟨by rfl, ?h18⟩) (by assumption) ?r18
            case h18 => (intro w hSw; (try dsimp only at hSw); go_simp; (first | done | with_reducible rfl))
            case r18 =>
            (try simp only [Act.put, List.setIfInBounds_toArray, List.set_cons_zero, List.set_cons_succ])
            refine wpAnyH_ready (rs := [17]) (by kernel_rfl) (by simp) ?_
            refine AllReadyH.cons rfl (fun K hK => ?_) (AllReadyH.nil)
            go_simp
            refine hK.out _ _ ?s19 (fun hHeld2 => ?t19)
            case s19 => ((try dsimp only); ((((repeat' (first | (with_reducible refine keep_set ?_ ?_) | (with_reducible refine keep_alloc ?_) | (with_reducible refine keep_drew ?_) | exact hp0 | exact HQ1.out | exact HQ2.out | (first | (show bp ≠ w0.heap.size; have hlt := lt_of_block HP0.out; omega) | (show bp ≠ w1.heap.size; have hlt := lt_of_block HP1.out; omega) | (show bp ≠ w2.heap.size; have hlt := lt_of_block HP2.out; omega)))); done))))
            case t19 =>
            clear hK K hHeld
            have hHeld := hHeld2
            clear hHeld2
            (try simp only [Act.put, List.setIfInBounds_toArray, List.set_cons_zero, List.set_cons_succ])
            refine wpAnyH_done (by kernel_rfl) ?_ _
            clear hp0 hq0 hHeld
            go_wp2_with fail
            go_meet
            refine ⟨q0, a, st2, _, rfl, HO3, ?_⟩
            first
            | with_reducible exact fin_alloc HT2.out HC2.out HP.out hbp hsB hpB nep
            | with_reducible exact fin_set8 HGB.out rfl HT2.out HC2.out HC1.out.size HP.out hbp hsB hpB nep
            | with_reducible exact fin_set8 HGB.out rfl HT2.out HC2.out HC0.out.size HP.out hbp hsB hpB nep
        · -- made first
          go_simp
          refine hK.out _ _ ?s20 (fun hHeld2 => ?t20)
          case s20 => ((try dsimp only); ((((repeat' (first | (with_reducible refine keep_set ?_ ?_) | (with_reducible refine keep_alloc ?_) | (with_reducible refine keep_drew ?_) | exact hp0 | exact HQ1.out | exact HQ2.out | (first | (show bp ≠ w0.heap.size; have hlt := lt_of_block HP0.out; omega) | (show bp ≠ w1.heap.size; have hlt := lt_of_block HP1.out; omega) | (show bp ≠ w2.heap.size; have hlt := lt_of_block HP2.out; omega)))); done))))
          case t20 =>
          clear hK K hHeld
          have hHeld := hHeld2
          clear hHeld2
          (try simp only [Act.put, List.setIfInBounds_toArray, List.set_cons_zero, List.set_cons_succ])
          refine wpAnyH_ready (rs := [9]) (by kernel_rfl) (by simp) ?_
          refine AllReadyH.cons rfl (fun K hK => ?_) (AllReadyH.nil)
          go_simp
          go_wp2_with (go_at_call 56; refine (ask.calls pb s _ st _ (HT0.out.below (by repeat (first | exact Below.refl _ _ | apply below_alloc | apply below_drew)))).mono ?_; (try rw [Bool.or_false]); rcases ho1 : askP true st with ⟨c', st1⟩ | ⟨q0, st1⟩; (focus (rintro e w1 ⟨rfl, ht, hc⟩; have ho := (bindO_l ho1).symm.trans HO1.out; subst ho; exact ⟨rfl, rfl, ht, ((HC0.out.mono (S' := fun k => k = pb ∨ B ≤ k) (fun k h => .inl h)).trans ((Ch.of_below (by repeat (first | exact Below.refl _ _ | apply below_alloc | apply below_drew)) (fun k => k = pb ∨ B ≤ k)).trans hc (fun k h => .inl (.inl h))) (fun k h => .inl h))⟩)); rintro e w1 ⟨⟨vv, rfl, rfl⟩, ht, hc⟩; have HO2 := Aside0.mk ((bindO_r ho1).symm.trans HO1.out); have HT1 := Aside0.mk ht; have HC1 : Aside0 (Ch (fun k => k = pb) w w1) := ⟨HC0.out.trans ((Ch.of_below (by repeat (first | exact Below.refl _ _ | apply below_alloc | apply below_drew)) (fun k => k = pb)).trans hc (fun k h => .inl h)) (fun k h => .inl h)⟩; have HP1 := Aside0.mk (HC1.out.heap HP.out nep); have HQ1 := Aside0.mk (zcell HP1.out 0 _ rfl); have hq0 : (q0.toList == [111, 110, 99, 101]) = eqS q0 tOnce := (by unfold eqS; rw [show tOnce.toList = [111, 110, 99, 101] from by decide +kernel]); (try have HGA := Aside0.mk (hc.heap (heap_alloc_new _ (.cells #[.string ⟨#[]⟩, .bool false, .int .i64 0, .string ⟨#[]⟩, .slice none 0 0, .int .i64 0, .string ⟨#[]⟩, .slice none 0 0] 94)) (by have := tok_lt HT0.out; simp; omega))); clear ht hc ho1)
          refine hK.out _ _ ?s21 (fun hHeld2 => ?t21)
          case s21 => ((try dsimp only); ((((repeat' (first | (with_reducible refine keep_set ?_ ?_) | (with_reducible refine keep_alloc ?_) | (with_reducible refine keep_drew ?_) | exact hp0 | exact HQ1.out | exact HQ2.out | (first | (show bp ≠ w0.heap.size; have hlt := lt_of_block HP0.out; omega) | (show bp ≠ w1.heap.size; have hlt := lt_of_block HP1.out; omega) | (show bp ≠ w2.heap.size; have hlt := lt_of_block HP2.out; omega)))); done))))
          case t21 =>
          clear hK K hHeld
          have hHeld := hHeld2
          clear hHeld2
          (try simp only [Act.put, List.setIfInBounds_toArray, List.set_cons_zero, List.set_cons_succ])
          refine wpAnyH_take (i := 10) (v := ?v22) rfl (by kernel_rfl) (by kernel_rfl) (by kernel_rfl) (fun _ _ _ h => h) (Or.inl ⟨by rfl, ?h22⟩) (by assumption) ?r22
          case h22 => (intro w hSw; (try dsimp only at hSw); go_simp; (first | done | with_reducible rfl))
          case r22 =>
          (try simp only [Act.put, List.setIfInBounds_toArray, List.set_cons_zero, List.set_cons_succ])
          refine wpAnyH_ready (rs := [14]) (by kernel_rfl) (by simp) ?_
          refine AllReadyH.cons rfl (fun K hK => ?_) (AllReadyH.nil)
          go_simp
          go_wp2_with (go_at_call 78; refine (name.calls pb s st1 _ (HT1.out.below (by repeat (first | exact Below.refl _ _ | apply below_alloc | apply below_drew)))).mono ?_; rcases ho2 : nameP st1 with ⟨c', st2⟩ | ⟨a, st2⟩; (focus (rintro e w2 ⟨rfl, ht, hc⟩; have ho := (bindO_l ho2).symm.trans HO2.out; subst ho; exact ⟨rfl, rfl, ht, ((HC1.out.mono (S' := fun k => k = pb ∨ B ≤ k) (fun k h => .inl h)).trans ((Ch.of_below (by repeat (first | exact Below.refl _ _ | apply below_alloc | apply below_drew)) (fun k => k = pb ∨ B ≤ k)).trans hc (fun k h => .inl (.inl h))) (fun k h => .inl h))⟩)); rintro e w2 ⟨⟨vv, rfl, rfl⟩, ht, hc⟩; have HO3 := Aside0.mk ((bindO_r ho2).symm.trans HO2.out); have HT2 := Aside0.mk ht; have HC2 : Aside0 (Ch (fun k => k = pb) w w2) := ⟨HC1.out.trans ((Ch.of_below (by repeat (first | exact Below.refl _ _ | apply below_alloc | apply below_drew)) (fun k => k = pb)).trans hc (fun k h => .inl h)) (fun k h => .inl h)⟩; have HP2 := Aside0.mk (HC2.out.heap HP.out nep); have HQ2 := Aside0.mk (zcell HP2.out 0 _ rfl); (try have HGB := Aside0.mk (hc.heap (heap_alloc_new _ (.cells #[.string ⟨#[]⟩, .bool false, .int .i64 0, .string ⟨#[]⟩, .slice none 0 0, .int .i64 0, .string ⟨#[]⟩, .slice none 0 0] 94)) (by have := tok_lt HT1.out; simp; omega))); (try have HGB := Aside0.mk (hc.heap HGA.out (by have := tok_lt HT0.out; simp; omega))); (try have hq0 := zcell HGB.out 0 _ rfl); (try have hf0 := zfree HGB.out 0); (try have hq1 := zcell HGB.out 1 _ rfl); (try have hf1 := zfree HGB.out 1); (try have hq2 := zcell HGB.out 2 _ rfl); (try have hf2 := zfree HGB.out 2); (try have hq3 := zcell HGB.out 3 _ rfl); (try have hf3 := zfree HGB.out 3); (try have hq4 := zcell HGB.out 4 _ rfl); (try have hf4 := zfree HGB.out 4); (try have hq5 := zcell HGB.out 5 _ rfl); (try have hf5 := zfree HGB.out 5); (try have hq6 := zcell HGB.out 6 _ rfl); (try have hf6 := zfree HGB.out 6); (try have hq7 := zcell HGB.out 7 _ rfl); (try have hf7 := zfree HGB.out 7); clear ho2 ht hc)
          refine hK.out _ _ ?s23 (fun hHeld2 => ?t23)
          case s23 => ((try dsimp only); ((((repeat' (first | (with_reducible refine keep_set ?_ ?_) | (with_reducible refine keep_alloc ?_) | (with_reducible refine keep_drew ?_) | exact hp0 | exact HQ1.out | exact HQ2.out | (first | (show bp ≠ w0.heap.size; have hlt := lt_of_block HP0.out; omega) | (show bp ≠ w1.heap.size; have hlt := lt_of_block HP1.out; omega) | (show bp ≠ w2.heap.size; have hlt := lt_of_block HP2.out; omega)))); done))))
          case t23 =>
          clear hK K hHeld
          have hHeld := hHeld2
          clear hHeld2
          (try simp only [Act.put, List.setIfInBounds_toArray, List.set_cons_zero, List.set_cons_succ])
          refine wpAnyH_take (i := 15) (v := ?v24) rfl (by kernel_rfl) (by kernel_rfl) (by kernel_rfl) (fun _ _ _ h => h) (Or.inl ⟨by rfl, ?h24⟩) (by assumption) ?r24
          case h24 => (intro w hSw; (try dsimp only at hSw); go_simp; (first | done | with_reducible rfl))
          case r24 =>
          (try simp only [Act.put, List.setIfInBounds_toArray, List.set_cons_zero, List.set_cons_succ])
          refine wpAnyH_ready (rs := [17]) (by kernel_rfl) (by simp) ?_
          refine AllReadyH.cons rfl (fun K hK => ?_) (AllReadyH.nil)
          go_simp
          refine hK.out _ _ ?s25 (fun hHeld2 => ?t25)
          case s25 => ((try dsimp only); ((((repeat' (first | (with_reducible refine keep_set ?_ ?_) | (with_reducible refine keep_alloc ?_) | (with_reducible refine keep_drew ?_) | exact hp0 | exact HQ1.out | exact HQ2.out | (first | (show bp ≠ w0.heap.size; have hlt := lt_of_block HP0.out; omega) | (show bp ≠ w1.heap.size; have hlt := lt_of_block HP1.out; omega) | (show bp ≠ w2.heap.size; have hlt := lt_of_block HP2.out; omega)))); done))))
          case t25 =>
          clear hK K hHeld
          have hHeld := hHeld2
          clear hHeld2
          (try simp only [Act.put, List.setIfInBounds_toArray, List.set_cons_zero, List.set_cons_succ])
          refine wpAnyH_done (by kernel_rfl) ?_ _
          clear hp0 hq0 hHeld
          go_wp2_with fail
          go_meet
          refine ⟨q0, a, st2, _, rfl, HO3, ?_⟩
          first
          | with_reducible exact fin_alloc HT2.out HC2.out HP.out hbp hsB hpB nep
          | with_reducible exact fin_set8 HGB.out rfl HT2.out HC2.out HC1.out.size HP.out hbp hsB hpB nep
          | with_reducible exact fin_set8 HGB.out rfl HT2.out HC2.out HC0.out.size HP.out hbp hsB hpB nep
  case rest =>
    obtain ⟨q0, a, st2, g, rfl, HO2, HT3, HC3, HK3, HG3, HGE, HGL3⟩ := hcut
    obtain ⟨W, rfl⟩ : ∃ x, x = wc := ⟨_, rfl⟩
    clear hp0 HO0 HO1 hb1' hb2'
    have hp0 := zcell (HC3.out.heap HP.out nep) 0 _ rfl
    go_wp2_with fail
    refine (sign.calls pb s tLP st2 _ W.heap.size (HT3.out.below (below_alloc (Below.refl _ _) _)) (heap_alloc_new W _) (by have := tok_lt HT3.out; omega)).mono ?_
    rcases ho3 : signP tLP st2 with ⟨c', st3⟩ | ⟨q3, st3⟩
    · rintro e w4 ⟨rfl, ht, hc⟩
      have ho := (bindO_l ho3).symm.trans HO2.out
      subst ho
      exact ⟨rfl, rfl, ht, ((HC3.out.alloc _).mono (S' := fun k => k = pb ∨ B ≤ k) (fun k h => .inl h)).trans hc (fun k h => .inl (.inl h))⟩
    rintro e w4 ⟨⟨vv, rfl, rfl⟩, ht, hc⟩
    have HO3 := Aside0.mk ((bindO_r ho3).symm.trans HO2.out)
    have HT4 := Aside0.mk ht
    have hcc : Ch (fun k => k = pb) W w4 := ((Ch.refl (fun k => k = pb) W).alloc _).trans hc (fun k h => .inl h)
    have HC4 := Aside0.mk (HC3.out.trans hcc (fun k h => .inl h))
    have HK4 := Aside0.mk (hcc.heap HK3.out (by have := HG3.out; omega))
    have HGL4 := Aside0.mk (Nat.lt_of_lt_of_le HGL3.out hcc.size)
    clear ht hc hcc ho3 hp0 HT3 HC3 HK3 HO2 HGL3
    have hp0 := zcell (HC4.out.heap HP.out nep) 0 _ rfl
    go_wp2_with fail
    refine (typed.calls 8 pb s st3 1 _ (by rfl) (by decide) HT4.out).mono ?_
    rcases ho4 : typedP 8 st3 with ⟨c', st4⟩ | ⟨x, st4⟩
    · rintro e w4 ⟨rfl, ht, hc⟩
      have ho := (bindO_l ho4).symm.trans HO3.out
      subst ho
      exact ⟨rfl, rfl, ht, (HC4.out.mono (S' := fun k => k = pb ∨ B ≤ k) (fun k h => .inl h)).trans hc (fun k h => .inl (.inl h))⟩
    rintro e w5 ⟨⟨vv, rfl, ⟨vx, rfl, hy⟩⟩, ht, hc⟩
    have HO4 := Aside0.mk ((bindO_r ho4).symm.trans HO3.out)
    obtain ⟨Ax, cx, rfl⟩ := Kd.R_slice hy
    have HT5 := Aside0.mk ht
    have HC5 := Aside0.mk (HC4.out.trans hc (fun k h => .inl h))
    have HK5 := Aside0.mk (hc.heap HK4.out (by have := HG3.out; omega))
    have HS5 := Aside0.mk hc.size
    have HYx_5 := Aside0.mk hy
    have HBx := HGL4
    clear ht hc hy ho4 hp0 HT4 HC4 HK4 HO3
    go_wp2_with ((with_reducible refine gate_store (p := 34) rfl ?_); refine store_part rfl rfl 50 _ _ rfl #[.int .i64 x.f0, .string x.f1, .slice Ax x.f2.length cx] #[.string a, .bool (eqS q0 tOnce), .int .i64 x.f0, .string x.f1, .slice Ax x.f2.length cx, .int .i64 0, .string ⟨#[]⟩, .slice none 0 0] (o' := 2) rfl rfl HK5.out (Nat.le_of_ble_eq_true rfl) rfl (by kernel_rfl) (by rfl) ?_; intro w6 h1 h2; have HK6 := Aside0.mk h1; have HC6 := Aside0.mk (HC5.out.trans h2 (fun k h => .inr (by have := HGE.out; omega))); have HT6 := Aside0.mk (HT5.out.above (h2.mono (fun k h => by have := HG3.out; omega)) hsB hpB); have HGL6 := Aside0.mk (Nat.lt_of_lt_of_le HGL4.out (Nat.le_trans HS5.out h2.size)); have HYx_6 := Aside0.mk (Kd.R_mono (R_ch (Kd.R_types HYx_5.out HK5.out (by decide)) h2 (fun k hk e => hk.2 e)) (fun _ _ => trivial)); have hp0 := zcell (HC6.out.heap HP.out nep) 0 _ rfl; clear h1 h2 HT5 HC5 HK5 HS5 HYx_5)
    have hp0 := zcell (HC6.out.heap HP.out nep) 0 _ rfl
    go_wp2_with fail
    refine (sign.calls pb s tRP st4 _ w6.heap.size (HT6.out.below (below_alloc (Below.refl _ _) _)) (heap_alloc_new w6 _) (by have := tok_lt HT6.out; omega)).mono ?_
    rcases ho5 : signP tRP st4 with ⟨c', st5⟩ | ⟨q5, st5⟩
    · rintro e w4 ⟨rfl, ht, hc⟩
      have ho := (bindO_l ho5).symm.trans HO4.out
      subst ho
      exact ⟨rfl, rfl, ht, ((HC6.out.alloc _).mono (S' := fun k => k = pb ∨ B ≤ k) (fun k h => .inl h)).trans hc (fun k h => .inl (.inl h))⟩
    rintro e w7 ⟨⟨vv, rfl, rfl⟩, ht, hc⟩
    have HO5 := Aside0.mk ((bindO_r ho5).symm.trans HO4.out)
    have HT7 := Aside0.mk ht
    have hcc : Ch (fun k => k = pb) w6 w7 := ((Ch.refl (fun k => k = pb) w6).alloc _).trans hc (fun k h => .inl h)
    have HC7 := Aside0.mk (HC6.out.trans hcc (fun k h => .inl h))
    have HK7 := Aside0.mk (hcc.heap HK6.out (by have := HG3.out; omega))
    have HGL7 := Aside0.mk (Nat.lt_of_lt_of_le HGL6.out hcc.size)
    obtain ⟨cs_, hb_⟩ := HT6.out.block
    have HYx_7 := Aside0.mk (Kd.R_mono (R_ch (Kd.R_types HYx_6.out hb_ (by decide)) hcc (fun k hk e => hk.2 e)) (fun _ _ => trivial))
    clear hb_
    clear ht hc hcc ho5 hp0 HT6 HC6 HK6 HO4 HGL6 HYx_6
    have hp0 := zcell (HC7.out.heap HP.out nep) 0 _ rfl
    go_wp2_with fail
    refine (typed.calls 8 pb s st5 1 _ (by rfl) (by decide) HT7.out).mono ?_
    rcases ho6 : typedP 8 st5 with ⟨c', st6⟩ | ⟨y, st6⟩
    · rintro e w4 ⟨rfl, ht, hc⟩
      have ho := (bindO_l ho6).symm.trans HO5.out
      subst ho
      exact ⟨rfl, rfl, ht, (HC7.out.mono (S' := fun k => k = pb ∨ B ≤ k) (fun k h => .inl h)).trans hc (fun k h => .inl (.inl h))⟩
    rintro e w8 ⟨⟨vv, rfl, ⟨vy, rfl, hy⟩⟩, ht, hc⟩
    have HO6 := Aside0.mk ((bindO_r ho6).symm.trans HO5.out)
    obtain ⟨Ay, cy, rfl⟩ := Kd.R_slice hy
    have HT8 := Aside0.mk ht
    have HC8 := Aside0.mk (HC7.out.trans hc (fun k h => .inl h))
    have HK8 := Aside0.mk (hc.heap HK7.out (by have := HG3.out; omega))
    have HS8 := Aside0.mk hc.size
    obtain ⟨cs_, hb_⟩ := HT7.out.block
    have HYx_8 := Aside0.mk (Kd.R_mono (R_ch (Kd.R_types HYx_7.out hb_ (by decide)) hc (fun k hk e => hk.2 e)) (fun _ _ => trivial))
    clear hb_
    have HYy_8 := Aside0.mk hy
    have HBy := HGL7
    clear ht hc hy ho6 hp0 HT7 HC7 HK7 HO5 HYx_7
    go_wp2_with ((with_reducible refine gate_store (p := 44) rfl ?_); refine store_part rfl rfl 50 _ _ rfl #[.int .i64 y.f0, .string y.f1, .slice Ay y.f2.length cy] #[.string a, .bool (eqS q0 tOnce), .int .i64 x.f0, .string x.f1, .slice Ax x.f2.length cx, .int .i64 y.f0, .string y.f1, .slice Ay y.f2.length cy] (o' := 5) rfl rfl HK8.out (Nat.le_of_ble_eq_true rfl) rfl (by kernel_rfl) (by rfl) ?_; intro w9 h1 h2; have HK9 := Aside0.mk h1; have HC9 := Aside0.mk (HC8.out.trans h2 (fun k h => .inr (by have := HGE.out; omega))); have HT9 := Aside0.mk (HT8.out.above (h2.mono (fun k h => by have := HG3.out; omega)) hsB hpB); have HGL9 := Aside0.mk (Nat.lt_of_lt_of_le HGL7.out (Nat.le_trans HS8.out h2.size)); have HYx_9 := Aside0.mk (Kd.R_mono (R_ch (Kd.R_types HYx_8.out HK8.out (by decide)) h2 (fun k hk e => hk.2 e)) (fun _ _ => trivial)); have HYy_9 := Aside0.mk (Kd.R_mono (R_ch (Kd.R_types HYy_8.out HK8.out (by decide)) h2 (fun k hk e => hk.2 e)) (fun _ _ => trivial)); have hp0 := zcell (HC9.out.heap HP.out nep) 0 _ rfl; clear h1 h2 HT8 HC8 HK8 HS8 HYx_8 HYy_8)
    have hp0 := zcell (HC9.out.heap HP.out nep) 0 _ rfl
    go_wp2_with fail
    refine (sign.calls pb s tSC st6 _ w9.heap.size (HT9.out.below (below_alloc (Below.refl _ _) _)) (heap_alloc_new w9 _) (by have := tok_lt HT9.out; omega)).mono ?_
    rcases ho7 : signP tSC st6 with ⟨c', st7⟩ | ⟨q7, st7⟩
    · rintro e w4 ⟨rfl, ht, hc⟩
      have ho := (bindO_l ho7).symm.trans HO6.out
      subst ho
      exact ⟨rfl, rfl, ht, ((HC9.out.alloc _).mono (S' := fun k => k = pb ∨ B ≤ k) (fun k h => .inl h)).trans hc (fun k h => .inl (.inl h))⟩
    rintro e w10 ⟨⟨vv, rfl, rfl⟩, ht, hc⟩
    have HO7 := Aside0.mk ((bindO_r ho7).symm.trans HO6.out)
    have HT10 := Aside0.mk ht
    have hcc : Ch (fun k => k = pb) w9 w10 := ((Ch.refl (fun k => k = pb) w9).alloc _).trans hc (fun k h => .inl h)
    have HC10 := Aside0.mk (HC9.out.trans hcc (fun k h => .inl h))
    have HK10 := Aside0.mk (hcc.heap HK9.out (by have := HG3.out; omega))
    have HGL10 := Aside0.mk (Nat.lt_of_lt_of_le HGL9.out hcc.size)
    obtain ⟨cs_, hb_⟩ := HT9.out.block
    have HYx_10 := Aside0.mk (Kd.R_mono (R_ch (Kd.R_types HYx_9.out hb_ (by decide)) hcc (fun k hk e => hk.2 e)) (fun _ _ => trivial))
    have HYy_10 := Aside0.mk (Kd.R_mono (R_ch (Kd.R_types HYy_9.out hb_ (by decide)) hcc (fun k hk e => hk.2 e)) (fun _ _ => trivial))
    clear hb_
    clear ht hc hcc ho7 hp0 HT9 HC9 HK9 HO6 HGL9 HYx_9 HYy_9
    have HX10 := Aside0.mk (HC10.out.heap HX.out HNX.out)
    have HP10 := Aside0.mk (HC10.out.heap HP.out nep)
    have HR10 : Aside0 (k94.R 94 w10 B (fun _ => True) v xs) := by
      obtain ⟨cs_, hb_⟩ := HT.out.block
      exact ⟨Kd.R_mono (R_ch (Kd.R_types HR.out hb_ (by decide)) HC10.out (fun k hk e => hk.2 e)) (fun _ _ => trivial)⟩
    have hp0 := zcell HX10.out 1 _ rfl
    have hk0 := zcell HK10.out 0 _ rfl
    have hk1 := zcell HK10.out 1 _ rfl
    have hk2 := zcell HK10.out 2 _ rfl
    have hk3 := zcell HK10.out 3 _ rfl
    have hk4 := zcell HK10.out 4 _ rfl
    have hk5 := zcell HK10.out 5 _ rfl
    have hk6 := zcell HK10.out 6 _ rfl
    have hk7 := zcell HK10.out 7 _ rfl
    have HMx := Aside0.mk (Kd.R_lower (base' := B) (Kd.R_apart' HYx_10.out (Kd.R_typed HR10.out) (by decide)) (by have := HBx.out; have := HG3.out; omega))
    have HMy := Aside0.mk (Kd.R_lower (base' := B) (Kd.R_apart' HYy_10.out (Kd.R_typed HR10.out) (by decide)) (by have := HBy.out; have := HG3.out; omega))
    go_wp2_with ((with_reducible refine gate_builtin (b := .append) (xs := #[.tmp 51, .tmp 53]) rfl ?_); at_builtin; refine Kd.R_append k94 (w0 := w10) B rfl (.tmp 51) (.tmp 53) 89 94 (.agg #[.string ⟨#[]⟩, .bool false, .int .i64 0, .string ⟨#[]⟩, .slice none 0 0, .int .i64 0, .string ⟨#[]⟩, .slice none 0 0]) 120 rfl Try.underlying89 info94 rfl (by decide) (by decide) v xs ⟨a, eqS q0 tOnce, x, y⟩ [.string a, .bool (eqS q0 tOnce), .int .i64 x.f0, .string x.f1, .slice Ax x.f2.length cx, .int .i64 y.f0, .string y.f1, .slice Ay y.f2.length cy] (fun _ => True) (fun k => True ∧ some k ≠ v.ownBlock) rfl rfl (k94_mkM _ _ _ _ HMx.out HMy.out) (fun _ h => h) (fun _ _ => trivial) HR10.out (Below.refl _ _) (by have := lt_of_block HP10.out; omega) (by omega) ?_; intro v1 wz hr1 hb1 hg1 hat1; obtain ⟨A5, c5, rfl⟩ := Kd.R_slice hr1; have HB5 := Aside0.mk hb1; have HJ5 := Aside0.mk (JX.snoc HP10.out HX10.out HR10.out hg1 hr1 hne (by decide) (by decide)); have hx1 := zcell HJ5.out.1 1 _ rfl; have hf1 := zfree HJ5.out.1 1; clear hr1 hb1 hg1 hat1)
    go_end0
    have hj5 := HJ5.out.2
    simp only [List.length_append, List.length_cons, List.length_nil, Nat.zero_add] at hj5
    have ho := HO7.out
    subst ho
    exact ⟨rfl, hj5, (HT10.out.above (Ch.of_belowB HB5.out) hsB hpB).setc hsB hpB hbx 1 _, ((HC10.out.mono (S' := fun k => k = pb ∨ B ≤ k) (fun k h => .inl h)).trans (Ch.of_belowB HB5.out) (fun k h => .inl (.inr h))).set (p := ⟨bx, 1, none⟩) (.inl (.inr hbx)) _⟩
end Go.Proofs.Ytoloneoeojoiaaa.EParseBack

