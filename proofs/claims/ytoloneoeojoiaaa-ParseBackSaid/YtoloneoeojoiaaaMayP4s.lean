/- Structs. -/
import Derived.Test.YtoloneoeojoiaaaMayP3
namespace Go.Proofs.Ytoloneoeojoiaaa.EParseBack
open Go.RowKit Go.Shelf Go.Proofs.YtoloneoeojoiaaaW.PrintWords Go.Proofs.YtoloneoeojoiaaaW.PrintLast Go.Proofs.YtoloneoeojoiaaaW.PrintMore
set_option linter.unusedVariables false
set_option linter.unusedSimpArgs false
set_option maxHeartbeats 2000000 in
set_option maxRecDepth 100000 in
theorem structs.calls (pb Bs : Nat) (s : Sch) (st : St31) (x : S40) (w : World) (h : TokAt w pb s st.1 st.2) (hs : SchR w Bs s x) (hpB : pb < Bs) (hBw : Bs ≤ w.heap.size) (hsB : s.B ≤ pb) (hl : x.f0.length ≤ 64) :
    Calls Try.prog 57 #[.pointer (some ⟨pb, 0, none⟩)] w (EndsD w pb Bs s x (bindO (blockP struct1P st) fun q st2 => .inr (DeclT.s q.1 q.2, st2))) := by
  have HT := Aside0.mk h
  have HS := Aside0.mk hs
  have hpl := tok_lt h
  obtain ⟨O, hO⟩ : ∃ o, o = bindO (blockP struct1P st) fun q st2 => (.inr (DeclT.s q.1 q.2, st2) : Out DeclT) := ⟨_, rfl⟩
  have HO0 : Aside0 (bindO (nameP st) (fun a st1 => bindO (signP tLC st1) fun _ st2 => bindO (partsP struct1P 32 st2) fun l st3 => .inr (DeclT.s a l, st3)) = O) := ⟨by
    rw [hO]
    show _ = bindO (bindO (nameP st) _) _
    rcases nameP st with e | ⟨a, st1⟩
    · rfl
    · show bindO (signP tLC st1) _ = bindO (bindO (signP tLC st1) _) _
      rcases signP tLC st1 with e | ⟨q, st2⟩
      · rfl
      · show bindO (partsP struct1P 32 st2) _ = bindO (bindO (partsP struct1P 32 st2) _) _
        rcases partsP struct1P 32 st2 with e | ⟨l, st3⟩ <;> rfl⟩
  rw [← hO]
  clear h hs hO
  go_enter Try.func57, Try.ntmps57
  go_wp2_with ((with_reducible refine gate_dst (N := 1) rfl ?_); refine box_event ?hg (N := 1) ?hd (cs := #[.pointer (some ⟨pb, 0, none⟩)]) (t := 76) ?hr ?_; (case hd => rfl); (case hg => rfl); (case hr => first | (go_simp; done) | (go_simp; rfl)); intro gp hgp w1 hbox hb; have HP1 := Aside0.mk hbox; have HT1 := Aside0.mk (HT.out.below hb); have HC1 := Aside0.mk (Ch.of_below hb (fun k => k = pb)); have HGP := Aside0.mk hgp; have hp0 := zcell hbox 0 _ rfl; clear hb hbox hgp)
  go_at_call 78
  refine (name.calls pb s st _ HT1.out).mono ?_
  rcases ho1 : nameP st with ⟨c', st1⟩ | ⟨a, st1⟩
  · rintro e w2 ⟨rfl, ht, hc⟩
    have ho := (bindO_l ho1).symm.trans HO0.out
    subst ho
    exact ⟨rfl, rfl, ht, (HC1.out.mono (S' := fun k => k = pb ∨ Bs ≤ k) (fun k h => by omega)).trans hc (fun k h => .inl (by omega))⟩
  rintro e w2 ⟨⟨vv, rfl, rfl⟩, ht, hc⟩
  have HO1 := Aside0.mk ((bindO_r ho1).symm.trans HO0.out)
  have HT2 := Aside0.mk ht
  have HC2 := Aside0.mk (HC1.out.trans hc (fun k h => .inl h))
  have nep : ¬ gp = pb := by rw [HGP.out]; exact Nat.ne_of_gt hpl
  have HP2 := Aside0.mk (hc.heap HP1.out nep)
  clear ht hc ho1 hp0
  go_wp2_with (first | ((with_reducible refine gate_dst (N := 2) rfl ?_); refine box_event ?hg (N := 2) ?hd (cs := #[.string ⟨#[]⟩, .slice none 0 0]) (t := 47) ?hr ?_; (case hd => rfl); (case hg => rfl); (case hr => first | (go_simp; done) | (go_simp; rfl)); intro gx hgx w3 hbox hb; have HX3 := Aside0.mk hbox; have HT3 := Aside0.mk (HT2.out.below hb); have HC3 := Aside0.mk (HC2.out.thenB hb); have HP3 := Aside0.mk ((Ch.of_below hb (fun _ => False)).heap HP2.out (fun h => h)); have HGX := Aside0.mk hgx; clear hb hbox hgx) | ((with_reducible refine gate_store (p := 2) rfl ?_); refine store_all rfl rfl 47 _ _ rfl #[.string a, .slice none 0 0] rfl rfl HX3.out rfl (by kernel_rfl) (by rfl) ?_; intro w4 h1 h2; have HX4 := Aside0.mk h1; have HN4 := Aside0.mk h2; have hp0 := zcell (h2.heap HP3.out (by have := lt_of_block HP2.out; have := HGX.out; omega)) 0 _ rfl; clear h1 h2))
  have hgx2 : w.heap.size ≤ gx := by have := HC2.out.size; have := HGX.out; omega
  have HGX2 := Aside0.mk hgx2
  have hgp2 : gp = w.heap.size := HGP.out
  have hpx : gp ≠ gx := by have := lt_of_block HP2.out; have := HGX.out; omega
  have HPX := Aside0.mk hpx
  have HT4 := Aside0.mk (HT3.out.above (B := w.heap.size) (HN4.out.mono (fun k h => by rw [h]; exact hgx2)) (Nat.le_trans hsB (Nat.le_of_lt hpl)) hpl)
  have HC4 : Aside0 (Ch (fun k => k = pb ∨ w.heap.size ≤ k) w w4) := ⟨(HC3.out.mono (S' := fun k => k = pb ∨ w.heap.size ≤ k) (fun k h => .inl h)).trans HN4.out (fun k h => .inl (.inr (by rw [h]; exact hgx2)))⟩
  have HP4 := Aside0.mk (HN4.out.heap HP3.out hpx)
  have nex : ¬ gx = pb := by omega
  have HGP2 := Aside0.mk hgp2
  clear hgx2 hgp2 hpx
  go_wp2_with fail
  go_at_call 79
  refine (sign.calls pb s tLC st1 _ w4.heap.size (HT4.out.below (below_alloc (Below.refl _ _) _)) (heap_alloc_new w4 _) (by have := tok_lt HT4.out; omega)).mono ?_
  rcases ho2 : signP tLC st1 with ⟨c', st2⟩ | ⟨q, st2⟩
  · rintro e w5 ⟨rfl, ht, hc⟩
    have ho := (bindO_l ho2).symm.trans HO1.out
    subst ho
    exact ⟨rfl, rfl, ht, ((HC4.out.mono (S' := fun k => k = pb ∨ Bs ≤ k) (fun k h => by omega)).alloc _).trans hc (fun k h => .inl (by omega))⟩
  rintro e w5 ⟨⟨vv, rfl, rfl⟩, ht, hc⟩
  have HO2 := Aside0.mk ((bindO_r ho2).symm.trans HO1.out)
  have HT5 := Aside0.mk ht
  have hcc : Ch (fun k => k = pb) w4 w5 := ((Ch.refl (fun k => k = pb) w4).alloc _).trans hc (fun k h => .inl h)
  have HC5 := Aside0.mk (HC4.out.trans hcc (fun k h => .inl (.inl h)))
  have HP5 := Aside0.mk (hcc.heap HP4.out nep)
  have HX5 := Aside0.mk (hcc.heap HX4.out nex)
  clear ht hc hcc ho2 hp0
  have hp0 := zcell HP5.out 0 _ rfl
  go_wp2_with fail
  go_at_call 80
  refine (partsS.calls w.heap.size pb gp gx s st2 a _ HT5.out ⟨HP5.out, .slice none 0 0, HX5.out, Kd.R_nil _ _ _ _ _⟩ (by omega) hpl (by rw [HGP2.out]; exact Nat.le_refl _) HGX2.out HPX.out).mono ?_
  rcases ho3 : partsP struct1P 32 st2 with ⟨c', st3⟩ | ⟨l, st3⟩
  · rintro e w6 ⟨rfl, ht, hc⟩
    have ho := (bindO_l ho3).symm.trans HO2.out
    subst ho
    exact ⟨rfl, rfl, ht, (HC5.out.mono (S' := fun k => k = pb ∨ Bs ≤ k) (fun k h => by omega)).trans hc (fun k h => .inl (by omega))⟩
  rintro e w6 ⟨rfl, ⟨hp, v, hx, hr⟩, ht, hc⟩
  have HO3 := Aside0.mk ((bindO_r ho3).symm.trans HO2.out)
  have HC6 := Aside0.mk (HC5.out.trans hc (fun k h => .inl h))
  have HT6 := Aside0.mk ht
  have HP6 := Aside0.mk hp
  have HX6 := Aside0.mk hx
  obtain ⟨A, c, hb, hAc, hCC, hFF⟩ := ht.at_
  have HK6 := Aside0.mk hb
  have HR6 := Aside0.mk hr
  have HS6 : Aside0 (SchR w6 Bs s x) := ⟨SchR.keep HS.out hpB HC6.out⟩
  have HMX := Aside0.mk (Kd.R_lower (base' := Bs) (Kd.R_apart' HR6.out (Kd.R_typed HS6.out.1) (by decide)) (by omega))
  obtain ⟨Av, cv, hv⟩ := Kd.R_slice hr
  subst hv
  clear ht hp hx hr hc hb hAc hCC hFF ho3 hp0 HT5 HC5 HP5 HX5 HT4 HC4 HP4 HX4 HT3 HC3 HP3 HX3 HN4 HT2 HC2 HP2 HT1 HC1 HP1 HO0 HO1 HO2
  have hp0 := zcell HP6.out 0 _ rfl
  have hx0 := zcell HX6.out 0 _ rfl
  have hx1 := zcell HX6.out 1 _ rfl
  have hk := zcell HK6.out 2 _ rfl
  have HN := Aside0.mk hl
  have hpa := fun o => keep_alloc (o := o) hp0
  have hka := fun o => keep_alloc (o := o) hk
  go_wp2_with fail
  go_region_law (refine Kd.R_append_step k47 (w0 := w6) (W := w6.drew) Bs (by simp [Region.wanted]) (.tmp 23) (.tmp 25) 36 47 (.agg #[.string ⟨#[]⟩, .slice none 0 0]) 40 rfl Try.underlying36 info47 rfl (by decide) (by decide) s.a x.f0 ⟨a, l⟩ [.string a, .slice Av l.length cv] (fun _ => True) (fun k => True ∧ some k ≠ s.a.ownBlock) ?hs ?hx (k47_mkM _ _ _ ⟨a, l⟩ (drewR HMX.out)) (fun _ h => h) (fun _ _ => trivial) (drewR HS6.out.1) (below_drew (Below.refl _ _)) ?hb ?hl ?_; (case hs => first | (go_simp; done) | (go_simp; rfl)); (case hx => first | (go_simp; done) | (go_simp; rfl)); (case hb => show Bs ≤ w6.heap.size; have := HC6.out.size; omega); (case hl => have := HN.out; omega); intro v7 w7 hr7 hb7 hg7 hn7; obtain ⟨A7, c7, rfl⟩ := Kd.R_slice hr7; have HR7 := Aside0.mk hr7; have HB7 := Aside0.mk hb7; have HG7 := Aside0.mk hg7; have hp7 := zcell (heap_grown HG7.out HP6.out (Kd.R_ne HS6.out.1 HP6.out (by decide))) 0 _ rfl; have hk7 := zcell (heap_grown HG7.out HK6.out (Kd.R_ne HS6.out.1 HK6.out (by decide))) 2 _ rfl; have hf7 := zfree (heap_grown HG7.out HK6.out (Kd.R_ne HS6.out.1 HK6.out (by decide))) 2; clear hr7 hb7 hg7 hn7)
  all_goals
    clear hpa hka hp0 hx0 hx1 hk
    go_end0
    have hr8 := HR7.out
    simp only [List.length_append, List.length_cons, List.length_nil, Nat.zero_add] at hr8
    have ho := HO3.out
    subst ho
    exact ⟨rfl, decl_fin_a HT6.out HS6.out HC6.out hpB hBw hsB HG7.out HB7.out hr8⟩

end Go.Proofs.Ytoloneoeojoiaaa.EParseBack

