/- The printer, whole. -/
import Derived.Test.YtoloneoeojoiaaaMayB
namespace Go.Proofs.Ytoloneoeojoiaaa.EParseBack
open Go.RowKit Go.Shelf Go.Proofs.YtoloneoeojoiaaaW.PrintWords Go.Proofs.YtoloneoeojoiaaaW.PrintLast Go.Proofs.YtoloneoeojoiaaaW.PrintMore
set_option linter.unusedVariables false
set_option linter.unusedSimpArgs false
theorem methL_len (on : Bool) (nm s1 s2 : ByteArray) : (methL on nm s1 s2).length = 6 + nm.size + 1 + s1.size + 2 + s2.size + 2 := by
  unfold methL
  rw [List.length_append, List.length_append, List.length_append, List.length_append, List.length_append, List.length_append, sz_list, sz_list, sz_list]
  cases on <;> rfl
theorem pmethod.calls (on : Bool) (K base b : Nat) (l : List UInt8) (nm : ByteArray) (t u : S50) (s1 s2 : ByteArray) (A : Option Addr) (c : Nat) (B : Option Addr) (d : Nat) (w : World) (h : Bld 108 base b l [] w) (hbb : base ≤ b) (hs : nameB nm = true)
    (hF : Kd.F k50 w (fun k => k < base) A t.f2.length t.f2) (hc : t.f2.length ≤ c) (hS : parse_Shape.f K t.f0 t.f1 t.f2 = some 0) (hW : parse_word.f K t.f0 t.f1 t.f2 = some s1)
    (hF2 : Kd.F k50 w (fun k => k < base) B u.f2.length u.f2) (hc2 : u.f2.length ≤ d) (hS2 : parse_Shape.f K u.f0 u.f1 u.f2 = some 0) (hW2 : parse_word.f K u.f0 u.f1 u.f2 = some s2) (hlen : l.length + nm.size + s1.size + s2.size + 100 ≤ 100000000) :
    Calls Try.prog 72 #[.pointer (some ⟨b, 0, none⟩), .agg #[.string nm, .bool on, .int .i64 t.f0, .string t.f1, .slice A t.f2.length c, .int .i64 u.f0, .string u.f1, .slice B u.f2.length d]] w (Wrote base b w (l ++ methL on nm s1 s2)) := by
  cases on
  · exact pmethod0.calls K base b l nm t u s1 s2 A c B d w h hbb hs hF hc hS hW hF2 hc2 hS2 hW2 hlen
  · exact pmethod1.calls K base b l nm t u s1 s2 A c B d w h hbb hs hF hc hS hW hF2 hc2 hS2 hW2 hlen
theorem pF_from {α : Type} {d : Kd α} {w w1 : World} {A : Option Addr} {n : Nat} {xs : List α} (hd : Kd.Heap d) (h : d.C w A n xs) (hb : Below w.heap.size w w1) : Kd.F d w1 (fun k => k < w.heap.size) A n xs := fun W' hW => hd.C (fun k hlt => (hW k hlt (Nat.lt_of_lt_of_le hlt hb.size)).trans (hb.block k hlt)) h
theorem rd_mem {α : Type} {z : α} (l : List α) (i : Nat) (h : i < l.length) : rdOf z l (i : Int) ∈ l := by
  have e : rdOf z l (i : Int) = l[i] := by simp [rdOf, List.getD_eq_getElem?_getD, h]
  rw [e]; exact List.getElem_mem h
theorem cellB {B : Nat} {w0 W : World} {p : Addr} {v : Value} (hb : Below B w0 W) (hB : B = w0.heap.size) (h : w0.cell? p = some v) : W.cell? p = some v := by
  subst hB; exact cell_step hb h
theorem C_at {α : Type} {d : Kd α} {w : World} {A : Option Addr} {n : Nat} {xs : List α} (h : d.C w A n xs) (h0 : 0 < n) : ∃ ad, A = some ad := by
  cases A with
  | some ad => exact ⟨ad, rfl⟩
  | none => exact absurd h (by intro h; have := h.2.2; simp_all)
set_option maxHeartbeats 4000000 in
set_option maxRecDepth 100000 in
theorem pall.calls (K b : Nat) (l : List UInt8) (x : S40) (A1 A2 A3 : Option Addr) (c1 c2 c3 : Nat) (w0 w : World) (h : Bld 108 w0.heap.size b l [] w) (hbb : w0.heap.size ≤ b)
    (hx : Kd.C k47 w0 A1 x.f0.length x.f0 ∧ Kd.C k86 w0 A2 x.f1.length x.f1 ∧ Kd.C k91 w0 A3 x.f2.length x.f2) (h0 : Below w0.heap.size w0 w) (hok : SchOk K x) (hlen : l.length + (allL K x).length + 1000 ≤ 100000000) :
    Calls Try.prog 47 #[.pointer (some ⟨b, 0, none⟩), .agg #[.slice A1 x.f0.length c1, .slice A2 x.f1.length c2, .slice A3 x.f2.length c3]] w (Wrote w0.heap.size b w (l ++ allL K x)) := by
  have HB := Aside0.mk h
  have HX := Aside0.mk hx
  have H0 := Aside0.mk h0
  have HOK := Aside0.mk hok
  have HL := Aside0.mk hlen
  have HBB := Aside0.mk hbb
  have l1 := hx.1.2.1
  have l2 := hx.2.1.2.1
  have l3 := hx.2.2.2.1
  clear h hx h0 hok hlen hbb
  obtain ⟨n1, hn1⟩ : ∃ n, n = x.f0.length := ⟨_, rfl⟩
  obtain ⟨n2, hn2⟩ : ∃ n, n = x.f1.length := ⟨_, rfl⟩
  obtain ⟨n3, hn3⟩ : ∃ n, n = x.f2.length := ⟨_, rfl⟩
  rw [← hn1, ← hn2, ← hn3]
  rw [← hn1] at l1
  rw [← hn2] at l2
  rw [← hn3] at l3
  have HN := Aside0.mk (show n1 = x.f0.length ∧ n2 = x.f1.length ∧ n3 = x.f2.length from ⟨hn1, hn2, hn3⟩)
  clear hn1 hn2 hn3
  unfold Wrote
  go_enter Try.func47, Try.ntmps47
  go_wp2_with (first | ((with_reducible refine gate_dst (N := 3) rfl ?_); refine box_event ?hg (N := 3) ?hd (cs := #[.slice A1 n1 c1, .slice A2 n2 c2, .slice A3 n3 c3]) (t := 40) ?hr ?_; (case hd => rfl); (case hg => rfl); (case hr => first | (go_simp; done) | (go_simp; rfl)); intro g2 hg1 w1 hbox hb; have K1 := Aside0.mk hbox; have HW1 := Aside0.mk hb; have HG := Aside0.mk hg1; clear hg1 hbox hb; have z1 := zcell K1.out 0 _ rfl))
  clear z1
  have hgb : g2 ≠ b := by have := HG.out; have := HB.out.lt; omega
  have HB1 := Aside0.mk (HB.out.below HW1.out)
  have HK1 := Aside0.mk (KpB.of_below (b := b) HW1.out)
  have HWB := Aside0.mk (HW1.out.mono (Nat.le_trans HBB.out (Nat.le_of_lt HB.out.lt)))
  have H01 := Aside0.mk (H0.out.trans HWB.out)
  have HLs0 := Aside0.mk (show l.length + (x.f0.flatMap (structL K)).length + (x.f1.flatMap enumL).length + (x.f2.flatMap (serviceL K)).length + 1000 ≤ 100000000 by have h1 := HL.out; unfold allL at h1; rw [List.length_append, List.length_append] at h1; omega)
  go_loopw [19] (fun v_ W => ∃ i : Nat, i ≤ n1 ∧ v_ = .int .i64 (i : Int) ∧ Aside0 (Bld 108 w0.heap.size b (l ++ (x.f0.take i).flatMap (structL K)) [] W) ∧ Aside0 (KpB b w1 W) ∧ Aside0 (Below w0.heap.size w1 W)) (fun v _ => n1 - (intOf v).toNat)
  case atStart => exact ⟨0, by omega, rfl, ⟨by simpa using HB1.out⟩, ⟨KpB.refl _ _⟩, ⟨Below.refl _ _⟩⟩
  case round =>
    obtain ⟨i, ile, rfl, HBi, HKi, HWi⟩ := hrel
    by_cases hlt : i < n1
    · have nlt : i < x.f0.length := by rw [← HN.out.1]; exact hlt
      obtain ⟨ad, eA⟩ := C_at HX.out.1 (by omega)
      subst eA
      obtain ⟨ad', AF, cF, e, a0, a1, lF, CF⟩ := at_T47 HX.out.1 (i : Int) (by omega) (by omega)
      cases e
      rw [Int.toNat_natCast] at a0 a1
      replace a0 := cellB (H01.out.trans HWi.out) rfl a0
      replace a1 := cellB (H01.out.trans HWi.out) rfl a1
      have HS := Aside0.mk (HOK.out.1 (rd_T47 x.f0 i) (rd_mem x.f0 i nlt))
      have HTF := Aside0.mk (take_flat (structL K) z47 x.f0 i nlt)
      obtain ⟨s, hs⟩ : ∃ s, s = rd_T47 x.f0 (i : Int) := ⟨_, rfl⟩
      have hsz : x.f0.getD i z47 = s := by rw [hs]; simp [rd_T47, rdOf]
      rw [hsz] at HTF
      rw [← hs] at a0 a1 lF CF HS
      have CFF := Aside0.mk CF
      have sl := CF.2.1
      clear hs hsz CF nlt lF
      obtain ⟨m, hm⟩ : ∃ m, m = s.f1.length := ⟨_, rfl⟩
      have HMM := Aside0.mk hm
      rw [← hm] at a1 sl
      clear hm
      have hm32 : m ≤ 32 := by rw [HMM.out]; exact HS.out.2.1
      go_wp2_with (first | ((with_reducible refine gate_dst (N := 5) rfl ?_); refine box_event ?hg (N := 5) ?hd (cs := #[.string ⟨#[]⟩, .slice none 0 0]) (t := 47) ?hr ?_; (case hd => rfl); (case hg => rfl); (case hr => first | (go_simp; done) | (go_simp; rfl)); intro g5 hg_ w3 hbox hb; have BX := Aside0.mk hbox; have HW3 := Aside0.mk hb; have HGX := Aside0.mk hg_; clear hbox hb hg_) | ((with_reducible refine gate_store (p := 5) rfl ?_); refine store_all rfl rfl 47 _ _ rfl #[.string s.f0, .slice AF m cF] rfl rfl BX.out rfl (by kernel_rfl) (by rfl) ?_; intro w4 h1 h2; have BX4 := Aside0.mk h1; have HW4 := Aside0.mk (below_ch HW3.out h2 HW3.out.size (fun k e => by rw [e, HGX.out]; exact Nat.le_refl _)); clear h1 h2; have x0 := zcell BX4.out 0 _ rfl; have x1 := zcell BX4.out 1 _ rfl))
      have hg5 : g5 ≠ b := by have := HGX.out; have := HBi.out.lt; omega
      have HB10 := Aside0.mk (HBi.out.below HW4.out)
      have HK10 := Aside0.mk (HKi.out.trans (KpB.of_below (b := b) HW4.out))
      have HW10 := Aside0.mk (HWi.out.trans (HW4.out.mono (Nat.le_trans HBB.out (Nat.le_of_lt HBi.out.lt))))
      obtain ⟨l10, hl⟩ : ∃ l_, l_ = l ++ (x.f0.take i).flatMap (structL K) := ⟨_, rfl⟩
      rw [← hl] at HB10
      have HE10 := Aside0.mk hl
      have HL9 := Aside0.mk (show l10.length + (structL K s).length + 1000 ≤ 100000000 by
        have h1 := HLs0.out; have h2 := HTF.out.2; rw [hl, List.length_append]; omega)
      clear hl
      have HLS := Aside0.mk (show (structL K s).length = (6 + 1 + s.f0.size + 3) + (s.f1.flatMap (fieldL K)).length + 2 by unfold structL beginL; rw [List.length_append, List.length_append, List.length_append, List.length_append, List.length_append, sz_list, sz_list]; rfl)
      obtain ⟨w10, hw⟩ : ∃ w_, w_ = w4 := ⟨_, rfl⟩
      rw [← hw] at HB10 HK10 HW10 BX4
      subst hw
      have BK4 := BX4
      clear x0 x1 BX BX4
      refine (pbegin.calls w0.heap.size b l10 ⟨#[115, 116, 114, 117, 99, 116]⟩ s.f0 m w10 HB10.out HBB.out HS.out.1 hm32 (by have := HL9.out; have := HLS.out; show l10.length + 6 + s.f0.size + 10 ≤ _; omega)).mono ?_
      rintro e w11 h4
      have hk9 := h4.2.2.1
      have h5 := Wrote.then (HK10.out) (HW10.out) h4
      clear h4
      obtain ⟨rfl, hb_, hk_, hw_⟩ := h5
      have HB11 := Aside0.mk hb_
      have HK11 := Aside0.mk hk_
      have HW11 := Aside0.mk hw_
      clear hb_ hk_ hw_ HK10 HW10
      have HL11 := Aside0.mk (show (l10 ++ beginL ⟨#[115, 116, 114, 117, 99, 116]⟩ s.f0).length = l10.length + (6 + 1 + s.f0.size + 3) by rw [List.length_append]; unfold beginL; rw [List.length_append, List.length_append, List.length_append, sz_list, sz_list]; rfl)
      obtain ⟨l11, hl⟩ : ∃ l_, l_ = l10 ++ beginL ⟨#[115, 116, 114, 117, 99, 116]⟩ s.f0 := ⟨_, rfl⟩
      rw [← hl] at HB11 HL11
      have HE11 := Aside0.mk hl
      clear hl
      have BK5 := Aside0.mk (hk9.keep _ _ _ _ BK4.out hg5 (by decide))
      clear hk9 BK4
      have y1 := zcell BK5.out 1 _ rfl
      go_wp2_with fail
      clear y1
      obtain ⟨wo, hwo⟩ : ∃ wo : World, wo = wr := ⟨_, rfl⟩
      subst hwo
      go_loopw [33] (fun v_ W => ∃ j : Nat, j ≤ m ∧ v_ = .int .i64 (j : Int) ∧ Aside0 (Bld 108 w0.heap.size b (l11 ++ (s.f1.take j).flatMap (fieldL K)) [] W) ∧ Aside0 (KpB b w11 W) ∧ Aside0 (Below w0.heap.size w11 W)) (fun v _ => m - (intOf v).toNat)
      case atStart => exact ⟨0, by omega, rfl, ⟨by simpa using HB11.out⟩, ⟨KpB.refl _ _⟩, ⟨Below.refl _ _⟩⟩
      case round =>
        obtain ⟨j, jle, rfl, HBj, HKj, HWj⟩ := hrel
        by_cases hjt : j < m
        · have mlt : j < s.f1.length := by rw [← HMM.out]; exact hjt
          have H02 := Aside0.mk (H01.out.trans (HW11.out.trans HWj.out))
          obtain ⟨aq, eA⟩ := C_at CFF.out (by omega)
          subst eA
          obtain ⟨aq', AT, cT, e, p0, p1, p2, p3, p4, lT, CT⟩ := at_T52 CFF.out (j : Int) (by omega) (by omega)
          cases e
          rw [Int.toNat_natCast] at p0 p1 p2 p3 p4
          replace p0 := cellB H02.out rfl p0
          replace p1 := cellB H02.out rfl p1
          replace p2 := cellB H02.out rfl p2
          replace p3 := cellB H02.out rfl p3
          replace p4 := cellB H02.out rfl p4
          have HFO := Aside0.mk (HS.out.2.2 (rd_T52 s.f1 j) (rd_mem s.f1 j mlt))
          have HTG := Aside0.mk (take_flat (fieldL K) z52 s.f1 j mlt)
          obtain ⟨f, hf⟩ : ∃ f, f = rd_T52 s.f1 (j : Int) := ⟨_, rfl⟩
          have hfz : s.f1.getD j z52 = f := by rw [hf]; simp [rd_T52, rdOf]
          rw [hfz] at HTG
          rw [← hf] at p0 p1 p2 p3 p4 HFO  lT CT
          clear hf hfz mlt
          obtain ⟨hnm, ⟨hn0, hn9⟩, hS, sw, hW⟩ := HFO.out
          have HNM := Aside0.mk hnm
          obtain ⟨q, hq⟩ : ∃ q : Nat, f.f1 = (q : Int) := ⟨f.f1.toNat, by omega⟩
          have HQ := Aside0.mk (show q ≤ 999999999 by omega)
          rw [hq] at p1
          have HFL := Aside0.mk (show fieldL K f = partL q f.f0 ++ [58, 32] ++ sw.data.toList ++ [59, 10] by unfold fieldL wordOf; rw [hq, hW]; rfl)
          have HTY := Aside0.mk (fun (l' : List UInt8) (W : World) (hB : Bld 108 w0.heap.size b l' [] W) (hw : Below w0.heap.size w0 W) (hl : l'.length + sw.size + 60 ≤ 100000000) => ptyped.calls K w0.heap.size b l' f.f2 sw AT cT W hB HBB.out (pF_from k50_heap CT hw) lT hS hW hl)
          obtain ⟨nT, hnT⟩ : ∃ n, n = f.f2.f2.length := ⟨_, rfl⟩
          rw [← hnT] at p4 HTY
          clear hnm hn0 hn9 hS hW hq CT lT hnT HFO
          go_wp2_with (first | ((with_reducible refine gate_dst (N := 7) rfl ?_); refine box_event ?hg (N := 7) ?hd (cs := #[.string ⟨#[]⟩, .int .i64 0, .int .i64 0, .string ⟨#[]⟩, .slice none 0 0]) (t := 52) ?hr ?_; (case hd => rfl); (case hg => rfl); (case hr => first | (go_simp; done) | (go_simp; rfl)); intro g7 hg_ w3 hbox hb; have BX := Aside0.mk hbox; have HW3 := Aside0.mk hb; have HGX := Aside0.mk hg_; clear hbox hb hg_) | ((with_reducible refine gate_store (p := 7) rfl ?_); refine store_all rfl rfl 52 _ _ rfl #[.string f.f0, .int .i64 (q : Int), .int .i64 f.f2.f0, .string f.f2.f1, .slice AT nT cT] rfl rfl BX.out rfl (by kernel_rfl) (by rfl) ?_; intro w6 h1 h2; have BX4 := Aside0.mk h1; have HW4 := Aside0.mk (below_ch HW3.out h2 HW3.out.size (fun k e => by rw [e, HGX.out]; exact Nat.le_refl _)); clear h1 h2; have x0 := zcell BX4.out 0 _ rfl; have x1 := zcell BX4.out 1 _ rfl))
          clear x0 x1
          have hg7 : g7 ≠ b := by have := HGX.out; have := HBj.out.lt; omega
          have HB20 := Aside0.mk (HBj.out.below HW4.out)
          have HK20 := Aside0.mk (HKj.out.trans (KpB.of_below (b := b) HW4.out))
          have HW20 := Aside0.mk (HWj.out.trans (HW4.out.mono (Nat.le_trans HBB.out (Nat.le_of_lt HBj.out.lt))))
          obtain ⟨l20, hl⟩ : ∃ l_, l_ = l11 ++ (s.f1.take j).flatMap (fieldL K) := ⟨_, rfl⟩
          rw [← hl] at HB20
          have HE20 := Aside0.mk hl
          have HLF := Aside0.mk (show (fieldL K f).length = (partL q f.f0).length + 2 + sw.size + 2 by rw [HFL.out, List.length_append, List.length_append, List.length_append, sz_list]; rfl)
          have HLP := Aside0.mk (show f.f0.size ≤ (partL q f.f0).length by unfold partL; rw [List.length_append, sz_list]; omega)
          have HL29 := Aside0.mk (show l20.length + (partL q f.f0).length + 2 + sw.size + 2 + 900 ≤ 100000000 by
            have h1 := HTG.out.2; have h2 := HLS.out; have h3 := HL9.out; have h4 := HL11.out; have h5 := HLF.out; rw [hl, List.length_append]; omega)
          clear hl
          obtain ⟨w20, hw⟩ : ∃ w_, w_ = w6 := ⟨_, rfl⟩
          rw [← hw] at HB20 HK20 HW20 BX4
          subst hw
          have BJ20 := BX4
          clear BX BX4
          refine (ppart.calls w0.heap.size b l20 q f.f0 w20 HB20.out HBB.out HQ.out HNM.out (by have := HL29.out; have := HLP.out; omega)).mono ?_
          rintro e w21 h4
          have hk9 := h4.2.2.1
          have h5 := Wrote.then (HK20.out) (HW20.out) h4
          clear h4
          obtain ⟨rfl, hb_, hk_, hw_⟩ := h5
          have HB21 := Aside0.mk hb_
          have HK21 := Aside0.mk hk_
          have HW21 := Aside0.mk hw_
          clear hb_ hk_ hw_ HK20 HW20
          have HL21 := Aside0.mk (show (l20 ++ partL q f.f0).length = l20.length + (partL q f.f0).length by rw [List.length_append]; skip)
          obtain ⟨l21, hl⟩ : ∃ l_, l_ = l20 ++ partL q f.f0 := ⟨_, rfl⟩
          rw [← hl] at HB21 HL21
          have HE21 := Aside0.mk hl
          clear hl
          have BJ21 := Aside0.mk (hk9.keep _ _ _ _ BJ20.out hg7 (by decide))
          clear hk9 BJ20
          go_wp2_with fail
          go_at_call 70
          have HT := Aside0.mk (lits_new w0.heap.size b w21.heap.size l21 [⟨#[58, 32]⟩] w21 HB21.out HBB.out rfl (show 1 ≤ 9 by decide) (by
            have := HL29.out; have := HLP.out; have := HL21.out; 
            have e : (catL [⟨#[58, 32]⟩]).length = 2 := rfl
            rw [e]; omega))
          refine (show Calls Try.prog 70 #[.pointer (some ⟨b, 0, none⟩), .slice (some ⟨w21.heap.size, 0, none⟩) 1 1] _ _ from HT.out).mono ?_
          rintro e w22 h4
          have hk9 := h4.2.2.1
          have h5 := Wrote.then (HK21.out) (HW21.out) h4
          clear h4
          obtain ⟨rfl, hb_, hk_, hw_⟩ := h5
          clear HT
          have HB22 := Aside0.mk hb_
          have HK22 := Aside0.mk hk_
          have HW22 := Aside0.mk hw_
          clear hb_ hk_ hw_ HK21 HW21
          have HL22 := Aside0.mk (show (l21 ++ catL [⟨#[58, 32]⟩]).length = l21.length + 2 by rw [List.length_append]; rfl)
          obtain ⟨l22, hl⟩ : ∃ l_, l_ = l21 ++ catL [⟨#[58, 32]⟩] := ⟨_, rfl⟩
          rw [← hl] at HB22 HL22
          have HE22 := Aside0.mk hl
          clear hl
          have BJ22 := Aside0.mk (hk9.keep _ _ _ _ BJ21.out hg7 (by decide))
          clear hk9 BJ21
          have z0 := zcell (BJ22.out) 2 _ rfl
          have z1 := zcell (BJ22.out) 3 _ rfl
          have z2 := zcell (BJ22.out) 4 _ rfl
          go_wp2_with fail
          clear z0 z1 z2
          go_at_call 71
          refine (HTY.out l22 w22 HB22.out (H01.out.trans (HW11.out.trans HW22.out)) (by have := HL29.out; have := HLP.out; have := HL21.out; have := HL22.out; omega)).mono ?_
          rintro e w23 h4
          have hk9 := h4.2.2.1
          have h5 := Wrote.then (HK22.out) (HW22.out) h4
          clear h4
          obtain ⟨rfl, hb_, hk_, hw_⟩ := h5
          have HB23 := Aside0.mk hb_
          have HK23 := Aside0.mk hk_
          have HW23 := Aside0.mk hw_
          clear hb_ hk_ hw_ HK22 HW22
          have HL23 := Aside0.mk (show (l22 ++ sw.data.toList).length = l22.length + sw.size by rw [List.length_append]; rw [sz_list])
          obtain ⟨l23, hl⟩ : ∃ l_, l_ = l22 ++ sw.data.toList := ⟨_, rfl⟩
          rw [← hl] at HB23 HL23
          have HE23 := Aside0.mk hl
          clear hl
          have BJ23 := Aside0.mk (hk9.keep _ _ _ _ BJ22.out hg7 (by decide))
          clear hk9 BJ22
          go_wp2_with fail
          go_at_call 70
          have HT := Aside0.mk (lits_new w0.heap.size b w23.heap.size l23 [⟨#[59, 10]⟩] w23 HB23.out HBB.out rfl (show 1 ≤ 9 by decide) (by
            have := HL29.out; have := HLP.out; have := HL21.out; have := HL22.out; have := HL23.out; 
            have e : (catL [⟨#[59, 10]⟩]).length = 2 := rfl
            rw [e]; omega))
          refine (show Calls Try.prog 70 #[.pointer (some ⟨b, 0, none⟩), .slice (some ⟨w23.heap.size, 0, none⟩) 1 1] _ _ from HT.out).mono ?_
          rintro e w24 h4
          have hk9 := h4.2.2.1
          have h5 := Wrote.then (HK23.out) (HW23.out) h4
          clear h4
          obtain ⟨rfl, hb_, hk_, hw_⟩ := h5
          clear HT
          have HB24 := Aside0.mk hb_
          have HK24 := Aside0.mk hk_
          have HW24 := Aside0.mk hw_
          clear hb_ hk_ hw_ HK23 HW23
          have HL24 := Aside0.mk (show (l23 ++ catL [⟨#[59, 10]⟩]).length = l23.length + 2 by rw [List.length_append]; rfl)
          obtain ⟨l24, hl⟩ : ∃ l_, l_ = l23 ++ catL [⟨#[59, 10]⟩] := ⟨_, rfl⟩
          rw [← hl] at HB24 HL24
          have HE24 := Aside0.mk hl
          clear hl
          clear hk9 BJ23
          go_wp2_with fail
          have E : l11 ++ (s.f1.take (j + 1)).flatMap (fieldL K) = l24 := by
            rw [HE24.out, HE23.out, HE22.out, HE21.out, HE20.out, HTG.out.1, HFL.out]; simp only [catL_cons, catL_nil, List.append_assoc, List.append_nil]
          refine ⟨⟨j + 1, by omega, by go_num, ⟨by rw [E]; exact HB24.out⟩, HK24, HW24⟩, ?_⟩
          simp [intOf]; omega
        · obtain rfl : j = m := by omega
          have HB30 := HBj
          have HK30 := Aside0.mk (HK11.out.trans HKj.out)
          have HW30 := Aside0.mk (HW11.out.trans HWj.out)
          obtain ⟨w30, hw⟩ : ∃ w_, w_ = wr := ⟨_, rfl⟩
          rw [← hw] at HB30 HK30 HW30
          obtain ⟨l30, hl⟩ : ∃ l_, l_ = l11 ++ (s.f1.take j).flatMap (fieldL K) := ⟨_, rfl⟩
          rw [← hl] at HB30
          have HE30 := Aside0.mk (show l30 = l11 ++ s.f1.flatMap (fieldL K) by rw [hl, HMM.out, List.take_length])
          have HL29 := Aside0.mk (show l30.length + 100 ≤ 100000000 by have h2 := HLS.out; have h3 := HL9.out; have h4 := HL11.out; rw [HE30.out, List.length_append]; omega)
          clear hl
          go_wp2_with fail
          rw [← hw]
          go_at_call 70
          have HT := Aside0.mk (lits_new w0.heap.size b w30.heap.size l30 [⟨#[125, 10]⟩] w30 HB30.out HBB.out rfl (show 1 ≤ 9 by decide) (by
            have := HL29.out; 
            have e : (catL [⟨#[125, 10]⟩]).length = 2 := rfl
            rw [e]; omega))
          refine (show Calls Try.prog 70 #[.pointer (some ⟨b, 0, none⟩), .slice (some ⟨w30.heap.size, 0, none⟩) 1 1] _ _ from HT.out).mono ?_
          rintro e w31 h4
          have hk9 := h4.2.2.1
          have h5 := Wrote.then (HK30.out) (HW30.out) h4
          clear h4
          obtain ⟨rfl, hb_, hk_, hw_⟩ := h5
          clear HT
          have HB31 := Aside0.mk hb_
          have HK31 := Aside0.mk hk_
          have HW31 := Aside0.mk hw_
          clear hb_ hk_ hw_ HK30 HW30
          have HL31 := Aside0.mk (show (l30 ++ catL [⟨#[125, 10]⟩]).length = l30.length + 2 by rw [List.length_append]; rfl)
          obtain ⟨l31, hl⟩ : ∃ l_, l_ = l30 ++ catL [⟨#[125, 10]⟩] := ⟨_, rfl⟩
          rw [← hl] at HB31 HL31
          have HE31 := Aside0.mk hl
          clear hl
          clear hk9
          go_wp2_with fail
          have E : l ++ (x.f0.take (i + 1)).flatMap (structL K) = l31 := by
            rw [HE31.out, HE30.out, HE11.out, HE10.out, HTF.out.1]; unfold structL; simp only [catL_cons, catL_nil, List.append_assoc, List.append_nil]
          refine ⟨⟨i + 1, by omega, by go_num, ⟨by rw [E]; exact HB31.out⟩, HK31, HW31⟩, ?_⟩
          simp [intOf]; omega
    · obtain rfl : i = n1 := by omega
      have z1 := zcell (HKi.out.keep _ _ _ _ K1.out hgb (by decide)) 1 _ rfl
      have HKs := HKi
      have HWs := HWi
      have HBs := HBi
      rw [HN.out.1, List.take_length] at HBs
      obtain ⟨lB, hl⟩ : ∃ l_, l_ = l ++ x.f0.flatMap (structL K) := ⟨_, rfl⟩
      rw [← hl] at HBs
      have HEs1 := Aside0.mk hl
      have HLs1 := Aside0.mk (show lB.length + (x.f1.flatMap enumL).length + (x.f2.flatMap (serviceL K)).length + 1000 ≤ 100000000 by have h1 := HLs0.out; rw [hl, List.length_append]; omega)
      clear hl
      go_wp2_with fail
      clear z1
      obtain ⟨ws0, hws⟩ : ∃ ws_ : World, ws_ = wr := ⟨_, rfl⟩
      subst hws
      go_loopw [61] (fun v_ W => ∃ i : Nat, i ≤ n2 ∧ v_ = .int .i64 (i : Int) ∧ Aside0 (Bld 108 w0.heap.size b (lB ++ (x.f1.take i).flatMap enumL) [] W) ∧ Aside0 (KpB b w1 W) ∧ Aside0 (Below w0.heap.size w1 W)) (fun v _ => n2 - (intOf v).toNat)
      case atStart => exact ⟨0, by omega, rfl, ⟨by simpa using HBs.out⟩, HKs, HWs⟩
      case round =>
        obtain ⟨i, ile, rfl, HBi, HKi, HWi⟩ := hrel
        by_cases hlt : i < n2
        · have nlt : i < x.f1.length := by rw [← HN.out.2.1]; exact hlt
          obtain ⟨ad, eA⟩ := C_at HX.out.2.1 (by omega)
          subst eA
          obtain ⟨ad', AF, cF, e, a0, a1, lF, CF⟩ := at_T86 HX.out.2.1 (i : Int) (by omega) (by omega)
          cases e
          rw [Int.toNat_natCast] at a0 a1
          replace a0 := cellB (H01.out.trans HWi.out) rfl a0
          replace a1 := cellB (H01.out.trans HWi.out) rfl a1
          have HS := Aside0.mk (HOK.out.2.1 (rd_T86 x.f1 i) (rd_mem x.f1 i nlt))
          have HTF := Aside0.mk (take_flat enumL z86 x.f1 i nlt)
          obtain ⟨s, hs⟩ : ∃ s, s = rd_T86 x.f1 (i : Int) := ⟨_, rfl⟩
          have hsz : x.f1.getD i z86 = s := by rw [hs]; simp [rd_T86, rdOf]
          rw [hsz] at HTF
          rw [← hs] at a0 a1 lF CF HS
          have CFF := Aside0.mk CF
          have sl := CF.2.1
          clear hs hsz CF nlt lF
          obtain ⟨m, hm⟩ : ∃ m, m = s.f1.length := ⟨_, rfl⟩
          have HMM := Aside0.mk hm
          rw [← hm] at a1 sl
          clear hm
          have hm32 : m ≤ 32 := by rw [HMM.out]; exact HS.out.2.1
          go_wp2_with (first | ((with_reducible refine gate_dst (N := 9) rfl ?_); refine box_event ?hg (N := 9) ?hd (cs := #[.string ⟨#[]⟩, .slice none 0 0]) (t := 86) ?hr ?_; (case hd => rfl); (case hg => rfl); (case hr => first | (go_simp; done) | (go_simp; rfl)); intro g5 hg_ w3 hbox hb; have BX := Aside0.mk hbox; have HW3 := Aside0.mk hb; have HGX := Aside0.mk hg_; clear hbox hb hg_) | ((with_reducible refine gate_store (p := 9) rfl ?_); refine store_all rfl rfl 86 _ _ rfl #[.string s.f0, .slice AF m cF] rfl rfl BX.out rfl (by kernel_rfl) (by rfl) ?_; intro w4 h1 h2; have BX4 := Aside0.mk h1; have HW4 := Aside0.mk (below_ch HW3.out h2 HW3.out.size (fun k e => by rw [e, HGX.out]; exact Nat.le_refl _)); clear h1 h2; have x0 := zcell BX4.out 0 _ rfl; have x1 := zcell BX4.out 1 _ rfl))
          have hg5 : g5 ≠ b := by have := HGX.out; have := HBi.out.lt; omega
          have HB10 := Aside0.mk (HBi.out.below HW4.out)
          have HK10 := Aside0.mk (HKi.out.trans (KpB.of_below (b := b) HW4.out))
          have HW10 := Aside0.mk (HWi.out.trans (HW4.out.mono (Nat.le_trans HBB.out (Nat.le_of_lt HBi.out.lt))))
          obtain ⟨l10, hl⟩ : ∃ l_, l_ = lB ++ (x.f1.take i).flatMap enumL := ⟨_, rfl⟩
          rw [← hl] at HB10
          have HE10 := Aside0.mk hl
          have HL9 := Aside0.mk (show l10.length + (enumL s).length + 1000 ≤ 100000000 by
            have h1 := HLs1.out; have h2 := HTF.out.2; rw [hl, List.length_append]; omega)
          clear hl
          have HLS := Aside0.mk (show (enumL s).length = (4 + 1 + s.f0.size + 3) + (s.f1.flatMap memberL).length + 2 by unfold enumL beginL; rw [List.length_append, List.length_append, List.length_append, List.length_append, List.length_append, sz_list, sz_list]; rfl)
          obtain ⟨w10, hw⟩ : ∃ w_, w_ = w4 := ⟨_, rfl⟩
          rw [← hw] at HB10 HK10 HW10 BX4
          subst hw
          have BK4 := BX4
          clear x0 x1 BX BX4
          refine (pbegin.calls w0.heap.size b l10 ⟨#[101, 110, 117, 109]⟩ s.f0 m w10 HB10.out HBB.out HS.out.1 hm32 (by have := HL9.out; have := HLS.out; show l10.length + 4 + s.f0.size + 10 ≤ _; omega)).mono ?_
          rintro e w11 h4
          have hk9 := h4.2.2.1
          have h5 := Wrote.then (HK10.out) (HW10.out) h4
          clear h4
          obtain ⟨rfl, hb_, hk_, hw_⟩ := h5
          have HB11 := Aside0.mk hb_
          have HK11 := Aside0.mk hk_
          have HW11 := Aside0.mk hw_
          clear hb_ hk_ hw_ HK10 HW10
          have HL11 := Aside0.mk (show (l10 ++ beginL ⟨#[101, 110, 117, 109]⟩ s.f0).length = l10.length + (4 + 1 + s.f0.size + 3) by rw [List.length_append]; unfold beginL; rw [List.length_append, List.length_append, List.length_append, sz_list, sz_list]; rfl)
          obtain ⟨l11, hl⟩ : ∃ l_, l_ = l10 ++ beginL ⟨#[101, 110, 117, 109]⟩ s.f0 := ⟨_, rfl⟩
          rw [← hl] at HB11 HL11
          have HE11 := Aside0.mk hl
          clear hl
          have BK5 := Aside0.mk (hk9.keep _ _ _ _ BK4.out hg5 (by decide))
          clear hk9 BK4
          have y1 := zcell BK5.out 1 _ rfl
          go_wp2_with fail
          clear y1
          obtain ⟨wo, hwo⟩ : ∃ wo : World, wo = wr := ⟨_, rfl⟩
          subst hwo
          go_loopw [75] (fun v_ W => ∃ j : Nat, j ≤ m ∧ v_ = .int .i64 (j : Int) ∧ Aside0 (Bld 108 w0.heap.size b (l11 ++ (s.f1.take j).flatMap memberL) [] W) ∧ Aside0 (KpB b w11 W) ∧ Aside0 (Below w0.heap.size w11 W)) (fun v _ => m - (intOf v).toNat)
          case atStart => exact ⟨0, by omega, rfl, ⟨by simpa using HB11.out⟩, ⟨KpB.refl _ _⟩, ⟨Below.refl _ _⟩⟩
          case round =>
            obtain ⟨j, jle, rfl, HBj, HKj, HWj⟩ := hrel
            by_cases hjt : j < m
            · have mlt : j < s.f1.length := by rw [← HMM.out]; exact hjt
              have H02 := Aside0.mk (H01.out.trans (HW11.out.trans HWj.out))
              obtain ⟨aq, eA⟩ := C_at CFF.out (by omega)
              subst eA
              obtain ⟨aq', e, p0, p1⟩ := at_T88 CFF.out (j : Int) (by omega) (by omega)
              cases e
              rw [Int.toNat_natCast] at p0 p1
              replace p0 := cellB H02.out rfl p0
              replace p1 := cellB H02.out rfl p1
              have HFO := Aside0.mk (HS.out.2.2 (rd_T88 s.f1 j) (rd_mem s.f1 j mlt))
              have HTG := Aside0.mk (take_flat memberL z88 s.f1 j mlt)
              obtain ⟨f, hf⟩ : ∃ f, f = rd_T88 s.f1 (j : Int) := ⟨_, rfl⟩
              have hfz : s.f1.getD j z88 = f := by rw [hf]; simp [rd_T88, rdOf]
              rw [hfz] at HTG
              rw [← hf] at p0 p1 HFO
              clear hf hfz mlt
              obtain ⟨hnm, ⟨hn0, hn9⟩⟩ := HFO.out
              have HNM := Aside0.mk hnm
              obtain ⟨q, hq⟩ : ∃ q : Nat, f.f1 = (q : Int) := ⟨f.f1.toNat, by omega⟩
              have HQ := Aside0.mk (show q ≤ 999999999 by omega)
              rw [hq] at p1
              have HFL := Aside0.mk (show memberL f = partL q f.f0 ++ [59, 10] by unfold memberL; rw [hq]; rfl)
              clear hnm hn0 hn9 hq HFO
              go_wp2_with (first | ((with_reducible refine gate_dst (N := 11) rfl ?_); refine box_event ?hg (N := 11) ?hd (cs := #[.string ⟨#[]⟩, .int .i64 0]) (t := 88) ?hr ?_; (case hd => rfl); (case hg => rfl); (case hr => first | (go_simp; done) | (go_simp; rfl)); intro g7 hg_ w3 hbox hb; have BX := Aside0.mk hbox; have HW3 := Aside0.mk hb; have HGX := Aside0.mk hg_; clear hbox hb hg_) | ((with_reducible refine gate_store (p := 11) rfl ?_); refine store_all rfl rfl 88 _ _ rfl #[.string f.f0, .int .i64 (q : Int)] rfl rfl BX.out rfl (by kernel_rfl) (by rfl) ?_; intro w6 h1 h2; have BX4 := Aside0.mk h1; have HW4 := Aside0.mk (below_ch HW3.out h2 HW3.out.size (fun k e => by rw [e, HGX.out]; exact Nat.le_refl _)); clear h1 h2; have x0 := zcell BX4.out 0 _ rfl; have x1 := zcell BX4.out 1 _ rfl))
              clear x0 x1
              have hg7 : g7 ≠ b := by have := HGX.out; have := HBj.out.lt; omega
              have HB20 := Aside0.mk (HBj.out.below HW4.out)
              have HK20 := Aside0.mk (HKj.out.trans (KpB.of_below (b := b) HW4.out))
              have HW20 := Aside0.mk (HWj.out.trans (HW4.out.mono (Nat.le_trans HBB.out (Nat.le_of_lt HBj.out.lt))))
              obtain ⟨l20, hl⟩ : ∃ l_, l_ = l11 ++ (s.f1.take j).flatMap memberL := ⟨_, rfl⟩
              rw [← hl] at HB20
              have HE20 := Aside0.mk hl
              have HLF := Aside0.mk (show (memberL f).length = (partL q f.f0).length + 2 by rw [HFL.out, List.length_append]; rfl)
              have HLP := Aside0.mk (show f.f0.size ≤ (partL q f.f0).length by unfold partL; rw [List.length_append, sz_list]; omega)
              have HL29 := Aside0.mk (show l20.length + (partL q f.f0).length + 2 + 900 ≤ 100000000 by
                have h1 := HTG.out.2; have h2 := HLS.out; have h3 := HL9.out; have h4 := HL11.out; have h5 := HLF.out; rw [hl, List.length_append]; omega)
              clear hl
              obtain ⟨w20, hw⟩ : ∃ w_, w_ = w6 := ⟨_, rfl⟩
              rw [← hw] at HB20 HK20 HW20 BX4
              subst hw
              have BJ20 := BX4
              clear BX BX4
              refine (ppart.calls w0.heap.size b l20 q f.f0 w20 HB20.out HBB.out HQ.out HNM.out (by have := HL29.out; have := HLP.out; omega)).mono ?_
              rintro e w21 h4
              have hk9 := h4.2.2.1
              have h5 := Wrote.then (HK20.out) (HW20.out) h4
              clear h4
              obtain ⟨rfl, hb_, hk_, hw_⟩ := h5
              have HB21 := Aside0.mk hb_
              have HK21 := Aside0.mk hk_
              have HW21 := Aside0.mk hw_
              clear hb_ hk_ hw_ HK20 HW20
              have HL21 := Aside0.mk (show (l20 ++ partL q f.f0).length = l20.length + (partL q f.f0).length by rw [List.length_append]; skip)
              obtain ⟨l21, hl⟩ : ∃ l_, l_ = l20 ++ partL q f.f0 := ⟨_, rfl⟩
              rw [← hl] at HB21 HL21
              have HE21 := Aside0.mk hl
              clear hl
              have BJ21 := Aside0.mk (hk9.keep _ _ _ _ BJ20.out hg7 (by decide))
              clear hk9 BJ20
              go_wp2_with fail
              go_at_call 70
              have HT := Aside0.mk (lits_new w0.heap.size b w21.heap.size l21 [⟨#[59, 10]⟩] w21 HB21.out HBB.out rfl (show 1 ≤ 9 by decide) (by
                have := HL29.out; have := HLP.out; have := HL21.out; 
                have e : (catL [⟨#[59, 10]⟩]).length = 2 := rfl
                rw [e]; omega))
              refine (show Calls Try.prog 70 #[.pointer (some ⟨b, 0, none⟩), .slice (some ⟨w21.heap.size, 0, none⟩) 1 1] _ _ from HT.out).mono ?_
              rintro e w22 h4
              have hk9 := h4.2.2.1
              have h5 := Wrote.then (HK21.out) (HW21.out) h4
              clear h4
              obtain ⟨rfl, hb_, hk_, hw_⟩ := h5
              clear HT
              have HB22 := Aside0.mk hb_
              have HK22 := Aside0.mk hk_
              have HW22 := Aside0.mk hw_
              clear hb_ hk_ hw_ HK21 HW21
              have HL22 := Aside0.mk (show (l21 ++ catL [⟨#[59, 10]⟩]).length = l21.length + 2 by rw [List.length_append]; rfl)
              obtain ⟨l22, hl⟩ : ∃ l_, l_ = l21 ++ catL [⟨#[59, 10]⟩] := ⟨_, rfl⟩
              rw [← hl] at HB22 HL22
              have HE22 := Aside0.mk hl
              clear hl
              clear hk9 BJ21
              go_wp2_with fail
              have E : l11 ++ (s.f1.take (j + 1)).flatMap memberL = l22 := by
                rw [HE22.out, HE21.out, HE20.out, HTG.out.1, HFL.out]; simp only [catL_cons, catL_nil, List.append_assoc, List.append_nil]
              refine ⟨⟨j + 1, by omega, by go_num, ⟨by rw [E]; exact HB22.out⟩, HK22, HW22⟩, ?_⟩
              simp [intOf]; omega
            · obtain rfl : j = m := by omega
              have HB30 := HBj
              have HK30 := Aside0.mk (HK11.out.trans HKj.out)
              have HW30 := Aside0.mk (HW11.out.trans HWj.out)
              obtain ⟨w30, hw⟩ : ∃ w_, w_ = wr := ⟨_, rfl⟩
              rw [← hw] at HB30 HK30 HW30
              obtain ⟨l30, hl⟩ : ∃ l_, l_ = l11 ++ (s.f1.take j).flatMap memberL := ⟨_, rfl⟩
              rw [← hl] at HB30
              have HE30 := Aside0.mk (show l30 = l11 ++ s.f1.flatMap memberL by rw [hl, HMM.out, List.take_length])
              have HL29 := Aside0.mk (show l30.length + 100 ≤ 100000000 by have h2 := HLS.out; have h3 := HL9.out; have h4 := HL11.out; rw [HE30.out, List.length_append]; omega)
              clear hl
              go_wp2_with fail
              rw [← hw]
              go_at_call 70
              have HT := Aside0.mk (lits_new w0.heap.size b w30.heap.size l30 [⟨#[125, 10]⟩] w30 HB30.out HBB.out rfl (show 1 ≤ 9 by decide) (by
                have := HL29.out; 
                have e : (catL [⟨#[125, 10]⟩]).length = 2 := rfl
                rw [e]; omega))
              refine (show Calls Try.prog 70 #[.pointer (some ⟨b, 0, none⟩), .slice (some ⟨w30.heap.size, 0, none⟩) 1 1] _ _ from HT.out).mono ?_
              rintro e w31 h4
              have hk9 := h4.2.2.1
              have h5 := Wrote.then (HK30.out) (HW30.out) h4
              clear h4
              obtain ⟨rfl, hb_, hk_, hw_⟩ := h5
              clear HT
              have HB31 := Aside0.mk hb_
              have HK31 := Aside0.mk hk_
              have HW31 := Aside0.mk hw_
              clear hb_ hk_ hw_ HK30 HW30
              have HL31 := Aside0.mk (show (l30 ++ catL [⟨#[125, 10]⟩]).length = l30.length + 2 by rw [List.length_append]; rfl)
              obtain ⟨l31, hl⟩ : ∃ l_, l_ = l30 ++ catL [⟨#[125, 10]⟩] := ⟨_, rfl⟩
              rw [← hl] at HB31 HL31
              have HE31 := Aside0.mk hl
              clear hl
              clear hk9
              go_wp2_with fail
              have E : lB ++ (x.f1.take (i + 1)).flatMap enumL = l31 := by
                rw [HE31.out, HE30.out, HE11.out, HE10.out, HTF.out.1]; unfold enumL; simp only [catL_cons, catL_nil, List.append_assoc, List.append_nil]
              refine ⟨⟨i + 1, by omega, by go_num, ⟨by rw [E]; exact HB31.out⟩, HK31, HW31⟩, ?_⟩
              simp [intOf]; omega
        · obtain rfl : i = n2 := by omega
          have z1 := zcell (HKi.out.keep _ _ _ _ K1.out hgb (by decide)) 2 _ rfl
          have HKs := HKi
          have HWs := HWi
          have HBs := HBi
          rw [HN.out.2.1, List.take_length] at HBs
          obtain ⟨lC, hl⟩ : ∃ l_, l_ = lB ++ x.f1.flatMap enumL := ⟨_, rfl⟩
          rw [← hl] at HBs
          have HEs2 := Aside0.mk hl
          have HLs2 := Aside0.mk (show lC.length + (x.f2.flatMap (serviceL K)).length + 1000 ≤ 100000000 by have h1 := HLs1.out; rw [hl, List.length_append]; omega)
          clear hl
          go_wp2_with fail
          clear z1
          obtain ⟨ws1, hws⟩ : ∃ ws_ : World, ws_ = wr := ⟨_, rfl⟩
          subst hws
          go_loopw [96] (fun v_ W => ∃ i : Nat, i ≤ n3 ∧ v_ = .int .i64 (i : Int) ∧ Aside0 (Bld 108 w0.heap.size b (lC ++ (x.f2.take i).flatMap (serviceL K)) [] W) ∧ Aside0 (KpB b w1 W) ∧ Aside0 (Below w0.heap.size w1 W)) (fun v _ => n3 - (intOf v).toNat)
          case atStart => exact ⟨0, by omega, rfl, ⟨by simpa using HBs.out⟩, HKs, HWs⟩
          case round =>
            obtain ⟨i, ile, rfl, HBi, HKi, HWi⟩ := hrel
            by_cases hlt : i < n3
            · have nlt : i < x.f2.length := by rw [← HN.out.2.2]; exact hlt
              obtain ⟨ad, eA⟩ := C_at HX.out.2.2 (by omega)
              subst eA
              obtain ⟨ad', AF, cF, e, a0, a1, lF, CF⟩ := at_T91 HX.out.2.2 (i : Int) (by omega) (by omega)
              cases e
              rw [Int.toNat_natCast] at a0 a1
              replace a0 := cellB (H01.out.trans HWi.out) rfl a0
              replace a1 := cellB (H01.out.trans HWi.out) rfl a1
              have HS := Aside0.mk (HOK.out.2.2 (rd_T91 x.f2 i) (rd_mem x.f2 i nlt))
              have HTF := Aside0.mk (take_flat (serviceL K) z91 x.f2 i nlt)
              obtain ⟨s, hs⟩ : ∃ s, s = rd_T91 x.f2 (i : Int) := ⟨_, rfl⟩
              have hsz : x.f2.getD i z91 = s := by rw [hs]; simp [rd_T91, rdOf]
              rw [hsz] at HTF
              rw [← hs] at a0 a1 lF CF HS
              have CFF := Aside0.mk CF
              have sl := CF.2.1
              clear hs hsz CF nlt lF
              obtain ⟨m, hm⟩ : ∃ m, m = s.f1.length := ⟨_, rfl⟩
              have HMM := Aside0.mk hm
              rw [← hm] at a1 sl
              clear hm
              have hm32 : m ≤ 32 := by rw [HMM.out]; exact HS.out.2.1
              go_wp2_with (first | ((with_reducible refine gate_dst (N := 13) rfl ?_); refine box_event ?hg (N := 13) ?hd (cs := #[.string ⟨#[]⟩, .slice none 0 0]) (t := 91) ?hr ?_; (case hd => rfl); (case hg => rfl); (case hr => first | (go_simp; done) | (go_simp; rfl)); intro g5 hg_ w3 hbox hb; have BX := Aside0.mk hbox; have HW3 := Aside0.mk hb; have HGX := Aside0.mk hg_; clear hbox hb hg_) | ((with_reducible refine gate_store (p := 13) rfl ?_); refine store_all rfl rfl 91 _ _ rfl #[.string s.f0, .slice AF m cF] rfl rfl BX.out rfl (by kernel_rfl) (by rfl) ?_; intro w4 h1 h2; have BX4 := Aside0.mk h1; have HW4 := Aside0.mk (below_ch HW3.out h2 HW3.out.size (fun k e => by rw [e, HGX.out]; exact Nat.le_refl _)); clear h1 h2; have x0 := zcell BX4.out 0 _ rfl; have x1 := zcell BX4.out 1 _ rfl))
              have hg5 : g5 ≠ b := by have := HGX.out; have := HBi.out.lt; omega
              have HB10 := Aside0.mk (HBi.out.below HW4.out)
              have HK10 := Aside0.mk (HKi.out.trans (KpB.of_below (b := b) HW4.out))
              have HW10 := Aside0.mk (HWi.out.trans (HW4.out.mono (Nat.le_trans HBB.out (Nat.le_of_lt HBi.out.lt))))
              obtain ⟨l10, hl⟩ : ∃ l_, l_ = lC ++ (x.f2.take i).flatMap (serviceL K) := ⟨_, rfl⟩
              rw [← hl] at HB10
              have HE10 := Aside0.mk hl
              have HL9 := Aside0.mk (show l10.length + (serviceL K s).length + 1000 ≤ 100000000 by
                have h1 := HLs2.out; have h2 := HTF.out.2; rw [hl, List.length_append]; omega)
              clear hl
              have HLS := Aside0.mk (show (serviceL K s).length = (7 + 1 + s.f0.size + 3) + (s.f1.flatMap (methodL K)).length + 2 by unfold serviceL beginL; rw [List.length_append, List.length_append, List.length_append, List.length_append, List.length_append, sz_list, sz_list]; rfl)
              obtain ⟨w10, hw⟩ : ∃ w_, w_ = w4 := ⟨_, rfl⟩
              rw [← hw] at HB10 HK10 HW10 BX4
              subst hw
              have BK4 := BX4
              clear x0 x1 BX BX4
              refine (pbegin.calls w0.heap.size b l10 ⟨#[115, 101, 114, 118, 105, 99, 101]⟩ s.f0 m w10 HB10.out HBB.out HS.out.1 hm32 (by have := HL9.out; have := HLS.out; show l10.length + 7 + s.f0.size + 10 ≤ _; omega)).mono ?_
              rintro e w11 h4
              have hk9 := h4.2.2.1
              have h5 := Wrote.then (HK10.out) (HW10.out) h4
              clear h4
              obtain ⟨rfl, hb_, hk_, hw_⟩ := h5
              have HB11 := Aside0.mk hb_
              have HK11 := Aside0.mk hk_
              have HW11 := Aside0.mk hw_
              clear hb_ hk_ hw_ HK10 HW10
              have HL11 := Aside0.mk (show (l10 ++ beginL ⟨#[115, 101, 114, 118, 105, 99, 101]⟩ s.f0).length = l10.length + (7 + 1 + s.f0.size + 3) by rw [List.length_append]; unfold beginL; rw [List.length_append, List.length_append, List.length_append, sz_list, sz_list]; rfl)
              obtain ⟨l11, hl⟩ : ∃ l_, l_ = l10 ++ beginL ⟨#[115, 101, 114, 118, 105, 99, 101]⟩ s.f0 := ⟨_, rfl⟩
              rw [← hl] at HB11 HL11
              have HE11 := Aside0.mk hl
              clear hl
              have BK5 := Aside0.mk (hk9.keep _ _ _ _ BK4.out hg5 (by decide))
              clear hk9 BK4
              have y1 := zcell BK5.out 1 _ rfl
              go_wp2_with fail
              clear y1
              obtain ⟨wo, hwo⟩ : ∃ wo : World, wo = wr := ⟨_, rfl⟩
              subst hwo
              go_loopw [110] (fun v_ W => ∃ j : Nat, j ≤ m ∧ v_ = .int .i64 (j : Int) ∧ Aside0 (Bld 108 w0.heap.size b (l11 ++ (s.f1.take j).flatMap (methodL K)) [] W) ∧ Aside0 (KpB b w11 W) ∧ Aside0 (Below w0.heap.size w11 W)) (fun v _ => m - (intOf v).toNat)
              case atStart => exact ⟨0, by omega, rfl, ⟨by simpa using HB11.out⟩, ⟨KpB.refl _ _⟩, ⟨Below.refl _ _⟩⟩
              case round =>
                obtain ⟨j, jle, rfl, HBj, HKj, HWj⟩ := hrel
                by_cases hjt : j < m
                · have mlt : j < s.f1.length := by rw [← HMM.out]; exact hjt
                  have H02 := Aside0.mk (H01.out.trans (HW11.out.trans HWj.out))
                  obtain ⟨aq, eA⟩ := C_at CFF.out (by omega)
                  subst eA
                  obtain ⟨aq', AT, cT, AU, cU, e, p0, p1, p2, p3, p4, p5, p6, p7, lT, CT, lU, CU⟩ := at_T94 CFF.out (j : Int) (by omega) (by omega)
                  cases e
                  rw [Int.toNat_natCast] at p0 p1 p2 p3 p4 p5 p6 p7
                  replace p0 := cellB H02.out rfl p0
                  replace p1 := cellB H02.out rfl p1
                  replace p2 := cellB H02.out rfl p2
                  replace p3 := cellB H02.out rfl p3
                  replace p4 := cellB H02.out rfl p4
                  replace p5 := cellB H02.out rfl p5
                  replace p6 := cellB H02.out rfl p6
                  replace p7 := cellB H02.out rfl p7
                  have HFO := Aside0.mk (HS.out.2.2 (rd_T94 s.f1 j) (rd_mem s.f1 j mlt))
                  have HTG := Aside0.mk (take_flat (methodL K) z94 s.f1 j mlt)
                  obtain ⟨f, hf⟩ : ∃ f, f = rd_T94 s.f1 (j : Int) := ⟨_, rfl⟩
                  have hfz : s.f1.getD j z94 = f := by rw [hf]; simp [rd_T94, rdOf]
                  rw [hfz] at HTG
                  rw [← hf] at p0 p1 p2 p3 p4 p5 p6 p7 HFO lT CT lU CU
                  clear hf hfz mlt
                  obtain ⟨hnm, ⟨hS, s1, hW⟩, hS2, s2, hW2⟩ := HFO.out
                  have HNM := Aside0.mk hnm
                  obtain ⟨on, hon⟩ : ∃ on, on = f.f1 := ⟨_, rfl⟩
                  have HFL := Aside0.mk (show methodL K f = methL on f.f0 s1 s2 by unfold methodL; rw [hW, hW2, hon]; rfl)
                  rw [← hon] at p1
                  clear hon
                  have HTY := Aside0.mk (fun (l' : List UInt8) (W : World) (hB : Bld 108 w0.heap.size b l' [] W) (hw : Below w0.heap.size w0 W) (hl : l'.length + f.f0.size + s1.size + s2.size + 100 ≤ 100000000) => pmethod.calls on K w0.heap.size b l' f.f0 f.f2 f.f3 s1 s2 AT cT AU cU W hB HBB.out hnm (pF_from k50_heap CT hw) lT hS hW (pF_from k50_heap CU hw) lU hS2 hW2 hl)
                  obtain ⟨nT, hnT⟩ : ∃ n, n = f.f2.f2.length := ⟨_, rfl⟩
                  rw [← hnT] at p4 HTY
                  obtain ⟨nU, hnU⟩ : ∃ n, n = f.f3.f2.length := ⟨_, rfl⟩
                  rw [← hnU] at p7 HTY
                  clear hnm hS hW hS2 hW2 CT lT CU lU hnT hnU HFO
                  go_wp2_with (first | ((with_reducible refine gate_dst (N := 15) rfl ?_); refine box_event ?hg (N := 15) ?hd (cs := #[.string ⟨#[]⟩, .bool false, .int .i64 0, .string ⟨#[]⟩, .slice none 0 0, .int .i64 0, .string ⟨#[]⟩, .slice none 0 0]) (t := 94) ?hr ?_; (case hd => rfl); (case hg => rfl); (case hr => first | (go_simp; done) | (go_simp; rfl)); intro g7 hg_ w3 hbox hb; have BX := Aside0.mk hbox; have HW3 := Aside0.mk hb; have HGX := Aside0.mk hg_; clear hbox hb hg_) | ((with_reducible refine gate_store (p := 15) rfl ?_); refine store_all rfl rfl 94 _ _ rfl #[.string f.f0, .bool on, .int .i64 f.f2.f0, .string f.f2.f1, .slice AT nT cT, .int .i64 f.f3.f0, .string f.f3.f1, .slice AU nU cU] rfl rfl BX.out rfl (by kernel_rfl) (by rfl) ?_; intro w6 h1 h2; have BX4 := Aside0.mk h1; have HW4 := Aside0.mk (below_ch HW3.out h2 HW3.out.size (fun k e => by rw [e, HGX.out]; exact Nat.le_refl _)); clear h1 h2; have x0 := zcell BX4.out 0 _ rfl; have x1 := zcell BX4.out 1 _ rfl; have x2 := zcell BX4.out 2 _ rfl; have x3 := zcell BX4.out 3 _ rfl; have x4 := zcell BX4.out 4 _ rfl; have x5 := zcell BX4.out 5 _ rfl; have x6 := zcell BX4.out 6 _ rfl; have x7 := zcell BX4.out 7 _ rfl))
                  clear x0 x1 x2 x3 x4 x5 x6 x7
                  have hg7 : g7 ≠ b := by have := HGX.out; have := HBj.out.lt; omega
                  have HB20 := Aside0.mk (HBj.out.below HW4.out)
                  have HK20 := Aside0.mk (HKj.out.trans (KpB.of_below (b := b) HW4.out))
                  have HW20 := Aside0.mk (HWj.out.trans (HW4.out.mono (Nat.le_trans HBB.out (Nat.le_of_lt HBj.out.lt))))
                  obtain ⟨l20, hl⟩ : ∃ l_, l_ = l11 ++ (s.f1.take j).flatMap (methodL K) := ⟨_, rfl⟩
                  rw [← hl] at HB20
                  have HE20 := Aside0.mk hl
                  have HLF := Aside0.mk (show (methodL K f).length = 6 + f.f0.size + 1 + s1.size + 2 + s2.size + 2 by rw [HFL.out, methL_len])
                  have HL29 := Aside0.mk (show l20.length + 6 + f.f0.size + 1 + s1.size + 2 + s2.size + 2 + 900 ≤ 100000000 by
                    have h1 := HTG.out.2; have h2 := HLS.out; have h3 := HL9.out; have h4 := HL11.out; have h5 := HLF.out; rw [hl, List.length_append]; omega)
                  clear hl
                  obtain ⟨w20, hw⟩ : ∃ w_, w_ = w6 := ⟨_, rfl⟩
                  rw [← hw] at HB20 HK20 HW20 BX4
                  subst hw
                  have BJ20 := BX4
                  clear BX BX4
                  refine (HTY.out l20 w20 HB20.out (H01.out.trans (HW11.out.trans HW20.out)) (by have := HL29.out; omega)).mono ?_
                  rintro e w21 h4
                  have hk9 := h4.2.2.1
                  have h5 := Wrote.then (HK20.out) (HW20.out) h4
                  clear h4
                  obtain ⟨rfl, hb_, hk_, hw_⟩ := h5
                  have HB21 := Aside0.mk hb_
                  have HK21 := Aside0.mk hk_
                  have HW21 := Aside0.mk hw_
                  clear hb_ hk_ hw_ HK20 HW20
                  have HL21 := Aside0.mk (show (l20 ++ methL on f.f0 s1 s2).length = l20.length + (methL on f.f0 s1 s2).length by rw [List.length_append]; skip)
                  obtain ⟨l21, hl⟩ : ∃ l_, l_ = l20 ++ methL on f.f0 s1 s2 := ⟨_, rfl⟩
                  rw [← hl] at HB21 HL21
                  have HE21 := Aside0.mk hl
                  clear hl
                  clear hk9 BJ20
                  go_wp2_with fail
                  have E : l11 ++ (s.f1.take (j + 1)).flatMap (methodL K) = l21 := by
                    rw [HE21.out, HE20.out, HTG.out.1, HFL.out]; simp only [List.append_assoc]
                  refine ⟨⟨j + 1, by omega, by go_num, ⟨by rw [E]; exact HB21.out⟩, HK21, HW21⟩, ?_⟩
                  simp [intOf]; omega
                · obtain rfl : j = m := by omega
                  have HB30 := HBj
                  have HK30 := Aside0.mk (HK11.out.trans HKj.out)
                  have HW30 := Aside0.mk (HW11.out.trans HWj.out)
                  obtain ⟨w30, hw⟩ : ∃ w_, w_ = wr := ⟨_, rfl⟩
                  rw [← hw] at HB30 HK30 HW30
                  obtain ⟨l30, hl⟩ : ∃ l_, l_ = l11 ++ (s.f1.take j).flatMap (methodL K) := ⟨_, rfl⟩
                  rw [← hl] at HB30
                  have HE30 := Aside0.mk (show l30 = l11 ++ s.f1.flatMap (methodL K) by rw [hl, HMM.out, List.take_length])
                  have HL29 := Aside0.mk (show l30.length + 100 ≤ 100000000 by have h2 := HLS.out; have h3 := HL9.out; have h4 := HL11.out; rw [HE30.out, List.length_append]; omega)
                  clear hl
                  go_wp2_with fail
                  rw [← hw]
                  go_at_call 70
                  have HT := Aside0.mk (lits_new w0.heap.size b w30.heap.size l30 [⟨#[125, 10]⟩] w30 HB30.out HBB.out rfl (show 1 ≤ 9 by decide) (by
                    have := HL29.out; 
                    have e : (catL [⟨#[125, 10]⟩]).length = 2 := rfl
                    rw [e]; omega))
                  refine (show Calls Try.prog 70 #[.pointer (some ⟨b, 0, none⟩), .slice (some ⟨w30.heap.size, 0, none⟩) 1 1] _ _ from HT.out).mono ?_
                  rintro e w31 h4
                  have hk9 := h4.2.2.1
                  have h5 := Wrote.then (HK30.out) (HW30.out) h4
                  clear h4
                  obtain ⟨rfl, hb_, hk_, hw_⟩ := h5
                  clear HT
                  have HB31 := Aside0.mk hb_
                  have HK31 := Aside0.mk hk_
                  have HW31 := Aside0.mk hw_
                  clear hb_ hk_ hw_ HK30 HW30
                  have HL31 := Aside0.mk (show (l30 ++ catL [⟨#[125, 10]⟩]).length = l30.length + 2 by rw [List.length_append]; rfl)
                  obtain ⟨l31, hl⟩ : ∃ l_, l_ = l30 ++ catL [⟨#[125, 10]⟩] := ⟨_, rfl⟩
                  rw [← hl] at HB31 HL31
                  have HE31 := Aside0.mk hl
                  clear hl
                  clear hk9
                  go_wp2_with fail
                  have E : lC ++ (x.f2.take (i + 1)).flatMap (serviceL K) = l31 := by
                    rw [HE31.out, HE30.out, HE11.out, HE10.out, HTF.out.1]; unfold serviceL; simp only [catL_cons, catL_nil, List.append_assoc, List.append_nil]
                  refine ⟨⟨i + 1, by omega, by go_num, ⟨by rw [E]; exact HB31.out⟩, HK31, HW31⟩, ?_⟩
                  simp [intOf]; omega
            · obtain rfl : i = n3 := by omega
              go_wp2_with fail
              go_end0
              refine ⟨rfl, ?_, HK1.out.trans HKi.out, HWB.out.trans HWi.out⟩
              have := HBi.out
              rw [HN.out.2.2, List.take_length, HEs2.out, HEs1.out] at this
              unfold allL
              rw [← List.append_assoc, ← List.append_assoc]
              exact this
attribute [local go_sem] Instr.field asAgg
set_option maxHeartbeats 2000000 in
set_option maxRecDepth 100000 in
/-- The printer's deferred closure where nothing has gone wrong. -/
theorem pcatch_idle (r0 r1 : Nat) (w : World) : CallsD Try.prog 46 #[.pointer (some ⟨r0, 0, none⟩), .pointer (some ⟨r1, 0, none⟩)] .returning w fun e u' w' => e = .returned (.tuple #[]) ∧ u' = .returning ∧ w' = w := by
  have hta : ∀ (W : World), (Instr.typeAssert .nilIface 20 24 true).run Try.prog W = .ok (.tuple #[.int .i64 0, .bool false]) W := fun W => by kernel_rfl
  refine callsD_of_wpS Try.func46 rfl fun c₀ cs hu => ?_
  have e : ({ tmps := #[.pointer (some ⟨r0, 0, none⟩), .pointer (some ⟨r1, 0, none⟩)] ++ Array.replicate (Try.f46.ntmps - (#[.pointer (some ⟨r0, 0, none⟩), .pointer (some ⟨r1, 0, none⟩)] : Array Value).size) undef, defers := [] } : Act) = { tmps := #[.pointer (some ⟨r0, 0, none⟩), .pointer (some ⟨r1, 0, none⟩), undef, undef, undef, undef, undef, undef, undef, undef, undef], defers := [] } := by rw [Try.ntmps46]; rfl
  rw [e]
  clear e
  apply wpS_seq
  apply wpS_region
  simp [wpOpsS, go_sem, recoverD, hu, Exit.thenS, hta]
  refine wpS_of_wp ?_
  go_wp2_with fail
  exact ⟨rfl, .returning, by rw [← hu], .tuple #[], by simp [results, Try.results46], rfl, rfl, rfl⟩
theorem res_vals31 {w : World} {r1 r2 : Nat} {s : ByteArray} {b : Int} (h1 : w.heap[r1]? = some (.cells #[.string s] 9 (0, 0))) (h2 : w.heap[r2]? = some (.cells #[.int .i64 b] 24 (0, 0))) (tmps : Array Value) (e1 : tmps.getD 2 undef = .pointer (some ⟨r1, 0, none⟩)) (e2 : tmps.getD 3 undef = .pointer (some ⟨r2, 0, none⟩)) :
    (results Try.f31 tmps).run Try.prog w = .ok (.tuple #[.string s, .int .i64 b]) w := by
  have z1 := zcell h1 0 _ rfl
  have z2 := zcell h2 0 _ rfl
  have l1 : (loadVar 9 ⟨r1, 0, none⟩).run Try.prog w = .ok (.string s) w := by simp [loadVar, go_sem, z1]
  have l2 : (loadVar 24 ⟨r2, 0, none⟩).run Try.prog w = .ok (.int .i64 b) w := by simp [loadVar, go_sem, z2]
  unfold results
  rw [Try.results31]
  simp only [Array.getD_eq_getD_getElem?] at e1 e2
  simp [e1, e2, asAddr, l1, l2]
theorem two_boxes {w W : World} {g2 g3 B : Nat} {s s' : ByteArray} {a b : Int} (hW : Below B w W) (h2 : W.heap[g2]? = some (.cells #[.string s] 9 (0, 0))) (h3 : W.heap[g3]? = some (.cells #[.int .i64 a] 24 (0, 0))) (n : ¬ g3 = g2) (hB : B ≤ w.heap.size) (k2 : B ≤ g2) (k3 : B ≤ g3) :
    ((W.setCell ⟨g2, 0, none⟩ (.string s')).setCell ⟨g3, 0, none⟩ (.int .i64 b)).heap[g2]? = some (.cells #[.string s'] 9 (0, 0)) ∧ ((W.setCell ⟨g2, 0, none⟩ (.string s')).setCell ⟨g3, 0, none⟩ (.int .i64 b)).heap[g3]? = some (.cells #[.int .i64 b] 24 (0, 0)) ∧ Below B w ((W.setCell ⟨g2, 0, none⟩ (.string s')).setCell ⟨g3, 0, none⟩ (.int .i64 b)) := by
  have c1 : Ch (fun k => k = g2) W (W.setCell ⟨g2, 0, none⟩ (.string s')) := (Ch.refl (fun k => k = g2) W).set (p := ⟨g2, 0, none⟩) (.inl rfl) _
  have c2 : Ch (fun k => k = g3) (W.setCell ⟨g2, 0, none⟩ (.string s')) ((W.setCell ⟨g2, 0, none⟩ (.string s')).setCell ⟨g3, 0, none⟩ (.int .i64 b)) := (Ch.refl (fun k => k = g3) _).set (p := ⟨g3, 0, none⟩) (.inl rfl) _
  have y1 : (W.setCell ⟨g2, 0, none⟩ (.string s')).heap[g2]? = some (.cells #[.string s'] 9 (0, 0)) := by simpa using zset h2 0 (.string s')
  have y2 : ((W.setCell ⟨g2, 0, none⟩ (.string s')).setCell ⟨g3, 0, none⟩ (.int .i64 b)).heap[g3]? = some (.cells #[.int .i64 b] 24 (0, 0)) := by simpa using zset (c1.heap h3 n) 0 (.int .i64 b)
  have hs := hW.size
  exact ⟨c2.heap y1 (fun e => n e.symm), y2, below_ch (below_ch hW c1 (by omega) (fun k e => by omega)) c2 (Nat.le_trans (by omega) c1.size) (fun k e => by omega)⟩
set_option maxHeartbeats 4000000 in
set_option maxRecDepth 100000 in
theorem Print.calls (K : Nat) (x : S40) (A1 A2 A3 : Option Addr) (c1 c2 c3 : Nat) (w : World)
    (hx : Kd.C k47 w A1 x.f0.length x.f0 ∧ Kd.C k86 w A2 x.f1.length x.f1 ∧ Kd.C k91 w A3 x.f2.length x.f2) (hok : SchOk K x) (h64 : x.f0.length ≤ 64 ∧ x.f1.length ≤ 64 ∧ x.f2.length ≤ 64 ∧ x.f0.length + x.f1.length + x.f2.length ≤ 64) (hlen : (allL K x).length + 1000 ≤ 100000000) :
    Calls Try.prog 31 #[.agg #[.slice A1 x.f0.length c1, .slice A2 x.f1.length c2, .slice A3 x.f2.length c3]] w fun e w' => e = .returned (.tuple #[.string ⟨(allL K x).toArray⟩, .int .i64 0]) ∧ Below w.heap.size w w' := by
  have HX := Aside0.mk hx
  have HOK := Aside0.mk hok
  have HL := Aside0.mk hlen
  have HALL := Aside0.mk (fun (b : Nat) (W : World) (h : Bld 108 w.heap.size b [] [] W) (hbb : w.heap.size ≤ b) (h0 : Below w.heap.size w W) => pall.calls K b [] x A1 A2 A3 c1 c2 c3 w W h hbb hx h0 hok (by rw [List.length_nil]; omega))
  obtain ⟨n1, hn1⟩ : ∃ n, n = x.f0.length := ⟨_, rfl⟩
  obtain ⟨n2, hn2⟩ : ∃ n, n = x.f1.length := ⟨_, rfl⟩
  obtain ⟨n3, hn3⟩ : ∃ n, n = x.f2.length := ⟨_, rfl⟩
  rw [← hn1, ← hn2, ← hn3] at h64 ⊢
  rw [← hn1, ← hn2, ← hn3] at HALL
  obtain ⟨m1, m2, m3, m4⟩ := h64
  clear hx hok hlen hn1 hn2 hn3
  have hmf : ∀ (fn : Fn) (first cap : Array Value) (w : World), (Instr.makeFunc fn first cap).run Try.prog w = .ok (.func fn first cap) w := fun _ _ _ _ => rfl
  go_enter_defers Try.func31, Try.ntmps31
  go_wp2_with (first | ((with_reducible refine gate_dst (N := 1) rfl ?_); refine box_event ?hg (N := 1) ?hd (cs := #[.slice A1 n1 c1, .slice A2 n2 c2, .slice A3 n3 c3]) (t := 40) ?hr ?_; (case hd => rfl); (case hg => rfl); (case hr => first | (go_simp; done) | (go_simp; rfl)); intro g1 hg_ w1 hbox hb; have K1 := Aside0.mk hbox; have HW1 := Aside0.mk hb; have HG1 := Aside0.mk hg_; clear hg_ hbox hb) | ((with_reducible refine gate_dst (N := 2) rfl ?_); refine box_event ?hg (N := 2) ?hd (cs := #[.string ⟨#[]⟩]) (t := 9) ?hr ?_; (case hd => rfl); (case hg => rfl); (case hr => first | (go_simp; done) | (go_simp; rfl)); intro g2 hg_ w2 hbox hb; have K2 := Aside0.mk hbox; have HB2 := Aside0.mk hb; have HW2 := Aside0.mk (below_b HW1.out hb HW1.out.size); have HG2 := Aside0.mk hg_; have J1 := Aside0.mk (pheapB K1.out hb); clear hg_ hbox hb) | ((with_reducible refine gate_dst (N := 3) rfl ?_); refine box_event ?hg (N := 3) ?hd (cs := #[.int .i64 0]) (t := 24) ?hr ?_; (case hd => rfl); (case hg => rfl); (case hr => first | (go_simp; done) | (go_simp; rfl)); intro g3 hg_ w3 hbox hb; have K3 := Aside0.mk hbox; have HW3 := Aside0.mk (below_b HW2.out hb HW2.out.size); have HG3 := Aside0.mk hg_; have L1 := Aside0.mk (pheapB J1.out hb); have L2 := Aside0.mk (pheapB K2.out hb); have z1 := zcell L1.out 0 _ rfl; have z2 := zcell L1.out 1 _ rfl; have z3 := zcell L1.out 2 _ rfl; clear hg_ hbox hb) | ((with_reducible refine gate_dst (N := 32) rfl ?_); refine box_event ?hg (N := 32) ?hd (cs := #[.pointer none, .slice none 0 0]) (t := 108) ?hr ?_; (case hd => rfl); (case hg => rfl); (case hr => first | (go_simp; done) | (go_simp; rfl)); intro g4 hg_ w4 hbox hb; have HBD := Aside0.mk (show Bld 108 w.heap.size g4 [] [] w4 from ⟨_, _, hbox, .inl rfl, World.ownsRow_nil _ _ _ _, by simp [Value.ownBlock]⟩); have HW4 := Aside0.mk (below_b HW3.out hb HW3.out.size); have HG4 := Aside0.mk (show w.heap.size ≤ g4 by rw [hg_]; exact HW3.out.size); have HG4E := Aside0.mk hg_; have M1 := Aside0.mk (pheapB L1.out hb); have M2 := Aside0.mk (pheapB L2.out hb); have M3 := Aside0.mk (pheapB K3.out hb); clear z1 z2 z3; have z1 := zcell M1.out 0 _ rfl; have z2 := zcell M1.out 1 _ rfl; have z3 := zcell M1.out 2 _ rfl; clear hg_ hbox hb))
  all_goals
    go_at_call 47
    refine (HALL.out g4 w4 HBD.out HG4.out HW4.out).mono ?_
    rintro e w5 ⟨rfl, hb5, hk5, hw5⟩
    have H5 := Aside0.mk hb5
    have N2 := Aside0.mk (show ¬ g2 = g4 ∧ ¬ g3 = g4 ∧ ¬ g3 = g2 ∧ w.heap.size ≤ g2 ∧ w.heap.size ≤ g3 from by
      have a := lt_of_block K2.out; have b := lt_of_block K3.out; have c := lt_of_block L2.out; have d := HG2.out; have e := HG3.out; have f := HG4E.out; have g := HW1.out.size; have h := HW2.out.size; omega)
    have Q2 := Aside0.mk (hk5.keep _ _ _ _ M2.out N2.out.1 (by decide))
    have Q3 := Aside0.mk (hk5.keep _ _ _ _ M3.out N2.out.2.1 (by decide))
    have HW5 := Aside0.mk (show Below w.heap.size w w5 from HW4.out.trans hw5)
    clear hb5 hk5 hw5 z1 z2 z3
    go_wp2_with fail
    go_at_call 45
    refine (bstring.calls 108 w.heap.size g4 _ [] w5 H5.out HG4.out).mono ?_
    rintro e w6 ⟨rfl, hb6, hk6⟩
    have P2 := Aside0.mk (hk6.keep _ _ _ _ Q2.out N2.out.1 (by decide))
    have P3 := Aside0.mk (hk6.keep _ _ _ _ Q3.out N2.out.2.1 (by decide))
    have HW6 := Aside0.mk (HW5.out.trans hb6)
    clear hb6 hk6
    have y2 := zcell P2.out 0 _ rfl
    have y3 := zcell P3.out 0 _ rfl
    have f2 := zfree P2.out 0
    have f3 := zfree P3.out 0
    have n32 := N2.out.2.2.1
    go_wp2_with fail
    refine leaves_cons (f := 46) (args := #[.pointer (some ⟨g2, 0, none⟩), .pointer (some ⟨g3, 0, none⟩)]) (by simp) (by simp [go_sem]) ?_
    refine (pcatch_idle g2 g3 _).mono ?_
    rintro e u' w8 ⟨rfl, rfl, rfl⟩
    obtain ⟨k1, k2, k3⟩ := two_boxes (s' := ⟨(allL K x).toArray⟩) (b := 0) HW6.out P2.out P3.out N2.out.2.2.1 (Nat.le_refl _) N2.out.2.2.2.1 N2.out.2.2.2.2
    exact ⟨_, res_vals31 k1 k2 _ rfl rfl, rfl, k3⟩
end Go.Proofs.Ytoloneoeojoiaaa.EParseBack

