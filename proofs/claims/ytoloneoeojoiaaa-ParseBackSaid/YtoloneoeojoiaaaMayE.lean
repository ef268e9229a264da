/- The printer where something is wrong. -/
import Derived.Test.YtoloneoeojoiaaaMayD
namespace Go.Proofs.Ytoloneoeojoiaaa.EParseBack
open Go.RowKit Go.Shelf Go.Proofs.YtoloneoeojoiaaaW.PrintWords Go.Proofs.YtoloneoeojoiaaaW.PrintLast Go.Proofs.YtoloneoeojoiaaaW.PrintMore
set_option linter.unusedVariables false
set_option linter.unusedSimpArgs false
theorem partL_len (q : Nat) (hq : q ≤ 999999999) (a : ByteArray) : (partL q a).length ≤ 12 + a.size := by
  have := decN_len q hq
  unfold partL
  simp only [List.length_append, sz_list, List.length_cons, List.length_nil]
  omega
def orC (a b : Int) : Int := if a = 0 then b else a
theorem orC_zero (b : Int) : orC 0 b = b := rfl
theorem orC_ne {a : Int} (h : a ≠ 0) (b : Int) : orC a b = a := if_neg h
theorem orC_assoc (a b c : Int) : orC (orC a b) c = orC a (orC b c) := by
  unfold orC; by_cases h : a = 0
  · rw [if_pos h, if_pos h]
  · rw [if_neg h, if_neg h, if_neg h]
def listC {α : Type} (f : α → Int) : List α → Int
  | [] => 0
  | x :: t => orC (f x) (listC f t)
theorem listC_drop {α : Type} (f : α → Int) (z : α) (l : List α) (i : Nat) (h : i < l.length) : listC f (l.drop i) = orC (f (l.getD i z)) (listC f (l.drop (i + 1))) := by
  rw [List.drop_eq_getElem_cons h]
  simp [listC, List.getD_eq_getElem?_getD, h]
def nameC (s : ByteArray) : Int := if nameB s = true then 0 else 31
def numC (n : Int) : Int := if 0 ≤ n ∧ n ≤ 999999999 then 0 else 4
def tyC (K : Nat) (t : S50) : Int := (parse_Shape.f K t.f0 t.f1 t.f2).getD 0
def fieldC (K : Nat) (f : S52) : Int := orC (numC f.f1) (orC (nameC f.f0) (tyC K f.f2))
def memberC (f : S88) : Int := orC (numC f.f1) (nameC f.f0)
def methodC (K : Nat) (m : S94) : Int := orC (nameC m.f0) (orC (tyC K m.f2) (tyC K m.f3))
def manyC (n : Nat) : Int := if n ≤ 32 then 0 else 3
def structC (K : Nat) (s : S47) : Int := orC (manyC s.f1.length) (orC (nameC s.f0) (listC (fieldC K) s.f1))
def enumC (s : S86) : Int := orC (manyC s.f1.length) (orC (nameC s.f0) (listC memberC s.f1))
def serviceC (K : Nat) (s : S91) : Int := orC (manyC s.f1.length) (orC (nameC s.f0) (listC (methodC K) s.f1))
def allC (K : Nat) (x : S40) : Int := orC (listC (structC K) x.f0) (orC (listC enumC x.f1) (orC (listC (serviceC K) x.f2) 0))
/-- A type's shape is found; its word, if it may be, is short. -/
def TyTot (K : Nat) (t : S50) : Prop := ∃ k, parse_Shape.f K t.f0 t.f1 t.f2 = some k ∧ (k = 0 → ∃ s, parse_word.f K t.f0 t.f1 t.f2 = some s ∧ s.size ≤ 48)
def SchTot (K : Nat) (x : S40) : Prop := (∀ s ∈ x.f0, ∀ f ∈ s.f1, TyTot K f.f2) ∧ (∀ s ∈ x.f2, ∀ f ∈ s.f1, TyTot K f.f2 ∧ TyTot K f.f3)
theorem pmethoda.calls (on : Bool) (base b : Nat) (l : List UInt8) (nm : ByteArray) (t u : S50) (A : Option Addr) (c : Nat) (B : Option Addr) (d : Nat) (w : World) (h : Bld 108 base b l [] w) (hbb : base ≤ b) (hs : nameB nm = false) (hlen : l.length + 100 ≤ 100000000) :
    Calls Try.prog 72 #[.pointer (some ⟨b, 0, none⟩), .agg #[.string nm, .bool on, .int .i64 t.f0, .string t.f1, .slice A t.f2.length c, .int .i64 u.f0, .string u.f1, .slice B u.f2.length d]] w (Stop base b w 31) := by
  cases on
  · exact pmethod0a.calls 0 base b l nm t u A c B d w h hbb hs hlen
  · exact pmethod1a.calls 0 base b l nm t u A c B d w h hbb hs hlen
theorem pmethodb.calls (on : Bool) (K base b : Nat) (l : List UInt8) (k : Int) (nm : ByteArray) (t u : S50) (A : Option Addr) (c : Nat) (B : Option Addr) (d : Nat) (w : World) (h : Bld 108 base b l [] w) (hbb : base ≤ b) (hs : nameB nm = true)
    (hF : Kd.F k50 w (fun k => k < base) A t.f2.length t.f2) (hc : t.f2.length ≤ c) (hS : parse_Shape.f K t.f0 t.f1 t.f2 = some k) (hk : k ≠ 0) (hlen : l.length + nm.size + 100 ≤ 100000000) :
    Calls Try.prog 72 #[.pointer (some ⟨b, 0, none⟩), .agg #[.string nm, .bool on, .int .i64 t.f0, .string t.f1, .slice A t.f2.length c, .int .i64 u.f0, .string u.f1, .slice B u.f2.length d]] w (Stop base b w k) := by
  cases on
  · exact pmethod0b.calls K base b l k nm t u A c B d w h hbb hs hF hc hS hk hlen
  · exact pmethod1b.calls K base b l k nm t u A c B d w h hbb hs hF hc hS hk hlen
theorem pmethodc.calls (on : Bool) (K base b : Nat) (l : List UInt8) (k : Int) (nm : ByteArray) (t u : S50) (s1 : ByteArray) (A : Option Addr) (c : Nat) (B : Option Addr) (d : Nat) (w : World) (h : Bld 108 base b l [] w) (hbb : base ≤ b) (hs : nameB nm = true)
    (hF : Kd.F k50 w (fun k => k < base) A t.f2.length t.f2) (hc : t.f2.length ≤ c) (hS : parse_Shape.f K t.f0 t.f1 t.f2 = some 0) (hW : parse_word.f K t.f0 t.f1 t.f2 = some s1)
    (hF2 : Kd.F k50 w (fun k => k < base) B u.f2.length u.f2) (hc2 : u.f2.length ≤ d) (hS2 : parse_Shape.f K u.f0 u.f1 u.f2 = some k) (hk : k ≠ 0) (hlen : l.length + nm.size + s1.size + 100 ≤ 100000000) :
    Calls Try.prog 72 #[.pointer (some ⟨b, 0, none⟩), .agg #[.string nm, .bool on, .int .i64 t.f0, .string t.f1, .slice A t.f2.length c, .int .i64 u.f0, .string u.f1, .slice B u.f2.length d]] w (Stop base b w k) := by
  cases on
  · exact pmethod0c.calls K base b l k nm t u s1 A c B d w h hbb hs hF hc hS hW hF2 hc2 hS2 hk hlen
  · exact pmethod1c.calls K base b l k nm t u s1 A c B d w h hbb hs hF hc hS hW hF2 hc2 hS2 hk hlen
theorem name_short32 {a : ByteArray} (h : nameB a = true) : a.size ≤ 32 := by
  have := name_len h
  rwa [sz_list] at this
set_option maxHeartbeats 4000000 in
set_option maxRecDepth 100000 in
theorem pall_no.calls (K b : Nat) (x : S40) (A1 A2 A3 : Option Addr) (c1 c2 c3 : Nat) (w0 w : World) (h : Bld 108 w0.heap.size b [] [] w) (hbb : w0.heap.size ≤ b)
    (hx : Kd.C k47 w0 A1 x.f0.length x.f0 ∧ Kd.C k86 w0 A2 x.f1.length x.f1 ∧ Kd.C k91 w0 A3 x.f2.length x.f2) (h0 : Below w0.heap.size w0 w) (hok : SchTot K x) (hlen : x.f0.length ≤ 64 ∧ x.f1.length ≤ 64 ∧ x.f2.length ≤ 64) (hne : allC K x ≠ 0) :
    Calls Try.prog 47 #[.pointer (some ⟨b, 0, none⟩), .agg #[.slice A1 x.f0.length c1, .slice A2 x.f1.length c2, .slice A3 x.f2.length c3]] w (Stop w0.heap.size b w (allC K x)) := by
  have HB := Aside0.mk h
  have HX := Aside0.mk hx
  have H0 := Aside0.mk h0
  have HOK := Aside0.mk hok
  have HL := Aside0.mk hlen
  have HNE := Aside0.mk hne
  have HBB := Aside0.mk hbb
  have l1 := hx.1.2.1
  have l2 := hx.2.1.2.1
  have l3 := hx.2.2.2.1
  clear h hx h0 hok hlen hbb hne
  obtain ⟨n1, hn1⟩ : ∃ n, n = x.f0.length := ⟨_, rfl⟩
  obtain ⟨n2, hn2⟩ : ∃ n, n = x.f1.length := ⟨_, rfl⟩
  obtain ⟨n3, hn3⟩ : ∃ n, n = x.f2.length := ⟨_, rfl⟩
  rw [← hn1, ← hn2, ← hn3]
  rw [← hn1] at l1
  rw [← hn2] at l2
  rw [← hn3] at l3
  have HN := Aside0.mk (show n1 = x.f0.length ∧ n2 = x.f1.length ∧ n3 = x.f2.length from ⟨hn1, hn2, hn3⟩)
  clear hn1 hn2 hn3
  unfold Stop
  go_enter Try.func47, Try.ntmps47
  go_wp2_with (first | ((with_reducible refine gate_dst (N := 3) rfl ?_); refine box_event ?hg (N := 3) ?hd (cs := #[.slice A1 n1 c1, .slice A2 n2 c2, .slice A3 n3 c3]) (t := 40) ?hr ?_; (case hd => rfl); (case hg => rfl); (case hr => first | (go_simp; done) | (go_simp; rfl)); intro g2 hg1 w1 hbox hb; have K1 := Aside0.mk hbox; have HW1 := Aside0.mk hb; have HG := Aside0.mk hg1; clear hg1 hbox hb; have z1 := zcell K1.out 0 _ rfl))
  clear z1
  have hgb : g2 ≠ b := by have := HG.out; have := HB.out.lt; omega
  have HB1 := Aside0.mk (HB.out.below HW1.out)
  have HK1 := Aside0.mk (KpB.of_below (b := b) HW1.out)
  have HWB := Aside0.mk (HW1.out.mono (Nat.le_trans HBB.out (Nat.le_of_lt HB.out.lt)))
  have H01 := Aside0.mk (H0.out.trans HWB.out)
  go_loopw [19] (fun v_ W => ∃ (i : Nat) (li : List UInt8), i ≤ n1 ∧ v_ = .int .i64 (i : Int) ∧ Aside0 (Bld 108 w0.heap.size b li [] W) ∧ Aside0 (li.length ≤ 0 + i * 10000) ∧ Aside0 (allC K x = orC (listC (structC K) (x.f0.drop i)) (orC (listC enumC x.f1) (orC (listC (serviceC K) x.f2) 0))) ∧ Aside0 (KpB b w1 W) ∧ Aside0 (Below w0.heap.size w1 W)) (fun v _ => n1 - (intOf v).toNat)
  case atStart => exact ⟨0, [], by omega, rfl, HB1, ⟨by simp⟩, ⟨rfl⟩, ⟨KpB.refl _ _⟩, ⟨Below.refl _ _⟩⟩
  case round =>
    obtain ⟨i, li, ile, rfl, HBi, HLi, HCi, HKi, HWi⟩ := hrel
    by_cases hlt : i < n1
    · have nlt : i < x.f0.length := by rw [← HN.out.1]; exact hlt
      obtain ⟨ad, eA⟩ := C_at HX.out.1 (by omega)
      subst eA
      obtain ⟨ad', AF, cF, e, a0, a1, lF, CF⟩ := at_T47 HX.out.1 (i : Int) (by omega) (by omega)
      cases e
      rw [Int.toNat_natCast] at a0 a1
      replace a0 := cellB (H01.out.trans HWi.out) rfl a0
      replace a1 := cellB (H01.out.trans HWi.out) rfl a1
      have HS := Aside0.mk (fun f hf => HOK.out.1 (rd_T47 x.f0 i) (rd_mem x.f0 i nlt) f hf)
      have HTF := Aside0.mk (listC_drop (structC K) z47 x.f0 i nlt)
      obtain ⟨s, hs⟩ : ∃ s, s = rd_T47 x.f0 (i : Int) := ⟨_, rfl⟩
      have hsz : x.f0.getD i z47 = s := by rw [hs]; simp [rd_T47, rdOf]
      rw [hsz] at HTF
      rw [← hs] at a0 a1 lF CF HS
      have HD := Aside0.mk (show allC K x = orC (manyC s.f1.length) (orC (nameC s.f0) (orC (listC (fieldC K) s.f1) (orC (listC (structC K) (x.f0.drop (i + 1))) (orC (listC enumC x.f1) (orC (listC (serviceC K) x.f2) 0))))) by rw [HCi.out, HTF.out]; unfold structC; simp only [orC_assoc])
      have CFF := Aside0.mk CF
      have sl := CF.2.1
      clear hs hsz CF nlt lF HTF
      obtain ⟨m, hm⟩ : ∃ m, m = s.f1.length := ⟨_, rfl⟩
      have HMM := Aside0.mk hm
      rw [← hm] at a1 sl HD
      clear hm
      go_wp2_with (first | ((with_reducible refine gate_dst (N := 5) rfl ?_); refine box_event ?hg (N := 5) ?hd (cs := #[.string ⟨#[]⟩, .slice none 0 0]) (t := 47) ?hr ?_; (case hd => rfl); (case hg => rfl); (case hr => first | (go_simp; done) | (go_simp; rfl)); intro g5 hg_ w3 hbox hb; have BX := Aside0.mk hbox; have HW3 := Aside0.mk hb; have HGX := Aside0.mk hg_; clear hbox hb hg_) | ((with_reducible refine gate_store (p := 5) rfl ?_); refine store_all rfl rfl 47 _ _ rfl #[.string s.f0, .slice AF m cF] rfl rfl BX.out rfl (by kernel_rfl) (by rfl) ?_; intro w4 h1 h2; have BX4 := Aside0.mk h1; have HW4 := Aside0.mk (below_ch HW3.out h2 HW3.out.size (fun k e => by rw [e, HGX.out]; exact Nat.le_refl _)); clear h1 h2; have x0 := zcell BX4.out 0 _ rfl; have x1 := zcell BX4.out 1 _ rfl))
      have hg5 : g5 ≠ b := by have := HGX.out; have := HBi.out.lt; omega
      have HB10 := Aside0.mk (HBi.out.below HW4.out)
      have HK10 := Aside0.mk (HKi.out.trans (KpB.of_below (b := b) HW4.out))
      have HW10 := Aside0.mk (HWi.out.trans (HW4.out.mono (Nat.le_trans HBB.out (Nat.le_of_lt HBi.out.lt))))
      obtain ⟨l10, hl⟩ : ∃ l_, l_ = li := ⟨_, rfl⟩
      rw [← hl] at HB10
      have hn64 : i < 64 := by have := HL.out; have := HN.out; omega
      have HL9 := Aside0.mk (show l10.length ≤ 0 + i * 10000 by rw [hl]; exact HLi.out)
      clear hl
      obtain ⟨w10, hw⟩ : ∃ w_, w_ = w4 := ⟨_, rfl⟩
      rw [← hw] at HB10 HK10 HW10 BX4
      subst hw
      have BK4 := BX4
      clear x0 x1 BX BX4
      by_cases hm32 : m ≤ 32
      · have hnm_ := HD.out
        rw [show manyC m = 0 from if_pos hm32, orC_zero] at hnm_
        have HD2 := Aside0.mk hnm_
        clear hnm_
        by_cases hnm : nameB s.f0 = true
        · have hnm_ := HD2.out
          rw [show nameC s.f0 = 0 from if_pos hnm, orC_zero] at hnm_
          have HD3 := Aside0.mk hnm_
          have HNS := Aside0.mk (name_short32 hnm)
          clear hnm_
          refine (pbegin.calls w0.heap.size b l10 ⟨#[115, 116, 114, 117, 99, 116]⟩ s.f0 m w10 HB10.out HBB.out hnm hm32 (by have := HL9.out; have := HNS.out; show l10.length + 6 + s.f0.size + 10 ≤ _; omega)).mono ?_
          rintro e w11 h4
          have hk9 := h4.2.2.1
          have h5 := Wrote.then (HK10.out) (HW10.out) h4
          clear h4
          obtain ⟨rfl, hb_, hk_, hw_⟩ := h5
          have HB11 := Aside0.mk hb_
          have HK11 := Aside0.mk hk_
          have HW11 := Aside0.mk hw_
          clear hb_ hk_ hw_ HK10 HW10
          have HL11 := Aside0.mk (show (l10 ++ beginL ⟨#[115, 116, 114, 117, 99, 116]⟩ s.f0).length = l10.length + (6 + 1 + s.f0.size + 3) by rw [List.length_append]; unfold beginL; rw [List.length_append, List.length_append, List.length_append, sz_list]; rfl)
          obtain ⟨l11, hl⟩ : ∃ l_, l_ = l10 ++ beginL ⟨#[115, 116, 114, 117, 99, 116]⟩ s.f0 := ⟨_, rfl⟩
          rw [← hl] at HB11 HL11
          have HE11 := Aside0.mk hl
          clear hl
          have BK5 := Aside0.mk (hk9.keep _ _ _ _ BK4.out hg5 (by decide))
          clear hk9 BK4
          have HLb := Aside0.mk (show l11.length ≤ 0 + i * 10000 + 100 by have := HL11.out; have := HL9.out; have := HNS.out; omega)
          have y1 := zcell BK5.out 1 _ rfl
          go_wp2_with fail
          clear y1
          obtain ⟨wo, hwo⟩ : ∃ wo : World, wo = wr := ⟨_, rfl⟩
          subst hwo
          go_loopw [33] (fun v_ W => ∃ (j : Nat) (lj : List UInt8), j ≤ m ∧ v_ = .int .i64 (j : Int) ∧ Aside0 (Bld 108 w0.heap.size b lj [] W) ∧ Aside0 (lj.length ≤ 0 + i * 10000 + 100 + j * 250) ∧ Aside0 (allC K x = orC (listC (fieldC K) (s.f1.drop j)) (orC (listC (structC K) (x.f0.drop (i + 1))) (orC (listC enumC x.f1) (orC (listC (serviceC K) x.f2) 0)))) ∧ Aside0 (KpB b w11 W) ∧ Aside0 (Below w0.heap.size w11 W)) (fun v _ => m - (intOf v).toNat)
          case atStart => exact ⟨0, l11, by omega, rfl, HB11, ⟨by have := HLb.out; omega⟩, ⟨by rw [List.drop_zero]; exact HD3.out⟩, ⟨KpB.refl _ _⟩, ⟨Below.refl _ _⟩⟩
          case round =>
            obtain ⟨j, lj, jle, rfl, HBj, HLj, HCj, HKj, HWj⟩ := hrel
            by_cases hjt : j < m
            · have mlt : j < s.f1.length := by rw [← HMM.out]; exact hjt
              have H02 := Aside0.mk (H01.out.trans (HW11.out.trans HWj.out))
              obtain ⟨aq, eA⟩ := C_at CFF.out (by omega)
              subst eA
              obtain ⟨aq', AT, cT, e, p0, p1, p2, p3, p4, lT, CT⟩ := at_T52 CFF.out (j : Int) (by omega) (by omega)
              cases e
              rw [Int.toNat_natCast] at p0 p1 p2 p3 p4
              replace p0 := cellB H02.out rfl p0
              replace p1 := cellB H02.out rfl p1
              replace p2 := cellB H02.out rfl p2
              replace p3 := cellB H02.out rfl p3
              replace p4 := cellB H02.out rfl p4
              have HFO := Aside0.mk (HS.out (rd_T52 s.f1 j) (rd_mem s.f1 j mlt))
              have HTG := Aside0.mk (listC_drop (fieldC K) z52 s.f1 j mlt)
              obtain ⟨f, hf⟩ : ∃ f, f = rd_T52 s.f1 (j : Int) := ⟨_, rfl⟩
              have hfz : s.f1.getD j z52 = f := by rw [hf]; simp [rd_T52, rdOf]
              rw [hfz] at HTG
              rw [← hf] at p0 p1 p2 p3 p4 HFO  lT CT
              have HE := Aside0.mk (show allC K x = orC (numC f.f1) (orC (nameC f.f0) (orC (tyC K f.f2) (orC (listC (fieldC K) (s.f1.drop (j + 1))) (orC (listC (structC K) (x.f0.drop (i + 1))) (orC (listC enumC x.f1) (orC (listC (serviceC K) x.f2) 0)))))) by rw [HCj.out, HTG.out]; unfold fieldC; simp only [orC_assoc])
              clear hf hfz mlt HTG
              obtain ⟨kt, hS, hWd⟩ := HFO.out
              have HSS := Aside0.mk hS
              have HWD := Aside0.mk hWd
              have HCT := Aside0.mk CT
              have HLT := Aside0.mk lT
              obtain ⟨nT, hnT⟩ : ∃ n, n = f.f2.f2.length := ⟨_, rfl⟩
              have HNT := Aside0.mk hnT
              rw [← hnT] at p4
              clear hS hWd CT lT hnT HFO
              go_wp2_with (first | ((with_reducible refine gate_dst (N := 7) rfl ?_); refine box_event ?hg (N := 7) ?hd (cs := #[.string ⟨#[]⟩, .int .i64 0, .int .i64 0, .string ⟨#[]⟩, .slice none 0 0]) (t := 52) ?hr ?_; (case hd => rfl); (case hg => rfl); (case hr => first | (go_simp; done) | (go_simp; rfl)); intro g7 hg_ w3 hbox hb; have BX := Aside0.mk hbox; have HW3 := Aside0.mk hb; have HGX := Aside0.mk hg_; clear hbox hb hg_) | ((with_reducible refine gate_store (p := 7) rfl ?_); refine store_all rfl rfl 52 _ _ rfl #[.string f.f0, .int .i64 f.f1, .int .i64 f.f2.f0, .string f.f2.f1, .slice AT nT cT] rfl rfl BX.out rfl (by kernel_rfl) (by rfl) ?_; intro w6 h1 h2; have BX4 := Aside0.mk h1; have HW4 := Aside0.mk (below_ch HW3.out h2 HW3.out.size (fun k e => by rw [e, HGX.out]; exact Nat.le_refl _)); clear h1 h2; have x0 := zcell BX4.out 0 _ rfl; have x1 := zcell BX4.out 1 _ rfl))
              clear x0 x1
              have hg7 : g7 ≠ b := by have := HGX.out; have := HBj.out.lt; omega
              have HB20 := Aside0.mk (HBj.out.below HW4.out)
              have HKM20 := Aside0.mk (HKj.out.trans (KpB.of_below (b := b) HW4.out))
              have HK20 := Aside0.mk (HK11.out.trans HKM20.out)
              have HWM20 := Aside0.mk (HWj.out.trans (HW4.out.mono (Nat.le_trans HBB.out (Nat.le_of_lt HBj.out.lt))))
              have HW20 := Aside0.mk (HW11.out.trans HWM20.out)
              obtain ⟨l20, hl⟩ : ∃ l_, l_ = lj := ⟨_, rfl⟩
              rw [← hl] at HB20
              have HL29 := Aside0.mk (show l20.length ≤ 0 + i * 10000 + 100 + j * 250 by rw [hl]; exact HLj.out)
              have HL28 := Aside0.mk (show l20.length + 1000 ≤ 10000000 by have := HL29.out; omega)
              clear hl
              obtain ⟨w20, hw⟩ : ∃ w_, w_ = w6 := ⟨_, rfl⟩
              rw [← hw] at HB20 HK20 HW20 BX4
              subst hw
              have BJ20 := BX4
              clear BX BX4
              by_cases hnum : 0 ≤ f.f1 ∧ f.f1 ≤ 999999999
              · have hq_ := HE.out
                rw [show numC f.f1 = 0 from if_pos hnum, orC_zero] at hq_
                have HE2 := Aside0.mk hq_
                clear hq_
                obtain ⟨q, hq⟩ : ∃ q : Nat, f.f1 = (q : Int) := ⟨f.f1.toNat, by omega⟩
                have HQ := Aside0.mk (show q ≤ 999999999 by omega)
                rw [hq]
                clear hnum hq
                by_cases hfn : nameB f.f0 = true
                · have hq_ := HE2.out
                  rw [show nameC f.f0 = 0 from if_pos hfn, orC_zero] at hq_
                  have HE3 := Aside0.mk hq_
                  clear hq_
                  have HNF := Aside0.mk (name_short32 hfn)
                  refine (ppart.calls w0.heap.size b l20 q f.f0 w20 HB20.out HBB.out HQ.out hfn (by have := HL28.out; have := HNF.out; omega)).mono ?_
                  rintro e w21 h4
                  have hk9 := h4.2.2.1
                  have HKM21 := Aside0.mk (HKM20.out.trans h4.2.2.1)
                  have HWM21 := Aside0.mk (HWM20.out.trans h4.2.2.2)
                  have h5 := Wrote.then (HK20.out) (HW20.out) h4
                  clear h4
                  obtain ⟨rfl, hb_, hk_, hw_⟩ := h5
                  have HB21 := Aside0.mk hb_
                  have HK21 := Aside0.mk hk_
                  have HW21 := Aside0.mk hw_
                  clear hb_ hk_ hw_ HK20 HW20
                  have HL21 := Aside0.mk (show (l20 ++ partL q f.f0).length ≤ l20.length + 44 by rw [List.length_append]; have := partL_len q HQ.out f.f0; have := HNF.out; omega)
                  obtain ⟨l21, hl⟩ : ∃ l_, l_ = l20 ++ partL q f.f0 := ⟨_, rfl⟩
                  rw [← hl] at HB21 HL21
                  clear hl
                  have BJ21 := Aside0.mk (hk9.keep _ _ _ _ BJ20.out hg7 (by decide))
                  clear hk9 BJ20
                  go_wp2_with fail
                  go_at_call 70
                  have HT := Aside0.mk (lits_new w0.heap.size b w21.heap.size l21 [⟨#[58, 32]⟩] w21 HB21.out HBB.out rfl (show 1 ≤ 9 by decide) (by
                    have := HL28.out; have := HNF.out; have := HL21.out; 
                    have e : (catL [⟨#[58, 32]⟩]).length = 2 := rfl
                    rw [e]; omega))
                  refine (show Calls Try.prog 70 #[.pointer (some ⟨b, 0, none⟩), .slice (some ⟨w21.heap.size, 0, none⟩) 1 1] _ _ from HT.out).mono ?_
                  rintro e w22 h4
                  have hk9 := h4.2.2.1
                  have HKM22 := Aside0.mk (HKM21.out.trans h4.2.2.1)
                  have HWM22 := Aside0.mk (HWM21.out.trans h4.2.2.2)
                  have h5 := Wrote.then (HK21.out) (HW21.out) h4
                  clear h4
                  obtain ⟨rfl, hb_, hk_, hw_⟩ := h5
                  clear HT
                  have HB22 := Aside0.mk hb_
                  have HK22 := Aside0.mk hk_
                  have HW22 := Aside0.mk hw_
                  clear hb_ hk_ hw_ HK21 HW21
                  have HL22 := Aside0.mk (show (l21 ++ catL [⟨#[58, 32]⟩]).length = l21.length + 2 by rw [List.length_append]; rfl)
                  obtain ⟨l22, hl⟩ : ∃ l_, l_ = l21 ++ catL [⟨#[58, 32]⟩] := ⟨_, rfl⟩
                  rw [← hl] at HB22 HL22
                  have HE22 := Aside0.mk hl
                  clear hl
                  have BJ22 := Aside0.mk (hk9.keep _ _ _ _ BJ21.out hg7 (by decide))
                  clear hk9 BJ21
                  have hcell2 := zcell (BJ22.out) 2 _ rfl
                  have hcell3 := zcell (BJ22.out) 3 _ rfl
                  have hcell4 := zcell (BJ22.out) 4 _ rfl
                  go_wp2_with fail
                  clear hcell2 hcell3 hcell4
                  go_at_call 71
                  by_cases hkt : kt = 0
                  · subst hkt
                    obtain ⟨sw, hW, hsw⟩ := HWD.out rfl
                    have HSW := Aside0.mk hsw
                    have hq_ := HE3.out
                    rw [show tyC K f.f2 = 0 from by unfold tyC; rw [HSS.out]; rfl, orC_zero] at hq_
                    have HE4 := Aside0.mk hq_
                    clear hq_ hsw
                    refine (show Calls Try.prog 71 #[.pointer (some ⟨b, 0, none⟩), .agg #[.int .i64 f.f2.f0, .string f.f2.f1, .slice AT nT cT]] w22 _ from HNT.out ▸ ptyped.calls K w0.heap.size b l22 f.f2 sw AT cT w22 HB22.out HBB.out (pF_from k50_heap HCT.out (H01.out.trans HW22.out)) HLT.out HSS.out hW (by have := HL28.out; have := HL21.out; have := HL22.out; have := HSW.out; omega)).mono ?_
                    rintro e w23 h4
                    have hk9 := h4.2.2.1
                    have HKM23 := Aside0.mk (HKM22.out.trans h4.2.2.1)
                    have HWM23 := Aside0.mk (HWM22.out.trans h4.2.2.2)
                    have h5 := Wrote.then (HK22.out) (HW22.out) h4
                    clear h4
                    obtain ⟨rfl, hb_, hk_, hw_⟩ := h5
                    have HB23 := Aside0.mk hb_
                    have HK23 := Aside0.mk hk_
                    have HW23 := Aside0.mk hw_
                    clear hb_ hk_ hw_ HK22 HW22
                    have HL23 := Aside0.mk (show (l22 ++ sw.data.toList).length = l22.length + sw.size by rw [List.length_append]; rw [sz_list])
                    obtain ⟨l23, hl⟩ : ∃ l_, l_ = l22 ++ sw.data.toList := ⟨_, rfl⟩
                    rw [← hl] at HB23 HL23
                    have HE23 := Aside0.mk hl
                    clear hl
                    have BJ23 := Aside0.mk (hk9.keep _ _ _ _ BJ22.out hg7 (by decide))
                    clear hk9 BJ22
                    clear hW
                    go_wp2_with fail
                    go_at_call 70
                    have HT := Aside0.mk (lits_new w0.heap.size b w23.heap.size l23 [⟨#[59, 10]⟩] w23 HB23.out HBB.out rfl (show 1 ≤ 9 by decide) (by
                      have := HL28.out; have := HNF.out; have := HSW.out; have := HL21.out; have := HL22.out; have := HL23.out; 
                      have e : (catL [⟨#[59, 10]⟩]).length = 2 := rfl
                      rw [e]; omega))
                    refine (show Calls Try.prog 70 #[.pointer (some ⟨b, 0, none⟩), .slice (some ⟨w23.heap.size, 0, none⟩) 1 1] _ _ from HT.out).mono ?_
                    rintro e w24 h4
                    have hk9 := h4.2.2.1
                    have HKM24 := Aside0.mk (HKM23.out.trans h4.2.2.1)
                    have HWM24 := Aside0.mk (HWM23.out.trans h4.2.2.2)
                    have h5 := Wrote.then (HK23.out) (HW23.out) h4
                    clear h4
                    obtain ⟨rfl, hb_, hk_, hw_⟩ := h5
                    clear HT
                    have HB24 := Aside0.mk hb_
                    have HK24 := Aside0.mk hk_
                    have HW24 := Aside0.mk hw_
                    clear hb_ hk_ hw_ HK23 HW23
                    have HL24 := Aside0.mk (show (l23 ++ catL [⟨#[59, 10]⟩]).length = l23.length + 2 by rw [List.length_append]; rfl)
                    obtain ⟨l24, hl⟩ : ∃ l_, l_ = l23 ++ catL [⟨#[59, 10]⟩] := ⟨_, rfl⟩
                    rw [← hl] at HB24 HL24
                    have HE24 := Aside0.mk hl
                    clear hl
                    clear hk9 BJ23
                    go_wp2_with fail
                    refine ⟨⟨j + 1, l24, by omega, by go_num, HB24, ⟨by have := HL28.out; have := HNF.out; have := HSW.out; have := HL21.out; have := HL22.out; have := HL23.out; have := HL24.out; have := HL29.out; omega⟩, ⟨HE4.out⟩, HKM24, HWM24⟩, ?_⟩
                    simp [intOf]; omega
                  · skip
                    refine (show Calls Try.prog 71 #[.pointer (some ⟨b, 0, none⟩), .agg #[.int .i64 f.f2.f0, .string f.f2.f1, .slice AT nT cT]] w22 _ from HNT.out ▸ ptyped_no.calls K w0.heap.size b f.f2 kt AT cT w22 (Nat.le_trans HBB.out (Nat.le_of_lt HB22.out.lt)) (pF_from k50_heap HCT.out (H01.out.trans HW22.out)) HLT.out HSS.out hkt).mono ?_
                    rintro e wz h4
                    have h5 := Stop.then (HK22.out) (HW22.out) h4
                    obtain ⟨rfl, h6, h7⟩ := h5
                    exact ⟨rfl, by rw [show allC K x = _ from by rw [HE3.out, show tyC K f.f2 = kt from by unfold tyC; rw [HSS.out]; rfl, orC_ne hkt]], HK1.out.trans h6, HWB.out.trans h7⟩
                · skip
                  refine (ppart_no.calls w0.heap.size b l20 q f.f0 w20 HB20.out HBB.out HQ.out (Bool.eq_false_iff.mpr hfn) (by have := HL28.out; omega)).mono ?_
                  rintro e wz h4
                  have h5 := Stop.then (HK20.out) (HW20.out) h4
                  obtain ⟨rfl, h6, h7⟩ := h5
                  exact ⟨rfl, by rw [show allC K x = _ from by rw [HE2.out, show nameC f.f0 = 31 from if_neg hfn, orC_ne (by decide)]], HK1.out.trans h6, HWB.out.trans h7⟩
              · skip
                refine (ppart_bad.calls w0.heap.size b l20 f.f1 f.f0 w20 HB20.out HBB.out hnum (by have := HL28.out; omega)).mono ?_
                rintro e wz h4
                have h5 := Stop.then (HK20.out) (HW20.out) h4
                obtain ⟨rfl, h6, h7⟩ := h5
                exact ⟨rfl, by rw [show allC K x = _ from by rw [HE.out, show numC f.f1 = 4 from if_neg hnum, orC_ne (by decide)]], HK1.out.trans h6, HWB.out.trans h7⟩
            · obtain rfl : j = m := by omega
              have HB30 := HBj
              have HK30 := Aside0.mk (HK11.out.trans HKj.out)
              have HW30 := Aside0.mk (HW11.out.trans HWj.out)
              obtain ⟨w30, hw⟩ : ∃ w_, w_ = wr := ⟨_, rfl⟩
              rw [← hw] at HB30 HK30 HW30
              obtain ⟨l30, hl⟩ : ∃ l_, l_ = lj := ⟨_, rfl⟩
              rw [← hl] at HB30
              have HL29 := Aside0.mk (show l30.length ≤ 0 + i * 10000 + 100 + j * 250 by rw [hl]; exact HLj.out)
              have HL28 := Aside0.mk (show l30.length + 1000 ≤ 10000000 by have := HL29.out; omega)
              have hq_ := HCj.out
              rw [List.drop_eq_nil_of_le (by rw [HMM.out]; exact Nat.le_refl _)] at hq_
              have HC30 := Aside0.mk (show allC K x = orC (listC (structC K) (x.f0.drop (i + 1))) (orC (listC enumC x.f1) (orC (listC (serviceC K) x.f2) 0)) from hq_)
              clear hl hq_
              go_wp2_with fail
              rw [← hw]
              go_at_call 70
              have HT := Aside0.mk (lits_new w0.heap.size b w30.heap.size l30 [⟨#[125, 10]⟩] w30 HB30.out HBB.out rfl (show 1 ≤ 9 by decide) (by
                have := HL28.out; 
                have e : (catL [⟨#[125, 10]⟩]).length = 2 := rfl
                rw [e]; omega))
              refine (show Calls Try.prog 70 #[.pointer (some ⟨b, 0, none⟩), .slice (some ⟨w30.heap.size, 0, none⟩) 1 1] _ _ from HT.out).mono ?_
              rintro e w31 h4
              have hk9 := h4.2.2.1
              have h5 := Wrote.then (HK30.out) (HW30.out) h4
              clear h4
              obtain ⟨rfl, hb_, hk_, hw_⟩ := h5
              clear HT
              have HB31 := Aside0.mk hb_
              have HK31 := Aside0.mk hk_
              have HW31 := Aside0.mk hw_
              clear hb_ hk_ hw_ HK30 HW30
              have HL31 := Aside0.mk (show (l30 ++ catL [⟨#[125, 10]⟩]).length = l30.length + 2 by rw [List.length_append]; rfl)
              obtain ⟨l31, hl⟩ : ∃ l_, l_ = l30 ++ catL [⟨#[125, 10]⟩] := ⟨_, rfl⟩
              rw [← hl] at HB31 HL31
              have HE31 := Aside0.mk hl
              clear hl
              clear hk9
              go_wp2_with fail
              refine ⟨⟨i + 1, l31, by omega, by go_num, HB31, ⟨by have := HL31.out; have := HL29.out; omega⟩, HC30, HK31, HW31⟩, ?_⟩
              simp [intOf]; omega
        · skip
          refine (pbegin_no.calls w0.heap.size b l10 ⟨#[115, 116, 114, 117, 99, 116]⟩ s.f0 m w10 HB10.out HBB.out (Bool.eq_false_iff.mpr hnm) hm32 (by have := HL9.out; show l10.length + 6 + 10 ≤ _; omega)).mono ?_
          rintro e wz h4
          have h5 := Stop.then (HK10.out) (HW10.out) h4
          obtain ⟨rfl, h6, h7⟩ := h5
          exact ⟨rfl, by rw [show allC K x = _ from by rw [HD2.out, show nameC s.f0 = 31 from if_neg hnm, orC_ne (by decide)]], HK1.out.trans h6, HWB.out.trans h7⟩
      · skip
        refine (pbegin_many.calls w0.heap.size b ⟨#[115, 116, 114, 117, 99, 116]⟩ s.f0 m w10 hm32).mono ?_
        rintro e wz h4
        have h5 := Stop.then (HK10.out) (HW10.out) h4
        obtain ⟨rfl, h6, h7⟩ := h5
        exact ⟨rfl, by rw [show allC K x = _ from by rw [HD.out, show manyC m = 3 from if_neg hm32, orC_ne (by decide)]], HK1.out.trans h6, HWB.out.trans h7⟩
    · obtain rfl : i = n1 := by omega
      have hq_ := HCi.out
      rw [List.drop_eq_nil_of_le (by rw [HN.out.1]; exact Nat.le_refl _)] at hq_
      have HCs := Aside0.mk (show allC K x = (orC (listC enumC x.f1) (orC (listC (serviceC K) x.f2) 0)) from hq_)
      clear hq_
      have z1 := zcell (HKi.out.keep _ _ _ _ K1.out hgb (by decide)) 1 _ rfl
      have HKs := HKi
      have HWs := HWi
      have HBs := HBi
      have HLs := Aside0.mk (show li.length ≤ 640000 by have := HLi.out; have := HL.out; have := HN.out; omega)
      go_wp2_with fail
      clear z1
      obtain ⟨ws0, hws⟩ : ∃ ws_ : World, ws_ = wr := ⟨_, rfl⟩
      subst hws
      go_loopw [61] (fun v_ W => ∃ (i : Nat) (li : List UInt8), i ≤ n2 ∧ v_ = .int .i64 (i : Int) ∧ Aside0 (Bld 108 w0.heap.size b li [] W) ∧ Aside0 (li.length ≤ 640000 + i * 10000) ∧ Aside0 (allC K x = orC (listC enumC (x.f1.drop i)) (orC (listC (serviceC K) x.f2) 0)) ∧ Aside0 (KpB b w1 W) ∧ Aside0 (Below w0.heap.size w1 W)) (fun v _ => n2 - (intOf v).toNat)
      case atStart => exact ⟨0, li, by omega, rfl, HBs, ⟨by have := HLs.out; omega⟩, ⟨by rw [List.drop_zero]; exact HCs.out⟩, HKs, HWs⟩
      case round =>
        obtain ⟨i, li, ile, rfl, HBi, HLi, HCi, HKi, HWi⟩ := hrel
        by_cases hlt : i < n2
        · have nlt : i < x.f1.length := by rw [← HN.out.2.1]; exact hlt
          obtain ⟨ad, eA⟩ := C_at HX.out.2.1 (by omega)
          subst eA
          obtain ⟨ad', AF, cF, e, a0, a1, lF, CF⟩ := at_T86 HX.out.2.1 (i : Int) (by omega) (by omega)
          cases e
          rw [Int.toNat_natCast] at a0 a1
          replace a0 := cellB (H01.out.trans HWi.out) rfl a0
          replace a1 := cellB (H01.out.trans HWi.out) rfl a1
          have HS : Aside0 True := ⟨trivial⟩
          have HTF := Aside0.mk (listC_drop enumC z86 x.f1 i nlt)
          obtain ⟨s, hs⟩ : ∃ s, s = rd_T86 x.f1 (i : Int) := ⟨_, rfl⟩
          have hsz : x.f1.getD i z86 = s := by rw [hs]; simp [rd_T86, rdOf]
          rw [hsz] at HTF
          rw [← hs] at a0 a1 lF CF
          have HD := Aside0.mk (show allC K x = orC (manyC s.f1.length) (orC (nameC s.f0) (orC (listC memberC s.f1) (orC (listC enumC (x.f1.drop (i + 1))) (orC (listC (serviceC K) x.f2) 0)))) by rw [HCi.out, HTF.out]; unfold enumC; simp only [orC_assoc])
          have CFF := Aside0.mk CF
          have sl := CF.2.1
          clear hs hsz CF nlt lF HTF
          obtain ⟨m, hm⟩ : ∃ m, m = s.f1.length := ⟨_, rfl⟩
          have HMM := Aside0.mk hm
          rw [← hm] at a1 sl HD
          clear hm
          go_wp2_with (first | ((with_reducible refine gate_dst (N := 9) rfl ?_); refine box_event ?hg (N := 9) ?hd (cs := #[.string ⟨#[]⟩, .slice none 0 0]) (t := 86) ?hr ?_; (case hd => rfl); (case hg => rfl); (case hr => first | (go_simp; done) | (go_simp; rfl)); intro g5 hg_ w3 hbox hb; have BX := Aside0.mk hbox; have HW3 := Aside0.mk hb; have HGX := Aside0.mk hg_; clear hbox hb hg_) | ((with_reducible refine gate_store (p := 9) rfl ?_); refine store_all rfl rfl 86 _ _ rfl #[.string s.f0, .slice AF m cF] rfl rfl BX.out rfl (by kernel_rfl) (by rfl) ?_; intro w4 h1 h2; have BX4 := Aside0.mk h1; have HW4 := Aside0.mk (below_ch HW3.out h2 HW3.out.size (fun k e => by rw [e, HGX.out]; exact Nat.le_refl _)); clear h1 h2; have x0 := zcell BX4.out 0 _ rfl; have x1 := zcell BX4.out 1 _ rfl))
          have hg5 : g5 ≠ b := by have := HGX.out; have := HBi.out.lt; omega
          have HB10 := Aside0.mk (HBi.out.below HW4.out)
          have HK10 := Aside0.mk (HKi.out.trans (KpB.of_below (b := b) HW4.out))
          have HW10 := Aside0.mk (HWi.out.trans (HW4.out.mono (Nat.le_trans HBB.out (Nat.le_of_lt HBi.out.lt))))
          obtain ⟨l10, hl⟩ : ∃ l_, l_ = li := ⟨_, rfl⟩
          rw [← hl] at HB10
          have hn64 : i < 64 := by have := HL.out; have := HN.out; omega
          have HL9 := Aside0.mk (show l10.length ≤ 640000 + i * 10000 by rw [hl]; exact HLi.out)
          clear hl
          obtain ⟨w10, hw⟩ : ∃ w_, w_ = w4 := ⟨_, rfl⟩
          rw [← hw] at HB10 HK10 HW10 BX4
          subst hw
          have BK4 := BX4
          clear x0 x1 BX BX4
          by_cases hm32 : m ≤ 32
          · have hnm_ := HD.out
            rw [show manyC m = 0 from if_pos hm32, orC_zero] at hnm_
            have HD2 := Aside0.mk hnm_
            clear hnm_
            by_cases hnm : nameB s.f0 = true
            · have hnm_ := HD2.out
              rw [show nameC s.f0 = 0 from if_pos hnm, orC_zero] at hnm_
              have HD3 := Aside0.mk hnm_
              have HNS := Aside0.mk (name_short32 hnm)
              clear hnm_
              refine (pbegin.calls w0.heap.size b l10 ⟨#[101, 110, 117, 109]⟩ s.f0 m w10 HB10.out HBB.out hnm hm32 (by have := HL9.out; have := HNS.out; show l10.length + 4 + s.f0.size + 10 ≤ _; omega)).mono ?_
              rintro e w11 h4
              have hk9 := h4.2.2.1
              have h5 := Wrote.then (HK10.out) (HW10.out) h4
              clear h4
              obtain ⟨rfl, hb_, hk_, hw_⟩ := h5
              have HB11 := Aside0.mk hb_
              have HK11 := Aside0.mk hk_
              have HW11 := Aside0.mk hw_
              clear hb_ hk_ hw_ HK10 HW10
              have HL11 := Aside0.mk (show (l10 ++ beginL ⟨#[101, 110, 117, 109]⟩ s.f0).length = l10.length + (4 + 1 + s.f0.size + 3) by rw [List.length_append]; unfold beginL; rw [List.length_append, List.length_append, List.length_append, sz_list]; rfl)
              obtain ⟨l11, hl⟩ : ∃ l_, l_ = l10 ++ beginL ⟨#[101, 110, 117, 109]⟩ s.f0 := ⟨_, rfl⟩
              rw [← hl] at HB11 HL11
              have HE11 := Aside0.mk hl
              clear hl
              have BK5 := Aside0.mk (hk9.keep _ _ _ _ BK4.out hg5 (by decide))
              clear hk9 BK4
              have HLb := Aside0.mk (show l11.length ≤ 640000 + i * 10000 + 100 by have := HL11.out; have := HL9.out; have := HNS.out; omega)
              have y1 := zcell BK5.out 1 _ rfl
              go_wp2_with fail
              clear y1
              obtain ⟨wo, hwo⟩ : ∃ wo : World, wo = wr := ⟨_, rfl⟩
              subst hwo
              go_loopw [75] (fun v_ W => ∃ (j : Nat) (lj : List UInt8), j ≤ m ∧ v_ = .int .i64 (j : Int) ∧ Aside0 (Bld 108 w0.heap.size b lj [] W) ∧ Aside0 (lj.length ≤ 640000 + i * 10000 + 100 + j * 250) ∧ Aside0 (allC K x = orC (listC memberC (s.f1.drop j)) (orC (listC enumC (x.f1.drop (i + 1))) (orC (listC (serviceC K) x.f2) 0))) ∧ Aside0 (KpB b w11 W) ∧ Aside0 (Below w0.heap.size w11 W)) (fun v _ => m - (intOf v).toNat)
              case atStart => exact ⟨0, l11, by omega, rfl, HB11, ⟨by have := HLb.out; omega⟩, ⟨by rw [List.drop_zero]; exact HD3.out⟩, ⟨KpB.refl _ _⟩, ⟨Below.refl _ _⟩⟩
              case round =>
                obtain ⟨j, lj, jle, rfl, HBj, HLj, HCj, HKj, HWj⟩ := hrel
                by_cases hjt : j < m
                · have mlt : j < s.f1.length := by rw [← HMM.out]; exact hjt
                  have H02 := Aside0.mk (H01.out.trans (HW11.out.trans HWj.out))
                  obtain ⟨aq, eA⟩ := C_at CFF.out (by omega)
                  subst eA
                  obtain ⟨aq', e, p0, p1⟩ := at_T88 CFF.out (j : Int) (by omega) (by omega)
                  cases e
                  rw [Int.toNat_natCast] at p0 p1
                  replace p0 := cellB H02.out rfl p0
                  replace p1 := cellB H02.out rfl p1
                  have HTG := Aside0.mk (listC_drop memberC z88 s.f1 j mlt)
                  obtain ⟨f, hf⟩ : ∃ f, f = rd_T88 s.f1 (j : Int) := ⟨_, rfl⟩
                  have hfz : s.f1.getD j z88 = f := by rw [hf]; simp [rd_T88, rdOf]
                  rw [hfz] at HTG
                  rw [← hf] at p0 p1
                  have HE := Aside0.mk (show allC K x = orC (numC f.f1) (orC (nameC f.f0) (orC (listC memberC (s.f1.drop (j + 1))) (orC (listC enumC (x.f1.drop (i + 1))) (orC (listC (serviceC K) x.f2) 0)))) by rw [HCj.out, HTG.out]; unfold memberC; simp only [orC_assoc])
                  clear hf hfz mlt HTG
                  go_wp2_with (first | ((with_reducible refine gate_dst (N := 11) rfl ?_); refine box_event ?hg (N := 11) ?hd (cs := #[.string ⟨#[]⟩, .int .i64 0]) (t := 88) ?hr ?_; (case hd => rfl); (case hg => rfl); (case hr => first | (go_simp; done) | (go_simp; rfl)); intro g7 hg_ w3 hbox hb; have BX := Aside0.mk hbox; have HW3 := Aside0.mk hb; have HGX := Aside0.mk hg_; clear hbox hb hg_) | ((with_reducible refine gate_store (p := 11) rfl ?_); refine store_all rfl rfl 88 _ _ rfl #[.string f.f0, .int .i64 f.f1] rfl rfl BX.out rfl (by kernel_rfl) (by rfl) ?_; intro w6 h1 h2; have BX4 := Aside0.mk h1; have HW4 := Aside0.mk (below_ch HW3.out h2 HW3.out.size (fun k e => by rw [e, HGX.out]; exact Nat.le_refl _)); clear h1 h2; have x0 := zcell BX4.out 0 _ rfl; have x1 := zcell BX4.out 1 _ rfl))
                  clear x0 x1
                  have hg7 : g7 ≠ b := by have := HGX.out; have := HBj.out.lt; omega
                  have HB20 := Aside0.mk (HBj.out.below HW4.out)
                  have HKM20 := Aside0.mk (HKj.out.trans (KpB.of_below (b := b) HW4.out))
                  have HK20 := Aside0.mk (HK11.out.trans HKM20.out)
                  have HWM20 := Aside0.mk (HWj.out.trans (HW4.out.mono (Nat.le_trans HBB.out (Nat.le_of_lt HBj.out.lt))))
                  have HW20 := Aside0.mk (HW11.out.trans HWM20.out)
                  obtain ⟨l20, hl⟩ : ∃ l_, l_ = lj := ⟨_, rfl⟩
                  rw [← hl] at HB20
                  have HL29 := Aside0.mk (show l20.length ≤ 640000 + i * 10000 + 100 + j * 250 by rw [hl]; exact HLj.out)
                  have HL28 := Aside0.mk (show l20.length + 1000 ≤ 10000000 by have := HL29.out; omega)
                  clear hl
                  obtain ⟨w20, hw⟩ : ∃ w_, w_ = w6 := ⟨_, rfl⟩
                  rw [← hw] at HB20 HK20 HW20 BX4
                  subst hw
                  have BJ20 := BX4
                  clear BX BX4
                  by_cases hnum : 0 ≤ f.f1 ∧ f.f1 ≤ 999999999
                  · have hq_ := HE.out
                    rw [show numC f.f1 = 0 from if_pos hnum, orC_zero] at hq_
                    have HE2 := Aside0.mk hq_
                    clear hq_
                    obtain ⟨q, hq⟩ : ∃ q : Nat, f.f1 = (q : Int) := ⟨f.f1.toNat, by omega⟩
                    have HQ := Aside0.mk (show q ≤ 999999999 by omega)
                    rw [hq]
                    clear hnum hq
                    by_cases hfn : nameB f.f0 = true
                    · have hq_ := HE2.out
                      rw [show nameC f.f0 = 0 from if_pos hfn, orC_zero] at hq_
                      have HE3 := Aside0.mk hq_
                      clear hq_
                      have HNF := Aside0.mk (name_short32 hfn)
                      refine (ppart.calls w0.heap.size b l20 q f.f0 w20 HB20.out HBB.out HQ.out hfn (by have := HL28.out; have := HNF.out; omega)).mono ?_
                      rintro e w21 h4
                      have hk9 := h4.2.2.1
                      have HKM21 := Aside0.mk (HKM20.out.trans h4.2.2.1)
                      have HWM21 := Aside0.mk (HWM20.out.trans h4.2.2.2)
                      have h5 := Wrote.then (HK20.out) (HW20.out) h4
                      clear h4
                      obtain ⟨rfl, hb_, hk_, hw_⟩ := h5
                      have HB21 := Aside0.mk hb_
                      have HK21 := Aside0.mk hk_
                      have HW21 := Aside0.mk hw_
                      clear hb_ hk_ hw_ HK20 HW20
                      have HL21 := Aside0.mk (show (l20 ++ partL q f.f0).length ≤ l20.length + 44 by rw [List.length_append]; have := partL_len q HQ.out f.f0; have := HNF.out; omega)
                      obtain ⟨l21, hl⟩ : ∃ l_, l_ = l20 ++ partL q f.f0 := ⟨_, rfl⟩
                      rw [← hl] at HB21 HL21
                      clear hl
                      have BJ21 := Aside0.mk (hk9.keep _ _ _ _ BJ20.out hg7 (by decide))
                      clear hk9 BJ20
                      go_wp2_with fail
                      go_at_call 70
                      have HT := Aside0.mk (lits_new w0.heap.size b w21.heap.size l21 [⟨#[59, 10]⟩] w21 HB21.out HBB.out rfl (show 1 ≤ 9 by decide) (by
                        have := HL28.out; have := HNF.out; have := HL21.out; 
                        have e : (catL [⟨#[59, 10]⟩]).length = 2 := rfl
                        rw [e]; omega))
                      refine (show Calls Try.prog 70 #[.pointer (some ⟨b, 0, none⟩), .slice (some ⟨w21.heap.size, 0, none⟩) 1 1] _ _ from HT.out).mono ?_
                      rintro e w22 h4
                      have hk9 := h4.2.2.1
                      have HKM22 := Aside0.mk (HKM21.out.trans h4.2.2.1)
                      have HWM22 := Aside0.mk (HWM21.out.trans h4.2.2.2)
                      have h5 := Wrote.then (HK21.out) (HW21.out) h4
                      clear h4
                      obtain ⟨rfl, hb_, hk_, hw_⟩ := h5
                      clear HT
                      have HB22 := Aside0.mk hb_
                      have HK22 := Aside0.mk hk_
                      have HW22 := Aside0.mk hw_
                      clear hb_ hk_ hw_ HK21 HW21
                      have HL22 := Aside0.mk (show (l21 ++ catL [⟨#[59, 10]⟩]).length = l21.length + 2 by rw [List.length_append]; rfl)
                      obtain ⟨l22, hl⟩ : ∃ l_, l_ = l21 ++ catL [⟨#[59, 10]⟩] := ⟨_, rfl⟩
                      rw [← hl] at HB22 HL22
                      have HE22 := Aside0.mk hl
                      clear hl
                      clear hk9 BJ21
                      go_wp2_with fail
                      refine ⟨⟨j + 1, l22, by omega, by go_num, HB22, ⟨by have := HL28.out; have := HNF.out; have := HL21.out; have := HL22.out; have := HL29.out; omega⟩, ⟨HE3.out⟩, HKM22, HWM22⟩, ?_⟩
                      simp [intOf]; omega
                    · skip
                      refine (ppart_no.calls w0.heap.size b l20 q f.f0 w20 HB20.out HBB.out HQ.out (Bool.eq_false_iff.mpr hfn) (by have := HL28.out; omega)).mono ?_
                      rintro e wz h4
                      have h5 := Stop.then (HK20.out) (HW20.out) h4
                      obtain ⟨rfl, h6, h7⟩ := h5
                      exact ⟨rfl, by rw [show allC K x = _ from by rw [HE2.out, show nameC f.f0 = 31 from if_neg hfn, orC_ne (by decide)]], HK1.out.trans h6, HWB.out.trans h7⟩
                  · skip
                    refine (ppart_bad.calls w0.heap.size b l20 f.f1 f.f0 w20 HB20.out HBB.out hnum (by have := HL28.out; omega)).mono ?_
                    rintro e wz h4
                    have h5 := Stop.then (HK20.out) (HW20.out) h4
                    obtain ⟨rfl, h6, h7⟩ := h5
                    exact ⟨rfl, by rw [show allC K x = _ from by rw [HE.out, show numC f.f1 = 4 from if_neg hnum, orC_ne (by decide)]], HK1.out.trans h6, HWB.out.trans h7⟩
                · obtain rfl : j = m := by omega
                  have HB30 := HBj
                  have HK30 := Aside0.mk (HK11.out.trans HKj.out)
                  have HW30 := Aside0.mk (HW11.out.trans HWj.out)
                  obtain ⟨w30, hw⟩ : ∃ w_, w_ = wr := ⟨_, rfl⟩
                  rw [← hw] at HB30 HK30 HW30
                  obtain ⟨l30, hl⟩ : ∃ l_, l_ = lj := ⟨_, rfl⟩
                  rw [← hl] at HB30
                  have HL29 := Aside0.mk (show l30.length ≤ 640000 + i * 10000 + 100 + j * 250 by rw [hl]; exact HLj.out)
                  have HL28 := Aside0.mk (show l30.length + 1000 ≤ 10000000 by have := HL29.out; omega)
                  have hq_ := HCj.out
                  rw [List.drop_eq_nil_of_le (by rw [HMM.out]; exact Nat.le_refl _)] at hq_
                  have HC30 := Aside0.mk (show allC K x = orC (listC enumC (x.f1.drop (i + 1))) (orC (listC (serviceC K) x.f2) 0) from hq_)
                  clear hl hq_
                  go_wp2_with fail
                  rw [← hw]
                  go_at_call 70
                  have HT := Aside0.mk (lits_new w0.heap.size b w30.heap.size l30 [⟨#[125, 10]⟩] w30 HB30.out HBB.out rfl (show 1 ≤ 9 by decide) (by
                    have := HL28.out; 
                    have e : (catL [⟨#[125, 10]⟩]).length = 2 := rfl
                    rw [e]; omega))
                  refine (show Calls Try.prog 70 #[.pointer (some ⟨b, 0, none⟩), .slice (some ⟨w30.heap.size, 0, none⟩) 1 1] _ _ from HT.out).mono ?_
                  rintro e w31 h4
                  have hk9 := h4.2.2.1
                  have h5 := Wrote.then (HK30.out) (HW30.out) h4
                  clear h4
                  obtain ⟨rfl, hb_, hk_, hw_⟩ := h5
                  clear HT
                  have HB31 := Aside0.mk hb_
                  have HK31 := Aside0.mk hk_
                  have HW31 := Aside0.mk hw_
                  clear hb_ hk_ hw_ HK30 HW30
                  have HL31 := Aside0.mk (show (l30 ++ catL [⟨#[125, 10]⟩]).length = l30.length + 2 by rw [List.length_append]; rfl)
                  obtain ⟨l31, hl⟩ : ∃ l_, l_ = l30 ++ catL [⟨#[125, 10]⟩] := ⟨_, rfl⟩
                  rw [← hl] at HB31 HL31
                  have HE31 := Aside0.mk hl
                  clear hl
                  clear hk9
                  go_wp2_with fail
                  refine ⟨⟨i + 1, l31, by omega, by go_num, HB31, ⟨by have := HL31.out; have := HL29.out; omega⟩, HC30, HK31, HW31⟩, ?_⟩
                  simp [intOf]; omega
            · skip
              refine (pbegin_no.calls w0.heap.size b l10 ⟨#[101, 110, 117, 109]⟩ s.f0 m w10 HB10.out HBB.out (Bool.eq_false_iff.mpr hnm) hm32 (by have := HL9.out; show l10.length + 4 + 10 ≤ _; omega)).mono ?_
              rintro e wz h4
              have h5 := Stop.then (HK10.out) (HW10.out) h4
              obtain ⟨rfl, h6, h7⟩ := h5
              exact ⟨rfl, by rw [show allC K x = _ from by rw [HD2.out, show nameC s.f0 = 31 from if_neg hnm, orC_ne (by decide)]], HK1.out.trans h6, HWB.out.trans h7⟩
          · skip
            refine (pbegin_many.calls w0.heap.size b ⟨#[101, 110, 117, 109]⟩ s.f0 m w10 hm32).mono ?_
            rintro e wz h4
            have h5 := Stop.then (HK10.out) (HW10.out) h4
            obtain ⟨rfl, h6, h7⟩ := h5
            exact ⟨rfl, by rw [show allC K x = _ from by rw [HD.out, show manyC m = 3 from if_neg hm32, orC_ne (by decide)]], HK1.out.trans h6, HWB.out.trans h7⟩
        · obtain rfl : i = n2 := by omega
          have hq_ := HCi.out
          rw [List.drop_eq_nil_of_le (by rw [HN.out.2.1]; exact Nat.le_refl _)] at hq_
          have HCs := Aside0.mk (show allC K x = (orC (listC (serviceC K) x.f2) 0) from hq_)
          clear hq_
          have z1 := zcell (HKi.out.keep _ _ _ _ K1.out hgb (by decide)) 2 _ rfl
          have HKs := HKi
          have HWs := HWi
          have HBs := HBi
          have HLs := Aside0.mk (show li.length ≤ 1280000 by have := HLi.out; have := HL.out; have := HN.out; omega)
          go_wp2_with fail
          clear z1
          obtain ⟨ws1, hws⟩ : ∃ ws_ : World, ws_ = wr := ⟨_, rfl⟩
          subst hws
          go_loopw [96] (fun v_ W => ∃ (i : Nat) (li : List UInt8), i ≤ n3 ∧ v_ = .int .i64 (i : Int) ∧ Aside0 (Bld 108 w0.heap.size b li [] W) ∧ Aside0 (li.length ≤ 1280000 + i * 10000) ∧ Aside0 (allC K x = orC (listC (serviceC K) (x.f2.drop i)) (0 : Int)) ∧ Aside0 (KpB b w1 W) ∧ Aside0 (Below w0.heap.size w1 W)) (fun v _ => n3 - (intOf v).toNat)
          case atStart => exact ⟨0, li, by omega, rfl, HBs, ⟨by have := HLs.out; omega⟩, ⟨by rw [List.drop_zero]; exact HCs.out⟩, HKs, HWs⟩
          case round =>
            obtain ⟨i, li, ile, rfl, HBi, HLi, HCi, HKi, HWi⟩ := hrel
            by_cases hlt : i < n3
            · have nlt : i < x.f2.length := by rw [← HN.out.2.2]; exact hlt
              obtain ⟨ad, eA⟩ := C_at HX.out.2.2 (by omega)
              subst eA
              obtain ⟨ad', AF, cF, e, a0, a1, lF, CF⟩ := at_T91 HX.out.2.2 (i : Int) (by omega) (by omega)
              cases e
              rw [Int.toNat_natCast] at a0 a1
              replace a0 := cellB (H01.out.trans HWi.out) rfl a0
              replace a1 := cellB (H01.out.trans HWi.out) rfl a1
              have HS := Aside0.mk (fun f hf => HOK.out.2 (rd_T91 x.f2 i) (rd_mem x.f2 i nlt) f hf)
              have HTF := Aside0.mk (listC_drop (serviceC K) z91 x.f2 i nlt)
              obtain ⟨s, hs⟩ : ∃ s, s = rd_T91 x.f2 (i : Int) := ⟨_, rfl⟩
              have hsz : x.f2.getD i z91 = s := by rw [hs]; simp [rd_T91, rdOf]
              rw [hsz] at HTF
              rw [← hs] at a0 a1 lF CF HS
              have HD := Aside0.mk (show allC K x = orC (manyC s.f1.length) (orC (nameC s.f0) (orC (listC (methodC K) s.f1) (orC (listC (serviceC K) (x.f2.drop (i + 1))) (0 : Int)))) by rw [HCi.out, HTF.out]; unfold serviceC; simp only [orC_assoc])
              have CFF := Aside0.mk CF
              have sl := CF.2.1
              clear hs hsz CF nlt lF HTF
              obtain ⟨m, hm⟩ : ∃ m, m = s.f1.length := ⟨_, rfl⟩
              have HMM := Aside0.mk hm
              rw [← hm] at a1 sl HD
              clear hm
              go_wp2_with (first | ((with_reducible refine gate_dst (N := 13) rfl ?_); refine box_event ?hg (N := 13) ?hd (cs := #[.string ⟨#[]⟩, .slice none 0 0]) (t := 91) ?hr ?_; (case hd => rfl); (case hg => rfl); (case hr => first | (go_simp; done) | (go_simp; rfl)); intro g5 hg_ w3 hbox hb; have BX := Aside0.mk hbox; have HW3 := Aside0.mk hb; have HGX := Aside0.mk hg_; clear hbox hb hg_) | ((with_reducible refine gate_store (p := 13) rfl ?_); refine store_all rfl rfl 91 _ _ rfl #[.string s.f0, .slice AF m cF] rfl rfl BX.out rfl (by kernel_rfl) (by rfl) ?_; intro w4 h1 h2; have BX4 := Aside0.mk h1; have HW4 := Aside0.mk (below_ch HW3.out h2 HW3.out.size (fun k e => by rw [e, HGX.out]; exact Nat.le_refl _)); clear h1 h2; have x0 := zcell BX4.out 0 _ rfl; have x1 := zcell BX4.out 1 _ rfl))
              have hg5 : g5 ≠ b := by have := HGX.out; have := HBi.out.lt; omega
              have HB10 := Aside0.mk (HBi.out.below HW4.out)
              have HK10 := Aside0.mk (HKi.out.trans (KpB.of_below (b := b) HW4.out))
              have HW10 := Aside0.mk (HWi.out.trans (HW4.out.mono (Nat.le_trans HBB.out (Nat.le_of_lt HBi.out.lt))))
              obtain ⟨l10, hl⟩ : ∃ l_, l_ = li := ⟨_, rfl⟩
              rw [← hl] at HB10
              have hn64 : i < 64 := by have := HL.out; have := HN.out; omega
              have HL9 := Aside0.mk (show l10.length ≤ 1280000 + i * 10000 by rw [hl]; exact HLi.out)
              clear hl
              obtain ⟨w10, hw⟩ : ∃ w_, w_ = w4 := ⟨_, rfl⟩
              rw [← hw] at HB10 HK10 HW10 BX4
              subst hw
              have BK4 := BX4
              clear x0 x1 BX BX4
              by_cases hm32 : m ≤ 32
              · have hnm_ := HD.out
                rw [show manyC m = 0 from if_pos hm32, orC_zero] at hnm_
                have HD2 := Aside0.mk hnm_
                clear hnm_
                by_cases hnm : nameB s.f0 = true
                · have hnm_ := HD2.out
                  rw [show nameC s.f0 = 0 from if_pos hnm, orC_zero] at hnm_
                  have HD3 := Aside0.mk hnm_
                  have HNS := Aside0.mk (name_short32 hnm)
                  clear hnm_
                  refine (pbegin.calls w0.heap.size b l10 ⟨#[115, 101, 114, 118, 105, 99, 101]⟩ s.f0 m w10 HB10.out HBB.out hnm hm32 (by have := HL9.out; have := HNS.out; show l10.length + 7 + s.f0.size + 10 ≤ _; omega)).mono ?_
                  rintro e w11 h4
                  have hk9 := h4.2.2.1
                  have h5 := Wrote.then (HK10.out) (HW10.out) h4
                  clear h4
                  obtain ⟨rfl, hb_, hk_, hw_⟩ := h5
                  have HB11 := Aside0.mk hb_
                  have HK11 := Aside0.mk hk_
                  have HW11 := Aside0.mk hw_
                  clear hb_ hk_ hw_ HK10 HW10
                  have HL11 := Aside0.mk (show (l10 ++ beginL ⟨#[115, 101, 114, 118, 105, 99, 101]⟩ s.f0).length = l10.length + (7 + 1 + s.f0.size + 3) by rw [List.length_append]; unfold beginL; rw [List.length_append, List.length_append, List.length_append, sz_list]; rfl)
                  obtain ⟨l11, hl⟩ : ∃ l_, l_ = l10 ++ beginL ⟨#[115, 101, 114, 118, 105, 99, 101]⟩ s.f0 := ⟨_, rfl⟩
                  rw [← hl] at HB11 HL11
                  have HE11 := Aside0.mk hl
                  clear hl
                  have BK5 := Aside0.mk (hk9.keep _ _ _ _ BK4.out hg5 (by decide))
                  clear hk9 BK4
                  have HLb := Aside0.mk (show l11.length ≤ 1280000 + i * 10000 + 100 by have := HL11.out; have := HL9.out; have := HNS.out; omega)
                  have y1 := zcell BK5.out 1 _ rfl
                  go_wp2_with fail
                  clear y1
                  obtain ⟨wo, hwo⟩ : ∃ wo : World, wo = wr := ⟨_, rfl⟩
                  subst hwo
                  go_loopw [110] (fun v_ W => ∃ (j : Nat) (lj : List UInt8), j ≤ m ∧ v_ = .int .i64 (j : Int) ∧ Aside0 (Bld 108 w0.heap.size b lj [] W) ∧ Aside0 (lj.length ≤ 1280000 + i * 10000 + 100 + j * 250) ∧ Aside0 (allC K x = orC (listC (methodC K) (s.f1.drop j)) (orC (listC (serviceC K) (x.f2.drop (i + 1))) (0 : Int))) ∧ Aside0 (KpB b w11 W) ∧ Aside0 (Below w0.heap.size w11 W)) (fun v _ => m - (intOf v).toNat)
                  case atStart => exact ⟨0, l11, by omega, rfl, HB11, ⟨by have := HLb.out; omega⟩, ⟨by rw [List.drop_zero]; exact HD3.out⟩, ⟨KpB.refl _ _⟩, ⟨Below.refl _ _⟩⟩
                  case round =>
                    obtain ⟨j, lj, jle, rfl, HBj, HLj, HCj, HKj, HWj⟩ := hrel
                    by_cases hjt : j < m
                    · have mlt : j < s.f1.length := by rw [← HMM.out]; exact hjt
                      have H02 := Aside0.mk (H01.out.trans (HW11.out.trans HWj.out))
                      obtain ⟨aq, eA⟩ := C_at CFF.out (by omega)
                      subst eA
                      obtain ⟨aq', AT, cT, AU, cU, e, p0, p1, p2, p3, p4, p5, p6, p7, lT, CT, lU, CU⟩ := at_T94 CFF.out (j : Int) (by omega) (by omega)
                      cases e
                      rw [Int.toNat_natCast] at p0 p1 p2 p3 p4 p5 p6 p7
                      replace p0 := cellB H02.out rfl p0
                      replace p1 := cellB H02.out rfl p1
                      replace p2 := cellB H02.out rfl p2
                      replace p3 := cellB H02.out rfl p3
                      replace p4 := cellB H02.out rfl p4
                      replace p5 := cellB H02.out rfl p5
                      replace p6 := cellB H02.out rfl p6
                      replace p7 := cellB H02.out rfl p7
                      have HFO := Aside0.mk (HS.out (rd_T94 s.f1 j) (rd_mem s.f1 j mlt))
                      have HTG := Aside0.mk (listC_drop (methodC K) z94 s.f1 j mlt)
                      obtain ⟨f, hf⟩ : ∃ f, f = rd_T94 s.f1 (j : Int) := ⟨_, rfl⟩
                      have hfz : s.f1.getD j z94 = f := by rw [hf]; simp [rd_T94, rdOf]
                      rw [hfz] at HTG
                      rw [← hf] at p0 p1 p2 p3 p4 p5 p6 p7 HFO lT CT lU CU
                      have HE := Aside0.mk (show allC K x = orC (nameC f.f0) (orC (tyC K f.f2) (orC (tyC K f.f3) (orC (listC (methodC K) (s.f1.drop (j + 1))) (orC (listC (serviceC K) (x.f2.drop (i + 1))) (0 : Int))))) by rw [HCj.out, HTG.out]; unfold methodC; simp only [orC_assoc])
                      clear hf hfz mlt HTG
                      obtain ⟨⟨kt, hS, hWd⟩, ku, hS2, hWd2⟩ := HFO.out
                      have HSS := Aside0.mk hS
                      have HWD := Aside0.mk hWd
                      have HSS2 := Aside0.mk hS2
                      have HWD2 := Aside0.mk hWd2
                      obtain ⟨on, hon⟩ : ∃ on, on = f.f1 := ⟨_, rfl⟩
                      rw [← hon] at p1
                      clear hon
                      have HCT := Aside0.mk CT
                      have HLT := Aside0.mk lT
                      have HCU := Aside0.mk CU
                      have HLU := Aside0.mk lU
                      obtain ⟨nT, hnT⟩ : ∃ n, n = f.f2.f2.length := ⟨_, rfl⟩
                      have HNT := Aside0.mk hnT
                      rw [← hnT] at p4
                      obtain ⟨nU, hnU⟩ : ∃ n, n = f.f3.f2.length := ⟨_, rfl⟩
                      have HNU := Aside0.mk hnU
                      rw [← hnU] at p7
                      clear hS hWd hS2 hWd2 CT lT CU lU hnT hnU HFO
                      go_wp2_with (first | ((with_reducible refine gate_dst (N := 15) rfl ?_); refine box_event ?hg (N := 15) ?hd (cs := #[.string ⟨#[]⟩, .bool false, .int .i64 0, .string ⟨#[]⟩, .slice none 0 0, .int .i64 0, .string ⟨#[]⟩, .slice none 0 0]) (t := 94) ?hr ?_; (case hd => rfl); (case hg => rfl); (case hr => first | (go_simp; done) | (go_simp; rfl)); intro g7 hg_ w3 hbox hb; have BX := Aside0.mk hbox; have HW3 := Aside0.mk hb; have HGX := Aside0.mk hg_; clear hbox hb hg_) | ((with_reducible refine gate_store (p := 15) rfl ?_); refine store_all rfl rfl 94 _ _ rfl #[.string f.f0, .bool on, .int .i64 f.f2.f0, .string f.f2.f1, .slice AT nT cT, .int .i64 f.f3.f0, .string f.f3.f1, .slice AU nU cU] rfl rfl BX.out rfl (by kernel_rfl) (by rfl) ?_; intro w6 h1 h2; have BX4 := Aside0.mk h1; have HW4 := Aside0.mk (below_ch HW3.out h2 HW3.out.size (fun k e => by rw [e, HGX.out]; exact Nat.le_refl _)); clear h1 h2; have x0 := zcell BX4.out 0 _ rfl; have x1 := zcell BX4.out 1 _ rfl; have x2 := zcell BX4.out 2 _ rfl; have x3 := zcell BX4.out 3 _ rfl; have x4 := zcell BX4.out 4 _ rfl; have x5 := zcell BX4.out 5 _ rfl; have x6 := zcell BX4.out 6 _ rfl; have x7 := zcell BX4.out 7 _ rfl))
                      clear x0 x1 x2 x3 x4 x5 x6 x7
                      have hg7 : g7 ≠ b := by have := HGX.out; have := HBj.out.lt; omega
                      have HB20 := Aside0.mk (HBj.out.below HW4.out)
                      have HKM20 := Aside0.mk (HKj.out.trans (KpB.of_below (b := b) HW4.out))
                      have HK20 := Aside0.mk (HK11.out.trans HKM20.out)
                      have HWM20 := Aside0.mk (HWj.out.trans (HW4.out.mono (Nat.le_trans HBB.out (Nat.le_of_lt HBj.out.lt))))
                      have HW20 := Aside0.mk (HW11.out.trans HWM20.out)
                      obtain ⟨l20, hl⟩ : ∃ l_, l_ = lj := ⟨_, rfl⟩
                      rw [← hl] at HB20
                      have HL29 := Aside0.mk (show l20.length ≤ 1280000 + i * 10000 + 100 + j * 250 by rw [hl]; exact HLj.out)
                      have HL28 := Aside0.mk (show l20.length + 1000 ≤ 10000000 by have := HL29.out; omega)
                      clear hl
                      obtain ⟨w20, hw⟩ : ∃ w_, w_ = w6 := ⟨_, rfl⟩
                      rw [← hw] at HB20 HK20 HW20 BX4
                      subst hw
                      have BJ20 := BX4
                      clear BX BX4
                      by_cases hfn : nameB f.f0 = true
                      · have hq_ := HE.out
                        rw [show nameC f.f0 = 0 from if_pos hfn, orC_zero] at hq_
                        have HE2 := Aside0.mk hq_
                        clear hq_
                        have HNF := Aside0.mk (name_short32 hfn)
                        by_cases hkt : kt = 0
                        · subst hkt
                          obtain ⟨s1, hW, hsw⟩ := HWD.out rfl
                          have HSW := Aside0.mk hsw
                          have hq_ := HE2.out
                          rw [show tyC K f.f2 = 0 from by unfold tyC; rw [HSS.out]; rfl, orC_zero] at hq_
                          have HE3 := Aside0.mk hq_
                          clear hq_ hsw
                          by_cases hku : ku = 0
                          · subst hku
                            obtain ⟨s2, hW2, hsw⟩ := HWD2.out rfl
                            have HSW2 := Aside0.mk hsw
                            have hq_ := HE3.out
                            rw [show tyC K f.f3 = 0 from by unfold tyC; rw [HSS2.out]; rfl, orC_zero] at hq_
                            have HE4 := Aside0.mk hq_
                            clear hq_ hsw
                            refine (show Calls Try.prog 72 #[.pointer (some ⟨b, 0, none⟩), .agg #[.string f.f0, .bool on, .int .i64 f.f2.f0, .string f.f2.f1, .slice AT nT cT, .int .i64 f.f3.f0, .string f.f3.f1, .slice AU nU cU]] w20 _ from HNT.out ▸ HNU.out ▸ pmethod.calls on K w0.heap.size b l20 f.f0 f.f2 f.f3 s1 s2 AT cT AU cU w20 HB20.out HBB.out hfn (pF_from k50_heap HCT.out (H01.out.trans HW20.out)) HLT.out HSS.out hW (pF_from k50_heap HCU.out (H01.out.trans HW20.out)) HLU.out HSS2.out hW2 (by have := HL28.out; have := HNF.out; have := HSW.out; have := HSW2.out; omega)).mono ?_
                            rintro e w21 h4
                            have hk9 := h4.2.2.1
                            have HKM21 := Aside0.mk (HKM20.out.trans h4.2.2.1)
                            have HWM21 := Aside0.mk (HWM20.out.trans h4.2.2.2)
                            have h5 := Wrote.then (HK20.out) (HW20.out) h4
                            clear h4
                            obtain ⟨rfl, hb_, hk_, hw_⟩ := h5
                            have HB21 := Aside0.mk hb_
                            have HK21 := Aside0.mk hk_
                            have HW21 := Aside0.mk hw_
                            clear hb_ hk_ hw_ HK20 HW20
                            have HL21 := Aside0.mk (show (l20 ++ methL on f.f0 s1 s2).length = l20.length + (6 + f.f0.size + 1 + s1.size + 2 + s2.size + 2) by rw [List.length_append]; rw [methL_len])
                            obtain ⟨l21, hl⟩ : ∃ l_, l_ = l20 ++ methL on f.f0 s1 s2 := ⟨_, rfl⟩
                            rw [← hl] at HB21 HL21
                            have HE21 := Aside0.mk hl
                            clear hl
                            clear hk9 BJ20 hW hW2
                            go_wp2_with fail
                            refine ⟨⟨j + 1, l21, by omega, by go_num, HB21, ⟨by have := HL28.out; have := HNF.out; have := HL21.out; have := HSW.out; have := HSW2.out; have := HL29.out; omega⟩, ⟨HE4.out⟩, HKM21, HWM21⟩, ?_⟩
                            simp [intOf]; omega
                          · skip
                            refine (show Calls Try.prog 72 #[.pointer (some ⟨b, 0, none⟩), .agg #[.string f.f0, .bool on, .int .i64 f.f2.f0, .string f.f2.f1, .slice AT nT cT, .int .i64 f.f3.f0, .string f.f3.f1, .slice AU nU cU]] w20 _ from HNT.out ▸ HNU.out ▸ pmethodc.calls on K w0.heap.size b l20 ku f.f0 f.f2 f.f3 s1 AT cT AU cU w20 HB20.out HBB.out hfn (pF_from k50_heap HCT.out (H01.out.trans HW20.out)) HLT.out HSS.out hW (pF_from k50_heap HCU.out (H01.out.trans HW20.out)) HLU.out HSS2.out hku (by have := HL28.out; have := HNF.out; have := HSW.out; omega)).mono ?_
                            rintro e wz h4
                            have h5 := Stop.then (HK20.out) (HW20.out) h4
                            obtain ⟨rfl, h6, h7⟩ := h5
                            exact ⟨rfl, by rw [show allC K x = _ from by rw [HE3.out, show tyC K f.f3 = ku from by unfold tyC; rw [HSS2.out]; rfl, orC_ne hku]], HK1.out.trans h6, HWB.out.trans h7⟩
                        · skip
                          refine (show Calls Try.prog 72 #[.pointer (some ⟨b, 0, none⟩), .agg #[.string f.f0, .bool on, .int .i64 f.f2.f0, .string f.f2.f1, .slice AT nT cT, .int .i64 f.f3.f0, .string f.f3.f1, .slice AU nU cU]] w20 _ from HNT.out ▸ HNU.out ▸ pmethodb.calls on K w0.heap.size b l20 kt f.f0 f.f2 f.f3 AT cT AU cU w20 HB20.out HBB.out hfn (pF_from k50_heap HCT.out (H01.out.trans HW20.out)) HLT.out HSS.out hkt (by have := HL28.out; have := HNF.out; omega)).mono ?_
                          rintro e wz h4
                          have h5 := Stop.then (HK20.out) (HW20.out) h4
                          obtain ⟨rfl, h6, h7⟩ := h5
                          exact ⟨rfl, by rw [show allC K x = _ from by rw [HE2.out, show tyC K f.f2 = kt from by unfold tyC; rw [HSS.out]; rfl, orC_ne hkt]], HK1.out.trans h6, HWB.out.trans h7⟩
                      · skip
                        refine (show Calls Try.prog 72 #[.pointer (some ⟨b, 0, none⟩), .agg #[.string f.f0, .bool on, .int .i64 f.f2.f0, .string f.f2.f1, .slice AT nT cT, .int .i64 f.f3.f0, .string f.f3.f1, .slice AU nU cU]] w20 _ from HNT.out ▸ HNU.out ▸ pmethoda.calls on w0.heap.size b l20 f.f0 f.f2 f.f3 AT cT AU cU w20 HB20.out HBB.out (Bool.eq_false_iff.mpr hfn) (by have := HL28.out; omega)).mono ?_
                        rintro e wz h4
                        have h5 := Stop.then (HK20.out) (HW20.out) h4
                        obtain ⟨rfl, h6, h7⟩ := h5
                        exact ⟨rfl, by rw [show allC K x = _ from by rw [HE.out, show nameC f.f0 = 31 from if_neg hfn, orC_ne (by decide)]], HK1.out.trans h6, HWB.out.trans h7⟩
                    · obtain rfl : j = m := by omega
                      have HB30 := HBj
                      have HK30 := Aside0.mk (HK11.out.trans HKj.out)
                      have HW30 := Aside0.mk (HW11.out.trans HWj.out)
                      obtain ⟨w30, hw⟩ : ∃ w_, w_ = wr := ⟨_, rfl⟩
                      rw [← hw] at HB30 HK30 HW30
                      obtain ⟨l30, hl⟩ : ∃ l_, l_ = lj := ⟨_, rfl⟩
                      rw [← hl] at HB30
                      have HL29 := Aside0.mk (show l30.length ≤ 1280000 + i * 10000 + 100 + j * 250 by rw [hl]; exact HLj.out)
                      have HL28 := Aside0.mk (show l30.length + 1000 ≤ 10000000 by have := HL29.out; omega)
                      have hq_ := HCj.out
                      rw [List.drop_eq_nil_of_le (by rw [HMM.out]; exact Nat.le_refl _)] at hq_
                      have HC30 := Aside0.mk (show allC K x = orC (listC (serviceC K) (x.f2.drop (i + 1))) (0 : Int) from hq_)
                      clear hl hq_
                      go_wp2_with fail
                      rw [← hw]
                      go_at_call 70
                      have HT := Aside0.mk (lits_new w0.heap.size b w30.heap.size l30 [⟨#[125, 10]⟩] w30 HB30.out HBB.out rfl (show 1 ≤ 9 by decide) (by
                        have := HL28.out; 
                        have e : (catL [⟨#[125, 10]⟩]).length = 2 := rfl
                        rw [e]; omega))
                      refine (show Calls Try.prog 70 #[.pointer (some ⟨b, 0, none⟩), .slice (some ⟨w30.heap.size, 0, none⟩) 1 1] _ _ from HT.out).mono ?_
                      rintro e w31 h4
                      have hk9 := h4.2.2.1
                      have h5 := Wrote.then (HK30.out) (HW30.out) h4
                      clear h4
                      obtain ⟨rfl, hb_, hk_, hw_⟩ := h5
                      clear HT
                      have HB31 := Aside0.mk hb_
                      have HK31 := Aside0.mk hk_
                      have HW31 := Aside0.mk hw_
                      clear hb_ hk_ hw_ HK30 HW30
                      have HL31 := Aside0.mk (show (l30 ++ catL [⟨#[125, 10]⟩]).length = l30.length + 2 by rw [List.length_append]; rfl)
                      obtain ⟨l31, hl⟩ : ∃ l_, l_ = l30 ++ catL [⟨#[125, 10]⟩] := ⟨_, rfl⟩
                      rw [← hl] at HB31 HL31
                      have HE31 := Aside0.mk hl
                      clear hl
                      clear hk9
                      go_wp2_with fail
                      refine ⟨⟨i + 1, l31, by omega, by go_num, HB31, ⟨by have := HL31.out; have := HL29.out; omega⟩, HC30, HK31, HW31⟩, ?_⟩
                      simp [intOf]; omega
                · skip
                  refine (pbegin_no.calls w0.heap.size b l10 ⟨#[115, 101, 114, 118, 105, 99, 101]⟩ s.f0 m w10 HB10.out HBB.out (Bool.eq_false_iff.mpr hnm) hm32 (by have := HL9.out; show l10.length + 7 + 10 ≤ _; omega)).mono ?_
                  rintro e wz h4
                  have h5 := Stop.then (HK10.out) (HW10.out) h4
                  obtain ⟨rfl, h6, h7⟩ := h5
                  exact ⟨rfl, by rw [show allC K x = _ from by rw [HD2.out, show nameC s.f0 = 31 from if_neg hnm, orC_ne (by decide)]], HK1.out.trans h6, HWB.out.trans h7⟩
              · skip
                refine (pbegin_many.calls w0.heap.size b ⟨#[115, 101, 114, 118, 105, 99, 101]⟩ s.f0 m w10 hm32).mono ?_
                rintro e wz h4
                have h5 := Stop.then (HK10.out) (HW10.out) h4
                obtain ⟨rfl, h6, h7⟩ := h5
                exact ⟨rfl, by rw [show allC K x = _ from by rw [HD.out, show manyC m = 3 from if_neg hm32, orC_ne (by decide)]], HK1.out.trans h6, HWB.out.trans h7⟩
            · obtain rfl : i = n3 := by omega
              have hq_ := HCi.out
              rw [List.drop_eq_nil_of_le (by rw [HN.out.2.2]; exact Nat.le_refl _)] at hq_
              have HCs := Aside0.mk (show allC K x = (0 : Int) from hq_)
              clear hq_
              exact absurd HCs.out HNE.out
end Go.Proofs.Ytoloneoeojoiaaa.EParseBack

