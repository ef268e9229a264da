/- A schema comes back from its text: the walk of the law; no condition. -/
import Derived.Test.YtoloneoeojoiaaaMayF
import Derived.Test.YtoloneoeojoiaaaMayS
namespace Go.Proofs.Ytoloneoeojoiaaa.EParseBack
open Go.RowKit Go.Shelf Go.Proofs.YtoloneoeojoiaaaW.PrintWords Go.Proofs.YtoloneoeojoiaaaW.PrintLast Go.Proofs.YtoloneoeojoiaaaW.PrintMore
set_option linter.unusedVariables false
set_option linter.unusedSimpArgs false
theorem isSch.cs {x : S40} {b : Nat} {w : World} {v : Value} (h : isSch x b w v) : ∃ A1 c1 A2 c2 A3 c3, v = .agg #[.slice A1 x.f0.length c1, .slice A2 x.f1.length c2, .slice A3 x.f2.length c3] ∧ (Kd.C k47 w A1 x.f0.length x.f0 ∧ Kd.C k86 w A2 x.f1.length x.f1 ∧ Kd.C k91 w A3 x.f2.length x.f2) := by
  obtain ⟨a, b, c, rfl, h1, h2, h3⟩ := h
  obtain ⟨A1, c1, rfl⟩ := Kd.R_slice h1
  obtain ⟨A2, c2, rfl⟩ := Kd.R_slice h2
  obtain ⟨A3, c3, rfl⟩ := Kd.R_slice h3
  exact ⟨A1, c1, A2, c2, A3, c3, rfl, (Kd.R_reads' h1).2.2, (Kd.R_reads' h2).2.2, (Kd.R_reads' h3).2.2⟩
def sch3 (x : S40) (w : World) (A1 A2 A3 : Option Addr) : Prop := Kd.C k47 w A1 x.f0.length x.f0 ∧ Kd.C k86 w A2 x.f1.length x.f1 ∧ Kd.C k91 w A3 x.f2.length x.f2
theorem sch3.below {x : S40} {w w1 : World} {A1 A2 A3 : Option Addr} (h : sch3 x w A1 A2 A3) (hb : Below w.heap.size w w1) : sch3 x w1 A1 A2 A3 := ⟨Kd.C_below h.1 hb, Kd.C_below h.2.1 hb, Kd.C_below h.2.2 hb⟩
/-- A box above the rows is written. -/
theorem sch3.box {x : S40} {w0 w w1 : World} {A1 A2 A3 : Option Addr} {g : Nat} (h : sch3 x w0 A1 A2 A3) (hb : Below w0.heap.size w0 w) (hc : Ch (fun k => k = g) w w1) (hg : w0.heap.size ≤ g) : sch3 x w1 A1 A2 A3 := h.below (below_ch hb hc hb.size (fun k e => by omega))
/-- A type's depth, as it stands in memory. -/
def OKD : Nat → S50 → Prop
  | 0, _ => False
  | n + 1, t => t.f2 = [] ∨ ∃ x, t.f2 = [x] ∧ OKD n x
theorem ty_okd {d : Nat} {t : S50} {w : List UInt8} {ts : List (Int × ByteArray)} (h : TyR d t w ts) : OKD d t := by
  induction h with
  | plain d k w h hw => exact .inl rfl
  | list d x w ts h ih => exact .inr ⟨x, rfl, ih⟩
  | opt d x w ts h ih => exact .inr ⟨x, rfl, ih⟩
  | name d a h => exact .inl rfl
theorem same_okd : ∀ (n : Nat) (t : S50), OKD n t → ∀ k, 4 * n + 4 ≤ k → waybillplain_SameTypes.f k [t] [t] = some true
  | 0, t, h, k, _ => h.elim
  | n + 1, t, h, k, hk => by
    obtain ⟨k, rfl⟩ : ∃ q, k = q + 1 + 1 + 1 + 1 := ⟨k - 4, by omega⟩
    have hnil : ∀ q, waybillplain_SameTypes.f (q + 1 + 1) [] [] = some true := fun q => by
      simp [waybillplain_SameTypes.f, waybillplain_SameTypes.l0]
    have hin : waybillplain_SameTypes.f (k + 1 + 1) t.f2 t.f2 = some true := by
      rcases h with h | ⟨x, h, hx⟩
      · rw [h]; exact hnil k
      · rw [h]; exact same_okd n x hx (k + 1 + 1) (by omega)
    have e0 : rd_T50 [t] 0 = t := rfl
    simp only [waybillplain_SameTypes.f, List.length_singleton, if_true]
    rw [waybillplain_SameTypes.l0, if_pos (by simp), if_pos (by decide), if_pos (by simp), e0, if_pos rfl, if_pos rfl, hin]
    show (if true = true then waybillplain_SameTypes.l0 (k + 1 + 1) [t] [t] (wrap64 (0 + 1)) else some false) = some true
    rw [if_pos rfl, show wrap64 (0 + 1) = 1 from by unfold wrap64; decide, waybillplain_SameTypes.l0, if_neg (by simp)]
theorem same_tyg (t : S50) (h : TyG t) : waybillplain_SameType.f 100 t.f0 t.f1 t.f2 t.f0 t.f1 t.f2 = some true := by
  obtain ⟨w, ts, h⟩ := h
  unfold waybillplain_SameType.f
  have e : (⟨t.f0, t.f1, t.f2⟩ : S50) = t := by cases t; rfl
  rw [e, same_okd 8 t (ty_okd h) 100 (by decide)]
  rfl
theorem same_methg (f : S94) (h : TyG f.f2) (k : TyG f.f3) : waybillplain_SameMethod.f 100 f.f0 f.f1 f.f2.f0 f.f2.f1 f.f2.f2 f.f3.f0 f.f3.f1 f.f3.f2 f.f0 f.f1 f.f2.f0 f.f2.f1 f.f2.f2 f.f3.f0 f.f3.f1 f.f3.f2 = some true := by
  unfold waybillplain_SameMethod.f
  rw [if_pos rfl, if_pos (by simp), same_tyg f.f2 h, same_tyg f.f3 k]
  rfl
set_option maxHeartbeats 16000000 in
set_option maxRecDepth 100000 in
theorem ParseMay.calls (K : Nat) (s : ByteArray) (w : World) (x y : S40) (T : List UInt8) (xi xe yi ye : Int) (hX : textF s = (x, xi, xe)) (hT : T = allL 60 x) (hY : textF (txt T) = (y, yi, ye))
    (hbad : xe ≠ 0 → x = x0 ∧ (xi > 0 ∨ xe = 5)) (hgood : xe = 0 → xi = 0 ∧ SchG x) (hback : xe = 0 → T.length ≤ 65536 → y = x ∧ ye = 0)
    (hTT : xe = 0 → ∀ s ∈ x.f0, ∀ f ∈ s.f1, waybillplain_SameType.f K f.f2.f0 f.f2.f1 f.f2.f2 f.f2.f0 f.f2.f1 f.f2.f2 = some true)
    (hMM : xe = 0 → ∀ s ∈ x.f2, ∀ f ∈ s.f1, waybillplain_SameMethod.f K f.f0 f.f1 f.f2.f0 f.f2.f1 f.f2.f2 f.f3.f0 f.f3.f1 f.f3.f2 f.f0 f.f1 f.f2.f0 f.f2.f1 f.f2.f2 f.f3.f0 f.f3.f1 f.f3.f2 = some true) :
    Calls Try.prog 13 #[.string s] w fun e w' => e = .returned (.bool true) ∧ Below w.heap.size w w' := by
  have HX := Aside0.mk hX
  have HY := Aside0.mk hY
  have HT := Aside0.mk hT
  have HBAD := Aside0.mk hbad
  have HGOOD := Aside0.mk hgood
  have HBACK := Aside0.mk hback
  have HTT := Aside0.mk hTT
  have HMM := Aside0.mk hMM
  clear hX hY hT hbad hgood hback hTT hMM
  obtain ⟨n1, hn1⟩ : ∃ n, n = x.f0.length := ⟨_, rfl⟩
  obtain ⟨n2, hn2⟩ : ∃ n, n = x.f1.length := ⟨_, rfl⟩
  obtain ⟨n3, hn3⟩ : ∃ n, n = x.f2.length := ⟨_, rfl⟩
  have HNX := Aside0.mk (show n1 = x.f0.length ∧ n2 = x.f1.length ∧ n3 = x.f2.length from ⟨hn1, hn2, hn3⟩)
  clear hn1 hn2 hn3
  go_enter Try.func13, Try.ntmps13
  go_wp2_with fail
  go_at_call 19
  refine (alive.calls _).mono ?_
  rintro e w1 ⟨rfl, hb⟩
  have HB1 := Aside0.mk hb
  clear hb
  go_wp2_with fail
  go_at_call 22
  refine (Text.calls s _).mono ?_
  rw [HX.out]
  rintro e w2 ⟨⟨v, rfl, hs⟩, hb⟩
  obtain ⟨A1, c1, A2, c2, A3, c3, rfl, CX⟩ := hs.cs
  have HCX := Aside0.mk (show sch3 x w2 A1 A2 A3 from CX)
  have HB2 := Aside0.mk (below_b HB1.out hb HB1.out.size)
  clear hs hb CX HB1
  rw [← HNX.out.1, ← HNX.out.2.1, ← HNX.out.2.2]
  go_wp2_with (first | ((with_reducible refine gate_dst (N := 3) rfl ?_); refine box_event ?hg (N := 3) ?hd (cs := #[.slice none 0 0, .slice none 0 0, .slice none 0 0]) (t := 40) ?hr ?_; (case hd => rfl); (case hg => rfl); (case hr => first | (go_simp; done) | (go_simp; rfl)); intro g3 hg1 w3 hbox hb; have BKw3 := Aside0.mk hbox; have HBw3 := Aside0.mk hb; have HG3 := Aside0.mk (Nat.le_of_eq hg1.symm); clear hbox hb hg1) | ((with_reducible refine gate_store (p := 3) rfl ?_); refine store_all rfl rfl 40 _ _ rfl #[.slice A1 n1 c1, .slice A2 n2 c2, .slice A3 n3 c3] rfl rfl BKw3.out rfl (by kernel_rfl) (by rfl) ?_; intro w4 h1 h2; have BKw4 := Aside0.mk h1; have HCw4 := Aside0.mk h2; clear h1 h2))
  have CX4 := Aside0.mk (HCX.out.box HBw3.out HCw4.out HG3.out)
  have HB4 := Aside0.mk (below_ch (below_b HB2.out HBw3.out HB2.out.size) HCw4.out (Nat.le_trans HB2.out.size HBw3.out.size) (fun k e => by have := HG3.out; have := HB2.out.size; omega))
  have KS := Aside0.mk BKw4.out
  clear HCX HB2 HBw3 HCw4 BKw3
  by_cases hxe : xe = 0
  · subst hxe
    obtain ⟨hxi, hsg⟩ := HGOOD.out rfl
    subst hxi
    have HSG := Aside0.mk hsg
    clear hsg
    go_wp2_with fail
    go_at_call 21
    refine (waybilllaw05_num.calls 0 0 _ rfl).mono ?_
    rintro e w5 ⟨rfl, hd⟩
    have HNw5 := Aside0.mk hd.below
    clear hd
    have K5 := Aside0.mk (heapB KS.out HNw5.out)
    have C5 := Aside0.mk (CX4.out.below HNw5.out)
    have HB5 := Aside0.mk (below_b HB4.out HNw5.out HB4.out.size)
    clear KS CX4 HB4 HNw5
    have z0 := zcell K5.out 0 _ rfl
    have z1 := zcell K5.out 1 _ rfl
    have z2 := zcell K5.out 2 _ rfl
    go_wp2_with fail
    go_at_call 31
    have HP := Aside0.mk (Print.calls 60 x A1 A2 A3 c1 c2 c3 w5 C5.out (sch_ok x HSG.out) ⟨by have := HSG.out.2; omega, by have := HSG.out.2; omega, by have := HSG.out.2; omega, HSG.out.2⟩ (by have := all_len x HSG.out; omega))
    obtain ⟨S, hS⟩ : ∃ S, S = txt T := ⟨_, rfl⟩
    rw [← HNX.out.1, ← HNX.out.2.1, ← HNX.out.2.2, ← HT.out, show (⟨T.toArray⟩ : ByteArray) = S from hS.symm] at HP
    have HSS0 := Aside0.mk hS
    clear hS
    refine HP.out.mono ?_
    rintro e w6 ⟨rfl, hb⟩
    have K6 := Aside0.mk (heapB K5.out hb)
    have C6 := Aside0.mk (C5.out.below hb)
    have HB6 := Aside0.mk (below_b HB5.out hb HB5.out.size)
    clear hb HP K5 C5 HB5 z0 z1 z2
    go_wp2_with fail
    go_at_call 22
    refine (Text.calls S _).mono ?_
    rw [HSS0.out, HY.out, ← HSS0.out]
    rintro e w7 ⟨⟨v, rfl, hs⟩, hb⟩
    obtain ⟨B1, d1, B2, d2, B3, d3, rfl, CY⟩ := hs.cs
    have HCY := Aside0.mk (show sch3 y w7 B1 B2 B3 from CY)
    have K7 := Aside0.mk (heapB K6.out hb)
    have C7 := Aside0.mk (C6.out.below hb)
    have HB7 := Aside0.mk (below_b HB6.out hb HB6.out.size)
    clear hs hb CY K6 C6 HB6
    obtain ⟨m1, hm1⟩ : ∃ n, n = y.f0.length := ⟨_, rfl⟩
    obtain ⟨m2, hm2⟩ : ∃ n, n = y.f1.length := ⟨_, rfl⟩
    obtain ⟨m3, hm3⟩ : ∃ n, n = y.f2.length := ⟨_, rfl⟩
    have HNY := Aside0.mk (show m1 = y.f0.length ∧ m2 = y.f1.length ∧ m3 = y.f2.length from ⟨hm1, hm2, hm3⟩)
    clear hm1 hm2 hm3
    rw [← HNY.out.1, ← HNY.out.2.1, ← HNY.out.2.2]
    go_wp2_with (first | ((with_reducible refine gate_dst (N := 8) rfl ?_); refine box_event ?hg (N := 8) ?hd (cs := #[.slice none 0 0, .slice none 0 0, .slice none 0 0]) (t := 40) ?hr ?_; (case hd => rfl); (case hg => rfl); (case hr => first | (go_simp; done) | (go_simp; rfl)); intro g8 hg1 w8 hbox hb; have BKw8 := Aside0.mk hbox; have HBw8 := Aside0.mk hb; have HGw8 := Aside0.mk hg1; clear hbox hb hg1) | ((with_reducible refine gate_store (p := 8) rfl ?_); refine store_all rfl rfl 40 _ _ rfl #[.slice B1 m1 d1, .slice B2 m2 d2, .slice B3 m3 d3] rfl rfl BKw8.out rfl (by kernel_rfl) (by rfl) ?_; intro w9 h1 h2; have BKw9 := Aside0.mk h1; have HCw9 := Aside0.mk h2; clear h1 h2))
    have K9 := Aside0.mk (HCw9.out.heap (heapB K7.out HBw8.out) (by have a := lt_of_block K7.out; have b := HGw8.out; omega))
    have Y9 := Aside0.mk (HCY.out.box HBw8.out HCw9.out (Nat.le_of_eq HGw8.out.symm))
    have C9 := Aside0.mk (C7.out.box HBw8.out HCw9.out (Nat.le_of_eq HGw8.out.symm))
    have HB9 := Aside0.mk (below_ch (below_b HB7.out HBw8.out HB7.out.size) HCw9.out (Nat.le_trans HB7.out.size HBw8.out.size) (fun k e => by have := HGw8.out; have := HB7.out.size; omega))
    have G9 := Aside0.mk BKw9.out
    clear K7 C7 HCY HBw8 HCw9 HB7 BKw8 HGw8
    go_at_call 21
    refine (waybilllaw05_num.calls 0 0 _ rfl).mono ?_
    rintro e w10 ⟨rfl, hd⟩
    have HNw10 := Aside0.mk hd.below
    clear hd
    have K10 := Aside0.mk (heapB K9.out HNw10.out)
    have G10 := Aside0.mk (heapB G9.out HNw10.out)
    have Y10 := Aside0.mk (Y9.out.below HNw10.out)
    have C10 := Aside0.mk (C9.out.below HNw10.out)
    have HB10 := Aside0.mk (below_b HB9.out HNw10.out HB9.out.size)
    clear K9 G9 Y9 C9 HB9 HNw10
    have hsz : S.size = T.length := by rw [HSS0.out]; exact txt_size T
    have hTl : T.length ≤ 640000 := by rw [HT.out]; exact all_len x HSG.out
    by_cases hbig : 65536 < T.length
    · have hb1 : (65536 : Int) < (S.size : Int) := by omega
      go_wp2_with fail
      go_ret
      exact ⟨rfl, HB10.out⟩
    · have hb1 : ¬ (65536 : Int) < (S.size : Int) := by omega
      obtain ⟨hyx, hye⟩ := HBACK.out (by first | rfl | trivial) (by omega)
      subst hye
      go_wp2_with fail
      go_at_call 21
      refine (waybilllaw05_num.calls 0 0 _ rfl).mono ?_
      rintro e w11 ⟨rfl, hd⟩
      have HNw11 := Aside0.mk hd.below
      clear hd
      have K11 := Aside0.mk (heapB K10.out HNw11.out)
      have G11 := Aside0.mk (heapB G10.out HNw11.out)
      have HB11 := Aside0.mk (below_b HB10.out HNw11.out HB10.out.size)
      have HS := Same.calls K x A1 A2 A3 B1 B2 B3 c1 c2 c3 d1 d2 d3 w11 (C10.out.below HNw11.out) (by have := Y10.out.below HNw11.out; rw [hyx] at this; exact this) (HTT.out (by first | rfl | trivial)) (HMM.out (by first | rfl | trivial))
      have m1e : m1 = n1 := by rw [HNY.out.1, HNX.out.1, hyx]
      have m2e : m2 = n2 := by rw [HNY.out.2.1, HNX.out.2.1, hyx]
      have m3e : m3 = n3 := by rw [HNY.out.2.2, HNX.out.2.2, hyx]
      subst m1e m2e m3e
      rw [← HNX.out.1, ← HNX.out.2.1, ← HNX.out.2.2] at HS
      have HSS := Aside0.mk HS
      clear HS hyx K10 G10 Y10 C10 HB10 HNw11
      have p0 := zcell K11.out 0 _ rfl
      have p1 := zcell K11.out 1 _ rfl
      have p2 := zcell K11.out 2 _ rfl
      have q0 := zcell G11.out 0 _ rfl
      have q1 := zcell G11.out 1 _ rfl
      have q2 := zcell G11.out 2 _ rfl
      go_wp2_with fail
      go_at_call 23
      refine HSS.out.mono ?_
      rintro e w12 ⟨rfl, hb⟩
      have HB12 := Aside0.mk (below_b HB11.out hb HB11.out.size)
      clear hb p0 p1 p2 q0 q1 q2
      go_wp2_with fail
      go_ret
      exact ⟨rfl, HB12.out⟩
  · obtain ⟨hx0, hline⟩ := HBAD.out hxe
    have hne : (xe != 0) = true := bne_iff_ne.mpr hxe
    have e1 : n1 = 0 := by rw [HNX.out.1, hx0]; rfl
    have e2 : n2 = 0 := by rw [HNX.out.2.1, hx0]; rfl
    have e3 : n3 = 0 := by rw [HNX.out.2.2, hx0]; rfl
    subst e1 e2 e3
    have HLN := Aside0.mk hline
    clear hline hx0 hxe
    go_wp2_with fail
    go_at_call 21
    refine (waybilllaw05_num.calls xe xe _ rfl).mono ?_
    rintro e w5 ⟨rfl, hd⟩
    have HNw5 := Aside0.mk hd.below
    clear hd
    have K5 := Aside0.mk (heapB KS.out HNw5.out)
    have HB5 := Aside0.mk (below_b HB4.out HNw5.out HB4.out.size)
    clear KS CX4 HB4 HNw5
    have z0 := zcell K5.out 0 _ rfl
    have z1 := zcell K5.out 1 _ rfl
    have z2 := zcell K5.out 2 _ rfl
    by_cases hpos : 0 < xi
    · clear HLN
      go_wp2_with fail
      go_ret
      exact ⟨rfl, HB5.out⟩
    · have h5 : xe = 5 := by rcases HLN.out with h | h; (exact absurd h hpos); exact h
      subst h5
      clear HLN
      go_wp2_with fail
      go_at_call 21
      refine (waybilllaw05_num.calls 5 5 _ rfl).mono ?_
      rintro e w6 ⟨rfl, hd⟩
      have HB6 := Aside0.mk (below_b HB5.out hd.below HB5.out.size)
      clear hd
      go_wp2_with fail
      go_ret
      exact ⟨rfl, HB6.out⟩
/-! A schema comes back from its text. -/
theorem list_tot {α : Type} {P : Nat → α → Prop} : ∀ (l : List α), (∀ f ∈ l, ∃ K, ∀ m, K ≤ m → P m f) → ∃ K, ∀ m, K ≤ m → ∀ f ∈ l, P m f
  | [], _ => ⟨0, fun m _ f hf => by cases hf⟩
  | x :: t, h => by
    obtain ⟨K1, h1⟩ := h x List.mem_cons_self
    obtain ⟨K2, h2⟩ := list_tot t (fun f hf => h f (List.mem_cons_of_mem _ hf))
    refine ⟨max K1 K2, fun m hm f hf => ?_⟩
    rcases List.mem_cons.1 hf with rfl | hf
    · exact h1 m (Nat.le_trans (Nat.le_max_left _ _) hm)
    · exact h2 m (Nat.le_trans (Nat.le_max_right _ _) hm) f hf
theorem mem_rd {α : Type} (z : α) {l : List α} {x : α} (h : x ∈ l) : ∃ i : Nat, i < l.length ∧ l.getD (i : Int).toNat z = x := by
  obtain ⟨i, hi, e⟩ := List.mem_iff_getElem.1 h
  refine ⟨i, hi, ?_⟩
  rw [Int.toNat_natCast, List.getD_eq_getElem?_getD, List.getElem?_eq_getElem hi]
  exact e
theorem sch_tot2 (x : S40) (A1 A2 A3 : Option Addr) (w : World) (hx : Kd.C k47 w A1 x.f0.length x.f0 ∧ Kd.C k86 w A2 x.f1.length x.f1 ∧ Kd.C k91 w A3 x.f2.length x.f2) : ∃ K, 100 ≤ K ∧ SchTot2 K x := by
  have h1 : ∃ K, ∀ m, K ≤ m → ∀ s ∈ x.f0, ∀ f ∈ s.f1, TyTot2 m f.f2 := list_tot x.f0 fun s hs => list_tot s.f1 fun f hf => by
    obtain ⟨i, hi, e⟩ := mem_rd z47 hs
    obtain ⟨ad, AF, cF, _, _, _, _, CF⟩ := at_T47 hx.1 (i : Int) (by omega) (by omega)
    rw [show rd_T47 x.f0 (i : Int) = s from e] at CF
    obtain ⟨j, hj, e2⟩ := mem_rd z52 hf
    obtain ⟨_, AT, _, _, _, _, _, _, _, _, CT⟩ := at_T52 CF (j : Int) (by omega) (by omega)
    rw [show rd_T52 s.f1 (j : Int) = f from e2] at CT
    exact ty_tot w f.f2 AT CT
  have h2 : ∃ K, ∀ m, K ≤ m → ∀ s ∈ x.f2, ∀ f ∈ s.f1, TyTot2 m f.f2 ∧ TyTot2 m f.f3 := list_tot x.f2 fun s hs => list_tot s.f1 fun f hf => by
    obtain ⟨i, hi, e⟩ := mem_rd z91 hs
    obtain ⟨ad, AF, cF, _, _, _, _, CF⟩ := at_T91 hx.2.2 (i : Int) (by omega) (by omega)
    rw [show rd_T91 x.f2 (i : Int) = s from e] at CF
    obtain ⟨j, hj, e2⟩ := mem_rd z94 hf
    obtain ⟨_, AT, _, AU, _, _, _, _, _, _, _, _, _, _, _, CT, _, CU⟩ := at_T94 CF (j : Int) (by omega) (by omega)
    rw [show rd_T94 s.f1 (j : Int) = f from e2] at CT CU
    obtain ⟨K1, g1⟩ := ty_tot w f.f2 AT CT
    obtain ⟨K2, g2⟩ := ty_tot w f.f3 AU CU
    exact ⟨max K1 K2, fun m hm => ⟨g1 m (Nat.le_trans (Nat.le_max_left _ _) hm), g2 m (Nat.le_trans (Nat.le_max_right _ _) hm)⟩⟩
  obtain ⟨K1, h1⟩ := h1
  obtain ⟨K2, h2⟩ := h2
  exact ⟨max 100 (max K1 K2), Nat.le_max_left _ _, h1 _ (Nat.le_trans (Nat.le_max_left _ _) (Nat.le_max_right _ _)), h2 _ (Nat.le_trans (Nat.le_max_right _ _) (Nat.le_max_right _ _))⟩
set_option maxHeartbeats 16000000 in
set_option maxRecDepth 100000 in
theorem ParseBack.calls (K : Nat) (hK : 60 ≤ K) (x y : S40) (A1 A2 A3 : Option Addr) (c1 c2 c3 : Nat) (w : World) (hx : sch3 x w A1 A2 A3) (S : ByteArray) (pe yi ye : Int) (hTt : SchTot2 K x) (hS : S = printS K x) (hpe : pe = printC K x) (hY : textF S = (y, yi, ye))
    (hbad : pe ≠ 0 → S = ⟨#[]⟩) (hsz : S.size ≤ 640000) (hback : pe = 0 → S.size ≤ 65536 → y = x ∧ yi = 0 ∧ ye = 0)
    (hTT : pe = 0 → ∀ s ∈ x.f0, ∀ f ∈ s.f1, waybillplain_SameType.f 100 f.f2.f0 f.f2.f1 f.f2.f2 f.f2.f0 f.f2.f1 f.f2.f2 = some true)
    (hMM : pe = 0 → ∀ s ∈ x.f2, ∀ f ∈ s.f1, waybillplain_SameMethod.f 100 f.f0 f.f1 f.f2.f0 f.f2.f1 f.f2.f2 f.f3.f0 f.f3.f1 f.f3.f2 f.f0 f.f1 f.f2.f0 f.f2.f1 f.f2.f2 f.f3.f0 f.f3.f1 f.f3.f2 = some true) :
    Calls Try.prog 12 #[.agg #[.slice A1 x.f0.length c1, .slice A2 x.f1.length c2, .slice A3 x.f2.length c3]] w fun e w' => e = .returned (.bool true) ∧ Below w.heap.size w w' := by
  have HY := Aside0.mk hY
  have HBAD := Aside0.mk hbad
  have HBACK := Aside0.mk hback
  have HTT := Aside0.mk hTT
  have HMM := Aside0.mk hMM
  have HC0 := Aside0.mk hx
  have HPR := Aside0.mk (fun (W : World) (h : sch3 x W A1 A2 A3) => PrintT.calls K hK x A1 A2 A3 c1 c2 c3 W h hTt)
  rw [← hS, ← hpe] at HPR
  have HSZ := Aside0.mk hsz
  clear hY hbad hback hTT hMM hx hTt hS hpe hsz
  obtain ⟨n1, hn1⟩ : ∃ n, n = x.f0.length := ⟨_, rfl⟩
  obtain ⟨n2, hn2⟩ : ∃ n, n = x.f1.length := ⟨_, rfl⟩
  obtain ⟨n3, hn3⟩ : ∃ n, n = x.f2.length := ⟨_, rfl⟩
  have HNX := Aside0.mk (show n1 = x.f0.length ∧ n2 = x.f1.length ∧ n3 = x.f2.length from ⟨hn1, hn2, hn3⟩)
  rw [← hn1, ← hn2, ← hn3]
  rw [← hn1, ← hn2, ← hn3] at HPR
  clear hn1 hn2 hn3
  go_enter Try.func12, Try.ntmps12
  go_wp2_with (first | ((with_reducible refine gate_dst (N := 1) rfl ?_); refine box_event ?hg (N := 1) ?hd (cs := #[.slice A1 n1 c1, .slice A2 n2 c2, .slice A3 n3 c3]) (t := 40) ?hr ?_; (case hd => rfl); (case hg => rfl); (case hr => first | (go_simp; done) | (go_simp; rfl)); intro g1 hg1 w1 hbox hb; have BK1 := Aside0.mk hbox; have HB1 := Aside0.mk hb; clear hbox hb hg1))
  go_at_call 19
  refine (alive.calls _).mono ?_
  rintro e w2 ⟨rfl, hb⟩
  have K2 := Aside0.mk (heapB BK1.out hb)
  have HB2 := Aside0.mk (below_b HB1.out hb HB1.out.size)
  have C2 := Aside0.mk (HC0.out.below HB2.out)
  clear hb BK1 HB1
  have z0 := zcell K2.out 0 _ rfl
  have z1 := zcell K2.out 1 _ rfl
  have z2 := zcell K2.out 2 _ rfl
  go_wp2_with fail
  go_at_call 31
  refine (HPR.out w2 C2.out).mono ?_
  rintro e w3 ⟨rfl, hb⟩
  have K3 := Aside0.mk (heapB K2.out hb)
  have HB3 := Aside0.mk (below_b HB2.out hb HB2.out.size)
  have C3 := Aside0.mk (C2.out.below hb)
  clear hb K2 HB2 C2 z0 z1 z2 HPR
  by_cases hpe : pe = 0
  · subst hpe
    go_wp2_with fail
    go_at_call 21
    refine (waybilllaw05_num.calls 0 0 _ rfl).mono ?_
    rintro e w4 ⟨rfl, hd⟩
    have K4 := Aside0.mk (heapB K3.out hd.below)
    have HB4 := Aside0.mk (below_b HB3.out hd.below HB3.out.size)
    have C4 := Aside0.mk (C3.out.below hd.below)
    clear hd K3 HB3 C3
    go_wp2_with fail
    go_at_call 22
    refine (Text.calls S _).mono ?_
    rw [HY.out]
    rintro e w5 ⟨⟨v, rfl, hs⟩, hb⟩
    obtain ⟨B1, d1, B2, d2, B3, d3, rfl, CY⟩ := hs.cs
    have HCY := Aside0.mk (show sch3 y w5 B1 B2 B3 from CY)
    have K5 := Aside0.mk (heapB K4.out hb)
    have C5 := Aside0.mk (C4.out.below hb)
    have HB5 := Aside0.mk (below_b HB4.out hb HB4.out.size)
    clear hs hb CY K4 C4 HB4
    obtain ⟨m1, hm1⟩ : ∃ n, n = y.f0.length := ⟨_, rfl⟩
    obtain ⟨m2, hm2⟩ : ∃ n, n = y.f1.length := ⟨_, rfl⟩
    obtain ⟨m3, hm3⟩ : ∃ n, n = y.f2.length := ⟨_, rfl⟩
    have HNY := Aside0.mk (show m1 = y.f0.length ∧ m2 = y.f1.length ∧ m3 = y.f2.length from ⟨hm1, hm2, hm3⟩)
    clear hm1 hm2 hm3
    rw [← HNY.out.1, ← HNY.out.2.1, ← HNY.out.2.2]
    by_cases hbig : 65536 < S.size
    · have hb1 : (65536 : Int) < (S.size : Int) := by omega
      go_wp2_with (first | ((with_reducible refine gate_dst (N := 5) rfl ?_); refine box_event ?hg (N := 5) ?hd (cs := #[.slice none 0 0, .slice none 0 0, .slice none 0 0]) (t := 40) ?hr ?_; (case hd => rfl); (case hg => rfl); (case hr => first | (go_simp; done) | (go_simp; rfl)); intro g8 hg1 w8 hbox hb; have BKw8 := Aside0.mk hbox; have HBw8 := Aside0.mk hb; have HGw8 := Aside0.mk hg1; clear hbox hb hg1) | ((with_reducible refine gate_store (p := 5) rfl ?_); refine store_all rfl rfl 40 _ _ rfl #[.slice B1 m1 d1, .slice B2 m2 d2, .slice B3 m3 d3] rfl rfl BKw8.out rfl (by kernel_rfl) (by rfl) ?_; intro w9 h1 h2; have BKw9 := Aside0.mk h1; have HCw9 := Aside0.mk h2; clear h1 h2))
      have HB9 := Aside0.mk (below_ch (below_b HB5.out HBw8.out HB5.out.size) HCw9.out (Nat.le_trans HB5.out.size HBw8.out.size) (fun k e => by have := HGw8.out; have := HB5.out.size; omega))
      go_ret
      exact ⟨rfl, HB9.out⟩
    · have hb1 : ¬ (65536 : Int) < (S.size : Int) := by omega
      obtain ⟨hyx, hyi, hye⟩ := HBACK.out (by first | rfl | trivial) (by omega)
      subst hye hyi
      have HYX := Aside0.mk hyx
      clear hyx
      go_wp2_with (first | ((with_reducible refine gate_dst (N := 5) rfl ?_); refine box_event ?hg (N := 5) ?hd (cs := #[.slice none 0 0, .slice none 0 0, .slice none 0 0]) (t := 40) ?hr ?_; (case hd => rfl); (case hg => rfl); (case hr => first | (go_simp; done) | (go_simp; rfl)); intro g8 hg1 w8 hbox hb; have BKw8 := Aside0.mk hbox; have HBw8 := Aside0.mk hb; have HGw8 := Aside0.mk hg1; clear hbox hb hg1) | ((with_reducible refine gate_store (p := 5) rfl ?_); refine store_all rfl rfl 40 _ _ rfl #[.slice B1 m1 d1, .slice B2 m2 d2, .slice B3 m3 d3] rfl rfl BKw8.out rfl (by kernel_rfl) (by rfl) ?_; intro w9 h1 h2; have BKw9 := Aside0.mk h1; have HCw9 := Aside0.mk h2; clear h1 h2))
      have K9 := Aside0.mk (HCw9.out.heap (heapB K5.out HBw8.out) (by have a := lt_of_block K5.out; have b := HGw8.out; omega))
      have Y9 := Aside0.mk (HCY.out.box HBw8.out HCw9.out (Nat.le_of_eq HGw8.out.symm))
      have C9 := Aside0.mk (C5.out.box HBw8.out HCw9.out (Nat.le_of_eq HGw8.out.symm))
      have HB9 := Aside0.mk (below_ch (below_b HB5.out HBw8.out HB5.out.size) HCw9.out (Nat.le_trans HB5.out.size HBw8.out.size) (fun k e => by have := HGw8.out; have := HB5.out.size; omega))
      have G9 := Aside0.mk BKw9.out
      clear K5 C5 HCY HBw8 HCw9 HB5 BKw8 HGw8
      go_at_call 21
      refine (waybilllaw05_num.calls 0 0 _ rfl).mono ?_
      rintro e w11 ⟨rfl, hd⟩
      have K11 := Aside0.mk (heapB K9.out hd.below)
      have G11 := Aside0.mk (heapB G9.out hd.below)
      have HB11 := Aside0.mk (below_b HB9.out hd.below HB9.out.size)
      have HS := Same.calls 100 x A1 A2 A3 B1 B2 B3 c1 c2 c3 d1 d2 d3 w11 (C9.out.below hd.below) (by have := Y9.out.below hd.below; rw [HYX.out] at this; exact this) (HTT.out (by first | rfl | trivial)) (HMM.out (by first | rfl | trivial))
      have m1e : m1 = n1 := by rw [HNY.out.1, HNX.out.1, HYX.out]
      have m2e : m2 = n2 := by rw [HNY.out.2.1, HNX.out.2.1, HYX.out]
      have m3e : m3 = n3 := by rw [HNY.out.2.2, HNX.out.2.2, HYX.out]
      subst m1e m2e m3e
      rw [← HNX.out.1, ← HNX.out.2.1, ← HNX.out.2.2] at HS
      have HSS := Aside0.mk HS
      clear HS hd K9 G9 Y9 C9 HB9
      have p0 := zcell K11.out 0 _ rfl
      have p1 := zcell K11.out 1 _ rfl
      have p2 := zcell K11.out 2 _ rfl
      have q0 := zcell G11.out 0 _ rfl
      have q1 := zcell G11.out 1 _ rfl
      have q2 := zcell G11.out 2 _ rfl
      go_wp2_with fail
      go_at_call 23
      refine HSS.out.mono ?_
      rintro e w12 ⟨rfl, hb⟩
      have HB12 := Aside0.mk (below_b HB11.out hb HB11.out.size)
      clear hb p0 p1 p2 q0 q1 q2
      go_wp2_with fail
      go_ret
      exact ⟨rfl, HB12.out⟩
  · have hne : (pe != 0) = true := bne_iff_ne.mpr hpe
    have hse : S.toList = [] := by rw [HBAD.out hpe]; decide +kernel
    have hsq : (S.toList == []) = true := by rw [hse]; rfl
    clear hpe
    go_wp2_with fail
    go_at_call 21
    refine (waybilllaw05_num.calls pe pe _ rfl).mono ?_
    rintro e w4 ⟨rfl, hd⟩
    have HB4 := Aside0.mk (below_b HB3.out hd.below HB3.out.size)
    clear hd
    go_wp2_with fail
    go_ret
    exact ⟨by simp [hse], HB4.out⟩
theorem ParseBack_true (x : S40) (A1 A2 A3 : Option Addr) (c1 c2 c3 : Nat) (w : World) (hx : sch3 x w A1 A2 A3) : Calls Try.prog 12 #[.agg #[.slice A1 x.f0.length c1, .slice A2 x.f1.length c2, .slice A3 x.f2.length c3]] w fun e w' => e = .returned (.bool true) ∧ Below w.heap.size w w' := by
  obtain ⟨K, hK, hT⟩ := sch_tot2 x A1 A2 A3 w hx
  have hK6 : 60 ≤ K := by omega
  obtain ⟨y, yi, ye, hY⟩ : ∃ y i e, textF (printS K x) = (y, i, e) := ⟨_, _, _, rfl⟩
  have hg : printC K x = 0 → SchG x ∧ printS K x = txt (allL 60 x) := fun h => by
    have h64 : x.f0.length + x.f1.length + x.f2.length ≤ 64 := by
      by_cases h64 : x.f0.length + x.f1.length + x.f2.length ≤ 64
      · exact h64
      · unfold printC at h; rw [if_neg h64] at h; exact absurd h (by decide)
    have h0 : allC K x = 0 := by unfold printC at h; rwa [if_pos h64] at h
    have hg := good_of hT h64 h0
    exact ⟨hg, by unfold printS; rw [if_pos h, all_60 hK6 hg]⟩
  have hb : printC K x ≠ 0 → printS K x = ⟨#[]⟩ := fun h => if_neg h
  refine ParseBack.calls K hK6 x y A1 A2 A3 c1 c2 c3 w hx (printS K x) (printC K x) yi ye hT rfl rfl hY hb ?_ ?_ ?_ ?_
  · by_cases h : printC K x = 0
    · rw [(hg h).2, txt_size]; exact all_len x (hg h).1
    · rw [hb h]; exact Nat.zero_le _
  · intro h hl
    obtain ⟨h1, h2⟩ := hg h
    rw [h2] at hY hl
    have := print_back x h1 (by rw [txt_size] at hl; exact hl)
    rw [hY] at this
    injection this with a b
    injection b with b c
    exact ⟨a, b, c⟩
  · intro h q hq f hf
    exact same_tyg f.f2 (((hg h).1.1 _ ((ds_mem x).1 q hq)).2.2 f hf).2.2
  · intro h q hq f hf
    have := ((hg h).1.1 _ ((ds_mem x).2.2 q hq)).2.2 f hf
    exact same_methg f this.2.1 this.2.2
end Go.Proofs.Ytoloneoeojoiaaa.EParseBack

