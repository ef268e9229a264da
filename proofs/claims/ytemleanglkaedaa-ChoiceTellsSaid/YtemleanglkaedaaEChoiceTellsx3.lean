-- Written by a program of this seat, over a copy of the print; parts by hand.
import Derived.Test.YtemleanglkaedaaEChoiceTellsx0
import Derived.Test.YtemleanglkaedaaEChoiceTellsx2
namespace Go.Proofs.Ytemleanglkaedaa.EChoiceTells
open Go.RowKit Go.Proofs.YtemleanglkaedaaW.PrintWords Go.Proofs.YtemleanglkaedaaW.PrintLast Go.Proofs.YtemleanglkaedaaW.PrintMore
attribute [local go_sem] max2_int min2_int max_two min_two max_three min_three max_four min_four   -- for this text's walks alone
set_option linter.unusedVariables false
set_option linter.unusedSimpArgs false

-- by hand: choicetwo.inc
/-- One draw below n. -/
def drw (s n : Int) : Option (Int × Int) := (draw_Next.f s).bind fun p => (hash_Share.f p.2 n).bind fun q => some (p.1, q.1)
def dT (s n : Int) : Int × Int := (drw s n).getD (0, 0)
theorem next_some (s : Int) : ∃ p, draw_Next.f s = some p := by
  unfold draw_Next.f hash_Mix.f hash_fold.f
  exact ⟨_, rfl⟩
theorem share_some (x n : Int) : ∃ p, hash_Share.f x n = some p := by
  unfold hash_Share.f bits_Mul64.f
  split
  · exact ⟨_, rfl⟩
  · split
    · exact ⟨_, rfl⟩
    · exact ⟨_, rfl⟩
theorem drw_T (s n : Int) : drw s n = some (dT s n) := by
  have h : ∃ p, drw s n = some p := by
    unfold drw
    obtain ⟨p, hp⟩ := next_some s
    obtain ⟨q, hq⟩ := share_some p.2 n
    exact ⟨(p.1, q.1), by rw [hp, Option.bind_some, hq, Option.bind_some]⟩
  obtain ⟨p, hp⟩ := h
  unfold dT
  rw [hp]; rfl
set_option maxHeartbeats 400000 in
theorem stream_below.calls (b : Nat) (s n : Int) (w : World) (hb : w.heap[b]? = some (.cells #[.int .u64 s] 156 (0, 0))) :
    Calls Try.prog 83 #[.pointer (some ⟨b, 0, none⟩), .int .i64 n] w fun e w' => e = .returned (.int .i64 (dT s n).2) ∧ Ch (fun k => k = b) w w' ∧ w'.heap[b]? = some (.cells #[.int .u64 (dT s n).1] 156 (0, 0)) := by
  have h := drw_T s n
  obtain ⟨⟨s', k⟩, hd⟩ : ∃ p, p = dT s n := ⟨_, rfl⟩
  rw [← hd] at h ⊢
  clear hd
  unfold drw at h
  obtain ⟨⟨p1, p2⟩, h1, h⟩ := Option.bind_eq_some_iff.1 h
  obtain ⟨⟨q1, q2⟩, h2, h⟩ := Option.bind_eq_some_iff.1 h
  simp only [Option.some.injEq, Prod.mk.injEq] at h
  obtain ⟨rfl, rfl⟩ := h
  have A1 := Lib.hid h1
  have A2 := Lib.hid h2
  clear h1 h2
  have hc := cell_of_one hb
  have hf := free_of_one hb
  have HB := Lib.hid hb
  clear hb
  go_enter Try.func83, Try.ntmps83
  go_wp2_with (first | (go_at_call 102; refine (draw_Next.calls _ _ _ _ A1).mono ?_; rintro e w' ⟨rfl, ⟨n1, rfl⟩⟩) | (go_at_call 103; refine (hash_Share.calls _ _ _ _ _ A2).mono ?_; rintro e w' ⟨rfl, ⟨n2, rfl⟩⟩))
  go_ret
  exact ⟨rfl, ((((Ch.refl (fun k => k = b) w).drewN n1).set (p := ⟨b, 0, none⟩) (.inl rfl) _).drewN n2), one_setCell (w := w) HB.out⟩
def draw_Two.f (a0 : Int) (a1 : Int) : Option (Int × Int × Int × Int) :=
  if a1 < 2 then some (0, 0, 0, 4) else if a1 > 1048576 then some (0, 0, 0, 4) else
    some ((dT (dT a0 a1).1 (a1 - 1)).1, (dT a0 a1).2, if (dT (dT a0 a1).1 (a1 - 1)).2 ≥ (dT a0 a1).2 then wrap64 ((dT (dT a0 a1).1 (a1 - 1)).2 + 1) else (dT (dT a0 a1).1 (a1 - 1)).2, 0)
set_option maxHeartbeats 400000 in
theorem draw_Two.calls (a0 : Int) (a1 : Int) (r1 : Int) (r2 : Int) (r3 : Int) (r4 : Int) (w : World) (h : draw_Two.f a0 a1 = some (r1, r2, r3, r4)) :
    Calls Try.prog 64 #[.int .u64 a0, .int .i64 a1] w fun e w' => e = .returned (.tuple #[.int .u64 r1, .int .i64 r2, .int .i64 r3, .int .i64 r4]) ∧ Below w.heap.size w w' := by
  unfold draw_Two.f at h
  by_cases c1 : a1 < 2
  · rw [if_pos c1] at h
    simp only [Option.some.injEq, Prod.mk.injEq] at h
    obtain ⟨rfl, rfl, rfl, rfl⟩ := h
    go_enter Try.func64, Try.ntmps64
    go_wp2
    refine bodyPost_ret (v := .tuple #[.int .u64 0, .int .i64 0, .int .i64 0, .int .i64 4]) (by simp [results, Try.results64, go_sem]) rfl ?_
    exact ⟨rfl, Below.refl _ _⟩
  rw [if_neg c1] at h
  by_cases c2 : a1 > 1048576
  · rw [if_pos c2] at h
    simp only [Option.some.injEq, Prod.mk.injEq] at h
    obtain ⟨rfl, rfl, rfl, rfl⟩ := h
    go_enter Try.func64, Try.ntmps64
    go_wp2
    refine bodyPost_ret (v := .tuple #[.int .u64 0, .int .i64 0, .int .i64 0, .int .i64 4]) (by simp [results, Try.results64, go_sem]) rfl ?_
    exact ⟨rfl, Below.refl _ _⟩
  rw [if_neg c2] at h
  simp only [Option.some.injEq, Prod.mk.injEq] at h
  obtain ⟨rfl, rfl, rfl, rfl⟩ := h
  obtain ⟨s1, hs1⟩ : ∃ x, x = (dT a0 a1).1 := ⟨_, rfl⟩
  obtain ⟨k1, hk1⟩ : ∃ x, x = (dT a0 a1).2 := ⟨_, rfl⟩
  obtain ⟨s2, hs2⟩ : ∃ x, x = (dT s1 (a1 - 1)).1 := ⟨_, rfl⟩
  obtain ⟨k2, hk2⟩ : ∃ x, x = (dT s1 (a1 - 1)).2 := ⟨_, rfl⟩
  rw [← hs1, ← hk1, ← hs2, ← hk2]
  have E1 := Lib.hid hs1
  have E2 := Lib.hid hk1
  have E3 := Lib.hid hs2
  have E4 := Lib.hid hk2
  clear hs1 hk1 hs2 hk2
  by_cases c3 : k2 ≥ k1
  all_goals
    first | rw [if_pos c3] | rw [if_neg c3]
    go_enter Try.func64, Try.ntmps64
    go_wp2_with fail
    refine (stream_below.calls _ _ _ _ (heap_alloc_new _ _)).mono ?_
    rintro e W1 ⟨rfl, HC, HS⟩
    rw [← E1.out] at HS
    rw [← E2.out]
    have X := Lib.hid HC
    have Y := Lib.hid HS
    clear HC HS
    go_wp2_with fail
    refine (stream_below.calls _ _ _ _ Y).mono ?_
    rintro e W2 ⟨rfl, HC, HS⟩
    rw [← E3.out] at HS
    rw [← E4.out]
    have hcl := cell_of_one HS
    have X2 := Lib.hid HC
    clear HC HS
    go_wp2
    refine bodyPost_ret (by simp [results, Try.results64, go_sem]; rfl) rfl ?_
    exact ⟨rfl, below_ch (below_ch (below_alloc (Below.refl _ w) _) X (by simp) (fun k h => by omega)) X2 (by have := X.out.size; simp at this; omega) (fun k h => by omega)⟩
theorem share_bd (x n : Int) (h0 : 0 ≤ x) (h1 : x < 18446744073709551616) (hn : 1 ≤ n) (hm : n ≤ 1048576) (p : Int × Int) (h : hash_Share.f x n = some p) : p.1 = (x / 4294967296) * n / 4294967296 ∧ p.2 = 0 := by
  unfold hash_Share.f at h
  rw [if_neg (by omega), if_neg (by omega)] at h
  unfold bits_Mul64.f at h
  simp only [Option.bind_some, Option.some.injEq] at h
  have e1 : IntKind.u64.wrap (x / 4294967296 * 4294967296) = x / 4294967296 * 4294967296 := by simp [IntKind.wrap, IntKind.bits, IntKind.signed]; omega
  have e2 : IntKind.u64.wrap n = n := by simp [IntKind.wrap, IntKind.bits, IntKind.signed]; omega
  have mask : ∀ y : Int, 0 ≤ y → y < 18446744073709551616 → Go.bits .and .u64 y 4294967295 = y % 4294967296 := fun y a b => by
    have := bits_mask .u64 64 (Nat.le_refl _) (fun n a b => by simp [IntKind.wrap, IntKind.bits, IntKind.signed]; omega) 32 (by decide) y a (by simpa using b)
    simpa using this
  have wu : ∀ n : Int, IntKind.u64.wrap n = n % 18446744073709551616 := fun n => by simp [IntKind.wrap, IntKind.bits, IntKind.signed]
  rw [e1, e2] at h
  obtain ⟨H, hH⟩ : ∃ H, H = x / 4294967296 := ⟨_, rfl⟩
  have H0 : 0 ≤ H := by omega
  have H1 : H < 4294967296 := by omega
  rw [← hH] at h ⊢
  rw [mask n (by omega) (by omega), mask (H * 4294967296) (by omega) (by omega)] at h
  rw [show H * 4294967296 / 4294967296 = H by omega, show H * 4294967296 % 4294967296 = 0 by omega, show n % 4294967296 = n by omega, show n / 4294967296 = 0 by omega] at h
  obtain ⟨p1, p2⟩ := p
  simp only [Prod.mk.injEq, Int.mul_zero, Int.zero_mul] at h
  obtain ⟨h, rfl⟩ := h
  refine ⟨?_, rfl⟩
  have q0 : 0 ≤ H * n := Int.mul_nonneg H0 (by omega)
  have q1 : H * n ≤ 4294967295 * 1048576 := Int.mul_le_mul (by omega) hm (by omega) (by omega)
  generalize H * n = q at h q0 q1 ⊢
  simp only [wu] at h
  rw [mask _ (by omega) (by omega)] at h
  unfold wrap64 at h
  show p1 = q / 4294967296
  omega
theorem share_lt (x n : Int) (h0 : 0 ≤ x) (h1 : x < 18446744073709551616) (hn : 1 ≤ n) (hm : n ≤ 1048576) (p : Int × Int) (h : hash_Share.f x n = some p) : 0 ≤ p.1 ∧ p.1 < n := by
  obtain ⟨h2, _⟩ := share_bd x n h0 h1 hn hm p h
  rw [h2]
  have q0 : 0 ≤ x / 4294967296 * n := Int.mul_nonneg (by omega) (by omega)
  have q1 : x / 4294967296 * n ≤ 4294967295 * n := Int.mul_le_mul_of_nonneg_right (by omega) (by omega)
  omega
theorem fold_rng (x : Int) (p : Int) (h : hash_fold.f x = some p) : 0 ≤ p ∧ p < 18446744073709551616 := by
  unfold hash_fold.f at h
  obtain rfl := Option.some.inj h
  unfold Go.bits
  simp [IntKind.wrap, IntKind.bits, IntKind.signed]
  omega
theorem next_rng (s : Int) (p : Int × Int) (h : draw_Next.f s = some p) : 0 ≤ p.2 ∧ p.2 < 18446744073709551616 := by
  unfold draw_Next.f at h
  obtain ⟨q, hq, h⟩ := Option.bind_eq_some_iff.1 h
  obtain rfl := Option.some.inj h
  unfold hash_Mix.f at hq
  obtain ⟨a, ha, hq⟩ := Option.bind_eq_some_iff.1 hq
  obtain ⟨b, hb, hq⟩ := Option.bind_eq_some_iff.1 hq
  obtain ⟨c, hc, hq⟩ := Option.bind_eq_some_iff.1 hq
  obtain rfl := Option.some.inj hq
  exact fold_rng _ _ hc
theorem dT_bd (s n : Int) (hn : 1 ≤ n) (hm : n ≤ 1048576) : 0 ≤ (dT s n).2 ∧ (dT s n).2 < n := by
  have h := drw_T s n
  unfold drw at h
  obtain ⟨p, h1, h⟩ := Option.bind_eq_some_iff.1 h
  obtain ⟨q, h2, h⟩ := Option.bind_eq_some_iff.1 h
  have h := Option.some.inj h
  rw [← h]
  exact share_lt _ _ (next_rng _ _ h1).1 (next_rng _ _ h1).2 hn hm _ h2
/-- Two places of n, behind s. -/
def dTwo (s n : Int) : Int × Int × Int := ((dT (dT s n).1 (n - 1)).1, (dT s n).2, if (dT (dT s n).1 (n - 1)).2 ≥ (dT s n).2 then (dT (dT s n).1 (n - 1)).2 + 1 else (dT (dT s n).1 (n - 1)).2)
theorem dTwo_bd (s n : Int) (h : 2 ≤ n) (h2 : n ≤ 1048576) : 0 ≤ (dTwo s n).2.1 ∧ (dTwo s n).2.1 < n ∧ 0 ≤ (dTwo s n).2.2 ∧ (dTwo s n).2.2 < n ∧ (dTwo s n).2.1 ≠ (dTwo s n).2.2 := by
  have h1 := dT_bd s n (by omega) h2
  have h3 := dT_bd (dT s n).1 (n - 1) (by omega) (by omega)
  unfold dTwo
  simp only []
  split <;> omega
theorem two_f (s n : Int) (h : 2 ≤ n) (h2 : n ≤ 1048576) : draw_Two.f s n = some ((dTwo s n).1, (dTwo s n).2.1, (dTwo s n).2.2, 0) := by
  have h3 := dT_bd (dT s n).1 (n - 1) (by omega) (by omega)
  unfold draw_Two.f dTwo
  rw [if_neg (by omega), if_neg (by omega), show wrap64 ((dT (dT s n).1 (n - 1)).2 + 1) = (dT (dT s n).1 (n - 1)).2 + 1 by unfold wrap64; omega]
/-- The less busy one of two places. -/
def pickL (s : Int) (l : List S30) : Int × Int := if l.length = 1 then (s, 0) else ((dTwo s l.length).1, if (rd_T30 l (dTwo s l.length).2.2).f1 < (rd_T30 l (dTwo s l.length).2.1).f1 then (dTwo s l.length).2.2 else (dTwo s l.length).2.1)
set_option maxRecDepth 100000 in
set_option maxHeartbeats 2000000 in
theorem two.calls (b : Nat) (A : Option Addr) (c : Nat) (l : List S30) (s : Int) (w : World) (hb : w.heap[b]? = some (.cells #[.int .u64 s, .slice A l.length c] 96 (0, 0))) (hr : Kd.C k30 w A l.length l) (hc : l.length ≤ c) (hne : ∀ ad, A = some ad → ad.block ≠ b) (hl : 0 < l.length) (hl2 : l.length ≤ 32) :
    Calls Try.prog 37 #[.pointer (some ⟨b, 0, none⟩)] w fun e w' => e = .returned (.int .i64 (pickL s l).2) ∧ Ch (fun k => k = b) w w' ∧ w'.heap[b]? = some (.cells #[.int .u64 (pickL s l).1, .slice A l.length c] 96 (0, 0)) := by
  have HB := Aside0.mk hb
  have HR := Aside0.mk hr
  have hc0 := zcell hb 0 _ rfl
  have hc1 := zcell hb 1 _ rfl
  have hf0 := zfree hb 0
  unfold pickL
  by_cases h1 : l.length = 1
  · rw [if_pos h1]
    have h1I : (l.length : Int) = 1 := by omega
    have HB2 := HB
    clear hb hr hl hl2
    go_enter Try.func37, Try.ntmps37
    go_wp2_with fail
    go_ret
    exact ⟨rfl, Ch.refl _ _, HB.out⟩
  · rw [if_neg h1]
    have h1I : ¬ (l.length : Int) = 1 := by omega
    obtain ⟨n, hn⟩ : ∃ n : Int, n = l.length := ⟨_, rfl⟩
    have hbd := dTwo_bd s n (by omega) (by omega)
    have h2 := two_f s n (by omega) (by omega)
    rw [hn] at h2 hbd
    obtain ⟨d1, e1⟩ : ∃ x, x = (dTwo s l.length).1 := ⟨_, rfl⟩
    obtain ⟨da, e2⟩ : ∃ x, x = (dTwo s l.length).2.1 := ⟨_, rfl⟩
    obtain ⟨db, e3⟩ : ∃ x, x = (dTwo s l.length).2.2 := ⟨_, rfl⟩
    rw [← e1, ← e2, ← e3] at h2
    rw [← e1, ← e2, ← e3]
    rw [← e2, ← e3] at hbd
    obtain ⟨b1, b2, b3, b4, _⟩ := hbd
    have H2 := Aside0.mk h2
    obtain ⟨ad, ea, hxa, hya⟩ := at_T30 hr da b1 b2
    cases ea
    obtain ⟨ad2, eb, hxb, hyb⟩ := at_T30 hr db b3 b4
    cases eb
    have hnb := hne ad rfl
    obtain ⟨x, hxe⟩ : ∃ x, x = rd_T30 l da := ⟨_, rfl⟩
    obtain ⟨y, hye⟩ : ∃ x, x = rd_T30 l db := ⟨_, rfl⟩
    rw [← hxe] at hxa hya
    rw [← hye] at hxb hyb
    rw [← hxe, ← hye]
    obtain ⟨z, hz⟩ : ∃ z, z = lessI y x := ⟨_, rfl⟩
    obtain ⟨r, hrr⟩ : ∃ r, r = if y.f1 < x.f1 then db else da := ⟨_, rfl⟩
    rw [← hrr]
    have hzr : z < 0 ∧ db = r ∨ ¬ z < 0 ∧ da = r := by
      rw [hz, hrr]
      unfold lessI
      by_cases hlt : y.f1 < x.f1
      · rw [if_pos hlt, if_pos hlt]; left; exact ⟨by decide, rfl⟩
      · rw [if_neg hlt, if_neg hlt]; right; refine ⟨?_, rfl⟩; split <;> decide
    have HZ := Aside0.mk hz
    have hnb1 : ∀ k, ¬ (ad.add k).block = b := fun k => by unfold Addr.add; split <;> exact hnb
    have HNB := Aside0.mk hnb1
    clear hz hrr hnb hnb1
    have HXA := Aside0.mk hxa
    have HYA := Aside0.mk hya
    have HXB := Aside0.mk hxb
    have HYB := Aside0.mk hyb
    clear hb hr h2 hxa hya hxb hyb e1 e2 e3 hn n hne hxe hye
    rcases hzr with ⟨hz0, rfl⟩ | ⟨hz0, rfl⟩
    all_goals
      go_enter Try.func37, Try.ntmps37
      go_wp2_with fail
      go_region_with (go_at_call 64; refine (draw_Two.calls s _ d1 da db 0 _ H2.out).mono ?_; rintro e w1 ⟨rfl, hb⟩; have HC : Aside0 (Ch (fun k => k = b) w w1) := ⟨by first | exact Ch.of_below hb _ | exact ((Ch.refl _ w).drew).thenB hb⟩; have HC0 : Aside0 (Ch (fun _ => False) w w1) := ⟨by first | exact Ch.of_below hb _ | exact ((Ch.refl _ w).drew).thenB hb⟩; clear hb)
      all_goals
        have hB1 := HC0.out.heap HB.out (fun h => h)
        have q0 := zcell hB1 0 _ rfl
        have q1 := zcell hB1 1 _ rfl
        have qf := zfree hB1 0
        have hS := zset hB1 0 (.int .u64 d1)
        have g1 := zcell hS 1 (.slice (some ad) l.length c) rfl
        have hx1 := (HC0.out.cell HXA.out (fun h => h))
        have hx2 := (HC0.out.cell HYA.out (fun h => h))
        have hx3 := (HC0.out.cell HXB.out (fun h => h))
        have hx4 := (HC0.out.cell HYB.out (fun h => h))
        have hx1' := ((Ch.refl (fun k => k = b) w1).set (p := ⟨b, 0, none⟩) (.inl rfl) (.int .u64 d1)).cell hx1 (HNB.out _)
        have hx2' := ((Ch.refl (fun k => k = b) w1).set (p := ⟨b, 0, none⟩) (.inl rfl) (.int .u64 d1)).cell hx2 (HNB.out _)
        have hx3' := ((Ch.refl (fun k => k = b) w1).set (p := ⟨b, 0, none⟩) (.inl rfl) (.int .u64 d1)).cell hx3 (HNB.out _)
        have hx4' := ((Ch.refl (fun k => k = b) w1).set (p := ⟨b, 0, none⟩) (.inl rfl) (.int .u64 d1)).cell hx4 (HNB.out _)
        have HS := Aside0.mk hS
        have HW := Aside0.mk (HC.out.set (p := ⟨b, 0, none⟩) (.inl rfl) (.int .u64 d1))
        clear hB1 hS hx1 hx2 hx3 hx4 hc0 hc1 hf0
        go_wp2_with fail
        generalize w1.setCell ⟨b, 0, none⟩ (.int .u64 d1) = W at hx1' hx2' hx3' hx4' g1 HS HW ⊢
        clear q0 q1 qf
        go_region_with (go_at_call 36; refine (choice_less.calls y.f0 y.f1 x.f0 x.f1 _ _ (less_f y x)).mono ?_; rintro e w2 ⟨rfl, hb⟩; rw [← HZ.out]; have HC2 : Aside0 (Ch (fun _ => False) W w2) := ⟨by first | exact Ch.of_below hb _ | exact ((Ch.refl _ W).drew).thenB hb⟩; clear hb)
        all_goals
          go_wp2_with fail
          go_ret
          exact ⟨rfl, HW.out.trans HC2.out (fun _ h => h.elim), HC2.out.heap HS.out (fun h => h)⟩
theorem pick_bd (s : Int) (l : List S30) (hl : 0 < l.length) (hl2 : l.length ≤ 32) : 0 ≤ (pickL s l).2 ∧ (pickL s l).2 < l.length := by
  unfold pickL
  by_cases h : l.length = 1
  · rw [if_pos h]; exact ⟨by show (0 : Int) ≤ 0; omega, by show (0 : Int) < _; omega⟩
  · rw [if_neg h]
    have := dTwo_bd s l.length (by omega) (by omega)
    simp only []
    split <;> omega
theorem ask_le (l : List S30) (h : askL l = 0) : l.length ≤ 32 := by
  have hc : checkL l = 0 := by
    unfold askL at h
    split at h
    · assumption
    · rename_i h2; exact absurd h h2
  unfold checkL at hc
  apply Classical.byContradiction
  intro h2; rw [if_pos (by omega)] at hc; exact absurd hc (by decide)
def twoL (s : Int) (l : List S30) : Int × Int × Int := if askL l = 0 then ((pickL s l).1, (rd_T30 l (pickL s l).2).f0, 0) else (0, 0, askL l)
def choice_Two.f (s : Int) (l : List S30) : Option (Int × Int × Int) := some (twoL s l)
set_option maxRecDepth 100000 in
set_option maxHeartbeats 2000000 in
theorem choice_Two.calls (a0 : Int) (A1 : Option Addr) (c1 : Nat) (l1 : List S30) (r0 r1 r2 : Int) (w : World) (hr1 : Kd.C k30 w A1 l1.length l1) (hc1 : l1.length ≤ c1) (h : choice_Two.f a0 l1 = some (r0, r1, r2)) :
    Calls Try.prog 15 #[.int .u64 a0, .slice A1 l1.length c1] w fun e w' => e = .returned (.tuple #[.int .u64 r0, .int .i64 r1, .int .i64 r2]) ∧ Below w.heap.size w w' := by
  have HR := Aside0.mk hr1
  have h := Option.some.inj h
  unfold twoL at h
  obtain ⟨k, hk⟩ : ∃ k, k = askL l1 := ⟨_, rfl⟩
  have HP : Aside0 (k = 0 → 0 < l1.length ∧ l1.length ≤ 32) := ⟨fun h => ⟨ask_pos l1 (by rw [← hk]; exact h), ask_le l1 (by rw [← hk]; exact h)⟩⟩
  rw [← hk] at h
  have HK := Aside0.mk hk
  clear hk
  by_cases h0 : k = 0
  · subst h0
    rw [if_pos rfl] at h
    obtain ⟨hl, hl2⟩ := HP.out rfl
    have hp := pick_bd a0 l1 hl hl2
    injection h with e1 e2
    injection e2 with e2 e3
    subst e3
    obtain ⟨at_, hat⟩ : ∃ x, x = (pickL a0 l1).2 := ⟨_, rfl⟩
    rw [← hat] at e2 hp
    obtain ⟨ad, ea, hx, _⟩ := at_T30 hr1 at_ hp.1 hp.2
    cases ea
    rw [e2] at hx
    have hlt := Kd.C_lt hr1 hl (by decide)
    have HLT := Aside0.mk hlt
    have HX := Aside0.mk hx
    have HAT := Aside0.mk hat
    have HE1 := Aside0.mk e1
    have HL := Aside0.mk hl
    have HL2 := Aside0.mk hl2
    obtain ⟨p0, p1⟩ := hp
    clear HP hr1 hx hat e1 e2 hlt hl hl2
    go_enter Try.func15, Try.ntmps15
    go_wp2_with (first | (go_at_call 34; refine (ask.calls _ _ _ _ HR.out hc1).mono ?_; rintro e w1 ⟨rfl, hb⟩; rw [← HK.out]; have HB := Aside0.mk hb; have HC := Aside0.mk (Ch.of_below hb (fun _ => False)); clear hb))
    refine (two.calls _ _ _ _ a0 _ (heap_alloc_new _ _) (C30_below (C30_below HR.out HB.out (Nat.le_refl _)) (below_alloc (Below.refl _ _) _) (Nat.le_refl _)) hc1 ?_ HL.out HL2.out).mono ?_
    · intro ad2 e hb
      cases e
      have := HLT.out
      have := HB.out.size
      omega
    · rintro e w2 ⟨rfl, hC, hS⟩
      rw [← HAT.out]
      rw [HE1.out] at hS
      have hd0 := zcell hS 0 _ rfl
      have hne : ¬ ad.block = w1.heap.size := by have := HLT.out; have := HB.out.size; omega
      have hx2 := hC.cell (((Ch.refl (fun _ => False) w1).alloc _).cell (HC.out.cell HX.out (fun h => h)) (fun h => h)) (by unfold Addr.add; split <;> exact hne)
      have HB2 := Aside0.mk (below_ch (below_alloc HB.out _) hC (by have := HB.out.size; have e : (w1.alloc (.cells #[.int .u64 a0, .slice (some ad) l1.length c1] 96 (0, 0))).heap.size = w1.heap.size + 1 := Array.size_push _; omega) (fun k h => by have := HB.out.size; omega))
      clear hC hS
      go_wp2_with fail
      go_quiet (fail)
      go_wp2_with fail
      go_ret3
      exact ⟨rfl, by repeat (first | exact HB2.out | apply pw_below_drewN | apply below_drew1)⟩
  · rw [if_neg h0] at h
    injection h with h1 h2
    injection h2 with h2 h3
    subst h1 h2 h3
    clear HP hr1
    go_enter Try.func15, Try.ntmps15
    go_wp2_with (first | (go_at_call 34; refine (ask.calls _ _ _ _ HR.out hc1).mono ?_; rintro e w1 ⟨rfl, hb⟩; rw [← HK.out]; have HB := Aside0.mk hb; clear hb))
    go_ret3
    exact ⟨rfl, HB.out⟩

-- by hand: choicespread.inc
/-- Is one too busy for so many more? -/
def sprB (n : Int) (x : S30) : Bool := decide (1048576 - n < x.f1)
theorem k30_C_below {w w1 : World} {A : Option Addr} {n B : Nat} {xs : List S30} (h : Kd.C k30 w A n xs) (hb : Below B w w1) (hB : w.heap.size ≤ B) : Kd.C k30 w1 A n xs := heap30.C (fun k hk => hb.block k (by omega)) h
set_option maxHeartbeats 400000 in
theorem spr1.calls (x : S30) (p : Addr) (n : Int) (w : World) (hn : w.cell? p = some (.int .i64 n)) (h0 : 0 ≤ n) (h1 : n ≤ 4096) :
    Calls Try.prog 39 #[.agg #[.int .i64 x.f0, .int .i64 x.f1], .pointer (some p)] w fun e w' => e = .returned (.bool (sprB n x)) ∧ Below w.heap.size w w' := by
  have hn2 := (Ch.alloc (Ch.refl (fun _ => False) w) (.cells #[.int .i64 x.f0, .int .i64 x.f1] 30 (0, 0))).cell hn (fun h => h)
  clear hn
  unfold sprB
  go_enter Try.func39, Try.ntmps39
  go_wp2_with fail
  go_ret
  exact ⟨rfl, below_alloc (Below.refl _ _) _⟩
theorem sp_R_empty {α : Type} (d : Kd α) (e : Nat) (w : World) (base : Nat) (ok : Nat → Prop) (hb : base ≤ w.heap.size) (hok : ok w.heap.size) : d.R e (w.alloc (.cells #[] e)) base ok (.slice (some ⟨w.heap.size, 0, none⟩) 0 0) [] :=
  ⟨fun k hk => by have : w.heap.size = k := by simpa [Value.ownBlock] using hk
                  rw [← this]; exact hok, [], World.ownsRow_made w #[] 0 hb (by decide) (by simp), Reps.none _ _⟩
set_option maxHeartbeats 1000000 in
set_option maxRecDepth 100000 in
theorem clone30.calls (ad : Addr) (c : Nat) (l : List S30) (w : World) (hr : Kd.C k30 w (some ad) l.length l) (hc : l.length ≤ c) (hl : l.length ≤ 32) :
    Calls Try.prog 40 #[.slice (some ad) l.length c] w fun e w' => (∃ v, e = .returned v ∧ Kd.R k30 30 w' w.heap.size (fun _ => True) v l) ∧ Below w.heap.size w w' := by
  have HR := Aside0.mk hr
  have HL := Aside0.mk hl
  clear hr hl
  have hnl := Lib.run_eql_slice_nil (P := Try.prog) w 22 30 (some ad) l.length c 0 0 Try.underlying22
  go_enter Try.func40, Try.ntmps40
  go_wp2_with (first | ((with_reducible refine gate_builtin (b := .append) (xs := #[.tmp 5, .tmp 6]) rfl ?_); at_builtin; refine Kd.R_append_rows k30 (w0 := w) w.heap.size rfl (.tmp 5) (.tmp 6) 22 30 (.agg #[(.int .i64 0), (.int .i64 0)]) 16 rfl Try.underlying22 info30 rfl (by decide) (by omega) (.slice (some ⟨w.heap.size, 0, none⟩) 0 0) ([] : List (S30)) l _ _ _ (fun _ => True) (fun _ => False) rfl rfl ?aO ?aR (fun _ _ h => h) (fun _ h => h.elim) ?aF ?aB ?aS ?aL ?_; (case aR => exact Kd.C_alloc HR.out _); (case aB => exact below_alloc (Below.refl _ _) _); (case aF => exact (fun _ _ => trivial)); (case aO => exact sp_R_empty k30 30 w _ _ (Nat.le_refl _) trivial); (case aS => exact below_size (below_alloc (Below.refl _ _) _)); (case aL => have := HL.out; simp only [List.length_nil]; omega); intro v117 w3 ho hb hg hat; have HB := Aside0.mk hb; have HO := Aside0.mk ho; clear ho hb hg hat))
  go_ret
  exact ⟨⟨_, rfl, HO.out⟩, HB.out⟩
theorem spr_idx.calls (A : Option Addr) (c : Nat) (l : List S30) (p : Addr) (n : Int) (w : World) (hr : Kd.C k30 w A l.length l) (hc : l.length ≤ c) (h0 : 0 ≤ n) (h1 : n ≤ 4096) (hn : w.cell? (p) = some (.int .i64 n)) :
    Calls Try.prog 65 #[.slice A l.length c, .func (.func 39) #[] #[.pointer (some p)]] w fun e w' => e = .returned (.int .i64 (idxL (sprB n) l)) ∧ Below w.heap.size w w' := by
  have HR := Aside0.mk hr
  have hlen : l.length ≤ 9223372036854775807 := hr.2.1
  have HB := Aside0.mk (Below.refl w.heap.size w)
  have Hhn := Aside0.mk hn
  clear hn
  clear hr
  obtain ⟨g, hg⟩ : ∃ g, g = idxL (sprB n) l := ⟨_, rfl⟩
  rw [← hg]
  have HG : Aside0 (g = idxFrom (sprB n) 0 (l.drop 0)) := ⟨hg⟩
  clear hg
  go_enter Try.func65, Try.ntmps65
  go_wp2
  go_loopw [5, 8] (fun v5 v8 W => ∃ i : Int, 0 ≤ i ∧ i ≤ l.length ∧ v8 = .int .i64 i ∧ Aside0 (g = idxFrom (sprB n) i (l.drop i.toNat)) ∧ Aside0 (Below w.heap.size w W)) (fun _ v _ => l.length - (intOf v).toNat)
  case atStart => exact ⟨0, by omega, by omega, rfl, HG, HB⟩
  case round =>
    clear HB HG
    obtain ⟨i, i0, ile, rfl, HG, HB⟩ := hrel
    have HRw := Aside0.mk (k30_C_below HR.out HB.out (Nat.le_refl _))
    have hn := (Ch.of_below HB.out (fun _ => False)).cell Hhn.out (fun h => h)
    by_cases hlt : i < l.length
    · obtain ⟨ad, e1, hx0, hx1⟩ := at_T30 HRw.out i i0 hlt
      cases e1
      have HS := Aside0.mk (idx_step (sprB n) l z30 i i0 hlt)
      obtain ⟨o, ho⟩ : ∃ o, o = (sprB n) (rd_T30 l i) := ⟨_, rfl⟩
      have HO := Aside0.mk ho
      clear ho
      cases o
      · have hgi : g = idxFrom (sprB n) (i + 1) (l.drop (i + 1).toNat) := by rw [HG.out, HS.out]; exact if_neg (by show ¬ (sprB n) (rd_T30 l i) = true; rw [← HO.out]; decide)
        have HG2 := Aside0.mk hgi
        clear hgi
        go_wp2_with (first | (go_at_call 39; refine (spr1.calls (rd_T30 l i) p n _ hn h0 h1).mono ?_; rintro e w1 ⟨rfl, hb⟩; rw [← HO.out]; have HB1 := Aside0.mk (below_b HB.out hb HB.out.size); clear hb))
        refine ⟨⟨i + 1, by omega, by omega, rfl, HG2, HB1⟩, ?_⟩
        simp [intOf]; omega
      · obtain rfl : i = g := by rw [HG.out, HS.out]; exact (if_pos HO.out.symm).symm
        go_wp2_with (first | (go_at_call 39; refine (spr1.calls (rd_T30 l i) p n _ hn h0 h1).mono ?_; rintro e w1 ⟨rfl, hb⟩; rw [← HO.out]; have HB1 := Aside0.mk (below_b HB.out hb HB.out.size); clear hb))
        go_ret
        exact ⟨rfl, HB1.out⟩
    · obtain rfl : g = -1 := by rw [HG.out, List.drop_eq_nil_of_le (by omega)]; rfl
      go_wp2
      go_ret
      exact ⟨rfl, HB.out⟩
theorem spr_any.calls (A : Option Addr) (c : Nat) (l : List S30) (p : Addr) (n : Int) (w : World) (hr : Kd.C k30 w A l.length l) (hc : l.length ≤ c) (h0 : 0 ≤ n) (h1 : n ≤ 4096) (hn : w.cell? (p) = some (.int .i64 n)) :
    Calls Try.prog 38 #[.slice A l.length c, .func (.func 39) #[] #[.pointer (some p)]] w fun e w' => e = .returned (.bool (l.any (sprB n))) ∧ Below w.heap.size w w' := by
  have HI := Aside0.mk (idx_any (sprB n) l)
  have HC := Aside0.mk (spr_idx.calls A c l p n w hr hc h0 h1 hn)
  clear hr hn
  go_enter Try.func38, Try.ntmps38
  go_wp2_with (first | (go_at_call 65; refine HC.out.mono ?_; rintro e w' ⟨rfl, hb⟩; have HB := Aside0.mk hb; clear hb))
  go_ret
  exact ⟨by rw [← HI.out]; rfl, HB.out⟩
def bump (l : List S30) (i : Int) : List S30 := l.set i.toNat ⟨(rd_T30 l i).f0, wrap64 ((rd_T30 l i).f1 + 1)⟩
/-- So many choices, one behind the other. -/
def spreadN : Nat → Int → List S30 → List S30
  | 0, _, l => l
  | n + 1, s, l => spreadN n (pickL s l).1 (bump l (pickL s l).2)
def spreadL (s n : Int) (l : List S30) : List S30 × Int := if askL l = 0 then (if n < 0 then ([], 4) else if n > 4096 then ([], 4) else if l.any (sprB n) = true then ([], 4) else (spreadN n.toNat s l, 0)) else ([], askL l)
theorem bump_len (l : List S30) (i : Int) : (bump l i).length = l.length := List.length_set
theorem spread_step (s n i : Int) (xs : List S30) (h : i < n) : spreadN (n - i).toNat s xs = spreadN (n - (i + 1)).toNat (pickL s xs).1 (bump xs (pickL s xs).2) := by
  rw [show (n - i).toNat = (n - (i + 1)).toNat + 1 by omega]; rfl
def choice_Spread.f (s n : Int) (l : List S30) : Option (List S30 × Int) := some (spreadL s n l)
set_option maxRecDepth 100000 in
set_option maxHeartbeats 4000000 in
theorem choice_Spread.calls (a0 a1 : Int) (A2 : Option Addr) (c2 : Nat) (l2 : List S30) (r0 : List S30) (r1 : Int) (w : World) (hr2 : Kd.C k30 w A2 l2.length l2) (hc2 : l2.length ≤ c2) (h : choice_Spread.f a0 a1 l2 = some (r0, r1)) :
    Calls Try.prog 16 #[.int .u64 a0, .int .i64 a1, .slice A2 l2.length c2] w fun e w' => ∃ v0_ : Value, e = .returned (.tuple #[v0_, .int .i64 r1]) ∧ Kd.R k30 30 w' w.heap.size (fun _ => True) v0_ r0 ∧ Below w.heap.size w w' := by
  have HR := Aside0.mk hr2
  have h := Option.some.inj h
  unfold spreadL at h
  obtain ⟨k, hk⟩ : ∃ k, k = askL l2 := ⟨_, rfl⟩
  have HP : Aside0 (k = 0 → 0 < l2.length ∧ l2.length ≤ 32) := ⟨fun h => ⟨ask_pos l2 (by rw [← hk]; exact h), ask_le l2 (by rw [← hk]; exact h)⟩⟩
  rw [← hk] at h
  have HK := Aside0.mk hk
  clear hk
  have hN0 := zcell (new_at w (.cells #[.int .i64 a1] 3 (0, 0))) 0 (.int .i64 a1) rfl
  have HN0 := Aside0.mk hN0
  have HB0 := Aside0.mk (below_alloc (Below.refl w.heap.size w) (.cells #[.int .i64 a1] 3 (0, 0)))
  clear hr2 hN0
  by_cases h0 : k = 0
  · subst h0
    rw [if_pos rfl] at h
    obtain ⟨hl, hl2⟩ := HP.out rfl
    clear HP
    have HL := Aside0.mk hl
    have HL2 := Aside0.mk hl2
    have hr2 := HR.out
    obtain ⟨ad, ea, _, _⟩ := at_T30 hr2 0 (by omega) (by omega)
    cases ea
    clear hl hl2 hr2
    by_cases n0 : a1 < 0
    · rw [if_pos n0] at h
      injection h with h1 h2
      subst h1 h2
      go_enter Try.func16, Try.ntmps16
      go_wp2_with (first | (go_at_call 34; refine (ask.calls _ _ _ _ (C30_below HR.out HB0.out (Nat.le_refl _)) hc2).mono ?_; rintro e w1 ⟨rfl, hb⟩; rw [← HK.out]; have hN1 := (Ch.of_below hb (fun _ => False)).cell HN0.out (fun h => h); have HB := Aside0.mk (below_b HB0.out hb HB0.out.size); clear hb))
      go_ret2
      exact ⟨_, rfl, Kd.R_nil _ _ _ _ _, HB.out⟩
    · rw [if_neg n0] at h
      by_cases n1 : a1 > 4096
      · rw [if_pos n1] at h
        injection h with h1 h2
        subst h1 h2
        go_enter Try.func16, Try.ntmps16
        go_wp2_with (first | (go_at_call 34; refine (ask.calls _ _ _ _ (C30_below HR.out HB0.out (Nat.le_refl _)) hc2).mono ?_; rintro e w1 ⟨rfl, hb⟩; rw [← HK.out]; have hN1 := (Ch.of_below hb (fun _ => False)).cell HN0.out (fun h => h); have HB := Aside0.mk (below_b HB0.out hb HB0.out.size); clear hb))
        go_ret2
        exact ⟨_, rfl, Kd.R_nil _ _ _ _ _, HB.out⟩
      · rw [if_neg n1] at h
        obtain ⟨o, ho⟩ : ∃ o, o = l2.any (sprB a1) := ⟨_, rfl⟩
        rw [← ho] at h
        have HO := Aside0.mk ho
        clear ho
        cases o
        · rw [if_neg (by decide)] at h
          injection h with h1 h2
          subst h2
          have HQ := Aside0.mk h1
          clear h1
          go_enter Try.func16, Try.ntmps16
          go_wp2_with (first | (go_at_call 34; refine (ask.calls _ _ _ _ (C30_below HR.out HB0.out (Nat.le_refl _)) hc2).mono ?_; rintro e w1 ⟨rfl, hb⟩; rw [← HK.out]; have hN1 := (Ch.of_below hb (fun _ => False)).cell HN0.out (fun h => h); have HN1 := Aside0.mk hN1; have HB := Aside0.mk (below_b HB0.out hb HB0.out.size); clear hb) | (go_at_call 38; refine (spr_any.calls _ _ _ _ _ _ (C30_below HR.out HB.out (Nat.le_refl _)) hc2 (by omega) (by omega) HN1.out).mono ?_; rintro e w2 ⟨rfl, hb⟩; rw [← HO.out]; clear hN1; have hN2 := (Ch.of_below hb (fun _ => False)).cell HN1.out (fun h => h); have HN2 := Aside0.mk hN2; have HB2 := Aside0.mk (below_b HB.out hb HB.out.size); clear hb) | (go_at_call 40; refine (clone30.calls _ _ _ _ (C30_below HR.out HB2.out (Nat.le_refl _)) hc2 HL2.out).mono ?_; rintro e w3 ⟨⟨v, rfl, hv⟩, hb⟩; clear hN2; obtain ⟨g3, cap3, rfl, hga, hgb, _⟩ := Kd.R_form hv HL.out; have HGA := Aside0.mk hga; have HGB := Aside0.mk hgb; clear hga hgb; have hN3 := ((Ch.of_below hb (fun _ => False)).alloc (.cells #[.int .u64 a0, .slice (some ⟨g3, 0, none⟩) l2.length cap3] 96 (0, 0))).cell HN2.out (fun h => h); have HV := Aside0.mk hv; have HB3 := Aside0.mk (below_b HB2.out hb HB2.out.size); clear hb hv))
          have HX3 := Aside0.mk (heap_alloc_new w3 (.cells #[.int .u64 a0, .slice (some ⟨g3, 0, none⟩) l2.length cap3] 96 (0, 0)))
          have HVA := Aside0.mk (Kd.R_mono (Kd.R_bound (Kd.R_alloc (Kd.R_bound HV.out) (.cells #[.int .u64 a0, .slice (some ⟨g3, 0, none⟩) l2.length cap3] 96 (0, 0)))) (ok' := fun k => k ≠ w3.heap.size) (fun k hk => by have := hk.1.2.2.1; omega))
          have HB4 := Aside0.mk (below_alloc HB3.out (.cells #[.int .u64 a0, .slice (some ⟨g3, 0, none⟩) l2.length cap3] 96 (0, 0)))
          have hsz2 := HB2.out.size
          have hsz3 := HB3.out.size
          have HBG : Aside0 (w.heap.size ≤ w3.heap.size) := ⟨hsz3⟩
          have HVB := Aside0.mk (Kd.R_lower HVA.out (base' := w.heap.size) hsz2)
          clear HN1 HN2 HV HVA HB HB2 HB3 HGA HGB hsz2 hsz3
          obtain ⟨b, hbb⟩ : ∃ b, b = w3.heap.size := ⟨_, rfl⟩
          rw [← hbb] at HX3 HVB HBG
          simp only [← hbb]
          clear hN3
          generalize w3.alloc (.cells #[.int .u64 a0, .slice (some ⟨g3, 0, none⟩) l2.length cap3] 96 (0, 0)) = W4 at HX3 HVB HB4 ⊢
          clear hbb
          have HQ2 : Aside0 (spreadN (a1 - 0).toNat a0 l2 = r0) := ⟨by rw [Int.sub_zero]; exact HQ.out⟩
          have HLen := Aside0.mk (Eq.refl l2.length)
          go_loopw [32] (fun v32 W => ∃ (i s : Int) (xs : List S30), 0 ≤ i ∧ i ≤ a1 ∧ v32 = .int .i64 i ∧ Aside0 (spreadN (a1 - i).toNat s xs = r0) ∧ Aside0 (xs.length = l2.length) ∧ Aside0 (W.heap[b]? = some (.cells #[.int .u64 s, .slice (some ⟨g3, 0, none⟩) l2.length cap3] 96 (0, 0))) ∧ Aside0 (Kd.R k30 30 W w.heap.size (fun k => k ≠ b) (.slice (some ⟨g3, 0, none⟩) l2.length cap3) xs) ∧ Aside0 (Below w.heap.size w W)) (fun v _ => (a1 - intOf v).toNat)
          case atStart => exact ⟨0, a0, l2, by omega, by omega, rfl, HQ2, ⟨rfl⟩, HX3, HVB, HB4⟩
          case round =>
            clear HX3 HVB HB4 HQ2 HQ HLen
            obtain ⟨i, s, xs, hi0, hi1, rfl, HQ, HLen, HX, HV, HB⟩ := hrel
            obtain ⟨hlx, hcx, hCx⟩ := Kd.R_reads' HV.out
            have hp := pick_bd s xs (by rw [← hlx]; exact HL.out) (by rw [← hlx]; exact HL2.out)
            rw [← hlx] at hp
            have HCX := Aside0.mk hCx
            have HCAP := Aside0.mk hcx
            clear hCx hcx hlx
            by_cases hlt : i < a1
            · have hst := spread_step s a1 i xs hlt
              obtain ⟨s1, hs1⟩ : ∃ x, x = (pickL s xs).1 := ⟨_, rfl⟩
              obtain ⟨j, hj⟩ : ∃ x, x = (pickL s xs).2 := ⟨_, rfl⟩
              rw [← hs1, ← hj] at hst
              rw [← hj] at hp
              obtain ⟨p0, p1⟩ := hp
              have HST := Aside0.mk hst
              have HS1 := Aside0.mk hs1
              have HJ := Aside0.mk hj
              have hX0 := zcell HX.out 0 _ rfl
              have hX1 := zcell HX.out 1 _ rfl
              clear hst hs1 hj
              go_wp2_with fail
              have HNE : Aside0 (g3 ≠ b) := ⟨HV.out.1 g3 rfl⟩
              go_region_with (go_at_call 37; refine (two.calls b (some ⟨g3, 0, none⟩) cap3 xs s _ (by rw [HLen.out]; exact HX.out) (by first | exact HCX.out | exact Kd.C_drew HCX.out) (by rw [HLen.out]; exact HCAP.out) ?h1 (by rw [HLen.out]; exact HL.out) (by rw [HLen.out]; exact HL2.out)).mono ?_; (case h1 => intro ad e; cases e; exact HNE.out); rintro e w5 ⟨rfl, hC, hS⟩; rw [← HJ.out]; rw [← HS1.out, HLen.out] at hS; have HC5 : Aside0 (Ch (fun k => k = b) wr w5) := ⟨by first | exact hC | exact ((Ch.refl (fun k => k = b) wr).drew).trans hC (fun k h => .inl h)⟩; have HS5 := Aside0.mk hS; have hX1' := zcell hS 1 (.slice (some ⟨g3, 0, none⟩) l2.length cap3) rfl; have HV5 := Aside0.mk (R_ch HV.out HC5.out (fun k hk => hk)); obtain ⟨ce, hcl, hM, hcc, hfr⟩ := Kd.R_elem HV5.out z30 j p0 p1; obtain rfl := k30_openM hM; have hx1 : w5.cell? ⟨g3, j.toNat * 2 + 1, none⟩ = some (.int .i64 (rd_T30 xs j).f1) := hcc 1 _ rfl; have hf1 : w5.frozen? ⟨g3, j.toNat * 2 + 1, none⟩ = false := hfr 1; clear hcl hcc hfr hM hC hS)
              all_goals
                clear hx1 hf1 hX1'
                go_wp2_with fail
                obtain ⟨ce, hcl, hM, hcc, hfr⟩ := Kd.R_elem HV5.out z30 j p0 p1
                obtain rfl := k30_openM hM
                have HP := Kd.R_seg HV5.out j p0 p1 (seg := [.int .i64 (wrap64 ((rd_T30 xs j).f1 + 1))]) (j := 1) hcl hcc (show 2 ≤ 2 from by decide) (x' := (⟨(rd_T30 xs j).f0, wrap64 ((rd_T30 xs j).f1 + 1)⟩ : S30)) (k30_mkM _ _ _ (⟨(rd_T30 xs j).f0, wrap64 ((rd_T30 xs j).f1 + 1)⟩ : S30)) (fun _ hk => hk)
                have hSb := ((Ch.refl (fun k => k = g3) w5).set (p := ⟨g3, j.toNat * 2 + 1, none⟩) (.inl rfl) (.int .i64 (wrap64 ((rd_T30 xs j).f1 + 1)))).heap HS5.out (fun e => HNE.out e.symm)
                have hg3 : w.heap.size ≤ g3 := (Kd.R_bound HV5.out).1 g3 rfl |>.2.1
                have hBb := below_ch (below_ch HB.out HC5.out HB.out.size (fun k h => by have := HBG.out; omega)) ((Ch.refl (fun k => k = g3) w5).set (p := ⟨g3, j.toNat * 2 + 1, none⟩) (.inl rfl) (.int .i64 (wrap64 ((rd_T30 xs j).f1 + 1)))) (by have := HB.out.size; have := HC5.out.size; omega) (fun k h => by omega)
                exact ⟨⟨i + 1, s1, bump xs j, by omega, by omega, rfl, ⟨HST.out.symm.trans HQ.out⟩, ⟨(bump_len xs j).trans HLen.out⟩, ⟨hSb⟩, ⟨HP.1⟩, ⟨hBb⟩⟩, by simp [intOf]; omega⟩
            · have hi : a1 - i = 0 := by omega
              have hr : xs = r0 := by have := HQ.out; rw [hi] at this; exact this
              subst hr
              have hX1 := zcell HX.out 1 (.slice (some ⟨g3, 0, none⟩) l2.length cap3) rfl
              clear hi
              go_wp2_with fail
              go_ret2
              exact ⟨_, rfl, Kd.R_mono HV.out (fun _ _ => trivial), HB.out⟩
        · rw [if_pos rfl] at h
          injection h with h1 h2
          subst h1 h2
          go_enter Try.func16, Try.ntmps16
          go_wp2_with (first | (go_at_call 34; refine (ask.calls _ _ _ _ (C30_below HR.out HB0.out (Nat.le_refl _)) hc2).mono ?_; rintro e w1 ⟨rfl, hb⟩; rw [← HK.out]; have hN1 := (Ch.of_below hb (fun _ => False)).cell HN0.out (fun h => h); have HN1 := Aside0.mk hN1; have HB := Aside0.mk (below_b HB0.out hb HB0.out.size); clear hb) | (go_at_call 38; refine (spr_any.calls _ _ _ _ _ _ (C30_below HR.out HB.out (Nat.le_refl _)) hc2 (by omega) (by omega) HN1.out).mono ?_; rintro e w2 ⟨rfl, hb⟩; rw [← HO.out]; have HB2 := Aside0.mk (below_b HB.out hb HB.out.size); clear hb))
          go_ret2
          exact ⟨_, rfl, Kd.R_nil _ _ _ _ _, HB2.out⟩
  · rw [if_neg h0] at h
    injection h with h1 h2
    subst h1 h2
    clear HP
    go_enter Try.func16, Try.ntmps16
    go_wp2_with (first | (go_at_call 34; refine (ask.calls _ _ _ _ (C30_below HR.out HB0.out (Nat.le_refl _)) hc2).mono ?_; rintro e w1 ⟨rfl, hb⟩; rw [← HK.out]; have HB := Aside0.mk (below_b HB0.out hb HB0.out.size); clear hb))
    go_ret2
    exact ⟨_, rfl, Kd.R_nil _ _ _ _ _, HB.out⟩

/-! ### waybilllaw14_own: function 17 -/
def waybilllaw14_own.f (l0 : List (S30)) : Option ((List (S30))) := if ([] : List (S30)).length + l0.length < 8796093022208 then (some (([] : List (S30)) ++ l0)) else (none)
set_option maxHeartbeats 8000000 in
set_option maxRecDepth 100000 in
theorem waybilllaw14_own.calls (A0 : Option Addr) (c0 : Nat) (l0 : List (S30)) (r : List (S30)) (w : World) (hr0 : Kd.C k30 w A0 l0.length l0) (hc0 : l0.length ≤ c0) (h : waybilllaw14_own.f l0 = some r) :
    Calls Try.prog 17 #[.slice A0 l0.length c0] w fun e w' => ∃ v0_ : Value, e = .returned (v0_) ∧ Kd.R k30 30 w' w.heap.size (fun _ => True) v0_ r ∧ Below w.heap.size w w' := by
  have HR0 := Aside0.mk hr0
  have HC0 := Aside0.mk hc0
  clear hr0 hc0
  have HB := Aside0.mk (Below.refl w.heap.size w)
  have H : (if ([] : List (S30)).length + l0.length < 8796093022208 then (some (([] : List (S30)) ++ l0)) else (none)) = some r := h
  clear h
  by_cases c2 : ([] : List (S30)).length + l0.length < 8796093022208
  · rw [if_pos c2] at H
    have LMc2 := Aside0.mk c2
    clear c2
    obtain ⟨y119, hy119⟩ : ∃ y_ : List (S30), y_ = (([] : List (S30)) ++ l0) := ⟨_, rfl⟩
    replace H : (some y119) = some r := by first | (rw [hy119]; with_reducible exact H) | (have H2_ := (Option.bind_some _ _).symm.trans H; rw [hy119]; with_reducible exact H2_) | (have H2_ := (Option.bind_some _ _).symm.trans H; with_reducible exact H2_) | with_reducible exact H | (rw [hy119]; exact H) | exact H
    have Ny119 := Aside0.mk hy119
    clear hy119
    obtain rfl := Option.some.inj H
    go_enter Try.func17, Try.ntmps17
    go_wp2_with (first | ((with_reducible refine gate_builtin (b := .append) (xs := #[.tmp 4, .tmp 5]) rfl ?_); at_builtin; refine Kd.R_append_rows k30 (w0 := w) w.heap.size rfl (.tmp 4) (.tmp 5) 22 30 (.agg #[(.int .i64 0), (.int .i64 0)]) 16 rfl Try.underlying22 info30 rfl (by decide) (by omega) (.slice none 0 0) ([] : List (S30)) l0 _ _ _ (fun _ => True) (fun _ => False) rfl rfl ?aO ?aR (fun _ _ h => h) (fun _ h => h.elim) ?aF ?aB ?aS ?aL ?_; (case aR => repeat (first | exact HR0.out | (with_reducible refine Kd.C_alloc ?_ _) | (with_reducible refine Kd.C_drewN ?_ _) | (with_reducible refine Kd.C_drew ?_))); (case aB => exact (by repeat (first | (with_reducible first | exact HB.out | apply below_alloc | apply pw_below_drewN | apply below_drew1) | exact HB.out))); (case aF => exact (fun _ _ => trivial)); (case aO => exact ((Kd.R_nil _ _ _ _ (fun _ => True)))); (case aS => exact (below_size (by repeat (first | (with_reducible first | exact HB.out | apply below_alloc | apply pw_below_drewN | apply below_drew1) | exact HB.out)))); (case aL => have := LMc2.out; omega); intro v120 w3 ho hb hg hat; rw [← Ny119.out] at ho; have n0_ := Aside0.mk (hb); have n1_ := Aside0.mk (ho); clear HB; have HB := n0_; have HO121 := n1_; clear n0_ n1_; clear ho hb hg hat))
    go_ret
    exact ⟨_, by first | rfl | (simp [errW_none, errW_some] <;> rfl) | (simp [*, errW_none, errW_some] <;> rfl), by (with_reducible repeat (first | apply Kd.R_alloc | apply Kd.R_drewN | apply Kd.R_drew)); exact HO121.out, by repeat (first | (with_reducible first | exact HB.out | apply below_alloc | apply pw_below_drewN | apply below_drew1) | exact HB.out)⟩
  · rw [if_neg c2] at H
    exact absurd H (by simp)

end Go.Proofs.Ytemleanglkaedaa.EChoiceTells
