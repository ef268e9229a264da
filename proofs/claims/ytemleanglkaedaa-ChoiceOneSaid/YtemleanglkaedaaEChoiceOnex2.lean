-- Written by a program of this seat, over a copy of the print; parts by hand.
import Derived.Test.YtemleanglkaedaaEChoiceOnex0
import Derived.Test.YtemleanglkaedaaEChoiceOnex1
namespace Go.Proofs.Ytemleanglkaedaa.EChoiceOne
open Go.RowKit Go.Proofs.YtemleanglkaedaaW.PrintWords Go.Proofs.YtemleanglkaedaaW.PrintLast Go.Proofs.YtemleanglkaedaaW.PrintMore
attribute [local go_sem] max2_int min2_int max_two min_two max_three min_three max_four min_four   -- for this text's walks alone
set_option linter.unusedVariables false
set_option linter.unusedSimpArgs false

/-! ### hash_Share: function 103 -/
def hash_Share.f (a0 : Int) (a1 : Int) : Option (Int × Int) := if a1 < 1 then (some (0, 4)) else (if a1 > 1048576 then (some (0, 4)) else ((bits_Mul64.f (IntKind.u64.wrap ((a0 / 4294967296) * 4294967296)) (IntKind.u64.wrap (a1))).bind fun bt119 => (some (wrap64 (bt119.1), 0))))
set_option maxHeartbeats 8000000 in
set_option maxRecDepth 100000 in
theorem hash_Share.calls (a0 : Int) (a1 : Int) (r1 : Int) (r2 : Int) (w : World) (h : hash_Share.f a0 a1 = some (r1, r2)) :
    Calls Try.prog 103 #[.int .u64 a0, .int .i64 a1] w fun e w' => e = .returned (.tuple #[.int .i64 r1, .int .i64 r2]) ∧ Drawn0 w w' := by
  have H : (if a1 < 1 then (some (0, 4)) else (if a1 > 1048576 then (some (0, 4)) else ((bits_Mul64.f (IntKind.u64.wrap ((a0 / 4294967296) * 4294967296)) (IntKind.u64.wrap (a1))).bind fun bt119 => (some (wrap64 (bt119.1), 0))))) = some (r1, r2) := h
  clear h
  by_cases c3 : a1 < 1
  · rw [if_pos c3] at H
    have c3b0 : decide (a1 < 1) = true := decide_eq_true c3
    clear c3
    simp only [Option.some.injEq, Prod.mk.injEq] at H
    obtain ⟨rfl, rfl⟩ := H
    go_enter Try.func103, Try.ntmps103
    go_wp2
    go_ret2
    exact ⟨by first | rfl | (simp; done) | (simp [*]; done), by repeat (first | exact Drawn0.refl _ | apply Drawn0.step)⟩
  · rw [if_neg c3] at H
    have c3b0 : decide (a1 < 1) = false := decide_eq_false c3
    clear c3
    by_cases c4 : a1 > 1048576
    · rw [if_pos c4] at H
      have c4b0 : decide (1048576 < a1) = true := decide_eq_true c4
      clear c4
      simp only [Option.some.injEq, Prod.mk.injEq] at H
      obtain ⟨rfl, rfl⟩ := H
      go_enter Try.func103, Try.ntmps103
      go_wp2
      go_ret2
      exact ⟨by first | rfl | (simp; done) | (simp [*]; done), by repeat (first | exact Drawn0.refl _ | apply Drawn0.step)⟩
    · rw [if_neg c4] at H
      have c4b0 : decide (1048576 < a1) = false := decide_eq_false c4
      clear c4
      replace H := Option.bind_eq_some_iff.mp H
      obtain ⟨⟨t119, t120⟩, A50, H⟩ := H
      replace H : (some (wrap64 (t119), 0)) = some (r1, r2) := H
      have A5 := Aside0.mk A50
      clear A50
      simp only [Option.some.injEq, Prod.mk.injEq] at H
      obtain ⟨rfl, rfl⟩ := H
      go_enter Try.func103, Try.ntmps103
      go_wp2_with (first | ((with_reducible refine gate_callee (f := 97) rfl ?_); refine goesL_ (some 20) rfl rfl Try.func97 (by kernel_rfl) rfl #[.int .u64 (IntKind.u64.wrap ((a0 / 4294967296) * 4294967296)), .int .u64 (IntKind.u64.wrap (a1))] rfl (by (try simp only [List.map_toArray, List.map_cons, List.map_nil]); first | done | rfl | (simp only [List.length_drop, List.length_take]; rfl)) ?_; (with_reducible refine (bits_Mul64.calls (IntKind.u64.wrap ((a0 / 4294967296) * 4294967296)) (IntKind.u64.wrap (a1)) t119 t120 _ A5.out).mono ?_); rintro e w' ⟨rfl, ⟨nd, rfl⟩⟩; refine ⟨_, rfl, ?_⟩))
      go_ret2
      exact ⟨by first | rfl | (simp; done) | (simp [*]; done), by repeat (first | exact Drawn0.refl _ | apply Drawn0.step)⟩

-- by hand: choicetwo.inc
/-- One draw below n. -/
def drw (s n : Int) : Option (Int × Int) := (draw_Next.f s).bind fun p => (hash_Share.f p.2 n).bind fun q => some (p.1, q.1)
def dT (s n : Int) : Int × Int := (drw s n).getD (0, 0)
theorem next_some (s : Int) : ∃ p, draw_Next.f s = some p := by
  unfold draw_Next.f hash_Mix.f hash_fold.f
  exact ⟨_, rfl⟩
theorem share_some (x n : Int) : ∃ p, hash_Share.f x n = some p := by
  unfold hash_Share.f bits_Mul64.f
  split
  · exact ⟨_, rfl⟩
  · split
    · exact ⟨_, rfl⟩
    · exact ⟨_, rfl⟩
theorem drw_T (s n : Int) : drw s n = some (dT s n) := by
  have h : ∃ p, drw s n = some p := by
    unfold drw
    obtain ⟨p, hp⟩ := next_some s
    obtain ⟨q, hq⟩ := share_some p.2 n
    exact ⟨(p.1, q.1), by rw [hp, Option.bind_some, hq, Option.bind_some]⟩
  obtain ⟨p, hp⟩ := h
  unfold dT
  rw [hp]; rfl
set_option maxHeartbeats 400000 in
theorem stream_below.calls (b : Nat) (s n : Int) (w : World) (hb : w.heap[b]? = some (.cells #[.int .u64 s] 156 (0, 0))) :
    Calls Try.prog 83 #[.pointer (some ⟨b, 0, none⟩), .int .i64 n] w fun e w' => e = .returned (.int .i64 (dT s n).2) ∧ Ch (fun k => k = b) w w' ∧ w'.heap[b]? = some (.cells #[.int .u64 (dT s n).1] 156 (0, 0)) := by
  have h := drw_T s n
  obtain ⟨⟨s', k⟩, hd⟩ : ∃ p, p = dT s n := ⟨_, rfl⟩
  rw [← hd] at h ⊢
  clear hd
  unfold drw at h
  obtain ⟨⟨p1, p2⟩, h1, h⟩ := Option.bind_eq_some_iff.1 h
  obtain ⟨⟨q1, q2⟩, h2, h⟩ := Option.bind_eq_some_iff.1 h
  simp only [Option.some.injEq, Prod.mk.injEq] at h
  obtain ⟨rfl, rfl⟩ := h
  have A1 := Lib.hid h1
  have A2 := Lib.hid h2
  clear h1 h2
  have hc := cell_of_one hb
  have hf := free_of_one hb
  have HB := Lib.hid hb
  clear hb
  go_enter Try.func83, Try.ntmps83
  go_wp2_with (first | (go_at_call 102; refine (draw_Next.calls _ _ _ _ A1).mono ?_; rintro e w' ⟨rfl, ⟨n1, rfl⟩⟩) | (go_at_call 103; refine (hash_Share.calls _ _ _ _ _ A2).mono ?_; rintro e w' ⟨rfl, ⟨n2, rfl⟩⟩))
  go_ret
  exact ⟨rfl, ((((Ch.refl (fun k => k = b) w).drewN n1).set (p := ⟨b, 0, none⟩) (.inl rfl) _).drewN n2), one_setCell (w := w) HB.out⟩
def draw_Two.f (a0 : Int) (a1 : Int) : Option (Int × Int × Int × Int) :=
  if a1 < 2 then some (0, 0, 0, 4) else if a1 > 1048576 then some (0, 0, 0, 4) else
    some ((dT (dT a0 a1).1 (a1 - 1)).1, (dT a0 a1).2, if (dT (dT a0 a1).1 (a1 - 1)).2 ≥ (dT a0 a1).2 then wrap64 ((dT (dT a0 a1).1 (a1 - 1)).2 + 1) else (dT (dT a0 a1).1 (a1 - 1)).2, 0)
set_option maxHeartbeats 400000 in
theorem draw_Two.calls (a0 : Int) (a1 : Int) (r1 : Int) (r2 : Int) (r3 : Int) (r4 : Int) (w : World) (h : draw_Two.f a0 a1 = some (r1, r2, r3, r4)) :
    Calls Try.prog 64 #[.int .u64 a0, .int .i64 a1] w fun e w' => e = .returned (.tuple #[.int .u64 r1, .int .i64 r2, .int .i64 r3, .int .i64 r4]) ∧ Below w.heap.size w w' := by
  unfold draw_Two.f at h
  by_cases c1 : a1 < 2
  · rw [if_pos c1] at h
    simp only [Option.some.injEq, Prod.mk.injEq] at h
    obtain ⟨rfl, rfl, rfl, rfl⟩ := h
    go_enter Try.func64, Try.ntmps64
    go_wp2
    refine bodyPost_ret (v := .tuple #[.int .u64 0, .int .i64 0, .int .i64 0, .int .i64 4]) (by simp [results, Try.results64, go_sem]) rfl ?_
    exact ⟨rfl, Below.refl _ _⟩
  rw [if_neg c1] at h
  by_cases c2 : a1 > 1048576
  · rw [if_pos c2] at h
    simp only [Option.some.injEq, Prod.mk.injEq] at h
    obtain ⟨rfl, rfl, rfl, rfl⟩ := h
    go_enter Try.func64, Try.ntmps64
    go_wp2
    refine bodyPost_ret (v := .tuple #[.int .u64 0, .int .i64 0, .int .i64 0, .int .i64 4]) (by simp [results, Try.results64, go_sem]) rfl ?_
    exact ⟨rfl, Below.refl _ _⟩
  rw [if_neg c2] at h
  simp only [Option.some.injEq, Prod.mk.injEq] at h
  obtain ⟨rfl, rfl, rfl, rfl⟩ := h
  obtain ⟨s1, hs1⟩ : ∃ x, x = (dT a0 a1).1 := ⟨_, rfl⟩
  obtain ⟨k1, hk1⟩ : ∃ x, x = (dT a0 a1).2 := ⟨_, rfl⟩
  obtain ⟨s2, hs2⟩ : ∃ x, x = (dT s1 (a1 - 1)).1 := ⟨_, rfl⟩
  obtain ⟨k2, hk2⟩ : ∃ x, x = (dT s1 (a1 - 1)).2 := ⟨_, rfl⟩
  rw [← hs1, ← hk1, ← hs2, ← hk2]
  have E1 := Lib.hid hs1
  have E2 := Lib.hid hk1
  have E3 := Lib.hid hs2
  have E4 := Lib.hid hk2
  clear hs1 hk1 hs2 hk2
  by_cases c3 : k2 ≥ k1
  all_goals
    first | rw [if_pos c3] | rw [if_neg c3]
    go_enter Try.func64, Try.ntmps64
    go_wp2_with fail
    refine (stream_below.calls _ _ _ _ (heap_alloc_new _ _)).mono ?_
    rintro e W1 ⟨rfl, HC, HS⟩
    rw [← E1.out] at HS
    rw [← E2.out]
    have X := Lib.hid HC
    have Y := Lib.hid HS
    clear HC HS
    go_wp2_with fail
    refine (stream_below.calls _ _ _ _ Y).mono ?_
    rintro e W2 ⟨rfl, HC, HS⟩
    rw [← E3.out] at HS
    rw [← E4.out]
    have hcl := cell_of_one HS
    have X2 := Lib.hid HC
    clear HC HS
    go_wp2
    refine bodyPost_ret (by simp [results, Try.results64, go_sem]; rfl) rfl ?_
    exact ⟨rfl, below_ch (below_ch (below_alloc (Below.refl _ w) _) X (by simp) (fun k h => by omega)) X2 (by have := X.out.size; simp at this; omega) (fun k h => by omega)⟩
theorem share_bd (x n : Int) (h0 : 0 ≤ x) (h1 : x < 18446744073709551616) (hn : 1 ≤ n) (hm : n ≤ 1048576) (p : Int × Int) (h : hash_Share.f x n = some p) : p.1 = (x / 4294967296) * n / 4294967296 ∧ p.2 = 0 := by
  unfold hash_Share.f at h
  rw [if_neg (by omega), if_neg (by omega)] at h
  unfold bits_Mul64.f at h
  simp only [Option.bind_some, Option.some.injEq] at h
  have e1 : IntKind.u64.wrap (x / 4294967296 * 4294967296) = x / 4294967296 * 4294967296 := by simp [IntKind.wrap, IntKind.bits, IntKind.signed]; omega
  have e2 : IntKind.u64.wrap n = n := by simp [IntKind.wrap, IntKind.bits, IntKind.signed]; omega
  have mask : ∀ y : Int, 0 ≤ y → y < 18446744073709551616 → Go.bits .and .u64 y 4294967295 = y % 4294967296 := fun y a b => by
    have := bits_mask .u64 64 (Nat.le_refl _) (fun n a b => by simp [IntKind.wrap, IntKind.bits, IntKind.signed]; omega) 32 (by decide) y a (by simpa using b)
    simpa using this
  have wu : ∀ n : Int, IntKind.u64.wrap n = n % 18446744073709551616 := fun n => by simp [IntKind.wrap, IntKind.bits, IntKind.signed]
  rw [e1, e2] at h
  obtain ⟨H, hH⟩ : ∃ H, H = x / 4294967296 := ⟨_, rfl⟩
  have H0 : 0 ≤ H := by omega
  have H1 : H < 4294967296 := by omega
  rw [← hH] at h ⊢
  rw [mask n (by omega) (by omega), mask (H * 4294967296) (by omega) (by omega)] at h
  rw [show H * 4294967296 / 4294967296 = H by omega, show H * 4294967296 % 4294967296 = 0 by omega, show n % 4294967296 = n by omega, show n / 4294967296 = 0 by omega] at h
  obtain ⟨p1, p2⟩ := p
  simp only [Prod.mk.injEq, Int.mul_zero, Int.zero_mul] at h
  obtain ⟨h, rfl⟩ := h
  refine ⟨?_, rfl⟩
  have q0 : 0 ≤ H * n := Int.mul_nonneg H0 (by omega)
  have q1 : H * n ≤ 4294967295 * 1048576 := Int.mul_le_mul (by omega) hm (by omega) (by omega)
  generalize H * n = q at h q0 q1 ⊢
  simp only [wu] at h
  rw [mask _ (by omega) (by omega)] at h
  unfold wrap64 at h
  show p1 = q / 4294967296
  omega
theorem share_lt (x n : Int) (h0 : 0 ≤ x) (h1 : x < 18446744073709551616) (hn : 1 ≤ n) (hm : n ≤ 1048576) (p : Int × Int) (h : hash_Share.f x n = some p) : 0 ≤ p.1 ∧ p.1 < n := by
  obtain ⟨h2, _⟩ := share_bd x n h0 h1 hn hm p h
  rw [h2]
  have q0 : 0 ≤ x / 4294967296 * n := Int.mul_nonneg (by omega) (by omega)
  have q1 : x / 4294967296 * n ≤ 4294967295 * n := Int.mul_le_mul_of_nonneg_right (by omega) (by omega)
  omega
theorem fold_rng (x : Int) (p : Int) (h : hash_fold.f x = some p) : 0 ≤ p ∧ p < 18446744073709551616 := by
  unfold hash_fold.f at h
  obtain rfl := Option.some.inj h
  unfold Go.bits
  simp [IntKind.wrap, IntKind.bits, IntKind.signed]
  omega
theorem next_rng (s : Int) (p : Int × Int) (h : draw_Next.f s = some p) : 0 ≤ p.2 ∧ p.2 < 18446744073709551616 := by
  unfold draw_Next.f at h
  obtain ⟨q, hq, h⟩ := Option.bind_eq_some_iff.1 h
  obtain rfl := Option.some.inj h
  unfold hash_Mix.f at hq
  obtain ⟨a, ha, hq⟩ := Option.bind_eq_some_iff.1 hq
  obtain ⟨b, hb, hq⟩ := Option.bind_eq_some_iff.1 hq
  obtain ⟨c, hc, hq⟩ := Option.bind_eq_some_iff.1 hq
  obtain rfl := Option.some.inj hq
  exact fold_rng _ _ hc
theorem dT_bd (s n : Int) (hn : 1 ≤ n) (hm : n ≤ 1048576) : 0 ≤ (dT s n).2 ∧ (dT s n).2 < n := by
  have h := drw_T s n
  unfold drw at h
  obtain ⟨p, h1, h⟩ := Option.bind_eq_some_iff.1 h
  obtain ⟨q, h2, h⟩ := Option.bind_eq_some_iff.1 h
  have h := Option.some.inj h
  rw [← h]
  exact share_lt _ _ (next_rng _ _ h1).1 (next_rng _ _ h1).2 hn hm _ h2
/-- Two places of n, behind s. -/
def dTwo (s n : Int) : Int × Int × Int := ((dT (dT s n).1 (n - 1)).1, (dT s n).2, if (dT (dT s n).1 (n - 1)).2 ≥ (dT s n).2 then (dT (dT s n).1 (n - 1)).2 + 1 else (dT (dT s n).1 (n - 1)).2)
theorem dTwo_bd (s n : Int) (h : 2 ≤ n) (h2 : n ≤ 1048576) : 0 ≤ (dTwo s n).2.1 ∧ (dTwo s n).2.1 < n ∧ 0 ≤ (dTwo s n).2.2 ∧ (dTwo s n).2.2 < n ∧ (dTwo s n).2.1 ≠ (dTwo s n).2.2 := by
  have h1 := dT_bd s n (by omega) h2
  have h3 := dT_bd (dT s n).1 (n - 1) (by omega) (by omega)
  unfold dTwo
  simp only []
  split <;> omega
theorem two_f (s n : Int) (h : 2 ≤ n) (h2 : n ≤ 1048576) : draw_Two.f s n = some ((dTwo s n).1, (dTwo s n).2.1, (dTwo s n).2.2, 0) := by
  have h3 := dT_bd (dT s n).1 (n - 1) (by omega) (by omega)
  unfold draw_Two.f dTwo
  rw [if_neg (by omega), if_neg (by omega), show wrap64 ((dT (dT s n).1 (n - 1)).2 + 1) = (dT (dT s n).1 (n - 1)).2 + 1 by unfold wrap64; omega]
/-- The less busy one of two places. -/
def pickL (s : Int) (l : List S30) : Int × Int := if l.length = 1 then (s, 0) else ((dTwo s l.length).1, if (rd_T30 l (dTwo s l.length).2.2).f1 < (rd_T30 l (dTwo s l.length).2.1).f1 then (dTwo s l.length).2.2 else (dTwo s l.length).2.1)
set_option maxRecDepth 100000 in
set_option maxHeartbeats 2000000 in
theorem two.calls (b : Nat) (A : Option Addr) (c : Nat) (l : List S30) (s : Int) (w : World) (hb : w.heap[b]? = some (.cells #[.int .u64 s, .slice A l.length c] 96 (0, 0))) (hr : Kd.C k30 w A l.length l) (hc : l.length ≤ c) (hne : ∀ ad, A = some ad → ad.block ≠ b) (hl : 0 < l.length) (hl2 : l.length ≤ 32) :
    Calls Try.prog 37 #[.pointer (some ⟨b, 0, none⟩)] w fun e w' => e = .returned (.int .i64 (pickL s l).2) ∧ Ch (fun k => k = b) w w' ∧ w'.heap[b]? = some (.cells #[.int .u64 (pickL s l).1, .slice A l.length c] 96 (0, 0)) := by
  have HB := Aside0.mk hb
  have HR := Aside0.mk hr
  have hc0 := zcell hb 0 _ rfl
  have hc1 := zcell hb 1 _ rfl
  have hf0 := zfree hb 0
  unfold pickL
  by_cases h1 : l.length = 1
  · rw [if_pos h1]
    have h1I : (l.length : Int) = 1 := by omega
    have HB2 := HB
    clear hb hr hl hl2
    go_enter Try.func37, Try.ntmps37
    go_wp2_with fail
    go_ret
    exact ⟨rfl, Ch.refl _ _, HB.out⟩
  · rw [if_neg h1]
    have h1I : ¬ (l.length : Int) = 1 := by omega
    obtain ⟨n, hn⟩ : ∃ n : Int, n = l.length := ⟨_, rfl⟩
    have hbd := dTwo_bd s n (by omega) (by omega)
    have h2 := two_f s n (by omega) (by omega)
    rw [hn] at h2 hbd
    obtain ⟨d1, e1⟩ : ∃ x, x = (dTwo s l.length).1 := ⟨_, rfl⟩
    obtain ⟨da, e2⟩ : ∃ x, x = (dTwo s l.length).2.1 := ⟨_, rfl⟩
    obtain ⟨db, e3⟩ : ∃ x, x = (dTwo s l.length).2.2 := ⟨_, rfl⟩
    rw [← e1, ← e2, ← e3] at h2
    rw [← e1, ← e2, ← e3]
    rw [← e2, ← e3] at hbd
    obtain ⟨b1, b2, b3, b4, _⟩ := hbd
    have H2 := Aside0.mk h2
    obtain ⟨ad, ea, hxa, hya⟩ := at_T30 hr da b1 b2
    cases ea
    obtain ⟨ad2, eb, hxb, hyb⟩ := at_T30 hr db b3 b4
    cases eb
    have hnb := hne ad rfl
    obtain ⟨x, hxe⟩ : ∃ x, x = rd_T30 l da := ⟨_, rfl⟩
    obtain ⟨y, hye⟩ : ∃ x, x = rd_T30 l db := ⟨_, rfl⟩
    rw [← hxe] at hxa hya
    rw [← hye] at hxb hyb
    rw [← hxe, ← hye]
    obtain ⟨z, hz⟩ : ∃ z, z = lessI y x := ⟨_, rfl⟩
    obtain ⟨r, hrr⟩ : ∃ r, r = if y.f1 < x.f1 then db else da := ⟨_, rfl⟩
    rw [← hrr]
    have hzr : z < 0 ∧ db = r ∨ ¬ z < 0 ∧ da = r := by
      rw [hz, hrr]
      unfold lessI
      by_cases hlt : y.f1 < x.f1
      · rw [if_pos hlt, if_pos hlt]; left; exact ⟨by decide, rfl⟩
      · rw [if_neg hlt, if_neg hlt]; right; refine ⟨?_, rfl⟩; split <;> decide
    have HZ := Aside0.mk hz
    have hnb1 : ∀ k, ¬ (ad.add k).block = b := fun k => by unfold Addr.add; split <;> exact hnb
    have HNB := Aside0.mk hnb1
    clear hz hrr hnb hnb1
    have HXA := Aside0.mk hxa
    have HYA := Aside0.mk hya
    have HXB := Aside0.mk hxb
    have HYB := Aside0.mk hyb
    clear hb hr h2 hxa hya hxb hyb e1 e2 e3 hn n hne hxe hye
    rcases hzr with ⟨hz0, rfl⟩ | ⟨hz0, rfl⟩
    all_goals
      go_enter Try.func37, Try.ntmps37
      go_wp2_with fail
      go_region_with (go_at_call 64; refine (draw_Two.calls s _ d1 da db 0 _ H2.out).mono ?_; rintro e w1 ⟨rfl, hb⟩; have HC : Aside0 (Ch (fun k => k = b) w w1) := ⟨by first | exact Ch.of_below hb _ | exact ((Ch.refl _ w).drew).thenB hb⟩; have HC0 : Aside0 (Ch (fun _ => False) w w1) := ⟨by first | exact Ch.of_below hb _ | exact ((Ch.refl _ w).drew).thenB hb⟩; clear hb)
      all_goals
        have hB1 := HC0.out.heap HB.out (fun h => h)
        have q0 := zcell hB1 0 _ rfl
        have q1 := zcell hB1 1 _ rfl
        have qf := zfree hB1 0
        have hS := zset hB1 0 (.int .u64 d1)
        have g1 := zcell hS 1 (.slice (some ad) l.length c) rfl
        have hx1 := (HC0.out.cell HXA.out (fun h => h))
        have hx2 := (HC0.out.cell HYA.out (fun h => h))
        have hx3 := (HC0.out.cell HXB.out (fun h => h))
        have hx4 := (HC0.out.cell HYB.out (fun h => h))
        have hx1' := ((Ch.refl (fun k => k = b) w1).set (p := ⟨b, 0, none⟩) (.inl rfl) (.int .u64 d1)).cell hx1 (HNB.out _)
        have hx2' := ((Ch.refl (fun k => k = b) w1).set (p := ⟨b, 0, none⟩) (.inl rfl) (.int .u64 d1)).cell hx2 (HNB.out _)
        have hx3' := ((Ch.refl (fun k => k = b) w1).set (p := ⟨b, 0, none⟩) (.inl rfl) (.int .u64 d1)).cell hx3 (HNB.out _)
        have hx4' := ((Ch.refl (fun k => k = b) w1).set (p := ⟨b, 0, none⟩) (.inl rfl) (.int .u64 d1)).cell hx4 (HNB.out _)
        have HS := Aside0.mk hS
        have HW := Aside0.mk (HC.out.set (p := ⟨b, 0, none⟩) (.inl rfl) (.int .u64 d1))
        clear hB1 hS hx1 hx2 hx3 hx4 hc0 hc1 hf0
        go_wp2_with fail
        generalize w1.setCell ⟨b, 0, none⟩ (.int .u64 d1) = W at hx1' hx2' hx3' hx4' g1 HS HW ⊢
        clear q0 q1 qf
        go_region_with (go_at_call 36; refine (choice_less.calls y.f0 y.f1 x.f0 x.f1 _ _ (less_f y x)).mono ?_; rintro e w2 ⟨rfl, hb⟩; rw [← HZ.out]; have HC2 : Aside0 (Ch (fun _ => False) W w2) := ⟨by first | exact Ch.of_below hb _ | exact ((Ch.refl _ W).drew).thenB hb⟩; clear hb)
        all_goals
          go_wp2_with fail
          go_ret
          exact ⟨rfl, HW.out.trans HC2.out (fun _ h => h.elim), HC2.out.heap HS.out (fun h => h)⟩
theorem pick_bd (s : Int) (l : List S30) (hl : 0 < l.length) (hl2 : l.length ≤ 32) : 0 ≤ (pickL s l).2 ∧ (pickL s l).2 < l.length := by
  unfold pickL
  by_cases h : l.length = 1
  · rw [if_pos h]; exact ⟨by show (0 : Int) ≤ 0; omega, by show (0 : Int) < _; omega⟩
  · rw [if_neg h]
    have := dTwo_bd s l.length (by omega) (by omega)
    simp only []
    split <;> omega
theorem ask_le (l : List S30) (h : askL l = 0) : l.length ≤ 32 := by
  have hc : checkL l = 0 := by
    unfold askL at h
    split at h
    · assumption
    · rename_i h2; exact absurd h h2
  unfold checkL at hc
  apply Classical.byContradiction
  intro h2; rw [if_pos (by omega)] at hc; exact absurd hc (by decide)
def twoL (s : Int) (l : List S30) : Int × Int × Int := if askL l = 0 then ((pickL s l).1, (rd_T30 l (pickL s l).2).f0, 0) else (0, 0, askL l)
def choice_Two.f (s : Int) (l : List S30) : Option (Int × Int × Int) := some (twoL s l)
set_option maxRecDepth 100000 in
set_option maxHeartbeats 2000000 in
theorem choice_Two.calls (a0 : Int) (A1 : Option Addr) (c1 : Nat) (l1 : List S30) (r0 r1 r2 : Int) (w : World) (hr1 : Kd.C k30 w A1 l1.length l1) (hc1 : l1.length ≤ c1) (h : choice_Two.f a0 l1 = some (r0, r1, r2)) :
    Calls Try.prog 15 #[.int .u64 a0, .slice A1 l1.length c1] w fun e w' => e = .returned (.tuple #[.int .u64 r0, .int .i64 r1, .int .i64 r2]) ∧ Below w.heap.size w w' := by
  have HR := Aside0.mk hr1
  have h := Option.some.inj h
  unfold twoL at h
  obtain ⟨k, hk⟩ : ∃ k, k = askL l1 := ⟨_, rfl⟩
  have HP : Aside0 (k = 0 → 0 < l1.length ∧ l1.length ≤ 32) := ⟨fun h => ⟨ask_pos l1 (by rw [← hk]; exact h), ask_le l1 (by rw [← hk]; exact h)⟩⟩
  rw [← hk] at h
  have HK := Aside0.mk hk
  clear hk
  by_cases h0 : k = 0
  · subst h0
    rw [if_pos rfl] at h
    obtain ⟨hl, hl2⟩ := HP.out rfl
    have hp := pick_bd a0 l1 hl hl2
    injection h with e1 e2
    injection e2 with e2 e3
    subst e3
    obtain ⟨at_, hat⟩ : ∃ x, x = (pickL a0 l1).2 := ⟨_, rfl⟩
    rw [← hat] at e2 hp
    obtain ⟨ad, ea, hx, _⟩ := at_T30 hr1 at_ hp.1 hp.2
    cases ea
    rw [e2] at hx
    have hlt := Kd.C_lt hr1 hl (by decide)
    have HLT := Aside0.mk hlt
    have HX := Aside0.mk hx
    have HAT := Aside0.mk hat
    have HE1 := Aside0.mk e1
    have HL := Aside0.mk hl
    have HL2 := Aside0.mk hl2
    obtain ⟨p0, p1⟩ := hp
    clear HP hr1 hx hat e1 e2 hlt hl hl2
    go_enter Try.func15, Try.ntmps15
    go_wp2_with (first | (go_at_call 34; refine (ask.calls _ _ _ _ HR.out hc1).mono ?_; rintro e w1 ⟨rfl, hb⟩; rw [← HK.out]; have HB := Aside0.mk hb; have HC := Aside0.mk (Ch.of_below hb (fun _ => False)); clear hb))
    refine (two.calls _ _ _ _ a0 _ (heap_alloc_new _ _) (C30_below (C30_below HR.out HB.out (Nat.le_refl _)) (below_alloc (Below.refl _ _) _) (Nat.le_refl _)) hc1 ?_ HL.out HL2.out).mono ?_
    · intro ad2 e hb
      cases e
      have := HLT.out
      have := HB.out.size
      omega
    · rintro e w2 ⟨rfl, hC, hS⟩
      rw [← HAT.out]
      rw [HE1.out] at hS
      have hd0 := zcell hS 0 _ rfl
      have hne : ¬ ad.block = w1.heap.size := by have := HLT.out; have := HB.out.size; omega
      have hx2 := hC.cell (((Ch.refl (fun _ => False) w1).alloc _).cell (HC.out.cell HX.out (fun h => h)) (fun h => h)) (by unfold Addr.add; split <;> exact hne)
      have HB2 := Aside0.mk (below_ch (below_alloc HB.out _) hC (by have := HB.out.size; have e : (w1.alloc (.cells #[.int .u64 a0, .slice (some ad) l1.length c1] 96 (0, 0))).heap.size = w1.heap.size + 1 := Array.size_push _; omega) (fun k h => by have := HB.out.size; omega))
      clear hC hS
      go_wp2_with fail
      go_quiet (fail)
      go_wp2_with fail
      go_ret3
      exact ⟨rfl, by repeat (first | exact HB2.out | apply pw_below_drewN | apply below_drew1)⟩
  · rw [if_neg h0] at h
    injection h with h1 h2
    injection h2 with h2 h3
    subst h1 h2 h3
    clear HP hr1
    go_enter Try.func15, Try.ntmps15
    go_wp2_with (first | (go_at_call 34; refine (ask.calls _ _ _ _ HR.out hc1).mono ?_; rintro e w1 ⟨rfl, hb⟩; rw [← HK.out]; have HB := Aside0.mk hb; clear hb))
    go_ret3
    exact ⟨rfl, HB.out⟩

/-! ### waybilllaw14_ChoiceOne: function 4 -/
def waybilllaw14_ChoiceOne.l0 : Nat → List (S30) → Int → Int → Bool → Int → Option (Bool)
  | 0, _, _, _, _, _ => none
  | k + 1, x1, x6, x8, x9, x10 => if x10 < (x1.length : Int) then (if x9 = true then (waybilllaw14_ChoiceOne.l0 k x1 x6 x8 true (wrap64 (x10 + 1))) else (if 0 ≤ x10 then (if ((rd_T30 x1 x10).f0) = x6 then (waybilllaw14_ChoiceOne.l0 k x1 x6 x8 false (wrap64 (x10 + 1))) else (waybilllaw14_ChoiceOne.l0 k x1 x6 x8 (decide (((rd_T30 x1 x10).f1) ≥ x8)) (wrap64 (x10 + 1)))) else (none))) else (if x8 ≥ 0 then (some x9) else (some false))
def waybilllaw14_ChoiceOne.f (k : Nat) (a0 : Int) (l1 : List (S30)) : Option (Bool) := (waybilllaw14_alive.f).bind fun t121 => (if t121 = true then ((choice_Two.f a0 l1).bind fun bt122 => ((waybilllaw14_num.f bt122.2.2).bind fun t125 => (if t125 = 0 then ((waybilllaw14_busy.f k l1 bt122.2.1).bind fun t126 => (waybilllaw14_ChoiceOne.l0 k l1 bt122.2.1 t126 ((l1.length : Int) == 1) 0)) else (some (bt122.2.1 == 0))))) else (some false))
theorem waybilllaw14_ChoiceOne.mono_l : ∀ k, (∀ y0 y1 y2 y3 y4, LeO (waybilllaw14_ChoiceOne.l0 k y0 y1 y2 y3 y4) (waybilllaw14_ChoiceOne.l0 (k + 1) y0 y1 y2 y3 y4))
  | 0 => fun _ _ _ _ _ r h => by simp [waybilllaw14_ChoiceOne.l0] at h
  | k + 1 => by
    have ih0 := waybilllaw14_ChoiceOne.mono_l k
    · intro y0 y1 y2 y3 y4
      unfold waybilllaw14_ChoiceOne.l0
      repeat' first
      | (with_reducible exact ih0 _ _ _ _ _)
      | (with_reducible exact waybilllaw14_busy.mono _ _ _)
      | (with_reducible exact LeO.refl _)
      | (with_reducible exact LeO.none _)
      | (with_reducible refine LeO.ite ?_ ?_)
      | (with_reducible refine LeO.bind ?_ (fun _ => ?_))
      | exact ih0 _ _ _ _ _
      | exact waybilllaw14_busy.mono _ _ _
      | exact LeO.none _
      | refine LeO.ite ?_ ?_
      | refine LeO.bind ?_ (fun _ => ?_)
theorem waybilllaw14_ChoiceOne.mono : ∀ a0 a1 k, LeO (waybilllaw14_ChoiceOne.f k a0 a1) (waybilllaw14_ChoiceOne.f (k + 1) a0 a1) := by
  intro a0 a1 k
  have ih0 := waybilllaw14_ChoiceOne.mono_l k
  unfold waybilllaw14_ChoiceOne.f
  repeat' first
      | (with_reducible exact ih0 _ _ _ _ _)
      | (with_reducible exact waybilllaw14_busy.mono _ _ _)
      | (with_reducible exact LeO.refl _)
      | (with_reducible exact LeO.none _)
      | (with_reducible refine LeO.ite ?_ ?_)
      | (with_reducible refine LeO.bind ?_ (fun _ => ?_))
      | exact ih0 _ _ _ _ _
      | exact waybilllaw14_busy.mono _ _ _
      | exact LeO.none _
      | refine LeO.ite ?_ ?_
      | refine LeO.bind ?_ (fun _ => ?_)
set_option maxHeartbeats 8000000 in
set_option maxRecDepth 100000 in
theorem waybilllaw14_ChoiceOne.calls (k : Nat) (a0 : Int) (A1 : Option Addr) (c1 : Nat) (l1 : List (S30)) (r : Bool) (w : World) (hr1 : Kd.C k30 w A1 l1.length l1) (hc1 : l1.length ≤ c1) (h : waybilllaw14_ChoiceOne.f k a0 l1 = some r) :
    Calls Try.prog 4 #[.int .u64 a0, .slice A1 l1.length c1] w fun e w' => e = .returned (.bool r) ∧ Below w.heap.size w w' := by
  have HR1 := Aside0.mk hr1
  have HC1 := Aside0.mk hc1
  clear hr1 hc1
  have HB := Aside0.mk (Below.refl w.heap.size w)
  have H : ((waybilllaw14_alive.f).bind fun t121 => (if t121 = true then ((choice_Two.f a0 l1).bind fun bt122 => ((waybilllaw14_num.f bt122.2.2).bind fun t125 => (if t125 = 0 then ((waybilllaw14_busy.f k l1 bt122.2.1).bind fun t126 => (waybilllaw14_ChoiceOne.l0 k l1 bt122.2.1 t126 ((l1.length : Int) == 1) 0)) else (some (bt122.2.1 == 0))))) else (some false))) = some r := h
  clear h
  replace H := Option.bind_eq_some_iff.mp H
  obtain ⟨t121, A30, H⟩ := H
  replace H : (if t121 = true then ((choice_Two.f a0 l1).bind fun bt122 => ((waybilllaw14_num.f bt122.2.2).bind fun t125 => (if t125 = 0 then ((waybilllaw14_busy.f k l1 bt122.2.1).bind fun t126 => (waybilllaw14_ChoiceOne.l0 k l1 bt122.2.1 t126 ((l1.length : Int) == 1) 0)) else (some (bt122.2.1 == 0))))) else (some false)) = some r := H
  have A3 := Aside0.mk A30
  clear A30
  by_cases c4 : t121 = true
  · subst c4
    have H1 : ((choice_Two.f a0 l1).bind fun bt122 => ((waybilllaw14_num.f bt122.2.2).bind fun t125 => (if t125 = 0 then ((waybilllaw14_busy.f k l1 bt122.2.1).bind fun t126 => (waybilllaw14_ChoiceOne.l0 k l1 bt122.2.1 t126 ((l1.length : Int) == 1) 0)) else (some (bt122.2.1 == 0))))) = some r := by rw [if_pos rfl] at H; exact H
    clear H
    have H := H1
    clear H1
    replace H := Option.bind_eq_some_iff.mp H
    obtain ⟨⟨t122, t123, t124⟩, A50, H⟩ := H
    replace H : ((waybilllaw14_num.f t124).bind fun t125 => (if t125 = 0 then ((waybilllaw14_busy.f k l1 t123).bind fun t126 => (waybilllaw14_ChoiceOne.l0 k l1 t123 t126 ((l1.length : Int) == 1) 0)) else (some (t123 == 0)))) = some r := H
    have A5 := Aside0.mk A50
    clear A50
    replace H := Option.bind_eq_some_iff.mp H
    obtain ⟨t125, A60, H⟩ := H
    replace H : (if t125 = 0 then ((waybilllaw14_busy.f k l1 t123).bind fun t126 => (waybilllaw14_ChoiceOne.l0 k l1 t123 t126 ((l1.length : Int) == 1) 0)) else (some (t123 == 0))) = some r := H
    have A6 := Aside0.mk A60
    clear A60
    by_cases c7 : t125 = 0
    · rw [if_pos c7] at H
      have c7b0 : (t125 == 0) = true := beq_iff_eq.mpr c7
      have c7b1 : (t125 != 0) = false := bne_eq_false_iff_eq.mpr c7
      clear c7
      replace H := Option.bind_eq_some_iff.mp H
      obtain ⟨t126, A80, H⟩ := H
      replace H : (waybilllaw14_ChoiceOne.l0 k l1 t123 t126 ((l1.length : Int) == 1) 0) = some r := H
      have A8 := Aside0.mk A80
      clear A80
      have H' := Aside0.mk H
      clear H
      go_enter Try.func4, Try.ntmps4
      go_wp2_with (first | ((with_reducible refine gate_callee (f := 11) rfl ?_); refine goesL_ (some 11) rfl rfl Try.func11 (by kernel_rfl) rfl #[] rfl (by (try simp only [List.map_toArray, List.map_cons, List.map_nil]); first | done | rfl | (simp only [List.length_drop, List.length_take]; rfl)) ?_; (with_reducible refine (waybilllaw14_alive.calls  true _ A3.out).mono ?_); rintro e w9 ⟨rfl, hb⟩; refine ⟨_, rfl, ?_⟩; have n0_ := Aside0.mk (below_step (by repeat (first | (with_reducible first | exact HB.out | apply below_alloc | apply pw_below_drewN | apply below_drew1) | exact HB.out)) hb); clear HB; have HB := n0_; clear n0_; (try clear hb); (try clear hb2); (try clear hk); (try clear hi)) | ((with_reducible refine gate_callee (f := 15) rfl ?_); refine goesL_ (some 16) rfl rfl Try.func15 (by kernel_rfl) rfl #[.int .u64 a0, .slice A1 l1.length c1] rfl (by (try simp only [List.map_toArray, List.map_cons, List.map_nil]); first | done | rfl | (simp only [List.length_drop, List.length_take]; rfl)) ?_; (with_reducible refine (choice_Two.calls a0 _ _ l1 t122 t123 t124 _ ?side1 ?side2 A5.out).mono ?_); (case side1 => repeat (first | exact (Kd.C_below HR1.out HB.out) | (with_reducible refine Kd.C_alloc ?_ _) | (with_reducible refine Kd.C_drewN ?_ _) | (with_reducible refine Kd.C_drew ?_))); (case side2 => exact HC1.out); rintro e w10 ⟨rfl, hb⟩; refine ⟨_, rfl, ?_⟩; have n0_ := Aside0.mk (below_step (by repeat (first | (with_reducible first | exact HB.out | apply below_alloc | apply pw_below_drewN | apply below_drew1) | exact HB.out)) hb); clear HB; have HB := n0_; clear n0_; (try clear hb); (try clear hb2); (try clear hk); (try clear hi)) | ((with_reducible refine gate_callee (f := 13) rfl ?_); refine goesL_ (some 21) rfl rfl Try.func13 (by kernel_rfl) rfl #[.int .i64 t124] rfl (by (try simp only [List.map_toArray, List.map_cons, List.map_nil]); first | done | rfl | (simp only [List.length_drop, List.length_take]; rfl)) ?_; (with_reducible refine (waybilllaw14_num.calls t124 t125 _ A6.out).mono ?_); rintro e w' ⟨rfl, ⟨nd, rfl⟩⟩; refine ⟨_, rfl, ?_⟩) | ((with_reducible refine gate_callee (f := 14) rfl ?_); refine goesL_ (some 27) rfl rfl Try.func14 (by kernel_rfl) rfl #[.slice A1 l1.length c1, .int .i64 t123] rfl (by (try simp only [List.map_toArray, List.map_cons, List.map_nil]); first | done | rfl | (simp only [List.length_drop, List.length_take]; rfl)) ?_; (with_reducible refine (waybilllaw14_busy.calls k _ _ l1 t123 t126 _ ?side1 ?side2 A8.out).mono ?_); (case side1 => repeat (first | exact (Kd.C_below HR1.out (by repeat (first | (with_reducible first | exact HB.out | apply below_alloc | apply pw_below_drewN | apply below_drew1) | exact HB.out))) | (with_reducible refine Kd.C_alloc ?_ _) | (with_reducible refine Kd.C_drewN ?_ _) | (with_reducible refine Kd.C_drew ?_))); (case side2 => exact HC1.out); rintro e w' ⟨rfl, ⟨nd, rfl⟩⟩; refine ⟨_, rfl, ?_⟩))
      go_loopg [9, 10] k (fun kq v9 v10 w' => ∃ (x9_1 : Bool) (x10_1 : Int), v9 = .bool x9_1 ∧ v10 = .int .i64 x10_1 ∧ Aside0 (waybilllaw14_ChoiceOne.l0 kq l1 t123 t126 x9_1 x10_1 = some r) ∧ Aside0 (kq ≤ k) ∧ Aside0 (Below w.heap.size w w'))
      case atStart => exact ⟨(((l1.length : Int) == 1)), (0), (by first | rfl | (simp; done) | (simp [*]; done)), (by first | rfl | (simp; done) | (simp [*]; done)), H', ⟨Nat.le_refl _⟩, ⟨by repeat (first | (with_reducible first | exact HB.out | apply below_alloc | apply pw_below_drewN | apply below_drew1) | exact HB.out)⟩⟩
      case round =>
        clear H'
        try clear c1
        try clear p2
        try clear c4
        try clear c7
        try clear c7b0
        try clear c7b1
        obtain ⟨x9_1, x10_1, rfl, rfl, HA, HK1, HB⟩ := hrel
        cases gk with
        | zero => exact absurd HA.out (by simp [waybilllaw14_ChoiceOne.l0])
        | succ k1 =>
          have H := HA.out
          clear HA
          simp only [waybilllaw14_ChoiceOne.l0] at H
          by_cases c11 : x10_1 < (l1.length : Int)
          · rw [if_pos c11] at H
            have c11b0 : decide (x10_1 < (l1.length : Int)) = true := decide_eq_true c11
            clear c11
            by_cases c12 : x9_1 = true
            · subst c12
              have H1 : (waybilllaw14_ChoiceOne.l0 k1 l1 t123 t126 true (wrap64 (x10_1 + 1))) = some r := by rw [if_pos rfl] at H; exact H
              clear H
              have H := H1
              clear H1
              have H' := Aside0.mk H
              clear H
              go_wp2
              go_roundg k1
              case measure => have := HK1.out; omega
              case rel => exact ⟨(true), (wrap64 (x10_1 + 1)), (by first | rfl | (simp; done) | (simp [*]; done)), (by first | rfl | (simp; done) | (simp [*]; done)), H', ⟨by have := HK1.out; omega⟩, ⟨by repeat (first | (with_reducible first | exact HB.out | apply below_alloc | apply pw_below_drewN | apply below_drew1) | exact HB.out)⟩⟩
            · replace c12 := Bool.eq_false_iff.mpr c12
              subst c12
              have H1 : (if 0 ≤ x10_1 then (if ((rd_T30 l1 x10_1).f0) = t123 then (waybilllaw14_ChoiceOne.l0 k1 l1 t123 t126 false (wrap64 (x10_1 + 1))) else (waybilllaw14_ChoiceOne.l0 k1 l1 t123 t126 (decide (((rd_T30 l1 x10_1).f1) ≥ t126)) (wrap64 (x10_1 + 1)))) else (none)) = some r := by rw [if_neg (show ¬ (false = true) by decide)] at H; exact H
              clear H
              have H := H1
              clear H1
              by_cases c13 : 0 ≤ x10_1
              · rw [if_pos c13] at H
                have c13b0 : decide (0 ≤ x10_1) = true := decide_eq_true c13
                clear c13
                by_cases c14 : ((rd_T30 l1 x10_1).f0) = t123
                · rw [if_pos c14] at H
                  have c14b0 : (((rd_T30 l1 x10_1).f0) == t123) = true := beq_iff_eq.mpr c14
                  have c14b1 : (((rd_T30 l1 x10_1).f0) != t123) = false := bne_eq_false_iff_eq.mpr c14
                  clear c14
                  have H' := Aside0.mk H
                  clear H
                  have p127 : 0 ≤ (x10_1 : Int) := of_decide_eq_true (by first | (with_reducible assumption) | assumption)
                  have q127 : x10_1 < (l1.length : Int) := of_decide_eq_true (by first | (with_reducible assumption) | assumption)
                  obtain ⟨ad127, e127, hx127_0, hx127_1⟩ := at_T30 HR1.out x10_1 p127 q127
                  cases e127
                  replace hx127_0 := (HB.out.cell (World.block_lt_of_cell? w _ hx127_0)).trans hx127_0
                  replace hx127_1 := (HB.out.cell (World.block_lt_of_cell? w _ hx127_1)).trans hx127_1
                  replace p127 := eq_true p127
                  replace q127 := eq_true q127
                  go_wp2
                  go_roundg k1
                  case measure => have := HK1.out; omega
                  case rel => exact ⟨(false), (wrap64 (x10_1 + 1)), (by first | rfl | (simp; done) | (simp [*]; done)), (by first | rfl | (simp; done) | (simp [*]; done)), H', ⟨by have := HK1.out; omega⟩, ⟨by repeat (first | (with_reducible first | exact HB.out | apply below_alloc | apply pw_below_drewN | apply below_drew1) | exact HB.out)⟩⟩
                · rw [if_neg c14] at H
                  have c14b0 : (((rd_T30 l1 x10_1).f0) == t123) = false := beq_eq_false_iff_ne.mpr c14
                  have c14b1 : (((rd_T30 l1 x10_1).f0) != t123) = true := bne_iff_ne.mpr c14
                  have H' := Aside0.mk H
                  clear H
                  have p127 : 0 ≤ (x10_1 : Int) := of_decide_eq_true (by first | (with_reducible assumption) | assumption)
                  have q127 : x10_1 < (l1.length : Int) := of_decide_eq_true (by first | (with_reducible assumption) | assumption)
                  obtain ⟨ad127, e127, hx127_0, hx127_1⟩ := at_T30 HR1.out x10_1 p127 q127
                  cases e127
                  replace hx127_0 := (HB.out.cell (World.block_lt_of_cell? w _ hx127_0)).trans hx127_0
                  replace hx127_1 := (HB.out.cell (World.block_lt_of_cell? w _ hx127_1)).trans hx127_1
                  replace p127 := eq_true p127
                  replace q127 := eq_true q127
                  have p128 : 0 ≤ (x10_1 : Int) := of_decide_eq_true (by first | (with_reducible assumption) | assumption)
                  have q128 : x10_1 < (l1.length : Int) := of_decide_eq_true (by first | (with_reducible assumption) | assumption)
                  obtain ⟨ad128, e128, hx128_0, hx128_1⟩ := at_T30 HR1.out x10_1 p128 q128
                  obtain rfl : ad127 = ad128 := (by injection e128)
                  replace hx128_0 := (HB.out.cell (World.block_lt_of_cell? w _ hx128_0)).trans hx128_0
                  replace hx128_1 := (HB.out.cell (World.block_lt_of_cell? w _ hx128_1)).trans hx128_1
                  replace p128 := eq_true p128
                  replace q128 := eq_true q128
                  go_wp2
                  go_roundg k1
                  case measure => have := HK1.out; omega
                  case rel => exact ⟨(decide (((rd_T30 l1 x10_1).f1) ≥ t126)), (wrap64 (x10_1 + 1)), (by first | rfl | (simp; done) | (simp [*]; done)), (by first | rfl | (simp; done) | (simp [*]; done)), H', ⟨by have := HK1.out; omega⟩, ⟨by repeat (first | (with_reducible first | exact HB.out | apply below_alloc | apply pw_below_drewN | apply below_drew1) | exact HB.out)⟩⟩
              · rw [if_neg c13] at H
                exact absurd H (by simp)
          · rw [if_neg c11] at H
            have c11b0 : decide (x10_1 < (l1.length : Int)) = false := decide_eq_false c11
            clear c11
            by_cases c15 : t126 ≥ 0
            · rw [if_pos c15] at H
              have c15b0 : decide (0 ≤ t126) = true := decide_eq_true c15
              clear c15
              obtain rfl := Option.some.inj H
              go_wp2
              go_ret
              exact ⟨by first | rfl | (simp [errW_none, errW_some] <;> rfl) | (simp [*, errW_none, errW_some] <;> rfl), by repeat (first | (with_reducible first | exact HB.out | apply below_alloc | apply pw_below_drewN | apply below_drew1) | exact HB.out)⟩
            · rw [if_neg c15] at H
              have c15b0 : decide (0 ≤ t126) = false := decide_eq_false c15
              clear c15
              obtain rfl := Option.some.inj H
              go_wp2
              go_ret
              exact ⟨by first | rfl | (simp [errW_none, errW_some] <;> rfl) | (simp [*, errW_none, errW_some] <;> rfl), by repeat (first | (with_reducible first | exact HB.out | apply below_alloc | apply pw_below_drewN | apply below_drew1) | exact HB.out)⟩
    · rw [if_neg c7] at H
      have c7b0 : (t125 == 0) = false := beq_eq_false_iff_ne.mpr c7
      have c7b1 : (t125 != 0) = true := bne_iff_ne.mpr c7
      obtain rfl := Option.some.inj H
      go_enter Try.func4, Try.ntmps4
      go_wp2_with (first | ((with_reducible refine gate_callee (f := 11) rfl ?_); refine goesL_ (some 11) rfl rfl Try.func11 (by kernel_rfl) rfl #[] rfl (by (try simp only [List.map_toArray, List.map_cons, List.map_nil]); first | done | rfl | (simp only [List.length_drop, List.length_take]; rfl)) ?_; (with_reducible refine (waybilllaw14_alive.calls  true _ A3.out).mono ?_); rintro e w16 ⟨rfl, hb⟩; refine ⟨_, rfl, ?_⟩; have n0_ := Aside0.mk (below_step (by repeat (first | (with_reducible first | exact HB.out | apply below_alloc | apply pw_below_drewN | apply below_drew1) | exact HB.out)) hb); clear HB; have HB := n0_; clear n0_; (try clear hb); (try clear hb2); (try clear hk); (try clear hi)) | ((with_reducible refine gate_callee (f := 15) rfl ?_); refine goesL_ (some 16) rfl rfl Try.func15 (by kernel_rfl) rfl #[.int .u64 a0, .slice A1 l1.length c1] rfl (by (try simp only [List.map_toArray, List.map_cons, List.map_nil]); first | done | rfl | (simp only [List.length_drop, List.length_take]; rfl)) ?_; (with_reducible refine (choice_Two.calls a0 _ _ l1 t122 t123 t124 _ ?side1 ?side2 A5.out).mono ?_); (case side1 => repeat (first | exact (Kd.C_below HR1.out HB.out) | (with_reducible refine Kd.C_alloc ?_ _) | (with_reducible refine Kd.C_drewN ?_ _) | (with_reducible refine Kd.C_drew ?_))); (case side2 => exact HC1.out); rintro e w17 ⟨rfl, hb⟩; refine ⟨_, rfl, ?_⟩; have n0_ := Aside0.mk (below_step (by repeat (first | (with_reducible first | exact HB.out | apply below_alloc | apply pw_below_drewN | apply below_drew1) | exact HB.out)) hb); clear HB; have HB := n0_; clear n0_; (try clear hb); (try clear hb2); (try clear hk); (try clear hi)) | ((with_reducible refine gate_callee (f := 13) rfl ?_); refine goesL_ (some 21) rfl rfl Try.func13 (by kernel_rfl) rfl #[.int .i64 t124] rfl (by (try simp only [List.map_toArray, List.map_cons, List.map_nil]); first | done | rfl | (simp only [List.length_drop, List.length_take]; rfl)) ?_; (with_reducible refine (waybilllaw14_num.calls t124 t125 _ A6.out).mono ?_); rintro e w' ⟨rfl, ⟨nd, rfl⟩⟩; refine ⟨_, rfl, ?_⟩))
      go_ret
      exact ⟨by first | rfl | (simp [errW_none, errW_some] <;> rfl) | (simp [*, errW_none, errW_some] <;> rfl), by repeat (first | (with_reducible first | exact HB.out | apply below_alloc | apply pw_below_drewN | apply below_drew1) | exact HB.out)⟩
  · replace c4 := Bool.eq_false_iff.mpr c4
    subst c4
    have H1 : (some false) = some r := by rw [if_neg (show ¬ (false = true) by decide)] at H; exact H
    clear H
    have H := H1
    clear H1
    obtain rfl := Option.some.inj H
    go_enter Try.func4, Try.ntmps4
    go_wp2_with (first | ((with_reducible refine gate_callee (f := 11) rfl ?_); refine goesL_ (some 11) rfl rfl Try.func11 (by kernel_rfl) rfl #[] rfl (by (try simp only [List.map_toArray, List.map_cons, List.map_nil]); first | done | rfl | (simp only [List.length_drop, List.length_take]; rfl)) ?_; (with_reducible refine (waybilllaw14_alive.calls  false _ A3.out).mono ?_); rintro e w18 ⟨rfl, hb⟩; refine ⟨_, rfl, ?_⟩; have n0_ := Aside0.mk (below_step (by repeat (first | (with_reducible first | exact HB.out | apply below_alloc | apply pw_below_drewN | apply below_drew1) | exact HB.out)) hb); clear HB; have HB := n0_; clear n0_; (try clear hb); (try clear hb2); (try clear hk); (try clear hi)))
    go_ret
    exact ⟨by first | rfl | (simp [errW_none, errW_some] <;> rfl) | (simp [*, errW_none, errW_some] <;> rfl), by repeat (first | (with_reducible first | exact HB.out | apply below_alloc | apply pw_below_drewN | apply below_drew1) | exact HB.out)⟩

end Go.Proofs.Ytemleanglkaedaa.EChoiceOne
