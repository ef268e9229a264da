/- The pure statement of HashShares, proved. -/
import Derived.Test.YthldeecchlgieaaPHashSharesx1
namespace Go.Proofs.Ythldeecchlgieaa.Pure
open Go.RowKit Go.Proofs.Ythldeecchlgieaa.PHashShares Go.Proofs.YthldeecchlgieaaW.PrintWords Go.Proofs.YthldeecchlgieaaW.PrintLast Go.Proofs.YthldeecchlgieaaW.PrintMore
set_option linter.unusedVariables false
set_option linter.unusedSimpArgs false

/-- As a step of its own: not by unfolding. -/
theorem obind {α β : Type} (a : α) (f : α → Option β) : (some a).bind f = f a := Eq.trans (Option.bind_some a f) (Eq.refl _)
/-- Numbers of 64 bits. -/
abbrev B := BitVec 64
def c1 : B := 18397679294719823053#64
def c2 : B := 14181476777654086739#64
theorem wu (n : Int) : IntKind.u64.wrap n = n % 18446744073709551616 := by simp [IntKind.wrap, IntKind.bits, IntKind.signed]
theorem bv_of (a : Int) (h : (Lit.int .u64 a).wf = true) : ∃ v : B, a = (v.toNat : Int) := by
  simp only [Lit.wf, IntKind.min, IntKind.max, IntKind.signed, IntKind.bits, Bool.and_eq_true] at h
  refine ⟨BitVec.ofInt 64 a, ?_⟩
  rw [BitVec.toNat_ofInt]
  have h2 : a < 18446744073709551616 := by have := h.2; simp at this; omega
  have h1 : 0 ≤ a := by simpa using h.1
  simp
  omega
theorem bv_lt (v : B) : (v.toNat : Int) < 18446744073709551616 := by have := v.isLt; omega
def foldB (v : B) : B := v ^^^ (v >>> 33)
theorem fold_of (v : B) : Go.bits .xor .u64 (v.toNat : Int) ((v.toNat : Int) / 8589934592) = ((foldB v).toNat : Int) := by
  have h : ((v.toNat : Int) / (8589934592 : Int)) = (((v >>> 33).toNat : Nat) : Int) := by
    simp [BitVec.toNat_ushiftRight, Nat.shiftRight_eq_div_pow]
  rw [h]
  unfold Go.bits foldB
  simp only [IntKind.bits]
  rw [BitVec.ofInt_natCast, BitVec.ofInt_natCast]
  simp only [BitVec.ofNat_toNat, BitVec.setWidth_eq]
  rw [wu]
  show ((v ^^^ (v >>> 33) : B).toNat : Int) % 18446744073709551616 = ((v ^^^ (v >>> 33) : B).toNat : Int)
  have := (v ^^^ (v >>> 33) : B).isLt
  omega
theorem foldB_foldB (v : B) : foldB (foldB v) = v := by
  unfold foldB
  have h : (v >>> 33) >>> 33 = 0#64 := by
    rw [← BitVec.shiftRight_add]
    apply BitVec.eq_of_toNat_eq
    simp [BitVec.toNat_ushiftRight, Nat.shiftRight_eq_div_pow]
    have := v.isLt
    omega
  rw [BitVec.ushiftRight_xor_distrib, h]
  simp [BitVec.xor_assoc]
theorem mul_of (v c : B) : IntKind.u64.wrap ((v.toNat : Int) * (c.toNat : Int)) = ((v * c).toNat : Int) := by
  rw [wu, BitVec.toNat_mul]; simp
theorem add_of (v c : B) : IntKind.u64.wrap ((v.toNat : Int) + (c.toNat : Int)) = ((v + c).toNat : Int) := by
  rw [wu, BitVec.toNat_add]; simp
def mixB (v : B) : B := foldB (foldB (foldB v * c1) * c2)
def i1 : B := 5725274745694666757#64
def i2 : B := 11291846944257947611#64
def unmixB (v : B) : B := foldB (foldB (foldB v * i2) * i1)
theorem c1i1 : c1 * i1 = 1#64 := by decide
theorem c2i2 : c2 * i2 = 1#64 := by decide
theorem unmix_mix (v : B) : unmixB (mixB v) = v := by
  unfold unmixB mixB
  rw [foldB_foldB, BitVec.mul_assoc, c2i2, BitVec.mul_one, foldB_foldB, BitVec.mul_assoc, c1i1, BitVec.mul_one, foldB_foldB]
theorem mix_unmix (v : B) : mixB (unmixB v) = v := by
  unfold unmixB mixB
  rw [foldB_foldB, BitVec.mul_assoc, BitVec.mul_comm i1 c1, c1i1, BitVec.mul_one, foldB_foldB, BitVec.mul_assoc, BitVec.mul_comm i2 c2, c2i2, BitVec.mul_one, foldB_foldB]
theorem mix_inj {v u : B} : mixB v = mixB u ↔ v = u := ⟨fun h => by rw [← unmix_mix v, h, unmix_mix], fun h => by rw [h]⟩
theorem toNat_beq (v u : B) : (((v.toNat : Nat) : Int) == ((u.toNat : Nat) : Int)) = (v == u) := by
  rw [Bool.eq_iff_iff]; simp [BitVec.toNat_inj, Int.ofNat_inj]
theorem Fold (v : B) : hash_fold.f (v.toNat : Int) = some ((foldB v).toNat : Int) := by unfold hash_fold.f; rw [fold_of]
theorem c1_int : (18397679294719823053 : Int) = ((c1.toNat : Nat) : Int) := by simp [c1]
theorem c2_int : (14181476777654086739 : Int) = ((c2.toNat : Nat) : Int) := by simp [c2]
theorem Mix (v : B) : hash_Mix.f (v.toNat : Int) = some ((mixB v).toNat : Int) := by
  unfold hash_Mix.f
  rw [Fold]; simp only [obind]
  rw [c1_int, mul_of, Fold]; simp only [obind]
  rw [c2_int, mul_of, Fold]; rfl
theorem Inv1 {k : Nat} (hk : 10 ≤ k) : hash_inverse.f k 18397679294719823053 = some ((i1.toNat : Nat) : Int) := at_rounds (hash_inverse.mono _) hk (by decide +kernel)
theorem Inv2 {k : Nat} (hk : 10 ≤ k) : hash_inverse.f k 14181476777654086739 = some ((i2.toNat : Nat) : Int) := at_rounds (hash_inverse.mono _) hk (by decide +kernel)
theorem Unmix (v : B) {k : Nat} (hk : 10 ≤ k) : hash_Unmix.f k (v.toNat : Int) = some ((unmixB v).toNat : Int) := by
  unfold hash_Unmix.f
  rw [Fold]; simp only [obind]
  rw [Inv2 hk]; simp only [obind]
  rw [mul_of, Fold]; simp only [obind]
  rw [Inv1 hk]; simp only [obind]
  rw [mul_of, Fold]; rfl
theorem mix0 : mixB 0#64 = 0#64 := by decide +kernel
theorem mix1 : (mixB 1#64 == 1#64) = false := by decide +kernel
theorem Alive {k : Nat} (hk : 10 ≤ k) : waybilllaw10_alive.f k = some true := by
  unfold waybilllaw10_alive.f
  have h0 : hash_Mix.f 0 = some 0 := by have := Mix 0#64; rw [mix0] at this; simpa using this
  have h1 : hash_Mix.f 12345 = some ((mixB 12345#64).toNat : Int) := by have := Mix 12345#64; simpa using this
  have h2 : hash_Mix.f 1 = some ((mixB 1#64).toNat : Int) := by have := Mix 1#64; simpa using this
  rw [h0]; simp only [obind, if_true]
  rw [h1]; simp only [obind]
  rw [Unmix _ hk, unmix_mix]; simp only [obind]
  rw [if_pos (by simp), h2]; simp only [obind]
  have h3 := toNat_beq (mixB 1#64) 1#64
  rw [mix1] at h3
  have h4 : (((1#64 : B).toNat : Nat) : Int) = 1 := by simp
  rw [h4] at h3
  simp only [bne, h3]; rfl
theorem mask32 (y : Int) (h0 : 0 ≤ y) (h1 : y < 18446744073709551616) : Go.bits .and .u64 y 4294967295 = y % 4294967296 := by
  have := bits_mask .u64 64 (Nat.le_refl _) (fun n a b => by rw [wu]; omega) 32 (by decide) y h0 (by simpa using h1)
  simpa using this
theorem Share (x n : Int) (h0 : 0 ≤ x) (h1 : x < 18446744073709551616) (hn : 1 ≤ n) (hm : n ≤ 1048576) : hash_Share.f x n = some ((x / 4294967296) * n / 4294967296, 0) := by
  unfold hash_Share.f
  rw [if_neg (by omega), if_neg (by omega)]
  unfold bits_Mul64.f
  simp only [obind]
  congr 1
  have e1 : IntKind.u64.wrap (x / 4294967296 * 4294967296) = x / 4294967296 * 4294967296 := by rw [wu]; omega
  have e2 : IntKind.u64.wrap n = n := by rw [wu]; omega
  rw [e1, e2]
  obtain ⟨H, hH⟩ : ∃ H, H = x / 4294967296 := ⟨_, rfl⟩
  have H0 : 0 ≤ H := by omega
  have H1 : H < 4294967296 := by omega
  rw [← hH]
  rw [mask32 n (by omega) (by omega), mask32 (H * 4294967296) (by omega) (by omega)]
  rw [show H * 4294967296 / 4294967296 = H by omega, show H * 4294967296 % 4294967296 = 0 by omega, show n % 4294967296 = n by omega, show n / 4294967296 = 0 by omega]
  simp only [Int.mul_zero, Int.zero_mul]
  have q0 : 0 ≤ H * n := Int.mul_nonneg H0 (by omega)
  have q1 : H * n ≤ 4294967295 * 1048576 := Int.mul_le_mul (by omega) hm (by omega) (by omega)
  generalize H * n = q at q0 q1 ⊢
  simp only [wu]
  rw [mask32 _ (by omega) (by omega)]
  unfold wrap64
  refine Prod.ext ?_ rfl
  show _ = q / 4294967296
  omega
theorem Share_no (x n : Int) (h : n < 1 ∨ n > 1048576) : hash_Share.f x n = some (0, 4) := by
  unfold hash_Share.f
  by_cases h1 : n < 1
  · rw [if_pos h1]
  · rw [if_neg h1, if_pos (by omega)]
theorem u64_bd {a : Int} (h : (Lit.int .u64 a).wf = true) : 0 ≤ a ∧ a < 18446744073709551616 := by
  obtain ⟨v, rfl⟩ := bv_of a h
  exact ⟨by omega, bv_lt v⟩
/-- A number that the law makes. -/
theorem small (a : Int) : ∃ n, wrap64 (1 + (Int.tmod (wrap64 ((Int.tmod a 1000000) + 1000000)) 1000000)) = n ∧ 1 ≤ n ∧ n ≤ 1000000 := by
  refine ⟨_, rfl, ?_⟩
  have h1 := Int.tmod_lt_of_pos a (show (0 : Int) < 1000000 by decide)
  have h2 := Int.lt_tmod_of_pos a (show (0 : Int) < 1000000 by decide)
  have e1 : wrap64 (a.tmod 1000000 + 1000000) = a.tmod 1000000 + 1000000 := by unfold wrap64; omega
  rw [e1, Int.tmod_eq_emod_of_nonneg (by omega)]
  unfold wrap64
  omega
theorem share_mono (x y n : Int) (hn : 0 ≤ n) (h : x ≤ y) : (x / 4294967296) * n / 4294967296 ≤ (y / 4294967296) * n / 4294967296 :=
  Int.ediv_le_ediv (by decide) (Int.mul_le_mul_of_nonneg_right (by omega) hn)
theorem HashShares : waybilllaw10_HashShares.Pure := by
  intro x y a b hx hy ha hb
  obtain ⟨x0, x1⟩ := u64_bd hx
  obtain ⟨y0, y1⟩ := u64_bd hy
  refine ⟨10, ?_⟩
  unfold waybilllaw10_HashShares.f
  obtain ⟨n, hn, n1, n2⟩ := small a
  obtain ⟨m, hm, m1, m2⟩ := small b
  rw [hn, hm, Alive (Nat.le_refl _)]; simp only [obind, if_true]
  have hM : n ≤ mx n m ∧ mx n m ≤ 1000000 := by unfold mx; split <;> omega
  rw [Share x n x0 x1 n1 (by omega), Share y n y0 y1 n1 (by omega), Share x (mx n m) x0 x1 (by omega) (by omega)]
  simp only [obind, waybilllaw10_num.f]
  rw [if_pos (show wrap64 (wrap64 (0 + 0) + 0) = 0 by decide +kernel)]
  have h0 : 0 ≤ x / 4294967296 * n := Int.mul_nonneg (by omega) (by omega)
  have h2 : x / 4294967296 * n ≤ 4294967295 * n := Int.mul_le_mul_of_nonneg_right (by omega) (by omega)
  have h3 : x / 4294967296 * n ≤ x / 4294967296 * mx n m := Int.mul_le_mul_of_nonneg_left hM.1 (by omega)
  have h4 := Int.ediv_le_ediv (c := 4294967296) (by decide) h3
  rw [if_pos (by omega), if_pos (by omega)]
  by_cases c : x > y
  · rw [if_pos c]; simp only [decide_eq_true h4]
  · rw [if_neg c, if_pos (share_mono x y n (by omega) (by omega))]; simp only [decide_eq_true h4]

end Go.Proofs.Ythldeecchlgieaa.Pure
