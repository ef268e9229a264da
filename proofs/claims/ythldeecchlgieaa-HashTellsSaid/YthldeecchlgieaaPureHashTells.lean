/- The pure statement of HashTells, proved. -/
import Derived.Test.YthldeecchlgieaaEHashTellsx2
namespace Go.Proofs.Ythldeecchlgieaa.Pure
open Go.RowKit Go.Proofs.Ythldeecchlgieaa.EHashTells Go.Proofs.YthldeecchlgieaaW.PrintWords Go.Proofs.YthldeecchlgieaaW.PrintLast Go.Proofs.YthldeecchlgieaaW.PrintMore
set_option linter.unusedVariables false
set_option linter.unusedSimpArgs false

/-- As a step of its own: not by unfolding. -/
theorem obind {α β : Type} (a : α) (f : α → Option β) : (some a).bind f = f a := Eq.trans (Option.bind_some a f) (Eq.refl _)
/-- Numbers of 64 bits. -/
abbrev B := BitVec 64
def c1 : B := 18397679294719823053#64
def c2 : B := 14181476777654086739#64
theorem wu (n : Int) : IntKind.u64.wrap n = n % 18446744073709551616 := by simp [IntKind.wrap, IntKind.bits, IntKind.signed]
theorem bv_of (a : Int) (h : (Lit.int .u64 a).wf = true) : ∃ v : B, a = (v.toNat : Int) := by
  simp only [Lit.wf, IntKind.min, IntKind.max, IntKind.signed, IntKind.bits, Bool.and_eq_true] at h
  refine ⟨BitVec.ofInt 64 a, ?_⟩
  rw [BitVec.toNat_ofInt]
  have h2 : a < 18446744073709551616 := by have := h.2; simp at this; omega
  have h1 : 0 ≤ a := by simpa using h.1
  simp
  omega
theorem bv_lt (v : B) : (v.toNat : Int) < 18446744073709551616 := by have := v.isLt; omega
def foldB (v : B) : B := v ^^^ (v >>> 33)
theorem fold_of (v : B) : Go.bits .xor .u64 (v.toNat : Int) ((v.toNat : Int) / 8589934592) = ((foldB v).toNat : Int) := by
  have h : ((v.toNat : Int) / (8589934592 : Int)) = (((v >>> 33).toNat : Nat) : Int) := by
    simp [BitVec.toNat_ushiftRight, Nat.shiftRight_eq_div_pow]
  rw [h]
  unfold Go.bits foldB
  simp only [IntKind.bits]
  rw [BitVec.ofInt_natCast, BitVec.ofInt_natCast]
  simp only [BitVec.ofNat_toNat, BitVec.setWidth_eq]
  rw [wu]
  show ((v ^^^ (v >>> 33) : B).toNat : Int) % 18446744073709551616 = ((v ^^^ (v >>> 33) : B).toNat : Int)
  have := (v ^^^ (v >>> 33) : B).isLt
  omega
theorem foldB_foldB (v : B) : foldB (foldB v) = v := by
  unfold foldB
  have h : (v >>> 33) >>> 33 = 0#64 := by
    rw [← BitVec.shiftRight_add]
    apply BitVec.eq_of_toNat_eq
    simp [BitVec.toNat_ushiftRight, Nat.shiftRight_eq_div_pow]
    have := v.isLt
    omega
  rw [BitVec.ushiftRight_xor_distrib, h]
  simp [BitVec.xor_assoc]
theorem mul_of (v c : B) : IntKind.u64.wrap ((v.toNat : Int) * (c.toNat : Int)) = ((v * c).toNat : Int) := by
  rw [wu, BitVec.toNat_mul]; simp
theorem add_of (v c : B) : IntKind.u64.wrap ((v.toNat : Int) + (c.toNat : Int)) = ((v + c).toNat : Int) := by
  rw [wu, BitVec.toNat_add]; simp
def mixB (v : B) : B := foldB (foldB (foldB v * c1) * c2)
def i1 : B := 5725274745694666757#64
def i2 : B := 11291846944257947611#64
def unmixB (v : B) : B := foldB (foldB (foldB v * i2) * i1)
theorem c1i1 : c1 * i1 = 1#64 := by decide
theorem c2i2 : c2 * i2 = 1#64 := by decide
theorem unmix_mix (v : B) : unmixB (mixB v) = v := by
  unfold unmixB mixB
  rw [foldB_foldB, BitVec.mul_assoc, c2i2, BitVec.mul_one, foldB_foldB, BitVec.mul_assoc, c1i1, BitVec.mul_one, foldB_foldB]
theorem mix_unmix (v : B) : mixB (unmixB v) = v := by
  unfold unmixB mixB
  rw [foldB_foldB, BitVec.mul_assoc, BitVec.mul_comm i1 c1, c1i1, BitVec.mul_one, foldB_foldB, BitVec.mul_assoc, BitVec.mul_comm i2 c2, c2i2, BitVec.mul_one, foldB_foldB]
theorem mix_inj {v u : B} : mixB v = mixB u ↔ v = u := ⟨fun h => by rw [← unmix_mix v, h, unmix_mix], fun h => by rw [h]⟩
theorem toNat_beq (v u : B) : (((v.toNat : Nat) : Int) == ((u.toNat : Nat) : Int)) = (v == u) := by
  rw [Bool.eq_iff_iff]; simp [BitVec.toNat_inj, Int.ofNat_inj]
theorem Fold (v : B) : hash_fold.f (v.toNat : Int) = some ((foldB v).toNat : Int) := by unfold hash_fold.f; rw [fold_of]
theorem c1_int : (18397679294719823053 : Int) = ((c1.toNat : Nat) : Int) := by simp [c1]
theorem c2_int : (14181476777654086739 : Int) = ((c2.toNat : Nat) : Int) := by simp [c2]
theorem Mix (v : B) : hash_Mix.f (v.toNat : Int) = some ((mixB v).toNat : Int) := by
  unfold hash_Mix.f
  rw [Fold]; simp only [obind]
  rw [c1_int, mul_of, Fold]; simp only [obind]
  rw [c2_int, mul_of, Fold]; rfl
theorem Inv1 {k : Nat} (hk : 10 ≤ k) : hash_inverse.f k 18397679294719823053 = some ((i1.toNat : Nat) : Int) := at_rounds (hash_inverse.mono _) hk (by decide +kernel)
theorem Inv2 {k : Nat} (hk : 10 ≤ k) : hash_inverse.f k 14181476777654086739 = some ((i2.toNat : Nat) : Int) := at_rounds (hash_inverse.mono _) hk (by decide +kernel)
theorem Unmix (v : B) {k : Nat} (hk : 10 ≤ k) : hash_Unmix.f k (v.toNat : Int) = some ((unmixB v).toNat : Int) := by
  unfold hash_Unmix.f
  rw [Fold]; simp only [obind]
  rw [Inv2 hk]; simp only [obind]
  rw [mul_of, Fold]; simp only [obind]
  rw [Inv1 hk]; simp only [obind]
  rw [mul_of, Fold]; rfl
theorem mix0 : mixB 0#64 = 0#64 := by decide +kernel
theorem mix1 : (mixB 1#64 == 1#64) = false := by decide +kernel
theorem Alive {k : Nat} (hk : 10 ≤ k) : waybilllaw10_alive.f k = some true := by
  unfold waybilllaw10_alive.f
  have h0 : hash_Mix.f 0 = some 0 := by have := Mix 0#64; rw [mix0] at this; simpa using this
  have h1 : hash_Mix.f 12345 = some ((mixB 12345#64).toNat : Int) := by have := Mix 12345#64; simpa using this
  have h2 : hash_Mix.f 1 = some ((mixB 1#64).toNat : Int) := by have := Mix 1#64; simpa using this
  rw [h0]; simp only [obind, if_true]
  rw [h1]; simp only [obind]
  rw [Unmix _ hk, unmix_mix]; simp only [obind]
  rw [if_pos (by simp), h2]; simp only [obind]
  have h3 := toNat_beq (mixB 1#64) 1#64
  rw [mix1] at h3
  have h4 : (((1#64 : B).toNat : Nat) : Int) = 1 := by simp
  rw [h4] at h3
  simp only [bne, h3]; rfl
/-- A whole number as 64 bits. -/
theorem int_of (a : Int) : IntKind.u64.wrap a = ((BitVec.ofInt 64 a).toNat : Int) := by rw [wu, BitVec.toNat_ofInt]; omega
theorem ofInt_inj {a b : Int} (ha : (Lit.int .i64 a).wf = true) (hb : (Lit.int .i64 b).wf = true) : BitVec.ofInt 64 a = BitVec.ofInt 64 b ↔ a = b := by
  refine ⟨fun h => ?_, fun h => by rw [h]⟩
  have h2 := congrArg BitVec.toNat h
  simp only [Lit.wf, IntKind.min, IntKind.max, IntKind.signed, IntKind.bits, Bool.and_eq_true] at ha hb
  simp at ha hb
  rw [BitVec.toNat_ofInt, BitVec.toNat_ofInt] at h2
  omega
def intsB (v : B) : List Int → B
  | [] => v
  | a :: t => intsB (mixB (v + BitVec.ofInt 64 a)) t
theorem rd_drop (l : List Int) (i : Int) (h0 : 0 ≤ i) (h : i < l.length) : l.drop i.toNat = rd l i :: l.drop (i + 1).toNat := by
  rw [List.drop_eq_getElem_cons (show i.toNat < l.length by omega), show (i + 1).toNat = i.toNat + 1 by omega]
  congr 1
  unfold rd
  rw [List.getD_eq_getElem?_getD, List.getElem?_eq_getElem (show i.toNat < l.length by omega)]; rfl
theorem Ints_l (l : List Int) (hl : l.length ≤ 4611686018427387904) (d : Nat) : ∀ (k : Nat) (v : B) (i : Int), 0 ≤ i → i ≤ l.length → (l.length : Int) - i = d → d < k → hash_Ints.l0 k (v.toNat : Int) l (l.length : Int) i = some ((intsB v (l.drop i.toNat)).toNat : Int) := by
  induction d with
  | zero =>
    intro k v i h0 h1 hd hk
    obtain ⟨k, rfl⟩ : ∃ m, k = m + 1 := ⟨k - 1, by omega⟩
    simp only [hash_Ints.l0]
    rw [if_neg (by omega), List.drop_eq_nil_of_le (by omega)]; rfl
  | succ d ih =>
    intro k v i h0 h1 hd hk
    obtain ⟨k, rfl⟩ : ∃ m, k = m + 1 := ⟨k - 1, by omega⟩
    have hlt : i < (l.length : Int) := by omega
    simp only [hash_Ints.l0]
    rw [if_pos hlt, if_pos h0, if_pos hlt, int_of (rd l i), add_of, Mix]
    simp only [obind]
    rw [show wrap64 (i + 1) = i + 1 by unfold wrap64; omega, ih k _ (i + 1) (by omega) (by omega) (by omega) (by omega), rd_drop l i h0 hlt]
    rfl
theorem Ints (v : B) (l : List Int) {k : Nat} (hl : l.length ≤ 4611686018427387904) (hk : l.length < k) : hash_Ints.f k (v.toNat : Int) l = some ((intsB v l).toNat : Int) := by
  unfold hash_Ints.f
  exact Ints_l l hl l.length k v 0 (by omega) (by omega) (by omega) hk
theorem mask32 (y : Int) (h0 : 0 ≤ y) (h1 : y < 18446744073709551616) : Go.bits .and .u64 y 4294967295 = y % 4294967296 := by
  have := bits_mask .u64 64 (Nat.le_refl _) (fun n a b => by rw [wu]; omega) 32 (by decide) y h0 (by simpa using h1)
  simpa using this
theorem Share (x n : Int) (h0 : 0 ≤ x) (h1 : x < 18446744073709551616) (hn : 1 ≤ n) (hm : n ≤ 1048576) : hash_Share.f x n = some ((x / 4294967296) * n / 4294967296, 0) := by
  unfold hash_Share.f
  rw [if_neg (by omega), if_neg (by omega)]
  unfold bits_Mul64.f
  simp only [obind]
  congr 1
  have e1 : IntKind.u64.wrap (x / 4294967296 * 4294967296) = x / 4294967296 * 4294967296 := by rw [wu]; omega
  have e2 : IntKind.u64.wrap n = n := by rw [wu]; omega
  rw [e1, e2]
  obtain ⟨H, hH⟩ : ∃ H, H = x / 4294967296 := ⟨_, rfl⟩
  have H0 : 0 ≤ H := by omega
  have H1 : H < 4294967296 := by omega
  rw [← hH]
  rw [mask32 n (by omega) (by omega), mask32 (H * 4294967296) (by omega) (by omega)]
  rw [show H * 4294967296 / 4294967296 = H by omega, show H * 4294967296 % 4294967296 = 0 by omega, show n % 4294967296 = n by omega, show n / 4294967296 = 0 by omega]
  simp only [Int.mul_zero, Int.zero_mul]
  have q0 : 0 ≤ H * n := Int.mul_nonneg H0 (by omega)
  have q1 : H * n ≤ 4294967295 * 1048576 := Int.mul_le_mul (by omega) hm (by omega) (by omega)
  generalize H * n = q at q0 q1 ⊢
  simp only [wu]
  rw [mask32 _ (by omega) (by omega)]
  unfold wrap64
  refine Prod.ext ?_ rfl
  show _ = q / 4294967296
  omega
theorem Share_no (x n : Int) (h : n < 1 ∨ n > 1048576) : hash_Share.f x n = some (0, 4) := by
  unfold hash_Share.f
  by_cases h1 : n < 1
  · rw [if_pos h1]
  · rw [if_neg h1, if_pos (by omega)]
theorem u64_bd {a : Int} (h : (Lit.int .u64 a).wf = true) : 0 ≤ a ∧ a < 18446744073709551616 := by
  obtain ⟨v, rfl⟩ := bv_of a h
  exact ⟨by omega, bv_lt v⟩
theorem wrap_add_l (x y : Int) : IntKind.u64.wrap (IntKind.u64.wrap x + y) = IntKind.u64.wrap (x + y) := by rw [wu, wu, wu, Int.emod_add_emod]
theorem wrap_add_r (x y : Int) : IntKind.u64.wrap (x + IntKind.u64.wrap y) = IntKind.u64.wrap (x + y) := by rw [wu, wu, wu, Int.add_emod_emod]
theorem wrap_id (x : Int) (h0 : 0 ≤ x) (h1 : x < 18446744073709551616) : IntKind.u64.wrap x = x := by rw [wu]; omega
theorem and_one (x : Int) (h0 : 0 ≤ x) (h1 : x < 18446744073709551616) : Go.bits .and .u64 x 1 = x % 2 := by
  have := bits_mask .u64 64 (Nat.le_refl _) (fun n a b => by rw [wu]; omega) 1 (by decide) x h0 (by simpa using h1)
  simpa using this
theorem bit_at (b : Int) (h0 : 0 ≤ b) (h1 : b < 18446744073709551616) (i : Nat) (hi : i ≤ 64) : Go.bits .and .u64 (shr .u64 b (i : Int)) 1 = b / 2 ^ i % 2 := by
  have hm : min (i : Int).toNat IntKind.u64.bits = i := by rw [Int.toNat_natCast]; simp [IntKind.bits]; omega
  unfold shr
  rw [hm]
  have hp : (1 : Int) ≤ 2 ^ i := by have : (0 : Int) < 2 ^ i := Int.pow_pos (by decide); omega
  have e0 : 0 ≤ b / 2 ^ i := Int.ediv_nonneg h0 (by omega)
  have e1 : b / 2 ^ i ≤ b := Int.ediv_le_self _ h0
  exact and_one _ e0 (by omega)
theorem shl_at (a : Int) (i : Nat) (hi : i ≤ 64) : shl .u64 a (i : Int) = IntKind.u64.wrap (a * 2 ^ i) := by
  have hm : min (i : Int).toNat IntKind.u64.bits = i := by rw [Int.toNat_natCast]; simp [IntKind.bits]; omega
  unfold shl
  rw [hm]
theorem half (b : Int) (i : Nat) : b / 2 ^ i = 2 * (b / 2 ^ (i + 1)) + b / 2 ^ i % 2 := by
  have e : b / 2 ^ (i + 1) = b / 2 ^ i / 2 := by rw [Int.pow_succ, Int.ediv_ediv_of_nonneg (Int.pow_nonneg (by decide))]
  rw [e]; omega
theorem Times_l (a b : Int) (b0 : 0 ≤ b) (b1 : b < 18446744073709551616) (d : Nat) : ∀ (k : Nat) (acc : Int) (i : Nat), 0 ≤ acc → acc < 18446744073709551616 → i + d = 64 → d < k →
    waybillref10_times.l0 k a b acc (i : Int) = some (IntKind.u64.wrap (acc + a * 2 ^ i * (b / 2 ^ i))) := by
  induction d with
  | zero =>
    intro k acc i a0 a1 hi hk
    obtain ⟨k, rfl⟩ : ∃ m, k = m + 1 := ⟨k - 1, by omega⟩
    obtain rfl : i = 64 := by omega
    simp only [waybillref10_times.l0]
    rw [if_neg (by omega), show b / 2 ^ 64 = 0 from Int.ediv_eq_zero_of_lt b0 (by simpa using b1), Int.mul_zero, Int.add_zero, wrap_id _ a0 a1]
  | succ d ih =>
    intro k acc i a0 a1 hi hk
    obtain ⟨k, rfl⟩ : ∃ m, k = m + 1 := ⟨k - 1, by omega⟩
    simp only [waybillref10_times.l0]
    have hw : wrap64 ((i : Int) + 1) = ((i + 1 : Nat) : Int) := by unfold wrap64; omega
    rw [if_pos (by omega), if_pos (by omega), bit_at b b0 b1 i (by omega), hw]
    have hh := half b i
    have h2 : (2 : Int) ^ (i + 1) = 2 ^ i * 2 := Int.pow_succ _ _
    by_cases c : b / 2 ^ i % 2 = 1
    · rw [if_pos c, shl_at a i (by omega), wrap_add_r, ih k _ (i + 1) (by rw [wu]; omega) (by rw [wu]; omega) (by omega) (by omega), wrap_add_l]
      congr 2
      rw [c] at hh
      rw [hh, h2, Int.mul_add, Int.mul_one]
      have e : a * (2 ^ i * 2) * (b / (2 ^ i * 2)) = a * 2 ^ i * (2 * (b / (2 ^ i * 2))) := by rw [← Int.mul_assoc a, Int.mul_assoc (a * 2 ^ i)]
      rw [e]; omega
    · rw [if_neg c, ih k acc (i + 1) a0 a1 (by omega) (by omega)]
      congr 2
      have c0 : b / 2 ^ i % 2 = 0 := by omega
      rw [c0, Int.add_zero] at hh
      rw [hh, h2]
      have e : a * (2 ^ i * 2) * (b / (2 ^ i * 2)) = a * 2 ^ i * (2 * (b / (2 ^ i * 2))) := by rw [← Int.mul_assoc a, Int.mul_assoc (a * 2 ^ i)]
      rw [e]
theorem Times (v c : B) {k : Nat} (hk : 65 ≤ k) : waybillref10_times.f k (v.toNat : Int) (c.toNat : Int) = some ((v * c).toNat : Int) := by
  unfold waybillref10_times.f
  have := Times_l (v.toNat : Int) (c.toNat : Int) (by omega) (bv_lt c) 64 k 0 0 (by omega) (by omega) (by omega) (by omega)
  rw [show ((0 : Nat) : Int) = 0 from rfl] at this
  rw [this, Int.zero_add, Int.pow_zero, Int.mul_one, Int.ediv_one, mul_of]
theorem RMix (v : B) {k : Nat} (hk : 65 ≤ k) : waybillref10_Mix.f k (v.toNat : Int) = some ((mixB v).toNat : Int) := by
  unfold waybillref10_Mix.f
  rw [fold_of, c1_int, Times _ _ hk]; simp only [obind]
  rw [fold_of, c2_int, Times _ _ hk]; simp only [obind]
  rw [fold_of]; rfl
theorem RShare (x n : Int) (h0 : 0 ≤ x) (h1 : x < 18446744073709551616) : waybillref10_Share.f x n = hash_Share.f x n := by
  by_cases h : 1 ≤ n ∧ n ≤ 1048576
  · rw [Share x n h0 h1 h.1 h.2]
    unfold waybillref10_Share.f
    rw [if_neg (by omega), if_neg (by omega)]
    have q0 : 0 ≤ x / 4294967296 * n := Int.mul_nonneg (by omega) (by omega)
    have q1 : x / 4294967296 * n ≤ 4294967295 * 1048576 := Int.mul_le_mul (by omega) h.2 (by omega) (by omega)
    rw [wrap_id n (by omega) (by omega), wrap_id _ q0 (by omega)]
    unfold wrap64
    congr 2
    omega
  · rw [Share_no x n (by omega)]
    unfold waybillref10_Share.f
    by_cases c : n < 1
    · rw [if_pos c]
    · rw [if_neg c, if_pos (by omega)]
/-- Bit by bit: what is left is x less odd times n, and is a number of 2^i. -/
theorem or_bit (n : Int) (i : Nat) (hi : i < 64) (h0 : 0 ≤ n) (h1 : n < 2 ^ i) : Go.bits .or .u64 n (shl .u64 1 (i : Int)) = n + 2 ^ i := by
  have hp : (0 : Int) < 2 ^ i := Int.pow_pos (by decide)
  have hlt : (2 : Int) ^ i < 18446744073709551616 := by
    have : (2 : Nat) ^ i < 2 ^ 64 := Nat.pow_lt_pow_right (by decide) hi
    have h3 : ((2 : Nat) ^ i : Int) < ((2 ^ 64 : Nat) : Int) := by exact_mod_cast this
    simpa using h3
  rw [shl_at 1 i (by omega), Int.one_mul, wrap_id _ (by omega) hlt]
  have hk : ∀ n : Int, 0 ≤ n → n < 2 ^ 64 → IntKind.u64.wrap n = n := fun n a b => by rw [wu]; simp at b; omega
  obtain ⟨a, rfl⟩ := Int.eq_ofNat_of_zero_le h0
  have ha : a < 2 ^ i := by exact_mod_cast h1
  have hc : ((2 : Int) ^ i) = ((2 ^ i : Nat) : Int) := by simp
  have hi64 : (2 : Nat) ^ i < 2 ^ 64 := Nat.pow_lt_pow_right (by decide) hi
  rw [hc, (bits_nat .u64 64 (Nat.le_refl _) hk a (2 ^ i) (by omega) hi64).2]
  have := Nat.two_pow_add_eq_or_of_lt ha 1
  rw [Nat.mul_one] at this
  rw [Nat.or_comm, ← this]
  simp [Int.add_comm]
theorem u64_nonneg (x : Int) : 0 ≤ IntKind.u64.wrap x := by rw [wu]; exact Int.emod_nonneg _ (by decide)
theorem u64_lt (x : Int) : IntKind.u64.wrap x < 18446744073709551616 := by rw [wu]; exact Int.emod_lt_of_pos _ (by decide)
/-- One bit, where it is set: p is 2^i. -/
theorem thr_set (y odd p M : Int) (hM : 2 * p ∣ M) (ho : odd % 2 = 1) (hyq : y = p * (y / p)) (c : y / p % 2 = 1) : ((y - (odd * p) % M) % M) % (2 * p) = 0 := by
  rw [Int.emod_emod_of_dvd _ hM]
  have e : (y - (odd * p) % M) % (2 * p) = (y - odd * p) % (2 * p) := by
    rw [Int.sub_emod, Int.emod_emod_of_dvd _ hM, ← Int.sub_emod]
  rw [e]
  obtain ⟨q, hq⟩ : ∃ q, q = y / p := ⟨_, rfl⟩
  rw [← hq] at hyq c
  have e3 : (q - odd) = 2 * ((q - odd) / 2) := by omega
  have e4 : y - odd * p = p * (q - odd) := by rw [hyq, Int.mul_sub, Int.mul_comm odd]
  rw [e4]
  generalize (q - odd) / 2 = z at e3
  rw [e3, ← Int.mul_assoc, Int.mul_comm p 2, Int.mul_emod_right]
theorem thr_not (y p : Int) (hyq : y = p * (y / p)) (c : ¬ y / p % 2 = 1) : y % (2 * p) = 0 := by
  obtain ⟨q, hq⟩ : ∃ q, q = y / p := ⟨_, rfl⟩
  rw [← hq] at hyq c
  have e3 : q = 2 * (q / 2) := by omega
  generalize q / 2 = z at e3
  rw [hyq, e3, ← Int.mul_assoc, Int.mul_comm p 2, Int.mul_emod_right]
theorem thr_x (y z u x : Int) (hx : (y + u - x) % 18446744073709551616 = 0) : ((y - z % 18446744073709551616) % 18446744073709551616 + (u + z - x)) % 18446744073709551616 = 0 := by omega
theorem Through_l (x odd : Int) (ho : odd % 2 = 1) (d : Nat) : ∀ (k : Nat) (y n : Int) (i : Nat), 0 ≤ y → y < 18446744073709551616 → 0 ≤ n → n < 2 ^ i → y % 2 ^ i = 0 → (y + odd * n - x) % 18446744073709551616 = 0 → i + d = 64 → d < k →
    ∃ r, waybillref10_through.l0 k y odd n (i : Int) = some r ∧ 0 ≤ r ∧ r < 18446744073709551616 ∧ (odd * r - x) % 18446744073709551616 = 0 := by
  induction d with
  | zero =>
    intro k y n i y0 y1 n0 n1 hy hx hi hk
    obtain ⟨k, rfl⟩ : ∃ m, k = m + 1 := ⟨k - 1, by clear hy hx n1; omega⟩
    obtain rfl : i = 64 := by clear hy hx n1; omega
    have n2 : n < 18446744073709551616 := by simpa using n1
    have hy0 : y = 0 := by
      have : y % 18446744073709551616 = 0 := by simpa using hy
      clear hy hx n1; omega
    subst hy0
    rw [Int.zero_add] at hx
    refine ⟨n, ?_, n0, n2, hx⟩
    simp only [waybillref10_through.l0]
    rw [if_neg (by decide)]
  | succ d ih =>
    intro k y n i y0 y1 n0 n1 hy hx hi hk
    have HY := Aside0.mk hy
    have HX := Aside0.mk hx
    have N1 := Aside0.mk n1
    clear hy hx n1
    obtain ⟨k, rfl⟩ : ∃ m, k = m + 1 := ⟨k - 1, by omega⟩
    simp only [waybillref10_through.l0]
    have hi63 : i < 64 := by omega
    have hw : wrap64 ((i : Int) + 1) = ((i + 1 : Nat) : Int) := by unfold wrap64; omega
    have hi64 : (i : Int) < 64 := by omega
    have hid : i + 1 + d = 64 := by omega
    have hdk : d < k := by omega
    rw [if_pos hi64, if_pos (Int.natCast_nonneg i), bit_at y y0 y1 i (Nat.le_of_lt hi63), hw]
    have hp : (0 : Int) < 2 ^ i := Int.pow_pos (by decide)
    have h2 : (2 : Int) ^ (i + 1) = 2 * 2 ^ i := by rw [Int.pow_succ, Int.mul_comm]
    have hdvd : 2 * (2 : Int) ^ i ∣ 18446744073709551616 := by
      have e64 : (18446744073709551616 : Int) = 2 ^ 64 := by decide +kernel
      exact ⟨2 ^ d, by rw [e64, ← hid, Int.pow_add 2 (i + 1) d, h2]⟩
    have hyq : y = 2 ^ i * (y / 2 ^ i) := by have h3 := Int.mul_ediv_add_emod y (2 ^ i); rw [HY.out, Int.add_zero] at h3; exact h3.symm
    by_cases c : y / 2 ^ i % 2 = 1
    · rw [if_pos c, or_bit n i hi63 n0 N1.out, shl_at odd i (Nat.le_of_lt hi63)]
      refine ih k _ _ (i + 1) (u64_nonneg _) (u64_lt _) (Int.add_nonneg n0 (Int.le_of_lt hp)) ?_ ?_ ?_ hid hdk
      · rw [h2, Int.two_mul]; exact Int.add_lt_add_right N1.out _
      · rw [h2, wu, wu]; exact thr_set y odd (2 ^ i) _ hdvd ho hyq c
      · have e : IntKind.u64.wrap (y - IntKind.u64.wrap (odd * 2 ^ i)) + odd * (n + 2 ^ i) - x = IntKind.u64.wrap (y - IntKind.u64.wrap (odd * 2 ^ i)) + (odd * n + odd * 2 ^ i - x) := by rw [Int.mul_add, Int.add_sub_assoc]
        rw [e, wu, wu]
        exact thr_x y _ _ x HX.out
    · rw [if_neg c]
      refine ih k _ _ (i + 1) y0 y1 n0 ?_ ?_ HX.out hid hdk
      · rw [h2, Int.two_mul]; exact Int.lt_of_lt_of_le N1.out (Int.le_add_of_nonneg_left (Int.le_of_lt hp))
      · rw [h2]; exact thr_not y (2 ^ i) hyq c
theorem Through (v c i : B) (hc : c.toNat % 2 = 1) (hi : c * i = 1#64) {k : Nat} (hk : 65 ≤ k) : waybillref10_through.f k (v.toNat : Int) (c.toNat : Int) = some ((v * i).toNat : Int) := by
  unfold waybillref10_through.f
  obtain ⟨r, h, r0, r1, hr⟩ := Through_l (v.toNat : Int) (c.toNat : Int) (by omega) 64 k (v.toNat : Int) 0 0 (by omega) (bv_lt v) (by omega) (by simp) (by simp) (by simp) (by omega) (by omega)
  rw [show ((0 : Nat) : Int) = 0 from rfl] at h
  rw [h]
  congr 1
  obtain ⟨u, rfl⟩ : ∃ u : B, r = (u.toNat : Int) := ⟨BitVec.ofInt 64 r, by rw [BitVec.toNat_ofInt]; omega⟩
  have e : c * u = v := by
    apply BitVec.eq_of_toNat_eq
    rw [BitVec.toNat_mul]
    have := v.isLt
    have h3 : ((c.toNat * u.toNat : Nat) : Int) = (c.toNat : Int) * (u.toNat : Int) := by simp
    rw [← h3] at hr
    generalize c.toNat * u.toNat = z at hr ⊢
    omega
  rw [← e, BitVec.mul_comm c u, BitVec.mul_assoc, hi, BitVec.mul_one]
theorem RUnmix (v : B) {k : Nat} (hk : 65 ≤ k) : waybillref10_Unmix.f k (v.toNat : Int) = some ((unmixB v).toNat : Int) := by
  unfold waybillref10_Unmix.f
  rw [fold_of, c2_int, Through _ c2 i2 (by decide) c2i2 hk]; simp only [obind]
  rw [fold_of, c1_int, Through _ c1 i1 (by decide) c1i1 hk]; simp only [obind]
  rw [fold_of]; rfl
def putBB (v : B) (c : Int) : B := (v ^^^ BitVec.ofInt 64 c) * 1099511628211#64
theorem xor_of (v u : B) : Go.bits .xor .u64 (v.toNat : Int) (u.toNat : Int) = ((v ^^^ u).toNat : Int) := by
  unfold Go.bits
  simp only [IntKind.bits]
  rw [BitVec.ofInt_natCast, BitVec.ofInt_natCast]
  simp only [BitVec.ofNat_toNat, BitVec.setWidth_eq]
  rw [wu]
  show ((v ^^^ u : B).toNat : Int) % 18446744073709551616 = ((v ^^^ u : B).toNat : Int)
  have := (v ^^^ u : B).isLt
  omega
theorem pr_int : (1099511628211 : Int) = (((1099511628211#64 : B).toNat : Nat) : Int) := by simp
theorem putB_of (v : B) (c : Int) : putB (v.toNat : Int) c = ((putBB v c).toNat : Int) := by
  unfold putB putBB
  rw [int_of c, xor_of, pr_int, mul_of]
def endBB (v : B) : B := v * 1099511628211#64 + 1#64
theorem endB_of (v : B) : endB (v.toNat : Int) = ((endBB v).toNat : Int) := by
  unfold endB endBB
  rw [pr_int, mul_of, show (1 : Int) = (((1#64 : B).toNat : Nat) : Int) by simp, add_of]
def ofSB (v : B) (l : List Int) : B := l.foldl putBB v
theorem ofS_of (l : List Int) : ∀ v : B, ofS (v.toNat : Int) l = ((ofSB v l).toNat : Int) := by
  induction l with
  | nil => intro v; rfl
  | cons c t ih => intro v; show ofS (putB (v.toNat : Int) c) t = _; rw [putB_of, ih]; rfl
def ofLB (v : B) : List ByteArray → B
  | [] => v
  | s :: t => ofLB (endBB (ofSB v (bytesOf s))) t
theorem ofL_of (l : List ByteArray) : ∀ v : B, ofL (v.toNat : Int) l = ((ofLB v l).toNat : Int) := by
  induction l with
  | nil => intro v; rfl
  | cons s t ih => intro v; show ofL (endB (ofS (v.toNat : Int) (bytesOf s))) t = _; rw [ofS_of, endB_of, ih]; rfl
theorem begin_int : (14695981039346656037 : Int) = (((14695981039346656037#64 : B).toNat : Nat) : Int) := by simp
theorem HOf (v : B) (l : List ByteArray) (h : ∀ s ∈ l, s.size ≤ 140737488351232) : hash_Of.f (v.toNat : Int) l = some ((mixB (ofLB (14695981039346656037#64 ^^^ v) l)).toNat : Int) := by
  unfold hash_Of.f
  rw [if_pos h, begin_int, xor_of, ofL_of, Mix]
theorem ROf (l : List ByteArray) (hl : l.length ≤ 4) (h : ∀ s ∈ l, s.size ≤ 140737488351232) (K : Nat) (hK : ∀ s ∈ l, s.size + 1 ≤ K) : ∀ (m : Nat) (k : Nat) (v : B) (i : Int), 0 ≤ i → i ≤ l.length → (l.length : Int) - i = m → m * (K + 1) + 66 ≤ k →
    waybillref10_Of.l0 k l (v.toNat : Int) i = some ((mixB (ofLB v (l.drop i.toNat))).toNat : Int) := by
  intro m
  induction m with
  | zero =>
    intro k v i i0 i1 hm hk
    obtain ⟨k, rfl⟩ : ∃ m, k = m + 1 := ⟨k - 1, by omega⟩
    simp only [waybillref10_Of.l0]
    rw [if_neg (by omega), RMix _ (by omega), List.drop_eq_nil_of_le (by omega)]; rfl
  | succ m ih =>
    intro k v i i0 i1 hm hk
    obtain ⟨k, rfl⟩ : ∃ m, k = m + 1 := ⟨k - 1, by omega⟩
    have hlt : i < (l.length : Int) := by omega
    have hd := of_drop l i i0 hlt
    obtain ⟨s, hs⟩ : ∃ s, s = rdOf ByteArray.empty l i := ⟨_, rfl⟩
    have hmem : s ∈ l := by rw [hs]; unfold rdOf; rw [List.getD_eq_getElem?_getD, List.getElem?_eq_getElem (show i.toNat < l.length by omega)]; exact List.getElem_mem _
    rw [← hs] at hd
    have hz := h s hmem
    have hKs := hK s hmem
    simp only [waybillref10_Of.l0]
    rw [if_pos hlt]
    have hmul : (m + 1) * (K + 1) = m * (K + 1) + (K + 1) := by rw [Nat.add_mul, Nat.one_mul]
    -- the bytes of one text
    have inner : ∀ (d : Nat) (k : Nat) (u : B) (j : Int), 0 ≤ j → j ≤ s.size → (s.size : Int) - j = d → m * (K + 1) + 66 + d + 1 ≤ k →
        waybillref10_Of.l1 k l (u.toNat : Int) i j = some ((mixB (ofLB (endBB (ofSB u ((bytesOf s).drop j.toNat))) (l.drop (i + 1).toNat))).toNat : Int) := by
      intro d
      induction d with
      | zero =>
        intro k u j j0 j1 hd' hk'
        obtain ⟨k, rfl⟩ : ∃ m, k = m + 1 := ⟨k - 1, by omega⟩
        simp only [waybillref10_Of.l1]
        rw [if_pos i0, if_pos hlt, ← hs, if_neg (by omega), pr_int, Times _ _ (by omega)]
        simp only [obind]
        rw [show (1 : Int) = (((1#64 : B).toNat : Nat) : Int) by simp, add_of, show (((1#64 : B).toNat : Nat) : Int) = 1 by simp, show wrap64 (i + 1) = i + 1 by unfold wrap64; omega]
        rw [ih k _ (i + 1) (by omega) (by omega) (by omega) (by omega), List.drop_eq_nil_of_le (show (bytesOf s).length ≤ j.toNat by rw [bytesOf_length]; omega)]
        rfl
      | succ d ihd =>
        intro k u j j0 j1 hd' hk'
        obtain ⟨k, rfl⟩ : ∃ m, k = m + 1 := ⟨k - 1, by omega⟩
        have jlt : j < (s.size : Int) := by omega
        simp only [waybillref10_Of.l1]
        rw [if_pos i0, if_pos hlt, ← hs, if_pos jlt, if_pos j0, int_of (bt s j), xor_of, pr_int, Times _ _ (by omega)]
        simp only [obind]
        rw [show wrap64 (j + 1) = j + 1 by unfold wrap64; omega, ihd k _ (j + 1) (by omega) (by omega) (by omega) (by omega), bytes_drop s j j0 jlt]
        rfl
    rw [inner s.size k v 0 (by omega) (by omega) (by omega) (by omega), hd]
    rfl
theorem RInts_l (l : List Int) (hl : l.length ≤ 4611686018427387904) (d : Nat) : ∀ (k : Nat) (v : B) (i : Int), 0 ≤ i → i ≤ l.length → (l.length : Int) - i = d → d + 66 < k → waybillref10_Ints.l0 k (v.toNat : Int) l i = some ((intsB v (l.drop i.toNat)).toNat : Int) := by
  induction d with
  | zero =>
    intro k v i h0 h1 hd hk
    obtain ⟨k, rfl⟩ : ∃ m, k = m + 1 := ⟨k - 1, by omega⟩
    simp only [waybillref10_Ints.l0]
    rw [if_neg (by omega), List.drop_eq_nil_of_le (by omega)]; rfl
  | succ d ih =>
    intro k v i h0 h1 hd hk
    obtain ⟨k, rfl⟩ : ∃ m, k = m + 1 := ⟨k - 1, by omega⟩
    have hlt : i < (l.length : Int) := by omega
    simp only [waybillref10_Ints.l0]
    rw [if_pos hlt, if_pos h0, int_of (rd l i), add_of, RMix _ (by omega)]
    simp only [obind]
    rw [show wrap64 (i + 1) = i + 1 by unfold wrap64; omega, ih k _ (i + 1) (by omega) (by omega) (by omega) (by omega), rd_drop l i h0 hlt]
    rfl
theorem HashTells : waybilllaw10_HashTells.Pure := by
  intro x s t a b n hx hs ht ha hb hn
  obtain ⟨v, rfl⟩ := bv_of x hx
  have hv := bv_lt v
  have hall : ∀ z ∈ [s, t], z.size ≤ 140737488351232 := by intro z hz; simp at hz; rcases hz with rfl | rfl <;> assumption
  obtain ⟨K, hK⟩ : ∃ K, K = s.size + t.size + 1 := ⟨_, rfl⟩
  have hKs : ∀ z ∈ [s, t], z.size + 1 ≤ K := by intro z hz; simp at hz; rcases hz with rfl | rfl <;> omega
  obtain ⟨k, hk⟩ : ∃ k, k = 2 * (K + 1) + 100 := ⟨_, rfl⟩
  refine ⟨k, ?_⟩
  have k10 : 10 ≤ k := by omega
  have k65 : 65 ≤ k := by omega
  unfold waybilllaw10_HashTells.f
  rw [RShare _ _ (by omega) hv]
  have hsh : ∃ p, hash_Share.f (v.toNat : Int) n = some p := by
    by_cases h : 1 ≤ n ∧ n ≤ 1048576
    · exact ⟨_, Share _ n (by omega) hv h.1 h.2⟩
    · exact ⟨_, Share_no _ n (by omega)⟩
  obtain ⟨p, hp⟩ := hsh
  rw [hp]; simp only [obind]
  rw [Mix, RMix v k65]; simp only [obind, if_true]
  rw [Unmix v k10, RUnmix v k65]; simp only [obind, if_true]
  rw [HOf v [s, t] hall]
  have hrof : waybillref10_Of.f k (v.toNat : Int) [s, t] = some ((mixB (ofLB (14695981039346656037#64 ^^^ v) [s, t])).toNat : Int) := by
    unfold waybillref10_Of.f
    rw [begin_int, xor_of]
    exact ROf [s, t] (by simp) hall K hKs 2 k _ 0 (by omega) (by simp) (by simp) (by omega)
  rw [hrof]; simp only [obind, if_true]
  rw [Ints v [a, b] (by simp) (by simp; omega)]
  have hri : waybillref10_Ints.f k (v.toNat : Int) [a, b] = some ((intsB v [a, b]).toNat : Int) := RInts_l [a, b] (by simp) 2 k v 0 (by omega) (by simp) (by simp) (by omega)
  rw [hri]; simp only [obind, if_true, waybilllaw10_num.f]
  rw [Alive k10]; rfl

end Go.Proofs.Ythldeecchlgieaa.Pure
