/- The pure statement of DrawTells, proved. -/
import Derived.Test.YthldeecchlgieaaEDrawTellsx3
namespace Go.Proofs.Ythldeecchlgieaa.Pure
open Go.RowKit Go.Proofs.Ythldeecchlgieaa.EDrawTells Go.Proofs.YthldeecchlgieaaW.PrintWords Go.Proofs.YthldeecchlgieaaW.PrintLast Go.Proofs.YthldeecchlgieaaW.PrintMore
set_option linter.unusedVariables false
set_option linter.unusedSimpArgs false

/-- As a step of its own: not by unfolding. -/
theorem obind {α β : Type} (a : α) (f : α → Option β) : (some a).bind f = f a := Eq.trans (Option.bind_some a f) (Eq.refl _)
/-- Numbers of 64 bits. -/
abbrev B := BitVec 64
def c1 : B := 18397679294719823053#64
def c2 : B := 14181476777654086739#64
theorem wu (n : Int) : IntKind.u64.wrap n = n % 18446744073709551616 := by simp [IntKind.wrap, IntKind.bits, IntKind.signed]
theorem bv_of (a : Int) (h : (Lit.int .u64 a).wf = true) : ∃ v : B, a = (v.toNat : Int) := by
  simp only [Lit.wf, IntKind.min, IntKind.max, IntKind.signed, IntKind.bits, Bool.and_eq_true] at h
  refine ⟨BitVec.ofInt 64 a, ?_⟩
  rw [BitVec.toNat_ofInt]
  have h2 : a < 18446744073709551616 := by have := h.2; simp at this; omega
  have h1 : 0 ≤ a := by simpa using h.1
  simp
  omega
theorem bv_lt (v : B) : (v.toNat : Int) < 18446744073709551616 := by have := v.isLt; omega
def foldB (v : B) : B := v ^^^ (v >>> 33)
theorem fold_of (v : B) : Go.bits .xor .u64 (v.toNat : Int) ((v.toNat : Int) / 8589934592) = ((foldB v).toNat : Int) := by
  have h : ((v.toNat : Int) / (8589934592 : Int)) = (((v >>> 33).toNat : Nat) : Int) := by
    simp [BitVec.toNat_ushiftRight, Nat.shiftRight_eq_div_pow]
  rw [h]
  unfold Go.bits foldB
  simp only [IntKind.bits]
  rw [BitVec.ofInt_natCast, BitVec.ofInt_natCast]
  simp only [BitVec.ofNat_toNat, BitVec.setWidth_eq]
  rw [wu]
  show ((v ^^^ (v >>> 33) : B).toNat : Int) % 18446744073709551616 = ((v ^^^ (v >>> 33) : B).toNat : Int)
  have := (v ^^^ (v >>> 33) : B).isLt
  omega
theorem foldB_foldB (v : B) : foldB (foldB v) = v := by
  unfold foldB
  have h : (v >>> 33) >>> 33 = 0#64 := by
    rw [← BitVec.shiftRight_add]
    apply BitVec.eq_of_toNat_eq
    simp [BitVec.toNat_ushiftRight, Nat.shiftRight_eq_div_pow]
    have := v.isLt
    omega
  rw [BitVec.ushiftRight_xor_distrib, h]
  simp [BitVec.xor_assoc]
theorem mul_of (v c : B) : IntKind.u64.wrap ((v.toNat : Int) * (c.toNat : Int)) = ((v * c).toNat : Int) := by
  rw [wu, BitVec.toNat_mul]; simp
theorem add_of (v c : B) : IntKind.u64.wrap ((v.toNat : Int) + (c.toNat : Int)) = ((v + c).toNat : Int) := by
  rw [wu, BitVec.toNat_add]; simp
def mixB (v : B) : B := foldB (foldB (foldB v * c1) * c2)
def i1 : B := 5725274745694666757#64
def i2 : B := 11291846944257947611#64
def unmixB (v : B) : B := foldB (foldB (foldB v * i2) * i1)
theorem c1i1 : c1 * i1 = 1#64 := by decide
theorem c2i2 : c2 * i2 = 1#64 := by decide
theorem unmix_mix (v : B) : unmixB (mixB v) = v := by
  unfold unmixB mixB
  rw [foldB_foldB, BitVec.mul_assoc, c2i2, BitVec.mul_one, foldB_foldB, BitVec.mul_assoc, c1i1, BitVec.mul_one, foldB_foldB]
theorem mix_unmix (v : B) : mixB (unmixB v) = v := by
  unfold unmixB mixB
  rw [foldB_foldB, BitVec.mul_assoc, BitVec.mul_comm i1 c1, c1i1, BitVec.mul_one, foldB_foldB, BitVec.mul_assoc, BitVec.mul_comm i2 c2, c2i2, BitVec.mul_one, foldB_foldB]
theorem mix_inj {v u : B} : mixB v = mixB u ↔ v = u := ⟨fun h => by rw [← unmix_mix v, h, unmix_mix], fun h => by rw [h]⟩
theorem toNat_beq (v u : B) : (((v.toNat : Nat) : Int) == ((u.toNat : Nat) : Int)) = (v == u) := by
  rw [Bool.eq_iff_iff]; simp [BitVec.toNat_inj, Int.ofNat_inj]
theorem Fold (v : B) : hash_fold.f (v.toNat : Int) = some ((foldB v).toNat : Int) := by unfold hash_fold.f; rw [fold_of]
theorem c1_int : (18397679294719823053 : Int) = ((c1.toNat : Nat) : Int) := by simp [c1]
theorem c2_int : (14181476777654086739 : Int) = ((c2.toNat : Nat) : Int) := by simp [c2]
theorem Mix (v : B) : hash_Mix.f (v.toNat : Int) = some ((mixB v).toNat : Int) := by
  unfold hash_Mix.f
  rw [Fold]; simp only [obind]
  rw [c1_int, mul_of, Fold]; simp only [obind]
  rw [c2_int, mul_of, Fold]; rfl
theorem mask32 (y : Int) (h0 : 0 ≤ y) (h1 : y < 18446744073709551616) : Go.bits .and .u64 y 4294967295 = y % 4294967296 := by
  have := bits_mask .u64 64 (Nat.le_refl _) (fun n a b => by rw [wu]; omega) 32 (by decide) y h0 (by simpa using h1)
  simpa using this
theorem Share (x n : Int) (h0 : 0 ≤ x) (h1 : x < 18446744073709551616) (hn : 1 ≤ n) (hm : n ≤ 1048576) : hash_Share.f x n = some ((x / 4294967296) * n / 4294967296, 0) := by
  unfold hash_Share.f
  rw [if_neg (by omega), if_neg (by omega)]
  unfold bits_Mul64.f
  simp only [obind]
  congr 1
  have e1 : IntKind.u64.wrap (x / 4294967296 * 4294967296) = x / 4294967296 * 4294967296 := by rw [wu]; omega
  have e2 : IntKind.u64.wrap n = n := by rw [wu]; omega
  rw [e1, e2]
  obtain ⟨H, hH⟩ : ∃ H, H = x / 4294967296 := ⟨_, rfl⟩
  have H0 : 0 ≤ H := by omega
  have H1 : H < 4294967296 := by omega
  rw [← hH]
  rw [mask32 n (by omega) (by omega), mask32 (H * 4294967296) (by omega) (by omega)]
  rw [show H * 4294967296 / 4294967296 = H by omega, show H * 4294967296 % 4294967296 = 0 by omega, show n % 4294967296 = n by omega, show n / 4294967296 = 0 by omega]
  simp only [Int.mul_zero, Int.zero_mul]
  have q0 : 0 ≤ H * n := Int.mul_nonneg H0 (by omega)
  have q1 : H * n ≤ 4294967295 * 1048576 := Int.mul_le_mul (by omega) hm (by omega) (by omega)
  generalize H * n = q at q0 q1 ⊢
  simp only [wu]
  rw [mask32 _ (by omega) (by omega)]
  unfold wrap64
  refine Prod.ext ?_ rfl
  show _ = q / 4294967296
  omega
theorem Share_no (x n : Int) (h : n < 1 ∨ n > 1048576) : hash_Share.f x n = some (0, 4) := by
  unfold hash_Share.f
  by_cases h1 : n < 1
  · rw [if_pos h1]
  · rw [if_neg h1, if_pos (by omega)]
theorem u64_bd {a : Int} (h : (Lit.int .u64 a).wf = true) : 0 ≤ a ∧ a < 18446744073709551616 := by
  obtain ⟨v, rfl⟩ := bv_of a h
  exact ⟨by omega, bv_lt v⟩
theorem wrap_add_l (x y : Int) : IntKind.u64.wrap (IntKind.u64.wrap x + y) = IntKind.u64.wrap (x + y) := by rw [wu, wu, wu, Int.emod_add_emod]
theorem wrap_add_r (x y : Int) : IntKind.u64.wrap (x + IntKind.u64.wrap y) = IntKind.u64.wrap (x + y) := by rw [wu, wu, wu, Int.add_emod_emod]
theorem wrap_id (x : Int) (h0 : 0 ≤ x) (h1 : x < 18446744073709551616) : IntKind.u64.wrap x = x := by rw [wu]; omega
theorem and_one (x : Int) (h0 : 0 ≤ x) (h1 : x < 18446744073709551616) : Go.bits .and .u64 x 1 = x % 2 := by
  have := bits_mask .u64 64 (Nat.le_refl _) (fun n a b => by rw [wu]; omega) 1 (by decide) x h0 (by simpa using h1)
  simpa using this
theorem bit_at (b : Int) (h0 : 0 ≤ b) (h1 : b < 18446744073709551616) (i : Nat) (hi : i ≤ 64) : Go.bits .and .u64 (shr .u64 b (i : Int)) 1 = b / 2 ^ i % 2 := by
  have hm : min (i : Int).toNat IntKind.u64.bits = i := by rw [Int.toNat_natCast]; simp [IntKind.bits]; omega
  unfold shr
  rw [hm]
  have hp : (1 : Int) ≤ 2 ^ i := by have : (0 : Int) < 2 ^ i := Int.pow_pos (by decide); omega
  have e0 : 0 ≤ b / 2 ^ i := Int.ediv_nonneg h0 (by omega)
  have e1 : b / 2 ^ i ≤ b := Int.ediv_le_self _ h0
  exact and_one _ e0 (by omega)
theorem shl_at (a : Int) (i : Nat) (hi : i ≤ 64) : shl .u64 a (i : Int) = IntKind.u64.wrap (a * 2 ^ i) := by
  have hm : min (i : Int).toNat IntKind.u64.bits = i := by rw [Int.toNat_natCast]; simp [IntKind.bits]; omega
  unfold shl
  rw [hm]
theorem half (b : Int) (i : Nat) : b / 2 ^ i = 2 * (b / 2 ^ (i + 1)) + b / 2 ^ i % 2 := by
  have e : b / 2 ^ (i + 1) = b / 2 ^ i / 2 := by rw [Int.pow_succ, Int.ediv_ediv_of_nonneg (Int.pow_nonneg (by decide))]
  rw [e]; omega
theorem Times_l (a b : Int) (b0 : 0 ≤ b) (b1 : b < 18446744073709551616) (d : Nat) : ∀ (k : Nat) (acc : Int) (i : Nat), 0 ≤ acc → acc < 18446744073709551616 → i + d = 64 → d < k →
    waybillref10_times.l0 k a b acc (i : Int) = some (IntKind.u64.wrap (acc + a * 2 ^ i * (b / 2 ^ i))) := by
  induction d with
  | zero =>
    intro k acc i a0 a1 hi hk
    obtain ⟨k, rfl⟩ : ∃ m, k = m + 1 := ⟨k - 1, by omega⟩
    obtain rfl : i = 64 := by omega
    simp only [waybillref10_times.l0]
    rw [if_neg (by omega), show b / 2 ^ 64 = 0 from Int.ediv_eq_zero_of_lt b0 (by simpa using b1), Int.mul_zero, Int.add_zero, wrap_id _ a0 a1]
  | succ d ih =>
    intro k acc i a0 a1 hi hk
    obtain ⟨k, rfl⟩ : ∃ m, k = m + 1 := ⟨k - 1, by omega⟩
    simp only [waybillref10_times.l0]
    have hw : wrap64 ((i : Int) + 1) = ((i + 1 : Nat) : Int) := by unfold wrap64; omega
    rw [if_pos (by omega), if_pos (by omega), bit_at b b0 b1 i (by omega), hw]
    have hh := half b i
    have h2 : (2 : Int) ^ (i + 1) = 2 ^ i * 2 := Int.pow_succ _ _
    by_cases c : b / 2 ^ i % 2 = 1
    · rw [if_pos c, shl_at a i (by omega), wrap_add_r, ih k _ (i + 1) (by rw [wu]; omega) (by rw [wu]; omega) (by omega) (by omega), wrap_add_l]
      congr 2
      rw [c] at hh
      rw [hh, h2, Int.mul_add, Int.mul_one]
      have e : a * (2 ^ i * 2) * (b / (2 ^ i * 2)) = a * 2 ^ i * (2 * (b / (2 ^ i * 2))) := by rw [← Int.mul_assoc a, Int.mul_assoc (a * 2 ^ i)]
      rw [e]; omega
    · rw [if_neg c, ih k acc (i + 1) a0 a1 (by omega) (by omega)]
      congr 2
      have c0 : b / 2 ^ i % 2 = 0 := by omega
      rw [c0, Int.add_zero] at hh
      rw [hh, h2]
      have e : a * (2 ^ i * 2) * (b / (2 ^ i * 2)) = a * 2 ^ i * (2 * (b / (2 ^ i * 2))) := by rw [← Int.mul_assoc a, Int.mul_assoc (a * 2 ^ i)]
      rw [e]
theorem Times (v c : B) {k : Nat} (hk : 65 ≤ k) : waybillref10_times.f k (v.toNat : Int) (c.toNat : Int) = some ((v * c).toNat : Int) := by
  unfold waybillref10_times.f
  have := Times_l (v.toNat : Int) (c.toNat : Int) (by omega) (bv_lt c) 64 k 0 0 (by omega) (by omega) (by omega) (by omega)
  rw [show ((0 : Nat) : Int) = 0 from rfl] at this
  rw [this, Int.zero_add, Int.pow_zero, Int.mul_one, Int.ediv_one, mul_of]
theorem RMix (v : B) {k : Nat} (hk : 65 ≤ k) : waybillref10_Mix.f k (v.toNat : Int) = some ((mixB v).toNat : Int) := by
  unfold waybillref10_Mix.f
  rw [fold_of, c1_int, Times _ _ hk]; simp only [obind]
  rw [fold_of, c2_int, Times _ _ hk]; simp only [obind]
  rw [fold_of]; rfl
theorem RShare (x n : Int) (h0 : 0 ≤ x) (h1 : x < 18446744073709551616) : waybillref10_Share.f x n = hash_Share.f x n := by
  by_cases h : 1 ≤ n ∧ n ≤ 1048576
  · rw [Share x n h0 h1 h.1 h.2]
    unfold waybillref10_Share.f
    rw [if_neg (by omega), if_neg (by omega)]
    have q0 : 0 ≤ x / 4294967296 * n := Int.mul_nonneg (by omega) (by omega)
    have q1 : x / 4294967296 * n ≤ 4294967295 * 1048576 := Int.mul_le_mul (by omega) h.2 (by omega) (by omega)
    rw [wrap_id n (by omega) (by omega), wrap_id _ q0 (by omega)]
    unfold wrap64
    congr 2
    omega
  · rw [Share_no x n (by omega)]
    unfold waybillref10_Share.f
    by_cases c : n < 1
    · rw [if_pos c]
    · rw [if_neg c, if_pos (by omega)]
def stepB : B := 11400714819323198485#64
theorem step_int : (11400714819323198485 : Int) = ((stepB.toNat : Nat) : Int) := by simp [stepB]
theorem NextB (v : B) : draw_Next.f (v.toNat : Int) = some (((v + stepB).toNat : Int), ((mixB (v + stepB)).toNat : Int)) := by
  unfold draw_Next.f
  rw [step_int, add_of, Mix]; simp only [obind]
theorem dT_of (v : B) (n : Int) : ∃ p, hash_Share.f ((mixB (v + stepB)).toNat : Int) n = some p ∧ dT (v.toNat : Int) n = (((v + stepB).toNat : Int), p.1) := by
  obtain ⟨p, hp⟩ := share_some ((mixB (v + stepB)).toNat : Int) n
  refine ⟨p, hp, ?_⟩
  unfold dT drw
  rw [NextB]; simp only [obind]
  rw [hp]; simp only [obind]; rfl
theorem dT_state (v : B) (n : Int) : (dT (v.toNat : Int) n).1 = ((v + stepB).toNat : Int) := by
  obtain ⟨p, _, h⟩ := dT_of v n
  rw [h]
theorem dT_wf (v : B) (n : Int) : ∃ u : B, (dT (v.toNat : Int) n).1 = (u.toNat : Int) := ⟨_, dT_state v n⟩
theorem RNext (v : B) {k : Nat} (hk : 65 ≤ k) : waybillref11_Next.f k (v.toNat : Int) = some (((v + stepB).toNat : Int), ((mixB (v + stepB)).toNat : Int)) := by
  unfold waybillref11_Next.f
  rw [step_int, add_of, RMix _ hk]; simp only [obind]
theorem One (v : B) (n : Int) {k : Nat} (hk : 65 ≤ k) : waybillref11_one.f k (v.toNat : Int) n = some (dT (v.toNat : Int) n) := by
  unfold waybillref11_one.f
  obtain ⟨p, hp, hd⟩ := dT_of v n
  rw [RNext v hk]; simp only [obind]
  rw [RShare _ _ (by omega) (bv_lt _), hp]; simp only [obind]
  rw [hd]
theorem w00 : wrap64 (0 + 0) = 0 := by decide +kernel
theorem Same {k : Nat} (l : List Int) (hl : l.length ≤ 4611686018427387904) (hk : l.length < k) : waybillplain_SameInts.f k l l = some true := by
  unfold waybillplain_SameInts.f
  rw [if_pos rfl]
  have key : ∀ (d k : Nat) (i : Int), 0 ≤ i → (l.length : Int) - i = d → d < k → waybillplain_SameInts.l0 k l l i = some true := by
    intro d
    induction d with
    | zero =>
      intro k i h0 hd hk
      obtain ⟨k, rfl⟩ : ∃ m, k = m + 1 := ⟨k - 1, by omega⟩
      simp only [waybillplain_SameInts.l0]
      rw [if_neg (by omega)]
    | succ d ih =>
      intro k i h0 hd hk
      obtain ⟨k, rfl⟩ : ∃ m, k = m + 1 := ⟨k - 1, by omega⟩
      simp only [waybillplain_SameInts.l0]
      rw [if_pos (by omega), if_pos h0, if_pos (by omega), if_pos trivial, show wrap64 (i + 1) = i + 1 by unfold wrap64; omega]
      exact ih k (i + 1) (by omega) (by omega) (by omega)
  exact key l.length k 0 (by omega) (by omega) hk
theorem Alive {k : Nat} (hk : 5 ≤ k) : waybilllaw11_alive.f k = some true := by
  unfold waybilllaw11_alive.f
  have h1 : draw_Shuffle.f 5 1 = some (5, [0], 0) := by unfold draw_Shuffle.f; rw [if_neg (by decide), if_neg (by decide)]; rfl
  have h2 : draw_Below.f 5 [1, 1] = some ((drws 5 [1, 1]).1, (drws 5 [1, 1]).2, 0) := by unfold draw_Below.f; rw [if_pos (by simp), if_neg (by decide)]
  rw [h1, h2]; simp only [obind]
  have h3 : ((drws 5 [1, 1]).2.length : Int) = 2 := by rw [drws_length]; rfl
  rw [h3]
  generalize (drws 5 [1, 1]).1 = z
  unfold waybilllaw11_num.f
  simp only [obind]
  rw [if_pos w00, if_pos trivial, Same [0] (by simp) (by simp; omega)]; simp only [obind, if_true]
  rfl
theorem bitI (b : Int) (h0 : 0 ≤ b) (h1 : b ≤ 1073741824) (i : Nat) (hi : i ≤ 31) : Go.bits .and .i64 (shr .i64 b (i : Int)) 1 = b / 2 ^ i % 2 := by
  have hm : min (i : Int).toNat IntKind.i64.bits = i := by rw [Int.toNat_natCast]; simp [IntKind.bits]; omega
  unfold shr
  rw [hm]
  have hp : (1 : Int) ≤ 2 ^ i := by have : (0 : Int) < 2 ^ i := Int.pow_pos (by decide); omega
  have e0 : 0 ≤ b / 2 ^ i := Int.ediv_nonneg h0 (by omega)
  have e1 : b / 2 ^ i ≤ b := Int.ediv_le_self _ h0
  have := bits_mask .i64 62 (by decide) (fun n a b => by rw [IntKind.wrap_i64]; simp at b; omega) 1 (by decide) (b / 2 ^ i) e0 (by simp; omega)
  simpa using this
theorem Skip_l (b : Int) (b0 : 0 ≤ b) (b1 : b ≤ 1073741824) (d : Nat) : ∀ (k : Nat) (st all : Int) (i : Nat), 0 ≤ st → st < 18446744073709551616 → 0 ≤ all → all < 18446744073709551616 → i + d = 31 → d < k →
    waybillref11_Skip.l0 k st b all (i : Int) = some (IntKind.u64.wrap (st + all * (b / 2 ^ i)), 0) := by
  induction d with
  | zero =>
    intro k st all i s0 s1 a0 a1 hi hk
    obtain ⟨k, rfl⟩ : ∃ m, k = m + 1 := ⟨k - 1, by omega⟩
    obtain rfl : i = 31 := by omega
    simp only [waybillref11_Skip.l0]
    rw [if_neg (by omega), show b / 2 ^ 31 = 0 from Int.ediv_eq_zero_of_lt b0 (by simp; omega), Int.mul_zero, Int.add_zero, wrap_id _ s0 s1]
  | succ d ih =>
    intro k st all i s0 s1 a0 a1 hi hk
    obtain ⟨k, rfl⟩ : ∃ m, k = m + 1 := ⟨k - 1, by omega⟩
    simp only [waybillref11_Skip.l0]
    have hw : wrap64 ((i : Int) + 1) = ((i + 1 : Nat) : Int) := by unfold wrap64; omega
    rw [if_pos (by omega), if_pos (by omega), bitI b b0 b1 i (by omega), hw]
    have hh := half b i
    have e : ∀ q x : Int, IntKind.u64.wrap (x + IntKind.u64.wrap (all + all) * q) = IntKind.u64.wrap (x + all * (2 * q)) := by
      intro q x
      have e0 : ∀ X q : Int, (X % 18446744073709551616 * q) % 18446744073709551616 = (X * q) % 18446744073709551616 := fun X q => by rw [Int.mul_emod, Int.emod_emod, ← Int.mul_emod]
      rw [wu, wu, wu, Int.add_emod, e0, ← Int.add_emod]
      congr 2
      rw [← Int.mul_assoc, Int.mul_comm all 2, Int.two_mul]
    by_cases c : b / 2 ^ i % 2 = 1
    · rw [if_pos c, ih k _ _ (i + 1) (by rw [wu]; omega) (by rw [wu]; omega) (by rw [wu]; omega) (by rw [wu]; omega) (by omega) (by omega), e, wrap_add_l]
      rw [c] at hh
      rw [hh, Int.mul_add, Int.mul_one]
      congr 3
      omega
    · rw [if_neg c, ih k _ _ (i + 1) s0 s1 (by rw [wu]; omega) (by rw [wu]; omega) (by omega) (by omega), e]
      have c0 : b / 2 ^ i % 2 = 0 := by omega
      rw [c0, Int.add_zero] at hh
      rw [hh]
theorem RSkip (v : B) (n : Int) {k : Nat} (hk : 100 ≤ k) : waybillref11_Skip.f k (v.toNat : Int) n = draw_Skip.f (v.toNat : Int) n := by
  obtain ⟨k, rfl⟩ : ∃ m, k = m + 1 := ⟨k - 1, by omega⟩
  unfold waybillref11_Skip.f draw_Skip.f
  by_cases c1 : n < 0
  · rw [if_pos c1, if_pos c1]; simp only [waybillref11_Skip.j0, if_true]
  rw [if_neg c1, if_neg c1]
  by_cases c2 : n > 1073741824
  · rw [if_pos c2, decide_eq_true c2]; simp only [waybillref11_Skip.j0, if_true]
  rw [if_neg c2, decide_eq_false c2]; simp only [waybillref11_Skip.j0, Bool.false_eq_true, if_false]
  have := Skip_l n (by omega) (by omega) 31 k (v.toNat : Int) 11400714819323198485 0 (by omega) (bv_lt v) (by omega) (by omega) (by omega) (by omega)
  rw [show ((0 : Nat) : Int) = 0 from rfl] at this
  rw [this, Int.pow_zero, Int.ediv_one, wrap_add_r, wrap_id n (by omega) (by omega)]
theorem RTwo (v : B) (n : Int) {k : Nat} (hk : 100 ≤ k) : waybillref11_Two.f k (v.toNat : Int) n = draw_Two.f (v.toNat : Int) n := by
  obtain ⟨k, rfl⟩ : ∃ m, k = m + 1 := ⟨k - 1, by omega⟩
  unfold waybillref11_Two.f draw_Two.f
  by_cases c1 : n < 2
  · rw [if_pos c1, if_pos c1]; simp only [waybillref11_Two.j0, if_true]
  rw [if_neg c1, if_neg c1]
  by_cases c2 : n > 1048576
  · rw [if_pos c2, decide_eq_true c2]; simp only [waybillref11_Two.j0, if_true]
  rw [if_neg c2, decide_eq_false c2]; simp only [waybillref11_Two.j0, Bool.false_eq_true, if_false]
  obtain ⟨u, hu⟩ := dT_wf v n
  rw [One v n (by omega)]; simp only [obind]
  rw [hu, One u _ (by omega), show wrap64 (n - 1) = n - 1 by unfold wrap64; omega]; simp only [obind]
  split <;> rfl
theorem RChance (v : B) (n : Int) {k : Nat} (hk : 100 ≤ k) : waybillref11_Chance.f k (v.toNat : Int) n = draw_Chance.f (v.toNat : Int) n := by
  unfold waybillref11_Chance.f draw_Chance.f
  by_cases c1 : n < 0
  · rw [if_pos c1, if_pos c1]
  rw [if_neg c1, if_neg c1]
  by_cases c2 : n > 1000
  · rw [if_pos c2, if_pos c2]
  rw [if_neg c2, if_neg c2, One v _ (by omega)]; simp only [obind]
theorem RBelow_l1 (l : List Int) (hl : l.length ≤ 100) (d : Nat) : ∀ (k : Nat) (v : B) (out : List Int) (i : Int), 0 ≤ i → i ≤ l.length → (l.length : Int) - i = d → (out.length : Int) = i → d + 70 < k →
    waybillref11_Below.l1 k (v.toNat : Int) l out i = some ((drws (v.toNat : Int) (l.drop i.toNat)).1, out ++ (drws (v.toNat : Int) (l.drop i.toNat)).2, 0) := by
  induction d with
  | zero =>
    intro k v out i h0 h1 hd ho hk
    obtain ⟨k, rfl⟩ : ∃ m, k = m + 1 := ⟨k - 1, by omega⟩
    simp only [waybillref11_Below.l1]
    rw [if_neg (by omega), List.drop_eq_nil_of_le (by omega)]
    simp [drws]
  | succ d ih =>
    intro k v out i h0 h1 hd ho hk
    obtain ⟨k, rfl⟩ : ∃ m, k = m + 1 := ⟨k - 1, by omega⟩
    have hlt : i < (l.length : Int) := by omega
    obtain ⟨u, hu⟩ := dT_wf v (rd l i)
    simp only [waybillref11_Below.l1]
    rw [if_pos hlt, if_pos h0, One v _ (by omega)]; simp only [obind]
    rw [if_pos (by omega), show wrap64 (i + 1) = i + 1 by unfold wrap64; omega, hu, ih k u _ (i + 1) (by omega) (by omega) (by omega) (by simp; omega) (by omega), drop_cons l i h0 hlt]
    simp only [drws, hu, List.append_assoc, List.cons_append, List.nil_append]
theorem RBelow_l0 (l : List Int) (hl : l.length ≤ 100) (v : B) (d : Nat) : ∀ (k : Nat) (i : Int), 0 ≤ i → i ≤ l.length → (l.length : Int) - i = d → d + 300 < k →
    waybillref11_Below.l0 k (v.toNat : Int) l i = if (l.drop i.toNat).any oddN = true then some (0, [], 4) else some ((drws (v.toNat : Int) l).1, (drws (v.toNat : Int) l).2, 0) := by
  induction d with
  | zero =>
    intro k i h0 h1 hd hk
    obtain ⟨k, rfl⟩ : ∃ m, k = m + 1 := ⟨k - 1, by omega⟩
    simp only [waybillref11_Below.l0]
    rw [if_neg (by omega), List.drop_eq_nil_of_le (by omega), if_neg (by simp), RBelow_l1 l hl l.length k v [] 0 (by omega) (by omega) (by omega) (by simp) (by omega)]
    simp
  | succ d ih =>
    intro k i h0 h1 hd hk
    obtain ⟨k, rfl⟩ : ∃ m, k = m + 1 := ⟨k - 1, by omega⟩
    have hlt : i < (l.length : Int) := by omega
    simp only [waybillref11_Below.l0]
    rw [if_pos hlt, if_pos h0, drop_cons l i h0 hlt, List.any_cons]
    unfold oddN
    by_cases c1 : rd l i < 1
    · rw [if_pos c1, decide_eq_true c1]; simp
    rw [if_neg c1, decide_eq_false c1]
    by_cases c2 : rd l i > 1048576
    · rw [if_pos c2, decide_eq_true c2]; simp
    rw [if_neg c2, decide_eq_false c2, show wrap64 (i + 1) = i + 1 by unfold wrap64; omega, ih k (i + 1) (by omega) (by omega) (by omega) (by omega)]
    rfl
theorem RBelow (v : B) (l : List Int) (hl : l.length ≤ 100) {k : Nat} (hk : 500 ≤ k) : waybillref11_Below.f k (v.toNat : Int) l = draw_Below.f (v.toNat : Int) l := by
  unfold waybillref11_Below.f draw_Below.f
  rw [if_pos (by omega), RBelow_l0 l hl v l.length k 0 (by omega) (by omega) (by omega) (by omega)]
  rfl
theorem BelowSome (s : Int) (l : List Int) (hl : l.length ≤ 100) : ∃ p, draw_Below.f s l = some p ∧ p.2.1.length ≤ 100 := by
  unfold draw_Below.f
  rw [if_pos (by omega)]
  split
  · exact ⟨_, rfl, by simp⟩
  · exact ⟨_, rfl, by rw [drws_length]; exact hl⟩
theorem TwoSome (s n : Int) : ∃ p, draw_Two.f s n = some p := by
  unfold draw_Two.f
  split
  · exact ⟨_, rfl⟩
  · split <;> exact ⟨_, rfl⟩
theorem ChanceSome (s n : Int) : ∃ p, draw_Chance.f s n = some p := by
  unfold draw_Chance.f
  split
  · exact ⟨_, rfl⟩
  · split <;> exact ⟨_, rfl⟩
theorem SkipSome (s n : Int) : ∃ p, draw_Skip.f s n = some p := by
  unfold draw_Skip.f
  split
  · exact ⟨_, rfl⟩
  · split <;> exact ⟨_, rfl⟩
theorem DrawTells : waybilllaw11_DrawTells.Pure := by
  intro s a b n hs ha hb hn
  obtain ⟨v, rfl⟩ := bv_of s hs
  refine ⟨1001, ?_⟩
  unfold waybilllaw11_DrawTells.f
  rw [RNext v (by omega), RBelow v [a, b] (by simp) (by omega), RTwo v n (by omega), NextB]
  obtain ⟨p, hp, hl⟩ := BelowSome (v.toNat : Int) [a, b] (by simp)
  obtain ⟨q, hq⟩ := TwoSome (v.toNat : Int) n
  rw [hp, hq]; simp only [obind, if_true]
  rw [Same p.2.1 (by omega) (by omega)]; simp only [obind, if_true, waybilllaw11_num.f, bne_self_eq_false]
  simp only [waybilllaw11_DrawTells.j0, Bool.false_eq_true, if_false]
  obtain ⟨r, hr⟩ := ChanceSome (v.toNat : Int) n
  obtain ⟨t, ht⟩ := SkipSome (v.toNat : Int) n
  rw [RChance v n (by omega), RSkip v n (by omega), hr, ht]; simp only [obind, if_true, beq_self_eq_true, waybilllaw11_num.f]
  rw [Alive (by omega)]; rfl

end Go.Proofs.Ythldeecchlgieaa.Pure
