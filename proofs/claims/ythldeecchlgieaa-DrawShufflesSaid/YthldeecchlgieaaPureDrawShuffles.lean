/- The pure statement of DrawShuffles, proved. -/
import Derived.Test.YthldeecchlgieaaEDrawShufflesx3
namespace Go.Proofs.Ythldeecchlgieaa.Pure
open Go.RowKit Go.Proofs.Ythldeecchlgieaa.EDrawShuffles Go.Proofs.YthldeecchlgieaaW.PrintWords Go.Proofs.YthldeecchlgieaaW.PrintLast Go.Proofs.YthldeecchlgieaaW.PrintMore
set_option linter.unusedVariables false
set_option linter.unusedSimpArgs false

/-- As a step of its own: not by unfolding. -/
theorem obind {α β : Type} (a : α) (f : α → Option β) : (some a).bind f = f a := Eq.trans (Option.bind_some a f) (Eq.refl _)
/-- Numbers of 64 bits. -/
abbrev B := BitVec 64
def c1 : B := 18397679294719823053#64
def c2 : B := 14181476777654086739#64
theorem wu (n : Int) : IntKind.u64.wrap n = n % 18446744073709551616 := by simp [IntKind.wrap, IntKind.bits, IntKind.signed]
theorem bv_of (a : Int) (h : (Lit.int .u64 a).wf = true) : ∃ v : B, a = (v.toNat : Int) := by
  simp only [Lit.wf, IntKind.min, IntKind.max, IntKind.signed, IntKind.bits, Bool.and_eq_true] at h
  refine ⟨BitVec.ofInt 64 a, ?_⟩
  rw [BitVec.toNat_ofInt]
  have h2 : a < 18446744073709551616 := by have := h.2; simp at this; omega
  have h1 : 0 ≤ a := by simpa using h.1
  simp
  omega
theorem bv_lt (v : B) : (v.toNat : Int) < 18446744073709551616 := by have := v.isLt; omega
def foldB (v : B) : B := v ^^^ (v >>> 33)
theorem fold_of (v : B) : Go.bits .xor .u64 (v.toNat : Int) ((v.toNat : Int) / 8589934592) = ((foldB v).toNat : Int) := by
  have h : ((v.toNat : Int) / (8589934592 : Int)) = (((v >>> 33).toNat : Nat) : Int) := by
    simp [BitVec.toNat_ushiftRight, Nat.shiftRight_eq_div_pow]
  rw [h]
  unfold Go.bits foldB
  simp only [IntKind.bits]
  rw [BitVec.ofInt_natCast, BitVec.ofInt_natCast]
  simp only [BitVec.ofNat_toNat, BitVec.setWidth_eq]
  rw [wu]
  show ((v ^^^ (v >>> 33) : B).toNat : Int) % 18446744073709551616 = ((v ^^^ (v >>> 33) : B).toNat : Int)
  have := (v ^^^ (v >>> 33) : B).isLt
  omega
theorem foldB_foldB (v : B) : foldB (foldB v) = v := by
  unfold foldB
  have h : (v >>> 33) >>> 33 = 0#64 := by
    rw [← BitVec.shiftRight_add]
    apply BitVec.eq_of_toNat_eq
    simp [BitVec.toNat_ushiftRight, Nat.shiftRight_eq_div_pow]
    have := v.isLt
    omega
  rw [BitVec.ushiftRight_xor_distrib, h]
  simp [BitVec.xor_assoc]
theorem mul_of (v c : B) : IntKind.u64.wrap ((v.toNat : Int) * (c.toNat : Int)) = ((v * c).toNat : Int) := by
  rw [wu, BitVec.toNat_mul]; simp
theorem add_of (v c : B) : IntKind.u64.wrap ((v.toNat : Int) + (c.toNat : Int)) = ((v + c).toNat : Int) := by
  rw [wu, BitVec.toNat_add]; simp
def mixB (v : B) : B := foldB (foldB (foldB v * c1) * c2)
def i1 : B := 5725274745694666757#64
def i2 : B := 11291846944257947611#64
def unmixB (v : B) : B := foldB (foldB (foldB v * i2) * i1)
theorem c1i1 : c1 * i1 = 1#64 := by decide
theorem c2i2 : c2 * i2 = 1#64 := by decide
theorem unmix_mix (v : B) : unmixB (mixB v) = v := by
  unfold unmixB mixB
  rw [foldB_foldB, BitVec.mul_assoc, c2i2, BitVec.mul_one, foldB_foldB, BitVec.mul_assoc, c1i1, BitVec.mul_one, foldB_foldB]
theorem mix_unmix (v : B) : mixB (unmixB v) = v := by
  unfold unmixB mixB
  rw [foldB_foldB, BitVec.mul_assoc, BitVec.mul_comm i1 c1, c1i1, BitVec.mul_one, foldB_foldB, BitVec.mul_assoc, BitVec.mul_comm i2 c2, c2i2, BitVec.mul_one, foldB_foldB]
theorem mix_inj {v u : B} : mixB v = mixB u ↔ v = u := ⟨fun h => by rw [← unmix_mix v, h, unmix_mix], fun h => by rw [h]⟩
theorem toNat_beq (v u : B) : (((v.toNat : Nat) : Int) == ((u.toNat : Nat) : Int)) = (v == u) := by
  rw [Bool.eq_iff_iff]; simp [BitVec.toNat_inj, Int.ofNat_inj]
theorem Fold (v : B) : hash_fold.f (v.toNat : Int) = some ((foldB v).toNat : Int) := by unfold hash_fold.f; rw [fold_of]
theorem c1_int : (18397679294719823053 : Int) = ((c1.toNat : Nat) : Int) := by simp [c1]
theorem c2_int : (14181476777654086739 : Int) = ((c2.toNat : Nat) : Int) := by simp [c2]
theorem Mix (v : B) : hash_Mix.f (v.toNat : Int) = some ((mixB v).toNat : Int) := by
  unfold hash_Mix.f
  rw [Fold]; simp only [obind]
  rw [c1_int, mul_of, Fold]; simp only [obind]
  rw [c2_int, mul_of, Fold]; rfl
theorem mask32 (y : Int) (h0 : 0 ≤ y) (h1 : y < 18446744073709551616) : Go.bits .and .u64 y 4294967295 = y % 4294967296 := by
  have := bits_mask .u64 64 (Nat.le_refl _) (fun n a b => by rw [wu]; omega) 32 (by decide) y h0 (by simpa using h1)
  simpa using this
theorem Share (x n : Int) (h0 : 0 ≤ x) (h1 : x < 18446744073709551616) (hn : 1 ≤ n) (hm : n ≤ 1048576) : hash_Share.f x n = some ((x / 4294967296) * n / 4294967296, 0) := by
  unfold hash_Share.f
  rw [if_neg (by omega), if_neg (by omega)]
  unfold bits_Mul64.f
  simp only [obind]
  congr 1
  have e1 : IntKind.u64.wrap (x / 4294967296 * 4294967296) = x / 4294967296 * 4294967296 := by rw [wu]; omega
  have e2 : IntKind.u64.wrap n = n := by rw [wu]; omega
  rw [e1, e2]
  obtain ⟨H, hH⟩ : ∃ H, H = x / 4294967296 := ⟨_, rfl⟩
  have H0 : 0 ≤ H := by omega
  have H1 : H < 4294967296 := by omega
  rw [← hH]
  rw [mask32 n (by omega) (by omega), mask32 (H * 4294967296) (by omega) (by omega)]
  rw [show H * 4294967296 / 4294967296 = H by omega, show H * 4294967296 % 4294967296 = 0 by omega, show n % 4294967296 = n by omega, show n / 4294967296 = 0 by omega]
  simp only [Int.mul_zero, Int.zero_mul]
  have q0 : 0 ≤ H * n := Int.mul_nonneg H0 (by omega)
  have q1 : H * n ≤ 4294967295 * 1048576 := Int.mul_le_mul (by omega) hm (by omega) (by omega)
  generalize H * n = q at q0 q1 ⊢
  simp only [wu]
  rw [mask32 _ (by omega) (by omega)]
  unfold wrap64
  refine Prod.ext ?_ rfl
  show _ = q / 4294967296
  omega
theorem Share_no (x n : Int) (h : n < 1 ∨ n > 1048576) : hash_Share.f x n = some (0, 4) := by
  unfold hash_Share.f
  by_cases h1 : n < 1
  · rw [if_pos h1]
  · rw [if_neg h1, if_pos (by omega)]
theorem u64_bd {a : Int} (h : (Lit.int .u64 a).wf = true) : 0 ≤ a ∧ a < 18446744073709551616 := by
  obtain ⟨v, rfl⟩ := bv_of a h
  exact ⟨by omega, bv_lt v⟩
theorem wrap_add_l (x y : Int) : IntKind.u64.wrap (IntKind.u64.wrap x + y) = IntKind.u64.wrap (x + y) := by rw [wu, wu, wu, Int.emod_add_emod]
theorem wrap_add_r (x y : Int) : IntKind.u64.wrap (x + IntKind.u64.wrap y) = IntKind.u64.wrap (x + y) := by rw [wu, wu, wu, Int.add_emod_emod]
theorem wrap_id (x : Int) (h0 : 0 ≤ x) (h1 : x < 18446744073709551616) : IntKind.u64.wrap x = x := by rw [wu]; omega
theorem and_one (x : Int) (h0 : 0 ≤ x) (h1 : x < 18446744073709551616) : Go.bits .and .u64 x 1 = x % 2 := by
  have := bits_mask .u64 64 (Nat.le_refl _) (fun n a b => by rw [wu]; omega) 1 (by decide) x h0 (by simpa using h1)
  simpa using this
theorem bit_at (b : Int) (h0 : 0 ≤ b) (h1 : b < 18446744073709551616) (i : Nat) (hi : i ≤ 64) : Go.bits .and .u64 (shr .u64 b (i : Int)) 1 = b / 2 ^ i % 2 := by
  have hm : min (i : Int).toNat IntKind.u64.bits = i := by rw [Int.toNat_natCast]; simp [IntKind.bits]; omega
  unfold shr
  rw [hm]
  have hp : (1 : Int) ≤ 2 ^ i := by have : (0 : Int) < 2 ^ i := Int.pow_pos (by decide); omega
  have e0 : 0 ≤ b / 2 ^ i := Int.ediv_nonneg h0 (by omega)
  have e1 : b / 2 ^ i ≤ b := Int.ediv_le_self _ h0
  exact and_one _ e0 (by omega)
theorem shl_at (a : Int) (i : Nat) (hi : i ≤ 64) : shl .u64 a (i : Int) = IntKind.u64.wrap (a * 2 ^ i) := by
  have hm : min (i : Int).toNat IntKind.u64.bits = i := by rw [Int.toNat_natCast]; simp [IntKind.bits]; omega
  unfold shl
  rw [hm]
theorem half (b : Int) (i : Nat) : b / 2 ^ i = 2 * (b / 2 ^ (i + 1)) + b / 2 ^ i % 2 := by
  have e : b / 2 ^ (i + 1) = b / 2 ^ i / 2 := by rw [Int.pow_succ, Int.ediv_ediv_of_nonneg (Int.pow_nonneg (by decide))]
  rw [e]; omega
theorem Times_l (a b : Int) (b0 : 0 ≤ b) (b1 : b < 18446744073709551616) (d : Nat) : ∀ (k : Nat) (acc : Int) (i : Nat), 0 ≤ acc → acc < 18446744073709551616 → i + d = 64 → d < k →
    waybillref10_times.l0 k a b acc (i : Int) = some (IntKind.u64.wrap (acc + a * 2 ^ i * (b / 2 ^ i))) := by
  induction d with
  | zero =>
    intro k acc i a0 a1 hi hk
    obtain ⟨k, rfl⟩ : ∃ m, k = m + 1 := ⟨k - 1, by omega⟩
    obtain rfl : i = 64 := by omega
    simp only [waybillref10_times.l0]
    rw [if_neg (by omega), show b / 2 ^ 64 = 0 from Int.ediv_eq_zero_of_lt b0 (by simpa using b1), Int.mul_zero, Int.add_zero, wrap_id _ a0 a1]
  | succ d ih =>
    intro k acc i a0 a1 hi hk
    obtain ⟨k, rfl⟩ : ∃ m, k = m + 1 := ⟨k - 1, by omega⟩
    simp only [waybillref10_times.l0]
    have hw : wrap64 ((i : Int) + 1) = ((i + 1 : Nat) : Int) := by unfold wrap64; omega
    rw [if_pos (by omega), if_pos (by omega), bit_at b b0 b1 i (by omega), hw]
    have hh := half b i
    have h2 : (2 : Int) ^ (i + 1) = 2 ^ i * 2 := Int.pow_succ _ _
    by_cases c : b / 2 ^ i % 2 = 1
    · rw [if_pos c, shl_at a i (by omega), wrap_add_r, ih k _ (i + 1) (by rw [wu]; omega) (by rw [wu]; omega) (by omega) (by omega), wrap_add_l]
      congr 2
      rw [c] at hh
      rw [hh, h2, Int.mul_add, Int.mul_one]
      have e : a * (2 ^ i * 2) * (b / (2 ^ i * 2)) = a * 2 ^ i * (2 * (b / (2 ^ i * 2))) := by rw [← Int.mul_assoc a, Int.mul_assoc (a * 2 ^ i)]
      rw [e]; omega
    · rw [if_neg c, ih k acc (i + 1) a0 a1 (by omega) (by omega)]
      congr 2
      have c0 : b / 2 ^ i % 2 = 0 := by omega
      rw [c0, Int.add_zero] at hh
      rw [hh, h2]
      have e : a * (2 ^ i * 2) * (b / (2 ^ i * 2)) = a * 2 ^ i * (2 * (b / (2 ^ i * 2))) := by rw [← Int.mul_assoc a, Int.mul_assoc (a * 2 ^ i)]
      rw [e]
theorem Times (v c : B) {k : Nat} (hk : 65 ≤ k) : waybillref10_times.f k (v.toNat : Int) (c.toNat : Int) = some ((v * c).toNat : Int) := by
  unfold waybillref10_times.f
  have := Times_l (v.toNat : Int) (c.toNat : Int) (by omega) (bv_lt c) 64 k 0 0 (by omega) (by omega) (by omega) (by omega)
  rw [show ((0 : Nat) : Int) = 0 from rfl] at this
  rw [this, Int.zero_add, Int.pow_zero, Int.mul_one, Int.ediv_one, mul_of]
theorem RMix (v : B) {k : Nat} (hk : 65 ≤ k) : waybillref10_Mix.f k (v.toNat : Int) = some ((mixB v).toNat : Int) := by
  unfold waybillref10_Mix.f
  rw [fold_of, c1_int, Times _ _ hk]; simp only [obind]
  rw [fold_of, c2_int, Times _ _ hk]; simp only [obind]
  rw [fold_of]; rfl
theorem RShare (x n : Int) (h0 : 0 ≤ x) (h1 : x < 18446744073709551616) : waybillref10_Share.f x n = hash_Share.f x n := by
  by_cases h : 1 ≤ n ∧ n ≤ 1048576
  · rw [Share x n h0 h1 h.1 h.2]
    unfold waybillref10_Share.f
    rw [if_neg (by omega), if_neg (by omega)]
    have q0 : 0 ≤ x / 4294967296 * n := Int.mul_nonneg (by omega) (by omega)
    have q1 : x / 4294967296 * n ≤ 4294967295 * 1048576 := Int.mul_le_mul (by omega) h.2 (by omega) (by omega)
    rw [wrap_id n (by omega) (by omega), wrap_id _ q0 (by omega)]
    unfold wrap64
    congr 2
    omega
  · rw [Share_no x n (by omega)]
    unfold waybillref10_Share.f
    by_cases c : n < 1
    · rw [if_pos c]
    · rw [if_neg c, if_pos (by omega)]
def stepB : B := 11400714819323198485#64
theorem step_int : (11400714819323198485 : Int) = ((stepB.toNat : Nat) : Int) := by simp [stepB]
theorem NextB (v : B) : draw_Next.f (v.toNat : Int) = some (((v + stepB).toNat : Int), ((mixB (v + stepB)).toNat : Int)) := by
  unfold draw_Next.f
  rw [step_int, add_of, Mix]; simp only [obind]
theorem dT_of (v : B) (n : Int) : ∃ p, hash_Share.f ((mixB (v + stepB)).toNat : Int) n = some p ∧ dT (v.toNat : Int) n = (((v + stepB).toNat : Int), p.1) := by
  obtain ⟨p, hp⟩ := share_some ((mixB (v + stepB)).toNat : Int) n
  refine ⟨p, hp, ?_⟩
  unfold dT drw
  rw [NextB]; simp only [obind]
  rw [hp]; simp only [obind]; rfl
theorem dT_state (v : B) (n : Int) : (dT (v.toNat : Int) n).1 = ((v + stepB).toNat : Int) := by
  obtain ⟨p, _, h⟩ := dT_of v n
  rw [h]
theorem dT_wf (v : B) (n : Int) : ∃ u : B, (dT (v.toNat : Int) n).1 = (u.toNat : Int) := ⟨_, dT_state v n⟩
theorem RNext (v : B) {k : Nat} (hk : 65 ≤ k) : waybillref11_Next.f k (v.toNat : Int) = some (((v + stepB).toNat : Int), ((mixB (v + stepB)).toNat : Int)) := by
  unfold waybillref11_Next.f
  rw [step_int, add_of, RMix _ hk]; simp only [obind]
theorem One (v : B) (n : Int) {k : Nat} (hk : 65 ≤ k) : waybillref11_one.f k (v.toNat : Int) n = some (dT (v.toNat : Int) n) := by
  unfold waybillref11_one.f
  obtain ⟨p, hp, hd⟩ := dT_of v n
  rw [RNext v hk]; simp only [obind]
  rw [RShare _ _ (by omega) (bv_lt _), hp]; simp only [obind]
  rw [hd]
theorem w00 : wrap64 (0 + 0) = 0 := by decide +kernel
theorem Same {k : Nat} (l : List Int) (hl : l.length ≤ 4611686018427387904) (hk : l.length < k) : waybillplain_SameInts.f k l l = some true := by
  unfold waybillplain_SameInts.f
  rw [if_pos rfl]
  have key : ∀ (d k : Nat) (i : Int), 0 ≤ i → (l.length : Int) - i = d → d < k → waybillplain_SameInts.l0 k l l i = some true := by
    intro d
    induction d with
    | zero =>
      intro k i h0 hd hk
      obtain ⟨k, rfl⟩ : ∃ m, k = m + 1 := ⟨k - 1, by omega⟩
      simp only [waybillplain_SameInts.l0]
      rw [if_neg (by omega)]
    | succ d ih =>
      intro k i h0 hd hk
      obtain ⟨k, rfl⟩ : ∃ m, k = m + 1 := ⟨k - 1, by omega⟩
      simp only [waybillplain_SameInts.l0]
      rw [if_pos (by omega), if_pos h0, if_pos (by omega), if_pos trivial, show wrap64 (i + 1) = i + 1 by unfold wrap64; omega]
      exact ih k (i + 1) (by omega) (by omega) (by omega)
  exact key l.length k 0 (by omega) (by omega) hk
theorem Alive {k : Nat} (hk : 5 ≤ k) : waybilllaw11_alive.f k = some true := by
  unfold waybilllaw11_alive.f
  have h1 : draw_Shuffle.f 5 1 = some (5, [0], 0) := by unfold draw_Shuffle.f; rw [if_neg (by decide), if_neg (by decide)]; rfl
  have h2 : draw_Below.f 5 [1, 1] = some ((drws 5 [1, 1]).1, (drws 5 [1, 1]).2, 0) := by unfold draw_Below.f; rw [if_pos (by simp), if_neg (by decide)]
  rw [h1, h2]; simp only [obind]
  have h3 : ((drws 5 [1, 1]).2.length : Int) = 2 := by rw [drws_length]; rfl
  rw [h3]
  generalize (drws 5 [1, 1]).1 = z
  unfold waybilllaw11_num.f
  simp only [obind]
  rw [if_pos w00, if_pos trivial, Same [0] (by simp) (by simp; omega)]; simp only [obind, if_true]
  rfl
theorem rd_get (xs : List Int) (i : Int) (h0 : 0 ≤ i) (h : i < xs.length) : rd xs i = xs[i.toNat]'(by omega) := by
  unfold rd
  rw [List.getD_eq_getElem?_getD, List.getElem?_eq_getElem (show i.toNat < xs.length by omega)]; rfl
theorem shufs_length (m : Nat) : ∀ (s : Int) (xs : List Int), (shufs s xs m).2.length = xs.length := by
  induction m using Nat.strongRecOn with
  | _ m ih =>
    intro s xs
    by_cases h : 1 < m
    · rw [shufs_succ s xs m h, ih (m - 1) (by omega)]; simp
    · have h01 : m = 0 ∨ m = 1 := by omega
      rcases h01 with rfl | rfl <;> rfl
theorem set_swap (xs : List Int) (i j : Nat) (hi : i < xs.length) (hj : j < xs.length) : (xs.set i (xs[j])).set j (xs[i]) = (xs.set j (xs[i])).set i (xs[j]) := by
  by_cases h : i = j
  · subst h; rfl
  · exact List.set_comm _ _ h
theorem Ref_l1 (n : Nat) (hn : n ≤ 1024) (d : Nat) : ∀ (k : Nat) (v : B) (xs : List Int), xs.length = n → d + 1 ≤ n → d + 70 < k →
    waybillref11_Shuffle.l1 k (v.toNat : Int) xs (d : Int) = some ((shufs (v.toNat : Int) xs (d + 1)).1, (shufs (v.toNat : Int) xs (d + 1)).2, 0) := by
  induction d with
  | zero =>
    intro k v xs hl hd hk
    obtain ⟨k, rfl⟩ : ∃ m, k = m + 1 := ⟨k - 1, by omega⟩
    simp only [waybillref11_Shuffle.l1]
    rw [if_neg (by omega)]
    rfl
  | succ d ih =>
    intro k v xs hl hd hk
    obtain ⟨k, rfl⟩ : ∃ m, k = m + 1 := ⟨k - 1, by omega⟩
    simp only [waybillref11_Shuffle.l1]
    have hw : wrap64 (((d + 1 : Nat) : Int) + 1) = ((d + 2 : Nat) : Int) := by unfold wrap64; omega
    have hw2 : wrap64 (((d + 1 : Nat) : Int) - 1) = (d : Int) := by unfold wrap64; omega
    rw [if_pos (by omega), hw, One v _ (by omega), hw2]
    simp only [obind]
    have hb := dT_bd (v.toNat : Int) ((d + 2 : Nat) : Int) (by omega) (by omega)
    rw [if_pos hb.1, if_pos (by omega), if_pos (by omega), if_pos (by omega)]
    rw [shufs_succ _ _ (d + 1 + 1) (by omega)]
    have e1 : ((d + 1 + 1 : Nat) : Int) = ((d + 2 : Nat) : Int) := by omega
    rw [e1]
    obtain ⟨u, hu⟩ := dT_wf v ((d + 2 : Nat) : Int)
    rw [hu]
    generalize (dT (v.toNat : Int) ((d + 2 : Nat) : Int)).2 = q at hb ⊢
    have e2 : (((d + 2 : Nat) : Int) - 1) = ((d + 1 : Nat) : Int) := by omega
    rw [e2, rd_get xs q hb.1 (by omega), rd_get xs ((d + 1 : Nat) : Int) (by omega) (by omega)]
    simp only [Int.toNat_natCast, show d + 1 + 1 - 1 = d + 1 by omega]
    rw [set_swap xs (d + 1) q.toNat (by omega) (by omega)]
    exact ih k u _ (by simp [hl]) (by omega) (by omega)
theorem Ref_l0 (n : Nat) (hn : n ≤ 1024) (v : B) (d : Nat) : ∀ (k : Nat) (i : Nat), i ≤ n → n - i = d → d + 1200 < k →
    waybillref11_Shuffle.l0 k (v.toNat : Int) (n : Int) (uptoL i) (i : Int) = some ((shufs (v.toNat : Int) (uptoL n) n).1, (shufs (v.toNat : Int) (uptoL n) n).2, 0) := by
  induction d with
  | zero =>
    intro k i hi hd hk
    obtain ⟨k, rfl⟩ : ∃ m, k = m + 1 := ⟨k - 1, by omega⟩
    obtain rfl : i = n := by omega
    simp only [waybillref11_Shuffle.l0]
    rw [if_neg (by omega)]
    by_cases h0 : i = 0
    · subst h0
      obtain ⟨k, rfl⟩ : ∃ m, k = m + 1 := ⟨k - 1, by omega⟩
      simp only [waybillref11_Shuffle.l1]
      rw [if_neg (by decide +kernel)]; rfl
    · have hw : wrap64 ((i : Int) - 1) = ((i - 1 : Nat) : Int) := by unfold wrap64; omega
      rw [hw, Ref_l1 i hn (i - 1) k v (uptoL i) (uptoL_length i) (by omega) (by omega), show i - 1 + 1 = i by omega]
  | succ d ih =>
    intro k i hi hd hk
    obtain ⟨k, rfl⟩ : ∃ m, k = m + 1 := ⟨k - 1, by omega⟩
    simp only [waybillref11_Shuffle.l0]
    have hw : wrap64 ((i : Int) + 1) = ((i + 1 : Nat) : Int) := by unfold wrap64; omega
    rw [if_pos (by omega), if_pos (by rw [uptoL_length]; omega), hw, ← uptoL_succ]
    exact ih k (i + 1) (by omega) (by omega) (by omega)
theorem DrawShuffles : waybilllaw11_DrawShuffles.Pure := by
  intro s n hs hn
  obtain ⟨v, rfl⟩ := bv_of s hs
  refine ⟨3000, ?_⟩
  unfold waybilllaw11_DrawShuffles.f
  have hr : waybillref11_Shuffle.f 3000 (v.toNat : Int) n = draw_Shuffle.f (v.toNat : Int) n := by
    unfold waybillref11_Shuffle.f draw_Shuffle.f
    by_cases c1 : n < 0
    · rw [if_pos c1, if_pos c1]; simp only [waybillref11_Shuffle.j0, if_true]
    rw [if_neg c1, if_neg c1]
    by_cases c2 : n > 1024
    · rw [if_pos c2, decide_eq_true c2]; simp only [waybillref11_Shuffle.j0, if_true]
    rw [if_neg c2, decide_eq_false c2]; simp only [waybillref11_Shuffle.j0, Bool.false_eq_true, if_false]
    obtain ⟨n, rfl⟩ := Int.eq_ofNat_of_zero_le (show 0 ≤ n by omega)
    simp only [Int.toNat_natCast]
    exact Ref_l0 n (by omega) v n 2999 0 (by omega) (by omega) (by omega)
  rw [hr]
  have hp : ∃ p, draw_Shuffle.f (v.toNat : Int) n = some p ∧ p.2.1.length ≤ 1024 := by
    unfold draw_Shuffle.f
    split
    · exact ⟨_, rfl, by simp⟩
    · split
      · exact ⟨_, rfl, by simp⟩
      · exact ⟨_, rfl, by rw [shufs_length, uptoL_length]; omega⟩
  obtain ⟨p, hp, hl⟩ := hp
  rw [hp]; simp only [obind, if_true]
  rw [Same p.2.1 (by omega) (by omega)]; simp only [obind, if_true, waybilllaw11_num.f]
  rw [Alive (by omega)]; rfl

end Go.Proofs.Ythldeecchlgieaa.Pure
