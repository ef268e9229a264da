/- The pure statement of HashBack, proved. -/
import Derived.Test.YthldeecchlgieaaPHashBackx1
namespace Go.Proofs.Ythldeecchlgieaa.Pure
open Go.RowKit Go.Proofs.Ythldeecchlgieaa.PHashBack Go.Proofs.YthldeecchlgieaaW.PrintWords Go.Proofs.YthldeecchlgieaaW.PrintLast Go.Proofs.YthldeecchlgieaaW.PrintMore
set_option linter.unusedVariables false
set_option linter.unusedSimpArgs false

/-- As a step of its own: not by unfolding. -/
theorem obind {α β : Type} (a : α) (f : α → Option β) : (some a).bind f = f a := Eq.trans (Option.bind_some a f) (Eq.refl _)
/-- Numbers of 64 bits. -/
abbrev B := BitVec 64
def c1 : B := 18397679294719823053#64
def c2 : B := 14181476777654086739#64
theorem wu (n : Int) : IntKind.u64.wrap n = n % 18446744073709551616 := by simp [IntKind.wrap, IntKind.bits, IntKind.signed]
theorem bv_of (a : Int) (h : (Lit.int .u64 a).wf = true) : ∃ v : B, a = (v.toNat : Int) := by
  simp only [Lit.wf, IntKind.min, IntKind.max, IntKind.signed, IntKind.bits, Bool.and_eq_true] at h
  refine ⟨BitVec.ofInt 64 a, ?_⟩
  rw [BitVec.toNat_ofInt]
  have h2 : a < 18446744073709551616 := by have := h.2; simp at this; omega
  have h1 : 0 ≤ a := by simpa using h.1
  simp
  omega
theorem bv_lt (v : B) : (v.toNat : Int) < 18446744073709551616 := by have := v.isLt; omega
def foldB (v : B) : B := v ^^^ (v >>> 33)
theorem fold_of (v : B) : Go.bits .xor .u64 (v.toNat : Int) ((v.toNat : Int) / 8589934592) = ((foldB v).toNat : Int) := by
  have h : ((v.toNat : Int) / (8589934592 : Int)) = (((v >>> 33).toNat : Nat) : Int) := by
    simp [BitVec.toNat_ushiftRight, Nat.shiftRight_eq_div_pow]
  rw [h]
  unfold Go.bits foldB
  simp only [IntKind.bits]
  rw [BitVec.ofInt_natCast, BitVec.ofInt_natCast]
  simp only [BitVec.ofNat_toNat, BitVec.setWidth_eq]
  rw [wu]
  show ((v ^^^ (v >>> 33) : B).toNat : Int) % 18446744073709551616 = ((v ^^^ (v >>> 33) : B).toNat : Int)
  have := (v ^^^ (v >>> 33) : B).isLt
  omega
theorem foldB_foldB (v : B) : foldB (foldB v) = v := by
  unfold foldB
  have h : (v >>> 33) >>> 33 = 0#64 := by
    rw [← BitVec.shiftRight_add]
    apply BitVec.eq_of_toNat_eq
    simp [BitVec.toNat_ushiftRight, Nat.shiftRight_eq_div_pow]
    have := v.isLt
    omega
  rw [BitVec.ushiftRight_xor_distrib, h]
  simp [BitVec.xor_assoc]
theorem mul_of (v c : B) : IntKind.u64.wrap ((v.toNat : Int) * (c.toNat : Int)) = ((v * c).toNat : Int) := by
  rw [wu, BitVec.toNat_mul]; simp
theorem add_of (v c : B) : IntKind.u64.wrap ((v.toNat : Int) + (c.toNat : Int)) = ((v + c).toNat : Int) := by
  rw [wu, BitVec.toNat_add]; simp
def mixB (v : B) : B := foldB (foldB (foldB v * c1) * c2)
def i1 : B := 5725274745694666757#64
def i2 : B := 11291846944257947611#64
def unmixB (v : B) : B := foldB (foldB (foldB v * i2) * i1)
theorem c1i1 : c1 * i1 = 1#64 := by decide
theorem c2i2 : c2 * i2 = 1#64 := by decide
theorem unmix_mix (v : B) : unmixB (mixB v) = v := by
  unfold unmixB mixB
  rw [foldB_foldB, BitVec.mul_assoc, c2i2, BitVec.mul_one, foldB_foldB, BitVec.mul_assoc, c1i1, BitVec.mul_one, foldB_foldB]
theorem mix_unmix (v : B) : mixB (unmixB v) = v := by
  unfold unmixB mixB
  rw [foldB_foldB, BitVec.mul_assoc, BitVec.mul_comm i1 c1, c1i1, BitVec.mul_one, foldB_foldB, BitVec.mul_assoc, BitVec.mul_comm i2 c2, c2i2, BitVec.mul_one, foldB_foldB]
theorem mix_inj {v u : B} : mixB v = mixB u ↔ v = u := ⟨fun h => by rw [← unmix_mix v, h, unmix_mix], fun h => by rw [h]⟩
theorem toNat_beq (v u : B) : (((v.toNat : Nat) : Int) == ((u.toNat : Nat) : Int)) = (v == u) := by
  rw [Bool.eq_iff_iff]; simp [BitVec.toNat_inj, Int.ofNat_inj]
theorem Fold (v : B) : hash_fold.f (v.toNat : Int) = some ((foldB v).toNat : Int) := by unfold hash_fold.f; rw [fold_of]
theorem c1_int : (18397679294719823053 : Int) = ((c1.toNat : Nat) : Int) := by simp [c1]
theorem c2_int : (14181476777654086739 : Int) = ((c2.toNat : Nat) : Int) := by simp [c2]
theorem Mix (v : B) : hash_Mix.f (v.toNat : Int) = some ((mixB v).toNat : Int) := by
  unfold hash_Mix.f
  rw [Fold]; simp only [obind]
  rw [c1_int, mul_of, Fold]; simp only [obind]
  rw [c2_int, mul_of, Fold]; rfl
theorem Inv1 {k : Nat} (hk : 10 ≤ k) : hash_inverse.f k 18397679294719823053 = some ((i1.toNat : Nat) : Int) := at_rounds (hash_inverse.mono _) hk (by decide +kernel)
theorem Inv2 {k : Nat} (hk : 10 ≤ k) : hash_inverse.f k 14181476777654086739 = some ((i2.toNat : Nat) : Int) := at_rounds (hash_inverse.mono _) hk (by decide +kernel)
theorem Unmix (v : B) {k : Nat} (hk : 10 ≤ k) : hash_Unmix.f k (v.toNat : Int) = some ((unmixB v).toNat : Int) := by
  unfold hash_Unmix.f
  rw [Fold]; simp only [obind]
  rw [Inv2 hk]; simp only [obind]
  rw [mul_of, Fold]; simp only [obind]
  rw [Inv1 hk]; simp only [obind]
  rw [mul_of, Fold]; rfl
theorem mix0 : mixB 0#64 = 0#64 := by decide +kernel
theorem mix1 : (mixB 1#64 == 1#64) = false := by decide +kernel
theorem Alive {k : Nat} (hk : 10 ≤ k) : waybilllaw10_alive.f k = some true := by
  unfold waybilllaw10_alive.f
  have h0 : hash_Mix.f 0 = some 0 := by have := Mix 0#64; rw [mix0] at this; simpa using this
  have h1 : hash_Mix.f 12345 = some ((mixB 12345#64).toNat : Int) := by have := Mix 12345#64; simpa using this
  have h2 : hash_Mix.f 1 = some ((mixB 1#64).toNat : Int) := by have := Mix 1#64; simpa using this
  rw [h0]; simp only [obind, if_true]
  rw [h1]; simp only [obind]
  rw [Unmix _ hk, unmix_mix]; simp only [obind]
  rw [if_pos (by simp), h2]; simp only [obind]
  have h3 := toNat_beq (mixB 1#64) 1#64
  rw [mix1] at h3
  have h4 : (((1#64 : B).toNat : Nat) : Int) = 1 := by simp
  rw [h4] at h3
  simp only [bne, h3]; rfl
theorem HashBack : waybilllaw10_HashBack.Pure := by
  intro a b ha hb
  obtain ⟨v, rfl⟩ := bv_of a ha
  obtain ⟨u, rfl⟩ := bv_of b hb
  refine ⟨10, ?_⟩
  unfold waybilllaw10_HashBack.f
  have K : 10 ≤ 10 := Nat.le_refl _
  rw [Alive K, Mix, Mix]; simp only [obind, if_true]
  rw [Unmix _ K, Unmix _ K, unmix_mix]; simp only [obind, if_true]
  rw [Mix, mix_unmix]; simp only [obind, if_true]
  rw [toNat_beq, toNat_beq]
  congr 1
  rw [beq_iff_eq, Bool.eq_iff_iff, beq_iff_eq, beq_iff_eq, mix_inj]

end Go.Proofs.Ythldeecchlgieaa.Pure
