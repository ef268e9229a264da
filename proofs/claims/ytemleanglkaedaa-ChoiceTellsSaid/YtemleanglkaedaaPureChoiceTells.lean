/- The pure statement of ChoiceTells, proved. -/
import Derived.Test.YtemleanglkaedaaEChoiceTellsx11
namespace Go.Proofs.Ytemleanglkaedaa.Pure
open Go.RowKit Go.Proofs.Ytemleanglkaedaa.EChoiceTells Go.Proofs.YtemleanglkaedaaW.PrintWords Go.Proofs.YtemleanglkaedaaW.PrintLast Go.Proofs.YtemleanglkaedaaW.PrintMore
set_option linter.unusedVariables false
theorem obind {α β : Type} (a : α) (f : α → Option β) : (some a).bind f = f a := Eq.trans (Option.bind_some a f) (Eq.refl _)
theorem alive_t : waybilllaw14_alive.f = some true := by decide +kernel
theorem up_pw : ∀ (l : List S30), upL l = true → l.Pairwise (fun a b => a.f0 < b.f0)
  | [], _ => List.Pairwise.nil
  | [a], _ => by simp
  | a :: b :: t, h => by
    have h' : decide (a.f0 < b.f0) = true ∧ upL (b :: t) = true := by simpa [upL] using h
    have ih := up_pw (b :: t) h'.2
    have hab := of_decide_eq_true h'.1
    refine List.Pairwise.cons ?_ ih
    intro x hx
    rcases List.mem_cons.1 hx with rfl | hx
    · exact hab
    · have := (List.pairwise_cons.1 ih).1 x hx
      omega
theorem min_spec : ∀ (t : List S30) (m : S30), (m :: t).Pairwise (fun a b => a.f0 < b.f0) → minS m t ∈ m :: t ∧ ∀ x ∈ m :: t, (minS m t).f1 < x.f1 ∨ (minS m t).f1 = x.f1 ∧ (minS m t).f0 ≤ x.f0
  | [], m, _ => ⟨by simp [minS], fun x hx => by simp at hx; subst hx; right; exact ⟨rfl, Int.le_refl _⟩⟩
  | x :: t, m, h => by
    obtain ⟨hm, ht⟩ := List.pairwise_cons.1 h
    obtain ⟨hx, ht2⟩ := List.pairwise_cons.1 ht
    have hmx := hm x List.mem_cons_self
    unfold minS
    by_cases hc : x.f1 < m.f1
    · rw [if_pos hc]
      obtain ⟨h1, h2⟩ := min_spec t x ht
      refine ⟨List.mem_cons_of_mem _ h1, ?_⟩
      intro y hy
      rcases List.mem_cons.1 hy with rfl | hy
      · have := h2 x List.mem_cons_self
        left; omega
      · exact h2 y hy
    · rw [if_neg hc]
      obtain ⟨h1, h2⟩ := min_spec t m (List.Pairwise.cons (fun y hy => hm y (List.mem_cons_of_mem _ hy)) ht2)
      refine ⟨?_, ?_⟩
      · rcases List.mem_cons.1 h1 with h | h
        · rw [h]; exact List.mem_cons_self
        · exact List.mem_cons_of_mem _ (List.mem_cons_of_mem _ h)
      · intro y hy
        rcases List.mem_cons.1 hy with rfl | hy
        · exact h2 _ List.mem_cons_self
        · rcases List.mem_cons.1 hy with rfl | hy
          · have := h2 m List.mem_cons_self
            omega
          · exact h2 y (List.mem_cons_of_mem _ hy)
theorem pw_uniq (l : List S30) (h : l.Pairwise (fun a b => a.f0 < b.f0)) (i j : Nat) (hi : i < l.length) (hj : j < l.length) (e : l[i].f0 = l[j].f0) : i = j := by
  have hp := List.pairwise_iff_getElem.1 h
  rcases Nat.lt_trichotomy i j with hlt | rfl | hlt
  · have := hp i j hi hj hlt; omega
  · rfl
  · have := hp j i hj hi hlt; omega
theorem ask_ok (l : List S30) (ha : askL l = 0) : 0 < l.length ∧ l.length ≤ 32 ∧ l.Pairwise (fun a b => a.f0 < b.f0) ∧ ∀ x ∈ l, 0 ≤ x.f0 ∧ x.f0 ≤ 2147483647 ∧ 0 ≤ x.f1 ∧ x.f1 ≤ 1048576 := by
  have hpos := ask_pos l ha
  have hc : checkL l = 0 := by
    unfold askL at ha
    split at ha
    · assumption
    · rename_i h; exact absurd ha h
  unfold checkL at hc
  have h32 : l.length ≤ 32 := by
    apply Classical.byContradiction
    intro h; rw [if_pos (by omega)] at hc; exact absurd hc (by decide)
  rw [if_neg (by omega)] at hc
  have hodd : ¬ l.any oddB = true := by intro h; rw [if_pos h] at hc; exact absurd hc (by decide)
  rw [if_neg hodd] at hc
  have hup : upL l = true := by
    apply Classical.byContradiction
    intro h; rw [if_neg h] at hc; exact absurd hc (by decide)
  refine ⟨hpos, h32, up_pw l hup, ?_⟩
  intro x hx
  have ho : oddB x = false := by
    have := List.any_eq_false.1 (Bool.eq_false_iff.mpr hodd) x hx
    exact Bool.eq_false_iff.mpr this
  unfold oddB at ho
  simp only [Bool.or_eq_false_iff, decide_eq_false_iff_not] at ho
  omega
theorem rd_bump (l : List S30) (i j : Nat) (hi : i < l.length) : rd_T30 (bump l (i : Int)) (j : Int) = if j = i then ⟨(rd_T30 l (i : Int)).f0, wrap64 ((rd_T30 l (i : Int)).f1 + 1)⟩ else rd_T30 l (j : Int) := by
  unfold bump rd_T30
  simp only [Int.toNat_natCast, List.getD_eq_getElem?_getD, List.getElem?_set]
  by_cases h : j = i
  · subst h; rw [if_pos rfl, if_pos hi, if_pos rfl]; rfl
  · rw [if_neg (fun e => h e.symm), if_neg h]
def sumTo (l : List S30) : Nat → Int
  | 0 => 0
  | j + 1 => sumTo l j + (rd_T30 l (j : Int)).f1
theorem sumTo_bump (l : List S30) (i : Nat) (hi : i < l.length) (h0 : 0 ≤ (rd_T30 l (i : Int)).f1) (h1 : (rd_T30 l (i : Int)).f1 ≤ 1048576) : ∀ L, sumTo (bump l (i : Int)) L = sumTo l L + if i < L then 1 else 0
  | 0 => by simp [sumTo]
  | L + 1 => by
    rw [sumTo, sumTo, sumTo_bump l i hi h0 h1 L, rd_bump l i L hi]
    by_cases h : L = i
    · subst h
      rw [if_pos rfl, if_neg (by omega), if_pos (by omega)]
      simp only []
      unfold wrap64; omega
    · rw [if_neg h]
      by_cases h2 : i < L
      · rw [if_pos h2, if_pos (by omega)]; omega
      · rw [if_neg h2, if_neg (by omega)]; omega
set_option maxRecDepth 100000 in
theorem spreadN_spec : ∀ (n : Nat) (s : Int) (l : List S30), 0 < l.length → l.length ≤ 32 → (n : Int) ≤ 4096 → (∀ j : Nat, 0 ≤ (rd_T30 l (j : Int)).f1 ∧ (rd_T30 l (j : Int)).f1 ≤ 1048576 - n) →
    (spreadN n s l).length = l.length ∧ (∀ j : Nat, (rd_T30 (spreadN n s l) (j : Int)).f0 = (rd_T30 l (j : Int)).f0 ∧ (rd_T30 l (j : Int)).f1 ≤ (rd_T30 (spreadN n s l) (j : Int)).f1 ∧ (rd_T30 (spreadN n s l) (j : Int)).f1 ≤ 1048576) ∧ sumTo (spreadN n s l) l.length = sumTo l l.length + n
  | 0, s, l, _, _, _, hb => ⟨rfl, fun j => ⟨rfl, Int.le_refl _, by have := (hb j).2; simpa [spreadN] using this⟩, by simp [spreadN]⟩
  | n + 1, s, l, hl, hl2, hn, hb => by
    obtain ⟨p0, p1⟩ := pick_bd s l hl hl2
    obtain ⟨i, hi⟩ : ∃ i : Nat, (pickL s l).2 = i := ⟨(pickL s l).2.toNat, by omega⟩
    rw [hi] at p1
    have hil : i < l.length := by omega
    have hbi := hb i
    have hlen := bump_len l (i : Int)
    have hb2 : ∀ j : Nat, 0 ≤ (rd_T30 (bump l (i : Int)) (j : Int)).f1 ∧ (rd_T30 (bump l (i : Int)) (j : Int)).f1 ≤ 1048576 - n := fun j => by
      rw [rd_bump l i j hil]
      split
      · simp only []; unfold wrap64; omega
      · have := hb j; omega
    obtain ⟨h1, h2, h3⟩ := spreadN_spec n (pickL s l).1 (bump l (i : Int)) (by rw [hlen]; exact hl) (by rw [hlen]; exact hl2) (by omega) hb2
    have e : spreadN (n + 1) s l = spreadN n (pickL s l).1 (bump l (i : Int)) := by rw [← hi]; rfl
    rw [e]
    refine ⟨h1.trans hlen, fun j => ?_, ?_⟩
    · obtain ⟨q1, q2, q3⟩ := h2 j
      rw [rd_bump l i j hil] at q1 q2
      by_cases hj : j = i
      · subst hj
        rw [if_pos rfl] at q1 q2
        refine ⟨q1, ?_, q3⟩
        simp only [] at q2
        unfold wrap64 at q2; omega
      · rw [if_neg hj] at q1 q2
        exact ⟨q1, q2, q3⟩
    · rw [hlen] at h3
      rw [h3, sumTo_bump l i hil hbi.1 (by omega), if_pos hil]
      omega
theorem sum_mono (m l : List S30) (h : ∀ j : Nat, (rd_T30 l (j : Int)).f1 ≤ (rd_T30 m (j : Int)).f1) (i : Nat) : ∀ d, sumTo m i - sumTo l i ≤ sumTo m (i + d) - sumTo l (i + d)
  | 0 => Int.le_refl _
  | d + 1 => by
    have := sum_mono m l h i d
    have := h (i + d)
    rw [show i + (d + 1) = (i + d) + 1 by omega, sumTo, sumTo]; omega
/-- Loads that may be, read anywhere. -/
theorem ask_rd (l : List S30) (ha : askL l = 0) (j : Nat) : 0 ≤ (rd_T30 l (j : Int)).f1 ∧ (rd_T30 l (j : Int)).f1 ≤ 1048576 := by
  obtain ⟨_, _, _, hin⟩ := ask_ok l ha
  by_cases hj : j < l.length
  · rw [rd30 l j hj]; have := hin l[j] (List.getElem_mem _); omega
  · unfold rd_T30
    rw [Int.toNat_natCast, List.getD_eq_getElem?_getD, List.getElem?_eq_none (by omega)]
    exact ⟨by decide, by decide⟩
theorem spr_rd (l : List S30) (n : Int) (hn : 0 ≤ n) (hn2 : n ≤ 4096) (ha : askL l = 0) (h : l.any (sprB n) = false) (j : Nat) : 0 ≤ (rd_T30 l (j : Int)).f1 ∧ (rd_T30 l (j : Int)).f1 ≤ 1048576 - n := by
  refine ⟨(ask_rd l ha j).1, ?_⟩
  by_cases hj : j < l.length
  · rw [rd30 l j hj]
    have := List.any_eq_false.1 h l[j] (List.getElem_mem _)
    unfold sprB at this
    have := of_decide_eq_false (Bool.eq_false_iff.mpr this)
    omega
  · unfold rd_T30
    rw [Int.toNat_natCast, List.getD_eq_getElem?_getD, List.getElem?_eq_none (by omega)]
    show (0 : Int) ≤ _
    omega
/-- Numbers of 64 bits. -/
abbrev B := BitVec 64
def c1 : B := 18397679294719823053#64
def c2 : B := 14181476777654086739#64
theorem wu (n : Int) : IntKind.u64.wrap n = n % 18446744073709551616 := by simp [IntKind.wrap, IntKind.bits, IntKind.signed]
theorem bv_of (a : Int) (h : (Lit.int .u64 a).wf = true) : ∃ v : B, a = (v.toNat : Int) := by
  simp only [Lit.wf, IntKind.min, IntKind.max, IntKind.signed, IntKind.bits, Bool.and_eq_true] at h
  refine ⟨BitVec.ofInt 64 a, ?_⟩
  rw [BitVec.toNat_ofInt]
  have h2 : a < 18446744073709551616 := by have := h.2; simp at this; omega
  have h1 : 0 ≤ a := by simpa using h.1
  simp
  omega
theorem bv_lt (v : B) : (v.toNat : Int) < 18446744073709551616 := by have := v.isLt; omega
def foldB (v : B) : B := v ^^^ (v >>> 33)
theorem fold_of (v : B) : Go.bits .xor .u64 (v.toNat : Int) ((v.toNat : Int) / 8589934592) = ((foldB v).toNat : Int) := by
  have h : ((v.toNat : Int) / (8589934592 : Int)) = (((v >>> 33).toNat : Nat) : Int) := by
    simp [BitVec.toNat_ushiftRight, Nat.shiftRight_eq_div_pow]
  rw [h]
  unfold Go.bits foldB
  simp only [IntKind.bits]
  rw [BitVec.ofInt_natCast, BitVec.ofInt_natCast]
  simp only [BitVec.ofNat_toNat, BitVec.setWidth_eq]
  rw [wu]
  show ((v ^^^ (v >>> 33) : B).toNat : Int) % 18446744073709551616 = ((v ^^^ (v >>> 33) : B).toNat : Int)
  have := (v ^^^ (v >>> 33) : B).isLt
  omega
theorem foldB_foldB (v : B) : foldB (foldB v) = v := by
  unfold foldB
  have h : (v >>> 33) >>> 33 = 0#64 := by
    rw [← BitVec.shiftRight_add]
    apply BitVec.eq_of_toNat_eq
    simp [BitVec.toNat_ushiftRight, Nat.shiftRight_eq_div_pow]
    have := v.isLt
    omega
  rw [BitVec.ushiftRight_xor_distrib, h]
  simp [BitVec.xor_assoc]
theorem mul_of (v c : B) : IntKind.u64.wrap ((v.toNat : Int) * (c.toNat : Int)) = ((v * c).toNat : Int) := by
  rw [wu, BitVec.toNat_mul]; simp
theorem add_of (v c : B) : IntKind.u64.wrap ((v.toNat : Int) + (c.toNat : Int)) = ((v + c).toNat : Int) := by
  rw [wu, BitVec.toNat_add]; simp
def mixB (v : B) : B := foldB (foldB (foldB v * c1) * c2)
def i1 : B := 5725274745694666757#64
def i2 : B := 11291846944257947611#64
def unmixB (v : B) : B := foldB (foldB (foldB v * i2) * i1)
theorem c1i1 : c1 * i1 = 1#64 := by decide
theorem c2i2 : c2 * i2 = 1#64 := by decide
theorem unmix_mix (v : B) : unmixB (mixB v) = v := by
  unfold unmixB mixB
  rw [foldB_foldB, BitVec.mul_assoc, c2i2, BitVec.mul_one, foldB_foldB, BitVec.mul_assoc, c1i1, BitVec.mul_one, foldB_foldB]
theorem mix_unmix (v : B) : mixB (unmixB v) = v := by
  unfold unmixB mixB
  rw [foldB_foldB, BitVec.mul_assoc, BitVec.mul_comm i1 c1, c1i1, BitVec.mul_one, foldB_foldB, BitVec.mul_assoc, BitVec.mul_comm i2 c2, c2i2, BitVec.mul_one, foldB_foldB]
theorem mix_inj {v u : B} : mixB v = mixB u ↔ v = u := ⟨fun h => by rw [← unmix_mix v, h, unmix_mix], fun h => by rw [h]⟩
theorem toNat_beq (v u : B) : (((v.toNat : Nat) : Int) == ((u.toNat : Nat) : Int)) = (v == u) := by
  rw [Bool.eq_iff_iff]; simp [BitVec.toNat_inj, Int.ofNat_inj]
theorem Fold (v : B) : hash_fold.f (v.toNat : Int) = some ((foldB v).toNat : Int) := by unfold hash_fold.f; rw [fold_of]
theorem c1_int : (18397679294719823053 : Int) = ((c1.toNat : Nat) : Int) := by simp [c1]
theorem c2_int : (14181476777654086739 : Int) = ((c2.toNat : Nat) : Int) := by simp [c2]
theorem Mix (v : B) : hash_Mix.f (v.toNat : Int) = some ((mixB v).toNat : Int) := by
  unfold hash_Mix.f
  rw [Fold]; simp only [obind]
  rw [c1_int, mul_of, Fold]; simp only [obind]
  rw [c2_int, mul_of, Fold]; rfl
theorem mask32 (y : Int) (h0 : 0 ≤ y) (h1 : y < 18446744073709551616) : Go.bits .and .u64 y 4294967295 = y % 4294967296 := by
  have := bits_mask .u64 64 (Nat.le_refl _) (fun n a b => by rw [wu]; omega) 32 (by decide) y h0 (by simpa using h1)
  simpa using this
theorem Share (x n : Int) (h0 : 0 ≤ x) (h1 : x < 18446744073709551616) (hn : 1 ≤ n) (hm : n ≤ 1048576) : hash_Share.f x n = some ((x / 4294967296) * n / 4294967296, 0) := by
  unfold hash_Share.f
  rw [if_neg (by omega), if_neg (by omega)]
  unfold bits_Mul64.f
  simp only [obind]
  congr 1
  have e1 : IntKind.u64.wrap (x / 4294967296 * 4294967296) = x / 4294967296 * 4294967296 := by rw [wu]; omega
  have e2 : IntKind.u64.wrap n = n := by rw [wu]; omega
  rw [e1, e2]
  obtain ⟨H, hH⟩ : ∃ H, H = x / 4294967296 := ⟨_, rfl⟩
  have H0 : 0 ≤ H := by omega
  have H1 : H < 4294967296 := by omega
  rw [← hH]
  rw [mask32 n (by omega) (by omega), mask32 (H * 4294967296) (by omega) (by omega)]
  rw [show H * 4294967296 / 4294967296 = H by omega, show H * 4294967296 % 4294967296 = 0 by omega, show n % 4294967296 = n by omega, show n / 4294967296 = 0 by omega]
  simp only [Int.mul_zero, Int.zero_mul]
  have q0 : 0 ≤ H * n := Int.mul_nonneg H0 (by omega)
  have q1 : H * n ≤ 4294967295 * 1048576 := Int.mul_le_mul (by omega) hm (by omega) (by omega)
  generalize H * n = q at q0 q1 ⊢
  simp only [wu]
  rw [mask32 _ (by omega) (by omega)]
  unfold wrap64
  refine Prod.ext ?_ rfl
  show _ = q / 4294967296
  omega
theorem Share_no (x n : Int) (h : n < 1 ∨ n > 1048576) : hash_Share.f x n = some (0, 4) := by
  unfold hash_Share.f
  by_cases h1 : n < 1
  · rw [if_pos h1]
  · rw [if_neg h1, if_pos (by omega)]
theorem u64_bd {a : Int} (h : (Lit.int .u64 a).wf = true) : 0 ≤ a ∧ a < 18446744073709551616 := by
  obtain ⟨v, rfl⟩ := bv_of a h
  exact ⟨by omega, bv_lt v⟩
theorem wrap_add_l (x y : Int) : IntKind.u64.wrap (IntKind.u64.wrap x + y) = IntKind.u64.wrap (x + y) := by rw [wu, wu, wu, Int.emod_add_emod]
theorem wrap_add_r (x y : Int) : IntKind.u64.wrap (x + IntKind.u64.wrap y) = IntKind.u64.wrap (x + y) := by rw [wu, wu, wu, Int.add_emod_emod]
theorem wrap_id (x : Int) (h0 : 0 ≤ x) (h1 : x < 18446744073709551616) : IntKind.u64.wrap x = x := by rw [wu]; omega
theorem and_one (x : Int) (h0 : 0 ≤ x) (h1 : x < 18446744073709551616) : Go.bits .and .u64 x 1 = x % 2 := by
  have := bits_mask .u64 64 (Nat.le_refl _) (fun n a b => by rw [wu]; omega) 1 (by decide) x h0 (by simpa using h1)
  simpa using this
theorem bit_at (b : Int) (h0 : 0 ≤ b) (h1 : b < 18446744073709551616) (i : Nat) (hi : i ≤ 64) : Go.bits .and .u64 (shr .u64 b (i : Int)) 1 = b / 2 ^ i % 2 := by
  have hm : min (i : Int).toNat IntKind.u64.bits = i := by rw [Int.toNat_natCast]; simp [IntKind.bits]; omega
  unfold shr
  rw [hm]
  have hp : (1 : Int) ≤ 2 ^ i := by have : (0 : Int) < 2 ^ i := Int.pow_pos (by decide); omega
  have e0 : 0 ≤ b / 2 ^ i := Int.ediv_nonneg h0 (by omega)
  have e1 : b / 2 ^ i ≤ b := Int.ediv_le_self _ h0
  exact and_one _ e0 (by omega)
theorem shl_at (a : Int) (i : Nat) (hi : i ≤ 64) : shl .u64 a (i : Int) = IntKind.u64.wrap (a * 2 ^ i) := by
  have hm : min (i : Int).toNat IntKind.u64.bits = i := by rw [Int.toNat_natCast]; simp [IntKind.bits]; omega
  unfold shl
  rw [hm]
theorem half (b : Int) (i : Nat) : b / 2 ^ i = 2 * (b / 2 ^ (i + 1)) + b / 2 ^ i % 2 := by
  have e : b / 2 ^ (i + 1) = b / 2 ^ i / 2 := by rw [Int.pow_succ, Int.ediv_ediv_of_nonneg (Int.pow_nonneg (by decide))]
  rw [e]; omega
theorem Times_l (a b : Int) (b0 : 0 ≤ b) (b1 : b < 18446744073709551616) (d : Nat) : ∀ (k : Nat) (acc : Int) (i : Nat), 0 ≤ acc → acc < 18446744073709551616 → i + d = 64 → d < k →
    waybillref10_times.l0 k a b acc (i : Int) = some (IntKind.u64.wrap (acc + a * 2 ^ i * (b / 2 ^ i))) := by
  induction d with
  | zero =>
    intro k acc i a0 a1 hi hk
    obtain ⟨k, rfl⟩ : ∃ m, k = m + 1 := ⟨k - 1, by omega⟩
    obtain rfl : i = 64 := by omega
    simp only [waybillref10_times.l0]
    rw [if_neg (by omega), show b / 2 ^ 64 = 0 from Int.ediv_eq_zero_of_lt b0 (by simpa using b1), Int.mul_zero, Int.add_zero, wrap_id _ a0 a1]
  | succ d ih =>
    intro k acc i a0 a1 hi hk
    obtain ⟨k, rfl⟩ : ∃ m, k = m + 1 := ⟨k - 1, by omega⟩
    simp only [waybillref10_times.l0]
    have hw : wrap64 ((i : Int) + 1) = ((i + 1 : Nat) : Int) := by unfold wrap64; omega
    rw [if_pos (by omega), if_pos (by omega), bit_at b b0 b1 i (by omega), hw]
    have hh := half b i
    have h2 : (2 : Int) ^ (i + 1) = 2 ^ i * 2 := Int.pow_succ _ _
    by_cases c : b / 2 ^ i % 2 = 1
    · rw [if_pos c, shl_at a i (by omega), wrap_add_r, ih k _ (i + 1) (by rw [wu]; omega) (by rw [wu]; omega) (by omega) (by omega), wrap_add_l]
      congr 2
      rw [c] at hh
      rw [hh, h2, Int.mul_add, Int.mul_one]
      have e : a * (2 ^ i * 2) * (b / (2 ^ i * 2)) = a * 2 ^ i * (2 * (b / (2 ^ i * 2))) := by rw [← Int.mul_assoc a, Int.mul_assoc (a * 2 ^ i)]
      rw [e]; omega
    · rw [if_neg c, ih k acc (i + 1) a0 a1 (by omega) (by omega)]
      congr 2
      have c0 : b / 2 ^ i % 2 = 0 := by omega
      rw [c0, Int.add_zero] at hh
      rw [hh, h2]
      have e : a * (2 ^ i * 2) * (b / (2 ^ i * 2)) = a * 2 ^ i * (2 * (b / (2 ^ i * 2))) := by rw [← Int.mul_assoc a, Int.mul_assoc (a * 2 ^ i)]
      rw [e]
theorem Times (v c : B) {k : Nat} (hk : 65 ≤ k) : waybillref10_times.f k (v.toNat : Int) (c.toNat : Int) = some ((v * c).toNat : Int) := by
  unfold waybillref10_times.f
  have := Times_l (v.toNat : Int) (c.toNat : Int) (by omega) (bv_lt c) 64 k 0 0 (by omega) (by omega) (by omega) (by omega)
  rw [show ((0 : Nat) : Int) = 0 from rfl] at this
  rw [this, Int.zero_add, Int.pow_zero, Int.mul_one, Int.ediv_one, mul_of]
theorem RMix (v : B) {k : Nat} (hk : 65 ≤ k) : waybillref10_Mix.f k (v.toNat : Int) = some ((mixB v).toNat : Int) := by
  unfold waybillref10_Mix.f
  rw [fold_of, c1_int, Times _ _ hk]; simp only [obind]
  rw [fold_of, c2_int, Times _ _ hk]; simp only [obind]
  rw [fold_of]; rfl
theorem RShare (x n : Int) (h0 : 0 ≤ x) (h1 : x < 18446744073709551616) : waybillref10_Share.f x n = hash_Share.f x n := by
  by_cases h : 1 ≤ n ∧ n ≤ 1048576
  · rw [Share x n h0 h1 h.1 h.2]
    unfold waybillref10_Share.f
    rw [if_neg (by omega), if_neg (by omega)]
    have q0 : 0 ≤ x / 4294967296 * n := Int.mul_nonneg (by omega) (by omega)
    have q1 : x / 4294967296 * n ≤ 4294967295 * 1048576 := Int.mul_le_mul (by omega) h.2 (by omega) (by omega)
    rw [wrap_id n (by omega) (by omega), wrap_id _ q0 (by omega)]
    unfold wrap64
    congr 2
    omega
  · rw [Share_no x n (by omega)]
    unfold waybillref10_Share.f
    by_cases c : n < 1
    · rw [if_pos c]
    · rw [if_neg c, if_pos (by omega)]
def stepB : B := 11400714819323198485#64
theorem step_int : (11400714819323198485 : Int) = ((stepB.toNat : Nat) : Int) := by simp [stepB]
theorem NextB (v : B) : draw_Next.f (v.toNat : Int) = some (((v + stepB).toNat : Int), ((mixB (v + stepB)).toNat : Int)) := by
  unfold draw_Next.f
  rw [step_int, add_of, Mix]; simp only [obind]
theorem dT_of (v : B) (n : Int) : ∃ p, hash_Share.f ((mixB (v + stepB)).toNat : Int) n = some p ∧ dT (v.toNat : Int) n = (((v + stepB).toNat : Int), p.1) := by
  obtain ⟨p, hp⟩ := share_some ((mixB (v + stepB)).toNat : Int) n
  refine ⟨p, hp, ?_⟩
  unfold dT drw
  rw [NextB]; simp only [obind]
  rw [hp]; simp only [obind]; rfl
theorem dT_state (v : B) (n : Int) : (dT (v.toNat : Int) n).1 = ((v + stepB).toNat : Int) := by
  obtain ⟨p, _, h⟩ := dT_of v n
  rw [h]
theorem dT_wf (v : B) (n : Int) : ∃ u : B, (dT (v.toNat : Int) n).1 = (u.toNat : Int) := ⟨_, dT_state v n⟩
theorem RNext (v : B) {k : Nat} (hk : 65 ≤ k) : waybillref11_Next.f k (v.toNat : Int) = some (((v + stepB).toNat : Int), ((mixB (v + stepB)).toNat : Int)) := by
  unfold waybillref11_Next.f
  rw [step_int, add_of, RMix _ hk]; simp only [obind]
theorem One (v : B) (n : Int) {k : Nat} (hk : 65 ≤ k) : waybillref11_one.f k (v.toNat : Int) n = some (dT (v.toNat : Int) n) := by
  unfold waybillref11_one.f
  obtain ⟨p, hp, hd⟩ := dT_of v n
  rw [RNext v hk]; simp only [obind]
  rw [RShare _ _ (by omega) (bv_lt _), hp]; simp only [obind]
  rw [hd]
theorem drop30 (l : List S30) (i : Nat) (h : i < l.length) : l.drop i = rd_T30 l (i : Int) :: l.drop (i + 1) := by
  rw [rd30 l i h]; exact List.drop_eq_getElem_cons h
theorem w1 (i : Nat) (h : i < 4611686018427387904) : wrap64 ((i : Int) + 1) = ((i + 1 : Nat) : Int) := by unfold wrap64; omega
theorem RCheck_l1 (l : List S30) (hl : l.length ≤ 32) : ∀ (d k i : Nat), i + d = l.length → 1 ≤ i → d < k → waybillref14_Check.l1 k l (i : Int) = some (if upL (l.drop (i - 1)) = true then 0 else 6) := by
  intro d
  induction d with
  | zero =>
    intro k i h1 h2 h3
    obtain ⟨k, rfl⟩ : ∃ q, k = q + 1 := ⟨k - 1, by omega⟩
    rw [waybillref14_Check.l1, if_neg (by omega), up_end l (i - 1) (by omega), if_pos rfl]
  | succ d ih =>
    intro k i h1 h2 h3
    obtain ⟨k, rfl⟩ : ∃ q, k = q + 1 := ⟨k - 1, by omega⟩
    obtain ⟨i, rfl⟩ : ∃ q, i = q + 1 := ⟨i - 1, by omega⟩
    have hw : wrap64 (((i + 1 : Nat) : Int) - 1) = (i : Int) := by unfold wrap64; omega
    rw [waybillref14_Check.l1, if_pos (by omega), if_pos (by omega), hw, if_pos (by omega), if_pos (by omega), w1 (i + 1) (by omega), Nat.add_sub_cancel]
    have hs := up_step l i (by omega)
    rw [show (i : Int) + 1 = ((i + 1 : Nat) : Int) by omega] at hs
    rw [hs]
    by_cases h : (rd_T30 l ((i + 1 : Nat) : Int)).f0 ≤ (rd_T30 l (i : Int)).f0
    · rw [if_pos h, decide_eq_false (by omega)]; rfl
    · rw [if_neg h, decide_eq_true (by omega), Bool.true_and, ih k (i + 1 + 1) (by omega) (by omega) (by omega)]; rfl
theorem RCheck_l0 (l : List S30) (hl : l.length ≤ 32) : ∀ (d k i : Nat), i + d = l.length → d + 40 < k → waybillref14_Check.l0 k l (i : Int) = some (if (l.drop i).any oddB = true then 4 else if upL l = true then 0 else 6) := by
  intro d
  induction d with
  | zero =>
    intro k i h1 h3
    obtain ⟨k, rfl⟩ : ∃ q, k = q + 1 := ⟨k - 1, by omega⟩
    rw [waybillref14_Check.l0, if_neg (by omega), List.drop_eq_nil_of_le (by omega), List.any_nil, if_neg (by decide)]
    by_cases hz : l.length = 0
    · obtain rfl : l = [] := List.eq_nil_of_length_eq_zero hz
      obtain ⟨k, rfl⟩ : ∃ q, k = q + 1 := ⟨k - 1, by omega⟩
      rfl
    · have := RCheck_l1 l hl (l.length - 1) k 1 (by omega) (by omega) (by omega)
      exact this
  | succ d ih =>
    intro k i h1 h3
    obtain ⟨k, rfl⟩ : ∃ q, k = q + 1 := ⟨k - 1, by omega⟩
    rw [waybillref14_Check.l0, if_pos (by omega), if_pos (by omega), w1 i (by omega), ih k (i + 1) (by omega) (by omega), drop30 l i (by omega), List.any_cons]
    unfold oddB
    by_cases c1 : (rd_T30 l (i : Int)).f0 < 0
    · rw [if_pos c1, decide_eq_true c1]; simp
    rw [if_neg c1, decide_eq_false c1]
    by_cases c2 : (rd_T30 l (i : Int)).f0 > 2147483647
    · rw [if_pos c2, decide_eq_true c2]; simp
    rw [if_neg c2, decide_eq_false c2]
    by_cases c3 : (rd_T30 l (i : Int)).f1 < 0
    · rw [if_pos c3, decide_eq_true c3]; simp
    rw [if_neg c3, decide_eq_false c3]
    by_cases c4 : (rd_T30 l (i : Int)).f1 > 1048576
    · rw [if_pos c4, decide_eq_true c4]; simp
    rw [if_neg c4, decide_eq_false c4]
    simp
theorem RCheck (l : List S30) {k : Nat} (hk : 100 ≤ k) : waybillref14_Check.f k l = some (checkL l) := by
  unfold waybillref14_Check.f checkL
  by_cases h : l.length > 32
  · rw [if_pos (by omega), if_pos h]
  · rw [if_neg (by omega), if_neg h]
    have := RCheck_l0 l (by omega) l.length k 0 (by omega) (by omega)
    exact this
theorem RTwo (v : B) (n : Int) {k : Nat} (hk : 100 ≤ k) : waybillref11_Two.f k (v.toNat : Int) n = draw_Two.f (v.toNat : Int) n := by
  obtain ⟨k, rfl⟩ : ∃ m, k = m + 1 := ⟨k - 1, by omega⟩
  unfold waybillref11_Two.f draw_Two.f
  by_cases c1 : n < 2
  · rw [if_pos c1, if_pos c1]; simp only [waybillref11_Two.j0, if_true]
  rw [if_neg c1, if_neg c1]
  by_cases c2 : n > 1048576
  · rw [if_pos c2, decide_eq_true c2]; simp only [waybillref11_Two.j0, if_true]
  rw [if_neg c2, decide_eq_false c2]; simp only [waybillref11_Two.j0, Bool.false_eq_true, if_false]
  obtain ⟨u, hu⟩ := dT_wf v n
  rw [One v n (by omega)]; simp only [obind]
  rw [hu, One u _ (by omega), show wrap64 (n - 1) = n - 1 by unfold wrap64; omega]; simp only [obind]
  split <;> rfl
theorem check_len (l : List S30) (h : checkL l = 0) : l.length ≤ 32 := by
  unfold checkL at h
  apply Classical.byContradiction
  intro h2; rw [if_pos (by omega)] at h; exact absurd h (by decide)
theorem RTwoL (v : B) (l : List S30) {k : Nat} (hk : 100 ≤ k) : waybillref14_Two.f k (v.toNat : Int) l = some (twoL (v.toNat : Int) l) := by
  unfold waybillref14_Two.f twoL askL
  rw [RCheck l hk]; simp only [obind]
  by_cases hc : checkL l = 0
  · rw [if_pos hc, if_pos hc]
    have h32 := check_len l hc
    by_cases h0 : l.length = 0
    · rw [if_pos (by omega), if_pos h0, if_neg (by decide)]
    · rw [if_neg (by omega), if_neg h0, if_pos rfl]
      unfold pickL
      by_cases h1 : l.length = 1
      · rw [if_pos (by omega), if_pos (by omega), if_pos h1]
      · rw [if_neg (by omega), if_neg h1, RTwo v _ hk, two_f _ _ (by omega) (by omega)]; simp only [obind]
        obtain ⟨b1, b2, b3, b4, b5⟩ := dTwo_bd (v.toNat : Int) l.length (by omega) (by omega)
        rw [if_pos b3, if_pos b4, if_pos b1, if_pos b2]
        by_cases hlt : (rd_T30 l (dTwo (v.toNat : Int) l.length).2.2).f1 < (rd_T30 l (dTwo (v.toNat : Int) l.length).2.1).f1
        · rw [if_pos hlt, if_pos hlt]
        · rw [if_neg hlt, if_neg hlt]
  · rw [if_neg hc, if_neg hc, if_neg hc]
theorem pw_up : ∀ (l : List S30), l.Pairwise (fun a b => a.f0 < b.f0) → upL l = true
  | [], _ => rfl
  | [a], _ => rfl
  | a :: b :: t, h => by
    obtain ⟨h1, h2⟩ := List.pairwise_cons.1 h
    have := pw_up (b :: t) h2
    have hab := h1 b List.mem_cons_self
    show (decide (a.f0 < b.f0) && upL (b :: t)) = true
    rw [decide_eq_true hab, this]; rfl
theorem ask_mk (l : List S30) (h0 : 0 < l.length) (h1 : l.length ≤ 32) (h2 : l.Pairwise (fun a b => a.f0 < b.f0)) (h3 : ∀ x ∈ l, 0 ≤ x.f0 ∧ x.f0 ≤ 2147483647 ∧ 0 ≤ x.f1 ∧ x.f1 ≤ 1048576) : askL l = 0 := by
  have hodd : ¬ l.any oddB = true := by
    intro h
    obtain ⟨x, hx, ho⟩ := List.any_eq_true.1 h
    have := h3 x hx
    unfold oddB at ho
    simp only [Bool.or_eq_true, decide_eq_true_eq] at ho
    omega
  have hc : checkL l = 0 := by
    unfold checkL
    rw [if_neg (by omega), if_neg hodd, if_pos (pw_up l h2)]
  unfold askL
  rw [if_pos hc, if_neg (by omega)]
theorem ask_bump (l : List S30) (ha : askL l = 0) (i : Nat) (hi : i < l.length) (hb : (rd_T30 l (i : Int)).f1 < 1048576) : askL (bump l (i : Int)) = 0 := by
  obtain ⟨a0, a1, a2, a3⟩ := ask_ok l ha
  have hlen := bump_len l (i : Int)
  have hg : ∀ (j : Nat) (hj : j < (bump l (i : Int)).length), (bump l (i : Int))[j] = rd_T30 (bump l (i : Int)) (j : Int) := fun j hj => (rd30 _ j hj).symm
  have hf0 : ∀ (j : Nat), (rd_T30 (bump l (i : Int)) (j : Int)).f0 = (rd_T30 l (j : Int)).f0 := fun j => by
    rw [rd_bump l i j hi]; split
    · rename_i e; rw [e]
    · rfl
  refine ask_mk _ (by omega) (by omega) ?_ ?_
  · rw [List.pairwise_iff_getElem]
    intro x y hx hy hxy
    rw [hg x hx, hg y hy, hf0 x, hf0 y, rd30 l x (by omega), rd30 l y (by omega)]
    exact List.pairwise_iff_getElem.1 a2 x y (by omega) (by omega) hxy
  · intro x hx
    obtain ⟨j, hj, rfl⟩ := List.getElem_of_mem hx
    rw [hg j hj, hf0 j]
    have h1 := a3 l[j] (List.getElem_mem _)
    have h2 := a3 l[i] (List.getElem_mem _)
    rw [rd30 l i hi] at hb
    rw [rd_bump l i j hi, rd30 l j (by omega), rd30 l i hi]
    split
    · simp only []; unfold wrap64; omega
    · exact h1
theorem take_bump (l : List S30) (i : Nat) : bump l (i : Int) = l.set i ⟨(rd_T30 l (i : Int)).f0, wrap64 ((rd_T30 l (i : Int)).f1 + 1)⟩ := rfl
theorem RSpread_l2 (s n : Int) (x11 : Int) : ∀ (d k j : Nat) (l : List S30) (i : Nat), l.Pairwise (fun a b => a.f0 < b.f0) → l.length ≤ 32 → (hi : i < l.length) → j + d = l.length → d < k →
    (j ≤ i → waybillref14_Spread.l2 k s n l x11 l[i].f0 (j : Int) = waybillref14_Spread.l1 (k - (d + 1)) s n (bump l (i : Int)) (wrap64 (x11 + 1))) ∧ (i < j → waybillref14_Spread.l2 k s n l x11 l[i].f0 (j : Int) = waybillref14_Spread.l1 (k - (d + 1)) s n l (wrap64 (x11 + 1))) := by
  intro d
  induction d with
  | zero =>
    intro k j l i hp hl hi h1 h2
    obtain ⟨k, rfl⟩ : ∃ q, k = q + 1 := ⟨k - 1, by omega⟩
    refine ⟨fun h => by omega, fun h => ?_⟩
    rw [waybillref14_Spread.l2, if_neg (by omega)]; rfl
  | succ d ih =>
    intro k j l i hp hl hi h1 h2
    obtain ⟨k, rfl⟩ : ∃ q, k = q + 1 := ⟨k - 1, by omega⟩
    rw [show k + 1 - (d + 1 + 1) = k - (d + 1) by omega]
    have hj : j < l.length := by omega
    refine ⟨fun h => ?_, fun h => ?_⟩
    · rw [waybillref14_Spread.l2, if_pos (by omega), if_pos (by omega), w1 j (by omega), rd30 l j hj]
      by_cases e : j = i
      · subst e
        rw [if_pos rfl, Int.toNat_natCast]
        have hlen := bump_len l (j : Int)
        have hp2 : (bump l (j : Int)).Pairwise (fun a b => a.f0 < b.f0) := by
          rw [List.pairwise_iff_getElem]
          intro x y hx hy hxy
          have hf0 : ∀ (q : Nat), (rd_T30 (bump l (j : Int)) (q : Int)).f0 = (rd_T30 l (q : Int)).f0 := fun q => by
            rw [rd_bump l j q hi]; split
            · rename_i e; rw [e]
            · rfl
          rw [← rd30 _ x hx, ← rd30 _ y hy, hf0 x, hf0 y, rd30 l x (by omega), rd30 l y (by omega)]
          exact List.pairwise_iff_getElem.1 hp x y (by omega) (by omega) hxy
        have := (ih k (j + 1) (bump l (j : Int)) j hp2 (by omega) (by omega) (by omega) (by omega)).2 (by omega)
        have e2 : (bump l (j : Int))[j]'(by omega) = (⟨l[j].f0, wrap64 (l[j].f1 + 1)⟩ : S30) := by
          rw [← rd30 _ j (by omega), rd_bump l j j hi, if_pos rfl, rd30 l j hi]
        rw [e2] at this
        simp only [] at this
        rw [show l.set j (⟨l[j].f0, wrap64 (l[j].f1 + 1)⟩ : S30) = bump l (j : Int) by rw [take_bump, rd30 l j hi]]
        exact this
      · have hne : ¬ l[j].f0 = l[i].f0 := fun e2 => e (pw_uniq l hp j i hj hi e2)
        rw [if_neg hne]
        exact (ih k (j + 1) l i hp hl hi (by omega) (by omega)).1 (by omega)
    · rw [waybillref14_Spread.l2, if_pos (by omega), if_pos (by omega), w1 j (by omega), rd30 l j hj]
      have hne : ¬ l[j].f0 = l[i].f0 := fun e2 => by have := pw_uniq l hp j i hj hi e2; omega
      rw [if_neg hne]
      exact (ih k (j + 1) l i hp hl hi (by omega) (by omega)).2 (by omega)
theorem pick_wf (v : B) (l : List S30) : ∃ u : B, (pickL (v.toNat : Int) l).1 = (u.toNat : Int) := by
  unfold pickL
  split
  · exact ⟨v, rfl⟩
  · obtain ⟨u, hu⟩ := dT_wf v l.length
    obtain ⟨t, ht⟩ := dT_wf u (l.length - 1)
    refine ⟨t, ?_⟩
    show (dT (dT (v.toNat : Int) l.length).1 ((l.length : Int) - 1)).1 = _
    rw [hu, ht]
theorem RSpread_l1 (n : Nat) (hn : n ≤ 4096) : ∀ (d k i : Nat) (v : B) (l : List S30), i + d = n → askL l = 0 → (∀ j : Nat, (rd_T30 l (j : Int)).f1 ≤ 1048576 - (d : Int)) → d * 40 + 200 < k →
    waybillref14_Spread.l1 k (v.toNat : Int) (n : Int) l (i : Int) = some (spreadN d (v.toNat : Int) l, 0) := by
  intro d
  induction d with
  | zero =>
    intro k i v l h1 ha hb hk
    obtain ⟨k, rfl⟩ : ∃ q, k = q + 1 := ⟨k - 1, by omega⟩
    rw [waybillref14_Spread.l1, if_neg (by omega)]; rfl
  | succ d ih =>
    intro k i v l h1 ha hb hk
    obtain ⟨k, rfl⟩ : ∃ q, k = q + 1 := ⟨k - 1, by omega⟩
    obtain ⟨a0, a1, a2, a3⟩ := ask_ok l ha
    obtain ⟨p0, p1⟩ := pick_bd (v.toNat : Int) l a0 a1
    rw [waybillref14_Spread.l1, if_pos (by omega), RTwoL v l (by omega)]; simp only [obind]
    unfold twoL
    rw [if_pos ha]
    obtain ⟨u, hu⟩ := pick_wf v l
    have hst : spreadN (d + 1) (v.toNat : Int) l = spreadN d (pickL (v.toNat : Int) l).1 (bump l (pickL (v.toNat : Int) l).2) := rfl
    rw [hst, hu]
    simp only []
    obtain ⟨p, hp⟩ : ∃ p : Nat, (pickL (v.toNat : Int) l).2 = p := ⟨(pickL (v.toNat : Int) l).2.toNat, by omega⟩
    rw [hp] at p1 ⊢
    have hpl : p < l.length := by omega
    rw [rd30 l p hpl]
    have h2 := (RSpread_l2 (u.toNat : Int) (n : Int) (i : Int) l.length k 0 l p a2 a1 hpl (by omega) (by omega)).1 (by omega)
    rw [show ((0 : Nat) : Int) = 0 from rfl] at h2
    rw [h2, w1 i (by omega)]
    have hbp := hb p
    refine ih (k - (l.length + 1)) (i + 1) u (bump l (p : Int)) (by omega) (ask_bump l ha p hpl (by omega)) (fun j => ?_) (by omega)
    rw [rd_bump l p j hpl]
    split
    · have := (ask_rd l ha p).1
      simp only []; unfold wrap64; omega
    · have := hb j; omega
theorem RSpread_l0 (n : Nat) (hn : n ≤ 4096) (v : B) (l : List S30) (ha : askL l = 0) : ∀ (d k i : Nat), i + d = l.length → d + n * 40 + 300 < k → (∀ j : Nat, j < i → (rd_T30 l (j : Int)).f1 ≤ 1048576 - (n : Int)) →
    waybillref14_Spread.l0 k (v.toNat : Int) (n : Int) l (l.take i) (i : Int) = some (if (l.drop i).any (sprB n) = true then ([], 4) else (spreadN n (v.toNat : Int) l, 0)) := by
  intro d
  obtain ⟨a0, a1, a2, a3⟩ := ask_ok l ha
  induction d with
  | zero =>
    intro k i h1 hk hb
    obtain ⟨k, rfl⟩ : ∃ q, k = q + 1 := ⟨k - 1, by omega⟩
    rw [waybillref14_Spread.l0, if_neg (by omega), List.drop_eq_nil_of_le (by omega), List.any_nil, if_neg (by decide), List.take_of_length_le (by omega)]
    have := RSpread_l1 n hn n k 0 v l (by omega) ha (fun j => by
      by_cases hj : j < l.length
      · exact hb j (by omega)
      · unfold rd_T30
        rw [Int.toNat_natCast, List.getD_eq_getElem?_getD, List.getElem?_eq_none (by omega)]
        show (0 : Int) ≤ _
        omega) (by omega)
    exact this
  | succ d ih =>
    intro k i h1 hk hb
    obtain ⟨k, rfl⟩ : ∃ q, k = q + 1 := ⟨k - 1, by omega⟩
    rw [waybillref14_Spread.l0, if_pos (by omega), if_pos (by omega), drop30 l i (by omega), List.any_cons, show wrap64 (1048576 - (n : Int)) = 1048576 - (n : Int) by unfold wrap64; omega]
    have hs : sprB (n : Int) (rd_T30 l (i : Int)) = decide ((rd_T30 l (i : Int)).f1 > 1048576 - (n : Int)) := rfl
    rw [hs]
    by_cases c : (rd_T30 l (i : Int)).f1 > 1048576 - (n : Int)
    · rw [if_pos c, decide_eq_true c, Bool.true_or, if_pos rfl]
    · rw [if_neg c, decide_eq_false c, Bool.false_or, if_pos (by rw [List.length_take]; omega), w1 i (by omega)]
      have ht : l.take i ++ [(⟨(rd_T30 l (i : Int)).f0, (rd_T30 l (i : Int)).f1⟩ : S30)] = l.take (i + 1) := by
        rw [List.take_succ_eq_append_getElem (show i < l.length by omega), rd30 l i (by omega)]
      rw [ht]
      exact ih k (i + 1) (by omega) (by omega) (fun j hj => by
        by_cases e : j = i
        · subst e; omega
        · exact hb j (by omega))
theorem RSpread (v : B) (n : Int) (l : List S30) {k : Nat} (hk : 170000 ≤ k) : waybillref14_Spread.f k (v.toNat : Int) n l = some (spreadL (v.toNat : Int) n l) := by
  unfold waybillref14_Spread.f spreadL
  rw [RCheck l (by omega)]; simp only [obind]
  by_cases hc : checkL l = 0
  · rw [if_pos hc]
    have h32 := check_len l hc
    by_cases h0 : l.length = 0
    · have hq : askL l = 71 := by unfold askL; rw [if_pos hc, if_pos h0]
      rw [if_pos (by omega), hq, if_neg (by decide)]
    · have ha : askL l = 0 := by unfold askL; rw [if_pos hc, if_neg h0]
      rw [if_neg (by omega), if_pos ha]
      by_cases n0 : n < 0
      · rw [if_pos n0, if_pos n0]
      rw [if_neg n0, if_neg n0]
      by_cases n1 : n > 4096
      · rw [if_pos n1, if_pos n1]
      rw [if_neg n1, if_neg n1]
      obtain ⟨m, rfl⟩ : ∃ m : Nat, n = m := ⟨n.toNat, by omega⟩
      have := RSpread_l0 m (by omega) v l ha l.length k 0 (by omega) (by omega) (fun j hj => by omega)
      rw [Int.toNat_natCast]
      exact this
  · have hq : askL l = checkL l := by unfold askL; rw [if_neg hc]
    rw [if_neg hc, hq, if_neg hc]
theorem SameL (l : List S30) (hl : l.length ≤ 4611686018427387904) {k : Nat} (hk : l.length < k) : waybillplain_SameLoads.f k l l = some true := by
  unfold waybillplain_SameLoads.f
  rw [if_pos rfl]
  have key : ∀ (d k i : Nat), i + d = l.length → d < k → waybillplain_SameLoads.l0 k l l (i : Int) = some true := by
    intro d
    induction d with
    | zero =>
      intro k i h1 hk
      obtain ⟨k, rfl⟩ : ∃ m, k = m + 1 := ⟨k - 1, by omega⟩
      rw [waybillplain_SameLoads.l0, if_neg (by omega)]
    | succ d ih =>
      intro k i h1 hk
      obtain ⟨k, rfl⟩ : ∃ m, k = m + 1 := ⟨k - 1, by omega⟩
      rw [waybillplain_SameLoads.l0, if_pos (by omega), if_pos (by omega), if_pos (by omega), if_neg (by simp), w1 i (by omega)]
      exact ih k (i + 1) (by omega) (by omega)
  exact key l.length k 0 (by omega) hk
theorem spreadN_len : ∀ (n : Nat) (s : Int) (l : List S30), (spreadN n s l).length = l.length
  | 0, _, _ => rfl
  | n + 1, s, l => by
    show (spreadN n _ (bump l _)).length = _
    rw [spreadN_len n, bump_len]
theorem spreadL_len (s n : Int) (l : List S30) : (spreadL s n l).1.length ≤ 32 := by
  unfold spreadL
  by_cases ha : askL l = 0
  · rw [if_pos ha]
    have := ask_le l ha
    split
    · simp
    · split
      · simp
      · split
        · simp
        · show (spreadN _ s l).length ≤ 32
          rw [spreadN_len]; exact this
  · rw [if_neg ha]; simp
theorem own_f (l : List S30) (h : l.length * 16 ≤ 140737488351232) : waybilllaw14_own.f l = some l := by
  unfold waybilllaw14_own.f
  rw [if_pos (by simp only [List.length_nil]; omega)]; rfl
def goodP (l : List S105) (j : Nat) : Prop := 0 ≤ (rd_T105 l (j : Int)).f1 ∧ (0 < j → ¬ ordI (rd_T105 l (j : Int)) (rd_T105 l ((j - 1 : Nat) : Int)) < 0)
theorem srtF_iff (l : List S105) : ∀ n : Nat, srtF l n = true ↔ ∀ j : Nat, 0 < j → j ≤ n → ¬ ordI (rd_T105 l (j : Int)) (rd_T105 l ((j - 1 : Nat) : Int)) < 0
  | 0 => ⟨fun _ j h0 h1 => by omega, fun _ => rfl⟩
  | n + 1 => by
    rw [srtF]
    constructor
    · intro h j h0 h1
      split at h
      · cases h
      · rename_i ho
        by_cases hj : j ≤ n
        · exact (srtF_iff l n).1 h j h0 hj
        · obtain rfl : j = n + 1 := by omega
          exact ho
    · intro h
      have h' := h (n + 1) (by omega) (Nat.le_refl _)
      rw [Nat.add_sub_cancel] at h'
      rw [if_neg h']
      exact (srtF_iff l n).2 fun j h0 h1 => h j h0 (by omega)
theorem any_neg_iff (l : List S105) : l.any negB = false ↔ ∀ j : Nat, j < l.length → 0 ≤ (rd_T105 l (j : Int)).f1 := by
  rw [List.any_eq_false]
  constructor
  · intro h j hj
    have := h l[j] (List.getElem_mem hj)
    rw [rd105 l j hj]
    simpa [negB] using this
  · intro h x hx
    obtain ⟨j, hj, rfl⟩ := List.getElem_of_mem hx
    have := h j hj
    rw [rd105 l j hj] at this
    simpa [negB] using this
theorem whole_iff (l : List S105) : wholeL l = 0 ↔ l.length ≤ 1024 ∧ ∀ j : Nat, j < l.length → goodP l j := by
  constructor
  · intro h
    obtain ⟨h1, h2, h3⟩ := whole0 h
    exact ⟨h1, fun j hj => ⟨(any_neg_iff l).1 h3 j hj, fun h0 => (srtF_iff l _).1 h2 j h0 (by omega)⟩⟩
  · rintro ⟨h1, h2⟩
    unfold wholeL
    rw [if_neg (by omega), if_pos ((srtF_iff l _).2 fun j h0 hj => (h2 j (by omega)).2 h0), if_neg (by rw [(any_neg_iff l).2 fun j hj => (h2 j hj).1]; decide)]
theorem behind_ord (a b : S105) : waybillref12_behind.f a.f0 a.f1 b.f0 b.f1 = some (decide (ordI b a < 0)) := by
  unfold waybillref12_behind.f ordI
  by_cases h1 : a.f0 > b.f0
  · rw [if_pos h1, if_pos (show b.f0 < a.f0 from h1)]; rfl
  · rw [if_neg h1, if_neg (show ¬ b.f0 < a.f0 from h1)]
    by_cases h2 : a.f0 = b.f0
    · rw [if_pos h2, if_neg (show ¬ b.f0 > a.f0 by omega)]
      by_cases h3 : a.f1 > b.f1
      · rw [if_pos (show b.f1 < a.f1 from h3)]; simp [h3]
      · rw [if_neg (show ¬ b.f1 < a.f1 from h3)]
        split <;> simp [h3]
    · rw [if_neg h2, if_pos (show b.f0 > a.f0 by omega)]; rfl
theorem refWhole0 (l : List S105) (hl : l.length ≤ 1024) : ∀ d k i : Nat, i + d = l.length → d < k → ∃ r, waybillref12_Whole.l0 k l (i : Int) = some r ∧ (r = 0 ∨ r = 9) ∧ (r = 0 ↔ ∀ j : Nat, i ≤ j → j < l.length → goodP l j) := by
  intro d
  induction d with
  | zero =>
    intro k i h1 h2
    obtain ⟨k, rfl⟩ : ∃ q, k = q + 1 := ⟨k - 1, by omega⟩
    rw [waybillref12_Whole.l0, if_neg (by omega)]
    exact ⟨0, rfl, .inl rfl, ⟨fun _ j h3 h4 => by omega, fun _ => rfl⟩⟩
  | succ d ih =>
    intro k i h1 h2
    obtain ⟨k, rfl⟩ : ∃ q, k = q + 1 := ⟨k - 1, by omega⟩
    rw [waybillref12_Whole.l0, if_pos (by omega), if_pos (by omega)]
    have hnext : wrap64 ((i : Int) + 1) = ((i + 1 : Nat) : Int) := by unfold wrap64; omega
    obtain ⟨r, hr, h09, hiff⟩ := ih k (i + 1) (by omega) (by omega)
    by_cases hneg : (rd_T105 l (i : Int)).f1 < 0
    · rw [if_pos hneg]
      exact ⟨9, rfl, .inr rfl, ⟨fun h => absurd h (by decide), fun h => by have := (h i (Nat.le_refl _) (by omega)).1; omega⟩⟩
    · rw [if_neg hneg, hnext]
      by_cases h0 : (i : Int) > 0
      · have hprev : wrap64 ((i : Int) - 1) = ((i - 1 : Nat) : Int) := by unfold wrap64; omega
        rw [if_pos h0, hprev, if_pos (by omega), if_pos (by omega), behind_ord, obind]
        by_cases ho : ordI (rd_T105 l (i : Int)) (rd_T105 l ((i - 1 : Nat) : Int)) < 0
        · rw [if_pos (by simp [ho])]
          exact ⟨9, rfl, .inr rfl, ⟨fun h => absurd h (by decide), fun h => absurd ho ((h i (Nat.le_refl _) (by omega)).2 (by omega))⟩⟩
        · rw [if_neg (by simp [ho])]
          refine ⟨r, hr, h09, hiff.trans ⟨fun h j h3 h4 => ?_, fun h j h3 h4 => h j (by omega) h4⟩⟩
          by_cases hj : j = i
          · subst hj; exact ⟨by omega, fun _ => ho⟩
          · exact h j (by omega) h4
      · rw [if_neg h0]
        refine ⟨r, hr, h09, hiff.trans ⟨fun h j h3 h4 => ?_, fun h j h3 h4 => h j (by omega) h4⟩⟩
        by_cases hj : j = i
        · subst hj; exact ⟨by omega, fun h => by omega⟩
        · exact h j (by omega) h4
theorem whole_is (l : List S105) : wholeL l = 3 ∧ (l.length : Int) > 1024 ∨ ¬ (l.length : Int) > 1024 ∧ (wholeL l = 0 ∨ wholeL l = 9) := by
  unfold wholeL
  split
  · exact .inl ⟨rfl, by assumption⟩
  · refine .inr ⟨by assumption, ?_⟩
    split
    · split
      · exact .inr rfl
      · exact .inl rfl
    · exact .inr rfl
theorem refWholeE (l : List S105) (k : Nat) (hk : 1024 < k) : waybillref12_Whole.f k l = some (wholeL l) := by
  unfold waybillref12_Whole.f
  rcases whole_is l with ⟨h, hl⟩ | ⟨hl, h⟩
  · rw [if_pos hl, h]
  · rw [if_neg hl]
    obtain ⟨r, hr, h09, hiff⟩ := refWhole0 l (by omega) l.length k 0 (by omega) (by omega)
    have hr' : waybillref12_Whole.l0 k l 0 = some r := hr
    have hz : r = 0 ↔ wholeL l = 0 := hiff.trans ⟨fun h => (whole_iff l).2 ⟨by omega, fun j hj => h j (Nat.zero_le _) hj⟩, fun h j _ hj => ((whole_iff l).1 h).2 j hj⟩
    rw [hr']
    congr 1
    omega
theorem refWhole (l : List S105) (k : Nat) (hk : 1024 < k) : ∃ r, waybillref12_Whole.f k l = some r ∧ (r = 0 ↔ wholeL l = 0) := ⟨_, refWholeE l k hk, Iff.rfl⟩
theorem tw_spec {α : Type} (p : α → Bool) : ∀ l : List α, (l.takeWhile p).length ≤ l.length ∧ (∀ i (hl : i < l.length), i < (l.takeWhile p).length → p l[i] = true) ∧ (∀ hlt : (l.takeWhile p).length < l.length, p (l[(l.takeWhile p).length]'hlt) = false)
  | [] => ⟨by simp, fun i hl => by simp at hl, fun hlt => by simp at hlt⟩
  | x :: t => by
    obtain ⟨h1, h2, h3⟩ := tw_spec p t
    by_cases hx : p x = true
    · have e : (x :: t).takeWhile p = x :: t.takeWhile p := by rw [List.takeWhile_cons, if_pos hx]
      refine ⟨by rw [e]; simpa using h1, fun i hl hi => ?_, fun hlt => ?_⟩
      · rw [e] at hi
        cases i with
        | zero => exact hx
        | succ i => exact h2 i (by simpa using hl) (by simpa using hi)
      · have := h3 (by rw [e] at hlt; simpa using hlt)
        simpa [e] using this
    · have e : (x :: t).takeWhile p = [] := by rw [List.takeWhile_cons, if_neg hx]
      refine ⟨by rw [e]; simp, fun i hl hi => by rw [e] at hi; simp at hi, fun hlt => by simpa [e] using hx⟩
theorem from_le (l : List S105) (h : Int) : fromN l h ≤ l.length := (tw_spec _ l).1
theorem from_lt (l : List S105) (h : Int) : ∀ i : Nat, i < fromN l h → i < l.length ∧ (rd_T105 l (i : Int)).f0 < h := by
  intro i hi
  have hle := from_le l h
  refine ⟨by omega, ?_⟩
  rw [rd105 l i (by omega)]
  simpa using (tw_spec (fun x : S105 => decide (x.f0 < h)) l).2.1 i (by omega) hi
theorem from_at (l : List S105) (h : Int) (hlt : fromN l h < l.length) : ¬ (rd_T105 l ((fromN l h : Nat) : Int)).f0 < h := by
  rw [rd105 l _ hlt]
  have := (tw_spec (fun x : S105 => decide (x.f0 < h)) l).2.2 hlt
  exact of_decide_eq_false this
theorem walk_l0 (l : List S105) (h : Int) (hl : l.length ≤ 1024) (k : Nat) : ∀ d i : Nat, i + d = fromN l h → waybillref12_Walk.l0 (d + 1 + k) l h (i : Int) = waybillref12_Walk.j1 k l ((fromN l h : Nat) : Int) := by
  intro d
  have hle : fromN l h ≤ l.length := from_le l h
  induction d with
  | zero =>
    intro i hi
    rw [show 0 + 1 + k = k + 1 by omega, waybillref12_Walk.l0, show i = fromN l h by omega]
    by_cases hlt : fromN l h < l.length
    · rw [if_pos (by omega), if_pos (by omega), if_neg (from_at l h hlt)]
    · rw [if_neg (by omega)]
  | succ d ih =>
    intro i hi
    obtain ⟨h1, h2⟩ := from_lt l h i (by omega)
    rw [show d + 1 + 1 + k = (d + 1 + k) + 1 by omega, waybillref12_Walk.l0, if_pos (by omega), if_pos (by omega), if_pos h2, show wrap64 ((i : Int) + 1) = ((i + 1 : Nat) : Int) by unfold wrap64; omega]
    exact ih (i + 1) (by omega)
theorem walk_l2 (l : List S105) (s i : Int) (out : List Int) (id : Int) (ho : out.length ≤ 1024) (k : Nat) : ∀ (d q : Nat) (met : Bool), q + d = out.length →
    waybillref12_Walk.l2 (d + 1 + k) l s out i id met (q : Int) = if (met || (out.drop q).contains id) = true then waybillref12_Walk.l1 k l s out (wrap64 (i + 1)) else waybillref12_Walk.l1 k l s (out ++ [id]) (wrap64 (i + 1)) := by
  intro d
  induction d with
  | zero =>
    intro q met hq
    rw [show 0 + 1 + k = k + 1 by omega, waybillref12_Walk.l2, if_neg (by omega), List.drop_eq_nil_of_le (by omega)]
    cases met
    · rw [if_neg (by decide), if_pos (by omega), if_neg (by simp)]
    · rw [if_pos rfl, if_pos (by simp)]
  | succ d ih =>
    intro q met hq
    have hlt : q < out.length := by omega
    have hn : wrap64 ((q : Int) + 1) = ((q + 1 : Nat) : Int) := by unfold wrap64; omega
    rw [show d + 1 + 1 + k = (d + 1 + k) + 1 by omega, waybillref12_Walk.l2, if_pos (by omega), hn, List.drop_eq_getElem_cons hlt]
    cases met
    · rw [if_neg (by decide), if_pos (by omega), ih (q + 1) _ (by omega)]
      have e : (rd out (q : Int) == id) = (id == out[q]) := by
        rw [show rd out (q : Int) = out[q] by unfold rd; rw [Int.toNat_natCast, List.getD_eq_getElem?_getD, List.getElem?_eq_getElem hlt]; rfl]
        exact Bool.beq_comm ..
      rw [e, List.contains_cons, Bool.false_or]
    · rw [if_pos rfl, ih (q + 1) true (by omega)]
      rw [Bool.true_or, Bool.true_or]
def ddF (out : List Int) (xs : List Int) : List Int := xs.foldl (fun out x => if out.contains x then out else out ++ [x]) out
set_option maxRecDepth 100000 in
theorem walk_l1 (l : List S105) (h : Int) (hl : l.length ≤ 1024) : ∀ (d i k : Nat) (out : List Int), i + d = l.length → out.length ≤ i → d * 1030 + 1 ≤ k →
    waybillref12_Walk.l1 k l ((fromN l h : Nat) : Int) out (i : Int) = some (ddF out ((List.range' i d).map (fun i => (rd_T105 l (((fromN l h + i) % l.length : Nat) : Int)).f1)), 0) := by
  intro d
  have hle : fromN l h ≤ l.length := from_le l h
  induction d with
  | zero =>
    intro i k out h1 h2 h3
    obtain ⟨k, rfl⟩ : ∃ q, k = q + 1 := ⟨k - 1, by omega⟩
    rw [waybillref12_Walk.l1, if_neg (by omega)]
    rfl
  | succ d ih =>
    intro i k out h1 h2 h3
    obtain ⟨k, rfl⟩ : ∃ q, k = ((out.length + 1) + q) + 1 := ⟨k - 1 - (out.length + 1), by omega⟩
    have hw : wrap64 (((fromN l h : Nat) : Int) + (i : Int)) = (((fromN l h + i) : Nat) : Int) := by unfold wrap64; omega
    have hpos : 0 < l.length := by omega
    obtain ⟨m, hm⟩ : ∃ m : Nat, m = (fromN l h + i) % l.length := ⟨_, rfl⟩
    have hmod : Int.tmod (((fromN l h + i) : Nat) : Int) (l.length : Int) = (m : Int) := by
      rw [Int.tmod_eq_emod_of_nonneg (by omega), hm]; rfl
    have hml : m < l.length := by rw [hm]; exact Nat.mod_lt _ hpos
    rw [waybillref12_Walk.l1, if_pos (by omega), if_neg (by omega), hw, hmod, if_pos (by omega), if_pos (by omega)]
    rw [show ((0 : Int)) = ((0 : Nat) : Int) from rfl, walk_l2 l _ _ out _ (by omega) k out.length 0 false (by omega), Bool.false_or, List.drop_zero, show wrap64 ((i : Int) + 1) = ((i + 1 : Nat) : Int) by unfold wrap64; omega]
    rw [List.range'_succ, List.map_cons]
    show _ = some (ddF (if out.contains (rd_T105 l (((fromN l h + i) % l.length : Nat) : Int)).f1 then out else out ++ [(rd_T105 l (((fromN l h + i) % l.length : Nat) : Int)).f1]) _, _)
    rw [← hm]
    by_cases hc : out.contains (rd_T105 l (m : Int)).f1 = true
    · rw [if_pos hc, if_pos hc]
      exact ih (i + 1) k out (by omega) (by omega) (by omega)
    · rw [if_neg hc, if_neg hc]
      exact ih (i + 1) k _ (by omega) (by rw [List.length_append, List.length_singleton]; omega) (by omega)
theorem refWalk (l : List S105) (h : Int) (k : Nat) (hk : 1100000 ≤ k) : ∃ r, waybillref12_Walk.f k l h = some (if wholeL l = 0 then walkL l h else [], r) := by
  obtain ⟨r, hr, hiff⟩ := refWhole l k (by omega)
  unfold waybillref12_Walk.f
  rw [hr, obind]
  by_cases h0 : wholeL l = 0
  · obtain ⟨hl, _⟩ := whole0 h0
    have hle : fromN l h ≤ l.length := from_le l h
    rw [if_pos (hiff.2 h0), if_pos h0]
    by_cases hz : (l.length : Int) = 0
    · rw [if_pos hz]
      exact ⟨71, by rw [show walkL l h = [] by unfold walkL; rw [show l.length = 0 by omega]; rfl]⟩
    · rw [if_neg hz]
      obtain ⟨q, rfl⟩ : ∃ q, k = fromN l h + 1 + (q + 1) := ⟨k - (fromN l h + 1) - 1, by omega⟩
      have h1 := walk_l0 l h hl (q + 1) (fromN l h) 0 (by omega)
      rw [show (0 : Int) = ((0 : Nat) : Int) from rfl, h1, waybillref12_Walk.j1, show (0 : Int) = ((0 : Nat) : Int) from rfl, walk_l1 l h hl l.length 0 q [] (by omega) (by simp) (by omega)]
      exact ⟨0, by unfold walkL ddI ddF; rw [List.range_eq_range']⟩
  · rw [if_neg (fun h => h0 (hiff.1 h)), if_neg h0]
    exact ⟨r, rfl⟩
theorem ddI_len (xs : List Int) : ∀ out : List Int, (ddF out xs).length ≤ out.length + xs.length := by
  induction xs with
  | nil => intro out; simp [ddF]
  | cons x t ih =>
    intro out
    unfold ddF
    rw [List.foldl_cons]
    refine Nat.le_trans (ih _) ?_
    split
    · simp
    · simp; omega
theorem walkL_len (l : List S105) (h : Int) : (walkL l h).length ≤ l.length := by
  have := ddI_len ((List.range l.length).map (fun i => (rd_T105 l (((fromN l h + i) % l.length : Nat) : Int)).f1)) []
  simpa [walkL, ddI, ddF] using this
theorem rring_l1 (m : List S30) (hm : m.length ≤ 32) (xs : List Int) (i : Nat) (hi : i < xs.length) (hx : xs.length ≤ 1024) (k : Nat) : ∀ (d q : Nat), q + d = m.length →
    waybillref14_Ring.l1 (d + 1 + k) m xs (i : Int) (q : Int) = if (m.drop q).any (hasB (rd xs (i : Int))) = true then some (rd xs (i : Int), 0) else waybillref14_Ring.l0 k m xs ((i + 1 : Nat) : Int) := by
  intro d
  have hn : wrap64 ((i : Int) + 1) = ((i + 1 : Nat) : Int) := by unfold wrap64; omega
  induction d with
  | zero =>
    intro q hq
    rw [show 0 + 1 + k = k + 1 by omega, waybillref14_Ring.l1, if_neg (by omega), List.drop_eq_nil_of_le (by omega), hn, if_neg (by simp)]
  | succ d ih =>
    intro q hq
    have hlt : q < m.length := by omega
    rw [show d + 1 + 1 + k = (d + 1 + k) + 1 by omega, waybillref14_Ring.l1, if_pos (by omega), if_pos (by omega), if_pos (by omega), if_pos (by omega), rd30 m q hlt, List.drop_eq_getElem_cons hlt, List.any_cons]
    by_cases he : m[q].f0 = rd xs (i : Int)
    · rw [if_pos he, if_pos (by simp [hasB, he])]
    · rw [if_neg he, show wrap64 ((q : Int) + 1) = ((q + 1 : Nat) : Int) by unfold wrap64; omega, ih (q + 1) (by omega)]
      have : hasB (rd xs (i : Int)) m[q] = false := by simp [hasB, he]
      rw [this, Bool.false_or]
theorem rring_l0 (m : List S30) (hm : m.length ≤ 32) (xs : List Int) (hx : xs.length ≤ 1024) : ∀ (d i k : Nat), i + d = xs.length → d * 40 + 1 ≤ k →
    waybillref14_Ring.l0 k m xs (i : Int) = some (if idxFrom (loadB m) (i : Int) (xs.drop i) < 0 then (0, 71) else (rd xs (idxFrom (loadB m) (i : Int) (xs.drop i)), 0)) := by
  intro d
  induction d with
  | zero =>
    intro i k h1 h2
    obtain ⟨k, rfl⟩ : ∃ n, k = n + 1 := ⟨k - 1, by omega⟩
    rw [waybillref14_Ring.l0, if_neg (by omega), List.drop_eq_nil_of_le (by omega)]
    rfl
  | succ d ih =>
    intro i k h1 h2
    obtain ⟨k, rfl⟩ : ∃ n, k = (m.length + 1 + n) + 1 := ⟨k - 1 - (m.length + 1), by omega⟩
    have hi : i < xs.length := by omega
    have hrd : rd xs (i : Int) = xs[i] := by unfold rd; rw [Int.toNat_natCast, List.getD_eq_getElem?_getD, List.getElem?_eq_getElem hi]; rfl
    have h0 := rring_l1 m hm xs i hi hx k m.length 0 (by omega)
    have h0' : waybillref14_Ring.l1 (m.length + 1 + k) m xs (i : Int) 0 = _ := h0
    rw [waybillref14_Ring.l0, if_pos (by omega), h0', List.drop_zero, List.drop_eq_getElem_cons hi, idxFrom]
    have hl : m.any (hasB (rd xs (i : Int))) = loadB m xs[i] := by unfold loadB; rw [hrd]
    rw [hl]
    by_cases hb : loadB m xs[i] = true
    · rw [if_pos hb, if_pos hb, if_neg (by omega)]
    · rw [if_neg hb, if_neg hb]
      have := ih (i + 1) k (by omega) (by omega)
      rw [show (((i + 1 : Nat) : Int)) = (i : Int) + 1 by omega] at this ⊢
      exact this
theorem refRing (r : List S105) (h : Int) (m : List S30) (k : Nat) (hk : 1200000 ≤ k) : waybillref14_Ring.f k r h m = some (ringL r h m) := by
  unfold waybillref14_Ring.f ringL
  rw [RCheck m (by omega), obind]
  by_cases hc : checkL m = 0
  · rw [if_pos hc, if_pos hc, refWholeE r k (by omega), obind]
    by_cases hw : wholeL r = 0
    · obtain ⟨w, hwk⟩ := refWalk r h k (by omega)
      have hl := (whole0 hw).1
      have hxl := walkL_len r h
      rw [if_pos hw, if_pos hw, hwk, obind, if_pos hw]
      have := rring_l0 m (check_len m hc) (walkL r h) (by omega) (walkL r h).length 0 k (by omega) (by omega)
      rw [List.drop_zero] at this
      exact this
    · rw [if_neg hw, if_neg hw]
  · rw [if_neg hc, if_neg hc]
theorem rleast_l0 (l : List S30) (hl : l.length ≤ 32) : ∀ (d k i j : Nat), i + d = l.length → d < k → j < l.length → waybillref14_Least.l0 k l (j : Int) (i : Int) = some ((minS (rd_T30 l (j : Int)) (l.drop i)).f0, 0) := by
  intro d
  induction d with
  | zero =>
    intro k i j h1 h2 h3
    obtain ⟨k, rfl⟩ : ∃ n, k = n + 1 := ⟨k - 1, by omega⟩
    rw [waybillref14_Least.l0, if_neg (by omega), if_pos (by omega), if_pos (by omega), List.drop_eq_nil_of_le (by omega)]
    rfl
  | succ d ih =>
    intro k i j h1 h2 h3
    obtain ⟨k, rfl⟩ : ∃ n, k = n + 1 := ⟨k - 1, by omega⟩
    rw [waybillref14_Least.l0, if_pos (by omega), if_pos (by omega), if_pos (by omega), if_pos (by omega), show wrap64 ((i : Int) + 1) = ((i + 1 : Nat) : Int) by unfold wrap64; omega, min_step l i (by omega)]
    by_cases hc : (rd_T30 l (i : Int)).f1 < (rd_T30 l (j : Int)).f1
    · rw [if_pos hc, if_pos hc]
      exact ih k (i + 1) i (by omega) (by omega) (by omega)
    · rw [if_neg hc, if_neg hc]
      exact ih k (i + 1) j (by omega) (by omega) h3
theorem RLeast (l : List S30) {k : Nat} (hk : 100 ≤ k) : waybillref14_Least.f k l = some (leastL l) := by
  unfold waybillref14_Least.f leastL askL
  rw [RCheck l hk, obind]
  by_cases hc : checkL l = 0
  · rw [if_pos hc, if_pos hc]
    by_cases hz : l.length = 0
    · rw [if_pos (show (l.length : Int) = 0 by omega), if_pos hz, if_neg (by decide)]
    · rw [if_neg (show ¬ (l.length : Int) = 0 by omega), if_neg hz, if_pos rfl]
      have h32 := check_len l hc
      exact rleast_l0 l h32 (l.length - 1) k 1 0 (by omega) (by omega) (by omega)
  · rw [if_neg hc, if_neg hc, if_neg hc]
theorem tells_law (v : B) (n : Int) (l : List S30) (r : List S105) (h : Int) (hl : l.length * 16 ≤ 140737488351232) (hw : ∀ x ∈ r, (Lit.int .i64 x.f1).wf = true) (k : Nat) (hk : l.length + 1300000 ≤ k) : waybilllaw14_ChoiceTells.f k (v.toNat : Int) l r h n = some true := by
  obtain ⟨k, rfl⟩ : ∃ q, k = q + 1 := ⟨k - 1, by omega⟩
  have hR : choice_Ring.f r h l = some (ringL r h l) := by unfold choice_Ring.f; rw [if_pos hw]
  have hsl := spreadL_len (v.toNat : Int) n l
  unfold waybilllaw14_ChoiceTells.f
  rw [own_f l hl, obind, choice_Least.f, obind, RLeast l (by omega), obind, choice_Two.f, obind, RTwoL v l (by omega), obind, hR, obind, refRing r h l _ (by omega), obind, choice_Spread.f, obind, RSpread v n l (by omega), obind]
  rw [if_pos rfl, waybilllaw14_num.f, obind, if_pos rfl, if_pos rfl, if_pos rfl, waybilllaw14_num.f, obind, if_pos rfl, if_pos rfl, waybilllaw14_num.f, obind, if_pos rfl]
  rw [SameL _ (by omega) (by omega), obind, if_pos rfl, waybilllaw14_num.f, obind]
  rw [show ((spreadL (v.toNat : Int) n l).2 != (spreadL (v.toNat : Int) n l).2) = false by simp]
  rw [waybilllaw14_ChoiceTells.j0, if_neg (by decide), choice_Check.f, obind, waybilllaw14_num.f, obind, RCheck l (by omega), obind, if_pos rfl, SameL l (by omega) (by omega), obind, if_pos rfl, alive_t]
  rfl
theorem ChoiceTells (a0 : Int) (l : List S30) (r : List S105) (h n : Int) (h0 : (Lit.int .u64 a0).wf = true) (hl : l.length * 16 ≤ 140737488351232) (hw : ∀ x ∈ r, (Lit.int .i64 x.f1).wf = true) : waybilllaw14_ChoiceTells.f (l.length + 1300000) a0 l r h n = some true := by
  obtain ⟨v, rfl⟩ := bv_of a0 h0
  exact tells_law v n l r h hl hw _ (Nat.le_refl _)
end Go.Proofs.Ytemleanglkaedaa.Pure
