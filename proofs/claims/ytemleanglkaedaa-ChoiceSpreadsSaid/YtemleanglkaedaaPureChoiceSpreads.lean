/- The pure statement of ChoiceSpreads, proved. -/
import Derived.Test.YtemleanglkaedaaEChoiceSpreadsx2
namespace Go.Proofs.Ytemleanglkaedaa.Pure
open Go.RowKit Go.Proofs.Ytemleanglkaedaa.EChoiceSpreads Go.Proofs.YtemleanglkaedaaW.PrintWords Go.Proofs.YtemleanglkaedaaW.PrintLast Go.Proofs.YtemleanglkaedaaW.PrintMore
set_option linter.unusedVariables false
theorem obind {α β : Type} (a : α) (f : α → Option β) : (some a).bind f = f a := Eq.trans (Option.bind_some a f) (Eq.refl _)
theorem alive_t : waybilllaw14_alive.f = some true := by decide +kernel
theorem up_pw : ∀ (l : List S30), upL l = true → l.Pairwise (fun a b => a.f0 < b.f0)
  | [], _ => List.Pairwise.nil
  | [a], _ => by simp
  | a :: b :: t, h => by
    have h' : decide (a.f0 < b.f0) = true ∧ upL (b :: t) = true := by simpa [upL] using h
    have ih := up_pw (b :: t) h'.2
    have hab := of_decide_eq_true h'.1
    refine List.Pairwise.cons ?_ ih
    intro x hx
    rcases List.mem_cons.1 hx with rfl | hx
    · exact hab
    · have := (List.pairwise_cons.1 ih).1 x hx
      omega
theorem min_spec : ∀ (t : List S30) (m : S30), (m :: t).Pairwise (fun a b => a.f0 < b.f0) → minS m t ∈ m :: t ∧ ∀ x ∈ m :: t, (minS m t).f1 < x.f1 ∨ (minS m t).f1 = x.f1 ∧ (minS m t).f0 ≤ x.f0
  | [], m, _ => ⟨by simp [minS], fun x hx => by simp at hx; subst hx; right; exact ⟨rfl, Int.le_refl _⟩⟩
  | x :: t, m, h => by
    obtain ⟨hm, ht⟩ := List.pairwise_cons.1 h
    obtain ⟨hx, ht2⟩ := List.pairwise_cons.1 ht
    have hmx := hm x List.mem_cons_self
    unfold minS
    by_cases hc : x.f1 < m.f1
    · rw [if_pos hc]
      obtain ⟨h1, h2⟩ := min_spec t x ht
      refine ⟨List.mem_cons_of_mem _ h1, ?_⟩
      intro y hy
      rcases List.mem_cons.1 hy with rfl | hy
      · have := h2 x List.mem_cons_self
        left; omega
      · exact h2 y hy
    · rw [if_neg hc]
      obtain ⟨h1, h2⟩ := min_spec t m (List.Pairwise.cons (fun y hy => hm y (List.mem_cons_of_mem _ hy)) ht2)
      refine ⟨?_, ?_⟩
      · rcases List.mem_cons.1 h1 with h | h
        · rw [h]; exact List.mem_cons_self
        · exact List.mem_cons_of_mem _ (List.mem_cons_of_mem _ h)
      · intro y hy
        rcases List.mem_cons.1 hy with rfl | hy
        · exact h2 _ List.mem_cons_self
        · rcases List.mem_cons.1 hy with rfl | hy
          · have := h2 m List.mem_cons_self
            omega
          · exact h2 y (List.mem_cons_of_mem _ hy)
theorem pw_uniq (l : List S30) (h : l.Pairwise (fun a b => a.f0 < b.f0)) (i j : Nat) (hi : i < l.length) (hj : j < l.length) (e : l[i].f0 = l[j].f0) : i = j := by
  have hp := List.pairwise_iff_getElem.1 h
  rcases Nat.lt_trichotomy i j with hlt | rfl | hlt
  · have := hp i j hi hj hlt; omega
  · rfl
  · have := hp j i hj hi hlt; omega
theorem ask_ok (l : List S30) (ha : askL l = 0) : 0 < l.length ∧ l.length ≤ 32 ∧ l.Pairwise (fun a b => a.f0 < b.f0) ∧ ∀ x ∈ l, 0 ≤ x.f0 ∧ x.f0 ≤ 2147483647 ∧ 0 ≤ x.f1 ∧ x.f1 ≤ 1048576 := by
  have hpos := ask_pos l ha
  have hc : checkL l = 0 := by
    unfold askL at ha
    split at ha
    · assumption
    · rename_i h; exact absurd ha h
  unfold checkL at hc
  have h32 : l.length ≤ 32 := by
    apply Classical.byContradiction
    intro h; rw [if_pos (by omega)] at hc; exact absurd hc (by decide)
  rw [if_neg (by omega)] at hc
  have hodd : ¬ l.any oddB = true := by intro h; rw [if_pos h] at hc; exact absurd hc (by decide)
  rw [if_neg hodd] at hc
  have hup : upL l = true := by
    apply Classical.byContradiction
    intro h; rw [if_neg h] at hc; exact absurd hc (by decide)
  refine ⟨hpos, h32, up_pw l hup, ?_⟩
  intro x hx
  have ho : oddB x = false := by
    have := List.any_eq_false.1 (Bool.eq_false_iff.mpr hodd) x hx
    exact Bool.eq_false_iff.mpr this
  unfold oddB at ho
  simp only [Bool.or_eq_false_iff, decide_eq_false_iff_not] at ho
  omega
theorem rd_bump (l : List S30) (i j : Nat) (hi : i < l.length) : rd_T30 (bump l (i : Int)) (j : Int) = if j = i then ⟨(rd_T30 l (i : Int)).f0, wrap64 ((rd_T30 l (i : Int)).f1 + 1)⟩ else rd_T30 l (j : Int) := by
  unfold bump rd_T30
  simp only [Int.toNat_natCast, List.getD_eq_getElem?_getD, List.getElem?_set]
  by_cases h : j = i
  · subst h; rw [if_pos rfl, if_pos hi, if_pos rfl]; rfl
  · rw [if_neg (fun e => h e.symm), if_neg h]
def sumTo (l : List S30) : Nat → Int
  | 0 => 0
  | j + 1 => sumTo l j + (rd_T30 l (j : Int)).f1
theorem sumTo_bump (l : List S30) (i : Nat) (hi : i < l.length) (h0 : 0 ≤ (rd_T30 l (i : Int)).f1) (h1 : (rd_T30 l (i : Int)).f1 ≤ 1048576) : ∀ L, sumTo (bump l (i : Int)) L = sumTo l L + if i < L then 1 else 0
  | 0 => by simp [sumTo]
  | L + 1 => by
    rw [sumTo, sumTo, sumTo_bump l i hi h0 h1 L, rd_bump l i L hi]
    by_cases h : L = i
    · subst h
      rw [if_pos rfl, if_neg (by omega), if_pos (by omega)]
      simp only []
      unfold wrap64; omega
    · rw [if_neg h]
      by_cases h2 : i < L
      · rw [if_pos h2, if_pos (by omega)]; omega
      · rw [if_neg h2, if_neg (by omega)]; omega
set_option maxRecDepth 100000 in
theorem spreadN_spec : ∀ (n : Nat) (s : Int) (l : List S30), 0 < l.length → l.length ≤ 32 → (n : Int) ≤ 4096 → (∀ j : Nat, 0 ≤ (rd_T30 l (j : Int)).f1 ∧ (rd_T30 l (j : Int)).f1 ≤ 1048576 - n) →
    (spreadN n s l).length = l.length ∧ (∀ j : Nat, (rd_T30 (spreadN n s l) (j : Int)).f0 = (rd_T30 l (j : Int)).f0 ∧ (rd_T30 l (j : Int)).f1 ≤ (rd_T30 (spreadN n s l) (j : Int)).f1 ∧ (rd_T30 (spreadN n s l) (j : Int)).f1 ≤ 1048576) ∧ sumTo (spreadN n s l) l.length = sumTo l l.length + n
  | 0, s, l, _, _, _, hb => ⟨rfl, fun j => ⟨rfl, Int.le_refl _, by have := (hb j).2; simpa [spreadN] using this⟩, by simp [spreadN]⟩
  | n + 1, s, l, hl, hl2, hn, hb => by
    obtain ⟨p0, p1⟩ := pick_bd s l hl hl2
    obtain ⟨i, hi⟩ : ∃ i : Nat, (pickL s l).2 = i := ⟨(pickL s l).2.toNat, by omega⟩
    rw [hi] at p1
    have hil : i < l.length := by omega
    have hbi := hb i
    have hlen := bump_len l (i : Int)
    have hb2 : ∀ j : Nat, 0 ≤ (rd_T30 (bump l (i : Int)) (j : Int)).f1 ∧ (rd_T30 (bump l (i : Int)) (j : Int)).f1 ≤ 1048576 - n := fun j => by
      rw [rd_bump l i j hil]
      split
      · simp only []; unfold wrap64; omega
      · have := hb j; omega
    obtain ⟨h1, h2, h3⟩ := spreadN_spec n (pickL s l).1 (bump l (i : Int)) (by rw [hlen]; exact hl) (by rw [hlen]; exact hl2) (by omega) hb2
    have e : spreadN (n + 1) s l = spreadN n (pickL s l).1 (bump l (i : Int)) := by rw [← hi]; rfl
    rw [e]
    refine ⟨h1.trans hlen, fun j => ?_, ?_⟩
    · obtain ⟨q1, q2, q3⟩ := h2 j
      rw [rd_bump l i j hil] at q1 q2
      by_cases hj : j = i
      · subst hj
        rw [if_pos rfl] at q1 q2
        refine ⟨q1, ?_, q3⟩
        simp only [] at q2
        unfold wrap64 at q2; omega
      · rw [if_neg hj] at q1 q2
        exact ⟨q1, q2, q3⟩
    · rw [hlen] at h3
      rw [h3, sumTo_bump l i hil hbi.1 (by omega), if_pos hil]
      omega
theorem sum_mono (m l : List S30) (h : ∀ j : Nat, (rd_T30 l (j : Int)).f1 ≤ (rd_T30 m (j : Int)).f1) (i : Nat) : ∀ d, sumTo m i - sumTo l i ≤ sumTo m (i + d) - sumTo l (i + d)
  | 0 => Int.le_refl _
  | d + 1 => by
    have := sum_mono m l h i d
    have := h (i + d)
    rw [show i + (d + 1) = (i + d) + 1 by omega, sumTo, sumTo]; omega
/-- Loads that may be, read anywhere. -/
theorem ask_rd (l : List S30) (ha : askL l = 0) (j : Nat) : 0 ≤ (rd_T30 l (j : Int)).f1 ∧ (rd_T30 l (j : Int)).f1 ≤ 1048576 := by
  obtain ⟨_, _, _, hin⟩ := ask_ok l ha
  by_cases hj : j < l.length
  · rw [rd30 l j hj]; have := hin l[j] (List.getElem_mem _); omega
  · unfold rd_T30
    rw [Int.toNat_natCast, List.getD_eq_getElem?_getD, List.getElem?_eq_none (by omega)]
    exact ⟨by decide, by decide⟩
theorem spr_rd (l : List S30) (n : Int) (hn : 0 ≤ n) (hn2 : n ≤ 4096) (ha : askL l = 0) (h : l.any (sprB n) = false) (j : Nat) : 0 ≤ (rd_T30 l (j : Int)).f1 ∧ (rd_T30 l (j : Int)).f1 ≤ 1048576 - n := by
  refine ⟨(ask_rd l ha j).1, ?_⟩
  by_cases hj : j < l.length
  · rw [rd30 l j hj]
    have := List.any_eq_false.1 h l[j] (List.getElem_mem _)
    unfold sprB at this
    have := of_decide_eq_false (Bool.eq_false_iff.mpr this)
    omega
  · unfold rd_T30
    rw [Int.toNat_natCast, List.getD_eq_getElem?_getD, List.getElem?_eq_none (by omega)]
    show (0 : Int) ≤ _
    omega
theorem spreads_l0 (n : Int) (l m : List S30) (hn : 0 ≤ n) (hn2 : n < 200) (hl2 : l.length ≤ 32) (hm : m.length = l.length) (hp : ∀ j : Nat, (rd_T30 m (j : Int)).f0 = (rd_T30 l (j : Int)).f0 ∧ (rd_T30 l (j : Int)).f1 ≤ (rd_T30 m (j : Int)).f1 ∧ (rd_T30 m (j : Int)).f1 ≤ 1048576) (hb : ∀ j : Nat, 0 ≤ (rd_T30 l (j : Int)).f1) (hs : sumTo m l.length = sumTo l l.length + n) :
    ∀ (d k i : Nat), i + d = l.length → d < k → waybilllaw14_ChoiceSpreads.l0 k n l m (sumTo m i - sumTo l i) (i : Int) = some true := by
  intro d
  induction d with
  | zero =>
    intro k i h1 h2
    obtain ⟨k, rfl⟩ : ∃ q, k = q + 1 := ⟨k - 1, by omega⟩
    rw [waybilllaw14_ChoiceSpreads.l0, if_neg (by omega), show i = l.length by omega, if_pos (by omega), hm]
    simp
  | succ d ih =>
    intro k i h1 h2
    obtain ⟨k, rfl⟩ : ∃ q, k = q + 1 := ⟨k - 1, by omega⟩
    obtain ⟨q1, q2, q3⟩ := hp i
    have q0 := hb i
    have hlo := sum_mono m l (fun j => (hp j).2.1) 0 i
    have hhi := sum_mono m l (fun j => (hp j).2.1) i (l.length - i)
    rw [show i + (l.length - i) = l.length by omega] at hhi
    rw [Nat.zero_add] at hlo
    simp only [sumTo] at hlo
    rw [waybilllaw14_ChoiceSpreads.l0, if_pos (by omega), if_pos (by omega), if_pos (by omega), if_pos q1, if_neg (by omega)]
    rw [show wrap64 ((i : Int) + 1) = ((i + 1 : Nat) : Int) by unfold wrap64; omega]
    have := ih k (i + 1) (by omega) (by omega)
    rw [sumTo, sumTo] at this
    rw [show wrap64 (wrap64 (sumTo m i - sumTo l i + (rd_T30 m (i : Int)).f1) - (rd_T30 l (i : Int)).f1) = sumTo m i + (rd_T30 m (i : Int)).f1 - (sumTo l i + (rd_T30 l (i : Int)).f1) by unfold wrap64; omega]
    exact this
theorem ChoiceSpreads (a0 a1 : Int) (l : List S30) : waybilllaw14_ChoiceSpreads.f 100 a0 a1 l = some true := by
  unfold waybilllaw14_ChoiceSpreads.f choice_Spread.f
  have hn : ∃ n, n = Int.tmod (wrap64 ((Int.tmod a1 200) + 200)) 200 ∧ 0 ≤ n ∧ n < 200 := by
    refine ⟨_, rfl, ?_⟩
    have h1 : -200 < Int.tmod a1 200 ∧ Int.tmod a1 200 < 200 := by
      rw [Int.tmod_eq_emod]; split <;> omega
    rw [show wrap64 (Int.tmod a1 200 + 200) = Int.tmod a1 200 + 200 by unfold wrap64; omega]
    rw [Int.tmod_eq_emod_of_nonneg (by omega)]
    omega
  obtain ⟨n, hn, hn0, hn1⟩ := hn
  rw [alive_t, obind, if_pos rfl, ← hn, obind, waybilllaw14_num.f, obind]
  clear hn
  unfold spreadL
  by_cases ha : askL l = 0
  · rw [if_pos ha, if_neg (show ¬ n < 0 by omega), if_neg (show ¬ n > 4096 by omega)]
    by_cases hs : l.any (sprB n) = true
    · rw [if_pos hs]; rfl
    · rw [if_neg hs, if_pos rfl]
      have hs : l.any (sprB n) = false := Bool.eq_false_iff.mpr hs
      obtain ⟨hpos, h32, _, _⟩ := ask_ok l ha
      have hb := spr_rd l n hn0 (by omega) ha hs
      obtain ⟨h1, h2, h3⟩ := spreadN_spec n.toNat a0 l hpos h32 (by omega) (fun j => by have := hb j; omega)
      have := spreads_l0 n l (spreadN n.toNat a0 l) hn0 hn1 h32 h1 h2 (fun j => (hb j).1) (by rw [h3]; omega) l.length 100 0 (by omega) (by omega)
      simpa [sumTo] using this
  · rw [if_neg ha, if_neg ha]; rfl
end Go.Proofs.Ytemleanglkaedaa.Pure
