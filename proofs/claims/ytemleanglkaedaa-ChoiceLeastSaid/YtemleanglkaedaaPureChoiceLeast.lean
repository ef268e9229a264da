/- The pure statement of ChoiceLeast, proved. -/
import Derived.Test.YtemleanglkaedaaEChoiceLeastx2
namespace Go.Proofs.Ytemleanglkaedaa.Pure
open Go.RowKit Go.Proofs.Ytemleanglkaedaa.EChoiceLeast Go.Proofs.YtemleanglkaedaaW.PrintWords Go.Proofs.YtemleanglkaedaaW.PrintLast Go.Proofs.YtemleanglkaedaaW.PrintMore
set_option linter.unusedVariables false
theorem obind {α β : Type} (a : α) (f : α → Option β) : (some a).bind f = f a := Eq.trans (Option.bind_some a f) (Eq.refl _)
theorem alive_t : waybilllaw14_alive.f = some true := by decide +kernel
theorem up_pw : ∀ (l : List S30), upL l = true → l.Pairwise (fun a b => a.f0 < b.f0)
  | [], _ => List.Pairwise.nil
  | [a], _ => by simp
  | a :: b :: t, h => by
    have h' : decide (a.f0 < b.f0) = true ∧ upL (b :: t) = true := by simpa [upL] using h
    have ih := up_pw (b :: t) h'.2
    have hab := of_decide_eq_true h'.1
    refine List.Pairwise.cons ?_ ih
    intro x hx
    rcases List.mem_cons.1 hx with rfl | hx
    · exact hab
    · have := (List.pairwise_cons.1 ih).1 x hx
      omega
theorem min_spec : ∀ (t : List S30) (m : S30), (m :: t).Pairwise (fun a b => a.f0 < b.f0) → minS m t ∈ m :: t ∧ ∀ x ∈ m :: t, (minS m t).f1 < x.f1 ∨ (minS m t).f1 = x.f1 ∧ (minS m t).f0 ≤ x.f0
  | [], m, _ => ⟨by simp [minS], fun x hx => by simp at hx; subst hx; right; exact ⟨rfl, Int.le_refl _⟩⟩
  | x :: t, m, h => by
    obtain ⟨hm, ht⟩ := List.pairwise_cons.1 h
    obtain ⟨hx, ht2⟩ := List.pairwise_cons.1 ht
    have hmx := hm x List.mem_cons_self
    unfold minS
    by_cases hc : x.f1 < m.f1
    · rw [if_pos hc]
      obtain ⟨h1, h2⟩ := min_spec t x ht
      refine ⟨List.mem_cons_of_mem _ h1, ?_⟩
      intro y hy
      rcases List.mem_cons.1 hy with rfl | hy
      · have := h2 x List.mem_cons_self
        left; omega
      · exact h2 y hy
    · rw [if_neg hc]
      obtain ⟨h1, h2⟩ := min_spec t m (List.Pairwise.cons (fun y hy => hm y (List.mem_cons_of_mem _ hy)) ht2)
      refine ⟨?_, ?_⟩
      · rcases List.mem_cons.1 h1 with h | h
        · rw [h]; exact List.mem_cons_self
        · exact List.mem_cons_of_mem _ (List.mem_cons_of_mem _ h)
      · intro y hy
        rcases List.mem_cons.1 hy with rfl | hy
        · exact h2 _ List.mem_cons_self
        · rcases List.mem_cons.1 hy with rfl | hy
          · have := h2 m List.mem_cons_self
            omega
          · exact h2 y (List.mem_cons_of_mem _ hy)
theorem pw_uniq (l : List S30) (h : l.Pairwise (fun a b => a.f0 < b.f0)) (i j : Nat) (hi : i < l.length) (hj : j < l.length) (e : l[i].f0 = l[j].f0) : i = j := by
  have hp := List.pairwise_iff_getElem.1 h
  rcases Nat.lt_trichotomy i j with hlt | rfl | hlt
  · have := hp i j hi hj hlt; omega
  · rfl
  · have := hp j i hj hi hlt; omega
theorem busy_l0 (l : List S30) (h : l.Pairwise (fun a b => a.f0 < b.f0)) (hl : l.length ≤ 32) (j : Nat) (hj : j < l.length) : ∀ (d k i : Nat), i + d = l.length → d < k → i ≤ j → waybilllaw14_busy.l0 k l l[j].f0 (i : Int) = some l[j].f1 := by
  intro d
  induction d with
  | zero => intro k i h1 h2 h3; omega
  | succ d ih =>
    intro k i h1 h2 h3
    obtain ⟨k, rfl⟩ : ∃ n, k = n + 1 := ⟨k - 1, by omega⟩
    rw [waybilllaw14_busy.l0, if_pos (by omega), if_pos (by omega), rd30 l i (by omega)]
    by_cases he : l[i].f0 = l[j].f0
    · rw [if_pos he]
      obtain rfl := pw_uniq l h i j (by omega) hj he
      rfl
    · rw [if_neg he, show wrap64 ((i : Int) + 1) = ((i + 1 : Nat) : Int) by unfold wrap64; omega]
      have hne : i ≠ j := fun e => he (by subst e; rfl)
      exact ih k (i + 1) (by omega) (by omega) (by omega)
theorem least_l0 (l : List S30) (hl : l.length ≤ 32) (g : S30) (hg : ∀ x ∈ l, g.f1 < x.f1 ∨ g.f1 = x.f1 ∧ g.f0 ≤ x.f0) (h0 : 0 ≤ g.f1) : ∀ (d k i : Nat), i + d = l.length → d < k → waybilllaw14_ChoiceLeast.l0 k l g.f0 g.f1 (i : Int) = some true := by
  intro d
  induction d with
  | zero =>
    intro k i h1 h2
    obtain ⟨k, rfl⟩ : ∃ n, k = n + 1 := ⟨k - 1, by omega⟩
    rw [waybilllaw14_ChoiceLeast.l0, if_neg (by omega), decide_eq_true h0]
  | succ d ih =>
    intro k i h1 h2
    obtain ⟨k, rfl⟩ : ∃ n, k = n + 1 := ⟨k - 1, by omega⟩
    have := hg l[i] (List.getElem_mem _)
    rw [waybilllaw14_ChoiceLeast.l0, if_pos (by omega), if_pos (by omega), rd30 l i (by omega), if_neg (by omega), show wrap64 ((i : Int) + 1) = ((i + 1 : Nat) : Int) by unfold wrap64; omega, ih k (i + 1) (by omega) (by omega)]
    split
    · rw [if_neg (by omega)]
    · rfl
theorem ChoiceLeast (l : List S30) : waybilllaw14_ChoiceLeast.f 100 l = some true := by
  unfold waybilllaw14_ChoiceLeast.f choice_Least.f
  rw [alive_t, obind, if_pos rfl, obind, waybilllaw14_num.f, obind]
  unfold leastL
  by_cases ha : askL l = 0
  · rw [if_pos ha, if_pos rfl]
    have hpos := ask_pos l ha
    have hc : checkL l = 0 := by
      unfold askL at ha
      split at ha
      · assumption
      · rename_i h; exact absurd ha h
    unfold checkL at hc
    have h32 : l.length ≤ 32 := by
      apply Classical.byContradiction
      intro h; rw [if_pos (by omega)] at hc; exact absurd hc (by decide)
    rw [if_neg (by omega)] at hc
    have hodd : ¬ l.any oddB = true := by intro h; rw [if_pos h] at hc; exact absurd hc (by decide)
    rw [if_neg hodd] at hc
    have hup : upL l = true := by
      apply Classical.byContradiction
      intro h; rw [if_neg h] at hc; exact absurd hc (by decide)
    have hpw := up_pw l hup
    have hcons : l = rd_T30 l 0 :: l.drop 1 := by
      have := rd30 l 0 hpos
      rw [show ((0 : Nat) : Int) = 0 from rfl] at this
      rw [this]
      have h2 := List.drop_eq_getElem_cons hpos
      simpa using h2
    have hs := min_spec (l.drop 1) (rd_T30 l 0) (by rw [← hcons]; exact hpw)
    rw [← hcons] at hs
    generalize minS (rd_T30 l 0) (l.drop 1) = g at hs ⊢
    obtain ⟨hm, hall⟩ := hs
    obtain ⟨j, hj, rfl⟩ := List.getElem_of_mem hm
    have h0 : 0 ≤ l[j].f1 := by
      apply Classical.byContradiction
      intro h
      apply hodd
      rw [List.any_eq_true]
      refine ⟨l[j], hm, ?_⟩
      unfold oddB
      rw [decide_eq_true (show l[j].f1 < 0 by omega)]; simp
    rw [waybilllaw14_busy.f]
    have hb := busy_l0 l hpw h32 j hj l.length 100 0 (by omega) (by omega) (by omega)
    rw [show ((0 : Nat) : Int) = 0 from rfl] at hb
    rw [hb, obind]
    have := least_l0 l h32 l[j] hall h0 l.length 100 0 (by omega) (by omega)
    exact this
  · rw [if_neg ha, if_neg ha]
    rfl
end Go.Proofs.Ytemleanglkaedaa.Pure
