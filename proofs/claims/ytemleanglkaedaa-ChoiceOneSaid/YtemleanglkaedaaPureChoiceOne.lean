/- The pure statement of ChoiceOne, proved. -/
import Derived.Test.YtemleanglkaedaaEChoiceOnex2
namespace Go.Proofs.Ytemleanglkaedaa.Pure
open Go.RowKit Go.Proofs.Ytemleanglkaedaa.EChoiceOne Go.Proofs.YtemleanglkaedaaW.PrintWords Go.Proofs.YtemleanglkaedaaW.PrintLast Go.Proofs.YtemleanglkaedaaW.PrintMore
set_option linter.unusedVariables false
theorem obind {α β : Type} (a : α) (f : α → Option β) : (some a).bind f = f a := Eq.trans (Option.bind_some a f) (Eq.refl _)
theorem alive_t : waybilllaw14_alive.f = some true := by decide +kernel
theorem up_pw : ∀ (l : List S30), upL l = true → l.Pairwise (fun a b => a.f0 < b.f0)
  | [], _ => List.Pairwise.nil
  | [a], _ => by simp
  | a :: b :: t, h => by
    have h' : decide (a.f0 < b.f0) = true ∧ upL (b :: t) = true := by simpa [upL] using h
    have ih := up_pw (b :: t) h'.2
    have hab := of_decide_eq_true h'.1
    refine List.Pairwise.cons ?_ ih
    intro x hx
    rcases List.mem_cons.1 hx with rfl | hx
    · exact hab
    · have := (List.pairwise_cons.1 ih).1 x hx
      omega
theorem min_spec : ∀ (t : List S30) (m : S30), (m :: t).Pairwise (fun a b => a.f0 < b.f0) → minS m t ∈ m :: t ∧ ∀ x ∈ m :: t, (minS m t).f1 < x.f1 ∨ (minS m t).f1 = x.f1 ∧ (minS m t).f0 ≤ x.f0
  | [], m, _ => ⟨by simp [minS], fun x hx => by simp at hx; subst hx; right; exact ⟨rfl, Int.le_refl _⟩⟩
  | x :: t, m, h => by
    obtain ⟨hm, ht⟩ := List.pairwise_cons.1 h
    obtain ⟨hx, ht2⟩ := List.pairwise_cons.1 ht
    have hmx := hm x List.mem_cons_self
    unfold minS
    by_cases hc : x.f1 < m.f1
    · rw [if_pos hc]
      obtain ⟨h1, h2⟩ := min_spec t x ht
      refine ⟨List.mem_cons_of_mem _ h1, ?_⟩
      intro y hy
      rcases List.mem_cons.1 hy with rfl | hy
      · have := h2 x List.mem_cons_self
        left; omega
      · exact h2 y hy
    · rw [if_neg hc]
      obtain ⟨h1, h2⟩ := min_spec t m (List.Pairwise.cons (fun y hy => hm y (List.mem_cons_of_mem _ hy)) ht2)
      refine ⟨?_, ?_⟩
      · rcases List.mem_cons.1 h1 with h | h
        · rw [h]; exact List.mem_cons_self
        · exact List.mem_cons_of_mem _ (List.mem_cons_of_mem _ h)
      · intro y hy
        rcases List.mem_cons.1 hy with rfl | hy
        · exact h2 _ List.mem_cons_self
        · rcases List.mem_cons.1 hy with rfl | hy
          · have := h2 m List.mem_cons_self
            omega
          · exact h2 y (List.mem_cons_of_mem _ hy)
theorem pw_uniq (l : List S30) (h : l.Pairwise (fun a b => a.f0 < b.f0)) (i j : Nat) (hi : i < l.length) (hj : j < l.length) (e : l[i].f0 = l[j].f0) : i = j := by
  have hp := List.pairwise_iff_getElem.1 h
  rcases Nat.lt_trichotomy i j with hlt | rfl | hlt
  · have := hp i j hi hj hlt; omega
  · rfl
  · have := hp j i hj hi hlt; omega
theorem busy_l0 (l : List S30) (h : l.Pairwise (fun a b => a.f0 < b.f0)) (hl : l.length ≤ 32) (j : Nat) (hj : j < l.length) : ∀ (d k i : Nat), i + d = l.length → d < k → i ≤ j → waybilllaw14_busy.l0 k l l[j].f0 (i : Int) = some l[j].f1 := by
  intro d
  induction d with
  | zero => intro k i h1 h2 h3; omega
  | succ d ih =>
    intro k i h1 h2 h3
    obtain ⟨k, rfl⟩ : ∃ n, k = n + 1 := ⟨k - 1, by omega⟩
    rw [waybilllaw14_busy.l0, if_pos (by omega), if_pos (by omega), rd30 l i (by omega)]
    by_cases he : l[i].f0 = l[j].f0
    · rw [if_pos he]
      obtain rfl := pw_uniq l h i j (by omega) hj he
      rfl
    · rw [if_neg he, show wrap64 ((i : Int) + 1) = ((i + 1 : Nat) : Int) by unfold wrap64; omega]
      have hne : i ≠ j := fun e => he (by subst e; rfl)
      exact ih k (i + 1) (by omega) (by omega) (by omega)
theorem ask_ok (l : List S30) (ha : askL l = 0) : 0 < l.length ∧ l.length ≤ 32 ∧ l.Pairwise (fun a b => a.f0 < b.f0) ∧ ∀ x ∈ l, 0 ≤ x.f0 ∧ x.f0 ≤ 2147483647 ∧ 0 ≤ x.f1 ∧ x.f1 ≤ 1048576 := by
  have hpos := ask_pos l ha
  have hc : checkL l = 0 := by
    unfold askL at ha
    split at ha
    · assumption
    · rename_i h; exact absurd ha h
  unfold checkL at hc
  have h32 : l.length ≤ 32 := by
    apply Classical.byContradiction
    intro h; rw [if_pos (by omega)] at hc; exact absurd hc (by decide)
  rw [if_neg (by omega)] at hc
  have hodd : ¬ l.any oddB = true := by intro h; rw [if_pos h] at hc; exact absurd hc (by decide)
  rw [if_neg hodd] at hc
  have hup : upL l = true := by
    apply Classical.byContradiction
    intro h; rw [if_neg h] at hc; exact absurd hc (by decide)
  refine ⟨hpos, h32, up_pw l hup, ?_⟩
  intro x hx
  have ho : oddB x = false := by
    have := List.any_eq_false.1 (Bool.eq_false_iff.mpr hodd) x hx
    exact Bool.eq_false_iff.mpr this
  unfold oddB at ho
  simp only [Bool.or_eq_false_iff, decide_eq_false_iff_not] at ho
  omega
theorem one_l0 (l : List S30) (hl : l.length ≤ 32) (g : S30) (h0 : 0 ≤ g.f1) (o : Nat) (ho : l.length = 1 ∨ o < l.length ∧ (rd_T30 l (o : Int)).f0 ≠ g.f0 ∧ g.f1 ≤ (rd_T30 l (o : Int)).f1) : ∀ (d k i : Nat) (b : Bool), i + d = l.length → d < k → (b = true ∨ l.length ≠ 1 ∧ i ≤ o) → waybilllaw14_ChoiceOne.l0 k l g.f0 g.f1 b (i : Int) = some true := by
  intro d
  induction d with
  | zero =>
    intro k i b h1 h2 hb
    obtain ⟨k, rfl⟩ : ∃ n, k = n + 1 := ⟨k - 1, by omega⟩
    rw [waybilllaw14_ChoiceOne.l0, if_neg (by omega), if_pos (by omega)]
    rcases hb with rfl | ⟨hb, hb2⟩
    · rfl
    · rcases ho with ho | ho
      · exact absurd ho hb
      · omega
  | succ d ih =>
    intro k i b h1 h2 hb
    obtain ⟨k, rfl⟩ : ∃ n, k = n + 1 := ⟨k - 1, by omega⟩
    rw [waybilllaw14_ChoiceOne.l0, if_pos (by omega), show wrap64 ((i : Int) + 1) = ((i + 1 : Nat) : Int) by unfold wrap64; omega]
    by_cases hbt : b = true
    · rw [if_pos hbt]
      exact ih k (i + 1) true (by omega) (by omega) (.inl rfl)
    · rw [if_neg hbt, if_pos (by omega)]
      obtain ⟨hn1, hio⟩ := hb.resolve_left hbt
      obtain ⟨ho1, ho2, ho3⟩ := ho.resolve_left hn1
      by_cases hf : (rd_T30 l (i : Int)).f0 = g.f0
      · rw [if_pos hf]
        have : i ≠ o := fun e => ho2 (by rw [← e]; exact hf)
        exact ih k (i + 1) false (by omega) (by omega) (.inr ⟨hn1, by omega⟩)
      · rw [if_neg hf]
        by_cases e : i = o
        · subst e
          rw [decide_eq_true (show (rd_T30 l (i : Int)).f1 ≥ g.f1 from ho3)]
          exact ih k (i + 1) true (by omega) (by omega) (.inl rfl)
        · exact ih k (i + 1) _ (by omega) (by omega) (.inr ⟨hn1, by omega⟩)
theorem ChoiceOne (a0 : Int) (l : List S30) : waybilllaw14_ChoiceOne.f 100 a0 l = some true := by
  unfold waybilllaw14_ChoiceOne.f choice_Two.f
  rw [alive_t, obind, if_pos rfl, obind, waybilllaw14_num.f, obind]
  unfold twoL
  by_cases ha : askL l = 0
  · rw [if_pos ha, if_pos rfl]
    obtain ⟨hpos, h32, hpw, hin⟩ := ask_ok l ha
    obtain ⟨p0, p1⟩ := pick_bd a0 l hpos h32
    have hother : l.length = 1 ∨ ∃ o : Nat, o < l.length ∧ (o : Int) ≠ (pickL a0 l).2 ∧ (rd_T30 l (pickL a0 l).2).f1 ≤ (rd_T30 l (o : Int)).f1 := by
      by_cases h1 : l.length = 1
      · exact .inl h1
      · right
        obtain ⟨b1, b2, b3, b4, b5⟩ := dTwo_bd a0 l.length (by omega) (by omega)
        unfold pickL
        rw [if_neg h1]
        simp only []
        by_cases hlt : (rd_T30 l (dTwo a0 l.length).2.2).f1 < (rd_T30 l (dTwo a0 l.length).2.1).f1
        · rw [if_pos hlt]
          refine ⟨(dTwo a0 l.length).2.1.toNat, by omega, by omega, ?_⟩
          rw [Int.toNat_of_nonneg b1]; omega
        · rw [if_neg hlt]
          refine ⟨(dTwo a0 l.length).2.2.toNat, by omega, by omega, ?_⟩
          rw [Int.toNat_of_nonneg b3]; omega
    generalize (pickL a0 l).2 = p at p0 p1 hother ⊢
    obtain ⟨j, rfl⟩ : ∃ j : Nat, p = j := ⟨p.toNat, by omega⟩
    have hj : j < l.length := by omega
    rw [rd30 l j hj] at hother ⊢
    have hg := hin l[j] (List.getElem_mem _)
    rw [waybilllaw14_busy.f]
    have hb := busy_l0 l hpw h32 j hj l.length 100 0 (by omega) (by omega) (by omega)
    rw [show ((0 : Nat) : Int) = 0 from rfl] at hb
    rw [hb, obind]
    rcases hother with h1 | ⟨o, q1, q2, q3⟩
    · have := one_l0 l h32 l[j] (by omega) 0 (.inl h1) l.length 100 0 ((l.length : Int) == 1) (by omega) (by omega) (.inl (by rw [h1]; rfl))
      exact this
    · by_cases h1 : l.length = 1
      · have := one_l0 l h32 l[j] (by omega) 0 (.inl h1) l.length 100 0 ((l.length : Int) == 1) (by omega) (by omega) (.inl (by rw [h1]; rfl))
        exact this
      · have hne : (rd_T30 l (o : Int)).f0 ≠ l[j].f0 := by
          rw [rd30 l o q1]
          intro e
          exact q2 (by rw [pw_uniq l hpw o j q1 hj e])
        have := one_l0 l h32 l[j] (by omega) o (.inr ⟨q1, hne, q3⟩) l.length 100 0 ((l.length : Int) == 1) (by omega) (by omega) (.inr ⟨h1, by omega⟩)
        exact this
  · rw [if_neg ha, if_neg ha]
    rfl
end Go.Proofs.Ytemleanglkaedaa.Pure
