/- The pure statement of DrawChance, proved. -/
import Derived.Test.YthldeecchlgieaaEDrawChancex2
namespace Go.Proofs.Ythldeecchlgieaa.Pure
open Go.RowKit Go.Proofs.Ythldeecchlgieaa.EDrawChance Go.Proofs.YthldeecchlgieaaW.PrintWords Go.Proofs.YthldeecchlgieaaW.PrintLast Go.Proofs.YthldeecchlgieaaW.PrintMore
set_option linter.unusedVariables false
set_option linter.unusedSimpArgs false

/-- As a step of its own: not by unfolding. -/
theorem obind {α β : Type} (a : α) (f : α → Option β) : (some a).bind f = f a := Eq.trans (Option.bind_some a f) (Eq.refl _)
theorem w00 : wrap64 (0 + 0) = 0 := by decide +kernel
theorem Same {k : Nat} (l : List Int) (hl : l.length ≤ 4611686018427387904) (hk : l.length < k) : waybillplain_SameInts.f k l l = some true := by
  unfold waybillplain_SameInts.f
  rw [if_pos rfl]
  have key : ∀ (d k : Nat) (i : Int), 0 ≤ i → (l.length : Int) - i = d → d < k → waybillplain_SameInts.l0 k l l i = some true := by
    intro d
    induction d with
    | zero =>
      intro k i h0 hd hk
      obtain ⟨k, rfl⟩ : ∃ m, k = m + 1 := ⟨k - 1, by omega⟩
      simp only [waybillplain_SameInts.l0]
      rw [if_neg (by omega)]
    | succ d ih =>
      intro k i h0 hd hk
      obtain ⟨k, rfl⟩ : ∃ m, k = m + 1 := ⟨k - 1, by omega⟩
      simp only [waybillplain_SameInts.l0]
      rw [if_pos (by omega), if_pos h0, if_pos (by omega), if_pos trivial, show wrap64 (i + 1) = i + 1 by unfold wrap64; omega]
      exact ih k (i + 1) (by omega) (by omega) (by omega)
  exact key l.length k 0 (by omega) (by omega) hk
theorem Alive {k : Nat} (hk : 5 ≤ k) : waybilllaw11_alive.f k = some true := by
  unfold waybilllaw11_alive.f
  have h1 : draw_Shuffle.f 5 1 = some (5, [0], 0) := by unfold draw_Shuffle.f; rw [if_neg (by decide), if_neg (by decide)]; rfl
  have h2 : draw_Below.f 5 [1, 1] = some ((drws 5 [1, 1]).1, (drws 5 [1, 1]).2, 0) := by unfold draw_Below.f; rw [if_pos (by simp), if_neg (by decide)]
  rw [h1, h2]; simp only [obind]
  have h3 : ((drws 5 [1, 1]).2.length : Int) = 2 := by rw [drws_length]; rfl
  rw [h3]
  generalize (drws 5 [1, 1]).1 = z
  unfold waybilllaw11_num.f
  simp only [obind]
  rw [if_pos w00, if_pos trivial, Same [0] (by simp) (by simp; omega)]; simp only [obind, if_true]
  rfl
theorem small (a : Int) : ∃ n, Int.tmod (wrap64 ((Int.tmod a 1001) + 1001)) 1001 = n ∧ 0 ≤ n ∧ n ≤ 1000 := by
  refine ⟨_, rfl, ?_⟩
  have h1 := Int.tmod_lt_of_pos a (show (0 : Int) < 1001 by decide)
  have h2 := Int.lt_tmod_of_pos a (show (0 : Int) < 1001 by decide)
  have e1 : wrap64 (a.tmod 1001 + 1001) = a.tmod 1001 + 1001 := by unfold wrap64; omega
  rw [e1, Int.tmod_eq_emod_of_nonneg (by omega)]
  omega
theorem Chance (s n : Int) (h0 : 0 ≤ n) (h1 : n ≤ 1000) : draw_Chance.f s n = some ((dT s 1000).1, decide ((dT s 1000).2 < n), 0) := by
  unfold draw_Chance.f
  rw [if_neg (by omega), if_neg (by omega)]
theorem DrawChance : waybilllaw11_DrawChance.Pure := by
  intro s a b hs ha hb
  refine ⟨5, ?_⟩
  unfold waybilllaw11_DrawChance.f
  obtain ⟨n, hn, n0, n1⟩ := small a
  obtain ⟨m, hm, m0, m1⟩ := small b
  rw [hn, hm, Alive (Nat.le_refl _)]; simp only [obind, if_true]
  rw [Chance s 0 (by omega) (by omega), Chance s 1000 (by omega) (by omega), Chance s n n0 n1, Chance s m m0 m1]
  have hd := dT_bd s 1000 (by omega) (by omega)
  generalize dT s 1000 = p at hd ⊢
  simp only [obind, waybilllaw11_num.f]
  rw [if_pos (show wrap64 (wrap64 (wrap64 (0 + 0) + 0) + 0) = 0 by decide +kernel)]
  rw [decide_eq_false (show ¬ p.2 < 0 by omega), decide_eq_true (show p.2 < 1000 by omega)]
  rw [if_neg (by decide), if_pos rfl]
  by_cases c : n > m
  · rw [if_pos c]
  · rw [if_neg c]
    by_cases c2 : p.2 < n
    · rw [decide_eq_true c2, if_pos rfl, decide_eq_true (show p.2 < m by omega)]
    · rw [decide_eq_false c2, if_neg (by decide)]

end Go.Proofs.Ythldeecchlgieaa.Pure
