/- The pure statement of DrawTwo, proved. -/
import Derived.Test.YthldeecchlgieaaEDrawTwox2
namespace Go.Proofs.Ythldeecchlgieaa.Pure
open Go.RowKit Go.Proofs.Ythldeecchlgieaa.EDrawTwo Go.Proofs.YthldeecchlgieaaW.PrintWords Go.Proofs.YthldeecchlgieaaW.PrintLast Go.Proofs.YthldeecchlgieaaW.PrintMore
set_option linter.unusedVariables false
set_option linter.unusedSimpArgs false

/-- As a step of its own: not by unfolding. -/
theorem obind {α β : Type} (a : α) (f : α → Option β) : (some a).bind f = f a := Eq.trans (Option.bind_some a f) (Eq.refl _)
theorem w00 : wrap64 (0 + 0) = 0 := by decide +kernel
theorem Same {k : Nat} (l : List Int) (hl : l.length ≤ 4611686018427387904) (hk : l.length < k) : waybillplain_SameInts.f k l l = some true := by
  unfold waybillplain_SameInts.f
  rw [if_pos rfl]
  have key : ∀ (d k : Nat) (i : Int), 0 ≤ i → (l.length : Int) - i = d → d < k → waybillplain_SameInts.l0 k l l i = some true := by
    intro d
    induction d with
    | zero =>
      intro k i h0 hd hk
      obtain ⟨k, rfl⟩ : ∃ m, k = m + 1 := ⟨k - 1, by omega⟩
      simp only [waybillplain_SameInts.l0]
      rw [if_neg (by omega)]
    | succ d ih =>
      intro k i h0 hd hk
      obtain ⟨k, rfl⟩ : ∃ m, k = m + 1 := ⟨k - 1, by omega⟩
      simp only [waybillplain_SameInts.l0]
      rw [if_pos (by omega), if_pos h0, if_pos (by omega), if_pos trivial, show wrap64 (i + 1) = i + 1 by unfold wrap64; omega]
      exact ih k (i + 1) (by omega) (by omega) (by omega)
  exact key l.length k 0 (by omega) (by omega) hk
theorem Alive {k : Nat} (hk : 5 ≤ k) : waybilllaw11_alive.f k = some true := by
  unfold waybilllaw11_alive.f
  have h1 : draw_Shuffle.f 5 1 = some (5, [0], 0) := by unfold draw_Shuffle.f; rw [if_neg (by decide), if_neg (by decide)]; rfl
  have h2 : draw_Below.f 5 [1, 1] = some ((drws 5 [1, 1]).1, (drws 5 [1, 1]).2, 0) := by unfold draw_Below.f; rw [if_pos (by simp), if_neg (by decide)]
  rw [h1, h2]; simp only [obind]
  have h3 : ((drws 5 [1, 1]).2.length : Int) = 2 := by rw [drws_length]; rfl
  rw [h3]
  generalize (drws 5 [1, 1]).1 = z
  unfold waybilllaw11_num.f
  simp only [obind]
  rw [if_pos w00, if_pos trivial, Same [0] (by simp) (by simp; omega)]; simp only [obind, if_true]
  rfl
theorem DrawTwo : waybilllaw11_DrawTwo.Pure := by
  intro s n hs hn
  refine ⟨5, ?_⟩
  unfold waybilllaw11_DrawTwo.f
  rw [Alive (Nat.le_refl _)]; simp only [obind, if_true]
  unfold draw_Two.f
  by_cases c1 : n < 2
  · rw [if_pos c1]; simp only [obind, waybilllaw11_num.f]
    rw [if_neg (by decide), if_pos trivial, if_pos trivial, if_pos c1]
  rw [if_neg c1]
  by_cases c2 : n > 1048576
  · rw [if_pos c2]; simp only [obind, waybilllaw11_num.f]
    rw [if_neg (by decide), if_pos trivial, if_pos trivial, if_neg c1, decide_eq_true c2]
  rw [if_neg c2]
  have h1 := dT_bd s n (by omega) (by omega)
  have h2 := dT_bd (dT s n).1 (n - 1) (by omega) (by omega)
  generalize (dT (dT s n).1 (n - 1)) = q at h2 ⊢
  generalize dT s n = p at h1 ⊢
  simp only [obind, waybilllaw11_num.f, if_true]
  by_cases c : q.2 ≥ p.2
  · rw [if_pos c, show wrap64 (q.2 + 1) = q.2 + 1 by unfold wrap64; omega]
    rw [if_neg (by omega), if_pos (by omega), if_pos (by omega), if_pos (by omega), decide_eq_true (by omega)]
  · rw [if_neg c]
    rw [if_neg (by omega), if_pos (by omega), if_pos (by omega), if_pos (by omega), decide_eq_true (by omega)]

end Go.Proofs.Ythldeecchlgieaa.Pure
