/- The pure statement of DrawEach, proved. -/
import Derived.Test.YthldeecchlgieaaEDrawEachx2
namespace Go.Proofs.Ythldeecchlgieaa.Pure
open Go.RowKit Go.Proofs.Ythldeecchlgieaa.EDrawEach Go.Proofs.YthldeecchlgieaaW.PrintWords Go.Proofs.YthldeecchlgieaaW.PrintLast Go.Proofs.YthldeecchlgieaaW.PrintMore
set_option linter.unusedVariables false
set_option linter.unusedSimpArgs false

/-- As a step of its own: not by unfolding. -/
theorem obind {α β : Type} (a : α) (f : α → Option β) : (some a).bind f = f a := Eq.trans (Option.bind_some a f) (Eq.refl _)
theorem w00 : wrap64 (0 + 0) = 0 := by decide +kernel
theorem Same {k : Nat} (l : List Int) (hl : l.length ≤ 4611686018427387904) (hk : l.length < k) : waybillplain_SameInts.f k l l = some true := by
  unfold waybillplain_SameInts.f
  rw [if_pos rfl]
  have key : ∀ (d k : Nat) (i : Int), 0 ≤ i → (l.length : Int) - i = d → d < k → waybillplain_SameInts.l0 k l l i = some true := by
    intro d
    induction d with
    | zero =>
      intro k i h0 hd hk
      obtain ⟨k, rfl⟩ : ∃ m, k = m + 1 := ⟨k - 1, by omega⟩
      simp only [waybillplain_SameInts.l0]
      rw [if_neg (by omega)]
    | succ d ih =>
      intro k i h0 hd hk
      obtain ⟨k, rfl⟩ : ∃ m, k = m + 1 := ⟨k - 1, by omega⟩
      simp only [waybillplain_SameInts.l0]
      rw [if_pos (by omega), if_pos h0, if_pos (by omega), if_pos trivial, show wrap64 (i + 1) = i + 1 by unfold wrap64; omega]
      exact ih k (i + 1) (by omega) (by omega) (by omega)
  exact key l.length k 0 (by omega) (by omega) hk
theorem Alive {k : Nat} (hk : 5 ≤ k) : waybilllaw11_alive.f k = some true := by
  unfold waybilllaw11_alive.f
  have h1 : draw_Shuffle.f 5 1 = some (5, [0], 0) := by unfold draw_Shuffle.f; rw [if_neg (by decide), if_neg (by decide)]; rfl
  have h2 : draw_Below.f 5 [1, 1] = some ((drws 5 [1, 1]).1, (drws 5 [1, 1]).2, 0) := by unfold draw_Below.f; rw [if_pos (by simp), if_neg (by decide)]
  rw [h1, h2]; simp only [obind]
  have h3 : ((drws 5 [1, 1]).2.length : Int) = 2 := by rw [drws_length]; rfl
  rw [h3]
  generalize (drws 5 [1, 1]).1 = z
  unfold waybilllaw11_num.f
  simp only [obind]
  rw [if_pos w00, if_pos trivial, Same [0] (by simp) (by simp; omega)]; simp only [obind, if_true]
  rfl
theorem rd_get (xs : List Int) (i : Int) (h0 : 0 ≤ i) (h : i < xs.length) : rd xs i = xs[i.toNat]'(by omega) := by
  unfold rd
  rw [List.getD_eq_getElem?_getD, List.getElem?_eq_getElem (show i.toNat < xs.length by omega)]; rfl
theorem shufs_perm (m : Nat) : ∀ (s : Int) (xs : List Int), m ≤ xs.length → m ≤ 1024 → (shufs s xs m).2.Perm xs := by
  induction m using Nat.strongRecOn with
  | _ m ih =>
    intro s xs hl hm
    by_cases h : 1 < m
    · rw [shufs_succ s xs m h]
      have hd := dT_bd s m (by omega) (by omega)
      refine (ih (m - 1) (by omega) _ _ (by simp; omega) (by omega)).trans ?_
      rw [rd_get xs ((m : Int) - 1) (by omega) (by omega), rd_get xs (dT s m).2 hd.1 (by omega)]
      have e : ((m : Int) - 1).toNat = m - 1 := by omega
      simp only [e]
      exact List.set_set_perm _ _
    · have h01 : m = 0 ∨ m = 1 := by omega
      rcases h01 with rfl | rfl
      · exact List.Perm.refl _
      · exact List.Perm.refl _
theorem upto_nodup (n : Nat) : (uptoL n).Nodup := by
  unfold uptoL List.Nodup
  rw [List.pairwise_map]
  refine List.Pairwise.imp ?_ (List.nodup_range (n := n))
  intro a b h; omega
theorem upto_mem (n : Nat) (x : Int) : x ∈ uptoL n ↔ 0 ≤ x ∧ x < n := by
  unfold uptoL
  simp only [List.mem_map, List.mem_range]
  constructor
  · rintro ⟨a, ha, rfl⟩; omega
  · rintro ⟨h0, h1⟩; exact ⟨x.toNat, by omega, by omega⟩
theorem Each_l (n : Nat) (hn : n ≤ 1024) (l : List Int) (hl : l.length = n) (hr : ∀ x ∈ l, 0 ≤ x ∧ x < n) (hnd : l.Nodup) (d : Nat) : ∀ (k : Nat) (met : List Bool) (i : Int), 0 ≤ i → i ≤ n → (n : Int) - i = d → d < k → met.length = n →
    (∀ z, 0 ≤ z → rdOf false met z = true → z ∈ l.take i.toNat) → waybilllaw11_DrawEach.l0 k n l met i = some true := by
  induction d with
  | zero =>
    intro k met i h0 h1 hd hk hm hz
    obtain ⟨k, rfl⟩ : ∃ m, k = m + 1 := ⟨k - 1, by omega⟩
    simp only [waybilllaw11_DrawEach.l0]
    rw [if_neg (by omega), hl]
    simp
  | succ d ih =>
    intro k met i h0 h1 hd hk hm hz
    obtain ⟨k, rfl⟩ : ∃ m, k = m + 1 := ⟨k - 1, by omega⟩
    have hlt : i.toNat < l.length := by omega
    have hx : rd l i = l[i.toNat] := rd_get l i h0 (by omega)
    have hmem : l[i.toNat] ∈ l := List.getElem_mem _
    have hb := hr _ hmem
    simp only [waybilllaw11_DrawEach.l0]
    rw [hx, if_pos (by omega), if_pos h0, if_neg (by omega), if_neg (by omega), if_pos hb.1, if_pos (by omega)]
    have hnot : ¬ rdOf false met l[i.toNat] = true := by
      intro h
      have hin := hz _ hb.1 h
      obtain ⟨j, hj, he⟩ := List.getElem_of_mem hin
      have hj' : j < i.toNat := by rw [List.length_take] at hj; omega
      rw [List.getElem_take] at he
      have := (List.pairwise_iff_getElem.1 hnd) j i.toNat (by omega) hlt hj'
      exact this he
    rw [if_neg hnot, show wrap64 (i + 1) = i + 1 by unfold wrap64; omega]
    refine ih k _ (i + 1) (by omega) (by omega) (by omega) (by omega) (by simp [hm]) ?_
    intro z z0 hzt
    rw [show (i + 1).toNat = i.toNat + 1 by omega, List.take_succ_eq_append_getElem hlt]
    by_cases e : z = l[i.toNat]
    · rw [List.mem_append]; right; simp [e]
    · rw [List.mem_append]; left
      refine hz z z0 ?_
      rw [← hzt]
      unfold rdOf
      rw [List.getD_eq_getElem?_getD, List.getD_eq_getElem?_getD, List.getElem?_set]
      rw [if_neg (by omega)]
theorem DrawEach : waybilllaw11_DrawEach.Pure := by
  intro s n hs hn
  refine ⟨1100, ?_⟩
  unfold waybilllaw11_DrawEach.f
  rw [Alive (by omega)]; simp only [obind, if_true]
  unfold draw_Shuffle.f
  by_cases c1 : n < 0
  · rw [if_pos c1]; simp only [obind, waybilllaw11_num.f]
    rw [if_neg (by decide)]; rfl
  rw [if_neg c1]
  by_cases c2 : n > 1024
  · rw [if_pos c2]; simp only [obind, waybilllaw11_num.f]
    rw [if_neg (by decide)]; rfl
  rw [if_neg c2]; simp only [obind, waybilllaw11_num.f, if_true]
  obtain ⟨n, rfl⟩ := Int.eq_ofNat_of_zero_le (show 0 ≤ n by omega)
  rw [if_pos (by omega), if_pos (by omega)]
  simp only [Int.toNat_natCast]
  have hp := shufs_perm n s (uptoL n) (by rw [uptoL_length]; omega) (by omega)
  generalize (shufs s (uptoL n) n).2 = l at hp ⊢
  refine Each_l n (by omega) l (by rw [hp.length_eq, uptoL_length]) (fun x hx => (upto_mem n x).1 (hp.mem_iff.1 hx)) (hp.nodup_iff.2 (upto_nodup n)) n 1100 _ 0 (by omega) (by omega) (by omega) (by omega) (by simp) ?_
  intro z z0 hz
  unfold rdOf at hz
  rw [List.getD_eq_getElem?_getD, List.getElem?_replicate] at hz
  split at hz <;> simp at hz

end Go.Proofs.Ythldeecchlgieaa.Pure
