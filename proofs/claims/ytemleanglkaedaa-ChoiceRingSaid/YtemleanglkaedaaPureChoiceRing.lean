/- The pure statement of ChoiceRing, proved. -/
import Derived.Test.YtemleanglkaedaaEChoiceRingx7
namespace Go.Proofs.Ytemleanglkaedaa.Pure
open Go.RowKit Go.Proofs.Ytemleanglkaedaa.EChoiceRing Go.Proofs.YtemleanglkaedaaW.PrintWords Go.Proofs.YtemleanglkaedaaW.PrintLast Go.Proofs.YtemleanglkaedaaW.PrintMore
set_option linter.unusedVariables false
theorem obind {α β : Type} (a : α) (f : α → Option β) : (some a).bind f = f a := Eq.trans (Option.bind_some a f) (Eq.refl _)
theorem alive_t : waybilllaw14_alive.f = some true := by decide +kernel
theorem up_pw : ∀ (l : List S30), upL l = true → l.Pairwise (fun a b => a.f0 < b.f0)
  | [], _ => List.Pairwise.nil
  | [a], _ => by simp
  | a :: b :: t, h => by
    have h' : decide (a.f0 < b.f0) = true ∧ upL (b :: t) = true := by simpa [upL] using h
    have ih := up_pw (b :: t) h'.2
    have hab := of_decide_eq_true h'.1
    refine List.Pairwise.cons ?_ ih
    intro x hx
    rcases List.mem_cons.1 hx with rfl | hx
    · exact hab
    · have := (List.pairwise_cons.1 ih).1 x hx
      omega
theorem min_spec : ∀ (t : List S30) (m : S30), (m :: t).Pairwise (fun a b => a.f0 < b.f0) → minS m t ∈ m :: t ∧ ∀ x ∈ m :: t, (minS m t).f1 < x.f1 ∨ (minS m t).f1 = x.f1 ∧ (minS m t).f0 ≤ x.f0
  | [], m, _ => ⟨by simp [minS], fun x hx => by simp at hx; subst hx; right; exact ⟨rfl, Int.le_refl _⟩⟩
  | x :: t, m, h => by
    obtain ⟨hm, ht⟩ := List.pairwise_cons.1 h
    obtain ⟨hx, ht2⟩ := List.pairwise_cons.1 ht
    have hmx := hm x List.mem_cons_self
    unfold minS
    by_cases hc : x.f1 < m.f1
    · rw [if_pos hc]
      obtain ⟨h1, h2⟩ := min_spec t x ht
      refine ⟨List.mem_cons_of_mem _ h1, ?_⟩
      intro y hy
      rcases List.mem_cons.1 hy with rfl | hy
      · have := h2 x List.mem_cons_self
        left; omega
      · exact h2 y hy
    · rw [if_neg hc]
      obtain ⟨h1, h2⟩ := min_spec t m (List.Pairwise.cons (fun y hy => hm y (List.mem_cons_of_mem _ hy)) ht2)
      refine ⟨?_, ?_⟩
      · rcases List.mem_cons.1 h1 with h | h
        · rw [h]; exact List.mem_cons_self
        · exact List.mem_cons_of_mem _ (List.mem_cons_of_mem _ h)
      · intro y hy
        rcases List.mem_cons.1 hy with rfl | hy
        · exact h2 _ List.mem_cons_self
        · rcases List.mem_cons.1 hy with rfl | hy
          · have := h2 m List.mem_cons_self
            omega
          · exact h2 y (List.mem_cons_of_mem _ hy)
theorem pw_uniq (l : List S30) (h : l.Pairwise (fun a b => a.f0 < b.f0)) (i j : Nat) (hi : i < l.length) (hj : j < l.length) (e : l[i].f0 = l[j].f0) : i = j := by
  have hp := List.pairwise_iff_getElem.1 h
  rcases Nat.lt_trichotomy i j with hlt | rfl | hlt
  · have := hp i j hi hj hlt; omega
  · rfl
  · have := hp j i hj hi hlt; omega
theorem ask_ok (l : List S30) (ha : askL l = 0) : 0 < l.length ∧ l.length ≤ 32 ∧ l.Pairwise (fun a b => a.f0 < b.f0) ∧ ∀ x ∈ l, 0 ≤ x.f0 ∧ x.f0 ≤ 2147483647 ∧ 0 ≤ x.f1 ∧ x.f1 ≤ 1048576 := by
  have hpos := ask_pos l ha
  have hc : checkL l = 0 := by
    unfold askL at ha
    split at ha
    · assumption
    · rename_i h; exact absurd ha h
  unfold checkL at hc
  have h32 : l.length ≤ 32 := by
    apply Classical.byContradiction
    intro h; rw [if_pos (by omega)] at hc; exact absurd hc (by decide)
  rw [if_neg (by omega)] at hc
  have hodd : ¬ l.any oddB = true := by intro h; rw [if_pos h] at hc; exact absurd hc (by decide)
  rw [if_neg hodd] at hc
  have hup : upL l = true := by
    apply Classical.byContradiction
    intro h; rw [if_neg h] at hc; exact absurd hc (by decide)
  refine ⟨hpos, h32, up_pw l hup, ?_⟩
  intro x hx
  have ho : oddB x = false := by
    have := List.any_eq_false.1 (Bool.eq_false_iff.mpr hodd) x hx
    exact Bool.eq_false_iff.mpr this
  unfold oddB at ho
  simp only [Bool.or_eq_false_iff, decide_eq_false_iff_not] at ho
  omega
def goodP (l : List S105) (j : Nat) : Prop := 0 ≤ (rd_T105 l (j : Int)).f1 ∧ (0 < j → ¬ ordI (rd_T105 l (j : Int)) (rd_T105 l ((j - 1 : Nat) : Int)) < 0)
theorem srtF_iff (l : List S105) : ∀ n : Nat, srtF l n = true ↔ ∀ j : Nat, 0 < j → j ≤ n → ¬ ordI (rd_T105 l (j : Int)) (rd_T105 l ((j - 1 : Nat) : Int)) < 0
  | 0 => ⟨fun _ j h0 h1 => by omega, fun _ => rfl⟩
  | n + 1 => by
    rw [srtF]
    constructor
    · intro h j h0 h1
      split at h
      · cases h
      · rename_i ho
        by_cases hj : j ≤ n
        · exact (srtF_iff l n).1 h j h0 hj
        · obtain rfl : j = n + 1 := by omega
          exact ho
    · intro h
      have h' := h (n + 1) (by omega) (Nat.le_refl _)
      rw [Nat.add_sub_cancel] at h'
      rw [if_neg h']
      exact (srtF_iff l n).2 fun j h0 h1 => h j h0 (by omega)
theorem any_neg_iff (l : List S105) : l.any negB = false ↔ ∀ j : Nat, j < l.length → 0 ≤ (rd_T105 l (j : Int)).f1 := by
  rw [List.any_eq_false]
  constructor
  · intro h j hj
    have := h l[j] (List.getElem_mem hj)
    rw [rd105 l j hj]
    simpa [negB] using this
  · intro h x hx
    obtain ⟨j, hj, rfl⟩ := List.getElem_of_mem hx
    have := h j hj
    rw [rd105 l j hj] at this
    simpa [negB] using this
theorem whole_iff (l : List S105) : wholeL l = 0 ↔ l.length ≤ 1024 ∧ ∀ j : Nat, j < l.length → goodP l j := by
  constructor
  · intro h
    obtain ⟨h1, h2, h3⟩ := whole0 h
    exact ⟨h1, fun j hj => ⟨(any_neg_iff l).1 h3 j hj, fun h0 => (srtF_iff l _).1 h2 j h0 (by omega)⟩⟩
  · rintro ⟨h1, h2⟩
    unfold wholeL
    rw [if_neg (by omega), if_pos ((srtF_iff l _).2 fun j h0 hj => (h2 j (by omega)).2 h0), if_neg (by rw [(any_neg_iff l).2 fun j hj => (h2 j hj).1]; decide)]
theorem behind_ord (a b : S105) : waybillref12_behind.f a.f0 a.f1 b.f0 b.f1 = some (decide (ordI b a < 0)) := by
  unfold waybillref12_behind.f ordI
  by_cases h1 : a.f0 > b.f0
  · rw [if_pos h1, if_pos (show b.f0 < a.f0 from h1)]; rfl
  · rw [if_neg h1, if_neg (show ¬ b.f0 < a.f0 from h1)]
    by_cases h2 : a.f0 = b.f0
    · rw [if_pos h2, if_neg (show ¬ b.f0 > a.f0 by omega)]
      by_cases h3 : a.f1 > b.f1
      · rw [if_pos (show b.f1 < a.f1 from h3)]; simp [h3]
      · rw [if_neg (show ¬ b.f1 < a.f1 from h3)]
        split <;> simp [h3]
    · rw [if_neg h2, if_pos (show b.f0 > a.f0 by omega)]; rfl
theorem refWhole0 (l : List S105) (hl : l.length ≤ 1024) : ∀ d k i : Nat, i + d = l.length → d < k → ∃ r, waybillref12_Whole.l0 k l (i : Int) = some r ∧ (r = 0 ↔ ∀ j : Nat, i ≤ j → j < l.length → goodP l j) := by
  intro d
  induction d with
  | zero =>
    intro k i h1 h2
    obtain ⟨k, rfl⟩ : ∃ q, k = q + 1 := ⟨k - 1, by omega⟩
    rw [waybillref12_Whole.l0, if_neg (by omega)]
    exact ⟨0, rfl, ⟨fun _ j h3 h4 => by omega, fun _ => rfl⟩⟩
  | succ d ih =>
    intro k i h1 h2
    obtain ⟨k, rfl⟩ : ∃ q, k = q + 1 := ⟨k - 1, by omega⟩
    rw [waybillref12_Whole.l0, if_pos (by omega), if_pos (by omega)]
    have hnext : wrap64 ((i : Int) + 1) = ((i + 1 : Nat) : Int) := by unfold wrap64; omega
    obtain ⟨r, hr, hiff⟩ := ih k (i + 1) (by omega) (by omega)
    by_cases hneg : (rd_T105 l (i : Int)).f1 < 0
    · rw [if_pos hneg]
      exact ⟨9, rfl, ⟨fun h => absurd h (by decide), fun h => by have := (h i (Nat.le_refl _) (by omega)).1; omega⟩⟩
    · rw [if_neg hneg, hnext]
      by_cases h0 : (i : Int) > 0
      · have hprev : wrap64 ((i : Int) - 1) = ((i - 1 : Nat) : Int) := by unfold wrap64; omega
        rw [if_pos h0, hprev, if_pos (by omega), if_pos (by omega), behind_ord, obind]
        by_cases ho : ordI (rd_T105 l (i : Int)) (rd_T105 l ((i - 1 : Nat) : Int)) < 0
        · rw [if_pos (by simp [ho])]
          exact ⟨9, rfl, ⟨fun h => absurd h (by decide), fun h => absurd ho ((h i (Nat.le_refl _) (by omega)).2 (by omega))⟩⟩
        · rw [if_neg (by simp [ho])]
          refine ⟨r, hr, hiff.trans ⟨fun h j h3 h4 => ?_, fun h j h3 h4 => h j (by omega) h4⟩⟩
          by_cases hj : j = i
          · subst hj; exact ⟨by omega, fun _ => ho⟩
          · exact h j (by omega) h4
      · rw [if_neg h0]
        refine ⟨r, hr, hiff.trans ⟨fun h j h3 h4 => ?_, fun h j h3 h4 => h j (by omega) h4⟩⟩
        by_cases hj : j = i
        · subst hj; exact ⟨by omega, fun h => by omega⟩
        · exact h j (by omega) h4
theorem refWhole (l : List S105) (k : Nat) (hk : 1024 < k) : ∃ r, waybillref12_Whole.f k l = some r ∧ (r = 0 ↔ wholeL l = 0) := by
  unfold waybillref12_Whole.f
  by_cases hl : (l.length : Int) > 1024
  · rw [if_pos hl]
    exact ⟨3, rfl, ⟨fun h => absurd h (by decide), fun h => by have := ((whole_iff l).1 h).1; omega⟩⟩
  · rw [if_neg hl]
    obtain ⟨r, hr, hiff⟩ := refWhole0 l (by omega) l.length k 0 (by omega) (by omega)
    refine ⟨r, hr, hiff.trans ⟨fun h => (whole_iff l).2 ⟨by omega, fun j hj => h j (Nat.zero_le _) hj⟩, fun h j _ hj => ((whole_iff l).1 h).2 j hj⟩⟩
theorem tw_spec {α : Type} (p : α → Bool) : ∀ l : List α, (l.takeWhile p).length ≤ l.length ∧ (∀ i (hl : i < l.length), i < (l.takeWhile p).length → p l[i] = true) ∧ (∀ hlt : (l.takeWhile p).length < l.length, p (l[(l.takeWhile p).length]'hlt) = false)
  | [] => ⟨by simp, fun i hl => by simp at hl, fun hlt => by simp at hlt⟩
  | x :: t => by
    obtain ⟨h1, h2, h3⟩ := tw_spec p t
    by_cases hx : p x = true
    · have e : (x :: t).takeWhile p = x :: t.takeWhile p := by rw [List.takeWhile_cons, if_pos hx]
      refine ⟨by rw [e]; simpa using h1, fun i hl hi => ?_, fun hlt => ?_⟩
      · rw [e] at hi
        cases i with
        | zero => exact hx
        | succ i => exact h2 i (by simpa using hl) (by simpa using hi)
      · have := h3 (by rw [e] at hlt; simpa using hlt)
        simpa [e] using this
    · have e : (x :: t).takeWhile p = [] := by rw [List.takeWhile_cons, if_neg hx]
      refine ⟨by rw [e]; simp, fun i hl hi => by rw [e] at hi; simp at hi, fun hlt => by simpa [e] using hx⟩
theorem from_le (l : List S105) (h : Int) : fromN l h ≤ l.length := (tw_spec _ l).1
theorem from_lt (l : List S105) (h : Int) : ∀ i : Nat, i < fromN l h → i < l.length ∧ (rd_T105 l (i : Int)).f0 < h := by
  intro i hi
  have hle := from_le l h
  refine ⟨by omega, ?_⟩
  rw [rd105 l i (by omega)]
  simpa using (tw_spec (fun x : S105 => decide (x.f0 < h)) l).2.1 i (by omega) hi
theorem from_at (l : List S105) (h : Int) (hlt : fromN l h < l.length) : ¬ (rd_T105 l ((fromN l h : Nat) : Int)).f0 < h := by
  rw [rd105 l _ hlt]
  have := (tw_spec (fun x : S105 => decide (x.f0 < h)) l).2.2 hlt
  exact of_decide_eq_false this
theorem walk_l0 (l : List S105) (h : Int) (hl : l.length ≤ 1024) (k : Nat) : ∀ d i : Nat, i + d = fromN l h → waybillref12_Walk.l0 (d + 1 + k) l h (i : Int) = waybillref12_Walk.j1 k l ((fromN l h : Nat) : Int) := by
  intro d
  have hle : fromN l h ≤ l.length := from_le l h
  induction d with
  | zero =>
    intro i hi
    rw [show 0 + 1 + k = k + 1 by omega, waybillref12_Walk.l0, show i = fromN l h by omega]
    by_cases hlt : fromN l h < l.length
    · rw [if_pos (by omega), if_pos (by omega), if_neg (from_at l h hlt)]
    · rw [if_neg (by omega)]
  | succ d ih =>
    intro i hi
    obtain ⟨h1, h2⟩ := from_lt l h i (by omega)
    rw [show d + 1 + 1 + k = (d + 1 + k) + 1 by omega, waybillref12_Walk.l0, if_pos (by omega), if_pos (by omega), if_pos h2, show wrap64 ((i : Int) + 1) = ((i + 1 : Nat) : Int) by unfold wrap64; omega]
    exact ih (i + 1) (by omega)
theorem walk_l2 (l : List S105) (s i : Int) (out : List Int) (id : Int) (ho : out.length ≤ 1024) (k : Nat) : ∀ (d q : Nat) (met : Bool), q + d = out.length →
    waybillref12_Walk.l2 (d + 1 + k) l s out i id met (q : Int) = if (met || (out.drop q).contains id) = true then waybillref12_Walk.l1 k l s out (wrap64 (i + 1)) else waybillref12_Walk.l1 k l s (out ++ [id]) (wrap64 (i + 1)) := by
  intro d
  induction d with
  | zero =>
    intro q met hq
    rw [show 0 + 1 + k = k + 1 by omega, waybillref12_Walk.l2, if_neg (by omega), List.drop_eq_nil_of_le (by omega)]
    cases met
    · rw [if_neg (by decide), if_pos (by omega), if_neg (by simp)]
    · rw [if_pos rfl, if_pos (by simp)]
  | succ d ih =>
    intro q met hq
    have hlt : q < out.length := by omega
    have hn : wrap64 ((q : Int) + 1) = ((q + 1 : Nat) : Int) := by unfold wrap64; omega
    rw [show d + 1 + 1 + k = (d + 1 + k) + 1 by omega, waybillref12_Walk.l2, if_pos (by omega), hn, List.drop_eq_getElem_cons hlt]
    cases met
    · rw [if_neg (by decide), if_pos (by omega), ih (q + 1) _ (by omega)]
      have e : (rd out (q : Int) == id) = (id == out[q]) := by
        rw [show rd out (q : Int) = out[q] by unfold rd; rw [Int.toNat_natCast, List.getD_eq_getElem?_getD, List.getElem?_eq_getElem hlt]; rfl]
        exact Bool.beq_comm ..
      rw [e, List.contains_cons, Bool.false_or]
    · rw [if_pos rfl, ih (q + 1) true (by omega)]
      rw [Bool.true_or, Bool.true_or]
def ddF (out : List Int) (xs : List Int) : List Int := xs.foldl (fun out x => if out.contains x then out else out ++ [x]) out
set_option maxRecDepth 100000 in
theorem walk_l1 (l : List S105) (h : Int) (hl : l.length ≤ 1024) : ∀ (d i k : Nat) (out : List Int), i + d = l.length → out.length ≤ i → d * 1030 + 1 ≤ k →
    waybillref12_Walk.l1 k l ((fromN l h : Nat) : Int) out (i : Int) = some (ddF out ((List.range' i d).map (fun i => (rd_T105 l (((fromN l h + i) % l.length : Nat) : Int)).f1)), 0) := by
  intro d
  have hle : fromN l h ≤ l.length := from_le l h
  induction d with
  | zero =>
    intro i k out h1 h2 h3
    obtain ⟨k, rfl⟩ : ∃ q, k = q + 1 := ⟨k - 1, by omega⟩
    rw [waybillref12_Walk.l1, if_neg (by omega)]
    rfl
  | succ d ih =>
    intro i k out h1 h2 h3
    obtain ⟨k, rfl⟩ : ∃ q, k = ((out.length + 1) + q) + 1 := ⟨k - 1 - (out.length + 1), by omega⟩
    have hw : wrap64 (((fromN l h : Nat) : Int) + (i : Int)) = (((fromN l h + i) : Nat) : Int) := by unfold wrap64; omega
    have hpos : 0 < l.length := by omega
    obtain ⟨m, hm⟩ : ∃ m : Nat, m = (fromN l h + i) % l.length := ⟨_, rfl⟩
    have hmod : Int.tmod (((fromN l h + i) : Nat) : Int) (l.length : Int) = (m : Int) := by
      rw [Int.tmod_eq_emod_of_nonneg (by omega), hm]; rfl
    have hml : m < l.length := by rw [hm]; exact Nat.mod_lt _ hpos
    rw [waybillref12_Walk.l1, if_pos (by omega), if_neg (by omega), hw, hmod, if_pos (by omega), if_pos (by omega)]
    rw [show ((0 : Int)) = ((0 : Nat) : Int) from rfl, walk_l2 l _ _ out _ (by omega) k out.length 0 false (by omega), Bool.false_or, List.drop_zero, show wrap64 ((i : Int) + 1) = ((i + 1 : Nat) : Int) by unfold wrap64; omega]
    rw [List.range'_succ, List.map_cons]
    show _ = some (ddF (if out.contains (rd_T105 l (((fromN l h + i) % l.length : Nat) : Int)).f1 then out else out ++ [(rd_T105 l (((fromN l h + i) % l.length : Nat) : Int)).f1]) _, _)
    rw [← hm]
    by_cases hc : out.contains (rd_T105 l (m : Int)).f1 = true
    · rw [if_pos hc, if_pos hc]
      exact ih (i + 1) k out (by omega) (by omega) (by omega)
    · rw [if_neg hc, if_neg hc]
      exact ih (i + 1) k _ (by omega) (by rw [List.length_append, List.length_singleton]; omega) (by omega)
theorem refWalk (l : List S105) (h : Int) (k : Nat) (hk : 1100000 ≤ k) : ∃ r, waybillref12_Walk.f k l h = some (if wholeL l = 0 then walkL l h else [], r) := by
  obtain ⟨r, hr, hiff⟩ := refWhole l k (by omega)
  unfold waybillref12_Walk.f
  rw [hr, obind]
  by_cases h0 : wholeL l = 0
  · obtain ⟨hl, _⟩ := whole0 h0
    have hle : fromN l h ≤ l.length := from_le l h
    rw [if_pos (hiff.2 h0), if_pos h0]
    by_cases hz : (l.length : Int) = 0
    · rw [if_pos hz]
      exact ⟨71, by rw [show walkL l h = [] by unfold walkL; rw [show l.length = 0 by omega]; rfl]⟩
    · rw [if_neg hz]
      obtain ⟨q, rfl⟩ : ∃ q, k = fromN l h + 1 + (q + 1) := ⟨k - (fromN l h + 1) - 1, by omega⟩
      have h1 := walk_l0 l h hl (q + 1) (fromN l h) 0 (by omega)
      rw [show (0 : Int) = ((0 : Nat) : Int) from rfl, h1, waybillref12_Walk.j1, show (0 : Int) = ((0 : Nat) : Int) from rfl, walk_l1 l h hl l.length 0 q [] (by omega) (by simp) (by omega)]
      exact ⟨0, by unfold walkL ddI ddF; rw [List.range_eq_range']⟩
  · rw [if_neg (fun h => h0 (hiff.1 h)), if_neg h0]
    exact ⟨r, rfl⟩
theorem times_ex (x0 x1 : Int) : ∀ (d k i : Nat) (x5 : Int), i + d = 64 → d < k → ∃ t, waybillref10_times.l0 k x0 x1 x5 (i : Int) = some t := by
  intro d
  induction d with
  | zero =>
    intro k i x5 h1 h2
    obtain ⟨k, rfl⟩ : ∃ q, k = q + 1 := ⟨k - 1, by omega⟩
    exact ⟨x5, by rw [waybillref10_times.l0, if_neg (by omega)]⟩
  | succ d ih =>
    intro k i x5 h1 h2
    obtain ⟨k, rfl⟩ : ∃ q, k = q + 1 := ⟨k - 1, by omega⟩
    rw [waybillref10_times.l0, if_pos (by omega), if_pos (by omega), show wrap64 ((i : Int) + 1) = ((i + 1 : Nat) : Int) by unfold wrap64; omega]
    split
    · exact ih k (i + 1) _ (by omega) (by omega)
    · exact ih k (i + 1) _ (by omega) (by omega)
theorem rMix_ex (k : Nat) (hk : 64 < k) (a : Int) : ∃ t, waybillref10_Mix.f k a = some t := by
  unfold waybillref10_Mix.f waybillref10_times.f
  obtain ⟨t, ht⟩ := times_ex (Go.bits .xor .u64 a (a / 8589934592)) 18397679294719823053 64 k 0 0 (by omega) hk
  obtain ⟨u, hu⟩ := times_ex (Go.bits .xor .u64 t (t / 8589934592)) 14181476777654086739 64 k 0 0 (by omega) hk
  have ht' : waybillref10_times.l0 k (Go.bits .xor .u64 a (a / 8589934592)) 18397679294719823053 0 0 = some t := ht
  have hu' : waybillref10_times.l0 k (Go.bits .xor .u64 t (t / 8589934592)) 14181476777654086739 0 0 = some u := hu
  rw [ht', obind, hu', obind]
  exact ⟨_, rfl⟩
theorem rInts_ex (k : Nat) (hk : 70 < k) (a b c : Int) : ∃ t, waybillref10_Ints.f k a [b, c] = some t := by
  unfold waybillref10_Ints.f
  obtain ⟨k, rfl⟩ : ∃ q, k = q + 1 + 1 + 1 := ⟨k - 3, by omega⟩
  rw [waybillref10_Ints.l0, if_pos (by simp), if_pos (by decide)]
  obtain ⟨t, ht⟩ := rMix_ex (k + 1 + 1) (by omega) (IntKind.u64.wrap (a + IntKind.u64.wrap (rd [b, c] 0)))
  rw [ht, obind, w01, waybillref10_Ints.l0, if_pos (by simp), if_pos (by decide)]
  obtain ⟨u, hu⟩ := rMix_ex (k + 1) (by omega) (IntKind.u64.wrap (t + IntKind.u64.wrap (rd [b, c] 1)))
  rw [hu, obind, w12, waybillref10_Ints.l0, if_neg (by simp)]
  exact ⟨_, rfl⟩
/-- Every point's holder is in range. -/
def PR (l : List S105) : Prop := ∀ x ∈ l, 0 ≤ x.f1 ∧ x.f1 ≤ 2147483647
theorem PR.rd {l : List S105} (h : PR l) (i : Int) : 0 ≤ (rd_T105 l i).f1 ∧ (rd_T105 l i).f1 ≤ 2147483647 := by
  unfold rd_T105
  rw [List.getD_eq_getElem?_getD]
  by_cases hi : i.toNat < l.length
  · rw [List.getElem?_eq_getElem hi]; exact h _ (List.getElem_mem _)
  · rw [List.getElem?_eq_none (by omega)]; exact ⟨by decide, by decide⟩
theorem PR.set {l : List S105} (h : PR l) (i : Nat) (x : S105) (hx : 0 ≤ x.f1 ∧ x.f1 ≤ 2147483647) : PR (l.set i x) := by
  intro y hy
  rcases List.mem_or_eq_of_mem_set hy with h1 | rfl
  · exact h y h1
  · exact hx
theorem build_l4 (x0 x10 x11 : Int) (b : List S102) (p q : Int) (hq : 0 ≤ q ∧ q ≤ 2147483647) (k : Nat) (a : Nat) : ∀ (d : Nat) (y : List S105), PR y → a + d < y.length → y.length ≤ 100000 →
    ∃ z, PR z ∧ z.length = y.length ∧ waybillref12_Build.l4 (d + 1 + k) x0 b y x10 x11 (a : Int) ((a + d : Nat) : Int) p q = waybillref12_Build.l2 k x0 b z x10 (wrap64 (x11 + 1)) := by
  intro d
  induction d with
  | zero =>
    intro y hy h1 h2
    rw [show 0 + 1 + k = k + 1 by omega, waybillref12_Build.l4, if_neg (by omega), if_pos (by omega), if_pos (by omega)]
    exact ⟨_, hy.set _ _ hq, by simp, rfl⟩
  | succ d ih =>
    intro y hy h1 h2
    have hw : wrap64 (((a + (d + 1) : Nat) : Int) - 1) = ((a + d : Nat) : Int) := by unfold wrap64; omega
    rw [show d + 1 + 1 + k = (d + 1 + k) + 1 by omega, waybillref12_Build.l4, if_pos (by omega), hw, if_pos (by omega), if_pos (by omega), if_pos (by omega), if_pos (by omega)]
    obtain ⟨z, hz, hl, he⟩ := ih (y.set (a + (d + 1)) ⟨(rd_T105 y ((a + d : Nat) : Int)).f0, (rd_T105 y ((a + d : Nat) : Int)).f1⟩) (hy.set _ _ (hy.rd _)) (by rw [List.length_set]; omega) (by rw [List.length_set]; omega)
    exact ⟨z, hz, by rw [hl, List.length_set], he⟩
theorem build_j4 (x0 x10 x11 : Int) (b : List S102) (p q : Int) (hq : 0 ≤ q ∧ q ≤ 2147483647) (k : Nat) (a d : Nat) (y : List S105) (hy : PR y) (h1 : a + d = y.length) (h2 : y.length ≤ 90000) :
    ∃ z, PR z ∧ z.length = y.length + 1 ∧ waybillref12_Build.j4 (d + 1 + k + 1) x0 b y x10 x11 (a : Int) p q = waybillref12_Build.l2 k x0 b z x10 (wrap64 (x11 + 1)) := by
  rw [waybillref12_Build.j4, if_pos (by omega), obind]
  have hl : (y ++ [(⟨p, q⟩ : S105)]).length = y.length + 1 := by simp
  have hw : wrap64 (((y ++ [(⟨p, q⟩ : S105)]).length : Int) - 1) = ((a + d : Nat) : Int) := by rw [hl]; unfold wrap64; omega
  have hP : PR (y ++ [(⟨p, q⟩ : S105)]) := by
    intro x hx
    rcases List.mem_append.1 hx with h | h
    · exact hy x h
    · rw [List.mem_singleton.1 h]; exact hq
  rw [hw]
  obtain ⟨z, hz, hzl, he⟩ := build_l4 x0 x10 x11 b p q hq k a d _ hP (by rw [hl]; omega) (by rw [hl]; omega)
  exact ⟨z, hz, by rw [hzl, hl], he⟩
theorem build_l3 (x0 x10 x11 : Int) (b : List S102) (p q : Int) (hq : 0 ≤ q ∧ q ≤ 2147483647) (y : List S105) (hy : PR y) (h2 : y.length ≤ 90000) : ∀ (a K : Nat), a ≤ y.length → y.length + a + 10 ≤ K →
    ∃ z k, PR z ∧ z.length = y.length + 1 ∧ K ≤ k + (y.length + 4) + a ∧ waybillref12_Build.l3 K x0 b y x10 x11 (a : Int) p q = waybillref12_Build.l2 k x0 b z x10 (wrap64 (x11 + 1)) := by
  intro a
  induction a with
  | zero =>
    intro K ha hK
    obtain ⟨k, rfl⟩ : ∃ k, K = (y.length + 1 + k + 1) + 1 := ⟨K - (y.length + 3), by omega⟩
    rw [waybillref12_Build.l3, if_neg (by omega)]
    obtain ⟨z, hz, hl, he⟩ := build_j4 x0 x10 x11 b p q hq k 0 y.length y hy (by omega) h2
    exact ⟨z, k, hz, hl, by omega, he⟩
  | succ a ih =>
    intro K ha hK
    obtain ⟨K, rfl⟩ : ∃ k, K = k + 1 := ⟨K - 1, by omega⟩
    have hw : wrap64 (((a + 1 : Nat) : Int) - 1) = (a : Int) := by unfold wrap64; omega
    rw [waybillref12_Build.l3, if_pos (by omega), hw, if_pos (by omega), if_pos (by omega), behind_ord (rd_T105 y (a : Int)) ⟨p, q⟩, obind]
    split
    · obtain ⟨z, k, hz, hl, hk, he⟩ := ih K (by omega) (by omega)
      exact ⟨z, k, hz, hl, by omega, he⟩
    · obtain ⟨k, rfl⟩ : ∃ k, K = (y.length - (a + 1)) + 1 + k + 1 := ⟨K - (y.length - (a + 1) + 2), by omega⟩
      obtain ⟨z, hz, hl, he⟩ := build_j4 x0 x10 x11 b p q hq k (a + 1) (y.length - (a + 1)) y hy (by omega) h2
      exact ⟨z, k, hz, hl, by omega, he⟩
/-- A backend that Check lets by. -/
def okB (b : List S102) : Prop := b.length ≤ 32 ∧ ∀ j : Nat, j < b.length → (0 ≤ (rd_T102 b (j : Int)).f0 ∧ (rd_T102 b (j : Int)).f0 ≤ 2147483647) ∧ 1 ≤ (rd_T102 b (j : Int)).f1 ∧ (rd_T102 b (j : Int)).f1 ≤ 16
set_option maxRecDepth 100000 in
theorem build_l2 (C : Nat) (hC : 90000 ≤ C) (x0 : Int) (hx0 : 1 ≤ x0 ∧ x0 ≤ 64) (b : List S102) (hb : okB b) (j : Nat) (hj : j < b.length) : ∀ (d : Nat) (i K : Nat) (y : List S105), PR y → ((i + d : Nat) : Int) = x0 * (rd_T102 b (j : Int)).f1 → y.length + d ≤ 40000 → d * C + 1 ≤ K →
    ∃ z k, PR z ∧ z.length = y.length + d ∧ K ≤ k + d * C + 1 ∧ waybillref12_Build.l2 K x0 b y (j : Int) (i : Int) = waybillref12_Build.l1 k x0 b z ((j + 1 : Nat) : Int) := by
  obtain ⟨⟨hf0, hf1⟩, hf2, hf3⟩ := hb.2 j hj
  have hlen := hb.1
  obtain ⟨cnt, hcnt⟩ : ∃ c, c = x0 * (rd_T102 b (j : Int)).f1 := ⟨_, rfl⟩
  have hcb : 0 ≤ cnt ∧ cnt ≤ 1024 := by
    rw [hcnt]
    refine ⟨Int.mul_nonneg (by omega) (by omega), ?_⟩
    exact Int.le_trans (Int.mul_le_mul hx0.2 hf3 (by omega) (by omega)) (by decide)
  have hwc : wrap64 (x0 * (rd_T102 b (j : Int)).f1) = cnt := by rw [← hcnt]; unfold wrap64; omega
  rw [← hcnt]
  clear hcnt
  intro d
  induction d with
  | zero =>
    intro i K y hy h1 h2 h3
    obtain ⟨K, rfl⟩ : ∃ k, K = k + 1 := ⟨K - 1, by omega⟩
    rw [waybillref12_Build.l2, if_pos (by omega), if_pos (by omega), hwc, if_neg (by omega), show wrap64 ((j : Int) + 1) = ((j + 1 : Nat) : Int) by unfold wrap64; omega]
    exact ⟨y, K, hy, by omega, by rw [Nat.zero_mul]; omega, rfl⟩
  | succ d ih =>
    intro i K y hy h1 h2 h3
    rw [Nat.succ_mul] at h3
    obtain ⟨K, rfl⟩ : ∃ k, K = k + 1 := ⟨K - 1, by omega⟩
    have h3' : d * C + C ≤ K := by omega
    have hKC : 90000 ≤ K := by omega
    clear h3
    rw [waybillref12_Build.l2, if_pos (by omega), if_pos (by omega), hwc, if_pos (by omega)]
    obtain ⟨t, ht⟩ := rInts_ex K (by omega) 1 (rd_T102 b (j : Int)).f0 (i : Int)
    rw [ht, obind]
    obtain ⟨z, k, hz, hl, hk, he⟩ := build_l3 x0 (j : Int) (i : Int) b t _ ⟨hf0, hf1⟩ y hy (by omega) y.length K (Nat.le_refl _) (by omega)
    rw [he, show wrap64 ((i : Int) + 1) = ((i + 1 : Nat) : Int) by unfold wrap64; omega]
    obtain ⟨z2, k2, hz2, hl2, hk2, he2⟩ := ih (i + 1) k z hz (by omega) (by omega) (by omega)
    exact ⟨z2, k2, hz2, by omega, by rw [Nat.succ_mul]; omega, he2⟩
set_option maxRecDepth 100000 in
theorem build_l1 (C : Nat) (hC : 90000 ≤ C) (D : Nat) (hD : 1024 * C + 2 ≤ D) (x0 : Int) (hx0 : 1 ≤ x0 ∧ x0 ≤ 64) (b : List S102) (hb : okB b) : ∀ (d : Nat) (j K : Nat) (y : List S105), PR y → j + d = b.length → y.length ≤ 1024 * j → d * D + 1 ≤ K →
    ∃ z, PR z ∧ waybillref12_Build.l1 K x0 b y (j : Int) = some (z, 0) := by
  have hlen := hb.1
  intro d
  induction d with
  | zero =>
    intro j K y hy h1 h2 h3
    obtain ⟨K, rfl⟩ : ∃ k, K = k + 1 := ⟨K - 1, by omega⟩
    rw [waybillref12_Build.l1, if_neg (by omega)]
    exact ⟨y, hy, rfl⟩
  | succ d ih =>
    intro j K y hy h1 h2 h3
    rw [Nat.succ_mul] at h3
    obtain ⟨K, rfl⟩ : ∃ k, K = k + 1 := ⟨K - 1, by omega⟩
    have h3' : d * D + D ≤ K := by omega
    clear h3
    obtain ⟨⟨hf0, hf1⟩, hf2, hf3⟩ := hb.2 j (by omega)
    rw [waybillref12_Build.l1, if_pos (by omega)]
    obtain ⟨n, hn⟩ : ∃ n : Nat, (n : Int) = x0 * (rd_T102 b (j : Int)).f1 := ⟨(x0 * (rd_T102 b (j : Int)).f1).toNat, by have := Int.mul_nonneg (show (0 : Int) ≤ x0 by omega) (show (0 : Int) ≤ (rd_T102 b (j : Int)).f1 by omega); omega⟩
    have hn2 : n ≤ 1024 := by
      have := Int.le_trans (Int.mul_le_mul hx0.2 hf3 (by omega) (by omega)) (show (64 : Int) * 16 ≤ 1024 by decide)
      omega
    have hnC : n * C ≤ 1024 * C := Nat.mul_le_mul_right C hn2
    obtain ⟨z, k, hz, hl, hk, he⟩ := build_l2 C hC x0 hx0 b hb j (by omega) n 0 K y hy (by rw [Nat.zero_add]; exact hn) (by omega) (by omega)
    have he' : waybillref12_Build.l2 K x0 b y (j : Int) 0 = waybillref12_Build.l1 k x0 b z ((j + 1 : Nat) : Int) := he
    rw [he']
    exact ih (j + 1) k z hz (by omega) (by omega) (by omega)
theorem chk_ok (l : List S30) (h : checkL l = 0) : l.length ≤ 32 ∧ ∀ x ∈ l, 0 ≤ x.f1 := by
  unfold checkL at h
  split at h
  · cases h
  · rename_i h1
    split at h
    · cases h
    · rename_i h2
      refine ⟨by omega, fun x hx => ?_⟩
      have h3 : l.any oddB = false := by simpa using h2
      have := List.any_eq_false.1 h3 x hx
      unfold oddB at this
      simp at this
      omega
theorem busy_any (m : List S30) (hf : ∀ x ∈ m, 0 ≤ x.f1) (hl : m.length ≤ 32) (id : Int) : ∀ (d k i : Nat), i + d = m.length → d < k → ∃ v, waybilllaw14_busy.l0 k m id (i : Int) = some v ∧ (v ≥ 0 ↔ (m.drop i).any (hasB id) = true) := by
  intro d
  induction d with
  | zero =>
    intro k i h1 h2
    obtain ⟨k, rfl⟩ : ∃ n, k = n + 1 := ⟨k - 1, by omega⟩
    rw [waybilllaw14_busy.l0, if_neg (by omega), List.drop_eq_nil_of_le (by omega)]
    exact ⟨-1, rfl, by simp⟩
  | succ d ih =>
    intro k i h1 h2
    obtain ⟨k, rfl⟩ : ∃ n, k = n + 1 := ⟨k - 1, by omega⟩
    have hi : i < m.length := by omega
    rw [waybilllaw14_busy.l0, if_pos (by omega), if_pos (by omega), rd30 m i hi, List.drop_eq_getElem_cons hi, List.any_cons]
    by_cases he : m[i].f0 = id
    · rw [if_pos he]
      exact ⟨_, rfl, by simp [hasB, he, hf m[i] (List.getElem_mem hi)]⟩
    · rw [if_neg he, show wrap64 ((i : Int) + 1) = ((i + 1 : Nat) : Int) by unfold wrap64; omega]
      obtain ⟨v, hv, hiff⟩ := ih k (i + 1) (by omega) (by omega)
      exact ⟨v, hv, hiff.trans (by simp [hasB, he])⟩
theorem loop_end (k : Nat) (m : List S30) (f : Int) (hf : f ≠ 0) (xs : List Int) (hx : xs.length ≤ 1024) (hn : checkL m ≠ 0 ∨ (m.length ≤ 32 ∧ (∀ x ∈ m, 0 ≤ x.f1) ∧ ∀ x ∈ xs, loadB m x = false)) : ∀ (d i k : Nat), i + d = xs.length → d + 40 < k → waybilllaw14_ChoiceRing.l0 k m 0 f xs (i : Int) = some true := by
  intro d
  induction d with
  | zero =>
    intro i k h1 h2
    obtain ⟨k, rfl⟩ : ∃ n, k = n + 1 := ⟨k - 1, by omega⟩
    rw [waybilllaw14_ChoiceRing.l0, if_neg (by omega), waybilllaw14_num.f, obind, if_neg hf]
    rfl
  | succ d ih =>
    intro i k h1 h2
    obtain ⟨k, rfl⟩ : ∃ n, k = n + 1 := ⟨k - 1, by omega⟩
    have hi : i < xs.length := by omega
    have hnext : wrap64 ((i : Int) + 1) = ((i + 1 : Nat) : Int) := by unfold wrap64; omega
    rw [waybilllaw14_ChoiceRing.l0, if_pos (by omega), choice_Check.f, obind, waybilllaw14_num.f, obind, hnext]
    by_cases hc : checkL m = 0
    · obtain ⟨hm, hf1, hno⟩ := hn.resolve_left (fun h => h hc)
      rw [if_pos hc, if_pos (by omega)]
      obtain ⟨v, hv, hiff⟩ := busy_any m hf1 hm (rd xs (i : Int)) m.length k 0 (by omega) (by omega)
      have hv' : waybilllaw14_busy.f k m (rd xs (i : Int)) = some v := hv
      have hrd : rd xs (i : Int) = xs[i] := by unfold rd; rw [Int.toNat_natCast, List.getD_eq_getElem?_getD, List.getElem?_eq_getElem hi]; rfl
      have hl := hno xs[i] (List.getElem_mem hi)
      rw [← hrd] at hl
      have hvn : ¬ v ≥ 0 := fun h => by
        have := hiff.1 h
        rw [List.drop_zero] at this
        unfold loadB at hl
        rw [this] at hl
        cases hl
      rw [hv', obind, if_neg hvn]
      exact ih (i + 1) k (by omega) (by omega)
    · rw [if_neg hc]
      exact ih (i + 1) k (by omega) (by omega)
theorem loop_hit (m : List S30) (hm : m.length ≤ 32) (hf1 : ∀ x ∈ m, 0 ≤ x.f1) (hc : checkL m = 0) (xs : List Int) (hx : xs.length ≤ 1024) (n : Nat) (hn : n < xs.length) (hhit : loadB m xs[n] = true) (hno : ∀ j (hj : j < n), loadB m (xs[j]'(by omega)) = false) : ∀ (d i k : Nat), i + d = n → d + 40 < k → waybilllaw14_ChoiceRing.l0 k m (rd xs (n : Int)) 0 xs (i : Int) = some true := by
  intro d
  induction d with
  | zero =>
    intro i k h1 h2
    obtain ⟨k, rfl⟩ : ∃ n, k = n + 1 := ⟨k - 1, by omega⟩
    obtain rfl : i = n := by omega
    rw [waybilllaw14_ChoiceRing.l0, if_pos (by omega), choice_Check.f, obind, waybilllaw14_num.f, obind, if_pos hc, if_pos (by omega)]
    obtain ⟨v, hv, hiff⟩ := busy_any m hf1 hm (rd xs (i : Int)) m.length k 0 (by omega) (by omega)
    have hv' : waybilllaw14_busy.f k m (rd xs (i : Int)) = some v := hv
    have hrd : rd xs (i : Int) = xs[i] := by unfold rd; rw [Int.toNat_natCast, List.getD_eq_getElem?_getD, List.getElem?_eq_getElem hn]; rfl
    have hvp : v ≥ 0 := hiff.2 (by rw [List.drop_zero, hrd]; exact hhit)
    rw [hv', obind, if_pos hvp, waybilllaw14_num.f, obind, if_pos rfl]
    simp
  | succ d ih =>
    intro i k h1 h2
    obtain ⟨k, rfl⟩ : ∃ n, k = n + 1 := ⟨k - 1, by omega⟩
    have hi : i < xs.length := by omega
    have hnext : wrap64 ((i : Int) + 1) = ((i + 1 : Nat) : Int) := by unfold wrap64; omega
    rw [waybilllaw14_ChoiceRing.l0, if_pos (by omega), choice_Check.f, obind, waybilllaw14_num.f, obind, hnext, if_pos hc, if_pos (by omega)]
    obtain ⟨v, hv, hiff⟩ := busy_any m hf1 hm (rd xs (i : Int)) m.length k 0 (by omega) (by omega)
    have hv' : waybilllaw14_busy.f k m (rd xs (i : Int)) = some v := hv
    have hrd : rd xs (i : Int) = xs[i] := by unfold rd; rw [Int.toNat_natCast, List.getD_eq_getElem?_getD, List.getElem?_eq_getElem hi]; rfl
    have hl := hno i (by omega)
    have hvn : ¬ v ≥ 0 := fun h => by
      have := hiff.1 h
      rw [List.drop_zero, hrd] at this
      unfold loadB at hl
      rw [this] at hl
      cases hl
    rw [hv', obind, if_neg hvn]
    exact ih (i + 1) k (by omega) (by omega)
theorem bchk_l1 (b : List S102) (hl : b.length ≤ 32) : ∀ (d k i : Nat), b.length ≤ i + d → 1 ≤ i → i ≤ 40 → d < k → ∃ c, waybillref12_Check.l1 k b (i : Int) = some c := by
  intro d
  induction d with
  | zero =>
    intro k i h1 h2 h4 h3
    obtain ⟨k, rfl⟩ : ∃ n, k = n + 1 := ⟨k - 1, by omega⟩
    rw [waybillref12_Check.l1, if_neg (by omega)]
    exact ⟨0, rfl⟩
  | succ d ih =>
    intro k i h1 h2 h4 h3
    obtain ⟨k, rfl⟩ : ∃ n, k = n + 1 := ⟨k - 1, by omega⟩
    rw [waybillref12_Check.l1]
    by_cases hi : (i : Int) < (b.length : Int)
    · have hp : wrap64 ((i : Int) - 1) = ((i - 1 : Nat) : Int) := by unfold wrap64; omega
      rw [if_pos hi, if_pos (by omega), hp, if_pos (by omega), if_pos (by omega)]
      split
      · exact ⟨6, rfl⟩
      · rw [show wrap64 ((i : Int) + 1) = ((i + 1 : Nat) : Int) by unfold wrap64; omega]
        exact ih k (i + 1) (by omega) (by omega) (by omega) (by omega)
    · rw [if_neg hi]
      exact ⟨0, rfl⟩
theorem bchk_l0 (b : List S102) (hl : b.length ≤ 32) : ∀ (d k i : Nat), i + d = b.length → d + 40 < k → ∃ c, waybillref12_Check.l0 k b (i : Int) = some c ∧ (c = 0 → ∀ j : Nat, i ≤ j → j < b.length → (0 ≤ (rd_T102 b (j : Int)).f0 ∧ (rd_T102 b (j : Int)).f0 ≤ 2147483647) ∧ 1 ≤ (rd_T102 b (j : Int)).f1 ∧ (rd_T102 b (j : Int)).f1 ≤ 16) := by
  intro d
  induction d with
  | zero =>
    intro k i h1 h2
    obtain ⟨k, rfl⟩ : ∃ n, k = n + 1 := ⟨k - 1, by omega⟩
    rw [waybillref12_Check.l0, if_neg (by omega)]
    obtain ⟨c, hc⟩ := bchk_l1 b hl b.length k 1 (by omega) (by omega) (by omega) (by omega)
    exact ⟨c, hc, fun _ j h3 h4 => by omega⟩
  | succ d ih =>
    intro k i h1 h2
    obtain ⟨k, rfl⟩ : ∃ n, k = n + 1 := ⟨k - 1, by omega⟩
    rw [waybillref12_Check.l0, if_pos (by omega), if_pos (by omega)]
    by_cases c1 : (rd_T102 b (i : Int)).f0 < 0
    · rw [if_pos c1]; exact ⟨4, rfl, fun h => absurd h (by decide)⟩
    · rw [if_neg c1]
      by_cases c2 : (rd_T102 b (i : Int)).f0 > 2147483647
      · rw [if_pos c2]; exact ⟨4, rfl, fun h => absurd h (by decide)⟩
      · rw [if_neg c2]
        by_cases c3 : (rd_T102 b (i : Int)).f1 < 1
        · rw [if_pos c3]; exact ⟨4, rfl, fun h => absurd h (by decide)⟩
        · rw [if_neg c3]
          by_cases c4 : (rd_T102 b (i : Int)).f1 > 16
          · rw [if_pos c4]; exact ⟨4, rfl, fun h => absurd h (by decide)⟩
          · rw [if_neg c4, show wrap64 ((i : Int) + 1) = ((i + 1 : Nat) : Int) by unfold wrap64; omega]
            obtain ⟨c, hc, hok⟩ := ih k (i + 1) (by omega) (by omega)
            refine ⟨c, hc, fun h j h3 h4 => ?_⟩
            by_cases hj : j = i
            · subst hj; exact ⟨⟨by omega, by omega⟩, by omega, by omega⟩
            · exact hok h j (by omega) h4
theorem build_l0 (C : Nat) (hC : 90000 ≤ C) (D : Nat) (hD : 1024 * C + 2 ≤ D) (x0 : Int) (hx0 : 1 ≤ x0 ∧ x0 ≤ 64) (b : List S102) (hb : okB b) : ∀ (d j K : Nat) (s : Int), j + d = b.length → d + b.length * D + 2 ≤ K →
    ∃ z e, waybillref12_Build.l0 K x0 b s (j : Int) = some (z, e) ∧ (e = 0 → PR z) := by
  have hlen := hb.1
  intro d
  induction d with
  | zero =>
    intro j K s h1 h2
    obtain ⟨K, rfl⟩ : ∃ k, K = k + 1 := ⟨K - 1, by omega⟩
    rw [waybillref12_Build.l0, if_neg (by omega)]
    split
    · exact ⟨[], 5, rfl, fun h => absurd h (by decide)⟩
    · obtain ⟨z, hz, he⟩ := build_l1 C hC D hD x0 hx0 b hb b.length 0 K [] (by intro x hx; cases hx) (by omega) (by simp) (by omega)
      exact ⟨z, 0, he, fun _ => hz⟩
  | succ d ih =>
    intro j K s h1 h2
    obtain ⟨K, rfl⟩ : ∃ k, K = k + 1 := ⟨K - 1, by omega⟩
    rw [waybillref12_Build.l0, if_pos (by omega), if_pos (by omega), show wrap64 ((j : Int) + 1) = ((j + 1 : Nat) : Int) by unfold wrap64; omega]
    exact ih (j + 1) K _ (by omega) (by omega)
theorem refBuild (C : Nat) (hC : 90000 ≤ C) (D : Nat) (hD : 1024 * C + 2 ≤ D) (K : Nat) (hK : 32 + 32 * D + 100 ≤ K) (x0 : Int) (b : List S102) : ∃ z e, waybillref12_Build.f K x0 b = some (z, e) ∧ (e = 0 → PR z) := by
  unfold waybillref12_Build.f waybillref12_Check.f
  by_cases hl : (b.length : Int) > 32
  · rw [if_pos hl, obind, if_neg (by decide)]
    exact ⟨[], 3, rfl, fun h => absurd h (by decide)⟩
  · rw [if_neg hl]
    obtain ⟨c, hc, hok⟩ := bchk_l0 b (by omega) b.length K 0 (by omega) (by omega)
    have hc' : waybillref12_Check.l0 K b 0 = some c := hc
    rw [hc', obind]
    by_cases h0 : c = 0
    · rw [if_pos h0]
      by_cases h1 : x0 < 1
      · rw [if_pos h1]; exact ⟨[], 4, rfl, fun h => absurd h (by decide)⟩
      · rw [if_neg h1]
        by_cases h2 : x0 > 64
        · rw [if_pos h2]; exact ⟨[], 4, rfl, fun h => absurd h (by decide)⟩
        · rw [if_neg h2]
          have hmul : b.length * D ≤ 32 * D := Nat.mul_le_mul_right D (by omega)
          exact build_l0 C hC D hD x0 ⟨by omega, by omega⟩ b ⟨by omega, fun j hj => hok h0 j (Nat.zero_le _) hj⟩ b.length 0 K 0 (by omega) (by omega)
    · rw [if_neg h0]
      exact ⟨[], c, rfl, fun h => absurd h h0⟩
theorem wf_range (x : Int) (h : 0 ≤ x ∧ x ≤ 2147483647) : (Lit.int .i64 x).wf = true := by
  have hmin : IntKind.i64.min = -9223372036854775808 := by decide +kernel
  have hmax : IntKind.i64.max = 9223372036854775807 := by decide +kernel
  simp [Lit.wf]
  omega
theorem ddI_len (xs : List Int) : ∀ out : List Int, (ddF out xs).length ≤ out.length + xs.length := by
  induction xs with
  | nil => intro out; simp [ddF]
  | cons x t ih =>
    intro out
    unfold ddF
    rw [List.foldl_cons]
    refine Nat.le_trans (ih _) ?_
    split
    · simp
    · simp; omega
theorem walkL_len (l : List S105) (h : Int) : (walkL l h).length ≤ l.length := by
  have := ddI_len ((List.range l.length).map (fun i => (rd_T105 l (((fromN l h + i) % l.length : Nat) : Int)).f1)) []
  simpa [walkL, ddI, ddF] using this
theorem ring_law (C : Nat) (hC : 90000 ≤ C) (D : Nat) (hD : 1024 * C + 2 ≤ D) (K : Nat) (hK : 32 + 32 * D + 1100000 ≤ K) (a0 : Int) (l : List S30) (b : List S102) (h : Int) : waybilllaw14_ChoiceRing.f K a0 l b h = some true := by
  unfold waybilllaw14_ChoiceRing.f
  obtain ⟨r, e, hb, hok⟩ := refBuild C hC D hD K (by omega) a0 b
  rw [alive_t, obind, if_pos rfl, hb, obind]
  by_cases he : e = 0
  · have hP := hok he
    have hR : choice_Ring.f r h l = some (ringL r h l) := by unfold choice_Ring.f; rw [if_pos fun x hx => wf_range _ (hP x hx)]
    obtain ⟨w, hw⟩ := refWalk r h K (by omega)
    rw [if_pos he, hR, obind, hw, obind]
    show waybilllaw14_ChoiceRing.l0 K l (ringL r h l).1 (ringL r h l).2 (if wholeL r = 0 then walkL r h else []) 0 = some true
    by_cases hc : checkL l = 0
    · obtain ⟨hm, hf1⟩ := chk_ok l hc
      by_cases hwh : wholeL r = 0
      · obtain ⟨hl, _⟩ := whole0 hwh
        have hx := walkL_len r h
        rw [if_pos hwh]
        unfold ringL
        rw [if_pos hc, if_pos hwh]
        rcases idxFrom_spec (loadB l) (walkL r h) 0 with ⟨h1, h2⟩ | ⟨n, h1, hn, h3, h4⟩
        · have hi : idxL (loadB l) (walkL r h) = -1 := h1
          rw [hi, if_pos (by decide)]
          exact loop_end K l 71 (by decide) _ (by omega) (.inr ⟨hm, hf1, h2⟩) (walkL r h).length 0 K (by omega) (by omega)
        · have hi : idxL (loadB l) (walkL r h) = (n : Int) := by unfold idxL; rw [h1]; omega
          rw [hi, if_neg (by omega)]
          exact loop_hit l hm hf1 hc _ (by omega) n hn h3 (fun j hj => h4 j hj) n 0 K (by omega) (by omega)
      · rw [if_neg hwh]
        unfold ringL
        rw [if_pos hc, if_neg hwh]
        exact loop_end K l _ hwh [] (by simp) (.inr ⟨hm, hf1, fun x hx => by cases hx⟩) 0 0 K (by simp) (by omega)
    · unfold ringL
      rw [if_neg hc]
      by_cases hwh : wholeL r = 0
      · obtain ⟨hl, _⟩ := whole0 hwh
        have hx := walkL_len r h
        rw [if_pos hwh]
        exact loop_end K l _ hc _ (by omega) (.inl hc) (walkL r h).length 0 K (by omega) (by omega)
      · rw [if_neg hwh]
        exact loop_end K l _ hc [] (by simp) (.inl hc) 0 0 K (by simp) (by omega)
  · rw [if_neg he]
end Go.Proofs.Ytemleanglkaedaa.Pure
