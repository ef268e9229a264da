/- The pure statement of LexOwn, proved. -/
import Derived.Test.YtoloneoeojoiaaaELexOwnx6
namespace Go.Proofs.Ytoloneoeojoiaaa.Pure
open Go.RowKit Go.Proofs.Ytoloneoeojoiaaa.ELexOwn Go.Proofs.YtoloneoeojoiaaaW.PrintWords Go.Proofs.YtoloneoeojoiaaaW.PrintLast Go.Proofs.YtoloneoeojoiaaaW.PrintMore
set_option linter.unusedVariables false
set_option linter.unusedSimpArgs false

theorem obind {α β : Type} (a : α) (f : α → Option β) : (some a).bind f = f a := Eq.trans (Option.bind_some a f) (Eq.refl _)
theorem alive_t : waybilllaw04_alive.f = some true := by decide +kernel
theorem txt_app (a b : List UInt8) : txt a ++ txt b = txt (a ++ b) := by
  apply ByteArray.ext
  rw [ByteArray.data_append]
  simp [txt]
theorem lit_txt (l : List UInt8) : (⟨l.toArray⟩ : ByteArray) = txt l := rfl
theorem toks_f (s : List UInt8) (h : s.length ≤ 65536) : lex_Tokens.f (txt s) = some (toksL (s.length + 1) s 1 []) := by
  unfold lex_Tokens.f
  rw [txt_list, txt_size, if_neg (by omega)]
theorem toks_big (s : List UInt8) (h : ¬ s.length ≤ 65536) : lex_Tokens.f (txt s) = some ([], 0, 5) := by
  unfold lex_Tokens.f
  rw [txt_size, if_pos (by omega)]
theorem toksL_fuel (n : Nat) : ∀ (m : Nat) (s : List UInt8) (l : Int) (out : List S31), s.length < n → s.length < m → toksL n s l out = toksL m s l out := by
  induction n with
  | zero => intro m s l out h _; omega
  | succ n ih =>
    intro m s l out h1 h2
    obtain ⟨m, rfl⟩ : ∃ q, m = q + 1 := ⟨m - 1, by omega⟩
    rw [toksL_step, toksL_step]
    have hl := sk_len s false l
    generalize (sk false s l).1 = r at hl ⊢
    generalize (sk false s l).2 = l2
    unfold tokStep
    cases r with
    | nil => rfl
    | cons c t =>
      have hne : ¬ (c :: t = []) := by simp
      rw [if_neg hne, if_neg hne]
      by_cases he : (nextL (c :: t) l2).2.1 = 0
      · rw [if_pos he, if_pos he]
        have := next_len c t l2 he
        simp at hl
        exact ih _ _ _ _ (by omega) (by omega)
      · rw [if_neg he, if_neg he]
theorem toksL_len (n : Nat) : ∀ (s : List UInt8) (l : Int) (out : List S31), (toksL n s l out).1.length ≤ out.length + s.length := by
  induction n with
  | zero => intro s l out; simp [toksL]
  | succ n ih =>
    intro s l out
    rw [toksL_step]
    have hl := sk_len s false l
    generalize (sk false s l).1 = r at hl ⊢
    generalize (sk false s l).2 = l2
    unfold tokStep
    cases r with
    | nil => rw [if_pos rfl]; simp
    | cons c t =>
      rw [if_neg (by simp)]
      by_cases he : (nextL (c :: t) l2).2.1 = 0
      · rw [if_pos he]
        have := next_len c t l2 he
        have h2 := ih (nextL (c :: t) l2).2.2 l2 (out ++ [(nextL (c :: t) l2).1])
        simp at hl h2
        omega
      · rw [if_neg he]; simp
theorem same_l (xs : List S31) (hx : xs.length ≤ 140737488351232) (k : Nat) : ∀ (i : Int), 0 ≤ i → i ≤ xs.length → xs.length - i.toNat < k → waybillplain_SameTokens.l0 k xs xs i = some true := by
  induction k with
  | zero => intro i _ _ h; omega
  | succ k ih =>
    intro i h0 h1 hk
    simp only [waybillplain_SameTokens.l0]
    by_cases h : i < (xs.length : Int)
    · rw [if_pos h, if_pos h0, if_pos h, if_neg (by simp), show wrap64 (i + 1) = i + 1 by unfold wrap64; omega]
      exact ih _ (by omega) (by omega) (by omega)
    · rw [if_neg h]
theorem same_refl (xs : List S31) (hx : xs.length ≤ 140737488351232) (k : Nat) (hk : xs.length < k) : waybillplain_SameTokens.f k xs xs = some true := by
  unfold waybillplain_SameTokens.f
  rw [if_pos rfl]
  exact same_l xs hx k 0 (by omega) (by omega) (by simpa using hk)
theorem all256 (P : UInt8 → Bool) (h : ∀ n : Fin 256, P (UInt8.ofNat n.val) = true) (c : UInt8) : P c = true := by
  have := h ⟨c.toNat, c.toNat_lt⟩
  simpa using this
theorem rletter (c : UInt8) : waybillref04_letter.f (c.toNat : Int) = some (letterB c) := by
  have := all256 (fun c => waybillref04_letter.f (c.toNat : Int) == some (letterB c)) (by decide +kernel) c
  exact eq_of_beq this
theorem rdigit (c : UInt8) : waybillref04_digit.f (c.toNat : Int) = some (digitB c) := by
  have := all256 (fun c => waybillref04_digit.f (c.toNat : Int) == some (digitB c)) (by decide +kernel) c
  exact eq_of_beq this
theorem rpart (c : UInt8) : waybillref04_part.f (c.toNat : Int) = some (partB c) := by
  have := all256 (fun c => waybillref04_part.f (c.toNat : Int) == some (partB c)) (by decide +kernel) c
  exact eq_of_beq this
theorem rsign12 (c : UInt8) : waybillref04_sign.f 12 (c.toNat : Int) = some (signB c) := by
  have := all256 (fun c => waybillref04_sign.f 12 (c.toNat : Int) == some (signB c)) (by decide +kernel) c
  exact eq_of_beq this
theorem rsign (c : UInt8) (k : Nat) (hk : 12 ≤ k) : waybillref04_sign.f k (c.toNat : Int) = some (signB c) := by
  obtain ⟨j, rfl⟩ : ∃ j, k = 12 + j := ⟨k - 12, by omega⟩
  clear hk
  induction j with
  | zero => exact rsign12 c
  | succ j ih => exact waybillref04_sign.mono _ _ _ ih
theorem part_or (c : UInt8) (h : partB c = true) (h2 : letterB c = false) : digitB c = true ∧ c ≠ 95 ∨ digitB c = false ∧ c = 95 := by
  have := all256 (fun c => !(partB c) || letterB c || (digitB c && c != 95) || (!(digitB c) && c == 95)) (by decide +kernel) c
  simp only [h, h2, Bool.not_true, Bool.false_or] at this
  rcases Bool.or_eq_true_iff.1 this with h | h
  · left; simpa using h
  · right; simpa using h
theorem tn9 (c : UInt8) : ((c.toNat : Int) = 9) ↔ c = 9 := ⟨fun h => by rw [← UInt8.toNat_inj]; show c.toNat = 9; omega, fun h => by rw [h]; rfl⟩
theorem tn10 (c : UInt8) : ((c.toNat : Int) = 10) ↔ c = 10 := ⟨fun h => by rw [← UInt8.toNat_inj]; show c.toNat = 10; omega, fun h => by rw [h]; rfl⟩
theorem tn13 (c : UInt8) : ((c.toNat : Int) = 13) ↔ c = 13 := ⟨fun h => by rw [← UInt8.toNat_inj]; show c.toNat = 13; omega, fun h => by rw [h]; rfl⟩
theorem tn32 (c : UInt8) : ((c.toNat : Int) = 32) ↔ c = 32 := ⟨fun h => by rw [← UInt8.toNat_inj]; show c.toNat = 32; omega, fun h => by rw [h]; rfl⟩
theorem tn35 (c : UInt8) : ((c.toNat : Int) = 35) ↔ c = 35 := ⟨fun h => by rw [← UInt8.toNat_inj]; show c.toNat = 35; omega, fun h => by rw [h]; rfl⟩
theorem tn48 (c : UInt8) : ((c.toNat : Int) = 48) ↔ c = 48 := ⟨fun h => by rw [← UInt8.toNat_inj]; show c.toNat = 48; omega, fun h => by rw [h]; rfl⟩
theorem bt0 (c : UInt8) (t : List UInt8) : bt (txt (c :: t)) 0 = (c.toNat : Int) := by
  have := bt_txt (c :: t) 0 (by simp)
  simpa using this
theorem word_l (q : List UInt8) (hq : q ≠ []) (hl : q.length ≤ 70000) : ∀ (d k i : Nat), i + d = q.length → d < k → waybillref04_word.l0 k (txt q) (i : Int) = if (q.drop i).all digitB = false ∨ q.length > 9 ∨ (q.headD 0 = 48 ∧ q.length > 1) then some (2, 4) else some (2, 0) := by
  intro d
  induction d with
  | zero =>
    intro k i hi hk
    obtain ⟨k, rfl⟩ : ∃ n, k = n + 1 := ⟨k - 1, by omega⟩
    rw [waybillref04_word.l0, if_neg (by rw [txt_size]; omega), List.drop_eq_nil_of_le (by omega), txt_size]
    cases q with
    | nil => exact absurd rfl hq
    | cons c t =>
      have h48 := tn48 c
      rw [bt0]
      have e1 : ¬ (([] : List UInt8).all digitB = false) := by simp
      have e2 : (c :: t).headD 0 = c := rfl
      have e3 : (0 : Int) < ((c :: t).length : Int) := by rw [List.length_cons]; omega
      rw [e2, if_pos e3]
      by_cases h9 : ((c :: t).length : Int) > 9
      · rw [if_pos h9, if_pos (.inr (.inl (by omega)))]
      · rw [if_neg h9]
        by_cases h4 : c = 48
        · rw [if_pos (show (c.toNat : Int) = 48 from by rw [h4]; rfl)]
          by_cases h1 : ((c :: t).length : Int) > 1
          · rw [if_pos h1, if_pos (.inr (.inr ⟨h4, by omega⟩))]
          · rw [if_neg h1, if_neg]
            rintro (h | h | ⟨_, h⟩)
            · exact e1 h
            · omega
            · omega
        · rw [if_neg (show ¬ (c.toNat : Int) = 48 from fun h => h4 (h48.1 h)), if_neg]
          rintro (h | h | ⟨h, _⟩)
          · exact e1 h
          · omega
          · exact h4 h
  | succ d ih =>
    intro k i hi hk
    obtain ⟨k, rfl⟩ : ∃ n, k = n + 1 := ⟨k - 1, by omega⟩
    have hlt : i < q.length := by omega
    have hdr : q.drop i = q[i] :: q.drop (i + 1) := List.drop_eq_getElem_cons hlt
    rw [waybillref04_word.l0, if_pos (by rw [txt_size]; omega), if_pos (by omega), bt_txt q i hlt, rdigit, obind, hdr, List.all_cons]
    by_cases h : digitB q[i] = true
    · rw [if_pos h, show wrap64 ((i : Int) + 1) = ((i + 1 : Nat) : Int) by unfold wrap64; omega, ih k (i + 1) (by omega) (by omega), h, Bool.true_and]
    · rw [if_neg h, if_pos (.inl (by rw [Bool.eq_false_iff.mpr h]; rfl))]
theorem word_f (q : List UInt8) (hq : q ≠ []) (hl : q.length ≤ 70000) (hp : ∀ c ∈ q, partB c = true) (k : Nat) (hk : q.length + 3 ≤ k) : ∃ a, waybillref04_word.f k (txt q) = some (a, (kindL q).2) ∧ ((kindL q).2 = 0 → a = (kindL q).1) := by
  cases q with
  | nil => exact absurd rfl hq
  | cons c t =>
    obtain ⟨k, rfl⟩ : ∃ n, k = n + 1 := ⟨k - 1, by omega⟩
    have e3 : (0 : Int) < ((txt (c :: t)).size : Int) := by rw [txt_size, List.length_cons]; omega
    unfold waybillref04_word.f kindL
    rw [if_pos e3, bt0, rletter, obind, show (c :: t).headD 0 = c from rfl]
    by_cases hL : letterB c = true
    · rw [if_pos hL]
      by_cases h32 : ((c :: t).length : Int) > 32
      · rw [txt_size, decide_eq_true h32, waybillref04_word.j0, if_pos rfl, if_pos ⟨hL, by omega⟩]
        exact ⟨1, rfl, fun h => absurd (show (31 : Int) = 0 from h) (by decide)⟩
      · rw [txt_size, decide_eq_false h32, waybillref04_word.j0, if_neg (by decide), if_pos e3, bt0, rletter, obind, if_pos hL, if_neg (by rintro ⟨_, h⟩; omega), if_pos hL]
        exact ⟨1, rfl, fun _ => rfl⟩
    · rw [if_neg hL, waybillref04_word.j0, if_neg (by decide), if_pos e3, bt0, rletter, obind, if_neg hL, rdigit, obind, if_neg (show ¬ (letterB c = true ∧ (c :: t).length > 32) from fun h => hL h.1), if_neg hL]
      rcases part_or c (hp c List.mem_cons_self) (Bool.eq_false_iff.mpr hL) with ⟨hd, h95⟩ | ⟨hd, h95⟩
      · rw [if_pos hd, if_neg h95]
        have := word_l (c :: t) hq hl (c :: t).length k 0 (by simp) (by omega)
        rw [show ((0 : Nat) : Int) = 0 from rfl, List.drop_zero, show (c :: t).headD 0 = c from rfl] at this
        rw [this]
        split
        · exact ⟨2, rfl, fun h => absurd (show (4 : Int) = 0 from h) (by decide)⟩
        · exact ⟨2, rfl, fun _ => rfl⟩
      · rw [if_neg (by rw [hd]; decide), if_pos h95]
        exact ⟨0, rfl, fun h => absurd (show (32 : Int) = 0 from h) (by decide)⟩
theorem T_nil (M : Nat) (l : Int) (out : List S31) : toksL (M + 1) [] l out = (out, 0, 0) := rfl
theorem T_nl (M : Nat) (t : List UInt8) (l : Int) (out : List S31) : toksL (M + 1) (10 :: t) l out = toksL (M + 1) t (l + 1) out := by rw [toksL_step, toksL_step, sk_line]
theorem T_blank (M : Nat) (c : UInt8) (t : List UInt8) (l : Int) (out : List S31) (h1 : c ≠ 10) (h2 : c ≠ 35) (h3 : blankB c = true) : toksL (M + 1) (c :: t) l out = toksL (M + 1) t l out := by rw [toksL_step, toksL_step, sk_blank c t l h1 h2 h3]
theorem T_hash (M : Nat) (t : List UInt8) (l : Int) (out : List S31) : toksL (M + 1) (35 :: t) l out = toksL (M + 1) ((35 :: t).drop (remL (35 :: t)).length) l out := by
  rw [toksL_step, toksL_step, (sk_hash (35 :: t) rfl l).1]
theorem T_tok (M : Nat) (c : UInt8) (t : List UInt8) (l : Int) (out : List S31) (hM : t.length < M) (h1 : c ≠ 10) (h2 : c ≠ 35) (h3 : blankB c = false) : toksL (M + 1) (c :: t) l out = if (nextL (c :: t) l).2.1 = 0 then toksL (M + 1) (nextL (c :: t) l).2.2 l (out ++ [(nextL (c :: t) l).1]) else ([], l, (nextL (c :: t) l).2.1) := by
  rw [toksL_step, sk_stop c t l h1 h2 h3]
  show tokStep M (c :: t) l out = _
  unfold tokStep
  have hne : ¬ (c :: t = []) := by simp
  rw [if_neg hne]
  by_cases he : (nextL (c :: t) l).2.1 = 0
  · rw [if_pos he, if_pos he]
    have := next_len c t l he
    exact toksL_fuel _ _ _ _ _ (by omega) (by omega)
  · rw [if_neg he, if_neg he]
theorem tw_mem (p : UInt8 → Bool) : ∀ (s : List UInt8) (c : UInt8), c ∈ s.takeWhile p → p c = true
  | [], c, h => by simp at h
  | x :: t, c, h => by
    rw [List.takeWhile_cons] at h
    by_cases hp : p x = true
    · rw [if_pos hp] at h
      rcases List.mem_cons.1 h with rfl | h
      · exact hp
      · exact tw_mem p t c h
    · rw [if_neg hp] at h; simp at h
theorem tw_take (p : UInt8 → Bool) : ∀ (s : List UInt8), s.take (s.takeWhile p).length = s.takeWhile p
  | [] => rfl
  | x :: t => by
    rw [List.takeWhile_cons]
    by_cases hp : p x = true
    · rw [if_pos hp]; simpa using tw_take p t
    · rw [if_neg hp]; rfl
section
variable (s : List UInt8) (hs : s.length ≤ 65536)
include hs
theorem ref_l1 (out : List S31) (l : Int) (k : Nat) : ∀ (q i : Nat), i ≤ s.length → (remL (s.drop i)).length = q → waybillref04_Tokens.l1 (k + q + 1) (txt s) out l (i : Int) = waybillref04_Tokens.l0 k (txt s) out l ((i + q : Nat) : Int) := by
  intro q
  induction q with
  | zero =>
    intro i hi hq
    rw [waybillref04_Tokens.l1, txt_size]
    by_cases hlt : i < s.length
    · rw [if_pos (by omega), if_pos (by omega), bt_txt s i hlt]
      have hdr : s.drop i = s[i] :: s.drop (i + 1) := List.drop_eq_getElem_cons hlt
      rw [hdr] at hq
      have h10 : s[i] = 10 := by
        apply Classical.byContradiction
        intro h
        unfold remL at hq
        rw [List.takeWhile_cons, if_pos (by simpa using h)] at hq
        simp at hq
      rw [if_pos (by rw [h10]; rfl)]
      rfl
    · rw [if_neg (by omega)]; rfl
  | succ q ih =>
    intro i hi hq
    have hlt : i < s.length := by
      apply Classical.byContradiction
      intro h
      rw [List.drop_eq_nil_of_le (by omega)] at hq
      simp [remL] at hq
    have hdr : s.drop i = s[i] :: s.drop (i + 1) := List.drop_eq_getElem_cons hlt
    rw [hdr] at hq
    have h10 : s[i] ≠ 10 := by
      intro h
      rw [h] at hq
      simp [remL] at hq
    have hq2 : (remL (s.drop (i + 1))).length = q := by
      unfold remL at hq ⊢
      rw [List.takeWhile_cons, if_pos (by simpa using h10)] at hq
      simpa using hq
    rw [waybillref04_Tokens.l1, txt_size, if_pos (by omega), if_pos (by omega), bt_txt s i hlt, if_neg (fun h => h10 ((tn10 _).1 h)), show wrap64 ((i : Int) + 1) = ((i + 1 : Nat) : Int) by unfold wrap64; omega, show k + (q + 1) = k + q + 1 by omega, ih (i + 1) (by omega) hq2]
    congr 1; omega
theorem ref_l2 (out : List S31) (l : Int) (k i0 : Nat) : ∀ (q j : Nat), i0 ≤ j → j ≤ s.length → (runL (s.drop j)).length = q → waybillref04_Tokens.l2 (k + q + 1) (txt s) out l (i0 : Int) (j : Int) =
    ((waybillref04_word.f k ((txt s).extract i0 (j + q))).bind fun bt124 => (if bt124.2 = 0 then (if out.length < 4398046511104 then (waybillref04_Tokens.l0 k (txt s) (out ++ [(⟨bt124.1, (txt s).extract i0 (j + q), l⟩ : S31)]) l ((j + q : Nat) : Int)) else (none)) else (some (([] : List (S31)), l, bt124.2)))) := by
  intro q
  induction q with
  | zero =>
    intro j hij hj hq
    have q1 : (i0 : Int) ≤ (j : Int) := by omega
    have q2 : (j : Int) ≤ (s.length : Int) := by omega
    rw [waybillref04_Tokens.l2, txt_size]
    by_cases hlt : j < s.length
    · have hdr : s.drop j = s[j] :: s.drop (j + 1) := List.drop_eq_getElem_cons hlt
      rw [hdr] at hq
      have hp : partB s[j] = false := by
        apply Classical.byContradiction
        intro h
        unfold runL at hq
        rw [List.takeWhile_cons, if_pos (by simpa using h)] at hq
        simp at hq
      rw [if_pos (by omega), if_pos (by omega), bt_txt s j hlt, rpart, obind, if_neg (by rw [hp]; decide), if_pos (by omega), if_pos q1, if_pos q2]
      rfl
    · rw [if_neg (by omega), if_pos (by omega), if_pos q1, if_pos q2]
      rfl
  | succ q ih =>
    intro j hij hj hq
    have hlt : j < s.length := by
      apply Classical.byContradiction
      intro h
      rw [List.drop_eq_nil_of_le (by omega)] at hq
      simp [runL] at hq
    have hdr : s.drop j = s[j] :: s.drop (j + 1) := List.drop_eq_getElem_cons hlt
    rw [hdr] at hq
    have hp : partB s[j] = true := by
      apply Classical.byContradiction
      intro h
      unfold runL at hq
      rw [List.takeWhile_cons, if_neg h] at hq
      simp at hq
    have hq2 : (runL (s.drop (j + 1))).length = q := by
      unfold runL at hq ⊢
      rw [List.takeWhile_cons, if_pos hp] at hq
      simpa using hq
    rw [waybillref04_Tokens.l2, txt_size, if_pos (by omega), if_pos (by omega), bt_txt s j hlt, rpart, obind, if_pos hp, show wrap64 ((j : Int) + 1) = ((j + 1 : Nat) : Int) by unfold wrap64; omega, show k + (q + 1) = k + q + 1 by omega, ih (j + 1) (by omega) (by omega) hq2, show j + 1 + q = j + (q + 1) by omega]
theorem ref_l0 (N : Nat) : ∀ (i k : Nat) (l : Int) (out : List S31), s.length - i = N → i ≤ s.length → 200 + 5 * N ≤ k → 0 ≤ l → l ≤ i + 1 → out.length ≤ i → waybillref04_Tokens.l0 k (txt s) out l (i : Int) = some (toksL (s.length + 1) (s.drop i) l out) := by
  induction N using Nat.strongRecOn with
  | _ N ih =>
  intro i k l out hN hi hk hl0 hl1 ho
  obtain ⟨k, rfl⟩ : ∃ n, k = n + 1 + 1 := ⟨k - 2, by omega⟩
  by_cases hlt : i < s.length
  · have hdr : s.drop i = s[i] :: s.drop (i + 1) := List.drop_eq_getElem_cons hlt
    have hw : wrap64 ((i : Int) + 1) = ((i + 1 : Nat) : Int) := by unfold wrap64; omega
    have hwl : wrap64 (l + 1) = l + 1 := by unfold wrap64; omega
    rw [waybillref04_Tokens.l0, txt_size, if_pos (by omega), if_pos (by omega), bt_txt s i hlt, hw]
    by_cases h10 : s[i] = 10
    · rw [if_pos ((tn10 _).2 h10), hdr, h10, T_nl, hwl]
      exact ih (N - 1) (by omega) (i + 1) (k + 1) (l + 1) out (by omega) (by omega) (by omega) (by omega) (by omega) (by omega)
    · rw [if_neg (fun h => h10 ((tn10 _).1 h))]
      have hj : ∀ b, b = blankB s[i] → waybillref04_Tokens.j1 (k + 1) (txt s) out l (i : Int) ((s[i].toNat : Nat) : Int) b = some (toksL (s.length + 1) (s.drop i) l out) := by
        intro b hb
        rw [waybillref04_Tokens.j1, hw]
        have hnb : s[i] = 35 → blankB s[i] = false := fun h => by rw [h]; decide
        by_cases hB : b = true
        · have h35 : s[i] ≠ 35 := fun h => by rw [hb, hnb h] at hB; cases hB
          rw [if_pos hB, hdr, T_blank _ _ _ _ _ h10 h35 (by rw [← hb]; exact hB)]
          exact ih (N - 1) (by omega) (i + 1) k l out (by omega) (by omega) (by omega) (by omega) (by omega) (by omega)
        · rw [if_neg hB]
          have hB : blankB s[i] = false := by rw [← hb]; exact Bool.eq_false_iff.mpr hB
          by_cases h35 : s[i] = 35
          · rw [if_pos ((tn35 _).2 h35)]
            obtain ⟨q, hq⟩ : ∃ q, q = (remL (s.drop i)).length := ⟨_, rfl⟩
            have hql : q ≤ s.length - i := by rw [hq]; have := tw_len (fun x => x != 10) (s.drop i); simpa [remL] using this
            have hq0 : 0 < q := by rw [hq, hdr]; exact (sk_hash (s[i] :: s.drop (i + 1)) h35 0).2
            obtain ⟨k, rfl⟩ : ∃ n, k = n + q + 1 := ⟨k - q - 1, by omega⟩
            rw [ref_l1 s hs out l k q i hi hq.symm, ih (N - q) (by omega) (i + q) k l out (by omega) (by omega) (by omega) (by omega) (by omega) (by omega)]
            rw [hdr, h35, T_hash, ← h35, ← hdr, ← hq, List.drop_drop]
          · rw [if_neg (fun h => h35 ((tn35 _).1 h)), rsign _ _ (by omega), obind, hdr, T_tok _ _ _ _ _ (by simp; omega) h10 h35 hB]
            unfold nextL
            rw [show (s[i] :: s.drop (i + 1)).headD 0 = s[i] from rfl]
            by_cases hsg : signB s[i] = true
            · rw [if_pos hsg, if_pos hsg, if_pos (by omega), if_pos (by omega), txt_size, if_pos (by omega), if_pos (by omega)]
              simp only [Int.toNat_natCast]
              rw [txt_extract, hdr, show i + 1 - i = 1 by omega]
              rw [ih (N - 1) (by omega) (i + 1) k l _ (by omega) (by omega) (by omega) (by omega) (by omega) (by simp; omega)]
              simp
            · rw [if_neg hsg, if_neg hsg, rpart, obind]
              by_cases hp : partB s[i] = true
              · rw [if_pos hp]
                obtain ⟨q, hq⟩ : ∃ q, q = (runL (s.drop i)).length := ⟨_, rfl⟩
                have hql : q ≤ s.length - i := by rw [hq]; have := tw_len partB (s.drop i); simpa [runL] using this
                have hrne : runL (s.drop i) ≠ [] := by rw [hdr]; unfold runL; rw [List.takeWhile_cons, if_pos hp]; simp
                have hq0 : 0 < q := by rw [hq]; exact List.length_pos_iff.2 hrne
                obtain ⟨k, rfl⟩ : ∃ n, k = n + q + 1 := ⟨k - q - 1, by omega⟩
                rw [ref_l2 s hs out l k i q i (by omega) hi hq.symm, txt_extract, show i + q - i = q by omega]
                have htk : (s.drop i).take q = runL (s.drop i) := by rw [hq]; exact tw_take partB _
                rw [htk, ← hdr]
                obtain ⟨a, ha, hk0⟩ := word_f (runL (s.drop i)) hrne (by omega) (fun c hc => tw_mem partB _ _ hc) k (by omega)
                rw [ha, obind, if_neg hrne, ← hq]
                by_cases he : (kindL (runL (s.drop i))).2 = 0
                · rw [if_pos he, if_pos he, hk0 he, if_pos (by omega), ih (N - q) (by omega) (i + q) k l _ (by omega) (by omega) (by omega) (by omega) (by omega) (by simp; omega), List.drop_drop]
                · rw [if_neg he, if_neg he]
              · rw [if_neg hp]
                have hr : runL (s[i] :: s.drop (i + 1)) = [] := by unfold runL; rw [List.takeWhile_cons, if_neg hp]
                rw [if_pos hr]
                rfl
      have hbl : blankB s[i] = (decide (s[i] = 32) || decide (s[i] = 9) || decide (s[i] = 13)) := by
        have := all256 (fun c => blankB c == (decide (c = 32) || decide (c = 9) || decide (c = 13))) (by decide +kernel) s[i]
        exact eq_of_beq this
      by_cases h32 : s[i] = 32
      · rw [if_pos ((tn32 _).2 h32)]
        exact hj true (by rw [hbl, decide_eq_true h32]; rfl)
      · rw [if_neg (fun h => h32 ((tn32 _).1 h))]
        by_cases h9 : s[i] = 9
        · rw [if_pos ((tn9 _).2 h9)]
          exact hj true (by rw [hbl, decide_eq_true h9]; simp)
        · rw [if_neg (fun h => h9 ((tn9 _).1 h))]
          refine hj _ ?_
          rw [hbl, decide_eq_false h32, decide_eq_false h9, Bool.false_or, Bool.false_or]
          by_cases h13 : s[i] = 13
          · rw [decide_eq_true h13, h13]; rfl
          · rw [decide_eq_false h13]
            exact beq_eq_false_iff_ne.2 (fun h => h13 ((tn13 _).1 h))
  · rw [waybillref04_Tokens.l0, txt_size, if_neg (by omega), List.drop_eq_nil_of_le (by omega)]
    rfl
end
theorem ref_f (s : List UInt8) (k : Nat) (hk : 200 + 5 * 65536 ≤ k) : waybillref04_Tokens.f k (txt s) = lex_Tokens.f (txt s) := by
  unfold waybillref04_Tokens.f
  by_cases h : s.length ≤ 65536
  · rw [toks_f s h, txt_size, if_neg (by omega)]
    have := ref_l0 s h s.length 0 k 1 [] (by omega) (by omega) (by omega) (by omega) (by omega) (by simp)
    simpa using this
  · rw [toks_big s h, txt_size, if_pos (by omega)]
theorem own_l0 (s : List UInt8) (b : List S31) (f : Int) (i : Int) (hr : lex_Tokens.f (txt s) = some (b, i, f)) (hb : b.length ≤ 65536) : ∀ (d k j : Nat) (a : List S31), j + d = a.length → a.length ≤ 65536 → 400000 + d < k → waybilllaw04_LexOwn.l0 k (txt s) a f b f (j : Int) = some true := by
  intro d
  induction d with
  | zero =>
    intro k j a hj ha hk
    obtain ⟨k, rfl⟩ : ∃ n, k = n + 1 := ⟨k - 1, by omega⟩
    rw [waybilllaw04_LexOwn.l0, if_neg (by omega), ref_f s k (by omega), hr, obind, if_pos rfl, waybilllaw04_num.f, obind, if_pos rfl, same_refl _ (by omega) k (by omega), obind]
  | succ d ih =>
    intro k j a hj ha hk
    obtain ⟨k, rfl⟩ : ∃ n, k = n + 1 := ⟨k - 1, by omega⟩
    rw [waybilllaw04_LexOwn.l0, if_pos (by omega), if_pos (by omega), show wrap64 ((j : Int) + 1) = ((j + 1 : Nat) : Int) by unfold wrap64; omega]
    exact ih k (j + 1) _ (by simp; omega) (by simpa using ha) (by omega)
theorem LexOwn : waybilllaw04_LexOwn.Pure := by
  intro a0 h0
  refine ⟨500000, ?_⟩
  unfold waybilllaw04_LexOwn.f
  obtain ⟨s, rfl⟩ : ∃ s, a0 = txt s := ⟨a0.data.toList, (txt_data a0).symm⟩
  rw [alive_t, obind, if_pos rfl]
  obtain ⟨R, hR, hl⟩ : ∃ R, lex_Tokens.f (txt s) = some R ∧ R.1.length ≤ 65536 := by
    by_cases h : s.length ≤ 65536
    · rw [toks_f s h]; exact ⟨_, rfl, by have := toksL_len (s.length + 1) s 1 []; simp at this; omega⟩
    · rw [toks_big s h]; exact ⟨_, rfl, by simp⟩
  rw [hR, obind, obind]
  have := own_l0 s R.1 R.2.2 R.2.1 hR hl R.1.length 500000 0 R.1 (by omega) hl (by omega)
  exact this

end Go.Proofs.Ytoloneoeojoiaaa.Pure
