/- The pure statement of LexTells, proved. -/
import Derived.Test.YtoloneoeojoiaaaELexTellsx9
import Derived.Test.YtoloneoeojoiaaaELexTellsx0
import Derived.Test.YtoloneoeojoiaaaELexTellsx1
import Derived.Test.YtoloneoeojoiaaaELexTellsx2
import Derived.Test.YtoloneoeojoiaaaELexTellsx3
import Derived.Test.YtoloneoeojoiaaaELexTellsx4
import Derived.Test.YtoloneoeojoiaaaELexTellsx5
import Derived.Test.YtoloneoeojoiaaaELexTellsx6
import Derived.Test.YtoloneoeojoiaaaELexTellsx7
import Derived.Test.YtoloneoeojoiaaaELexTellsx8
namespace Go.Proofs.Ytoloneoeojoiaaa.Pure
open Go.RowKit Go.Proofs.Ytoloneoeojoiaaa.ELexTells Go.Proofs.YtoloneoeojoiaaaW.PrintWords Go.Proofs.YtoloneoeojoiaaaW.PrintLast Go.Proofs.YtoloneoeojoiaaaW.PrintMore
set_option linter.unusedVariables false
set_option linter.unusedSimpArgs false
theorem obind {α β : Type} (a : α) (f : α → Option β) : (some a).bind f = f a := Eq.trans (Option.bind_some a f) (Eq.refl _)
theorem alive_t : waybilllaw04_alive.f = some true := by decide +kernel
theorem txt_app (a b : List UInt8) : txt a ++ txt b = txt (a ++ b) := by
  apply ByteArray.ext
  rw [ByteArray.data_append]
  simp [txt]
theorem lit_txt (l : List UInt8) : (⟨l.toArray⟩ : ByteArray) = txt l := rfl
theorem toks_f (s : List UInt8) (h : s.length ≤ 65536) : lex_Tokens.f (txt s) = some (toksL (s.length + 1) s 1 []) := by
  unfold lex_Tokens.f
  rw [txt_list, txt_size, if_neg (by omega)]
theorem toks_big (s : List UInt8) (h : ¬ s.length ≤ 65536) : lex_Tokens.f (txt s) = some ([], 0, 5) := by
  unfold lex_Tokens.f
  rw [txt_size, if_pos (by omega)]
theorem toksL_fuel (n : Nat) : ∀ (m : Nat) (s : List UInt8) (l : Int) (out : List S31), s.length < n → s.length < m → toksL n s l out = toksL m s l out := by
  induction n with
  | zero => intro m s l out h _; omega
  | succ n ih =>
    intro m s l out h1 h2
    obtain ⟨m, rfl⟩ : ∃ q, m = q + 1 := ⟨m - 1, by omega⟩
    rw [toksL_step, toksL_step]
    have hl := sk_len s false l
    generalize (sk false s l).1 = r at hl ⊢
    generalize (sk false s l).2 = l2
    unfold tokStep
    cases r with
    | nil => rfl
    | cons c t =>
      have hne : ¬ (c :: t = []) := by simp
      rw [if_neg hne, if_neg hne]
      by_cases he : (nextL (c :: t) l2).2.1 = 0
      · rw [if_pos he, if_pos he]
        have := next_len c t l2 he
        simp at hl
        exact ih _ _ _ _ (by omega) (by omega)
      · rw [if_neg he, if_neg he]
theorem toksL_len (n : Nat) : ∀ (s : List UInt8) (l : Int) (out : List S31), (toksL n s l out).1.length ≤ out.length + s.length := by
  induction n with
  | zero => intro s l out; simp [toksL]
  | succ n ih =>
    intro s l out
    rw [toksL_step]
    have hl := sk_len s false l
    generalize (sk false s l).1 = r at hl ⊢
    generalize (sk false s l).2 = l2
    unfold tokStep
    cases r with
    | nil => rw [if_pos rfl]; simp
    | cons c t =>
      rw [if_neg (by simp)]
      by_cases he : (nextL (c :: t) l2).2.1 = 0
      · rw [if_pos he]
        have := next_len c t l2 he
        have h2 := ih (nextL (c :: t) l2).2.2 l2 (out ++ [(nextL (c :: t) l2).1])
        simp at hl h2
        omega
      · rw [if_neg he]; simp
theorem same_l (xs : List S31) (hx : xs.length ≤ 140737488351232) (k : Nat) : ∀ (i : Int), 0 ≤ i → i ≤ xs.length → xs.length - i.toNat < k → waybillplain_SameTokens.l0 k xs xs i = some true := by
  induction k with
  | zero => intro i _ _ h; omega
  | succ k ih =>
    intro i h0 h1 hk
    simp only [waybillplain_SameTokens.l0]
    by_cases h : i < (xs.length : Int)
    · rw [if_pos h, if_pos h0, if_pos h, if_neg (by simp), show wrap64 (i + 1) = i + 1 by unfold wrap64; omega]
      exact ih _ (by omega) (by omega) (by omega)
    · rw [if_neg h]
theorem same_refl (xs : List S31) (hx : xs.length ≤ 140737488351232) (k : Nat) (hk : xs.length < k) : waybillplain_SameTokens.f k xs xs = some true := by
  unfold waybillplain_SameTokens.f
  rw [if_pos rfl]
  exact same_l xs hx k 0 (by omega) (by omega) (by simpa using hk)
theorem all256 (P : UInt8 → Bool) (h : ∀ n : Fin 256, P (UInt8.ofNat n.val) = true) (c : UInt8) : P c = true := by
  have := h ⟨c.toNat, c.toNat_lt⟩
  simpa using this
theorem rletter (c : UInt8) : waybillref04_letter.f (c.toNat : Int) = some (letterB c) := by
  have := all256 (fun c => waybillref04_letter.f (c.toNat : Int) == some (letterB c)) (by decide +kernel) c
  exact eq_of_beq this
theorem rdigit (c : UInt8) : waybillref04_digit.f (c.toNat : Int) = some (digitB c) := by
  have := all256 (fun c => waybillref04_digit.f (c.toNat : Int) == some (digitB c)) (by decide +kernel) c
  exact eq_of_beq this
theorem rpart (c : UInt8) : waybillref04_part.f (c.toNat : Int) = some (partB c) := by
  have := all256 (fun c => waybillref04_part.f (c.toNat : Int) == some (partB c)) (by decide +kernel) c
  exact eq_of_beq this
theorem rsign12 (c : UInt8) : waybillref04_sign.f 12 (c.toNat : Int) = some (signB c) := by
  have := all256 (fun c => waybillref04_sign.f 12 (c.toNat : Int) == some (signB c)) (by decide +kernel) c
  exact eq_of_beq this
theorem rsign (c : UInt8) (k : Nat) (hk : 12 ≤ k) : waybillref04_sign.f k (c.toNat : Int) = some (signB c) := by
  obtain ⟨j, rfl⟩ : ∃ j, k = 12 + j := ⟨k - 12, by omega⟩
  clear hk
  induction j with
  | zero => exact rsign12 c
  | succ j ih => exact waybillref04_sign.mono _ _ _ ih
theorem part_or (c : UInt8) (h : partB c = true) (h2 : letterB c = false) : digitB c = true ∧ c ≠ 95 ∨ digitB c = false ∧ c = 95 := by
  have := all256 (fun c => !(partB c) || letterB c || (digitB c && c != 95) || (!(digitB c) && c == 95)) (by decide +kernel) c
  simp only [h, h2, Bool.not_true, Bool.false_or] at this
  rcases Bool.or_eq_true_iff.1 this with h | h
  · left; simpa using h
  · right; simpa using h
theorem tn9 (c : UInt8) : ((c.toNat : Int) = 9) ↔ c = 9 := ⟨fun h => by rw [← UInt8.toNat_inj]; show c.toNat = 9; omega, fun h => by rw [h]; rfl⟩
theorem tn10 (c : UInt8) : ((c.toNat : Int) = 10) ↔ c = 10 := ⟨fun h => by rw [← UInt8.toNat_inj]; show c.toNat = 10; omega, fun h => by rw [h]; rfl⟩
theorem tn13 (c : UInt8) : ((c.toNat : Int) = 13) ↔ c = 13 := ⟨fun h => by rw [← UInt8.toNat_inj]; show c.toNat = 13; omega, fun h => by rw [h]; rfl⟩
theorem tn32 (c : UInt8) : ((c.toNat : Int) = 32) ↔ c = 32 := ⟨fun h => by rw [← UInt8.toNat_inj]; show c.toNat = 32; omega, fun h => by rw [h]; rfl⟩
theorem tn35 (c : UInt8) : ((c.toNat : Int) = 35) ↔ c = 35 := ⟨fun h => by rw [← UInt8.toNat_inj]; show c.toNat = 35; omega, fun h => by rw [h]; rfl⟩
theorem tn48 (c : UInt8) : ((c.toNat : Int) = 48) ↔ c = 48 := ⟨fun h => by rw [← UInt8.toNat_inj]; show c.toNat = 48; omega, fun h => by rw [h]; rfl⟩
theorem bt0 (c : UInt8) (t : List UInt8) : bt (txt (c :: t)) 0 = (c.toNat : Int) := by
  have := bt_txt (c :: t) 0 (by simp)
  simpa using this
theorem word_l (q : List UInt8) (hq : q ≠ []) (hl : q.length ≤ 70000) : ∀ (d k i : Nat), i + d = q.length → d < k → waybillref04_word.l0 k (txt q) (i : Int) = if (q.drop i).all digitB = false ∨ q.length > 9 ∨ (q.headD 0 = 48 ∧ q.length > 1) then some (2, 4) else some (2, 0) := by
  intro d
  induction d with
  | zero =>
    intro k i hi hk
    obtain ⟨k, rfl⟩ : ∃ n, k = n + 1 := ⟨k - 1, by omega⟩
    rw [waybillref04_word.l0, if_neg (by rw [txt_size]; omega), List.drop_eq_nil_of_le (by omega), txt_size]
    cases q with
    | nil => exact absurd rfl hq
    | cons c t =>
      have h48 := tn48 c
      rw [bt0]
      have e1 : ¬ (([] : List UInt8).all digitB = false) := by simp
      have e2 : (c :: t).headD 0 = c := rfl
      have e3 : (0 : Int) < ((c :: t).length : Int) := by rw [List.length_cons]; omega
      rw [e2, if_pos e3]
      by_cases h9 : ((c :: t).length : Int) > 9
      · rw [if_pos h9, if_pos (.inr (.inl (by omega)))]
      · rw [if_neg h9]
        by_cases h4 : c = 48
        · rw [if_pos (show (c.toNat : Int) = 48 from by rw [h4]; rfl)]
          by_cases h1 : ((c :: t).length : Int) > 1
          · rw [if_pos h1, if_pos (.inr (.inr ⟨h4, by omega⟩))]
          · rw [if_neg h1, if_neg]
            rintro (h | h | ⟨_, h⟩)
            · exact e1 h
            · omega
            · omega
        · rw [if_neg (show ¬ (c.toNat : Int) = 48 from fun h => h4 (h48.1 h)), if_neg]
          rintro (h | h | ⟨h, _⟩)
          · exact e1 h
          · omega
          · exact h4 h
  | succ d ih =>
    intro k i hi hk
    obtain ⟨k, rfl⟩ : ∃ n, k = n + 1 := ⟨k - 1, by omega⟩
    have hlt : i < q.length := by omega
    have hdr : q.drop i = q[i] :: q.drop (i + 1) := List.drop_eq_getElem_cons hlt
    rw [waybillref04_word.l0, if_pos (by rw [txt_size]; omega), if_pos (by omega), bt_txt q i hlt, rdigit, obind, hdr, List.all_cons]
    by_cases h : digitB q[i] = true
    · rw [if_pos h, show wrap64 ((i : Int) + 1) = ((i + 1 : Nat) : Int) by unfold wrap64; omega, ih k (i + 1) (by omega) (by omega), h, Bool.true_and]
    · rw [if_neg h, if_pos (.inl (by rw [Bool.eq_false_iff.mpr h]; rfl))]
theorem word_f (q : List UInt8) (hq : q ≠ []) (hl : q.length ≤ 70000) (hp : ∀ c ∈ q, partB c = true) (k : Nat) (hk : q.length + 3 ≤ k) : ∃ a, waybillref04_word.f k (txt q) = some (a, (kindL q).2) ∧ ((kindL q).2 = 0 → a = (kindL q).1) := by
  cases q with
  | nil => exact absurd rfl hq
  | cons c t =>
    obtain ⟨k, rfl⟩ : ∃ n, k = n + 1 := ⟨k - 1, by omega⟩
    have e3 : (0 : Int) < ((txt (c :: t)).size : Int) := by rw [txt_size, List.length_cons]; omega
    unfold waybillref04_word.f kindL
    rw [if_pos e3, bt0, rletter, obind, show (c :: t).headD 0 = c from rfl]
    by_cases hL : letterB c = true
    · rw [if_pos hL]
      by_cases h32 : ((c :: t).length : Int) > 32
      · rw [txt_size, decide_eq_true h32, waybillref04_word.j0, if_pos rfl, if_pos ⟨hL, by omega⟩]
        exact ⟨1, rfl, fun h => absurd (show (31 : Int) = 0 from h) (by decide)⟩
      · rw [txt_size, decide_eq_false h32, waybillref04_word.j0, if_neg (by decide), if_pos e3, bt0, rletter, obind, if_pos hL, if_neg (by rintro ⟨_, h⟩; omega), if_pos hL]
        exact ⟨1, rfl, fun _ => rfl⟩
    · rw [if_neg hL, waybillref04_word.j0, if_neg (by decide), if_pos e3, bt0, rletter, obind, if_neg hL, rdigit, obind, if_neg (show ¬ (letterB c = true ∧ (c :: t).length > 32) from fun h => hL h.1), if_neg hL]
      rcases part_or c (hp c List.mem_cons_self) (Bool.eq_false_iff.mpr hL) with ⟨hd, h95⟩ | ⟨hd, h95⟩
      · rw [if_pos hd, if_neg h95]
        have := word_l (c :: t) hq hl (c :: t).length k 0 (by simp) (by omega)
        rw [show ((0 : Nat) : Int) = 0 from rfl, List.drop_zero, show (c :: t).headD 0 = c from rfl] at this
        rw [this]
        split
        · exact ⟨2, rfl, fun h => absurd (show (4 : Int) = 0 from h) (by decide)⟩
        · exact ⟨2, rfl, fun _ => rfl⟩
      · rw [if_neg (by rw [hd]; decide), if_pos h95]
        exact ⟨0, rfl, fun h => absurd (show (32 : Int) = 0 from h) (by decide)⟩
theorem T_nil (M : Nat) (l : Int) (out : List S31) : toksL (M + 1) [] l out = (out, 0, 0) := rfl
theorem T_nl (M : Nat) (t : List UInt8) (l : Int) (out : List S31) : toksL (M + 1) (10 :: t) l out = toksL (M + 1) t (l + 1) out := by rw [toksL_step, toksL_step, sk_line]
theorem T_blank (M : Nat) (c : UInt8) (t : List UInt8) (l : Int) (out : List S31) (h1 : c ≠ 10) (h2 : c ≠ 35) (h3 : blankB c = true) : toksL (M + 1) (c :: t) l out = toksL (M + 1) t l out := by rw [toksL_step, toksL_step, sk_blank c t l h1 h2 h3]
theorem T_hash (M : Nat) (t : List UInt8) (l : Int) (out : List S31) : toksL (M + 1) (35 :: t) l out = toksL (M + 1) ((35 :: t).drop (remL (35 :: t)).length) l out := by
  rw [toksL_step, toksL_step, (sk_hash (35 :: t) rfl l).1]
theorem T_tok (M : Nat) (c : UInt8) (t : List UInt8) (l : Int) (out : List S31) (hM : t.length < M) (h1 : c ≠ 10) (h2 : c ≠ 35) (h3 : blankB c = false) : toksL (M + 1) (c :: t) l out = if (nextL (c :: t) l).2.1 = 0 then toksL (M + 1) (nextL (c :: t) l).2.2 l (out ++ [(nextL (c :: t) l).1]) else ([], l, (nextL (c :: t) l).2.1) := by
  rw [toksL_step, sk_stop c t l h1 h2 h3]
  show tokStep M (c :: t) l out = _
  unfold tokStep
  have hne : ¬ (c :: t = []) := by simp
  rw [if_neg hne]
  by_cases he : (nextL (c :: t) l).2.1 = 0
  · rw [if_pos he, if_pos he]
    have := next_len c t l he
    exact toksL_fuel _ _ _ _ _ (by omega) (by omega)
  · rw [if_neg he, if_neg he]
theorem tw_mem (p : UInt8 → Bool) : ∀ (s : List UInt8) (c : UInt8), c ∈ s.takeWhile p → p c = true
  | [], c, h => by simp at h
  | x :: t, c, h => by
    rw [List.takeWhile_cons] at h
    by_cases hp : p x = true
    · rw [if_pos hp] at h
      rcases List.mem_cons.1 h with rfl | h
      · exact hp
      · exact tw_mem p t c h
    · rw [if_neg hp] at h; simp at h
theorem tw_take (p : UInt8 → Bool) : ∀ (s : List UInt8), s.take (s.takeWhile p).length = s.takeWhile p
  | [] => rfl
  | x :: t => by
    rw [List.takeWhile_cons]
    by_cases hp : p x = true
    · rw [if_pos hp]; simpa using tw_take p t
    · rw [if_neg hp]; rfl
section
variable (s : List UInt8) (hs : s.length ≤ 65536)
include hs
theorem ref_l1 (out : List S31) (l : Int) (k : Nat) : ∀ (q i : Nat), i ≤ s.length → (remL (s.drop i)).length = q → waybillref04_Tokens.l1 (k + q + 1) (txt s) out l (i : Int) = waybillref04_Tokens.l0 k (txt s) out l ((i + q : Nat) : Int) := by
  intro q
  induction q with
  | zero =>
    intro i hi hq
    rw [waybillref04_Tokens.l1, txt_size]
    by_cases hlt : i < s.length
    · rw [if_pos (by omega), if_pos (by omega), bt_txt s i hlt]
      have hdr : s.drop i = s[i] :: s.drop (i + 1) := List.drop_eq_getElem_cons hlt
      rw [hdr] at hq
      have h10 : s[i] = 10 := by
        apply Classical.byContradiction
        intro h
        unfold remL at hq
        rw [List.takeWhile_cons, if_pos (by simpa using h)] at hq
        simp at hq
      rw [if_pos (by rw [h10]; rfl)]
      rfl
    · rw [if_neg (by omega)]; rfl
  | succ q ih =>
    intro i hi hq
    have hlt : i < s.length := by
      apply Classical.byContradiction
      intro h
      rw [List.drop_eq_nil_of_le (by omega)] at hq
      simp [remL] at hq
    have hdr : s.drop i = s[i] :: s.drop (i + 1) := List.drop_eq_getElem_cons hlt
    rw [hdr] at hq
    have h10 : s[i] ≠ 10 := by
      intro h
      rw [h] at hq
      simp [remL] at hq
    have hq2 : (remL (s.drop (i + 1))).length = q := by
      unfold remL at hq ⊢
      rw [List.takeWhile_cons, if_pos (by simpa using h10)] at hq
      simpa using hq
    rw [waybillref04_Tokens.l1, txt_size, if_pos (by omega), if_pos (by omega), bt_txt s i hlt, if_neg (fun h => h10 ((tn10 _).1 h)), show wrap64 ((i : Int) + 1) = ((i + 1 : Nat) : Int) by unfold wrap64; omega, show k + (q + 1) = k + q + 1 by omega, ih (i + 1) (by omega) hq2]
    congr 1; omega
theorem ref_l2 (out : List S31) (l : Int) (k i0 : Nat) : ∀ (q j : Nat), i0 ≤ j → j ≤ s.length → (runL (s.drop j)).length = q → waybillref04_Tokens.l2 (k + q + 1) (txt s) out l (i0 : Int) (j : Int) =
    ((waybillref04_word.f k ((txt s).extract i0 (j + q))).bind fun bt124 => (if bt124.2 = 0 then (if out.length < 4398046511104 then (waybillref04_Tokens.l0 k (txt s) (out ++ [(⟨bt124.1, (txt s).extract i0 (j + q), l⟩ : S31)]) l ((j + q : Nat) : Int)) else (none)) else (some (([] : List (S31)), l, bt124.2)))) := by
  intro q
  induction q with
  | zero =>
    intro j hij hj hq
    have q1 : (i0 : Int) ≤ (j : Int) := by omega
    have q2 : (j : Int) ≤ (s.length : Int) := by omega
    rw [waybillref04_Tokens.l2, txt_size]
    by_cases hlt : j < s.length
    · have hdr : s.drop j = s[j] :: s.drop (j + 1) := List.drop_eq_getElem_cons hlt
      rw [hdr] at hq
      have hp : partB s[j] = false := by
        apply Classical.byContradiction
        intro h
        unfold runL at hq
        rw [List.takeWhile_cons, if_pos (by simpa using h)] at hq
        simp at hq
      rw [if_pos (by omega), if_pos (by omega), bt_txt s j hlt, rpart, obind, if_neg (by rw [hp]; decide), if_pos (by omega), if_pos q1, if_pos q2]
      rfl
    · rw [if_neg (by omega), if_pos (by omega), if_pos q1, if_pos q2]
      rfl
  | succ q ih =>
    intro j hij hj hq
    have hlt : j < s.length := by
      apply Classical.byContradiction
      intro h
      rw [List.drop_eq_nil_of_le (by omega)] at hq
      simp [runL] at hq
    have hdr : s.drop j = s[j] :: s.drop (j + 1) := List.drop_eq_getElem_cons hlt
    rw [hdr] at hq
    have hp : partB s[j] = true := by
      apply Classical.byContradiction
      intro h
      unfold runL at hq
      rw [List.takeWhile_cons, if_neg h] at hq
      simp at hq
    have hq2 : (runL (s.drop (j + 1))).length = q := by
      unfold runL at hq ⊢
      rw [List.takeWhile_cons, if_pos hp] at hq
      simpa using hq
    rw [waybillref04_Tokens.l2, txt_size, if_pos (by omega), if_pos (by omega), bt_txt s j hlt, rpart, obind, if_pos hp, show wrap64 ((j : Int) + 1) = ((j + 1 : Nat) : Int) by unfold wrap64; omega, show k + (q + 1) = k + q + 1 by omega, ih (j + 1) (by omega) (by omega) hq2, show j + 1 + q = j + (q + 1) by omega]
theorem ref_l0 (N : Nat) : ∀ (i k : Nat) (l : Int) (out : List S31), s.length - i = N → i ≤ s.length → 200 + 5 * N ≤ k → 0 ≤ l → l ≤ i + 1 → out.length ≤ i → waybillref04_Tokens.l0 k (txt s) out l (i : Int) = some (toksL (s.length + 1) (s.drop i) l out) := by
  induction N using Nat.strongRecOn with
  | _ N ih =>
  intro i k l out hN hi hk hl0 hl1 ho
  obtain ⟨k, rfl⟩ : ∃ n, k = n + 1 + 1 := ⟨k - 2, by omega⟩
  by_cases hlt : i < s.length
  · have hdr : s.drop i = s[i] :: s.drop (i + 1) := List.drop_eq_getElem_cons hlt
    have hw : wrap64 ((i : Int) + 1) = ((i + 1 : Nat) : Int) := by unfold wrap64; omega
    have hwl : wrap64 (l + 1) = l + 1 := by unfold wrap64; omega
    rw [waybillref04_Tokens.l0, txt_size, if_pos (by omega), if_pos (by omega), bt_txt s i hlt, hw]
    by_cases h10 : s[i] = 10
    · rw [if_pos ((tn10 _).2 h10), hdr, h10, T_nl, hwl]
      exact ih (N - 1) (by omega) (i + 1) (k + 1) (l + 1) out (by omega) (by omega) (by omega) (by omega) (by omega) (by omega)
    · rw [if_neg (fun h => h10 ((tn10 _).1 h))]
      have hj : ∀ b, b = blankB s[i] → waybillref04_Tokens.j1 (k + 1) (txt s) out l (i : Int) ((s[i].toNat : Nat) : Int) b = some (toksL (s.length + 1) (s.drop i) l out) := by
        intro b hb
        rw [waybillref04_Tokens.j1, hw]
        have hnb : s[i] = 35 → blankB s[i] = false := fun h => by rw [h]; decide
        by_cases hB : b = true
        · have h35 : s[i] ≠ 35 := fun h => by rw [hb, hnb h] at hB; cases hB
          rw [if_pos hB, hdr, T_blank _ _ _ _ _ h10 h35 (by rw [← hb]; exact hB)]
          exact ih (N - 1) (by omega) (i + 1) k l out (by omega) (by omega) (by omega) (by omega) (by omega) (by omega)
        · rw [if_neg hB]
          have hB : blankB s[i] = false := by rw [← hb]; exact Bool.eq_false_iff.mpr hB
          by_cases h35 : s[i] = 35
          · rw [if_pos ((tn35 _).2 h35)]
            obtain ⟨q, hq⟩ : ∃ q, q = (remL (s.drop i)).length := ⟨_, rfl⟩
            have hql : q ≤ s.length - i := by rw [hq]; have := tw_len (fun x => x != 10) (s.drop i); simpa [remL] using this
            have hq0 : 0 < q := by rw [hq, hdr]; exact (sk_hash (s[i] :: s.drop (i + 1)) h35 0).2
            obtain ⟨k, rfl⟩ : ∃ n, k = n + q + 1 := ⟨k - q - 1, by omega⟩
            rw [ref_l1 s hs out l k q i hi hq.symm, ih (N - q) (by omega) (i + q) k l out (by omega) (by omega) (by omega) (by omega) (by omega) (by omega)]
            rw [hdr, h35, T_hash, ← h35, ← hdr, ← hq, List.drop_drop]
          · rw [if_neg (fun h => h35 ((tn35 _).1 h)), rsign _ _ (by omega), obind, hdr, T_tok _ _ _ _ _ (by simp; omega) h10 h35 hB]
            unfold nextL
            rw [show (s[i] :: s.drop (i + 1)).headD 0 = s[i] from rfl]
            by_cases hsg : signB s[i] = true
            · rw [if_pos hsg, if_pos hsg, if_pos (by omega), if_pos (by omega), txt_size, if_pos (by omega), if_pos (by omega)]
              simp only [Int.toNat_natCast]
              rw [txt_extract, hdr, show i + 1 - i = 1 by omega]
              rw [ih (N - 1) (by omega) (i + 1) k l _ (by omega) (by omega) (by omega) (by omega) (by omega) (by simp; omega)]
              simp
            · rw [if_neg hsg, if_neg hsg, rpart, obind]
              by_cases hp : partB s[i] = true
              · rw [if_pos hp]
                obtain ⟨q, hq⟩ : ∃ q, q = (runL (s.drop i)).length := ⟨_, rfl⟩
                have hql : q ≤ s.length - i := by rw [hq]; have := tw_len partB (s.drop i); simpa [runL] using this
                have hrne : runL (s.drop i) ≠ [] := by rw [hdr]; unfold runL; rw [List.takeWhile_cons, if_pos hp]; simp
                have hq0 : 0 < q := by rw [hq]; exact List.length_pos_iff.2 hrne
                obtain ⟨k, rfl⟩ : ∃ n, k = n + q + 1 := ⟨k - q - 1, by omega⟩
                rw [ref_l2 s hs out l k i q i (by omega) hi hq.symm, txt_extract, show i + q - i = q by omega]
                have htk : (s.drop i).take q = runL (s.drop i) := by rw [hq]; exact tw_take partB _
                rw [htk, ← hdr]
                obtain ⟨a, ha, hk0⟩ := word_f (runL (s.drop i)) hrne (by omega) (fun c hc => tw_mem partB _ _ hc) k (by omega)
                rw [ha, obind, if_neg hrne, ← hq]
                by_cases he : (kindL (runL (s.drop i))).2 = 0
                · rw [if_pos he, if_pos he, hk0 he, if_pos (by omega), ih (N - q) (by omega) (i + q) k l _ (by omega) (by omega) (by omega) (by omega) (by omega) (by simp; omega), List.drop_drop]
                · rw [if_neg he, if_neg he]
              · rw [if_neg hp]
                have hr : runL (s[i] :: s.drop (i + 1)) = [] := by unfold runL; rw [List.takeWhile_cons, if_neg hp]
                rw [if_pos hr]
                rfl
      have hbl : blankB s[i] = (decide (s[i] = 32) || decide (s[i] = 9) || decide (s[i] = 13)) := by
        have := all256 (fun c => blankB c == (decide (c = 32) || decide (c = 9) || decide (c = 13))) (by decide +kernel) s[i]
        exact eq_of_beq this
      by_cases h32 : s[i] = 32
      · rw [if_pos ((tn32 _).2 h32)]
        exact hj true (by rw [hbl, decide_eq_true h32]; rfl)
      · rw [if_neg (fun h => h32 ((tn32 _).1 h))]
        by_cases h9 : s[i] = 9
        · rw [if_pos ((tn9 _).2 h9)]
          exact hj true (by rw [hbl, decide_eq_true h9]; simp)
        · rw [if_neg (fun h => h9 ((tn9 _).1 h))]
          refine hj _ ?_
          rw [hbl, decide_eq_false h32, decide_eq_false h9, Bool.false_or, Bool.false_or]
          by_cases h13 : s[i] = 13
          · rw [decide_eq_true h13, h13]; rfl
          · rw [decide_eq_false h13]
            exact beq_eq_false_iff_ne.2 (fun h => h13 ((tn13 _).1 h))
  · rw [waybillref04_Tokens.l0, txt_size, if_neg (by omega), List.drop_eq_nil_of_le (by omega)]
    rfl
end
theorem ref_f (s : List UInt8) (k : Nat) (hk : 200 + 5 * 65536 ≤ k) : waybillref04_Tokens.f k (txt s) = lex_Tokens.f (txt s) := by
  unfold waybillref04_Tokens.f
  by_cases h : s.length ≤ 65536
  · rw [toks_f s h, txt_size, if_neg (by omega)]
    have := ref_l0 s h s.length 0 k 1 [] (by omega) (by omega) (by omega) (by omega) (by omega) (by simp)
    simpa using this
  · rw [toks_big s h, txt_size, if_pos (by omega)]
theorem sk_lines (s : List UInt8) : ∀ (n : Nat) (l : Int), sk false (List.replicate n 10 ++ s) l = sk false s (l + n)
  | 0, l => by simp
  | n + 1, l => by
    rw [List.replicate_succ, List.cons_append, sk_line, sk_lines s n]
    congr 1; push_cast; omega
theorem sk_head : ∀ (s : List UInt8) (b : Bool) (l : Int) (c : UInt8) (t : List UInt8), (sk b s l).1 = c :: t → c ≠ 10 ∧ c ≠ 35 ∧ blankB c = false
  | [], b, l, c, t, h => by cases b <;> simp [sk] at h
  | x :: s, true, l, c, t, h => by
    unfold sk at h
    split at h
    · exact sk_head s false _ c t h
    · exact sk_head s true _ c t h
  | x :: s, false, l, c, t, h => by
    unfold sk at h
    split at h
    · exact sk_head s false _ c t h
    · rename_i h1
      split at h
      · exact sk_head s true _ c t h
      · rename_i h2
        split at h
        · exact sk_head s false _ c t h
        · rename_i h3
          simp only [List.cons.injEq] at h
          obtain ⟨rfl, _⟩ := h
          exact ⟨h1, h2, Bool.eq_false_iff.mpr h3⟩
/-- What is left behind the skipping is an end of the text. -/
theorem sk_suf : ∀ (s : List UInt8) (b : Bool) (l : Int), ∃ p, s = p ++ (sk b s l).1
  | [], b, l => ⟨[], by cases b <;> rfl⟩
  | x :: s, true, l => by
    unfold sk
    split
    · obtain ⟨p, hp⟩ := sk_suf s false (l + 1); exact ⟨x :: p, by rw [List.cons_append, ← hp]⟩
    · obtain ⟨p, hp⟩ := sk_suf s true l; exact ⟨x :: p, by rw [List.cons_append, ← hp]⟩
  | x :: s, false, l => by
    unfold sk
    split
    · obtain ⟨p, hp⟩ := sk_suf s false (l + 1); exact ⟨x :: p, by rw [List.cons_append, ← hp]⟩
    · split
      · obtain ⟨p, hp⟩ := sk_suf s true l; exact ⟨x :: p, by rw [List.cons_append, ← hp]⟩
      · split
        · obtain ⟨p, hp⟩ := sk_suf s false l; exact ⟨x :: p, by rw [List.cons_append, ← hp]⟩
        · exact ⟨[], rfl⟩
/-- A text that is one token: a sign, or a run of its kind. -/
def oneQ (k : Int) (q : List UInt8) : Prop := (∃ c, q = [c] ∧ signB c = true ∧ k = 3) ∨ (∃ c t, q = c :: t ∧ signB c = false ∧ runL q = q ∧ kindL q = (k, 0))
def plainHead (q : List UInt8) : Prop := ∃ c t, q = c :: t ∧ c ≠ 10 ∧ c ≠ 35 ∧ blankB c = false
theorem tw_idem (p : UInt8 → Bool) : ∀ s : List UInt8, (s.takeWhile p).takeWhile p = s.takeWhile p
  | [] => rfl
  | x :: t => by
    rw [List.takeWhile_cons]
    by_cases h : p x = true
    · rw [if_pos h, List.takeWhile_cons, if_pos h, tw_idem p t]
    · rw [if_neg h]; rfl
/-- What the next one is: of what stands at the head. -/
theorem next_one (c : UInt8) (t : List UInt8) (l : Int) (h : (nextL (c :: t) l).2.1 = 0) : ∃ q r, c :: t = q ++ r ∧ (nextL (c :: t) l).1.f1 = txt q ∧ (nextL (c :: t) l).2.2 = r ∧ (nextL (c :: t) l).1.f2 = l ∧ oneQ (nextL (c :: t) l).1.f0 q ∧ q.head? = some c := by
  unfold nextL at h ⊢
  rw [show (c :: t).headD 0 = c from rfl] at h ⊢
  by_cases hs : signB c = true
  · rw [if_pos hs]
    exact ⟨[c], t, rfl, rfl, rfl, rfl, .inl ⟨c, rfl, hs, rfl⟩, rfl⟩
  · rw [if_neg hs] at h ⊢
    by_cases hr : runL (c :: t) = []
    · rw [if_pos hr] at h; exact absurd (show (32 : Int) = 0 from h) (by decide)
    · rw [if_neg hr] at h ⊢
      have hp : partB c = true := by
        apply Classical.byContradiction
        intro hp
        apply hr
        unfold runL; rw [List.takeWhile_cons, if_neg hp]
      have e : runL (c :: t) = c :: runL t := by unfold runL; rw [List.takeWhile_cons, if_pos hp]
      refine ⟨runL (c :: t), (c :: t).drop (runL (c :: t)).length, ?_, rfl, rfl, rfl, .inr ⟨c, runL t, e, Bool.eq_false_iff.mpr hs, ?_, ?_⟩, by rw [e]; rfl⟩
      · have := tw_take partB (c :: t)
        have e2 : (c :: t).take (runL (c :: t)).length = runL (c :: t) := this
        rw [← e2]
        simp only [List.length_take]
        rw [show min (runL (c :: t)).length (c :: t).length = (runL (c :: t)).length by have := tw_len partB (c :: t); unfold runL; omega]
        rw [e2]
        exact (List.take_append_drop _ _).symm.trans (by rw [e2])
      · exact tw_idem partB _
      · exact Prod.ext rfl h
/-- And the other way round. -/
theorem one_next (k : Int) (q r : List UInt8) (l : Int) (h : oneQ k q) (hr : ∀ c t, r = c :: t → partB c = false) : nextL (q ++ r) l = (⟨k, txt q, l⟩, 0, r) := by
  rcases h with ⟨c, rfl, hs, rfl⟩ | ⟨c, t, rfl, hs, hrun, hk⟩
  · unfold nextL
    rw [show ([c] ++ r).headD 0 = c from rfl, if_pos hs]
    rfl
  · have hrun2 : runL (c :: t ++ r) = c :: t := by
      unfold runL at hrun ⊢
      have hall : ∀ x ∈ c :: t, partB x = true := by
        intro x hx
        rw [← hrun] at hx
        exact tw_mem partB _ x hx
      generalize c :: t = q at hall
      clear hrun hk hs
      induction q with
      | nil =>
        cases r with
        | nil => rfl
        | cons y r => rw [List.nil_append, List.takeWhile_cons, if_neg (by rw [hr y r rfl]; decide)]
      | cons x q ih =>
        rw [List.cons_append, List.takeWhile_cons, if_pos (hall x List.mem_cons_self), ih (fun y hy => hall y (List.mem_cons_of_mem _ hy))]
    unfold nextL
    rw [show (c :: t ++ r).headD 0 = c from rfl, if_neg (by rw [hs]; decide), hrun2, if_neg (by simp), hk]
    simp only [List.length_cons, Prod.mk.injEq, true_and]
    rw [List.cons_append, List.drop_succ_cons, List.drop_left]
theorem toks_pre (n : Nat) : ∀ (s : List UInt8) (l : Int) (out : List S31), (toksL n s l out).2.2 = 0 → ∃ m, (toksL n s l out).1 = out ++ m := by
  induction n with
  | zero => intro s l out h; exact ⟨[], by simp [toksL]⟩
  | succ n ih =>
    intro s l out
    rw [toksL_step]
    unfold tokStep
    split
    · intro _; exact ⟨[], by simp⟩
    · split
      · intro h
        obtain ⟨m, hm⟩ := ih _ _ _ h
        exact ⟨(nextL (sk false s l).1 (sk false s l).2).1 :: m, by rw [hm]; simp⟩
      · rename_i h; intro h2; exact absurd h2 h
theorem tokF_txt (q : List UInt8) (h : q.length ≤ 65536) : tokF (txt q) = toksL (q.length + 1) q 1 [] := by
  unfold tokF
  rw [txt_size, if_neg (by omega), txt_list]
theorem txt_inj {a b : List UInt8} (h : txt a = txt b) : a = b := by
  have := congrArg (fun x : ByteArray => x.data.toList) h
  simpa [txt] using this
theorem sk_plain (q r : List UInt8) (l : Int) (h : plainHead q) : sk false (q ++ r) l = (q ++ r, l) := by
  obtain ⟨c, t, rfl, h1, h2, h3⟩ := h
  rw [List.cons_append]; exact sk_stop c _ l h1 h2 h3
/-- One token alone. -/
theorem one_tok (k : Int) (q : List UInt8) (h : oneQ k q) (hp : plainHead q) (hl : q.length ≤ 65536) : tokF (txt q) = ([⟨k, txt q, 1⟩], 0, 0) := by
  rw [tokF_txt q hl]
  have hne : q.length ≠ 0 := by obtain ⟨c, t, rfl, _⟩ := hp; simp
  obtain ⟨n, hn⟩ : ∃ n, q.length = n + 1 := ⟨q.length - 1, by omega⟩
  have hs := sk_plain q [] 1 hp
  rw [List.append_nil] at hs
  have hx := one_next k q [] 1 h (fun c t h => by cases h)
  rw [List.append_nil] at hx
  rw [toksL_step, hs]
  show tokStep q.length q 1 [] = _
  unfold tokStep
  rw [if_neg (by rintro rfl; exact hne rfl), hx, if_pos rfl, hn]
  rfl
/-- A token that may be is its text's one token. -/
theorem check_one (t : S31) (h : checkT t = 0) : oneQ t.f0 t.f1.data.toList ∧ plainHead t.f1.data.toList ∧ 1 ≤ t.f2 ∧ t.f1.data.toList.length ≤ 65536 := by
  obtain ⟨q1, q2⟩ := checkT_ok t h
  obtain ⟨q, hq⟩ : ∃ q, t.f1 = txt q := ⟨t.f1.data.toList, (txt_data _).symm⟩
  rw [hq, txt_size] at q2
  have hlist : t.f1.data.toList = q := by rw [hq, txt_list]
  rw [hlist]
  unfold checkT at h
  by_cases c0 : t.f0 < 1
  · rw [if_pos c0] at h; exact absurd h (by decide)
  rw [if_neg c0] at h
  by_cases c1 : t.f0 > 3
  · rw [if_pos c1] at h; exact absurd h (by decide)
  rw [if_neg c1] at h
  by_cases c2 : (tokF t.f1).2.2 ≠ 0
  · rw [if_pos c2] at h; exact absurd h (by decide)
  rw [if_neg c2] at h
  by_cases c3 : (tokF t.f1).1.length ≠ 1
  · rw [if_pos c3] at h; exact absurd h (by decide)
  rw [if_neg c3] at h
  by_cases c4 : isTok (tokF t.f1).1 t = false
  · rw [if_pos c4] at h; exact absurd h (by decide)
  clear h c0 c1
  have c2 : (tokF t.f1).2.2 = 0 := Classical.not_not.mp c2
  have c3 : (tokF t.f1).1.length = 1 := Classical.not_not.mp c3
  have c4 : isTok (tokF t.f1).1 t = true := by simpa using c4
  rw [hq, tokF_txt q q2] at c2 c3 c4
  rw [toksL_step] at c2 c3 c4
  have hsuf := sk_suf q false 1
  have hhead := sk_head q false 1
  generalize (sk false q 1).1 = r at c2 c3 c4 hsuf hhead
  generalize (sk false q 1).2 = l2 at c2 c3 c4
  unfold tokStep at c2 c3 c4
  cases r with
  | nil => rw [if_pos rfl] at c3; simp at c3
  | cons c u =>
    rw [if_neg (by simp)] at c2 c3 c4
    by_cases he : (nextL (c :: u) l2).2.1 = 0
    · rw [if_pos he] at c2 c3 c4
      obtain ⟨p, r2, e1, e2, e3, e4, e5, e6⟩ := next_one c u l2 he
      obtain ⟨m, hm⟩ := toks_pre _ _ _ _ c2
      rw [hm] at c3 c4
      have hm0 : m = [] := by
        apply List.eq_nil_of_length_eq_zero
        simp only [List.length_append, List.length_cons, List.length_nil] at c3; omega
      subst hm0
      have hrd : rd_T31 (([] ++ [(nextL (c :: u) l2).1]) ++ []) 0 = (nextL (c :: u) l2).1 := rfl
      unfold isTok at c4
      rw [hrd, e2] at c4
      simp only [Bool.and_eq_true, beq_iff_eq, txt_toList] at c4
      obtain ⟨d1, d2, d3⟩ := c4
      rw [hq, txt_toList] at d2
      subst d2
      obtain ⟨pre, hpre⟩ := hsuf
      have hlen := congrArg List.length hpre
      have hlen2 := congrArg List.length e1
      simp only [List.length_append] at hlen hlen2
      have hr2 : r2 = [] := List.eq_nil_of_length_eq_zero (by omega)
      subst hr2
      rw [List.append_nil] at e1
      refine ⟨by rw [← d1]; exact e5, ⟨c, u, e1.symm, hhead c u rfl⟩, q1, q2⟩
    · rw [if_neg he] at c2; exact absurd c2 he
theorem one_kind (k : Int) (q : List UInt8) (h : oneQ k q) : 1 ≤ k ∧ k ≤ 3 := by
  rcases h with ⟨c, _, _, rfl⟩ | ⟨c, t, _, _, _, hk⟩
  · omega
  · unfold kindL at hk
    split at hk
    · injection hk with a b; exact absurd b (by decide)
    · split at hk
      · injection hk with a b; omega
      · split at hk
        · injection hk with a b; exact absurd b (by decide)
        · split at hk
          · injection hk with a b; exact absurd b (by decide)
          · injection hk with a b; omega
theorem check_mk (t : S31) (q : List UInt8) (hq : t.f1 = txt q) (h : oneQ t.f0 q) (hp : plainHead q) (hl : q.length ≤ 65536) (h1 : 1 ≤ t.f2) : checkT t = 0 := by
  have hk := one_kind _ _ h
  unfold checkT
  rw [if_neg (by omega), if_neg (by omega), hq, one_tok t.f0 q h hp hl, if_neg (by simp), if_neg (by simp), if_neg, if_neg (by omega)]
  unfold isTok
  rw [hq]
  show ¬ (t.f0 == t.f0 && ((txt q).toList == (txt q).toList && (1 : Int) == 1)) = false
  simp
theorem part32 : partB 32 = false := by decide +kernel
theorem part10 : partB 10 = false := by decide +kernel
theorem blank32 : blankB 32 = true := by decide +kernel
theorem rep10 : ∀ d, rep [10] d = List.replicate d 10
  | 0 => rfl
  | d + 1 => by rw [rep, rep10 d]; rfl
theorem tail_head (r : List S31) (line : Int) (h : okA line r) (c : UInt8) (t : List UInt8) (e : txtA true line r ++ [10] = c :: t) : partB c = false := by
  cases r with
  | nil => simp [txtA] at e; rw [← e.1]; exact part10
  | cons u r =>
    obtain ⟨o1, _⟩ := h
    rw [txtA_step] at e
    by_cases hu : u.f2 = line
    · rw [if_pos ⟨hu, rfl⟩] at e
      simp only [List.cons_append, List.cons.injEq] at e
      rw [← e.1]; exact part32
    · obtain ⟨d, hd⟩ : ∃ d, (u.f2 - line).toNat = d + 1 := ⟨(u.f2 - line).toNat - 1, by omega⟩
      rw [if_neg (fun h => hu h.1), hd, rep] at e
      simp only [List.cons_append, List.cons.injEq, List.nil_append] at e
      rw [← e.1]; exact part10
/-- Tokens on their lines are read again. -/
theorem read_txt : ∀ (r : List S31) (nf : Bool) (line : Int) (n : Nat) (out : List S31), (∀ t ∈ r, checkT t = 0) → okA line r → (txtA nf line r ++ [10]).length < n → toksL n (txtA nf line r ++ [10]) line out = (out ++ r, 0, 0)
  | [], nf, line, n, out, _, _, hn => by
    obtain ⟨n, rfl⟩ : ∃ m, n = m + 1 := ⟨n - 1, by omega⟩
    simp only [txtA, List.nil_append, List.append_nil]
    rw [toksL_step, sk_line]
    rfl
  | t :: r, nf, line, n, out, hc, ho, hn => by
    obtain ⟨o1, o2, o3, o4⟩ := ho
    obtain ⟨k1, k2, k3, k4⟩ := check_one t (hc t List.mem_cons_self)
    obtain ⟨n, rfl⟩ : ∃ m, n = m + 1 := ⟨n - 1, by omega⟩
    rw [txtA_step] at hn ⊢
    generalize hq : t.f1.data.toList = q at k1 k2 k4 hn ⊢
    have hR := tail_head r t.f2 o4
    have hne : q ≠ [] := by obtain ⟨c, u, rfl, _⟩ := k2; simp
    have hq0 : 0 < q.length := List.length_pos_iff.2 hne
    have hsk : sk false ((if t.f2 = line ∧ nf = true then [32] else []) ++ (rep [10] (t.f2 - line).toNat ++ (q ++ txtA true t.f2 r)) ++ [10]) line = (q ++ (txtA true t.f2 r ++ [10]), t.f2) := by
      have hb : sk false (rep [10] (t.f2 - line).toNat ++ (q ++ (txtA true t.f2 r ++ [10]))) line = (q ++ (txtA true t.f2 r ++ [10]), t.f2) := by
        rw [rep10, sk_lines, sk_plain q _ _ k2]
        congr 1; omega
      split
      · simp only [List.append_assoc, List.cons_append, List.nil_append]
        rw [sk_blank 32 _ _ (by decide) (by decide) blank32]
        exact hb
      · simp only [List.append_assoc, List.nil_append]
        exact hb
    rw [toksL_step, hsk]
    show tokStep n (q ++ (txtA true t.f2 r ++ [10])) t.f2 out = _
    unfold tokStep
    rw [if_neg (by simp [hne]), one_next t.f0 q _ t.f2 k1 hR, if_pos rfl]
    have ht : (⟨t.f0, txt q, t.f2⟩ : S31) = t := by
      have : txt q = t.f1 := by rw [← hq]; exact txt_data _
      rw [this]
    rw [ht]
    have := read_txt r true t.f2 n (out ++ [t]) (fun u hu => hc u (List.mem_cons_of_mem _ hu)) o4 (by simp only [List.length_append] at hn ⊢; omega)
    rw [this, List.append_assoc]; rfl
theorem ck_all : ∀ (l : List S31) (last : Int), ckL last l = 0 → ∀ t ∈ l, checkT t = 0
  | [], _, _, t, ht => by simp at ht
  | u :: r, last, h, t, ht => by
    unfold ckL at h
    by_cases c0 : checkT u = 0
    · rw [if_pos c0] at h
      by_cases c1 : u.f2 < last
      · rw [if_pos c1] at h; exact absurd h (by decide)
      rw [if_neg c1] at h
      by_cases c2 : u.f2 > 65536
      · rw [if_pos c2] at h; exact absurd h (by decide)
      rw [if_neg c2] at h
      rcases List.mem_cons.1 ht with rfl | ht
      · exact c0
      · exact ck_all r u.f2 h t ht
    · rw [if_neg c0] at h; exact absurd h c0
/-- THE ROUND: what is printed is read again. -/
theorem read_print (l : List S31) (h : ckL 0 l = 0) (hl : (textA l).length ≤ 65536) : tokF (txt (textA l)) = (l, 0, 0) := by
  rw [tokF_txt _ hl]
  have ho := ck_ok l 0 1 (.inr (Int.le_refl _)) h
  by_cases h0 : l.length = 0
  · obtain rfl : l = [] := List.eq_nil_of_length_eq_zero h0
    rfl
  · have e : textA l = txtA false 1 l ++ [10] := by unfold textA; rw [if_neg h0]
    rw [e]
    have := read_txt l false 1 ((txtA false 1 l ++ [10]).length + 1) [] (ck_all l 0 h) ho (by omega)
    simpa using this
theorem tokF_len (s : List UInt8) : (tokF (txt s)).1.length ≤ 65536 := by
  by_cases h : s.length ≤ 65536
  · rw [tokF_txt s h]
    have := toksL_len (s.length + 1) s 1 []
    simp at this; omega
  · unfold tokF; rw [txt_size, if_pos (by omega)]; simp
theorem check_g (t : S31) : lex_Check.f t.f0 t.f1 t.f2 = some (checkT t) := rfl
/-- The one token of a text that is the whole text stands on its first line. -/
theorem tok_first (q : List UInt8) (hl : q.length ≤ 65536) (c2 : (tokF (txt q)).2.2 = 0) (c3 : (tokF (txt q)).1.length = 1) (c4 : (rd_T31 (tokF (txt q)).1 0).f1.toList = q) : (rd_T31 (tokF (txt q)).1 0).f2 = 1 := by
  have h0 := c2
  rw [tokF_txt q hl] at c2 c3 c4
  rw [toksL_step] at c2 c3 c4
  have hsuf := sk_suf q false 1
  have hhead := sk_head q false 1
  generalize (sk false q 1).1 = r at c2 c3 c4 hsuf hhead
  generalize (sk false q 1).2 = l2 at c2 c3 c4
  unfold tokStep at c2 c3 c4
  cases r with
  | nil => rw [if_pos rfl] at c3; simp at c3
  | cons c u =>
    rw [if_neg (by simp)] at c2 c3 c4
    by_cases he : (nextL (c :: u) l2).2.1 = 0
    · rw [if_pos he] at c2 c3 c4
      obtain ⟨p, r2, e1, e2, e3, e4, e5, e6⟩ := next_one c u l2 he
      obtain ⟨m, hm⟩ := toks_pre _ _ _ _ c2
      rw [hm] at c3 c4
      have hm0 : m = [] := by
        apply List.eq_nil_of_length_eq_zero
        simp only [List.length_append, List.length_cons, List.length_nil] at c3; omega
      subst hm0
      have hrd : rd_T31 (([] ++ [(nextL (c :: u) l2).1]) ++ []) 0 = (nextL (c :: u) l2).1 := rfl
      rw [hrd, e2, txt_toList] at c4
      subst c4
      obtain ⟨pre, hpre⟩ := hsuf
      have hlen := congrArg List.length hpre
      have hlen2 := congrArg List.length e1
      simp only [List.length_append] at hlen hlen2
      have hr2 : r2 = [] := List.eq_nil_of_length_eq_zero (by omega)
      subst hr2
      rw [List.append_nil] at e1
      have hone := one_tok (nextL (c :: u) l2).1.f0 p e5 ⟨c, u, e1.symm, hhead c u rfl⟩ hl
      rw [hone]; rfl
    · rw [if_neg he] at c2; exact absurd c2 he
theorem RCheck (t : S31) {k : Nat} (hk : 400000 ≤ k) : waybillref04_Check.f k t.f0 t.f1 t.f2 = some (checkT t) := by
  obtain ⟨k, rfl⟩ : ∃ q, k = q + 1 + 1 := ⟨k - 2, by omega⟩
  obtain ⟨q, hq⟩ : ∃ q, t.f1 = txt q := ⟨t.f1.data.toList, (txt_data _).symm⟩
  unfold waybillref04_Check.f checkT
  by_cases c0 : t.f0 < 1
  · rw [if_pos c0, if_pos c0, waybillref04_Check.j0, if_pos rfl]
  rw [if_neg c0, if_neg c0]
  by_cases c1 : t.f0 > 3
  · rw [decide_eq_true c1, if_pos c1, waybillref04_Check.j0, if_pos rfl]
  rw [decide_eq_false c1, if_neg c1, waybillref04_Check.j0, if_neg (by decide), hq, ref_f q _ (by omega), tok_f, obind]
  by_cases c2 : (tokF (txt q)).2.2 = 0
  · rw [if_pos c2, if_neg (show ¬ ((tokF (txt q)).2.2 ≠ 0) from fun h => h c2)]
    by_cases c3 : (tokF (txt q)).1.length = 1
    · rw [if_pos (by omega), if_neg (show ¬ ((tokF (txt q)).1.length ≠ 1) from fun h => h c3), if_pos (by omega), txt_toList]
      have hql : q.length ≤ 65536 := by
        apply Classical.byContradiction
        intro hn
        unfold tokF at c3
        rw [txt_size, if_pos (by omega)] at c3
        simp at c3
      by_cases c4 : (rd_T31 (tokF (txt q)).1 0).f1.toList = q
      · rw [if_pos c4, waybillref04_Check.j1]
        have c5 := tok_first q hql c2 c3 c4
        unfold isTok
        rw [c5, hq, txt_toList, c4]
        by_cases c6 : (rd_T31 (tokF (txt q)).1 0).f0 = t.f0
        · rw [c6]
          simp only [bne_self_eq_false, beq_self_eq_true, Bool.and_self, Bool.false_eq_true, if_false, Bool.true_eq_false]
          split <;> rfl
        · rw [if_pos (by simpa using c6), if_pos (by rw [beq_eq_false_iff_ne.mpr c6]; rfl)]
      · rw [if_neg c4, waybillref04_Check.j1, if_pos rfl]
        unfold isTok
        rw [hq, txt_toList, beq_eq_false_iff_ne.mpr c4]
        simp
    · rw [if_neg (by omega), if_pos c3, waybillref04_Check.j1, if_pos rfl]
  · rw [if_neg c2, if_pos c2, waybillref04_Check.j1, if_pos rfl]
theorem RNum_l0 (q : List UInt8) (hq : q.length ≤ 70000) (a b : Int) : ∀ (d k i : Nat) (n : Int), i + d = q.length → d < k → waybillref04_Number.l0 k n (i : Int) a (txt q) b = some (numS n (q.drop i), 0) := by
  intro d
  induction d with
  | zero =>
    intro k i n h1 h2
    obtain ⟨k, rfl⟩ : ∃ q, k = q + 1 := ⟨k - 1, by omega⟩
    rw [waybillref04_Number.l0, if_neg (by rw [txt_size]; omega), List.drop_eq_nil_of_le (by omega)]; rfl
  | succ d ih =>
    intro k i n h1 h2
    obtain ⟨k, rfl⟩ : ∃ q, k = q + 1 := ⟨k - 1, by omega⟩
    have hi : i < q.length := by omega
    rw [waybillref04_Number.l0, if_pos (by rw [txt_size]; omega), if_pos (by omega), bt_txt q i hi, show wrap64 ((i : Int) + 1) = ((i + 1 : Nat) : Int) by unfold wrap64; omega, ih k (i + 1) _ (by omega) (by omega), List.drop_eq_getElem_cons hi]
    rfl
theorem RNumber (t : S31) {k : Nat} (hk : 400000 ≤ k) : waybillref04_Number.f k t.f0 t.f1 t.f2 = some (numT t) := by
  unfold waybillref04_Number.f numT
  rw [RCheck t hk, obind]
  by_cases c0 : checkT t = 0
  · rw [if_pos c0, if_pos c0]
    by_cases c1 : t.f0 = 2
    · rw [if_pos c1, if_pos c1]
      obtain ⟨q, hq⟩ : ∃ q, t.f1 = txt q := ⟨t.f1.data.toList, (txt_data _).symm⟩
      have hl := (checkT_ok t c0).2
      rw [hq, txt_size] at hl
      rw [hq, txt_list]
      exact RNum_l0 q (by omega) t.f0 t.f2 q.length k 0 0 (by omega) (by omega)
    · rw [if_neg c1, if_neg c1]
  · rw [if_neg c0, if_neg c0]
/-! The page's text. -/
def bI (q : List UInt8) : List Int := q.map fun c => ((c.toNat : Nat) : Int)
theorem bI_app (a b : List UInt8) : bI (a ++ b) = bI a ++ bI b := List.map_append
theorem bI_txt (q : List UInt8) : bytesOf (txt q) = bI q := by unfold bytesOf bI; rw [txt_list]
theorem bI_str (q : List UInt8) : strOfNums (bI q) = txt q := by
  unfold strOfNums bI txt
  congr 2
  rw [List.map_map]
  conv => rhs; rw [← List.map_id q]
  apply List.map_congr_left
  intro c _
  simp
theorem mem_rd (l : List S31) (hc : ∀ t ∈ l, checkT t = 0) (i : Nat) (hi : i < l.length) : checkT (rd_T31 l (i : Int)) = 0 := by rw [rd31 l i hi]; exact hc _ (List.getElem_mem _)
section
variable (l : List S31) (hl : l.length < 4398046511104) (hc : ∀ t ∈ l, checkT t = 0)
include hl hc
theorem RPrint_l3 (b : List UInt8) (i : Nat) (hi : i < l.length) (hb : b.length ≤ 70000) (f2 : Int) (hf : (rd_T31 l (i : Int)).f2 = f2) (h6 : f2 ≤ 65536) : ∀ (d k : Nat) (line : Int) (b : List UInt8), b.length + d ≤ 140000 → line + d = f2 → 0 ≤ line → d < k →
    waybillref04_Print.l3 k l line (bI b) (i : Int) = waybillref04_Print.l2 (k - (d + 1)) l f2 (bI (b ++ rep [10] d ++ (rd_T31 l (i : Int)).f1.data.toList)) (((i + 1 : Nat)) : Int) := by
  intro d
  have hck := (checkT_ok _ (mem_rd l hc i hi)).2
  induction d with
  | zero =>
    intro k line b h1 h2 h3 h4
    obtain ⟨k, rfl⟩ : ∃ q, k = q + 1 := ⟨k - 1, by omega⟩
    have hbl : (bI b).length = b.length := List.length_map ..
    rw [waybillref04_Print.l3, if_pos (by omega), if_pos (by omega), hf, if_neg (by omega), if_pos (by omega), show wrap64 ((i : Int) + 1) = ((i + 1 : Nat) : Int) by unfold wrap64; omega]
    rw [show line = f2 by omega]
    simp only [rep, List.append_nil, Nat.zero_add, Nat.add_sub_cancel]
    rw [bI_app]
    congr 1
  | succ d ih =>
    intro k line b h1 h2 h3 h4
    obtain ⟨k, rfl⟩ : ∃ q, k = q + 1 := ⟨k - 1, by omega⟩
    have hbl : (bI b).length = b.length := List.length_map ..
    rw [waybillref04_Print.l3, if_pos (by omega), if_pos (by omega), hf, if_pos (by omega), if_pos (by omega), show wrap64 (line + 1) = line + 1 by unfold wrap64; omega]
    have := ih k (line + 1) (b ++ [10]) (by simp; omega) (by omega) (by omega) (by omega)
    rw [bI_app] at this
    rw [show k + 1 - (d + 1 + 1) = k - (d + 1) by omega]
    rw [show bI b ++ [10] = bI b ++ bI [10] from rfl, this]
    congr 2
    simp [rep]
/-- How many rounds the text's making takes, at most. -/
theorem RPrint_l2 : ∀ (d i : Nat) (k : Nat) (line : Int) (b : List UInt8), i + d = l.length → 0 ≤ line → okA line (l.drop i) → b.length + (txtA (decide ((0 : Int) < (i : Int))) line (l.drop i)).length ≤ 65536 → 5 * (txtA (decide ((0 : Int) < (i : Int))) line (l.drop i)).length + 5 * d + 5 < k →
    waybillref04_Print.l2 k l line (bI b) (i : Int) = some (txt (b ++ txtA (decide ((0 : Int) < (i : Int))) line (l.drop i) ++ (if l.length = 0 then [] else [10])), 0) := by
  intro d
  induction d with
  | zero =>
    intro i k line b h1 h2 h3 h4 h5
    obtain ⟨k, rfl⟩ : ∃ q, k = q + 1 := ⟨k - 1, by omega⟩
    have hbl : (bI b).length = b.length := List.length_map ..
    rw [List.drop_eq_nil_of_le (by omega)] at h4 ⊢
    simp only [txtA, List.length_nil, List.append_nil] at h4 ⊢
    rw [waybillref04_Print.l2, if_neg (by omega)]
    by_cases h0 : l.length = 0
    · rw [if_neg (by omega), if_pos h0, List.append_nil, bI_str]
    · rw [if_pos (by omega), if_pos (by omega), if_neg h0, show bI b ++ [10] = bI (b ++ [10]) by rw [bI_app]; rfl, bI_str]
  | succ d ih =>
    intro i k line b h1 h2 h3 h4 h5
    have hi : i < l.length := by omega
    rw [drop31 l i hi] at h3 h4 h5 ⊢
    obtain ⟨o1, o2, o3, o4⟩ := h3
    rw [txtA_step] at h4 h5 ⊢
    obtain ⟨dd, hdd⟩ : ∃ dd : Nat, (rd_T31 l (i : Int)).f2 - line = dd := ⟨((rd_T31 l (i : Int)).f2 - line).toNat, by omega⟩
    rw [hdd, Int.toNat_natCast] at h4 h5 ⊢
    obtain ⟨f2, hf2⟩ : ∃ f2, f2 = (rd_T31 l (i : Int)).f2 := ⟨_, rfl⟩
    rw [← hf2] at h4 h5 hdd o1 o2 o4 ⊢
    obtain ⟨sp, hsp⟩ : ∃ sp : List UInt8, sp = (if f2 = line ∧ decide ((0 : Int) < (i : Int)) = true then [32] else []) := ⟨_, rfl⟩
    rw [← hsp] at h4 h5 ⊢
    have hbl : (bI b).length = b.length := List.length_map ..
    have hq := o3
    have hdq : (rd_T31 l (i : Int)).f1.data.toList.length = (rd_T31 l (i : Int)).f1.size := Array.length_toList
    simp only [List.length_append, rep_len, List.length_cons, List.length_nil] at h4 h5
    obtain ⟨k, rfl⟩ : ∃ q, k = q + 1 + 1 + 1 := ⟨k - 3, by omega⟩
    have hnf : decide ((0 : Int) < ((i + 1 : Nat) : Int)) = true := decide_eq_true (by omega)
    have key : ∀ sp2 : List UInt8, sp2 = sp → waybillref04_Print.l3 k l line (bI (b ++ sp2)) (i : Int) = some (txt (b ++ (sp ++ (rep [10] dd ++ ((rd_T31 l (i : Int)).f1.data.toList ++ txtA true f2 (l.drop (i + 1))))) ++ (if l.length = 0 then [] else [10])), 0) := by
      rintro sp2 rfl
      have hspl : sp2.length ≤ 1 := by rw [hsp]; split <;> simp
      rw [RPrint_l3 l hl hc b i hi (by omega) f2 hf2.symm o2 dd k line (b ++ sp2) (by simp only [List.length_append]; omega) (by omega) h2 (by omega)]
      have := ih (i + 1) (k - (dd + 1)) f2 (b ++ sp2 ++ rep [10] dd ++ (rd_T31 l (i : Int)).f1.data.toList) (by omega) (by omega) o4 (by rw [hnf]; simp only [List.length_append, rep_len, List.length_cons, List.length_nil]; omega) (by rw [hnf]; omega)
      rw [hnf] at this
      rw [this]
      simp only [List.append_assoc]
    rw [waybillref04_Print.l2, if_pos (by omega), if_pos (by omega), ← hf2]
    by_cases he : f2 = line
    · rw [if_pos he, waybillref04_Print.j6]
      by_cases h0 : (i : Int) > 0
      · rw [decide_eq_true h0, if_pos rfl, if_pos (by omega), waybillref04_Print.j7, show bI b ++ [32] = bI (b ++ [32]) by rw [bI_app]; rfl]
        exact key [32] (by rw [hsp, if_pos ⟨he, decide_eq_true h0⟩])
      · rw [decide_eq_false h0, if_neg (by decide), waybillref04_Print.j7]
        have := key [] (by rw [hsp, if_neg (fun h => h0 (of_decide_eq_true h.2))])
        rw [List.append_nil] at this
        exact this
    · rw [if_neg he, waybillref04_Print.j6, if_neg (by decide), waybillref04_Print.j7]
      have := key [] (by rw [hsp, if_neg (fun h => he h.1)])
      rw [List.append_nil] at this
      exact this
/-- The size, ahead of the making. -/
theorem RPrint_l1 (ho : okA 1 l) (F : Nat) (hF : 700000 ≤ F) : ∀ (d i k : Nat) (line size : Int), i + d = l.length → 0 ≤ line → okA line (l.drop i) → 0 ≤ size → size ≤ 65536 → size + (((txtA (decide ((0 : Int) < (i : Int))) line (l.drop i)).length : Nat) : Int) = (((txtA false 1 l).length : Nat) : Int) → 2 * d + F < k →
    waybillref04_Print.l1 k l size line (i : Int) = some (if (textA l).length > 65536 then (⟨#[]⟩, 5) else (txt (textA l), 0)) := by
  intro d
  have htl : (textA l).length = (txtA false 1 l).length + (if l.length = 0 then 0 else 1) := by
    unfold textA; rw [List.length_append]; split <;> rfl
  induction d with
  | zero =>
    intro i k line size h1 h2 h3 h4 h5 h6 h7
    obtain ⟨k, rfl⟩ : ∃ q, k = q + 1 + 1 := ⟨k - 2, by omega⟩
    rw [List.drop_eq_nil_of_le (by omega)] at h6
    simp only [txtA, List.length_nil] at h6
    rw [waybillref04_Print.l1, if_neg (by omega)]
    have hFk : F < k + 1 + 1 := by omega
    have fin : (textA l).length ≤ 65536 → waybillref04_Print.l2 k l 1 ([] : List Int) 0 = some (txt (textA l), 0) := by
      intro hb
      have hle : l.length ≤ (txtA false 1 l).length := by
        have : ∀ (r : List S31) (nf : Bool) (line : Int), (∀ t ∈ r, checkT t = 0) → r.length ≤ (txtA nf line r).length := by
          intro r
          induction r with
          | nil => intro nf line _; simp
          | cons t r ih =>
            intro nf line hc
            have h := ih true t.f2 (fun u hu => hc u (List.mem_cons_of_mem _ hu))
            obtain ⟨_, ⟨c, u, hcu, _⟩, _, _⟩ := check_one t (hc t List.mem_cons_self)
            rw [txtA_step, hcu]
            simp only [List.length_append, List.length_cons]
            omega
        exact this l false 1 hc
      have := RPrint_l2 l hl hc l.length 0 k 1 [] (by omega) (by omega) ho (by
        show 0 + (txtA false 1 l).length ≤ 65536
        split at htl <;> omega) (by
        show 5 * (txtA false 1 l).length + 5 * l.length + 5 < k
        split at htl <;> omega)
      exact this
    by_cases h0 : l.length = 0
    · rw [if_neg (by omega), waybillref04_Print.j4, if_neg (by omega)]
      rw [if_pos h0] at htl
      rw [if_neg (by omega)]
      exact fin (by omega)
    · rw [if_pos (by omega), waybillref04_Print.j4, show wrap64 (size + 1) = size + 1 by unfold wrap64; omega]
      rw [if_neg h0] at htl
      by_cases hb : size + 1 > 65536
      · rw [if_pos hb, if_pos (by omega)]
      · rw [if_neg hb, if_neg (by omega)]
        exact fin (by omega)
  | succ d ih =>
    intro i k line size h1 h2 h3 h4 h5 h6 h7
    have hi : i < l.length := by omega
    have hiI : (i : Int) < (l.length : Int) := by omega
    have hi0 : (0 : Int) ≤ (i : Int) := by omega
    rw [drop31 l i hi] at h3 h6
    obtain ⟨o1, o2, o3, o4⟩ := h3
    rw [txtA_step] at h6
    obtain ⟨dd, hdd⟩ : ∃ dd : Nat, (rd_T31 l (i : Int)).f2 - line = dd := ⟨((rd_T31 l (i : Int)).f2 - line).toNat, by omega⟩
    rw [hdd, Int.toNat_natCast] at h6
    obtain ⟨f2, hf2⟩ : ∃ f2, f2 = (rd_T31 l (i : Int)).f2 := ⟨_, rfl⟩
    rw [← hf2] at h6 hdd o1 o2 o4
    have hdq : (rd_T31 l (i : Int)).f1.data.toList.length = (rd_T31 l (i : Int)).f1.size := Array.length_toList
    obtain ⟨sz, hsz⟩ : ∃ sz, sz = (rd_T31 l (i : Int)).f1.size := ⟨_, rfl⟩
    simp only [List.length_append, rep_len, List.length_cons, List.length_nil, hdq] at h6
    rw [← hsz] at h6 o3
    have hnf : decide ((0 : Int) < ((i + 1 : Nat) : Int)) = true := decide_eq_true (by omega)
    obtain ⟨k, rfl⟩ : ∃ q, k = q + 1 + 1 := ⟨k - 2, by omega⟩
    have next : ∀ size2 : Int, 0 ≤ size2 → size2 ≤ 65536 → size2 + (((txtA true f2 (l.drop (i + 1))).length : Nat) : Int) = (((txtA false 1 l).length : Nat) : Int) → waybillref04_Print.l1 k l size2 f2 ((i + 1 : Nat) : Int) = some (if (textA l).length > 65536 then (⟨#[]⟩, 5) else (txt (textA l), 0)) :=
      fun size2 q1 q2 q3 => ih (i + 1) k f2 size2 (by omega) (by omega) o4 q1 q2 (by rw [hnf]; exact q3) (by omega)
    have big : ∀ size2 : Int, size2 > 65536 → size2 ≤ (((txtA false 1 l).length : Nat) : Int) → (textA l).length > 65536 := fun size2 q1 q2 => by rw [htl]; omega
    have hw1 : wrap64 ((i : Int) + 1) = ((i + 1 : Nat) : Int) := by unfold wrap64; omega
    rw [waybillref04_Print.l1, if_pos hiI, if_pos hi0, ← hf2]
    have no : ∀ b : Bool, b = false → ((if f2 = line ∧ decide ((0 : Int) < (i : Int)) = true then [32] else []) : List UInt8).length = 0 → waybillref04_Print.j3 (k + 1) l size line (i : Int) b = some (if (textA l).length > 65536 then (⟨#[]⟩, 5) else (txt (textA l), 0)) := by
      rintro b rfl hsp
      rw [hsp] at h6
      rw [waybillref04_Print.j3, if_neg (by decide), if_pos hi0, if_pos hiI, ← hf2, ← hsz]
      have e : wrap64 (wrap64 (wrap64 (size + f2) - line) + (sz : Int)) = size + dd + sz := by unfold wrap64; omega
      rw [e]
      by_cases hb : size + dd + (sz : Int) > 65536
      · rw [if_pos hb, if_pos (big _ hb (by omega))]
      · rw [if_neg hb, hw1]
        exact next _ (by omega) (by omega) (by omega)
    by_cases he : f2 = line
    · rw [if_pos he]
      by_cases h0 : (i : Int) > 0
      · rw [decide_eq_true h0, waybillref04_Print.j3, if_pos rfl, if_pos hi0, if_pos hiI, ← hf2, ← hsz]
        rw [if_pos ⟨he, decide_eq_true h0⟩] at h6
        simp only [List.length_cons, List.length_nil] at h6
        have e : wrap64 (wrap64 (wrap64 (wrap64 (size + 1) + f2) - line) + (sz : Int)) = size + 1 + dd + sz := by unfold wrap64; omega
        rw [e]
        by_cases hb : size + 1 + dd + (sz : Int) > 65536
        · rw [if_pos hb, if_pos (big _ hb (by omega))]
        · rw [if_neg hb, hw1]
          exact next _ (by omega) (by omega) (by omega)
      · exact no _ (decide_eq_false h0) (by rw [if_neg (fun h => h0 (of_decide_eq_true h.2))]; rfl)
    · rw [if_neg he]
      exact no false rfl (by rw [if_neg (fun h => he h.1)]; rfl)
end
theorem RPrint_l0 (l : List S31) (hl : l.length < 4398046511104) : ∀ (d i k : Nat) (last : Int), i + d = l.length → (0 < i → last = (rd_T31 l ((i : Int) - 1)).f2) → (i = 0 → last = 0) → (ckL last (l.drop i) = 0 → ckL 0 l = 0) → 2 * d + 2 * l.length + 1200000 < k →
    waybillref04_Print.l0 k l (i : Int) = some (if ckL last (l.drop i) = 0 then (if (textA l).length > 65536 then (⟨#[]⟩, 5) else (txt (textA l), 0)) else (⟨#[]⟩, ckL last (l.drop i))) := by
  intro d
  induction d with
  | zero =>
    intro i k last h1 h2 h3 h4 h5
    obtain ⟨k, rfl⟩ : ∃ q, k = q + 1 := ⟨k - 1, by omega⟩
    rw [List.drop_eq_nil_of_le (by omega)] at h4 ⊢
    have hck := h4 rfl
    have ho := ck_ok l 0 1 (.inr (Int.le_refl _)) hck
    rw [waybillref04_Print.l0, if_neg (by omega), if_pos (show ckL last [] = 0 from rfl)]
    exact RPrint_l1 l hl (ck_all l 0 hck) ho 700000 (Nat.le_refl _) l.length 0 k 1 0 (by omega) (by omega) ho (by omega) (by omega) (by show (0 : Int) + (((txtA false 1 l).length : Nat) : Int) = _; omega) (by omega)
  | succ d ih =>
    intro i k last h1 h2 h3 h4 h5
    obtain ⟨k, rfl⟩ : ∃ q, k = q + 1 + 1 := ⟨k - 2, by omega⟩
    have hi : i < l.length := by omega
    rw [drop31 l i hi] at h4 ⊢
    have hst : ckL last (rd_T31 l (i : Int) :: l.drop (i + 1)) = if checkT (rd_T31 l (i : Int)) = 0 then (if (rd_T31 l (i : Int)).f2 < last then 9 else if (rd_T31 l (i : Int)).f2 > 65536 then 4 else ckL (rd_T31 l (i : Int)).f2 (l.drop (i + 1))) else checkT (rd_T31 l (i : Int)) := rfl
    rw [hst] at h4 ⊢
    rw [waybillref04_Print.l0, if_pos (by omega), if_pos (by omega), RCheck _ (by omega), obind]
    by_cases c0 : checkT (rd_T31 l (i : Int)) = 0
    · rw [if_pos c0] at h4
      rw [if_pos c0, if_pos c0]
      have hf2 := (checkT_ok _ c0).1
      have jj : ∀ b : Bool, b = decide ((rd_T31 l (i : Int)).f2 < last) → waybillref04_Print.j1 (k + 1) l (i : Int) b = some (if (if (rd_T31 l (i : Int)).f2 < last then 9 else if (rd_T31 l (i : Int)).f2 > 65536 then 4 else ckL (rd_T31 l (i : Int)).f2 (l.drop (i + 1))) = 0 then (if (textA l).length > 65536 then (⟨#[]⟩, 5) else (txt (textA l), 0)) else (⟨#[]⟩, (if (rd_T31 l (i : Int)).f2 < last then 9 else if (rd_T31 l (i : Int)).f2 > 65536 then 4 else ckL (rd_T31 l (i : Int)).f2 (l.drop (i + 1))))) := by
        rintro b rfl
        rw [waybillref04_Print.j1]
        by_cases c1 : (rd_T31 l (i : Int)).f2 < last
        · rw [decide_eq_true c1, if_pos rfl, if_pos c1, if_neg (show ¬ (9 : Int) = 0 by decide)]
        · rw [if_neg c1] at h4
          rw [decide_eq_false c1, if_neg (by decide), if_pos (by omega), if_pos (by omega), if_neg c1]
          by_cases c2 : (rd_T31 l (i : Int)).f2 > 65536
          · rw [if_pos c2, if_pos c2, if_neg (show ¬ (4 : Int) = 0 by decide)]
          · rw [if_neg c2] at h4
            rw [if_neg c2, if_neg c2, show wrap64 ((i : Int) + 1) = ((i + 1 : Nat) : Int) by unfold wrap64; omega]
            exact ih (i + 1) k _ (by omega) (fun _ => by rw [show ((i + 1 : Nat) : Int) - 1 = (i : Int) by omega]) (fun h => by omega) h4 (by omega)
      by_cases h0 : (i : Int) > 0
      · rw [if_pos h0, show wrap64 ((i : Int) - 1) = (i : Int) - 1 by unfold wrap64; omega, if_pos (by omega), if_pos (by omega)]
        exact jj _ (by rw [h2 (by omega)])
      · rw [if_neg h0]
        exact jj false (by rw [h3 (by omega), decide_eq_false (by omega)])
    · rw [if_neg c0, if_neg c0, if_neg c0]
theorem RPrint (l : List S31) (hl : l.length < 4398046511104) {k : Nat} (hk : 4 * l.length + 1300000 ≤ k) : waybillref04_Print.f k l = some (printL l) := by
  unfold waybillref04_Print.f printL
  exact RPrint_l0 l hl l.length 0 k 0 (by omega) (fun h => by omega) (fun _ => rfl) (fun h => h) (by omega)
theorem num_c (a0 : Int) (w : World) : Calls Try.prog 17 #[.int .i64 a0] w fun e w' => e = .returned (.int .i64 a0) ∧ Below w.heap.size w w' := (waybilllaw04_num.calls a0 a0 w rfl).mono fun _ _ h => ⟨h.1, h.2.below⟩
theorem same_c (A1 A2 : Option Addr) (c1 c2 : Nat) (a : List S31) (w : World) (h1 : Kd.C k31 w A1 a.length a) (h2 : a.length ≤ c1) (h3 : Kd.C k31 w A2 a.length a) (h4 : a.length ≤ c2) (h5 : a.length ≤ 65536) : Calls Try.prog 16 #[.slice A1 a.length c1, .slice A2 a.length c2] w fun e w' => e = .returned (.bool true) ∧ Below w.heap.size w w' := (waybillplain_SameTokens.calls 400000 A1 c1 a A2 c2 a true w h1 h2 h3 h4 (same_refl a (by omega) 400000 (by omega))).mono fun _ _ h => ⟨h.1, h.2.below⟩
/-- What stays while the answers are held against each other. -/
structure SS (w : World) (t : S31) (A1 A2 : Option Addr) (a : List S31) (W : World) : Prop where
  below : Below w.heap.size w W
  box : W.heap[w.heap.size]? = some (.cells #[.int .i64 t.f0, .string t.f1, .int .i64 t.f2] 31 (0, 0))
  r1 : Kd.C k31 W A1 a.length a
  r2 : Kd.C k31 W A2 a.length a
theorem SS.step {w : World} {t : S31} {A1 A2 : Option Addr} {a : List S31} {W W1 : World} (h : SS w t A1 A2 a W) (hb : Below W.heap.size W W1) : SS w t A1 A2 a W1 :=
  ⟨below_ls h.below hb h.below.size, (Ch.of_below hb (fun _ => False)).heap h.box (fun h => h), C31_below h.r1 hb (Nat.le_refl _), C31_below h.r2 hb (Nat.le_refl _)⟩
theorem SS.drew {w : World} {t : S31} {A1 A2 : Option Addr} {a : List S31} {W : World} (h : SS w t A1 A2 a W) : SS w t A1 A2 a W.drew := h.step (Below.drew (Below.refl _ W))
theorem SS.c0 {w : World} {t : S31} {A1 A2 : Option Addr} {a : List S31} {W : World} (h : SS w t A1 A2 a W) : W.cell? ⟨w.heap.size, 0, none⟩ = some (.int .i64 t.f0) := zcell h.box 0 _ rfl
theorem SS.c1 {w : World} {t : S31} {A1 A2 : Option Addr} {a : List S31} {W : World} (h : SS w t A1 A2 a W) : W.cell? ⟨w.heap.size, 1, none⟩ = some (.string t.f1) := zcell h.box 1 _ rfl
theorem SS.c2 {w : World} {t : S31} {A1 A2 : Option Addr} {a : List S31} {W : World} (h : SS w t A1 A2 a W) : W.cell? ⟨w.heap.size, 2, none⟩ = some (.int .i64 t.f2) := zcell h.box 2 _ rfl
set_option maxRecDepth 100000 in
set_option maxHeartbeats 8000000 in
theorem tells.calls (s : ByteArray) (A : Option Addr) (c : Nat) (l : List S31) (t : S31) (w : World) (hr : Kd.C k31 w A l.length l) (hc : l.length ≤ c) (hl : l.length * 32 ≤ 140737488351232) :
    Calls Try.prog 11 #[.string s, .slice A l.length c, .agg #[.int .i64 t.f0, .string t.f1, .int .i64 t.f2]] w fun e w' => e = .returned (.bool true) ∧ Below w.heap.size w w' := by
  have hu31 := Try.underlying31
  obtain ⟨q, rfl⟩ : ∃ q, s = txt q := ⟨s.data.toList, (txt_data s).symm⟩
  obtain ⟨⟨a, i, e⟩, hT⟩ : ∃ R, R = tokF (txt q) := ⟨_, rfl⟩
  have hal : a.length ≤ 65536 := by have := tokF_len q; rw [← hT] at this; exact this
  have T1 : Aside0 (lex_Tokens.f (txt q) = some (a, i, e)) := ⟨by rw [tok_f, hT]⟩
  have T2 : Aside0 (waybillref04_Tokens.f 400000 (txt q) = some (a, i, e)) := ⟨by rw [ref_f q _ (by omega), tok_f, hT]⟩
  obtain ⟨⟨x, g⟩, hP⟩ : ∃ R, R = printL l := ⟨_, rfl⟩
  have P1 : Aside0 (lex_Print.f l = some (x, g)) := ⟨by unfold lex_Print.f; rw [if_pos (by omega), hP]⟩
  have P2 : Aside0 (waybillref04_Print.f (4 * l.length + 1300000) l = some (x, g)) := ⟨by rw [RPrint l (by omega) (Nat.le_refl _), hP]⟩
  obtain ⟨⟨n, o⟩, hN⟩ : ∃ R, R = numT t := ⟨_, rfl⟩
  have N1 : Aside0 (lex_Number.f t.f0 t.f1 t.f2 = some (n, o)) := ⟨by rw [hN]; rfl⟩
  have N2 : Aside0 (waybillref04_Number.f 400000 t.f0 t.f1 t.f2 = some (n, o)) := ⟨by rw [RNumber t (Nat.le_refl _), hN]⟩
  obtain ⟨u, hU⟩ : ∃ u, u = checkT t := ⟨_, rfl⟩
  have U1 : Aside0 (lex_Check.f t.f0 t.f1 t.f2 = some u) := ⟨by rw [hU]; rfl⟩
  have U2 : Aside0 (waybillref04_Check.f 400000 t.f0 t.f1 t.f2 = some u) := ⟨by rw [RCheck t (Nat.le_refl _), hU]⟩
  have HAL := Aside0.mk hal
  have HR := Aside0.mk (Kd.C_alloc hr (.cells #[.int .i64 t.f0, .string t.f1, .int .i64 t.f2] 31 (0, 0)))
  have HX0 := Aside0.mk (heap_alloc_new w (.cells #[.int .i64 t.f0, .string t.f1, .int .i64 t.f2] 31 (0, 0)))
  have HB0 := Aside0.mk (below_alloc (Below.refl w.heap.size w) (.cells #[.int .i64 t.f0, .string t.f1, .int .i64 t.f2] 31 (0, 0)))
  have hb0 : (w.alloc (.cells #[.int .i64 t.f0, .string t.f1, .int .i64 t.f2] 31 (0, 0))).heap.size = w.heap.size + 1 := Array.size_push _
  have HSZ := Aside0.mk hb0
  clear hT hP hN hU hr hal hl hb0
  go_enter Try.func11, Try.ntmps11
  go_wp2_with fail
  refine (lex_Tokens.calls (txt q) a i e _ T1.out).mono ?_
  rintro e1 w1 ⟨v1, rfl, hv, hb⟩
  obtain ⟨A1, c1, rfl, hc1, hC1⟩ := Kd.R_reads hv
  have HX1 := Aside0.mk ((Ch.of_below hb (fun _ => False)).heap HX0.out (fun h => h))
  have HB1 := Aside0.mk (below_ls HB0.out hb HB0.out.size)
  have HR1 := Aside0.mk (C31_below HR.out hb (Nat.le_refl _))
  have HA1 := Aside0.mk hC1
  have HCA := Aside0.mk hc1
  clear hv hb hC1 hc1
  go_wp2_with fail
  refine (waybillref04_Tokens.calls 400000 (txt q) a i e _ T2.out).mono ?_
  rintro e2 w2 ⟨v2, rfl, hv, hb⟩
  obtain ⟨A2, c2, rfl, hc2, hC2⟩ := Kd.R_reads hv
  have HX2 := Aside0.mk ((Ch.of_below hb (fun _ => False)).heap HX1.out (fun h => h))
  have HB2 := Aside0.mk (below_ls HB1.out hb HB1.out.size)
  have HR2 := Aside0.mk (C31_below HR1.out hb (Nat.le_refl _))
  have HA2 := Aside0.mk (C31_below HA1.out hb (Nat.le_refl _))
  have HD2 := Aside0.mk hC2
  have HCD := Aside0.mk hc2
  clear hv hb hC2 hc2
  go_wp2_with fail
  refine (lex_Print.calls A c l x g _ HR2.out hc P1.out).mono ?_
  rintro e3 w3 ⟨rfl, hb⟩
  have HX3 := Aside0.mk ((Ch.of_below hb (fun _ => False)).heap HX2.out (fun h => h))
  have HB3 := Aside0.mk (below_ls HB2.out hb HB2.out.size)
  have HR3 := Aside0.mk (C31_below HR2.out hb (Nat.le_refl _))
  have HA3 := Aside0.mk (C31_below HA2.out hb (Nat.le_refl _))
  have HD3 := Aside0.mk (C31_below HD2.out hb (Nat.le_refl _))
  clear hb
  go_wp2_with fail
  refine (waybillref04_Print.calls _ A c l x g _ HR3.out hc P2.out).mono ?_
  rintro e4 w4 ⟨rfl, hb⟩
  have HX4 := Aside0.mk ((Ch.of_below hb (fun _ => False)).heap HX3.out (fun h => h))
  have HB4 := Aside0.mk (below_ls HB3.out hb HB3.out.size)
  have HA4 := Aside0.mk (C31_below HA3.out hb (Nat.le_refl _))
  have HD4 := Aside0.mk (C31_below HD3.out hb (Nat.le_refl _))
  have y0 := zcell HX4.out 0 (.int .i64 t.f0) rfl
  have y1 := zcell HX4.out 1 (.string t.f1) rfl
  have y2 := zcell HX4.out 2 (.int .i64 t.f2) rfl
  clear hb
  go_wp2_with fail
  refine (lex_Number.calls t.f0 t.f1 t.f2 n o _ N1.out).mono ?_
  rintro e5 w5 ⟨rfl, hb⟩
  have HX5 := Aside0.mk ((Ch.of_below hb (fun _ => False)).heap HX4.out (fun h => h))
  have HB5 := Aside0.mk (below_ls HB4.out hb HB4.out.size)
  have HA5 := Aside0.mk (C31_below HA4.out hb (Nat.le_refl _))
  have HD5 := Aside0.mk (C31_below HD4.out hb (Nat.le_refl _))
  clear hb y0 y1 y2
  have y0 := zcell HX5.out 0 (.int .i64 t.f0) rfl
  have y1 := zcell HX5.out 1 (.string t.f1) rfl
  have y2 := zcell HX5.out 2 (.int .i64 t.f2) rfl
  go_wp2_with fail
  refine (waybillref04_Number.calls 400000 t.f0 t.f1 t.f2 n o _ N2.out).mono ?_
  rintro e6 w6 ⟨rfl, hb⟩
  have HX6 := Aside0.mk ((Ch.of_below hb (fun _ => False)).heap HX5.out (fun h => h))
  have HB6 := Aside0.mk (below_ls HB5.out hb HB5.out.size)
  have HA6 := Aside0.mk (C31_below HA5.out hb (Nat.le_refl _))
  have HD6 := Aside0.mk (C31_below HD5.out hb (Nat.le_refl _))
  clear hb y0 y1 y2
  have y0 := zcell HX6.out 0 (.int .i64 t.f0) rfl
  have y1 := zcell HX6.out 1 (.string t.f1) rfl
  have y2 := zcell HX6.out 2 (.int .i64 t.f2) rfl
  go_wp2_with fail
  clear HR HR1 HR2 HR3 HA1 HA2 HA3 HA4 HA5 HD2 HD3 HD4 HD5 HX0 HX1 HX2 HX3 HX4 HX5 HB0 HB1 HB2 HB3 HB4 HB5
  have hs : SS w t A1 A2 a w6 := ⟨HB6.out, HX6.out, HA6.out, HD6.out⟩
  clear HX6 HB6 HA6 HD6
  go_region_held3 (fun W => SS w t A1 A2 a W ∧ W.cell? ⟨w.heap.size, 0, none⟩ = some (.int .i64 t.f0) ∧ W.cell? ⟨w.heap.size, 1, none⟩ = some (.string t.f1) ∧ W.cell? ⟨w.heap.size, 2, none⟩ = some (.int .i64 t.f2)) (first | exact ⟨hs.drew, hs.drew.c0, hs.drew.c1, hs.drew.c2⟩ | exact ⟨hk7, hk7.c0, hk7.c1, hk7.c2⟩ | go_keep)
    (first
      | (go_at_call 16; have hcur := And.left (by assumption : SS w t A1 A2 a _ ∧ _); refine (same_c A1 A2 c1 c2 a _ hcur.r1 HCA.out hcur.r2 HCD.out HAL.out).mono ?_; rintro e7 w7 ⟨rfl, hb⟩; have hk7 := hcur.step hb; clear hb)
      | (go_at_call 17; have hcur := And.left (by assumption : SS w t A1 A2 a _ ∧ _); refine (num_c _ _).mono ?_; rintro e7 w7 ⟨rfl, hb⟩; have hk7 := hcur.step hb; clear hb)
      | (go_at_call 26; have hcur := And.left (by assumption : SS w t A1 A2 a _ ∧ _); refine (lex_Check.calls t.f0 t.f1 t.f2 u _ U1.out).mono ?_; rintro e7 w7 ⟨rfl, hb⟩; have hk7 := hcur.step hb; clear hb)
      | (go_at_call 30; have hcur := And.left (by assumption : SS w t A1 A2 a _ ∧ _); refine (waybillref04_Check.calls 400000 t.f0 t.f1 t.f2 u _ U2.out).mono ?_; rintro e7 w7 ⟨rfl, hb⟩; have hk7 := hcur.step hb; clear hb)
      | (go_at_call 14; have hcur := And.left (by assumption : SS w t A1 A2 a _ ∧ _); refine (waybilllaw04_alive.calls true _ alive_t).mono ?_; rintro e7 w7 ⟨rfl, hb⟩; have hk7 := hcur.step hb; clear hb))
  all_goals
    have hcur := And.left (by assumption : SS w t A1 A2 a _ ∧ _)
    go_wp2_with fail
    go_ret
    exact ⟨rfl, hcur.below⟩
end Go.Proofs.Ytoloneoeojoiaaa.Pure
