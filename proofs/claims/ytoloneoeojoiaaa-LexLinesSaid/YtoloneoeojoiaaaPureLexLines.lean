/- The pure statement of LexLines, proved. -/
import Derived.Test.YtoloneoeojoiaaaELexLinesx4
namespace Go.Proofs.Ytoloneoeojoiaaa.Pure
open Go.RowKit Go.Proofs.Ytoloneoeojoiaaa.ELexLines Go.Proofs.YtoloneoeojoiaaaW.PrintWords Go.Proofs.YtoloneoeojoiaaaW.PrintLast Go.Proofs.YtoloneoeojoiaaaW.PrintMore
set_option linter.unusedVariables false
set_option linter.unusedSimpArgs false

theorem obind {α β : Type} (a : α) (f : α → Option β) : (some a).bind f = f a := Eq.trans (Option.bind_some a f) (Eq.refl _)
theorem alive_t : waybilllaw04_alive.f = some true := by decide +kernel
theorem txt_app (a b : List UInt8) : txt a ++ txt b = txt (a ++ b) := by
  apply ByteArray.ext
  rw [ByteArray.data_append]
  simp [txt]
theorem lit_txt (l : List UInt8) : (⟨l.toArray⟩ : ByteArray) = txt l := rfl
theorem toks_f (s : List UInt8) (h : s.length ≤ 65536) : lex_Tokens.f (txt s) = some (toksL (s.length + 1) s 1 []) := by
  unfold lex_Tokens.f
  rw [txt_list, txt_size, if_neg (by omega)]
theorem toks_big (s : List UInt8) (h : ¬ s.length ≤ 65536) : lex_Tokens.f (txt s) = some ([], 0, 5) := by
  unfold lex_Tokens.f
  rw [txt_size, if_pos (by omega)]
theorem toksL_fuel (n : Nat) : ∀ (m : Nat) (s : List UInt8) (l : Int) (out : List S31), s.length < n → s.length < m → toksL n s l out = toksL m s l out := by
  induction n with
  | zero => intro m s l out h _; omega
  | succ n ih =>
    intro m s l out h1 h2
    obtain ⟨m, rfl⟩ : ∃ q, m = q + 1 := ⟨m - 1, by omega⟩
    rw [toksL_step, toksL_step]
    have hl := sk_len s false l
    generalize (sk false s l).1 = r at hl ⊢
    generalize (sk false s l).2 = l2
    unfold tokStep
    cases r with
    | nil => rfl
    | cons c t =>
      have hne : ¬ (c :: t = []) := by simp
      rw [if_neg hne, if_neg hne]
      by_cases he : (nextL (c :: t) l2).2.1 = 0
      · rw [if_pos he, if_pos he]
        have := next_len c t l2 he
        simp at hl
        exact ih _ _ _ _ (by omega) (by omega)
      · rw [if_neg he, if_neg he]
theorem toksL_len (n : Nat) : ∀ (s : List UInt8) (l : Int) (out : List S31), (toksL n s l out).1.length ≤ out.length + s.length := by
  induction n with
  | zero => intro s l out; simp [toksL]
  | succ n ih =>
    intro s l out
    rw [toksL_step]
    have hl := sk_len s false l
    generalize (sk false s l).1 = r at hl ⊢
    generalize (sk false s l).2 = l2
    unfold tokStep
    cases r with
    | nil => rw [if_pos rfl]; simp
    | cons c t =>
      rw [if_neg (by simp)]
      by_cases he : (nextL (c :: t) l2).2.1 = 0
      · rw [if_pos he]
        have := next_len c t l2 he
        have h2 := ih (nextL (c :: t) l2).2.2 l2 (out ++ [(nextL (c :: t) l2).1])
        simp at hl h2
        omega
      · rw [if_neg he]; simp
def shT (d : Int) (t : S31) : S31 := ⟨t.f0, t.f1, t.f2 + d⟩
theorem sk_shift (d : Int) : ∀ (s : List UInt8) (b : Bool) (l : Int), sk b s (l + d) = ((sk b s l).1, (sk b s l).2 + d)
  | [], b, l => by cases b <;> simp [sk]
  | c :: t, b, l => by
    have h0 := fun l => sk_shift d t false l
    have h1 := fun l => sk_shift d t true l
    cases b
    · unfold sk
      split
      · rw [show l + d + 1 = l + 1 + d by omega]; exact h0 _
      · split
        · exact h1 _
        · split
          · exact h0 _
          · rfl
    · unfold sk
      split
      · rw [show l + d + 1 = l + 1 + d by omega]; exact h0 _
      · exact h1 _
theorem next_shift (d : Int) (s : List UInt8) (l : Int) : (nextL s (l + d)).2 = (nextL s l).2 ∧ ((nextL s l).2.1 = 0 → (nextL s (l + d)).1 = shT d (nextL s l).1) := by
  unfold nextL
  split
  · exact ⟨rfl, fun _ => rfl⟩
  · split
    · exact ⟨rfl, fun h => absurd (show (32 : Int) = 0 from h) (by decide)⟩
    · exact ⟨rfl, fun _ => rfl⟩
/-- The three, that many lines on. -/
def shR (d : Int) (r : List S31 × Int × Int) : List S31 × Int × Int := (r.1.map (shT d), if r.2.2 = 0 then r.2.1 else r.2.1 + d, r.2.2)
theorem toks_shift (d : Int) (n : Nat) : ∀ (s : List UInt8) (l : Int) (out : List S31), toksL n s (l + d) (out.map (shT d)) = shR d (toksL n s l out) := by
  induction n with
  | zero => intro s l out; rfl
  | succ n ih =>
    intro s l out
    rw [toksL_step, toksL_step, sk_shift]
    show tokStep n (sk false s l).1 ((sk false s l).2 + d) _ = _
    generalize (sk false s l).1 = r
    generalize (sk false s l).2 = l2
    unfold tokStep
    by_cases hr : r = []
    · rw [if_pos hr, if_pos hr]; rfl
    · rw [if_neg hr, if_neg hr]
      obtain ⟨e1, e2⟩ := next_shift d r l2
      rw [e1]
      by_cases he : (nextL r l2).2.1 = 0
      · rw [if_pos he, if_pos he, e2 he, ← ih]
        simp
      · rw [if_neg he, if_neg he]
        unfold shR
        simp only []
        rw [if_neg he]; rfl
theorem toks_zero (n : Nat) : ∀ (s : List UInt8) (l : Int) (out : List S31), (toksL n s l out).2.2 = 0 → (toksL n s l out).2.1 = 0 := by
  induction n with
  | zero => intro s l out h; rfl
  | succ n ih =>
    intro s l out
    rw [toksL_step]
    unfold tokStep
    split
    · intro _; rfl
    · split
      · exact ih _ _ _
      · rename_i h; intro h2; exact absurd h2 h
theorem lines_l1 (d : Int) (h0 : 0 ≤ d) (h1 : d < 50) (xs : List S31) (hx : xs.length ≤ 140737488351232) (k : Nat) : ∀ (i : Int), 0 ≤ i → i ≤ xs.length → xs.length - i.toNat < k → waybilllaw04_LexLines.l1 k d xs (xs.map (shT d)) i = some true := by
  induction k with
  | zero => intro i _ _ h; omega
  | succ k ih =>
    intro i hi0 hi1 hk
    simp only [waybilllaw04_LexLines.l1, List.length_map]
    by_cases h : i < (xs.length : Int)
    · have e : rd_T31 (xs.map (shT d)) i = shT d (rd_T31 xs i) := by
        unfold rd_T31
        rw [List.getD_eq_getElem?_getD, List.getD_eq_getElem?_getD, List.getElem?_map, List.getElem?_eq_getElem (show i.toNat < xs.length by omega)]
        rfl
      rw [e]
      generalize rd_T31 xs i = t
      rw [if_pos h, if_pos hi0, if_pos h, if_pos (show t.f0 = (shT d t).f0 from rfl), if_pos (show t.f1.toList = (shT d t).f1.toList from rfl), if_pos (show wrap64 ((shT d t).f2 - t.f2) = d by
        show wrap64 (t.f2 + d - t.f2) = d
        rw [show t.f2 + d - t.f2 = d by omega]; unfold wrap64; omega), show wrap64 (i + 1) = i + 1 by unfold wrap64; omega]
      exact ih _ (by omega) (by omega) (by omega)
    · rw [if_neg h]
theorem sk_lines (s : List UInt8) : ∀ (n : Nat) (l : Int), sk false (List.replicate n 10 ++ s) l = sk false s (l + n)
  | 0, l => by simp
  | n + 1, l => by
    rw [List.replicate_succ, List.cons_append, sk_line, sk_lines s n]
    congr 1; push_cast; omega
theorem toks_lines (s : List UInt8) (n : Nat) (h : s.length + n ≤ 65536) : lex_Tokens.f (txt (List.replicate n 10 ++ s)) = some (shR n (toksL (s.length + 1) s 1 [])) := by
  rw [toks_f _ (by simp; omega), ← toks_shift]
  congr 1
  rw [toksL_fuel _ ((List.replicate n 10 ++ s).length + 1) s _ _ (by omega) (by simp; omega), toksL_step, toksL_step, sk_lines]
  rfl
theorem lines_tail (s : List UInt8) (n : Nat) (h : s.length ≤ 60000) (hn : n < 50) (k : Nat) (hk : 65540 < k) :
    ∀ (d : Nat) (k : Nat) (i : Int), 65540 + d < k → 0 ≤ i → i + d = n → waybilllaw04_LexLines.l0 k (txt s) n (txt (List.replicate i.toNat 10 ++ s)) i = some true := by
  intro d
  induction d with
  | zero =>
    intro k i hk h0 hi
    obtain rfl : i = n := by omega
    obtain ⟨k, rfl⟩ : ∃ q, k = q + 1 + 1 := ⟨k - 2, by omega⟩
    simp only [waybilllaw04_LexLines.l0]
    rw [if_neg (by omega), toks_f s (by omega), obind, Int.toNat_natCast, toks_lines s n (by omega), obind]
    have hz := toks_zero (s.length + 1) s 1 []
    have hl := toksL_len (s.length + 1) s 1 []
    generalize toksL (s.length + 1) s 1 [] = R at hz hl ⊢
    obtain ⟨a, i, e⟩ := R
    simp only [shR] at *
    have hl1 : waybilllaw04_LexLines.l1 k n a (a.map (shT n)) 0 = some true := lines_l1 n (by omega) (by omega) a (by simp at hl; omega) k 0 (by omega) (by omega) (by simp at hl; omega)
    have hj : waybilllaw04_LexLines.j1 (k + 1) n a (a.map (shT n)) false = some true := by
      simp only [waybilllaw04_LexLines.j1]
      rw [if_neg (by decide)]
      exact hl1
    simp only [if_true, List.length_map, waybilllaw04_num.f, obind]
    by_cases he : e = 0
    · subst he
      rw [if_pos rfl, if_pos rfl, if_pos rfl, hz rfl]
      exact hj
    · rw [if_neg he, if_neg he, if_pos (show wrap64 (i + (n : Int) - i) = n by rw [show i + (n : Int) - i = n by omega]; unfold wrap64; omega), if_neg he]
      exact hj
  | succ d ih =>
    intro k i hk h0 hi
    obtain ⟨k, rfl⟩ : ∃ q, k = q + 1 := ⟨k - 1, by omega⟩
    simp only [waybilllaw04_LexLines.l0]
    rw [if_pos (by omega), txt_size, if_pos (by simp; omega), show wrap64 (i + 1) = i + 1 by unfold wrap64; omega, show (⟨#[10]⟩ : ByteArray) = txt [10] from rfl, txt_app]
    have := ih k (i + 1) (by omega) (by omega) (by omega)
    rw [show (i + 1).toNat = i.toNat + 1 by omega] at this
    exact this
theorem LexLines : waybilllaw04_LexLines.Pure := by
  intro a0 a1 h0 h1
  refine ⟨70000, ?_⟩
  unfold waybilllaw04_LexLines.f
  rw [alive_t, obind, if_pos rfl]
  by_cases hs : (a0.size : Int) > 60000
  · rw [if_pos hs]
  · rw [if_neg hs]
    obtain ⟨s, rfl⟩ : ∃ s, a0 = txt s := ⟨a0.data.toList, (txt_data a0).symm⟩
    rw [txt_size] at hs
    obtain ⟨n, hn, hlt⟩ : ∃ n : Nat, Int.tmod (wrap64 ((Int.tmod a1 50) + 50)) 50 = n ∧ n < 50 := by
      have q1 := Int.tmod_lt_of_pos a1 (show (0 : Int) < 50 by decide)
      have q2 := Int.lt_tmod_of_pos a1 (show (0 : Int) < 50 by decide)
      have e1 : wrap64 (a1.tmod 50 + 50) = a1.tmod 50 + 50 := by unfold wrap64; omega
      rw [e1, Int.tmod_eq_emod_of_nonneg (by omega)]
      exact ⟨((a1.tmod 50 + 50) % 50).toNat, by omega, by omega⟩
    rw [hn]
    have := lines_tail s n (by omega) hlt 70000 (by omega) n 70000 0 (by omega) (by omega) (by omega)
    simpa using this

end Go.Proofs.Ytoloneoeojoiaaa.Pure
