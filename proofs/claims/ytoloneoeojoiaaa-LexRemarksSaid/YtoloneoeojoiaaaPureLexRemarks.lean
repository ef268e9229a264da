/- The pure statement of LexRemarks, proved. -/
import Derived.Test.YtoloneoeojoiaaaELexRemarksx5
namespace Go.Proofs.Ytoloneoeojoiaaa.Pure
open Go.RowKit Go.Proofs.Ytoloneoeojoiaaa.ELexRemarks Go.Proofs.YtoloneoeojoiaaaW.PrintWords Go.Proofs.YtoloneoeojoiaaaW.PrintLast Go.Proofs.YtoloneoeojoiaaaW.PrintMore
set_option linter.unusedVariables false
set_option linter.unusedSimpArgs false

theorem obind {α β : Type} (a : α) (f : α → Option β) : (some a).bind f = f a := Eq.trans (Option.bind_some a f) (Eq.refl _)
theorem alive_t : waybilllaw04_alive.f = some true := by decide +kernel
theorem txt_app (a b : List UInt8) : txt a ++ txt b = txt (a ++ b) := by
  apply ByteArray.ext
  rw [ByteArray.data_append]
  simp [txt]
theorem lit_txt (l : List UInt8) : (⟨l.toArray⟩ : ByteArray) = txt l := rfl
theorem toks_f (s : List UInt8) (h : s.length ≤ 65536) : lex_Tokens.f (txt s) = some (toksL (s.length + 1) s 1 []) := by
  unfold lex_Tokens.f
  rw [txt_list, txt_size, if_neg (by omega)]
theorem toks_big (s : List UInt8) (h : ¬ s.length ≤ 65536) : lex_Tokens.f (txt s) = some ([], 0, 5) := by
  unfold lex_Tokens.f
  rw [txt_size, if_pos (by omega)]
theorem toksL_fuel (n : Nat) : ∀ (m : Nat) (s : List UInt8) (l : Int) (out : List S31), s.length < n → s.length < m → toksL n s l out = toksL m s l out := by
  induction n with
  | zero => intro m s l out h _; omega
  | succ n ih =>
    intro m s l out h1 h2
    obtain ⟨m, rfl⟩ : ∃ q, m = q + 1 := ⟨m - 1, by omega⟩
    rw [toksL_step, toksL_step]
    have hl := sk_len s false l
    generalize (sk false s l).1 = r at hl ⊢
    generalize (sk false s l).2 = l2
    unfold tokStep
    cases r with
    | nil => rfl
    | cons c t =>
      have hne : ¬ (c :: t = []) := by simp
      rw [if_neg hne, if_neg hne]
      by_cases he : (nextL (c :: t) l2).2.1 = 0
      · rw [if_pos he, if_pos he]
        have := next_len c t l2 he
        simp at hl
        exact ih _ _ _ _ (by omega) (by omega)
      · rw [if_neg he, if_neg he]
theorem toksL_len (n : Nat) : ∀ (s : List UInt8) (l : Int) (out : List S31), (toksL n s l out).1.length ≤ out.length + s.length := by
  induction n with
  | zero => intro s l out; simp [toksL]
  | succ n ih =>
    intro s l out
    rw [toksL_step]
    have hl := sk_len s false l
    generalize (sk false s l).1 = r at hl ⊢
    generalize (sk false s l).2 = l2
    unfold tokStep
    cases r with
    | nil => rw [if_pos rfl]; simp
    | cons c t =>
      rw [if_neg (by simp)]
      by_cases he : (nextL (c :: t) l2).2.1 = 0
      · rw [if_pos he]
        have := next_len c t l2 he
        have h2 := ih (nextL (c :: t) l2).2.2 l2 (out ++ [(nextL (c :: t) l2).1])
        simp at hl h2
        omega
      · rw [if_neg he]; simp
theorem same_l (xs : List S31) (hx : xs.length ≤ 140737488351232) (k : Nat) : ∀ (i : Int), 0 ≤ i → i ≤ xs.length → xs.length - i.toNat < k → waybillplain_SameTokens.l0 k xs xs i = some true := by
  induction k with
  | zero => intro i _ _ h; omega
  | succ k ih =>
    intro i h0 h1 hk
    simp only [waybillplain_SameTokens.l0]
    by_cases h : i < (xs.length : Int)
    · rw [if_pos h, if_pos h0, if_pos h, if_neg (by simp), show wrap64 (i + 1) = i + 1 by unfold wrap64; omega]
      exact ih _ (by omega) (by omega) (by omega)
    · rw [if_neg h]
theorem same_refl (xs : List S31) (hx : xs.length ≤ 140737488351232) (k : Nat) (hk : xs.length < k) : waybillplain_SameTokens.f k xs xs = some true := by
  unfold waybillplain_SameTokens.f
  rw [if_pos rfl]
  exact same_l xs hx k 0 (by omega) (by omega) (by simpa using hk)
/-- The text with a remark at each line's end, and blanks at each line's beginning. -/
def deco (r : List UInt8) : Bool → List UInt8 → List UInt8
  | b, [] => if b = true then [] else 32 :: 35 :: r
  | b, c :: t => if c = 10 then 32 :: 35 :: (r ++ (10 :: 13 :: 32 :: deco r false t)) else if c = 35 then c :: deco r true t else c :: deco r b t
theorem sk_in (r : List UInt8) (hr : ∀ c ∈ r, c ≠ 10) (t : List UInt8) (l : Int) : sk true (r ++ (10 :: t)) l = sk false t (l + 1) := by
  induction r with
  | nil => simp [sk]
  | cons c r ih =>
    rw [List.cons_append]
    simp only [sk]
    rw [if_neg (hr c List.mem_cons_self)]
    exact ih (fun x hx => hr x (List.mem_cons_of_mem _ hx))
theorem sk_end (r : List UInt8) (hr : ∀ c ∈ r, c ≠ 10) (l : Int) : sk true r l = ([], l) := by
  induction r with
  | nil => simp [sk]
  | cons c r ih =>
    simp only [sk]
    rw [if_neg (hr c List.mem_cons_self)]
    exact ih (fun x hx => hr x (List.mem_cons_of_mem _ hx))
theorem sk_sp (t : List UInt8) (l : Int) : sk false (32 :: t) l = sk false t l := sk_blank 32 t l (by decide) (by decide) (by decide)
theorem sk_cr (t : List UInt8) (l : Int) : sk false (13 :: t) l = sk false t l := sk_blank 13 t l (by decide) (by decide) (by decide)
theorem sk_sharp (t : List UInt8) (l : Int) : sk false (35 :: t) l = sk true t l := by simp [sk]
/-- What stands between tokens is skipped in both alike. -/
theorem sk_deco (r : List UInt8) (hr : ∀ c ∈ r, c ≠ 10) : ∀ (s : List UInt8) (b : Bool) (l : Int),
    (sk b s l).1 ≠ [] ∧ sk b (deco r b s) l = (deco r false (sk b s l).1, (sk b s l).2) ∨ (sk b s l).1 = [] ∧ (sk b (deco r b s) l).1 = []
  | [], b, l => by
    right
    refine ⟨by cases b <;> rfl, ?_⟩
    cases b
    · show (sk false (32 :: 35 :: r) l).1 = []
      rw [sk_sp, sk_sharp, sk_end r hr]
    · rfl
  | c :: t, b, l => by
    have h0 := fun l => sk_deco r hr t false l
    have h1 := fun l => sk_deco r hr t true l
    by_cases hc : c = 10
    · subst hc
      have e : ∀ b, deco r b (10 :: t) = 32 :: 35 :: (r ++ (10 :: 13 :: 32 :: deco r false t)) := fun b => by simp [deco]
      rw [e]
      have e2 : ∀ b, sk b (10 :: t) l = sk false t (l + 1) := fun b => by cases b <;> simp [sk]
      rw [e2]
      have e3 : sk b (32 :: 35 :: (r ++ (10 :: 13 :: 32 :: deco r false t))) l = sk false (deco r false t) (l + 1) := by
        cases b
        · rw [sk_sp, sk_sharp, sk_in r hr, sk_cr, sk_sp]
        · have := sk_in (32 :: 35 :: r) (by
            intro x hx
            simp only [List.mem_cons] at hx
            rcases hx with rfl | rfl | hx
            · decide
            · decide
            · exact hr x hx) (13 :: 32 :: deco r false t) l
          simp only [List.cons_append] at this
          rw [this, sk_cr, sk_sp]
      rw [e3]
      exact h0 _
    · cases b
      · by_cases hs : c = 35
        · subst hs
          have e : deco r false (35 :: t) = 35 :: deco r true t := by simp [deco]
          rw [e, sk_sharp, sk_sharp]
          exact h1 _
        · have e : deco r false (c :: t) = c :: deco r false t := by simp [deco, hc, hs]
          rw [e]
          by_cases hb : blankB c = true
          · rw [sk_blank c _ l hc hs hb, sk_blank c _ l hc hs hb]
            exact h0 _
          · rw [sk_stop c _ l hc hs (Bool.eq_false_iff.mpr hb), sk_stop c _ l hc hs (Bool.eq_false_iff.mpr hb)]
            left
            exact ⟨by simp, by rw [e]⟩
      · have e : deco r true (c :: t) = c :: deco r true t := by simp [deco, hc]
        rw [e]
        have e2 : ∀ t, sk true (c :: t) l = sk true t l := fun t => by simp [sk, hc]
        rw [e2, e2]
        exact h1 _
theorem nopart : partB 10 = false ∧ partB 32 = false ∧ partB 35 = false := by decide +kernel
theorem deco_run (r : List UInt8) : ∀ (s : List UInt8), runL (deco r false s) = runL s ∧ (deco r false s).drop (runL s).length = deco r false (s.drop (runL s).length)
  | [] => by
    constructor
    · show List.takeWhile partB (32 :: 35 :: r) = []
      rw [List.takeWhile_cons, if_neg (by rw [nopart.2.1]; decide)]
    · rfl
  | c :: t => by
    obtain ⟨h1, h2⟩ := deco_run r t
    by_cases hp : partB c = true
    · have hc : c ≠ 10 := fun h => by rw [h, nopart.1] at hp; cases hp
      have hs : c ≠ 35 := fun h => by rw [h, nopart.2.2] at hp; cases hp
      have e : deco r false (c :: t) = c :: deco r false t := by simp [deco, hc, hs]
      have e1 : ∀ t, runL (c :: t) = c :: runL t := fun t => by unfold runL; rw [List.takeWhile_cons, if_pos hp]
      rw [e, e1, e1, h1]
      exact ⟨rfl, by simpa using h2⟩
    · have e1 : ∀ t, runL (c :: t) = [] := fun t => by unfold runL; rw [List.takeWhile_cons, if_neg hp]
      rw [e1]
      refine ⟨?_, rfl⟩
      unfold deco
      split
      · show List.takeWhile partB (32 :: _) = []
        rw [List.takeWhile_cons, if_neg (by rw [nopart.2.1]; decide)]
      · split
        · exact e1 _
        · exact e1 _
theorem next_deco (r : List UInt8) (c : UInt8) (t : List UInt8) (l : Int) (hc : c ≠ 10) (hs : c ≠ 35) :
    (nextL (deco r false (c :: t)) l).1 = (nextL (c :: t) l).1 ∧ (nextL (deco r false (c :: t)) l).2.1 = (nextL (c :: t) l).2.1 ∧ (nextL (deco r false (c :: t)) l).2.2 = deco r false (nextL (c :: t) l).2.2 := by
  have e : deco r false (c :: t) = c :: deco r false t := by simp [deco, hc, hs]
  obtain ⟨h1, h2⟩ := deco_run r (c :: t)
  rw [e] at h1 h2
  rw [e]
  unfold nextL
  rw [h1, h2, show (c :: deco r false t).headD 0 = c from rfl, show (c :: t).headD 0 = c from rfl]
  split
  · exact ⟨rfl, rfl, rfl⟩
  · split
    · exact ⟨rfl, rfl, e.symm⟩
    · exact ⟨rfl, rfl, rfl⟩
theorem sk_head : ∀ (s : List UInt8) (b : Bool) (l : Int) (c : UInt8) (t : List UInt8), (sk b s l).1 = c :: t → c ≠ 10 ∧ c ≠ 35
  | [], b, l, c, t => by cases b <;> simp [sk]
  | x :: s, b, l, c, t => by
    have h0 := fun l => sk_head s false l c t
    have h1 := fun l => sk_head s true l c t
    cases b
    · unfold sk
      split
      · exact h0 _
      · split
        · exact h1 _
        · split
          · exact h0 _
          · rename_i a b _
            intro h
            obtain ⟨rfl, rfl⟩ := List.cons.inj h
            exact ⟨a, b⟩
    · unfold sk
      split
      · exact h0 _
      · exact h1 _
theorem toks_deco (r : List UInt8) (hr : ∀ c ∈ r, c ≠ 10) (n : Nat) : ∀ (m : Nat) (s : List UInt8) (l : Int) (out : List S31), s.length < n → (deco r false s).length < m → toksL m (deco r false s) l out = toksL n s l out := by
  induction n with
  | zero => intro m s l out h _; omega
  | succ n ih =>
    intro m s l out h1 h2
    obtain ⟨m, rfl⟩ : ∃ q, m = q + 1 := ⟨m - 1, by omega⟩
    rw [toksL_step, toksL_step]
    have hl := sk_len s false l
    have hm := sk_len (deco r false s) false l
    have hh := sk_head s false l
    rcases sk_deco r hr s false l with ⟨ha, hb⟩ | ⟨ha, hb⟩
    · rw [hb] at hm ⊢
      show tokStep m (deco r false (sk false s l).1) (sk false s l).2 out = _
      generalize (sk false s l).1 = q at ha hl hm hh ⊢
      generalize (sk false s l).2 = l2
      cases q with
      | nil => exact absurd rfl ha
      | cons c t =>
        obtain ⟨hc, hs⟩ := hh c t rfl
        obtain ⟨n1, n2, n3⟩ := next_deco r c t l2 hc hs
        have e : deco r false (c :: t) = c :: deco r false t := by simp [deco, hc, hs]
        unfold tokStep
        have hne : ¬ (c :: t = []) := by simp
        have hne2 : ¬ (deco r false (c :: t) = []) := by rw [e]; simp
        rw [n1, n2, n3, if_neg hne2, if_neg hne]
        by_cases he : (nextL (c :: t) l2).2.1 = 0
        · rw [if_pos he, if_pos he]
          have b1 := next_len c t l2 he
          have b2 := next_len c (deco r false t) l2 (by rw [← e, n2]; exact he)
          rw [← e, n3] at b2
          rw [e] at hm
          simp at hl hm
          exact ih _ _ _ _ (by omega) (by omega)
        · rw [if_neg he, if_neg he]
    · unfold tokStep
      rw [ha, hb, if_pos rfl, if_pos rfl]
theorem deco_len (r : List UInt8) (h : r.length ≤ 20) : ∀ (s : List UInt8) (b : Bool), (deco r b s).length ≤ 22 + 25 * s.length
  | [], b => by unfold deco; split <;> simp; omega
  | c :: t, b => by
    have h0 := deco_len r h t
    unfold deco
    split
    · have := h0 false; simp; omega
    · split
      · have := h0 true; simp; omega
      · have := h0 b; simp; omega
theorem rem_l1 (s r : List UInt8) (hs : s.length ≤ 2000) (hr : r.length ≤ 20) (hn : ∀ c ∈ r, c ≠ 10) : ∀ (d k : Nat) (p : List UInt8) (b : Bool) (i : Nat), i + d = s.length → 66000 + 2 * d < k → p.length + (deco r b (s.drop i)).length ≤ 60000 → p ++ deco r b (s.drop i) = 32 :: 9 :: deco r false s →
    waybilllaw04_LexRemarks.l1 k (txt s) (txt r) (txt p) b (i : Int) = some true := by
  intro d
  induction d with
  | zero =>
    intro k p b i hi hk hl he
    obtain ⟨k, rfl⟩ : ∃ q, k = q + 1 := ⟨k - 1, by omega⟩
    have hend : ∀ q : List UInt8, q = 32 :: 9 :: deco r false s → q.length ≤ 60000 → ((lex_Tokens.f (txt s)).bind fun bt113 => ((lex_Tokens.f (txt q)).bind fun bt118 => (if bt113.2.2 = bt118.2.2 then (if bt113.2.1 = bt118.2.1 then ((waybillplain_SameTokens.f k bt113.1 bt118.1).bind fun t123 => (some t123)) else (some false)) else (some false)))) = some true := by
      intro q hq hlq
      have hd := deco_len r hr s false
      have hql : q.length = 2 + (deco r false s).length := by rw [hq]; simp; omega
      have e1 : toksL (q.length + 1) q 1 [] = toksL (s.length + 1) s 1 [] := by
        rw [hq, toksL_step, sk_sp, sk_blank 9 _ 1 (by decide) (by decide) (by decide), ← toksL_step]
        exact toks_deco r hn _ _ _ _ _ (by omega) (by simp; omega)
      rw [toks_f s (by omega), toks_f q (by omega), obind, obind, e1, if_pos rfl, if_pos rfl, same_refl _ (by have := toksL_len (s.length + 1) s 1 []; simp at this; omega) k (by have := toksL_len (s.length + 1) s 1 []; simp at this; omega), obind]
    simp only [waybilllaw04_LexRemarks.l1]
    rw [txt_size, if_neg (by omega), List.drop_eq_nil_of_le (by omega)] at *
    cases b
    · have hp : p ++ (32 :: 35 :: r) = 32 :: 9 :: deco r false s := he
      have hpl : p.length + (r.length + 2) ≤ 60000 := by simpa [deco] using hl
      rw [if_neg (by decide), txt_size, if_pos (by omega), show (⟨#[32, 35]⟩ : ByteArray) = txt [32, 35] from rfl, txt_app, txt_size, txt_size, if_pos (by simp; omega), txt_app]
      exact hend _ (by rw [← hp]; simp) (by simp; omega)
    · rw [if_pos rfl]
      have hp : p ++ [] = 32 :: 9 :: deco r false s := he
      rw [List.append_nil] at hp
      exact hend p hp (by simp [deco] at hl; omega)
  | succ d ih =>
    intro k p b i hi hk hl he
    obtain ⟨k, rfl⟩ : ∃ q, k = q + 1 + 1 := ⟨k - 2, by omega⟩
    have hlt : i < s.length := by omega
    have hdr : s.drop i = s[i] :: s.drop (i + 1) := List.drop_eq_getElem_cons hlt
    have hx : (txt s).extract i (i + 1) = txt [s[i]] := by
      rw [txt_extract, hdr, show i + 1 - i = 1 by omega]; rfl
    have hw : wrap64 ((i : Int) + 1) = ((i + 1 : Nat) : Int) := by unfold wrap64; omega
    rw [hdr] at hl he
    have hi10 : (((s[i]).toNat : Int) = 10) ↔ (s[i] = 10) := ⟨fun h => by rw [← UInt8.toNat_inj]; simpa using (by omega : (s[i]).toNat = 10), fun h => by rw [h]; rfl⟩
    have hi35 : (((s[i]).toNat : Int) = 35) ↔ (s[i] = 35) := ⟨fun h => by rw [← UInt8.toNat_inj]; simpa using (by omega : (s[i]).toNat = 35), fun h => by rw [h]; rfl⟩
    have hj : ∀ b2, (s[i] ≠ 10 → deco r b (s[i] :: s.drop (i + 1)) = s[i] :: deco r b2 (s.drop (i + 1))) → (s[i] = 10 → b2 = false) → waybilllaw04_LexRemarks.j3 (k + 1) (txt s) (txt r) (txt p) b2 (i : Int) = some true := by
      intro b2 g1 g2
      simp only [waybilllaw04_LexRemarks.j3]
      rw [if_pos (by omega), if_pos (show (i : Int) < ((txt s).size : Int) by rw [txt_size]; omega), bt_txt s i hlt, hw]
      have q1 : (i : Int) ≤ ((i + 1 : Nat) : Int) := by omega
      have q2 : ((i + 1 : Nat) : Int) ≤ ((txt s).size : Int) := by rw [txt_size]; omega
      simp only [Int.toNat_natCast]
      rw [hx, show (⟨#[32, 35]⟩ : ByteArray) = txt [32, 35] from rfl, show (⟨#[13, 32]⟩ : ByteArray) = txt [13, 32] from rfl]
      simp only [txt_app]
      simp only [txt_size]
      by_cases h10 : s[i] = 10
      · have e : deco r b (s[i] :: s.drop (i + 1)) = 32 :: 35 :: (r ++ (10 :: 13 :: 32 :: deco r false (s.drop (i + 1)))) := by rw [h10]; simp [deco]
        rw [e] at hl he
        simp at hl
        rw [if_pos (hi10.2 h10), if_pos (by omega), if_pos (by simp; omega), if_pos q1, if_pos (by rw [txt_size] at q2; exact q2), if_pos (by simp; omega), if_pos (by simp; omega), g2 h10]
        refine ih k _ false (i + 1) (by omega) (by omega) (by simp; omega) ?_
        rw [← he, h10]
        simp
      · have e := g1 h10
        rw [e] at hl he
        simp at hl
        rw [if_neg (fun h => h10 (hi10.1 h)), if_pos q1, if_pos (by rw [txt_size] at q2; exact q2), if_pos (by simp; omega)]
        refine ih k _ b2 (i + 1) (by omega) (by omega) (by simp; omega) ?_
        rw [← he]
        simp
    show waybilllaw04_LexRemarks.l1 (k + 1 + 1) _ _ _ _ _ = _
    rw [waybilllaw04_LexRemarks.l1, if_pos (by rw [txt_size]; omega), if_pos (by omega), bt_txt s i hlt]
    by_cases h35 : s[i] = 35
    · rw [if_pos (hi35.2 h35)]
      exact hj true (fun _ => by rw [h35]; simp [deco]) (fun h => by rw [h35] at h; cases h)
    · rw [if_neg (fun h => h35 (hi35.1 h))]
      by_cases h10 : s[i] = 10
      · rw [if_pos (hi10.2 h10)]
        exact hj false (fun h => absurd h10 h) (fun _ => rfl)
      · rw [if_neg (fun h => h10 (hi10.1 h))]
        exact hj b (fun _ => by simp [deco, h35, h10]) (fun h => absurd h h10)
theorem rem_l0 (s r : List UInt8) (hs : s.length ≤ 2000) (hr : r.length ≤ 20) : ∀ (d k i : Nat), i + d = r.length → 80000 + d < k → (∀ j (h : j < r.length), j < i → r[j] ≠ 10) → waybilllaw04_LexRemarks.l0 k (txt s) (txt r) (i : Int) = some true := by
  intro d
  induction d with
  | zero =>
    intro k i hi hk hn
    obtain ⟨k, rfl⟩ : ∃ q, k = q + 1 := ⟨k - 1, by omega⟩
    rw [waybilllaw04_LexRemarks.l0, if_neg (by rw [txt_size]; omega)]
    have hd := deco_len r hr s false
    refine rem_l1 s r hs hr ?_ s.length k [32, 9] false 0 (by omega) (by omega) (by simp; omega) (by simp)
    intro c hc
    obtain ⟨j, hj, rfl⟩ := List.getElem_of_mem hc
    exact hn j hj (by omega)
  | succ d ih =>
    intro k i hi hk hn
    obtain ⟨k, rfl⟩ : ∃ q, k = q + 1 := ⟨k - 1, by omega⟩
    have hlt : i < r.length := by omega
    rw [waybilllaw04_LexRemarks.l0, if_pos (by rw [txt_size]; omega), if_pos (by omega), bt_txt r i hlt]
    by_cases h10 : (((r[i]).toNat : Nat) : Int) = 10
    · rw [if_pos h10]
    · rw [if_neg h10, show wrap64 ((i : Int) + 1) = ((i + 1 : Nat) : Int) by unfold wrap64; omega]
      refine ih k (i + 1) (by omega) (by omega) ?_
      intro j hj hji
      by_cases e : j = i
      · subst e
        intro h
        exact h10 (by rw [h]; rfl)
      · exact hn j hj (by omega)
theorem LexRemarks : waybilllaw04_LexRemarks.Pure := by
  intro a0 a1 h0 h1
  refine ⟨90002, ?_⟩
  unfold waybilllaw04_LexRemarks.f
  rw [alive_t, obind, if_pos rfl]
  obtain ⟨s, rfl⟩ : ∃ s, a0 = txt s := ⟨a0.data.toList, (txt_data a0).symm⟩
  obtain ⟨r, rfl⟩ : ∃ s, a1 = txt s := ⟨a1.data.toList, (txt_data a1).symm⟩
  rw [txt_size, txt_size]
  by_cases hs : (s.length : Int) > 2000
  · rw [if_pos hs, waybilllaw04_LexRemarks.j0, if_pos rfl]
  · rw [if_neg hs, waybilllaw04_LexRemarks.j0]
    by_cases hr : (r.length : Int) > 20
    · rw [decide_eq_true hr, if_pos rfl]
    · rw [decide_eq_false hr, if_neg (by decide)]
      exact rem_l0 s r (by omega) (by omega) r.length 90001 0 (by omega) (by omega) (fun j _ h => by omega)

end Go.Proofs.Ytoloneoeojoiaaa.Pure
