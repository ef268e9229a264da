/- The pure statement of LexMay, proved. -/
import Derived.Test.YtoloneoeojoiaaaELexMayx6
namespace Go.Proofs.Ytoloneoeojoiaaa.Pure
open Go.RowKit Go.Proofs.Ytoloneoeojoiaaa.ELexMay Go.Proofs.YtoloneoeojoiaaaW.PrintWords Go.Proofs.YtoloneoeojoiaaaW.PrintLast Go.Proofs.YtoloneoeojoiaaaW.PrintMore
set_option linter.unusedVariables false
set_option linter.unusedSimpArgs false

theorem obind {α β : Type} (a : α) (f : α → Option β) : (some a).bind f = f a := Eq.trans (Option.bind_some a f) (Eq.refl _)
theorem alive_t : waybilllaw04_alive.f = some true := by decide +kernel
theorem txt_app (a b : List UInt8) : txt a ++ txt b = txt (a ++ b) := by
  apply ByteArray.ext
  rw [ByteArray.data_append]
  simp [txt]
theorem lit_txt (l : List UInt8) : (⟨l.toArray⟩ : ByteArray) = txt l := rfl
theorem toks_f (s : List UInt8) (h : s.length ≤ 65536) : lex_Tokens.f (txt s) = some (toksL (s.length + 1) s 1 []) := by
  unfold lex_Tokens.f
  rw [txt_list, txt_size, if_neg (by omega)]
theorem toks_big (s : List UInt8) (h : ¬ s.length ≤ 65536) : lex_Tokens.f (txt s) = some ([], 0, 5) := by
  unfold lex_Tokens.f
  rw [txt_size, if_pos (by omega)]
theorem toksL_fuel (n : Nat) : ∀ (m : Nat) (s : List UInt8) (l : Int) (out : List S31), s.length < n → s.length < m → toksL n s l out = toksL m s l out := by
  induction n with
  | zero => intro m s l out h _; omega
  | succ n ih =>
    intro m s l out h1 h2
    obtain ⟨m, rfl⟩ : ∃ q, m = q + 1 := ⟨m - 1, by omega⟩
    rw [toksL_step, toksL_step]
    have hl := sk_len s false l
    generalize (sk false s l).1 = r at hl ⊢
    generalize (sk false s l).2 = l2
    unfold tokStep
    cases r with
    | nil => rfl
    | cons c t =>
      have hne : ¬ (c :: t = []) := by simp
      rw [if_neg hne, if_neg hne]
      by_cases he : (nextL (c :: t) l2).2.1 = 0
      · rw [if_pos he, if_pos he]
        have := next_len c t l2 he
        simp at hl
        exact ih _ _ _ _ (by omega) (by omega)
      · rw [if_neg he, if_neg he]
theorem toksL_len (n : Nat) : ∀ (s : List UInt8) (l : Int) (out : List S31), (toksL n s l out).1.length ≤ out.length + s.length := by
  induction n with
  | zero => intro s l out; simp [toksL]
  | succ n ih =>
    intro s l out
    rw [toksL_step]
    have hl := sk_len s false l
    generalize (sk false s l).1 = r at hl ⊢
    generalize (sk false s l).2 = l2
    unfold tokStep
    cases r with
    | nil => rw [if_pos rfl]; simp
    | cons c t =>
      rw [if_neg (by simp)]
      by_cases he : (nextL (c :: t) l2).2.1 = 0
      · rw [if_pos he]
        have := next_len c t l2 he
        have h2 := ih (nextL (c :: t) l2).2.2 l2 (out ++ [(nextL (c :: t) l2).1])
        simp at hl h2
        omega
      · rw [if_neg he]; simp
theorem same_l (xs : List S31) (hx : xs.length ≤ 140737488351232) (k : Nat) : ∀ (i : Int), 0 ≤ i → i ≤ xs.length → xs.length - i.toNat < k → waybillplain_SameTokens.l0 k xs xs i = some true := by
  induction k with
  | zero => intro i _ _ h; omega
  | succ k ih =>
    intro i h0 h1 hk
    simp only [waybillplain_SameTokens.l0]
    by_cases h : i < (xs.length : Int)
    · rw [if_pos h, if_pos h0, if_pos h, if_neg (by simp), show wrap64 (i + 1) = i + 1 by unfold wrap64; omega]
      exact ih _ (by omega) (by omega) (by omega)
    · rw [if_neg h]
theorem same_refl (xs : List S31) (hx : xs.length ≤ 140737488351232) (k : Nat) (hk : xs.length < k) : waybillplain_SameTokens.f k xs xs = some true := by
  unfold waybillplain_SameTokens.f
  rw [if_pos rfl]
  exact same_l xs hx k 0 (by omega) (by omega) (by simpa using hk)
theorem sk_lines (s : List UInt8) : ∀ (n : Nat) (l : Int), sk false (List.replicate n 10 ++ s) l = sk false s (l + n)
  | 0, l => by simp
  | n + 1, l => by
    rw [List.replicate_succ, List.cons_append, sk_line, sk_lines s n]
    congr 1; push_cast; omega
theorem tw_mem (p : UInt8 → Bool) : ∀ (s : List UInt8) (c : UInt8), c ∈ s.takeWhile p → p c = true
  | [], c, h => by simp at h
  | x :: t, c, h => by
    rw [List.takeWhile_cons] at h
    by_cases hp : p x = true
    · rw [if_pos hp] at h
      rcases List.mem_cons.1 h with rfl | h
      · exact hp
      · exact tw_mem p t c h
    · rw [if_neg hp] at h; simp at h
theorem tw_take (p : UInt8 → Bool) : ∀ (s : List UInt8), s.take (s.takeWhile p).length = s.takeWhile p
  | [] => rfl
  | x :: t => by
    rw [List.takeWhile_cons]
    by_cases hp : p x = true
    · rw [if_pos hp]; simpa using tw_take p t
    · rw [if_neg hp]; rfl
theorem sk_head : ∀ (s : List UInt8) (b : Bool) (l : Int) (c : UInt8) (t : List UInt8), (sk b s l).1 = c :: t → c ≠ 10 ∧ c ≠ 35 ∧ blankB c = false
  | [], b, l, c, t, h => by cases b <;> simp [sk] at h
  | x :: s, true, l, c, t, h => by
    unfold sk at h
    split at h
    · exact sk_head s false _ c t h
    · exact sk_head s true _ c t h
  | x :: s, false, l, c, t, h => by
    unfold sk at h
    split at h
    · exact sk_head s false _ c t h
    · rename_i h1
      split at h
      · exact sk_head s true _ c t h
      · rename_i h2
        split at h
        · exact sk_head s false _ c t h
        · rename_i h3
          simp only [List.cons.injEq] at h
          obtain ⟨rfl, _⟩ := h
          exact ⟨h1, h2, Bool.eq_false_iff.mpr h3⟩
/-- What is left behind the skipping is an end of the text. -/
theorem sk_suf : ∀ (s : List UInt8) (b : Bool) (l : Int), ∃ p, s = p ++ (sk b s l).1
  | [], b, l => ⟨[], by cases b <;> rfl⟩
  | x :: s, true, l => by
    unfold sk
    split
    · obtain ⟨p, hp⟩ := sk_suf s false (l + 1); exact ⟨x :: p, by rw [List.cons_append, ← hp]⟩
    · obtain ⟨p, hp⟩ := sk_suf s true l; exact ⟨x :: p, by rw [List.cons_append, ← hp]⟩
  | x :: s, false, l => by
    unfold sk
    split
    · obtain ⟨p, hp⟩ := sk_suf s false (l + 1); exact ⟨x :: p, by rw [List.cons_append, ← hp]⟩
    · split
      · obtain ⟨p, hp⟩ := sk_suf s true l; exact ⟨x :: p, by rw [List.cons_append, ← hp]⟩
      · split
        · obtain ⟨p, hp⟩ := sk_suf s false l; exact ⟨x :: p, by rw [List.cons_append, ← hp]⟩
        · exact ⟨[], rfl⟩
/-- A text that is one token: a sign, or a run of its kind. -/
def oneQ (k : Int) (q : List UInt8) : Prop := (∃ c, q = [c] ∧ signB c = true ∧ k = 3) ∨ (∃ c t, q = c :: t ∧ signB c = false ∧ runL q = q ∧ kindL q = (k, 0))
def plainHead (q : List UInt8) : Prop := ∃ c t, q = c :: t ∧ c ≠ 10 ∧ c ≠ 35 ∧ blankB c = false
theorem tw_idem (p : UInt8 → Bool) : ∀ s : List UInt8, (s.takeWhile p).takeWhile p = s.takeWhile p
  | [] => rfl
  | x :: t => by
    rw [List.takeWhile_cons]
    by_cases h : p x = true
    · rw [if_pos h, List.takeWhile_cons, if_pos h, tw_idem p t]
    · rw [if_neg h]; rfl
/-- What the next one is: of what stands at the head. -/
theorem next_one (c : UInt8) (t : List UInt8) (l : Int) (h : (nextL (c :: t) l).2.1 = 0) : ∃ q r, c :: t = q ++ r ∧ (nextL (c :: t) l).1.f1 = txt q ∧ (nextL (c :: t) l).2.2 = r ∧ (nextL (c :: t) l).1.f2 = l ∧ oneQ (nextL (c :: t) l).1.f0 q ∧ q.head? = some c := by
  unfold nextL at h ⊢
  rw [show (c :: t).headD 0 = c from rfl] at h ⊢
  by_cases hs : signB c = true
  · rw [if_pos hs]
    exact ⟨[c], t, rfl, rfl, rfl, rfl, .inl ⟨c, rfl, hs, rfl⟩, rfl⟩
  · rw [if_neg hs] at h ⊢
    by_cases hr : runL (c :: t) = []
    · rw [if_pos hr] at h; exact absurd (show (32 : Int) = 0 from h) (by decide)
    · rw [if_neg hr] at h ⊢
      have hp : partB c = true := by
        apply Classical.byContradiction
        intro hp
        apply hr
        unfold runL; rw [List.takeWhile_cons, if_neg hp]
      have e : runL (c :: t) = c :: runL t := by unfold runL; rw [List.takeWhile_cons, if_pos hp]
      refine ⟨runL (c :: t), (c :: t).drop (runL (c :: t)).length, ?_, rfl, rfl, rfl, .inr ⟨c, runL t, e, Bool.eq_false_iff.mpr hs, ?_, ?_⟩, by rw [e]; rfl⟩
      · have := tw_take partB (c :: t)
        have e2 : (c :: t).take (runL (c :: t)).length = runL (c :: t) := this
        rw [← e2]
        simp only [List.length_take]
        rw [show min (runL (c :: t)).length (c :: t).length = (runL (c :: t)).length by have := tw_len partB (c :: t); unfold runL; omega]
        rw [e2]
        exact (List.take_append_drop _ _).symm.trans (by rw [e2])
      · exact tw_idem partB _
      · exact Prod.ext rfl h
/-- And the other way round. -/
theorem one_next (k : Int) (q r : List UInt8) (l : Int) (h : oneQ k q) (hr : ∀ c t, r = c :: t → partB c = false) : nextL (q ++ r) l = (⟨k, txt q, l⟩, 0, r) := by
  rcases h with ⟨c, rfl, hs, rfl⟩ | ⟨c, t, rfl, hs, hrun, hk⟩
  · unfold nextL
    rw [show ([c] ++ r).headD 0 = c from rfl, if_pos hs]
    rfl
  · have hrun2 : runL (c :: t ++ r) = c :: t := by
      unfold runL at hrun ⊢
      have hall : ∀ x ∈ c :: t, partB x = true := by
        intro x hx
        rw [← hrun] at hx
        exact tw_mem partB _ x hx
      generalize c :: t = q at hall
      clear hrun hk hs
      induction q with
      | nil =>
        cases r with
        | nil => rfl
        | cons y r => rw [List.nil_append, List.takeWhile_cons, if_neg (by rw [hr y r rfl]; decide)]
      | cons x q ih =>
        rw [List.cons_append, List.takeWhile_cons, if_pos (hall x List.mem_cons_self), ih (fun y hy => hall y (List.mem_cons_of_mem _ hy))]
    unfold nextL
    rw [show (c :: t ++ r).headD 0 = c from rfl, if_neg (by rw [hs]; decide), hrun2, if_neg (by simp), hk]
    simp only [List.length_cons, Prod.mk.injEq, true_and]
    rw [List.cons_append, List.drop_succ_cons, List.drop_left]
theorem toks_pre (n : Nat) : ∀ (s : List UInt8) (l : Int) (out : List S31), (toksL n s l out).2.2 = 0 → ∃ m, (toksL n s l out).1 = out ++ m := by
  induction n with
  | zero => intro s l out h; exact ⟨[], by simp [toksL]⟩
  | succ n ih =>
    intro s l out
    rw [toksL_step]
    unfold tokStep
    split
    · intro _; exact ⟨[], by simp⟩
    · split
      · intro h
        obtain ⟨m, hm⟩ := ih _ _ _ h
        exact ⟨(nextL (sk false s l).1 (sk false s l).2).1 :: m, by rw [hm]; simp⟩
      · rename_i h; intro h2; exact absurd h2 h
theorem tokF_txt (q : List UInt8) (h : q.length ≤ 65536) : tokF (txt q) = toksL (q.length + 1) q 1 [] := by
  unfold tokF
  rw [txt_size, if_neg (by omega), txt_list]
theorem txt_inj {a b : List UInt8} (h : txt a = txt b) : a = b := by
  have := congrArg (fun x : ByteArray => x.data.toList) h
  simpa [txt] using this
theorem sk_plain (q r : List UInt8) (l : Int) (h : plainHead q) : sk false (q ++ r) l = (q ++ r, l) := by
  obtain ⟨c, t, rfl, h1, h2, h3⟩ := h
  rw [List.cons_append]; exact sk_stop c _ l h1 h2 h3
/-- One token alone. -/
theorem one_tok (k : Int) (q : List UInt8) (h : oneQ k q) (hp : plainHead q) (hl : q.length ≤ 65536) : tokF (txt q) = ([⟨k, txt q, 1⟩], 0, 0) := by
  rw [tokF_txt q hl]
  have hne : q.length ≠ 0 := by obtain ⟨c, t, rfl, _⟩ := hp; simp
  obtain ⟨n, hn⟩ : ∃ n, q.length = n + 1 := ⟨q.length - 1, by omega⟩
  have hs := sk_plain q [] 1 hp
  rw [List.append_nil] at hs
  have hx := one_next k q [] 1 h (fun c t h => by cases h)
  rw [List.append_nil] at hx
  rw [toksL_step, hs]
  show tokStep q.length q 1 [] = _
  unfold tokStep
  rw [if_neg (by rintro rfl; exact hne rfl), hx, if_pos rfl, hn]
  rfl
/-- A token that may be is its text's one token. -/
theorem check_one (t : S31) (h : checkT t = 0) : oneQ t.f0 t.f1.data.toList ∧ plainHead t.f1.data.toList ∧ 1 ≤ t.f2 ∧ t.f1.data.toList.length ≤ 65536 := by
  obtain ⟨q1, q2⟩ := checkT_ok t h
  obtain ⟨q, hq⟩ : ∃ q, t.f1 = txt q := ⟨t.f1.data.toList, (txt_data _).symm⟩
  rw [hq, txt_size] at q2
  have hlist : t.f1.data.toList = q := by rw [hq, txt_list]
  rw [hlist]
  unfold checkT at h
  by_cases c0 : t.f0 < 1
  · rw [if_pos c0] at h; exact absurd h (by decide)
  rw [if_neg c0] at h
  by_cases c1 : t.f0 > 3
  · rw [if_pos c1] at h; exact absurd h (by decide)
  rw [if_neg c1] at h
  by_cases c2 : (tokF t.f1).2.2 ≠ 0
  · rw [if_pos c2] at h; exact absurd h (by decide)
  rw [if_neg c2] at h
  by_cases c3 : (tokF t.f1).1.length ≠ 1
  · rw [if_pos c3] at h; exact absurd h (by decide)
  rw [if_neg c3] at h
  by_cases c4 : isTok (tokF t.f1).1 t = false
  · rw [if_pos c4] at h; exact absurd h (by decide)
  clear h c0 c1
  have c2 : (tokF t.f1).2.2 = 0 := Classical.not_not.mp c2
  have c3 : (tokF t.f1).1.length = 1 := Classical.not_not.mp c3
  have c4 : isTok (tokF t.f1).1 t = true := by simpa using c4
  rw [hq, tokF_txt q q2] at c2 c3 c4
  rw [toksL_step] at c2 c3 c4
  have hsuf := sk_suf q false 1
  have hhead := sk_head q false 1
  generalize (sk false q 1).1 = r at c2 c3 c4 hsuf hhead
  generalize (sk false q 1).2 = l2 at c2 c3 c4
  unfold tokStep at c2 c3 c4
  cases r with
  | nil => rw [if_pos rfl] at c3; simp at c3
  | cons c u =>
    rw [if_neg (by simp)] at c2 c3 c4
    by_cases he : (nextL (c :: u) l2).2.1 = 0
    · rw [if_pos he] at c2 c3 c4
      obtain ⟨p, r2, e1, e2, e3, e4, e5, e6⟩ := next_one c u l2 he
      obtain ⟨m, hm⟩ := toks_pre _ _ _ _ c2
      rw [hm] at c3 c4
      have hm0 : m = [] := by
        apply List.eq_nil_of_length_eq_zero
        simp only [List.length_append, List.length_cons, List.length_nil] at c3; omega
      subst hm0
      have hrd : rd_T31 (([] ++ [(nextL (c :: u) l2).1]) ++ []) 0 = (nextL (c :: u) l2).1 := rfl
      unfold isTok at c4
      rw [hrd, e2] at c4
      simp only [Bool.and_eq_true, beq_iff_eq, txt_toList] at c4
      obtain ⟨d1, d2, d3⟩ := c4
      rw [hq, txt_toList] at d2
      subst d2
      obtain ⟨pre, hpre⟩ := hsuf
      have hlen := congrArg List.length hpre
      have hlen2 := congrArg List.length e1
      simp only [List.length_append] at hlen hlen2
      have hr2 : r2 = [] := List.eq_nil_of_length_eq_zero (by omega)
      subst hr2
      rw [List.append_nil] at e1
      refine ⟨by rw [← d1]; exact e5, ⟨c, u, e1.symm, hhead c u rfl⟩, q1, q2⟩
    · rw [if_neg he] at c2; exact absurd c2 he
theorem one_kind (k : Int) (q : List UInt8) (h : oneQ k q) : 1 ≤ k ∧ k ≤ 3 := by
  rcases h with ⟨c, _, _, rfl⟩ | ⟨c, t, _, _, _, hk⟩
  · omega
  · unfold kindL at hk
    split at hk
    · injection hk with a b; exact absurd b (by decide)
    · split at hk
      · injection hk with a b; omega
      · split at hk
        · injection hk with a b; exact absurd b (by decide)
        · split at hk
          · injection hk with a b; exact absurd b (by decide)
          · injection hk with a b; omega
theorem check_mk (t : S31) (q : List UInt8) (hq : t.f1 = txt q) (h : oneQ t.f0 q) (hp : plainHead q) (hl : q.length ≤ 65536) (h1 : 1 ≤ t.f2) : checkT t = 0 := by
  have hk := one_kind _ _ h
  unfold checkT
  rw [if_neg (by omega), if_neg (by omega), hq, one_tok t.f0 q h hp hl, if_neg (by simp), if_neg (by simp), if_neg, if_neg (by omega)]
  unfold isTok
  rw [hq]
  show ¬ (t.f0 == t.f0 && ((txt q).toList == (txt q).toList && (1 : Int) == 1)) = false
  simp
theorem part32 : partB 32 = false := by decide +kernel
theorem part10 : partB 10 = false := by decide +kernel
theorem blank32 : blankB 32 = true := by decide +kernel
theorem rep10 : ∀ d, rep [10] d = List.replicate d 10
  | 0 => rfl
  | d + 1 => by rw [rep, rep10 d]; rfl
theorem tail_head (r : List S31) (line : Int) (h : okA line r) (c : UInt8) (t : List UInt8) (e : txtA true line r ++ [10] = c :: t) : partB c = false := by
  cases r with
  | nil => simp [txtA] at e; rw [← e.1]; exact part10
  | cons u r =>
    obtain ⟨o1, _⟩ := h
    rw [txtA_step] at e
    by_cases hu : u.f2 = line
    · rw [if_pos ⟨hu, rfl⟩] at e
      simp only [List.cons_append, List.cons.injEq] at e
      rw [← e.1]; exact part32
    · obtain ⟨d, hd⟩ : ∃ d, (u.f2 - line).toNat = d + 1 := ⟨(u.f2 - line).toNat - 1, by omega⟩
      rw [if_neg (fun h => hu h.1), hd, rep] at e
      simp only [List.cons_append, List.cons.injEq, List.nil_append] at e
      rw [← e.1]; exact part10
/-- Tokens on their lines are read again. -/
theorem read_txt : ∀ (r : List S31) (nf : Bool) (line : Int) (n : Nat) (out : List S31), (∀ t ∈ r, checkT t = 0) → okA line r → (txtA nf line r ++ [10]).length < n → toksL n (txtA nf line r ++ [10]) line out = (out ++ r, 0, 0)
  | [], nf, line, n, out, _, _, hn => by
    obtain ⟨n, rfl⟩ : ∃ m, n = m + 1 := ⟨n - 1, by omega⟩
    simp only [txtA, List.nil_append, List.append_nil]
    rw [toksL_step, sk_line]
    rfl
  | t :: r, nf, line, n, out, hc, ho, hn => by
    obtain ⟨o1, o2, o3, o4⟩ := ho
    obtain ⟨k1, k2, k3, k4⟩ := check_one t (hc t List.mem_cons_self)
    obtain ⟨n, rfl⟩ : ∃ m, n = m + 1 := ⟨n - 1, by omega⟩
    rw [txtA_step] at hn ⊢
    generalize hq : t.f1.data.toList = q at k1 k2 k4 hn ⊢
    have hR := tail_head r t.f2 o4
    have hne : q ≠ [] := by obtain ⟨c, u, rfl, _⟩ := k2; simp
    have hq0 : 0 < q.length := List.length_pos_iff.2 hne
    have hsk : sk false ((if t.f2 = line ∧ nf = true then [32] else []) ++ (rep [10] (t.f2 - line).toNat ++ (q ++ txtA true t.f2 r)) ++ [10]) line = (q ++ (txtA true t.f2 r ++ [10]), t.f2) := by
      have hb : sk false (rep [10] (t.f2 - line).toNat ++ (q ++ (txtA true t.f2 r ++ [10]))) line = (q ++ (txtA true t.f2 r ++ [10]), t.f2) := by
        rw [rep10, sk_lines, sk_plain q _ _ k2]
        congr 1; omega
      split
      · simp only [List.append_assoc, List.cons_append, List.nil_append]
        rw [sk_blank 32 _ _ (by decide) (by decide) blank32]
        exact hb
      · simp only [List.append_assoc, List.nil_append]
        exact hb
    rw [toksL_step, hsk]
    show tokStep n (q ++ (txtA true t.f2 r ++ [10])) t.f2 out = _
    unfold tokStep
    rw [if_neg (by simp [hne]), one_next t.f0 q _ t.f2 k1 hR, if_pos rfl]
    have ht : (⟨t.f0, txt q, t.f2⟩ : S31) = t := by
      have : txt q = t.f1 := by rw [← hq]; exact txt_data _
      rw [this]
    rw [ht]
    have := read_txt r true t.f2 n (out ++ [t]) (fun u hu => hc u (List.mem_cons_of_mem _ hu)) o4 (by simp only [List.length_append] at hn ⊢; omega)
    rw [this, List.append_assoc]; rfl
theorem ck_all : ∀ (l : List S31) (last : Int), ckL last l = 0 → ∀ t ∈ l, checkT t = 0
  | [], _, _, t, ht => by simp at ht
  | u :: r, last, h, t, ht => by
    unfold ckL at h
    by_cases c0 : checkT u = 0
    · rw [if_pos c0] at h
      by_cases c1 : u.f2 < last
      · rw [if_pos c1] at h; exact absurd h (by decide)
      rw [if_neg c1] at h
      by_cases c2 : u.f2 > 65536
      · rw [if_pos c2] at h; exact absurd h (by decide)
      rw [if_neg c2] at h
      rcases List.mem_cons.1 ht with rfl | ht
      · exact c0
      · exact ck_all r u.f2 h t ht
    · rw [if_neg c0] at h; exact absurd h c0
/-- THE ROUND: what is printed is read again. -/
theorem read_print (l : List S31) (h : ckL 0 l = 0) (hl : (textA l).length ≤ 65536) : tokF (txt (textA l)) = (l, 0, 0) := by
  rw [tokF_txt _ hl]
  have ho := ck_ok l 0 1 (.inr (Int.le_refl _)) h
  by_cases h0 : l.length = 0
  · obtain rfl : l = [] := List.eq_nil_of_length_eq_zero h0
    rfl
  · have e : textA l = txtA false 1 l ++ [10] := by unfold textA; rw [if_neg h0]
    rw [e]
    have := read_txt l false 1 ((txtA false 1 l ++ [10]).length + 1) [] (ck_all l 0 h) ho (by omega)
    simpa using this
theorem tokF_len (s : List UInt8) : (tokF (txt s)).1.length ≤ 65536 := by
  by_cases h : s.length ≤ 65536
  · rw [tokF_txt s h]
    have := toksL_len (s.length + 1) s 1 []
    simp at this; omega
  · unfold tokF; rw [txt_size, if_pos (by omega)]; simp
theorem toks_zero (n : Nat) : ∀ (s : List UInt8) (l : Int) (out : List S31), (toksL n s l out).2.2 = 0 → (toksL n s l out).2.1 = 0 := by
  induction n with
  | zero => intro s l out h; rfl
  | succ n ih =>
    intro s l out
    rw [toksL_step]
    unfold tokStep
    split
    · intro _; rfl
    · split
      · exact ih _ _ _
      · rename_i h; intro h2; exact absurd h2 h
theorem toks_err (n : Nat) : ∀ (s : List UInt8) (l : Int) (out : List S31), (toksL n s l out).2.2 ≠ 0 → (toksL n s l out).1 = [] := by
  induction n with
  | zero => intro s l out h; exact absurd rfl h
  | succ n ih =>
    intro s l out
    rw [toksL_step]
    unfold tokStep
    split
    · intro h; exact absurd rfl h
    · split
      · exact ih _ _ _
      · intro _; rfl
/-- The tokens of a text may be. -/
theorem toks_ck (n : Nat) : ∀ (s : List UInt8) (l : Int) (out : List S31), 1 ≤ l → l + s.length ≤ 65537 → (toksL n s l out).2.2 = 0 → ∃ m, (toksL n s l out).1 = out ++ m ∧ ∀ last, last ≤ l → ckL last m = 0 := by
  induction n with
  | zero => intro s l out _ _ _; exact ⟨[], by simp [toksL], fun _ _ => rfl⟩
  | succ n ih =>
    intro s l out h1 h2
    rw [toksL_step]
    have hbd := sk_bd s false l
    have hhead := sk_head s false l
    generalize (sk false s l).1 = r at hbd hhead ⊢
    generalize (sk false s l).2 = l2 at hbd ⊢
    unfold tokStep
    cases r with
    | nil => rw [if_pos rfl]; intro _; exact ⟨[], by simp, fun _ _ => rfl⟩
    | cons c u =>
      rw [if_neg (by simp)]
      by_cases he : (nextL (c :: u) l2).2.1 = 0
      · rw [if_pos he]
        intro hz
        obtain ⟨q, r2, e1, e2, e3, e4, e5, e6⟩ := next_one c u l2 he
        have hlen := congrArg List.length e1
        simp only [List.length_cons, List.length_append] at hlen
        simp only [List.length_cons] at hbd
        obtain ⟨p1, p2, p3⟩ := hhead c u rfl
        have hq : plainHead q := by
          cases q with
          | nil => simp at e6
          | cons x q => simp only [List.head?_cons, Option.some.injEq] at e6; subst e6; exact ⟨x, q, rfl, p1, p2, p3⟩
        have hck := check_mk (nextL (c :: u) l2).1 q e2 e5 hq (by omega) (by rw [e4]; omega)
        rw [e3] at hz ⊢
        obtain ⟨m, hm, hm2⟩ := ih r2 l2 (out ++ [(nextL (c :: u) l2).1]) (by omega) (by omega) hz
        refine ⟨(nextL (c :: u) l2).1 :: m, by rw [hm]; simp, fun last hl => ?_⟩
        unfold ckL
        rw [if_pos hck, e4, if_neg (by omega), if_neg (by omega)]
        exact hm2 l2 (Int.le_refl _)
      · rw [if_neg he]; intro h; exact absurd h he
theorem tokF_ck (s : List UInt8) (h : (tokF (txt s)).2.2 = 0) : ckL 0 (tokF (txt s)).1 = 0 ∧ (tokF (txt s)).2.1 = 0 := by
  by_cases hs : s.length ≤ 65536
  · rw [tokF_txt s hs] at h ⊢
    obtain ⟨m, hm, hm2⟩ := toks_ck _ s 1 [] (by omega) (by omega) h
    refine ⟨by rw [hm]; exact hm2 0 (by omega), ?_⟩
    exact toks_zero _ _ _ _ h
  · unfold tokF at h; rw [txt_size, if_pos (by omega)] at h; exact absurd (show (5 : Int) = 0 from h) (by decide)
theorem check_g (t : S31) : lex_Check.f t.f0 t.f1 t.f2 = some (checkT t) := rfl
theorem may_l0 (L : List S31) (hL : L.length ≤ 65536) (hck : ckL 0 L = 0) : ∀ (d k i : Nat) (last : Int), i + d = L.length → d + 70000 < k → ckL last (L.drop i) = 0 → (0 < i → last = (rd_T31 L ((i : Int) - 1)).f2) → waybilllaw04_LexMay.l0 k L 0 (i : Int) = some true := by
  intro d
  induction d with
  | zero =>
    intro k i last h1 h2 h3 h4
    obtain ⟨k, rfl⟩ : ∃ q, k = q + 1 := ⟨k - 1, by omega⟩
    rw [waybilllaw04_LexMay.l0, if_neg (by omega)]
    unfold lex_Print.f
    rw [if_pos (by omega), obind, tok_f, obind, if_pos rfl, waybilllaw04_num.f, obind]
    unfold printL
    rw [if_pos hck]
    by_cases hb : (textA L).length > 65536
    · rw [if_pos hb, if_pos rfl]
    · rw [if_neg hb, if_neg (show ¬ (0 : Int) = 5 by decide), obind, waybilllaw04_num.f, obind, read_print L hck (by omega), if_pos (show wrap64 (0 + 0) = 0 by unfold wrap64; omega), same_refl L (by omega) k (by omega), obind]
  | succ d ih =>
    intro k i last h1 h2 h3 h4
    obtain ⟨k, rfl⟩ : ∃ q, k = q + 1 := ⟨k - 1, by omega⟩
    rw [drop31 L i (by omega)] at h3
    unfold ckL at h3
    have hw : wrap64 ((i : Int) + 1) = ((i + 1 : Nat) : Int) := by unfold wrap64; omega
    by_cases c0 : checkT (rd_T31 L (i : Int)) = 0
    · rw [if_pos c0] at h3
      by_cases c1 : (rd_T31 L (i : Int)).f2 < last
      · rw [if_pos c1] at h3; exact absurd h3 (by decide)
      rw [if_neg c1] at h3
      by_cases c2 : (rd_T31 L (i : Int)).f2 > 65536
      · rw [if_pos c2] at h3; exact absurd h3 (by decide)
      rw [if_neg c2] at h3
      have ih2 := ih k (i + 1) (rd_T31 L (i : Int)).f2 (by omega) (by omega) h3 (fun _ => by rw [show ((i + 1 : Nat) : Int) - 1 = (i : Int) by omega])
      rw [waybilllaw04_LexMay.l0, if_pos (by omega), if_pos (by omega), check_g, c0, obind, waybilllaw04_num.f, obind, if_pos rfl, hw]
      by_cases hi : (i : Int) > 0
      · have h5 := h4 (by omega)
        rw [if_pos hi, show wrap64 ((i : Int) - 1) = (i : Int) - 1 by unfold wrap64; omega, if_pos (by omega), if_pos (by omega), if_neg (by rw [← h5]; exact c1)]
        exact ih2
      · rw [if_neg hi]; exact ih2
    · rw [if_neg c0] at h3; exact absurd h3 c0
theorem LexMay : waybilllaw04_LexMay.Pure := by
  intro a0 h0
  refine ⟨140000, ?_⟩
  obtain ⟨s, rfl⟩ : ∃ s, a0 = txt s := ⟨a0.data.toList, (txt_data a0).symm⟩
  unfold waybilllaw04_LexMay.f
  rw [alive_t, obind, if_pos rfl, tok_f, obind, waybilllaw04_num.f, obind]
  by_cases he : (tokF (txt s)).2.2 = 0
  · rw [if_pos he]
    obtain ⟨h1, h2⟩ := tokF_ck s he
    rw [h2]
    have hl := tokF_len s
    exact may_l0 _ hl h1 (tokF (txt s)).1.length 140000 0 0 (by omega) (by omega) h1 (fun h => by omega)
  · rw [if_neg he]
    have : (tokF (txt s)).1 = [] := by
      by_cases hs : s.length ≤ 65536
      · rw [tokF_txt s hs] at he ⊢
        exact toks_err _ _ _ _ he
      · unfold tokF; rw [txt_size, if_pos (by omega)]
    rw [this]; rfl

end Go.Proofs.Ytoloneoeojoiaaa.Pure
