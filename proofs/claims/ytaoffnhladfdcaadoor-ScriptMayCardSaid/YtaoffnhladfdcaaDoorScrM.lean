/- What is printed is read again, plain. -/
import Derived.Test.YtaoffnhladfdcaaDoorScrL
namespace Go.Proofs.YtaoffnhladfdcaaDoor.EScriptTrace
open Go.RowKit Go.Shelf Go.Proofs.YtaoffnhladfdcaaDoorW.PrintWords Go.Proofs.YtaoffnhladfdcaaDoorW.PrintLast Go.Proofs.YtaoffnhladfdcaaDoorW.PrintMore
set_option linter.unusedVariables false
set_option linter.unusedSimpArgs false
theorem tw_mem (p : UInt8 → Bool) : ∀ (s : List UInt8) (c : UInt8), c ∈ s.takeWhile p → p c = true
  | [], c, h => by simp at h
  | x :: t, c, h => by
    rw [List.takeWhile_cons] at h
    by_cases hp : p x = true
    · rw [if_pos hp] at h
      rcases List.mem_cons.1 h with rfl | h
      · exact hp
      · exact tw_mem p t c h
    · rw [if_neg hp] at h; simp at h
theorem tw_take (p : UInt8 → Bool) : ∀ (s : List UInt8), s.take (s.takeWhile p).length = s.takeWhile p
  | [] => rfl
  | x :: t => by
    rw [List.takeWhile_cons]
    by_cases hp : p x = true
    · rw [if_pos hp]; simpa using tw_take p t
    · rw [if_neg hp]; rfl
theorem checkT_ok (t : S98) (h : checkT t = 0) : 1 ≤ t.f2 ∧ t.f1.size ≤ 65536 := by
  unfold checkT at h
  by_cases c0 : t.f0 < 1
  · rw [if_pos c0] at h; exact absurd h (by decide)
  rw [if_neg c0] at h
  by_cases c1 : t.f0 > 3
  · rw [if_pos c1] at h; exact absurd h (by decide)
  rw [if_neg c1] at h
  by_cases c2 : (tokF t.f1).2.2 ≠ 0
  · rw [if_pos c2] at h; exact absurd h (by decide)
  rw [if_neg c2] at h
  by_cases c3 : (tokF t.f1).1.length ≠ 1
  · rw [if_pos c3] at h; exact absurd h (by decide)
  rw [if_neg c3] at h
  by_cases c4 : isTok (tokF t.f1).1 t = false
  · rw [if_pos c4] at h; exact absurd h (by decide)
  rw [if_neg c4] at h
  by_cases c5 : t.f2 < 1
  · rw [if_pos c5] at h; exact absurd h (by decide)
  refine ⟨by omega, ?_⟩
  apply Classical.byContradiction
  intro hn
  apply c2
  unfold tokF
  rw [if_pos (by omega)]
  decide
theorem T_nil (M : Nat) (l : Int) (out : List S98) : toksL (M + 1) [] l out = (out, 0, 0) := rfl
theorem T_nl (M : Nat) (t : List UInt8) (l : Int) (out : List S98) : toksL (M + 1) (10 :: t) l out = toksL (M + 1) t (l + 1) out := by rw [toksL_step, toksL_step, sk_line]
theorem T_blank (M : Nat) (c : UInt8) (t : List UInt8) (l : Int) (out : List S98) (h1 : c ≠ 10) (h2 : c ≠ 35) (h3 : blankB c = true) : toksL (M + 1) (c :: t) l out = toksL (M + 1) t l out := by rw [toksL_step, toksL_step, sk_blank c t l h1 h2 h3]
theorem T_hash (M : Nat) (t : List UInt8) (l : Int) (out : List S98) : toksL (M + 1) (35 :: t) l out = toksL (M + 1) ((35 :: t).drop (remL (35 :: t)).length) l out := by
  rw [toksL_step, toksL_step, (sk_hash (35 :: t) rfl l).1]
theorem T_tok (M : Nat) (c : UInt8) (t : List UInt8) (l : Int) (out : List S98) (hM : t.length < M) (h1 : c ≠ 10) (h2 : c ≠ 35) (h3 : blankB c = false) : toksL (M + 1) (c :: t) l out = if (nextL (c :: t) l).2.1 = 0 then toksL (M + 1) (nextL (c :: t) l).2.2 l (out ++ [(nextL (c :: t) l).1]) else ([], l, (nextL (c :: t) l).2.1) := by
  rw [toksL_step, sk_stop c t l h1 h2 h3]
  show tokStep M (c :: t) l out = _
  unfold tokStep
  have hne : ¬ (c :: t = []) := by simp
  rw [if_neg hne]
  by_cases he : (nextL (c :: t) l).2.1 = 0
  · rw [if_pos he, if_pos he]
    have := next_len c t l he
    exact toksL_fuel _ _ _ _ _ (by omega) (by omega)
  · rw [if_neg he, if_neg he]
theorem sk_head : ∀ (s : List UInt8) (b : Bool) (l : Int) (c : UInt8) (t : List UInt8), (sk b s l).1 = c :: t → c ≠ 10 ∧ c ≠ 35 ∧ blankB c = false
  | [], b, l, c, t, h => by cases b <;> simp [sk] at h
  | x :: s, true, l, c, t, h => by
    unfold sk at h
    split at h
    · exact sk_head s false _ c t h
    · exact sk_head s true _ c t h
  | x :: s, false, l, c, t, h => by
    unfold sk at h
    split at h
    · exact sk_head s false _ c t h
    · rename_i h1
      split at h
      · exact sk_head s true _ c t h
      · rename_i h2
        split at h
        · exact sk_head s false _ c t h
        · rename_i h3
          simp only [List.cons.injEq] at h
          obtain ⟨rfl, _⟩ := h
          exact ⟨h1, h2, Bool.eq_false_iff.mpr h3⟩
/-- What is left behind the skipping is an end of the text. -/
theorem sk_suf : ∀ (s : List UInt8) (b : Bool) (l : Int), ∃ p, s = p ++ (sk b s l).1
  | [], b, l => ⟨[], by cases b <;> rfl⟩
  | x :: s, true, l => by
    unfold sk
    split
    · obtain ⟨p, hp⟩ := sk_suf s false (l + 1); exact ⟨x :: p, by rw [List.cons_append, ← hp]⟩
    · obtain ⟨p, hp⟩ := sk_suf s true l; exact ⟨x :: p, by rw [List.cons_append, ← hp]⟩
  | x :: s, false, l => by
    unfold sk
    split
    · obtain ⟨p, hp⟩ := sk_suf s false (l + 1); exact ⟨x :: p, by rw [List.cons_append, ← hp]⟩
    · split
      · obtain ⟨p, hp⟩ := sk_suf s true l; exact ⟨x :: p, by rw [List.cons_append, ← hp]⟩
      · split
        · obtain ⟨p, hp⟩ := sk_suf s false l; exact ⟨x :: p, by rw [List.cons_append, ← hp]⟩
        · exact ⟨[], rfl⟩
/-- A text that is one token: a sign, or a run of its kind. -/
def oneQ (k : Int) (q : List UInt8) : Prop := (∃ c, q = [c] ∧ signB c = true ∧ k = 3) ∨ (∃ c t, q = c :: t ∧ signB c = false ∧ runL q = q ∧ kindL q = (k, 0))
def plainHead (q : List UInt8) : Prop := ∃ c t, q = c :: t ∧ c ≠ 10 ∧ c ≠ 35 ∧ blankB c = false
theorem tw_idem (p : UInt8 → Bool) : ∀ s : List UInt8, (s.takeWhile p).takeWhile p = s.takeWhile p
  | [] => rfl
  | x :: t => by
    rw [List.takeWhile_cons]
    by_cases h : p x = true
    · rw [if_pos h, List.takeWhile_cons, if_pos h, tw_idem p t]
    · rw [if_neg h]; rfl
/-- What the next one is: of what stands at the head. -/
theorem next_one (c : UInt8) (t : List UInt8) (l : Int) (h : (nextL (c :: t) l).2.1 = 0) : ∃ q r, c :: t = q ++ r ∧ (nextL (c :: t) l).1.f1 = txt q ∧ (nextL (c :: t) l).2.2 = r ∧ (nextL (c :: t) l).1.f2 = l ∧ oneQ (nextL (c :: t) l).1.f0 q ∧ q.head? = some c := by
  unfold nextL at h ⊢
  rw [show (c :: t).headD 0 = c from rfl] at h ⊢
  by_cases hs : signB c = true
  · rw [if_pos hs]
    exact ⟨[c], t, rfl, rfl, rfl, rfl, .inl ⟨c, rfl, hs, rfl⟩, rfl⟩
  · rw [if_neg hs] at h ⊢
    by_cases hr : runL (c :: t) = []
    · rw [if_pos hr] at h; exact absurd (show (32 : Int) = 0 from h) (by decide)
    · rw [if_neg hr] at h ⊢
      have hp : partB c = true := by
        apply Classical.byContradiction
        intro hp
        apply hr
        unfold runL; rw [List.takeWhile_cons, if_neg hp]
      have e : runL (c :: t) = c :: runL t := by unfold runL; rw [List.takeWhile_cons, if_pos hp]
      refine ⟨runL (c :: t), (c :: t).drop (runL (c :: t)).length, ?_, rfl, rfl, rfl, .inr ⟨c, runL t, e, Bool.eq_false_iff.mpr hs, ?_, ?_⟩, by rw [e]; rfl⟩
      · have := tw_take partB (c :: t)
        have e2 : (c :: t).take (runL (c :: t)).length = runL (c :: t) := this
        rw [← e2]
        simp only [List.length_take]
        rw [show min (runL (c :: t)).length (c :: t).length = (runL (c :: t)).length by have := tw_len partB (c :: t); unfold runL; omega]
        rw [e2]
        exact (List.take_append_drop _ _).symm.trans (by rw [e2])
      · exact tw_idem partB _
      · exact Prod.ext rfl h
/-- And the other way round. -/
theorem one_next (k : Int) (q r : List UInt8) (l : Int) (h : oneQ k q) (hr : ∀ c t, r = c :: t → partB c = false) : nextL (q ++ r) l = (⟨k, txt q, l⟩, 0, r) := by
  rcases h with ⟨c, rfl, hs, rfl⟩ | ⟨c, t, rfl, hs, hrun, hk⟩
  · unfold nextL
    rw [show ([c] ++ r).headD 0 = c from rfl, if_pos hs]
    rfl
  · have hrun2 : runL (c :: t ++ r) = c :: t := by
      unfold runL at hrun ⊢
      have hall : ∀ x ∈ c :: t, partB x = true := by
        intro x hx
        rw [← hrun] at hx
        exact tw_mem partB _ x hx
      generalize c :: t = q at hall
      clear hrun hk hs
      induction q with
      | nil =>
        cases r with
        | nil => rfl
        | cons y r => rw [List.nil_append, List.takeWhile_cons, if_neg (by rw [hr y r rfl]; decide)]
      | cons x q ih =>
        rw [List.cons_append, List.takeWhile_cons, if_pos (hall x List.mem_cons_self), ih (fun y hy => hall y (List.mem_cons_of_mem _ hy))]
    unfold nextL
    rw [show (c :: t ++ r).headD 0 = c from rfl, if_neg (by rw [hs]; decide), hrun2, if_neg (by simp), hk]
    simp only [List.length_cons, Prod.mk.injEq, true_and]
    rw [List.cons_append, List.drop_succ_cons, List.drop_left]
theorem toks_pre (n : Nat) : ∀ (s : List UInt8) (l : Int) (out : List S98), (toksL n s l out).2.2 = 0 → ∃ m, (toksL n s l out).1 = out ++ m := by
  induction n with
  | zero => intro s l out h; exact ⟨[], by simp [toksL]⟩
  | succ n ih =>
    intro s l out
    rw [toksL_step]
    unfold tokStep
    split
    · intro _; exact ⟨[], by simp⟩
    · split
      · intro h
        obtain ⟨m, hm⟩ := ih _ _ _ h
        exact ⟨(nextL (sk false s l).1 (sk false s l).2).1 :: m, by rw [hm]; simp⟩
      · rename_i h; intro h2; exact absurd h2 h
theorem tokF_txt (q : List UInt8) (h : q.length ≤ 65536) : tokF (txt q) = toksL (q.length + 1) q 1 [] := by
  unfold tokF
  rw [txt_size, if_neg (by omega), txt_list]
theorem txt_inj {a b : List UInt8} (h : txt a = txt b) : a = b := by
  have := congrArg (fun x : ByteArray => x.data.toList) h
  simpa [txt] using this
theorem sk_plain (q r : List UInt8) (l : Int) (h : plainHead q) : sk false (q ++ r) l = (q ++ r, l) := by
  obtain ⟨c, t, rfl, h1, h2, h3⟩ := h
  rw [List.cons_append]; exact sk_stop c _ l h1 h2 h3
/-- One token alone. -/
theorem one_tok (k : Int) (q : List UInt8) (h : oneQ k q) (hp : plainHead q) (hl : q.length ≤ 65536) : tokF (txt q) = ([⟨k, txt q, 1⟩], 0, 0) := by
  rw [tokF_txt q hl]
  have hne : q.length ≠ 0 := by obtain ⟨c, t, rfl, _⟩ := hp; simp
  obtain ⟨n, hn⟩ : ∃ n, q.length = n + 1 := ⟨q.length - 1, by omega⟩
  have hs := sk_plain q [] 1 hp
  rw [List.append_nil] at hs
  have hx := one_next k q [] 1 h (fun c t h => by cases h)
  rw [List.append_nil] at hx
  rw [toksL_step, hs]
  show tokStep q.length q 1 [] = _
  unfold tokStep
  rw [if_neg (by rintro rfl; exact hne rfl), hx, if_pos rfl, hn]
  rfl
/-- A token that may be is its text's one token. -/
theorem check_one (t : S98) (h : checkT t = 0) : oneQ t.f0 t.f1.data.toList ∧ plainHead t.f1.data.toList ∧ 1 ≤ t.f2 ∧ t.f1.data.toList.length ≤ 65536 := by
  obtain ⟨q1, q2⟩ := checkT_ok t h
  obtain ⟨q, hq⟩ : ∃ q, t.f1 = txt q := ⟨t.f1.data.toList, (txt_data _).symm⟩
  rw [hq, txt_size] at q2
  have hlist : t.f1.data.toList = q := by rw [hq, txt_list]
  rw [hlist]
  unfold checkT at h
  by_cases c0 : t.f0 < 1
  · rw [if_pos c0] at h; exact absurd h (by decide)
  rw [if_neg c0] at h
  by_cases c1 : t.f0 > 3
  · rw [if_pos c1] at h; exact absurd h (by decide)
  rw [if_neg c1] at h
  by_cases c2 : (tokF t.f1).2.2 ≠ 0
  · rw [if_pos c2] at h; exact absurd h (by decide)
  rw [if_neg c2] at h
  by_cases c3 : (tokF t.f1).1.length ≠ 1
  · rw [if_pos c3] at h; exact absurd h (by decide)
  rw [if_neg c3] at h
  by_cases c4 : isTok (tokF t.f1).1 t = false
  · rw [if_pos c4] at h; exact absurd h (by decide)
  clear h c0 c1
  have c2 : (tokF t.f1).2.2 = 0 := Classical.not_not.mp c2
  have c3 : (tokF t.f1).1.length = 1 := Classical.not_not.mp c3
  have c4 : isTok (tokF t.f1).1 t = true := by simpa using c4
  rw [hq, tokF_txt q q2] at c2 c3 c4
  rw [toksL_step] at c2 c3 c4
  have hsuf := sk_suf q false 1
  have hhead := sk_head q false 1
  generalize (sk false q 1).1 = r at c2 c3 c4 hsuf hhead
  generalize (sk false q 1).2 = l2 at c2 c3 c4
  unfold tokStep at c2 c3 c4
  cases r with
  | nil => rw [if_pos rfl] at c3; simp at c3
  | cons c u =>
    rw [if_neg (by simp)] at c2 c3 c4
    by_cases he : (nextL (c :: u) l2).2.1 = 0
    · rw [if_pos he] at c2 c3 c4
      obtain ⟨p, r2, e1, e2, e3, e4, e5, e6⟩ := next_one c u l2 he
      obtain ⟨m, hm⟩ := toks_pre _ _ _ _ c2
      rw [hm] at c3 c4
      have hm0 : m = [] := by
        apply List.eq_nil_of_length_eq_zero
        simp only [List.length_append, List.length_cons, List.length_nil] at c3; omega
      subst hm0
      have hrd : rd_T98 (([] ++ [(nextL (c :: u) l2).1]) ++ []) 0 = (nextL (c :: u) l2).1 := rfl
      unfold isTok at c4
      rw [hrd, e2] at c4
      simp only [Bool.and_eq_true, beq_iff_eq, txt_toList] at c4
      obtain ⟨d1, d2, d3⟩ := c4
      rw [hq, txt_toList] at d2
      subst d2
      obtain ⟨pre, hpre⟩ := hsuf
      have hlen := congrArg List.length hpre
      have hlen2 := congrArg List.length e1
      simp only [List.length_append] at hlen hlen2
      have hr2 : r2 = [] := List.eq_nil_of_length_eq_zero (by omega)
      subst hr2
      rw [List.append_nil] at e1
      refine ⟨by rw [← d1]; exact e5, ⟨c, u, e1.symm, hhead c u rfl⟩, q1, q2⟩
    · rw [if_neg he] at c2; exact absurd c2 he
theorem one_kind (k : Int) (q : List UInt8) (h : oneQ k q) : 1 ≤ k ∧ k ≤ 3 := by
  rcases h with ⟨c, _, _, rfl⟩ | ⟨c, t, _, _, _, hk⟩
  · omega
  · unfold kindL at hk
    split at hk
    · injection hk with a b; exact absurd b (by decide)
    · split at hk
      · injection hk with a b; omega
      · split at hk
        · injection hk with a b; exact absurd b (by decide)
        · split at hk
          · injection hk with a b; exact absurd b (by decide)
          · injection hk with a b; omega
theorem check_mk (t : S98) (q : List UInt8) (hq : t.f1 = txt q) (h : oneQ t.f0 q) (hp : plainHead q) (hl : q.length ≤ 65536) (h1 : 1 ≤ t.f2) : checkT t = 0 := by
  have hk := one_kind _ _ h
  unfold checkT
  rw [if_neg (by omega), if_neg (by omega), hq, one_tok t.f0 q h hp hl, if_neg (by simp), if_neg (by simp), if_neg, if_neg (by omega)]
  unfold isTok
  rw [hq]
  show ¬ (t.f0 == t.f0 && ((txt q).toList == (txt q).toList && (1 : Int) == 1)) = false
  simp
theorem part32 : partB 32 = false := by decide +kernel
theorem part10 : partB 10 = false := by decide +kernel
theorem blank32 : blankB 32 = true := by decide +kernel
def decN (n : Nat) : List UInt8 := if n < 10 then [UInt8.ofNat (48 + n)] else decN (n / 10) ++ [UInt8.ofNat (48 + n % 10)]
decreasing_by omega
theorem decN_lt {n : Nat} (h : n < 10) : decN n = [UInt8.ofNat (48 + n)] := by
  rw [decN, if_pos h]
theorem decN_ge {n : Nat} (h : ¬ n < 10) : decN n = decN (n / 10) ++ [UInt8.ofNat (48 + n % 10)] := by
  rw [decN, if_neg h]
/-! What is printed is read again. Pieces of a text, and what they are read as. -/
def shp (t : S98) : Int × ByteArray := (t.f0, t.f1)
def Opn (r : List UInt8) : Prop := ∀ c t, r = c :: t → partB c = false
/-- A piece is read as these tokens; o: it must not be followed by a part of a word. -/
def Reads (o : Bool) (s : List UInt8) (ts : List (Int × ByteArray)) : Prop :=
  ∀ (M : Nat) (r : List UInt8) (l : Int) (out : List S98), (s ++ r).length ≤ M → 1 ≤ l → (o = true → Opn r) →
    ∃ l2 m, 1 ≤ l2 ∧ toksL (M + 1) (s ++ r) l out = toksL (M + 1) r l2 (out ++ m) ∧ m.map shp = ts ∧ ∀ t ∈ m, checkT t = 0
theorem Reads.app {o p : Bool} {s u : List UInt8} {ts us : List (Int × ByteArray)} (h : Reads o s ts) (k : Reads p u us) (ho : o = true → u ≠ [] ∧ Opn u) : Reads p (s ++ u) (ts ++ us) := by
  intro M r l out hM hl hp
  rw [List.append_assoc] at hM ⊢
  obtain ⟨l2, m, h1, h2, h3, h4⟩ := h M (u ++ r) l out hM hl (fun e c t ec => by
    obtain ⟨hu, hO⟩ := ho e
    cases u with
    | nil => exact absurd rfl hu
    | cons a u' =>
      rw [List.cons_append] at ec
      injection ec with e1 e2
      subst e1
      exact hO a u' rfl)
  obtain ⟨l3, m2, k1, k2, k3, k4⟩ := k M r l2 (out ++ m) (by rw [List.length_append] at hM; omega) h1 hp
  refine ⟨l3, m ++ m2, k1, by rw [h2, k2, List.append_assoc], by rw [List.map_append, h3, k3], fun t ht => ?_⟩
  rcases List.mem_append.1 ht with ht | ht
  · exact h4 t ht
  · exact k4 t ht
theorem Reads.weaken {o : Bool} {s : List UInt8} {ts : List (Int × ByteArray)} (h : Reads false s ts) : Reads o s ts := fun M r l out hM hl _ => h M r l out hM hl (fun e => by cases e)
theorem reads_nil : Reads false [] [] := fun M r l out hM hl _ => ⟨l, [], hl, by rw [List.append_nil]; rfl, rfl, fun t ht => by cases ht⟩
theorem reads_blank (c : UInt8) (h1 : c ≠ 10) (h2 : c ≠ 35) (h3 : blankB c = true) : Reads false [c] [] := fun M r l out hM hl _ => ⟨l, [], hl, by rw [List.append_nil]; exact T_blank M c r l out h1 h2 h3, rfl, fun t ht => by cases ht⟩
theorem reads_nl : Reads false [10] [] := fun M r l out hM hl _ => ⟨l + 1, [], by omega, by rw [List.append_nil]; exact T_nl M r l out, rfl, fun t ht => by cases ht⟩
theorem reads_one (k : Int) (q : List UInt8) (h : oneQ k q) (hp : plainHead q) (hq : q.length ≤ 65536) : Reads true q [(k, txt q)] := by
  intro M r l out hM hl ho
  have hn := one_next k q r l h (ho rfl)
  obtain ⟨c, t, rfl, c1, c2, c3⟩ := hp
  have hT := T_tok M c (t ++ r) l out (by simp only [List.cons_append, List.length_cons] at hM; omega) c1 c2 c3
  rw [← List.cons_append, hn, if_pos rfl] at hT
  exact ⟨l, [⟨k, txt (c :: t), l⟩], hl, hT, rfl, fun x hx => by
    rw [List.mem_singleton] at hx
    subst hx
    exact check_mk _ (c :: t) rfl h ⟨c, t, rfl, c1, c2, c3⟩ hq hl⟩
theorem reads_sign (c : UInt8) (h : signB c = true) (h1 : c ≠ 10) (h2 : c ≠ 35) (h3 : blankB c = false) : Reads false [c] [(3, txt [c])] := by
  intro M r l out hM hl _
  have hn : nextL (c :: r) l = (⟨3, txt [c], l⟩, 0, r) := by
    unfold nextL
    rw [if_pos (show signB ((c :: r).headD 0) = true from h)]
    rfl
  have hT := T_tok M c r l out (by simp only [List.cons_append, List.length_cons, List.nil_append] at hM; omega) h1 h2 h3
  rw [hn, if_pos rfl] at hT
  exact ⟨l, [⟨3, txt [c], l⟩], hl, hT, rfl, fun x hx => by
    rw [List.mem_singleton] at hx
    subst hx
    exact check_mk _ [c] rfl (.inl ⟨c, rfl, h, rfl⟩) ⟨c, [], rfl, h1, h2, h3⟩ (by show 1 ≤ 65536; omega) hl⟩
theorem opn_cons {c : UInt8} {t : List UInt8} (h : partB c = false) : (c :: t) ≠ [] ∧ Opn (c :: t) := ⟨by simp, fun a b e => by injection e with e1 _; rw [← e1]; exact h⟩
/-! Numbers. -/
theorem digit_ofNat (m : Nat) (h : m ≤ 9) : digitB (UInt8.ofNat (48 + m)) = true ∧ partB (UInt8.ofNat (48 + m)) = true ∧ letterB (UInt8.ofNat (48 + m)) = false ∧ signB (UInt8.ofNat (48 + m)) = false ∧ blankB (UInt8.ofNat (48 + m)) = false ∧ UInt8.ofNat (48 + m) ≠ 10 ∧ UInt8.ofNat (48 + m) ≠ 35 ∧ UInt8.ofNat (48 + m) ≠ 95 ∧ (UInt8.ofNat (48 + m)).toNat = 48 + m ∧ (UInt8.ofNat (48 + m) = 48 ↔ m = 0) := by
  have : ∀ n : Fin 10, digitB (UInt8.ofNat (48 + n.val)) = true ∧ partB (UInt8.ofNat (48 + n.val)) = true ∧ letterB (UInt8.ofNat (48 + n.val)) = false ∧ signB (UInt8.ofNat (48 + n.val)) = false ∧ blankB (UInt8.ofNat (48 + n.val)) = false ∧ UInt8.ofNat (48 + n.val) ≠ 10 ∧ UInt8.ofNat (48 + n.val) ≠ 35 ∧ UInt8.ofNat (48 + n.val) ≠ 95 ∧ (UInt8.ofNat (48 + n.val)).toNat = 48 + n.val ∧ (UInt8.ofNat (48 + n.val) = 48 ↔ n.val = 0) := by decide +kernel
  exact this ⟨m, by omega⟩
theorem decN_ne (n : Nat) : decN n ≠ [] := by
  by_cases h : n < 10
  · rw [decN_lt h]; simp
  · rw [decN_ge h]; simp
theorem decN_all : ∀ (k n : Nat), n < 10 ^ (k + 1) → (decN n).length ≤ k + 1 ∧ (∀ c ∈ decN n, digitB c = true ∧ partB c = true) ∧ (∃ m, m ≤ 9 ∧ (decN n).headD 0 = UInt8.ofNat (48 + m) ∧ (m = 0 → n = 0))
  | 0, n, h => by
    rw [decN_lt (by omega)]
    have hd := digit_ofNat n (by omega)
    exact ⟨by simp, fun c hc => by rw [List.mem_singleton] at hc; rw [hc]; exact ⟨hd.1, hd.2.1⟩, n, by omega, rfl, fun e => e⟩
  | k + 1, n, h => by
    by_cases hn : n < 10
    · rw [decN_lt hn]
      have hd := digit_ofNat n (by omega)
      exact ⟨by simp, fun c hc => by rw [List.mem_singleton] at hc; rw [hc]; exact ⟨hd.1, hd.2.1⟩, n, by omega, rfl, fun e => e⟩
    · have hlt : n / 10 < 10 ^ (k + 1) := by rw [Nat.div_lt_iff_lt_mul (by decide)]; rw [Nat.pow_succ] at h; exact h
      obtain ⟨a, b, m, c1, c2, c3⟩ := decN_all k (n / 10) hlt
      have hd := digit_ofNat (n % 10) (by omega)
      rw [decN_ge hn]
      refine ⟨by rw [List.length_append]; simp; omega, fun c hc => ?_, m, c1, ?_, fun e => ?_⟩
      · rcases List.mem_append.1 hc with hc | hc
        · exact b c hc
        · rw [List.mem_singleton] at hc; rw [hc]; exact ⟨hd.1, hd.2.1⟩
      · have hne := decN_ne (n / 10)
        revert c2 hne
        cases decN (n / 10) with
        | nil => intro _ h; exact absurd rfl h
        | cons x t => intro c2 _; exact c2
      · have := c3 e; omega
theorem decN_zero (n : Nat) (hn : n ≤ 999999999) : ¬ ((decN n).headD 0 = 48 ∧ (decN n).length > 1) := by
  intro h
  obtain ⟨_, _, m, c1, c2, c3⟩ := decN_all 8 n (by omega)
  rw [c2] at h
  have := c3 (((digit_ofNat m c1).2.2.2.2.2.2.2.2.2).1 h.1)
  subst this
  rw [decN_lt (by omega)] at h
  exact absurd h.2 (by simp)
theorem decN_one (n : Nat) (hn : n ≤ 999999999) : oneQ 2 (decN n) ∧ plainHead (decN n) ∧ (decN n).length ≤ 9 := by
  obtain ⟨a, b, m, c1, c2, c3⟩ := decN_all 8 n (by omega)
  have hz := decN_zero n hn
  have hd := digit_ofNat m c1
  have hne := decN_ne n
  have hk : kindL (decN n) = (2, 0) := by
    unfold kindL
    rw [c2, if_neg (fun h => by rw [hd.2.2.1] at h; exact absurd h.1 (by simp)), if_neg (by rw [hd.2.2.1]; simp), if_neg hd.2.2.2.2.2.2.2.1, if_neg]
    rw [← c2]
    rintro (h | h | h)
    · rw [List.all_eq_false] at h
      obtain ⟨x, hx, hq⟩ := h
      exact hq (b x hx).1
    · omega
    · exact hz h
  have hr : runL (decN n) = decN n := tw_all partB (decN n) fun c hc => (b c hc).2
  revert c2 hk hr a hne
  generalize decN n = q
  intro a c2 hne hk hr
  cases q with
  | nil => exact absurd rfl hne
  | cons c t =>
    have hc : c = UInt8.ofNat (48 + m) := c2
    subst hc
    exact ⟨.inr ⟨_, t, rfl, hd.2.2.2.1, hr, hk⟩, ⟨_, t, rfl, hd.2.2.2.2.2.1, hd.2.2.2.2.2.2.1, hd.2.2.2.2.1⟩, a⟩
theorem reads_num (n : Nat) (hn : n ≤ 999999999) : Reads true (decN n) [(2, txt (decN n))] := by
  obtain ⟨a, b, c⟩ := decN_one n hn
  exact reads_one 2 _ a b (by omega)
theorem numS_app : ∀ (l k : List UInt8) (n : Int), numS n (l ++ k) = numS (numS n l) k
  | [], k, n => rfl
  | c :: t, k, n => by rw [List.cons_append]; exact numS_app t k _
theorem numS_dec : ∀ (k n : Nat), n < 10 ^ (k + 1) → n ≤ 999999999 → numS 0 (decN n) = (n : Int)
  | 0, n, h, _ => by
    rw [decN_lt (by omega)]
    have hd := (digit_ofNat n (by omega)).2.2.2.2.2.2.2.2.1
    unfold numS numS
    rw [hd]
    show wrap64 (wrap64 0 + (((48 + n : Nat) : Int) - 48) % 256) = n
    unfold wrap64; omega
  | k + 1, n, h, hn => by
    by_cases h10 : n < 10
    · rw [decN_lt h10]
      have hd := (digit_ofNat n (by omega)).2.2.2.2.2.2.2.2.1
      unfold numS numS
      rw [hd]
      show wrap64 (wrap64 0 + (((48 + n : Nat) : Int) - 48) % 256) = n
      unfold wrap64; omega
    · have hlt : n / 10 < 10 ^ (k + 1) := by rw [Nat.div_lt_iff_lt_mul (by decide)]; rw [Nat.pow_succ] at h; exact h
      rw [decN_ge h10, numS_app, numS_dec k (n / 10) hlt (by omega)]
      have hd := (digit_ofNat (n % 10) (by omega)).2.2.2.2.2.2.2.2.1
      unfold numS numS
      rw [hd]
      unfold wrap64; omega
theorem word_one (q : List UInt8) (h1 : signB (q.headD 0) = false) (h2 : runL q = q) (h3 : kindL q = (1, 0)) (h4 : q.headD 0 ≠ 10) (h5 : q.headD 0 ≠ 35) (h6 : blankB (q.headD 0) = false) (h7 : q ≠ []) (hq : q.length ≤ 65536) : Reads true q [(1, txt q)] := by
  cases q with
  | nil => exact absurd rfl h7
  | cons c t => exact reads_one 1 (c :: t) (.inr ⟨c, t, rfl, h1, h2, h3⟩) ⟨c, t, rfl, h4, h5, h6⟩ hq
theorem reads_lit (w : ByteArray) (h : signB (w.data.toList.headD 0) = false ∧ runL w.data.toList = w.data.toList ∧ kindL w.data.toList = (1, 0) ∧ w.data.toList.headD 0 ≠ 10 ∧ w.data.toList.headD 0 ≠ 35 ∧ blankB (w.data.toList.headD 0) = false ∧ w.data.toList ≠ [] ∧ w.data.toList.length ≤ 65536) : Reads true w.data.toList [(1, w)] := by
  obtain ⟨h1, h2, h3, h4, h5, h6, h7, h8⟩ := h
  have := word_one _ h1 h2 h3 h4 h5 h6 h7 h8
  rwa [txt_data] at this
theorem part_sign : ∀ c ∈ signs, partB c = false := by decide +kernel
theorem opn_nil : Opn [] := fun c t e => by cases e
/-! What the parser makes of tokens. -/
def Gives {α : Type} (f : St31 → Out α) (a : α) (ts : List (Int × ByteArray)) : Prop := ∀ m r n, m.map shp = ts → (∀ t ∈ m, checkT t = 0) → ∃ n', f (m ++ r, n) = .inr (a, (r, n'))
theorem Gives.bind {α β : Type} {f : St31 → Out α} {g : α → St31 → Out β} {a : α} {b : β} {ts us : List (Int × ByteArray)} (h : Gives f a ts) (k : Gives (g a) b us) : Gives (fun st => bindO (f st) g) b (ts ++ us) := by
  intro m r n hm hg
  obtain ⟨m1, m2, rfl, e1, e2⟩ := List.map_eq_append_iff.1 hm
  obtain ⟨n1, h1⟩ := h m1 (m2 ++ r) n e1 (fun t ht => hg t (List.mem_append_left _ ht))
  obtain ⟨n2, h2⟩ := k m2 r n1 e2 (fun t ht => hg t (List.mem_append_right _ ht))
  refine ⟨n2, ?_⟩
  show bindO (f (m1 ++ m2 ++ r, n)) g = _
  rw [List.append_assoc, h1]
  exact h2
theorem Gives.pure {α : Type} (a : α) : Gives (fun st => (.inr (a, st) : Out α)) a [] := fun m r n hm _ => by
  rw [List.map_eq_nil_iff] at hm
  subst hm
  exact ⟨n, rfl⟩
theorem gives_one {α : Type} {f : St31 → Out α} {a : α} {k : Int} {x : ByteArray} (h : ∀ (l : Int) (r : List S98) (n : Int), checkT ⟨k, x, l⟩ = 0 → ∃ n', f (⟨k, x, l⟩ :: r, n) = .inr (a, (r, n'))) : Gives f a [(k, x)] := by
  intro m r n hm hg
  obtain ⟨t, q, rfl, e1, e2⟩ := List.map_eq_cons_iff.1 hm
  rw [List.map_eq_nil_iff] at e2
  subst e2
  obtain ⟨t0, t1, t2⟩ := t
  have e3 : t0 = k ∧ t1 = x := by injection e1 with a b; exact ⟨a, b⟩
  obtain ⟨rfl, rfl⟩ := e3
  exact h t2 r n (hg _ List.mem_cons_self)
theorem eqS_refl (x : ByteArray) : eqS x x = true := by unfold eqS; simp
/-! The program's decimals are the plain ones. -/
theorem digits_decN : ∀ (k : Nat) (a : Int), k ≤ 1000 → 0 ≤ a → a < 10 ^ (k + 1) → a < 18446744073709551616 → script_digits.f (k + 1) a = some (txt (decN a.toNat))
  | 0, a, hk, h0, h1, h2 => by
    have h10 : a < 10 := by simpa using h1
    rw [digits_small 0 h10]
    congr 1
    unfold dig txt
    rw [decN_lt (by omega), wrapU (by omega) (by omega)]
    have e : (48 + a) % 256 = 48 + a := by omega
    rw [e]
    unfold strOfNums
    simp only [List.map_cons, List.map_nil]
    rw [show (48 + a).toNat = 48 + a.toNat by omega]
  | k + 1, a, hk, h0, h1, h2 => by
    by_cases h : a < 10
    · rw [digits_small (k + 1) h]
      congr 1
      unfold dig txt
      rw [decN_lt (by omega), wrapU (by omega) (by omega)]
      have e : (48 + a) % 256 = 48 + a := by omega
      rw [e]
      unfold strOfNums
      simp only [List.map_cons, List.map_nil]
      rw [show (48 + a).toNat = 48 + a.toNat by omega]
    · have hd : Int.tdiv a 10 = a / 10 := Int.tdiv_eq_ediv_of_nonneg h0
      have hm : Int.tmod a 10 = a % 10 := Int.tmod_eq_emod_of_nonneg h0
      have hp : (10 : Int) ^ (k + 1 + 1) = 10 ^ (k + 1) * 10 := rfl
      have hlt : a / 10 < 10 ^ (k + 1) := by rw [hp] at h1; omega
      have e := digits_decN k (a / 10) (by omega) (by omega) hlt (by omega)
      obtain ⟨r, er, _, s1, _⟩ := digits_ok k (a / 10) (by omega) (by omega) hlt (by omega)
      have e2 : script_digits.f (k + 1) (a % 10) = some (dig (a % 10)) := digits_small k (by omega)
      have e3 : r = txt (decN (a / 10).toNat) := by rw [er] at e; injection e
      have t1 := (dig_ok (a := a % 10) (by omega) (by omega)).1
      show (if a < 10 then _ else _) = _
      rw [if_neg h, hd, hm, wrapU (by omega) (by omega), er, e2]
      show (if r.size + (dig (a % 10)).size ≤ 9223372036854775807 then some (r ++ dig (a % 10)) else none) = _
      rw [if_pos (by omega), e3]
      congr 1
      rw [decN_ge (n := a.toNat) (by omega), show (a / 10).toNat = a.toNat / 10 by omega]
      apply ByteArray.ext
      rw [ByteArray.data_append]
      apply Array.ext'
      rw [Array.toList_append]
      show decN (a.toNat / 10) ++ (dig (a % 10)).data.toList = decN (a.toNat / 10) ++ [UInt8.ofNat (48 + a.toNat % 10)]
      congr 1
      unfold dig
      rw [strOfNums_data, wrapU (by omega) (by omega), show (48 + a % 10) % 256 = 48 + a % 10 by omega]
      simp only [List.map_cons, List.map_nil]
      rw [show (48 + a % 10).toNat = 48 + a.toNat % 10 by omega]
theorem decS_decN {a : Int} (h0 : 0 ≤ a) (h1 : a ≤ 999999999) : decS a = txt (decN a.toNat) := by
  unfold decS script_decimal.f
  rw [if_neg (by omega), wrapU (by omega) (by omega), digits_decN 20 a (by decide) h0 (Int.lt_of_lt_of_le (b := 1000000000) (by omega) (by decide)) (by omega)]
  rfl
theorem reads_dec {a : Int} (h0 : 0 ≤ a) (h1 : a ≤ 999999999) : Reads true (decS a).data.toList [(2, decS a)] := by
  rw [decS_decN h0 h1]
  exact reads_num a.toNat (by omega)
theorem gives_num {a : Int} (h0 : 0 ≤ a) (h1 : a ≤ 999999999) : Gives numberS a [(2, decS a)] := gives_one fun l r n hc => ⟨l, by
  show (if (2 : Int) = 2 then (if (numT ⟨2, decS a, l⟩).2 = 0 then .inr ((numT ⟨2, decS a, l⟩).1, (r, l)) else .inl ((numT ⟨2, decS a, l⟩).2, (r, l))) else .inl (33, (⟨2, decS a, l⟩ :: r, l)) : Out Int) = _
  have e : numT ⟨2, decS a, l⟩ = (a, 0) := by
    unfold numT
    rw [if_pos hc, if_pos rfl]
    rw [decS_decN h0 h1]
    have := numS_dec 9 a.toNat (by omega) (by omega)
    show (numS 0 (decN a.toNat), (0 : Int)) = _
    rw [this]
    congr 1
    omega
  rw [if_pos rfl, e, if_pos rfl]⟩
/-- A word of a list. -/
theorem gives_word (ws : List ByteArray) (x : ByteArray) (i : Int) (h : idxL (eqS x) ws = i) (h0 : 0 ≤ i) (k : Int) : Gives (wordS ws) i [(k, x)] := gives_one fun l r n _ => ⟨l, by
  show (if 0 ≤ idxL (eqS x) ws then .inr (idxL (eqS x) ws, (r, l)) else .inl (33, (⟨k, x, l⟩ :: r, l)) : Out Int) = _
  rw [h, if_pos h0]⟩
/-! A line's words, as tokens. -/
def KR (p : Int × ByteArray) : Prop := Reads true p.2.data.toList [p]
theorem reads_join : ∀ (t : List (Int × ByteArray)) (x : Int × ByteArray), KR x → (∀ y ∈ t, KR y) → Reads true (Lib.join ((x :: t).map fun p => p.2.data.toList) [32]) (x :: t)
  | [], x, hx, _ => by
    rw [List.map_cons, List.map_nil, Lib.join_one]
    exact hx
  | y :: t, x, hx, h => by
    have ih := reads_join t y (h y List.mem_cons_self) (fun z hz => h z (List.mem_cons_of_mem _ hz))
    have e : Lib.join ((x :: y :: t).map fun p => p.2.data.toList) [32] = x.2.data.toList ++ ([32] ++ Lib.join ((y :: t).map fun p => p.2.data.toList) [32]) := by
      rw [List.map_cons, Lib.join_cons, List.map_cons, Lib.join_cons]
      simp [Lib.joinTail]
    rw [e]
    exact Reads.app hx (Reads.app (reads_blank 32 (by decide) (by decide) (by decide +kernel)) ih (fun e => by cases e)) (fun _ => opn_cons (by decide +kernel))
def opK (g : Op4) : List (Int × ByteArray) := if g.f0 = 1 then (if g.f3 < 0 then [(1, dropW), (2, decS g.f1), (2, decS (-g.f3))] else [(1, addW), (2, decS g.f1), (2, decS g.f3)]) else if g.f0 = 2 then [(1, moveW), (2, decS g.f1), (2, decS g.f2), (2, decS g.f3)] else if g.f0 = 3 then [(1, getW), (2, decS g.f1)] else [(1, sumW)]
def bsK (bs : List S62) : List (Int × ByteArray) := bs.flatMap fun b => [(2, decS b.f0), (2, decS b.f1)]
def restK (e : Ev) : List (Int × ByteArray) := if e.f0 = 1 then [(2, decS e.f1), (2, decS e.f2)] ++ opK e.g else if e.f0 = 2 ∨ e.f0 = 3 ∨ e.f0 = 4 then [(2, decS e.f2)] else if e.f0 = 10 then [(2, decS e.f1), (2, decS e.f2)] else if e.f0 = 7 then [(2, decS e.f1), (2, decS e.v)] ++ bsK e.bs else [(2, decS e.f1)]
def evK (e : Ev) : List (Int × ByteArray) := ((1, kw e.f0) :: restK e) ++ [(3, tSC)]
theorem bsK_bsT (bs : List S62) : (bsK bs).map Prod.snd = bsT bs := by
  induction bs with
  | nil => rfl
  | cons b t ih =>
    have e1 : bsK (b :: t) = (2, decS b.f0) :: (2, decS b.f1) :: bsK t := rfl
    have e2 : bsT (b :: t) = decS b.f0 :: decS b.f1 :: bsT t := rfl
    rw [e1, e2, List.map_cons, List.map_cons, ih]
theorem restK_restT (e : Ev) : (restK e).map Prod.snd = restT e := by
  unfold restK restT opK opT
  repeat' split
  all_goals first | rfl | simp [bsK_bsT]
def litOk (w : ByteArray) : Prop := signB (w.data.toList.headD 0) = false ∧ runL w.data.toList = w.data.toList ∧ kindL w.data.toList = (1, 0) ∧ w.data.toList.headD 0 ≠ 10 ∧ w.data.toList.headD 0 ≠ 35 ∧ blankB (w.data.toList.headD 0) = false ∧ w.data.toList ≠ [] ∧ w.data.toList.length ≤ 65536
instance (w : ByteArray) : Decidable (litOk w) := by unfold litOk; infer_instance
theorem kr_lit {w : ByteArray} (h : litOk w) : KR (1, w) := reads_lit w h
theorem kr_dec {a : Int} (h : 0 ≤ a ∧ a ≤ 999999999) : KR (2, decS a) := reads_dec h.1 h.2
theorem kr_kw {k : Int} (h0 : 1 ≤ k) (h1 : k ≤ 10) : KR (1, kw k) := by
  have h10 : ∀ j : Fin 10, litOk (wordsL.getD j.val ⟨#[]⟩) := by decide +kernel
  exact kr_lit (h10 ⟨(k - 1).toNat, by omega⟩)
theorem restK_reads {e : Ev} (h : EvOk e) : ∀ p ∈ restK e, KR p := by
  have hg := evOk_g h
  have a1 := kr_dec h.h1
  have a2 := kr_dec h.h2
  have a3 := kr_dec h.vv
  have a4 := kr_dec (a := e.g.f1) (by omega)
  have a5 := kr_dec (a := e.g.f2) (by omega)
  have b1 : KR (1, dropW) := kr_lit (by decide +kernel)
  have b2 : KR (1, addW) := kr_lit (by decide +kernel)
  have b3 : KR (1, moveW) := kr_lit (by decide +kernel)
  have b4 : KR (1, getW) := kr_lit (by decide +kernel)
  have b5 : KR (1, sumW) := kr_lit (by decide +kernel)
  have am := h.am
  have a8 : ∀ p ∈ bsK e.bs, KR p := fun p hp => by
    unfold bsK at hp
    obtain ⟨b, hb, hp⟩ := List.mem_flatMap.1 hp
    have c := h.ids b hb
    have c1 := kr_dec c.1
    have c2 := kr_dec (a := b.f1) (by omega)
    simp only [List.mem_cons, List.not_mem_nil, or_false] at hp
    rcases hp with rfl | rfl <;> assumption
  intro p hp
  unfold restK opK at hp
  split at hp
  · rename_i h1
    have hl := ledC_zero (h.op h1)
    split at hp
    · split at hp
      · have a6 := kr_dec (a := -e.g.f3) (by omega)
        simp only [List.mem_append, List.mem_cons, List.not_mem_nil, or_false] at hp; rcases hp with (rfl | rfl) | rfl | rfl | rfl <;> assumption
      · have a6 := kr_dec (a := e.g.f3) (by omega)
        simp only [List.mem_append, List.mem_cons, List.not_mem_nil, or_false] at hp; rcases hp with (rfl | rfl) | rfl | rfl | rfl <;> assumption
    · split at hp
      · rename_i h2
        have hle : leastL e.g = 0 := if_pos h2
        have a6 := kr_dec (a := e.g.f3) (by omega)
        simp only [List.mem_append, List.mem_cons, List.not_mem_nil, or_false] at hp; rcases hp with (rfl | rfl) | rfl | rfl | rfl | rfl <;> assumption
      · split at hp
        · simp only [List.mem_append, List.mem_cons, List.not_mem_nil, or_false] at hp; rcases hp with (rfl | rfl) | rfl | rfl <;> assumption
        · simp only [List.mem_append, List.mem_cons, List.not_mem_nil, or_false] at hp; rcases hp with (rfl | rfl) | rfl <;> assumption
  · split at hp
    · simp only [List.mem_cons, List.not_mem_nil, or_false] at hp; rcases hp with rfl; assumption
    · split at hp
      · simp only [List.mem_cons, List.not_mem_nil, or_false] at hp; rcases hp with rfl | rfl <;> assumption
      · split at hp
        · simp only [List.mem_append, List.mem_cons, List.not_mem_nil, or_false] at hp
          rcases hp with (rfl | rfl) | hp
          · assumption
          · assumption
          · exact a8 _ hp
        · simp only [List.mem_cons, List.not_mem_nil, or_false] at hp; rcases hp with rfl; assumption
theorem line_reads {e : Ev} (h : EvOk e) : Reads false ((lineT e).data.toList ++ [10]) (evK e) := by
  have h1 := reads_join (restK e) (1, kw e.f0) (kr_kw h.k0 h.k1) (restK_reads h)
  have e1 : ((1, kw e.f0) :: restK e).map (fun p => p.2.data.toList) = (kw e.f0 :: restT e).map (fun s => s.data.toList) := by
    rw [← restK_restT, List.map_cons, List.map_cons, List.map_map]; rfl
  rw [e1] at h1
  have e2 : (lineT e).data.toList ++ [10] = Lib.join ((kw e.f0 :: restT e).map (fun s => s.data.toList)) [32] ++ ([59] ++ [10]) := by
    unfold lineT joinL
    rw [ByteArray.data_append, Array.toList_append, List.append_assoc]
  rw [e2]
  exact Reads.app h1 (Reads.app (reads_sign 59 (by decide +kernel) (by decide) (by decide) (by decide +kernel)) reads_nl (fun e => by cases e)) (fun _ => opn_cons (by decide +kernel))
/-! An event out of its tokens. -/
theorem gives_kw {k : Int} (h0 : 1 ≤ k) (h1 : k ≤ 10) : Gives (wordS wordsL) (k - 1) [(1, kw k)] := by
  have h10 : ∀ j : Fin 10, idxL (eqS (wordsL.getD j.val ⟨#[]⟩)) wordsL = (j.val : Int) := by decide +kernel
  refine gives_word wordsL (kw k) (k - 1) ?_ (by omega) 1
  have := h10 ⟨(k - 1).toNat, by omega⟩
  show idxL (eqS (wordsL.getD (k - 1).toNat ⟨#[]⟩)) wordsL = k - 1
  rw [this]
  show (((k - 1).toNat : Nat) : Int) = k - 1
  omega
theorem gives_sc : Gives (wordS [tSC]) 0 [(3, tSC)] := gives_word [tSC] tSC 0 (by decide +kernel) (by decide) 3
theorem gives_op {g : Op4} (h : ledC g = 0) (hr : -999999999 ≤ g.f3 ∧ g.f3 ≤ 999999999) : Gives opS g (opK g) := by
  obtain ⟨h1, h2, h3, h4, h5, h6, h7, h8, h9⟩ := ledC_zero h
  obtain ⟨a, b, c, d⟩ := g
  have h1 : 1 ≤ a := h1
  have h2 : a ≤ 4 := h2
  have h3 : 0 ≤ b := h3
  have h4 : 0 ≤ c := h4
  have h5 : b < 16 := h5
  have h6 : c < 16 := h6
  have hr0 : -999999999 ≤ d := hr.1
  have hr1 : d ≤ 999999999 := hr.2
  obtain rfl | rfl | rfl | rfl : a = 1 ∨ a = 2 ∨ a = 3 ∨ a = 4 := by omega
  · have e : c = 0 := by have := congrArg Op4.f2 h9; exact this
    subst e
    unfold opK
    rw [if_pos rfl]
    by_cases hd : d < 0
    · have hd' : (⟨1, b, 0, d⟩ : Op4).f3 < 0 := hd
      rw [if_pos hd']
      have g1 := Gives.bind (gives_num (a := b) (by omega) (by omega)) (g := fun a st2 => bindO (numberS st2) fun b st3 => (.inr (⟨1, a, 0, wrap64 (-b)⟩, st3) : Out Op4)) (b := ⟨1, b, 0, d⟩) (Gives.bind (gives_num (a := -d) (by omega) (by omega)) (by
        have e : wrap64 (-(-d)) = d := by unfold wrap64; omega
        show Gives (fun st => (.inr (⟨1, b, 0, wrap64 (-(-d))⟩, st) : Out Op4)) _ _
        rw [e]
        exact Gives.pure _))
      exact Gives.bind (gives_word opW dropW 1 (by decide +kernel) (by decide) 1) g1
    · have hd' : ¬ (⟨1, b, 0, d⟩ : Op4).f3 < 0 := hd
      rw [if_neg hd']
      have g1 := Gives.bind (gives_num (a := b) (by omega) (by omega)) (g := fun a st2 => bindO (numberS st2) fun b st3 => (.inr (⟨1, a, 0, b⟩, st3) : Out Op4)) (b := ⟨1, b, 0, d⟩) (Gives.bind (gives_num (a := d) (by omega) (by omega)) (Gives.pure _))
      exact Gives.bind (gives_word opW addW 0 (by decide +kernel) (by decide) 1) g1
  · have hle : 0 ≤ d := h7
    have g1 := Gives.bind (gives_num (a := b) (by omega) (by omega)) (g := fun a st2 => bindO (numberS st2) fun b st3 => bindO (numberS st3) fun c st4 => (.inr (⟨2, a, b, c⟩, st4) : Out Op4)) (b := ⟨2, b, c, d⟩) (Gives.bind (gives_num (a := c) (by omega) (by omega)) (Gives.bind (gives_num (a := d) (by omega) (by omega)) (Gives.pure _)))
    exact Gives.bind (gives_word opW moveW 2 (by decide +kernel) (by decide) 1) g1
  · have e1 : c = 0 := by have := congrArg Op4.f2 h9; exact this
    have e2 : d = 0 := by have := congrArg Op4.f3 h9; exact this
    subst e1 e2
    have g1 := Gives.bind (gives_num (a := b) (by omega) (by omega)) (g := fun a st2 => (.inr (⟨3, a, 0, 0⟩, st2) : Out Op4)) (b := ⟨3, b, 0, 0⟩) (Gives.pure _)
    exact Gives.bind (gives_word opW getW 3 (by decide +kernel) (by decide) 1) g1
  · have e0 : b = 0 := by have := congrArg Op4.f1 h9; exact this
    have e1 : c = 0 := by have := congrArg Op4.f2 h9; exact this
    have e2 : d = 0 := by have := congrArg Op4.f3 h9; exact this
    subst e0 e1 e2
    have g1 : Gives (fun st => (.inr (⟨4, 0, 0, 0⟩, st) : Out Op4)) ⟨4, 0, 0, 0⟩ [] := Gives.pure _
    exact Gives.bind (gives_word opW sumW 4 (by decide +kernel) (by decide) 1) g1
theorem gives_tail {e : Ev} (h : checkE e = 0) : Gives (tailS e) e [(3, tSC)] := by
  have g1 : Gives (fun st => (if checkE e = 0 then .inr (e, st) else .inl (checkE e, st) : Out Ev)) e [] := by
    rw [show (fun st => (if checkE e = 0 then .inr (e, st) else .inl (checkE e, st) : Out Ev)) = fun st => (.inr (e, st) : Out Ev) from funext fun st => if_pos h]
    exact Gives.pure e
  exact Gives.bind gives_sc g1
theorem bindO_assoc {α β γ : Type} (x : Out α) (f : α → St31 → Out β) (g : β → St31 → Out γ) : bindO (bindO x f) g = bindO x (fun a st => bindO (f a st) g) := by cases x <;> rfl
theorem eqS_eq {x y : ByteArray} (h : eqS x y = true) : x = y := by
  unfold eqS at h
  have h : x.toList = y.toList := by simpa using h
  have e : ∀ z : ByteArray, z = txt z.toList := fun z => by
    have h1 := (txt_data z).symm
    have h2 : z.toList = z.data.toList := by rw [← txt_data z, txt_toList]; simp [txt]
    rw [h2]; exact h1
  rw [e x, e y, h]
theorem dec_sc {a : Int} (h0 : 0 ≤ a) (h1 : a ≤ 999999999) : eqS (decS a) tSC = false := by
  cases h : eqS (decS a) tSC
  · rfl
  · have e : decS a = tSC := eqS_eq h
    have k := (decS_ok (x := a) (by omega) (by omega)).2.2.2 59 (by rw [e]; decide)
    rcases k with k | k
    · exact absurd k (by decide)
    · exact absurd k.2 (by decide)
theorem gives_backs : ∀ (bs out : List S62) (fuel : Nat) (m : List S98) (sc : S98) (r : List S98) (n : Int), m.map shp = bsK bs → (∀ t ∈ m, checkT t = 0) → shp sc = (3, tSC) → bs.length < fuel → (∀ b ∈ bs, (0 ≤ b.f0 ∧ b.f0 ≤ 999999999) ∧ 1 ≤ b.f1 ∧ b.f1 ≤ 16) → ∃ n', backsS fuel out (m ++ sc :: r, n) = .inr (out ++ bs, (sc :: r, n'))
  | _, _, 0, _, _, _, _, _, _, _, hf, _ => by omega
  | [], out, fuel + 1, m, sc, r, n, hm, hg, hs, hf, hi => by
    have e : m = [] := List.map_eq_nil_iff.1 hm
    subst e
    refine ⟨sc.f2, ?_⟩
    have e1 : sc.f1 = tSC := congrArg Prod.snd hs
    show (if eqS sc.f1 tSC = true then (.inr (out, (sc :: r, sc.f2)) : Out (List S62)) else _) = _
    rw [e1, if_pos (eqS_refl tSC), List.append_nil]
  | b :: t, out, fuel + 1, m, sc, r, n, hm, hg, hs, hf, hi => by
    have e1 : bsK (b :: t) = (2, decS b.f0) :: (2, decS b.f1) :: bsK t := rfl
    rw [e1] at hm
    obtain ⟨x, m1, rfl, hx, hm1⟩ := List.map_eq_cons_iff.1 hm
    obtain ⟨y, m2, rfl, hy, hm2⟩ := List.map_eq_cons_iff.1 hm1
    have hb := hi b List.mem_cons_self
    obtain ⟨n1, h1⟩ := gives_num hb.1.1 hb.1.2 [x] (y :: m2 ++ sc :: r) x.f2 (by rw [List.map_cons, hx]; rfl) (fun t ht => hg t (by rw [List.mem_singleton] at ht; subst ht; exact List.mem_cons_self))
    obtain ⟨n2, h2⟩ := gives_num (a := b.f1) (by omega) (by omega) [y] (m2 ++ sc :: r) n1 (by rw [List.map_cons, hy]; rfl) (fun t ht => hg t (by rw [List.mem_singleton] at ht; subst ht; exact List.mem_cons_of_mem _ List.mem_cons_self))
    obtain ⟨n3, h3⟩ := gives_backs t (out ++ [b]) fuel m2 sc r n2 hm2 (fun z hz => hg z (List.mem_cons_of_mem _ (List.mem_cons_of_mem _ hz))) hs (by simp at hf; omega) (fun z hz => hi z (List.mem_cons_of_mem _ hz))
    refine ⟨n3, ?_⟩
    have ex : x.f1 = decS b.f0 := congrArg Prod.snd hx
    show (if eqS x.f1 tSC = true then (.inr (out, (x :: (y :: m2 ++ sc :: r), x.f2)) : Out (List S62)) else bindO (numberS (x :: (y :: m2 ++ sc :: r), x.f2)) fun a st2 => bindO (numberS st2) fun b st3 => backsS fuel (out ++ [⟨a, b⟩]) st3) = _
    rw [if_neg (by rw [ex, dec_sc hb.1.1 hb.1.2]; decide)]
    have h1' : numberS (x :: (y :: m2 ++ sc :: r), x.f2) = .inr (b.f0, (y :: m2 ++ sc :: r, n1)) := h1
    have h2' : numberS (y :: m2 ++ sc :: r, n1) = .inr (b.f1, (m2 ++ sc :: r, n2)) := h2
    rw [h1']
    show bindO (numberS (y :: m2 ++ sc :: r, n1)) _ = _
    rw [h2']
    show backsS fuel (out ++ [⟨b.f0, b.f1⟩]) (m2 ++ sc :: r, n2) = _
    have e3 : (⟨b.f0, b.f1⟩ : S62) = b := rfl
    rw [e3, h3, List.append_assoc]
    rfl
theorem gives_body {e : Ev} (h : EvOk e) (h7 : e.f0 ≠ 7) : Gives (bodyS e.f0) e (restK e) := by
  have a1 := h.h1
  have a2 := h.h2
  have am := h.am
  have k0 := h.k0
  have k1 := h.k1
  have hop := h.op
  have hok := h.ok
  unfold okE at hok
  simp only [Bool.and_eq_true, decide_eq_true_eq] at hok
  obtain ⟨o1, o2, o3, o4, o5⟩ := hok
  clear h
  obtain ⟨k, f1, f2, g, v, bs⟩ := e
  simp only at h7 a1 a2 am k0 k1 o1 o2 o3 o4 o5 hop
  have e4 : v = 0 := o4.resolve_left h7
  have e5 : bs = [] := o5.resolve_left h7
  subst e4 e5
  have n1 := gives_num a1.1 a1.2
  have n2 := gives_num a2.1 a2.2
  obtain rfl | rfl | rfl | rfl | rfl | rfl | rfl | rfl | rfl | rfl : k = 1 ∨ k = 2 ∨ k = 3 ∨ k = 4 ∨ k = 5 ∨ k = 6 ∨ k = 7 ∨ k = 8 ∨ k = 9 ∨ k = 10 := by omega
  · have g3 := Gives.bind (gives_op (hop rfl) am) (g := fun g st4 => (.inr (⟨1, f1, f2, g, 0, []⟩, st4) : Out Ev)) (b := ⟨1, f1, f2, g, 0, []⟩) (us := []) (Gives.pure _)
    rw [List.append_nil] at g3
    have R := Gives.bind n1 (g := fun a st2 => bindO (numberS st2) fun b st3 => bindO (opS st3) fun g st4 => (.inr (⟨1, a, b, g, 0, []⟩, st4) : Out Ev)) (Gives.bind n2 (g := fun b st3 => bindO (opS st3) fun g st4 => (.inr (⟨1, f1, b, g, 0, []⟩, st4) : Out Ev)) g3)
    exact R
  all_goals first
    | exact absurd rfl h7
    | skip
  all_goals
    have e3 : g = zOp := o3.resolve_left (by decide)
    subst e3
  · have e1 : f1 = 0 := by omega
    subst e1
    exact Gives.bind n2 (g := fun b st2 => (.inr (⟨2, 0, b, zOp, 0, []⟩, st2) : Out Ev)) (Gives.pure _)
  · have e1 : f1 = 0 := by omega
    subst e1
    exact Gives.bind n2 (g := fun b st2 => (.inr (⟨3, 0, b, zOp, 0, []⟩, st2) : Out Ev)) (Gives.pure _)
  · have e1 : f1 = 0 := by omega
    subst e1
    exact Gives.bind n2 (g := fun b st2 => (.inr (⟨4, 0, b, zOp, 0, []⟩, st2) : Out Ev)) (Gives.pure _)
  · have e1 : f2 = 0 := by omega
    subst e1
    exact Gives.bind n1 (g := fun b st2 => (.inr (⟨5, b, 0, zOp, 0, []⟩, st2) : Out Ev)) (Gives.pure _)
  · have e1 : f2 = 0 := by omega
    subst e1
    exact Gives.bind n1 (g := fun b st2 => (.inr (⟨6, b, 0, zOp, 0, []⟩, st2) : Out Ev)) (Gives.pure _)
  · have e1 : f2 = 0 := by omega
    subst e1
    exact Gives.bind n1 (g := fun b st2 => (.inr (⟨8, b, 0, zOp, 0, []⟩, st2) : Out Ev)) (Gives.pure _)
  · have e1 : f2 = 0 := by omega
    subst e1
    exact Gives.bind n1 (g := fun b st2 => (.inr (⟨9, b, 0, zOp, 0, []⟩, st2) : Out Ev)) (Gives.pure _)
  · exact Gives.bind n1 (g := fun a st2 => bindO (numberS st2) fun b st3 => (.inr (⟨10, a, b, zOp, 0, []⟩, st3) : Out Ev)) (Gives.bind n2 (g := fun b st3 => (.inr (⟨10, f1, b, zOp, 0, []⟩, st3) : Out Ev)) (Gives.pure _))
theorem bsK_len (bs : List S62) : (bsK bs).length = 2 * bs.length := by
  have := congrArg List.length (bsK_bsT bs)
  rw [List.length_map, bsT_len] at this
  exact this
theorem gives_event {e : Ev} (hc : checkE e = 0) : Gives eventS e (evK e) := by
  have h := evOk hc
  have g0 := gives_kw h.k0 h.k1
  have ek : e.f0 - 1 + 1 = e.f0 := by omega
  by_cases h7 : e.f0 = 7
  · have a1 := h.h1
    have av := h.vv
    have hi := h.ids
    have hok := h.ok
    unfold okE at hok
    simp only [Bool.and_eq_true, decide_eq_true_eq] at hok
    obtain ⟨o1, o2, o3, o4, o5⟩ := hok
    clear h
    obtain ⟨k, f1, f2, g, v, bs⟩ := e
    simp only at h7 a1 av o1 o2 o3 o4 o5 hi g0 ek
    subst h7
    have e1 : f2 = 0 := by omega
    have e2 : g = zOp := o3.resolve_left (by decide)
    subst e1 e2
    have last : Gives (fun st3 => bindO (bindO (backsS (st3.1.length + 1) [] st3) fun bs st4 => (.inr (⟨7, f1, 0, zOp, v, bs⟩, st4) : Out Ev)) tailS) ⟨7, f1, 0, zOp, v, bs⟩ (bsK bs ++ [(3, tSC)]) := by
      intro m r n hm hg
      obtain ⟨m1, m2, rfl, h1, h2⟩ := List.map_eq_append_iff.1 hm
      obtain ⟨sc, q, rfl, h3, h4⟩ := List.map_eq_cons_iff.1 h2
      have e3 : q = [] := List.map_eq_nil_iff.1 h4
      subst e3
      have hl : m1.length = 2 * bs.length := by rw [← bsK_len, ← h1, List.length_map]
      obtain ⟨n1, k1⟩ := gives_backs bs [] ((m1 ++ [sc] ++ r).length + 1) m1 sc r n h1 (fun t ht => hg t (List.mem_append_left _ ht)) h3 (by simp; omega) hi
      obtain ⟨n2, k2⟩ := gives_tail hc [sc] r n1 (by rw [List.map_cons, h3]; rfl) (fun t ht => hg t (List.mem_append_right _ ht))
      refine ⟨n2, ?_⟩
      have e4 : m1 ++ [sc] ++ r = m1 ++ sc :: r := by simp
      show bindO (bindO (backsS ((m1 ++ [sc] ++ r).length + 1) [] (m1 ++ [sc] ++ r, n)) _) tailS = _
      rw [e4] at k1 ⊢
      rw [k1]
      exact k2
    have g1 := Gives.bind (gives_num a1.1 a1.2) (g := fun a st2 => bindO (numberS st2) fun v st3 => bindO (bindO (backsS (st3.1.length + 1) [] st3) fun bs st4 => (.inr (⟨7, a, 0, zOp, v, bs⟩, st4) : Out Ev)) tailS) (Gives.bind (gives_num av.1 av.2) (g := fun v st3 => bindO (bindO (backsS (st3.1.length + 1) [] st3) fun bs st4 => (.inr (⟨7, f1, 0, zOp, v, bs⟩, st4) : Out Ev)) tailS) last)
    have g2 : Gives (fun st1 => bindO (bodyS (7 - 1 + 1) st1) tailS) ⟨7, f1, 0, zOp, v, bs⟩ ((2, decS f1) :: (2, decS v) :: (bsK bs ++ [(3, tSC)])) := by
      have e5 : (fun st1 => bindO (bodyS (7 - 1 + 1) st1) tailS) = fun st => bindO (numberS st) fun a st2 => bindO (numberS st2) fun v st3 => bindO (bindO (backsS (st3.1.length + 1) [] st3) fun bs st4 => (.inr (⟨7, a, 0, zOp, v, bs⟩, st4) : Out Ev)) tailS := by
        funext st
        show bindO (body7 st) tailS = _
        unfold body7
        rw [bindO_assoc]
        congr 1
        funext a st2
        rw [bindO_assoc]
      rw [e5]
      exact g1
    have R := Gives.bind g0 (g := fun i st1 => bindO (bodyS (i + 1) st1) tailS) g2
    exact R
  · have g1 := gives_body h h7
    have g2 := Gives.bind g1 (gives_tail hc)
    have g3 : Gives (fun st1 => bindO (bodyS (e.f0 - 1 + 1) st1) tailS) e (restK e ++ [(3, tSC)]) := by rw [ek]; exact g2
    have R := Gives.bind g0 (g := fun i st1 => bindO (bodyS (i + 1) st1) tailS) g3
    exact R
theorem gives_events : ∀ (l out : List Ev) (k : Nat) (m : List S98) (n : Int), m.map shp = l.flatMap evK → (∀ t ∈ m, checkT t = 0) → (∀ e ∈ l, checkE e = 0) → out.length + l.length ≤ 512 → m.length < k → ∃ n', eventsS k out (m, n) = .inr (out ++ l, ([], n'))
  | _, _, 0, _, _, _, _, _, _, hk => by omega
  | [], out, k + 1, m, n, hm, hg, he, hl, hk => by
    have e : m = [] := List.map_eq_nil_iff.1 hm
    subst e
    exact ⟨n, by show (if ([] : List S98) = [] then (.inr (out, ([], n)) : Out (List Ev)) else _) = _; rw [if_pos rfl, List.append_nil]⟩
  | e :: t, out, k + 1, m, n, hm, hg, he, hl, hk => by
    rw [List.flatMap_cons] at hm
    obtain ⟨m1, m2, rfl, h1, h2⟩ := List.map_eq_append_iff.1 hm
    obtain ⟨x, q, rfl, hx, hq⟩ : ∃ x q, m1 = x :: q ∧ shp x = (1, kw e.f0) ∧ q.map shp = restK e ++ [(3, tSC)] := by
      obtain ⟨x, q, rfl, hx, hq⟩ := List.map_eq_cons_iff.1 h1
      exact ⟨x, q, rfl, hx, hq⟩
    obtain ⟨n1, k1⟩ := gives_event (he e List.mem_cons_self) (x :: q) m2 x.f2 h1 (fun z hz => hg z (List.mem_append_left _ hz))
    have hlen : (x :: q ++ m2).length = q.length + m2.length + 1 := by simp
    obtain ⟨n2, k2⟩ := gives_events t (out ++ [e]) k m2 n1 h2 (fun z hz => hg z (List.mem_append_right _ hz)) (fun z hz => he z (List.mem_cons_of_mem _ hz)) (by rw [List.length_append, List.length_cons, List.length_nil]; rw [List.length_cons] at hl; omega) (by omega)
    refine ⟨n2, ?_⟩
    show (if (x :: q ++ m2) = [] then (.inr (out, (x :: q ++ m2, n)) : Out (List Ev)) else bindO (peekS (x :: q ++ m2, n)) fun _ st1 => if out.length < 512 then bindO (eventS st1) fun e st2 => eventsS k (out ++ [e]) st2 else .inl (3, st1)) = _
    rw [if_neg (by simp)]
    show (if out.length < 512 then bindO (eventS (x :: q ++ m2, x.f2)) fun e st2 => eventsS k (out ++ [e]) st2 else (.inl (3, (x :: q ++ m2, x.f2)) : Out (List Ev))) = _
    rw [if_pos (by rw [List.length_cons] at hl; omega), k1]
    show eventsS k (out ++ [e]) (m2, n1) = _
    rw [k2, List.append_assoc]
    rfl
def textE (l : List Ev) : List UInt8 := l.flatMap fun e => (lineT e).data.toList ++ [10]
theorem textE_reads : ∀ (l : List Ev), (∀ e ∈ l, checkE e = 0) → Reads false (textE l) (l.flatMap evK)
  | [], _ => reads_nil
  | e :: t, h => Reads.app (line_reads (evOk (h e List.mem_cons_self))) (textE_reads t (fun z hz => h z (List.mem_cons_of_mem _ hz))) (fun e => by cases e)
theorem parse_textE (l : List Ev) (h : ∀ e ∈ l, checkE e = 0) (hn : l.length ≤ 512) (hs : (textE l).length ≤ 65536) : parseS ⟨(textE l).toArray⟩ = (l, 0, 0) := by
  obtain ⟨l2, m, h1, h2, h3, h4⟩ := textE_reads l h (textE l).length [] 1 [] (by simp) (by decide) (fun e => by cases e)
  rw [List.append_nil, List.nil_append, T_nil] at h2
  have hz : (⟨(textE l).toArray⟩ : ByteArray).size = (textE l).length := List.size_toArray
  have hT : tokF ⟨(textE l).toArray⟩ = (m, 0, 0) := by
    unfold tokF
    rw [if_neg (by rw [hz]; omega), hz]
    exact h2
  unfold parseS
  rw [hT, if_pos rfl]
  obtain ⟨n', k⟩ := gives_events l [] (m.length + 1) m 0 h3 h4 h (by simp; omega) (by omega)
  rw [k]
  rfl
theorem printF_text : ∀ (l : List Ev) (out : List UInt8), (∀ e ∈ l, checkE e = 0) → printF l out = (out ++ textE l, 0)
  | [], out, _ => by simp [printF, textE]
  | e :: t, out, h => by
    show (if checkE e = 0 then printF t (out ++ ((lineT e).data.toList ++ [10])) else ([], checkE e)) = _
    rw [if_pos (h e List.mem_cons_self), printF_text t _ (fun z hz => h z (List.mem_cons_of_mem _ hz)), List.append_assoc]
    rfl
theorem printF_ok : ∀ (l : List Ev) (out : List UInt8), (printF l out).2 = 0 → ∀ e ∈ l, checkE e = 0
  | e :: t, out, h, z, hz => by
    have e1 : printF (e :: t) out = if checkE e = 0 then printF t (out ++ ((lineT e).data.toList ++ [10])) else ([], checkE e) := rfl
    rw [e1] at h
    by_cases h0 : checkE e = 0
    · rw [if_pos h0] at h
      rcases List.mem_cons.1 hz with rfl | hz
      · exact h0
      · exact printF_ok t _ h z hz
    · rw [if_neg h0] at h; exact absurd h h0
theorem printF_err : ∀ (l : List Ev) (out : List UInt8), (printF l out).2 ≠ 0 → (printF l out).1 = []
  | [], out, h => absurd rfl h
  | e :: t, out, h => by
    have e1 : printF (e :: t) out = if checkE e = 0 then printF t (out ++ ((lineT e).data.toList ++ [10])) else ([], checkE e) := rfl
    rw [e1] at h ⊢
    by_cases h0 : checkE e = 0
    · rw [if_pos h0] at h ⊢; exact printF_err t _ h
    · rw [if_neg h0]
/-- Print's word. -/
theorem printS_ok {l : List Ev} (h : (printS l).2 = 0) : l.length ≤ 512 ∧ (∀ e ∈ l, checkE e = 0) ∧ (printS l).1 = textE l := by
  unfold printS at h ⊢
  by_cases h1 : 512 < l.length
  · rw [if_pos h1] at h; exact absurd h (by decide)
  rw [if_neg h1] at h ⊢
  have h2 := printF_ok l [] h
  exact ⟨by omega, h2, by rw [printF_text l [] h2]; rfl⟩
theorem printS_err {l : List Ev} (h : (printS l).2 ≠ 0) : (printS l).1 = [] := by
  unfold printS at h ⊢
  by_cases h1 : 512 < l.length
  · rw [if_pos h1]
  · rw [if_neg h1] at h ⊢; exact printF_err l [] h
end Go.Proofs.YtaoffnhladfdcaaDoor.EScriptTrace
