/- What is printed is read again: plain. -/
import Derived.Test.YtoloneoeojoiaaaMayP5
import Derived.Test.YtoloneoeojoiaaaMayC
namespace Go.Proofs.Ytoloneoeojoiaaa.EParseBack
open Go.RowKit Go.Shelf Go.Proofs.YtoloneoeojoiaaaW.PrintWords Go.Proofs.YtoloneoeojoiaaaW.PrintLast Go.Proofs.YtoloneoeojoiaaaW.PrintMore
set_option linter.unusedVariables false
set_option linter.unusedSimpArgs false
theorem obind {α β : Type} (a : α) (f : α → Option β) : (some a).bind f = f a := Eq.trans (Option.bind_some a f) (Eq.refl _)
theorem txt_app (a b : List UInt8) : txt a ++ txt b = txt (a ++ b) := by
  apply ByteArray.ext
  rw [ByteArray.data_append]
  simp [txt]
theorem toksL_fuel (n : Nat) : ∀ (m : Nat) (s : List UInt8) (l : Int) (out : List S31), s.length < n → s.length < m → toksL n s l out = toksL m s l out := by
  induction n with
  | zero => intro m s l out h _; omega
  | succ n ih =>
    intro m s l out h1 h2
    obtain ⟨m, rfl⟩ : ∃ q, m = q + 1 := ⟨m - 1, by omega⟩
    rw [toksL_step, toksL_step]
    have hl := sk_len s false l
    generalize (sk false s l).1 = r at hl ⊢
    generalize (sk false s l).2 = l2
    unfold tokStep
    cases r with
    | nil => rfl
    | cons c t =>
      have hne : ¬ (c :: t = []) := by simp
      rw [if_neg hne, if_neg hne]
      by_cases he : (nextL (c :: t) l2).2.1 = 0
      · rw [if_pos he, if_pos he]
        have := next_len c t l2 he
        simp at hl
        exact ih _ _ _ _ (by omega) (by omega)
      · rw [if_neg he, if_neg he]
theorem tw_mem (p : UInt8 → Bool) : ∀ (s : List UInt8) (c : UInt8), c ∈ s.takeWhile p → p c = true
  | [], c, h => by simp at h
  | x :: t, c, h => by
    rw [List.takeWhile_cons] at h
    by_cases hp : p x = true
    · rw [if_pos hp] at h
      rcases List.mem_cons.1 h with rfl | h
      · exact hp
      · exact tw_mem p t c h
    · rw [if_neg hp] at h; simp at h
theorem tw_take (p : UInt8 → Bool) : ∀ (s : List UInt8), s.take (s.takeWhile p).length = s.takeWhile p
  | [] => rfl
  | x :: t => by
    rw [List.takeWhile_cons]
    by_cases hp : p x = true
    · rw [if_pos hp]; simpa using tw_take p t
    · rw [if_neg hp]; rfl
theorem checkT_ok (t : S31) (h : checkT t = 0) : 1 ≤ t.f2 ∧ t.f1.size ≤ 65536 := by
  unfold checkT at h
  by_cases c0 : t.f0 < 1
  · rw [if_pos c0] at h; exact absurd h (by decide)
  rw [if_neg c0] at h
  by_cases c1 : t.f0 > 3
  · rw [if_pos c1] at h; exact absurd h (by decide)
  rw [if_neg c1] at h
  by_cases c2 : (tokF t.f1).2.2 ≠ 0
  · rw [if_pos c2] at h; exact absurd h (by decide)
  rw [if_neg c2] at h
  by_cases c3 : (tokF t.f1).1.length ≠ 1
  · rw [if_pos c3] at h; exact absurd h (by decide)
  rw [if_neg c3] at h
  by_cases c4 : isTok (tokF t.f1).1 t = false
  · rw [if_pos c4] at h; exact absurd h (by decide)
  rw [if_neg c4] at h
  by_cases c5 : t.f2 < 1
  · rw [if_pos c5] at h; exact absurd h (by decide)
  refine ⟨by omega, ?_⟩
  apply Classical.byContradiction
  intro hn
  apply c2
  unfold tokF
  rw [if_pos (by omega)]
  decide
theorem T_nil (M : Nat) (l : Int) (out : List S31) : toksL (M + 1) [] l out = (out, 0, 0) := rfl
theorem T_nl (M : Nat) (t : List UInt8) (l : Int) (out : List S31) : toksL (M + 1) (10 :: t) l out = toksL (M + 1) t (l + 1) out := by rw [toksL_step, toksL_step, sk_line]
theorem T_blank (M : Nat) (c : UInt8) (t : List UInt8) (l : Int) (out : List S31) (h1 : c ≠ 10) (h2 : c ≠ 35) (h3 : blankB c = true) : toksL (M + 1) (c :: t) l out = toksL (M + 1) t l out := by rw [toksL_step, toksL_step, sk_blank c t l h1 h2 h3]
theorem T_tok (M : Nat) (c : UInt8) (t : List UInt8) (l : Int) (out : List S31) (hM : t.length < M) (h1 : c ≠ 10) (h2 : c ≠ 35) (h3 : blankB c = false) : toksL (M + 1) (c :: t) l out = if (nextL (c :: t) l).2.1 = 0 then toksL (M + 1) (nextL (c :: t) l).2.2 l (out ++ [(nextL (c :: t) l).1]) else ([], l, (nextL (c :: t) l).2.1) := by
  rw [toksL_step, sk_stop c t l h1 h2 h3]
  show tokStep M (c :: t) l out = _
  unfold tokStep
  have hne : ¬ (c :: t = []) := by simp
  rw [if_neg hne]
  by_cases he : (nextL (c :: t) l).2.1 = 0
  · rw [if_pos he, if_pos he]
    have := next_len c t l he
    exact toksL_fuel _ _ _ _ _ (by omega) (by omega)
  · rw [if_neg he, if_neg he]
theorem sk_head : ∀ (s : List UInt8) (b : Bool) (l : Int) (c : UInt8) (t : List UInt8), (sk b s l).1 = c :: t → c ≠ 10 ∧ c ≠ 35 ∧ blankB c = false
  | [], b, l, c, t, h => by cases b <;> simp [sk] at h
  | x :: s, true, l, c, t, h => by
    unfold sk at h
    split at h
    · exact sk_head s false _ c t h
    · exact sk_head s true _ c t h
  | x :: s, false, l, c, t, h => by
    unfold sk at h
    split at h
    · exact sk_head s false _ c t h
    · rename_i h1
      split at h
      · exact sk_head s true _ c t h
      · rename_i h2
        split at h
        · exact sk_head s false _ c t h
        · rename_i h3
          simp only [List.cons.injEq] at h
          obtain ⟨rfl, _⟩ := h
          exact ⟨h1, h2, Bool.eq_false_iff.mpr h3⟩
/-- What is left behind the skipping is an end of the text. -/
theorem sk_suf : ∀ (s : List UInt8) (b : Bool) (l : Int), ∃ p, s = p ++ (sk b s l).1
  | [], b, l => ⟨[], by cases b <;> rfl⟩
  | x :: s, true, l => by
    unfold sk
    split
    · obtain ⟨p, hp⟩ := sk_suf s false (l + 1); exact ⟨x :: p, by rw [List.cons_append, ← hp]⟩
    · obtain ⟨p, hp⟩ := sk_suf s true l; exact ⟨x :: p, by rw [List.cons_append, ← hp]⟩
  | x :: s, false, l => by
    unfold sk
    split
    · obtain ⟨p, hp⟩ := sk_suf s false (l + 1); exact ⟨x :: p, by rw [List.cons_append, ← hp]⟩
    · split
      · obtain ⟨p, hp⟩ := sk_suf s true l; exact ⟨x :: p, by rw [List.cons_append, ← hp]⟩
      · split
        · obtain ⟨p, hp⟩ := sk_suf s false l; exact ⟨x :: p, by rw [List.cons_append, ← hp]⟩
        · exact ⟨[], rfl⟩
/-- A text that is one token: a sign, or a run of its kind. -/
def oneQ (k : Int) (q : List UInt8) : Prop := (∃ c, q = [c] ∧ signB c = true ∧ k = 3) ∨ (∃ c t, q = c :: t ∧ signB c = false ∧ runL q = q ∧ kindL q = (k, 0))
def plainHead (q : List UInt8) : Prop := ∃ c t, q = c :: t ∧ c ≠ 10 ∧ c ≠ 35 ∧ blankB c = false
theorem tw_idem (p : UInt8 → Bool) : ∀ s : List UInt8, (s.takeWhile p).takeWhile p = s.takeWhile p
  | [] => rfl
  | x :: t => by
    rw [List.takeWhile_cons]
    by_cases h : p x = true
    · rw [if_pos h, List.takeWhile_cons, if_pos h, tw_idem p t]
    · rw [if_neg h]; rfl
/-- What the next one is: of what stands at the head. -/
theorem next_one (c : UInt8) (t : List UInt8) (l : Int) (h : (nextL (c :: t) l).2.1 = 0) : ∃ q r, c :: t = q ++ r ∧ (nextL (c :: t) l).1.f1 = txt q ∧ (nextL (c :: t) l).2.2 = r ∧ (nextL (c :: t) l).1.f2 = l ∧ oneQ (nextL (c :: t) l).1.f0 q ∧ q.head? = some c := by
  unfold nextL at h ⊢
  rw [show (c :: t).headD 0 = c from rfl] at h ⊢
  by_cases hs : signB c = true
  · rw [if_pos hs]
    exact ⟨[c], t, rfl, rfl, rfl, rfl, .inl ⟨c, rfl, hs, rfl⟩, rfl⟩
  · rw [if_neg hs] at h ⊢
    by_cases hr : runL (c :: t) = []
    · rw [if_pos hr] at h; exact absurd (show (32 : Int) = 0 from h) (by decide)
    · rw [if_neg hr] at h ⊢
      have hp : partB c = true := by
        apply Classical.byContradiction
        intro hp
        apply hr
        unfold runL; rw [List.takeWhile_cons, if_neg hp]
      have e : runL (c :: t) = c :: runL t := by unfold runL; rw [List.takeWhile_cons, if_pos hp]
      refine ⟨runL (c :: t), (c :: t).drop (runL (c :: t)).length, ?_, rfl, rfl, rfl, .inr ⟨c, runL t, e, Bool.eq_false_iff.mpr hs, ?_, ?_⟩, by rw [e]; rfl⟩
      · have := tw_take partB (c :: t)
        have e2 : (c :: t).take (runL (c :: t)).length = runL (c :: t) := this
        rw [← e2]
        simp only [List.length_take]
        rw [show min (runL (c :: t)).length (c :: t).length = (runL (c :: t)).length by have := tw_len partB (c :: t); unfold runL; omega]
        rw [e2]
        exact (List.take_append_drop _ _).symm.trans (by rw [e2])
      · exact tw_idem partB _
      · exact Prod.ext rfl h
/-- And the other way round. -/
theorem one_next (k : Int) (q r : List UInt8) (l : Int) (h : oneQ k q) (hr : ∀ c t, r = c :: t → partB c = false) : nextL (q ++ r) l = (⟨k, txt q, l⟩, 0, r) := by
  rcases h with ⟨c, rfl, hs, rfl⟩ | ⟨c, t, rfl, hs, hrun, hk⟩
  · unfold nextL
    rw [show ([c] ++ r).headD 0 = c from rfl, if_pos hs]
    rfl
  · have hrun2 : runL (c :: t ++ r) = c :: t := by
      unfold runL at hrun ⊢
      have hall : ∀ x ∈ c :: t, partB x = true := by
        intro x hx
        rw [← hrun] at hx
        exact tw_mem partB _ x hx
      generalize c :: t = q at hall
      clear hrun hk hs
      induction q with
      | nil =>
        cases r with
        | nil => rfl
        | cons y r => rw [List.nil_append, List.takeWhile_cons, if_neg (by rw [hr y r rfl]; decide)]
      | cons x q ih =>
        rw [List.cons_append, List.takeWhile_cons, if_pos (hall x List.mem_cons_self), ih (fun y hy => hall y (List.mem_cons_of_mem _ hy))]
    unfold nextL
    rw [show (c :: t ++ r).headD 0 = c from rfl, if_neg (by rw [hs]; decide), hrun2, if_neg (by simp), hk]
    simp only [List.length_cons, Prod.mk.injEq, true_and]
    rw [List.cons_append, List.drop_succ_cons, List.drop_left]
theorem toks_pre (n : Nat) : ∀ (s : List UInt8) (l : Int) (out : List S31), (toksL n s l out).2.2 = 0 → ∃ m, (toksL n s l out).1 = out ++ m := by
  induction n with
  | zero => intro s l out h; exact ⟨[], by simp [toksL]⟩
  | succ n ih =>
    intro s l out
    rw [toksL_step]
    unfold tokStep
    split
    · intro _; exact ⟨[], by simp⟩
    · split
      · intro h
        obtain ⟨m, hm⟩ := ih _ _ _ h
        exact ⟨(nextL (sk false s l).1 (sk false s l).2).1 :: m, by rw [hm]; simp⟩
      · rename_i h; intro h2; exact absurd h2 h
theorem tokF_txt (q : List UInt8) (h : q.length ≤ 65536) : tokF (txt q) = toksL (q.length + 1) q 1 [] := by
  unfold tokF
  rw [txt_size, if_neg (by omega), txt_list]
theorem sk_plain (q r : List UInt8) (l : Int) (h : plainHead q) : sk false (q ++ r) l = (q ++ r, l) := by
  obtain ⟨c, t, rfl, h1, h2, h3⟩ := h
  rw [List.cons_append]; exact sk_stop c _ l h1 h2 h3
/-- One token alone. -/
theorem one_tok (k : Int) (q : List UInt8) (h : oneQ k q) (hp : plainHead q) (hl : q.length ≤ 65536) : tokF (txt q) = ([⟨k, txt q, 1⟩], 0, 0) := by
  rw [tokF_txt q hl]
  have hne : q.length ≠ 0 := by obtain ⟨c, t, rfl, _⟩ := hp; simp
  obtain ⟨n, hn⟩ : ∃ n, q.length = n + 1 := ⟨q.length - 1, by omega⟩
  have hs := sk_plain q [] 1 hp
  rw [List.append_nil] at hs
  have hx := one_next k q [] 1 h (fun c t h => by cases h)
  rw [List.append_nil] at hx
  rw [toksL_step, hs]
  show tokStep q.length q 1 [] = _
  unfold tokStep
  rw [if_neg (by rintro rfl; exact hne rfl), hx, if_pos rfl, hn]
  rfl
/-- A token that may be is its text's one token. -/
theorem check_one (t : S31) (h : checkT t = 0) : oneQ t.f0 t.f1.data.toList ∧ plainHead t.f1.data.toList ∧ 1 ≤ t.f2 ∧ t.f1.data.toList.length ≤ 65536 := by
  obtain ⟨q1, q2⟩ := checkT_ok t h
  obtain ⟨q, hq⟩ : ∃ q, t.f1 = txt q := ⟨t.f1.data.toList, (txt_data _).symm⟩
  rw [hq, txt_size] at q2
  have hlist : t.f1.data.toList = q := by rw [hq, txt_list]
  rw [hlist]
  unfold checkT at h
  by_cases c0 : t.f0 < 1
  · rw [if_pos c0] at h; exact absurd h (by decide)
  rw [if_neg c0] at h
  by_cases c1 : t.f0 > 3
  · rw [if_pos c1] at h; exact absurd h (by decide)
  rw [if_neg c1] at h
  by_cases c2 : (tokF t.f1).2.2 ≠ 0
  · rw [if_pos c2] at h; exact absurd h (by decide)
  rw [if_neg c2] at h
  by_cases c3 : (tokF t.f1).1.length ≠ 1
  · rw [if_pos c3] at h; exact absurd h (by decide)
  rw [if_neg c3] at h
  by_cases c4 : isTok (tokF t.f1).1 t = false
  · rw [if_pos c4] at h; exact absurd h (by decide)
  clear h c0 c1
  have c2 : (tokF t.f1).2.2 = 0 := Classical.not_not.mp c2
  have c3 : (tokF t.f1).1.length = 1 := Classical.not_not.mp c3
  have c4 : isTok (tokF t.f1).1 t = true := by simpa using c4
  rw [hq, tokF_txt q q2] at c2 c3 c4
  rw [toksL_step] at c2 c3 c4
  have hsuf := sk_suf q false 1
  have hhead := sk_head q false 1
  generalize (sk false q 1).1 = r at c2 c3 c4 hsuf hhead
  generalize (sk false q 1).2 = l2 at c2 c3 c4
  unfold tokStep at c2 c3 c4
  cases r with
  | nil => rw [if_pos rfl] at c3; simp at c3
  | cons c u =>
    rw [if_neg (by simp)] at c2 c3 c4
    by_cases he : (nextL (c :: u) l2).2.1 = 0
    · rw [if_pos he] at c2 c3 c4
      obtain ⟨p, r2, e1, e2, e3, e4, e5, e6⟩ := next_one c u l2 he
      obtain ⟨m, hm⟩ := toks_pre _ _ _ _ c2
      rw [hm] at c3 c4
      have hm0 : m = [] := by
        apply List.eq_nil_of_length_eq_zero
        simp only [List.length_append, List.length_cons, List.length_nil] at c3; omega
      subst hm0
      have hrd : rd_T31 (([] ++ [(nextL (c :: u) l2).1]) ++ []) 0 = (nextL (c :: u) l2).1 := rfl
      unfold isTok at c4
      rw [hrd, e2] at c4
      simp only [Bool.and_eq_true, beq_iff_eq, txt_toList] at c4
      obtain ⟨d1, d2, d3⟩ := c4
      rw [hq, txt_toList] at d2
      subst d2
      obtain ⟨pre, hpre⟩ := hsuf
      have hlen := congrArg List.length hpre
      have hlen2 := congrArg List.length e1
      simp only [List.length_append] at hlen hlen2
      have hr2 : r2 = [] := List.eq_nil_of_length_eq_zero (by omega)
      subst hr2
      rw [List.append_nil] at e1
      refine ⟨by rw [← d1]; exact e5, ⟨c, u, e1.symm, hhead c u rfl⟩, q1, q2⟩
    · rw [if_neg he] at c2; exact absurd c2 he
theorem one_kind (k : Int) (q : List UInt8) (h : oneQ k q) : 1 ≤ k ∧ k ≤ 3 := by
  rcases h with ⟨c, _, _, rfl⟩ | ⟨c, t, _, _, _, hk⟩
  · omega
  · unfold kindL at hk
    split at hk
    · injection hk with a b; exact absurd b (by decide)
    · split at hk
      · injection hk with a b; omega
      · split at hk
        · injection hk with a b; exact absurd b (by decide)
        · split at hk
          · injection hk with a b; exact absurd b (by decide)
          · injection hk with a b; omega
theorem check_mk (t : S31) (q : List UInt8) (hq : t.f1 = txt q) (h : oneQ t.f0 q) (hp : plainHead q) (hl : q.length ≤ 65536) (h1 : 1 ≤ t.f2) : checkT t = 0 := by
  have hk := one_kind _ _ h
  unfold checkT
  rw [if_neg (by omega), if_neg (by omega), hq, one_tok t.f0 q h hp hl, if_neg (by simp), if_neg (by simp), if_neg, if_neg (by omega)]
  unfold isTok
  rw [hq]
  show ¬ (t.f0 == t.f0 && ((txt q).toList == (txt q).toList && (1 : Int) == 1)) = false
  simp
/-! What a step of the parser takes. -/
def lastL (n : Int) (t : List S31) : Int := t.foldl (fun _ x => x.f2) n
theorem lastL_app (n : Int) (t u : List S31) : lastL n (t ++ u) = lastL (lastL n t) u := List.foldl_append
def isRC (x : S31) : Bool := eqS x.f1 tRC
/-- What is taken: no sign of an end; or one, at its end. -/
def Shut (c : Bool) (t : List S31) : Prop := match c with
  | false => ∀ x ∈ t, isRC x = false
  | true => ∃ u x, t = u ++ [x] ∧ isRC x = true ∧ ∀ y ∈ u, isRC y = false
theorem shut_app {c : Bool} {t u : List S31} (h : Shut false t) (k : Shut c u) : Shut c (t ++ u) := by
  cases c
  · intro x hx
    rcases List.mem_append.1 hx with hx | hx
    · exact h x hx
    · exact k x hx
  · obtain ⟨v, x, rfl, hx, hv⟩ := k
    refine ⟨t ++ v, x, by simp, hx, fun y hy => ?_⟩
    rcases List.mem_append.1 hy with hy | hy
    · exact h y hy
    · exact hv y hy
/-- Is a token one that may be? -/
def Good (l : List S31) : Prop := ∀ x ∈ l, checkT x = 0
/-- A step that came to its end took just t: whatever stands behind; and of less than t it says that it is too short. -/
def Takes {α : Type} (f : St31 → Out α) (a : α) (t : List S31) : Prop := (∀ n r, f (t ++ r, n) = .inr (a, (r, lastL n t))) ∧ ∀ n p q, t = p ++ q → q ≠ [] → f (p, n) = .inl (8, ([], lastL n p))
def Pfx (c : Bool) {α : Type} (f : St31 → Out α) : Prop := ∀ l n a r m, Good l → f (l, n) = .inr (a, (r, m)) → ∃ t, l = t ++ r ∧ Takes f a t ∧ Shut c t
theorem Good.left {t r : List S31} (h : Good (t ++ r)) : Good t := fun x hx => h x (List.mem_append_left _ hx)
theorem Good.right {t r : List S31} (h : Good (t ++ r)) : Good r := fun x hx => h x (List.mem_append_right _ hx)
theorem bindO_inr {α β : Type} {o : Out α} {f : α → St31 → Out β} {b : β} {st : St31} (h : bindO o f = .inr (b, st)) : ∃ a st1, o = .inr (a, st1) ∧ f a st1 = .inr (b, st) := by
  rcases o with e | ⟨a, st1⟩
  · cases h
  · exact ⟨a, st1, rfl, h⟩
theorem Takes.bind {α β : Type} {f : St31 → Out α} {g : α → St31 → Out β} {a : α} {b : β} {t u : List S31} (h : Takes f a t) (k : Takes (g a) b u) : Takes (fun st => bindO (f st) g) b (t ++ u) := by
  refine ⟨fun n r => ?_, fun n p q e hq => ?_⟩
  · show bindO (f (t ++ u ++ r, n)) g = _
    rw [List.append_assoc, h.1, lastL_app]
    exact k.1 _ _
  · rcases List.append_eq_append_iff.1 e with ⟨v, e1, e2⟩ | ⟨v, e1, e2⟩
    · subst e1
      show bindO (f (t ++ v, n)) g = _
      rw [h.1, lastL_app]
      exact k.2 _ _ _ e2 hq
    · by_cases hv : v = []
      · subst hv
        have : t = p := by simpa using e1
        subst this
        show bindO (f (t, n)) g = _
        have h1 := h.1 n []
        rw [List.append_nil] at h1
        rw [h1]
        have h2 := k.2 (lastL n t) [] u rfl (by rw [show q = u by simpa using e2] at hq; exact hq)
        exact h2
      · show bindO (f (p, n)) g = _
        rw [h.2 n p v e1 hv]
        rfl
theorem Takes.pure {α : Type} (a : α) : Takes (fun st => (.inr (a, st) : Out α)) a [] := ⟨fun n r => rfl, fun n p q e hq => by
  have := List.append_eq_nil_iff.1 e.symm
  exact absurd this.2 hq⟩
theorem Pfx.bind {c : Bool} {α β : Type} {f : St31 → Out α} {g : α → St31 → Out β} (h : Pfx false f) (k : ∀ a, Pfx c (g a)) : Pfx c (fun st => bindO (f st) g) := by
  intro l n b r m hg e
  obtain ⟨a, ⟨r1, m1⟩, e1, e2⟩ := bindO_inr e
  obtain ⟨t, rfl, ht, hs⟩ := h l n a r1 m1 hg e1
  obtain ⟨u, rfl, hu, hs2⟩ := k a r1 m1 b r m hg.right e2
  exact ⟨t ++ u, by simp, ht.bind hu, shut_app hs hs2⟩
theorem Pfx.pure {α : Type} (a : α) : Pfx false (fun st => (.inr (a, st) : Out α)) := by
  intro l n b r m hg e
  injection e with e
  injection e with e1 e2
  injection e2 with e2 e3
  subst e1 e2
  exact ⟨[], rfl, Takes.pure _, fun x hx => absurd hx (by simp)⟩
theorem Pfx.congr {c : Bool} {α : Type} {f g : St31 → Out α} (h : Pfx c f) (e : f = g) : Pfx c g := e ▸ h
theorem eqS_eq {x y : ByteArray} (h : eqS x y = true) : x = y := by
  unfold eqS at h
  have h : x.toList = y.toList := by simpa using h
  have e : ∀ z : ByteArray, z = txt z.toList := fun z => by
    have h1 := (txt_data z).symm
    have h2 : z.toList = z.data.toList := by rw [← txt_data z, txt_toList]; simp [txt]
    rw [h2]; exact h1
  rw [e x, e y, h]
def Nil {α : Type} (f : St31 → Out α) : Prop := ∀ n, f ([], n) = .inl (8, ([], n))
theorem Nil.bind {α β : Type} {f : St31 → Out α} (h : Nil f) (g : α → St31 → Out β) : Nil (fun st => bindO (f st) g) := fun n => by
  show bindO (f ([], n)) g = _
  rw [h n]; rfl
theorem Pfx.agree {c : Bool} {α : Type} {f g : St31 → Out α} (h : Pfx c f) (hn : Nil f) (gn : Nil g) {x : S31} {l : List S31} {n m : Int} {a : α} {r : List S31} (hg : Good (x :: l)) (e : ∀ l n, g (x :: l, n) = f (x :: l, n)) (ho : g (x :: l, n) = .inr (a, (r, m))) : ∃ t, x :: l = t ++ r ∧ Takes g a t ∧ Shut c t := by
  rw [e] at ho
  obtain ⟨t, e1, ⟨t1, t2⟩, hs⟩ := h _ _ _ _ _ hg ho
  match t, e1, t1, t2, hs with
  | [], e1, t1, t2, hs =>
    have := t1 0 []
    rw [List.append_nil, hn] at this
    cases this
  | y :: t, e1, t1, t2, hs =>
    obtain ⟨rfl, e2⟩ : x = y ∧ l = t ++ r := by simpa using e1
    refine ⟨x :: t, e1, ⟨fun n r' => ?_, fun n p q ep hq => ?_⟩, hs⟩
    · have := t1 n r'
      rw [List.cons_append] at this ⊢
      rw [e]; exact this
    · match p, ep with
      | [], ep => rw [gn n]; rfl
      | z :: p, ep =>
        obtain ⟨rfl, e3⟩ : x = z ∧ t = p ++ q := by simpa using ep
        rw [e]
        exact t2 n _ _ ep hq
theorem Pfx.ite {c : Bool} {α : Type} {f g : St31 → Out α} (p : S31 → Bool) (h : Pfx c f) (k : Pfx c g) (hn : Nil f) (kn : Nil g) : Pfx c (fun st => if p (peekP st.1) = true then f st else g st) := by
  have hnil : Nil (fun st : St31 => if p (peekP st.1) = true then f st else g st) := fun n => by
    show (if _ then f ([], n) else g ([], n)) = _
    split
    · exact hn n
    · exact kn n
  intro l n a r m hg e
  match l, hg, e with
  | [], hg, e => rw [hnil n] at e; cases e
  | x :: l, hg, e =>
    by_cases hp : p x = true
    · exact h.agree (g := fun st : St31 => if p (peekP st.1) = true then f st else g st) hn hnil hg (fun l n => if_pos hp) e
    · exact k.agree (g := fun st : St31 => if p (peekP st.1) = true then f st else g st) kn hnil hg (fun l n => if_neg hp) e
theorem Nil.ite {α : Type} {f g : St31 → Out α} (p : S31 → Bool) (hn : Nil f) (kn : Nil g) : Nil (fun st => if p (peekP st.1) = true then f st else g st) := fun n => by
  show (if _ then f ([], n) else g ([], n)) = _
  split
  · exact hn n
  · exact kn n
theorem checkT_rc (l : Int) : checkT ⟨2, tRC, l⟩ ≠ 0 := by
  have h : tokF tRC = ([⟨3, tRC, 1⟩], 0, 0) := by kernel_rfl
  unfold checkT
  rw [h]
  simp [isTok, rd_T31]
/-- A type, in steps. -/
def typedQ (k : Nat) (st : St31) : Out S50 :=
  if decide (plainP (peekP st.1).f1 > 0) = true then (askP (decide (plainP (peekP st.1).f1 > 0)) st).map id (fun r => ((⟨plainP (peekP st.1).f1, ⟨#[]⟩, []⟩ : S50), r.2))
  else if eqS (peekP st.1).f1 tLB = true then bindO (signP tLB st) fun _ st1 => bindO (typedP k st1) fun x st2 => bindO (signP tRB st2) fun _ st3 => .inr (⟨6, ⟨#[]⟩, [x]⟩, st3)
  else if eqS (peekP st.1).f1 tQ = true then bindO (signP tQ st) fun _ st1 => bindO (typedP k st1) fun x st2 => .inr (⟨7, ⟨#[]⟩, [x]⟩, st2)
  else bindO (nameP st) fun a st1 => .inr (⟨8, a, []⟩, st1)
theorem typed_eq (k : Nat) (st : St31) : typedP (k + 1) st = typedQ k st := by
  obtain ⟨l, n⟩ := st
  cases l with
  | nil =>
    unfold typedQ
    rw [if_neg (by show ¬ decide (plainP (⟨#[]⟩ : ByteArray) > 0) = true; decide +kernel), if_neg (by show ¬ eqS (⟨#[]⟩ : ByteArray) tLB = true; decide +kernel), if_neg (by show ¬ eqS (⟨#[]⟩ : ByteArray) tQ = true; decide +kernel)]
    rfl
  | cons t r =>
    rw [typedP_cons]
    unfold typedQ
    show _ = (if decide (plainP t.f1 > 0) = true then _ else if eqS t.f1 tLB = true then _ else if eqS t.f1 tQ = true then _ else _)
    by_cases h0 : plainP t.f1 > 0
    · rw [if_pos h0, if_pos (decide_eq_true h0)]
      show _ = (askP (decide (plainP t.f1 > 0)) (t :: r, n)).map id _
      rw [decide_eq_true h0]; rfl
    · rw [if_neg h0, if_neg (show ¬ decide (plainP t.f1 > 0) = true from by rw [decide_eq_true_eq]; exact h0)]
      by_cases h1 : eqS t.f1 tLB = true
      · rw [if_pos h1, if_pos h1]
        have : signP tLB (t :: r, n) = .inr (t.f1, (r, t.f2)) := by
          show askP (eqS t.f1 tLB) (t :: r, n) = _
          rw [h1]; rfl
        rw [this]
        show _ = bindO (typedP k (r, t.f2)) _
        rcases typedP k (r, t.f2) with e | ⟨x, st2⟩
        · rfl
        · show (signP tRB st2).map id _ = bindO (signP tRB st2) _
          rcases signP tRB st2 with e | ⟨q, st3⟩ <;> rfl
      · rw [if_neg h1, if_neg h1]
        by_cases h2 : eqS t.f1 tQ = true
        · rw [if_pos h2, if_pos h2]
          have : signP tQ (t :: r, n) = .inr (t.f1, (r, t.f2)) := by
            show askP (eqS t.f1 tQ) (t :: r, n) = _
            rw [h2]; rfl
          rw [this]
          show _ = bindO (typedP k (r, t.f2)) _
          rcases typedP k (r, t.f2) with e | ⟨x, st2⟩ <;> rfl
        · rw [if_neg h2, if_neg h2]
          rcases nameP (t :: r, n) with e | ⟨x, st2⟩ <;> rfl
/-! The lines do not matter. -/
def simT (x y : S31) : Prop := x.f0 = y.f0 ∧ x.f1 = y.f1
inductive Sim : List S31 → List S31 → Prop
  | nil : Sim [] []
  | cons {x y : S31} {l k : List S31} : simT x y → checkT x = 0 → checkT y = 0 → Sim l k → Sim (x :: l) (y :: k)
def OSim {α : Type} : Out α → Out α → Prop
  | .inl e, .inl e' => e.1 = e'.1
  | .inr q, .inr q' => q.1 = q'.1 ∧ Sim q.2.1 q'.2.1
  | _, _ => False
def Lin {α : Type} (f : St31 → Out α) : Prop := ∀ l k n m, Sim l k → OSim (f (l, n)) (f (k, m))
theorem Lin.bind {α β : Type} {f : St31 → Out α} {g : α → St31 → Out β} (h : Lin f) (k : ∀ a, Lin (g a)) : Lin (fun st => bindO (f st) g) := by
  intro l l' n m hs
  have := h l l' n m hs
  show OSim (bindO (f (l, n)) g) (bindO (f (l', m)) g)
  rcases e1 : f (l, n) with c | ⟨a, st⟩ <;> rcases e2 : f (l', m) with c' | ⟨a', st'⟩ <;> rw [e1, e2] at this
  · exact this
  · exact this.elim
  · exact this.elim
  · obtain ⟨h1, h2⟩ := this
    have h1 : a = a' := h1
    subst h1
    exact k a _ _ _ _ h2
theorem Lin.pure {α : Type} (a : α) : Lin (fun st => (.inr (a, st) : Out α)) := fun l k n m hs => ⟨rfl, hs⟩
theorem Lin.ite {α : Type} {f g : St31 → Out α} (p : S31 → Bool) (hp : ∀ x y, simT x y → checkT x = 0 → checkT y = 0 → p x = p y) (h : Lin f) (k : Lin g) : Lin (fun st => if p (peekP st.1) = true then f st else g st) := by
  intro l l' n m hs
  have e : p (peekP l) = p (peekP l') := by
    cases hs with
    | nil => rfl
    | cons a b c d => exact hp _ _ a b c
  show OSim (if p (peekP l) = true then f (l, n) else g (l, n)) (if p (peekP l') = true then f (l', m) else g (l', m))
  rw [e]
  split
  · exact h _ _ _ _ hs
  · exact k _ _ _ _ hs
theorem Sim.len {l k : List S31} (h : Sim l k) : l.length = k.length := by
  induction h with
  | nil => rfl
  | cons a b c d ih => simp [ih]
def NZ {α : Type} (f : St31 → Out α) : Prop := ∀ st c st', f st = .inl (c, st') → c ≠ 0
theorem NZ.bind {α β : Type} {f : St31 → Out α} {g : α → St31 → Out β} (h : NZ f) (k : ∀ a, NZ (g a)) : NZ (fun st => bindO (f st) g) := by
  intro st c st' e
  have e : bindO (f st) g = .inl (c, st') := e
  rcases hf : f st with ⟨c1, st1⟩ | ⟨a, st1⟩
  · rw [hf] at e
    have e : (.inl (c1, st1) : Out β) = .inl (c, st') := e
    injection e with e
    injection e with e1 e2
    subst e1
    exact h _ _ _ hf
  · rw [hf] at e
    exact k a _ _ _ e
theorem NZ.pure {α : Type} (a : α) : NZ (fun st => (.inr (a, st) : Out α)) := fun st c st' e => by cases e
theorem NZ.ite {α : Type} {f g : St31 → Out α} (p : S31 → Bool) (h : NZ f) (k : NZ g) : NZ (fun st => if p (peekP st.1) = true then f st else g st) := by
  intro st c st' e
  have e : (if p (peekP st.1) = true then f st else g st) = .inl (c, st') := e
  by_cases hp : p (peekP st.1) = true
  · rw [if_pos hp] at e; exact h _ _ _ e
  · rw [if_neg hp] at e; exact k _ _ _ e
theorem NZ.map {α β : Type} {f : St31 → Out α} (h : NZ f) (g : α × St31 → St31 → β × St31) : NZ (fun st => (f st).map id (fun q => g q st)) := by
  intro st c st' e
  have e : (f st).map id (fun q => g q st) = .inl (c, st') := e
  rcases hf : f st with ⟨c1, st1⟩ | ⟨a, st1⟩
  · rw [hf] at e
    have e : (.inl (c1, st1) : Out β) = .inl (c, st') := e
    injection e with e
    injection e with e1 e2
    subst e1
    exact h _ _ _ hf
  · rw [hf] at e
    cases e
/-! What is printed is read again. Pieces of a text, and what they are read as. -/
def shp (t : S31) : Int × ByteArray := (t.f0, t.f1)
def Opn (r : List UInt8) : Prop := ∀ c t, r = c :: t → partB c = false
/-- A piece is read as these tokens; o: it must not be followed by a part of a word. -/
def Reads (o : Bool) (s : List UInt8) (ts : List (Int × ByteArray)) : Prop :=
  ∀ (M : Nat) (r : List UInt8) (l : Int) (out : List S31), (s ++ r).length ≤ M → 1 ≤ l → (o = true → Opn r) →
    ∃ l2 m, 1 ≤ l2 ∧ toksL (M + 1) (s ++ r) l out = toksL (M + 1) r l2 (out ++ m) ∧ m.map shp = ts ∧ ∀ t ∈ m, checkT t = 0
theorem Reads.app {o p : Bool} {s u : List UInt8} {ts us : List (Int × ByteArray)} (h : Reads o s ts) (k : Reads p u us) (ho : o = true → u ≠ [] ∧ Opn u) : Reads p (s ++ u) (ts ++ us) := by
  intro M r l out hM hl hp
  rw [List.append_assoc] at hM ⊢
  obtain ⟨l2, m, h1, h2, h3, h4⟩ := h M (u ++ r) l out hM hl (fun e c t ec => by
    obtain ⟨hu, hO⟩ := ho e
    cases u with
    | nil => exact absurd rfl hu
    | cons a u' =>
      rw [List.cons_append] at ec
      injection ec with e1 e2
      subst e1
      exact hO a u' rfl)
  obtain ⟨l3, m2, k1, k2, k3, k4⟩ := k M r l2 (out ++ m) (by rw [List.length_append] at hM; omega) h1 hp
  refine ⟨l3, m ++ m2, k1, by rw [h2, k2, List.append_assoc], by rw [List.map_append, h3, k3], fun t ht => ?_⟩
  rcases List.mem_append.1 ht with ht | ht
  · exact h4 t ht
  · exact k4 t ht
theorem Reads.weaken {o : Bool} {s : List UInt8} {ts : List (Int × ByteArray)} (h : Reads false s ts) : Reads o s ts := fun M r l out hM hl _ => h M r l out hM hl (fun e => by cases e)
theorem reads_nil : Reads false [] [] := fun M r l out hM hl _ => ⟨l, [], hl, by rw [List.append_nil]; rfl, rfl, fun t ht => by cases ht⟩
theorem reads_blank (c : UInt8) (h1 : c ≠ 10) (h2 : c ≠ 35) (h3 : blankB c = true) : Reads false [c] [] := fun M r l out hM hl _ => ⟨l, [], hl, by rw [List.append_nil]; exact T_blank M c r l out h1 h2 h3, rfl, fun t ht => by cases ht⟩
theorem reads_nl : Reads false [10] [] := fun M r l out hM hl _ => ⟨l + 1, [], by omega, by rw [List.append_nil]; exact T_nl M r l out, rfl, fun t ht => by cases ht⟩
theorem reads_one (k : Int) (q : List UInt8) (h : oneQ k q) (hp : plainHead q) (hq : q.length ≤ 65536) : Reads true q [(k, txt q)] := by
  intro M r l out hM hl ho
  have hn := one_next k q r l h (ho rfl)
  obtain ⟨c, t, rfl, c1, c2, c3⟩ := hp
  have hT := T_tok M c (t ++ r) l out (by simp only [List.cons_append, List.length_cons] at hM; omega) c1 c2 c3
  rw [← List.cons_append, hn, if_pos rfl] at hT
  exact ⟨l, [⟨k, txt (c :: t), l⟩], hl, hT, rfl, fun x hx => by
    rw [List.mem_singleton] at hx
    subst hx
    exact check_mk _ (c :: t) rfl h ⟨c, t, rfl, c1, c2, c3⟩ hq hl⟩
theorem reads_sign (c : UInt8) (h : signB c = true) (h1 : c ≠ 10) (h2 : c ≠ 35) (h3 : blankB c = false) : Reads false [c] [(3, txt [c])] := by
  intro M r l out hM hl _
  have hn : nextL (c :: r) l = (⟨3, txt [c], l⟩, 0, r) := by
    unfold nextL
    rw [if_pos (show signB ((c :: r).headD 0) = true from h)]
    rfl
  have hT := T_tok M c r l out (by simp only [List.cons_append, List.length_cons, List.nil_append] at hM; omega) h1 h2 h3
  rw [hn, if_pos rfl] at hT
  exact ⟨l, [⟨3, txt [c], l⟩], hl, hT, rfl, fun x hx => by
    rw [List.mem_singleton] at hx
    subst hx
    exact check_mk _ [c] rfl (.inl ⟨c, rfl, h, rfl⟩) ⟨c, [], rfl, h1, h2, h3⟩ (by show 1 ≤ 65536; omega) hl⟩
theorem opn_cons {c : UInt8} {t : List UInt8} (h : partB c = false) : (c :: t) ≠ [] ∧ Opn (c :: t) := ⟨by simp, fun a b e => by injection e with e1 _; rw [← e1]; exact h⟩
theorem name_check {s : ByteArray} (h : nameB s = true) : checkT ⟨1, s, 1⟩ = 0 := by
  unfold nameB at h
  rw [Bool.and_eq_true] at h
  exact of_decide_eq_true h.1
theorem reads_name (s : ByteArray) (h : nameB s = true) : Reads true s.data.toList [(1, s)] := by
  obtain ⟨h1, h2, h3, h4⟩ := check_one ⟨1, s, 1⟩ (name_check h)
  have := reads_one 1 s.data.toList h1 h2 h4
  rwa [txt_data] at this
/-! Numbers. -/
theorem digit_ofNat (m : Nat) (h : m ≤ 9) : digitB (UInt8.ofNat (48 + m)) = true ∧ partB (UInt8.ofNat (48 + m)) = true ∧ letterB (UInt8.ofNat (48 + m)) = false ∧ signB (UInt8.ofNat (48 + m)) = false ∧ blankB (UInt8.ofNat (48 + m)) = false ∧ UInt8.ofNat (48 + m) ≠ 10 ∧ UInt8.ofNat (48 + m) ≠ 35 ∧ UInt8.ofNat (48 + m) ≠ 95 ∧ (UInt8.ofNat (48 + m)).toNat = 48 + m ∧ (UInt8.ofNat (48 + m) = 48 ↔ m = 0) := by
  have : ∀ n : Fin 10, digitB (UInt8.ofNat (48 + n.val)) = true ∧ partB (UInt8.ofNat (48 + n.val)) = true ∧ letterB (UInt8.ofNat (48 + n.val)) = false ∧ signB (UInt8.ofNat (48 + n.val)) = false ∧ blankB (UInt8.ofNat (48 + n.val)) = false ∧ UInt8.ofNat (48 + n.val) ≠ 10 ∧ UInt8.ofNat (48 + n.val) ≠ 35 ∧ UInt8.ofNat (48 + n.val) ≠ 95 ∧ (UInt8.ofNat (48 + n.val)).toNat = 48 + n.val ∧ (UInt8.ofNat (48 + n.val) = 48 ↔ n.val = 0) := by decide +kernel
  exact this ⟨m, by omega⟩
theorem decN_ne (n : Nat) : decN n ≠ [] := by
  by_cases h : n < 10
  · rw [decN_lt h]; simp
  · rw [decN_ge h]; simp
theorem decN_all : ∀ (k n : Nat), n < 10 ^ (k + 1) → (decN n).length ≤ k + 1 ∧ (∀ c ∈ decN n, digitB c = true ∧ partB c = true) ∧ (∃ m, m ≤ 9 ∧ (decN n).headD 0 = UInt8.ofNat (48 + m) ∧ (m = 0 → n = 0))
  | 0, n, h => by
    rw [decN_lt (by omega)]
    have hd := digit_ofNat n (by omega)
    exact ⟨by simp, fun c hc => by rw [List.mem_singleton] at hc; rw [hc]; exact ⟨hd.1, hd.2.1⟩, n, by omega, rfl, fun e => e⟩
  | k + 1, n, h => by
    by_cases hn : n < 10
    · rw [decN_lt hn]
      have hd := digit_ofNat n (by omega)
      exact ⟨by simp, fun c hc => by rw [List.mem_singleton] at hc; rw [hc]; exact ⟨hd.1, hd.2.1⟩, n, by omega, rfl, fun e => e⟩
    · have hlt : n / 10 < 10 ^ (k + 1) := by rw [Nat.div_lt_iff_lt_mul (by decide)]; rw [Nat.pow_succ] at h; exact h
      obtain ⟨a, b, m, c1, c2, c3⟩ := decN_all k (n / 10) hlt
      have hd := digit_ofNat (n % 10) (by omega)
      rw [decN_ge hn]
      refine ⟨by rw [List.length_append]; simp; omega, fun c hc => ?_, m, c1, ?_, fun e => ?_⟩
      · rcases List.mem_append.1 hc with hc | hc
        · exact b c hc
        · rw [List.mem_singleton] at hc; rw [hc]; exact ⟨hd.1, hd.2.1⟩
      · have hne := decN_ne (n / 10)
        revert c2 hne
        cases decN (n / 10) with
        | nil => intro _ h; exact absurd rfl h
        | cons x t => intro c2 _; exact c2
      · have := c3 e; omega
theorem decN_zero (n : Nat) (hn : n ≤ 999999999) : ¬ ((decN n).headD 0 = 48 ∧ (decN n).length > 1) := by
  intro h
  obtain ⟨_, _, m, c1, c2, c3⟩ := decN_all 8 n (by omega)
  rw [c2] at h
  have := c3 (((digit_ofNat m c1).2.2.2.2.2.2.2.2.2).1 h.1)
  subst this
  rw [decN_lt (by omega)] at h
  exact absurd h.2 (by simp)
theorem decN_one (n : Nat) (hn : n ≤ 999999999) : oneQ 2 (decN n) ∧ plainHead (decN n) ∧ (decN n).length ≤ 9 := by
  obtain ⟨a, b, m, c1, c2, c3⟩ := decN_all 8 n (by omega)
  have hz := decN_zero n hn
  have hd := digit_ofNat m c1
  have hne := decN_ne n
  have hk : kindL (decN n) = (2, 0) := by
    unfold kindL
    rw [c2, if_neg (fun h => by rw [hd.2.2.1] at h; exact absurd h.1 (by simp)), if_neg (by rw [hd.2.2.1]; simp), if_neg hd.2.2.2.2.2.2.2.1, if_neg]
    rw [← c2]
    rintro (h | h | h)
    · rw [List.all_eq_false] at h
      obtain ⟨x, hx, hq⟩ := h
      exact hq (b x hx).1
    · omega
    · exact hz h
  have hr : runL (decN n) = decN n := tw_all partB (decN n) fun c hc => (b c hc).2
  revert c2 hk hr a hne
  generalize decN n = q
  intro a c2 hne hk hr
  cases q with
  | nil => exact absurd rfl hne
  | cons c t =>
    have hc : c = UInt8.ofNat (48 + m) := c2
    subst hc
    exact ⟨.inr ⟨_, t, rfl, hd.2.2.2.1, hr, hk⟩, ⟨_, t, rfl, hd.2.2.2.2.2.1, hd.2.2.2.2.2.2.1, hd.2.2.2.2.1⟩, a⟩
theorem reads_num (n : Nat) (hn : n ≤ 999999999) : Reads true (decN n) [(2, txt (decN n))] := by
  obtain ⟨a, b, c⟩ := decN_one n hn
  exact reads_one 2 _ a b (by omega)
theorem numS_app : ∀ (l k : List UInt8) (n : Int), numS n (l ++ k) = numS (numS n l) k
  | [], k, n => rfl
  | c :: t, k, n => by rw [List.cons_append]; exact numS_app t k _
theorem numS_dec : ∀ (k n : Nat), n < 10 ^ (k + 1) → n ≤ 999999999 → numS 0 (decN n) = (n : Int)
  | 0, n, h, _ => by
    rw [decN_lt (by omega)]
    have hd := (digit_ofNat n (by omega)).2.2.2.2.2.2.2.2.1
    unfold numS numS
    rw [hd]
    show wrap64 (wrap64 0 + (((48 + n : Nat) : Int) - 48) % 256) = n
    unfold wrap64; omega
  | k + 1, n, h, hn => by
    by_cases h10 : n < 10
    · rw [decN_lt h10]
      have hd := (digit_ofNat n (by omega)).2.2.2.2.2.2.2.2.1
      unfold numS numS
      rw [hd]
      show wrap64 (wrap64 0 + (((48 + n : Nat) : Int) - 48) % 256) = n
      unfold wrap64; omega
    · have hlt : n / 10 < 10 ^ (k + 1) := by rw [Nat.div_lt_iff_lt_mul (by decide)]; rw [Nat.pow_succ] at h; exact h
      rw [decN_ge h10, numS_app, numS_dec k (n / 10) hlt (by omega)]
      have hd := (digit_ofNat (n % 10) (by omega)).2.2.2.2.2.2.2.2.1
      unfold numS numS
      rw [hd]
      unfold wrap64; omega
/-! Types. -/
inductive TyR : Nat → S50 → List UInt8 → List (Int × ByteArray) → Prop
  | plain (d : Nat) (k : Int) (w : ByteArray) (h : 1 ≤ k ∧ k ≤ 5) (hw : w = PLAINS.getD (k - 1).toNat ByteArray.empty) : TyR (d + 1) ⟨k, ⟨#[]⟩, []⟩ w.data.toList [(1, w)]
  | list (d : Nat) (x : S50) (w : List UInt8) (ts : List (Int × ByteArray)) (h : TyR d x w ts) : TyR (d + 1) ⟨6, ⟨#[]⟩, [x]⟩ ([91] ++ (w ++ [93])) ([(3, tLB)] ++ (ts ++ [(3, tRB)]))
  | opt (d : Nat) (x : S50) (w : List UInt8) (ts : List (Int × ByteArray)) (h : TyR d x w ts) : TyR (d + 1) ⟨7, ⟨#[]⟩, [x]⟩ ([63] ++ w) ([(3, tQ)] ++ ts)
  | name (d : Nat) (a : ByteArray) (h : nameB a = true) : TyR (d + 1) ⟨8, a, []⟩ a.data.toList [(1, a)]
theorem plains_all (P : ByteArray → Prop) (h : ∀ n : Fin 5, P (PLAINS.getD n.val ByteArray.empty)) (k : Int) (hk : 1 ≤ k ∧ k ≤ 5) : P (PLAINS.getD (k - 1).toNat ByteArray.empty) := h ⟨(k - 1).toNat, by omega⟩
theorem word_one (q : List UInt8) (h1 : signB (q.headD 0) = false) (h2 : runL q = q) (h3 : kindL q = (1, 0)) (h4 : q.headD 0 ≠ 10) (h5 : q.headD 0 ≠ 35) (h6 : blankB (q.headD 0) = false) (h7 : q ≠ []) (hq : q.length ≤ 65536) : Reads true q [(1, txt q)] := by
  cases q with
  | nil => exact absurd rfl h7
  | cons c t => exact reads_one 1 (c :: t) (.inr ⟨c, t, rfl, h1, h2, h3⟩) ⟨c, t, rfl, h4, h5, h6⟩ hq
theorem reads_lit (w : ByteArray) (h : signB (w.data.toList.headD 0) = false ∧ runL w.data.toList = w.data.toList ∧ kindL w.data.toList = (1, 0) ∧ w.data.toList.headD 0 ≠ 10 ∧ w.data.toList.headD 0 ≠ 35 ∧ blankB (w.data.toList.headD 0) = false ∧ w.data.toList ≠ [] ∧ w.data.toList.length ≤ 65536) : Reads true w.data.toList [(1, w)] := by
  obtain ⟨h1, h2, h3, h4, h5, h6, h7, h8⟩ := h
  have := word_one _ h1 h2 h3 h4 h5 h6 h7 h8
  rwa [txt_data] at this
theorem lit_plain : ∀ n : Fin 5, (fun w : ByteArray => signB (w.data.toList.headD 0) = false ∧ runL w.data.toList = w.data.toList ∧ kindL w.data.toList = (1, 0) ∧ w.data.toList.headD 0 ≠ 10 ∧ w.data.toList.headD 0 ≠ 35 ∧ blankB (w.data.toList.headD 0) = false ∧ w.data.toList ≠ [] ∧ w.data.toList.length ≤ 65536) (PLAINS.getD n.val ByteArray.empty) := by decide +kernel
theorem ty_reads {d : Nat} {t : S50} {w : List UInt8} {ts : List (Int × ByteArray)} (h : TyR d t w ts) : Reads true w ts := by
  induction h with
  | plain d k w h hw =>
    subst hw
    exact reads_lit _ (plains_all (fun w : ByteArray => signB (w.data.toList.headD 0) = false ∧ runL w.data.toList = w.data.toList ∧ kindL w.data.toList = (1, 0) ∧ w.data.toList.headD 0 ≠ 10 ∧ w.data.toList.headD 0 ≠ 35 ∧ blankB (w.data.toList.headD 0) = false ∧ w.data.toList ≠ [] ∧ w.data.toList.length ≤ 65536) lit_plain k h)
  | list d x w ts h ih =>
    exact ((reads_sign 91 (by decide) (by decide) (by decide) (by decide)).app (ih.app (reads_sign 93 (by decide) (by decide) (by decide) (by decide)) (fun _ => opn_cons (by decide +kernel))) (fun e => by cases e)).weaken
  | opt d x w ts h ih => exact (reads_sign 63 (by decide) (by decide) (by decide) (by decide)).app ih (fun e => by cases e)
  | name d a h => exact reads_name a h
theorem name_len {a : ByteArray} (h : nameB a = true) : a.data.toList.length ≤ 32 := by
  obtain ⟨h1, h2, h3, h4⟩ := check_one ⟨1, a, 1⟩ (name_check h)
  rcases h1 with ⟨c, _, _, e⟩ | ⟨c, t, e1, _, _, e4⟩
  · exact absurd (show (1 : Int) = 3 from e) (by decide)
  · have e4' : kindL a.data.toList = (1, 0) := e4
    unfold kindL at e4'
    by_cases hl : a.data.toList.length ≤ 32
    · exact hl
    · by_cases hc : letterB (a.data.toList.headD 0) = true
      · rw [if_pos ⟨hc, by omega⟩] at e4'; exact absurd e4' (by decide)
      · rw [if_neg (fun q => hc q.1), if_neg hc] at e4'
        split at e4'
        · exact absurd e4' (by decide)
        · split at e4' <;> exact absurd e4' (by decide)
theorem ty_len {d : Nat} {t : S50} {w : List UInt8} {ts : List (Int × ByteArray)} (h : TyR d t w ts) : w.length ≤ 2 * d + 32 := by
  induction h with
  | plain d k w h hw =>
    subst hw
    have := plains_all (fun w : ByteArray => w.data.toList.length ≤ 32) (by decide +kernel) k h
    omega
  | list d x w ts h ih => simp; omega
  | opt d x w ts h ih => simp; omega
  | name d a h => have := name_len h; omega
/-! What the parser makes of tokens. -/
def Gives {α : Type} (f : St31 → Out α) (a : α) (ts : List (Int × ByteArray)) : Prop := ∀ m r n, m.map shp = ts → (∀ t ∈ m, checkT t = 0) → ∃ n', f (m ++ r, n) = .inr (a, (r, n'))
theorem Gives.bind {α β : Type} {f : St31 → Out α} {g : α → St31 → Out β} {a : α} {b : β} {ts us : List (Int × ByteArray)} (h : Gives f a ts) (k : Gives (g a) b us) : Gives (fun st => bindO (f st) g) b (ts ++ us) := by
  intro m r n hm hg
  obtain ⟨m1, m2, rfl, e1, e2⟩ := List.map_eq_append_iff.1 hm
  obtain ⟨n1, h1⟩ := h m1 (m2 ++ r) n e1 (fun t ht => hg t (List.mem_append_left _ ht))
  obtain ⟨n2, h2⟩ := k m2 r n1 e2 (fun t ht => hg t (List.mem_append_right _ ht))
  refine ⟨n2, ?_⟩
  show bindO (f (m1 ++ m2 ++ r, n)) g = _
  rw [List.append_assoc, h1]
  exact h2
theorem Gives.pure {α : Type} (a : α) : Gives (fun st => (.inr (a, st) : Out α)) a [] := fun m r n hm _ => by
  rw [List.map_eq_nil_iff] at hm
  subst hm
  exact ⟨n, rfl⟩
theorem gives_one {α : Type} {f : St31 → Out α} {a : α} {k : Int} {x : ByteArray} (h : ∀ (l : Int) (r : List S31) (n : Int), checkT ⟨k, x, l⟩ = 0 → ∃ n', f (⟨k, x, l⟩ :: r, n) = .inr (a, (r, n'))) : Gives f a [(k, x)] := by
  intro m r n hm hg
  obtain ⟨t, q, rfl, e1, e2⟩ := List.map_eq_cons_iff.1 hm
  rw [List.map_eq_nil_iff] at e2
  subst e2
  obtain ⟨t0, t1, t2⟩ := t
  have e3 : t0 = k ∧ t1 = x := by injection e1 with a b; exact ⟨a, b⟩
  obtain ⟨rfl, rfl⟩ := e3
  exact h t2 r n (hg _ List.mem_cons_self)
theorem gives_ask (p : S31 → Bool) (k : Int) (x : ByteArray) (h : ∀ l, p ⟨k, x, l⟩ = true) : Gives (fun st => askP (p (peekP st.1)) st) x [(k, x)] := gives_one fun l r n _ => ⟨l, by
  show askP (p ⟨k, x, l⟩) (⟨k, x, l⟩ :: r, n) = _
  rw [h l]; rfl⟩
theorem gives_name (a : ByteArray) (h : nameB a = true) (k : Int) : Gives nameP a [(k, a)] := gives_ask (fun t => nameB t.f1) k a fun _ => h
theorem eqS_refl (x : ByteArray) : eqS x x = true := by unfold eqS; simp
theorem gives_sign (x : ByteArray) (k : Int) : Gives (signP x) x [(k, x)] := gives_ask (fun t => eqS t.f1 x) k x fun _ => eqS_refl x
theorem gives_num (n : Nat) (hn : n ≤ 999999999) : Gives numberP (n : Int) [(2, txt (decN n))] := gives_one fun l r m hc => ⟨l, by
  have : numT ⟨2, txt (decN n), l⟩ = ((n : Int), 0) := by
    unfold numT
    rw [if_pos hc, if_pos rfl, txt_list, numS_dec 8 n (by omega) hn]
  show (askP ((2 : Int) == 2) (⟨2, txt (decN n), l⟩ :: r, m)).map id (fun q => ((numT ⟨2, txt (decN n), l⟩).1, q.2)) = _
  rw [this]; rfl⟩
theorem gives_typed {d : Nat} {t : S50} {w : List UInt8} {ts : List (Int × ByteArray)} (h : TyR d t w ts) : Gives (typedP d) t ts := by
  induction h with
  | plain d k w h hw =>
    subst hw
    have hp : plainP (PLAINS.getD (k - 1).toNat ByteArray.empty) = k := by
      have h5 : ∀ n : Fin 5, plainP (PLAINS.getD n.val ByteArray.empty) = (n.val : Int) + 1 := by decide +kernel
      have := h5 ⟨(k - 1).toNat, by omega⟩
      have e : (((k - 1).toNat : Nat) : Int) + 1 = k := by omega
      exact Eq.trans this e
    refine gives_one fun l r n _ => ⟨l, ?_⟩
    rw [typedP_cons]
    show (if plainP (PLAINS.getD (k - 1).toNat ByteArray.empty) > 0 then _ else _) = _
    rw [hp, if_pos (by omega)]
  | list d x w ts h ih =>
    have e : typedP (d + 1) = typedQ d := funext (typed_eq d)
    rw [e]
    intro m r n hm hg
    have hB : Gives (fun st => bindO (signP tLB st) fun _ st1 => bindO (typedP d st1) fun x st2 => bindO (signP tRB st2) fun _ st3 => (.inr (⟨6, ⟨#[]⟩, [x]⟩, st3) : Out S50)) ⟨6, ⟨#[]⟩, [x]⟩ ([(3, tLB)] ++ (ts ++ ([(3, tRB)] ++ []))) := (gives_sign tLB 3).bind (ih.bind ((gives_sign tRB 3).bind (Gives.pure _)))
    obtain ⟨n', hn⟩ := hB m r n (by rw [List.append_nil]; exact hm) hg
    refine ⟨n', ?_⟩
    obtain ⟨t, q, rfl, e1, e2⟩ := List.map_eq_cons_iff.1 hm
    have e3 : t.f1 = tLB := by injection e1 with a b
    unfold typedQ
    show (if decide (plainP t.f1 > 0) = true then _ else if eqS t.f1 tLB = true then _ else _) = _
    rw [e3, if_neg (by decide +kernel), if_pos (eqS_refl _)]
    exact hn
  | opt d x w ts h ih =>
    have e : typedP (d + 1) = typedQ d := funext (typed_eq d)
    rw [e]
    intro m r n hm hg
    have hB : Gives (fun st => bindO (signP tQ st) fun _ st1 => bindO (typedP d st1) fun x st2 => (.inr (⟨7, ⟨#[]⟩, [x]⟩, st2) : Out S50)) ⟨7, ⟨#[]⟩, [x]⟩ ([(3, tQ)] ++ (ts ++ [])) := (gives_sign tQ 3).bind (ih.bind (Gives.pure _))
    obtain ⟨n', hn⟩ := hB m r n (by rw [List.append_nil]; exact hm) hg
    refine ⟨n', ?_⟩
    obtain ⟨t, q, rfl, e1, e2⟩ := List.map_eq_cons_iff.1 hm
    have e3 : t.f1 = tQ := by injection e1 with a b
    unfold typedQ
    show (if decide (plainP t.f1 > 0) = true then _ else if eqS t.f1 tLB = true then _ else if eqS t.f1 tQ = true then _ else _) = _
    rw [e3, if_neg (by decide +kernel), if_neg (by decide +kernel), if_pos (eqS_refl _)]
    exact hn
  | name d a h =>
    have e : typedP (d + 1) = typedQ d := funext (typed_eq d)
    rw [e]
    have hB : Gives (fun st => bindO (nameP st) fun a st1 => (.inr (⟨8, a, []⟩, st1) : Out S50)) ⟨8, a, []⟩ ([(1, a)] ++ []) := (gives_name a h 1).bind (Gives.pure _)
    intro m r n hm hg
    obtain ⟨n', hn⟩ := hB m r n hm hg
    refine ⟨n', ?_⟩
    obtain ⟨t, q, rfl, e1, e2⟩ := List.map_eq_cons_iff.1 hm
    have e3 : t.f1 = a := by injection e1 with a b
    unfold typedQ
    show (if decide (plainP t.f1 > 0) = true then _ else if eqS t.f1 tLB = true then _ else if eqS t.f1 tQ = true then _ else _) = _
    have hp : plainP a = 0 := by
      unfold nameB at h
      rw [Bool.and_eq_true, Bool.and_eq_true] at h
      exact of_decide_eq_true h.2.1
    have hc := check_one ⟨1, a, 1⟩ (name_check h)
    have hs : ∀ c : UInt8, signB c = true → eqS a ⟨#[c]⟩ = false := by
      intro c hc2
      cases hh : eqS a ⟨#[c]⟩ with
      | false => rfl
      | true =>
        have e5 := eqS_eq hh
        subst e5
        rcases hc.1 with ⟨_, _, _, e⟩ | ⟨c', t', e6, e7, _, _⟩
        · exact absurd (show (1 : Int) = 3 from e) (by decide)
        · have : c = c' := by injection e6
          rw [← this] at e7
          rw [hc2] at e7; cases e7
    rw [e3, if_neg (by rw [hp]; decide), if_neg (by rw [show tLB = (⟨#[91]⟩ : ByteArray) from rfl, hs 91 (by decide)]; decide), if_neg (by rw [show tQ = (⟨#[63]⟩ : ByteArray) from rfl, hs 63 (by decide)]; decide)]
    exact hn
theorem w01 : wrap64 (0 + 1) = 1 := by decide +kernel
theorem nil_letters : ¬ ((⟨#[]⟩ : ByteArray).toList != ([] : List UInt8)) = true := by decide +kernel
theorem one_len (x : S50) : ¬ (true != ((([x].length : Nat) : Int) == 1)) = true := by simp
theorem one_len2 (x : S50) : ¬ decide ((([x].length : Nat) : Int) > 1) = true := by simp
theorem rd_one (x : S50) : rd_T50 [x] 0 = x := rfl
theorem ty_word {d : Nat} {t : S50} {w : List UInt8} {ts : List (Int × ByteArray)} (h : TyR d t w ts) (hd : d ≤ 8) : ∀ K, d < K → parse_word.f K t.f0 t.f1 t.f2 = some (txt w) := by
  induction h with
  | plain d k w h hw =>
    intro K hK
    obtain ⟨K, rfl⟩ : ∃ q, K = q + 1 := ⟨K - 1, by omega⟩
    show parse_word.f (K + 1) k ⟨#[]⟩ [] = _
    rw [parse_word.f, if_neg (by omega), if_neg (by omega), if_pos h, ← hw, txt_data]
  | list d x w ts h ih =>
    intro K hK
    obtain ⟨K, rfl⟩ : ∃ q, K = q + 1 := ⟨K - 1, by omega⟩
    have hl := ty_len h
    show parse_word.f (K + 1) 6 ⟨#[]⟩ [x] = _
    rw [parse_word.f, if_pos (.inl rfl), if_pos (by simp), rd_one, ih (by omega) K (by omega), obind, if_pos (by rw [txt_size]; omega), if_pos rfl]
    rw [show (⟨#[91]⟩ : ByteArray) = txt [91] from rfl, show (⟨#[93]⟩ : ByteArray) = txt [93] from rfl, txt_app, txt_app, List.append_assoc]
  | opt d x w ts h ih =>
    intro K hK
    obtain ⟨K, rfl⟩ : ∃ q, K = q + 1 := ⟨K - 1, by omega⟩
    have hl := ty_len h
    show parse_word.f (K + 1) 7 ⟨#[]⟩ [x] = _
    rw [parse_word.f, if_pos (.inr rfl), if_pos (by simp), rd_one, ih (by omega) K (by omega), obind, if_pos (by rw [txt_size]; omega), if_neg (by decide)]
    rw [show (⟨#[63]⟩ : ByteArray) = txt [63] from rfl, txt_app]
  | name d a h =>
    intro K hK
    obtain ⟨K, rfl⟩ : ∃ q, K = q + 1 := ⟨K - 1, by omega⟩
    show parse_word.f (K + 1) 8 a [] = _
    rw [parse_word.f, if_neg (by decide), if_pos rfl, txt_data]
theorem ty_deep {d : Nat} {t : S50} {w : List UInt8} {ts : List (Int × ByteArray)} (h : TyR d t w ts) (hd : d ≤ 8) : ∀ (K : Nat) (left : Int), 3 * d + 3 ≤ K → (d : Int) < left → left ≤ 100 → ∃ n, parse_deep.f K t.f0 t.f1 t.f2 left = some n ∧ 1 ≤ n ∧ n ≤ d := by
  have hone : ∀ (K : Nat) (k left : Int) (a : ByteArray), 2 ≤ K → 1 < left → k ≠ 6 → k ≠ 7 → parse_deep.f K k a [] left = some 1 := by
    intro K k left a hK h1 h6 h7
    obtain ⟨K, rfl⟩ : ∃ q, K = q + 2 := ⟨K - 2, by omega⟩
    rw [parse_deep.f, if_pos h1, if_neg h6, beq_eq_false_iff_ne.mpr h7, parse_deep.j0, if_neg (by decide), w01]
  have hmore : ∀ (K : Nat) (k left n d : Int) (a : ByteArray) (x : S50), 4 ≤ K → 1 < left → left ≤ 100 → k = 6 ∨ k = 7 → parse_deep.f (K - 3) x.f0 x.f1 x.f2 (left - 1) = some n → 1 ≤ n → n ≤ 100 → parse_deep.f K k a [x] left = some (n + 1) := by
    intro K k left n d a x hK h1 h2 hk hf hn hn2
    obtain ⟨K, rfl⟩ : ∃ q, K = q + 4 := ⟨K - 4, by omega⟩
    have hf : parse_deep.f (K + 1) x.f0 x.f1 x.f2 (left - 1) = some n := hf
    have hw : wrap64 (left - 1) = left - 1 := by unfold wrap64; omega
    have hl : parse_deep.l0 (K + 2) left 0 [x] 1 0 = some (n + 1) := by
      rw [parse_deep.l0, if_pos (by decide), if_pos (by decide), if_pos (by simp), rd_one, hw, hf, obind, w01, parse_deep.l0, if_neg (by decide)]
      have : mx 0 n = n := by unfold mx; split <;> omega
      rw [this]
      congr 1
      unfold wrap64; omega
    rcases hk with rfl | rfl
    · rw [parse_deep.f, if_pos h1, if_pos rfl, parse_deep.j0, if_pos rfl]
      exact hl
    · rw [parse_deep.f, if_pos h1, if_neg (by decide), show ((7 : Int) == 7) = true from rfl, parse_deep.j0, if_pos rfl]
      exact hl
  induction h with
  | plain d k w h hw => exact fun K left hK h1 _ => ⟨1, hone K k left _ (by omega) (by omega) (by omega) (by omega), by omega, by omega⟩
  | list d x w ts h ih =>
    intro K left hK h1 h2
    obtain ⟨n, k1, k2, k3⟩ := ih (by omega) (K - 3) (left - 1) (by omega) (by omega) (by omega)
    exact ⟨n + 1, hmore K 6 left n d _ x (by omega) (by omega) h2 (.inl rfl) k1 k2 (by omega), by omega, by omega⟩
  | opt d x w ts h ih =>
    intro K left hK h1 h2
    obtain ⟨n, k1, k2, k3⟩ := ih (by omega) (K - 3) (left - 1) (by omega) (by omega) (by omega)
    exact ⟨n + 1, hmore K 7 left n d _ x (by omega) (by omega) h2 (.inr rfl) k1 k2 (by omega), by omega, by omega⟩
  | name d a h => exact fun K left hK h1 _ => ⟨1, hone K 8 left a (by omega) (by omega) (by decide) (by decide), by omega, by omega⟩
theorem nameB_nil : nameB ⟨#[]⟩ = false := by decide +kernel
theorem ty_shape {d : Nat} {t : S50} {w : List UInt8} {ts : List (Int × ByteArray)} (h : TyR d t w ts) : ∀ K, 5 * d ≤ K → parse_shape.f K t.f0 t.f1 t.f2 = some 0 := by
  have hone : ∀ (K : Nat) (k : Int) (a : ByteArray), 5 ≤ K → 1 ≤ k → k ≤ 8 → k ≠ 6 → k ≠ 7 → (k = 8 ∧ nameB a = true ∨ k ≠ 8 ∧ a = ⟨#[]⟩) → parse_shape.f K k a [] = some 0 := by
    intro K k a hK h1 h8 h6 h7 hn
    obtain ⟨K, rfl⟩ : ∃ q, K = q + 5 := ⟨K - 5, by omega⟩
    rw [parse_shape.f, if_neg h6, beq_eq_false_iff_ne.mpr h7, parse_shape.j0, if_neg (by omega), decide_eq_false (show ¬ k > 8 by omega), parse_shape.j1, if_neg (by decide), if_neg (by decide), parse_shape.j2, if_neg (by decide), show parse_Name.f a = some (nameB a) from rfl, obind]
    rcases hn with ⟨rfl, hn⟩ | ⟨hk, rfl⟩
    · rw [hn, if_neg (by decide), if_pos rfl, parse_shape.j3, if_neg (by decide), if_neg (by decide)]
    · rw [nameB_nil, beq_eq_false_iff_ne.mpr hk, if_neg (by decide), if_neg hk, parse_shape.j3, if_neg nil_letters, if_neg (by decide)]
  have hmore : ∀ (K : Nat) (k : Int) (x : S50), 5 ≤ K → k = 6 ∨ k = 7 → parse_shape.f (K - 5) x.f0 x.f1 x.f2 = some 0 → parse_shape.f K k ⟨#[]⟩ [x] = some 0 := by
    intro K k x hK hk hf
    obtain ⟨K, rfl⟩ : ∃ q, K = q + 5 := ⟨K - 5, by omega⟩
    have hf : parse_shape.f K x.f0 x.f1 x.f2 = some 0 := hf
    have e : parse_shape.f (K + 5) k ⟨#[]⟩ [x] = parse_shape.j0 (K + 4) true k ⟨#[]⟩ [x] := by
      rcases hk with rfl | rfl
      · rw [parse_shape.f, if_pos rfl]
      · rw [parse_shape.f, if_neg (by decide), show ((7 : Int) == 7) = true from rfl]
    have h8 : (k == 8) = false := by rcases hk with rfl | rfl <;> rfl
    rw [e, parse_shape.j0, if_neg (by omega), decide_eq_false (show ¬ k > 8 by omega), parse_shape.j1, if_neg (by decide), if_neg (one_len x), parse_shape.j2, if_neg (one_len2 x), show parse_Name.f (⟨#[]⟩ : ByteArray) = some (nameB ⟨#[]⟩) from rfl, obind, nameB_nil, h8, if_neg (by decide), if_neg (by omega), parse_shape.j3, if_neg nil_letters, if_pos rfl, if_pos (by simp), rd_one, hf]
    rfl
  induction h with
  | plain d k w h hw => exact fun K hK => hone K k _ (by omega) (by omega) (by omega) (by omega) (by omega) (.inr ⟨by omega, rfl⟩)
  | list d x w ts h ih => exact fun K hK => hmore K 6 x (by omega) (.inl rfl) (ih _ (by omega))
  | opt d x w ts h ih => exact fun K hK => hmore K 7 x (by omega) (.inr rfl) (ih _ (by omega))
  | name d a h => exact fun K hK => hone K 8 a (by omega) (by decide) (by decide) (by decide) (by decide) (.inl ⟨rfl, h⟩)
def TyG (t : S50) : Prop := ∃ w ts, TyR 8 t w ts
theorem ty_ok {t : S50} (h : TyG t) : OKT 60 t ∧ ∃ ts, TyR 8 t (wordOf 60 t) ts := by
  obtain ⟨w, ts, h⟩ := h
  have hw := ty_word h (by omega) 60 (by omega)
  obtain ⟨n, k1, k2, k3⟩ := ty_deep h (by omega) 60 100 (by omega) (by omega) (by omega)
  have e : wordOf 60 t = w := by unfold wordOf; rw [hw]; exact txt_list w
  refine ⟨⟨?_, _, hw⟩, ts, by rw [e]; exact h⟩
  unfold parse_Shape.f parse_Deep.f
  rw [k1, obind, obind, if_neg (by omega), ty_shape h 60 (by omega)]
  rfl
/-! Parts, blocks, declarations. -/
def Hd (ts : List (Int × ByteArray)) : Prop := ∃ k x rest, ts = (k, x) :: rest ∧ ∀ l, checkT ⟨k, x, l⟩ = 0 → eqS x tRC = false
def PartR {α : Type} (one : St31 → Out α) (L : List UInt8) (a : α) : Prop := ∃ ts, Reads false L ts ∧ Gives one a ts ∧ Hd ts
theorem hd_num (n : Nat) (rest : List (Int × ByteArray)) : Hd ((2, txt (decN n)) :: rest) := ⟨2, _, rest, rfl, fun l hc => by
  cases h : eqS (txt (decN n)) tRC with
  | false => rfl
  | true => rw [eqS_eq h] at hc; exact absurd hc (checkT_rc l)⟩
theorem sc (c : UInt8) (h : signB c = true) (h1 : c ≠ 10) (h2 : c ≠ 35) (h3 : blankB c = false) : Reads false [c] [(3, txt [c])] := reads_sign c h h1 h2 h3
theorem sep {o : Bool} {s : List UInt8} {ts : List (Int × ByteArray)} (h : Reads o s ts) (c : UInt8) (hp : partB c = false) (hb : Reads false [c] []) : Reads false (s ++ [c]) ts := by
  have := h.app hb (fun _ => opn_cons hp)
  rwa [List.append_nil] at this
theorem sgn {o : Bool} {s : List UInt8} {ts : List (Int × ByteArray)} (h : Reads o s ts) (c : UInt8) (hp : partB c = false) (hb : Reads false [c] [(3, txt [c])]) : Reads false (s ++ [c]) (ts ++ [(3, txt [c])]) := h.app hb (fun _ => opn_cons hp)
theorem Reads.more {o : Bool} {s u : List UInt8} {ts us : List (Int × ByteArray)} (h : Reads false s ts) (k : Reads o u us) : Reads o (s ++ u) (ts ++ us) := h.app k (fun e => by cases e)
theorem r9 : Reads false [9] [] := reads_blank 9 (by decide) (by decide) (by decide)
theorem r32 : Reads false [32] [] := reads_blank 32 (by decide) (by decide) (by decide)
theorem p32 : partB 32 = false := by decide +kernel
theorem p10 : partB 10 = false := by decide +kernel
theorem p59 : partB 59 = false := by decide +kernel
theorem p58 : partB 58 = false := by decide +kernel
theorem p40 : partB 40 = false := by decide +kernel
theorem p41 : partB 41 = false := by decide +kernel
theorem s59 : Reads false [59] [(3, tSC)] := reads_sign 59 (by decide) (by decide) (by decide) (by decide)
theorem s58 : Reads false [58] [(3, tCO)] := reads_sign 58 (by decide) (by decide) (by decide) (by decide)
theorem s40 : Reads false [40] [(3, tLP)] := reads_sign 40 (by decide) (by decide) (by decide) (by decide)
theorem s41 : Reads false [41] [(3, tRP)] := reads_sign 41 (by decide) (by decide) (by decide) (by decide)
theorem s123 : Reads false [123] [(3, tLC)] := reads_sign 123 (by decide) (by decide) (by decide) (by decide)
theorem s125 : Reads false [125] [(3, tRC)] := reads_sign 125 (by decide) (by decide) (by decide) (by decide)
theorem part_reads (n : Nat) (hn : n ≤ 999999999) (a : ByteArray) (ha : nameB a = true) : Reads true (partL n a) [(2, txt (decN n)), (1, a)] := by
  have := ((r9.more (reads_num n hn)).app r32 (fun _ => opn_cons p32)).app (reads_name a ha) (fun e => by cases e)
  simpa [partL] using this
def MemG (f : S88) : Prop := nameB f.f0 = true ∧ NumOk f.f1
def FieldG (f : S52) : Prop := nameB f.f0 = true ∧ NumOk f.f1 ∧ TyG f.f2
def MethG (m : S94) : Prop := nameB m.f0 = true ∧ TyG m.f2 ∧ TyG m.f3
theorem member_part (f : S88) (h : MemG f) : PartR enum1P (memberL f) f := by
  obtain ⟨a, n⟩ := f
  obtain ⟨h1, h2, h3⟩ := h
  have h2 : 0 ≤ n := h2
  have h3 : n ≤ 999999999 := h3
  obtain ⟨k, rfl⟩ : ∃ k : Nat, n = k := ⟨n.toNat, by omega⟩
  have hk : k ≤ 999999999 := by omega
  refine ⟨[(2, txt (decN k)), (1, a), (3, tSC)], ?_, ?_, hd_num k _⟩
  · have := sep (sgn (part_reads k hk a h1) 59 p59 s59) 10 p10 reads_nl
    rw [show txt [59] = tSC from rfl] at this
    simpa [memberL, partL] using this
  · exact (gives_num k hk).bind (us := [(1, a), (3, tSC)]) ((gives_name a h1 1).bind (us := [(3, tSC)]) ((gives_sign tSC 3).bind (us := []) (Gives.pure _)))
theorem field_part (f : S52) (h : FieldG f) : PartR struct1P (fieldL 60 f) f := by
  obtain ⟨a, n, t⟩ := f
  obtain ⟨h1, ⟨h2, h3⟩, h4⟩ := h
  have h2 : 0 ≤ n := h2
  have h3 : n ≤ 999999999 := h3
  obtain ⟨k, rfl⟩ : ∃ k : Nat, n = k := ⟨n.toNat, by omega⟩
  have hk : k ≤ 999999999 := by omega
  obtain ⟨_, ts, ht⟩ := ty_ok h4
  refine ⟨[(2, txt (decN k)), (1, a), (3, tCO)] ++ (ts ++ [(3, tSC)]), ?_, ?_, hd_num k _⟩
  · have e : fieldL 60 ⟨a, k, t⟩ = partL k a ++ [58, 32] ++ wordOf 60 t ++ [59, 10] := rfl
    have := sep (sgn ((sep (sgn (part_reads k hk a h1) 58 p58 s58) 32 p32 r32).more (ty_reads ht)) 59 p59 s59) 10 p10 reads_nl
    rw [e]
    rw [show txt [59] = tSC from rfl, show txt [58] = tCO from rfl] at this
    simpa using this
  · have hty : Gives (fun st3 => bindO (typedP 8 st3) fun ty st4 => bindO (signP tSC st4) fun _ st5 => (.inr (⟨a, (k : Int), ty⟩, st5) : Out S52)) ⟨a, (k : Int), t⟩ (ts ++ [(3, tSC)]) := (gives_typed ht).bind (us := [(3, tSC)]) ((gives_sign tSC 3).bind (us := []) (Gives.pure (⟨a, (k : Int), t⟩ : S52)))
    have hna : Gives (fun st1 => bindO (nameP st1) fun a st2 => bindO (signP tCO st2) fun _ st3 => bindO (typedP 8 st3) fun ty st4 => bindO (signP tSC st4) fun _ st5 => (.inr (⟨a, (k : Int), ty⟩, st5) : Out S52)) ⟨a, (k : Int), t⟩ ([(1, a)] ++ ([(3, tCO)] ++ (ts ++ [(3, tSC)]))) := (gives_name a h1 1).bind ((gives_sign tCO 3).bind hty)
    exact (gives_num k hk).bind hna
theorem lit_words : ∀ n : Fin 5, (fun w : ByteArray => signB (w.data.toList.headD 0) = false ∧ runL w.data.toList = w.data.toList ∧ kindL w.data.toList = (1, 0) ∧ w.data.toList.headD 0 ≠ 10 ∧ w.data.toList.headD 0 ≠ 35 ∧ blankB (w.data.toList.headD 0) = false ∧ w.data.toList ≠ [] ∧ w.data.toList.length ≤ 65536) ([tStruct, tEnum, tService, tOnce, tRead].getD n.val ByteArray.empty) := by decide +kernel
theorem rw_word (n : Fin 5) : Reads true ([tStruct, tEnum, tService, tOnce, tRead].getD n.val ByteArray.empty).data.toList [(1, [tStruct, tEnum, tService, tOnce, tRead].getD n.val ByteArray.empty)] := reads_lit _ (lit_words n)
theorem method_part (m : S94) (h : MethG m) : PartR svc1P (methodL 60 m) m := by
  obtain ⟨a, o, t, u⟩ := m
  obtain ⟨h1, h2, h3⟩ := h
  obtain ⟨_, ts, ht⟩ := ty_ok h2
  obtain ⟨_, us, hu⟩ := ty_ok h3
  have hty : Gives (fun st3 => bindO (typedP 8 st3) fun x st4 => bindO (signP tRP st4) fun _ st5 => bindO (typedP 8 st5) fun y st6 => bindO (signP tSC st6) fun _ st7 => (.inr (⟨a, o, x, y⟩, st7) : Out S94)) ⟨a, o, t, u⟩ (ts ++ ([(3, tRP)] ++ (us ++ [(3, tSC)]))) :=
    (gives_typed ht).bind ((gives_sign tRP 3).bind ((gives_typed hu).bind (us := [(3, tSC)]) ((gives_sign tSC 3).bind (us := []) (Gives.pure (⟨a, o, t, u⟩ : S94)))))
  have hrest : ∀ k : ByteArray, eqS k tOnce = o → Gives (fun st1 => bindO (nameP st1) fun a st2 => bindO (signP tLP st2) fun _ st3 => bindO (typedP 8 st3) fun x st4 => bindO (signP tRP st4) fun _ st5 => bindO (typedP 8 st5) fun y st6 => bindO (signP tSC st6) fun _ st7 => (.inr (⟨a, eqS k tOnce, x, y⟩, st7) : Out S94)) ⟨a, o, t, u⟩ ([(1, a)] ++ ([(3, tLP)] ++ (ts ++ ([(3, tRP)] ++ (us ++ [(3, tSC)]))))) := by
    intro k hk
    rw [hk]
    exact (gives_name a h1 1).bind ((gives_sign tLP 3).bind hty)
  have htext : ∀ (k : ByteArray), Reads true k.data.toList [(1, k)] → Reads false ([9] ++ k.data.toList ++ [32] ++ a.data.toList ++ [40] ++ wordOf 60 t ++ [41, 32] ++ wordOf 60 u ++ [59, 10]) ([(1, k)] ++ ([(1, a)] ++ ([(3, tLP)] ++ (ts ++ ([(3, tRP)] ++ (us ++ [(3, tSC)])))))) := by
    intro k hk
    have := sep (sgn ((sep (sgn ((sgn ((sep (r9.more hk) 32 p32 r32).more (reads_name a h1)) 40 p40 s40).more (ty_reads ht)) 41 p41 s41) 32 p32 r32).more (ty_reads hu)) 59 p59 s59) 10 p10 reads_nl
    rw [show txt [40] = tLP from rfl, show txt [41] = tRP from rfl, show txt [59] = tSC from rfl] at this
    simpa using this
  cases o with
  | true =>
    refine ⟨[(1, tOnce)] ++ ([(1, a)] ++ ([(3, tLP)] ++ (ts ++ ([(3, tRP)] ++ (us ++ [(3, tSC)]))))), ?_, ?_, 1, tOnce, _, rfl, fun _ _ => by decide +kernel⟩
    · have := htext tOnce (rw_word 3)
      have e : methodL 60 ⟨a, true, t, u⟩ = [9] ++ tOnce.data.toList ++ [32] ++ a.data.toList ++ [40] ++ wordOf 60 t ++ [41, 32] ++ wordOf 60 u ++ [59, 10] := rfl
      rw [e]; exact this
    · exact (gives_ask (fun t => eqS t.f1 tOnce || eqS t.f1 tRead) 1 tOnce (fun _ => (by decide +kernel : (eqS tOnce tOnce || eqS tOnce tRead) = true))).bind (hrest tOnce (by decide +kernel))
  | false =>
    refine ⟨[(1, tRead)] ++ ([(1, a)] ++ ([(3, tLP)] ++ (ts ++ ([(3, tRP)] ++ (us ++ [(3, tSC)]))))), ?_, ?_, 1, tRead, _, rfl, fun _ _ => by decide +kernel⟩
    · have := htext tRead (rw_word 4)
      have e : methodL 60 ⟨a, false, t, u⟩ = [9] ++ tRead.data.toList ++ [32] ++ a.data.toList ++ [40] ++ wordOf 60 t ++ [41, 32] ++ wordOf 60 u ++ [59, 10] := rfl
      rw [e]; exact this
    · exact (gives_ask (fun t => eqS t.f1 tOnce || eqS t.f1 tRead) 1 tRead (fun _ => (by decide +kernel : (eqS tRead tOnce || eqS tRead tRead) = true))).bind (hrest tRead (by decide +kernel))
theorem parts_gives {α : Type} {one : St31 → Out α} {L : α → List UInt8} : ∀ (l : List α) (m : Nat), l.length ≤ m → (∀ a ∈ l, PartR one (L a) a) → ∃ ts, Reads false (l.flatMap L) ts ∧ Gives (partsP one m) l (ts ++ [(3, tRC)])
  | [], m, _, _ => ⟨[], reads_nil, gives_one fun l r n _ => ⟨l, by
    have hs : signP tRC (⟨3, tRC, l⟩ :: r, n) = .inr (tRC, (r, l)) := by
      show askP (eqS tRC tRC) (⟨3, tRC, l⟩ :: r, n) = _
      rw [eqS_refl]; rfl
    cases m with
    | zero =>
      show (if eqS tRC tRC = true then bindO (signP tRC (⟨3, tRC, l⟩ :: r, n)) fun _ st1 => .inr ([], st1) else _) = _
      rw [if_pos (eqS_refl _), hs]; rfl
    | succ m =>
      show (if eqS tRC tRC = true then bindO (signP tRC (⟨3, tRC, l⟩ :: r, n)) fun _ st1 => .inr ([], st1) else _) = _
      rw [if_pos (eqS_refl _), hs]; rfl⟩⟩
  | a :: l, m, hm, h => by
    obtain ⟨m, rfl⟩ : ∃ q, m = q + 1 := ⟨m - 1, by simp only [List.length_cons] at hm; omega⟩
    obtain ⟨ts, h1, h2⟩ := parts_gives l m (by simp only [List.length_cons] at hm; omega) (fun b hb => h b (List.mem_cons_of_mem _ hb))
    obtain ⟨us, k1, k2, k, x, rest, rfl, kx⟩ := h a List.mem_cons_self
    refine ⟨(k, x) :: rest ++ ts, by rw [List.flatMap_cons]; exact k1.more h1, ?_⟩
    intro q r n hq hg
    have hB := k2.bind (g := fun a st1 => bindO (partsP one m st1) fun l st2 => (.inr (a :: l, st2) : Out (List α))) (us := ts ++ [(3, tRC)]) (b := a :: l) (by
      have := h2.bind (g := fun l st2 => (.inr (a :: l, st2) : Out (List α))) (us := []) (Gives.pure _)
      rwa [List.append_nil] at this)
    obtain ⟨n', hn⟩ := hB q r n (by rw [hq, List.append_assoc]) hg
    refine ⟨n', ?_⟩
    obtain ⟨t, q', rfl, e1, e2⟩ := List.map_eq_cons_iff.1 hq
    obtain ⟨t0, t1, t2⟩ := t
    have e3 : t0 = k ∧ t1 = x := by injection e1 with a b; exact ⟨a, b⟩
    obtain ⟨rfl, rfl⟩ := e3
    have hf := kx t2 (hg _ List.mem_cons_self)
    show (if eqS t1 tRC = true then _ else _) = _
    rw [hf, if_neg (by decide)]
    exact hn
theorem block_gives {α : Type} {one : St31 → Out α} {L : α → List UInt8} (a : ByteArray) (ha : nameB a = true) (l : List α) (hl : l.length ≤ 32) (h : ∀ x ∈ l, PartR one (L x) x) : ∃ ts, Reads false (a.data.toList ++ [32, 123, 10] ++ l.flatMap L ++ [125, 10]) ts ∧ Gives (blockP one) (a, l) ts := by
  obtain ⟨ts, h1, h2⟩ := parts_gives l 32 hl h
  refine ⟨[(1, a)] ++ ([(3, tLC)] ++ (ts ++ [(3, tRC)])), ?_, ?_⟩
  · have := sep (sgn ((sep (sgn (sep (reads_name a ha) 32 p32 r32) 123 (by decide +kernel) s123) 10 p10 reads_nl).more h1) 125 (by decide +kernel) s125) 10 p10 reads_nl
    rw [show txt [123] = tLC from rfl, show txt [125] = tRC from rfl] at this
    simpa using this
  · have := (gives_name a ha 1).bind (g := fun a st1 => bindO (signP tLC st1) fun _ st2 => bindO (partsP one 32 st2) fun l st3 => (.inr ((a, l), st3) : Out (ByteArray × List α))) ((gives_sign tLC 3).bind (g := fun _ st2 => bindO (partsP one 32 st2) fun l st3 => (.inr ((a, l), st3) : Out (ByteArray × List α))) (h2.bind (us := []) (Gives.pure (a, l))))
    rw [List.append_nil] at this
    exact this
def declL : DeclT → List UInt8
  | .s a l => structL 60 ⟨a, l⟩
  | .e a l => enumL ⟨a, l⟩
  | .v a l => serviceL 60 ⟨a, l⟩
def DeclG : DeclT → Prop
  | .s a l => nameB a = true ∧ l.length ≤ 32 ∧ ∀ f ∈ l, FieldG f
  | .e a l => nameB a = true ∧ l.length ≤ 32 ∧ ∀ f ∈ l, MemG f
  | .v a l => nameB a = true ∧ l.length ≤ 32 ∧ ∀ f ∈ l, MethG f
theorem decl_gives (d : DeclT) (h : DeclG d) : ∃ ts, ts ≠ [] ∧ Reads false (declL d) ts ∧ Gives declP d ts := by
  cases d with
  | s a l =>
    obtain ⟨h1, h2, h3⟩ := h
    obtain ⟨ts, k1, k2⟩ := block_gives (one := struct1P) (L := fieldL 60) a h1 l h2 (fun x hx => field_part x (h3 x hx))
    refine ⟨[(1, tStruct)] ++ ts, by simp, ?_, ?_⟩
    · have := (sep (rw_word 0) 32 p32 r32).more k1
      have e : declL (.s a l) = (tStruct.data.toList ++ [32]) ++ (a.data.toList ++ [32, 123, 10] ++ l.flatMap (fieldL 60) ++ [125, 10]) := by simp [declL, structL, beginL, tStruct]
      rw [e]; exact this
    · refine (gives_ask (fun t => wordB t.f1) 1 tStruct (fun _ => (by decide +kernel : wordB tStruct = true))).bind ?_
      have e : (fun st1 => if eqS tStruct tStruct = true then bindO (blockP struct1P st1) fun x st2 => (.inr (.s x.1 x.2, st2) : Out DeclT) else if eqS tStruct tEnum = true then bindO (blockP enum1P st1) fun x st2 => .inr (.e x.1 x.2, st2) else bindO (blockP svc1P st1) fun x st2 => .inr (.v x.1 x.2, st2)) = fun st1 => bindO (blockP struct1P st1) fun x st2 => (.inr (.s x.1 x.2, st2) : Out DeclT) := funext fun st1 => by rw [if_pos (eqS_refl _)]
      rw [e]
      have := k2.bind (g := fun x st2 => (.inr (.s x.1 x.2, st2) : Out DeclT)) (us := []) (Gives.pure _)
      rwa [List.append_nil] at this
  | e a l =>
    obtain ⟨h1, h2, h3⟩ := h
    obtain ⟨ts, k1, k2⟩ := block_gives (one := enum1P) (L := memberL) a h1 l h2 (fun x hx => member_part x (h3 x hx))
    refine ⟨[(1, tEnum)] ++ ts, by simp, ?_, ?_⟩
    · have := (sep (rw_word 1) 32 p32 r32).more k1
      have e : declL (.e a l) = (tEnum.data.toList ++ [32]) ++ (a.data.toList ++ [32, 123, 10] ++ l.flatMap memberL ++ [125, 10]) := by simp [declL, enumL, beginL, tEnum]
      rw [e]; exact this
    · refine (gives_ask (fun t => wordB t.f1) 1 tEnum (fun _ => (by decide +kernel : wordB tEnum = true))).bind ?_
      have e : (fun st1 => if eqS tEnum tStruct = true then bindO (blockP struct1P st1) fun x st2 => (.inr (.s x.1 x.2, st2) : Out DeclT) else if eqS tEnum tEnum = true then bindO (blockP enum1P st1) fun x st2 => .inr (.e x.1 x.2, st2) else bindO (blockP svc1P st1) fun x st2 => .inr (.v x.1 x.2, st2)) = fun st1 => bindO (blockP enum1P st1) fun x st2 => (.inr (.e x.1 x.2, st2) : Out DeclT) := funext fun st1 => by rw [if_neg (by decide +kernel), if_pos (eqS_refl _)]
      rw [e]
      have := k2.bind (g := fun x st2 => (.inr (.e x.1 x.2, st2) : Out DeclT)) (us := []) (Gives.pure _)
      rwa [List.append_nil] at this
  | v a l =>
    obtain ⟨h1, h2, h3⟩ := h
    obtain ⟨ts, k1, k2⟩ := block_gives (one := svc1P) (L := methodL 60) a h1 l h2 (fun x hx => method_part x (h3 x hx))
    refine ⟨[(1, tService)] ++ ts, by simp, ?_, ?_⟩
    · have := (sep (rw_word 2) 32 p32 r32).more k1
      have e : declL (.v a l) = (tService.data.toList ++ [32]) ++ (a.data.toList ++ [32, 123, 10] ++ l.flatMap (methodL 60) ++ [125, 10]) := by simp [declL, serviceL, beginL, tService]
      rw [e]; exact this
    · refine (gives_ask (fun t => wordB t.f1) 1 tService (fun _ => (by decide +kernel : wordB tService = true))).bind ?_
      have e : (fun st1 => if eqS tService tStruct = true then bindO (blockP struct1P st1) fun x st2 => (.inr (.s x.1 x.2, st2) : Out DeclT) else if eqS tService tEnum = true then bindO (blockP enum1P st1) fun x st2 => .inr (.e x.1 x.2, st2) else bindO (blockP svc1P st1) fun x st2 => .inr (.v x.1 x.2, st2)) = fun st1 => bindO (blockP svc1P st1) fun x st2 => (.inr (.v x.1 x.2, st2) : Out DeclT) := funext fun st1 => by rw [if_neg (by decide +kernel), if_neg (by decide +kernel)]
      rw [e]
      have := k2.bind (g := fun x st2 => (.inr (.v x.1 x.2, st2) : Out DeclT)) (us := []) (Gives.pure _)
      rwa [List.append_nil] at this
theorem decls_gives : ∀ (ds : List DeclT) (m : Nat), ds.length ≤ m → (∀ d ∈ ds, DeclG d) → ∃ ts, Reads false (ds.flatMap declL) ts ∧ ∀ q n, q.map shp = ts → (∀ t ∈ q, checkT t = 0) → ∃ n', declsP m (q, n) = .inr (ds, ([], n'))
  | [], m, _, _ => ⟨[], reads_nil, fun q n hq _ => ⟨n, by
    rw [List.map_eq_nil_iff] at hq
    subst hq
    cases m <;> rfl⟩⟩
  | d :: ds, m, hm, h => by
    obtain ⟨m, rfl⟩ : ∃ q, m = q + 1 := ⟨m - 1, by simp only [List.length_cons] at hm; omega⟩
    obtain ⟨ts, h1, h2⟩ := decls_gives ds m (by simp only [List.length_cons] at hm; omega) (fun b hb => h b (List.mem_cons_of_mem _ hb))
    obtain ⟨us, k0, k1, k2⟩ := decl_gives d (h d List.mem_cons_self)
    refine ⟨us ++ ts, by rw [List.flatMap_cons]; exact k1.more h1, fun q n hq hg => ?_⟩
    obtain ⟨q1, q2, rfl, e1, e2⟩ := List.map_eq_append_iff.1 hq
    obtain ⟨n1, r1⟩ := k2 q1 q2 n e1 (fun t ht => hg t (List.mem_append_left _ ht))
    obtain ⟨n2, r2⟩ := h2 q2 n1 e2 (fun t ht => hg t (List.mem_append_right _ ht))
    refine ⟨n2, ?_⟩
    have hne : ¬ (q1 ++ q2).length = 0 := by
      intro hz
      have : q1 = [] := List.eq_nil_of_length_eq_zero (by rw [List.length_append] at hz; omega)
      rw [this] at e1
      exact k0 e1.symm
    show (if (q1 ++ q2).length = 0 then _ else bindO (declP (q1 ++ q2, n)) fun d st1 => bindO (declsP m st1) fun l st2 => .inr (d :: l, st2)) = _
    rw [if_neg hne, r1]
    show bindO (declsP m (q2, n1)) _ = _
    rw [r2]
    rfl
def dsOf (x : S40) : List DeclT := x.f0.map (fun s => .s s.f0 s.f1) ++ (x.f1.map (fun s => .e s.f0 s.f1) ++ x.f2.map (fun s => .v s.f0 s.f1))
def SchG (x : S40) : Prop := (∀ d ∈ dsOf x, DeclG d) ∧ x.f0.length + x.f1.length + x.f2.length ≤ 64
theorem ds_text (x : S40) : (dsOf x).flatMap declL = allL 60 x := by
  unfold dsOf allL
  rw [List.flatMap_append, List.flatMap_append, List.flatMap_map, List.flatMap_map, List.flatMap_map, List.append_assoc]
  rfl
theorem fold_s (l : List S47) : ∀ x : S40, (l.map (fun s => DeclT.s s.f0 s.f1)).foldl addS x = ⟨x.f0 ++ l, x.f1, x.f2⟩ := by
  induction l with
  | nil => intro x; simp
  | cons a l ih => intro x; rw [List.map_cons, List.foldl_cons, ih]; simp [addS]
theorem fold_e (l : List S86) : ∀ x : S40, (l.map (fun s => DeclT.e s.f0 s.f1)).foldl addS x = ⟨x.f0, x.f1 ++ l, x.f2⟩ := by
  induction l with
  | nil => intro x; simp
  | cons a l ih => intro x; rw [List.map_cons, List.foldl_cons, ih]; simp [addS]
theorem fold_v (l : List S91) : ∀ x : S40, (l.map (fun s => DeclT.v s.f0 s.f1)).foldl addS x = ⟨x.f0, x.f1, x.f2 ++ l⟩ := by
  induction l with
  | nil => intro x; simp
  | cons a l ih => intro x; rw [List.map_cons, List.foldl_cons, ih]; simp [addS]
theorem ds_fold (x : S40) : (dsOf x).foldl addS x0 = x := by
  unfold dsOf
  rw [List.foldl_append, List.foldl_append, fold_s, fold_e, fold_v]
  simp [x0]
theorem bad_none : ∀ l : List S31, (∀ t ∈ l, checkT t = 0) → badT l = none
  | [], _ => rfl
  | t :: l, h => by
    unfold badT
    rw [if_pos (h t List.mem_cons_self)]
    exact bad_none l (fun u hu => h u (List.mem_cons_of_mem _ hu))
/-- What is printed is read again. -/
theorem print_back (x : S40) (h : SchG x) (hl : (allL 60 x).length ≤ 65536) : textF (txt (allL 60 x)) = (x, 0, 0) := by
  obtain ⟨ts, h1, h2⟩ := decls_gives (dsOf x) 64 (by unfold dsOf; simp only [List.length_append, List.length_map]; have := h.2; omega) h.1
  rw [ds_text] at h1
  obtain ⟨l2, q, k1, k2, k3, k4⟩ := h1 (allL 60 x).length [] 1 [] (by rw [List.append_nil]; exact Nat.le_refl _) (by omega) (fun e => by cases e)
  rw [List.append_nil, List.nil_append] at k2
  have ht : tokF (txt (allL 60 x)) = (q, 0, 0) := by rw [tokF_txt _ hl, k2, T_nil]
  obtain ⟨n', hn⟩ := h2 q 1 k3 k4
  unfold textF
  rw [ht, if_pos rfl]
  show parseF q = _
  unfold parseF
  rw [bad_none q k4, hn]
  show ((dsOf x).foldl addS x0, (0 : Int), (0 : Int)) = _
  rw [ds_fold]
def Snd {α : Type} (f : St31 → Out α) (P : α → Prop) : Prop := ∀ l n a r m, Good l → f (l, n) = .inr (a, (r, m)) → P a ∧ Good r
theorem Snd.bind {α β : Type} {f : St31 → Out α} {g : α → St31 → Out β} {P : α → Prop} {Q : β → Prop} (h : Snd f P) (k : ∀ a, P a → Snd (g a) Q) : Snd (fun st => bindO (f st) g) Q := by
  intro l n b r m hg ho
  obtain ⟨a, ⟨l1, n1⟩, h1, h2⟩ := bindO_inr ho
  obtain ⟨p1, p2⟩ := h l n a l1 n1 hg h1
  exact k a p1 l1 n1 b r m p2 h2
theorem Snd.pure {α : Type} {P : α → Prop} (a : α) (h : P a) : Snd (fun st => (.inr (a, st) : Out α)) P := fun l n b r m hg ho => by
  injection ho with ho
  injection ho with h1 h2
  injection h2 with h2 h3
  subst h1 h2
  exact ⟨h, hg⟩
theorem Snd.mono {α : Type} {f : St31 → Out α} {P Q : α → Prop} (h : Snd f P) (k : ∀ a, P a → Q a) : Snd f Q := fun l n a r m hg ho => ⟨k a (h l n a r m hg ho).1, (h l n a r m hg ho).2⟩
theorem ds_mem (x : S40) : (∀ s ∈ x.f0, DeclT.s s.f0 s.f1 ∈ dsOf x) ∧ (∀ s ∈ x.f1, DeclT.e s.f0 s.f1 ∈ dsOf x) ∧ (∀ s ∈ x.f2, DeclT.v s.f0 s.f1 ∈ dsOf x) :=
  ⟨fun s h => List.mem_append_left _ (List.mem_map.2 ⟨s, h, rfl⟩), fun s h => List.mem_append_right _ (List.mem_append_left _ (List.mem_map.2 ⟨s, h, rfl⟩)), fun s h => List.mem_append_right _ (List.mem_append_right _ (List.mem_map.2 ⟨s, h, rfl⟩))⟩
theorem sch_ok (x : S40) (h : SchG x) : SchOk 60 x := by
  obtain ⟨m1, m2, m3⟩ := ds_mem x
  refine ⟨fun s hs => ?_, fun s hs => ?_, fun s hs => ?_⟩
  · obtain ⟨a, b, c⟩ := h.1 _ (m1 s hs)
    exact ⟨a, b, fun f hf => ⟨(c f hf).1, (c f hf).2.1, (ty_ok (c f hf).2.2).1⟩⟩
  · obtain ⟨a, b, c⟩ := h.1 _ (m2 s hs)
    exact ⟨a, b, fun f hf => ⟨(c f hf).1, (c f hf).2⟩⟩
  · obtain ⟨a, b, c⟩ := h.1 _ (m3 s hs)
    exact ⟨a, b, fun f hf => ⟨(c f hf).1, (ty_ok (c f hf).2.1).1, (ty_ok (c f hf).2.2).1⟩⟩
theorem flat_len {α : Type} (L : α → List UInt8) (k : Nat) : ∀ (l : List α), (∀ x ∈ l, (L x).length ≤ k) → (l.flatMap L).length ≤ l.length * k
  | [], _ => by simp
  | a :: l, h => by
    have := flat_len L k l (fun x hx => h x (List.mem_cons_of_mem _ hx))
    have h1 := h a List.mem_cons_self
    rw [List.flatMap_cons, List.length_append, List.length_cons, Nat.succ_mul]; omega
theorem word_len {t : S50} (h : TyG t) : (wordOf 60 t).length ≤ 48 := by
  obtain ⟨_, ts, h⟩ := ty_ok h
  have := ty_len h; omega
theorem word_size {t : S50} : ((parse_word.f 60 t.f0 t.f1 t.f2).getD ByteArray.empty).data.toList.length = (wordOf 60 t).length := rfl
theorem begin_len (u s : ByteArray) (hu : u.data.toList.length ≤ 10) (hs : nameB s = true) : (beginL u s).length ≤ 60 := by
  have := name_len hs
  simp only [beginL, List.length_append, List.length_cons, List.length_nil]; omega
theorem field_len (f : S52) (h : FieldG f) : (fieldL 60 f).length ≤ 200 := by
  have h1 := name_len h.1
  have h2 := decN_len f.f1.toNat (by have := h.2.1.2; omega)
  have h3 := word_len h.2.2
  simp only [fieldL, partL, List.length_append, List.length_cons, List.length_nil]; omega
theorem member_len (f : S88) (h : MemG f) : (memberL f).length ≤ 200 := by
  have h1 := name_len h.1
  have h2 := decN_len f.f1.toNat (by have := h.2.2; omega)
  simp only [memberL, partL, List.length_append, List.length_cons, List.length_nil]; omega
theorem method_len (m : S94) (h : MethG m) : (methodL 60 m).length ≤ 200 := by
  have h1 := name_len h.1
  have h2 := word_len h.2.1
  have h3 := word_len h.2.2
  have : (if m.f1 = true then ([9, 111, 110, 99, 101, 32] : List UInt8) else [9, 114, 101, 97, 100, 32]).length ≤ 6 := by split <;> simp
  simp only [methodL, methL, List.length_append, List.length_cons, List.length_nil, word_size]; omega
theorem decl_len (d : DeclT) (h : DeclG d) : (declL d).length ≤ 10000 := by
  cases d with
  | s a l =>
    obtain ⟨h1, h2, h3⟩ := h
    have e1 := begin_len ⟨#[115, 116, 114, 117, 99, 116]⟩ a (by decide) h1
    have e2 := flat_len (fieldL 60) 200 l (fun x hx => field_len x (h3 x hx))
    simp only [declL, structL, List.length_append, List.length_cons, List.length_nil]; omega
  | e a l =>
    obtain ⟨h1, h2, h3⟩ := h
    have e1 := begin_len ⟨#[101, 110, 117, 109]⟩ a (by decide) h1
    have e2 := flat_len memberL 200 l (fun x hx => member_len x (h3 x hx))
    simp only [declL, enumL, List.length_append, List.length_cons, List.length_nil]; omega
  | v a l =>
    obtain ⟨h1, h2, h3⟩ := h
    have e1 := begin_len ⟨#[115, 101, 114, 118, 105, 99, 101]⟩ a (by decide) h1
    have e2 := flat_len (methodL 60) 200 l (fun x hx => method_len x (h3 x hx))
    simp only [declL, serviceL, List.length_append, List.length_cons, List.length_nil]; omega
theorem all_len (x : S40) (h : SchG x) : (allL 60 x).length ≤ 640000 := by
  rw [← ds_text]
  have := flat_len declL 10000 (dsOf x) (fun d hd => decl_len d (h.1 d hd))
  have h2 : (dsOf x).length ≤ 64 := by unfold dsOf; simp only [List.length_append, List.length_map]; have := h.2; omega
  omega
def stO {α : Type} : Out α → St31
  | .inl (_, st) => st
  | .inr (_, st) => st
def LineOk {α : Type} (f : St31 → Out α) : Prop := ∀ l n, Good l → 1 ≤ n → Good (stO (f (l, n))).1 ∧ 1 ≤ (stO (f (l, n))).2
theorem LineOk.bind {α β : Type} {f : St31 → Out α} {g : α → St31 → Out β} (h : LineOk f) (k : ∀ a, LineOk (g a)) : LineOk (fun st => bindO (f st) g) := by
  intro l n hg hn
  have := h l n hg hn
  show Good (stO (bindO (f (l, n)) g)).1 ∧ 1 ≤ (stO (bindO (f (l, n)) g)).2
  rcases hf : f (l, n) with ⟨c, st⟩ | ⟨a, ⟨l1, n1⟩⟩
  · rw [hf] at this; exact this
  · rw [hf] at this; exact k a l1 n1 this.1 this.2
theorem LineOk.pure {α : Type} (a : α) : LineOk (fun st => (.inr (a, st) : Out α)) := fun l n hg hn => ⟨hg, hn⟩
theorem LineOk.ite {α : Type} {f g : St31 → Out α} (p : List S31 → Prop) [∀ l, Decidable (p l)] (h : LineOk f) (k : LineOk g) : LineOk (fun st => if p st.1 then f st else g st) := by
  intro l n hg hn
  by_cases hp : p l
  · show Good (stO (if p l then f (l, n) else g (l, n))).1 ∧ 1 ≤ (stO (if p l then f (l, n) else g (l, n))).2
    rw [if_pos hp]; exact h l n hg hn
  · show Good (stO (if p l then f (l, n) else g (l, n))).1 ∧ 1 ≤ (stO (if p l then f (l, n) else g (l, n))).2
    rw [if_neg hp]; exact k l n hg hn
end Go.Proofs.Ytoloneoeojoiaaa.EParseBack

