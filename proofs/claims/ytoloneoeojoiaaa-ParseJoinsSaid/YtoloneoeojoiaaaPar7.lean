/- What the parser takes, plain. -/
import Derived.Test.YtoloneoeojoiaaaPar6
namespace Go.Proofs.Ytoloneoeojoiaaa.EParseOwn
open Go.RowKit Go.Shelf Go.Proofs.YtoloneoeojoiaaaW.PrintWords Go.Proofs.YtoloneoeojoiaaaW.PrintLast Go.Proofs.YtoloneoeojoiaaaW.PrintMore
set_option linter.unusedVariables false
set_option linter.unusedSimpArgs false
theorem obind {α β : Type} (a : α) (f : α → Option β) : (some a).bind f = f a := Eq.trans (Option.bind_some a f) (Eq.refl _)
theorem txt_app (a b : List UInt8) : txt a ++ txt b = txt (a ++ b) := by
  apply ByteArray.ext
  rw [ByteArray.data_append]
  simp [txt]
theorem lit_txt (l : List UInt8) : (⟨l.toArray⟩ : ByteArray) = txt l := rfl
theorem toks_f (s : List UInt8) (h : s.length ≤ 65536) : lex_Tokens.f (txt s) = some (toksL (s.length + 1) s 1 []) := by
  unfold lex_Tokens.f
  rw [txt_list, txt_size, if_neg (by omega)]
theorem toks_big (s : List UInt8) (h : ¬ s.length ≤ 65536) : lex_Tokens.f (txt s) = some ([], 0, 5) := by
  unfold lex_Tokens.f
  rw [txt_size, if_pos (by omega)]
theorem toksL_fuel (n : Nat) : ∀ (m : Nat) (s : List UInt8) (l : Int) (out : List S31), s.length < n → s.length < m → toksL n s l out = toksL m s l out := by
  induction n with
  | zero => intro m s l out h _; omega
  | succ n ih =>
    intro m s l out h1 h2
    obtain ⟨m, rfl⟩ : ∃ q, m = q + 1 := ⟨m - 1, by omega⟩
    rw [toksL_step, toksL_step]
    have hl := sk_len s false l
    generalize (sk false s l).1 = r at hl ⊢
    generalize (sk false s l).2 = l2
    unfold tokStep
    cases r with
    | nil => rfl
    | cons c t =>
      have hne : ¬ (c :: t = []) := by simp
      rw [if_neg hne, if_neg hne]
      by_cases he : (nextL (c :: t) l2).2.1 = 0
      · rw [if_pos he, if_pos he]
        have := next_len c t l2 he
        simp at hl
        exact ih _ _ _ _ (by omega) (by omega)
      · rw [if_neg he, if_neg he]
theorem toksL_len (n : Nat) : ∀ (s : List UInt8) (l : Int) (out : List S31), (toksL n s l out).1.length ≤ out.length + s.length := by
  induction n with
  | zero => intro s l out; simp [toksL]
  | succ n ih =>
    intro s l out
    rw [toksL_step]
    have hl := sk_len s false l
    generalize (sk false s l).1 = r at hl ⊢
    generalize (sk false s l).2 = l2
    unfold tokStep
    cases r with
    | nil => rw [if_pos rfl]; simp
    | cons c t =>
      rw [if_neg (by simp)]
      by_cases he : (nextL (c :: t) l2).2.1 = 0
      · rw [if_pos he]
        have := next_len c t l2 he
        have h2 := ih (nextL (c :: t) l2).2.2 l2 (out ++ [(nextL (c :: t) l2).1])
        simp at hl h2
        omega
      · rw [if_neg he]; simp
/-! What a step of the parser takes. -/
def lastL (n : Int) (t : List S31) : Int := t.foldl (fun _ x => x.f2) n
theorem lastL_app (n : Int) (t u : List S31) : lastL n (t ++ u) = lastL (lastL n t) u := List.foldl_append
def isRC (x : S31) : Bool := eqS x.f1 tRC
/-- What is taken: no sign of an end; or one, at its end. -/
def Shut (c : Bool) (t : List S31) : Prop := match c with
  | false => ∀ x ∈ t, isRC x = false
  | true => ∃ u x, t = u ++ [x] ∧ isRC x = true ∧ ∀ y ∈ u, isRC y = false
theorem shut_app {c : Bool} {t u : List S31} (h : Shut false t) (k : Shut c u) : Shut c (t ++ u) := by
  cases c
  · intro x hx
    rcases List.mem_append.1 hx with hx | hx
    · exact h x hx
    · exact k x hx
  · obtain ⟨v, x, rfl, hx, hv⟩ := k
    refine ⟨t ++ v, x, by simp, hx, fun y hy => ?_⟩
    rcases List.mem_append.1 hy with hy | hy
    · exact h y hy
    · exact hv y hy
/-- Is a token one that may be? -/
def Good (l : List S31) : Prop := ∀ x ∈ l, checkT x = 0
/-- A step that came to its end took just t: whatever stands behind; and of less than t it says that it is too short. -/
def Takes {α : Type} (f : St31 → Out α) (a : α) (t : List S31) : Prop := (∀ n r, f (t ++ r, n) = .inr (a, (r, lastL n t))) ∧ ∀ n p q, t = p ++ q → q ≠ [] → f (p, n) = .inl (8, ([], lastL n p))
def Pfx (c : Bool) {α : Type} (f : St31 → Out α) : Prop := ∀ l n a r m, Good l → f (l, n) = .inr (a, (r, m)) → ∃ t, l = t ++ r ∧ Takes f a t ∧ Shut c t
theorem Good.left {t r : List S31} (h : Good (t ++ r)) : Good t := fun x hx => h x (List.mem_append_left _ hx)
theorem Good.right {t r : List S31} (h : Good (t ++ r)) : Good r := fun x hx => h x (List.mem_append_right _ hx)
theorem bindO_inr {α β : Type} {o : Out α} {f : α → St31 → Out β} {b : β} {st : St31} (h : bindO o f = .inr (b, st)) : ∃ a st1, o = .inr (a, st1) ∧ f a st1 = .inr (b, st) := by
  rcases o with e | ⟨a, st1⟩
  · cases h
  · exact ⟨a, st1, rfl, h⟩
theorem Takes.bind {α β : Type} {f : St31 → Out α} {g : α → St31 → Out β} {a : α} {b : β} {t u : List S31} (h : Takes f a t) (k : Takes (g a) b u) : Takes (fun st => bindO (f st) g) b (t ++ u) := by
  refine ⟨fun n r => ?_, fun n p q e hq => ?_⟩
  · show bindO (f (t ++ u ++ r, n)) g = _
    rw [List.append_assoc, h.1, lastL_app]
    exact k.1 _ _
  · rcases List.append_eq_append_iff.1 e with ⟨v, e1, e2⟩ | ⟨v, e1, e2⟩
    · subst e1
      show bindO (f (t ++ v, n)) g = _
      rw [h.1, lastL_app]
      exact k.2 _ _ _ e2 hq
    · by_cases hv : v = []
      · subst hv
        have : t = p := by simpa using e1
        subst this
        show bindO (f (t, n)) g = _
        have h1 := h.1 n []
        rw [List.append_nil] at h1
        rw [h1]
        have h2 := k.2 (lastL n t) [] u rfl (by rw [show q = u by simpa using e2] at hq; exact hq)
        exact h2
      · show bindO (f (p, n)) g = _
        rw [h.2 n p v e1 hv]
        rfl
theorem Takes.pure {α : Type} (a : α) : Takes (fun st => (.inr (a, st) : Out α)) a [] := ⟨fun n r => rfl, fun n p q e hq => by
  have := List.append_eq_nil_iff.1 e.symm
  exact absurd this.2 hq⟩
theorem Pfx.bind {c : Bool} {α β : Type} {f : St31 → Out α} {g : α → St31 → Out β} (h : Pfx false f) (k : ∀ a, Pfx c (g a)) : Pfx c (fun st => bindO (f st) g) := by
  intro l n b r m hg e
  obtain ⟨a, ⟨r1, m1⟩, e1, e2⟩ := bindO_inr e
  obtain ⟨t, rfl, ht, hs⟩ := h l n a r1 m1 hg e1
  obtain ⟨u, rfl, hu, hs2⟩ := k a r1 m1 b r m hg.right e2
  exact ⟨t ++ u, by simp, ht.bind hu, shut_app hs hs2⟩
theorem Pfx.bindT {α β : Type} {f : St31 → Out α} {g : α → β} (h : Pfx true f) : Pfx true (fun st => bindO (f st) fun a st1 => (.inr (g a, st1) : Out β)) := by
  intro l n b r m hg e
  obtain ⟨a, ⟨r1, m1⟩, e1, e2⟩ := bindO_inr e
  obtain ⟨t, rfl, ht, hs⟩ := h l n a r1 m1 hg e1
  injection e2 with e2
  injection e2 with e2 e3
  injection e3 with e3 e4
  subst e2 e3
  refine ⟨t, rfl, ?_, hs⟩
  have := ht.bind (g := fun a st1 => (.inr (g a, st1) : Out β)) (Takes.pure (g a))
  rwa [List.append_nil] at this
theorem Pfx.pure {α : Type} (a : α) : Pfx false (fun st => (.inr (a, st) : Out α)) := by
  intro l n b r m hg e
  injection e with e
  injection e with e1 e2
  injection e2 with e2 e3
  subst e1 e2
  exact ⟨[], rfl, Takes.pure _, fun x hx => absurd hx (by simp)⟩
theorem Pfx.congr {c : Bool} {α : Type} {f g : St31 → Out α} (h : Pfx c f) (e : f = g) : Pfx c g := e ▸ h
/-- One token is asked for. -/
theorem ask_pfx {c : Bool} (p : S31 → Bool) (hp : ∀ x, checkT x = 0 → p x = true → isRC x = c) : Pfx c (fun st => askP (p (peekP st.1)) st) := by
  intro l n a r m hg e
  match l, hg, e with
  | [], hg, e => cases e
  | x :: l, hg, e =>
    have e : (if p x = true then (.inr (x.f1, (l, x.f2)) : Out ByteArray) else .inl (33, (x :: l, n))) = .inr (a, (r, m)) := e
    by_cases h : p x = true
    · rw [if_pos h] at e
      injection e with e
      injection e with e1 e2
      injection e2 with e2 e3
      subst e1 e2 e3
      have hx := hp x (hg x List.mem_cons_self) h
      refine ⟨[x], rfl, ⟨fun n r => ?_, fun n p q e hq => ?_⟩, ?_⟩
      · show (if p x = true then _ else _) = _
        rw [if_pos h]; rfl
      · match p, e with
        | [], e => rfl
        | y :: p, e =>
          injection e with e1 e2
          have := List.append_eq_nil_iff.1 e2.symm
          exact absurd this.2 hq
      · cases c
        · intro y hy
          have : y = x := by simpa using hy
          subst this
          exact hx
        · exact ⟨[], x, rfl, hx, fun y hy => absurd hy (by simp)⟩
    · rw [if_neg h] at e
      cases e
theorem eqS_eq {x y : ByteArray} (h : eqS x y = true) : x = y := by
  unfold eqS at h
  have h : x.toList = y.toList := by simpa using h
  have e : ∀ z : ByteArray, z = txt z.toList := fun z => by
    have h1 := (txt_data z).symm
    have h2 : z.toList = z.data.toList := by rw [← txt_data z, txt_toList]; simp [txt]
    rw [h2]; exact h1
  rw [e x, e y, h]
def Nil {α : Type} (f : St31 → Out α) : Prop := ∀ n, f ([], n) = .inl (8, ([], n))
theorem Nil.bind {α β : Type} {f : St31 → Out α} (h : Nil f) (g : α → St31 → Out β) : Nil (fun st => bindO (f st) g) := fun n => by
  show bindO (f ([], n)) g = _
  rw [h n]; rfl
theorem Pfx.agree {c : Bool} {α : Type} {f g : St31 → Out α} (h : Pfx c f) (hn : Nil f) (gn : Nil g) {x : S31} {l : List S31} {n m : Int} {a : α} {r : List S31} (hg : Good (x :: l)) (e : ∀ l n, g (x :: l, n) = f (x :: l, n)) (ho : g (x :: l, n) = .inr (a, (r, m))) : ∃ t, x :: l = t ++ r ∧ Takes g a t ∧ Shut c t := by
  rw [e] at ho
  obtain ⟨t, e1, ⟨t1, t2⟩, hs⟩ := h _ _ _ _ _ hg ho
  match t, e1, t1, t2, hs with
  | [], e1, t1, t2, hs =>
    have := t1 0 []
    rw [List.append_nil, hn] at this
    cases this
  | y :: t, e1, t1, t2, hs =>
    obtain ⟨rfl, e2⟩ : x = y ∧ l = t ++ r := by simpa using e1
    refine ⟨x :: t, e1, ⟨fun n r' => ?_, fun n p q ep hq => ?_⟩, hs⟩
    · have := t1 n r'
      rw [List.cons_append] at this ⊢
      rw [e]; exact this
    · match p, ep with
      | [], ep => rw [gn n]; rfl
      | z :: p, ep =>
        obtain ⟨rfl, e3⟩ : x = z ∧ t = p ++ q := by simpa using ep
        rw [e]
        exact t2 n _ _ ep hq
theorem Pfx.ite {c : Bool} {α : Type} {f g : St31 → Out α} (p : S31 → Bool) (h : Pfx c f) (k : Pfx c g) (hn : Nil f) (kn : Nil g) : Pfx c (fun st => if p (peekP st.1) = true then f st else g st) := by
  have hnil : Nil (fun st : St31 => if p (peekP st.1) = true then f st else g st) := fun n => by
    show (if _ then f ([], n) else g ([], n)) = _
    split
    · exact hn n
    · exact kn n
  intro l n a r m hg e
  match l, hg, e with
  | [], hg, e => rw [hnil n] at e; cases e
  | x :: l, hg, e =>
    by_cases hp : p x = true
    · exact h.agree (g := fun st : St31 => if p (peekP st.1) = true then f st else g st) hn hnil hg (fun l n => if_pos hp) e
    · exact k.agree (g := fun st : St31 => if p (peekP st.1) = true then f st else g st) kn hnil hg (fun l n => if_neg hp) e
theorem Nil.ite {α : Type} {f g : St31 → Out α} (p : S31 → Bool) (hn : Nil f) (kn : Nil g) : Nil (fun st => if p (peekP st.1) = true then f st else g st) := fun n => by
  show (if _ then f ([], n) else g ([], n)) = _
  split
  · exact hn n
  · exact kn n
theorem ask_nil (p : S31 → Bool) : Nil (fun st => askP (p (peekP st.1)) st) := fun n => rfl
theorem askv_pfx {α : Type} {c : Bool} (p : S31 → Bool) (v : S31 → α) (hp : ∀ x, checkT x = 0 → p x = true → isRC x = c) : Pfx c (fun st => (askP (p (peekP st.1)) st).map id (fun r => (v (peekP st.1), r.2))) := by
  intro l n a r m hg e
  match l, hg, e with
  | [], hg, e => cases e
  | x :: l, hg, e =>
    have ea : ∀ l n, askP (p x) (x :: l, n) = (if p x = true then (.inr (x.f1, (l, x.f2)) : Out ByteArray) else .inl (33, (x :: l, n))) := fun l n => rfl
    have e : (askP (p x) (x :: l, n)).map id (fun r => (v x, r.2)) = .inr (a, (r, m)) := e
    by_cases h : p x = true
    · rw [ea, if_pos h] at e
      have e : (.inr (v x, (l, x.f2)) : Out α) = .inr (a, (r, m)) := e
      injection e with e
      injection e with e1 e2
      injection e2 with e2 e3
      subst e1 e2 e3
      have hx := hp x (hg x List.mem_cons_self) h
      refine ⟨[x], rfl, ⟨fun n r => ?_, fun n p q e hq => ?_⟩, ?_⟩
      · show (askP (p x) (x :: r, n)).map id (fun r => (v x, r.2)) = _
        rw [ea, if_pos h]; rfl
      · match p, e with
        | [], e => rfl
        | y :: p, e =>
          injection e with e1 e2
          have := List.append_eq_nil_iff.1 e2.symm
          exact absurd this.2 hq
      · cases c
        · intro y hy
          have : y = x := by simpa using hy
          subst this
          exact hx
        · exact ⟨[], x, rfl, hx, fun y hy => absurd hy (by simp)⟩
    · rw [ea, if_neg h] at e
      cases e
theorem askv_nil {α : Type} (p : S31 → Bool) (v : S31 → α) : Nil (fun st => (askP (p (peekP st.1)) st).map id (fun r => (v (peekP st.1), r.2))) := fun n => rfl
theorem isRC_eq {x : S31} (h : isRC x = true) : x.f1 = tRC := eqS_eq h
theorem rc_false {x : S31} (h : isRC x = true → False) : isRC x = false := by
  cases e : isRC x
  · rfl
  · exact (h e).elim
theorem name_pfx : Pfx false nameP := ask_pfx (fun x => nameB x.f1) fun x _ h => rc_false fun e => by
  rw [isRC_eq e] at h
  exact absurd h (by decide +kernel)
theorem name_nil : Nil nameP := fun n => rfl
theorem sign_pfx (y : ByteArray) (hy : eqS y tRC = false) : Pfx false (signP y) := ask_pfx (fun x => eqS x.f1 y) fun x _ h => rc_false fun e => by
  have h := eqS_eq h
  rw [← h, isRC_eq e] at hy
  exact absurd hy (by decide +kernel)
theorem sign_rc : Pfx true (signP tRC) := ask_pfx (fun x => eqS x.f1 tRC) fun x _ h => h
theorem sign_nil (y : ByteArray) : Nil (signP y) := fun n => rfl
theorem checkT_rc (l : Int) : checkT ⟨2, tRC, l⟩ ≠ 0 := by
  have h : tokF tRC = ([⟨3, tRC, 1⟩], 0, 0) := by kernel_rfl
  unfold checkT
  rw [h]
  simp [isTok, rd_T31]
theorem number_pfx : Pfx false numberP := askv_pfx (fun x => x.f0 == 2) (fun x => (numT x).1) fun x hc h => rc_false fun e => by
  have h0 : x.f0 = 2 := by simpa using h
  have h1 := isRC_eq e
  obtain ⟨a, b, c⟩ := x
  simp only at h0 h1
  subst h0 h1
  exact checkT_rc c hc
theorem number_nil : Nil numberP := fun n => rfl
theorem Pfx.never {c : Bool} {α : Type} {f : St31 → Out α} (h : ∀ st q, f st ≠ .inr q) : Pfx c f := fun l n a r m _ e => absurd e (h _ _)
/-- A type, in steps. -/
def typedQ (k : Nat) (st : St31) : Out S50 :=
  if decide (plainP (peekP st.1).f1 > 0) = true then (askP (decide (plainP (peekP st.1).f1 > 0)) st).map id (fun r => ((⟨plainP (peekP st.1).f1, ⟨#[]⟩, []⟩ : S50), r.2))
  else if eqS (peekP st.1).f1 tLB = true then bindO (signP tLB st) fun _ st1 => bindO (typedP k st1) fun x st2 => bindO (signP tRB st2) fun _ st3 => .inr (⟨6, ⟨#[]⟩, [x]⟩, st3)
  else if eqS (peekP st.1).f1 tQ = true then bindO (signP tQ st) fun _ st1 => bindO (typedP k st1) fun x st2 => .inr (⟨7, ⟨#[]⟩, [x]⟩, st2)
  else bindO (nameP st) fun a st1 => .inr (⟨8, a, []⟩, st1)
theorem typed_eq (k : Nat) (st : St31) : typedP (k + 1) st = typedQ k st := by
  obtain ⟨l, n⟩ := st
  cases l with
  | nil =>
    unfold typedQ
    rw [if_neg (by show ¬ decide (plainP (⟨#[]⟩ : ByteArray) > 0) = true; decide +kernel), if_neg (by show ¬ eqS (⟨#[]⟩ : ByteArray) tLB = true; decide +kernel), if_neg (by show ¬ eqS (⟨#[]⟩ : ByteArray) tQ = true; decide +kernel)]
    rfl
  | cons t r =>
    rw [typedP_cons]
    unfold typedQ
    show _ = (if decide (plainP t.f1 > 0) = true then _ else if eqS t.f1 tLB = true then _ else if eqS t.f1 tQ = true then _ else _)
    by_cases h0 : plainP t.f1 > 0
    · rw [if_pos h0, if_pos (decide_eq_true h0)]
      show _ = (askP (decide (plainP t.f1 > 0)) (t :: r, n)).map id _
      rw [decide_eq_true h0]; rfl
    · rw [if_neg h0, if_neg (show ¬ decide (plainP t.f1 > 0) = true from by rw [decide_eq_true_eq]; exact h0)]
      by_cases h1 : eqS t.f1 tLB = true
      · rw [if_pos h1, if_pos h1]
        have : signP tLB (t :: r, n) = .inr (t.f1, (r, t.f2)) := by
          show askP (eqS t.f1 tLB) (t :: r, n) = _
          rw [h1]; rfl
        rw [this]
        show _ = bindO (typedP k (r, t.f2)) _
        rcases typedP k (r, t.f2) with e | ⟨x, st2⟩
        · rfl
        · show (signP tRB st2).map id _ = bindO (signP tRB st2) _
          rcases signP tRB st2 with e | ⟨q, st3⟩ <;> rfl
      · rw [if_neg h1, if_neg h1]
        by_cases h2 : eqS t.f1 tQ = true
        · rw [if_pos h2, if_pos h2]
          have : signP tQ (t :: r, n) = .inr (t.f1, (r, t.f2)) := by
            show askP (eqS t.f1 tQ) (t :: r, n) = _
            rw [h2]; rfl
          rw [this]
          show _ = bindO (typedP k (r, t.f2)) _
          rcases typedP k (r, t.f2) with e | ⟨x, st2⟩ <;> rfl
        · rw [if_neg h2, if_neg h2]
          rcases nameP (t :: r, n) with e | ⟨x, st2⟩ <;> rfl
theorem typed_pfx : ∀ k, Pfx false (typedP k)
  | 0 => Pfx.never fun st q => by
    obtain ⟨l, n⟩ := st
    cases l <;> exact fun h => by cases h
  | k + 1 => by
    have ih := typed_pfx k
    have : typedP (k + 1) = typedQ k := funext (typed_eq k)
    rw [this]
    have ha : Pfx false (fun st : St31 => (askP (decide (plainP (peekP st.1).f1 > 0)) st).map id (fun r => ((⟨plainP (peekP st.1).f1, ⟨#[]⟩, []⟩ : S50), r.2))) := askv_pfx (fun x => decide (plainP x.f1 > 0)) (fun x => (⟨plainP x.f1, ⟨#[]⟩, []⟩ : S50)) fun x _ h => rc_false fun e => by
      rw [isRC_eq e] at h
      exact absurd h (by decide +kernel)
    refine Pfx.ite (fun x => decide (plainP x.f1 > 0)) ha (Pfx.ite (fun x => eqS x.f1 tLB) ?_ (Pfx.ite (fun x => eqS x.f1 tQ) ?_ ?_ ?_ ?_) ?_ (Nil.ite (fun x => eqS x.f1 tQ) ?_ ?_)) (fun n => rfl) (Nil.ite (fun x => eqS x.f1 tLB) ?_ (Nil.ite (fun x => eqS x.f1 tQ) ?_ ?_))
    · exact (sign_pfx tLB (by decide +kernel)).bind fun _ => ih.bind fun x => (sign_pfx tRB (by decide +kernel)).bind fun _ => Pfx.pure _
    · exact (sign_pfx tQ (by decide +kernel)).bind fun _ => ih.bind fun x => Pfx.pure _
    · exact name_pfx.bind fun a => Pfx.pure _
    · exact (sign_nil tQ).bind _
    · exact name_nil.bind _
    · exact (sign_nil tLB).bind _
    · exact (sign_nil tQ).bind _
    · exact name_nil.bind _
    · exact (sign_nil tLB).bind _
    · exact (sign_nil tQ).bind _
    · exact name_nil.bind _
theorem enum1_pfx : Pfx false enum1P := number_pfx.bind fun n => name_pfx.bind fun a => (sign_pfx tSC (by decide +kernel)).bind fun _ => Pfx.pure _
theorem struct1_pfx : Pfx false struct1P := number_pfx.bind fun n => name_pfx.bind fun a => (sign_pfx tCO (by decide +kernel)).bind fun _ => (typed_pfx 8).bind fun ty => (sign_pfx tSC (by decide +kernel)).bind fun _ => Pfx.pure _
theorem svc1_pfx : Pfx false svc1P := (ask_pfx (fun x => eqS x.f1 tOnce || eqS x.f1 tRead) fun x _ h => rc_false fun e => by
  rw [isRC_eq e] at h
  exact absurd h (by decide +kernel)).bind fun k => name_pfx.bind fun a => (sign_pfx tLP (by decide +kernel)).bind fun _ => (typed_pfx 8).bind fun x => (sign_pfx tRP (by decide +kernel)).bind fun _ => (typed_pfx 8).bind fun y => (sign_pfx tSC (by decide +kernel)).bind fun _ => Pfx.pure _
theorem enum1_nil : Nil enum1P := number_nil.bind _
theorem struct1_nil : Nil struct1P := number_nil.bind _
theorem svc1_nil : Nil svc1P := fun n => rfl
theorem parts_pfx {α : Type} {one : St31 → Out α} (h : Pfx false one) (hn : Nil one) : ∀ m, Pfx true (partsP one m)
  | 0 => Pfx.ite (fun x => isRC x) (sign_rc.bindT (g := fun _ => [])) (g := fun st : St31 => if st.1.length = 0 then bindO (one st) fun _ st1 => .inl (3, st1) else .inl (3, st)) (Pfx.never fun st q => by
      show (if _ then _ else _) ≠ _
      split
      · rcases one st with e | ⟨a, st1⟩ <;> exact fun h => by cases h
      · exact fun h => by cases h) ((sign_nil tRC).bind _) (fun n => by
        show bindO (one ([], n)) _ = _
        rw [hn]; rfl)
  | m + 1 => Pfx.ite (fun x => isRC x) (sign_rc.bindT (g := fun _ => [])) (h.bind fun a => (parts_pfx h hn m).bindT (g := fun l => a :: l)) ((sign_nil tRC).bind _) (hn.bind _)
theorem block_pfx {α : Type} {one : St31 → Out α} (h : Pfx false one) (hn : Nil one) : Pfx true (blockP one) := name_pfx.bind fun a => (sign_pfx tLC (by decide +kernel)).bind fun _ => (parts_pfx h hn 32).bindT (g := fun l => (a, l))
theorem decl_pfx : Pfx true declP := by
  refine (ask_pfx (c := false) (fun x => wordB x.f1) fun x _ h => rc_false fun e => ?_).bind fun k => ?_
  · rw [isRC_eq e] at h
    exact absurd h (by decide +kernel)
  · by_cases h1 : eqS k tStruct = true
    · simp only [h1, if_true]
      exact (block_pfx struct1_pfx struct1_nil).bindT (g := fun x => DeclT.s x.1 x.2)
    · by_cases h2 : eqS k tEnum = true
      · simp only [h1, h2, if_true, if_false, Bool.false_eq_true]
        exact (block_pfx enum1_pfx enum1_nil).bindT (g := fun x => DeclT.e x.1 x.2)
      · simp only [h1, h2, if_false, Bool.false_eq_true]
        exact (block_pfx svc1_pfx svc1_nil).bindT (g := fun x => DeclT.v x.1 x.2)
theorem decl_nil : Nil declP := fun n => rfl
/-- The declarations of tokens that were cut off. -/
theorem decls_cut : ∀ (m : Nat) (l : List S31) (n : Int) (d : List DeclT) (r : List S31) (k : Int), Good l → declsP m (l, n) = .inr (d, (r, k)) → r = [] ∧ ∀ p q, l = p ++ q → (if (p.getLast?.map isRC).getD true = true then ∃ d', declsP m (p, n) = .inr (d', ([], lastL n p)) ∧ d'.length ≤ d.length ∧ d' = d.take d'.length else declsP m (p, n) = .inl (8, ([], lastL n p)))
  | 0, l, n, d, r, k, hg, e => by
    unfold declsP at e
    match l, e with
    | [], e =>
      have e : (.inr ([], (([] : List S31), n)) : Out (List DeclT)) = .inr (d, (r, k)) := e
      injection e with e
      injection e with e1 e2
      injection e2 with e2 e3
      subst e1 e2
      refine ⟨rfl, fun p q h => ?_⟩
      have hp := (List.append_eq_nil_iff.1 h.symm).1
      subst hp
      exact ⟨[], rfl, Nat.le_refl _, rfl⟩
    | x :: l, e =>
      rw [if_neg (by simp)] at e
      cases e
  | m + 1, l, n, d, r, k, hg, e => by
    unfold declsP at e
    match l, hg, e with
    | [], hg, e =>
      have e : (.inr ([], (([] : List S31), n)) : Out (List DeclT)) = .inr (d, (r, k)) := e
      injection e with e
      injection e with e1 e2
      injection e2 with e2 e3
      subst e1 e2
      refine ⟨rfl, fun p q h => ?_⟩
      have hp := (List.append_eq_nil_iff.1 h.symm).1
      subst hp
      exact ⟨[], rfl, Nat.le_refl _, rfl⟩
    | x :: l, hg, e =>
      rw [if_neg (by simp)] at e
      obtain ⟨d1, ⟨r1, k1⟩, e1, e2⟩ := bindO_inr e
      obtain ⟨d2, ⟨r2, k2⟩, e3, e4⟩ := bindO_inr e2
      injection e4 with e4
      injection e4 with e4 e5
      injection e5 with e5 e6
      subst e4 e5 e6
      obtain ⟨t, et, ⟨t1, t2⟩, u, y, eu, hy, hu⟩ := decl_pfx _ _ _ _ _ hg e1
      rw [et] at hg
      obtain ⟨h1, h2⟩ := decls_cut m r1 k1 d2 _ _ hg.right e3
      refine ⟨h1, fun p q ep => ?_⟩
      rw [ep] at et
      have hk1 : k1 = lastL n t := by
        have := t1 n r1
        have e1 : declP (t ++ r1, n) = .inr (d1, (r1, k1)) := by rw [← et, ← ep]; exact e1
        rw [e1] at this
        injection this with this
        injection this with _ this
        injection this
      rcases List.append_eq_append_iff.1 et with ⟨v, e7, e8⟩ | ⟨v, e7, e8⟩
      · -- p is a beginning of the first
        by_cases hv : v = []
        · subst hv
          have e7 : t = p := by simpa using e7
          subst e7
          rw [eu, if_pos (by simp [hy])]
          refine ⟨[d1], ?_, by simp, by simp⟩
          unfold declsP
          rw [if_neg (by simp)]
          have := t1 n []
          rw [List.append_nil, eu] at this
          show bindO (declP (u ++ [y], n)) _ = _
          rw [this]
          show bindO (declsP m ([], lastL n (u ++ [y]))) _ = _
          have hz : ∀ m n, declsP m ([], n) = .inr ([], ([], n)) := fun m n => by cases m <;> rfl
          rw [hz]; rfl
        · match p, e7 with
          | [], e7 =>
            refine ⟨[], ?_, Nat.zero_le _, rfl⟩
            rfl
          | z :: p, e7 =>
            have hlast : ((z :: p).getLast?.map isRC).getD true = false := by
              rw [List.getLast?_eq_some_getLast (by simp)]
              simp only [Option.map_some, Option.getD_some]
              refine hu _ ?_
              rw [eu, ← List.dropLast_concat_getLast hv, ← List.append_assoc] at e7
              have e9 := (List.append_inj' e7 rfl).1
              rw [e9]
              exact List.mem_append_left _ (List.getLast_mem _)
            rw [hlast, if_neg (by decide)]
            unfold declsP
            rw [if_neg (by simp)]
            show bindO (declP (z :: p, n)) _ = _
            have e7 : t = (z :: p) ++ v := e7
            rw [t2 n (z :: p) v e7 hv]
            rfl
      · -- p goes beyond it
        subst e7
        have hne : ¬ (t ++ v).length = 0 := by rw [eu]; simp
        have hl : ((t ++ v).getLast?.map isRC).getD true = (v.getLast?.map isRC).getD true := by
          cases v with
          | nil => rw [List.append_nil, eu]; simp [hy]
          | cons z v => rw [List.getLast?_append, List.getLast?_eq_some_getLast (show z :: v ≠ [] by simp)]; rfl
        have h3 := h2 v q e8
        rw [hk1] at h3
        have h4 : ∀ m, declsP (m + 1) (t ++ v, n) = bindO (declsP m (v, lastL n t)) fun l st2 => .inr (d1 :: l, st2) := fun m => by
          show (if (t ++ v).length = 0 then _ else _) = _
          rw [if_neg hne]
          show bindO (declP (t ++ v, n)) _ = _
          rw [t1 n v]; rfl
        rw [hl, h4, lastL_app]
        by_cases hz : (v.getLast?.map isRC).getD true = true
        · rw [if_pos hz] at h3 ⊢
          obtain ⟨d', e9, e10, e11⟩ := h3
          rw [e9]
          exact ⟨d1 :: d', rfl, by simpa using e10, by rw [List.length_cons, List.take_succ_cons, ← e11]⟩
        · rw [if_neg hz] at h3 ⊢
          rw [h3]; rfl
/-! The lines do not matter. -/
def simT (x y : S31) : Prop := x.f0 = y.f0 ∧ x.f1 = y.f1
inductive Sim : List S31 → List S31 → Prop
  | nil : Sim [] []
  | cons {x y : S31} {l k : List S31} : simT x y → checkT x = 0 → checkT y = 0 → Sim l k → Sim (x :: l) (y :: k)
def OSim {α : Type} : Out α → Out α → Prop
  | .inl e, .inl e' => e.1 = e'.1
  | .inr q, .inr q' => q.1 = q'.1 ∧ Sim q.2.1 q'.2.1
  | _, _ => False
def Lin {α : Type} (f : St31 → Out α) : Prop := ∀ l k n m, Sim l k → OSim (f (l, n)) (f (k, m))
theorem Lin.bind {α β : Type} {f : St31 → Out α} {g : α → St31 → Out β} (h : Lin f) (k : ∀ a, Lin (g a)) : Lin (fun st => bindO (f st) g) := by
  intro l l' n m hs
  have := h l l' n m hs
  show OSim (bindO (f (l, n)) g) (bindO (f (l', m)) g)
  rcases e1 : f (l, n) with c | ⟨a, st⟩ <;> rcases e2 : f (l', m) with c' | ⟨a', st'⟩ <;> rw [e1, e2] at this
  · exact this
  · exact this.elim
  · exact this.elim
  · obtain ⟨h1, h2⟩ := this
    have h1 : a = a' := h1
    subst h1
    exact k a _ _ _ _ h2
theorem Lin.pure {α : Type} (a : α) : Lin (fun st => (.inr (a, st) : Out α)) := fun l k n m hs => ⟨rfl, hs⟩
theorem Lin.ite {α : Type} {f g : St31 → Out α} (p : S31 → Bool) (hp : ∀ x y, simT x y → checkT x = 0 → checkT y = 0 → p x = p y) (h : Lin f) (k : Lin g) : Lin (fun st => if p (peekP st.1) = true then f st else g st) := by
  intro l l' n m hs
  have e : p (peekP l) = p (peekP l') := by
    cases hs with
    | nil => rfl
    | cons a b c d => exact hp _ _ a b c
  show OSim (if p (peekP l) = true then f (l, n) else g (l, n)) (if p (peekP l') = true then f (l', m) else g (l', m))
  rw [e]
  split
  · exact h _ _ _ _ hs
  · exact k _ _ _ _ hs
theorem askv_lin {α : Type} (p : S31 → Bool) (v : S31 → α) (hp : ∀ x y, simT x y → checkT x = 0 → checkT y = 0 → p x = p y) (hv : ∀ x y, simT x y → checkT x = 0 → checkT y = 0 → v x = v y) : Lin (fun st => (askP (p (peekP st.1)) st).map id (fun r => (v (peekP st.1), r.2))) := by
  intro l l' n m hs
  cases hs with
  | nil => rfl
  | @cons x y l k a b c d =>
    show OSim ((askP (p x) (x :: l, n)).map id fun r => (v x, r.2)) ((askP (p y) (y :: k, m)).map id fun r => (v y, r.2))
    rw [hp x y a b c]
    cases p y
    · exact (rfl : (33 : Int) = 33)
    · exact ⟨hv x y a b c, d⟩
theorem ask_lin (p : S31 → Bool) (hp : ∀ x y, simT x y → p x = p y) : Lin (fun st => askP (p (peekP st.1)) st) := by
  intro l l' n m hs
  cases hs with
  | nil => rfl
  | @cons x y l k a b c d =>
    show OSim (askP (p x) (x :: l, n)) (askP (p y) (y :: k, m))
    rw [hp x y a]
    cases p y
    · exact (rfl : (33 : Int) = 33)
    · exact ⟨a.2, d⟩
theorem name_lin : Lin nameP := ask_lin (fun x => nameB x.f1) fun x y h => by rw [h.2]
theorem sign_lin (z : ByteArray) : Lin (signP z) := ask_lin (fun x => eqS x.f1 z) fun x y h => by rw [h.2]
theorem number_lin : Lin numberP := askv_lin (fun x => x.f0 == 2) (fun x => (numT x).1) (fun x y h _ _ => by rw [h.1]) fun x y h hx hy => by
  unfold numT
  rw [if_pos hx, if_pos hy, h.1, h.2]
theorem typed_lin : ∀ k, Lin (typedP k)
  | 0 => fun l k n m hs => by
    cases hs with
    | nil => exact (rfl : (8 : Int) = 8)
    | cons a b c d => exact (rfl : (42 : Int) = 42)
  | k + 1 => by
    have ih := typed_lin k
    have : typedP (k + 1) = typedQ k := funext (typed_eq k)
    rw [this]
    exact Lin.ite (fun x => decide (plainP x.f1 > 0)) (fun x y h _ _ => by rw [h.2]) (askv_lin (fun x => decide (plainP x.f1 > 0)) (fun x => (⟨plainP x.f1, ⟨#[]⟩, []⟩ : S50)) (fun x y h _ _ => by rw [h.2]) (fun x y h _ _ => by rw [h.2]))
      (Lin.ite (fun x => eqS x.f1 tLB) (fun x y h _ _ => by rw [h.2]) ((sign_lin tLB).bind fun _ => ih.bind fun x => (sign_lin tRB).bind fun _ => Lin.pure _)
      (Lin.ite (fun x => eqS x.f1 tQ) (fun x y h _ _ => by rw [h.2]) ((sign_lin tQ).bind fun _ => ih.bind fun x => Lin.pure _) (name_lin.bind fun a => Lin.pure _)))
theorem enum1_lin : Lin enum1P := number_lin.bind fun n => name_lin.bind fun a => (sign_lin tSC).bind fun _ => Lin.pure _
theorem struct1_lin : Lin struct1P := number_lin.bind fun n => name_lin.bind fun a => (sign_lin tCO).bind fun _ => (typed_lin 8).bind fun ty => (sign_lin tSC).bind fun _ => Lin.pure _
theorem svc1_lin : Lin svc1P := (ask_lin (fun x => eqS x.f1 tOnce || eqS x.f1 tRead) fun x y h => by rw [h.2]).bind fun k => name_lin.bind fun a => (sign_lin tLP).bind fun _ => (typed_lin 8).bind fun x => (sign_lin tRP).bind fun _ => (typed_lin 8).bind fun y => (sign_lin tSC).bind fun _ => Lin.pure _
theorem Sim.len {l k : List S31} (h : Sim l k) : l.length = k.length := by
  induction h with
  | nil => rfl
  | cons a b c d ih => simp [ih]
theorem parts_lin {α : Type} {one : St31 → Out α} (h : Lin one) : ∀ m, Lin (partsP one m)
  | 0 => Lin.ite (fun x => isRC x) (fun x y h _ _ => by unfold isRC; rw [h.2]) ((sign_lin tRC).bind fun _ => Lin.pure _) (g := fun st : St31 => if st.1.length = 0 then bindO (one st) fun _ st1 => .inl (3, st1) else .inl (3, st)) (by
      intro l k n m hs
      show OSim (if l.length = 0 then _ else _) (if k.length = 0 then _ else _)
      rw [hs.len]
      split
      · exact (h.bind (g := fun _ st1 => .inl (3, st1)) fun a l k n m hs => (rfl : (3 : Int) = 3)) l k n m hs
      · exact (rfl : (3 : Int) = 3))
  | m + 1 => Lin.ite (fun x => isRC x) (fun x y h _ _ => by unfold isRC; rw [h.2]) ((sign_lin tRC).bind fun _ => Lin.pure _) (h.bind fun a => (parts_lin h m).bind fun l => Lin.pure _)
theorem block_lin {α : Type} {one : St31 → Out α} (h : Lin one) : Lin (blockP one) := name_lin.bind fun a => (sign_lin tLC).bind fun _ => (parts_lin h 32).bind fun l => Lin.pure _
theorem decl_lin : Lin declP := by
  refine (ask_lin (fun x => wordB x.f1) fun x y h => by rw [h.2]).bind fun k => ?_
  by_cases h1 : eqS k tStruct = true
  · simp only [h1, if_true]
    exact (block_lin struct1_lin).bind fun _ => Lin.pure _
  · by_cases h2 : eqS k tEnum = true
    · simp only [h1, h2, if_true, if_false, Bool.false_eq_true]
      exact (block_lin enum1_lin).bind fun _ => Lin.pure _
    · simp only [h1, h2, if_false, Bool.false_eq_true]
      exact (block_lin svc1_lin).bind fun _ => Lin.pure _
theorem decls_lin : ∀ m, Lin (declsP m)
  | 0 => fun l k n m hs => by
    show OSim (if l.length = 0 then _ else _) (if k.length = 0 then _ else _)
    rw [hs.len]
    split
    · exact ⟨rfl, hs⟩
    · exact (rfl : (3 : Int) = 3)
  | m + 1 => fun l k n n' hs => by
    show OSim (if l.length = 0 then _ else _) (if k.length = 0 then _ else _)
    rw [hs.len]
    split
    · exact ⟨rfl, hs⟩
    · exact (decl_lin.bind (g := fun d st1 => bindO (declsP m st1) fun l st2 => .inr (d :: l, st2)) fun d => (decls_lin m).bind fun l => Lin.pure _) l k n n' hs
theorem decls_less : ∀ (m m' : Nat) (st : St31) (d : List DeclT) (st' : St31), declsP m st = .inr (d, st') → declsP m' st = .inr (d, st') ∨ ∃ q, declsP m' st = .inl (3, q)
  | 0, m', (l, n), d, st', h => by
    unfold declsP at h
    cases l with
    | nil => left; cases m' <;> exact h
    | cons x l => rw [if_neg (by simp)] at h; cases h
  | m + 1, m', (l, n), d, st', h => by
    unfold declsP at h
    cases l with
    | nil => left; cases m' <;> exact h
    | cons x l =>
      rw [if_neg (by simp)] at h
      obtain ⟨d1, st1, e1, e2⟩ := bindO_inr h
      obtain ⟨d2, st2, e3, e4⟩ := bindO_inr e2
      cases m' with
      | zero => exact .inr ⟨_, rfl⟩
      | succ m' =>
        have e5 : declsP (m' + 1) (x :: l, n) = bindO (declsP m' st1) fun l st2 => .inr (d1 :: l, st2) := by
          show (if (x :: l).length = 0 then _ else _) = _
          rw [if_neg (by simp), e1]; rfl
        rw [e5]
        rcases decls_less m m' st1 d2 st2 e3 with h | ⟨q, h⟩
        · rw [h]; exact .inl e4
        · rw [h]; exact .inr ⟨q, rfl⟩
theorem decls_join : ∀ (m : Nat) (l : List S31) (n : Int) (d : List DeclT) (st : St31), Good l → declsP m (l, n) = .inr (d, st) → d.length ≤ m ∧ ∀ r, declsP m (l ++ r, n) = bindO (declsP (m - d.length) (r, lastL n l)) fun e st => .inr (d ++ e, st)
  | m, [], n, d, st, hg, h => by
    have : d = [] := by
      cases m <;> (have h : (.inr ([], (([] : List S31), n)) : Out (List DeclT)) = .inr (d, st) := h; injection h with h; injection h with h; exact h.symm)
    subst this
    refine ⟨Nat.zero_le _, fun r => ?_⟩
    show declsP m (r, n) = bindO (declsP m (r, n)) fun e st => .inr (e, st)
    rcases declsP m (r, n) with c | ⟨a, b⟩ <;> rfl
  | 0, x :: l, n, d, st, hg, h => by
    unfold declsP at h
    rw [if_neg (by simp)] at h; cases h
  | m + 1, x :: l, n, d, st, hg, h => by
    unfold declsP at h
    rw [if_neg (by simp)] at h
    obtain ⟨d1, ⟨r1, k1⟩, e1, e2⟩ := bindO_inr h
    obtain ⟨d2, st2, e3, e4⟩ := bindO_inr e2
    injection e4 with e4
    injection e4 with e4 e5
    subst e4 e5
    obtain ⟨t, et, ⟨t1, t2⟩, u, y, eu, hy, hu⟩ := decl_pfx _ _ _ _ _ hg e1
    have hk1 : k1 = lastL n t := by
      have := t1 n r1
      rw [← et, e1] at this
      injection this with this
      injection this with _ this
      injection this
    rw [et] at hg ⊢
    obtain ⟨h1, h2⟩ := decls_join m r1 k1 d2 st2 hg.right e3
    refine ⟨by simpa using h1, fun r => ?_⟩
    have hne : ¬ (t ++ r1 ++ r).length = 0 := by rw [eu]; simp
    show (if (t ++ r1 ++ r).length = 0 then _ else _) = _
    rw [if_neg hne]
    show bindO (declP (t ++ r1 ++ r, n)) _ = _
    rw [List.append_assoc, t1 n (r1 ++ r)]
    show bindO (declsP m (r1 ++ r, lastL n t)) _ = _
    rw [← hk1, h2 r, lastL_app, ← hk1, List.length_cons, Nat.add_sub_add_right]
    rcases declsP (m - d2.length) (r, lastL k1 r1) with c | ⟨a, b⟩ <;> rfl
/-! No error is 0. -/
def NZ {α : Type} (f : St31 → Out α) : Prop := ∀ st c st', f st = .inl (c, st') → c ≠ 0
theorem NZ.bind {α β : Type} {f : St31 → Out α} {g : α → St31 → Out β} (h : NZ f) (k : ∀ a, NZ (g a)) : NZ (fun st => bindO (f st) g) := by
  intro st c st' e
  have e : bindO (f st) g = .inl (c, st') := e
  rcases hf : f st with ⟨c1, st1⟩ | ⟨a, st1⟩
  · rw [hf] at e
    have e : (.inl (c1, st1) : Out β) = .inl (c, st') := e
    injection e with e
    injection e with e1 e2
    subst e1
    exact h _ _ _ hf
  · rw [hf] at e
    exact k a _ _ _ e
theorem NZ.pure {α : Type} (a : α) : NZ (fun st => (.inr (a, st) : Out α)) := fun st c st' e => by cases e
theorem NZ.ite {α : Type} {f g : St31 → Out α} (p : S31 → Bool) (h : NZ f) (k : NZ g) : NZ (fun st => if p (peekP st.1) = true then f st else g st) := by
  intro st c st' e
  have e : (if p (peekP st.1) = true then f st else g st) = .inl (c, st') := e
  by_cases hp : p (peekP st.1) = true
  · rw [if_pos hp] at e; exact h _ _ _ e
  · rw [if_neg hp] at e; exact k _ _ _ e
theorem ask_nz (p : St31 → Bool) : NZ (fun st => askP (p st) st) := by
  intro st c st' e
  obtain ⟨l, n⟩ := st
  cases l with
  | nil =>
    have e : (.inl (8, ([], n)) : Out ByteArray) = .inl (c, st') := e
    injection e with e
    injection e with e1 e2
    subst e1; decide
  | cons t r =>
    have e : (if p (t :: r, n) = true then (.inr (t.f1, (r, t.f2)) : Out ByteArray) else .inl (33, (t :: r, n))) = .inl (c, st') := e
    split at e
    · cases e
    · injection e with e
      injection e with e1 e2
      subst e1; decide
theorem NZ.map {α β : Type} {f : St31 → Out α} (h : NZ f) (g : α × St31 → St31 → β × St31) : NZ (fun st => (f st).map id (fun q => g q st)) := by
  intro st c st' e
  have e : (f st).map id (fun q => g q st) = .inl (c, st') := e
  rcases hf : f st with ⟨c1, st1⟩ | ⟨a, st1⟩
  · rw [hf] at e
    have e : (.inl (c1, st1) : Out β) = .inl (c, st') := e
    injection e with e
    injection e with e1 e2
    subst e1
    exact h _ _ _ hf
  · rw [hf] at e
    cases e
theorem name_nz : NZ nameP := ask_nz fun st => nameB (peekP st.1).f1
theorem sign_nz (x : ByteArray) : NZ (signP x) := ask_nz fun st => eqS (peekP st.1).f1 x
theorem number_nz : NZ numberP := (ask_nz fun st => (peekP st.1).f0 == 2).map fun r st => ((numT (peekP st.1)).1, r.2)
theorem typed_nz : ∀ k, NZ (typedP k)
  | 0 => fun st c st' e => by
    obtain ⟨l, n⟩ := st
    cases l
    · have e : (.inl (8, ([], n)) : Out S50) = .inl (c, st') := e
      injection e with e
      injection e with e1 e2
      subst e1; decide
    · rename_i t r
      have e : (.inl (42, (t :: r, n)) : Out S50) = .inl (c, st') := e
      injection e with e
      injection e with e1 e2
      subst e1; decide
  | k + 1 => by
    have ih := typed_nz k
    have : typedP (k + 1) = typedQ k := funext (typed_eq k)
    rw [this]
    exact NZ.ite (fun x => decide (plainP x.f1 > 0)) ((ask_nz fun st => decide (plainP (peekP st.1).f1 > 0)).map fun r st => ((⟨plainP (peekP st.1).f1, ⟨#[]⟩, []⟩ : S50), r.2))
      (NZ.ite (fun x => eqS x.f1 tLB) ((sign_nz tLB).bind fun _ => ih.bind fun x => (sign_nz tRB).bind fun _ => NZ.pure _)
      (NZ.ite (fun x => eqS x.f1 tQ) ((sign_nz tQ).bind fun _ => ih.bind fun x => NZ.pure _) (name_nz.bind fun a => NZ.pure _)))
theorem three_nz {α : Type} : NZ (fun st => (.inl (3, st) : Out α)) := fun st c st' e => by
  have e : (.inl (3, st) : Out α) = .inl (c, st') := e
  injection e with e
  injection e with e1 e2
  subst e1; decide
theorem parts_nz {α : Type} {one : St31 → Out α} (h : NZ one) : ∀ m, NZ (partsP one m)
  | 0 => NZ.ite (fun x => isRC x) ((sign_nz tRC).bind fun _ => NZ.pure _) (g := fun st : St31 => if st.1.length = 0 then bindO (one st) fun _ st1 => .inl (3, st1) else .inl (3, st)) (by
      intro st c st' e
      have e : (if st.1.length = 0 then bindO (one st) fun _ st1 => .inl (3, st1) else .inl (3, st)) = .inl (c, st') := e
      split at e
      · exact (h.bind fun _ => three_nz) _ _ _ e
      · exact three_nz _ _ _ e)
  | m + 1 => NZ.ite (fun x => isRC x) ((sign_nz tRC).bind fun _ => NZ.pure _) (h.bind fun a => (parts_nz h m).bind fun l => NZ.pure _)
theorem block_nz {α : Type} {one : St31 → Out α} (h : NZ one) : NZ (blockP one) := name_nz.bind fun a => (sign_nz tLC).bind fun _ => (parts_nz h 32).bind fun l => NZ.pure _
theorem enum1_nz : NZ enum1P := number_nz.bind fun n => name_nz.bind fun a => (sign_nz tSC).bind fun _ => NZ.pure _
theorem struct1_nz : NZ struct1P := number_nz.bind fun n => name_nz.bind fun a => (sign_nz tCO).bind fun _ => (typed_nz 8).bind fun ty => (sign_nz tSC).bind fun _ => NZ.pure _
theorem svc1_nz : NZ svc1P := (ask_nz fun st => eqS (peekP st.1).f1 tOnce || eqS (peekP st.1).f1 tRead).bind fun k => name_nz.bind fun a => (sign_nz tLP).bind fun _ => (typed_nz 8).bind fun x => (sign_nz tRP).bind fun _ => (typed_nz 8).bind fun y => (sign_nz tSC).bind fun _ => NZ.pure _
theorem decl_nz : NZ declP := by
  refine (ask_nz fun st => wordB (peekP st.1).f1).bind fun k => ?_
  by_cases h1 : eqS k tStruct = true
  · simp only [h1, if_true]
    exact (block_nz struct1_nz).bind fun _ => NZ.pure _
  · by_cases h2 : eqS k tEnum = true
    · simp only [h1, h2, if_true, if_false, Bool.false_eq_true]
      exact (block_nz enum1_nz).bind fun _ => NZ.pure _
    · simp only [h1, h2, if_false, Bool.false_eq_true]
      exact (block_nz svc1_nz).bind fun _ => NZ.pure _
theorem decls_nz : ∀ m, NZ (declsP m)
  | 0 => fun st c st' e => by
    have e : (if st.1.length = 0 then (.inr ([], st) : Out (List DeclT)) else .inl (3, st)) = .inl (c, st') := e
    split at e
    · cases e
    · exact three_nz _ _ _ e
  | m + 1 => fun st c st' e => by
    have e : (if st.1.length = 0 then (.inr ([], st) : Out (List DeclT)) else bindO (declP st) fun d st1 => bindO (declsP m st1) fun l st2 => .inr (d :: l, st2)) = .inl (c, st') := e
    split at e
    · cases e
    · exact (decl_nz.bind fun d => (decls_nz m).bind fun l => NZ.pure _) _ _ _ e
theorem badT_none : ∀ l, badT l = none → Good l
  | [], _ => fun x hx => absurd hx (by simp)
  | t :: l, h => by
    unfold badT at h
    split at h
    · rename_i ht
      intro x hx
      rcases List.mem_cons.1 hx with rfl | hx
      · exact ht
      · exact badT_none l h x hx
    · cases h
theorem badT_nz : ∀ l i e, badT l = some (i, e) → e ≠ 0
  | [], i, e, h => by cases h
  | t :: l, i, e, h => by
    unfold badT at h
    split at h
    · exact badT_nz l i e h
    · rename_i ht
      injection h with h
      injection h with h1 h2
      rw [← h2]; exact ht
theorem good_none : ∀ l, Good l → badT l = none
  | [], _ => rfl
  | t :: l, h => by
    unfold badT
    rw [if_pos (h t List.mem_cons_self)]
    exact good_none l fun x hx => h x (List.mem_cons_of_mem _ hx)
/-- What is parsed without an error. -/
theorem parse_ok {l : List S31} {x : S40} {i : Int} (h : parseF l = (x, i, 0)) : i = 0 ∧ Good l ∧ ∃ d st, declsP 64 (l, 1) = .inr (d, st) ∧ x = d.foldl addS x0 := by
  unfold parseF at h
  rcases hb : badT l with _ | ⟨j, e⟩
  · rw [hb] at h
    rcases hd : declsP 64 (l, 1) with ⟨c, st⟩ | ⟨d, st⟩
    · rw [hd] at h
      injection h with h1 h2
      injection h2 with h2 h3
      exact absurd h3 (decls_nz _ _ _ _ hd)
    · rw [hd] at h
      injection h with h1 h2
      injection h2 with h2 h3
      exact ⟨h2.symm, badT_none l hb, d, st, rfl, h1.symm⟩
  · rw [hb] at h
    injection h with h1 h2
    injection h2 with h2 h3
    exact absurd h3 (badT_nz _ _ _ hb)
def cnt (x : S40) : Nat := x.f0.length + x.f1.length + x.f2.length
theorem cnt_add (x : S40) (d : DeclT) : cnt (addS x d) = cnt x + 1 := by cases d <;> simp [addS, cnt] <;> omega
theorem cnt_adds : ∀ (d : List DeclT) (x : S40), cnt (d.foldl addS x) = cnt x + d.length
  | [], x => rfl
  | a :: d, x => by rw [List.foldl_cons, cnt_adds d, cnt_add, List.length_cons]; omega
theorem lastL_last (n : Int) (p : List S31) (x : S31) : lastL n (p ++ [x]) = x.f2 := by rw [lastL_app]; rfl
theorem cut_law (l : List S31) (x : S40) (i : Int) (h : parseF l = (x, i, 0)) (k : Nat) (hk : k < l.length) :
    if (k = 0 ∨ isRC (l.getD (k - 1) z31) = true) then ∃ y, parseF (l.take k) = (y, 0, 0) ∧ cnt y ≤ cnt x else parseF (l.take k) = (x0, (l.getD (k - 1) z31).f2, 8) := by
  obtain ⟨_, hg, d, ⟨r, m⟩, hd, hx⟩ := parse_ok h
  obtain ⟨hr, hc⟩ := decls_cut 64 l 1 d r m hg hd
  have hp := hc (l.take k) (l.drop k) (List.take_append_drop k l).symm
  have hbt : badT (l.take k) = none := good_none _ (fun x hx => hg x (List.mem_of_mem_take hx))
  have hlast : k ≠ 0 → (l.take k).getLast? = some (l.getD (k - 1) z31) := by
    intro h0
    rw [List.getLast?_take]
    rw [if_neg (by omega)]
    rw [List.getElem?_eq_getElem (by omega)]
    simp [List.getD_eq_getElem?_getD, List.getElem?_eq_getElem (show k - 1 < l.length by omega)]
  by_cases h0 : k = 0 ∨ isRC (l.getD (k - 1) z31) = true
  · rw [if_pos h0]
    have hq : ((l.take k).getLast?.map isRC).getD true = true := by
      by_cases h1 : k = 0
      · subst h1; rfl
      · rw [hlast h1]
        rcases h0 with h0 | h0
        · exact absurd h0 h1
        · simpa using h0
    rw [if_pos hq] at hp
    obtain ⟨d', e1, e2, _⟩ := hp
    refine ⟨d'.foldl addS x0, ?_, ?_⟩
    · unfold parseF; rw [hbt, e1]
    · rw [hx, cnt_adds, cnt_adds]; omega
  · rw [if_neg h0]
    have h1 : k ≠ 0 := fun e => h0 (.inl e)
    have hq : ¬ ((l.take k).getLast?.map isRC).getD true = true := by
      rw [hlast h1]
      intro e
      exact h0 (.inr (by simpa using e))
    rw [if_neg hq] at hp
    unfold parseF
    rw [hbt, hp]
    have h2 := hlast h1
    have h3 : l.take k ≠ [] := by intro e; rw [e] at h2; cases h2
    have h4 : l.take k = (l.take k).dropLast ++ [l.getD (k - 1) z31] := by
      rw [List.getLast?_eq_some_getLast h3] at h2
      injection h2 with h2
      rw [← h2, List.dropLast_concat_getLast h3]
    show (x0, lastL 1 (l.take k), (8 : Int)) = _
    rw [h4, lastL_last]
theorem at_of (a : Int) (m : Nat) (h : 0 < m) (h2 : m ≤ 70000) : ∃ k : Nat, Int.tmod (wrap64 (Int.tmod a m + m)) m = k ∧ k < m := by
  have q1 := Int.tmod_lt_of_pos a (show (0 : Int) < m by omega)
  have q2 := Int.lt_tmod_of_pos a (show (0 : Int) < m by omega)
  have e1 : wrap64 (a.tmod m + m) = a.tmod m + m := by unfold wrap64; omega
  rw [e1, Int.tmod_eq_emod_of_nonneg (by omega)]
  have q3 := Int.emod_nonneg (a.tmod m + m) (show (m : Int) ≠ 0 by omega)
  have q4 := Int.emod_lt_of_pos (a.tmod m + m) (show (0 : Int) < m by omega)
  exact ⟨((a.tmod m + m) % m).toNat, by omega, by omega⟩
def isSchC (x : S40) (w : World) (v1 v2 v3 : Value) : Prop := ∃ A1 c1 A2 c2 A3 c3, v1 = .slice A1 x.f0.length c1 ∧ v2 = .slice A2 x.f1.length c2 ∧ v3 = .slice A3 x.f2.length c3 ∧ Kd.C k47 w A1 x.f0.length x.f0 ∧ Kd.C k86 w A2 x.f1.length x.f1 ∧ Kd.C k91 w A3 x.f2.length x.f2
theorem isSch.lens {x : S40} {b : Nat} {w : World} {v : Value} (h : isSch x b w v) : ∃ A1 c1 A2 c2 A3 c3, v = .agg #[.slice A1 x.f0.length c1, .slice A2 x.f1.length c2, .slice A3 x.f2.length c3] ∧ x.f0.length ≤ 9223372036854775807 ∧ x.f1.length ≤ 9223372036854775807 ∧ x.f2.length ≤ 9223372036854775807 := by
  obtain ⟨a, b, c, rfl, h1, h2, h3⟩ := h
  obtain ⟨A1, c1, rfl⟩ := Kd.R_slice h1
  obtain ⟨A2, c2, rfl⟩ := Kd.R_slice h2
  obtain ⟨A3, c3, rfl⟩ := Kd.R_slice h3
  exact ⟨A1, c1, A2, c2, A3, c3, rfl, (Kd.R_reads' h1).2.2.2.1, (Kd.R_reads' h2).2.2.2.1, (Kd.R_reads' h3).2.2.2.1⟩
theorem isSch.lens2 {x : S40} {b : Nat} {w : World} {v : Value} (h : isSch x b w v) : ∃ A1 c1 n1 A2 c2 n2 A3 c3 n3, v = .agg #[.slice A1 n1 c1, .slice A2 n2 c2, .slice A3 n3 c3] ∧ n1 = x.f0.length ∧ n2 = x.f1.length ∧ n3 = x.f2.length := by
  obtain ⟨A1, c1, A2, c2, A3, c3, rfl, _⟩ := h.lens
  exact ⟨A1, c1, _, A2, c2, _, A3, c3, _, rfl, rfl, rfl, rfl⟩
theorem at31s {w : World} {ad : Addr} {n : Nat} {xs : List S31} (h : Kd.C k31 w (some ad) n xs) (i : Int) (h0 : 0 ≤ i) (h1 : i < n) : w.cell? (ad.add (i.toNat * 3)) = some (.int .i64 (rd_T31 xs i).f0) ∧ w.cell? ⟨(ad.add (i.toNat * 3)).block, (ad.add (i.toNat * 3)).off + 1, none⟩ = some (.string (rd_T31 xs i).f1) ∧ w.cell? ⟨(ad.add (i.toNat * 3)).block, (ad.add (i.toNat * 3)).off + 2, none⟩ = some (.int .i64 (rd_T31 xs i).f2) := by
  obtain ⟨ad', e, a, b, c⟩ := at_T31 h i h0 h1
  cases e
  exact ⟨a, b, c⟩
theorem heapB {w w1 : World} {g : Nat} {o : Obj} (h : w.heap[g]? = some o) (hb : Below w.heap.size w w1) : w1.heap[g]? = some o := (Ch.of_below hb (fun _ => False)).heap h (fun h => h)
theorem takeT (A : Option Addr) (n c : Nat) (j : Int) (h0 : 0 ≤ j) (hm : j ≤ n) (hc : n ≤ c) : ∀ W : World, (Instr.slice 23 (.slice A n c) none (some (.int .i64 j)) none).run Try.prog W = .ok (.slice A j.toNat c) W := by
  obtain ⟨i0, hi, hzz⟩ := Option.map_eq_some_iff.1 info31
  exact cut_to 23 31 .i64 Try.underlying23 hi A n c j h0 hm hc
theorem decls_len : ∀ (m : Nat) (st : St31) (d : List DeclT) (st' : St31), declsP m st = .inr (d, st') → d.length ≤ m
  | 0, st, d, st', h => by
    have e : (if st.1.length = 0 then (.inr ([], st) : Out (List DeclT)) else .inl (3, st)) = .inr (d, st') := h
    split at e
    · injection e with e
      injection e with e1 e2
      rw [← e1]; exact Nat.le_refl _
    · cases e
  | m + 1, st, d, st', h => by
    have e : (if st.1.length = 0 then (.inr ([], st) : Out (List DeclT)) else bindO (declP st) fun d st1 => bindO (declsP m st1) fun l st2 => .inr (d :: l, st2)) = .inr (d, st') := h
    split at e
    · injection e with e
      injection e with e1 e2
      rw [← e1]; exact Nat.zero_le _
    · obtain ⟨d1, st1, e1, e2⟩ := bindO_inr e
      obtain ⟨d2, st2, e3, e4⟩ := bindO_inr e2
      injection e4 with e4
      injection e4 with e5 e6
      have := decls_len m _ _ _ e3
      rw [← e5, List.length_cons]; omega
theorem parse_len (l : List S31) : (parseF l).1.f0.length ≤ 64 ∧ (parseF l).1.f1.length ≤ 64 ∧ (parseF l).1.f2.length ≤ 64 := by
  unfold parseF
  rcases badT l with _ | ⟨j, e⟩
  · rcases hd : declsP 64 (l, 1) with ⟨c, st⟩ | ⟨d, st⟩
    · exact ⟨Nat.zero_le _, Nat.zero_le _, Nat.zero_le _⟩
    · have h1 := decls_len _ _ _ _ hd
      have h2 := adds_len d x0
      simp only [x0, List.length_nil, Nat.zero_add] at h2
      show (d.foldl addS x0).f0.length ≤ 64 ∧ (d.foldl addS x0).f1.length ≤ 64 ∧ (d.foldl addS x0).f2.length ≤ 64
      simp only [x0]
      omega
  · exact ⟨Nat.zero_le _, Nat.zero_le _, Nat.zero_le _⟩
end Go.Proofs.Ytoloneoeojoiaaa.EParseOwn
