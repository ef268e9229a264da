/- The law ScriptMay: its walk; no condition. -/
import Derived.Test.YtaoffnhladfdcaaDoorScrN
namespace Go.Proofs.YtaoffnhladfdcaaDoor.EScriptTrace
open Go.RowKit Go.Shelf Go.Proofs.YtaoffnhladfdcaaDoorW.PrintWords Go.Proofs.YtaoffnhladfdcaaDoorW.PrintLast Go.Proofs.YtaoffnhladfdcaaDoorW.PrintMore
set_option linter.unusedVariables false
set_option linter.unusedSimpArgs false
theorem toks_line (n : Nat) : ∀ (s : List UInt8) (l : Int) (out : List S98), 1 ≤ l → (toksL n s l out).2.2 ≠ 0 → 1 ≤ (toksL n s l out).2.1 := by
  induction n with
  | zero => intro s l out h1 h; exact absurd rfl h
  | succ n ih =>
    intro s l out h1 h
    have hs : ∀ (s : List UInt8) (b : Bool) (l : Int), l ≤ (sk b s l).2 := by
      intro s
      induction s with
      | nil => intro b l; cases b <;> exact Int.le_refl _
      | cons c t ih =>
        intro b l
        cases b with
        | true =>
          unfold sk
          split
          · exact Int.le_trans (by omega) (ih false (l + 1))
          · exact ih true l
        | false =>
          unfold sk
          split
          · exact Int.le_trans (by omega) (ih false (l + 1))
          · split
            · exact ih true l
            · split
              · exact ih false l
              · exact Int.le_refl _
    have h2 := hs s false l
    unfold toksL at h ⊢
    by_cases e1 : (sk false s l).1 = []
    · rw [if_pos e1] at h; exact absurd rfl h
    · rw [if_neg e1] at h ⊢
      by_cases e2 : (nextL (sk false s l).1 (sk false s l).2).2.1 = 0
      · rw [if_pos e2] at h ⊢
        exact ih _ _ _ (by omega) h
      · rw [if_neg e2]; show 1 ≤ (sk false s l).2; omega
theorem tok_line (s : ByteArray) (h : (tokF s).2.2 ≠ 0) : 1 ≤ (tokF s).2.1 ∨ (tokF s).2.2 = 5 := by
  unfold tokF at h ⊢
  by_cases e : (s.size : Int) > 65536
  · rw [if_pos e]; exact .inr rfl
  · rw [if_neg e] at h ⊢
    exact .inl (toks_line _ _ _ _ (by decide) h)
theorem toks_good_lines (s : ByteArray) (h : (tokF s).2.2 = 0) : ∀ t ∈ (tokF s).1, 1 ≤ t.f2 := by
  have hn : ∀ (n : Nat) (s : List UInt8) (l : Int) (out : List S98), 1 ≤ l → (∀ t ∈ out, 1 ≤ t.f2) → ∀ t ∈ (toksL n s l out).1, 1 ≤ t.f2 := by
    intro n
    induction n with
    | zero => intro s l out h1 h2; exact h2
    | succ n ih =>
      intro s l out h1 h2
      have hs : ∀ (s : List UInt8) (b : Bool) (l : Int), l ≤ (sk b s l).2 := by
        intro s
        induction s with
        | nil => intro b l; cases b <;> exact Int.le_refl _
        | cons c t ih =>
          intro b l
          cases b with
          | true =>
            unfold sk
            split
            · exact Int.le_trans (by omega) (ih false (l + 1))
            · exact ih true l
          | false =>
            unfold sk
            split
            · exact Int.le_trans (by omega) (ih false (l + 1))
            · split
              · exact ih true l
              · split
                · exact ih false l
                · exact Int.le_refl _
      have h3 := hs s false l
      unfold toksL
      by_cases e1 : (sk false s l).1 = []
      · rw [if_pos e1]; exact h2
      · rw [if_neg e1]
        by_cases e2 : (nextL (sk false s l).1 (sk false s l).2).2.1 = 0
        · rw [if_pos e2]
          refine ih _ _ _ (by omega) (fun t ht => ?_)
          rcases List.mem_append.1 ht with ht | ht
          · exact h2 t ht
          · rw [List.mem_singleton] at ht
            subst ht
            cases hq : (sk false s l).1 with
            | nil => exact absurd hq e1
            | cons c u =>
              rw [hq] at e2
              obtain ⟨_, _, _, _, _, e4, _⟩ := next_one c u _ e2
              rw [e4]; omega
        · rw [if_neg e2]; intro t ht; cases ht
  unfold tokF
  split
  · intro t ht; cases ht
  · exact hn _ _ _ _ (by decide) (fun t ht => by cases ht)
/-! A step of the reader: an error is one, and it has a line. -/
def Gd (st : St31) : Prop := (∀ t ∈ st.1, 1 ≤ t.f2) ∧ 1 ≤ st.2
def PosO {α : Type} : Out α → Prop
  | .inl (c, st) => c ≠ 0 ∧ 1 ≤ st.2
  | .inr (_, st) => Gd st
def Pos {α : Type} (f : St31 → Out α) : Prop := ∀ st, Gd st → PosO (f st)
theorem Pos.bind {α β : Type} {f : St31 → Out α} {g : α → St31 → Out β} (h : Pos f) (k : ∀ a, Pos (g a)) : Pos (fun st => bindO (f st) g) := fun st hs => by
  have h1 := h st hs
  show PosO (bindO (f st) g)
  rcases hf : f st with ⟨c, st1⟩ | ⟨a, st1⟩
  · rw [hf] at h1; exact h1
  · rw [hf] at h1; exact k a st1 h1
theorem Pos.pure {α : Type} (a : α) : Pos (fun st => (.inr (a, st) : Out α)) := fun st hs => hs
theorem pos_stop {α : Type} (c : Int) (h : c ≠ 0) : Pos (fun st => (.inl (c, st) : Out α)) := fun st hs => ⟨h, hs.2⟩
theorem pos_ite {α : Type} {c : Prop} [Decidable c] {f g : St31 → Out α} (h : c → Pos f) (k : ¬ c → Pos g) : Pos (fun st => if c then f st else g st) := fun st hs => by
  show PosO (if c then f st else g st)
  by_cases hc : c
  · rw [if_pos hc]; exact h hc st hs
  · rw [if_neg hc]; exact k hc st hs
theorem pos_word (l : List ByteArray) : Pos (wordS l) := by
  rintro ⟨tl, n⟩ hs
  cases tl with
  | nil => exact ⟨by decide, hs.2⟩
  | cons t r =>
    have ht := hs.1 t List.mem_cons_self
    have hr : ∀ x ∈ r, 1 ≤ x.f2 := fun x hx => hs.1 x (List.mem_cons_of_mem _ hx)
    show PosO (if 0 ≤ idxL (eqS t.f1) l then .inr (idxL (eqS t.f1) l, (r, t.f2)) else .inl (33, (t :: r, t.f2)) : Out Int)
    by_cases h : 0 ≤ idxL (eqS t.f1) l
    · rw [if_pos h]; exact ⟨hr, ht⟩
    · rw [if_neg h]; exact ⟨by decide, ht⟩
theorem pos_number : Pos numberS := by
  rintro ⟨tl, n⟩ hs
  cases tl with
  | nil => exact ⟨by decide, hs.2⟩
  | cons t r =>
    have ht := hs.1 t List.mem_cons_self
    have hr : ∀ x ∈ r, 1 ≤ x.f2 := fun x hx => hs.1 x (List.mem_cons_of_mem _ hx)
    show PosO (if t.f0 = 2 then (if (numT t).2 = 0 then .inr ((numT t).1, (r, t.f2)) else .inl ((numT t).2, (r, t.f2))) else .inl (33, (t :: r, t.f2)) : Out Int)
    by_cases h : t.f0 = 2
    · rw [if_pos h]
      by_cases h2 : (numT t).2 = 0
      · rw [if_pos h2]; exact ⟨hr, ht⟩
      · rw [if_neg h2]; exact ⟨h2, ht⟩
    · rw [if_neg h]; exact ⟨by decide, ht⟩
theorem pos_peek : Pos peekS := by
  rintro ⟨tl, n⟩ hs
  cases tl with
  | nil => exact ⟨by decide, hs.2⟩
  | cons t r => exact ⟨hs.1, hs.1 t List.mem_cons_self⟩
theorem pos_backs : ∀ n bs, Pos (backsS n bs)
  | 0, bs => pos_stop 8 (by decide)
  | n + 1, bs => pos_peek.bind fun t => pos_ite (fun _ => Pos.pure _) (fun _ => pos_number.bind fun a => pos_number.bind fun b => pos_backs n _)
theorem pos_op : Pos opS := (pos_word opW).bind fun i => pos_ite (fun _ => pos_number.bind fun a => pos_number.bind fun b => Pos.pure _) (fun _ => pos_ite (fun _ => pos_number.bind fun a => pos_number.bind fun b => Pos.pure _) (fun _ => pos_ite (fun _ => pos_number.bind fun a => pos_number.bind fun b => pos_number.bind fun c => Pos.pure _) (fun _ => pos_ite (fun _ => pos_number.bind fun a => Pos.pure _) (fun _ => Pos.pure _))))
theorem pos_body (k : Int) : Pos (bodyS k) := pos_ite (fun _ => pos_number.bind fun a => pos_number.bind fun b => pos_op.bind fun g => Pos.pure _) (fun _ => pos_ite (fun _ => pos_number.bind fun b => Pos.pure _) (fun _ => pos_ite (fun _ => pos_number.bind fun a => pos_number.bind fun b => Pos.pure _) (fun _ => pos_ite (fun _ => pos_number.bind fun a => pos_number.bind fun v => fun st hs => by
  have h := Pos.bind (pos_backs (st.1.length + 1) []) (g := fun bs st4 => (.inr (⟨7, a, 0, zOp, v, bs⟩, st4) : Out Ev)) (fun bs => Pos.pure _)
  exact h st hs) (fun _ => pos_number.bind fun a => Pos.pure _))))
theorem pos_tail (e : Ev) : Pos (tailS e) := (pos_word _).bind fun _ => pos_ite (fun _ => Pos.pure _) (fun h => pos_stop _ h)
theorem pos_event : Pos eventS := (pos_word _).bind fun i => (pos_body _).bind fun e => pos_tail e
theorem event_ok {st st1 : St31} {e : Ev} (h : eventS st = .inr (e, st1)) : checkE e = 0 := by
  obtain ⟨i, st2, h1, h2⟩ := bindO_inr h
  obtain ⟨x, st3, h3, h4⟩ := bindO_inr h2
  obtain ⟨y, st4, h5, h6⟩ := bindO_inr h4
  by_cases hc : checkE x = 0
  · rw [if_pos hc] at h6
    injection h6 with h6
    injection h6 with h6 _
    rw [← h6]; exact hc
  · rw [if_neg hc] at h6; cases h6
theorem pos_events : ∀ (k : Nat) (out : List Ev) (st : St31), (∀ t ∈ st.1, 1 ≤ t.f2) → out.length ≤ 512 → (∀ e ∈ out, checkE e = 0) → (∀ c st', eventsS k out st = .inl (c, st') → c ≠ 0 ∧ 1 ≤ st'.2) ∧ ∀ l st', eventsS k out st = .inr (l, st') → l.length ≤ 512 ∧ ∀ e ∈ l, checkE e = 0
  | 0, out, st, hs, hn, hk => by
    have e1 : eventsS 0 out st = .inr (out, st) := rfl
    rw [e1]
    exact ⟨fun c st' h => (by cases h), fun l st' h => by injection h with h; injection h with h _; subst h; exact ⟨hn, hk⟩⟩
  | k + 1, out, ⟨tl, n⟩, hs, hn, hk => by
    cases tl with
    | nil =>
      have e1 : eventsS (k + 1) out (([] : List S98), n) = .inr (out, ([], n)) := if_pos rfl
      rw [e1]
      exact ⟨fun c st' h => (by cases h), fun l st' h => by injection h with h; injection h with h _; subst h; exact ⟨hn, hk⟩⟩
    | cons t r =>
      have ht := hs t List.mem_cons_self
      have e1 : eventsS (k + 1) out (t :: r, n) = if out.length < 512 then bindO (eventS (t :: r, t.f2)) fun e st2 => eventsS k (out ++ [e]) st2 else .inl (3, (t :: r, t.f2)) := by
        show (if (t :: r) = [] then (.inr (out, (t :: r, n)) : Out (List Ev)) else _) = _
        rw [if_neg (by simp)]
        rfl
      rw [e1]
      by_cases h5 : out.length < 512
      · rw [if_pos h5]
        have hp := pos_event (t :: r, t.f2) ⟨hs, ht⟩
        rcases hq : eventS (t :: r, t.f2) with ⟨c1, st1⟩ | ⟨e, st1⟩
        · rw [hq] at hp
          have e2 : (bindO (.inl (c1, st1)) fun e st2 => eventsS k (out ++ [e]) st2 : Out (List Ev)) = .inl (c1, st1) := rfl
          rw [e2]
          exact ⟨fun c st' h => (by injection h with h; injection h with h1 h2; subst h1 h2; exact hp), fun l st' h => by cases h⟩
        · rw [hq] at hp
          exact pos_events k (out ++ [e]) st1 hp.1 (by rw [List.length_append, List.length_cons, List.length_nil]; omega) (fun x hx => by
            rcases List.mem_append.1 hx with hx | hx
            · exact hk x hx
            · rw [List.mem_singleton] at hx; subst hx; exact event_ok hq)
      · rw [if_neg h5]
        exact ⟨fun c st' h => (by injection h with h; injection h with h1 h2; subst h1 h2; exact ⟨by decide, ht⟩), fun l st' h => (by cases h)⟩
theorem parse_err {s : ByteArray} (h : (parseS s).2.2 ≠ 0) : (parseS s).1 = [] ∧ (0 < (parseS s).2.1 ∨ (parseS s).2.2 = 5) := by
  by_cases h1 : (tokF s).2.2 = 0
  · have hg := toks_good_lines s h1
    have hp := pos_events ((tokF s).1.length + 1) [] ((tokF s).1, 0) hg (by simp) (by simp)
    have e : parseS s = (match eventsS ((tokF s).1.length + 1) [] ((tokF s).1, 0) with
      | .inl (c, st) => ([], st.2, c)
      | .inr (l, _) => (l, 0, 0)) := if_pos h1
    rw [e] at h ⊢
    rcases hq : eventsS ((tokF s).1.length + 1) [] ((tokF s).1, 0) with ⟨c, st⟩ | ⟨l, st⟩
    · have := hp.1 c st hq
      exact ⟨rfl, .inl (by show 0 < st.2; omega)⟩
    · rw [hq] at h; exact absurd rfl h
  · have e : parseS s = ([], (tokF s).2.1, (tokF s).2.2) := if_neg h1
    rw [e]
    refine ⟨rfl, ?_⟩
    rcases tok_line s h1 with h2 | h2
    · exact .inl (by show 0 < (tokF s).2.1; omega)
    · exact .inr h2
theorem parse_ok {s : ByteArray} (h : (parseS s).2.2 = 0) : (parseS s).2.1 = 0 ∧ (parseS s).1.length ≤ 512 ∧ ∀ e ∈ (parseS s).1, checkE e = 0 := by
  by_cases h1 : (tokF s).2.2 = 0
  · have hg := toks_good_lines s h1
    have hp := pos_events ((tokF s).1.length + 1) [] ((tokF s).1, 0) hg (by simp) (by simp)
    have e : parseS s = (match eventsS ((tokF s).1.length + 1) [] ((tokF s).1, 0) with
      | .inl (c, st) => ([], st.2, c)
      | .inr (l, _) => (l, 0, 0)) := if_pos h1
    rw [e] at h ⊢
    rcases hq : eventsS ((tokF s).1.length + 1) [] ((tokF s).1, 0) with ⟨c, st⟩ | ⟨l, st⟩
    · rw [hq] at h
      exact absurd h (hp.1 c st hq).1
    · exact ⟨rfl, hp.2 l st hq⟩
  · have e : parseS s = ([], (tokF s).2.1, (tokF s).2.2) := if_neg h1
    rw [e] at h; exact absurd h h1
/-! The law ScriptMay. -/
theorem print_may {l : List Ev} (h1 : l.length ≤ 512) (h2 : ∀ e ∈ l, checkE e = 0) : printS l = (textE l, 0) := by
  unfold printS
  rw [if_neg (by omega), printF_text l [] h2]
  rfl
set_option maxHeartbeats 8000000 in
set_option maxRecDepth 100000 in
theorem scriptMay.calls (s : ByteArray) (w : World) (ht : Tab w) : Calls Tryd.prog 10 #[.string s] w fun e w' => e = .returned (.bool true) ∧ Below w.heap.size w w' := by
  have HTAB := Aside0.mk ht
  have HAL := Aside0.mk (alive.calls w ht)
  clear ht
  go_enter Tryd.func10, Tryd.ntmps10
  go_wp2_with fail
  try go_at_call 18
  refine HAL.out.mono ?_
  rintro e w1 ⟨rfl, hb⟩
  have HB1 := Aside0.mk hb
  clear hb HAL
  go_wp2_with fail
  try go_at_call 19
  refine (parse.calls s w1 (HTAB.out.below HB1.out)).mono ?_
  rintro e w2 ⟨⟨v, rfl, hv⟩, hb⟩
  have HB2 := Aside0.mk (below_b HB1.out hb HB1.out.size)
  clear hb HB1
  have HERR : Aside0 ((parseS s).2.2 ≠ 0 → (parseS s).1 = [] ∧ (0 < (parseS s).2.1 ∨ (parseS s).2.2 = 5)) := ⟨fun h => parse_err h⟩
  have HOK : Aside0 ((parseS s).2.2 = 0 → (parseS s).2.1 = 0 ∧ (parseS s).1.length ≤ 512 ∧ ∀ e ∈ (parseS s).1, checkE e = 0) := ⟨fun h => parse_ok h⟩
  generalize parseS s = P at hv HERR HOK ⊢
  obtain ⟨l, n, er⟩ := P
  have hv : Kd.R kEv 60 w2 w1.heap.size (fun _ => True) v l := hv
  obtain ⟨A1, c1, rfl, hc1, hC1⟩ := Kd.R_reads hv
  have HC1 := Aside0.mk hC1
  have HCC := Aside0.mk hc1
  clear hv hC1 hc1
  go_wp2_with fail
  try go_at_call 21
  refine (waybilllaw35_num.calls er er w2 rfl).mono ?_
  rintro e w3 ⟨rfl, hd⟩
  have HD := Aside0.mk hd.below
  have HB3 := Aside0.mk (below_b HB2.out hd.below HB2.out.size)
  clear hd HB2
  by_cases he : er = 0
  · subst he
    obtain ⟨hn0, hn, hok⟩ := HOK.out rfl
    have hn0 : n = 0 := hn0
    subst hn0
    have hn : l.length ≤ 512 := hn
    have hok : ∀ e ∈ l, checkE e = 0 := hok
    have HK := Aside0.mk hok
    clear hok HOK HERR
    go_wp2_with fail
    try go_at_call 29
    have HPR := print.calls A1 c1 l w3 (HTAB.out.below HB3.out) (Kd.C_below HC1.out HD.out) HCC.out
    rw [print_may hn HK.out] at HPR
    refine HPR.mono ?_
    rintro e w4 ⟨rfl, hb⟩
    have HD4 := Aside0.mk (HD.out.trans (hb.mono HD.out.size))
    have HB4 := Aside0.mk (below_b HB3.out hb HB3.out.size)
    clear hb HB3 HD HPR
    obtain ⟨B, hB⟩ : ∃ B : ByteArray, B = ⟨(textE l).toArray⟩ := ⟨_, rfl⟩
    simp only []
    rw [← hB]
    have HBS := Aside0.mk hB
    clear hB
    go_wp2_with fail
    try go_at_call 19
    refine (parse.calls B w4 (HTAB.out.below HB4.out)).mono ?_
    rintro e w5 ⟨⟨v2, rfl, hv⟩, hb⟩
    have HD5 := Aside0.mk (HD4.out.trans (hb.mono HD4.out.size))
    have HB5 := Aside0.mk (below_b HB4.out hb HB4.out.size)
    clear hb HB4 HD4
    have hz : B.size = (textE l).length := by rw [HBS.out]; exact List.size_toArray
    by_cases hbig : 65536 < (textE l).length
    · obtain ⟨A2, c2, rfl, _, _⟩ := Kd.R_reads hv
      generalize (parseS B).2.1 = x1
      generalize (parseS B).2.2 = x2
      generalize (parseS B).1.length = x3
      clear hv
      go_wp2_with fail
      try go_at_call 21
      refine (waybilllaw35_num.calls 0 0 w5 rfl).mono ?_
      rintro e w6 ⟨rfl, hd⟩
      have HB6 := Aside0.mk (below_b HB5.out hd.below HB5.out.size)
      clear hd HB5
      go_wp2_with fail
      go_ret
      exact ⟨rfl, HB6.out⟩
    · have hP : parseS B = (l, 0, 0) := by
        rw [HBS.out]
        exact parse_textE l HK.out hn (by omega)
      have hsm : (textE l).length ≤ 65536 := by omega
      rw [hP] at hv ⊢
      obtain ⟨A2, c2, rfl, hc2, hC2⟩ := Kd.R_reads hv
      have HC2 := Aside0.mk hC2
      have HCC2 := Aside0.mk hc2
      clear hv hC2 hc2 hP
      go_wp2_with fail
      try go_at_call 21
      refine (waybilllaw35_num.calls 0 0 w5 rfl).mono ?_
      rintro e w6 ⟨rfl, hd⟩
      have HD6 := Aside0.mk (HD5.out.trans (hd.below.mono HD5.out.size))
      have HE6 := Aside0.mk hd.below
      have HB6 := Aside0.mk (below_b HB5.out hd.below HB5.out.size)
      clear hd HB5 HD5
      go_wp2_with fail
      try go_at_call 21
      refine (waybilllaw35_num.calls 0 0 w6 rfl).mono ?_
      rintro e w7 ⟨rfl, hd⟩
      have HD7 := Aside0.mk (HD6.out.trans (hd.below.mono HD6.out.size))
      have HE7 := Aside0.mk (HE6.out.trans (hd.below.mono HE6.out.size))
      have HB7 := Aside0.mk (below_b HB6.out hd.below HB6.out.size)
      clear hd HB6 HD6 HE6
      go_wp2_with fail
      try go_at_call 22
      refine (sameAll.calls A1 A2 c1 c2 l w7 (Kd.C_below HC1.out HD7.out) HCC.out (Kd.C_below HC2.out HE7.out) HCC2.out (ids_all HK.out) (by omega)).mono ?_
      rintro e w8 ⟨rfl, hb⟩
      have HB8 := Aside0.mk (below_b HB7.out hb HB7.out.size)
      clear hb HB7
      go_wp2_with fail
      go_ret
      exact ⟨rfl, HB8.out⟩
  · obtain ⟨hl, hp⟩ := HERR.out he
    have hl : l = [] := hl
    subst hl
    have hd : decide (er = 0) = false := decide_eq_false he
    have hp : 0 < n ∨ er = 5 := hp
    clear HERR HOK
    by_cases hp0 : 0 < n
    · have hp1 : decide (0 < n) = true := decide_eq_true hp0
      clear hp
      go_wp2_with fail
      go_ret
      exact ⟨rfl, HB3.out⟩
    · have hp1 : decide (0 < n) = false := decide_eq_false hp0
      have h5 : er = 5 := hp.resolve_left hp0
      subst h5
      clear hp
      go_wp2_with fail
      try go_at_call 21
      refine (waybilllaw35_num.calls 5 5 w3 rfl).mono ?_
      rintro e w4 ⟨rfl, hd⟩
      have HB4 := Aside0.mk (below_b HB3.out hd.below HB3.out.size)
      clear hd HB3
      go_wp2_with fail
      go_ret
      exact ⟨rfl, HB4.out⟩
end Go.Proofs.YtaoffnhladfdcaaDoor.EScriptTrace
