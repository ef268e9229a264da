/- Events; Parse. -/
import Derived.Test.YtaoffnhladfdcaaDoorScrF
namespace Go.Proofs.YtaoffnhladfdcaaDoor.EScriptTrace
open Go.RowKit Go.Shelf Go.Proofs.YtaoffnhladfdcaaDoorW.PrintWords Go.Proofs.YtaoffnhladfdcaaDoorW.PrintLast Go.Proofs.YtaoffnhladfdcaaDoorW.PrintMore
set_option linter.unusedVariables false
set_option linter.unusedSimpArgs false
/-! Events in memory. -/
instance : Inhabited Ev := ⟨⟨0, 0, 0, zOp, 0, []⟩⟩
def zEv : Ev := ⟨0, 0, 0, zOp, 0, []⟩
def kEv : Kd Ev := Kd.iso (Kd.pair (Kd.int .i64) (Kd.pair (Kd.int .i64) (Kd.pair (Kd.int .i64) (Kd.pair (Kd.int .i64) (Kd.pair (Kd.int .i64) (Kd.pair (Kd.int .i64) (Kd.pair (Kd.int .i64) (Kd.pair (Kd.int .i64) (Kd.slice 62 k62))))))))) (fun x : Ev => (x.f0, x.f1, x.f2, x.g.f0, x.g.f1, x.g.f2, x.g.f3, x.v, x.bs))
theorem kEv_open {w : World} {x : Ev} {cs : List Value} (h : kEv.K w x cs) : ∃ A c, cs = evC x A c ∧ x.bs.length ≤ c ∧ Kd.C k62 w A x.bs.length x.bs := by
  obtain ⟨_, _, rfl, rfl, ⟨_, _, rfl, rfl, ⟨_, _, rfl, rfl, ⟨_, _, rfl, rfl, ⟨_, _, rfl, rfl, ⟨_, _, rfl, rfl, ⟨_, _, rfl, rfl, ⟨_, _, rfl, rfl, ⟨A0, c0, rfl, l0, g0⟩⟩⟩⟩⟩⟩⟩⟩⟩ := h
  exact ⟨A0, c0, rfl, l0, g0⟩
theorem kEv_openM {w : World} {base : Nat} {ok : Nat → Prop} {x : Ev} {cs : List Value} (h : kEv.M w base ok x cs) : ∃ vs, cs = (evA x vs).toList ∧ Kd.R k62 62 w base ok vs x.bs := by
  obtain ⟨_, _, rfl, rfl, ⟨_, _, rfl, rfl, ⟨_, _, rfl, rfl, ⟨_, _, rfl, rfl, ⟨_, _, rfl, rfl, ⟨_, _, rfl, rfl, ⟨_, _, rfl, rfl, ⟨_, _, rfl, rfl, ⟨v0, rfl, g0⟩⟩⟩⟩⟩⟩⟩⟩⟩ := h
  exact ⟨v0, rfl, g0⟩
theorem kEv_mk (w : World) (x : Ev) {A : Option Addr} {c : Nat} (l : x.bs.length ≤ c) (g : Kd.C k62 w A x.bs.length x.bs) : kEv.K w x (evC x A c) := ⟨[_], _, rfl, rfl, ⟨[_], _, rfl, rfl, ⟨[_], _, rfl, rfl, ⟨[_], _, rfl, rfl, ⟨[_], _, rfl, rfl, ⟨[_], _, rfl, rfl, ⟨[_], _, rfl, rfl, ⟨[_], _, rfl, rfl, ⟨A, c, rfl, l, g⟩⟩⟩⟩⟩⟩⟩⟩⟩
theorem kEv_mkM (w : World) (base : Nat) (ok : Nat → Prop) (x : Ev) {vs : Value} (g : Kd.R k62 62 w base ok vs x.bs) : kEv.M w base ok x (evA x vs).toList := ⟨[_], _, rfl, rfl, ⟨[_], _, rfl, rfl, ⟨[_], _, rfl, rfl, ⟨[_], _, rfl, rfl, ⟨[_], _, rfl, rfl, ⟨[_], _, rfl, rfl, ⟨[_], _, rfl, rfl, ⟨[_], _, rfl, rfl, ⟨vs, rfl, g⟩⟩⟩⟩⟩⟩⟩⟩⟩
def rd_Ev (xs : List Ev) (i : Int) : Ev := xs.getD i.toNat zEv
/-! What is left grows no longer. -/
def Le {α : Type} (f : St31 → Out α) : Prop := ∀ st a st', f st = .inr (a, st') → st'.1.length ≤ st.1.length
theorem bindO_inr {α β : Type} {o : Out α} {f : α → St31 → Out β} {b : β} {st : St31} (h : bindO o f = .inr (b, st)) : ∃ a st1, o = .inr (a, st1) ∧ f a st1 = .inr (b, st) := by
  rcases o with e | ⟨a, st1⟩
  · cases h
  · exact ⟨a, st1, rfl, h⟩
theorem Le.bind {α β : Type} {f : St31 → Out α} {g : α → St31 → Out β} (h : Le f) (k : ∀ a, Le (g a)) : Le (fun st => bindO (f st) g) := fun st b st' e => by
  obtain ⟨a, st1, h1, h2⟩ := bindO_inr e
  exact Nat.le_trans (k a st1 b st' h2) (h st a st1 h1)
theorem Le.pure {α : Type} (a : α) : Le (fun st => (.inr (a, st) : Out α)) := fun st b st' e => by
  injection e with e; injection e with e1 e2; subst e2; exact Nat.le_refl _
theorem le_number : Le numberS := fun st a st' h => by have := numberS_len h; omega
theorem le_peek : Le peekS := fun st a st' h => by have := peekS_len h; omega
theorem le_word (l : List ByteArray) : Le (wordS l) := fun st a st' h => by have := wordS_len h; omega
theorem le_ite {α : Type} {c : Prop} [Decidable c] {f g : St31 → Out α} (h : Le f) (k : Le g) : Le (fun st => if c then f st else g st) := fun st a st' e => by
  by_cases hc : c
  · exact h st a st' (by rw [← e]; exact (if_pos hc).symm)
  · exact k st a st' (by rw [← e]; exact (if_neg hc).symm)
theorem le_op : Le opS := (le_word opW).bind fun i => le_ite (le_number.bind fun a => le_number.bind fun b => Le.pure _) (le_ite (le_number.bind fun a => le_number.bind fun b => Le.pure _) (le_ite (le_number.bind fun a => le_number.bind fun b => le_number.bind fun c => Le.pure _) (le_ite (le_number.bind fun a => Le.pure _) (Le.pure _))))
theorem le_stop {α : Type} (c : Int) : Le (fun st => (.inl (c, st) : Out α)) := fun st a st' e => by cases e
theorem le_backs : ∀ n bs, Le (backsS n bs)
  | 0, bs => le_stop 8
  | n + 1, bs => le_peek.bind fun t => le_ite (Le.pure _) (le_number.bind fun a => le_number.bind fun b => le_backs n _)
theorem le_body (k : Int) : Le (bodyS k) := le_ite (le_number.bind fun a => le_number.bind fun b => le_op.bind fun g => Le.pure _) (le_ite (le_number.bind fun b => Le.pure _) (le_ite (le_number.bind fun a => le_number.bind fun b => Le.pure _) (le_ite (le_number.bind fun a => le_number.bind fun v => fun st b st' e => by
  obtain ⟨x, st1, h1, h2⟩ := bindO_inr e
  have := le_backs _ _ _ _ _ h1
  have := Le.pure _ st1 b st' h2
  omega) (le_number.bind fun a => Le.pure _))))
theorem le_tail (e : Ev) : Le (tailS e) := (le_word _).bind fun _ => le_ite (Le.pure _) (le_stop _)
theorem eventS_len {st st1 : St31} {e : Ev} (h : eventS st = .inr (e, st1)) : st1.1.length < st.1.length := by
  obtain ⟨i, st2, h1, h2⟩ := bindO_inr h
  obtain ⟨x, st3, h3, h4⟩ := bindO_inr h2
  have := wordS_len h1
  have := le_body _ _ _ _ h3
  have := le_tail _ _ _ _ h4
  omega
def eventsS : Nat → List Ev → St31 → Out (List Ev)
  | 0, out, st => .inr (out, st)
  | n + 1, out, st => if st.1 = [] then .inr (out, st) else bindO (peekS st) fun _ st1 => if out.length < 512 then bindO (eventS st1) fun e st2 => eventsS n (out ++ [e]) st2 else .inl (3, st1)
def parseS (s : ByteArray) : List Ev × Int × Int := if (tokF s).2.2 = 0 then (match eventsS ((tokF s).1.length + 1) [] ((tokF s).1, 0) with
    | .inl (c, st) => ([], st.2, c)
    | .inr (l, _) => (l, 0, 0)) else ([], (tokF s).2.1, (tokF s).2.2)
attribute [local go_sem] Instr.field asAgg
set_option maxHeartbeats 2000000 in
set_option maxRecDepth 100000 in
theorem catch_panic (pb B bp r0 r1 r2 : Nat) (l : List S98) (n c : Int) (w : World) (q0 u0 u1 : Value) (h : TokAt w pb B l n) (hp : w.heap[bp]? = some (.cells #[.pointer (some ⟨pb, 0, none⟩)] 93 (0, 0))) (h0 : w.heap[r0]? = some (.cells #[q0] 51 (0, 0))) (h1 : w.heap[r1]? = some (.cells #[u0] 3 (0, 0))) (h2 : w.heap[r2]? = some (.cells #[u1] 40 (0, 0))) :
    CallsD Tryd.prog 37 #[.pointer (some ⟨bp, 0, none⟩), .pointer (some ⟨r0, 0, none⟩), .pointer (some ⟨r1, 0, none⟩), .pointer (some ⟨r2, 0, none⟩)] (.panicking (pnc c)) w fun e u' w' =>
      e = .returned (.tuple #[]) ∧ u' = .panicking [{ v := .iface 40 (.int .i64 c), recovered := true }] ∧ w'.heap[r0]? = some (.cells #[.slice none 0 0] 51 (0, 0)) ∧ w'.heap[r1]? = some (.cells #[.int .i64 n] 3 (0, 0)) ∧ w'.heap[r2]? = some (.cells #[.int .i64 c] 40 (0, 0)) ∧ Ch (fun k => k = r0 ∨ k = r1 ∨ k = r2) w w' := by
  obtain ⟨A, cc, hk, _⟩ := h.at_
  have H0 := Aside0.mk h0
  have H1 := Aside0.mk h1
  have H2 := Aside0.mk h2
  have hp0 : w.cell? ⟨bp, 0, none⟩ = some (.pointer (some ⟨pb, 0, none⟩)) := zcell hp 0 _ rfl
  have hk1 : w.cell? ⟨pb, 1, none⟩ = some (.int .i64 n) := zcell hk 1 _ rfl
  clear h hp h0 h1 h2 hk
  have hta : ∀ (v : Value) (W : World), (Instr.typeAssert (.iface 40 v) 20 40 true).run Tryd.prog W = .ok (.tuple #[v, .bool true]) W := fun v W => rfl
  refine callsD_of_wpS Tryd.func37 rfl fun c₀ cs hu => ?_
  unfold pnc at hu
  have e : ({ tmps := #[.pointer (some ⟨bp, 0, none⟩), .pointer (some ⟨r0, 0, none⟩), .pointer (some ⟨r1, 0, none⟩), .pointer (some ⟨r2, 0, none⟩)] ++ Array.replicate (Tryd.f37.ntmps - (#[.pointer (some ⟨bp, 0, none⟩), .pointer (some ⟨r0, 0, none⟩), .pointer (some ⟨r1, 0, none⟩), .pointer (some ⟨r2, 0, none⟩)] : Array Value).size) undef, defers := [] } : Act) = { tmps := #[.pointer (some ⟨bp, 0, none⟩), .pointer (some ⟨r0, 0, none⟩), .pointer (some ⟨r1, 0, none⟩), .pointer (some ⟨r2, 0, none⟩), undef, undef, undef, undef, undef, undef, undef, undef, undef, undef, undef, undef, undef], defers := [] } := by rw [Tryd.ntmps37]; rfl
  rw [e]
  clear e
  apply wpS_seq
  apply wpS_region
  simp [wpOpsS, go_sem, recoverD, hu, Exit.thenS, hta]
  refine wpS_of_wp ?_
  have hne01 : ¬ r0 = r1 := fun e => by have a := H0.out; rw [e, H1.out] at a; cases a
  have hne02 : ¬ r0 = r2 := fun e => by have a := H0.out; rw [e, H2.out] at a; cases a
  have hne12 : ¬ r1 = r2 := fun e => by have a := H1.out; rw [e, H2.out] at a; cases a
  have hz0 := zcell H0.out 0 _ rfl
  have hf0 := zfree H0.out 0
  have hz1 := zcell H1.out 0 _ rfl
  have hf1 := zfree H1.out 0
  have hz2 := zcell H2.out 0 _ rfl
  have hf2 := zfree H2.out 0
  have hne10 : ¬ r1 = r0 := fun e => hne01 e.symm
  have hne20 : ¬ r2 = r0 := fun e => hne02 e.symm
  have hne21 : ¬ r2 = r1 := fun e => hne12 e.symm
  go_wp2_with fail
  have c0 : Ch (fun k => k = r0) w (w.setCell ⟨r0, 0, none⟩ (.slice none 0 0)) := (Ch.refl (fun k => k = r0) w).set (p := ⟨r0, 0, none⟩) (.inl rfl) _
  have c1 : Ch (fun k => k = r1) (w.setCell ⟨r0, 0, none⟩ (.slice none 0 0)) ((w.setCell ⟨r0, 0, none⟩ (.slice none 0 0)).setCell ⟨r1, 0, none⟩ (.int .i64 n)) := (Ch.refl (fun k => k = r1) _).set (p := ⟨r1, 0, none⟩) (.inl rfl) _
  have c2 : Ch (fun k => k = r2) ((w.setCell ⟨r0, 0, none⟩ (.slice none 0 0)).setCell ⟨r1, 0, none⟩ (.int .i64 n)) (((w.setCell ⟨r0, 0, none⟩ (.slice none 0 0)).setCell ⟨r1, 0, none⟩ (.int .i64 n)).setCell ⟨r2, 0, none⟩ (.int .i64 c)) := (Ch.refl (fun k => k = r2) _).set (p := ⟨r2, 0, none⟩) (.inl rfl) _
  have a0 : (w.setCell ⟨r0, 0, none⟩ (.slice none 0 0)).heap[r0]? = some (.cells #[.slice none 0 0] 51 (0, 0)) := by simpa using zset H0.out 0 (.slice none 0 0)
  have a1 : ((w.setCell ⟨r0, 0, none⟩ (.slice none 0 0)).setCell ⟨r1, 0, none⟩ (.int .i64 n)).heap[r1]? = some (.cells #[.int .i64 n] 3 (0, 0)) := by simpa using zset (c0.heap H1.out hne10) 0 (.int .i64 n)
  have a2 : (((w.setCell ⟨r0, 0, none⟩ (.slice none 0 0)).setCell ⟨r1, 0, none⟩ (.int .i64 n)).setCell ⟨r2, 0, none⟩ (.int .i64 c)).heap[r2]? = some (.cells #[.int .i64 c] 40 (0, 0)) := by simpa using zset (c1.heap (c0.heap H2.out hne20) hne21) 0 (.int .i64 c)
  exact ⟨rfl, _, rfl, .tuple #[], by simp [results, Tryd.results37], rfl, rfl, c2.heap (c1.heap a0 hne01) hne02, c2.heap a1 hne12, a2, ((c0.mono (S' := fun k => k = r0 ∨ k = r1 ∨ k = r2) (fun k h => .inl h)).trans c1 (fun k h => .inl (.inr (.inl h)))).trans c2 (fun k h => .inl (.inr (.inr h)))⟩
set_option maxHeartbeats 2000000 in
set_option maxRecDepth 100000 in
theorem catch_idle (bp r0 r1 r2 : Nat) (w : World) : CallsD Tryd.prog 37 #[.pointer (some ⟨bp, 0, none⟩), .pointer (some ⟨r0, 0, none⟩), .pointer (some ⟨r1, 0, none⟩), .pointer (some ⟨r2, 0, none⟩)] .returning w fun e u' w' => e = .returned (.tuple #[]) ∧ u' = .returning ∧ w' = w := by
  have hta : ∀ (W : World), (Instr.typeAssert .nilIface 20 40 true).run Tryd.prog W = .ok (.tuple #[.int .i64 0, .bool false]) W := fun W => by kernel_rfl
  refine callsD_of_wpS Tryd.func37 rfl fun c₀ cs hu => ?_
  have e : ({ tmps := #[.pointer (some ⟨bp, 0, none⟩), .pointer (some ⟨r0, 0, none⟩), .pointer (some ⟨r1, 0, none⟩), .pointer (some ⟨r2, 0, none⟩)] ++ Array.replicate (Tryd.f37.ntmps - (#[.pointer (some ⟨bp, 0, none⟩), .pointer (some ⟨r0, 0, none⟩), .pointer (some ⟨r1, 0, none⟩), .pointer (some ⟨r2, 0, none⟩)] : Array Value).size) undef, defers := [] } : Act) = { tmps := #[.pointer (some ⟨bp, 0, none⟩), .pointer (some ⟨r0, 0, none⟩), .pointer (some ⟨r1, 0, none⟩), .pointer (some ⟨r2, 0, none⟩), undef, undef, undef, undef, undef, undef, undef, undef, undef, undef, undef, undef, undef], defers := [] } := by rw [Tryd.ntmps37]; rfl
  rw [e]
  clear e
  apply wpS_seq
  apply wpS_region
  simp [wpOpsS, go_sem, recoverD, hu, Exit.thenS, hta]
  refine wpS_of_wp ?_
  go_wp2_with fail
  exact ⟨rfl, .returning, by rw [← hu], .tuple #[], by simp [results, Tryd.results37], rfl, rfl, rfl⟩
theorem obind {α β : Type} (a : α) (f : α → Option β) : (some a).bind f = f a := Eq.trans (Option.bind_some a f) (Eq.refl _)
theorem txt_app (a b : List UInt8) : txt a ++ txt b = txt (a ++ b) := by
  apply ByteArray.ext
  rw [ByteArray.data_append]
  simp [txt]
theorem lit_txt (l : List UInt8) : (⟨l.toArray⟩ : ByteArray) = txt l := rfl
theorem toks_f (s : List UInt8) (h : s.length ≤ 65536) : lex_Tokens.f (txt s) = some (toksL (s.length + 1) s 1 []) := by
  unfold lex_Tokens.f
  rw [txt_list, txt_size, if_neg (by omega)]
theorem toks_big (s : List UInt8) (h : ¬ s.length ≤ 65536) : lex_Tokens.f (txt s) = some ([], 0, 5) := by
  unfold lex_Tokens.f
  rw [txt_size, if_pos (by omega)]
theorem toksL_fuel (n : Nat) : ∀ (m : Nat) (s : List UInt8) (l : Int) (out : List S98), s.length < n → s.length < m → toksL n s l out = toksL m s l out := by
  induction n with
  | zero => intro m s l out h _; omega
  | succ n ih =>
    intro m s l out h1 h2
    obtain ⟨m, rfl⟩ : ∃ q, m = q + 1 := ⟨m - 1, by omega⟩
    rw [toksL_step, toksL_step]
    have hl := sk_len s false l
    generalize (sk false s l).1 = r at hl ⊢
    generalize (sk false s l).2 = l2
    unfold tokStep
    cases r with
    | nil => rfl
    | cons c t =>
      have hne : ¬ (c :: t = []) := by simp
      rw [if_neg hne, if_neg hne]
      by_cases he : (nextL (c :: t) l2).2.1 = 0
      · rw [if_pos he, if_pos he]
        have := next_len c t l2 he
        simp at hl
        exact ih _ _ _ _ (by omega) (by omega)
      · rw [if_neg he, if_neg he]
theorem toksL_len (n : Nat) : ∀ (s : List UInt8) (l : Int) (out : List S98), (toksL n s l out).1.length ≤ out.length + s.length := by
  induction n with
  | zero => intro s l out; simp [toksL]
  | succ n ih =>
    intro s l out
    rw [toksL_step]
    have hl := sk_len s false l
    generalize (sk false s l).1 = r at hl ⊢
    generalize (sk false s l).2 = l2
    unfold tokStep
    cases r with
    | nil => rw [if_pos rfl]; simp
    | cons c t =>
      rw [if_neg (by simp)]
      by_cases he : (nextL (c :: t) l2).2.1 = 0
      · rw [if_pos he]
        have := next_len c t l2 he
        have h2 := ih (nextL (c :: t) l2).2.2 l2 (out ++ [(nextL (c :: t) l2).1])
        simp at hl h2
        omega
      · rw [if_neg he]; simp
structure Res (w : World) (r0 r1 r2 : Nat) (q : Value) (a b : Int) : Prop where
  mk ::
  h0 : w.heap[r0]? = some (.cells #[q] 51 (0, 0))
  h1 : w.heap[r1]? = some (.cells #[.int .i64 a] 3 (0, 0))
  h2 : w.heap[r2]? = some (.cells #[.int .i64 b] 40 (0, 0))
theorem Res.below {w w1 : World} {r0 r1 r2 : Nat} {q : Value} {a b : Int} (h : Res w r0 r1 r2 q a b) (hb : Below w.heap.size w w1) : Res w1 r0 r1 r2 q a b := ⟨(Ch.of_below hb (fun _ => False)).heap h.h0 (fun h => h), (Ch.of_below hb (fun _ => False)).heap h.h1 (fun h => h), (Ch.of_below hb (fun _ => False)).heap h.h2 (fun h => h)⟩
theorem Res.ch {w w1 : World} {S : Nat → Prop} {r0 r1 r2 : Nat} {q : Value} {a b : Int} (h : Res w r0 r1 r2 q a b) (hc : Ch S w w1) (n0 : ¬ S r0) (n1 : ¬ S r1) (n2 : ¬ S r2) : Res w1 r0 r1 r2 q a b := ⟨hc.heap h.h0 n0, hc.heap h.h1 n1, hc.heap h.h2 n2⟩
theorem Res.ne {w : World} {r0 r1 r2 : Nat} {q : Value} {a b : Int} (h : Res w r0 r1 r2 q a b) : (¬ r0 = r1 ∧ ¬ r0 = r2 ∧ ¬ r1 = r2) ∧ (¬ r1 = r0 ∧ ¬ r2 = r0 ∧ ¬ r2 = r1) := by
  have a1 : ¬ r0 = r1 := fun e => by have a := h.h0; rw [e, h.h1] at a; cases a
  have a2 : ¬ r0 = r2 := fun e => by have a := h.h0; rw [e, h.h2] at a; cases a
  have a3 : ¬ r1 = r2 := fun e => by have a := h.h1; rw [e, h.h2] at a; cases a
  exact ⟨⟨a1, a2, a3⟩, fun e => a1 e.symm, fun e => a2 e.symm, fun e => a3 e.symm⟩
theorem res_vals {w : World} {r0 r1 r2 : Nat} {q : Value} {a b : Int} (h : Res w r0 r1 r2 q a b) (tmps : Array Value) (e0 : tmps.getD 2 undef = .pointer (some ⟨r0, 0, none⟩)) (e1 : tmps.getD 3 undef = .pointer (some ⟨r1, 0, none⟩)) (e2 : tmps.getD 4 undef = .pointer (some ⟨r2, 0, none⟩)) :
    (results Tryd.f19 tmps).run Tryd.prog w = .ok (.tuple #[q, .int .i64 a, .int .i64 b]) w := by
  have z0 : w.cell? ⟨r0, 0, none⟩ = some q := zcell h.h0 0 _ rfl
  have z1 : w.cell? ⟨r1, 0, none⟩ = some (.int .i64 a) := zcell h.h1 0 _ rfl
  have z2 : w.cell? ⟨r2, 0, none⟩ = some (.int .i64 b) := zcell h.h2 0 _ rfl
  have l0 : (loadVar 51 ⟨r0, 0, none⟩).run Tryd.prog w = .ok q w := by simp [loadVar, go_sem, z0]
  have l1 : (loadVar 3 ⟨r1, 0, none⟩).run Tryd.prog w = .ok (.int .i64 a) w := by simp [loadVar, go_sem, z1]
  have l2 : (loadVar 40 ⟨r2, 0, none⟩).run Tryd.prog w = .ok (.int .i64 b) w := by simp [loadVar, go_sem, z2]
  unfold results
  rw [Tryd.results19]
  simp only [Array.getD_eq_getD_getElem?] at e0 e1 e2
  simp [e0, e1, e2, asAddr, l0, l1, l2]
theorem Res.write {w : World} {r0 r1 r2 : Nat} {q : Value} {a b : Int} (h : Res w r0 r1 r2 q a b) (x : Value) (a' b' : Int) :
    Res (((w.setCell ⟨r0, 0, none⟩ x).setCell ⟨r1, 0, none⟩ (.int .i64 a')).setCell ⟨r2, 0, none⟩ (.int .i64 b')) r0 r1 r2 x a' b' ∧ Ch (fun k => k = r0 ∨ k = r1 ∨ k = r2) w (((w.setCell ⟨r0, 0, none⟩ x).setCell ⟨r1, 0, none⟩ (.int .i64 a')).setCell ⟨r2, 0, none⟩ (.int .i64 b')) := by
  obtain ⟨⟨n1, n2, n3⟩, n4, n5, n6⟩ := h.ne
  have c1 : Ch (fun k => k = r0) w (w.setCell ⟨r0, 0, none⟩ x) := (Ch.refl (fun k => k = r0) w).set (p := ⟨r0, 0, none⟩) (.inl rfl) _
  have z0 : (w.setCell ⟨r0, 0, none⟩ x).heap[r0]? = some (.cells #[x] 51 (0, 0)) := by simpa using zset h.h0 0 x
  have z1 := c1.heap h.h1 n4
  have z2 := c1.heap h.h2 n5
  revert c1 z0 z1 z2
  generalize (w.setCell ⟨r0, 0, none⟩ x) = W
  intro c1 z0 z1 z2
  have c2 : Ch (fun k => k = r1) W (W.setCell ⟨r1, 0, none⟩ (.int .i64 a')) := (Ch.refl (fun k => k = r1) W).set (p := ⟨r1, 0, none⟩) (.inl rfl) _
  have c3 : Ch (fun k => k = r2) (W.setCell ⟨r1, 0, none⟩ (.int .i64 a')) ((W.setCell ⟨r1, 0, none⟩ (.int .i64 a')).setCell ⟨r2, 0, none⟩ (.int .i64 b')) := (Ch.refl (fun k => k = r2) _).set (p := ⟨r2, 0, none⟩) (.inl rfl) _
  have y1 : (W.setCell ⟨r1, 0, none⟩ (.int .i64 a')).heap[r1]? = some (.cells #[.int .i64 a'] 3 (0, 0)) := by simpa using zset z1 0 (.int .i64 a')
  have y2 : ((W.setCell ⟨r1, 0, none⟩ (.int .i64 a')).setCell ⟨r2, 0, none⟩ (.int .i64 b')).heap[r2]? = some (.cells #[.int .i64 b'] 40 (0, 0)) := by simpa using zset (c2.heap z2 n6) 0 (.int .i64 b')
  exact ⟨⟨c3.heap (c2.heap z0 n1) n2, c3.heap y1 n3, y2⟩, (c1.mono (S' := fun k => k = r0 ∨ k = r1 ∨ k = r2) (fun k h => .inl h)).trans c2 (fun k h => .inl (.inr (.inl h))) |>.trans c3 (fun k h => .inl (.inr (.inr h)))⟩
theorem Res.drew {w : World} {r0 r1 r2 : Nat} {q : Value} {a b : Int} (h : Res w r0 r1 r2 q a b) : Res w.drew r0 r1 r2 q a b := ⟨h.h0, h.h1, h.h2⟩
theorem C98_lt {w : World} {A : Option Addr} {n : Nat} {l : List S98} (h : Kd.C k98 w A n l) : ∀ ad, A = some ad → 0 < n → ad.block < w.heap.size := by
  intro ad e hp
  obtain ⟨ad', e', f⟩ := h.2.2 hp
  rw [e] at e'
  injection e' with e'
  subst e'
  have hl : 0 < l.length := by rw [h.1]; exact hp
  obtain ⟨c, h1, h2, h3⟩ := f 0 _ (List.getElem?_eq_getElem hl)
  have := k98_open h2
  subst this
  have h4 := World.block_lt_of_cell? _ _ (h3 0 _ rfl)
  rwa [addT_block] at h4
theorem TokAt.off {w w1 : World} {pb B g T : Nat} {l : List S98} {n : Int} {A : Option Addr} {m c : Nat} (h : TokAt w pb B l n) (hg : w.heap[g]? = some (.cells #[.slice A m c] T (0, 0))) (hc : Ch (fun k => k = g) w w1) (hne : g ≠ pb) (h0 : g ≠ 0) : TokAt w1 pb B l n := by
  obtain ⟨A', c', h1, h2, h3, h4⟩ := h.at_
  have hk := hc.heap h1 (fun e => hne e.symm)
  refine ⟨⟨A', c', hk, h2, C98_ch h3 hc (fun ad e hn he => ?_), h4⟩, LowT.mk' hk (LowT.of h.low h1), h.tab.ch hc (fun e => h0 e.symm), h.pos⟩
  cases l with
  | nil => simp at hn
  | cons t r =>
    obtain ⟨ad2, e2, hy0, _, _⟩ := at_T98 h3 0 (by omega) (by simp only [List.length_cons]; omega)
    rw [e] at e2
    injection e2 with e2
    subst e2
    have ez : ad.add (Int.toNat 0 * 3) = ad := by
      show ad.add 0 = ad
      unfold Addr.add; simp
    rw [ez] at hy0
    unfold World.cell? at hy0
    rw [he, hg] at hy0
    rcases ho : ad.off with _ | k
    · rw [ho] at hy0; simp at hy0
    · rw [ho] at hy0; simp at hy0
theorem tok_start {w W : World} {A : Option Addr} {c pb B : Nat} {l : List S98} (hr : Kd.C k98 w A l.length l) (hc : l.length ≤ c) (hb : Below w.heap.size w W) (hk : W.heap[pb]? = some (.cells #[.slice A l.length c, .int .i64 0] 95 (0, 0))) (hp : w.heap.size ≤ pb) (hB : w.heap.size ≤ B) (ht : Tab W) (h0 : 0 < w.heap.size) : TokAt W pb B l 0 := by
  have hlt := C98_lt hr
  refine ⟨⟨A, c, hk, hc, Kd.C_below hr hb, fun ad e hn => ?_⟩, LowT.mk' hk (fun ad e hn => ?_), ht, by omega⟩
  · have := hlt ad e hn; omega
  · have := hlt ad e hn; omega
theorem tokF_len' (s : ByteArray) : (tokF s).1.length ≤ 65536 := by
  obtain ⟨q, rfl⟩ : ∃ q, s = txt q := ⟨s.data.toList, (txt_data s).symm⟩
  unfold tokF
  rw [txt_size, txt_list]
  by_cases h : (q.length : Int) > 65536
  · rw [if_pos h]; simp
  · rw [if_neg h]
    have := toksL_len (q.length + 1) q 1 []
    simp only [List.length_nil] at this
    omega
def finS (o : Out (List Ev)) : List Ev × Int × Int := match o with
  | .inl (c, st) => ([], st.2, c)
  | .inr (l, _) => (l, 0, 0)
theorem parseS_ok {s : ByteArray} (h : (tokF s).2.2 = 0) : parseS s = finS (eventsS ((tokF s).1.length + 1) [] ((tokF s).1, 0)) := by
  unfold parseS
  rw [if_pos h]; rfl
attribute [local go_sem] Instr.field asAgg
set_option maxHeartbeats 8000000 in
set_option maxRecDepth 100000 in
theorem parse.calls (s : ByteArray) (w : World) (ht : Tab w) : Calls Tryd.prog 19 #[.string s] w fun e w' => (∃ v, e = .returned (.tuple #[v, .int .i64 (parseS s).2.1, .int .i64 (parseS s).2.2]) ∧ Kd.R kEv 60 w' w.heap.size (fun _ => True) v (parseS s).1) ∧ Below w.heap.size w w' := by
  have HTAB := Aside0.mk ht
  obtain ⟨F, hF⟩ : ∃ F, F = parseS s := ⟨_, rfl⟩
  rw [← hF]
  obtain ⟨⟨l, i, er⟩, hT⟩ : ∃ T, T = tokF s := ⟨_, rfl⟩
  have HT : Aside0 (lex_Tokens.f s = some (l, i, er)) := ⟨by rw [tok_f, hT]⟩
  have HF : Aside0 (F = if er = 0 then finS (eventsS (l.length + 1) [] (l, 0)) else ([], i, er)) := ⟨by rw [hF]; unfold parseS; rw [← hT]; rfl⟩
  have HLN : Aside0 (l.length ≤ 65536) := ⟨by have := tokF_len' s; rw [← hT] at this; exact this⟩
  have hmf : ∀ (fn : Fn) (first cap : Array Value) (w : World), (Instr.makeFunc fn first cap).run Tryd.prog w = .ok (.func fn first cap) w := fun _ _ _ _ => rfl
  clear hF hT ht
  go_enter_defers Tryd.func19, Tryd.ntmps19
  go_wp2_with (first | ((with_reducible refine gate_dst (N := 2) rfl ?_); refine box_event ?hg (N := 2) ?hd (cs := #[.slice none 0 0]) (t := 51) ?hr ?_; (case hd => rfl); (case hg => rfl); (case hr => first | (go_simp; done) | (go_simp; rfl)); intro r0 hg0 w1 hbox hb; have K0 := Aside0.mk hbox; have B1 := Aside0.mk hb; have G0 := Aside0.mk hg0; clear hbox hb hg0) | ((with_reducible refine gate_dst (N := 3) rfl ?_); refine box_event ?hg (N := 3) ?hd (cs := #[.int .i64 0]) (t := 3) ?hr ?_; (case hd => rfl); (case hg => rfl); (case hr => first | (go_simp; done) | (go_simp; rfl)); intro r1 hg1 w2 hbox hb; have K1 := Aside0.mk hbox; have B2 := Aside0.mk hb; have G1 := Aside0.mk hg1; clear hbox hb hg1) | ((with_reducible refine gate_dst (N := 4) rfl ?_); refine box_event ?hg (N := 4) ?hd (cs := #[.int .i64 0]) (t := 40) ?hr ?_; (case hd => rfl); (case hg => rfl); (case hr => first | (go_simp; done) | (go_simp; rfl)); intro r2 hg2 w3 hbox hb; have K2 := Aside0.mk hbox; have B3 := Aside0.mk hb; have G2 := Aside0.mk hg2; clear hbox hb hg2))
  have HQ : Aside0 (Res w3 r0 r1 r2 (.slice none 0 0) 0 0) := ⟨⟨(Ch.of_below B3.out (fun _ => False)).heap ((Ch.of_below B2.out (fun _ => False)).heap K0.out (fun h => h)) (fun h => h), (Ch.of_below B3.out (fun _ => False)).heap K1.out (fun h => h), K2.out⟩⟩
  have HB3 : Aside0 (Below w.heap.size w w3) := ⟨below_b (below_b B1.out B2.out B1.out.size) B3.out (Nat.le_trans B1.out.size B2.out.size)⟩
  have HG0 : Aside0 (w.heap.size ≤ r0 ∧ w.heap.size ≤ r1 ∧ w.heap.size ≤ r2) := ⟨by rw [G0.out, G1.out, G2.out]; exact ⟨Nat.le_refl _, B1.out.size, Nat.le_trans B1.out.size B2.out.size⟩⟩
  clear K0 K1 K2 B1 B2 B3 G0 G1 G2
  try go_at_call 36
  refine (lex_Tokens.calls s l i er _ HT.out).mono ?_
  rintro e w4 ⟨v, rfl, hv, hb⟩
  obtain ⟨A, c, rfl⟩ := Kd.R_slice hv
  have HV := Aside0.mk (Kd.R_bound hv)
  have HLT : Aside0 (r0 < w3.heap.size ∧ r1 < w3.heap.size ∧ r2 < w3.heap.size ∧ w.heap.size ≤ w3.heap.size ∧ 0 < w.heap.size) := ⟨lt_of_block HQ.out.h0, lt_of_block HQ.out.h1, lt_of_block HQ.out.h2, HB3.out.size, HTAB.out.2⟩
  have HQ4 := Aside0.mk (HQ.out.below hb)
  have HB4 := Aside0.mk (below_b HB3.out hb HB3.out.size)
  clear hv hb HQ HB3
  have HNE := Aside0.mk HQ4.out.ne
  have hz1 : w4.cell? ⟨r1, 0, none⟩ = some (.int .i64 0) := zcell HQ4.out.h1 0 _ rfl
  have hf1 := zfree HQ4.out.h1 0
  have hz2 : w4.cell? ⟨r2, 0, none⟩ = some (.int .i64 0) := zcell HQ4.out.h2 0 _ rfl
  have hf2 := zfree HQ4.out.h2 0
  clear hz1 hf1 hz2 hf2
  go_upto_region 2 with (first | ((with_reducible refine gate_store (p := 3) rfl ?_); refine store_seg rfl rfl 3 _ _ rfl (g := r1) (o' := 0) (.int .i64 i) [.int .i64 i] #[.int .i64 i] rfl (by first | rfl | (go_simp; done) | (go_simp; rfl)) rfl HQ4.out.h1 (by simp) rfl (by kernel_rfl) (by rfl) ?_; intro w5 h1' h2'; have K1 := Aside0.mk h1'; have HQ5 := Aside0.mk (And.intro (h2'.heap HQ4.out.h0 HNE.out.1.1) (h2'.heap HQ4.out.h2 HNE.out.2.2.2)); have HB5 := Aside0.mk (below_ch HB4.out h2' HB4.out.size (fun k e => by have := HG0.out; omega)); have HC5 := Aside0.mk h2'; clear h1' h2') | ((with_reducible refine gate_store (p := 4) rfl ?_); refine store_seg rfl rfl 40 _ _ rfl (g := r2) (o' := 0) (.int .i64 er) [.int .i64 er] #[.int .i64 er] rfl (by first | rfl | (go_simp; done) | (go_simp; rfl)) rfl HQ5.out.2 (by simp) rfl (by kernel_rfl) (by rfl) ?_; intro w6 h1' h2'; have HQ6 := Aside0.mk (Res.mk (h2'.heap HQ5.out.1 HNE.out.1.2.1) (h2'.heap K1.out HNE.out.1.2.2) h1'); have HB6 := Aside0.mk (below_ch HB5.out h2' HB5.out.size (fun k e => by have := HG0.out; omega)); have HC6 := Aside0.mk (And.intro HC5.out h2'); clear h1' h2'))
  have hv5 := R_ch HV.out HC6.out.1 (fun k hk e => by have := hk.2.1; have := HLT.out; omega)
  have hv6 := R_ch hv5 HC6.out.2 (fun k hk e => by have := hk.2.1; have := HLT.out; omega)
  have HV6 := Aside0.mk (Kd.R_reads' hv6).2
  have HTB6 : Aside0 (Tab w6) := ⟨HTAB.out.heap (HB6.out.block 0 HTAB.out.2)⟩
  clear hv5 hv6 HV HC5 HC6 K1 HQ5 HB5 HQ4 HB4
  have hy0 : w6.cell? ⟨r0, 0, none⟩ = some (.slice none 0 0) := zcell HQ6.out.h0 0 _ rfl
  have hy1 : w6.cell? ⟨r1, 0, none⟩ = some (.int .i64 i) := zcell HQ6.out.h1 0 _ rfl
  have hy2 : w6.cell? ⟨r2, 0, none⟩ = some (.int .i64 er) := zcell HQ6.out.h2 0 _ rfl
  by_cases he : er = 0
  · subst he
    have HF := Aside0.mk (HF.out.trans (if_pos rfl))
    clear hy0 hy1
    go_wp2_with (first | ((with_reducible refine gate_dst (N := 19) rfl ?_); refine box_event ?hg (N := 19) ?hd (cs := #[.slice A l.length c, .int .i64 0]) (t := 95) ?hr ?_; (case hd => rfl); (case hg => rfl); (case hr => first | (go_simp; done) | (go_simp; rfl)); intro pb hgp w7 hbox hb; have BP7 := Aside0.mk hbox; have HB7 := Aside0.mk hb; have HGP := Aside0.mk hgp; clear hbox hb hgp) | ((with_reducible refine gate_dst (N := 6) rfl ?_); refine box_event ?hg (N := 6) ?hd (cs := #[.pointer none]) (t := 93) ?hr ?_; (case hd => rfl); (case hg => rfl); (case hr => first | (go_simp; done) | (go_simp; rfl)); intro bp hgb w8 hbox hb; have BB8 := Aside0.mk hbox; have BP8 := Aside0.mk ((Ch.of_below hb (fun _ => False)).heap BP7.out (fun h => h)); have HB8 := Aside0.mk (below_b HB7.out hb HB7.out.size); have HGB := Aside0.mk (And.intro hgb HB7.out.size); clear hbox hb hgb) | ((with_reducible refine gate_store (p := 6) rfl ?_); refine store_seg rfl rfl 93 _ _ rfl (g := bp) (o' := 0) (.pointer (some ⟨pb, 0, none⟩)) [.pointer (some ⟨pb, 0, none⟩)] #[.pointer (some ⟨pb, 0, none⟩)] rfl (by first | rfl | (go_simp; done) | (go_simp; rfl)) rfl BB8.out (by simp) rfl (by kernel_rfl) (by rfl) ?_; intro w9 h1' h2'; have BB9 := Aside0.mk h1'; have BP9 := Aside0.mk (h2'.heap BP8.out (by have := lt_of_block BP7.out; have := HGB.out; omega)); have HB9 : Aside0 (Below w6.heap.size w6 w9) := ⟨below_ch HB8.out h2' HB8.out.size (fun k e => by have := HGB.out; omega)⟩; clear h1' h2'))
    have hL0 : 0 < w6.heap.size := by have := HLT.out; have := HB6.out.size; omega
    obtain ⟨B, hB⟩ : ∃ B, B = w9.heap.size := ⟨_, rfl⟩
    have HT9 : Aside0 (TokAt w9 pb B l 0) := ⟨tok_start HV6.out.2 HV6.out.1 HB9.out BP9.out (by rw [HGP.out]; exact Nat.le_refl _) (by rw [hB]; exact HB9.out.size) (HTB6.out.below HB9.out) hL0⟩
    have HQ9 := Aside0.mk (HQ6.out.below HB9.out)
    have HBW := Aside0.mk (below_b HB6.out HB9.out HB6.out.size)
    have HBB : Aside0 (pb < B ∧ bp < B ∧ pb ≠ bp ∧ B ≤ w9.heap.size ∧ w.heap.size ≤ pb ∧ w.heap.size ≤ bp) := ⟨by have := lt_of_block BP9.out; have := lt_of_block BB9.out; have := HGP.out; have := HGB.out; have := lt_of_block BP7.out; have := HB6.out.size; omega⟩
    have HRB : Aside0 (r0 < pb ∧ r1 < pb ∧ r2 < pb ∧ r0 < bp ∧ r1 < bp ∧ r2 < bp) := ⟨by have := lt_of_block HQ6.out.h0; have := lt_of_block HQ6.out.h1; have := lt_of_block HQ6.out.h2; have := HGP.out; have := HGB.out; omega⟩
    have HR9 : Aside0 (Kd.R kEv 60 w9 B (fun _ => True) (.slice none 0 0) []) := ⟨Kd.R_nil _ _ _ _ _⟩
    clear hL0 hB BP7 HB7 BP8 BB8 HB8 HGP HGB BP9 HB9 HV6 HTB6 HQ6 hy2 HT HB6
    go_loopg [21] (l.length + 1) (fun kq v21 W => ∃ (out : List Ev) (v : Value) (st' : St31), Aside0 (F = finS (eventsS kq out st')) ∧ Aside0 (st'.1.length + 1 ≤ kq) ∧ Aside0 (out.length ≤ 512) ∧ Aside0 (st'.1.length ≤ 65536) ∧ Aside0 (Res W r0 r1 r2 v i 0) ∧ Aside0 (Kd.R kEv 60 W B (fun _ => True) v out) ∧ Aside0 (TokAt W pb B st'.1 st'.2) ∧ Aside0 (W.heap[bp]? = some (.cells #[.pointer (some ⟨pb, 0, none⟩)] 93 (0, 0))) ∧ Aside0 (Below w.heap.size w W) ∧ Aside0 (B ≤ W.heap.size))
    case atStart => exact ⟨[], _, (l, 0), HF, ⟨Nat.le_refl _⟩, ⟨by simp⟩, HLN, HQ9, HR9, HT9, BB9, HBW, ⟨HBB.out.2.2.2.1⟩⟩
    case round =>
      clear HF HR9 HT9 BB9 HBW HQ9
      obtain ⟨out, v, ⟨tl, ln⟩, HFr, HKr, HOr, HLr, HQr, HRr, HTr, HPr, HBr, HSr⟩ := hrel
      obtain ⟨n, hn⟩ : ∃ n, gk = n + 1 := ⟨gk - 1, by have := HKr.out; simp at this; omega⟩
      subst hn
      obtain ⟨Av, cv, hvs⟩ := Kd.R_slice HRr.out
      subst hvs
      have hp0 : wr.cell? ⟨bp, 0, none⟩ = some (.pointer (some ⟨pb, 0, none⟩)) := zcell HPr.out 0 _ rfl
      cases tl with
      | nil =>
        have hF : F = (out, 0, 0) := by rw [HFr.out]; rfl
        subst hF
        obtain ⟨At, ct, hkt, _⟩ := HTr.out.at_
        have hx0 : wr.cell? ⟨pb, 0, none⟩ = some (.slice At 0 ct) := zcell hkt 0 _ rfl
        have hz0 : wr.cell? ⟨r0, 0, none⟩ = some (.slice Av out.length cv) := zcell HQr.out.h0 0 _ rfl
        have hf0 := zfree HQr.out.h0 0
        have hz1 : wr.cell? ⟨r1, 0, none⟩ = some (.int .i64 i) := zcell HQr.out.h1 0 _ rfl
        have hf1 := zfree HQr.out.h1 0
        have hz2 : wr.cell? ⟨r2, 0, none⟩ = some (.int .i64 0) := zcell HQr.out.h2 0 _ rfl
        have hf2 := zfree HQr.out.h2 0
        obtain ⟨⟨n1, n2, n3⟩, n4, n5, n6⟩ := HNE.out
        clear hkt HFr
        go_wp2_with fail
        refine leaves_cons (f := 37) (args := #[.pointer (some ⟨bp, 0, none⟩), .pointer (some ⟨r0, 0, none⟩), .pointer (some ⟨r1, 0, none⟩), .pointer (some ⟨r2, 0, none⟩)]) (by simp) (by simp [go_sem]) ?_
        refine (catch_idle bp r0 r1 r2 _).mono ?_
        rintro e u' w8 ⟨rfl, rfl, rfl⟩
        obtain ⟨hw, hcw⟩ := HQr.out.write (.slice Av out.length cv) 0 0
        refine ⟨_, res_vals hw _ rfl rfl rfl, ⟨_, rfl, ?_⟩, below_ch HBr.out hcw HBr.out.size (fun k h => by have := HG0.out; omega)⟩
        exact Kd.R_lower (Kd.R_mono (ok' := fun _ => True) (R_ch (Kd.R_bound HRr.out) hcw (fun k hk e => by have := hk.2.1; have := HBB.out; have := HRB.out; omega)) (fun _ _ => trivial)) (by have := HBB.out; omega)
      | cons t tr =>
        obtain ⟨At, mt, ct, hmt, hkt, _, hmt2, _⟩ := HTr.out.cons
        have hx0 : wr.cell? ⟨pb, 0, none⟩ = some (.slice (some At) mt ct) := zcell hkt 0 _ rfl
        have hmp : (0 : Int) < (mt : Int) := by omega
        have hmp0 : decide (0 < mt) = true := decide_eq_true (by omega)
        have HPK := Aside0.mk (peek.calls pb B (t :: tr, ln) _ HTr.out)
        have HFr1 : Aside0 (F = finS (if out.length < 512 then bindO (eventS (t :: tr, t.f2)) fun e st2 => eventsS n (out ++ [e]) st2 else .inl (3, (t :: tr, t.f2)))) := ⟨HFr.out⟩
        clear hkt hmt HFr
        go_wp2_with fail
        try go_at_call 38
        refine HPK.out.mono ?_
        rintro e w1' ⟨⟨v, rfl, rfl⟩, ht, hc⟩
        have HT1 := Aside0.mk ht
        have HQ1 := Aside0.mk (HQr.out.ch hc (by have := HRB.out; omega) (by have := HRB.out; omega) (by have := HRB.out; omega))
        have HP1 := Aside0.mk (hc.heap HPr.out (by have := HBB.out; omega))
        have HB1 := Aside0.mk (below_ch HBr.out hc HBr.out.size (fun k h => by have := HBB.out; omega))
        have HR1 := Aside0.mk (Kd.R_mono (ok' := fun _ => True) (R_ch (Kd.R_bound HRr.out) hc (fun k hk e => by have := hk.2.1; have := HBB.out; omega)) (fun _ _ => trivial))
        have HS1 : Aside0 (B ≤ w1'.heap.size) := ⟨Nat.le_trans HSr.out hc.size⟩
        clear ht hc hx0 hp0 HQr HPr HBr HRr HSr HTr HPK hmp hmp0
        have hz0 : w1'.cell? ⟨r0, 0, none⟩ = some (.slice Av out.length cv) := zcell HQ1.out.h0 0 _ rfl
        by_cases h5 : out.length < 512
        · have HFr2 : Aside0 (F = finS (bindO (eventS (t :: tr, t.f2)) fun e st2 => eventsS n (out ++ [e]) st2)) := ⟨by rw [HFr1.out, if_pos h5]⟩
          have hd5 : decide ((out.length : Int) < 512) = true := decide_eq_true (by omega)
          have hd50 : decide (out.length < 512) = true := decide_eq_true h5
          clear HFr1
          go_wp2_with fail
          try go_at_call 39
          refine (need_yes.calls 3 _).mono ?_
          rintro e w2' ⟨rfl, rfl⟩
          have hp1 : w1'.cell? ⟨bp, 0, none⟩ = some (.pointer (some ⟨pb, 0, none⟩)) := zcell HP1.out 0 _ rfl
          have hf0 := zfree HQ1.out.h0 0
          have HE := Aside0.mk (fun W (h : TokAt W pb B (t :: tr) t.f2) (hs : B ≤ W.heap.size) => event.calls pb B (t :: tr, t.f2) W h hs HBB.out.1 HLr.out)
          rcases hev : eventS (t :: tr, t.f2) with ⟨ce, se⟩ | ⟨ev, st5⟩
          · have hF : F = ([], se.2, ce) := by rw [HFr2.out, hev]; rfl
            subst hF
            rw [hev] at HE
            clear HFr2
            go_wp2_with fail
            refine wp_region_any (by kernel_rfl) ?_
            try (change wpAny _ _ _ _ _ _ _ (World.drew _))
            refine wpAny_ready (rs := [0, 1]) (by kernel_rfl) (by simp) ?_
            refine AllReady.cons rfl (fun K hK => ?_) ?_
            · go_simp
              refine hK _ _ ?_
              clear hK K
              refine wpAny_ready (rs := [1]) (by kernel_rfl) (by simp) ?_
              refine AllReady.cons rfl (fun K hK => ?_) ?_
              · go_simp
                refine hK _ _ ?_
                clear hK K
                refine wpAny_ready (rs := [2]) (by kernel_rfl) (by simp) ?_
                refine AllReady.cons rfl (fun K hK => ?_) ?_
                · go_simp
                  refine Calls.mono (HE.out _ ?_ ?_) ?_
                  · exact HT1.out.below (below_drew (Below.refl _ _))
                  · exact HS1.out
                  rintro e w7 ⟨rfl, ht, hc0⟩
                  have hc : Ch (fun k => k = pb) w1' w7 := (Ch.drew (Ch.refl (fun k => k = pb) w1')).trans hc0 (fun k h => .inl h)
                  clear hc0
                  refine leaves_cons (f := 37) (args := #[.pointer (some ⟨bp, 0, none⟩), .pointer (some ⟨r0, 0, none⟩), .pointer (some ⟨r1, 0, none⟩), .pointer (some ⟨r2, 0, none⟩)]) (by simp) (by simp [go_sem]) ?_
                  have HQ7 := HQ1.out.ch hc (by have := HRB.out; omega) (by have := HRB.out; omega) (by have := HRB.out; omega)
                  refine (catch_panic pb B bp r0 r1 r2 se.1 se.2 ce w7 _ _ _ ht (hc.heap HP1.out (by have := HBB.out; omega)) HQ7.h0 HQ7.h1 HQ7.h2).mono ?_
                  rintro e u' w8 ⟨rfl, rfl, k0, k1, k2, hch8⟩
                  have hb7 := below_ch HB1.out hc HB1.out.size (fun k h => by have := HBB.out; omega)
                  exact ⟨_, res_vals ⟨k0, k1, k2⟩ _ rfl rfl rfl, ⟨_, rfl, Kd.R_nil _ _ _ _ _⟩, below_ch hb7 hch8 hb7.size (fun k h => by have := HG0.out; omega)⟩
                exact AllReady.nil
              exact AllReady.nil
            refine AllReady.cons rfl (fun K hK => ?_) ?_
            · go_simp
              refine hK _ _ ?_
              clear hK K
              refine wpAny_ready (rs := [0, 2]) (by kernel_rfl) (by simp) ?_
              refine AllReady.cons rfl (fun K hK => ?_) ?_
              · go_simp
                refine hK _ _ ?_
                clear hK K
                refine wpAny_ready (rs := [2]) (by kernel_rfl) (by simp) ?_
                refine AllReady.cons rfl (fun K hK => ?_) ?_
                · go_simp
                  refine Calls.mono (HE.out _ ?_ ?_) ?_
                  · exact HT1.out.below (below_drew (Below.refl _ _))
                  · exact HS1.out
                  rintro e w7 ⟨rfl, ht, hc0⟩
                  have hc : Ch (fun k => k = pb) w1' w7 := (Ch.drew (Ch.refl (fun k => k = pb) w1')).trans hc0 (fun k h => .inl h)
                  clear hc0
                  refine leaves_cons (f := 37) (args := #[.pointer (some ⟨bp, 0, none⟩), .pointer (some ⟨r0, 0, none⟩), .pointer (some ⟨r1, 0, none⟩), .pointer (some ⟨r2, 0, none⟩)]) (by simp) (by simp [go_sem]) ?_
                  have HQ7 := HQ1.out.ch hc (by have := HRB.out; omega) (by have := HRB.out; omega) (by have := HRB.out; omega)
                  refine (catch_panic pb B bp r0 r1 r2 se.1 se.2 ce w7 _ _ _ ht (hc.heap HP1.out (by have := HBB.out; omega)) HQ7.h0 HQ7.h1 HQ7.h2).mono ?_
                  rintro e u' w8 ⟨rfl, rfl, k0, k1, k2, hch8⟩
                  have hb7 := below_ch HB1.out hc HB1.out.size (fun k h => by have := HBB.out; omega)
                  exact ⟨_, res_vals ⟨k0, k1, k2⟩ _ rfl rfl rfl, ⟨_, rfl, Kd.R_nil _ _ _ _ _⟩, below_ch hb7 hch8 hb7.size (fun k h => by have := HG0.out; omega)⟩
                exact AllReady.nil
              refine AllReady.cons rfl (fun K hK => ?_) ?_
              · go_simp
                refine Calls.mono (HE.out _ ?_ ?_) ?_
                · exact HT1.out.below (below_drew (Below.refl _ _))
                · exact HS1.out
                rintro e w7 ⟨rfl, ht, hc0⟩
                have hc : Ch (fun k => k = pb) w1' w7 := (Ch.drew (Ch.refl (fun k => k = pb) w1')).trans hc0 (fun k h => .inl h)
                clear hc0
                refine leaves_cons (f := 37) (args := #[.pointer (some ⟨bp, 0, none⟩), .pointer (some ⟨r0, 0, none⟩), .pointer (some ⟨r1, 0, none⟩), .pointer (some ⟨r2, 0, none⟩)]) (by simp) (by simp [go_sem]) ?_
                have HQ7 := HQ1.out.ch hc (by have := HRB.out; omega) (by have := HRB.out; omega) (by have := HRB.out; omega)
                refine (catch_panic pb B bp r0 r1 r2 se.1 se.2 ce w7 _ _ _ ht (hc.heap HP1.out (by have := HBB.out; omega)) HQ7.h0 HQ7.h1 HQ7.h2).mono ?_
                rintro e u' w8 ⟨rfl, rfl, k0, k1, k2, hch8⟩
                have hb7 := below_ch HB1.out hc HB1.out.size (fun k h => by have := HBB.out; omega)
                exact ⟨_, res_vals ⟨k0, k1, k2⟩ _ rfl rfl rfl, ⟨_, rfl, Kd.R_nil _ _ _ _ _⟩, below_ch hb7 hch8 hb7.size (fun k h => by have := HG0.out; omega)⟩
              exact AllReady.nil
            exact AllReady.nil
          · have HFr3 : Aside0 (F = finS (eventsS n (out ++ [ev]) st5)) := ⟨by rw [HFr2.out, hev]; rfl⟩
            have HLE : Aside0 (st5.1.length + 1 ≤ n) := ⟨by have h := eventS_len hev; have := HKr.out; simp at this h; omega⟩
            have HL5 : Aside0 (st5.1.length ≤ 65536) := ⟨by have h := eventS_len hev; have := HLr.out; simp at this h; simp; omega⟩
            rw [hev] at HE
            clear HFr2 hev
            obtain ⟨f0, f1, f2, ⟨ga, gb, gd, gm⟩, vv, bs⟩ := ev
            have HLB : Aside0 ((out.length + 1) * 88 ≤ 140737488355328) := ⟨by omega⟩
            go_wp2_with fail
            refine wp_region_any (by kernel_rfl) ?_
            try (change wpAny _ _ _ _ _ _ _ (World.drew _))
            refine wpAny_ready (rs := [0, 1]) (by kernel_rfl) (by simp) ?_
            refine AllReady.cons rfl (fun K hK => ?_) ?_
            · go_simp
              refine hK _ _ ?_
              clear hK K
              refine wpAny_ready (rs := [1]) (by kernel_rfl) (by simp) ?_
              refine AllReady.cons rfl (fun K hK => ?_) ?_
              · go_simp
                refine hK _ _ ?_
                clear hK K
                refine wpAny_ready (rs := [2]) (by kernel_rfl) (by simp) ?_
                refine AllReady.cons rfl (fun K hK => ?_) ?_
                · go_simp
                  refine Calls.mono (HE.out _ ?_ ?_) ?_
                  · exact HT1.out.below (below_drew (Below.refl _ _))
                  · exact HS1.out
                  rintro e w7 ⟨⟨v, rfl, ⟨vs, rfl, hrv⟩⟩, ht, hc0⟩
                  have hc : Ch (fun k => k = pb) w1' w7 := (Ch.drew (Ch.refl (fun k => k = pb) w1')).trans hc0 (fun k h => .inl h)
                  have HQ7 := Aside0.mk (HQ1.out.ch hc (by have := HRB.out; omega) (by have := HRB.out; omega) (by have := HRB.out; omega))
                  have HP7 := Aside0.mk (hc.heap HP1.out (by have := HBB.out; omega))
                  have HB7 := Aside0.mk (below_ch HB1.out hc HB1.out.size (fun k h => by have := HBB.out; omega))
                  have HR7 := Aside0.mk (Kd.R_mono (ok' := fun _ => True) (R_ch (Kd.R_bound HR1.out) hc (fun k hk e => by have := hk.2.1; have := HBB.out; omega)) (fun _ _ => trivial))
                  have HS7 : Aside0 (B ≤ w7.heap.size ∧ w1'.heap.size ≤ w7.heap.size) := ⟨Nat.le_trans HS1.out hc.size, hc.size⟩
                  have HV7 := Aside0.mk (Kd.R_lower (Kd.R_bound hrv) (show B ≤ w1'.drew.heap.size from HS1.out))
                  have HT7 := Aside0.mk ht
                  have hy0 : w7.cell? ⟨r0, 0, none⟩ = some (.slice Av out.length cv) := zcell HQ7.out.h0 0 _ rfl
                  have hya : (w7.alloc (.cells (evA ⟨f0, f1, f2, ⟨ga, gb, gd, gm⟩, vv, bs⟩ vs) 60)).cell? ⟨r0, 0, none⟩ = some (.slice Av out.length cv) := zcell (keep_al HQ7.out.h0) 0 _ rfl
                  clear hc hc0 ht hrv
                  unfold evA at hya ⊢
                  simp only [] at hya ⊢
                  go_simp
                  refine hK _ _ ?_
                  clear hK K
                  refine wpAny_ready (rs := [3]) (by kernel_rfl) (by simp) ?_
                  refine AllReady.cons rfl (fun K hK => ?_) ?_
                  · go_simp
                    refine hK _ _ ?_
                    clear hK K
                    refine wpAny_ready (rs := [4]) (by kernel_rfl) (by simp) ?_
                    refine AllReady.cons rfl (fun K hK => ?_) ?_
                    · refine Kd.R_append_step kEv (w0 := w7) (W := w7) B (by simp [Region.wanted]) (.tmp 33) (.tmp 36) 51 60 (.agg #[.int .i64 0, .int .i64 0, .int .i64 0, .int .i64 0, .int .i64 0, .int .i64 0, .int .i64 0, .int .i64 0, .slice none 0 0]) 88 rfl Tryd.underlying51 info60 rfl (by decide) (by decide) (.slice Av out.length cv) out ⟨f0, f1, f2, ⟨ga, gb, gd, gm⟩, vv, bs⟩ [.int .i64 f0, .int .i64 f1, .int .i64 f2, .int .i64 ga, .int .i64 gb, .int .i64 gd, .int .i64 gm, .int .i64 vv, vs] (fun _ => True) (fun k => True ∧ w1'.heap.size ≤ k) ?hs ?hx ?hp ?hk (fun _ _ => trivial) HR7.out (Below.refl _ _) HS7.out.1 HLB.out ?_
                      case hs => first | (go_simp; done) | (go_simp; rfl)
                      case hx => first | (go_simp; done) | (go_simp; rfl)
                      case hp => exact kEv_mkM w7 B _ ⟨f0, f1, f2, ⟨ga, gb, gd, gm⟩, vv, bs⟩ (Kd.R_mono HV7.out (fun k hk => ⟨trivial, hk.2.1⟩))
                      case hk => exact fun k hk => ⟨trivial, fun e => by have h1 := ((Kd.R_bound HR1.out).1 k e.symm).2.2.1; have h2 := hk.2; omega⟩
                      intro v1 w8 hR hB hG _
                      refine hK _ _ ?_
                      clear hK K hya hy0 hG
                      obtain ⟨A1, c1, hv1⟩ := Kd.R_slice hR
                      obtain ⟨m1, hm1⟩ : ∃ m, m = (out ++ [(⟨f0, f1, f2, ⟨ga, gb, gd, gm⟩, vv, bs⟩ : Ev)]).length := ⟨_, rfl⟩
                      rw [← hm1] at hv1
                      subst hv1
                      clear hm1
                      have hcb := Ch.of_belowB hB
                      have HQ8 := Aside0.mk (HQ7.out.ch hcb (by have := HBB.out; have := HRB.out; omega) (by have := HBB.out; have := HRB.out; omega) (by have := HBB.out; have := HRB.out; omega))
                      have HP8 := Aside0.mk (hcb.heap HP7.out (by have := HBB.out; omega))
                      have HT8 := Aside0.mk (HT7.out.above hcb (Nat.le_refl _) HBB.out.1)
                      have HB8 := Aside0.mk (below_ch HB7.out hcb HB7.out.size (fun k h => by have := HBB.out; omega))
                      have HS8 : Aside0 (B ≤ w8.heap.size) := ⟨Nat.le_trans HS7.out.1 hcb.size⟩
                      have HR8 := Aside0.mk (Kd.R_bound hR)
                      have hz8 : w8.cell? ⟨r0, 0, none⟩ = some (.slice Av out.length cv) := zcell HQ8.out.h0 0 _ rfl
                      have hf8 := zfree HQ8.out.h0 0
                      clear hR hB hcb
                      refine wpAny_ready (rs := [5]) (by kernel_rfl) (by simp) ?_
                      refine AllReady.cons rfl (fun K hK => ?_) ?_
                      · go_simp
                        refine hK _ _ ?_
                        clear hK K
                        refine wpAny_done (by kernel_rfl) ?_ _
                        clear hz8 hf8 hz0 hp1 hf0 hd5 hd50
                        go_wp2_with fail
                        have hcs : Ch (fun k => k = r0) w8 (w8.setCell ⟨r0, 0, none⟩ (.slice A1 m1 c1)) := (Ch.refl (fun k => k = r0) w8).set (p := ⟨r0, 0, none⟩) (.inl rfl) _
                        have hk0 : (w8.setCell ⟨r0, 0, none⟩ (.slice A1 m1 c1)).heap[r0]? = some (.cells #[.slice A1 m1 c1] 51 (0, 0)) := by simpa using zset HQ8.out.h0 0 (.slice A1 m1 c1)
                        have HQ9 : Aside0 (Res (w8.setCell ⟨r0, 0, none⟩ (.slice A1 m1 c1)) r0 r1 r2 (.slice A1 m1 c1) i 0) := ⟨⟨hk0, hcs.heap HQ8.out.h1 HNE.out.2.1, hcs.heap HQ8.out.h2 HNE.out.2.2.1⟩⟩
                        have HR9 := Aside0.mk (Kd.R_mono (ok' := fun _ => True) (R_ch HR8.out hcs (fun k hk e => by have := hk.2.1; have := HBB.out; have := HRB.out; omega)) (fun _ _ => trivial))
                        have HT9 := Aside0.mk (HT8.out.off HQ8.out.h0 hcs (by have := HRB.out; omega) (by have := HG0.out; have := HLT.out; omega))
                        have HP9 := Aside0.mk (hcs.heap HP8.out (by have := HRB.out; omega))
                        have HB9 := Aside0.mk (below_ch HB8.out hcs HB8.out.size (fun k h => by have := HG0.out; omega))
                        have HS9 : Aside0 (B ≤ (w8.setCell ⟨r0, 0, none⟩ (.slice A1 m1 c1)).heap.size) := ⟨Nat.le_trans HS8.out hcs.size⟩
                        clear hcs hk0
                        have hgn := HLE.out
                        go_roundg n
                        case measure => omega
                        case rel => exact ⟨out ++ [⟨f0, f1, f2, ⟨ga, gb, gd, gm⟩, vv, bs⟩], _, st5, HFr3, HLE, ⟨by simp; omega⟩, HL5, HQ9, HR9, HT9, HP9, HB9, HS9⟩
                      exact AllReady.nil
                    exact AllReady.nil
                  exact AllReady.nil
                exact AllReady.nil
              exact AllReady.nil
            refine AllReady.cons rfl (fun K hK => ?_) ?_
            · go_simp
              refine hK _ _ ?_
              clear hK K
              refine wpAny_ready (rs := [0, 2]) (by kernel_rfl) (by simp) ?_
              refine AllReady.cons rfl (fun K hK => ?_) ?_
              · go_simp
                refine hK _ _ ?_
                clear hK K
                refine wpAny_ready (rs := [2]) (by kernel_rfl) (by simp) ?_
                refine AllReady.cons rfl (fun K hK => ?_) ?_
                · go_simp
                  refine Calls.mono (HE.out _ ?_ ?_) ?_
                  · exact HT1.out.below (below_drew (Below.refl _ _))
                  · exact HS1.out
                  rintro e w7 ⟨⟨v, rfl, ⟨vs, rfl, hrv⟩⟩, ht, hc0⟩
                  have hc : Ch (fun k => k = pb) w1' w7 := (Ch.drew (Ch.refl (fun k => k = pb) w1')).trans hc0 (fun k h => .inl h)
                  have HQ7 := Aside0.mk (HQ1.out.ch hc (by have := HRB.out; omega) (by have := HRB.out; omega) (by have := HRB.out; omega))
                  have HP7 := Aside0.mk (hc.heap HP1.out (by have := HBB.out; omega))
                  have HB7 := Aside0.mk (below_ch HB1.out hc HB1.out.size (fun k h => by have := HBB.out; omega))
                  have HR7 := Aside0.mk (Kd.R_mono (ok' := fun _ => True) (R_ch (Kd.R_bound HR1.out) hc (fun k hk e => by have := hk.2.1; have := HBB.out; omega)) (fun _ _ => trivial))
                  have HS7 : Aside0 (B ≤ w7.heap.size ∧ w1'.heap.size ≤ w7.heap.size) := ⟨Nat.le_trans HS1.out hc.size, hc.size⟩
                  have HV7 := Aside0.mk (Kd.R_lower (Kd.R_bound hrv) (show B ≤ w1'.drew.heap.size from HS1.out))
                  have HT7 := Aside0.mk ht
                  have hy0 : w7.cell? ⟨r0, 0, none⟩ = some (.slice Av out.length cv) := zcell HQ7.out.h0 0 _ rfl
                  have hya : (w7.alloc (.cells (evA ⟨f0, f1, f2, ⟨ga, gb, gd, gm⟩, vv, bs⟩ vs) 60)).cell? ⟨r0, 0, none⟩ = some (.slice Av out.length cv) := zcell (keep_al HQ7.out.h0) 0 _ rfl
                  clear hc hc0 ht hrv
                  unfold evA at hya ⊢
                  simp only [] at hya ⊢
                  go_simp
                  refine hK _ _ ?_
                  clear hK K
                  refine wpAny_ready (rs := [3]) (by kernel_rfl) (by simp) ?_
                  refine AllReady.cons rfl (fun K hK => ?_) ?_
                  · go_simp
                    refine hK _ _ ?_
                    clear hK K
                    refine wpAny_ready (rs := [4]) (by kernel_rfl) (by simp) ?_
                    refine AllReady.cons rfl (fun K hK => ?_) ?_
                    · refine Kd.R_append_step kEv (w0 := w7) (W := w7) B (by simp [Region.wanted]) (.tmp 33) (.tmp 36) 51 60 (.agg #[.int .i64 0, .int .i64 0, .int .i64 0, .int .i64 0, .int .i64 0, .int .i64 0, .int .i64 0, .int .i64 0, .slice none 0 0]) 88 rfl Tryd.underlying51 info60 rfl (by decide) (by decide) (.slice Av out.length cv) out ⟨f0, f1, f2, ⟨ga, gb, gd, gm⟩, vv, bs⟩ [.int .i64 f0, .int .i64 f1, .int .i64 f2, .int .i64 ga, .int .i64 gb, .int .i64 gd, .int .i64 gm, .int .i64 vv, vs] (fun _ => True) (fun k => True ∧ w1'.heap.size ≤ k) ?hs ?hx ?hp ?hk (fun _ _ => trivial) HR7.out (Below.refl _ _) HS7.out.1 HLB.out ?_
                      case hs => first | (go_simp; done) | (go_simp; rfl)
                      case hx => first | (go_simp; done) | (go_simp; rfl)
                      case hp => exact kEv_mkM w7 B _ ⟨f0, f1, f2, ⟨ga, gb, gd, gm⟩, vv, bs⟩ (Kd.R_mono HV7.out (fun k hk => ⟨trivial, hk.2.1⟩))
                      case hk => exact fun k hk => ⟨trivial, fun e => by have h1 := ((Kd.R_bound HR1.out).1 k e.symm).2.2.1; have h2 := hk.2; omega⟩
                      intro v1 w8 hR hB hG _
                      refine hK _ _ ?_
                      clear hK K hya hy0 hG
                      obtain ⟨A1, c1, hv1⟩ := Kd.R_slice hR
                      obtain ⟨m1, hm1⟩ : ∃ m, m = (out ++ [(⟨f0, f1, f2, ⟨ga, gb, gd, gm⟩, vv, bs⟩ : Ev)]).length := ⟨_, rfl⟩
                      rw [← hm1] at hv1
                      subst hv1
                      clear hm1
                      have hcb := Ch.of_belowB hB
                      have HQ8 := Aside0.mk (HQ7.out.ch hcb (by have := HBB.out; have := HRB.out; omega) (by have := HBB.out; have := HRB.out; omega) (by have := HBB.out; have := HRB.out; omega))
                      have HP8 := Aside0.mk (hcb.heap HP7.out (by have := HBB.out; omega))
                      have HT8 := Aside0.mk (HT7.out.above hcb (Nat.le_refl _) HBB.out.1)
                      have HB8 := Aside0.mk (below_ch HB7.out hcb HB7.out.size (fun k h => by have := HBB.out; omega))
                      have HS8 : Aside0 (B ≤ w8.heap.size) := ⟨Nat.le_trans HS7.out.1 hcb.size⟩
                      have HR8 := Aside0.mk (Kd.R_bound hR)
                      have hz8 : w8.cell? ⟨r0, 0, none⟩ = some (.slice Av out.length cv) := zcell HQ8.out.h0 0 _ rfl
                      have hf8 := zfree HQ8.out.h0 0
                      clear hR hB hcb
                      refine wpAny_ready (rs := [5]) (by kernel_rfl) (by simp) ?_
                      refine AllReady.cons rfl (fun K hK => ?_) ?_
                      · go_simp
                        refine hK _ _ ?_
                        clear hK K
                        refine wpAny_done (by kernel_rfl) ?_ _
                        clear hz8 hf8 hz0 hp1 hf0 hd5 hd50
                        go_wp2_with fail
                        have hcs : Ch (fun k => k = r0) w8 (w8.setCell ⟨r0, 0, none⟩ (.slice A1 m1 c1)) := (Ch.refl (fun k => k = r0) w8).set (p := ⟨r0, 0, none⟩) (.inl rfl) _
                        have hk0 : (w8.setCell ⟨r0, 0, none⟩ (.slice A1 m1 c1)).heap[r0]? = some (.cells #[.slice A1 m1 c1] 51 (0, 0)) := by simpa using zset HQ8.out.h0 0 (.slice A1 m1 c1)
                        have HQ9 : Aside0 (Res (w8.setCell ⟨r0, 0, none⟩ (.slice A1 m1 c1)) r0 r1 r2 (.slice A1 m1 c1) i 0) := ⟨⟨hk0, hcs.heap HQ8.out.h1 HNE.out.2.1, hcs.heap HQ8.out.h2 HNE.out.2.2.1⟩⟩
                        have HR9 := Aside0.mk (Kd.R_mono (ok' := fun _ => True) (R_ch HR8.out hcs (fun k hk e => by have := hk.2.1; have := HBB.out; have := HRB.out; omega)) (fun _ _ => trivial))
                        have HT9 := Aside0.mk (HT8.out.off HQ8.out.h0 hcs (by have := HRB.out; omega) (by have := HG0.out; have := HLT.out; omega))
                        have HP9 := Aside0.mk (hcs.heap HP8.out (by have := HRB.out; omega))
                        have HB9 := Aside0.mk (below_ch HB8.out hcs HB8.out.size (fun k h => by have := HG0.out; omega))
                        have HS9 : Aside0 (B ≤ (w8.setCell ⟨r0, 0, none⟩ (.slice A1 m1 c1)).heap.size) := ⟨Nat.le_trans HS8.out hcs.size⟩
                        clear hcs hk0
                        have hgn := HLE.out
                        go_roundg n
                        case measure => omega
                        case rel => exact ⟨out ++ [⟨f0, f1, f2, ⟨ga, gb, gd, gm⟩, vv, bs⟩], _, st5, HFr3, HLE, ⟨by simp; omega⟩, HL5, HQ9, HR9, HT9, HP9, HB9, HS9⟩
                      exact AllReady.nil
                    exact AllReady.nil
                  exact AllReady.nil
                exact AllReady.nil
              refine AllReady.cons rfl (fun K hK => ?_) ?_
              · go_simp
                refine Calls.mono (HE.out _ ?_ ?_) ?_
                · exact HT1.out.below (below_drew (Below.refl _ _))
                · exact HS1.out
                rintro e w7 ⟨⟨v, rfl, ⟨vs, rfl, hrv⟩⟩, ht, hc0⟩
                have hc : Ch (fun k => k = pb) w1' w7 := (Ch.drew (Ch.refl (fun k => k = pb) w1')).trans hc0 (fun k h => .inl h)
                have HQ7 := Aside0.mk (HQ1.out.ch hc (by have := HRB.out; omega) (by have := HRB.out; omega) (by have := HRB.out; omega))
                have HP7 := Aside0.mk (hc.heap HP1.out (by have := HBB.out; omega))
                have HB7 := Aside0.mk (below_ch HB1.out hc HB1.out.size (fun k h => by have := HBB.out; omega))
                have HR7 := Aside0.mk (Kd.R_mono (ok' := fun _ => True) (R_ch (Kd.R_bound HR1.out) hc (fun k hk e => by have := hk.2.1; have := HBB.out; omega)) (fun _ _ => trivial))
                have HS7 : Aside0 (B ≤ w7.heap.size ∧ w1'.heap.size ≤ w7.heap.size) := ⟨Nat.le_trans HS1.out hc.size, hc.size⟩
                have HV7 := Aside0.mk (Kd.R_lower (Kd.R_bound hrv) (show B ≤ w1'.drew.heap.size from HS1.out))
                have HT7 := Aside0.mk ht
                have hy0 : w7.cell? ⟨r0, 0, none⟩ = some (.slice Av out.length cv) := zcell HQ7.out.h0 0 _ rfl
                have hya : (w7.alloc (.cells (evA ⟨f0, f1, f2, ⟨ga, gb, gd, gm⟩, vv, bs⟩ vs) 60)).cell? ⟨r0, 0, none⟩ = some (.slice Av out.length cv) := zcell (keep_al HQ7.out.h0) 0 _ rfl
                clear hc hc0 ht hrv
                unfold evA at hya ⊢
                simp only [] at hya ⊢
                go_simp
                refine hK _ _ ?_
                clear hK K
                refine wpAny_ready (rs := [0, 3]) (by kernel_rfl) (by simp) ?_
                refine AllReady.cons rfl (fun K hK => ?_) ?_
                · go_simp
                  refine hK _ _ ?_
                  clear hK K
                  refine wpAny_ready (rs := [3]) (by kernel_rfl) (by simp) ?_
                  refine AllReady.cons rfl (fun K hK => ?_) ?_
                  · go_simp
                    refine hK _ _ ?_
                    clear hK K
                    refine wpAny_ready (rs := [4]) (by kernel_rfl) (by simp) ?_
                    refine AllReady.cons rfl (fun K hK => ?_) ?_
                    · refine Kd.R_append_step kEv (w0 := w7) (W := w7) B (by simp [Region.wanted]) (.tmp 33) (.tmp 36) 51 60 (.agg #[.int .i64 0, .int .i64 0, .int .i64 0, .int .i64 0, .int .i64 0, .int .i64 0, .int .i64 0, .int .i64 0, .slice none 0 0]) 88 rfl Tryd.underlying51 info60 rfl (by decide) (by decide) (.slice Av out.length cv) out ⟨f0, f1, f2, ⟨ga, gb, gd, gm⟩, vv, bs⟩ [.int .i64 f0, .int .i64 f1, .int .i64 f2, .int .i64 ga, .int .i64 gb, .int .i64 gd, .int .i64 gm, .int .i64 vv, vs] (fun _ => True) (fun k => True ∧ w1'.heap.size ≤ k) ?hs ?hx ?hp ?hk (fun _ _ => trivial) HR7.out (Below.refl _ _) HS7.out.1 HLB.out ?_
                      case hs => first | (go_simp; done) | (go_simp; rfl)
                      case hx => first | (go_simp; done) | (go_simp; rfl)
                      case hp => exact kEv_mkM w7 B _ ⟨f0, f1, f2, ⟨ga, gb, gd, gm⟩, vv, bs⟩ (Kd.R_mono HV7.out (fun k hk => ⟨trivial, hk.2.1⟩))
                      case hk => exact fun k hk => ⟨trivial, fun e => by have h1 := ((Kd.R_bound HR1.out).1 k e.symm).2.2.1; have h2 := hk.2; omega⟩
                      intro v1 w8 hR hB hG _
                      refine hK _ _ ?_
                      clear hK K hya hy0 hG
                      obtain ⟨A1, c1, hv1⟩ := Kd.R_slice hR
                      obtain ⟨m1, hm1⟩ : ∃ m, m = (out ++ [(⟨f0, f1, f2, ⟨ga, gb, gd, gm⟩, vv, bs⟩ : Ev)]).length := ⟨_, rfl⟩
                      rw [← hm1] at hv1
                      subst hv1
                      clear hm1
                      have hcb := Ch.of_belowB hB
                      have HQ8 := Aside0.mk (HQ7.out.ch hcb (by have := HBB.out; have := HRB.out; omega) (by have := HBB.out; have := HRB.out; omega) (by have := HBB.out; have := HRB.out; omega))
                      have HP8 := Aside0.mk (hcb.heap HP7.out (by have := HBB.out; omega))
                      have HT8 := Aside0.mk (HT7.out.above hcb (Nat.le_refl _) HBB.out.1)
                      have HB8 := Aside0.mk (below_ch HB7.out hcb HB7.out.size (fun k h => by have := HBB.out; omega))
                      have HS8 : Aside0 (B ≤ w8.heap.size) := ⟨Nat.le_trans HS7.out.1 hcb.size⟩
                      have HR8 := Aside0.mk (Kd.R_bound hR)
                      have hz8 : w8.cell? ⟨r0, 0, none⟩ = some (.slice Av out.length cv) := zcell HQ8.out.h0 0 _ rfl
                      have hf8 := zfree HQ8.out.h0 0
                      clear hR hB hcb
                      refine wpAny_ready (rs := [5]) (by kernel_rfl) (by simp) ?_
                      refine AllReady.cons rfl (fun K hK => ?_) ?_
                      · go_simp
                        refine hK _ _ ?_
                        clear hK K
                        refine wpAny_done (by kernel_rfl) ?_ _
                        clear hz8 hf8 hz0 hp1 hf0 hd5 hd50
                        go_wp2_with fail
                        have hcs : Ch (fun k => k = r0) w8 (w8.setCell ⟨r0, 0, none⟩ (.slice A1 m1 c1)) := (Ch.refl (fun k => k = r0) w8).set (p := ⟨r0, 0, none⟩) (.inl rfl) _
                        have hk0 : (w8.setCell ⟨r0, 0, none⟩ (.slice A1 m1 c1)).heap[r0]? = some (.cells #[.slice A1 m1 c1] 51 (0, 0)) := by simpa using zset HQ8.out.h0 0 (.slice A1 m1 c1)
                        have HQ9 : Aside0 (Res (w8.setCell ⟨r0, 0, none⟩ (.slice A1 m1 c1)) r0 r1 r2 (.slice A1 m1 c1) i 0) := ⟨⟨hk0, hcs.heap HQ8.out.h1 HNE.out.2.1, hcs.heap HQ8.out.h2 HNE.out.2.2.1⟩⟩
                        have HR9 := Aside0.mk (Kd.R_mono (ok' := fun _ => True) (R_ch HR8.out hcs (fun k hk e => by have := hk.2.1; have := HBB.out; have := HRB.out; omega)) (fun _ _ => trivial))
                        have HT9 := Aside0.mk (HT8.out.off HQ8.out.h0 hcs (by have := HRB.out; omega) (by have := HG0.out; have := HLT.out; omega))
                        have HP9 := Aside0.mk (hcs.heap HP8.out (by have := HRB.out; omega))
                        have HB9 := Aside0.mk (below_ch HB8.out hcs HB8.out.size (fun k h => by have := HG0.out; omega))
                        have HS9 : Aside0 (B ≤ (w8.setCell ⟨r0, 0, none⟩ (.slice A1 m1 c1)).heap.size) := ⟨Nat.le_trans HS8.out hcs.size⟩
                        clear hcs hk0
                        have hgn := HLE.out
                        go_roundg n
                        case measure => omega
                        case rel => exact ⟨out ++ [⟨f0, f1, f2, ⟨ga, gb, gd, gm⟩, vv, bs⟩], _, st5, HFr3, HLE, ⟨by simp; omega⟩, HL5, HQ9, HR9, HT9, HP9, HB9, HS9⟩
                      exact AllReady.nil
                    exact AllReady.nil
                  exact AllReady.nil
                refine AllReady.cons rfl (fun K hK => ?_) ?_
                · go_simp
                  refine hK _ _ ?_
                  clear hK K
                  refine wpAny_ready (rs := [0]) (by kernel_rfl) (by simp) ?_
                  refine AllReady.cons rfl (fun K hK => ?_) ?_
                  · go_simp
                    refine hK _ _ ?_
                    clear hK K
                    refine wpAny_ready (rs := [4]) (by kernel_rfl) (by simp) ?_
                    refine AllReady.cons rfl (fun K hK => ?_) ?_
                    · refine Kd.R_append_step kEv (w0 := w7) (W := w7) B (by simp [Region.wanted]) (.tmp 33) (.tmp 36) 51 60 (.agg #[.int .i64 0, .int .i64 0, .int .i64 0, .int .i64 0, .int .i64 0, .int .i64 0, .int .i64 0, .int .i64 0, .slice none 0 0]) 88 rfl Tryd.underlying51 info60 rfl (by decide) (by decide) (.slice Av out.length cv) out ⟨f0, f1, f2, ⟨ga, gb, gd, gm⟩, vv, bs⟩ [.int .i64 f0, .int .i64 f1, .int .i64 f2, .int .i64 ga, .int .i64 gb, .int .i64 gd, .int .i64 gm, .int .i64 vv, vs] (fun _ => True) (fun k => True ∧ w1'.heap.size ≤ k) ?hs ?hx ?hp ?hk (fun _ _ => trivial) HR7.out (Below.refl _ _) HS7.out.1 HLB.out ?_
                      case hs => first | (go_simp; done) | (go_simp; rfl)
                      case hx => first | (go_simp; done) | (go_simp; rfl)
                      case hp => exact kEv_mkM w7 B _ ⟨f0, f1, f2, ⟨ga, gb, gd, gm⟩, vv, bs⟩ (Kd.R_mono HV7.out (fun k hk => ⟨trivial, hk.2.1⟩))
                      case hk => exact fun k hk => ⟨trivial, fun e => by have h1 := ((Kd.R_bound HR1.out).1 k e.symm).2.2.1; have h2 := hk.2; omega⟩
                      intro v1 w8 hR hB hG _
                      refine hK _ _ ?_
                      clear hK K hya hy0 hG
                      obtain ⟨A1, c1, hv1⟩ := Kd.R_slice hR
                      obtain ⟨m1, hm1⟩ : ∃ m, m = (out ++ [(⟨f0, f1, f2, ⟨ga, gb, gd, gm⟩, vv, bs⟩ : Ev)]).length := ⟨_, rfl⟩
                      rw [← hm1] at hv1
                      subst hv1
                      clear hm1
                      have hcb := Ch.of_belowB hB
                      have HQ8 := Aside0.mk (HQ7.out.ch hcb (by have := HBB.out; have := HRB.out; omega) (by have := HBB.out; have := HRB.out; omega) (by have := HBB.out; have := HRB.out; omega))
                      have HP8 := Aside0.mk (hcb.heap HP7.out (by have := HBB.out; omega))
                      have HT8 := Aside0.mk (HT7.out.above hcb (Nat.le_refl _) HBB.out.1)
                      have HB8 := Aside0.mk (below_ch HB7.out hcb HB7.out.size (fun k h => by have := HBB.out; omega))
                      have HS8 : Aside0 (B ≤ w8.heap.size) := ⟨Nat.le_trans HS7.out.1 hcb.size⟩
                      have HR8 := Aside0.mk (Kd.R_bound hR)
                      have hz8 : w8.cell? ⟨r0, 0, none⟩ = some (.slice Av out.length cv) := zcell HQ8.out.h0 0 _ rfl
                      have hf8 := zfree HQ8.out.h0 0
                      clear hR hB hcb
                      refine wpAny_ready (rs := [5]) (by kernel_rfl) (by simp) ?_
                      refine AllReady.cons rfl (fun K hK => ?_) ?_
                      · go_simp
                        refine hK _ _ ?_
                        clear hK K
                        refine wpAny_done (by kernel_rfl) ?_ _
                        clear hz8 hf8 hz0 hp1 hf0 hd5 hd50
                        go_wp2_with fail
                        have hcs : Ch (fun k => k = r0) w8 (w8.setCell ⟨r0, 0, none⟩ (.slice A1 m1 c1)) := (Ch.refl (fun k => k = r0) w8).set (p := ⟨r0, 0, none⟩) (.inl rfl) _
                        have hk0 : (w8.setCell ⟨r0, 0, none⟩ (.slice A1 m1 c1)).heap[r0]? = some (.cells #[.slice A1 m1 c1] 51 (0, 0)) := by simpa using zset HQ8.out.h0 0 (.slice A1 m1 c1)
                        have HQ9 : Aside0 (Res (w8.setCell ⟨r0, 0, none⟩ (.slice A1 m1 c1)) r0 r1 r2 (.slice A1 m1 c1) i 0) := ⟨⟨hk0, hcs.heap HQ8.out.h1 HNE.out.2.1, hcs.heap HQ8.out.h2 HNE.out.2.2.1⟩⟩
                        have HR9 := Aside0.mk (Kd.R_mono (ok' := fun _ => True) (R_ch HR8.out hcs (fun k hk e => by have := hk.2.1; have := HBB.out; have := HRB.out; omega)) (fun _ _ => trivial))
                        have HT9 := Aside0.mk (HT8.out.off HQ8.out.h0 hcs (by have := HRB.out; omega) (by have := HG0.out; have := HLT.out; omega))
                        have HP9 := Aside0.mk (hcs.heap HP8.out (by have := HRB.out; omega))
                        have HB9 := Aside0.mk (below_ch HB8.out hcs HB8.out.size (fun k h => by have := HG0.out; omega))
                        have HS9 : Aside0 (B ≤ (w8.setCell ⟨r0, 0, none⟩ (.slice A1 m1 c1)).heap.size) := ⟨Nat.le_trans HS8.out hcs.size⟩
                        clear hcs hk0
                        have hgn := HLE.out
                        go_roundg n
                        case measure => omega
                        case rel => exact ⟨out ++ [⟨f0, f1, f2, ⟨ga, gb, gd, gm⟩, vv, bs⟩], _, st5, HFr3, HLE, ⟨by simp; omega⟩, HL5, HQ9, HR9, HT9, HP9, HB9, HS9⟩
                      exact AllReady.nil
                    exact AllReady.nil
                  exact AllReady.nil
                exact AllReady.nil
              exact AllReady.nil
            exact AllReady.nil
        · have hF : F = ([], t.f2, 3) := by rw [HFr1.out, if_neg h5]; rfl
          subst hF
          have hd5 : decide ((out.length : Int) < 512) = false := decide_eq_false (by omega)
          have hd50 : decide (out.length < 512) = false := decide_eq_false h5
          clear HFr1
          go_wp2_with fail
          try go_at_call 39
          refine (need_no.calls 3 _).mono ?_
          rintro e w2' ⟨rfl, rfl⟩
          refine leaves_cons (f := 37) (args := #[.pointer (some ⟨bp, 0, none⟩), .pointer (some ⟨r0, 0, none⟩), .pointer (some ⟨r1, 0, none⟩), .pointer (some ⟨r2, 0, none⟩)]) (by simp) (by simp [go_sem]) ?_
          refine (catch_panic pb B bp r0 r1 r2 (t :: tr) t.f2 3 w1' _ _ _ HT1.out HP1.out HQ1.out.h0 HQ1.out.h1 HQ1.out.h2).mono ?_
          rintro e u' w8 ⟨rfl, rfl, k0, k1, k2, hch8⟩
          exact ⟨_, res_vals ⟨k0, k1, k2⟩ _ rfl rfl rfl, ⟨_, rfl, Kd.R_nil _ _ _ _ _⟩, below_ch HB1.out hch8 HB1.out.size (fun k h => by have := HG0.out; omega)⟩
  · have hF : F = ([], i, er) := HF.out.trans (if_neg he)
    subst hF
    have hne : (er != 0) = true := bne_iff_ne.mpr he
    have hf0 := zfree HQ6.out.h0 0
    have hf1 := zfree HQ6.out.h1 0
    have hf2 := zfree HQ6.out.h2 0
    obtain ⟨⟨n1, n2, n3⟩, n4, n5, n6⟩ := HNE.out
    clear HF he
    go_wp2_with fail
    go_region
    all_goals
      clear hy0 hy1 hy2 hf0 hf1 hf2 hne
      go_wp2_with fail
      obtain ⟨hw, hcw⟩ := HQ6.out.write (.slice none 0 0) i er
      refine ⟨_, res_vals hw.drew _ rfl rfl rfl, ⟨_, rfl, Kd.R_nil _ _ _ _ _⟩, ?_⟩
      exact below_drew (below_ch HB6.out hcw HB6.out.size (fun k h => by have := HG0.out; omega))
/-! An event's cells. -/
theorem at_Ev {w : World} {A : Option Addr} {n : Nat} {xs : List Ev} (h : Kd.C kEv w A n xs) (i : Int) (h0 : 0 ≤ i) (h1 : i < n) : ∃ ad A8 c8, A = some ad ∧ w.cell? (ad.add (i.toNat * 9)) = some (.int .i64 (rd_Ev xs i).f0) ∧ (∀ j u, (evC (rd_Ev xs i) A8 c8)[j]? = some u → w.cell? (ad.add (i.toNat * 9 + j)) = some u) ∧ (rd_Ev xs i).bs.length ≤ c8 ∧ Kd.C k62 w A8 (rd_Ev xs i).bs.length (rd_Ev xs i).bs := by
  obtain ⟨ad, c, e, _, hK, hc0⟩ := Kd.C_get h zEv i h0 h1
  have hc : ∀ j u, c[j]? = some u → w.cell? (ad.add (i.toNat * 9 + j)) = some u := hc0
  obtain ⟨A8, c8, rfl, l8, g8⟩ := kEv_open hK
  exact ⟨ad, A8, c8, e, hc 0 _ rfl, hc, l8, g8⟩
def cl0 : ByteArray := "client 0;".toUTF8
theorem parse_cl0 : parseS cl0 = ([⟨5, 0, 0, zOp, 0, []⟩], 0, 0) := by kernel_rfl
set_option maxHeartbeats 1000000 in
theorem alive.calls (w : World) (ht : Tab w) : Calls Tryd.prog 18 #[] w fun e w' => e = .returned (.bool true) ∧ Below w.heap.size w w' := by
  have HP := Aside0.mk (parse.calls cl0 w ht)
  rw [parse_cl0] at HP
  clear ht
  go_enter Tryd.func18, Tryd.ntmps18
  go_wp2_with fail
  try go_at_call 19
  refine HP.out.mono ?_
  rintro e w1 ⟨⟨v, rfl, hr⟩, hb⟩
  have HB := Aside0.mk hb
  obtain ⟨A, c, rfl, _, hC⟩ := Kd.R_reads hr
  obtain ⟨ad, A8, c8, e1, hx0, _, _, _⟩ := at_Ev hC 0 (by decide) (by decide)
  cases e1
  have hx : w1.cell? ad = some (.int .i64 5) := hx0
  clear hb hr hx0 HP hC
  go_wp2_with fail
  refine (waybilllaw35_num.calls 0 0 w1 rfl).mono ?_
  rintro e w2 ⟨rfl, hd⟩
  have hx : w2.cell? ad = some (.int .i64 5) := cell_step hd.below hx
  have HB := Aside0.mk (below_b HB.out hd.below HB.out.size)
  clear hd
  go_wp2_with fail
  go_ret
  exact ⟨rfl, HB.out⟩
end Go.Proofs.YtaoffnhladfdcaaDoor.EScriptTrace
