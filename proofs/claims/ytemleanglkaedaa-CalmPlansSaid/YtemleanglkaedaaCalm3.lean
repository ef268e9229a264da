/- The rounds of events. -/
import Derived.Test.YtemleanglkaedaaCalm2
namespace Go.Proofs.Ytemleanglkaedaa.ECalmPlans
open Go.RowKit Go.Shelf Go.Proofs.YtemleanglkaedaaW.PrintWords Go.Proofs.YtemleanglkaedaaW.PrintLast Go.Proofs.YtemleanglkaedaaW.PrintMore
set_option linter.unusedVariables false
set_option linter.unusedSimpArgs false
/-- The row's memory is none of the block's. -/
def Far (A : Option Addr) (n rb : Nat) : Prop := ∀ ad, A = some ad → 0 < n → ad.block ≠ rb
theorem add_block (a : Addr) (k : Nat) : (a.add k).block = a.block := by
  unfold Addr.add; split <;> rfl
theorem C_ch {w w1 : World} {A : Option Addr} {n rb : Nat} {l : List SE} (h : Kd.C kE w A n l) (hc : Ch (fun k => k = rb) w w1) (hf : Far A n rb) : Kd.C kE w1 A n l := by
  refine ⟨h.1, h.2.1, fun hp => ?_⟩
  obtain ⟨ad, e, f⟩ := h.2.2 hp
  refine ⟨ad, e, fun j p hj => ?_⟩
  obtain ⟨c, h1, h2, h3⟩ := f j p hj
  have := kE_open h2
  subst this
  exact ⟨_, h1, kE_mk _ _, fun i u hu => hc.cell (h3 i u hu) (by rw [add_block]; exact hf ad e hp)⟩
def dropA (A : Option Addr) (c m : Nat) : Option Addr := if c = m then A else A.map (·.add (m * 9))
theorem C_dropA {w : World} {A : Option Addr} {c m : Nat} {l : List SE} (h : Kd.C kE w A l.length l) (hm : m ≤ l.length) (hc : l.length ≤ c) : Kd.C kE w (dropA A c m) (l.drop m).length (l.drop m) := Kd.C_drop h hm hc
theorem far_dropA {A : Option Addr} {c m n k rb : Nat} (h : Far A n rb) (hk : 0 < k → 0 < n) : Far (dropA A c m) k rb := by
  intro ad e hp
  unfold dropA at e
  split at e
  · exact h ad e (hk hp)
  · cases A with
    | none => cases e
    | some a =>
      injection e with e
      subst e
      rw [add_block]
      exact h a rfl (hk hp)
theorem cutE (A : Option Addr) (n c : Nat) (lo : Int) (h0 : 0 ≤ lo) (h2 : lo ≤ n) (hc : n ≤ c) : ∀ W : World, (Instr.slice 71 (.slice A n c) (some (.int .i64 lo)) none none).run Try.prog W = .ok (.slice (dropA A c lo.toNat) (n - lo.toNat) (c - lo.toNat)) W := by
  intro W
  obtain ⟨i0, hi, hzz⟩ := Option.map_eq_some_iff.1 info77
  simp only [Prod.mk.injEq] at hzz
  exact cut_from 71 77 .i64 Try.underlying71 hi 9 hzz.2.1 A n c lo h0 h2 W
set_option maxHeartbeats 1000000 in
set_option maxRecDepth 100000 in
theorem ticked.calls (rb : Nat) (A : Option Addr) (c : Nat) (l : List SE) (rr re : Int) (A' : Option Addr) (c' : Nat) (m : List SE) (w : World) (hb : w.heap[rb]? = some (.cells #[.slice A l.length c, .int .i64 rr, .int .i64 re] 152 (0, 0))) (hr : Kd.C kE w A l.length l) (hc : l.length ≤ c) (hr' : Kd.C kE w A' m.length m) :
    Calls Try.prog 98 #[.pointer (some ⟨rb, 0, none⟩), .slice A' m.length c'] w fun e w' => e = .returned (.bool (decide (m.length ≤ l.length) && eqL (l.take m.length) m)) ∧ Ch (fun k => k = rb) w w' ∧ w'.heap[rb]? = some (.cells #[if (decide (m.length ≤ l.length) && eqL (l.take m.length) m) = true then .slice (dropA A c m.length) (l.drop m.length).length (c - m.length) else .slice A l.length c, .int .i64 rr, .int .i64 re] 152 (0, 0)) := by
  have hx0 := zcell hb 0 _ rfl
  have HBK := Aside0.mk hb
  by_cases hlm : m.length ≤ l.length
  · have hl : decide ((l.length : Int) < m.length) = false := by simp; omega
    have hll : ¬ ((l.length : Int) < m.length) := by omega
    rw [show decide (m.length ≤ l.length) = true by simp [hlm], Bool.true_and]
    have htl : (l.take m.length).length = m.length := by rw [List.length_take]; omega
    have hcut := cutE A l.length c m.length (by omega) (by omega) hc
    rw [Int.toNat_natCast] at hcut
    have HC := Aside0.mk (eq_ev.calls A c (l.take m.length) A' c' m w (Kd.C_take hr hlm) hr' htl)
    rw [htl] at HC
    obtain ⟨g, hg⟩ : ∃ g, g = eqL (l.take m.length) m := ⟨_, rfl⟩
    rw [← hg] at HC ⊢
    clear hg hr hr' hb
    cases g
    · rw [if_neg (by decide)]
      go_enter Try.func98, Try.ntmps98
      go_wp2_with (first | (go_at_call 111; refine HC.out.mono ?_; rintro e w1 ⟨rfl, hb⟩; have H1 := Aside0.mk (Ch.of_below hb (fun k => k = rb)); have HK1 := Aside0.mk ((Ch.of_below hb (fun _ => False)).heap HBK.out (fun h => h)); clear hb))
      go_ret
      exact ⟨rfl, H1.out, HK1.out⟩
    · rw [if_pos rfl]
      go_enter Try.func98, Try.ntmps98
      go_wp2_with (first | (go_at_call 111; refine HC.out.mono ?_; rintro e w1 ⟨rfl, hb⟩; have H1 := Aside0.mk (Ch.of_below hb (fun k => k = rb)); have HK1 := Aside0.mk ((Ch.of_below hb (fun _ => False)).heap HBK.out (fun h => h)); have hy0 := zcell HK1.out 0 _ rfl; have hf0 := zfree HK1.out 0; clear hb))
      go_ret
      refine ⟨rfl, H1.out.set (.inl rfl) _, ?_⟩
      rw [List.length_drop]
      exact zset HK1.out 0 _
  · have hl : decide ((l.length : Int) < m.length) = true := by simp; omega
    have hll : ((l.length : Int) < m.length) := by omega
    rw [show decide (m.length ≤ l.length) = false by simp; omega, Bool.false_and, if_neg (by decide)]
    clear hr hr' hb
    go_enter Try.func98, Try.ntmps98
    go_wp2_with fail
    go_ret
    exact ⟨rfl, Ch.refl _ _, HBK.out⟩
/-- How many deliveries come. -/
def delN (l : List SE) : Nat := if idxL othB l < 0 then l.length else (idxL othB l).toNat
theorem idxL_bd {α : Type} (p : α → Bool) (l : List α) : -1 ≤ idxL p l ∧ idxL p l < l.length ∨ idxL p l = -1 := by
  rcases idxFrom_spec p l 0 with ⟨h, _⟩ | ⟨n, h, h2, _⟩
  · exact .inr h
  · left
    unfold idxL
    omega
theorem delN_le (l : List SE) : delN l ≤ l.length := by
  unfold delN
  rcases idxL_bd othB l with h | h <;> split <;> omega
set_option maxHeartbeats 1000000 in
set_option maxRecDepth 100000 in
theorem delivered.calls (rb : Nat) (A : Option Addr) (c : Nat) (l : List SE) (rr re : Int) (w : World) (hb : w.heap[rb]? = some (.cells #[.slice A l.length c, .int .i64 rr, .int .i64 re] 152 (0, 0))) (hr : Kd.C kE w A l.length l) (hc : l.length ≤ c) :
    Calls Try.prog 99 #[.pointer (some ⟨rb, 0, none⟩)] w fun e w' => e = .returned (.int .i64 (delN l)) ∧ Ch (fun k => k = rb) w w' ∧ w'.heap[rb]? = some (.cells #[.slice (dropA A c (delN l)) (l.drop (delN l)).length (c - delN l), .int .i64 rr, .int .i64 re] 152 (0, 0)) := by
  have hx0 := zcell hb 0 _ rfl
  have HBK := Aside0.mk hb
  have HC := Aside0.mk (oth_idx.calls A c l w hr hc)
  obtain ⟨g, hg⟩ : ∃ g, g = idxL othB l := ⟨_, rfl⟩
  have hgb := idxL_bd othB l
  have hdl : delN l = if g < 0 then l.length else g.toNat := by rw [hg]; rfl
  rw [← hg] at HC hgb
  have hlen : l.length ≤ 9223372036854775807 := hr.2.1
  have HD := Aside0.mk hdl
  clear hg hr hb
  by_cases h0 : g < 0
  · rw [if_pos h0] at hdl
    rw [hdl]
    have hcut := cutE A l.length c l.length (by omega) (by omega) hc
    rw [Int.toNat_natCast] at hcut
    have hd : decide (g < 0) = true := by simp [h0]
    clear hdl
    go_enter Try.func99, Try.ntmps99
    go_wp2_with (first | (go_at_call 76; refine HC.out.mono ?_; rintro e w1 ⟨rfl, hb⟩; have H1 := Aside0.mk (Ch.of_below hb (fun k => k = rb)); have HK1 := Aside0.mk ((Ch.of_below hb (fun _ => False)).heap HBK.out (fun h => h)); have hy0 := zcell HK1.out 0 _ rfl; have hf0 := zfree HK1.out 0; clear hb))
    go_ret
    refine ⟨rfl, H1.out.set (.inl rfl) _, ?_⟩
    rw [List.length_drop, Nat.sub_self]
    exact zset HK1.out 0 _
  · rw [if_neg h0] at hdl
    have hgn : ((g.toNat : Nat) : Int) = g := by omega
    rw [hdl, hgn]
    have hcut := cutE A l.length c g (by omega) (by omega) hc
    have hd : decide (g < 0) = false := by simp; omega
    clear hdl
    go_enter Try.func99, Try.ntmps99
    go_wp2_with (first | (go_at_call 76; refine HC.out.mono ?_; rintro e w1 ⟨rfl, hb⟩; have H1 := Aside0.mk (Ch.of_below hb (fun k => k = rb)); have HK1 := Aside0.mk ((Ch.of_below hb (fun _ => False)).heap HBK.out (fun h => h)); have hy0 := zcell HK1.out 0 _ rfl; have hf0 := zfree HK1.out 0; clear hb))
    go_ret
    refine ⟨rfl, H1.out.set (.inl rfl) _, ?_⟩
    rw [List.length_drop]
    exact zset HK1.out 0 _
/-- One more round, or none. -/
def roundP (m l : List SE) (r e : Int) : Option (List SE × Int × Int) :=
  if (decide (m.length ≤ l.length) && eqL (l.take m.length) m) = true then
    (if delN (l.drop m.length) = 0 then none else if r > 0 ∧ (delN (l.drop m.length) : Int) ≠ e then none else some ((l.drop m.length).drop (delN (l.drop m.length)), r + 1, delN (l.drop m.length)))
  else none
/-- The reader stands at these events. -/
structure RdAt (w : World) (rb : Nat) (l : List SE) (r e : Int) : Prop where
  mk ::
  at_ : ∃ A c, w.heap[rb]? = some (.cells #[.slice A l.length c, .int .i64 r, .int .i64 e] 152 (0, 0)) ∧ l.length ≤ c ∧ Kd.C kE w A l.length l ∧ Far A l.length rb
set_option maxHeartbeats 1000000 in
set_option maxRecDepth 100000 in
theorem round.calls (rb : Nat) (l : List SE) (r e : Int) (A' : Option Addr) (c' : Nat) (m : List SE) (w : World) (hb : RdAt w rb l r e) (hr' : Kd.C kE w A' m.length m) (h0 : 0 ≤ r) (h1 : r ≤ 1000) :
    Calls Try.prog 80 #[.pointer (some ⟨rb, 0, none⟩), .slice A' m.length c'] w fun e_ w' => e_ = .returned (.bool (roundP m l r e).isSome) ∧ Ch (fun k => k = rb) w w' ∧ ∀ l2 r2 e2, roundP m l r e = some (l2, r2, e2) → RdAt w' rb l2 r2 e2 := by
  obtain ⟨A, c, hk, hc, hC, hF⟩ := hb.at_
  have HT := Aside0.mk (ticked.calls rb A c l r e A' c' m w hk hC hc hr')
  have HC := Aside0.mk hC
  have HF := Aside0.mk hF
  clear hb hr' hk hC hF
  obtain ⟨o, ho⟩ : ∃ o, o = (decide (m.length ≤ l.length) && eqL (l.take m.length) m) := ⟨_, rfl⟩
  have hle : o = true → m.length ≤ l.length := fun h => by rw [ho] at h; simp at h; exact h.1
  unfold roundP
  rw [← ho] at HT ⊢
  clear ho
  cases o
  · rw [if_neg (by decide)]
    go_enter Try.func80, Try.ntmps80
    go_wp2_with (first | (go_at_call 98; refine HT.out.mono ?_; rintro e w1 ⟨rfl, hb, hk⟩; have H1 := Aside0.mk hb; clear hb hk))
    go_ret
    exact ⟨rfl, H1.out, fun _ _ _ h => by cases h⟩
  · have hml := hle rfl
    clear hle
    rw [if_pos rfl]
    rw [if_pos rfl] at HT
    obtain ⟨l1, hl1⟩ : ∃ l1, l1 = l.drop m.length := ⟨_, rfl⟩
    have hfar : Far (dropA A c m.length) l1.length rb := far_dropA HF.out (fun h => by rw [hl1, List.length_drop] at h; omega)
    have hcap : l1.length ≤ c - m.length := by rw [hl1, List.length_drop]; omega
    have hC1 : ∀ w1, Ch (fun k => k = rb) w w1 → Kd.C kE w1 (dropA A c m.length) l1.length l1 := fun w1 h => by rw [hl1]; exact C_dropA (C_ch HC.out h HF.out) hml hc
    rw [← hl1] at HT ⊢
    have HFar := Aside0.mk hfar
    have HC1 := Aside0.mk hC1
    clear hl1 hfar hC1 HC HF
    obtain ⟨n, hn⟩ : ∃ n, n = delN l1 := ⟨_, rfl⟩
    have hnl : n ≤ l1.length := by rw [hn]; exact delN_le l1
    have HN := Aside0.mk hn
    have HD := Aside0.mk (fun w1 hk hC => delivered.calls rb (dropA A c m.length) (c - m.length) l1 r e w1 hk hC hcap)
    rw [← hn] at HD ⊢
    clear hn
    by_cases n0 : n = 0
    · rw [if_pos n0]
      subst n0
      go_enter Try.func80, Try.ntmps80
      go_wp2_with (first | (go_at_call 98; refine HT.out.mono ?_; rintro e w1 ⟨rfl, hb, hk⟩; have H1 := Aside0.mk hb; have HK1 := Aside0.mk hk; clear hb hk) | (go_at_call 99; refine (HD.out _ HK1.out (HC1.out _ H1.out)).mono ?_; rintro e w2 ⟨rfl, hb, hk⟩; have H2 := Aside0.mk (H1.out.trans hb (fun k h => .inl h)); clear hb hk))
      go_ret
      exact ⟨rfl, H2.out, fun _ _ _ h => by cases h⟩
    · rw [if_neg n0]
      have n1 : ((n : Int) == 0) = false := by simp; omega
      by_cases r0 : r > 0
      · have r1 : decide (r > 0) = true := by simp [r0]
        by_cases e0 : (n : Int) = e
        · subst e0
          rw [if_neg (by simp)]
          go_enter Try.func80, Try.ntmps80
          go_wp2_with (first | (go_at_call 98; refine HT.out.mono ?_; rintro e w1 ⟨rfl, hb, hk⟩; have H1 := Aside0.mk hb; have HK1 := Aside0.mk hk; clear hb hk) | (go_at_call 99; refine (HD.out _ HK1.out (HC1.out _ H1.out)).mono ?_; rintro e w2 ⟨rfl, hb, hk⟩; have H2 := Aside0.mk (H1.out.trans hb (fun k h => .inl h)); have HK2 := Aside0.mk hk; have hy1 := zcell HK2.out 1 _ rfl; have hy2 := zcell HK2.out 2 _ rfl; have hf1 := zfree HK2.out 1; have hf2 := zfree HK2.out 2; clear hb hk))
          go_ret
          have hch := (H2.out.set (p := ⟨rb, 1, none⟩) (.inl rfl) (.int .i64 (r + 1))).set (p := ⟨rb, 2, none⟩) (.inl rfl) (.int .i64 n)
          refine ⟨rfl, hch, ?_⟩
          intro l2 r2 e2 h
          obtain ⟨rfl, rfl, rfl⟩ : l1.drop n = l2 ∧ r + 1 = r2 ∧ (n : Int) = e2 := by simpa using h
          exact ⟨_, _, zset (zset HK2.out 1 _) 2 _, by rw [List.length_drop]; omega, C_dropA (HC1.out _ hch) hnl hcap, far_dropA HFar.out (fun h => by rw [List.length_drop] at h; omega)⟩
        · rw [if_pos ⟨r0, e0⟩]
          have e1 : ((n : Int) == e) = false := by simp; omega
          go_enter Try.func80, Try.ntmps80
          go_wp2_with (first | (go_at_call 98; refine HT.out.mono ?_; rintro e w1 ⟨rfl, hb, hk⟩; have H1 := Aside0.mk hb; have HK1 := Aside0.mk hk; clear hb hk) | (go_at_call 99; refine (HD.out _ HK1.out (HC1.out _ H1.out)).mono ?_; rintro e w2 ⟨rfl, hb, hk⟩; have H2 := Aside0.mk (H1.out.trans hb (fun k h => .inl h)); have HK2 := Aside0.mk hk; have hy1 := zcell HK2.out 1 _ rfl; have hy2 := zcell HK2.out 2 _ rfl; have hf1 := zfree HK2.out 1; have hf2 := zfree HK2.out 2; clear hb hk))
          go_ret
          exact ⟨rfl, H2.out, fun _ _ _ h => by cases h⟩
      · have r1 : decide (r > 0) = false := by simp; omega
        rw [if_neg (fun h => r0 h.1)]
        go_enter Try.func80, Try.ntmps80
        go_wp2_with (first | (go_at_call 98; refine HT.out.mono ?_; rintro e w1 ⟨rfl, hb, hk⟩; have H1 := Aside0.mk hb; have HK1 := Aside0.mk hk; clear hb hk) | (go_at_call 99; refine (HD.out _ HK1.out (HC1.out _ H1.out)).mono ?_; rintro e w2 ⟨rfl, hb, hk⟩; have H2 := Aside0.mk (H1.out.trans hb (fun k h => .inl h)); have HK2 := Aside0.mk hk; have hy1 := zcell HK2.out 1 _ rfl; have hy2 := zcell HK2.out 2 _ rfl; have hf1 := zfree HK2.out 1; have hf2 := zfree HK2.out 2; clear hb hk))
        go_ret
        have hch := (H2.out.set (p := ⟨rb, 1, none⟩) (.inl rfl) (.int .i64 (r + 1))).set (p := ⟨rb, 2, none⟩) (.inl rfl) (.int .i64 n)
        refine ⟨rfl, hch, ?_⟩
        intro l2 r2 e2 h
        obtain ⟨rfl, rfl, rfl⟩ : l1.drop n = l2 ∧ r + 1 = r2 ∧ (n : Int) = e2 := by simpa using h
        exact ⟨_, _, zset (zset HK2.out 1 _) 2 _, by rw [List.length_drop]; omega, C_dropA (HC1.out _ hch) hnl hcap, far_dropA HFar.out (fun h => by rw [List.length_drop] at h; omega)⟩
/-! What is read of events alone: kind, node, number. -/
abbrev T3 := Int × Int × Int
def tickT (x y : T3) : Bool := decide (x.1 = y.1) && decide (x.2.1 = y.2.1)
def othT (x : T3) : Bool := !(decide (x.1 = 2)) || !(decide (x.2.2 = 0))
def eqT : List T3 → List T3 → Bool
  | x :: l, y :: m => tickT x y && eqT l m
  | _, _ => true
def delT (l : List T3) : Nat := if idxL othT l < 0 then l.length else (idxL othT l).toNat
def roundT (m l : List T3) (r e : Int) : Option (List T3 × Int × Int) :=
  if (decide (m.length ≤ l.length) && eqT (l.take m.length) m) = true then
    (if delT (l.drop m.length) = 0 then none else if r > 0 ∧ (delT (l.drop m.length) : Int) ≠ e then none else some ((l.drop m.length).drop (delT (l.drop m.length)), r + 1, delT (l.drop m.length)))
  else none
def allT (m : List T3) : Nat → List T3 → Int → Int → Int × Int
  | 0, _, r, e => (r, e)
  | k + 1, l, r, e => if l.isEmpty = true then (r, e) else match roundT m l r e with
    | none => (0, 0)
    | some (l2, r2, e2) => allT m k l2 r2 e2
theorem eqT_map : ∀ l m : List SE, eqT (l.map pE) (m.map pE) = eqL l m
  | [], _ => by simp [eqT, eqL]
  | _ :: _, [] => by simp [eqT, eqL]
  | x :: l, y :: m => by
    show (tickT (pE x) (pE y) && eqT (l.map pE) (m.map pE)) = _
    rw [eqT_map l m]; rfl
theorem idxFrom_map {α β : Type} (f : α → β) (p : β → Bool) (q : α → Bool) (h : ∀ x, p (f x) = q x) : ∀ (l : List α) (i : Int), idxFrom p i (l.map f) = idxFrom q i l
  | [], _ => rfl
  | x :: t, i => by
    show (if p (f x) = true then i else idxFrom p (i + 1) (t.map f)) = _
    rw [h x, idxFrom_map f p q h t (i + 1)]; rfl
theorem delT_map (l : List SE) : delT (l.map pE) = delN l := by
  unfold delT delN idxL
  rw [idxFrom_map pE othT othB (fun _ => rfl) l 0, List.length_map]
theorem roundT_map (m l : List SE) (r e : Int) : roundT (m.map pE) (l.map pE) r e = (roundP m l r e).map (fun x => (x.1.map pE, x.2.1, x.2.2)) := by
  unfold roundT roundP
  rw [List.length_map, List.length_map, ← List.map_take, eqT_map, ← List.map_drop, delT_map, ← List.map_drop]
  split
  · split
    · rfl
    · split <;> rfl
  · rfl
theorem roundP_less {m l l2 : List SE} {r e r2 e2 : Int} (h : roundP m l r e = some (l2, r2, e2)) : l2.length < l.length ∧ r2 = r + 1 := by
  unfold roundP at h
  split at h
  · split at h
    · cases h
    · rename_i hn
      split at h
      · cases h
      · injection h with h
        injection h with h1 h
        injection h with h2 h3
        subst h1 h2
        have := delN_le (l.drop m.length)
        rw [List.length_drop, List.length_drop] at *
        exact ⟨by omega, rfl⟩
  · cases h
theorem allT_step {m l l2 : List SE} {r e r2 e2 : Int} (k : Nat) (h : roundP m l r e = some (l2, r2, e2)) (hl : 0 < l.length) : allT (m.map pE) (k + 1) (l.map pE) r e = allT (m.map pE) k (l2.map pE) r2 e2 := by
  show (if (l.map pE).isEmpty = true then (r, e) else match roundT (m.map pE) (l.map pE) r e with
    | none => (0, 0)
    | some (l2, r2, e2) => allT (m.map pE) k l2 r2 e2) = _
  rw [if_neg (by cases l with | nil => simp at hl | cons a b => simp), roundT_map, h]
  rfl
theorem allT_no {m l : List SE} {r e : Int} (k : Nat) (h : roundP m l r e = none) (hl : 0 < l.length) : allT (m.map pE) (k + 1) (l.map pE) r e = (0, 0) := by
  show (if (l.map pE).isEmpty = true then (r, e) else match roundT (m.map pE) (l.map pE) r e with
    | none => (0, 0)
    | some (l2, r2, e2) => allT (m.map pE) k l2 r2 e2) = _
  rw [if_neg (by cases l with | nil => simp at hl | cons a b => simp), roundT_map, h]
  rfl
theorem allT_nil (m : List T3) (k : Nat) (r e : Int) : allT m k [] r e = (r, e) := by cases k <;> rfl
/-- A round's ticks. -/
def tkT (k : Int) : Int → Nat → List T3
  | _, 0 => []
  | i, d + 1 => (k, i, 0) :: tkT k (i + 1) d
def ticksT (cl be : Int) : List T3 := tkT 5 0 cl.toNat ++ tkT 6 0 be.toNat
theorem l1_run : ∀ (d k : Nat) (x : List S77) (b i : Int), i + d = b → d < k → 0 ≤ i → b ≤ 1000 → x.length + d ≤ 2000 → ∃ r, calm_ticks.l1 k x b i = some r ∧ r.map p77 = x.map p77 ++ tkT 6 i d
  | d, 0, _, _, _, _, h, _, _, _ => absurd h (by omega)
  | 0, k + 1, x, b, i, hb, _, h0, h1, h2 => by
    refine ⟨x, ?_, by simp [tkT]⟩
    unfold calm_ticks.l1
    rw [if_neg (by omega)]
  | d + 1, k + 1, x, b, i, hb, hk, h0, h1, h2 => by
    obtain ⟨r, hr, hm⟩ := l1_run d k (x ++ [(⟨6, i, 0, (⟨0, 0, 0, 0⟩ : S73), (⟨0, ([] : List (S102))⟩ : S75)⟩ : S77)]) b (i + 1) (by omega) (by omega) (by omega) h1 (by rw [List.length_append]; simp; omega)
    refine ⟨r, ?_, ?_⟩
    · unfold calm_ticks.l1
      rw [if_pos (by omega), if_pos (by omega), show wrap64 (i + 1) = i + 1 by unfold wrap64; omega]
      exact hr
    · rw [hm, List.map_append, List.append_assoc]; rfl
theorem l0_run (be a2 a3 : Int) (a4 : Bool) (a5 a6 a7 a8 a9 a10 a11 a12 a13 a14 a15 a16 a17 a18 a19 a20 a21 a22 a23 a24 a25 a26 a27 a28 a29 a30 a31 c0 : Int) (hbe : 0 ≤ be ∧ be ≤ 100) : ∀ (d k : Nat) (x : List S77) (b i : Int), i + d = b → d + 200 < k → 0 ≤ i → b ≤ 1000 → x.length + d ≤ 1000 → ∃ r, calm_ticks.l0 k x b i c0 be a2 a3 a4 a5 a6 a7 a8 a9 a10 a11 a12 a13 a14 a15 a16 a17 a18 a19 a20 a21 a22 a23 a24 a25 a26 a27 a28 a29 a30 a31 = some r ∧ r.map p77 = x.map p77 ++ (tkT 5 i d ++ tkT 6 0 be.toNat)
  | d, 0, _, _, _, _, h, _, _, _ => absurd h (by omega)
  | 0, k + 1, x, b, i, hb, hk, h0, h1, h2 => by
    obtain ⟨r, hr, hm⟩ := l1_run be.toNat k x be 0 (by omega) (by omega) (by omega) (by omega) (by omega)
    refine ⟨r, ?_, by rw [hm]; rfl⟩
    unfold calm_ticks.l0
    rw [if_neg (by omega)]
    exact hr
  | d + 1, k + 1, x, b, i, hb, hk, h0, h1, h2 => by
    obtain ⟨r, hr, hm⟩ := l0_run be a2 a3 a4 a5 a6 a7 a8 a9 a10 a11 a12 a13 a14 a15 a16 a17 a18 a19 a20 a21 a22 a23 a24 a25 a26 a27 a28 a29 a30 a31 c0 hbe d k (x ++ [(⟨5, i, 0, (⟨0, 0, 0, 0⟩ : S73), (⟨0, ([] : List (S102))⟩ : S75)⟩ : S77)]) b (i + 1) (by omega) (by omega) (by omega) h1 (by rw [List.length_append]; simp; omega)
    refine ⟨r, ?_, ?_⟩
    · unfold calm_ticks.l0
      rw [if_pos (by omega), if_pos (by omega), show wrap64 (i + 1) = i + 1 by unfold wrap64; omega]
      exact hr
    · rw [hm, List.map_append, List.append_assoc]; rfl
theorem own_some {ad : Addr} {n c : Nat} : (Value.slice (some ad) n c).ownBlock = some ad.block := rfl
set_option maxHeartbeats 1000000 in
set_option maxRecDepth 100000 in
theorem ticks.calls (cl be sd : Int) (w : World) (h0 : 0 ≤ cl) (h1 : cl ≤ 10) (h2 : 0 ≤ be) (h3 : be ≤ 10) :
    Calls Try.prog 57 #[.agg #[.int .i64 cl, .int .i64 be, .int .u64 sd, .int .i64 3, .bool false, .int .i64 4, .int .i64 2, .int .i64 6, .int .i64 1, .int .i64 3, .int .i64 800, .int .i64 5, .int .i64 4, .int .i64 16, .int .i64 50, .int .i64 40, .int .i64 200, .int .i64 50, .int .i64 2, .int .i64 5, .int .i64 3, .int .i64 1, .int .i64 5, .int .i64 900, .int .i64 2, .int .i64 1, .int .i64 4, .int .i64 500, .int .i64 4, .int .i64 4, .int .i64 30, .int .i64 8]] w fun e w' => (∃ A c, ∃ m : List SE, e = .returned (.slice A m.length c) ∧ m.length ≤ c ∧ Kd.C kE w' A m.length m ∧ m.map pE = ticksT cl be ∧ (∀ ad, A = some ad → w.heap.size ≤ ad.block)) ∧ Below w.heap.size w w' := by
  obtain ⟨r, hr, hm⟩ := l0_run be sd 3 false 4 2 6 1 3 800 5 4 16 50 40 200 50 2 5 3 1 5 900 2 1 4 500 4 4 30 8 cl ⟨h2, by omega⟩ cl.toNat 300 [] cl 0 (by omega) (by omega) (by omega) (by omega) (by simp; omega)
  refine (calm_ticks.calls 300 cl be sd 3 false 4 2 6 1 3 800 5 4 16 50 40 200 50 2 5 3 1 5 900 2 1 4 500 4 4 30 8 r w hr).mono ?_
  rintro e w1 ⟨v, rfl, hS, hb⟩
  obtain ⟨A, c, rfl, hc, hC⟩ := Kd.S_reads hS
  obtain ⟨m, hCm, hmm⟩ := C77_E hC
  have hl : m.length = r.length := hCm.1
  refine ⟨⟨A, c, m, by rw [hl], by omega, by rw [hl]; exact hCm, by rw [hmm, hm]; rfl, fun ad e => ?_⟩, hb⟩
  subst e
  exact Kd.R_base (Kd.S_R hS) ad.block own_some
def allL (cl be : Int) (l : List T3) : Int × Int := allT (ticksT cl be) l.length l 0 0
def rdLen (rb : Nat) (W : World) : Nat := match W.cell? ⟨rb, 0, none⟩ with | some v => slen v | none => 0
theorem rdLen_at {W : World} {rb : Nat} {l : List SE} {r e : Int} (h : RdAt W rb l r e) : rdLen rb W = l.length := by
  obtain ⟨A, c, hk, _⟩ := h.at_
  unfold rdLen
  rw [zcell hk 0 _ rfl]
  rfl
theorem keep_map (l : List SE) : (l.filter keepB).map pE = (l.map pE).filter (fun x => !(decide (x.1 = 1))) := by
  rw [List.filter_map]
  rfl
set_option maxHeartbeats 4000000 in
set_option maxRecDepth 100000 in
theorem all.calls (cl be sd : Int) (A : Option Addr) (c : Nat) (l : List SE) (w : World) (hr : Kd.C kE w A l.length l) (hc : l.length ≤ c) (hl : l.length ≤ 1000) (h0 : 0 ≤ cl) (h1 : cl ≤ 10) (h2 : 0 ≤ be) (h3 : be ≤ 10) :
    Calls Try.prog 60 #[.agg #[.int .i64 cl, .int .i64 be, .int .u64 sd, .int .i64 3, .bool false, .int .i64 4, .int .i64 2, .int .i64 6, .int .i64 1, .int .i64 3, .int .i64 800, .int .i64 5, .int .i64 4, .int .i64 16, .int .i64 50, .int .i64 40, .int .i64 200, .int .i64 50, .int .i64 2, .int .i64 5, .int .i64 3, .int .i64 1, .int .i64 5, .int .i64 900, .int .i64 2, .int .i64 1, .int .i64 4, .int .i64 500, .int .i64 4, .int .i64 4, .int .i64 30, .int .i64 8], .slice A l.length c] w fun e w' => e = .returned (.tuple #[.int .i64 (allL cl be ((l.filter keepB).map pE)).1, .int .i64 (allL cl be ((l.filter keepB).map pE)).2]) ∧ Below w.heap.size w w' := by
  have HR := Aside0.mk hr
  clear hr
  obtain ⟨res, hres⟩ : ∃ res, res = allL cl be ((l.filter keepB).map pE) := ⟨_, rfl⟩
  rw [← hres]
  have HRES := Aside0.mk hres
  clear hres
  have hlf : (l.filter keepB).length ≤ l.length := List.length_filter_le _ _
  go_enter Try.func60, Try.ntmps60
  go_wp2_with (first | ((with_reducible refine gate_dst (N := 2) rfl ?_); refine box_event ?hg (N := 2) ?hd (cs := #[.int .i64 cl, .int .i64 be, .int .u64 sd, .int .i64 3, .bool false, .int .i64 4, .int .i64 2, .int .i64 6, .int .i64 1, .int .i64 3, .int .i64 800, .int .i64 5, .int .i64 4, .int .i64 16, .int .i64 50, .int .i64 40, .int .i64 200, .int .i64 50, .int .i64 2, .int .i64 5, .int .i64 3, .int .i64 1, .int .i64 5, .int .i64 900, .int .i64 2, .int .i64 1, .int .i64 4, .int .i64 500, .int .i64 4, .int .i64 4, .int .i64 30, .int .i64 8]) (t := 69) ?hr ?_; (case hd => rfl); (case hg => rfl); (case hr => first | (go_simp; done) | (go_simp; rfl)); intro gb hg w0 hbox hb; have HB0 := Aside0.mk hb; have BK0 := Aside0.mk hbox; clear hb hbox hg) | (go_at_call 56; refine (cloneE.calls A c l _ (Kd.C_below HR.out HB0.out) hc hl).mono ?_; rintro e w1 ⟨⟨v1, rfl, hR⟩, hb⟩; obtain ⟨A1, c1, rfl⟩ := Kd.R_slice hR; have HB1 := Aside0.mk hb; have HR1 := Aside0.mk hR; clear hb hR) | (go_at_call 78; refine (del.calls A1 c1 l w0 _ w0.heap.size HR1.out HB1.out HB1.out.size).mono ?_; rintro e w2 ⟨⟨v2, rfl, hR⟩, hb⟩; obtain ⟨A2, c2, rfl⟩ := Kd.R_slice hR; have HB2 := Aside0.mk (below_b HB0.out hb HB0.out.size); have BK2 := Aside0.mk ((Ch.of_below hb (fun _ => False)).heap BK0.out (fun h => h)); have HR2 := Aside0.mk hR; clear hb hR) | ((with_reducible refine gate_dst (N := 12) rfl ?_); refine box_event ?hg (N := 12) ?hd (cs := #[.slice A2 (l.filter keepB).length c2, .int .i64 0, .int .i64 0]) (t := 152) ?hr ?_; (case hd => rfl); (case hg => rfl); (case hr => first | (go_simp; done) | (go_simp; rfl)); intro rb hg w3 hbox hb; have HB3 := Aside0.mk (below_b HB2.out hb HB2.out.size); have BK3 := Aside0.mk ((Ch.of_below hb (fun _ => False)).heap BK2.out (fun h => h)); have RB3 := Aside0.mk hbox; have RL3 := Aside0.mk (show w.heap.size ≤ rb from by rw [hg]; exact HB2.out.size); have HF3 := Aside0.mk (show Far A2 (l.filter keepB).length rb from fun ad e hp => by subst e; have := Kd.R_lt HR2.out ad.block own_some; omega); have HC3 := Aside0.mk (Kd.C_below (Kd.R_reads' HR2.out).2.2 hb); have HCP := Aside0.mk (Kd.R_reads' HR2.out).2.1; clear hb hbox hg) | ((with_reducible refine gate_dst (N := 13) rfl ?_); refine load_mid_w ?hw 69 _ rfl gb 0 rfl [.int .i64 cl, .int .i64 be, .int .u64 sd, .int .i64 3, .bool false, .int .i64 4, .int .i64 2, .int .i64 6, .int .i64 1, .int .i64 3, .int .i64 800, .int .i64 5, .int .i64 4, .int .i64 16, .int .i64 50, .int .i64 40, .int .i64 200, .int .i64 50, .int .i64 2, .int .i64 5, .int .i64 3, .int .i64 1, .int .i64 5, .int .i64 900, .int .i64 2, .int .i64 1, .int .i64 4, .int .i64 500, .int .i64 4, .int .i64 4, .int .i64 30, .int .i64 8] _ (range_of BK3.out (by rfl)) Try.underlying69 rfl (by kernel_rfl) ?_; (case hw => first | rfl | (go_simp; done) | (go_simp; rfl))) | (go_at_call 57; refine (ticks.calls cl be sd _ (by omega) (by omega) (by omega) (by omega)).mono ?_; rintro e w4 ⟨⟨A', c', m, rfl, hcm, hCm, hmm, hfar⟩, hb⟩; have HB4 := Aside0.mk (below_b HB3.out hb HB3.out.size); have RB4 := Aside0.mk ((Ch.of_below hb (fun _ => False)).heap RB3.out (fun h => h)); have HC4 := Aside0.mk (Kd.C_below HC3.out hb); have HM4 := Aside0.mk hCm; have HT := Aside0.mk hmm; have HMF := Aside0.mk (show Far A' m.length rb from fun ad e hp => by have := hfar ad e; have := lt_of_block RB3.out; omega); clear hb hCm hmm hfar hcm))
  have HR0 : Aside0 (RdAt w4 rb (l.filter keepB) 0 0) := ⟨⟨⟨A2, c2, RB4.out, HCP.out, HC4.out, HF3.out⟩⟩⟩
  have HA0 : Aside0 (allT (m.map pE) (l.filter keepB).length ((l.filter keepB).map pE) 0 0 = res) := ⟨by rw [HT.out, HRES.out]; unfold allL; rw [List.length_map]⟩
  clear HB0 HB1 HB2 HB3 HR1 HR2 HC3 HC4 RB3 RB4 BK0 BK2 BK3 HCP HF3 HRES HT HR
  go_loopw [15] (fun _ W => ∃ (xs : List SE) (r e : Int) (k : Nat), 0 ≤ r ∧ r + xs.length ≤ 1000 ∧ Aside0 (xs.length ≤ k) ∧ Aside0 (allT (m.map pE) k (xs.map pE) r e = res) ∧ Aside0 (RdAt W rb xs r e) ∧ Aside0 (Kd.C kE W A' m.length m) ∧ Aside0 (Below w.heap.size w W)) (fun _ W => rdLen rb W)
  case atStart => exact ⟨_, 0, 0, _, by omega, by omega, ⟨Nat.le_refl _⟩, HA0, HR0, HM4, HB4⟩
  case round =>
    clear HA0 HR0 HM4 HB4
    obtain ⟨xs, r, e, k, r0, r1, HK, HA, HR, HM, HB⟩ := hrel
    obtain ⟨Ax, cx, hbk, hcx, hCx, hFx⟩ := HR.out.at_
    have HBX := Aside0.mk hbk
    have hx0 := zcell hbk 0 _ rfl
    have hlx : xs.length ≤ 9223372036854775807 := hCx.2.1
    clear hbk hCx hFx hcx
    by_cases hp : 0 < xs.length
    · have hd : decide (0 < xs.length) = true := by simp [hp]
      have hd2 : decide ((xs.length : Int) > 0) = true := by simp; omega
      obtain ⟨o, ho⟩ : ∃ o, o = roundP m xs r e := ⟨_, rfl⟩
      have HC := Aside0.mk (round.calls rb xs r e A' c' m wr HR.out HM.out r0 (by omega))
      rw [← ho] at HC
      have HO := Aside0.mk ho.symm
      clear ho
      cases o with
      | none =>
        have hz : res = (0, 0) := by
          obtain ⟨k', rfl⟩ : ∃ k', k = k' + 1 := ⟨k - 1, by have := HK.out; omega⟩
          rw [← HA.out]
          exact allT_no k' HO.out hp
        subst hz
        go_wp2_with (first | (go_at_call 80; refine HC.out.mono ?_; rintro e w5 ⟨rfl, hch, _⟩; have HB5 := Aside0.mk (below_ch HB.out hch HB.out.size (fun k e => by rw [e]; exact RL3.out)); clear hch))
        go_ret2
        exact ⟨rfl, HB5.out⟩
      | some t =>
        obtain ⟨l2, r2, e2⟩ := t
        obtain ⟨hless, hr2⟩ := roundP_less HO.out
        subst hr2
        go_wp2_with (first | (go_at_call 80; refine HC.out.mono ?_; rintro e w5 ⟨rfl, hch, hnew⟩; have HB5 := Aside0.mk (below_ch HB.out hch HB.out.size (fun k e => by rw [e]; exact RL3.out)); have HR5 := Aside0.mk (hnew _ _ _ rfl); have HM5 := Aside0.mk (C_ch HM.out hch HMF.out); clear hch hnew))
        refine ⟨⟨l2, r + 1, e2, k - 1, by omega, by omega, ⟨by have := HK.out; omega⟩, ⟨?_⟩, HR5, HM5, HB5⟩, ?_⟩
        · obtain ⟨k', rfl⟩ : ∃ k', k = k' + 1 := ⟨k - 1, by have := HK.out; omega⟩
          rw [← HA.out, allT_step k' HO.out hp]
          rfl
        · rw [rdLen_at HR5.out, rdLen_at HR.out]; omega
    · have hd : decide (0 < xs.length) = false := decide_eq_false (by omega)
      have hd2 : decide ((xs.length : Int) > 0) = false := decide_eq_false (by omega)
      have hx : xs = [] := List.eq_nil_of_length_eq_zero (by omega)
      have hz : res = (r, e) := by rw [← HA.out, hx, List.map_nil, allT_nil]
      subst hz
      have hx1 := zcell HBX.out 1 _ rfl
      have hx2 := zcell HBX.out 2 _ rfl
      go_wp2_with fail
      go_region
      all_goals (try go_wp2)
      go_ret2
      exact ⟨rfl, Below.drew HB.out⟩
set_option maxHeartbeats 1000000 in
set_option maxRecDepth 100000 in
theorem ask.calls (cl be sd : Int) (A : Option Addr) (c : Nat) (l : List SE) (w : World) (hb : l.length ≤ 9223372036854775807) (h0 : 1 ≤ cl) (h1 : cl ≤ 8) (h2 : 1 ≤ be) (h3 : be ≤ 10) :
    Calls Try.prog 59 #[.agg #[.int .i64 cl, .int .i64 be, .int .u64 sd, .int .i64 3, .bool false, .int .i64 4, .int .i64 2, .int .i64 6, .int .i64 1, .int .i64 3, .int .i64 800, .int .i64 5, .int .i64 4, .int .i64 16, .int .i64 50, .int .i64 40, .int .i64 200, .int .i64 50, .int .i64 2, .int .i64 5, .int .i64 3, .int .i64 1, .int .i64 5, .int .i64 900, .int .i64 2, .int .i64 1, .int .i64 4, .int .i64 500, .int .i64 4, .int .i64 4, .int .i64 30, .int .i64 8], .slice A l.length c] w fun e w' => e = .returned (.int .i64 (if l.length > 512 then 3 else 0)) ∧ Below w.heap.size w w' := by
  by_cases hl : l.length > 512
  · have hd : decide ((l.length : Int) > 512) = true := decide_eq_true (by omega)
    rw [if_pos hl]
    go_enter Try.func59, Try.ntmps59
    go_wp2_with (first | ((with_reducible refine gate_dst (N := 2) rfl ?_); refine box_event ?hg (N := 2) ?hd (cs := #[.int .i64 cl, .int .i64 be, .int .u64 sd, .int .i64 3, .bool false, .int .i64 4, .int .i64 2, .int .i64 6, .int .i64 1, .int .i64 3, .int .i64 800, .int .i64 5, .int .i64 4, .int .i64 16, .int .i64 50, .int .i64 40, .int .i64 200, .int .i64 50, .int .i64 2, .int .i64 5, .int .i64 3, .int .i64 1, .int .i64 5, .int .i64 900, .int .i64 2, .int .i64 1, .int .i64 4, .int .i64 500, .int .i64 4, .int .i64 4, .int .i64 30, .int .i64 8]) (t := 69) ?hr ?_; (case hd => rfl); (case hg => rfl); (case hr => first | (go_simp; done) | (go_simp; rfl)); intro gb hg w0 hbox hb; have HB0 := Aside0.mk hb; have BK0 := Aside0.mk hbox; clear hb hbox hg) | ((with_reducible refine gate_dst (N := 6) rfl ?_); refine load_mid_w ?hw 69 _ rfl gb 0 rfl [.int .i64 cl, .int .i64 be, .int .u64 sd, .int .i64 3, .bool false, .int .i64 4, .int .i64 2, .int .i64 6, .int .i64 1, .int .i64 3, .int .i64 800, .int .i64 5, .int .i64 4, .int .i64 16, .int .i64 50, .int .i64 40, .int .i64 200, .int .i64 50, .int .i64 2, .int .i64 5, .int .i64 3, .int .i64 1, .int .i64 5, .int .i64 900, .int .i64 2, .int .i64 1, .int .i64 4, .int .i64 500, .int .i64 4, .int .i64 4, .int .i64 30, .int .i64 8] _ (range_of BK0.out (by rfl)) Try.underlying69 rfl (by kernel_rfl) ?_; (case hw => first | rfl | (go_simp; done) | (go_simp; rfl))) | (go_at_call 53; refine (worldCheck.calls cl be sd (by omega) (by omega) (by omega) (by omega) _).mono ?_; rintro e w1 ⟨rfl, hb⟩; have HB1 := Aside0.mk (below_b HB0.out hb HB0.out.size); clear hb))
    go_ret
    exact ⟨rfl, HB1.out⟩
  · have hd : decide ((l.length : Int) > 512) = false := decide_eq_false (by omega)
    rw [if_neg hl]
    go_enter Try.func59, Try.ntmps59
    go_wp2_with (first | ((with_reducible refine gate_dst (N := 2) rfl ?_); refine box_event ?hg (N := 2) ?hd (cs := #[.int .i64 cl, .int .i64 be, .int .u64 sd, .int .i64 3, .bool false, .int .i64 4, .int .i64 2, .int .i64 6, .int .i64 1, .int .i64 3, .int .i64 800, .int .i64 5, .int .i64 4, .int .i64 16, .int .i64 50, .int .i64 40, .int .i64 200, .int .i64 50, .int .i64 2, .int .i64 5, .int .i64 3, .int .i64 1, .int .i64 5, .int .i64 900, .int .i64 2, .int .i64 1, .int .i64 4, .int .i64 500, .int .i64 4, .int .i64 4, .int .i64 30, .int .i64 8]) (t := 69) ?hr ?_; (case hd => rfl); (case hg => rfl); (case hr => first | (go_simp; done) | (go_simp; rfl)); intro gb hg w0 hbox hb; have HB0 := Aside0.mk hb; have BK0 := Aside0.mk hbox; clear hb hbox hg) | ((with_reducible refine gate_dst (N := 6) rfl ?_); refine load_mid_w ?hw 69 _ rfl gb 0 rfl [.int .i64 cl, .int .i64 be, .int .u64 sd, .int .i64 3, .bool false, .int .i64 4, .int .i64 2, .int .i64 6, .int .i64 1, .int .i64 3, .int .i64 800, .int .i64 5, .int .i64 4, .int .i64 16, .int .i64 50, .int .i64 40, .int .i64 200, .int .i64 50, .int .i64 2, .int .i64 5, .int .i64 3, .int .i64 1, .int .i64 5, .int .i64 900, .int .i64 2, .int .i64 1, .int .i64 4, .int .i64 500, .int .i64 4, .int .i64 4, .int .i64 30, .int .i64 8] _ (range_of BK0.out (by rfl)) Try.underlying69 rfl (by kernel_rfl) ?_; (case hw => first | rfl | (go_simp; done) | (go_simp; rfl))) | (go_at_call 53; refine (worldCheck.calls cl be sd (by omega) (by omega) (by omega) (by omega) _).mono ?_; rintro e w1 ⟨rfl, hb⟩; have HB1 := Aside0.mk (below_b HB0.out hb HB0.out.size); clear hb))
    go_ret
    exact ⟨rfl, HB1.out⟩
/-- How many rounds, and deliveries. -/
def roundsL (cl be : Int) (l : List T3) : Int × Int × Int := if l.length > 512 then (0, 0, 3) else ((allL cl be (l.filter (fun x => !(decide (x.1 = 1))))).1, (allL cl be (l.filter (fun x => !(decide (x.1 = 1))))).2, 0)
set_option maxHeartbeats 1000000 in
set_option maxRecDepth 100000 in
theorem rounds.calls (cl be sd : Int) (A : Option Addr) (c : Nat) (l : List SE) (w : World) (hr : Kd.C kE w A l.length l) (hc : l.length ≤ c) (h0 : 1 ≤ cl) (h1 : cl ≤ 8) (h2 : 1 ≤ be) (h3 : be ≤ 10) :
    Calls Try.prog 27 #[.agg #[.int .i64 cl, .int .i64 be, .int .u64 sd, .int .i64 3, .bool false, .int .i64 4, .int .i64 2, .int .i64 6, .int .i64 1, .int .i64 3, .int .i64 800, .int .i64 5, .int .i64 4, .int .i64 16, .int .i64 50, .int .i64 40, .int .i64 200, .int .i64 50, .int .i64 2, .int .i64 5, .int .i64 3, .int .i64 1, .int .i64 5, .int .i64 900, .int .i64 2, .int .i64 1, .int .i64 4, .int .i64 500, .int .i64 4, .int .i64 4, .int .i64 30, .int .i64 8], .slice A l.length c] w fun e w' => e = .returned (.tuple #[.int .i64 (roundsL cl be (l.map pE)).1, .int .i64 (roundsL cl be (l.map pE)).2.1, .int .i64 (roundsL cl be (l.map pE)).2.2]) ∧ Below w.heap.size w w' := by
  have HR := Aside0.mk hr
  have hm : l.length ≤ 9223372036854775807 := hr.2.1
  clear hr
  unfold roundsL
  rw [List.length_map]
  by_cases hl : l.length > 512
  · rw [if_pos hl]
    go_enter Try.func27, Try.ntmps27
    go_wp2_with (first | ((with_reducible refine gate_dst (N := 2) rfl ?_); refine box_event ?hg (N := 2) ?hd (cs := #[.int .i64 cl, .int .i64 be, .int .u64 sd, .int .i64 3, .bool false, .int .i64 4, .int .i64 2, .int .i64 6, .int .i64 1, .int .i64 3, .int .i64 800, .int .i64 5, .int .i64 4, .int .i64 16, .int .i64 50, .int .i64 40, .int .i64 200, .int .i64 50, .int .i64 2, .int .i64 5, .int .i64 3, .int .i64 1, .int .i64 5, .int .i64 900, .int .i64 2, .int .i64 1, .int .i64 4, .int .i64 500, .int .i64 4, .int .i64 4, .int .i64 30, .int .i64 8]) (t := 69) ?hr ?_; (case hd => rfl); (case hg => rfl); (case hr => first | (go_simp; done) | (go_simp; rfl)); intro gb hg w0 hbox hb; have HB0 := Aside0.mk hb; have BK0 := Aside0.mk hbox; clear hb hbox hg) | ((with_reducible refine gate_dst (N := 10) rfl ?_); refine load_mid_w ?hw 69 _ rfl gb 0 rfl [.int .i64 cl, .int .i64 be, .int .u64 sd, .int .i64 3, .bool false, .int .i64 4, .int .i64 2, .int .i64 6, .int .i64 1, .int .i64 3, .int .i64 800, .int .i64 5, .int .i64 4, .int .i64 16, .int .i64 50, .int .i64 40, .int .i64 200, .int .i64 50, .int .i64 2, .int .i64 5, .int .i64 3, .int .i64 1, .int .i64 5, .int .i64 900, .int .i64 2, .int .i64 1, .int .i64 4, .int .i64 500, .int .i64 4, .int .i64 4, .int .i64 30, .int .i64 8] _ (range_of BK0.out (by rfl)) Try.underlying69 rfl (by kernel_rfl) ?_; (case hw => first | rfl | (go_simp; done) | (go_simp; rfl))) | (go_at_call 59; refine (ask.calls cl be sd A c l _ hm (by omega) (by omega) (by omega) (by omega)).mono ?_; rintro e w1 ⟨rfl, hb⟩; rw [if_pos hl]; have HB1 := Aside0.mk (below_b HB0.out hb HB0.out.size); have BK1 := Aside0.mk ((Ch.of_below hb (fun _ => False)).heap BK0.out (fun h => h)); clear hb))
    go_ret3
    exact ⟨rfl, HB1.out⟩
  · rw [if_neg hl, ← keep_map]
    go_enter Try.func27, Try.ntmps27
    go_wp2_with (first | ((with_reducible refine gate_dst (N := 2) rfl ?_); refine box_event ?hg (N := 2) ?hd (cs := #[.int .i64 cl, .int .i64 be, .int .u64 sd, .int .i64 3, .bool false, .int .i64 4, .int .i64 2, .int .i64 6, .int .i64 1, .int .i64 3, .int .i64 800, .int .i64 5, .int .i64 4, .int .i64 16, .int .i64 50, .int .i64 40, .int .i64 200, .int .i64 50, .int .i64 2, .int .i64 5, .int .i64 3, .int .i64 1, .int .i64 5, .int .i64 900, .int .i64 2, .int .i64 1, .int .i64 4, .int .i64 500, .int .i64 4, .int .i64 4, .int .i64 30, .int .i64 8]) (t := 69) ?hr ?_; (case hd => rfl); (case hg => rfl); (case hr => first | (go_simp; done) | (go_simp; rfl)); intro gb hg w0 hbox hb; have HB0 := Aside0.mk hb; have BK0 := Aside0.mk hbox; clear hb hbox hg) | ((with_reducible refine gate_dst (N := 10) rfl ?_); refine load_mid_w ?hw 69 _ rfl gb 0 rfl [.int .i64 cl, .int .i64 be, .int .u64 sd, .int .i64 3, .bool false, .int .i64 4, .int .i64 2, .int .i64 6, .int .i64 1, .int .i64 3, .int .i64 800, .int .i64 5, .int .i64 4, .int .i64 16, .int .i64 50, .int .i64 40, .int .i64 200, .int .i64 50, .int .i64 2, .int .i64 5, .int .i64 3, .int .i64 1, .int .i64 5, .int .i64 900, .int .i64 2, .int .i64 1, .int .i64 4, .int .i64 500, .int .i64 4, .int .i64 4, .int .i64 30, .int .i64 8] _ (range_of BK0.out (by rfl)) Try.underlying69 rfl (by kernel_rfl) ?_; (case hw => first | rfl | (go_simp; done) | (go_simp; rfl))) | (go_at_call 59; refine (ask.calls cl be sd A c l _ hm (by omega) (by omega) (by omega) (by omega)).mono ?_; rintro e w1 ⟨rfl, hb⟩; rw [if_neg hl]; have HB1 := Aside0.mk (below_b HB0.out hb HB0.out.size); have BK1 := Aside0.mk ((Ch.of_below hb (fun _ => False)).heap BK0.out (fun h => h)); clear hb) | ((with_reducible refine gate_dst (N := 17) rfl ?_); refine load_mid_w ?hw 69 _ rfl gb 0 rfl [.int .i64 cl, .int .i64 be, .int .u64 sd, .int .i64 3, .bool false, .int .i64 4, .int .i64 2, .int .i64 6, .int .i64 1, .int .i64 3, .int .i64 800, .int .i64 5, .int .i64 4, .int .i64 16, .int .i64 50, .int .i64 40, .int .i64 200, .int .i64 50, .int .i64 2, .int .i64 5, .int .i64 3, .int .i64 1, .int .i64 5, .int .i64 900, .int .i64 2, .int .i64 1, .int .i64 4, .int .i64 500, .int .i64 4, .int .i64 4, .int .i64 30, .int .i64 8] _ (range_of BK1.out (by rfl)) Try.underlying69 rfl (by kernel_rfl) ?_; (case hw => first | rfl | (go_simp; done) | (go_simp; rfl))) | (go_at_call 60; refine (all.calls cl be sd A c l _ (Kd.C_below HR.out HB1.out) hc (by omega) (by omega) (by omega) (by omega) (by omega)).mono ?_; rintro e w2 ⟨rfl, hb⟩; have HB2 := Aside0.mk (below_b HB1.out hb HB1.out.size); clear hb))
    go_ret3
    exact ⟨rfl, HB2.out⟩
end Go.Proofs.Ytemleanglkaedaa.ECalmPlans
