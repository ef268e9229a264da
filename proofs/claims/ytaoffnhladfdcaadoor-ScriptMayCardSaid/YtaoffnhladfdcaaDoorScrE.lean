/- Check. -/
import Derived.Test.YtaoffnhladfdcaaDoorScrD
namespace Go.Proofs.YtaoffnhladfdcaaDoor.EScriptTrace
open Go.RowKit Go.Shelf Go.Proofs.YtaoffnhladfdcaaDoorW.PrintWords Go.Proofs.YtaoffnhladfdcaaDoorW.PrintLast Go.Proofs.YtaoffnhladfdcaaDoorW.PrintMore
set_option linter.unusedVariables false
set_option linter.unusedSimpArgs false
/-! May an event be told? -/
theorem or2 (a b : Int) : api_Errno.f 3 [a, b] = some (if a ≠ 0 then a else b) := by
  have r0 : rd [a, b] 0 = a := rfl
  have r1 : rd [a, b] 1 = b := rfl
  have w0 : wrap64 (0 + 1) = 1 := by unfold wrap64; omega
  have w1 : wrap64 (1 + 1) = 2 := by unfold wrap64; omega
  unfold api_Errno.f
  simp only [api_Errno.l0, r0, r1, w0, w1, List.length_cons, List.length_nil]
  by_cases h : a = 0
  · by_cases h2 : b = 0
    · simp [h, h2]
    · simp [h, h2]
  · simp [h]
/-- Is it just what its kind uses? -/
def okE (e : Ev) : Bool := decide (e.f0 = 1 ∨ e.f0 ≥ 5 ∨ e.f1 = 0) && (decide (e.f0 = 1 ∨ e.f0 = 2 ∨ e.f0 = 3 ∨ e.f0 = 4 ∨ e.f0 = 10 ∨ e.f2 = 0) && (decide (e.f0 = 1 ∨ e.g = zOp) && (decide (e.f0 = 7 ∨ e.v = 0) && decide (e.f0 = 7 ∨ e.bs = []))))
def checkE (e : Ev) : Int := if e.f0 < 1 ∨ e.f0 > 10 then 23 else if inL [e.f1, e.f2] = false then 4 else if opsE e ≠ 0 then opsE e else if snapE e ≠ 0 then snapE e else if okE e = true then 0 else 9
theorem eqB_self (l : List S62) : ∀ (n k : Nat), n + k = l.length → api_Backend_131.l0 (n + 1) l l (l.length : Int) (k : Int) = some true ∨ l.length > 9223372036854775807
  | 0, k, h => by
    left
    show (if (k : Int) < (l.length : Int) then _ else some true) = some true
    rw [if_neg (by omega)]
  | n + 1, k, h => by
    by_cases hl : l.length > 9223372036854775807
    · exact .inr hl
    left
    have ih := (eqB_self l n (k + 1) (by omega)).resolve_right hl
    show (if (k : Int) < (l.length : Int) then (if 0 ≤ (k : Int) then (if (k : Int) < (l.length : Int) then (if (k : Int) < (l.length : Int) then (if (!(((rd_T62 l k).f0) == ((rd_T62 l k).f0)) || (!(((rd_T62 l k).f1) == ((rd_T62 l k).f1)))) = true then (some false) else (api_Backend_131.l0 (n + 1) l l (l.length : Int) (wrap64 ((k : Int) + 1)))) else none) else none) else none) else some true) = some true
    rw [if_pos (by omega), if_pos (by omega), if_pos (by omega), if_pos (by omega), if_neg (by simp)]
    have e : wrap64 ((k : Int) + 1) = ((k + 1 : Nat) : Int) := by unfold wrap64; omega
    rw [e]; exact ih
theorem same_f (e : Ev) (hl : e.bs.length ≤ 9223372036854775807) : ∃ k, script_same.f k e.f0 e.f1 e.f2 e.g.f0 e.g.f1 e.g.f2 e.g.f3 e.v e.bs e.f0 (if e.f0 = 1 ∨ e.f0 ≥ 5 then e.f1 else 0) (if e.f0 = 1 ∨ e.f0 = 2 ∨ e.f0 = 3 ∨ e.f0 = 4 ∨ e.f0 = 10 then e.f2 else 0) (if e.f0 = 1 then e.g.f0 else 0) (if e.f0 = 1 then e.g.f1 else 0) (if e.f0 = 1 then e.g.f2 else 0) (if e.f0 = 1 then e.g.f3 else 0) (if e.f0 = 7 then e.v else 0) (if e.f0 = 7 then e.bs else []) = some (okE e) := by
  refine ⟨e.bs.length + 1, ?_⟩
  unfold script_same.f okE
  rw [if_pos rfl]
  by_cases c1 : e.f0 = 1 ∨ e.f0 ≥ 5 ∨ e.f1 = 0
  · rw [decide_eq_true c1, Bool.true_and, if_pos (by split <;> omega)]
    by_cases c2 : e.f0 = 1 ∨ e.f0 = 2 ∨ e.f0 = 3 ∨ e.f0 = 4 ∨ e.f0 = 10 ∨ e.f2 = 0
    · rw [decide_eq_true c2, Bool.true_and, if_pos (by split <;> omega)]
      by_cases c3 : e.f0 = 1 ∨ e.g = zOp
      · rw [decide_eq_true c3, Bool.true_and]
        rw [if_pos (by
          rcases c3 with h | h
          · simp [h]
          · rw [h]; simp [zOp])]
        by_cases c4 : e.f0 = 7 ∨ e.v = 0
        · rw [decide_eq_true c4, Bool.true_and, if_pos (by split <;> omega)]
          unfold api_Backend_131.f
          by_cases c5 : e.f0 = 7
          · rw [if_pos c5, decide_eq_true (.inl c5), if_pos rfl]
            have := (eqB_self e.bs e.bs.length 0 (by omega)).resolve_right (by omega)
            rw [show ((0 : Nat) : Int) = 0 from rfl] at this
            rw [this]; rfl
          · rw [if_neg c5]
            by_cases c6 : e.bs = []
            · rw [c6, decide_eq_true (.inr rfl), if_pos rfl]; rfl
            · rw [decide_eq_false (by intro h; rcases h with h | h; exact c5 h; exact c6 h), if_neg]; rfl
              intro h
              apply c6
              apply List.eq_nil_of_length_eq_zero
              have : (([] : List S62).length : Int) = 0 := rfl
              omega
        · rw [decide_eq_false c4, Bool.false_and, if_neg (by split <;> omega)]
      · rw [decide_eq_false c3, Bool.false_and, if_neg]
        intro h
        apply c3
        by_cases h1 : e.f0 = 1
        · exact .inl h1
        · right
          simp only [h1, if_false, Bool.and_eq_true, beq_iff_eq] at h
          obtain ⟨h2, h3, h4, h5⟩ := h
          obtain ⟨_, _, _, ⟨a, b, c, d⟩, _, _⟩ := e
          simp only [] at h2 h3 h4 h5
          rw [h2, h3, h4, h5]; rfl
    · rw [decide_eq_false c2, Bool.false_and, if_neg (by split <;> omega)]
  · rw [decide_eq_false c1, Bool.false_and, if_neg (by split <;> omega)]
theorem nine {W : World} {g : Nat} {c0 c1 c2 c3 c4 c5 c6 c7 c8 : Value} {T : TypeId} (h : W.heap[g]? = some (.cells #[c0, c1, c2, c3, c4, c5, c6, c7, c8] T (0, 0))) : W.cell? ⟨g, 0, none⟩ = some c0 ∧ W.cell? ⟨g, 1, none⟩ = some c1 ∧ W.cell? ⟨g, 2, none⟩ = some c2 ∧ W.cell? ⟨g, 3, none⟩ = some c3 ∧ W.cell? ⟨g, 4, none⟩ = some c4 ∧ W.cell? ⟨g, 5, none⟩ = some c5 ∧ W.cell? ⟨g, 6, none⟩ = some c6 ∧ W.cell? ⟨g, 7, none⟩ = some c7 ∧ W.cell? ⟨g, 8, none⟩ = some c8 :=
  ⟨zcell h 0 _ rfl, zcell h 1 _ rfl, zcell h 2 _ rfl, zcell h 3 _ rfl, zcell h 4 _ rfl, zcell h 5 _ rfl, zcell h 6 _ rfl, zcell h 7 _ rfl, zcell h 8 _ rfl⟩
theorem keep_al {W : World} {o x : Obj} {g : Nat} (h : W.heap[g]? = some x) : (W.alloc o).heap[g]? = some x := (Ch.of_below (below_alloc (Below.refl W.heap.size W) o) (fun _ => False)).heap h (fun h => h)
theorem keep_dr {W W1 : World} {x : Obj} {g : Nat} (h : W.heap[g]? = some x) (hd : Drawn0 W W1) : W1.heap[g]? = some x := (Ch.of_below hd.below (fun _ => False)).heap h (fun h => h)
theorem only_same (e : Ev) (A : Option Addr) (c : Nat) (hc : e.bs.length ≤ c) (hl : e.bs.length ≤ 9223372036854775807) : ∃ (n1 n2 g0 g1 g2 g3 vv : Int) (A' : Option Addr) (c' : Nat) (bs' : List S62) (k : Nat), onlyC e.f0 e.f1 e.f2 e.g.f0 e.g.f1 e.g.f2 e.g.f3 e.v (.slice A e.bs.length c) = #[.int .i64 e.f0, .int .i64 n1, .int .i64 n2, .int .i64 g0, .int .i64 g1, .int .i64 g2, .int .i64 g3, .int .i64 vv, .slice A' bs'.length c'] ∧ bs'.length ≤ c' ∧ (∀ W : World, Kd.C k62 W A e.bs.length e.bs → Kd.C k62 W A' bs'.length bs') ∧ script_same.f k e.f0 e.f1 e.f2 e.g.f0 e.g.f1 e.g.f2 e.g.f3 e.v e.bs e.f0 n1 n2 g0 g1 g2 g3 vv bs' = some (okE e) := by
  obtain ⟨k, hk⟩ := same_f e hl
  by_cases h7 : e.f0 = 7
  · exact ⟨_, _, _, _, _, _, _, A, c, if e.f0 = 7 then e.bs else [], k, by unfold onlyC; rw [if_pos h7, if_pos h7, if_pos h7], by rw [if_pos h7]; exact hc, fun W h => by rw [if_pos h7]; exact h, hk⟩
  · exact ⟨_, _, _, _, _, _, _, none, 0, if e.f0 = 7 then e.bs else [], k, by unfold onlyC; rw [if_neg h7, if_neg h7, if_neg h7]; rfl, by rw [if_neg h7]; exact Nat.le_refl _, fun W h => by rw [if_neg h7]; exact Kd.C_nil _ _, hk⟩
set_option maxHeartbeats 8000000 in
set_option maxRecDepth 100000 in
theorem check.calls (e : Ev) (A : Option Addr) (c : Nat) (w : World) (hr : Kd.C k62 w A e.bs.length e.bs) (hc : e.bs.length ≤ c) : Calls Tryd.prog 59 #[evV e A c] w fun r w' => r = .returned (.int .i64 (checkE e)) ∧ Below w.heap.size w w' := by
  have HR := Aside0.mk hr
  have HC := Aside0.mk hc
  obtain ⟨F, hF⟩ : ∃ F, F = checkE e := ⟨_, rfl⟩
  rw [← hF]
  obtain ⟨qo, hqo⟩ : ∃ q, q = opsE e := ⟨_, rfl⟩
  obtain ⟨qs, hqs⟩ : ∃ q, q = snapE e := ⟨_, rfl⟩
  obtain ⟨p, hp⟩ : ∃ p, p = inL [e.f1, e.f2] := ⟨_, rfl⟩
  obtain ⟨o, ho⟩ : ∃ o, o = okE e := ⟨_, rfl⟩
  have HF : Aside0 (F = if e.f0 < 1 ∨ e.f0 > 10 then 23 else if p = false then 4 else if qo ≠ 0 then qo else if qs ≠ 0 then qs else if o = true then 0 else 9) := ⟨by rw [hF, hqo, hqs, hp, ho]; rfl⟩
  have HQO := Aside0.mk (fun W => ops.calls e A c W)
  rw [← hqo] at HQO
  have HQS := Aside0.mk (fun W (h : Kd.C k62 W A e.bs.length e.bs) => snapshots.calls e A c W h HC.out)
  rw [← hqs] at HQS
  obtain ⟨n1, n2, g0, g1, g2, g3, vv, A', c', bs', k, hon, hc', hC', hsf⟩ := only_same e A c hc hr.2.1
  rw [← ho] at hsf
  have HSF := Aside0.mk hsf
  have HCC := Aside0.mk (And.intro hc' hC')
  have HON : Aside0 (1 ≤ e.f0 ∧ e.f0 ≤ 10 → ∀ W : World, Calls Tryd.prog 102 #[.agg #[.int .i64 e.f0, .int .i64 e.f1, .int .i64 e.f2, .int .i64 e.g.f0, .int .i64 e.g.f1, .int .i64 e.g.f2, .int .i64 e.g.f3, .int .i64 e.v, .slice A e.bs.length c]] W fun r w' => r = .returned (.agg #[.int .i64 e.f0, .int .i64 n1, .int .i64 n2, .int .i64 g0, .int .i64 g1, .int .i64 g2, .int .i64 g3, .int .i64 vv, .slice A' bs'.length c']) ∧ Below W.heap.size W w') := ⟨fun h W => by rw [← hon]; exact only.calls e.f0 e.f1 e.f2 e.g.f0 e.g.f1 e.g.f2 e.g.f3 e.v A e.bs.length c W h⟩
  have HP := Aside0.mk hp
  clear hF hqo hqs hp ho hr hc hon hc' hC' hsf
  obtain ⟨f0, f1, f2, ⟨a, b, d, m⟩, v, bs⟩ := e
  simp only [evV] at HQO HQS HF HSF HP HR HC HON HCC ⊢
  have hbox : ∀ (P : Prop), P → P := fun _ h => h
  clear hbox
  by_cases h1 : f0 < 1
  · have hF : F = 23 := HF.out.trans (if_pos (.inl h1))
    subst hF
    clear HF HQO HQS HSF HP HON HCC
    go_enter Tryd.func59, Tryd.ntmps59
    go_wp2_with ((with_reducible refine gate_dst (N := 1) rfl ?_); refine box_event ?hg (N := 1) ?hd (cs := #[.int .i64 f0, .int .i64 f1, .int .i64 f2, .int .i64 a, .int .i64 b, .int .i64 d, .int .i64 m, .int .i64 v, .slice A bs.length c]) (t := 60) ?hr ?_; (case hd => rfl); (case hg => rfl); (case hr => first | (go_simp; done) | (go_simp; rfl)); intro gb hg w2 hbox hb; have HB2 := Aside0.mk hb; have hx0 : w2.cell? ⟨gb, 0, none⟩ = some (.int .i64 f0) := zcell hbox 0 _ rfl; clear hb hbox hg)
    go_ret
    exact ⟨rfl, HB2.out⟩
  by_cases h2 : 10 < f0
  · have hF : F = 23 := HF.out.trans (if_pos (.inr h2))
    subst hF
    clear HF HQO HQS HSF HP HON HCC
    go_enter Tryd.func59, Tryd.ntmps59
    go_wp2_with ((with_reducible refine gate_dst (N := 1) rfl ?_); refine box_event ?hg (N := 1) ?hd (cs := #[.int .i64 f0, .int .i64 f1, .int .i64 f2, .int .i64 a, .int .i64 b, .int .i64 d, .int .i64 m, .int .i64 v, .slice A bs.length c]) (t := 60) ?hr ?_; (case hd => rfl); (case hg => rfl); (case hr => first | (go_simp; done) | (go_simp; rfl)); intro gb hg w2 hbox hb; have HB2 := Aside0.mk hb; have hx0 : w2.cell? ⟨gb, 0, none⟩ = some (.int .i64 f0) := zcell hbox 0 _ rfl; clear hb hbox hg)
    go_ret
    exact ⟨rfl, HB2.out⟩
  have HF := Aside0.mk (HF.out.trans (if_neg (show ¬ (f0 < 1 ∨ f0 > 10) from by omega)))
  have HK10 : Aside0 (1 ≤ f0 ∧ f0 ≤ 10) := ⟨by omega⟩
  have hd1 : decide (f0 < 1) = false := decide_eq_false h1
  have hd2 : decide (10 < f0) = false := decide_eq_false h2
  clear h1 h2
  go_enter Tryd.func59, Tryd.ntmps59
  go_wp2_with ((with_reducible refine gate_dst (N := 1) rfl ?_); refine box_event ?hg (N := 1) ?hd (cs := #[.int .i64 f0, .int .i64 f1, .int .i64 f2, .int .i64 a, .int .i64 b, .int .i64 d, .int .i64 m, .int .i64 v, .slice A bs.length c]) (t := 60) ?hr ?_; (case hd => rfl); (case hg => rfl); (case hr => first | (go_simp; done) | (go_simp; rfl)); intro gb hg w2 hbox hb; have HB2 := Aside0.mk hb; have BK2 := Aside0.mk hbox; have hx0 : w2.cell? ⟨gb, 0, none⟩ = some (.int .i64 f0) := zcell hbox 0 _ rfl; have hx1 : w2.cell? ⟨gb, 1, none⟩ = some (.int .i64 f1) := zcell hbox 1 _ rfl; have hx2 : w2.cell? ⟨gb, 2, none⟩ = some (.int .i64 f2) := zcell hbox 2 _ rfl; clear hb hbox hg)
  try go_at_call 97
  refine (in.calls _ _ [f1, f2] _ (zC_new .i64 3 [f1, f2] w2 w2.heap.size rfl (by simp)) (Nat.le_refl _)).mono ?_
  rw [← HP.out]
  rintro r w3 ⟨rfl, rfl⟩
  have HB3 := Aside0.mk (below_alloc HB2.out (.cells (nums .i64 [f1, f2]).toArray 3))
  have BK3 := Aside0.mk ((Ch.of_below (below_alloc (Below.refl w2.heap.size w2) (.cells (nums .i64 [f1, f2]).toArray 3)) (fun _ => False)).heap BK2.out (fun h => h))
  clear hx0 hx1 hx2 BK2
  generalize (w2.alloc (.cells (nums .i64 [f1, f2]).toArray 3)) = w3 at HB3 BK3 ⊢
  cases p
  · have hF : F = 4 := HF.out.trans (if_pos rfl)
    subst hF
    clear HF HQO HQS HSF HP HON HCC
    go_wp2_with fail
    go_ret
    exact ⟨rfl, HB3.out⟩
  have HF := Aside0.mk (HF.out.trans (if_neg (by decide)))
  go_wp2_with fail
  obtain ⟨q, hq⟩ : ∃ q, q = if qo ≠ 0 then qo else qs := ⟨_, rfl⟩
  have HOR : Aside0 (api_Errno.f 3 [qo, qs] = some q) := ⟨by rw [or2, hq]⟩
  have HF : Aside0 (F = if q ≠ 0 then q else if o = true then 0 else 9) := ⟨by rw [HF.out, hq]; by_cases h : qo = 0 <;> simp [h]⟩
  clear hq
  have hS := nine BK3.out
  go_region_held2 (fun W => W.cell? ⟨gb, 0, none⟩ = some (.int .i64 f0) ∧ W.cell? ⟨gb, 1, none⟩ = some (.int .i64 f1) ∧ W.cell? ⟨gb, 2, none⟩ = some (.int .i64 f2) ∧ W.cell? ⟨gb, 3, none⟩ = some (.int .i64 a) ∧ W.cell? ⟨gb, 4, none⟩ = some (.int .i64 b) ∧ W.cell? ⟨gb, 5, none⟩ = some (.int .i64 d) ∧ W.cell? ⟨gb, 6, none⟩ = some (.int .i64 m) ∧ W.cell? ⟨gb, 7, none⟩ = some (.int .i64 v) ∧ W.cell? ⟨gb, 8, none⟩ = some (.slice A bs.length c)) (first | exact nine BK3.out | exact nine BK4.out | exact nine BK5.out | exact nine BK6.out | exact nine (keep_al BK5.out) | exact nine (keep_al BK4.out)) (first | (go_at_call 99; refine (HQO.out _).mono ?_; rintro r w4 ⟨rfl, hb⟩; have HB4 := Aside0.mk (below_b (by first | exact below_drew HB5.out | exact below_drew HB3.out | exact HB5.out | exact HB3.out) hb (by first | exact HB5.out.size | exact HB3.out.size)); have BK4 := Aside0.mk ((Ch.of_below hb (fun _ => False)).heap (by first | exact BK5.out | exact BK3.out) (fun h => h)); clear hb) | (go_at_call 100; refine (HQS.out _ (Kd.C_below HR.out (by first | exact below_drew HB4.out | exact below_drew HB3.out | exact HB4.out | exact HB3.out))).mono ?_; rintro r w5 ⟨rfl, hb⟩; have HB5 := Aside0.mk (below_b (by first | exact below_drew HB4.out | exact below_drew HB3.out | exact HB4.out | exact HB3.out) hb (by first | exact HB4.out.size | exact HB3.out.size)); have BK5 := Aside0.mk ((Ch.of_below hb (fun _ => False)).heap (by first | exact BK4.out | exact BK3.out) (fun h => h)); clear hb) | (go_at_call 98; (first | refine (api_Errno.calls 3 (some ⟨w5.heap.size, 0, none⟩) 2 [qo, qs] q (w5.alloc (.cells (nums .i64 [qo, qs]).toArray 40)) (zC_new .i64 40 [qo, qs] w5 w5.heap.size rfl (by simp)) (Nat.le_refl _) HOR.out).mono ?_ | refine (api_Errno.calls 3 (some ⟨w4.heap.size, 0, none⟩) 2 [qo, qs] q (w4.alloc (.cells (nums .i64 [qo, qs]).toArray 40)) (zC_new .i64 40 [qo, qs] w4 w4.heap.size rfl (by simp)) (Nat.le_refl _) HOR.out).mono ?_); rintro r w6 ⟨rfl, hd⟩; have HB6 : Aside0 (Below w.heap.size w w6) := (by first | exact ⟨below_b (below_alloc HB5.out _) hd.below (below_alloc HB5.out _).size⟩ | exact ⟨below_b (below_alloc HB4.out _) hd.below (below_alloc HB4.out _).size⟩); have BK6 : Aside0 (w6.heap[gb]? = some (.cells #[.int .i64 f0, .int .i64 f1, .int .i64 f2, .int .i64 a, .int .i64 b, .int .i64 d, .int .i64 m, .int .i64 v, .slice A bs.length c] 60 (0, 0))) := (by first | exact ⟨keep_dr (keep_al BK5.out) hd⟩ | exact ⟨keep_dr (keep_al BK4.out) hd⟩); clear hd))
  clear hS HQO HQS
  by_cases hq0 : q = 0
  · subst hq0
    have HF := Aside0.mk (HF.out.trans (if_neg (by decide)))
    go_wp2_with fail
    have hS := nine BK6.out
    go_region_held2 (fun W => W.cell? ⟨gb, 0, none⟩ = some (.int .i64 f0) ∧ W.cell? ⟨gb, 1, none⟩ = some (.int .i64 f1) ∧ W.cell? ⟨gb, 2, none⟩ = some (.int .i64 f2) ∧ W.cell? ⟨gb, 3, none⟩ = some (.int .i64 a) ∧ W.cell? ⟨gb, 4, none⟩ = some (.int .i64 b) ∧ W.cell? ⟨gb, 5, none⟩ = some (.int .i64 d) ∧ W.cell? ⟨gb, 6, none⟩ = some (.int .i64 m) ∧ W.cell? ⟨gb, 7, none⟩ = some (.int .i64 v) ∧ W.cell? ⟨gb, 8, none⟩ = some (.slice A bs.length c)) (first | exact nine BK6.out | exact nine BK7.out | exact nine BK8.out) (first | (go_at_call 102; refine (HON.out HK10.out _).mono ?_; rintro r w7 ⟨rfl, hb⟩; have HB7 := Aside0.mk (below_b (by first | exact below_drew HB6.out | exact HB6.out) hb (by exact HB6.out.size)); have BK7 := Aside0.mk ((Ch.of_below hb (fun _ => False)).heap (by exact BK6.out) (fun h => h)); clear hb) | (go_at_call 101; refine (script_same.calls k f0 f1 f2 a b d m v A c bs f0 n1 n2 g0 g1 g2 g3 vv A' c' bs' o _ (Kd.C_below HR.out HB7.out) HC.out (HCC.out.2 _ (Kd.C_below HR.out HB7.out)) HCC.out.1 HSF.out).mono ?_; rintro r w8 ⟨rfl, hb⟩; have HB8 := Aside0.mk (below_b HB7.out hb HB7.out.size); have BK8 := Aside0.mk ((Ch.of_below hb (fun _ => False)).heap BK7.out (fun h => h)); clear hb))
    cases o
    · have hF : F = 9 := HF.out.trans (if_neg (by decide))
      subst hF
      clear hS
      go_wp2_with fail
      go_ret
      exact ⟨rfl, HB8.out⟩
    · have hF : F = 0 := HF.out.trans (if_pos rfl)
      subst hF
      clear hS
      go_wp2_with fail
      go_ret
      exact ⟨rfl, HB8.out⟩
  · have hF : F = q := HF.out.trans (if_pos hq0)
    subst hF
    have hne : (F != 0) = true := bne_iff_ne.mpr hq0
    clear HF hq0
    go_wp2_with fail
    go_ret
    exact ⟨rfl, HB6.out⟩
end Go.Proofs.YtaoffnhladfdcaaDoor.EScriptTrace
