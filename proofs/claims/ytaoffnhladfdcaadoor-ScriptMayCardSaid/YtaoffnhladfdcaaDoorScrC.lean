/- A snapshot's check; an event's parts. -/
import Derived.Test.YtaoffnhladfdcaaDoorScrB
namespace Go.Proofs.YtaoffnhladfdcaaDoor.EScriptTrace
open Go.RowKit Go.Shelf Go.Proofs.YtaoffnhladfdcaaDoorW.PrintWords Go.Proofs.YtaoffnhladfdcaaDoorW.PrintLast Go.Proofs.YtaoffnhladfdcaaDoorW.PrintMore
set_option linter.unusedVariables false
set_option linter.unusedSimpArgs false
/-! Snapshots. -/
def snapC (v : Int) (l : List S62) : Int := if v < 0 ∨ v > 1073741824 then 4 else ringC l
set_option maxHeartbeats 1000000 in
set_option maxRecDepth 100000 in
theorem resolve_Check.calls (v : Int) (A : Option Addr) (c : Nat) (l : List S62) (w : World) (hr : Kd.C k62 w A l.length l) (hc : l.length ≤ c) : Calls Tryd.prog 129 #[.agg #[.int .i64 v, .slice A l.length c]] w fun e w' => e = .returned (.int .i64 (snapC v l)) ∧ Below w.heap.size w w' := by
  have HR := Aside0.mk hr
  have HC := Aside0.mk hc
  have hu56 := Tryd.underlying56
  obtain ⟨F, hF⟩ : ∃ F, F = snapC v l := ⟨_, rfl⟩
  rw [← hF]
  have HF : Aside0 (F = if v < 0 ∨ v > 1073741824 then 4 else ringC l) := ⟨hF⟩
  clear hr hc hF
  by_cases h1 : v < 0
  · have hF : F = 4 := HF.out.trans (if_pos (.inl h1))
    subst hF
    clear HF
    go_enter Tryd.func129, Tryd.ntmps129
    go_wp2
    go_ret
    exact ⟨rfl, below_alloc (Below.refl _ _) _⟩
  · by_cases h2 : 1073741824 < v
    · have hF : F = 4 := HF.out.trans (if_pos (.inr h2))
      subst hF
      clear HF
      go_enter Tryd.func129, Tryd.ntmps129
      go_wp2
      go_ret
      exact ⟨rfl, below_alloc (Below.refl _ _) _⟩
    · have hF : F = ringC l := HF.out.trans (if_neg (by omega))
      subst hF
      clear HF
      go_enter Tryd.func129, Tryd.ntmps129
      go_wp2_with fail
      try go_at_call 146
      refine (ring_Check.calls A c l _ (Kd.C_below HR.out (below_alloc (Below.refl _ _) _)) HC.out).mono ?_
      rintro e w1 ⟨rfl, hb⟩
      have HB := Aside0.mk (below_b (below_alloc (Below.refl _ _) _) hb (by simp))
      clear hb
      go_wp2_with fail
      go_ret
      exact ⟨rfl, HB.out⟩
theorem info3q : (Tryd.prog.info? 3).map (fun i => (i.zero, i.size, i.bytes)) = some (some (.int .i64 0), 1, 8) := by kernel_rfl
theorem ringC_len {l : List S62} (h : ringC l = 0) : l.length ≤ 32 := by
  unfold ringC at h
  by_cases c : l.length > 32
  · rw [if_pos c] at h; exact absurd h (by decide)
  · omega
theorem snapC_zero {v : Int} {l : List S62} (h : snapC v l = 0) : 0 ≤ v ∧ v ≤ 1073741824 ∧ ringC l = 0 := by
  unfold snapC at h
  by_cases c : v < 0 ∨ v > 1073741824
  · rw [if_pos c] at h; exact absurd h (by decide)
  · rw [if_neg c] at h; exact ⟨by omega, by omega, h⟩
set_option maxHeartbeats 2000000 in
set_option maxRecDepth 100000 in
theorem IDs.calls (v : Int) (A : Option Addr) (c : Nat) (l : List S62) (w : World) (hr : Kd.C k62 w A l.length l) (hc : l.length ≤ c) (h0 : snapC v l = 0) : Calls Tryd.prog 130 #[.agg #[.int .i64 v, .slice A l.length c]] w fun e w' => ∃ u, e = .returned (.tuple #[u, .int .i64 0]) ∧ Kd.R (Kd.int .i64) 3 w' w.heap.size (fun _ => True) u (l.map S62.f0) ∧ Below w.heap.size w w' := by
  have HR := Aside0.mk hr
  have HC := Aside0.mk hc
  have hu56 := Tryd.underlying56
  have hlen : l.length ≤ 32 := ringC_len (snapC_zero h0).2.2
  have HQ := Aside0.mk (resolve_Check.calls v A c l (w.alloc (.cells #[.int .i64 v, .slice A l.length c] 56)) (Kd.C_below hr (below_alloc (Below.refl _ _) _)) hc)
  rw [h0] at HQ
  have HBK := Aside0.mk (heap_alloc_new w (.cells #[.int .i64 v, .slice A l.length c] 56))
  have hx0 : (w.alloc (.cells #[.int .i64 v, .slice A l.length c] 56)).cell? ⟨w.heap.size, 0, none⟩ = some (.int .i64 v) := zcell HBK.out 0 _ rfl
  have hx1 : (w.alloc (.cells #[.int .i64 v, .slice A l.length c] 56)).cell? ⟨w.heap.size, 1, none⟩ = some (.slice A l.length c) := zcell HBK.out 1 _ rfl
  clear hr hc h0
  go_enter Tryd.func130, Tryd.ntmps130
  go_wp2_with fail
  try go_at_call 129
  refine HQ.out.mono ?_
  rintro e w1 ⟨rfl, hb⟩
  have HB := Aside0.mk (below_b (below_alloc (Below.refl w.heap.size w) (.cells #[.int .i64 v, .slice A l.length c] 56)) hb (by simp))
  have hy1 : w1.cell? ⟨w.heap.size, 1, none⟩ = some (.slice A l.length c) := cell_step hb hx1
  clear hb HQ hx0 hx1 HBK
  go_wp2_with fail
  go_loopw [5, 7, 16] (fun v5 v7 v16 W => ∃ (i : Nat), i ≤ l.length ∧ v16 = .int .i64 i ∧ Aside0 (Kd.R (Kd.int .i64) 3 W w.heap.size (fun _ => True) v5 ((l.take i).map S62.f0)) ∧ Aside0 (Below w.heap.size w W)) (fun _ _ v _ => l.length - (intOf v).toNat)
  case atStart => exact ⟨0, by omega, rfl, ⟨Kd.R_nil _ _ _ _ _⟩, HB⟩
  case round =>
    clear HB hy1
    obtain ⟨i, hi, rfl, HRo, HB⟩ := hrel
    by_cases hlt : i < l.length
    · obtain ⟨ad, e1, hx0, hx1⟩ := at_T62 (Kd.C_below HR.out HB.out) ((i : Nat) : Int) (by omega) (by omega)
      cases e1
      have HT : Aside0 ((l.take (i + 1)).map S62.f0 = (l.take i).map S62.f0 ++ [(rd_T62 l ((i : Nat) : Int)).f0]) := ⟨by
        rw [List.take_succ_eq_append_getElem hlt, List.map_append]
        unfold rd_T62
        rw [Int.toNat_natCast, List.getD_eq_getElem?_getD, List.getElem?_eq_getElem hlt]; rfl⟩
      simp only [Int.toNat_natCast] at hx0 hx1
      generalize rd_T62 l ((i : Nat) : Int) = x at hx0 hx1 HT
      have HLB : Aside0 ((((l.take i).map S62.f0).length + 1) * 8 ≤ 140737488355328) := ⟨by have := List.length_take_le i l; simp; omega⟩
      have HRa := Aside0.mk (R_ch HRo.out ((Ch.refl (fun _ => False) wr).alloc (.cells #[.int .i64 x.f0, .int .i64 x.f1] 62 (0, 0))) (fun _ _ h => h))
      have HBa := Aside0.mk (below_alloc HB.out (.cells #[.int .i64 x.f0, .int .i64 x.f1] 62 (0, 0)))
      have hsz : (wr.alloc (.cells #[.int .i64 x.f0, .int .i64 x.f1] 62 (0, 0))).heap.size = wr.heap.size + 1 := Array.size_push _
      clear HRo
      go_wp2_with ((with_reducible refine gate_builtin (b := .append) (xs := #[.tmp 20, .tmp 23]) rfl ?_); at_builtin; refine Aside0.out (?_ : Aside0 _))
      refine ⟨?_⟩
      refine Kd.R_append (Kd.int .i64) (w0 := w) w.heap.size rfl (.tmp 20) (.tmp 23) 126 3 (.int .i64 0) 8 rfl Tryd.underlying126 info3q rfl (by decide) (by decide) _ ((l.take i).map S62.f0) x.f0 [.int .i64 x.f0] (fun _ => True) (fun _ => False) rfl (by rw [hsz]; rfl) rfl (fun _ hk => hk.elim) (fun _ _ => trivial) HRa.out HBa.out HBa.out.size HLB.out ?_
      intro v1 w1 hR hB hG _
      have HR2 := Aside0.mk (show Kd.R (Kd.int .i64) 3 w1 w.heap.size (fun _ => True) v1 ((l.take (i + 1)).map S62.f0) from by rw [HT.out]; exact hR)
      have HB2 := Aside0.mk hB
      clear hR hB hG HRa HBa HT hx0 hx1
      go_wp2_with fail
      refine ⟨⟨i + 1, by omega, by go_num, HR2, HB2⟩, ?_⟩
      simp [intOf]; omega
    · obtain rfl : i = l.length := by omega
      have HR2 := Aside0.mk (show Kd.R (Kd.int .i64) 3 wr w.heap.size (fun _ => True) _ (l.map S62.f0) from by have := HRo.out; rw [List.take_length] at this; exact this)
      clear HRo
      go_wp2_with fail
      go_ret2
      exact ⟨_, rfl, HR2.out, HB.out⟩
/-! An event's parts. -/
structure Ev where
  f0 : Int
  f1 : Int
  f2 : Int
  g : Op4
  v : Int
  bs : List S62
def snapE (e : Ev) : Int := if e.f0 ≠ 7 then 0 else if snapC e.v e.bs ≠ 0 then snapC e.v e.bs else if inL [e.v] = true ∧ inL (e.bs.map S62.f0) = true then 0 else 4
def evC (e : Ev) (A : Option Addr) (c : Nat) : List Value := [.int .i64 e.f0, .int .i64 e.f1, .int .i64 e.f2, .int .i64 e.g.f0, .int .i64 e.g.f1, .int .i64 e.g.f2, .int .i64 e.g.f3, .int .i64 e.v, .slice A e.bs.length c]
def evV (e : Ev) (A : Option Addr) (c : Nat) : Value := .agg #[.int .i64 e.f0, .int .i64 e.f1, .int .i64 e.f2, .int .i64 e.g.f0, .int .i64 e.g.f1, .int .i64 e.g.f2, .int .i64 e.g.f3, .int .i64 e.v, .slice A e.bs.length c]
set_option maxHeartbeats 4000000 in
set_option maxRecDepth 100000 in
theorem snapshots.calls (e : Ev) (A : Option Addr) (c : Nat) (w : World) (hr : Kd.C k62 w A e.bs.length e.bs) (hc : e.bs.length ≤ c) : Calls Tryd.prog 100 #[evV e A c] w fun r w' => r = .returned (.int .i64 (snapE e)) ∧ Below w.heap.size w w' := by
  have HR := Aside0.mk hr
  have HC := Aside0.mk hc
  obtain ⟨f0, f1, f2, ⟨a, b, d, m⟩, v, bs⟩ := e
  obtain ⟨F, hF⟩ : ∃ F, F = snapE ⟨f0, f1, f2, ⟨a, b, d, m⟩, v, bs⟩ := ⟨_, rfl⟩
  rw [← hF]
  have HF : Aside0 (F = if f0 ≠ 7 then 0 else if snapC v bs ≠ 0 then snapC v bs else if inL [v] = true ∧ inL (bs.map S62.f0) = true then 0 else 4) := ⟨hF⟩
  clear hF hr hc
  show Calls Tryd.prog 100 #[.agg #[.int .i64 f0, .int .i64 f1, .int .i64 f2, .int .i64 a, .int .i64 b, .int .i64 d, .int .i64 m, .int .i64 v, .slice A bs.length c]] w _
  by_cases h7 : f0 = 7
  · subst h7
    have HF := Aside0.mk (HF.out.trans (if_neg (by decide)))
    obtain ⟨q, hq⟩ : ∃ q, q = snapC v bs := ⟨_, rfl⟩
    rw [← hq] at HF
    have HQ := Aside0.mk hq
    clear hq
    go_enter Tryd.func100, Tryd.ntmps100
    go_wp2_with (first | ((with_reducible refine gate_dst (N := 1) rfl ?_); refine box_event ?hg (N := 1) ?hd (cs := #[.int .i64 7, .int .i64 f1, .int .i64 f2, .int .i64 a, .int .i64 b, .int .i64 d, .int .i64 m, .int .i64 v, .slice A bs.length c]) (t := 60) ?hr ?_; (case hd => rfl); (case hg => rfl); (case hr => first | (go_simp; done) | (go_simp; rfl)); intro gb hg w2 hbox hb; have HB2 := Aside0.mk hb; have BK2 := Aside0.mk hbox; have hx0 := zcell hbox 0 _ rfl; clear hb hbox hg) | ((with_reducible refine gate_dst (N := 10) rfl ?_); refine load_mid_w ?hw 56 _ rfl gb 7 rfl [.int .i64 v, .slice A bs.length c] _ (range_of BK2.out (by rfl)) Tryd.underlying56 rfl (by kernel_rfl) ?_; (case hw => first | rfl | (go_simp; done) | (go_simp; rfl))))
    try go_at_call 129
    refine (resolve_Check.calls v A c bs _ (Kd.C_below HR.out HB2.out) HC.out).mono ?_
    rw [← HQ.out]
    rintro r w3 ⟨rfl, hb⟩
    have HB3 := Aside0.mk (below_b HB2.out hb HB2.out.size)
    have BK3 := Aside0.mk ((Ch.of_below hb (fun _ => False)).heap BK2.out (fun h => h))
    clear hb hx0 BK2
    by_cases hq0 : q = 0
    · subst hq0
      have HF := Aside0.mk (HF.out.trans (if_neg (by decide)))
      go_wp2_with ((with_reducible refine gate_dst (N := 17) rfl ?_); refine load_mid_w ?hw 56 _ rfl gb 7 rfl [.int .i64 v, .slice A bs.length c] _ (range_of BK3.out (by rfl)) Tryd.underlying56 rfl (by kernel_rfl) ?_; (case hw => first | rfl | (go_simp; done) | (go_simp; rfl)))
      try go_at_call 130
      refine (IDs.calls v A c bs _ (Kd.C_below HR.out HB3.out) HC.out HQ.out.symm).mono ?_
      obtain ⟨ids, hids⟩ : ∃ ids, ids = bs.map S62.f0 := ⟨_, rfl⟩
      rw [← hids] at HF
      rw [← hids]
      clear hids
      rintro r w4 ⟨u, rfl, hR, hb⟩
      obtain ⟨Ai, ci, rfl⟩ := Kd.R_slice hR
      have HI := Aside0.mk (Kd.R_reads' hR).2
      have HB4 := Aside0.mk (below_b HB3.out hb HB3.out.size)
      have BK4 := Aside0.mk ((Ch.of_below hb (fun _ => False)).heap BK3.out (fun h => h))
      have hx7 : w4.cell? ⟨gb, 7, none⟩ = some (.int .i64 v) := zcell BK4.out 7 _ rfl
      clear hR hb BK3
      obtain ⟨p1, hp1⟩ : ∃ p, p = inL [v] := ⟨_, rfl⟩
      obtain ⟨p2, hp2⟩ : ∃ p, p = inL ids := ⟨_, rfl⟩
      have HP1 := Aside0.mk hp1
      have HP2 := Aside0.mk hp2
      rw [← hp1, ← hp2] at HF
      clear hp1 hp2
      have HN1 := Aside0.mk (zC_new .i64 3 [v] w4 w4.heap.size rfl (by simp))
      cases p1
      · have hF : F = 4 := HF.out.trans (if_neg (by simp))
        subst hF
        go_wp2_with fail
        try go_at_call 97
        refine (in.calls _ _ [v] _ HN1.out (Nat.le_refl _)).mono ?_
        rw [← HP1.out]
        rintro r w5 ⟨rfl, rfl⟩
        have HB5 := Aside0.mk (below_alloc HB4.out (.cells (nums .i64 [v]).toArray 3))
        go_wp2_with fail
        go_ret
        exact ⟨rfl, HB5.out⟩
      · cases p2
        · have hF : F = 4 := HF.out.trans (if_neg (by simp))
          subst hF
          go_wp2_with fail
          try go_at_call 97
          refine (in.calls _ _ [v] _ HN1.out (Nat.le_refl _)).mono ?_
          rw [← HP1.out]
          rintro r w5 ⟨rfl, rfl⟩
          have HB5 := Aside0.mk (below_alloc HB4.out (.cells (nums .i64 [v]).toArray 3))
          have HI5 := Aside0.mk (Kd.C_below HI.out.2 (below_alloc (Below.refl w4.heap.size w4) (.cells (nums .i64 [v]).toArray 3)))
          clear hx7
          go_wp2_with fail
          try go_at_call 97
          refine (in.calls _ _ _ _ HI5.out HI.out.1).mono ?_
          rw [← HP2.out]
          rintro r w6 ⟨rfl, rfl⟩
          go_wp2_with fail
          go_ret
          exact ⟨rfl, HB5.out⟩
        · have hF : F = 0 := HF.out.trans (if_pos ⟨rfl, rfl⟩)
          subst hF
          go_wp2_with fail
          try go_at_call 97
          refine (in.calls _ _ [v] _ HN1.out (Nat.le_refl _)).mono ?_
          rw [← HP1.out]
          rintro r w5 ⟨rfl, rfl⟩
          have HB5 := Aside0.mk (below_alloc HB4.out (.cells (nums .i64 [v]).toArray 3))
          have HI5 := Aside0.mk (Kd.C_below HI.out.2 (below_alloc (Below.refl w4.heap.size w4) (.cells (nums .i64 [v]).toArray 3)))
          clear hx7
          go_wp2_with fail
          try go_at_call 97
          refine (in.calls _ _ _ _ HI5.out HI.out.1).mono ?_
          rw [← HP2.out]
          rintro r w6 ⟨rfl, rfl⟩
          go_wp2_with fail
          go_ret
          exact ⟨rfl, HB5.out⟩
    · have hF : F = q := HF.out.trans (if_pos hq0)
      subst hF
      have hne : (F != 0) = true := bne_iff_ne.mpr hq0
      clear HF hq0
      go_wp2_with fail
      go_ret
      exact ⟨rfl, HB3.out⟩
  · have hF : F = 0 := HF.out.trans (if_pos h7)
    subst hF
    have hb7 : (f0 != 7) = true := bne_iff_ne.mpr h7
    clear HF
    go_enter Tryd.func100, Tryd.ntmps100
    go_wp2_with ((with_reducible refine gate_dst (N := 1) rfl ?_); refine box_event ?hg (N := 1) ?hd (cs := #[.int .i64 f0, .int .i64 f1, .int .i64 f2, .int .i64 a, .int .i64 b, .int .i64 d, .int .i64 m, .int .i64 v, .slice A bs.length c]) (t := 60) ?hr ?_; (case hd => rfl); (case hg => rfl); (case hr => first | (go_simp; done) | (go_simp; rfl)); intro gb hg w2 hbox hb; have HB2 := Aside0.mk hb; have hx0 := zcell hbox 0 _ rfl; clear hb hbox hg)
    go_ret
    exact ⟨rfl, HB2.out⟩
/-! The ledger's look at an op. -/
instance : DecidableEq Op4 := fun a b => by
  obtain ⟨a0, a1, a2, a3⟩ := a
  obtain ⟨b0, b1, b2, b3⟩ := b
  exact decidable_of_iff (a0 = b0 ∧ a1 = b1 ∧ a2 = b2 ∧ a3 = b3) (by simp)
def usedL (g : Op4) : Op4 := if g.f0 = 1 then ⟨g.f0, g.f1, 0, g.f3⟩ else if g.f0 = 3 then ⟨3, g.f1, 0, 0⟩ else if g.f0 = 4 then ⟨4, 0, 0, 0⟩ else g
def leastL (g : Op4) : Int := if g.f0 = 2 then 0 else -1073741824
def ledC (g : Op4) : Int := if g.f0 < 1 ∨ g.f0 > 4 then 23 else if g.f1 < 0 ∨ g.f2 < 0 ∨ g.f1 ≥ 16 ∨ g.f2 ≥ 16 ∨ g.f3 < leastL g ∨ g.f3 > 1073741824 then 4 else if g = usedL g then 0 else 9
theorem used_f (g : Op4) : ledger_used.f g.f0 g.f1 g.f2 g.f3 = some ((usedL g).f0, (usedL g).f1, (usedL g).f2, (usedL g).f3) := by
  unfold ledger_used.f usedL
  split
  · rfl
  · split
    · rfl
    · split <;> rfl
theorem led_j1 (k : Nat) (g : Op4) (b : Bool) : ledger_Check.j1 (k + 1) b g.f0 g.f1 g.f2 g.f3 = some (if b = true then 4 else if g = usedL g then 0 else 9) := by
  show (if b = true then (some 4) else ((ledger_used.f g.f0 g.f1 g.f2 g.f3).bind fun bt110 => (if (!(g.f0 == bt110.1) || (!(g.f1 == bt110.2.1) || (!(g.f2 == bt110.2.2.1) || (!(g.f3 == bt110.2.2.2))))) = true then (some 9) else (some 0)))) = _
  cases b
  · rw [used_f]
    simp only [Option.bind_some, Bool.false_eq_true, if_false]
    by_cases h : g = usedL g
    · rw [if_pos h, ← h]; simp
    · rw [if_neg h]
      rw [if_pos]
      apply Classical.byContradiction
      intro hn
      apply h
      obtain ⟨a, b, c, d⟩ := g
      generalize hu : usedL ⟨a, b, c, d⟩ = u at hn ⊢
      obtain ⟨a', b', c', d'⟩ := u
      simp at hn
      obtain ⟨h1, h2, h3, h4⟩ := hn
      rw [h1, h2, h3, h4]
  · rfl
theorem led_f (g : Op4) : ledger_Check.f 2 g.f0 g.f1 g.f2 g.f3 = some (ledC g) := by
  unfold ledger_Check.f ledger_Once.f ledC
  by_cases h1 : g.f0 < 1
  · rw [if_pos h1, if_pos (show g.f0 < 1 ∨ g.f0 > 4 from .inl h1)]; rfl
  rw [if_neg h1]
  by_cases h2 : g.f0 > 4
  · rw [if_pos h2, if_pos (show g.f0 < 1 ∨ g.f0 > 4 from .inr h2)]; rfl
  rw [if_neg h2, if_neg (show ¬ (g.f0 < 1 ∨ g.f0 > 4) from by omega)]
  have e : ∀ x : Int, ledger_Check.j0 2 x g.f0 g.f1 g.f2 g.f3 = some (if g.f1 < 0 ∨ g.f2 < 0 ∨ g.f1 ≥ 16 ∨ g.f2 ≥ 16 ∨ g.f3 < x ∨ g.f3 > 1073741824 then 4 else if g = usedL g then 0 else 9) := by
    intro x
    show (if (mn g.f1 g.f2) < 0 then (ledger_Check.j1 1 true g.f0 g.f1 g.f2 g.f3) else (if (mx g.f1 g.f2) ≥ 16 then (ledger_Check.j1 1 true g.f0 g.f1 g.f2 g.f3) else (if g.f3 < x then (ledger_Check.j1 1 true g.f0 g.f1 g.f2 g.f3) else (ledger_Check.j1 1 (decide (g.f3 > 1073741824)) g.f0 g.f1 g.f2 g.f3)))) = _
    rw [led_j1, led_j1]
    unfold mn mx
    by_cases c1 : g.f1 < 0 ∨ g.f2 < 0
    · rw [if_pos (show (if g.f2 < g.f1 then g.f2 else g.f1) < 0 from by split <;> omega), if_pos rfl, if_pos (show g.f1 < 0 ∨ g.f2 < 0 ∨ g.f1 ≥ 16 ∨ g.f2 ≥ 16 ∨ g.f3 < x ∨ g.f3 > 1073741824 from by omega)]
    rw [if_neg (show ¬ (if g.f2 < g.f1 then g.f2 else g.f1) < 0 from by split <;> omega)]
    by_cases c2 : g.f1 ≥ 16 ∨ g.f2 ≥ 16
    · rw [if_pos (show (if g.f1 < g.f2 then g.f2 else g.f1) ≥ 16 from by split <;> omega), if_pos rfl, if_pos (show g.f1 < 0 ∨ g.f2 < 0 ∨ g.f1 ≥ 16 ∨ g.f2 ≥ 16 ∨ g.f3 < x ∨ g.f3 > 1073741824 from by omega)]
    rw [if_neg (show ¬ (if g.f1 < g.f2 then g.f2 else g.f1) ≥ 16 from by split <;> omega)]
    by_cases c3 : g.f3 < x
    · rw [if_pos c3, if_pos rfl, if_pos (show g.f1 < 0 ∨ g.f2 < 0 ∨ g.f1 ≥ 16 ∨ g.f2 ≥ 16 ∨ g.f3 < x ∨ g.f3 > 1073741824 from by omega)]
    rw [if_neg c3]
    by_cases c4 : g.f3 > 1073741824
    · rw [decide_eq_true c4, if_pos rfl, if_pos (show g.f1 < 0 ∨ g.f2 < 0 ∨ g.f1 ≥ 16 ∨ g.f2 ≥ 16 ∨ g.f3 < x ∨ g.f3 > 1073741824 from by omega)]
    · rw [decide_eq_false c4, if_neg (by decide), if_neg (show ¬ (g.f1 < 0 ∨ g.f2 < 0 ∨ g.f1 ≥ 16 ∨ g.f2 ≥ 16 ∨ g.f3 < x ∨ g.f3 > 1073741824) from by omega)]
  show (if (0 : Int) = 0 then (if g.f0 = 2 then ledger_Check.j0 2 0 g.f0 g.f1 g.f2 g.f3 else ledger_Check.j0 2 (-1073741824) g.f0 g.f1 g.f2 g.f3) else some 0) = _
  rw [if_pos rfl]
  unfold leastL
  by_cases h3 : g.f0 = 2
  · rw [if_pos h3, if_pos h3, e]
  · rw [if_neg h3, if_neg h3, e]
theorem ledC_zero {g : Op4} (h : ledC g = 0) : 1 ≤ g.f0 ∧ g.f0 ≤ 4 ∧ 0 ≤ g.f1 ∧ 0 ≤ g.f2 ∧ g.f1 < 16 ∧ g.f2 < 16 ∧ leastL g ≤ g.f3 ∧ g.f3 ≤ 1073741824 ∧ g = usedL g := by
  unfold ledC at h
  by_cases c1 : g.f0 < 1 ∨ g.f0 > 4
  · rw [if_pos c1] at h; exact absurd h (by decide)
  rw [if_neg c1] at h
  by_cases c2 : g.f1 < 0 ∨ g.f2 < 0 ∨ g.f1 ≥ 16 ∨ g.f2 ≥ 16 ∨ g.f3 < leastL g ∨ g.f3 > 1073741824
  · rw [if_pos c2] at h; exact absurd h (by decide)
  rw [if_neg c2] at h
  by_cases c3 : g = usedL g
  · exact ⟨by omega, by omega, by omega, by omega, by omega, by omega, by omega, by omega, c3⟩
  · rw [if_neg c3] at h; exact absurd h (by decide)
def negI (x : Int) : Int := wrap64 (-x)
def opsE (e : Ev) : Int := if e.f0 ≠ 1 then 0 else if ledC e.g ≠ 0 then ledC e.g else if inL [max e.g.f3 (-e.g.f3)] = true then 0 else 4
set_option maxHeartbeats 4000000 in
set_option maxRecDepth 100000 in
theorem ops.calls (e : Ev) (A : Option Addr) (c : Nat) (w : World) : Calls Tryd.prog 99 #[evV e A c] w fun r w' => r = .returned (.int .i64 (opsE e)) ∧ Below w.heap.size w w' := by
  obtain ⟨f0, f1, f2, g, v, bs⟩ := e
  have hlf := led_f g
  have hz := @ledC_zero g
  obtain ⟨a, b, d, m⟩ := g
  obtain ⟨F, hF⟩ : ∃ F, F = opsE ⟨f0, f1, f2, ⟨a, b, d, m⟩, v, bs⟩ := ⟨_, rfl⟩
  rw [← hF]
  obtain ⟨q, hq⟩ : ∃ q, q = ledC ⟨a, b, d, m⟩ := ⟨_, rfl⟩
  have HF : Aside0 (F = if f0 ≠ 1 then 0 else if q ≠ 0 then q else if inL [max m (-m)] = true then 0 else 4) := ⟨by rw [hF, hq]; rfl⟩
  rw [← hq] at hlf hz
  have HLF := Aside0.mk hlf
  have HZ : Aside0 (q = 0 → -1073741824 ≤ m ∧ m ≤ 1073741824) := ⟨fun h => by
    have := hz h
    have h2 : leastL ⟨a, b, d, m⟩ ≥ -1073741824 := by unfold leastL; split <;> omega
    simp only [] at this
    omega⟩
  clear hF hq hlf hz
  show Calls Tryd.prog 99 #[.agg #[.int .i64 f0, .int .i64 f1, .int .i64 f2, .int .i64 a, .int .i64 b, .int .i64 d, .int .i64 m, .int .i64 v, .slice A bs.length c]] w _
  by_cases h1 : f0 = 1
  · subst h1
    have HF := Aside0.mk (HF.out.trans (if_neg (by decide)))
    go_enter Tryd.func99, Tryd.ntmps99
    go_wp2_with (first | ((with_reducible refine gate_dst (N := 1) rfl ?_); refine box_event ?hg (N := 1) ?hd (cs := #[.int .i64 1, .int .i64 f1, .int .i64 f2, .int .i64 a, .int .i64 b, .int .i64 d, .int .i64 m, .int .i64 v, .slice A bs.length c]) (t := 60) ?hr ?_; (case hd => rfl); (case hg => rfl); (case hr => first | (go_simp; done) | (go_simp; rfl)); intro gb hg w2 hbox hb; have HB2 := Aside0.mk hb; have BK2 := Aside0.mk hbox; have hx0 := zcell hbox 0 _ rfl; clear hb hbox hg) | ((with_reducible refine gate_dst (N := 8) rfl ?_); refine load_mid_w ?hw 58 _ rfl gb 3 rfl [.int .i64 a, .int .i64 b, .int .i64 d, .int .i64 m] _ (range_of BK2.out (by rfl)) Tryd.underlying58 rfl (by kernel_rfl) ?_; (case hw => first | rfl | (go_simp; done) | (go_simp; rfl))))
    try go_at_call 128
    refine (ledger_Check.calls 2 a b d m q _ HLF.out).mono ?_
    rintro r w3 ⟨rfl, hb⟩
    have HB3 := Aside0.mk (below_b HB2.out hb HB2.out.size)
    have BK3 := Aside0.mk ((Ch.of_below hb (fun _ => False)).heap BK2.out (fun h => h))
    clear hb hx0 BK2
    by_cases hq0 : q = 0
    · have hmb := HZ.out hq0
      subst hq0
      have HF := Aside0.mk (HF.out.trans (if_neg (by decide)))
      have hx6 : w3.cell? ⟨gb, 6, none⟩ = some (.int .i64 m) := zcell BK3.out 6 _ rfl
      have hm0 : -1073741824 ≤ m := hmb.1
      have hm1 : m ≤ 1073741824 := hmb.2
      clear hmb
      obtain ⟨p, hp⟩ : ∃ p, p = inL [max m (-m)] := ⟨_, rfl⟩
      have HP := Aside0.mk hp
      rw [← hp] at HF
      clear hp
      have HN1 := Aside0.mk (zC_new .i64 3 [max m (-m)] w3 w3.heap.size rfl (by simp))
      go_wp2_with fail
      try go_at_call 97
      refine (in.calls _ _ [max m (-m)] _ HN1.out (Nat.le_refl _)).mono ?_
      rw [← HP.out]
      rintro r w5 ⟨rfl, rfl⟩
      have HB5 := Aside0.mk (below_alloc HB3.out (.cells (nums .i64 [max m (-m)]).toArray 3))
      clear hx6 hm0 hm1
      cases p
      · have hF : F = 4 := HF.out.trans (if_neg (by simp))
        subst hF
        go_wp2_with fail
        go_ret
        exact ⟨rfl, HB5.out⟩
      · have hF : F = 0 := HF.out.trans (if_pos rfl)
        subst hF
        go_wp2_with fail
        go_ret
        exact ⟨rfl, HB5.out⟩
    · have hF : F = q := HF.out.trans (if_pos hq0)
      subst hF
      have hne : (F != 0) = true := bne_iff_ne.mpr hq0
      clear HF hq0 HZ
      go_wp2_with fail
      go_ret
      exact ⟨rfl, HB3.out⟩
  · have hF : F = 0 := HF.out.trans (if_pos h1)
    subst hF
    have hb1 : (f0 != 1) = true := bne_iff_ne.mpr h1
    clear HF
    go_enter Tryd.func99, Tryd.ntmps99
    go_wp2_with ((with_reducible refine gate_dst (N := 1) rfl ?_); refine box_event ?hg (N := 1) ?hd (cs := #[.int .i64 f0, .int .i64 f1, .int .i64 f2, .int .i64 a, .int .i64 b, .int .i64 d, .int .i64 m, .int .i64 v, .slice A bs.length c]) (t := 60) ?hr ?_; (case hd => rfl); (case hg => rfl); (case hr => first | (go_simp; done) | (go_simp; rfl)); intro gb hg w2 hbox hb; have HB2 := Aside0.mk hb; have hx0 := zcell hbox 0 _ rfl; clear hb hbox hg)
    go_ret
    exact ⟨rfl, HB2.out⟩
/-! What an event uses, alone. -/
def onlyV (e : Ev) : Ev × Bool :=
  (⟨e.f0, if e.f0 = 1 ∨ e.f0 ≥ 5 then e.f1 else 0, if e.f0 = 1 ∨ e.f0 = 2 ∨ e.f0 = 3 ∨ e.f0 = 4 ∨ e.f0 = 10 then e.f2 else 0, if e.f0 = 1 then e.g else zOp, if e.f0 = 7 then e.v else 0, if e.f0 = 7 then e.bs else []⟩, decide (e.f0 = 7))
/-- Its cells, without a look at what its slice leads to. -/
def onlyC (f0 f1 f2 a b d m v : Int) (sl : Value) : Array Value := #[.int .i64 f0, .int .i64 (if f0 = 1 ∨ f0 ≥ 5 then f1 else 0), .int .i64 (if f0 = 1 ∨ f0 = 2 ∨ f0 = 3 ∨ f0 = 4 ∨ f0 = 10 then f2 else 0), .int .i64 (if f0 = 1 then a else 0), .int .i64 (if f0 = 1 then b else 0), .int .i64 (if f0 = 1 then d else 0), .int .i64 (if f0 = 1 then m else 0), .int .i64 (if f0 = 7 then v else 0), if f0 = 7 then sl else .slice none 0 0]
end Go.Proofs.YtaoffnhladfdcaaDoor.EScriptTrace
