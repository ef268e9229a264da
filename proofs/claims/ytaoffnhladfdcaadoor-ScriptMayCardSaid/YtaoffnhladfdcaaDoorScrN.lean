/- The comparison of two equal lists. -/
import Derived.Test.YtaoffnhladfdcaaDoorScrM
namespace Go.Proofs.YtaoffnhladfdcaaDoor.EScriptTrace
open Go.RowKit Go.Shelf Go.Proofs.YtaoffnhladfdcaaDoorW.PrintWords Go.Proofs.YtaoffnhladfdcaaDoorW.PrintLast Go.Proofs.YtaoffnhladfdcaaDoorW.PrintMore
set_option linter.unusedVariables false
set_option linter.unusedSimpArgs false
/-! The page's own comparison, of equal ones. -/
theorem k62_at {w : World} {A : Option Addr} {l : List S62} (h : Kd.C k62 w A l.length l) (i : Nat) (hi : i < l.length) : ∃ ad, A = some ad ∧ w.cell? (ad.add (i * 2)) = some (.int .i64 (rd_T62 l ((i : Nat) : Int)).f0) ∧ w.cell? ⟨(ad.add (i * 2)).block, (ad.add (i * 2)).off + 1, none⟩ = some (.int .i64 (rd_T62 l ((i : Nat) : Int)).f1) := by
  obtain ⟨ad, e, h1, h2⟩ := at_T62 h ((i : Nat) : Int) (by omega) (by omega)
  exact ⟨ad, e, h1, h2⟩
set_option maxHeartbeats 4000000 in
set_option maxRecDepth 100000 in
theorem same21.calls (v : Int) (A A' : Option Addr) (c c' : Nat) (l : List S62) (w : World) (hr : Kd.C k62 w A l.length l) (hc : l.length ≤ c) (hr' : Kd.C k62 w A' l.length l) (hc' : l.length ≤ c') (hn : l.length ≤ 1000000) : Calls Tryd.prog 79 #[.agg #[.int .i64 v, .slice A l.length c], .agg #[.int .i64 v, .slice A' l.length c']] w fun e w' => e = .returned (.bool true) ∧ Below w.heap.size w w' := by
  have hb1 := below_alloc (Below.refl w.heap.size w) (.cells #[.int .i64 v, .slice A l.length c] 56 (0, 0))
  have e1 : (w.alloc (.cells #[.int .i64 v, .slice A l.length c] 56 (0, 0))).heap.size = w.heap.size + 1 := Array.size_push _
  have k1 := heap_alloc_new w (.cells #[.int .i64 v, .slice A l.length c] 56 (0, 0))
  have k2 := heap_alloc_new (w.alloc (.cells #[.int .i64 v, .slice A l.length c] 56 (0, 0))) (.cells #[.int .i64 v, .slice A' l.length c'] 56 (0, 0))
  rw [e1] at k2
  have hb2 := below_alloc (Below.refl (w.alloc (.cells #[.int .i64 v, .slice A l.length c] 56 (0, 0))).heap.size (w.alloc (.cells #[.int .i64 v, .slice A l.length c] 56 (0, 0)))) (.cells #[.int .i64 v, .slice A' l.length c'] 56 (0, 0))
  have HK1 := Aside0.mk ((Ch.of_below hb2 (fun _ => False)).heap k1 (fun h => h))
  have HK2 := Aside0.mk k2
  have HB := Aside0.mk (below_b hb1 hb2 hb1.size)
  have HR := Aside0.mk hr
  have HR' := Aside0.mk hr'
  have HC := Aside0.mk (And.intro hc hc')
  clear hr hr' hb1 hb2 e1 k1 k2 hc hc'
  go_enter Tryd.func79, Tryd.ntmps79
  go_wp2_with fail
  generalize (w.alloc (.cells #[.int .i64 v, .slice A l.length c] 56 (0, 0))).alloc (.cells #[.int .i64 v, .slice A' l.length c'] 56 (0, 0)) = w1 at HK1 HK2 HB ⊢
  generalize w.heap.size + 1 = g2 at HK2 ⊢
  generalize w.heap.size = g1 at HK1 ⊢
  go_loopw [5] (fun v5 W => ∃ i : Nat, i ≤ l.length ∧ v5 = .int .i64 i ∧ Aside0 (Below w.heap.size w W) ∧ Aside0 (W.heap[g1]? = some (.cells #[.int .i64 v, .slice A l.length c] 56 (0, 0))) ∧ Aside0 (W.heap[g2]? = some (.cells #[.int .i64 v, .slice A' l.length c'] 56 (0, 0)))) (fun v _ => l.length - (intOf v).toNat)
  case atStart => exact ⟨0, by omega, rfl, HB, HK1, HK2⟩
  case round =>
    clear HB HK1 HK2
    obtain ⟨i, hi, rfl, HB, HK1, HK2⟩ := hrel
    have hz1 : wr.cell? ⟨g1, 1, none⟩ = some (.slice A l.length c) := zcell HK1.out 1 _ rfl
    have hz2 : wr.cell? ⟨g2, 1, none⟩ = some (.slice A' l.length c') := zcell HK2.out 1 _ rfl
    by_cases hlt : i < l.length
    · obtain ⟨ad, e1, hx0, hx1⟩ := k62_at (Kd.C_below HR.out HB.out) i hlt
      obtain ⟨ad', e2, hy0, hy1⟩ := k62_at (Kd.C_below HR'.out HB.out) i hlt
      cases e1
      cases e2
      generalize rd_T62 l ((i : Nat) : Int) = x at hx0 hx1 hy0 hy1
      obtain ⟨x0, x1⟩ := x
      have hx0 : wr.drew.cell? (ad.add (i * 2)) = some (.int .i64 x0) := hx0
      have hx1 : wr.drew.cell? ⟨(ad.add (i * 2)).block, (ad.add (i * 2)).off + 1, none⟩ = some (.int .i64 x1) := hx1
      have hy0 : wr.drew.cell? (ad'.add (i * 2)) = some (.int .i64 x0) := hy0
      have hy1 : wr.drew.cell? ⟨(ad'.add (i * 2)).block, (ad'.add (i * 2)).off + 1, none⟩ = some (.int .i64 x1) := hy1
      have hw1 : wr.drew.cell? ⟨g1, 1, none⟩ = some (.slice (some ad) l.length c) := hz1
      have hw2 : wr.drew.cell? ⟨g2, 1, none⟩ = some (.slice (some ad') l.length c') := hz2
      go_wp2_with fail
      go_region
      have hB2 := Aside0.mk (below_drew HB.out)
      clear hx0 hx1 hy0 hy1 hw1 hw2 hz1 hz2
      go_wp2_with fail
      refine ⟨⟨i + 1, by omega, by go_num, hB2, ⟨HK1.out⟩, ⟨HK2.out⟩⟩, ?_⟩
      simp [intOf]; omega
    · obtain rfl : i = l.length := by omega
      go_wp2_with fail
      go_ret
      exact ⟨rfl, HB.out⟩
set_option maxHeartbeats 8000000 in
set_option maxRecDepth 100000 in
theorem same35.calls (e : Ev) (A A' : Option Addr) (c c' : Nat) (w : World) (hr : Kd.C k62 w A e.bs.length e.bs) (hc : e.bs.length ≤ c) (hr' : Kd.C k62 w A' e.bs.length e.bs) (hc' : e.bs.length ≤ c') (hn : e.bs.length ≤ 1000000) : Calls Tryd.prog 44 #[evV e A c, evV e A' c'] w fun r w' => r = .returned (.bool true) ∧ Below w.heap.size w w' := by
  obtain ⟨k, f1, f2, ⟨ga, gb, gd, gm⟩, vv, bs⟩ := e
  have hr : Kd.C k62 w A bs.length bs := hr
  have hr' : Kd.C k62 w A' bs.length bs := hr'
  have hc : bs.length ≤ c := hc
  have hc' : bs.length ≤ c' := hc'
  have hn : bs.length ≤ 1000000 := hn
  have hb1 := below_alloc (Below.refl w.heap.size w) (.cells #[.int .i64 k, .int .i64 f1, .int .i64 f2, .int .i64 ga, .int .i64 gb, .int .i64 gd, .int .i64 gm, .int .i64 vv, .slice A bs.length c] 60 (0, 0))
  have e1 : (w.alloc (.cells #[.int .i64 k, .int .i64 f1, .int .i64 f2, .int .i64 ga, .int .i64 gb, .int .i64 gd, .int .i64 gm, .int .i64 vv, .slice A bs.length c] 60 (0, 0))).heap.size = w.heap.size + 1 := Array.size_push _
  have k1 := heap_alloc_new w (.cells #[.int .i64 k, .int .i64 f1, .int .i64 f2, .int .i64 ga, .int .i64 gb, .int .i64 gd, .int .i64 gm, .int .i64 vv, .slice A bs.length c] 60 (0, 0))
  have k2 := heap_alloc_new (w.alloc (.cells #[.int .i64 k, .int .i64 f1, .int .i64 f2, .int .i64 ga, .int .i64 gb, .int .i64 gd, .int .i64 gm, .int .i64 vv, .slice A bs.length c] 60 (0, 0))) (.cells #[.int .i64 k, .int .i64 f1, .int .i64 f2, .int .i64 ga, .int .i64 gb, .int .i64 gd, .int .i64 gm, .int .i64 vv, .slice A' bs.length c'] 60 (0, 0))
  rw [e1] at k2
  have hb2 := below_alloc (Below.refl (w.alloc (.cells #[.int .i64 k, .int .i64 f1, .int .i64 f2, .int .i64 ga, .int .i64 gb, .int .i64 gd, .int .i64 gm, .int .i64 vv, .slice A bs.length c] 60 (0, 0))).heap.size (w.alloc (.cells #[.int .i64 k, .int .i64 f1, .int .i64 f2, .int .i64 ga, .int .i64 gb, .int .i64 gd, .int .i64 gm, .int .i64 vv, .slice A bs.length c] 60 (0, 0)))) (.cells #[.int .i64 k, .int .i64 f1, .int .i64 f2, .int .i64 ga, .int .i64 gb, .int .i64 gd, .int .i64 gm, .int .i64 vv, .slice A' bs.length c'] 60 (0, 0))
  have HK1 := Aside0.mk ((Ch.of_below hb2 (fun _ => False)).heap k1 (fun h => h))
  have HK2 := Aside0.mk k2
  have HB := Aside0.mk (below_b hb1 hb2 hb1.size)
  have HR := Aside0.mk hr
  have HR' := Aside0.mk hr'
  have HC := Aside0.mk (And.intro hc hc')
  have HN := Aside0.mk hn
  clear hr hr' hb1 hb2 e1 k1 k2 hc hc' hn
  show Calls Tryd.prog 44 #[.agg #[.int .i64 k, .int .i64 f1, .int .i64 f2, .int .i64 ga, .int .i64 gb, .int .i64 gd, .int .i64 gm, .int .i64 vv, .slice A bs.length c], .agg #[.int .i64 k, .int .i64 f1, .int .i64 f2, .int .i64 ga, .int .i64 gb, .int .i64 gd, .int .i64 gm, .int .i64 vv, .slice A' bs.length c']] w _
  go_enter Tryd.func44, Tryd.ntmps44
  have HCALL : ∀ w1, Below w.heap.size w w1 → Calls Tryd.prog 79 #[.agg #[.int .i64 vv, .slice A bs.length c], .agg #[.int .i64 vv, .slice A' bs.length c']] w1 fun e w' => e = .returned (.bool true) ∧ Below w1.heap.size w1 w' := fun w1 hb => same21.calls vv A A' c c' bs w1 (Kd.C_below HR.out hb) HC.out.1 (Kd.C_below HR'.out hb) HC.out.2 HN.out
  have HCL := Aside0.mk HCALL
  clear HCALL
  go_wp2_with (first | (with_reducible refine gate_dst (N := 26) rfl ?_; refine load_mid_w ?hw 58 _ rfl w.heap.size 3 rfl [.int .i64 ga, .int .i64 gb, .int .i64 gd, .int .i64 gm] _ (range_of HK1.out (by rfl)) Tryd.underlying58 rfl (by kernel_rfl) ?_; (case hw => first | rfl | (go_simp; done) | (go_simp; rfl))) | (with_reducible refine gate_dst (N := 28) rfl ?_; refine load_mid_w ?hw 58 _ rfl (w.heap.size + 1) 3 rfl [.int .i64 ga, .int .i64 gb, .int .i64 gd, .int .i64 gm] _ (range_of HK2.out (by rfl)) Tryd.underlying58 rfl (by kernel_rfl) ?_; (case hw => first | rfl | (go_simp; done) | (go_simp; rfl))) | (with_reducible refine gate_dst (N := 33) rfl ?_; refine load_mid_w ?hw 56 _ rfl w.heap.size 7 rfl [.int .i64 vv, .slice A bs.length c] _ (range_of HK1.out (by rfl)) Tryd.underlying56 rfl (by kernel_rfl) ?_; (case hw => first | rfl | (go_simp; done) | (go_simp; rfl))) | (with_reducible refine gate_dst (N := 35) rfl ?_; refine load_mid_w ?hw 56 _ rfl (w.heap.size + 1) 7 rfl [.int .i64 vv, .slice A' bs.length c'] _ (range_of HK2.out (by rfl)) Tryd.underlying56 rfl (by kernel_rfl) ?_; (case hw => first | rfl | (go_simp; done) | (go_simp; rfl))))
  refine (HCL.out _ HB.out).mono ?_
  rintro r w3 ⟨rfl, hb⟩
  have HB3 := Aside0.mk (below_b HB.out hb HB.out.size)
  clear hb HK1 HK2 HB
  go_wp2_with fail
  go_ret
  exact ⟨rfl, HB3.out⟩
/-! The page's comparison of two equal lists. -/
set_option maxHeartbeats 16000000 in
set_option maxRecDepth 100000 in
theorem sameAll.calls (A A' : Option Addr) (c c' : Nat) (l : List Ev) (w : World) (hr : Kd.C kEv w A l.length l) (hc : l.length ≤ c) (hr' : Kd.C kEv w A' l.length l) (hc' : l.length ≤ c') (hb : ∀ e ∈ l, e.bs.length ≤ 1000000) (hn : l.length ≤ 1000000) : Calls Tryd.prog 22 #[.slice A l.length c, .slice A' l.length c'] w fun e w' => e = .returned (.bool true) ∧ Below w.heap.size w w' := by
  have HR := Aside0.mk hr
  have HR' := Aside0.mk hr'
  have HC := Aside0.mk (And.intro hc hc')
  have HBS := Aside0.mk hb
  have HB := Aside0.mk (Below.refl w.heap.size w)
  clear hr hr' hc hc' hb
  go_enter Tryd.func22, Tryd.ntmps22
  go_wp2_with fail
  go_loopw [5] (fun v5 W => ∃ i : Nat, i ≤ l.length ∧ v5 = .int .i64 i ∧ Aside0 (Below w.heap.size w W)) (fun v _ => l.length - (intOf v).toNat)
  case atStart => exact ⟨0, by omega, rfl, HB⟩
  case round =>
    clear HB
    obtain ⟨i, hi, rfl, HB⟩ := hrel
    by_cases hlt : i < l.length
    · obtain ⟨ad, B8, d8, e1, _, hcs, hl8, hC8⟩ := at_Ev (kEv_C_below HR.out HB.out (Nat.le_refl _)) ((i : Nat) : Int) (by omega) (by omega)
      obtain ⟨ad', B8', d8', e2, _, hcs', hl8', hC8'⟩ := at_Ev (kEv_C_below HR'.out HB.out (Nat.le_refl _)) ((i : Nat) : Int) (by omega) (by omega)
      cases e1
      cases e2
      rw [rd_Ev_get hlt] at hcs hl8 hC8 hcs' hl8' hC8'
      have hbs := HBS.out _ (List.getElem_mem hlt)
      generalize l[i] = e at hcs hl8 hC8 hcs' hl8' hC8' hbs
      simp only [Int.toNat_natCast] at hcs hcs'
      have HCL : Aside0 (∀ W1, Below wr.heap.size wr W1 → Calls Tryd.prog 44 #[evV e B8 d8, evV e B8' d8'] W1 fun r w' => r = .returned (.bool true) ∧ Below W1.heap.size W1 w') := ⟨fun W1 h => same35.calls e B8 B8' d8 d8' W1 (Kd.C_below hC8 h) hl8 (Kd.C_below hC8' h) hl8' hbs⟩
      obtain ⟨k, f1, f2, ⟨ga, gb, gd, gm⟩, vv, bs⟩ := e
      have HCL : Aside0 (∀ W1, Below wr.heap.size wr W1 → Calls Tryd.prog 44 #[.agg #[.int .i64 k, .int .i64 f1, .int .i64 f2, .int .i64 ga, .int .i64 gb, .int .i64 gd, .int .i64 gm, .int .i64 vv, .slice B8 bs.length d8], .agg #[.int .i64 k, .int .i64 f1, .int .i64 f2, .int .i64 ga, .int .i64 gb, .int .i64 gd, .int .i64 gm, .int .i64 vv, .slice B8' bs.length d8']] W1 fun r w' => r = .returned (.bool true) ∧ Below W1.heap.size W1 w') := HCL
      have HS : Aside0 (∀ W1, Below wr.heap.size wr W1 → (W1.cell? (ad.add (i * 9)) = some (.int .i64 k) ∧ W1.cell? ⟨(ad.add (i * 9)).block, (ad.add (i * 9)).off + 1, none⟩ = some (.int .i64 f1) ∧ W1.cell? ⟨(ad.add (i * 9)).block, (ad.add (i * 9)).off + 2, none⟩ = some (.int .i64 f2) ∧ W1.cell? ⟨(ad.add (i * 9)).block, (ad.add (i * 9)).off + 3, none⟩ = some (.int .i64 ga) ∧ W1.cell? ⟨(ad.add (i * 9)).block, (ad.add (i * 9)).off + 4, none⟩ = some (.int .i64 gb) ∧ W1.cell? ⟨(ad.add (i * 9)).block, (ad.add (i * 9)).off + 5, none⟩ = some (.int .i64 gd) ∧ W1.cell? ⟨(ad.add (i * 9)).block, (ad.add (i * 9)).off + 6, none⟩ = some (.int .i64 gm) ∧ W1.cell? ⟨(ad.add (i * 9)).block, (ad.add (i * 9)).off + 7, none⟩ = some (.int .i64 vv) ∧ W1.cell? ⟨(ad.add (i * 9)).block, (ad.add (i * 9)).off + 8, none⟩ = some (.slice B8 bs.length d8) ∧ W1.cell? (ad'.add (i * 9)) = some (.int .i64 k) ∧ W1.cell? ⟨(ad'.add (i * 9)).block, (ad'.add (i * 9)).off + 1, none⟩ = some (.int .i64 f1) ∧ W1.cell? ⟨(ad'.add (i * 9)).block, (ad'.add (i * 9)).off + 2, none⟩ = some (.int .i64 f2) ∧ W1.cell? ⟨(ad'.add (i * 9)).block, (ad'.add (i * 9)).off + 3, none⟩ = some (.int .i64 ga) ∧ W1.cell? ⟨(ad'.add (i * 9)).block, (ad'.add (i * 9)).off + 4, none⟩ = some (.int .i64 gb) ∧ W1.cell? ⟨(ad'.add (i * 9)).block, (ad'.add (i * 9)).off + 5, none⟩ = some (.int .i64 gd) ∧ W1.cell? ⟨(ad'.add (i * 9)).block, (ad'.add (i * 9)).off + 6, none⟩ = some (.int .i64 gm) ∧ W1.cell? ⟨(ad'.add (i * 9)).block, (ad'.add (i * 9)).off + 7, none⟩ = some (.int .i64 vv) ∧ W1.cell? ⟨(ad'.add (i * 9)).block, (ad'.add (i * 9)).off + 8, none⟩ = some (.slice B8' bs.length d8'))) := ⟨fun W1 h => ⟨cell_step h (hcs 0 _ rfl), cell_step h (by rw [← add_field _ _ 1 (by omega)]; exact hcs 1 _ rfl), cell_step h (by rw [← add_field _ _ 2 (by omega)]; exact hcs 2 _ rfl), cell_step h (by rw [← add_field _ _ 3 (by omega)]; exact hcs 3 _ rfl), cell_step h (by rw [← add_field _ _ 4 (by omega)]; exact hcs 4 _ rfl), cell_step h (by rw [← add_field _ _ 5 (by omega)]; exact hcs 5 _ rfl), cell_step h (by rw [← add_field _ _ 6 (by omega)]; exact hcs 6 _ rfl), cell_step h (by rw [← add_field _ _ 7 (by omega)]; exact hcs 7 _ rfl), cell_step h (by rw [← add_field _ _ 8 (by omega)]; exact hcs 8 _ rfl), cell_step h (hcs' 0 _ rfl), cell_step h (by rw [← add_field _ _ 1 (by omega)]; exact hcs' 1 _ rfl), cell_step h (by rw [← add_field _ _ 2 (by omega)]; exact hcs' 2 _ rfl), cell_step h (by rw [← add_field _ _ 3 (by omega)]; exact hcs' 3 _ rfl), cell_step h (by rw [← add_field _ _ 4 (by omega)]; exact hcs' 4 _ rfl), cell_step h (by rw [← add_field _ _ 5 (by omega)]; exact hcs' 5 _ rfl), cell_step h (by rw [← add_field _ _ 6 (by omega)]; exact hcs' 6 _ rfl), cell_step h (by rw [← add_field _ _ 7 (by omega)]; exact hcs' 7 _ rfl), cell_step h (by rw [← add_field _ _ 8 (by omega)]; exact hcs' 8 _ rfl)⟩⟩
      clear hcs hcs' hl8 hl8' hC8 hC8' hbs
      go_wp2_with fail
      have hS := HS.out _ (below_drew (Below.refl wr.heap.size wr))
      have HBZ := Aside0.mk (below_drew (Below.refl wr.heap.size wr))
      go_region_held2 (fun W => W.cell? (ad.add (i * 9)) = some (.int .i64 k) ∧ W.cell? ⟨(ad.add (i * 9)).block, (ad.add (i * 9)).off + 1, none⟩ = some (.int .i64 f1) ∧ W.cell? ⟨(ad.add (i * 9)).block, (ad.add (i * 9)).off + 2, none⟩ = some (.int .i64 f2) ∧ W.cell? ⟨(ad.add (i * 9)).block, (ad.add (i * 9)).off + 3, none⟩ = some (.int .i64 ga) ∧ W.cell? ⟨(ad.add (i * 9)).block, (ad.add (i * 9)).off + 4, none⟩ = some (.int .i64 gb) ∧ W.cell? ⟨(ad.add (i * 9)).block, (ad.add (i * 9)).off + 5, none⟩ = some (.int .i64 gd) ∧ W.cell? ⟨(ad.add (i * 9)).block, (ad.add (i * 9)).off + 6, none⟩ = some (.int .i64 gm) ∧ W.cell? ⟨(ad.add (i * 9)).block, (ad.add (i * 9)).off + 7, none⟩ = some (.int .i64 vv) ∧ W.cell? ⟨(ad.add (i * 9)).block, (ad.add (i * 9)).off + 8, none⟩ = some (.slice B8 bs.length d8) ∧ W.cell? (ad'.add (i * 9)) = some (.int .i64 k) ∧ W.cell? ⟨(ad'.add (i * 9)).block, (ad'.add (i * 9)).off + 1, none⟩ = some (.int .i64 f1) ∧ W.cell? ⟨(ad'.add (i * 9)).block, (ad'.add (i * 9)).off + 2, none⟩ = some (.int .i64 f2) ∧ W.cell? ⟨(ad'.add (i * 9)).block, (ad'.add (i * 9)).off + 3, none⟩ = some (.int .i64 ga) ∧ W.cell? ⟨(ad'.add (i * 9)).block, (ad'.add (i * 9)).off + 4, none⟩ = some (.int .i64 gb) ∧ W.cell? ⟨(ad'.add (i * 9)).block, (ad'.add (i * 9)).off + 5, none⟩ = some (.int .i64 gd) ∧ W.cell? ⟨(ad'.add (i * 9)).block, (ad'.add (i * 9)).off + 6, none⟩ = some (.int .i64 gm) ∧ W.cell? ⟨(ad'.add (i * 9)).block, (ad'.add (i * 9)).off + 7, none⟩ = some (.int .i64 vv) ∧ W.cell? ⟨(ad'.add (i * 9)).block, (ad'.add (i * 9)).off + 8, none⟩ = some (.slice B8' bs.length d8')) (first | exact HS.out _ HBZ2.out | exact HS.out _ HBZ.out) (first | (go_at_call 44; refine (HCL.out _ (by first | exact HBZ.out | exact Below.refl _ _)).mono ?_; rintro r w7 ⟨rfl, hb⟩; have HBZ2 := Aside0.mk (below_b (by first | exact HBZ.out) hb (by exact HBZ.out.size)); clear hb))
      have HB7 := Aside0.mk (below_b HB.out HBZ2.out HB.out.size)
      clear HBZ HBZ2 HS HCL hS
      go_wp2_with fail
      refine ⟨⟨i + 1, by omega, by go_num, HB7⟩, ?_⟩
      simp [intOf]; omega
    · obtain rfl : i = l.length := by omega
      go_wp2_with fail
      go_ret
      exact ⟨rfl, HB.out⟩

/-! The law ScriptBack. -/
theorem ids_all {l : List Ev} (h : ∀ e ∈ l, checkE e = 0) : ∀ e ∈ l, e.bs.length ≤ 1000000 := fun e he => by have := (evOk (h e he)).bl; omega
end Go.Proofs.YtaoffnhladfdcaaDoor.EScriptTrace
