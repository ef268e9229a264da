/- Two equal schemas are the same one. -/
import Derived.Test.YtoloneoeojoiaaaMayQ
namespace Go.Proofs.Ytoloneoeojoiaaa.EParseBack
open Go.RowKit Go.Shelf Go.Proofs.YtoloneoeojoiaaaW.PrintWords Go.Proofs.YtoloneoeojoiaaaW.PrintLast Go.Proofs.YtoloneoeojoiaaaW.PrintMore
set_option linter.unusedVariables false
set_option linter.unusedSimpArgs false
theorem heapB {w w1 : World} {g : Nat} {o : Obj} (h : w.heap[g]? = some o) (hb : Below w.heap.size w w1) : w1.heap[g]? = some o := (Ch.of_below hb (fun _ => False)).heap h (fun h => h)
theorem C_some {α : Type} {k : Kd α} {w : World} {A : Option Addr} {n : Nat} {xs : List α} (h : k.C w A n xs) (hn : 0 < n) : ∃ ad, A = some ad := by
  obtain ⟨ad, e, _⟩ := h.2.2 hn
  exact ⟨ad, e⟩
theorem two_new {w : World} {B : Nat} {w0 : World} (hb : Below B w0 w) (hB : B ≤ w.heap.size) (o p : Obj) : ((w.alloc o).alloc p).drew.heap[w.heap.size]? = some o ∧ ((w.alloc o).alloc p).drew.heap[w.heap.size + 1]? = some p ∧ Below B w0 ((w.alloc o).alloc p).drew ∧ Below w.heap.size w ((w.alloc o).alloc p).drew := by
  refine ⟨heapB (heap_alloc_new w o) (below_drew (below_alloc (Below.refl _ _) p)), ?_, below_drew (below_b (below_b hb (below_alloc (Below.refl _ _) _) hB) (below_alloc (Below.refl _ _) _) (Nat.le_trans hB (below_alloc (Below.refl _ _) _).size)), below_drew (below_alloc (below_alloc (Below.refl _ _) _) _)⟩
  have := heap_alloc_new (w.alloc o) p
  exact (show ((w.alloc o).alloc p).heap[w.heap.size + 1]? = some p from by simpa using this)
theorem eqA88 (d : Nat) (w : World) (x0 y0 : ByteArray) (x1 y1 : Int) :
    (Op.equalIn (d + 2) 88 (.agg #[.string x0, .int .i64 x1]) (.agg #[.string y0, .int .i64 y1])).run Try.prog w = .ok (x0.toList == y0.toList && (x1 == y1)) w := by
  refine eqA_of Try.underlying88 (by kernel_rfl) ?_
  refine eqf_cons (by rfl) (by go_simp; rfl) (by go_simp; rfl) (by go_simp) ?_
  exact eqf_last (by rfl) (by go_simp; rfl) (by go_simp; rfl) (by go_simp)
theorem neq88 (w : World) (x : ByteArray) (y : Int) : (binOp .neq 88 (.agg #[.string x, .int .i64 y]) (.agg #[.string x, .int .i64 y])).run Try.prog w = .ok (.bool false) w := by
  simp only [binOp]
  simp [Op.equal, Op.maxDepth, eqA88 9998 w x x y y]
theorem at47s {w : World} {ad : Addr} {n : Nat} {xs : List S47} (h : Kd.C k47 w (some ad) n xs) (i : Nat) (h1 : i < n) : ∃ A1 c1, w.cell? (ad.add (i * 2)) = some (.string (rd_T47 xs i).f0) ∧ w.cell? ⟨(ad.add (i * 2)).block, (ad.add (i * 2)).off + 1, none⟩ = some (.slice A1 (rd_T47 xs i).f1.length c1) ∧ (rd_T47 xs i).f1.length ≤ c1 ∧ k52.C w A1 (rd_T47 xs i).f1.length (rd_T47 xs i).f1 := by
  obtain ⟨ad', A1, c1, e, a, b, c, d⟩ := at_T47 h i (by omega) (by omega)
  cases e
  exact ⟨A1, c1, a, b, c, d⟩
theorem at86s {w : World} {ad : Addr} {n : Nat} {xs : List S86} (h : Kd.C k86 w (some ad) n xs) (i : Nat) (h1 : i < n) : ∃ A1 c1, w.cell? (ad.add (i * 2)) = some (.string (rd_T86 xs i).f0) ∧ w.cell? ⟨(ad.add (i * 2)).block, (ad.add (i * 2)).off + 1, none⟩ = some (.slice A1 (rd_T86 xs i).f1.length c1) ∧ (rd_T86 xs i).f1.length ≤ c1 ∧ k88.C w A1 (rd_T86 xs i).f1.length (rd_T86 xs i).f1 := by
  obtain ⟨ad', A1, c1, e, a, b, c, d⟩ := at_T86 h i (by omega) (by omega)
  cases e
  exact ⟨A1, c1, a, b, c, d⟩
theorem at91s {w : World} {ad : Addr} {n : Nat} {xs : List S91} (h : Kd.C k91 w (some ad) n xs) (i : Nat) (h1 : i < n) : ∃ A1 c1, w.cell? (ad.add (i * 2)) = some (.string (rd_T91 xs i).f0) ∧ w.cell? ⟨(ad.add (i * 2)).block, (ad.add (i * 2)).off + 1, none⟩ = some (.slice A1 (rd_T91 xs i).f1.length c1) ∧ (rd_T91 xs i).f1.length ≤ c1 ∧ k94.C w A1 (rd_T91 xs i).f1.length (rd_T91 xs i).f1 := by
  obtain ⟨ad', A1, c1, e, a, b, c, d⟩ := at_T91 h i (by omega) (by omega)
  cases e
  exact ⟨A1, c1, a, b, c, d⟩
set_option maxHeartbeats 40000000 in
set_option maxRecDepth 100000 in
theorem Same.calls (K : Nat) (x : S40) (A1 A2 A3 B1 B2 B3 : Option Addr) (c1 c2 c3 d1 d2 d3 : Nat) (w : World)
    (ha : Kd.C k47 w A1 x.f0.length x.f0 ∧ Kd.C k86 w A2 x.f1.length x.f1 ∧ Kd.C k91 w A3 x.f2.length x.f2) (hb : Kd.C k47 w B1 x.f0.length x.f0 ∧ Kd.C k86 w B2 x.f1.length x.f1 ∧ Kd.C k91 w B3 x.f2.length x.f2)
    (hT : ∀ s ∈ x.f0, ∀ f ∈ s.f1, waybillplain_SameType.f K f.f2.f0 f.f2.f1 f.f2.f2 f.f2.f0 f.f2.f1 f.f2.f2 = some true)
    (hM : ∀ s ∈ x.f2, ∀ f ∈ s.f1, waybillplain_SameMethod.f K f.f0 f.f1 f.f2.f0 f.f2.f1 f.f2.f2 f.f3.f0 f.f3.f1 f.f3.f2 f.f0 f.f1 f.f2.f0 f.f2.f1 f.f2.f2 f.f3.f0 f.f3.f1 f.f3.f2 = some true) :
    Calls Try.prog 23 #[.agg #[.slice A1 x.f0.length c1, .slice A2 x.f1.length c2, .slice A3 x.f2.length c3], .agg #[.slice B1 x.f0.length d1, .slice B2 x.f1.length d2, .slice B3 x.f2.length d3]] w fun e w' => e = .returned (.bool true) ∧ Below w.heap.size w w' := by
  have HA := Aside0.mk ha
  have HBB := Aside0.mk hb
  have HT := Aside0.mk hT
  have HM := Aside0.mk hM
  have l1 := ha.1.2.1
  have l2 := ha.2.1.2.1
  have l3 := ha.2.2.2.1
  clear ha hb hT hM
  obtain ⟨n1, hn1⟩ : ∃ n, n = x.f0.length := ⟨_, rfl⟩
  obtain ⟨n2, hn2⟩ : ∃ n, n = x.f1.length := ⟨_, rfl⟩
  obtain ⟨n3, hn3⟩ : ∃ n, n = x.f2.length := ⟨_, rfl⟩
  rw [← hn1, ← hn2, ← hn3]
  rw [← hn1] at l1
  rw [← hn2] at l2
  rw [← hn3] at l3
  have HN := Aside0.mk (show n1 = x.f0.length ∧ n2 = x.f1.length ∧ n3 = x.f2.length from ⟨hn1, hn2, hn3⟩)
  clear hn1 hn2 hn3
  go_enter Try.func23, Try.ntmps23
  go_wp2_with (first | ((with_reducible refine gate_dst (N := 2) rfl ?_); refine box_event ?hg (N := 2) ?hd (cs := #[.slice A1 n1 c1, .slice A2 n2 c2, .slice A3 n3 c3]) (t := 40) ?hr ?_; (case hd => rfl); (case hg => rfl); (case hr => first | (go_simp; done) | (go_simp; rfl)); intro g2 hg1 w1 hbox hb; have K1 := Aside0.mk hbox; have HW1 := Aside0.mk hb; clear hg1 hbox hb) | ((with_reducible refine gate_dst (N := 3) rfl ?_); refine box_event ?hg (N := 3) ?hd (cs := #[.slice B1 n1 d1, .slice B2 n2 d2, .slice B3 n3 d3]) (t := 40) ?hr ?_; (case hd => rfl); (case hg => rfl); (case hr => first | (go_simp; done) | (go_simp; rfl)); intro g3 hg1 w2 hbox hb; have HW2 := Aside0.mk (below_b HW1.out hb HW1.out.size); have K2 := Aside0.mk (heapB K1.out hb); have K3 := Aside0.mk hbox; have z1 := zcell K2.out 0 _ rfl; have z2 := zcell K2.out 1 _ rfl; have z3 := zcell K2.out 2 _ rfl; have y1 := zcell K3.out 0 _ rfl; have y2 := zcell K3.out 1 _ rfl; have y3 := zcell K3.out 2 _ rfl; clear hg1 hbox hb K1 HW1))
  clear z1 z2 z3 y1 y2 y3
  have HB0 := Aside0.mk (Below.refl w2.heap.size w2)
  have HB0 := Aside0.mk (Below.refl w2.heap.size w2)
  have HBS := HB0
  go_loopw [5] (fun v5 W => ∃ i : Nat, i ≤ n1 ∧ v5 = .int .i64 (i : Int) ∧ Aside0 (Below w2.heap.size w2 W)) (fun v _ => n1 - (intOf v).toNat)
  case atStart => exact ⟨0, by omega, rfl, HBS⟩
  case round =>
    clear HB0 HBS
    obtain ⟨i, ile, rfl, HB⟩ := hrel
    have z1 := zcell (heapB K2.out HB.out) 0 _ rfl
    have y1 := zcell (heapB K3.out HB.out) 0 _ rfl
    by_cases hlt : i < n1
    · have CA := Aside0.mk (Kd.C_below (Kd.C_below HA.out.1 HW2.out) HB.out)
      have CB := Aside0.mk (Kd.C_below (Kd.C_below HBB.out.1 HW2.out) HB.out)
      have nlt : i < x.f0.length := by rw [← HN.out.1]; exact hlt
      obtain ⟨ad, eA⟩ := C_some CA.out (by omega)
      obtain ⟨bd, eB⟩ := C_some CB.out (by omega)
      subst eA eB
      obtain ⟨AF, cF, a0, a1, lF, CF⟩ := at47s CA.out i nlt
      obtain ⟨BF, dF, b0, b1, mF, DF⟩ := at47s CB.out i nlt
      have HS := Aside0.mk (show rd_T47 x.f0 i ∈ x.f0 from rd_mem x.f0 i nlt)
      obtain ⟨s, hs⟩ : ∃ s, s = rd_T47 x.f0 i := ⟨_, rfl⟩
      rw [← hs] at a0 a1 b0 b1 lF mF CF DF HS
      have CFF := Aside0.mk CF
      have DFF := Aside0.mk DF
      have LF := Aside0.mk (show s.f1.length ≤ cF ∧ s.f1.length ≤ dF from ⟨lF, mF⟩)
      have sl := CF.2.1
      clear hs CF DF lF mF nlt
      have ba := World.block_lt_of_cell? _ _ a0
      have bb := World.block_lt_of_cell? _ _ b0
      have bg := World.block_lt_of_cell? _ _ z1
      have bh := World.block_lt_of_cell? _ _ y1
      obtain ⟨m, hm⟩ : ∃ m, m = s.f1.length := ⟨_, rfl⟩
      have HMM := Aside0.mk hm
      rw [← hm] at a1 b1 sl
      clear hm
      go_wp2_with fail
      go_region_held2 (fun W => W.cell? ⟨g2, 0, none⟩ = some (.slice (some ad) n1 c1) ∧ W.cell? ⟨g3, 0, none⟩ = some (.slice (some bd) n1 d1) ∧ W.cell? (ad.add (i * 2)) = some (.string s.f0) ∧ W.cell? ⟨(ad.add (i * 2)).block, (ad.add (i * 2)).off + 1, none⟩ = some (.slice AF m cF) ∧ W.cell? (bd.add (i * 2)) = some (.string s.f0) ∧ W.cell? ⟨(bd.add (i * 2)).block, (bd.add (i * 2)).off + 1, none⟩ = some (.slice BF m dF)) (((repeat' (first | (with_reducible refine And.intro ?_ ?_) | (with_reducible refine keep_set ?_ ?_) | (with_reducible refine keep_alloc ?_) | (with_reducible refine keep_drew ?_) | exact z1 | exact y1 | exact a0 | exact a1 | exact b0 | exact b1 | (exact Nat.ne_of_lt ba) | (exact Nat.ne_of_lt bb) | (exact Nat.ne_of_lt bg) | (exact Nat.ne_of_lt bh) | (exact Nat.ne_of_lt (Nat.lt_succ_of_lt ba)) | (exact Nat.ne_of_lt (Nat.lt_succ_of_lt bb)) | (exact Nat.ne_of_lt (Nat.lt_succ_of_lt bg)) | (exact Nat.ne_of_lt (Nat.lt_succ_of_lt bh)))); done)) (fail)
      all_goals
        clear a0 a1 b0 b1 z1 y1 ba bb bg bh
        first
        | (obtain ⟨J6, J7, hB, hBr⟩ := two_new HB.out HB.out.size (.cells #[.string s.f0, .slice AF m cF] 47) (.cells #[.string s.f0, .slice BF m dF] 47); show Exit.then _ _ _ _ ((wr.alloc (.cells #[.string s.f0, .slice AF m cF] 47)).alloc (.cells #[.string s.f0, .slice BF m dF] 47)).drew; generalize ((wr.alloc (.cells #[.string s.f0, .slice AF m cF] 47)).alloc (.cells #[.string s.f0, .slice BF m dF] 47)).drew = WW at J6 J7 hB hBr ⊢)
        | (obtain ⟨J7, J6, hB, hBr⟩ := two_new HB.out HB.out.size (.cells #[.string s.f0, .slice BF m dF] 47) (.cells #[.string s.f0, .slice AF m cF] 47); show Exit.then _ _ _ _ ((wr.alloc (.cells #[.string s.f0, .slice BF m dF] 47)).alloc (.cells #[.string s.f0, .slice AF m cF] 47)).drew; generalize ((wr.alloc (.cells #[.string s.f0, .slice BF m dF] 47)).alloc (.cells #[.string s.f0, .slice AF m cF] 47)).drew = WW at J6 J7 hB hBr ⊢)
        have JA := Aside0.mk J6
        have JB := Aside0.mk J7
        have HBW := Aside0.mk hB
        have HBR := Aside0.mk hBr
        have x0 := zcell J6 0 _ rfl
        have x1 := zcell J6 1 _ rfl
        have x2 := zcell J7 0 _ rfl
        have x3 := zcell J7 1 _ rfl
        clear J6 J7 hB hBr
        obtain ⟨wo, hwo⟩ : ∃ wo : World, wo = wr := ⟨_, rfl⟩
        subst hwo
        go_wp2_with fail
        clear x0 x1 x2 x3
        have HI0 := Aside0.mk (Below.refl WW.heap.size WW)
        go_loopw [8] (fun v8 W => ∃ j : Nat, j ≤ m ∧ v8 = .int .i64 (j : Int) ∧ Aside0 (Below WW.heap.size WW W)) (fun v _ => m - (intOf v).toNat)
        case atStart => exact ⟨0, by omega, rfl, HI0⟩
        case round =>
          clear HI0
          obtain ⟨j, jle, rfl, HI⟩ := hrel
          have x1 := zcell (heapB JA.out HI.out) 1 _ rfl
          have x3 := zcell (heapB JB.out HI.out) 1 _ rfl
          by_cases hjt : j < m
          · have mlt : j < s.f1.length := by rw [← HMM.out]; exact hjt
            have EA := Aside0.mk (Kd.C_below (Kd.C_below CFF.out HBR.out) HI.out)
            have EB := Aside0.mk (Kd.C_below (Kd.C_below DFF.out HBR.out) HI.out)
            obtain ⟨aq, eA⟩ := C_some EA.out (by omega)
            obtain ⟨bq, eB⟩ := C_some EB.out (by omega)
            subst eA eB
            obtain ⟨aq', AT, cT, e, p0, p1, p2, p3, p4, lT, CT⟩ := at_T52 EA.out (j : Int) (by omega) (by omega)
            cases e
            obtain ⟨bq', BT, dT, e, q0, q1, q2, q3, q4, mT, DT⟩ := at_T52 EB.out (j : Int) (by omega) (by omega)
            cases e
            rw [Int.toNat_natCast] at p0 p1 p2 p3 p4 q0 q1 q2 q3 q4
            have HS2 := Aside0.mk (show rd_T52 s.f1 j ∈ s.f1 from rd_mem s.f1 j mlt)
            obtain ⟨f, hf⟩ : ∃ f, f = rd_T52 s.f1 (j : Int) := ⟨_, rfl⟩
            rw [← hf] at p0 p1 p2 p3 p4 q0 q1 q2 q3 q4 HS2 lT mT CT DT
            clear hf mlt
            have CTT := Aside0.mk CT
            have DTT := Aside0.mk DT
            have LTT := Aside0.mk (show f.f2.f2.length ≤ cT ∧ f.f2.f2.length ≤ dT from ⟨lT, mT⟩)
            clear CT DT lT mT
            have bp := World.block_lt_of_cell? _ _ p0
            have bq' := World.block_lt_of_cell? _ _ q0
            have br := World.block_lt_of_cell? _ _ x1
            have bs := World.block_lt_of_cell? _ _ x3
            go_wp2_with fail
            first
            | go_region_held2 (fun W => W.cell? ⟨wo.heap.size, 1, none⟩ = some (.slice (some aq) m cF) ∧ W.cell? ⟨wo.heap.size + 1, 1, none⟩ = some (.slice (some bq) m dF) ∧ W.cell? (aq.add (j * 5)) = some (.string f.f0) ∧ W.cell? ⟨(aq.add (j * 5)).block, (aq.add (j * 5)).off + 1, none⟩ = some (.int .i64 f.f1) ∧ W.cell? ⟨(aq.add (j * 5)).block, (aq.add (j * 5)).off + 2, none⟩ = some (.int .i64 f.f2.f0) ∧ W.cell? ⟨(aq.add (j * 5)).block, (aq.add (j * 5)).off + 3, none⟩ = some (.string f.f2.f1) ∧ W.cell? ⟨(aq.add (j * 5)).block, (aq.add (j * 5)).off + 4, none⟩ = some (.slice AT f.f2.f2.length cT) ∧ W.cell? (bq.add (j * 5)) = some (.string f.f0) ∧ W.cell? ⟨(bq.add (j * 5)).block, (bq.add (j * 5)).off + 1, none⟩ = some (.int .i64 f.f1) ∧ W.cell? ⟨(bq.add (j * 5)).block, (bq.add (j * 5)).off + 2, none⟩ = some (.int .i64 f.f2.f0) ∧ W.cell? ⟨(bq.add (j * 5)).block, (bq.add (j * 5)).off + 3, none⟩ = some (.string f.f2.f1) ∧ W.cell? ⟨(bq.add (j * 5)).block, (bq.add (j * 5)).off + 4, none⟩ = some (.slice BT f.f2.f2.length dT)) (((repeat' (first | (with_reducible refine And.intro ?_ ?_) | (with_reducible refine keep_set ?_ ?_) | (with_reducible refine keep_alloc ?_) | (with_reducible refine keep_drew ?_) | exact x1 | exact x3 | exact p0 | exact p1 | exact p2 | exact p3 | exact p4 | exact q0 | exact q1 | exact q2 | exact q3 | exact q4 | (exact Nat.ne_of_lt bp) | (exact Nat.ne_of_lt bq') | (exact Nat.ne_of_lt br) | (exact Nat.ne_of_lt bs) | (exact Nat.ne_of_lt (Nat.lt_succ_of_lt bp)) | (exact Nat.ne_of_lt (Nat.lt_succ_of_lt bq')) | (exact Nat.ne_of_lt (Nat.lt_succ_of_lt br)) | (exact Nat.ne_of_lt (Nat.lt_succ_of_lt bs)))); done)) (fail)
            | go_region_held2 (fun W => W.cell? ⟨wo.heap.size + 1, 1, none⟩ = some (.slice (some aq) m cF) ∧ W.cell? ⟨wo.heap.size, 1, none⟩ = some (.slice (some bq) m dF) ∧ W.cell? (aq.add (j * 5)) = some (.string f.f0) ∧ W.cell? ⟨(aq.add (j * 5)).block, (aq.add (j * 5)).off + 1, none⟩ = some (.int .i64 f.f1) ∧ W.cell? ⟨(aq.add (j * 5)).block, (aq.add (j * 5)).off + 2, none⟩ = some (.int .i64 f.f2.f0) ∧ W.cell? ⟨(aq.add (j * 5)).block, (aq.add (j * 5)).off + 3, none⟩ = some (.string f.f2.f1) ∧ W.cell? ⟨(aq.add (j * 5)).block, (aq.add (j * 5)).off + 4, none⟩ = some (.slice AT f.f2.f2.length cT) ∧ W.cell? (bq.add (j * 5)) = some (.string f.f0) ∧ W.cell? ⟨(bq.add (j * 5)).block, (bq.add (j * 5)).off + 1, none⟩ = some (.int .i64 f.f1) ∧ W.cell? ⟨(bq.add (j * 5)).block, (bq.add (j * 5)).off + 2, none⟩ = some (.int .i64 f.f2.f0) ∧ W.cell? ⟨(bq.add (j * 5)).block, (bq.add (j * 5)).off + 3, none⟩ = some (.string f.f2.f1) ∧ W.cell? ⟨(bq.add (j * 5)).block, (bq.add (j * 5)).off + 4, none⟩ = some (.slice BT f.f2.f2.length dT)) (((repeat' (first | (with_reducible refine And.intro ?_ ?_) | (with_reducible refine keep_set ?_ ?_) | (with_reducible refine keep_alloc ?_) | (with_reducible refine keep_drew ?_) | exact x1 | exact x3 | exact p0 | exact p1 | exact p2 | exact p3 | exact p4 | exact q0 | exact q1 | exact q2 | exact q3 | exact q4 | (exact Nat.ne_of_lt bp) | (exact Nat.ne_of_lt bq') | (exact Nat.ne_of_lt br) | (exact Nat.ne_of_lt bs) | (exact Nat.ne_of_lt (Nat.lt_succ_of_lt bp)) | (exact Nat.ne_of_lt (Nat.lt_succ_of_lt bq')) | (exact Nat.ne_of_lt (Nat.lt_succ_of_lt br)) | (exact Nat.ne_of_lt (Nat.lt_succ_of_lt bs)))); done)) (fail)
            all_goals
              clear p0 p1 p2 p3 p4 q0 q1 q2 q3 q4 x1 x3 bp bq' br bs
              first
              | (obtain ⟨J6, J7, hB, hBr⟩ := two_new HI.out HI.out.size (.cells #[.string f.f0, .int .i64 f.f1, .int .i64 f.f2.f0, .string f.f2.f1, .slice AT f.f2.f2.length cT] 52) (.cells #[.string f.f0, .int .i64 f.f1, .int .i64 f.f2.f0, .string f.f2.f1, .slice BT f.f2.f2.length dT] 52); show Exit.then _ _ _ _ ((wr.alloc (.cells #[.string f.f0, .int .i64 f.f1, .int .i64 f.f2.f0, .string f.f2.f1, .slice AT f.f2.f2.length cT] 52)).alloc (.cells #[.string f.f0, .int .i64 f.f1, .int .i64 f.f2.f0, .string f.f2.f1, .slice BT f.f2.f2.length dT] 52)).drew; generalize ((wr.alloc (.cells #[.string f.f0, .int .i64 f.f1, .int .i64 f.f2.f0, .string f.f2.f1, .slice AT f.f2.f2.length cT] 52)).alloc (.cells #[.string f.f0, .int .i64 f.f1, .int .i64 f.f2.f0, .string f.f2.f1, .slice BT f.f2.f2.length dT] 52)).drew = WZ at J6 J7 hB hBr ⊢)
              | (obtain ⟨J7, J6, hB, hBr⟩ := two_new HI.out HI.out.size (.cells #[.string f.f0, .int .i64 f.f1, .int .i64 f.f2.f0, .string f.f2.f1, .slice BT f.f2.f2.length dT] 52) (.cells #[.string f.f0, .int .i64 f.f1, .int .i64 f.f2.f0, .string f.f2.f1, .slice AT f.f2.f2.length cT] 52); show Exit.then _ _ _ _ ((wr.alloc (.cells #[.string f.f0, .int .i64 f.f1, .int .i64 f.f2.f0, .string f.f2.f1, .slice BT f.f2.f2.length dT] 52)).alloc (.cells #[.string f.f0, .int .i64 f.f1, .int .i64 f.f2.f0, .string f.f2.f1, .slice AT f.f2.f2.length cT] 52)).drew; generalize ((wr.alloc (.cells #[.string f.f0, .int .i64 f.f1, .int .i64 f.f2.f0, .string f.f2.f1, .slice BT f.f2.f2.length dT] 52)).alloc (.cells #[.string f.f0, .int .i64 f.f1, .int .i64 f.f2.f0, .string f.f2.f1, .slice AT f.f2.f2.length cT] 52)).drew = WZ at J6 J7 hB hBr ⊢)
              have HZ := Aside0.mk hB
              have HZR := Aside0.mk hBr
              have u0 := zcell J6 0 _ rfl
              have v0 := zcell J7 0 _ rfl
              have u1 := zcell J6 1 _ rfl
              have v1 := zcell J7 1 _ rfl
              have u2 := zcell J6 2 _ rfl
              have v2 := zcell J7 2 _ rfl
              have u3 := zcell J6 3 _ rfl
              have v3 := zcell J7 3 _ rfl
              have u4 := zcell J6 4 _ rfl
              have v4 := zcell J7 4 _ rfl
              clear J6 J7 hB hBr
              go_wp2_with fail
              go_at_call 40
              refine (waybillplain_SameType.calls K _ _ _ AT cT f.f2.f2 _ _ _ BT dT f.f2.f2 true _ (Kd.V_mk LTT.out.1 (Kd.C_F k50_heap (Kd.C_below CTT.out HZR.out))) (Kd.V_mk LTT.out.2 (Kd.C_F k50_heap (Kd.C_below DTT.out HZR.out))) (HT.out s HS.out f HS2.out)).mono ?_
              rintro e w9 ⟨rfl, hb⟩
              have HN9 := Aside0.mk (below_b HZ.out hb HZ.out.size)
              clear hb u0 u1 u2 u3 u4 v0 v1 v2 v3 v4
              go_wp2_with fail
              refine ⟨⟨j + 1, by omega, by go_num, ⟨HN9.out⟩⟩, ?_⟩
              simp [intOf]; omega
          · obtain rfl : j = m := by omega
            go_wp2_with fail
            refine ⟨⟨i + 1, by omega, by go_num, ⟨below_b HBW.out HI.out HBW.out.size⟩⟩, ?_⟩
            simp [intOf]; omega
    · obtain rfl : i = n1 := by omega
      go_wp2_with fail
      have HB0 := Aside0.mk (Below.refl w2.heap.size w2)
      have HBS := HB
      go_loopw [11] (fun v5 W => ∃ i : Nat, i ≤ n2 ∧ v5 = .int .i64 (i : Int) ∧ Aside0 (Below w2.heap.size w2 W)) (fun v _ => n2 - (intOf v).toNat)
      case atStart => exact ⟨0, by omega, rfl, HBS⟩
      case round =>
        clear HB0 HBS
        obtain ⟨i, ile, rfl, HB⟩ := hrel
        have z1 := zcell (heapB K2.out HB.out) 1 _ rfl
        have y1 := zcell (heapB K3.out HB.out) 1 _ rfl
        by_cases hlt : i < n2
        · have CA := Aside0.mk (Kd.C_below (Kd.C_below HA.out.2.1 HW2.out) HB.out)
          have CB := Aside0.mk (Kd.C_below (Kd.C_below HBB.out.2.1 HW2.out) HB.out)
          have nlt : i < x.f1.length := by rw [← HN.out.2.1]; exact hlt
          obtain ⟨ad, eA⟩ := C_some CA.out (by omega)
          obtain ⟨bd, eB⟩ := C_some CB.out (by omega)
          subst eA eB
          obtain ⟨AF, cF, a0, a1, lF, CF⟩ := at86s CA.out i nlt
          obtain ⟨BF, dF, b0, b1, mF, DF⟩ := at86s CB.out i nlt
          have HS := Aside0.mk (show rd_T86 x.f1 i ∈ x.f1 from rd_mem x.f1 i nlt)
          obtain ⟨s, hs⟩ : ∃ s, s = rd_T86 x.f1 i := ⟨_, rfl⟩
          rw [← hs] at a0 a1 b0 b1 lF mF CF DF HS
          have CFF := Aside0.mk CF
          have DFF := Aside0.mk DF
          have LF := Aside0.mk (show s.f1.length ≤ cF ∧ s.f1.length ≤ dF from ⟨lF, mF⟩)
          have sl := CF.2.1
          clear hs CF DF lF mF nlt
          have ba := World.block_lt_of_cell? _ _ a0
          have bb := World.block_lt_of_cell? _ _ b0
          have bg := World.block_lt_of_cell? _ _ z1
          have bh := World.block_lt_of_cell? _ _ y1
          obtain ⟨m, hm⟩ : ∃ m, m = s.f1.length := ⟨_, rfl⟩
          have HMM := Aside0.mk hm
          rw [← hm] at a1 b1 sl
          clear hm
          go_wp2_with fail
          go_region_held2 (fun W => W.cell? ⟨g2, 1, none⟩ = some (.slice (some ad) n2 c2) ∧ W.cell? ⟨g3, 1, none⟩ = some (.slice (some bd) n2 d2) ∧ W.cell? (ad.add (i * 2)) = some (.string s.f0) ∧ W.cell? ⟨(ad.add (i * 2)).block, (ad.add (i * 2)).off + 1, none⟩ = some (.slice AF m cF) ∧ W.cell? (bd.add (i * 2)) = some (.string s.f0) ∧ W.cell? ⟨(bd.add (i * 2)).block, (bd.add (i * 2)).off + 1, none⟩ = some (.slice BF m dF)) (((repeat' (first | (with_reducible refine And.intro ?_ ?_) | (with_reducible refine keep_set ?_ ?_) | (with_reducible refine keep_alloc ?_) | (with_reducible refine keep_drew ?_) | exact z1 | exact y1 | exact a0 | exact a1 | exact b0 | exact b1 | (exact Nat.ne_of_lt ba) | (exact Nat.ne_of_lt bb) | (exact Nat.ne_of_lt bg) | (exact Nat.ne_of_lt bh) | (exact Nat.ne_of_lt (Nat.lt_succ_of_lt ba)) | (exact Nat.ne_of_lt (Nat.lt_succ_of_lt bb)) | (exact Nat.ne_of_lt (Nat.lt_succ_of_lt bg)) | (exact Nat.ne_of_lt (Nat.lt_succ_of_lt bh)))); done)) (fail)
          all_goals
            clear a0 a1 b0 b1 z1 y1 ba bb bg bh
            first
            | (obtain ⟨J6, J7, hB, hBr⟩ := two_new HB.out HB.out.size (.cells #[.string s.f0, .slice AF m cF] 86) (.cells #[.string s.f0, .slice BF m dF] 86); show Exit.then _ _ _ _ ((wr.alloc (.cells #[.string s.f0, .slice AF m cF] 86)).alloc (.cells #[.string s.f0, .slice BF m dF] 86)).drew; generalize ((wr.alloc (.cells #[.string s.f0, .slice AF m cF] 86)).alloc (.cells #[.string s.f0, .slice BF m dF] 86)).drew = WW at J6 J7 hB hBr ⊢)
            | (obtain ⟨J7, J6, hB, hBr⟩ := two_new HB.out HB.out.size (.cells #[.string s.f0, .slice BF m dF] 86) (.cells #[.string s.f0, .slice AF m cF] 86); show Exit.then _ _ _ _ ((wr.alloc (.cells #[.string s.f0, .slice BF m dF] 86)).alloc (.cells #[.string s.f0, .slice AF m cF] 86)).drew; generalize ((wr.alloc (.cells #[.string s.f0, .slice BF m dF] 86)).alloc (.cells #[.string s.f0, .slice AF m cF] 86)).drew = WW at J6 J7 hB hBr ⊢)
            have JA := Aside0.mk J6
            have JB := Aside0.mk J7
            have HBW := Aside0.mk hB
            have HBR := Aside0.mk hBr
            have x0 := zcell J6 0 _ rfl
            have x1 := zcell J6 1 _ rfl
            have x2 := zcell J7 0 _ rfl
            have x3 := zcell J7 1 _ rfl
            clear J6 J7 hB hBr
            obtain ⟨wo, hwo⟩ : ∃ wo : World, wo = wr := ⟨_, rfl⟩
            subst hwo
            go_wp2_with fail
            clear x0 x1 x2 x3
            have HI0 := Aside0.mk (Below.refl WW.heap.size WW)
            go_loopw [14] (fun v8 W => ∃ j : Nat, j ≤ m ∧ v8 = .int .i64 (j : Int) ∧ Aside0 (Below WW.heap.size WW W)) (fun v _ => m - (intOf v).toNat)
            case atStart => exact ⟨0, by omega, rfl, HI0⟩
            case round =>
              clear HI0
              obtain ⟨j, jle, rfl, HI⟩ := hrel
              have x1 := zcell (heapB JA.out HI.out) 1 _ rfl
              have x3 := zcell (heapB JB.out HI.out) 1 _ rfl
              by_cases hjt : j < m
              · have mlt : j < s.f1.length := by rw [← HMM.out]; exact hjt
                have EA := Aside0.mk (Kd.C_below (Kd.C_below CFF.out HBR.out) HI.out)
                have EB := Aside0.mk (Kd.C_below (Kd.C_below DFF.out HBR.out) HI.out)
                obtain ⟨aq, eA⟩ := C_some EA.out (by omega)
                obtain ⟨bq, eB⟩ := C_some EB.out (by omega)
                subst eA eB
                obtain ⟨aq', e, p0, p1⟩ := at_T88 EA.out (j : Int) (by omega) (by omega)
                cases e
                obtain ⟨bq', e, q0, q1⟩ := at_T88 EB.out (j : Int) (by omega) (by omega)
                cases e
                rw [Int.toNat_natCast] at p0 p1 q0 q1
                have HS2 := Aside0.mk (show rd_T88 s.f1 j ∈ s.f1 from rd_mem s.f1 j mlt)
                obtain ⟨f, hf⟩ : ∃ f, f = rd_T88 s.f1 (j : Int) := ⟨_, rfl⟩
                rw [← hf] at p0 p1 q0 q1 HS2
                clear hf mlt
                have hq := fun W : World => neq88 W f.f0 f.f1
                go_wp2_with fail
                first
                | go_region_held2 (fun W => W.cell? ⟨wo.heap.size, 1, none⟩ = some (.slice (some aq) m cF) ∧ W.cell? ⟨wo.heap.size + 1, 1, none⟩ = some (.slice (some bq) m dF) ∧ W.cell? (aq.add (j * 2)) = some (.string f.f0) ∧ W.cell? ⟨(aq.add (j * 2)).block, (aq.add (j * 2)).off + 1, none⟩ = some (.int .i64 f.f1) ∧ W.cell? (bq.add (j * 2)) = some (.string f.f0) ∧ W.cell? ⟨(bq.add (j * 2)).block, (bq.add (j * 2)).off + 1, none⟩ = some (.int .i64 f.f1)) (((repeat' (first | (with_reducible refine And.intro ?_ ?_) | (with_reducible refine keep_drew ?_) | exact x1 | exact x3 | exact p0 | exact p1 | exact q0 | exact q1)); done)) (fail)
                | go_region_held2 (fun W => W.cell? ⟨wo.heap.size + 1, 1, none⟩ = some (.slice (some aq) m cF) ∧ W.cell? ⟨wo.heap.size, 1, none⟩ = some (.slice (some bq) m dF) ∧ W.cell? (aq.add (j * 2)) = some (.string f.f0) ∧ W.cell? ⟨(aq.add (j * 2)).block, (aq.add (j * 2)).off + 1, none⟩ = some (.int .i64 f.f1) ∧ W.cell? (bq.add (j * 2)) = some (.string f.f0) ∧ W.cell? ⟨(bq.add (j * 2)).block, (bq.add (j * 2)).off + 1, none⟩ = some (.int .i64 f.f1)) (((repeat' (first | (with_reducible refine And.intro ?_ ?_) | (with_reducible refine keep_drew ?_) | exact x1 | exact x3 | exact p0 | exact p1 | exact q0 | exact q1)); done)) (fail)
                all_goals
                  clear hq p0 p1 q0 q1 x1 x3
                  go_wp2_with fail
                  refine ⟨⟨j + 1, by omega, by go_num, ⟨below_drew HI.out⟩⟩, ?_⟩
                  simp [intOf]; omega
              · obtain rfl : j = m := by omega
                go_wp2_with fail
                refine ⟨⟨i + 1, by omega, by go_num, ⟨below_b HBW.out HI.out HBW.out.size⟩⟩, ?_⟩
                simp [intOf]; omega
        · obtain rfl : i = n2 := by omega
          go_wp2_with fail
          have HB0 := Aside0.mk (Below.refl w2.heap.size w2)
          have HBS := HB
          go_loopw [15] (fun v5 W => ∃ i : Nat, i ≤ n3 ∧ v5 = .int .i64 (i : Int) ∧ Aside0 (Below w2.heap.size w2 W)) (fun v _ => n3 - (intOf v).toNat)
          case atStart => exact ⟨0, by omega, rfl, HBS⟩
          case round =>
            clear HB0 HBS
            obtain ⟨i, ile, rfl, HB⟩ := hrel
            have z1 := zcell (heapB K2.out HB.out) 2 _ rfl
            have y1 := zcell (heapB K3.out HB.out) 2 _ rfl
            by_cases hlt : i < n3
            · have CA := Aside0.mk (Kd.C_below (Kd.C_below HA.out.2.2 HW2.out) HB.out)
              have CB := Aside0.mk (Kd.C_below (Kd.C_below HBB.out.2.2 HW2.out) HB.out)
              have nlt : i < x.f2.length := by rw [← HN.out.2.2]; exact hlt
              obtain ⟨ad, eA⟩ := C_some CA.out (by omega)
              obtain ⟨bd, eB⟩ := C_some CB.out (by omega)
              subst eA eB
              obtain ⟨AF, cF, a0, a1, lF, CF⟩ := at91s CA.out i nlt
              obtain ⟨BF, dF, b0, b1, mF, DF⟩ := at91s CB.out i nlt
              have HS := Aside0.mk (show rd_T91 x.f2 i ∈ x.f2 from rd_mem x.f2 i nlt)
              obtain ⟨s, hs⟩ : ∃ s, s = rd_T91 x.f2 i := ⟨_, rfl⟩
              rw [← hs] at a0 a1 b0 b1 lF mF CF DF HS
              have CFF := Aside0.mk CF
              have DFF := Aside0.mk DF
              have LF := Aside0.mk (show s.f1.length ≤ cF ∧ s.f1.length ≤ dF from ⟨lF, mF⟩)
              have sl := CF.2.1
              clear hs CF DF lF mF nlt
              have ba := World.block_lt_of_cell? _ _ a0
              have bb := World.block_lt_of_cell? _ _ b0
              have bg := World.block_lt_of_cell? _ _ z1
              have bh := World.block_lt_of_cell? _ _ y1
              obtain ⟨m, hm⟩ : ∃ m, m = s.f1.length := ⟨_, rfl⟩
              have HMM := Aside0.mk hm
              rw [← hm] at a1 b1 sl
              clear hm
              go_wp2_with fail
              go_region_held2 (fun W => W.cell? ⟨g2, 2, none⟩ = some (.slice (some ad) n3 c3) ∧ W.cell? ⟨g3, 2, none⟩ = some (.slice (some bd) n3 d3) ∧ W.cell? (ad.add (i * 2)) = some (.string s.f0) ∧ W.cell? ⟨(ad.add (i * 2)).block, (ad.add (i * 2)).off + 1, none⟩ = some (.slice AF m cF) ∧ W.cell? (bd.add (i * 2)) = some (.string s.f0) ∧ W.cell? ⟨(bd.add (i * 2)).block, (bd.add (i * 2)).off + 1, none⟩ = some (.slice BF m dF)) (((repeat' (first | (with_reducible refine And.intro ?_ ?_) | (with_reducible refine keep_set ?_ ?_) | (with_reducible refine keep_alloc ?_) | (with_reducible refine keep_drew ?_) | exact z1 | exact y1 | exact a0 | exact a1 | exact b0 | exact b1 | (exact Nat.ne_of_lt ba) | (exact Nat.ne_of_lt bb) | (exact Nat.ne_of_lt bg) | (exact Nat.ne_of_lt bh) | (exact Nat.ne_of_lt (Nat.lt_succ_of_lt ba)) | (exact Nat.ne_of_lt (Nat.lt_succ_of_lt bb)) | (exact Nat.ne_of_lt (Nat.lt_succ_of_lt bg)) | (exact Nat.ne_of_lt (Nat.lt_succ_of_lt bh)))); done)) (fail)
              all_goals
                clear a0 a1 b0 b1 z1 y1 ba bb bg bh
                first
                | (obtain ⟨J6, J7, hB, hBr⟩ := two_new HB.out HB.out.size (.cells #[.string s.f0, .slice AF m cF] 91) (.cells #[.string s.f0, .slice BF m dF] 91); show Exit.then _ _ _ _ ((wr.alloc (.cells #[.string s.f0, .slice AF m cF] 91)).alloc (.cells #[.string s.f0, .slice BF m dF] 91)).drew; generalize ((wr.alloc (.cells #[.string s.f0, .slice AF m cF] 91)).alloc (.cells #[.string s.f0, .slice BF m dF] 91)).drew = WW at J6 J7 hB hBr ⊢)
                | (obtain ⟨J7, J6, hB, hBr⟩ := two_new HB.out HB.out.size (.cells #[.string s.f0, .slice BF m dF] 91) (.cells #[.string s.f0, .slice AF m cF] 91); show Exit.then _ _ _ _ ((wr.alloc (.cells #[.string s.f0, .slice BF m dF] 91)).alloc (.cells #[.string s.f0, .slice AF m cF] 91)).drew; generalize ((wr.alloc (.cells #[.string s.f0, .slice BF m dF] 91)).alloc (.cells #[.string s.f0, .slice AF m cF] 91)).drew = WW at J6 J7 hB hBr ⊢)
                have JA := Aside0.mk J6
                have JB := Aside0.mk J7
                have HBW := Aside0.mk hB
                have HBR := Aside0.mk hBr
                have x0 := zcell J6 0 _ rfl
                have x1 := zcell J6 1 _ rfl
                have x2 := zcell J7 0 _ rfl
                have x3 := zcell J7 1 _ rfl
                clear J6 J7 hB hBr
                obtain ⟨wo, hwo⟩ : ∃ wo : World, wo = wr := ⟨_, rfl⟩
                subst hwo
                go_wp2_with fail
                clear x0 x1 x2 x3
                have HI0 := Aside0.mk (Below.refl WW.heap.size WW)
                go_loopw [18] (fun v8 W => ∃ j : Nat, j ≤ m ∧ v8 = .int .i64 (j : Int) ∧ Aside0 (Below WW.heap.size WW W)) (fun v _ => m - (intOf v).toNat)
                case atStart => exact ⟨0, by omega, rfl, HI0⟩
                case round =>
                  clear HI0
                  obtain ⟨j, jle, rfl, HI⟩ := hrel
                  have x1 := zcell (heapB JA.out HI.out) 1 _ rfl
                  have x3 := zcell (heapB JB.out HI.out) 1 _ rfl
                  by_cases hjt : j < m
                  · have mlt : j < s.f1.length := by rw [← HMM.out]; exact hjt
                    have EA := Aside0.mk (Kd.C_below (Kd.C_below CFF.out HBR.out) HI.out)
                    have EB := Aside0.mk (Kd.C_below (Kd.C_below DFF.out HBR.out) HI.out)
                    obtain ⟨aq, eA⟩ := C_some EA.out (by omega)
                    obtain ⟨bq, eB⟩ := C_some EB.out (by omega)
                    subst eA eB
                    obtain ⟨aq', AT, cT, AU, cU, e, p0, p1, p2, p3, p4, p5, p6, p7, lT, CT, lU, CU⟩ := at_T94 EA.out (j : Int) (by omega) (by omega)
                    cases e
                    obtain ⟨bq', BT, dT, BU, dU, e, q0, q1, q2, q3, q4, q5, q6, q7, mT, DT, mU, DU⟩ := at_T94 EB.out (j : Int) (by omega) (by omega)
                    cases e
                    rw [Int.toNat_natCast] at p0 p1 p2 p3 p4 p5 p6 p7 q0 q1 q2 q3 q4 q5 q6 q7
                    have HS2 := Aside0.mk (show rd_T94 s.f1 j ∈ s.f1 from rd_mem s.f1 j mlt)
                    obtain ⟨f, hf⟩ : ∃ f, f = rd_T94 s.f1 (j : Int) := ⟨_, rfl⟩
                    rw [← hf] at p0 p1 p2 p3 p4 p5 p6 p7 q0 q1 q2 q3 q4 q5 q6 q7 HS2 lT mT CT DT lU mU CU DU
                    clear hf mlt
                    have HCT := Aside0.mk (show Kd.C k50 wr AT f.f2.f2.length f.f2.f2 ∧ f.f2.f2.length ≤ cT ∧ Kd.C k50 wr AU f.f3.f2.length f.f3.f2 ∧ f.f3.f2.length ≤ cU ∧ Kd.C k50 wr BT f.f2.f2.length f.f2.f2 ∧ f.f2.f2.length ≤ dT ∧ Kd.C k50 wr BU f.f3.f2.length f.f3.f2 ∧ f.f3.f2.length ≤ dU from ⟨CT, lT, CU, lU, DT, mT, DU, mU⟩)
                    clear CT lT CU lU DT mT DU mU
                    go_wp2_with fail
                    first
                    | go_region_held2 (fun W => W.cell? ⟨wo.heap.size, 1, none⟩ = some (.slice (some aq) m cF) ∧ W.cell? ⟨wo.heap.size + 1, 1, none⟩ = some (.slice (some bq) m dF) ∧ W.cell? (aq.add (j * 8)) = some (.string f.f0) ∧ W.cell? ⟨(aq.add (j * 8)).block, (aq.add (j * 8)).off + 1, none⟩ = some (.bool f.f1) ∧ W.cell? ⟨(aq.add (j * 8)).block, (aq.add (j * 8)).off + 2, none⟩ = some (.int .i64 f.f2.f0) ∧ W.cell? ⟨(aq.add (j * 8)).block, (aq.add (j * 8)).off + 3, none⟩ = some (.string f.f2.f1) ∧ W.cell? ⟨(aq.add (j * 8)).block, (aq.add (j * 8)).off + 4, none⟩ = some (.slice AT f.f2.f2.length cT) ∧ W.cell? ⟨(aq.add (j * 8)).block, (aq.add (j * 8)).off + 5, none⟩ = some (.int .i64 f.f3.f0) ∧ W.cell? ⟨(aq.add (j * 8)).block, (aq.add (j * 8)).off + 6, none⟩ = some (.string f.f3.f1) ∧ W.cell? ⟨(aq.add (j * 8)).block, (aq.add (j * 8)).off + 7, none⟩ = some (.slice AU f.f3.f2.length cU) ∧ W.cell? (bq.add (j * 8)) = some (.string f.f0) ∧ W.cell? ⟨(bq.add (j * 8)).block, (bq.add (j * 8)).off + 1, none⟩ = some (.bool f.f1) ∧ W.cell? ⟨(bq.add (j * 8)).block, (bq.add (j * 8)).off + 2, none⟩ = some (.int .i64 f.f2.f0) ∧ W.cell? ⟨(bq.add (j * 8)).block, (bq.add (j * 8)).off + 3, none⟩ = some (.string f.f2.f1) ∧ W.cell? ⟨(bq.add (j * 8)).block, (bq.add (j * 8)).off + 4, none⟩ = some (.slice BT f.f2.f2.length dT) ∧ W.cell? ⟨(bq.add (j * 8)).block, (bq.add (j * 8)).off + 5, none⟩ = some (.int .i64 f.f3.f0) ∧ W.cell? ⟨(bq.add (j * 8)).block, (bq.add (j * 8)).off + 6, none⟩ = some (.string f.f3.f1) ∧ W.cell? ⟨(bq.add (j * 8)).block, (bq.add (j * 8)).off + 7, none⟩ = some (.slice BU f.f3.f2.length dU)) (((repeat' (first | (with_reducible refine And.intro ?_ ?_) | (with_reducible refine keep_drew ?_) | exact x1 | exact x3 | exact p0 | exact p1 | exact p2 | exact p3 | exact p4 | exact p5 | exact p6 | exact p7 | exact q0 | exact q1 | exact q2 | exact q3 | exact q4 | exact q5 | exact q6 | exact q7 | exact cell_step HB9.out x1 | exact cell_step HB9.out x3 | exact cell_step HB9.out p0 | exact cell_step HB9.out p1 | exact cell_step HB9.out p2 | exact cell_step HB9.out p3 | exact cell_step HB9.out p4 | exact cell_step HB9.out p5 | exact cell_step HB9.out p6 | exact cell_step HB9.out p7 | exact cell_step HB9.out q0 | exact cell_step HB9.out q1 | exact cell_step HB9.out q2 | exact cell_step HB9.out q3 | exact cell_step HB9.out q4 | exact cell_step HB9.out q5 | exact cell_step HB9.out q6 | exact cell_step HB9.out q7)); done)) ((go_at_call 41; refine (waybillplain_SameMethod.calls K _ _ _ _ AT cT f.f2.f2 _ _ AU cU f.f3.f2 _ _ _ _ BT dT f.f2.f2 _ _ BU dU f.f3.f2 true _ (Kd.C_below HCT.out.1 (below_drew (Below.refl _ _))) HCT.out.2.1 (Kd.C_below HCT.out.2.2.1 (below_drew (Below.refl _ _))) HCT.out.2.2.2.1 (Kd.C_below HCT.out.2.2.2.2.1 (below_drew (Below.refl _ _))) HCT.out.2.2.2.2.2.1 (Kd.C_below HCT.out.2.2.2.2.2.2.1 (below_drew (Below.refl _ _))) HCT.out.2.2.2.2.2.2.2 (HM.out s HS.out f HS2.out)).mono ?_; rintro e w9 ⟨rfl, hb⟩; have HB9 := Aside0.mk hb; clear hb))
                    | go_region_held2 (fun W => W.cell? ⟨wo.heap.size + 1, 1, none⟩ = some (.slice (some aq) m cF) ∧ W.cell? ⟨wo.heap.size, 1, none⟩ = some (.slice (some bq) m dF) ∧ W.cell? (aq.add (j * 8)) = some (.string f.f0) ∧ W.cell? ⟨(aq.add (j * 8)).block, (aq.add (j * 8)).off + 1, none⟩ = some (.bool f.f1) ∧ W.cell? ⟨(aq.add (j * 8)).block, (aq.add (j * 8)).off + 2, none⟩ = some (.int .i64 f.f2.f0) ∧ W.cell? ⟨(aq.add (j * 8)).block, (aq.add (j * 8)).off + 3, none⟩ = some (.string f.f2.f1) ∧ W.cell? ⟨(aq.add (j * 8)).block, (aq.add (j * 8)).off + 4, none⟩ = some (.slice AT f.f2.f2.length cT) ∧ W.cell? ⟨(aq.add (j * 8)).block, (aq.add (j * 8)).off + 5, none⟩ = some (.int .i64 f.f3.f0) ∧ W.cell? ⟨(aq.add (j * 8)).block, (aq.add (j * 8)).off + 6, none⟩ = some (.string f.f3.f1) ∧ W.cell? ⟨(aq.add (j * 8)).block, (aq.add (j * 8)).off + 7, none⟩ = some (.slice AU f.f3.f2.length cU) ∧ W.cell? (bq.add (j * 8)) = some (.string f.f0) ∧ W.cell? ⟨(bq.add (j * 8)).block, (bq.add (j * 8)).off + 1, none⟩ = some (.bool f.f1) ∧ W.cell? ⟨(bq.add (j * 8)).block, (bq.add (j * 8)).off + 2, none⟩ = some (.int .i64 f.f2.f0) ∧ W.cell? ⟨(bq.add (j * 8)).block, (bq.add (j * 8)).off + 3, none⟩ = some (.string f.f2.f1) ∧ W.cell? ⟨(bq.add (j * 8)).block, (bq.add (j * 8)).off + 4, none⟩ = some (.slice BT f.f2.f2.length dT) ∧ W.cell? ⟨(bq.add (j * 8)).block, (bq.add (j * 8)).off + 5, none⟩ = some (.int .i64 f.f3.f0) ∧ W.cell? ⟨(bq.add (j * 8)).block, (bq.add (j * 8)).off + 6, none⟩ = some (.string f.f3.f1) ∧ W.cell? ⟨(bq.add (j * 8)).block, (bq.add (j * 8)).off + 7, none⟩ = some (.slice BU f.f3.f2.length dU)) (((repeat' (first | (with_reducible refine And.intro ?_ ?_) | (with_reducible refine keep_drew ?_) | exact x1 | exact x3 | exact p0 | exact p1 | exact p2 | exact p3 | exact p4 | exact p5 | exact p6 | exact p7 | exact q0 | exact q1 | exact q2 | exact q3 | exact q4 | exact q5 | exact q6 | exact q7 | exact cell_step HB9.out x1 | exact cell_step HB9.out x3 | exact cell_step HB9.out p0 | exact cell_step HB9.out p1 | exact cell_step HB9.out p2 | exact cell_step HB9.out p3 | exact cell_step HB9.out p4 | exact cell_step HB9.out p5 | exact cell_step HB9.out p6 | exact cell_step HB9.out p7 | exact cell_step HB9.out q0 | exact cell_step HB9.out q1 | exact cell_step HB9.out q2 | exact cell_step HB9.out q3 | exact cell_step HB9.out q4 | exact cell_step HB9.out q5 | exact cell_step HB9.out q6 | exact cell_step HB9.out q7)); done)) ((go_at_call 41; refine (waybillplain_SameMethod.calls K _ _ _ _ AT cT f.f2.f2 _ _ AU cU f.f3.f2 _ _ _ _ BT dT f.f2.f2 _ _ BU dU f.f3.f2 true _ (Kd.C_below HCT.out.1 (below_drew (Below.refl _ _))) HCT.out.2.1 (Kd.C_below HCT.out.2.2.1 (below_drew (Below.refl _ _))) HCT.out.2.2.2.1 (Kd.C_below HCT.out.2.2.2.2.1 (below_drew (Below.refl _ _))) HCT.out.2.2.2.2.2.1 (Kd.C_below HCT.out.2.2.2.2.2.2.1 (below_drew (Below.refl _ _))) HCT.out.2.2.2.2.2.2.2 (HM.out s HS.out f HS2.out)).mono ?_; rintro e w9 ⟨rfl, hb⟩; have HB9 := Aside0.mk hb; clear hb))
                    all_goals
                      clear p0 p1 p2 p3 p4 p5 p6 p7 q0 q1 q2 q3 q4 q5 q6 q7 x1 x3
                      go_wp2_with fail
                      refine ⟨⟨j + 1, by omega, by go_num, ⟨below_b HI.out (below_b (below_drew (Below.refl wr.heap.size wr)) HB9.out (Nat.le_refl _)) HI.out.size⟩⟩, ?_⟩
                      simp [intOf]; omega
                  · obtain rfl : j = m := by omega
                    go_wp2_with fail
                    refine ⟨⟨i + 1, by omega, by go_num, ⟨below_b HBW.out HI.out HBW.out.size⟩⟩, ?_⟩
                    simp [intOf]; omega
            · obtain rfl : i = n3 := by omega
              go_wp2_with fail
              go_ret
              exact ⟨rfl, below_b HW2.out HB.out HW2.out.size⟩
end Go.Proofs.Ytoloneoeojoiaaa.EParseBack

