/- Print of any schema. -/
import Derived.Test.YtoloneoeojoiaaaMayE
namespace Go.Proofs.Ytoloneoeojoiaaa.EParseBack
open Go.RowKit Go.Shelf Go.Proofs.YtoloneoeojoiaaaW.PrintWords Go.Proofs.YtoloneoeojoiaaaW.PrintLast Go.Proofs.YtoloneoeojoiaaaW.PrintMore
set_option linter.unusedVariables false
set_option linter.unusedSimpArgs false
attribute [local go_sem] Instr.field asAgg
set_option maxHeartbeats 2000000 in
set_option maxRecDepth 100000 in
/-- The printer's deferred closure where something has gone wrong. -/
theorem pcatch_panic (r0 r1 : Nat) (c : Int) (s0 : ByteArray) (i0 : Int) (w : World) (h0 : w.heap[r0]? = some (.cells #[.string s0] 9 (0, 0))) (h1 : w.heap[r1]? = some (.cells #[.int .i64 i0] 24 (0, 0))) (hne : ¬ r1 = r0) :
    CallsD Try.prog 46 #[.pointer (some ⟨r0, 0, none⟩), .pointer (some ⟨r1, 0, none⟩)] (.panicking (pnc c)) w fun e u' w' => e = .returned (.tuple #[]) ∧ u' = .panicking [{ v := .iface 24 (.int .i64 c), recovered := true }] ∧ w' = (w.setCell ⟨r0, 0, none⟩ (.string ⟨#[]⟩)).setCell ⟨r1, 0, none⟩ (.int .i64 c) := by
  have y0 := zcell h0 0 _ rfl
  have y1 := zcell h1 0 _ rfl
  have f0 := zfree h0 0
  have f1 := zfree h1 0
  clear h0 h1
  have hta : ∀ (v : Value) (W : World), (Instr.typeAssert (.iface 24 v) 20 24 true).run Try.prog W = .ok (.tuple #[v, .bool true]) W := fun v W => rfl
  refine callsD_of_wpS Try.func46 rfl fun c₀ cs hu => ?_
  unfold pnc at hu
  have e : ({ tmps := #[.pointer (some ⟨r0, 0, none⟩), .pointer (some ⟨r1, 0, none⟩)] ++ Array.replicate (Try.f46.ntmps - (#[.pointer (some ⟨r0, 0, none⟩), .pointer (some ⟨r1, 0, none⟩)] : Array Value).size) undef, defers := [] } : Act) = { tmps := #[.pointer (some ⟨r0, 0, none⟩), .pointer (some ⟨r1, 0, none⟩), undef, undef, undef, undef, undef, undef, undef, undef, undef], defers := [] } := by rw [Try.ntmps46]; rfl
  rw [e]
  clear e
  apply wpS_seq
  apply wpS_region
  simp [wpOpsS, go_sem, recoverD, hu, Exit.thenS, hta]
  refine wpS_of_wp ?_
  go_wp2_with fail
  exact ⟨rfl, _, rfl, .tuple #[], by simp [results, Try.results46], rfl, rfl, rfl⟩
set_option maxHeartbeats 4000000 in
set_option maxRecDepth 100000 in
theorem Print_no.calls (K : Nat) (x : S40) (A1 A2 A3 : Option Addr) (c1 c2 c3 : Nat) (w : World)
    (hx : Kd.C k47 w A1 x.f0.length x.f0 ∧ Kd.C k86 w A2 x.f1.length x.f1 ∧ Kd.C k91 w A3 x.f2.length x.f2) (hok : SchTot K x) (h64 : x.f0.length ≤ 64 ∧ x.f1.length ≤ 64 ∧ x.f2.length ≤ 64 ∧ x.f0.length + x.f1.length + x.f2.length ≤ 64) (hne : allC K x ≠ 0) :
    Calls Try.prog 31 #[.agg #[.slice A1 x.f0.length c1, .slice A2 x.f1.length c2, .slice A3 x.f2.length c3]] w fun e w' => e = .returned (.tuple #[.string ⟨#[]⟩, .int .i64 (allC K x)]) ∧ Below w.heap.size w w' := by
  have HX := Aside0.mk hx
  have HOK := Aside0.mk hok
  have HALL := Aside0.mk (fun (b : Nat) (W : World) (h : Bld 108 w.heap.size b [] [] W) (hbb : w.heap.size ≤ b) (h0 : Below w.heap.size w W) => pall_no.calls K b x A1 A2 A3 c1 c2 c3 w W h hbb hx h0 hok ⟨h64.1, h64.2.1, h64.2.2.1⟩ hne)
  obtain ⟨n1, hn1⟩ : ∃ n, n = x.f0.length := ⟨_, rfl⟩
  obtain ⟨n2, hn2⟩ : ∃ n, n = x.f1.length := ⟨_, rfl⟩
  obtain ⟨n3, hn3⟩ : ∃ n, n = x.f2.length := ⟨_, rfl⟩
  rw [← hn1, ← hn2, ← hn3] at h64 ⊢
  rw [← hn1, ← hn2, ← hn3] at HALL
  obtain ⟨m1, m2, m3, m4⟩ := h64
  clear hx hok hne hn1 hn2 hn3
  have hmf : ∀ (fn : Fn) (first cap : Array Value) (w : World), (Instr.makeFunc fn first cap).run Try.prog w = .ok (.func fn first cap) w := fun _ _ _ _ => rfl
  go_enter_defers Try.func31, Try.ntmps31
  go_wp2_with (first | ((with_reducible refine gate_dst (N := 1) rfl ?_); refine box_event ?hg (N := 1) ?hd (cs := #[.slice A1 n1 c1, .slice A2 n2 c2, .slice A3 n3 c3]) (t := 40) ?hr ?_; (case hd => rfl); (case hg => rfl); (case hr => first | (go_simp; done) | (go_simp; rfl)); intro g1 hg_ w1 hbox hb; have K1 := Aside0.mk hbox; have HW1 := Aside0.mk hb; have HG1 := Aside0.mk hg_; clear hg_ hbox hb) | ((with_reducible refine gate_dst (N := 2) rfl ?_); refine box_event ?hg (N := 2) ?hd (cs := #[.string ⟨#[]⟩]) (t := 9) ?hr ?_; (case hd => rfl); (case hg => rfl); (case hr => first | (go_simp; done) | (go_simp; rfl)); intro g2 hg_ w2 hbox hb; have K2 := Aside0.mk hbox; have HB2 := Aside0.mk hb; have HW2 := Aside0.mk (below_b HW1.out hb HW1.out.size); have HG2 := Aside0.mk hg_; have J1 := Aside0.mk (pheapB K1.out hb); clear hg_ hbox hb) | ((with_reducible refine gate_dst (N := 3) rfl ?_); refine box_event ?hg (N := 3) ?hd (cs := #[.int .i64 0]) (t := 24) ?hr ?_; (case hd => rfl); (case hg => rfl); (case hr => first | (go_simp; done) | (go_simp; rfl)); intro g3 hg_ w3 hbox hb; have K3 := Aside0.mk hbox; have HW3 := Aside0.mk (below_b HW2.out hb HW2.out.size); have HG3 := Aside0.mk hg_; have L1 := Aside0.mk (pheapB J1.out hb); have L2 := Aside0.mk (pheapB K2.out hb); have z1 := zcell L1.out 0 _ rfl; have z2 := zcell L1.out 1 _ rfl; have z3 := zcell L1.out 2 _ rfl; clear hg_ hbox hb) | ((with_reducible refine gate_dst (N := 32) rfl ?_); refine box_event ?hg (N := 32) ?hd (cs := #[.pointer none, .slice none 0 0]) (t := 108) ?hr ?_; (case hd => rfl); (case hg => rfl); (case hr => first | (go_simp; done) | (go_simp; rfl)); intro g4 hg_ w4 hbox hb; have HBD := Aside0.mk (show Bld 108 w.heap.size g4 [] [] w4 from ⟨_, _, hbox, .inl rfl, World.ownsRow_nil _ _ _ _, by simp [Value.ownBlock]⟩); have HW4 := Aside0.mk (below_b HW3.out hb HW3.out.size); have HG4 := Aside0.mk (show w.heap.size ≤ g4 by rw [hg_]; exact HW3.out.size); have HG4E := Aside0.mk hg_; have M1 := Aside0.mk (pheapB L1.out hb); have M2 := Aside0.mk (pheapB L2.out hb); have M3 := Aside0.mk (pheapB K3.out hb); clear z1 z2 z3; have z1 := zcell M1.out 0 _ rfl; have z2 := zcell M1.out 1 _ rfl; have z3 := zcell M1.out 2 _ rfl; clear hg_ hbox hb))
  all_goals
    go_at_call 47
    refine (HALL.out g4 w4 HBD.out HG4.out HW4.out).mono ?_
    rintro e w5 ⟨rfl, hk5, hw5⟩
    have N2 := Aside0.mk (show ¬ g2 = g4 ∧ ¬ g3 = g4 ∧ ¬ g3 = g2 ∧ w.heap.size ≤ g2 ∧ w.heap.size ≤ g3 from by
      have a := lt_of_block K2.out; have b := lt_of_block K3.out; have c := lt_of_block L2.out; have d := HG2.out; have e := HG3.out; have f := HG4E.out; have g := HW1.out.size; have h := HW2.out.size; omega)
    have Q2 := Aside0.mk (hk5.keep _ _ _ _ M2.out N2.out.1 (by decide))
    have Q3 := Aside0.mk (hk5.keep _ _ _ _ M3.out N2.out.2.1 (by decide))
    have HW5 := Aside0.mk (show Below w.heap.size w w5 from HW4.out.trans hw5)
    clear hk5 hw5 z1 z2 z3
    refine leaves_cons (f := 46) (args := #[.pointer (some ⟨g2, 0, none⟩), .pointer (some ⟨g3, 0, none⟩)]) (by simp) (by simp [go_sem]) ?_
    refine (pcatch_panic g2 g3 (allC K x) _ _ _ Q2.out Q3.out N2.out.2.2.1).mono ?_
    rintro e u' w8 ⟨rfl, rfl, rfl⟩
    obtain ⟨k1, k2, k3⟩ := two_boxes (s' := ⟨#[]⟩) (b := allC K x) HW5.out Q2.out Q3.out N2.out.2.2.1 (Nat.le_refl _) N2.out.2.2.2.1 N2.out.2.2.2.2
    exact ⟨_, res_vals31 k1 k2 _ rfl rfl, rfl, k3⟩
set_option maxHeartbeats 4000000 in
set_option maxRecDepth 100000 in
theorem Print_many1.calls (x : S40) (A1 A2 A3 : Option Addr) (c1 c2 c3 : Nat) (w : World)
    (h64 : 64 < x.f0.length + x.f1.length + x.f2.length) (hle : x.f0.length ≤ 64 ∧ x.f1.length ≤ 64 ∧ x.f2.length ≤ 64) (hmx : x.f0.length ≤ 9223372036854775807 ∧ x.f1.length ≤ 9223372036854775807 ∧ x.f2.length ≤ 9223372036854775807) :
    Calls Try.prog 31 #[.agg #[.slice A1 x.f0.length c1, .slice A2 x.f1.length c2, .slice A3 x.f2.length c3]] w fun e w' => e = .returned (.tuple #[.string ⟨#[]⟩, .int .i64 3]) ∧ Below w.heap.size w w' := by
  obtain ⟨n1, hn1⟩ : ∃ n, n = x.f0.length := ⟨_, rfl⟩
  obtain ⟨n2, hn2⟩ : ∃ n, n = x.f1.length := ⟨_, rfl⟩
  obtain ⟨n3, hn3⟩ : ∃ n, n = x.f2.length := ⟨_, rfl⟩
  rw [← hn1, ← hn2, ← hn3] at h64 hmx hle ⊢
  obtain ⟨m1, m2, m3⟩ := hle
  clear hmx
  clear hn1 hn2 hn3
  have hmf : ∀ (fn : Fn) (first cap : Array Value) (w : World), (Instr.makeFunc fn first cap).run Try.prog w = .ok (.func fn first cap) w := fun _ _ _ _ => rfl
  go_enter_defers Try.func31, Try.ntmps31
  go_wp2_with (first | ((with_reducible refine gate_dst (N := 1) rfl ?_); refine box_event ?hg (N := 1) ?hd (cs := #[.slice A1 n1 c1, .slice A2 n2 c2, .slice A3 n3 c3]) (t := 40) ?hr ?_; (case hd => rfl); (case hg => rfl); (case hr => first | (go_simp; done) | (go_simp; rfl)); intro g1 hg_ w1 hbox hb; have K1 := Aside0.mk hbox; have HW1 := Aside0.mk hb; have HG1 := Aside0.mk hg_; clear hg_ hbox hb) | ((with_reducible refine gate_dst (N := 2) rfl ?_); refine box_event ?hg (N := 2) ?hd (cs := #[.string ⟨#[]⟩]) (t := 9) ?hr ?_; (case hd => rfl); (case hg => rfl); (case hr => first | (go_simp; done) | (go_simp; rfl)); intro g2 hg_ w2 hbox hb; have K2 := Aside0.mk hbox; have HB2 := Aside0.mk hb; have HW2 := Aside0.mk (below_b HW1.out hb HW1.out.size); have HG2 := Aside0.mk hg_; have J1 := Aside0.mk (pheapB K1.out hb); clear hg_ hbox hb) | ((with_reducible refine gate_dst (N := 3) rfl ?_); refine box_event ?hg (N := 3) ?hd (cs := #[.int .i64 0]) (t := 24) ?hr ?_; (case hd => rfl); (case hg => rfl); (case hr => first | (go_simp; done) | (go_simp; rfl)); intro g3 hg_ w3 hbox hb; have K3 := Aside0.mk hbox; have HW3 := Aside0.mk (below_b HW2.out hb HW2.out.size); have HG3 := Aside0.mk hg_; have L1 := Aside0.mk (pheapB J1.out hb); have L2 := Aside0.mk (pheapB K2.out hb); have M2 := Aside0.mk (pheapB K2.out hb); have y2 := zcell (pheapB K2.out hb) 0 _ rfl; have y3 := zcell K3.out 0 _ rfl; have f2 := zfree (pheapB K2.out hb) 0; have f3 := zfree K3.out 0; have n32 : ¬ g3 = g2 := (by have a := lt_of_block K2.out; have e := HG3.out; omega); have z1 := zcell L1.out 0 _ rfl; have z2 := zcell L1.out 1 _ rfl; have z3 := zcell L1.out 2 _ rfl; clear hg_ hbox hb))
  all_goals
    have HC := Aside0.mk (show w.heap.size ≤ g2 ∧ w.heap.size ≤ g3 from by
      have b := HG2.out; have d := HG3.out; have e := HW1.out.size; have f := HW2.out.size; omega)
    obtain ⟨k1, k2, k3⟩ := two_boxes (s' := ⟨#[]⟩) (b := 3) HW3.out M2.out K3.out n32 (Nat.le_refl _) HC.out.1 HC.out.2
    exact ⟨_, res_vals31 k1 k2 _ rfl rfl, rfl, k3⟩
set_option maxHeartbeats 4000000 in
set_option maxRecDepth 100000 in
theorem Print_many2.calls (x : S40) (A1 A2 A3 : Option Addr) (c1 c2 c3 : Nat) (w : World)
    (h64 : 64 < x.f0.length ∨ 64 < x.f1.length ∨ 64 < x.f2.length) (hmx : x.f0.length ≤ 9223372036854775807 ∧ x.f1.length ≤ 9223372036854775807 ∧ x.f2.length ≤ 9223372036854775807) :
    Calls Try.prog 31 #[.agg #[.slice A1 x.f0.length c1, .slice A2 x.f1.length c2, .slice A3 x.f2.length c3]] w fun e w' => e = .returned (.tuple #[.string ⟨#[]⟩, .int .i64 3]) ∧ Below w.heap.size w w' := by
  obtain ⟨n1, hn1⟩ : ∃ n, n = x.f0.length := ⟨_, rfl⟩
  obtain ⟨n2, hn2⟩ : ∃ n, n = x.f1.length := ⟨_, rfl⟩
  obtain ⟨n3, hn3⟩ : ∃ n, n = x.f2.length := ⟨_, rfl⟩
  rw [← hn1, ← hn2, ← hn3] at h64 hmx ⊢
  obtain ⟨m1, m2, m3⟩ := hmx
  clear hn1 hn2 hn3
  have hmf : ∀ (fn : Fn) (first cap : Array Value) (w : World), (Instr.makeFunc fn first cap).run Try.prog w = .ok (.func fn first cap) w := fun _ _ _ _ => rfl
  go_enter_defers Try.func31, Try.ntmps31
  go_wp2_with (first | ((with_reducible refine gate_dst (N := 1) rfl ?_); refine box_event ?hg (N := 1) ?hd (cs := #[.slice A1 n1 c1, .slice A2 n2 c2, .slice A3 n3 c3]) (t := 40) ?hr ?_; (case hd => rfl); (case hg => rfl); (case hr => first | (go_simp; done) | (go_simp; rfl)); intro g1 hg_ w1 hbox hb; have K1 := Aside0.mk hbox; have HW1 := Aside0.mk hb; have HG1 := Aside0.mk hg_; clear hg_ hbox hb) | ((with_reducible refine gate_dst (N := 2) rfl ?_); refine box_event ?hg (N := 2) ?hd (cs := #[.string ⟨#[]⟩]) (t := 9) ?hr ?_; (case hd => rfl); (case hg => rfl); (case hr => first | (go_simp; done) | (go_simp; rfl)); intro g2 hg_ w2 hbox hb; have K2 := Aside0.mk hbox; have HB2 := Aside0.mk hb; have HW2 := Aside0.mk (below_b HW1.out hb HW1.out.size); have HG2 := Aside0.mk hg_; have J1 := Aside0.mk (pheapB K1.out hb); clear hg_ hbox hb) | ((with_reducible refine gate_dst (N := 3) rfl ?_); refine box_event ?hg (N := 3) ?hd (cs := #[.int .i64 0]) (t := 24) ?hr ?_; (case hd => rfl); (case hg => rfl); (case hr => first | (go_simp; done) | (go_simp; rfl)); intro g3 hg_ w3 hbox hb; have K3 := Aside0.mk hbox; have HW3 := Aside0.mk (below_b HW2.out hb HW2.out.size); have HG3 := Aside0.mk hg_; have L1 := Aside0.mk (pheapB J1.out hb); have L2 := Aside0.mk (pheapB K2.out hb); have M2 := Aside0.mk (pheapB K2.out hb); have y2 := zcell (pheapB K2.out hb) 0 _ rfl; have y3 := zcell K3.out 0 _ rfl; have f2 := zfree (pheapB K2.out hb) 0; have f3 := zfree K3.out 0; have n32 : ¬ g3 = g2 := (by have a := lt_of_block K2.out; have e := HG3.out; omega); have z1 := zcell L1.out 0 _ rfl; have z2 := zcell L1.out 1 _ rfl; have z3 := zcell L1.out 2 _ rfl; clear hg_ hbox hb))
  all_goals
    have HC := Aside0.mk (show w.heap.size ≤ g2 ∧ w.heap.size ≤ g3 from by
      have b := HG2.out; have d := HG3.out; have e := HW1.out.size; have f := HW2.out.size; omega)
    obtain ⟨k1, k2, k3⟩ := two_boxes (s' := ⟨#[]⟩) (b := 3) HW3.out M2.out K3.out n32 (Nat.le_refl _) HC.out.1 HC.out.2
    exact ⟨_, res_vals31 k1 k2 _ rfl rfl, rfl, k3⟩
/-- What the printer answers of any schema. -/
def printC (K : Nat) (x : S40) : Int := if x.f0.length + x.f1.length + x.f2.length ≤ 64 then allC K x else 3
def printS (K : Nat) (x : S40) : ByteArray := if printC K x = 0 then txt (allL K x) else ⟨#[]⟩
theorem orC_eq0 {a b : Int} (h : orC a b = 0) : a = 0 ∧ b = 0 := by
  unfold orC at h
  by_cases ha : a = 0
  · rw [if_pos ha] at h; exact ⟨ha, h⟩
  · rw [if_neg ha] at h; exact absurd h ha
theorem listC_eq0 {α : Type} {f : α → Int} : ∀ {l : List α}, listC f l = 0 → ∀ x ∈ l, f x = 0
  | [], _, x, hx => by cases hx
  | y :: t, h, x, hx => by
    obtain ⟨h1, h2⟩ := orC_eq0 h
    rcases List.mem_cons.1 hx with rfl | hx
    · exact h1
    · exact listC_eq0 h2 x hx
theorem many0 {n : Nat} (h : manyC n = 0) : n ≤ 32 := by
  unfold manyC at h
  by_cases hn : n ≤ 32
  · exact hn
  · rw [if_neg hn] at h; exact absurd h (by decide)
theorem name0 {s : ByteArray} (h : nameC s = 0) : nameB s = true := by
  unfold nameC at h
  by_cases hn : nameB s = true
  · exact hn
  · rw [if_neg hn] at h; exact absurd h (by decide)
theorem num0 {n : Int} (h : numC n = 0) : NumOk n := by
  unfold numC at h
  by_cases hn : 0 ≤ n ∧ n ≤ 999999999
  · exact hn
  · rw [if_neg hn] at h; exact absurd h (by decide)
/-- Of a total schema: where nothing is wrong, all may be. -/
def TyTot2 (K : Nat) (t : S50) : Prop := ∃ k, parse_Shape.f K t.f0 t.f1 t.f2 = some k ∧ (k = 0 → TyG t)
def SchTot2 (K : Nat) (x : S40) : Prop := (∀ s ∈ x.f0, ∀ f ∈ s.f1, TyTot2 K f.f2) ∧ (∀ s ∈ x.f2, ∀ f ∈ s.f1, TyTot2 K f.f2 ∧ TyTot2 K f.f3)
theorem ty0 {K : Nat} {t : S50} (h : TyTot2 K t) (h0 : tyC K t = 0) : TyG t := by
  obtain ⟨k, h1, h2⟩ := h
  unfold tyC at h0
  rw [h1] at h0
  exact h2 h0
theorem ty_word60 {K : Nat} (hK : 60 ≤ K) {t : S50} (h : TyG t) : parse_word.f K t.f0 t.f1 t.f2 = parse_word.f 60 t.f0 t.f1 t.f2 := by
  obtain ⟨w, ts, h⟩ := h
  rw [ty_word h (by omega) K (by omega), ty_word h (by omega) 60 (by omega)]
theorem tot_of2 {K : Nat} (hK : 60 ≤ K) {t : S50} (h : TyTot2 K t) : TyTot K t := by
  obtain ⟨k, h1, h2⟩ := h
  refine ⟨k, h1, fun hk => ?_⟩
  obtain ⟨w, ts, ht⟩ := h2 hk
  have := ty_len ht
  exact ⟨_, ty_word ht (by omega) K (by omega), by rw [txt_size]; omega⟩
theorem sch_tot {K : Nat} (hK : 60 ≤ K) {x : S40} (h : SchTot2 K x) : SchTot K x := ⟨fun s hs f hf => tot_of2 hK (h.1 s hs f hf), fun s hs f hf => ⟨tot_of2 hK (h.2 s hs f hf).1, tot_of2 hK (h.2 s hs f hf).2⟩⟩
theorem good_of {K : Nat} {x : S40} (h : SchTot2 K x) (h64 : x.f0.length + x.f1.length + x.f2.length ≤ 64) (h0 : allC K x = 0) : SchG x := by
  obtain ⟨h1, h2⟩ := orC_eq0 h0
  obtain ⟨h2, h3⟩ := orC_eq0 h2
  obtain ⟨h3, _⟩ := orC_eq0 h3
  refine ⟨fun d hd => ?_, h64⟩
  unfold dsOf at hd
  rcases List.mem_append.1 hd with hd | hd
  · obtain ⟨s, hs, rfl⟩ := List.mem_map.1 hd
    obtain ⟨a, b⟩ := orC_eq0 (listC_eq0 h1 s hs)
    obtain ⟨b, c⟩ := orC_eq0 b
    refine ⟨name0 b, many0 a, fun f hf => ?_⟩
    obtain ⟨p, q⟩ := orC_eq0 (listC_eq0 c f hf)
    obtain ⟨q, r⟩ := orC_eq0 q
    exact ⟨name0 q, num0 p, ty0 (h.1 s hs f hf) r⟩
  · rcases List.mem_append.1 hd with hd | hd
    · obtain ⟨s, hs, rfl⟩ := List.mem_map.1 hd
      obtain ⟨a, b⟩ := orC_eq0 (listC_eq0 h2 s hs)
      obtain ⟨b, c⟩ := orC_eq0 b
      refine ⟨name0 b, many0 a, fun f hf => ?_⟩
      obtain ⟨p, q⟩ := orC_eq0 (listC_eq0 c f hf)
      exact ⟨name0 q, num0 p⟩
    · obtain ⟨s, hs, rfl⟩ := List.mem_map.1 hd
      obtain ⟨a, b⟩ := orC_eq0 (listC_eq0 h3 s hs)
      obtain ⟨b, c⟩ := orC_eq0 b
      refine ⟨name0 b, many0 a, fun f hf => ?_⟩
      obtain ⟨p, q⟩ := orC_eq0 (listC_eq0 c f hf)
      obtain ⟨q, r⟩ := orC_eq0 q
      exact ⟨name0 p, ty0 (h.2 s hs f hf).1 q, ty0 (h.2 s hs f hf).2 r⟩
theorem OKT_on {K : Nat} (hK : 60 ≤ K) {t : S50} (h : TyG t) : OKT K t := by
  obtain ⟨⟨h1, s, h2⟩, _⟩ := ty_ok h
  exact ⟨Shape_on h1 K hK, s, by rw [ty_word60 hK h]; exact h2⟩
theorem sch_okK {K : Nat} (hK : 60 ≤ K) {x : S40} (h : SchG x) : SchOk K x := by
  obtain ⟨m1, m2, m3⟩ := ds_mem x
  refine ⟨fun s hs => ?_, fun s hs => ?_, fun s hs => ?_⟩
  · obtain ⟨a, b, c⟩ := h.1 _ (m1 s hs)
    exact ⟨a, b, fun f hf => ⟨(c f hf).1, (c f hf).2.1, OKT_on hK (c f hf).2.2⟩⟩
  · obtain ⟨a, b, c⟩ := h.1 _ (m2 s hs)
    exact ⟨a, b, fun f hf => ⟨(c f hf).1, (c f hf).2⟩⟩
  · obtain ⟨a, b, c⟩ := h.1 _ (m3 s hs)
    exact ⟨a, b, fun f hf => ⟨(c f hf).1, OKT_on hK (c f hf).2.1, OKT_on hK (c f hf).2.2⟩⟩
theorem flat_congr {α : Type} {f g : α → List UInt8} : ∀ {l : List α}, (∀ x ∈ l, f x = g x) → l.flatMap f = l.flatMap g
  | [], _ => rfl
  | y :: t, h => by rw [List.flatMap_cons, List.flatMap_cons, h y List.mem_cons_self, flat_congr (fun x hx => h x (List.mem_cons_of_mem _ hx))]
theorem all_60 {K : Nat} (hK : 60 ≤ K) {x : S40} (h : SchG x) : allL K x = allL 60 x := by
  obtain ⟨m1, m2, m3⟩ := ds_mem x
  have e1 : x.f0.flatMap (structL K) = x.f0.flatMap (structL 60) := flat_congr fun s hs => by
    obtain ⟨a, b, c⟩ := h.1 _ (m1 s hs)
    unfold structL
    rw [show s.f1.flatMap (fieldL K) = s.f1.flatMap (fieldL 60) from flat_congr fun f hf => by unfold fieldL wordOf; rw [ty_word60 hK (c f hf).2.2]]
  have e3 : x.f2.flatMap (serviceL K) = x.f2.flatMap (serviceL 60) := flat_congr fun s hs => by
    obtain ⟨a, b, c⟩ := h.1 _ (m3 s hs)
    unfold serviceL
    rw [show s.f1.flatMap (methodL K) = s.f1.flatMap (methodL 60) from flat_congr fun f hf => by unfold methodL; rw [ty_word60 hK (c f hf).2.1, ty_word60 hK (c f hf).2.2]]
  unfold allL
  rw [e1, e3]
/-- Print, of any schema. -/
theorem PrintT.calls (K : Nat) (hK : 60 ≤ K) (x : S40) (A1 A2 A3 : Option Addr) (c1 c2 c3 : Nat) (w : World)
    (hx : Kd.C k47 w A1 x.f0.length x.f0 ∧ Kd.C k86 w A2 x.f1.length x.f1 ∧ Kd.C k91 w A3 x.f2.length x.f2) (hT : SchTot2 K x) :
    Calls Try.prog 31 #[.agg #[.slice A1 x.f0.length c1, .slice A2 x.f1.length c2, .slice A3 x.f2.length c3]] w fun e w' => e = .returned (.tuple #[.string (printS K x), .int .i64 (printC K x)]) ∧ Below w.heap.size w w' := by
  by_cases h64 : x.f0.length + x.f1.length + x.f2.length ≤ 64
  · have hc : printC K x = allC K x := if_pos h64
    by_cases h0 : allC K x = 0
    · have hs : printS K x = txt (allL K x) := by unfold printS; rw [hc, if_pos h0]
      rw [hs, hc, h0]
      have hg := good_of hT h64 h0
      exact Print.calls K x A1 A2 A3 c1 c2 c3 w hx (sch_okK hK hg) ⟨by omega, by omega, by omega, h64⟩ (by rw [all_60 hK hg]; have := all_len x hg; omega)
    · have hs : printS K x = ⟨#[]⟩ := by unfold printS; rw [hc, if_neg h0]
      rw [hs, hc]
      exact Print_no.calls K x A1 A2 A3 c1 c2 c3 w hx (sch_tot hK hT) ⟨by omega, by omega, by omega, h64⟩ h0
  · have hc : printC K x = 3 := if_neg h64
    have hs : printS K x = ⟨#[]⟩ := by unfold printS; rw [hc]; rfl
    rw [hs, hc]
    by_cases hle : x.f0.length ≤ 64 ∧ x.f1.length ≤ 64 ∧ x.f2.length ≤ 64
    · exact Print_many1.calls x A1 A2 A3 c1 c2 c3 w (by omega) hle ⟨by omega, by omega, by omega⟩
    · exact Print_many2.calls x A1 A2 A3 c1 c2 c3 w (by omega) ⟨hx.1.2.1, hx.2.1.2.1, hx.2.2.2.1⟩
end Go.Proofs.Ytoloneoeojoiaaa.EParseBack

