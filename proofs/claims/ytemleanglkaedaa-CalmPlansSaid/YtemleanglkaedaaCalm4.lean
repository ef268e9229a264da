/- What is planned. -/
import Derived.Test.YtemleanglkaedaaCalm3
namespace Go.Proofs.Ytemleanglkaedaa.ECalmPlans
open Go.RowKit Go.Shelf Go.Proofs.YtemleanglkaedaaW.PrintWords Go.Proofs.YtemleanglkaedaaW.PrintLast Go.Proofs.YtemleanglkaedaaW.PrintMore
set_option linter.unusedVariables false
set_option linter.unusedSimpArgs false
theorem setCells_app (g : Nat) : ∀ (a b : List Value) (o : Nat) (w : World), w.setCells g o (a ++ b) = (w.setCells g o a).setCells g (o + a.length) b
  | [], _, _, _ => rfl
  | x :: a, b, o, w => by
    show ((w.setCell ⟨g, o, none⟩ x).setCells g (o + 1) (a ++ b)) = _
    rw [setCells_app g a b (o + 1) _]
    show _ = ((w.setCell ⟨g, o, none⟩ x).setCells g (o + 1) a).setCells g (o + (a.length + 1)) b
    rw [Nat.add_comm a.length 1, ← Nat.add_assoc]
def flatE : List SE → List Value
  | [] => []
  | x :: t => cellsE x ++ flatE t
theorem flatE_length : ∀ l : List SE, (flatE l).length = l.length * 9
  | [] => rfl
  | x :: t => by
    show (cellsE x ++ flatE t).length = (t.length + 1) * 9
    rw [List.length_append, flatE_length t, show (cellsE x).length = 9 from rfl]; omega
theorem flatE_one : ∀ (l : List SE), ∀ v ∈ flatE l, v.oneCell' = true
  | [], v, h => by cases h
  | x :: t, v, h => by
    rcases List.mem_append.1 h with h | h
    · exact kE.K_one (kE_mk default x) v h
    · exact flatE_one t v h
def putL : List SE → Nat → List SE → List SE
  | ys, _, [] => ys
  | ys, k, z :: t => putL (ys.set k z) (k + 1) t
theorem putL_length : ∀ (zs ys : List SE) (k : Nat), (putL ys k zs).length = ys.length
  | [], _, _ => rfl
  | z :: t, ys, k => by
    show (putL (ys.set k z) (k + 1) t).length = _
    rw [putL_length t, List.length_set]
theorem putL_get : ∀ (zs ys : List SE) (k i : Nat), (putL ys k zs)[i]? = if k ≤ i ∧ i < k + zs.length ∧ i < ys.length then zs[i - k]? else ys[i]?
  | [], ys, k, i => by rw [if_neg (by simp; omega)]; rfl
  | z :: t, ys, k, i => by
    show (putL (ys.set k z) (k + 1) t)[i]? = _
    rw [putL_get t, List.length_set, List.length_cons]
    by_cases h1 : i < ys.length
    · by_cases h2 : i = k
      · subst h2
        rw [if_neg (by omega), if_pos (by omega)]
        simp [h1]
      · by_cases h3 : k < i ∧ i < k + (t.length + 1)
        · rw [if_pos (by omega), if_pos (by omega)]
          obtain ⟨j, hj⟩ : ∃ j, i - k = j + 1 := ⟨i - k - 1, by omega⟩
          rw [hj, show i - (k + 1) = j by omega, List.getElem?_cons_succ]
        · rw [if_neg (by omega), if_neg (by omega), List.getElem?_set_ne (by omega)]
    · rw [if_neg (by omega), if_neg (by omega), List.getElem?_eq_none (by rw [List.length_set]; omega), List.getElem?_eq_none (by omega)]
theorem R_segs {base g n cap : Nat} {ok : Nat → Prop} : ∀ (zs ys : List SE) (k : Nat) (W : World), Kd.R kE 77 W base ok (.slice (some ⟨g, 0, none⟩) n cap) ys → k + zs.length ≤ n → Kd.R kE 77 (W.setCells g (k * 9) (flatE zs)) base ok (.slice (some ⟨g, 0, none⟩) n cap) (putL ys k zs)
  | [], ys, k, W, h, _ => h
  | z :: t, ys, k, W, h, hk => by
    rw [List.length_cons] at hk
    obtain ⟨c, hcl, hM, hcc, _⟩ := Kd.R_elem h zE k (by omega) (by omega)
    have h2 := (Kd.R_seg h (k : Int) (by omega) (by omega) (seg := cellsE z) (j := 0) hcl hcc (by exact (by decide : 0 + 9 ≤ 9)) (x' := z) (okp := fun _ => False) (by
      have h9 : c.length = 9 := hcl
      have : c.take 0 ++ cellsE z ++ c.drop (0 + (cellsE z).length) = cellsE z := by
        rw [List.drop_eq_nil_of_le (by rw [h9]; exact Nat.le_refl _)]
        simp
      rw [this]
      exact kE_mkM _ _ _ z) (fun _ hk => hk.elim)).1
    rw [Int.toNat_natCast, kE_sz, Nat.add_zero] at h2
    show Kd.R kE 77 (W.setCells g (k * 9) (cellsE z ++ flatE t)) base ok _ (putL (ys.set k z) (k + 1) t)
    rw [setCells_app, show (cellsE z).length = 9 from rfl, show k * 9 + 9 = (k + 1) * 9 by omega]
    exact R_segs t (ys.set k z) (k + 1) _ h2 (by omega)
theorem C_flat {w : World} {ad : Addr} {zs : List SE} {n : Nat} (h : Kd.C kE w (some ad) n zs) : ∀ (j : Nat) (v : Value), (flatE zs)[j]? = some v → w.cell? (ad.add j) = some v := by
  rcases Nat.eq_zero_or_pos n with hn | hn
  · have : zs = [] := List.eq_nil_of_length_eq_zero (h.1.trans hn)
    subst this
    intro j v hj
    simp [flatE] at hj
  obtain ⟨ad', e, hc⟩ := h.2.2 hn
  injection e with e
  subst e
  have key : ∀ (zs : List SE) (k : Nat), (∀ j p, zs[j]? = some p → ∀ i u, (cellsE p)[i]? = some u → w.cell? (ad.add ((k + j) * 9 + i)) = some u) → ∀ (j : Nat) (v : Value), (flatE zs)[j]? = some v → w.cell? (ad.add (k * 9 + j)) = some v := by
    intro zs
    induction zs with
    | nil => intro k _ j v hj; simp [flatE] at hj
    | cons z t ih =>
      intro k hz j v hj
      have hj' : (cellsE z ++ flatE t)[j]? = some v := hj
      rcases Nat.lt_or_ge j 9 with h9 | h9
      · rw [List.getElem?_append_left (by exact h9)] at hj'
        have := hz 0 z rfl j v hj'
        rwa [Nat.add_zero] at this
      · rw [List.getElem?_append_right (by exact h9)] at hj'
        have h10 := ih (k + 1) (fun j p hp i u hu => by
          have := hz (j + 1) p (by simpa using hp) i u hu
          rwa [show k + (j + 1) = k + 1 + j by omega] at this) (j - 9) v hj'
        rwa [show (k + 1) * 9 + (j - 9) = k * 9 + j by omega] at h10
  intro j v hj
  have := key zs 0 (fun j p hp i u hu => by
    obtain ⟨c, h1, h2, h3⟩ := hc j p hp
    have := kE_open h2
    subst this
    rw [Nat.zero_add]
    exact h3 i u hu) j v hj
  rwa [Nat.zero_mul, Nat.zero_add] at this
set_option maxRecDepth 100000 in
theorem copyE_run {W : World} {base g n cap k dn dc sn sc : Nat} {ok : Nat → Prop} {ad : Addr} {ys zs : List SE} {ty : TypeId} (HO : Kd.R kE 77 W base ok (.slice (some ⟨g, 0, none⟩) n cap) ys) (hk : k + zs.length ≤ n) (hC : Kd.C kE W (some ad) zs.length zs) (hz : zs.length = Nat.min sn dn) :
    (Builtin.copy_ #[71, 71] ty #[.slice (some ⟨g, k * 9, none⟩) dn dc, .slice (some ad) sn sc]).run Try.prog W = .ok (goInt zs.length) (W.setCells g (k * 9) (flatE zs)) := by
  obtain ⟨hn0, hnc, _⟩ := Kd.R_reads' HO
  obtain ⟨_, inner, hown, hr⟩ := HO
  rcases hown.2 with ⟨hv, _⟩ | ⟨g', cap', cur, hv, hb, hh, hnc', hcm, hcs, _⟩
  · cases hv
  injection hv with ha _ hc
  injection ha with ha
  injection ha with hg'
  subst hg'; subst hc
  have hlen : (flatE zs).length = zs.length * 9 := flatE_length zs
  have hl := run_loadCells_list (P := Try.prog) W ad (flatE zs) (C_flat hC)
  have hst := run_storeCells_cells (P := Try.prog) g (k * 9) (flatE zs) 0 W (fun j hj => by rw [cell_of_row W g _ cur 77 (0, 0) hh]; simp at hj ⊢; rw [hcs, kE_sz]; omega) (fun j _ => blk_frozen hh _) (flatE_one zs)
  simp only [Nat.add_zero] at hst
  obtain ⟨i0, hi, hzz⟩ := Option.map_eq_some_iff.1 info77
  simp only [Prod.mk.injEq] at hzz
  rw [hlen] at hl
  simp [Builtin.copy_, run_underlying Try.underlying71, Builtin.lenOf, Builtin.firstCells, sizeOf, typeInfo, hi, hzz.2.1, ← hz, hl, hst]
section
variable {ops : Array Oper} {rest : List Oper} {o : Oper} {a : Act} {Q : Exit → Act → World → Prop} {K : Act → World → Prop} {E : Prop}
theorem wp_copyE {W : World} (d s : Operand) (ho : o.op = .call { callee := .builtin .copy, args := #[d, s], argTypes := #[71, 71] }) {base g n cap k o' dn dc sn sc : Nat} {ok : Nat → Prop} {ad : Addr} {ys zs : List SE} (hd : a.eval d = .slice (some ⟨g, o', none⟩) dn dc) (hs : a.eval s = .slice (some ad) sn sc) (hoff : o' = k * 9)
    (HO : Kd.R kE 77 W base ok (.slice (some ⟨g, 0, none⟩) n cap) ys) (hk : k + zs.length ≤ n) (hC : Kd.C kE W (some ad) zs.length zs) (hz : zs.length = Nat.min sn dn)
    (h : ∀ w1, Kd.R kE 77 w1 base ok (.slice (some ⟨g, 0, none⟩) n cap) (putL ys k zs) → Ch (fun k => k = g) W w1 → K (a.put o.dst (.int .i64 zs.length)) w1) : Oper.wp Try.prog o a W K Q := by
  subst hoff
  have hrun := copyE_run (ty := o.type) (dc := dc) (sc := sc) HO hk hC hz
  unfold Oper.wp execOp
  simp only [ho, resolve, invoke, builtin, Sem.run_bind, Sem.run_pure, Result.andThen_ok, List.map_toArray, List.map_cons, List.map_nil, hd, hs, hrun]
  exact h _ (R_segs zs ys k W HO hk) (ch_setCells W g (k * 9) _)
theorem copy_E {W : World} (hgd : o.guard = none) (d s : Operand) (ho : o.op = .call { callee := .builtin .copy, args := #[d, s], argTypes := #[71, 71] }) {base g n cap k o' dn dc sn sc : Nat} {ok : Nat → Prop} {ad : Addr} {ys zs : List SE} (hd : a.eval d = .slice (some ⟨g, o', none⟩) dn dc) (hs : a.eval s = .slice (some ad) sn sc) (hoff : o' = k * 9)
    (HO : Kd.R kE 77 W base ok (.slice (some ⟨g, 0, none⟩) n cap) ys) (hk : k + zs.length ≤ n) (hC : Kd.C kE W (some ad) zs.length zs) (hz : zs.length = Nat.min sn dn)
    (h : ∀ w1, Kd.R kE 77 w1 base ok (.slice (some ⟨g, 0, none⟩) n cap) (putL ys k zs) → Ch (fun k => k = g) W w1 → wpList Try.prog ops Q rest (a.put o.dst (.int .i64 zs.length)) w1) : wpList Try.prog ops Q (o :: rest) a W :=
  wpList_plain hgd fun K hK => wp_copyE d s ho hd hs hoff HO hk hC hz (fun w1 hr hc => hK _ _ (h w1 hr hc))
theorem step_copyE {W : World} (hgd : o.guard = none) (d s : Operand) (ho : o.op = .call { callee := .builtin .copy, args := #[d, s], argTypes := #[71, 71] }) {base g n cap k o' dn dc sn sc : Nat} {ok : Nat → Prop} {ad : Addr} {ys zs : List SE} (hd : a.eval d = .slice (some ⟨g, o', none⟩) dn dc) (hs : a.eval s = .slice (some ad) sn sc) (hoff : o' = k * 9)
    (HO : Kd.R kE 77 W base ok (.slice (some ⟨g, 0, none⟩) n cap) ys) (hk : k + zs.length ≤ n) (hC : Kd.C kE W (some ad) zs.length zs) (hz : zs.length = Nat.min sn dn)
    (h : ∀ w1, Kd.R kE 77 w1 base ok (.slice (some ⟨g, 0, none⟩) n cap) (putL ys k zs) → Ch (fun k => k = g) W w1 → K (a.put o.dst (.int .i64 zs.length)) w1) : if Region.wanted o (yielded ops a.tmps) = true then Oper.wp Try.prog o a W K Q else E := by
  have hw : Region.wanted o (yielded ops a.tmps) = true := by simp [Region.wanted, hgd]
  rw [if_pos hw]
  exact wp_copyE d s ho hd hs hoff HO hk hC hz h
end
theorem mul_one (n : Int) (h0 : 0 ≤ n) (h1 : n ≤ 64) : bits_Mul.f 1 n = some (0, n) := by
  have h : ∀ m : Fin 65, bits_Mul.f 1 (m.val : Int) = some (0, (m.val : Int)) := by decide +kernel
  have := h ⟨n.toNat, by omega⟩
  rwa [show (((⟨n.toNat, by omega⟩ : Fin 65).val : Nat) : Int) = n from by show ((n.toNat : Nat) : Int) = n; omega] at this
/-- The first k are d. -/
def FirstD (d : SE) (ys : List SE) (k : Nat) : Prop := ∀ i, i < k → ys[i]? = some d
theorem FirstD.put {d : SE} {ys zs : List SE} {k : Nat} (h : FirstD d ys k) (hz : ∀ i, i < zs.length → zs[i]? = some d) (hl : k + zs.length ≤ ys.length) : FirstD d (putL ys k zs) (k + zs.length) := by
  intro i hi
  rw [putL_get]
  by_cases h1 : k ≤ i
  · rw [if_pos ⟨h1, hi, by omega⟩]
    exact hz _ (by omega)
  · rw [if_neg (by omega)]
    exact h i (by omega)
theorem FirstD.all {d : SE} {ys : List SE} {n : Nat} (h : FirstD d ys n) (hl : ys.length = n) : ys = List.replicate n d := by
  apply List.ext_getElem?
  intro i
  by_cases hi : i < n
  · rw [h i hi]; simp [hi]
  · rw [List.getElem?_eq_none (by omega), List.getElem?_eq_none (by simp; omega)]
theorem drop_at (g c m : Nat) (h : ¬ c = m) : dropA (some ⟨g, 0, none⟩) c m = some ⟨g, m * 9, none⟩ := by
  unfold dropA
  rw [if_neg h]
  show some ((⟨g, 0, none⟩ : Addr).add (m * 9)) = _
  rw [Addr.add_mid, Nat.zero_add]
theorem FirstD.one (d : SE) (ys : List SE) (h : 0 < ys.length) : FirstD d (putL ys 0 [d]) 1 := by
  have h1 : FirstD d ys 0 := fun i hi => absurd hi (Nat.not_lt_zero i)
  refine FirstD.put h1 (zs := [d]) (fun i hi => ?_) (by show 0 + 1 ≤ ys.length; omega)
  have : i = 0 := by simp at hi; omega
  subst this
  rfl
theorem FirstD.dbl {d : SE} {ys : List SE} {k j : Nat} (h : FirstD d ys k) (hj : j ≤ k) (hl : k + j ≤ ys.length) : FirstD d (putL ys k (ys.take j)) (k + j) := by
  have hlen : (ys.take j).length = j := by rw [List.length_take]; omega
  have := FirstD.put h (zs := ys.take j) (fun i hi => by rw [List.getElem?_take_of_lt (by omega)]; exact h i (by omega)) (by omega)
  rwa [hlen] at this
set_option maxHeartbeats 1000000 in
set_option maxRecDepth 100000 in
theorem repeat_.calls (ad : Addr) (c : Nat) (d : SE) (n : Int) (w : World) (hr : Kd.C kE w (some ad) [d].length [d]) (hc : 1 ≤ c) (h0 : 1 ≤ n) (h1 : n ≤ 64) :
    Calls Try.prog 58 #[.slice (some ad) 1 c, .int .i64 n] w fun e w' => (∃ v, e = .returned v ∧ Kd.R kE 77 w' w.heap.size (fun _ => True) v (List.replicate n.toNat d)) ∧ Below w.heap.size w w' := by
  have HR := Aside0.mk hr
  clear hr
  go_enter Try.func58, Try.ntmps58
  go_wp2_with (first | (go_at_call 77; refine (bits_Mul.calls 1 n 0 n _ (mul_one n (by omega) h1)).mono ?_; rintro e w1 ⟨rfl, hb⟩; have HB1 := Aside0.mk hb.below; clear hb) | ((with_reducible refine gate_dst (N := 30) rfl ?_); refine Kd.R_make kE (w0 := w) w.heap.size 77 rfl (N := 30) rfl 71 (.tmp 29) (.tmp 29) rfl n rfl rfl Try.underlying71 (.agg #[(.int .i64 0), (.int .i64 0), (.int .i64 0), (.int .i64 0), (.int .i64 0), (.int .i64 0), (.int .i64 0), (.int .i64 0), (.slice none 0 0)]) 88 info77 rfl (by decide) (by omega) zE (ok := fun _ => True) (okp := fun _ => False) (kE_mkM _ _ _ zE) (fun _ h => h.elim) trivial (by omega) (by omega) HB1.out HB1.out.size ?_; intro v2 w2 hr hb hg hx; obtain ⟨g2, cap2, hv2, hbg, hgl, _⟩ := Kd.R_form hr (by rw [List.length_replicate]; omega); rw [List.length_replicate] at hv2; subst hv2; have HR2 := Aside0.mk hr; have HB2 := Aside0.mk hb; have HBG := Aside0.mk hbg; clear hr hb hg hx hbg hgl) | ((with_reducible refine gate_ (.call { callee := .builtin .copy, args := #[.tmp 31, .tmp 32], argTypes := #[71, 71] }) rfl ?_); refine Aside0.out (?_ : Aside0 _)))
  refine ⟨?_⟩
  refine copy_E rfl (.tmp 31) (.tmp 32) rfl (k := 0) (zs := [d]) rfl rfl rfl HR2.out ?h1 (Kd.C_below HR.out HB2.out) ?h2 ?_
  case h1 => show 0 + 1 ≤ n.toNat; omega
  case h2 => show 1 = min 1 n.toNat; omega
  intro w3 hr hch
  have HR3 := Aside0.mk hr
  have HB3 := Aside0.mk (below_ch HB2.out hch HB2.out.size (fun k e => by rw [e]; exact HBG.out))
  have HF3 : Aside0 (FirstD d (putL (List.replicate n.toNat zE) 0 [d]) 1) := ⟨FirstD.one d _ (by rw [List.length_replicate]; omega)⟩
  have HL3 : Aside0 ((putL (List.replicate n.toNat zE) 0 [d]).length = n.toNat) := ⟨by rw [putL_length, List.length_replicate]⟩
  clear hr hch HR2 HB2 HB1 HR
  go_wp2_with fail
  go_loopw [8] (fun v8 W => ∃ (k : Int) (ys : List SE), 1 ≤ k ∧ k ≤ n ∧ v8 = .int .i64 k ∧ Aside0 (FirstD d ys k.toNat) ∧ Aside0 (ys.length = n.toNat) ∧ Aside0 (Kd.R kE 77 W w.heap.size (fun _ => True) (.slice (some ⟨g2, 0, none⟩) n.toNat cap2) ys) ∧ Aside0 (Below w.heap.size w W)) (fun v _ => (n - intOf v).toNat)
  case atStart => exact ⟨1, _, by omega, by omega, rfl, HF3, HL3, HR3, HB3⟩
  case round =>
    clear HF3 HL3 HR3 HB3
    obtain ⟨k, ys, k0, k1, rfl, HF, HL, HR, HB⟩ := hrel
    obtain ⟨hn0, hcap, hC⟩ := Kd.R_reads' HR.out
    by_cases hlt : k < n
    · have hcut1 := cutE (some ⟨g2, 0, none⟩) n.toNat cap2 k (by omega) (by omega) hcap
      have hd : decide (k < ((n.toNat : Nat) : Int)) = true := decide_eq_true (by omega)
      obtain ⟨j, hj, hj1, hj2, hj3⟩ : ∃ j, j = Nat.min k.toNat (n.toNat - k.toNat) ∧ 1 ≤ j ∧ j ≤ k.toNat ∧ j ≤ n.toNat - k.toNat := by
        refine ⟨_, rfl, ?_, ?_, ?_⟩
        · show 1 ≤ min k.toNat (n.toNat - k.toNat); omega
        · show min k.toNat (n.toNat - k.toNat) ≤ k.toNat; omega
        · show min k.toNat (n.toNat - k.toNat) ≤ n.toNat - k.toNat; omega
      have hjl : (ys.take j).length = j := by rw [List.length_take]; omega
      have HJL := Aside0.mk (hjl.trans hj)
      have HJ1 : Aside0 (k.toNat + (ys.take j).length ≤ n.toNat) := ⟨by omega⟩
      have HC := Aside0.mk (Kd.C_take hC (m := j) (by omega))
      have HFD := Aside0.mk (FirstD.dbl HF.out (j := j) hj2 (by rw [HL.out]; omega))
      have HJI := Aside0.mk hjl
      have HW : Aside0 (IntKind.i64.wrap (k + (j : Int)) = k + j) := ⟨wrap_small _ (by omega) (by omega)⟩
      have hb1 : k ≤ ((n.toNat : Nat) : Int) := by omega
      have hne : ¬ cap2 = k.toNat := by omega
      have hb2 : k ≤ (cap2 : Int) := by omega
      have hb3 : 0 ≤ k := by omega
      rw [drop_at g2 cap2 k.toNat hne] at hcut1
      clear hj hjl hC hn0
      go_wp2_with fail
      go_region_law (refine step_copyE rfl (.tmp 41) (.tmp 44) rfl (g := g2) (n := n.toNat) (cap := cap2) (k := k.toNat) (o' := k.toNat * 9) (dn := n.toNat - k.toNat) (dc := cap2 - k.toNat) (sn := k.toNat) (sc := cap2) (ad := ⟨g2, 0, none⟩) (ys := ys) (zs := ys.take j) ?hd ?hs rfl (Kd.R_below HR.out (below_drew (Below.refl _ _))) HJ1.out (Kd.C_below HC.out (below_drew (Below.refl _ _))) HJL.out ?_; (case hd => first | (go_simp; done) | (go_simp; rfl)); (case hs => first | (go_simp; done) | (go_simp; rfl)); intro w5 hr5 hc5; have HR5 := Aside0.mk hr5; have HC5 := Aside0.mk hc5; rw [HJI.out]; clear hr5 hc5)
      all_goals
        go_wp2_with fail
        refine ⟨?_, ?m⟩
        · repeat apply Exists.intro
          refine ⟨⟨k + j, _, by omega, by omega, by rw [HW.out], ⟨?_⟩, ⟨?_⟩, HR5, ⟨?_⟩⟩, rfl⟩
          · rw [show (k + (j : Int)).toNat = k.toNat + j by omega]; exact HFD.out
          · rw [putL_length]; exact HL.out
          · exact below_ch (below_drew HB.out) HC5.out HB.out.size (fun k e => by rw [e]; exact HBG.out)
        · show (n - intOf (.int .i64 (IntKind.i64.wrap (k + (j : Int))))).toNat < _
          rw [HW.out]; simp [intOf]; omega
    · have hkn : k.toNat = n.toNat := by omega
      have hd : decide (k < ((n.toNat : Nat) : Int)) = false := decide_eq_false (by omega)
      have hys := FirstD.all HF.out (by rw [HL.out, hkn])
      rw [hkn] at hys
      have HY := Aside0.mk hys
      clear hys hC hn0
      go_wp2_with fail
      go_ret
      refine ⟨⟨_, rfl, ?_⟩, HB.out⟩
      rw [← HY.out]
      exact HR.out
theorem appT_run (ty : TypeId) (s x : Value) (W : World) : (Builtin.append_ #[71, 119] ty #[s, x]).run Try.prog W = (Builtin.append_ #[71, 71] ty #[s, x]).run Try.prog W := by
  cases s with
  | slice base n c =>
    obtain ⟨i0, hi, hzz⟩ := Option.map_eq_some_iff.1 info77
    simp [Builtin.append_, run_underlying Try.underlying71, run_underlying Try.underlying119, sizeOf, typeInfo, hi]
  | _ => simp [Builtin.append_, run_underlying Try.underlying71, run_underlying Try.underlying119]
section
variable {ops : Array Oper} {rest : List Oper} {o : Oper} {a : Act} {Q : Exit → Act → World → Prop} {K : Act → World → Prop} {E : Prop}
set_option maxRecDepth 100000 in
theorem wp_appE (ops : Array Oper) {w0 W : World} (hgd : o.guard = none) (s x : Operand) (t2 : TypeId) (ht2 : t2 = 71 ∨ t2 = 119) (ho : o.op = .call { callee := .builtin .append, args := #[s, x], argTypes := #[71, t2] }) (base : Nat)
    (v : Value) (xs ys : List SE) (A : Option Addr) (m c : Nat) (hs : a.eval s = v) (hx : a.eval x = .slice A m c)
    (HO : Kd.R kE 77 W base (fun _ => True) v xs) (HR : Kd.C kE W A m ys) (HB : Below base w0 W) (hbase : base ≤ W.heap.size) (hl : xs.length + m ≤ 10000)
    (h : ∀ v1 w1, Kd.R kE 77 w1 base (fun _ => True) v1 (xs ++ ys) → Below base w0 w1 → K (a.put o.dst v1) w1) : Oper.wp Try.prog o a W K Q := by
  let o' : Oper := { o with op := .call { callee := .builtin .append, args := #[s, x], argTypes := #[71, 71] } }
  have hw : Region.wanted o' (yielded ops a.tmps) = true := by simp [Region.wanted, o', hgd]
  have h2 := Kd.R_append_rows_step (P := Try.prog) (ops := ops) (o := o') (a := a) (Q := Q) (Kc := K) kE (w0 := w0) (W := W) base hw s x 71 77 (.agg #[(.int .i64 0), (.int .i64 0), (.int .i64 0), (.int .i64 0), (.int .i64 0), (.int .i64 0), (.int .i64 0), (.int .i64 0), (.slice none 0 0)]) 88 rfl Try.underlying71 info77 rfl (by decide) (by omega) v xs ys A m c (fun _ => True) (fun _ => False) hs hx HO HR (fun x cs h => by
    have := kE_open h
    subst this
    exact kE_mkM _ _ _ x) (fun _ h => h.elim) (fun _ _ => trivial) HB hbase (by omega) (fun v1 w1 h1 h2 _ _ => h v1 w1 h1 h2)
  rw [if_pos hw] at h2
  rcases ht2 with rfl | rfl
  · have e : o' = o := by
      show ({ o with op := .call { callee := .builtin .append, args := #[s, x], argTypes := #[71, 71] } } : Oper) = o
      rw [← ho]
    rw [e] at h2
    exact h2
  · unfold Oper.wp execOp at h2 ⊢
    have ho' : o'.op = .call { callee := .builtin .append, args := #[s, x], argTypes := #[71, 71] } := rfl
    simp only [ho, ho', resolve, invoke, builtin, Sem.run_bind, Sem.run_pure, Result.andThen_ok, List.map_toArray, List.map_cons, List.map_nil, appT_run] at h2 ⊢
    exact h2
theorem append_E {w0 W : World} (hgd : o.guard = none) (s x : Operand) (t2 : TypeId) (ht2 : t2 = 71 ∨ t2 = 119) (ho : o.op = .call { callee := .builtin .append, args := #[s, x], argTypes := #[71, t2] }) (base : Nat)
    (v : Value) (xs ys : List SE) (A : Option Addr) (m c : Nat) (hs : a.eval s = v) (hx : a.eval x = .slice A m c)
    (HO : Kd.R kE 77 W base (fun _ => True) v xs) (HR : Kd.C kE W A m ys) (HB : Below base w0 W) (hbase : base ≤ W.heap.size) (hl : xs.length + m ≤ 10000)
    (h : ∀ v1 w1, Kd.R kE 77 w1 base (fun _ => True) v1 (xs ++ ys) → Below base w0 w1 → wpList Try.prog ops Q rest (a.put o.dst v1) w1) : wpList Try.prog ops Q (o :: rest) a W :=
  wpList_plain hgd fun K hK => wp_appE ops hgd s x t2 ht2 ho base v xs ys A m c hs hx HO HR HB hbase hl (fun v1 w1 h1 h2 => hK _ _ (h v1 w1 h1 h2))
theorem step_appE {w0 W : World} (hgd : o.guard = none) (s x : Operand) (t2 : TypeId) (ht2 : t2 = 71 ∨ t2 = 119) (ho : o.op = .call { callee := .builtin .append, args := #[s, x], argTypes := #[71, t2] }) (base : Nat)
    (v : Value) (xs ys : List SE) (A : Option Addr) (m c : Nat) (hs : a.eval s = v) (hx : a.eval x = .slice A m c)
    (HO : Kd.R kE 77 W base (fun _ => True) v xs) (HR : Kd.C kE W A m ys) (HB : Below base w0 W) (hbase : base ≤ W.heap.size) (hl : xs.length + m ≤ 10000)
    (h : ∀ v1 w1, Kd.R kE 77 w1 base (fun _ => True) v1 (xs ++ ys) → Below base w0 w1 → K (a.put o.dst v1) w1) : if Region.wanted o (yielded ops a.tmps) = true then Oper.wp Try.prog o a W K Q else E := by
  have hw : Region.wanted o (yielded ops a.tmps) = true := by simp [Region.wanted, hgd]
  rw [if_pos hw]
  exact wp_appE ops hgd s x t2 ht2 ho base v xs ys A m c hs hx HO HR HB hbase hl h
end
attribute [local go_sem] max2_int min2_int max_two min_two max_three min_three
/-- What is planned, as it is read. -/
def planT (cl be : Int) (D : Nat) : Nat → List T3 → List T3
  | 0, l => l
  | n + 1, l => ticksT cl be ++ (l.take 1 ++ (List.replicate D (2, 0, 0) ++ planT cl be D n (l.drop 1)))
theorem planT_len (cl be : Int) (D : Nat) : ∀ (n : Nat) (l : List T3), (planT cl be D n l).length = n * ((ticksT cl be).length + D) + l.length
  | 0, l => by simp [planT]
  | n + 1, l => by
    show (ticksT cl be ++ (l.take 1 ++ (List.replicate D (2, 0, 0) ++ planT cl be D n (l.drop 1)))).length = _
    simp only [List.length_append, List.length_replicate, planT_len cl be D n, List.length_take, List.length_drop]
    rw [Nat.succ_mul]
    omega
theorem tkT_len (k : Int) : ∀ (d : Nat) (i : Int), (tkT k i d).length = d
  | 0, _ => rfl
  | d + 1, i => by show (tkT k (i + 1) d).length + 1 = _; rw [tkT_len k d]
theorem ticksT_len (cl be : Int) : (ticksT cl be).length = cl.toNat + be.toNat := by unfold ticksT; rw [List.length_append, tkT_len, tkT_len]
theorem cutTo (A : Option Addr) (n c : Nat) (j : Int) (h0 : 0 ≤ j) (hm : j ≤ n) (hc : n ≤ c) : ∀ W : World, (Instr.slice 71 (.slice A n c) none (some (.int .i64 j)) none).run Try.prog W = .ok (.slice A j.toNat c) W := by
  obtain ⟨i0, hi, hzz⟩ := Option.map_eq_some_iff.1 info77
  exact cut_to 71 77 .i64 Try.underlying71 hi A n c j h0 hm hc
def dE : SE := ⟨2, 0, 0, 0, 0, 0, 0, 0, (none, 0, 0)⟩
theorem C_newE (W : World) (d : SE) : Kd.C kE (W.alloc (.cells (cellsE d).toArray 77)) (some ⟨W.heap.size, 0, none⟩) [d].length [d] := by
  refine ⟨rfl, (by show 1 ≤ 9223372036854775807; omega), fun _ => ⟨_, rfl, fun j p hj => ?_⟩⟩
  have hj0 : j = 0 := by
    have := (List.getElem?_eq_some_iff.1 hj).1
    simp at this; omega
  subst hj0
  have : p = d := by simpa using hj.symm
  subst this
  refine ⟨_, rfl, kE_mk _ _, fun i u hu => ?_⟩
  rw [Addr.add_mid]
  exact zcell (heap_alloc_new W _) _ u (by rw [Nat.zero_mul, Nat.zero_add, Nat.zero_add]; simpa using hu)
theorem tkT_no (k : Int) (hk : k ≠ 1) : ∀ (d : Nat) (i : Int), ∀ x ∈ tkT k i d, x.1 ≠ 1
  | 0, _, x, h => by cases h
  | d + 1, i, x, h => by
    rcases List.mem_cons.1 h with rfl | h
    · exact hk
    · exact tkT_no k hk d (i + 1) x h
theorem ticks_no {cl be : Int} {m : List SE} (h : m.map pE = ticksT cl be) : m.filter issB = [] := by
  rw [List.filter_eq_nil_iff]
  intro x hx
  have h1 : pE x ∈ ticksT cl be := by rw [← h]; exact List.mem_map_of_mem hx
  have h2 : (pE x).1 ≠ 1 := by
    rcases List.mem_append.1 h1 with h1 | h1
    · exact tkT_no 5 (by decide) _ _ _ h1
    · exact tkT_no 6 (by decide) _ _ _ h1
  unfold issB
  have h3 : x.f0 ≠ 1 := h2
  simp [h3]
theorem dE_no (n : Nat) : (List.replicate n dE).filter issB = [] := by
  rw [List.filter_eq_nil_iff]
  intro x hx
  rw [List.eq_of_mem_replicate hx]
  decide
theorem plan_step {cl be N i : Int} {D : Nat} {P : List T3} {l outs left m : List SE} (hi : i < N) (hP : outs.map pE ++ planT cl be D (N - i).toNat (left.map pE) = P) (ho : outs.filter issB ++ left = l) (hm : m.map pE = ticksT cl be) (hall : l.any nisB = false) :
    (((outs ++ m) ++ left.take 1) ++ List.replicate D dE).map pE ++ planT cl be D (N - (i + 1)).toNat ((left.drop 1).map pE) = P ∧ (((outs ++ m) ++ left.take 1) ++ List.replicate D dE).filter issB ++ left.drop 1 = l := by
  constructor
  · rw [← hP, show (N - i).toNat = (N - (i + 1)).toNat + 1 by omega]
    show _ = outs.map pE ++ (ticksT cl be ++ ((left.map pE).take 1 ++ (List.replicate D (2, 0, 0) ++ planT cl be D (N - (i + 1)).toNat ((left.map pE).drop 1))))
    have e : (List.replicate D dE).map pE = List.replicate D (2, 0, 0) := by rw [List.map_replicate]; rfl
    simp only [List.map_append, List.append_assoc, hm, e, List.map_take, List.map_drop]
  · have h1 : (left.take 1).filter issB = left.take 1 := List.filter_eq_self.2 fun x hx => by
      have hl : x ∈ l := by rw [← ho]; exact List.mem_append.2 (.inr (List.mem_of_mem_take hx))
      have := List.any_eq_false.1 hall x hl
      unfold nisB at this
      unfold issB
      simpa using this
    simp only [List.filter_append, ticks_no hm, dE_no, h1, List.append_nil, List.append_assoc, List.take_append_drop]
    exact ho
set_option maxHeartbeats 4000000 in
set_option maxRecDepth 100000 in
theorem plan.calls (cl be sd D N : Int) (A : Option Addr) (c : Nat) (l : List SE) (w : World) (hr : Kd.C kE w A l.length l) (hc : l.length ≤ c) (hl : l.length ≤ 100) (h0 : 1 ≤ cl) (h1 : cl ≤ 8) (h2 : 1 ≤ be) (h3 : be ≤ 10) (d0 : 1 ≤ D) (d1 : D ≤ 64) (n0 : 0 ≤ N) (n1 : N ≤ 64) (hn : l.any nisB = false) (htot : N.toNat * ((ticksT cl be).length + D.toNat) + l.length ≤ 512) :
    Calls Try.prog 26 #[.agg #[.int .i64 cl, .int .i64 be, .int .u64 sd, .int .i64 3, .bool false, .int .i64 4, .int .i64 2, .int .i64 6, .int .i64 1, .int .i64 3, .int .i64 800, .int .i64 5, .int .i64 4, .int .i64 16, .int .i64 50, .int .i64 40, .int .i64 200, .int .i64 50, .int .i64 2, .int .i64 5, .int .i64 3, .int .i64 1, .int .i64 5, .int .i64 900, .int .i64 2, .int .i64 1, .int .i64 4, .int .i64 500, .int .i64 4, .int .i64 4, .int .i64 30, .int .i64 8], .int .i64 D, .int .i64 N, .slice A l.length c] w fun e w' => (∃ v, ∃ out : List SE, e = .returned (.tuple #[v, .int .i64 0]) ∧ Kd.R kE 77 w' w.heap.size (fun _ => True) v out ∧ out.map pE = planT cl be D.toNat N.toNat (l.map pE) ∧ out.filter issB = l) ∧ Below w.heap.size w w' := by
  have HR := Aside0.mk hr
  have HN := Aside0.mk hn
  have hlen : l.length ≤ 9223372036854775807 := hr.2.1
  clear hr hn
  obtain ⟨P, hP⟩ : ∃ P, P = planT cl be D.toNat N.toNat (l.map pE) := ⟨_, rfl⟩
  have hPl : P.length ≤ 512 := by rw [hP, planT_len, List.length_map]; exact htot
  have HP0 : Aside0 (([] : List SE).map pE ++ planT cl be D.toNat (N - 0).toNat (l.map pE) = P) := ⟨by rw [hP, Int.sub_zero]; rfl⟩
  have HPL := Aside0.mk hPl
  rw [← hP]
  clear hP hPl htot
  go_enter Try.func26, Try.ntmps26
  go_wp2_with (first | ((with_reducible refine gate_dst (N := 4) rfl ?_); refine box_event ?hg (N := 4) ?hd (cs := #[.int .i64 cl, .int .i64 be, .int .u64 sd, .int .i64 3, .bool false, .int .i64 4, .int .i64 2, .int .i64 6, .int .i64 1, .int .i64 3, .int .i64 800, .int .i64 5, .int .i64 4, .int .i64 16, .int .i64 50, .int .i64 40, .int .i64 200, .int .i64 50, .int .i64 2, .int .i64 5, .int .i64 3, .int .i64 1, .int .i64 5, .int .i64 900, .int .i64 2, .int .i64 1, .int .i64 4, .int .i64 500, .int .i64 4, .int .i64 4, .int .i64 30, .int .i64 8]) (t := 69) ?hr ?_; (case hd => rfl); (case hg => rfl); (case hr => first | (go_simp; done) | (go_simp; rfl)); intro gb hg w0 hbox hb; have HB0 := Aside0.mk hb; have BK0 := Aside0.mk hbox; clear hb hbox hg) | ((with_reducible refine gate_dst (N := 14) rfl ?_); refine load_mid_w ?hw 69 _ rfl gb 0 rfl [.int .i64 cl, .int .i64 be, .int .u64 sd, .int .i64 3, .bool false, .int .i64 4, .int .i64 2, .int .i64 6, .int .i64 1, .int .i64 3, .int .i64 800, .int .i64 5, .int .i64 4, .int .i64 16, .int .i64 50, .int .i64 40, .int .i64 200, .int .i64 50, .int .i64 2, .int .i64 5, .int .i64 3, .int .i64 1, .int .i64 5, .int .i64 900, .int .i64 2, .int .i64 1, .int .i64 4, .int .i64 500, .int .i64 4, .int .i64 4, .int .i64 30, .int .i64 8] _ (range_of BK0.out (by rfl)) Try.underlying69 rfl (by kernel_rfl) ?_; (case hw => first | rfl | (go_simp; done) | (go_simp; rfl))) | (go_at_call 53; refine (worldCheck.calls cl be sd (by omega) (by omega) (by omega) (by omega) _).mono ?_; rintro e w1 ⟨rfl, hb⟩; have HB1 := Aside0.mk (below_b HB0.out hb HB0.out.size); have BK1 := Aside0.mk ((Ch.of_below hb (fun _ => False)).heap BK0.out (fun h => h)); clear hb) | (go_at_call 54; refine (nis_any.calls A c l _ (Kd.C_below HR.out HB1.out) hc).mono ?_; rintro e w2 ⟨rfl, hb⟩; rw [HN.out]; have HB2 := Aside0.mk (below_b HB1.out hb HB1.out.size); have BK2 := Aside0.mk ((Ch.of_below hb (fun _ => False)).heap BK1.out (fun h => h)); clear hb) | (go_at_call 56; refine (cloneE.calls A c l _ (Kd.C_below HR.out HB2.out) hc (by omega)).mono ?_; rintro e w3 ⟨⟨v1, rfl, hR⟩, hb⟩; obtain ⟨A1, c1, rfl⟩ := Kd.R_slice hR; have HB3 := Aside0.mk (below_b HB2.out hb HB2.out.size); have BK3 := Aside0.mk ((Ch.of_below hb (fun _ => False)).heap BK2.out (fun h => h)); have HC3 := Aside0.mk (Kd.R_reads' hR).2.2; have HCP := Aside0.mk (Kd.R_reads' hR).2.1; clear hb hR))
  have HRN := Aside0.mk (Kd.R_nil kE 77 w3 w3.heap.size (fun _ => True))
  go_loopw [11, 12, 13, 41] (fun v11 v12 v13 v41 W => ∃ (i : Int) (outs left : List SE) (A2 : Option Addr) (c2 : Nat), 0 ≤ i ∧ i ≤ N ∧ v12 = .slice A2 left.length c2 ∧ v41 = .int .i64 i ∧ Aside0 (left.length ≤ c2) ∧ Aside0 (Kd.C kE w3 A2 left.length left) ∧ Aside0 (outs.map pE ++ planT cl be D.toNat (N - i).toNat (left.map pE) = P) ∧ Aside0 (outs.filter issB ++ left = l) ∧ Aside0 (Kd.R kE 77 W w3.heap.size (fun _ => True) v11 outs) ∧ Aside0 (Below w3.heap.size w3 W)) (fun _ _ _ v _ => (N - intOf v).toNat)
  case atStart => exact ⟨0, [], l, A1, c1, by omega, by omega, rfl, rfl, HCP, HC3, HP0, ⟨rfl⟩, HRN, ⟨Below.refl _ _⟩⟩
  case round =>
    clear HB0 HB1 HB2 BK0 BK1 BK2 HCP HC3 HRN HP0 HR
    obtain ⟨i, outs, left, A2, c2, i0, i1, rfl, rfl, HCP, HC, HP, HO2, HR, HB⟩ := hrel
    have HO : Aside0 (outs.length ≤ 512 ∧ left.length ≤ 512) := by
      have h := HPL.out
      rw [← HP.out, List.length_append, planT_len, List.length_map, List.length_map] at h
      generalize (N - i).toNat * ((ticksT cl be).length + D.toNat) = z at h
      exact ⟨by omega, by omega⟩
    have BK := Aside0.mk ((Ch.of_below HB.out (fun _ => False)).heap BK3.out (fun h => h))
    by_cases hlt : i < N
    · have hdd : decide (i < N) = true := decide_eq_true hlt
      have HALT : left = [] ∨ (∃ x, left = [x]) ∨ 1 < ((left.length : Nat) : Int) := by
        match left with
        | [] => exact .inl rfl
        | [x] => exact .inr (.inl ⟨x, rfl⟩)
        | x :: y :: t => exact .inr (.inr (by simp only [List.length_cons]; omega))
      rcases HALT with rfl | ⟨x, rfl⟩ | hq
      · have HL1 : Aside0 (([] : List SE).length = 0) := ⟨rfl⟩
        go_wp2_with (first | ((with_reducible refine gate_dst (N := 44) rfl ?_); refine load_mid_w ?hw 69 _ rfl gb 0 rfl [.int .i64 cl, .int .i64 be, .int .u64 sd, .int .i64 3, .bool false, .int .i64 4, .int .i64 2, .int .i64 6, .int .i64 1, .int .i64 3, .int .i64 800, .int .i64 5, .int .i64 4, .int .i64 16, .int .i64 50, .int .i64 40, .int .i64 200, .int .i64 50, .int .i64 2, .int .i64 5, .int .i64 3, .int .i64 1, .int .i64 5, .int .i64 900, .int .i64 2, .int .i64 1, .int .i64 4, .int .i64 500, .int .i64 4, .int .i64 4, .int .i64 30, .int .i64 8] _ (range_of BK.out (by rfl)) Try.underlying69 rfl (by kernel_rfl) ?_; (case hw => first | rfl | (go_simp; done) | (go_simp; rfl))) | (go_at_call 57; refine (ticks.calls cl be sd _ (by omega) (by omega) (by omega) (by omega)).mono ?_; rintro e w4 ⟨⟨A', c', m, rfl, hcm, hCm, hmm, hfar⟩, hb⟩; have HB4 := Aside0.mk (below_b HB.out hb HB.out.size); have HM4 := Aside0.mk hCm; have HT := Aside0.mk hmm; have HR4 := Aside0.mk (Kd.R_below HR.out hb); have HTL := Aside0.mk (show m.length ≤ 20 by rw [← List.length_map (f := pE), hmm, ticksT_len]; omega); clear hb hCm hmm hfar hcm) | ((with_reducible refine gate_ (.call { callee := .builtin .append, args := #[.tmp 43, .tmp 45], argTypes := #[71, 119] }) rfl ?_); refine append_E rfl (.tmp 43) (.tmp 45) 119 (.inr rfl) rfl w3.heap.size _ outs m A' m.length c' rfl rfl HR4.out HM4.out HB4.out HB4.out.size (by have := HTL.out; have := HO.out; omega) ?_; intro v5 w5 hr hb; have HR5 := Aside0.mk hr; have HB5 := Aside0.mk hb; clear hr hb))
        have HPS : Aside0 ((((outs ++ m) ++ ([] : List SE)) ++ List.replicate D.toNat dE).map pE ++ planT cl be D.toNat (N - (i + 1)).toNat (([] : List SE).map pE) = P ∧ (((outs ++ m) ++ ([] : List SE)) ++ List.replicate D.toNat dE).filter issB ++ ([] : List SE) = l) := ⟨plan_step hlt HP.out HO2.out HT.out HN.out⟩
        have hcl : 0 ≤ c2 := HCP.out
        have hb1 : (0 : Int) ≤ (c2 : Int) := by omega
        have hb2 : 0 ≤ c2 := by omega
        have hb3 : (0 : Int) ≤ (0 : Int) := by omega
        have hcE : ∀ W : World, (Instr.slice 71 (.slice A2 0 c2) (some (.int .i64 0)) none none).run Try.prog W = .ok (.slice (dropA A2 c2 0) (0 - 0) (c2 - 0)) W := cutE A2 0 c2 0 (by omega) (by omega) HCP.out
        have HC1 : Aside0 (Kd.C kE w3 A2 0 ([] : List SE)) := ⟨HC.out⟩
        have HC2 : Aside0 (Kd.C kE w3 (dropA A2 c2 0) ([] : List SE).length ([] : List SE)) := ⟨C_dropA HC.out (m := 0) (by first | (simp; done) | omega) HCP.out⟩
        have HCP2 : Aside0 (([] : List SE).length ≤ c2 - 0) := ⟨Nat.zero_le _⟩
        have HL6 : Aside0 ((outs ++ m).length + 0 ≤ 10000) := ⟨by rw [List.length_append]; have := HTL.out; have := HO.out.1; omega⟩
        have HL7 : Aside0 ((outs ++ m ++ ([] : List SE)).length + D.toNat ≤ 10000) := ⟨by rw [List.length_append, List.length_append, HL1.out]; have := HTL.out; have := HO.out.1; omega⟩
        clear HR4 HM4 HB4 HT HC HCP HP HO2 HO HTL HB HR
        go_region_law (refine step_appE rfl (.tmp 50) (.tmp 53) 71 (.inl rfl) rfl w3.heap.size v5 (outs ++ m) ([] : List SE) A2 0 c2 ?hs ?hx (Kd.R_below HR5.out (below_drew (Below.refl _ _))) (Kd.C_below HC1.out (below_drew HB5.out)) (below_drew HB5.out) (below_drew HB5.out).size HL6.out ?_; (case hs => first | (go_simp; done) | (go_simp; rfl)); (case hx => first | (go_simp; done) | (go_simp; rfl)); intro v6 w6 hr6 hb6; have HR6 := Aside0.mk hr6; have HB6 := Aside0.mk hb6; clear hr6 hb6)
        all_goals
          clear hcE
          go_wp2_with (first | (go_at_call 58; refine (repeat_.calls ⟨w6.heap.size, 0, none⟩ 1 dE D _ (C_newE w6 dE) (by omega) d0 d1).mono ?_; rintro e w7 ⟨⟨v7, rfl, hR⟩, hb⟩; obtain ⟨A7, c7, rfl⟩ := Kd.R_slice hR; have HB7 := Aside0.mk (below_b (below_alloc HB6.out _) hb (below_alloc HB6.out _).size); have HR7 := Aside0.mk (Kd.R_below (Kd.R_below HR6.out (below_alloc (Below.refl _ _) _)) hb); have HC7 := Aside0.mk (show Kd.C kE w7 A7 D.toNat (List.replicate D.toNat dE) from by have h := (Kd.R_reads' hR).2.2; rwa [List.length_replicate] at h); clear hb hR) | ((with_reducible refine gate_ (.call { callee := .builtin .append, args := #[.tmp 58, .tmp 62], argTypes := #[71, 71] }) rfl ?_); refine append_E rfl (.tmp 58) (.tmp 62) 71 (.inl rfl) rfl w3.heap.size _ (outs ++ m ++ ([] : List SE)) (List.replicate D.toNat dE) A7 _ c7 rfl rfl HR7.out HC7.out HB7.out HB7.out.size HL7.out ?_; intro v8 w8 hr hb; have HR8 := Aside0.mk hr; have HB8 := Aside0.mk hb; clear hr hb))
          refine ⟨⟨i + 1, _, [], _, _, by omega, by omega, rfl, rfl, HCP2, HC2, ⟨HPS.out.1⟩, ⟨HPS.out.2⟩, HR8, HB8⟩, ?_⟩
          simp [intOf]; omega
      · have HL1 : Aside0 ([x].length = 1) := ⟨rfl⟩
        go_wp2_with (first | ((with_reducible refine gate_dst (N := 44) rfl ?_); refine load_mid_w ?hw 69 _ rfl gb 0 rfl [.int .i64 cl, .int .i64 be, .int .u64 sd, .int .i64 3, .bool false, .int .i64 4, .int .i64 2, .int .i64 6, .int .i64 1, .int .i64 3, .int .i64 800, .int .i64 5, .int .i64 4, .int .i64 16, .int .i64 50, .int .i64 40, .int .i64 200, .int .i64 50, .int .i64 2, .int .i64 5, .int .i64 3, .int .i64 1, .int .i64 5, .int .i64 900, .int .i64 2, .int .i64 1, .int .i64 4, .int .i64 500, .int .i64 4, .int .i64 4, .int .i64 30, .int .i64 8] _ (range_of BK.out (by rfl)) Try.underlying69 rfl (by kernel_rfl) ?_; (case hw => first | rfl | (go_simp; done) | (go_simp; rfl))) | (go_at_call 57; refine (ticks.calls cl be sd _ (by omega) (by omega) (by omega) (by omega)).mono ?_; rintro e w4 ⟨⟨A', c', m, rfl, hcm, hCm, hmm, hfar⟩, hb⟩; have HB4 := Aside0.mk (below_b HB.out hb HB.out.size); have HM4 := Aside0.mk hCm; have HT := Aside0.mk hmm; have HR4 := Aside0.mk (Kd.R_below HR.out hb); have HTL := Aside0.mk (show m.length ≤ 20 by rw [← List.length_map (f := pE), hmm, ticksT_len]; omega); clear hb hCm hmm hfar hcm) | ((with_reducible refine gate_ (.call { callee := .builtin .append, args := #[.tmp 43, .tmp 45], argTypes := #[71, 119] }) rfl ?_); refine append_E rfl (.tmp 43) (.tmp 45) 119 (.inr rfl) rfl w3.heap.size _ outs m A' m.length c' rfl rfl HR4.out HM4.out HB4.out HB4.out.size (by have := HTL.out; have := HO.out; omega) ?_; intro v5 w5 hr hb; have HR5 := Aside0.mk hr; have HB5 := Aside0.mk hb; clear hr hb))
        have HPS : Aside0 ((((outs ++ m) ++ [x]) ++ List.replicate D.toNat dE).map pE ++ planT cl be D.toNat (N - (i + 1)).toNat (([] : List SE).map pE) = P ∧ (((outs ++ m) ++ [x]) ++ List.replicate D.toNat dE).filter issB ++ ([] : List SE) = l) := ⟨plan_step hlt HP.out HO2.out HT.out HN.out⟩
        have hcl : 1 ≤ c2 := HCP.out
        have hb1 : (1 : Int) ≤ (c2 : Int) := by omega
        have hb2 : 1 ≤ c2 := by omega
        have hb3 : (1 : Int) ≤ (1 : Int) := by omega
        have hcE : ∀ W : World, (Instr.slice 71 (.slice A2 1 c2) (some (.int .i64 1)) none none).run Try.prog W = .ok (.slice (dropA A2 c2 1) (1 - 1) (c2 - 1)) W := cutE A2 1 c2 1 (by omega) (by omega) HCP.out
        have HC1 : Aside0 (Kd.C kE w3 A2 1 [x]) := ⟨HC.out⟩
        have HC2 : Aside0 (Kd.C kE w3 (dropA A2 c2 1) ([] : List SE).length ([] : List SE)) := ⟨C_dropA HC.out (m := 1) (by first | (simp; done) | omega) HCP.out⟩
        have HCP2 : Aside0 (([] : List SE).length ≤ c2 - 1) := ⟨Nat.zero_le _⟩
        have HL6 : Aside0 ((outs ++ m).length + 1 ≤ 10000) := ⟨by rw [List.length_append]; have := HTL.out; have := HO.out.1; omega⟩
        have HL7 : Aside0 ((outs ++ m ++ [x]).length + D.toNat ≤ 10000) := ⟨by rw [List.length_append, List.length_append, HL1.out]; have := HTL.out; have := HO.out.1; omega⟩
        clear HR4 HM4 HB4 HT HC HCP HP HO2 HO HTL HB HR
        go_region_law (refine step_appE rfl (.tmp 50) (.tmp 53) 71 (.inl rfl) rfl w3.heap.size v5 (outs ++ m) [x] A2 1 c2 ?hs ?hx (Kd.R_below HR5.out (below_drew (Below.refl _ _))) (Kd.C_below HC1.out (below_drew HB5.out)) (below_drew HB5.out) (below_drew HB5.out).size HL6.out ?_; (case hs => first | (go_simp; done) | (go_simp; rfl)); (case hx => first | (go_simp; done) | (go_simp; rfl)); intro v6 w6 hr6 hb6; have HR6 := Aside0.mk hr6; have HB6 := Aside0.mk hb6; clear hr6 hb6)
        all_goals
          clear hcE
          go_wp2_with (first | (go_at_call 58; refine (repeat_.calls ⟨w6.heap.size, 0, none⟩ 1 dE D _ (C_newE w6 dE) (by omega) d0 d1).mono ?_; rintro e w7 ⟨⟨v7, rfl, hR⟩, hb⟩; obtain ⟨A7, c7, rfl⟩ := Kd.R_slice hR; have HB7 := Aside0.mk (below_b (below_alloc HB6.out _) hb (below_alloc HB6.out _).size); have HR7 := Aside0.mk (Kd.R_below (Kd.R_below HR6.out (below_alloc (Below.refl _ _) _)) hb); have HC7 := Aside0.mk (show Kd.C kE w7 A7 D.toNat (List.replicate D.toNat dE) from by have h := (Kd.R_reads' hR).2.2; rwa [List.length_replicate] at h); clear hb hR) | ((with_reducible refine gate_ (.call { callee := .builtin .append, args := #[.tmp 58, .tmp 62], argTypes := #[71, 71] }) rfl ?_); refine append_E rfl (.tmp 58) (.tmp 62) 71 (.inl rfl) rfl w3.heap.size _ (outs ++ m ++ [x]) (List.replicate D.toNat dE) A7 _ c7 rfl rfl HR7.out HC7.out HB7.out HB7.out.size HL7.out ?_; intro v8 w8 hr hb; have HR8 := Aside0.mk hr; have HB8 := Aside0.mk hb; clear hr hb))
          refine ⟨⟨i + 1, _, [], _, _, by omega, by omega, rfl, rfl, HCP2, HC2, ⟨HPS.out.1⟩, ⟨HPS.out.2⟩, HR8, HB8⟩, ?_⟩
          simp [intOf]; omega
      · have HL1 : Aside0 ((left.take 1).length = 1) := ⟨by rw [List.length_take]; omega⟩
        go_wp2_with (first | ((with_reducible refine gate_dst (N := 44) rfl ?_); refine load_mid_w ?hw 69 _ rfl gb 0 rfl [.int .i64 cl, .int .i64 be, .int .u64 sd, .int .i64 3, .bool false, .int .i64 4, .int .i64 2, .int .i64 6, .int .i64 1, .int .i64 3, .int .i64 800, .int .i64 5, .int .i64 4, .int .i64 16, .int .i64 50, .int .i64 40, .int .i64 200, .int .i64 50, .int .i64 2, .int .i64 5, .int .i64 3, .int .i64 1, .int .i64 5, .int .i64 900, .int .i64 2, .int .i64 1, .int .i64 4, .int .i64 500, .int .i64 4, .int .i64 4, .int .i64 30, .int .i64 8] _ (range_of BK.out (by rfl)) Try.underlying69 rfl (by kernel_rfl) ?_; (case hw => first | rfl | (go_simp; done) | (go_simp; rfl))) | (go_at_call 57; refine (ticks.calls cl be sd _ (by omega) (by omega) (by omega) (by omega)).mono ?_; rintro e w4 ⟨⟨A', c', m, rfl, hcm, hCm, hmm, hfar⟩, hb⟩; have HB4 := Aside0.mk (below_b HB.out hb HB.out.size); have HM4 := Aside0.mk hCm; have HT := Aside0.mk hmm; have HR4 := Aside0.mk (Kd.R_below HR.out hb); have HTL := Aside0.mk (show m.length ≤ 20 by rw [← List.length_map (f := pE), hmm, ticksT_len]; omega); clear hb hCm hmm hfar hcm) | ((with_reducible refine gate_ (.call { callee := .builtin .append, args := #[.tmp 43, .tmp 45], argTypes := #[71, 119] }) rfl ?_); refine append_E rfl (.tmp 43) (.tmp 45) 119 (.inr rfl) rfl w3.heap.size _ outs m A' m.length c' rfl rfl HR4.out HM4.out HB4.out HB4.out.size (by have := HTL.out; have := HO.out; omega) ?_; intro v5 w5 hr hb; have HR5 := Aside0.mk hr; have HB5 := Aside0.mk hb; clear hr hb))
        have HPS : Aside0 ((((outs ++ m) ++ (left.take 1)) ++ List.replicate D.toNat dE).map pE ++ planT cl be D.toNat (N - (i + 1)).toNat ((left.drop 1).map pE) = P ∧ (((outs ++ m) ++ (left.take 1)) ++ List.replicate D.toNat dE).filter issB ++ (left.drop 1) = l) := ⟨plan_step hlt HP.out HO2.out HT.out HN.out⟩
        have hcl : left.length ≤ c2 := HCP.out
        have hb1 : (1 : Int) ≤ (c2 : Int) := by omega
        have hb2 : 1 ≤ c2 := by omega
        have hb3 : (1 : Int) ≤ (left.length : Int) := by omega
        have hcE : ∀ W : World, (Instr.slice 71 (.slice A2 left.length c2) (some (.int .i64 1)) none none).run Try.prog W = .ok (.slice (dropA A2 c2 1) (left.length - 1) (c2 - 1)) W := cutE A2 left.length c2 1 (by omega) (by omega) HCP.out
        have HC1 : Aside0 (Kd.C kE w3 A2 1 (left.take 1)) := ⟨by have h := Kd.C_take HC.out (m := 1) (by omega); rwa [HL1.out] at h⟩
        have HC2 : Aside0 (Kd.C kE w3 (dropA A2 c2 1) (left.drop 1).length (left.drop 1)) := ⟨C_dropA HC.out (m := 1) (by first | (simp; done) | omega) HCP.out⟩
        have HCP2 : Aside0 ((left.drop 1).length ≤ c2 - 1) := ⟨by rw [List.length_drop]; omega⟩
        have HL6 : Aside0 ((outs ++ m).length + 1 ≤ 10000) := ⟨by rw [List.length_append]; have := HTL.out; have := HO.out.1; omega⟩
        have HL7 : Aside0 ((outs ++ m ++ (left.take 1)).length + D.toNat ≤ 10000) := ⟨by rw [List.length_append, List.length_append, HL1.out]; have := HTL.out; have := HO.out.1; omega⟩
        clear HR4 HM4 HB4 HT HC HCP HP HO2 HO HTL HB HR
        go_region_law (refine step_appE rfl (.tmp 50) (.tmp 53) 71 (.inl rfl) rfl w3.heap.size v5 (outs ++ m) (left.take 1) A2 1 c2 ?hs ?hx (Kd.R_below HR5.out (below_drew (Below.refl _ _))) (Kd.C_below HC1.out (below_drew HB5.out)) (below_drew HB5.out) (below_drew HB5.out).size HL6.out ?_; (case hs => first | (go_simp; done) | (go_simp; rfl)); (case hx => first | (go_simp; done) | (go_simp; rfl)); intro v6 w6 hr6 hb6; have HR6 := Aside0.mk hr6; have HB6 := Aside0.mk hb6; clear hr6 hb6)
        all_goals
          clear hcE
          go_wp2_with (first | (go_at_call 58; refine (repeat_.calls ⟨w6.heap.size, 0, none⟩ 1 dE D _ (C_newE w6 dE) (by omega) d0 d1).mono ?_; rintro e w7 ⟨⟨v7, rfl, hR⟩, hb⟩; obtain ⟨A7, c7, rfl⟩ := Kd.R_slice hR; have HB7 := Aside0.mk (below_b (below_alloc HB6.out _) hb (below_alloc HB6.out _).size); have HR7 := Aside0.mk (Kd.R_below (Kd.R_below HR6.out (below_alloc (Below.refl _ _) _)) hb); have HC7 := Aside0.mk (show Kd.C kE w7 A7 D.toNat (List.replicate D.toNat dE) from by have h := (Kd.R_reads' hR).2.2; rwa [List.length_replicate] at h); clear hb hR) | ((with_reducible refine gate_ (.call { callee := .builtin .append, args := #[.tmp 58, .tmp 62], argTypes := #[71, 71] }) rfl ?_); refine append_E rfl (.tmp 58) (.tmp 62) 71 (.inl rfl) rfl w3.heap.size _ (outs ++ m ++ (left.take 1)) (List.replicate D.toNat dE) A7 _ c7 rfl rfl HR7.out HC7.out HB7.out HB7.out.size HL7.out ?_; intro v8 w8 hr hb; have HR8 := Aside0.mk hr; have HB8 := Aside0.mk hb; clear hr hb))
          refine ⟨⟨i + 1, _, left.drop 1, _, _, by omega, by omega, by rw [List.length_drop], rfl, HCP2, HC2, ⟨HPS.out.1⟩, ⟨HPS.out.2⟩, HR8, HB8⟩, ?_⟩
          simp [intOf]; omega
    · have hdd : decide (i < N) = false := decide_eq_false hlt
      have hiN : (N - i).toNat = 0 := by omega
      have hPfin : outs.map pE ++ left.map pE = P := by have h := HP.out; rw [hiN] at h; exact h
      have hsum : outs.length + left.length ≤ 512 := by have h := HPL.out; rw [← hPfin, List.length_append, List.length_map, List.length_map] at h; exact h
      have HPF := Aside0.mk hPfin
      have HLS : Aside0 (outs.length + left.length ≤ 10000) := ⟨by omega⟩
      have hall : left.filter issB = left := List.filter_eq_self.2 fun x hx => by
        have hl : x ∈ l := by rw [← HO2.out]; exact List.mem_append.2 (.inr hx)
        have := List.any_eq_false.1 HN.out x hl
        unfold nisB at this
        unfold issB
        simpa using this
      have HALL := Aside0.mk hall
      have HBW := Aside0.mk (Kd.C_below HC.out HB.out)
      clear hPfin hall hiN HC HP HO
      go_wp2_with (first | ((with_reducible refine gate_ (.call { callee := .builtin .append, args := #[.tmp 65, .tmp 66], argTypes := #[71, 71] }) rfl ?_); refine append_E rfl (.tmp 65) (.tmp 66) 71 (.inl rfl) rfl w3.heap.size _ outs left A2 left.length c2 rfl rfl HR.out HBW.out HB.out HB.out.size HLS.out ?_; intro v8 w8 hr hb; obtain ⟨A8, c8, rfl⟩ := Kd.R_slice hr; have HR8 := Aside0.mk hr; have HB8 := Aside0.mk hb; clear hr hb))
      go_ret2
      refine ⟨⟨_, rfl, outs ++ left, ?_, ?_, ?_⟩, below_b HB3.out HB8.out HB3.out.size⟩
      · have h := Kd.R_lower HR8.out (base' := w.heap.size) HB3.out.size
        rw [List.length_append] at h
        exact h
      · rw [List.map_append]; exact HPF.out
      · rw [List.filter_append, HALL.out]; exact HO2.out
def clC (a : Int) : Int := wrap64 (1 + Int.tmod (wrap64 (Int.tmod a 3 + 3)) 3)
def beC (a : Int) : Int := wrap64 (1 + Int.tmod (wrap64 (Int.tmod a 4 + 4)) 4)
theorem tmod_bd (a k : Int) (h0 : 0 < k) (h1 : k ≤ 1000) : 0 ≤ Int.tmod (wrap64 (Int.tmod a k + k)) k ∧ Int.tmod (wrap64 (Int.tmod a k + k)) k < k := by
  have h2 := Int.tmod_lt_of_pos a h0
  have h3 := Int.lt_tmod_of_pos a h0
  have e1 : wrap64 (Int.tmod a k + k) = Int.tmod a k + k := by unfold wrap64; omega
  rw [e1]
  exact ⟨Int.tmod_nonneg _ (by omega), Int.tmod_lt_of_pos _ h0⟩
theorem clC_bd (a : Int) : 1 ≤ clC a ∧ clC a ≤ 3 := by
  have := tmod_bd a 3 (by omega) (by omega)
  unfold clC
  generalize Int.tmod (wrap64 (Int.tmod a 3 + 3)) 3 = z at *
  unfold wrap64
  omega
theorem beC_bd (a : Int) : 1 ≤ beC a ∧ beC a ≤ 4 := by
  have := tmod_bd a 4 (by omega) (by omega)
  unfold beC
  generalize Int.tmod (wrap64 (Int.tmod a 4 + 4)) 4 = z at *
  unfold wrap64
  omega
theorem cfg.calls (a b sd : Int) (w : World) : Calls Try.prog 25 #[.int .i64 a, .int .i64 b, .int .u64 sd] w fun e w' => e = .returned (.agg #[.int .i64 (clC a), .int .i64 (beC b), .int .u64 sd, .int .i64 3, .bool false, .int .i64 4, .int .i64 2, .int .i64 6, .int .i64 1, .int .i64 3, .int .i64 800, .int .i64 5, .int .i64 4, .int .i64 16, .int .i64 50, .int .i64 40, .int .i64 200, .int .i64 50, .int .i64 2, .int .i64 5, .int .i64 3, .int .i64 1, .int .i64 5, .int .i64 900, .int .i64 2, .int .i64 1, .int .i64 4, .int .i64 500, .int .i64 4, .int .i64 4, .int .i64 30, .int .i64 8]) ∧ Below w.heap.size w w' := config.calls a b sd w
set_option maxHeartbeats 4000000 in
set_option maxRecDepth 100000 in
theorem alive.calls (w : World) : Calls Try.prog 24 #[] w fun e w' => e = .returned (.bool true) ∧ Below w.heap.size w w' := by
  go_enter Try.func24, Try.ntmps24
  go_wp2_with fail
  go_at_call 25
  refine (cfg.calls 0 0 1 _).mono ?_
  rintro e w1 ⟨rfl, hb⟩
  rw [show clC 0 = 1 from by decide +kernel, show beC 0 = 1 from by decide +kernel]
  have HB1 := Aside0.mk hb
  clear hb
  go_wp2_with fail
  go_at_call 27
  refine (rounds.calls 1 1 1 none 0 [] _ (Kd.C_nil _ _) (Nat.le_refl _) (by omega) (by omega) (by omega) (by omega)).mono ?_
  rintro e w2 ⟨rfl, hb⟩
  rw [show roundsL 1 1 (([] : List SE).map pE) = (0, 0, 0) from by decide +kernel]
  have HB2 := Aside0.mk (below_b HB1.out hb HB1.out.size)
  clear hb
  go_wp2_with fail
  go_at_call 25
  refine (cfg.calls 0 0 1 _).mono ?_
  rintro e w3 ⟨rfl, hb⟩
  rw [show clC 0 = 1 from by decide +kernel, show beC 0 = 1 from by decide +kernel]
  have HB3 := Aside0.mk (below_b HB2.out hb HB2.out.size)
  clear hb
  go_wp2_with fail
  go_at_call 26
  refine (plan.calls 1 1 1 2 3 none 0 [] _ (Kd.C_nil _ _) (Nat.le_refl _) (by decide) (by omega) (by omega) (by omega) (by omega) (by omega) (by omega) (by omega) (by omega) rfl (by decide +kernel)).mono ?_
  rintro e w4 ⟨⟨v, out, rfl, hR, hm, _⟩, hb⟩
  obtain ⟨A, c, rfl⟩ := Kd.R_slice hR
  have HB4 := Aside0.mk (below_b HB3.out hb HB3.out.size)
  have HC4 := Aside0.mk (Kd.R_reads' hR).2.2
  have HCP := Aside0.mk (Kd.R_reads' hR).2.1
  have hl : out.length = 12 := by
    rw [← List.length_map (f := pE), hm]; decide +kernel
  have HM : Aside0 (roundsL 1 1 (out.map pE) = (3, 2, 0)) := ⟨by rw [hm]; decide +kernel⟩
  have HL := Aside0.mk hl
  clear hb hR hm hl
  go_wp2_with fail
  go_at_call 25
  refine (cfg.calls 0 0 1 _).mono ?_
  rintro e w5 ⟨rfl, hb⟩
  rw [show clC 0 = 1 from by decide +kernel, show beC 0 = 1 from by decide +kernel]
  have HB5 := Aside0.mk (below_b HB4.out hb HB4.out.size)
  have HC5 := Aside0.mk (Kd.C_below HC4.out hb)
  clear hb
  go_wp2_with fail
  go_at_call 27
  refine (rounds.calls 1 1 1 A c out _ HC5.out HCP.out (by omega) (by omega) (by omega) (by omega)).mono ?_
  rintro e w6 ⟨rfl, hb⟩
  rw [HM.out]
  have HB6 := Aside0.mk (below_b HB5.out hb HB5.out.size)
  clear hb
  rw [HL.out]
  go_wp2_with fail
  go_at_call 28
  refine (waybilllaw32_num.calls 0 0 _ rfl).mono ?_
  rintro e w7 ⟨rfl, hb⟩
  have HB7 := Aside0.mk (below_b HB6.out hb.below HB6.out.size)
  clear hb
  go_wp2_with fail
  go_at_call 28
  refine (waybilllaw32_num.calls 0 0 _ rfl).mono ?_
  rintro e w8 ⟨rfl, hb⟩
  have HB8 := Aside0.mk (below_b HB7.out hb.below HB7.out.size)
  clear hb
  go_wp2_with fail
  go_at_call 28
  refine (waybilllaw32_num.calls 0 0 _ rfl).mono ?_
  rintro e w9 ⟨rfl, hb⟩
  have HB9 := Aside0.mk (below_b HB8.out hb.below HB8.out.size)
  clear hb
  go_wp2_with fail
  go_ret
  exact ⟨rfl, HB9.out⟩
end Go.Proofs.Ytemleanglkaedaa.ECalmPlans
