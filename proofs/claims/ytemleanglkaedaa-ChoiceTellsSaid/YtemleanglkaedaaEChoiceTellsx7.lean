-- Written by a program of this seat, over a copy of the print; parts by hand.
import Derived.Test.YtemleanglkaedaaEChoiceTellsx0
import Derived.Test.YtemleanglkaedaaEChoiceTellsx2
import Derived.Test.YtemleanglkaedaaEChoiceTellsx5
import Derived.Test.YtemleanglkaedaaEChoiceTellsx6
namespace Go.Proofs.Ytemleanglkaedaa.EChoiceTells
open Go.RowKit Go.Proofs.YtemleanglkaedaaW.PrintWords Go.Proofs.YtemleanglkaedaaW.PrintLast Go.Proofs.YtemleanglkaedaaW.PrintMore
attribute [local go_sem] max2_int min2_int max_two min_two max_three min_three max_four min_four   -- for this text's walks alone
set_option linter.unusedVariables false
set_option linter.unusedSimpArgs false

-- by hand: choicering.inc
theorem heap105 : Kd.Heap k105 := Kd.heap_iso _ ⟨fun _ h => h⟩
theorem k105_C_below {w w1 : World} {A : Option Addr} {n B : Nat} {xs : List S105} (h : Kd.C k105 w A n xs) (hb : Below B w w1) (hB : w.heap.size ≤ B) : Kd.C k105 w1 A n xs := heap105.C (fun k hk => hb.block k (by omega)) h
theorem rd105 (l : List S105) (i : Nat) (h : i < l.length) : rd_T105 l (i : Int) = l[i] := by
  unfold rd_T105
  rw [Int.toNat_natCast, List.getD_eq_getElem?_getD, List.getElem?_eq_getElem h]; rfl
/-- The order of points. -/
def ordI (a b : S105) : Int := if a.f0 < b.f0 then -1 else if a.f0 > b.f0 then 1 else if a.f1 < b.f1 then -1 else if a.f1 > b.f1 then 1 else 0
def cmpI (a b : Int) : Int := if a < b then -1 else if a > b then 1 else 0
theorem cmpU_f (a b : Int) : cmp_Compare_uint64.f a b = some (cmpI a b) := by
  unfold cmp_Compare_uint64.f cmp_isNaN_uint64.f cmpI
  simp only [Option.bind_some, ne_eq, not_true, decide_false, bne_self_eq_false, Bool.false_eq_true, if_false]
  split
  · rfl
  · split <;> rfl
theorem cmpN_f (a b : Int) : cmp_Compare_int.f a b = some (cmpI a b) := by
  unfold cmp_Compare_int.f cmp_isNaN_int.f cmpI
  simp only [Option.bind_some, ne_eq, not_true, decide_false, bne_self_eq_false, Bool.false_eq_true, if_false]
  split
  · rfl
  · split <;> rfl
theorem w01 : wrap64 (0 + 1) = 1 := by decide +kernel
theorem w12 : wrap64 (1 + 1) = 2 := by decide +kernel
theorem or2 (a b : Int) : cmp_Or_int.f 10 [a, b] = some (if a = 0 then b else a) := by
  show cmp_Or_int.l0 (7 + 1 + 1 + 1) 0 [a, b] 2 0 = _
  rw [cmp_Or_int.l0, if_pos (by decide), if_pos (by decide), if_pos (show (0 : Int) < (([a, b] : List Int).length : Int) by simp), show rd [a, b] 0 = a from rfl]
  by_cases h : a = 0
  · rw [if_pos h, if_pos h, w01, cmp_Or_int.l0, if_pos (by decide), if_pos (by decide), if_pos (show (1 : Int) < (([a, b] : List Int).length : Int) by simp), show rd [a, b] 1 = b from rfl]
    by_cases h2 : b = 0
    · rw [if_pos h2, w12, cmp_Or_int.l0, if_neg (by decide), h2]
    · rw [if_neg h2]
  · rw [if_neg h, if_neg h]
theorem ord_f (a b : S105) : ring_order.f 10 a.f0 a.f1 b.f0 b.f1 = some (ordI a b) := by
  unfold ring_order.f
  rw [cmpU_f, Option.bind_some, cmpN_f, Option.bind_some, or2, Option.bind_some]
  congr 1
  unfold cmpI ordI
  by_cases h1 : a.f0 < b.f0
  · rw [if_pos h1, if_pos h1, if_neg (by decide)]
  · rw [if_neg h1, if_neg h1]
    by_cases h2 : a.f0 > b.f0
    · rw [if_pos h2, if_pos h2, if_neg (by decide)]
    · rw [if_neg h2, if_neg h2, if_pos rfl]
theorem ordC.calls (a b : S105) (w : World) : Calls Try.prog 68 #[.agg #[.int .u64 a.f0, .int .i64 a.f1], .agg #[.int .u64 b.f0, .int .i64 b.f1]] w fun e w' => e = .returned (.int .i64 (ordI a b)) ∧ Below w.heap.size w w' := ring_order.calls 10 _ _ _ _ _ w (ord_f a b)
theorem below_ls {B : Nat} {w0 w1 w2 : World} (h : Below B w0 w1) (k : Below w1.heap.size w1 w2) (hB : B ≤ w1.heap.size) : Below B w0 w2 := h.trans (k.mono hB)
/-- What stays in a round over points i and j of the row. -/
structure SR (w : World) (ad : Addr) (l : List S105) (m n : Nat) (x y : S105) (W : World) : Prop where
  below : Below w.heap.size w W
  row : Kd.C k105 W (some ad) l.length l
  x0 : W.cell? (ad.add (m * 2)) = some (.int .u64 x.f0)
  x1 : W.cell? ⟨(ad.add (m * 2)).block, (ad.add (m * 2)).off + 1, none⟩ = some (.int .i64 x.f1)
  y0 : W.cell? (ad.add (n * 2)) = some (.int .u64 y.f0)
  y1 : W.cell? ⟨(ad.add (n * 2)).block, (ad.add (n * 2)).off + 1, none⟩ = some (.int .i64 y.f1)
theorem SR.mk' {w : World} {ad : Addr} {l : List S105} {m n : Nat} {W : World} (hb : Below w.heap.size w W) (h : Kd.C k105 W (some ad) l.length l) (hm : m < l.length) (hn : n < l.length) : SR w ad l m n (rd_T105 l (m : Int)) (rd_T105 l (n : Int)) W := by
  obtain ⟨a1, e1, hx0, hx1⟩ := at_T105 h (m : Int) (by omega) (by omega)
  cases e1
  obtain ⟨a2, e2, hy0, hy1⟩ := at_T105 h (n : Int) (by omega) (by omega)
  cases e2
  rw [Int.toNat_natCast] at hx0 hx1 hy0 hy1
  exact ⟨hb, h, hx0, hx1, hy0, hy1⟩
theorem cell_step {W W1 : World} {p : Addr} {v : Value} (hb : Below W.heap.size W W1) (h : W.cell? p = some v) : W1.cell? p = some v := by
  rw [hb.cell (by
    refine Nat.lt_of_not_le fun hk => ?_
    have : W.heap[p.block]? = none := by simp [hk]
    unfold World.cell? at h
    rw [this] at h
    simp at h)]
  exact h
theorem SR.step {w : World} {ad : Addr} {l : List S105} {m n : Nat} {x y : S105} {W W1 : World} (h : SR w ad l m n x y W) (hb : Below W.heap.size W W1) : SR w ad l m n x y W1 :=
  ⟨below_ls h.below hb h.below.size, k105_C_below h.row hb (Nat.le_refl _), cell_step hb h.x0, cell_step hb h.x1, cell_step hb h.y0, cell_step hb h.y1⟩
theorem SR.drew {w : World} {ad : Addr} {l : List S105} {m n : Nat} {x y : S105} {W : World} (h : SR w ad l m n x y W) : SR w ad l m n x y W.drew := h.step (Below.drew (Below.refl _ W))
/-- From n down: none behind the next. -/
def srtF (l : List S105) : Nat → Bool
  | 0 => true
  | n + 1 => if ordI (rd_T105 l ((n + 1 : Nat) : Int)) (rd_T105 l (n : Int)) < 0 then false else srtF l n
set_option maxRecDepth 100000 in
set_option maxHeartbeats 2000000 in
theorem sorted.calls (A : Option Addr) (c : Nat) (l : List S105) (w : World) (hr : Kd.C k105 w A l.length l) (hc : l.length ≤ c) :
    Calls Try.prog 67 #[.slice A l.length c, .func (.func 68) #[] #[]] w fun e w' => e = .returned (.bool (srtF l (l.length - 1))) ∧ Below w.heap.size w w' := by
  have HR := Aside0.mk hr
  have hlen : l.length ≤ 9223372036854775807 := hr.2.1
  have HB := Aside0.mk (Below.refl w.heap.size w)
  clear hr
  obtain ⟨g, hg⟩ : ∃ g, g = srtF l (l.length - 1) := ⟨_, rfl⟩
  rw [← hg]
  have HG : Aside0 (g = srtF l ((l.length : Int) - 1).toNat) := ⟨by rw [hg]; congr 1; omega⟩
  clear hg
  go_enter Try.func67, Try.ntmps67
  go_wp2_with fail
  go_loopw [5] (fun v5 W => ∃ i : Int, -1 ≤ i ∧ i < l.length ∧ v5 = .int .i64 i ∧ Aside0 (g = srtF l i.toNat) ∧ Aside0 (Below w.heap.size w W)) (fun v _ => (intOf v).toNat)
  case atStart => exact ⟨(l.length : Int) - 1, by omega, by omega, rfl, HG, HB⟩
  case round =>
    clear HB HG
    obtain ⟨i, i0, i1, rfl, HG, HB⟩ := hrel
    by_cases hpos : 0 < i
    · obtain ⟨n, m, hm, rfl⟩ : ∃ n m : Nat, m = n + 1 ∧ i = (m : Int) := ⟨i.toNat - 1, i.toNat, by omega, by omega⟩
      have HRw := Aside0.mk (k105_C_below HR.out HB.out (Nat.le_refl _))
      obtain ⟨ad, e1, _, _⟩ := at_T105 HRw.out (m : Int) (by omega) i1
      cases e1
      have hs := SR.mk' (m := m) (n := n) HB.out HRw.out (by omega) (by omega)
      have hg := HG.out
      rw [Int.toNat_natCast, hm, srtF, ← hm] at hg
      obtain ⟨x, hx⟩ : ∃ x, x = rd_T105 l (m : Int) := ⟨_, rfl⟩
      obtain ⟨y, hy⟩ : ∃ y, y = rd_T105 l (n : Int) := ⟨_, rfl⟩
      rw [← hx, ← hy] at hs
      rw [← hx, ← hy] at hg
      obtain ⟨o, ho⟩ : ∃ o, o = ordI x y := ⟨_, rfl⟩
      rw [← ho] at hg
      have HO := Aside0.mk ho
      have hx0 := hs.x0
      have hx1 := hs.x1
      have hy0 := hs.y0
      have hy1 := hs.y1
      have hsub : wrap64 ((m : Int) - 1) = (n : Int) := by unfold wrap64; omega
      have hsub2 : IntKind.i64.wrap ((m : Int) - 1) = (n : Int) := by rw [IntKind.wrap_i64]; omega
      have hn0 : (0 : Int) ≤ (n : Int) := by omega
      have hm0 : (0 : Int) ≤ (m : Int) := by omega
      have hn1 : (n : Int) < (l.length : Int) := by omega
      have hn2 : n < l.length := by omega
      have hm2 : m < l.length := by omega
      have hpn : decide (0 < m) = true := by simp; omega
      have HGG := Aside0.mk hg
      have HM := Aside0.mk hm
      clear hx hy ho hg HG hm
      go_wp2_with fail
      go_region_held3 (fun W => SR w ad l m n x y W ∧ W.cell? (ad.add (m * 2)) = some (.int .u64 x.f0) ∧ W.cell? ⟨(ad.add (m * 2)).block, (ad.add (m * 2)).off + 1, none⟩ = some (.int .i64 x.f1) ∧ W.cell? (ad.add (n * 2)) = some (.int .u64 y.f0) ∧ W.cell? ⟨(ad.add (n * 2)).block, (ad.add (n * 2)).off + 1, none⟩ = some (.int .i64 y.f1)) (first | exact ⟨hs.drew, hs.drew.x0, hs.drew.x1, hs.drew.y0, hs.drew.y1⟩ | exact ⟨hk7, hk7.x0, hk7.x1, hk7.y0, hk7.y1⟩ | go_keep) (first | (have hcur := And.left (by assumption : SR w ad l m n x y _ ∧ _); refine (ordC.calls x y _).mono ?_; rintro e7 w7 ⟨rfl, hb⟩; have hk7 := hcur.step hb; clear hb))
      rw [← HO.out]
      have hkb := Aside0.mk hk7.below
      clear hx0 hx1 hy0 hy1 hs hk7
      by_cases ho : o < 0
      · rw [show decide (o < 0) = true by simp [ho]]
        have hg : g = false := by rw [HGG.out, if_pos ho]
        subst hg
        go_wp2_with fail
        go_ret
        exact ⟨rfl, hkb.out⟩
      · rw [show decide (o < 0) = false by simp [ho]]
        go_wp2_with fail
        refine ⟨⟨(n : Int), by omega, by omega, rfl, ⟨by rw [HGG.out, if_neg ho, Int.toNat_natCast]⟩, hkb⟩, ?_⟩
        have := HM.out
        show (n : Int).toNat < (m : Int).toNat
        omega
    · have hg : g = true := by rw [HG.out, show i.toNat = 0 by omega]; rfl
      subst hg
      have hpd : decide (0 < i) = false := by simp [hpos]
      go_wp2_with fail
      all_goals (try go_wp2)
      go_ret
      exact ⟨rfl, HB.out⟩
/-- Is the point's holder below none? -/
def negB (x : S105) : Bool := decide (x.f1 < 0)
set_option maxHeartbeats 400000 in
theorem neg.calls (x : S105) (w : World) :
    Calls Try.prog 70 #[.agg #[.int .u64 x.f0, .int .i64 x.f1]] w fun e w' => e = .returned (.bool (negB x)) ∧ Below w.heap.size w w' := by
  unfold negB
  go_enter Try.func70, Try.ntmps70
  go_wp2_with fail
  go_ret
  exact ⟨rfl, below_alloc (Below.refl _ _) _⟩
set_option maxHeartbeats 1000000 in
theorem neg_idx.calls (A : Option Addr) (c : Nat) (l : List S105)  (w : World) (hr : Kd.C k105 w A l.length l) (hc : l.length ≤ c)  :
    Calls Try.prog 87 #[.slice A l.length c, .func (.func 70) #[] #[]] w fun e w' => e = .returned (.int .i64 (idxL negB l)) ∧ Below w.heap.size w w' := by
  have HR := Aside0.mk hr
  have hlen : l.length ≤ 9223372036854775807 := hr.2.1
  have HB := Aside0.mk (Below.refl w.heap.size w)
  clear hr
  obtain ⟨g, hg⟩ : ∃ g, g = idxL negB l := ⟨_, rfl⟩
  rw [← hg]
  have HG : Aside0 (g = idxFrom negB 0 (l.drop 0)) := ⟨hg⟩
  clear hg
  go_enter Try.func87, Try.ntmps87
  go_wp2
  go_loopw [5, 8] (fun v5 v8 W => ∃ i : Int, 0 ≤ i ∧ i ≤ l.length ∧ v8 = .int .i64 i ∧ Aside0 (g = idxFrom negB i (l.drop i.toNat)) ∧ Aside0 (Below w.heap.size w W)) (fun _ v _ => l.length - (intOf v).toNat)
  case atStart => exact ⟨0, by omega, by omega, rfl, HG, HB⟩
  case round =>
    clear HB HG
    obtain ⟨i, i0, ile, rfl, HG, HB⟩ := hrel
    have HRw := Aside0.mk (k105_C_below HR.out HB.out (Nat.le_refl _))
    by_cases hlt : i < l.length
    · obtain ⟨ad, e1, hx0, hx1⟩ := at_T105 HRw.out i i0 hlt
      cases e1
      have HS := Aside0.mk (idx_step negB l z105 i i0 hlt)
      obtain ⟨o, ho⟩ : ∃ o, o = negB (rd_T105 l i) := ⟨_, rfl⟩
      have HO := Aside0.mk ho
      clear ho
      cases o
      · have hgi : g = idxFrom negB (i + 1) (l.drop (i + 1).toNat) := by rw [HG.out, HS.out]; exact if_neg (by show ¬ negB (rd_T105 l i) = true; rw [← HO.out]; decide)
        have HG2 := Aside0.mk hgi
        clear hgi
        go_wp2_with (first | (go_at_call 70; refine (neg.calls (rd_T105 l i) _).mono ?_; rintro e w1 ⟨rfl, hb⟩; rw [← HO.out]; have HB1 := Aside0.mk (below_b HB.out hb HB.out.size); clear hb))
        refine ⟨⟨i + 1, by omega, by omega, rfl, HG2, HB1⟩, ?_⟩
        simp [intOf]; omega
      · obtain rfl : i = g := by rw [HG.out, HS.out]; exact (if_pos HO.out.symm).symm
        go_wp2_with (first | (go_at_call 70; refine (neg.calls (rd_T105 l i) _).mono ?_; rintro e w1 ⟨rfl, hb⟩; rw [← HO.out]; have HB1 := Aside0.mk (below_b HB.out hb HB.out.size); clear hb))
        go_ret
        exact ⟨rfl, HB1.out⟩
    · obtain rfl : g = -1 := by rw [HG.out, List.drop_eq_nil_of_le (by omega)]; rfl
      go_wp2
      go_ret
      exact ⟨rfl, HB.out⟩
theorem neg_any.calls (A : Option Addr) (c : Nat) (l : List S105)  (w : World) (hr : Kd.C k105 w A l.length l) (hc : l.length ≤ c)  :
    Calls Try.prog 69 #[.slice A l.length c, .func (.func 70) #[] #[]] w fun e w' => e = .returned (.bool (l.any negB)) ∧ Below w.heap.size w w' := by
  have HI := Aside0.mk (idx_any negB l)
  have HC := Aside0.mk (neg_idx.calls A c l  w hr hc)
  clear hr
  go_enter Try.func69, Try.ntmps69
  go_wp2_with (first | (go_at_call 87; refine HC.out.mono ?_; rintro e w' ⟨rfl, hb⟩; have HB := Aside0.mk hb; clear hb))
  go_ret
  exact ⟨by rw [← HI.out]; rfl, HB.out⟩
/-- What the ring lacks. -/
def wholeL (l : List S105) : Int := if (l.length : Int) > 1024 then 3 else if srtF l (l.length - 1) = true then (if l.any negB = true then 9 else 0) else 9
set_option maxRecDepth 100000 in
set_option maxHeartbeats 2000000 in
theorem whole.calls (A : Option Addr) (c : Nat) (l : List S105) (w : World) (hr : Kd.C k105 w A l.length l) (hc : l.length ≤ c) :
    Calls Try.prog 45 #[.slice A l.length c] w fun e w' => e = .returned (.int .i64 (wholeL l)) ∧ Below w.heap.size w w' := by
  have HR := Aside0.mk hr
  have hlen : l.length ≤ 9223372036854775807 := hr.2.1
  clear hr
  obtain ⟨g, hg⟩ : ∃ g, g = wholeL l := ⟨_, rfl⟩
  rw [← hg]
  unfold wholeL at hg
  obtain ⟨s, hs⟩ : ∃ s, s = srtF l (l.length - 1) := ⟨_, rfl⟩
  obtain ⟨a, ha⟩ : ∃ a, a = l.any negB := ⟨_, rfl⟩
  rw [← hs, ← ha] at hg
  have HG := Aside0.mk hg
  have HS := Aside0.mk hs
  have HA := Aside0.mk ha
  clear hg hs ha
  by_cases hl : (l.length : Int) > 1024
  · have hd : decide ((l.length : Int) > 1024) = true := by simp [hl]
    have hd2 : decide (1024 < l.length) = true := by simp; omega
    have hg : g = 3 := by rw [HG.out, if_pos hl]
    subst hg
    go_enter Try.func45, Try.ntmps45
    go_wp2_with fail
    all_goals (try go_wp2)
    go_ret
    exact ⟨rfl, Below.refl _ _⟩
  · have hd2 : decide (1024 < l.length) = false := by simp; omega
    have hg : g = if s = true then (if a = true then 9 else 0) else 9 := by rw [HG.out, if_neg hl]
    have HG2 := Aside0.mk hg
    clear hg HG
    have hf : s = false ∧ g = 9 ∨ s = true ∧ a = true ∧ g = 9 ∨ s = true ∧ a = false ∧ g = 0 := by
      have h := HG2.out
      cases s <;> cases a <;> simp_all
    rcases hf with ⟨rfl, rfl⟩ | ⟨rfl, rfl, rfl⟩ | ⟨rfl, rfl, rfl⟩
    all_goals (go_enter Try.func45, Try.ntmps45)
    all_goals (go_wp2_with fail)
    all_goals (go_wp2_with (first | (go_at_call 67; refine (sorted.calls _ _ _ _ HR.out hc).mono ?_; rintro e w1 ⟨rfl, hb⟩; rw [← HS.out]; have HB := Aside0.mk hb; clear hb) | (go_at_call 69; refine (neg_any.calls _ _ _ _ (k105_C_below HR.out HB.out (Nat.le_refl _)) hc).mono ?_; rintro e w2 ⟨rfl, hb⟩; rw [← HA.out]; have HB2 := Aside0.mk (below_b HB.out hb HB.out.size); clear hb)))
    all_goals go_ret
    · exact ⟨rfl, HB.out⟩
    · exact ⟨rfl, HB2.out⟩
    · exact ⟨rfl, HB2.out⟩
/-- What the ring lacks to be walked. -/
def rAskL (l : List S105) : Int := if wholeL l = 0 then (if (l.length : Int) = 0 then 71 else 0) else wholeL l
set_option maxRecDepth 100000 in
set_option maxHeartbeats 2000000 in
theorem rask.calls (A : Option Addr) (c : Nat) (l : List S105) (w : World) (hr : Kd.C k105 w A l.length l) (hc : l.length ≤ c) :
    Calls Try.prog 71 #[.slice A l.length c] w fun e w' => e = .returned (.int .i64 (rAskL l)) ∧ Below w.heap.size w w' := by
  have HR := Aside0.mk hr
  have hlen : l.length ≤ 9223372036854775807 := hr.2.1
  clear hr
  unfold rAskL
  obtain ⟨g, hg⟩ : ∃ g, g = wholeL l := ⟨_, rfl⟩
  rw [← hg]
  have HG := Aside0.mk hg
  clear hg
  go_enter Try.func71, Try.ntmps71
  by_cases h0 : g = 0
  · by_cases hl : (l.length : Int) = 0
    · rw [if_pos h0, if_pos hl]
      have hd : (l.length == 0) = true := by rw [beq_iff_eq]; omega
      go_wp2_with (first | (go_at_call 45; refine (whole.calls _ _ _ _ HR.out hc).mono ?_; rintro e w1 ⟨rfl, hb⟩; rw [← HG.out]; have HB := Aside0.mk hb; clear hb))
      go_ret
      exact ⟨rfl, HB.out⟩
    · rw [if_pos h0, if_neg hl]
      go_wp2_with (first | (go_at_call 45; refine (whole.calls _ _ _ _ HR.out hc).mono ?_; rintro e w1 ⟨rfl, hb⟩; rw [← HG.out]; have HB := Aside0.mk hb; clear hb))
      go_ret
      exact ⟨rfl, HB.out⟩
  · rw [if_neg h0]
    go_wp2_with (first | (go_at_call 45; refine (whole.calls _ _ _ _ HR.out hc).mono ?_; rintro e w1 ⟨rfl, hb⟩; rw [← HG.out]; have HB := Aside0.mk hb; clear hb))
    go_ret
    exact ⟨rfl, HB.out⟩
set_option maxHeartbeats 400000 in
theorem bg1.calls (x : S105) (h : Int) (w : World) :
    Calls Try.prog 89 #[.agg #[.int .u64 x.f0, .int .i64 x.f1], .int .u64 h] w fun e w' => e = .returned (.int .i64 (cmpI x.f0 h)) ∧ Below w.heap.size w w' := by
  have HC := fun W => cmp_Compare_uint64.calls x.f0 h (cmpI x.f0 h) W (cmpU_f _ _)
  have HB := fun W : World => Below.refl W.heap.size W
  go_enter Try.func89, Try.ntmps89
  go_wp2_with (first | (go_at_call 86; refine (HC _).mono ?_; rintro e w1 ⟨rfl, ⟨nd, rfl⟩⟩))
  go_ret
  exact ⟨rfl, below_drewN (below_alloc (Below.refl _ _) _) _⟩
set_option maxRecDepth 100000 in
set_option maxHeartbeats 2000000 in
theorem search.calls (A : Option Addr) (c : Nat) (l : List S105) (h : Int) (w : World) (hr : Kd.C k105 w A l.length l) (hc : l.length ≤ c) (hl : l.length ≤ 1024) (hs : ∀ i j : Nat, i ≤ j → j < l.length → (rd_T105 l i).f0 ≤ (rd_T105 l j).f0) :
    Calls Try.prog 88 #[.slice A l.length c, .int .u64 h, .func (.func 89) #[] #[]] w fun e w' => (∃ (n : Nat) (b : Bool), e = .returned (.tuple #[.int .i64 n, .bool b]) ∧ n ≤ l.length ∧ (∀ i : Nat, i < n → (rd_T105 l i).f0 < h) ∧ (∀ i : Nat, n ≤ i → i < l.length → h ≤ (rd_T105 l i).f0)) ∧ Below w.heap.size w w' := by
  have HR := Aside0.mk hr
  have HS := Aside0.mk hs
  have HB := Aside0.mk (Below.refl w.heap.size w)
  clear hr hs
  go_enter Try.func88, Try.ntmps88
  go_wp2_with fail
  go_loopw [9, 10, 11] (fun v9 v10 v11 W => ∃ i j : Nat, i ≤ j ∧ j ≤ l.length ∧ v9 = .int .i64 (i : Int) ∧ v10 = .int .i64 (j : Int) ∧ Aside0 (∀ q : Nat, q < i → (rd_T105 l q).f0 < h) ∧ Aside0 (∀ q : Nat, j ≤ q → q < l.length → h ≤ (rd_T105 l q).f0) ∧ Aside0 (Below w.heap.size w W)) (fun u v _ _ => (intOf v).toNat - (intOf u).toNat)
  case atStart => exact ⟨0, l.length, by omega, by omega, rfl, rfl, ⟨fun q hq => by omega⟩, ⟨fun q h1 h2 => by omega⟩, HB⟩
  case round =>
    clear HB
    obtain ⟨i, j, hij, hj, rfl, rfl, HI, HJ, HB⟩ := hrel
    by_cases hlt : i < j
    · have hm0 : (0 : Int) ≤ ((i : Int) + (j : Int)) / 2 := by omega
      have hm1 : ((i : Int) + (j : Int)) / 2 < (l.length : Int) := by omega
      have HRw := Aside0.mk (k105_C_below HR.out HB.out (Nat.le_refl _))
      obtain ⟨ad, e1, hx0, hx1⟩ := at_T105 HRw.out (((i : Int) + (j : Int)) / 2) hm0 hm1
      cases e1
      obtain ⟨x, hx⟩ : ∃ x, x = rd_T105 l (((i : Int) + (j : Int)) / 2) := ⟨_, rfl⟩
      rw [← hx] at hx0 hx1
      rw [show (((i : Int) + (j : Int)) / 2).toNat = (i + j) / 2 by omega] at hx0 hx1
      obtain ⟨m, hm⟩ : ∃ m : Nat, (m : Int) = ((i : Int) + (j : Int)) / 2 := ⟨(((i : Int) + (j : Int)) / 2).toNat, by omega⟩
      rw [← hm] at hx
      have HX := Aside0.mk hx
      have HM := Aside0.mk hm
      clear hx hm
      obtain ⟨o, ho⟩ : ∃ o, o = cmpI x.f0 h := ⟨_, rfl⟩
      have hoo : o = -1 ∧ x.f0 < h ∨ o = 0 ∧ h ≤ x.f0 ∨ o = 1 ∧ h ≤ x.f0 := by
        rw [ho]; unfold cmpI; split
        · exact .inl ⟨rfl, by assumption⟩
        · split
          · exact .inr (.inr ⟨rfl, by omega⟩)
          · exact .inr (.inl ⟨rfl, by omega⟩)
      have HO := Aside0.mk ho
      clear ho
      have hup : h ≤ x.f0 → ∀ q : Nat, m ≤ q → q < l.length → h ≤ (rd_T105 l q).f0 := fun hh q h1 h2 => by
        have := HS.out m q h1 h2
        rw [HX.out] at hh
        omega
      have hdn : x.f0 < h → ∀ q : Nat, q < m + 1 → (rd_T105 l q).f0 < h := fun hh q h1 => by
        have := HS.out q m (by omega) (by have := HM.out; omega)
        rw [HX.out] at hh
        omega
      have HUP := Aside0.mk hup
      have HDN := Aside0.mk hdn
      clear hup hdn
      rcases hoo with ⟨rfl, hc1⟩ | ⟨rfl, hc1⟩ | ⟨rfl, hc1⟩
      all_goals (have HC := Aside0.mk hc1; clear hc1; go_wp2_with (first | (go_at_call 89; refine (bg1.calls x h _).mono ?_; rintro e w1 ⟨rfl, hb⟩; rw [← HO.out]; have HB1 := Aside0.mk (below_b HB.out hb HB.out.size); clear hb)))
      · rw [← HM.out]
        refine ⟨⟨m + 1, j, by have := HM.out; omega, hj, by rw [Int.natCast_add]; rfl, rfl, ⟨HDN.out HC.out⟩, HJ, HB1⟩, ?_⟩
        show (j : Int).toNat - ((m : Int) + 1).toNat < (j : Int).toNat - (i : Int).toNat
        have := HM.out
        omega
      · rw [← HM.out]
        refine ⟨⟨i, m, by have := HM.out; omega, by have := HM.out; omega, rfl, rfl, HI, ⟨HUP.out HC.out⟩, HB1⟩, ?_⟩
        show (m : Int).toNat - (i : Int).toNat < (j : Int).toNat - (i : Int).toNat
        have := HM.out
        omega
      · rw [← HM.out]
        refine ⟨⟨i, m, by have := HM.out; omega, by have := HM.out; omega, rfl, rfl, HI, ⟨HUP.out HC.out⟩, HB1⟩, ?_⟩
        show (m : Int).toNat - (i : Int).toNat < (j : Int).toNat - (i : Int).toNat
        have := HM.out
        omega
    · by_cases hn : i < l.length
      · have hn0 : (0 : Int) ≤ (i : Int) := by omega
        have hn1 : (i : Int) < (l.length : Int) := by omega
        have HRw := Aside0.mk (k105_C_below HR.out HB.out (Nat.le_refl _))
        obtain ⟨ad, e1, hx0, hx1⟩ := at_T105 HRw.out (i : Int) hn0 hn1
        cases e1
        rw [Int.toNat_natCast] at hx0 hx1
        obtain ⟨x, hx⟩ : ∃ x, x = rd_T105 l (i : Int) := ⟨_, rfl⟩
        rw [← hx] at hx0 hx1
        clear hx
        go_wp2_with (first | (go_at_call 89; refine (bg1.calls x h _).mono ?_; rintro e w1 ⟨rfl, hb⟩; have HB1 := Aside0.mk (below_b HB.out hb HB.out.size); clear hb))
        go_ret2
        exact ⟨⟨i, _, rfl, by omega, HI.out, fun q h1 h2 => HJ.out q (by omega) h2⟩, HB1.out⟩
      · go_wp2_with fail
        go_ret2
        exact ⟨⟨i, _, rfl, by omega, HI.out, fun q h1 h2 => HJ.out q (by omega) h2⟩, HB.out⟩
theorem made_at {w w1 : World} {o : Obj} (hb : Below (w.alloc o).heap.size (w.alloc o) w1) : w1.heap[w.heap.size]? = some o := by
  rw [hb.block w.heap.size (by rw [World.size_alloc]; omega)]
  show (w.heap.push o)[w.heap.size]? = some o
  exact Array.getElem?_push_size
set_option maxRecDepth 100000 in
set_option maxHeartbeats 2000000 in
theorem begins.calls (A : Option Addr) (c : Nat) (l : List S105) (h : Int) (w : World) (hr : Kd.C k105 w A l.length l) (hc : l.length ≤ c) (hl : l.length ≤ 1024) (hs : ∀ i j : Nat, i ≤ j → j < l.length → (rd_T105 l i).f0 ≤ (rd_T105 l j).f0) :
    Calls Try.prog 72 #[.slice A l.length c, .int .u64 h] w fun e w' => (∃ n : Nat, e = .returned (.agg #[.slice A l.length c, .int .i64 n]) ∧ n ≤ l.length ∧ (∀ i : Nat, i < n → (rd_T105 l i).f0 < h) ∧ (∀ i : Nat, n ≤ i → i < l.length → h ≤ (rd_T105 l i).f0)) ∧ Below w.heap.size w w' := by
  have HR := Aside0.mk hr
  have HS := Aside0.mk hs
  clear hr hs
  go_enter Try.func72, Try.ntmps72
  go_wp2_with (first | (go_at_call 88; refine (search.calls A c l h _ (k105_C_below HR.out (below_alloc (Below.refl _ _) _) (Nat.le_refl _)) hc hl HS.out).mono ?_; rintro e w1 ⟨⟨n, b, rfl, hn1, hn2, hn3⟩, hb⟩; have HN1 := Aside0.mk hn1; have HN2 := Aside0.mk hn2; have HN3 := Aside0.mk hn3; have HB1 := Aside0.mk hb; have hz := made_at hb; have HZ := Aside0.mk hz; have hz0 := zcell hz 0 _ rfl; have hz1 := zcell hz 1 _ rfl; have hf0 := zfree hz 0; have hf1 := zfree hz 1; clear hn1 hn2 hn3 hb hz))
  (try simp only [Exit.inBlock, Exit.then])
  refine bodyPost_ret (v := .agg #[.slice A l.length c, .int .i64 n]) ?_ rfl ?_
  · exact results_single rfl (.cell w.heap.size 140 #[.slice A l.length c, .int .i64 n] (0, 0) _ rfl (zset (zset HZ.out 0 _) 1 _) Try.underlying140 rfl (by exact (by kernel_rfl : (Try.prog.info? 140).map (·.size) = some 2)) .nil)
  · refine ⟨⟨n, rfl, HN1.out, HN2.out, HN3.out⟩, ?_⟩
    exact Below.setCell (Below.setCell ((below_alloc (Below.refl _ _) _).trans (HB1.out.mono (by rw [World.size_alloc]; omega))) (Nat.le_refl _) _) (Nat.le_refl _) _
set_option maxHeartbeats 400000 in
theorem ids.calls (A : Option Addr) (c n : Nat) (i : Int) (w : World) :
    Calls Try.prog 73 #[.agg #[.slice A n c, .int .i64 i]] w fun e w' => e = .returned (.func (.func 90) #[] #[.pointer (some ⟨w.heap.size, 0, none⟩)]) ∧ w' = w.alloc (.cells #[.slice A n c, .int .i64 i] 140) := by
  go_enter Try.func73, Try.ntmps73
  go_wp2_with fail
  go_ret
  exact ⟨rfl, rfl⟩
section
attribute [local go_sem] Oper.semAt_some
/-- AN int THAT IS WITHIN ITS RANGE. -/
abbrev I64 := { x : Int // (Lit.int .i64 x).wf = true }
/-- What a round keeps: what lay below, and the box. -/
def KpR (n0 B : Nat) (W W' : World) : Prop := Below n0 W W' ∧ W'.heap[B]? = W.heap[B]?
theorem KpR.t {n0 B : Nat} {A C D : World} (h : KpR n0 B A C) (k : KpR n0 B C D) : KpR n0 B A D := ⟨h.1.trans k.1, k.2.trans h.2⟩
theorem KpR.b {n0 B : Nat} {w : World} (hn : n0 ≤ w.heap.size) (hB : B < w.heap.size) (W : World) (l : Nat) (o o' : Obj) (hl : w.heap.size ≤ l) (h : W.heap[l]? = some o) (h1 : o.isCells = false) (h2 : o.isWalk = false) : KpR n0 B W (W.putObj l o') :=
  ⟨belowK_b hn W l o o' hl h h1 h2, (grownBy_putObj' W l o').block B (by have := (Array.getElem?_eq_some_iff.1 h).1; omega) (by simp; omega)⟩
theorem upto_succ {α : Type} (f : Nat → α) (i : Nat) : (List.range (i + 1)).map f = (List.range i).map f ++ [f i] := by simp [List.range_succ]
theorem upto_prefix {α : Type} (f : Nat → α) {i n : Nat} (h : i < n) : (List.range i).map f ++ [f i] <+: (List.range n).map f := by
  obtain ⟨d, rfl⟩ : ∃ d, n = (i + 1) + d := ⟨n - (i + 1), by omega⟩
  rw [← upto_succ, List.range_add (n := i + 1) (m := d), List.map_append]
  exact List.prefix_append _ _
set_option maxRecDepth 100000 in
set_option maxHeartbeats 8000000 in
/-- The ring's round, from where it begins: each holder once around. -/
theorem round1_in (n : Nat) (hn : 1 ≤ n) (l B n0 : Nat) (A : Option Addr) (c s : Nat) (rows : List S105) (f : Nat → I64) (w0 : World)
    (hr : Kd.C k105 w0 A rows.length rows) (hw0 : w0.heap.size ≤ n0) (hc : rows.length ≤ c) (hl : rows.length ≤ 1024) (hs : s ≤ rows.length)
    (hf : ∀ i : Nat, (f i).1 = (rd_T105 rows (((s + i) % rows.length : Nat) : Int)).f1) (J Jx : List I64 → World → Prop) (hJd : ∀ pre W, J pre W → J pre W.drew)
    (hY : ∀ pre x W, J pre W → pre.length < rows.length → YieldAt Fence.wide (n - 1) Try.prog l #[.int .i64 x.1] W fun e W' =>
      (e = .returned (.bool true) ∧ J (pre ++ [x]) W' ∧ KpR n0 B W W') ∨ (e = .returned (.bool false) ∧ Jx (pre ++ [x]) W'))
    (W : World) (hB : W.heap[B]? = some (.cells #[.slice A rows.length c, .int .i64 (s : Int)] 140 (0, 0))) (hb : Below n0 w0 W) (h0 : J [] W) :
    CallsIn Fence.wide n Try.prog 90 #[.func (.yield l) #[] #[], .pointer (some ⟨B, 0, none⟩)] W fun e W' => (∃ v, e = .returned v) ∧
      ((∃ ys, ys = (List.range rows.length).map f ∧ J ys W') ∨ (∃ pre, pre <+: (List.range rows.length).map f ∧ Jx pre W')) := by
  have HR := Aside0.mk hr
  have HBX := Aside0.mk hB
  have HF := Aside0.mk hf
  have HBB := Aside0.mk hb
  have hz0 := zcell hB 0 _ rfl
  have hz1 := zcell hB 1 _ rfl
  clear hr hB hf hb
  refine callsIn_of_wp Try.func90 rfl trivial ?_ rfl
  simp only [Try.ntmps90, List.size_toArray, List.length_cons, List.length_nil, Nat.reduceAdd, Nat.reduceSub, Array.replicate_succ, Array.replicate_zero, List.push_toArray, List.append_toArray, List.nil_append, List.cons_append]
  gi_wp2
  clear hz0 hz1
  gi_loopw [3, 7] (fun v3 v7 wr => ∃ i : Nat, i ≤ rows.length ∧ v7 = .int .i64 (i : Int) ∧ J ((List.range i).map f) wr ∧ Aside0 (wr.heap[B]? = some (.cells #[.slice A rows.length c, .int .i64 (s : Int)] 140 (0, 0))) ∧ Aside0 (Below n0 w0 wr))
    (fun _ v7 _ => rows.length - (intOf v7).toNat)
  case atStart =>
    exact ⟨0, by omega, rfl, h0, HBX, HBB⟩
  case round =>
    clear HBX HBB
    obtain ⟨i, hi, rfl, hJ, HBX, HBB⟩ := hrel
    by_cases hlt : i < rows.length
    · obtain ⟨fn, tmps, assign, body, hy, hR⟩ := (hY ((List.range i).map f) (f i) wr.drew (hJd _ _ hJ) (by simpa using hlt)).mono (R' := fun e W' => ∃ b, e = .returned (.bool b) ∧ (b = true ∧ J ((List.range i).map f ++ [f i]) W' ∧ KpR n0 B wr.drew W' ∨ b = false ∧ Jx ((List.range i).map f ++ [f i]) W')) (by
        rintro e W' (⟨rfl, h1, h2⟩ | ⟨rfl, h1⟩)
        · exact ⟨true, rfl, .inl ⟨rfl, h1, h2⟩⟩
        · exact ⟨false, rfl, .inr ⟨rfl, h1⟩⟩)
      have hz0 := zcell HBX.out 0 _ rfl
      have hz1 := zcell HBX.out 1 _ rfl
      have hsum0 : (0 : Int) ≤ (s : Int) + (i : Int) := by omega
      have hne : ((rows.length : Nat) : Int) ≠ 0 := by omega
      have hnil : ¬ rows = [] := by rintro rfl; simp at hlt
      have hnl0 : ¬ rows.length = 0 := by omega
      obtain ⟨m, hm⟩ : ∃ m : Nat, m = (s + i) % rows.length := ⟨_, rfl⟩
      have hml : m < rows.length := by rw [hm]; exact Nat.mod_lt _ (by omega)
      have hm0 : (0 : Int) ≤ (m : Int) := by omega
      have hm1 : (m : Int) < (rows.length : Int) := by omega
      have hmod : Int.tmod ((s : Int) + (i : Int)) (rows.length : Int) = (m : Int) := by
        rw [Int.tmod_eq_emod_of_nonneg hsum0, hm]
        rfl
      have hmod2 : ((s : Int) + (i : Int)) % (rows.length : Int) = (m : Int) := by
        rw [hm]; rfl
      have hwr : IntKind.i64.wrap ((s : Int) + (i : Int)) = (s : Int) + (i : Int) := by rw [IntKind.wrap_i64]; omega
      have HRw := Aside0.mk (k105_C_below HR.out HBB.out hw0)
      obtain ⟨ad, e1, hx0, hx1⟩ := at_T105 HRw.out (m : Int) hm0 hm1
      cases e1
      rw [Int.toNat_natCast] at hx0 hx1
      rw [hm, ← HF.out i, ← hm] at hx1
      have HM := Aside0.mk hm
      clear hm
      gi_wp2
      gi_region_with (with_reducible refine RoundIn.mono hR ?_; rintro e W3 ⟨b, rfl, hp⟩; have HP := Aside0.mk hp; clear hp; dsimp only)
      all_goals (clear hJ hz0 hz1 hx0 hx1 hy hR)
      all_goals (cases b)
      all_goals (first
        | (have hJx := (HP.out.resolve_left (fun h => by cases h.1)).2
           gi_wp2
           refine bodyPost_ret (results_none rfl _ _ _) rfl ?_
           exact ⟨⟨_, rfl⟩, .inr ⟨_, upto_prefix f hlt, hJx⟩⟩)
        | (have hJ2 := (HP.out.resolve_right (fun h => by cases h.1)).2
           have HJ2 := Aside0.mk hJ2
           clear hJ2
           gi_wp2
           refine ⟨⟨i + 1, hlt, by rw [Int.natCast_add]; rfl, by rw [upto_succ]; exact HJ2.out.1, ⟨HJ2.out.2.2.trans HBX.out⟩, ⟨(Below.drew HBB.out).trans HJ2.out.2.1⟩⟩, ?_⟩
           show rows.length - ((i : Int) + 1).toNat < rows.length - (i : Int).toNat
           omega))
    · gi_wp2
      refine bodyPost_end (results_none rfl _ _ _) rfl ?_
      exact ⟨⟨_, rfl⟩, .inl ⟨_, by rw [show i = rows.length by omega], hJ⟩⟩
end
theorem wpListIn_lookup_own_bool {H : Type} {F : Fence} {nF : Nat} {P : Program} (w : World) {ops : Array Oper} {rest : List Oper} {o : Oper} {a : Act} {Q : Exit → Act → World → Prop}
    (hg : o.guard = none) (m x : Operand) (t : TypeId) (hop : o.op = Op.lookup t m x false)
    (k e : TypeId) (K : Maps.Keyed P k) (ht : P.underlying t = some (.map k e)) (he : P.underlying e = some .bool) (hz : (zeroValue e).run P w = .ok (.bool false) w) (b n : Nat) (D : DataW H)
    (hm : a.eval m = .map (some b)) (hown : w.ownsMap P k (plainElem P e) b n D) (key : Value) (kl : Lit) (hx : a.eval x = key) (hkey : keyOf P k key = some kl)
    (c : Bool) (hat : D.atKey kl (.lit (.bool false)) = .lit (.bool c)) (hK : wpListIn F nF P ops Q rest (a.put o.dst (.bool c)) w) :
    wpListIn F nF P ops Q (o :: rest) a w := by
  refine wpListIn_plain hg fun K' hK' => ?_
  obtain ⟨v, ps, hrun, hv⟩ := hown.lookup K ht hz (plainElem_bool he false) hkey
  rw [hat] at hv
  have hvc : v = .bool c := by
    unfold plainElem at hv
    rw [he] at hv
    cases v <;> simp at hv
    rw [hv.1]
  subst hvc
  unfold Oper.wpIn
  refine ⟨by simp [Oper.about, hop], ?_⟩
  rw [Oper.semAt_plain F _ _ (by rw [hop]; intro c hc'; cases hc')]
  simp [execOp, hop, hm, hx, hrun, Result.andThen]
  exact hK' _ _ hK
/-- What came, each once. -/
def ddL (pre : List I64) : List Int := pre.foldl (fun out x => if out.contains x.1 then out else out ++ [x.1]) []
theorem ddL_snoc (pre : List I64) (x : I64) : ddL (pre ++ [x]) = if (ddL pre).contains x.1 then ddL pre else ddL pre ++ [x.1] := by simp [ddL]
theorem ddL_len0 (pre : List I64) : ∀ out : List Int, (pre.foldl (fun out x => if out.contains x.1 then out else out ++ [x.1]) out).length ≤ out.length + pre.length := by
  induction pre with
  | nil => intro out; simp
  | cons x t ih =>
    intro out
    rw [List.foldl_cons]
    refine Nat.le_trans (ih _) ?_
    split
    · simp
    · simp; omega
theorem ddL_len (pre : List I64) : (ddL pre).length ≤ pre.length := Nat.le_trans (ddL_len0 pre []) (by simp)
/-- The map of what has come. -/
def Seen (W : World) (b : Nat) (pre : List I64) : Prop := ∃ D : DataW Unit, W.ownsMap Try.prog 3 (plainElem Try.prog 4) b pre.length D ∧ Maps.IsMap D ∧ ∀ x : I64, D.atKey (.int .i64 x.1) (.lit (.bool false)) = .lit (.bool ((ddL pre).contains x.1))
theorem Seen.put {pre : List I64} {x : I64} {D : DataW Unit} (hm : Maps.IsMap D) (h : ∀ x : I64, D.atKey (.int .i64 x.1) (.lit (.bool false)) = .lit (.bool ((ddL pre).contains x.1))) :
    Maps.IsMap (D.put (.int .i64 x.1) (.lit (.bool true))) ∧ ∀ y : I64, (D.put (.int .i64 x.1) (.lit (.bool true))).atKey (.int .i64 y.1) (.lit (.bool false)) = .lit (.bool ((ddL (pre ++ [x])).contains y.1)) := by
  refine ⟨?_, fun y => ?_⟩
  · exact hm.put _ _
  · by_cases hy : y.1 = x.1
    · rw [hy, Maps.atKey_put_same hm (show WideAt.IsKeyLit (.int .i64 x.1) from trivial), ddL_snoc]
      split
      · rename_i hc
        rw [hc]
      · simp
    · rw [Maps.atKey_put_other (by simpa using hy), h y, ddL_snoc]
      congr 2
      split
      · rfl
      · simp [hy]
theorem srt_pairs (l : List S105) : ∀ n : Nat, srtF l n = true → ∀ i : Nat, i < n → (rd_T105 l (i : Int)).f0 ≤ (rd_T105 l ((i + 1 : Nat) : Int)).f0
  | 0, _, i, hi => by omega
  | n + 1, h, i, hi => by
    rw [srtF] at h
    split at h
    · cases h
    · rename_i ho
      by_cases hin : i < n
      · exact srt_pairs l n h i hin
      · obtain rfl : i = n := by omega
        unfold ordI at ho
        split at ho
        · exact absurd (by decide) ho
        · omega
theorem srt_le (l : List S105) (h : srtF l (l.length - 1) = true) (i j : Nat) (hij : i ≤ j) (hj : j < l.length) : (rd_T105 l (i : Int)).f0 ≤ (rd_T105 l (j : Int)).f0 := by
  obtain ⟨d, rfl⟩ : ∃ d, j = i + d := ⟨j - i, by omega⟩
  clear hij
  induction d with
  | zero => exact Int.le_refl _
  | succ d ih => exact Int.le_trans (ih (by omega)) (srt_pairs l _ h (i + d) (by omega))
theorem wf_rd (l : List S105) (hw : ∀ x ∈ l, (Lit.int .i64 x.f1).wf = true) (i : Nat) : (Lit.int .i64 (rd_T105 l (i : Int)).f1).wf = true := by
  unfold rd_T105
  rw [Int.toNat_natCast, List.getD_eq_getElem?_getD]
  by_cases h : i < l.length
  · rw [List.getElem?_eq_getElem h]; exact hw _ (List.getElem_mem _)
  · rw [List.getElem?_eq_none (by omega)]; decide
section
attribute [local go_sem] Oper.semAt_some
theorem grown_drew (w : World) : w.grownBy w.drew none := ⟨rfl, rfl, rfl, Nat.le_refl _, fun _ _ _ => rfl⟩
theorem infoI3 : (Try.prog.info? 3).map (fun i => (i.zero, i.size, i.bytes)) = some (some (.int .i64 0), 1, 8) := by kernel_rfl
theorem cells_kept {W W' : World} {row : Option Nat} {B : Nat} {cs : Array Value} {t : TypeId} {fr : Nat × Nat} (h : W.heap[B]? = some (.cells cs t fr)) (hg : W.grownBy W' row) (hr : ∀ r, row = some r → ∃ o : Obj, W.heap[r]? = some o ∧ o.isCells = false) : W'.heap[B]? = some (.cells cs t fr) :=
  (hg.block B (Array.getElem?_eq_some_iff.1 h).1 (fun e => by obtain ⟨o, ho, hc⟩ := hr B e.symm; rw [h] at ho; cases ho; cases hc)).trans h
theorem Seen.kept {W W' : World} {row : Option Nat} {b : Nat} {pre : List I64} (h : Seen W b pre) (hg : W.grownBy W' row) (hne : some b ≠ row) : Seen W' b pre := by
  obtain ⟨D, h1, h2, h3⟩ := h
  exact ⟨D, h1.kept hg hne, h2, h3⟩
theorem map_not_row {W : World} {b : Nat} {es : Array MapEntry} {ck : Nat} (h : W.heap[b]? = some (.map es ck)) {base size k : Nat} {e : TypeId} {v : Value} {xs : List Value} (hr : W.ownsRow base e size v k xs) : some b ≠ v.ownBlock := by
  rcases hr.2 with ⟨rfl, _⟩ | ⟨g, cap, cur, rfl, _, hgb, _⟩
  · simp [Value.ownBlock]
  · intro e'
    obtain rfl : b = g := by simpa [Value.ownBlock] using e'
    have := h.symm.trans hgb
    simp at this
theorem cells_not_row {W : World} {B : Nat} {cs : Array Value} {t e : TypeId} (h : W.heap[B]? = some (.cells cs t (0, 0))) (hte : t ≠ e) {base size k : Nat} {v : Value} {xs : List Value} (hr : W.ownsRow base e size v k xs) : some B ≠ v.ownBlock := by
  rcases hr.2 with ⟨rfl, _⟩ | ⟨g, cap, cur, rfl, _, hgb, _⟩
  · simp [Value.ownBlock]
  · intro e'
    obtain rfl : B = g := by simpa [Value.ownBlock] using e'
    have := h.symm.trans hgb
    simp at this
    exact hte this.2
theorem round_stops (n : Nat) (hn : 1 ≤ n) (B n0 : Nat) (A : Option Addr) (c s : Nat) (rows : List S105) (f : Nat → I64) (w0 w : World)
    (hr : Kd.C k105 w0 A rows.length rows) (hw0 : w0.heap.size ≤ n0) (hc : rows.length ≤ c) (hl : rows.length ≤ 1024) (hs : s ≤ rows.length)
    (hf : ∀ i : Nat, (f i).1 = (rd_T105 rows (((s + i) % rows.length : Nat) : Int)).f1) (hB : w.heap[B]? = some (.cells #[.slice A rows.length c, .int .i64 (s : Int)] 140 (0, 0))) (hb : Below n0 w0 w) (hn0 : n0 ≤ w.heap.size) :
    SeqStopsK Fence.wide n Try.prog 90 #[.pointer (some ⟨B, 0, none⟩)] (fun x : I64 => #[Value.int .i64 x.1]) (KpR n0 B) (fun ys => ys = (List.range rows.length).map f) (fun pre => pre <+: (List.range rows.length).map f) rows.length w := fun l J Jx W hW hJ _ hY h0 =>
  round1_in n hn l B n0 A c s rows f w0 hr hw0 hc hl hs hf J Jx (fun pre W h => hJ pre W _ none h (grown_drew W) (fun r e => by cases e)) hY W ((hW.block B (Array.getElem?_eq_some_iff.1 hB).1).trans hB) (hb.trans (hW.mono hn0)) h0
set_option maxRecDepth 100000 in
set_option maxHeartbeats 2000000 in
theorem walk.calls (A : Option Addr) (c : Nat) (l : List S105) (h : Int) (w : World) (hr : Kd.C k105 w A l.length l) (hc : l.length ≤ c) (hw : ∀ x ∈ l, (Lit.int .i64 x.f1).wf = true) (hok : rAskL l = 0) (hl : l.length ≤ 1024) (hs : ∀ i j : Nat, i ≤ j → j < l.length → (rd_T105 l i).f0 ≤ (rd_T105 l j).f0) :
    Calls Try.prog 46 #[.slice A l.length c, .int .u64 h] w fun e w' => ∃ (v : Value) (s : Nat) (f : Nat → I64), e = .returned (.tuple #[v, .int .i64 0]) ∧ s ≤ l.length ∧ (∀ i : Nat, i < s → (rd_T105 l i).f0 < h) ∧ (∀ i : Nat, s ≤ i → i < l.length → h ≤ (rd_T105 l i).f0) ∧ (∀ i : Nat, (f i).1 = (rd_T105 l (((s + i) % l.length : Nat) : Int)).f1) ∧
      w'.ownsRow w.heap.size 3 1 v (ddL ((List.range l.length).map f)).length ((ddL ((List.range l.length).map f)).map (Value.int .i64)) ∧ Below w.heap.size w w' := by
  have HR := Aside0.mk hr
  have HW := Aside0.mk hw
  have HS := Aside0.mk hs
  have HOK := Aside0.mk hok
  have hmm := @run_makeMap Try.prog
  clear hr hw hs hok
  refine (callsIn_wide (n := 9)).1 ?_
  refine callsIn_of_wp_marks Try.func46 rfl trivial ?_ rfl
  simp only [Try.ntmps46, List.size_toArray, List.length_cons, List.length_nil, Nat.reduceAdd, Nat.reduceSub, Array.replicate_succ, Array.replicate_zero, List.push_toArray, List.append_toArray, List.nil_append, List.cons_append]
  gi_wp2_with (first
    | (refine ⟨trivial, ?_⟩; gi_at_call 71; refine (callsIn_wide.2 (rask.calls A c l _ HR.out hc)).mono ?_; rintro e w1 ⟨rfl, hb⟩; rw [HOK.out]; have HB1 := Aside0.mk hb; clear hb)
    | (refine ⟨trivial, ?_⟩; gi_at_call 72; have HRx := k105_C_below HR.out (HB1.out.trans ((((Below.refl w.heap.size w1).alloc HB1.out.size (.cells #[.slice none 0 0] 48)).alloc (by have := HB1.out.size; rw [World.size_alloc]; omega) (.map #[] 0)).alloc (by have := HB1.out.size; rw [World.size_alloc, World.size_alloc]; omega) (.cells #[.map (some (w1.heap.size + 1))] 137))) (Nat.le_refl _); refine (callsIn_wide.2 (begins.calls A c l h _ HRx hc hl HS.out)).mono ?_; rintro e w2 ⟨⟨s, rfl, hs1, hs2, hs3⟩, hb⟩; have HS1 := Aside0.mk hs1; have HS2 := Aside0.mk hs2; have HS3 := Aside0.mk hs3; have HB2 := Aside0.mk hb; clear hs1 hs2 hs3 hb HRx)
    | (refine ⟨trivial, ?_⟩; gi_at_call 73; refine (callsIn_wide.2 (ids.calls A c l.length _ _)).mono ?_; rintro e w3 ⟨rfl, rfl⟩))
  have hz1 : w.heap.size ≤ w1.heap.size := HB1.out.size
  have hz2 : w1.heap.size + 1 + 1 + 1 ≤ w2.heap.size := by have := HB2.out.size; simpa using this
  obtain ⟨W0, hW0⟩ : ∃ W0, W0 = (((w1.alloc (.cells #[.slice none 0 0] 48)).alloc (.map #[] 0)).alloc (.cells #[.map (some (w1.heap.size + 1))] 137)) := ⟨_, rfl⟩
  rw [← hW0] at HB2
  have hsz0 : W0.heap.size = w1.heap.size + 1 + 1 + 1 := by rw [hW0]; simp
  have bO : Boxed W0 w1.heap.size 48 (.slice none 0 0) := by rw [hW0]; exact ((Boxed.new w1 48 _).alloc _).alloc _
  have bX : Boxed W0 (w1.heap.size + 1 + 1) 137 (.map (some (w1.heap.size + 1))) := by
    have := Boxed.new ((w1.alloc (.cells #[.slice none 0 0] 48)).alloc (.map #[] 0)) 137 (.map (some (w1.heap.size + 1)))
    rw [World.size_alloc, World.size_alloc] at this
    rw [hW0]; exact this
  have hm0 : W0.ownsMap Try.prog 3 (plainElem (H := Unit) Try.prog 4) (w1.heap.size + 1) 0 (.map []) := by
    have := World.ownsMap_made (w1.alloc (.cells #[.slice none 0 0] 48)) Try.prog 3 (plainElem (H := Unit) Try.prog 4)
    rw [World.size_alloc] at this
    rw [hW0]; exact this.alloc _
  have hBW0 : Below w.heap.size w W0 := by
    rw [hW0]
    exact HB1.out.trans ((((Below.refl w.heap.size w1).alloc hz1 _).alloc (by rw [World.size_alloc]; omega) _).alloc (by rw [World.size_alloc, World.size_alloc]; omega) _)
  have bO2 : Boxed (w2.alloc (.cells #[.slice A l.length c, .int .i64 (s : Int)] 140)) w1.heap.size 48 (.slice none 0 0) := Boxed.alloc ((HB2.out.block _ (by omega)).trans bO) _
  have bX2 : Boxed (w2.alloc (.cells #[.slice A l.length c, .int .i64 (s : Int)] 140)) (w1.heap.size + 1 + 1) 137 (.map (some (w1.heap.size + 1))) := Boxed.alloc ((HB2.out.block _ (by omega)).trans bX) _
  have hm2 : (w2.alloc (.cells #[.slice A l.length c, .int .i64 (s : Int)] 140)).ownsMap Try.prog 3 (plainElem (H := Unit) Try.prog 4) (w1.heap.size + 1) 0 (.map []) :=
    (hm0.kept (w' := w2) (row := none) ⟨HB2.out.os, HB2.out.tape, HB2.out.output, HB2.out.size, fun k hk _ => HB2.out.block k hk⟩ (by simp)).alloc _
  have hBx2 : (w2.alloc (.cells #[.slice A l.length c, .int .i64 (s : Int)] 140)).heap[w2.heap.size]? = some (.cells #[.slice A l.length c, .int .i64 (s : Int)] 140 (0, 0)) := World.alloc_heap_new _ _
  have hBW2 : Below w.heap.size w (w2.alloc (.cells #[.slice A l.length c, .int .i64 (s : Int)] 140)) := (hBW0.trans (HB2.out.mono (by omega))).alloc (by omega) _
  have hsz2 : (w2.alloc (.cells #[.slice A l.length c, .int .i64 (s : Int)] 140)).heap.size = w2.heap.size + 1 := by simp
  generalize hw3 : w2.alloc (.cells #[.slice A l.length c, .int .i64 (s : Int)] 140) = w3 at *
  generalize hP1 : w1.heap.size = P1 at *
  generalize hBe : w2.heap.size = B at *
  obtain ⟨i0, hi, hy0, hy1, hy2⟩ := info_parts infoI3
  obtain ⟨f, hf⟩ : ∃ f : Nat → I64, ∀ i, f i = ⟨(rd_T105 l (((s + i) % l.length : Nat) : Int)).f1, wf_rd l HW.out _⟩ := ⟨fun i => ⟨(rd_T105 l (((s + i) % l.length : Nat) : Int)).f1, wf_rd l HW.out _⟩, fun i => rfl⟩
  have hf1 : ∀ i, (f i).1 = (rd_T105 l (((s + i) % l.length : Nat) : Int)).f1 := fun i => by rw [hf i]
  refine wpIn_rangeFunc_ownG rfl (by decide) (gf := 90) (lb := #[.pointer (some ⟨B, 0, none⟩)]) rfl trivial (enters_of Try.func90 (by kernel_rfl) rfl)
    (round_stops 8 (by decide) B w.heap.size A c s l f w w3 HR.out (Nat.le_refl _) hc hl HS1.out hf1 hBx2 hBW2 hBW2.size) (fun h k => KpR.t h k) (KpR.b hBW2.size (by omega)) (Below.refl _ _) (fun _ => rfl)
    (fun pre W => (∃ v, Boxed W P1 48 v ∧ W.ownsRow w.heap.size 3 1 v (ddL pre).length ((ddL pre).map (Value.int .i64)) ∧ True) ∧ (Boxed W (P1 + 1 + 1) 137 (.map (some (P1 + 1))) ∧ Seen W (P1 + 1) pre ∧ W.heap[B]? = some (.cells #[.slice A l.length c, .int .i64 (s : Int)] 140 (0, 0))) ∧ Below w.heap.size w W)
    (fun _ _ _ => False)
    (OwnFrom.and (Own.from (holdsRow_own w.heap.size P1 48 3 1 (fun pre => (ddL pre).length) (fun pre => (ddL pre).map (Value.int .i64)) (fun pre v => True)) _)
      (OwnFrom.and (fun pre W W' row hs hg hr => ⟨cells_kept hs.1 hg (fun r e => (hr r e).2), hs.2.1.kept hg (fun e => by have := (hr _ e.symm).1; omega), cells_kept hs.2.2 hg (fun r e => (hr r e).2)⟩) (ownFrom_below (Nat.le_refl _) hBW2.size)))
    (fun _ _ _ _ _ hs _ _ => hs)
    ⟨⟨_, bO2, World.ownsRow_nil _ _ _ _, trivial⟩, ⟨bX2, ⟨.map [], hm2, ⟨[], rfl⟩, fun x => rfl⟩, hBx2⟩, hBW2⟩
    (fun x => { tmps := #[.slice A l.length c, .int .u64 h, undef, undef, .slice none 0 0, .int .i64 0, .int .i64 0, .pointer (some ⟨P1, 0, none⟩), .pointer (some ⟨P1 + 1 + 1, 0, none⟩), .int .i64 x.1, .slice A l.length c, .int .i64 0, .int .i64 0, .bool false, undef, .map (some (P1 + 1)), .slice A l.length c, .int .u64 h, .agg #[.slice A l.length c, .int .i64 (s : Int)], .func (.func 90) #[] #[.pointer (some ⟨B, 0, none⟩)], .int .i64 x.1, undef, undef, undef, undef, undef, undef, undef, undef, undef, undef, undef], defers := [] }) ?assign ?body ?done ?stop
  case assign =>
    intro l' x W K hK
    gi_wp2
    exact hK
  case body =>
    rintro l' pre x W ⟨⟨v, hv, hrow, _⟩, ⟨hX, hseen, hbx⟩, hB⟩ hlt
    obtain ⟨D, hown, hmap, hat⟩ := hseen
    have hc1 := hv.cell
    have hcX := hX.cell
    have hpl := ddL_len pre
    have hmx : pre.length < maxLen := Nat.lt_of_lt_of_le hlt (Nat.le_trans hl (by decide))
    have HAT := hat x
    obtain ⟨hm', hat'⟩ := Seen.put (x := x) hmap hat
    have hmapB := hown
    obtain ⟨es, ck, hmb, _⟩ := hmapB
    have hPM : P1 ≠ P1 + 1 := by omega
    cases hin : (ddL pre).contains x.1 with
    | true =>
      rw [hin] at HAT
      gi_wp2_with (first
        | (gi_at_lookup; refine wpListIn_lookup_own_bool _ rfl _ _ 137 rfl 3 4 (Maps.int_keyed Try.underlying3) Try.underlying137 Try.underlying4 (Try.zeroValue4 _) (P1 + 1) pre.length D rfl hown _ _ rfl (Maps.keyOf_int_mk Try.underlying3 x.2) true HAT ?_)
        | (gi_at_mapUpdate; refine wpListIn_mapUpdate_own _ rfl _ _ _ 137 rfl 3 4 (Maps.int_keyed Try.underlying3) Try.underlying137 _ (P1 + 1) pre.length D rfl hown hmx _ _ _ rfl rfl (Maps.keyOf_int_mk Try.underlying3 x.2) _ [] (plainElem_bool Try.underlying4 true) ?_; intro w5 hown5 hgrow5))
      have hdd : ddL (pre ++ [x]) = ddL pre := by rw [ddL_snoc, if_pos hin]
      have hBlt : B < W.heap.size := (Array.getElem?_eq_some_iff.1 hbx).1
      have hb5 : w5.heap[B]? = W.heap[B]? := hgrow5.block B hBlt (by intro e; injection e with e; omega)
      exact ⟨KeepsFrom.of_grownBy hgrow5 (fun j e => by cases e; omega), ⟨(Below.refl _ W).grown hgrow5 hB.size (fun k e => by cases e; omega), hb5⟩,
        ⟨v, hv.kept hgrow5 (by intro e; injection e with e; omega), by rw [hdd]; exact hrow.kept hgrow5 (.inr (map_not_row hmb hrow).symm), trivial⟩,
        ⟨hX.kept hgrow5 (by intro e; injection e with e; omega), ⟨_, by rw [List.length_append]; exact hown5, hm', hat'⟩, hb5.trans hbx⟩,
        hB.grown hgrow5 hB.size (fun k e => by cases e; omega)⟩
    | false =>
      rw [hin] at HAT
      gi_wp2_with (first
        | (gi_at_lookup; refine wpListIn_lookup_own_bool _ rfl _ _ 137 rfl 3 4 (Maps.int_keyed Try.underlying3) Try.underlying137 Try.underlying4 (Try.zeroValue4 _) (P1 + 1) pre.length D rfl hown _ _ rfl (Maps.keyOf_int_mk Try.underlying3 x.2) false HAT ?_)
        | (gi_at_builtin; refine wpListIn_append_own _ rfl _ _ 48 rfl w.heap.size 3 i0 (.int .i64 0) 1 8 Try.underlying48 hi hy0 hy1 hy2 rfl (by decide) _ _ _ rfl (hrow.alloc _) ⟨W.heap.size, 0, none⟩ 1 1 [.int .i64 x.1] rfl rfl (cell_one_new _ _ _) (by simp [Value.oneCell']) (by have : maxLen = 9223372036854775807 := rfl; omega) (by omega) (by have := hB.size; simp; omega) ?_; intro v' w4 hown' hgrow _; obtain ⟨g', cap', rfl⟩ := ownsRow_succ hown'; obtain ⟨hv1, hv2, hr2, hk2, hb2⟩ := hv.appended (by decide) hrow hB.size (by omega) hown' hgrow; have hc2 := hv1.cell; have hf2 := hv1.frozen; have hX4 : Boxed w4 (P1 + 1 + 1) 137 _ := (hX.alloc _).kept hgrow (hX.not_row (by decide) hrow); have hX5 : Boxed (w4.setCell ⟨P1, 0, none⟩ (.slice (some ⟨g', 0, none⟩) ((ddL pre).length + 1) cap')) (P1 + 1 + 1) 137 _ := hX4.kept (grownBy_setCell' w4 P1 _) (by intro e; injection e with e; omega); have hcX5 := hX5.cell; have hownA := ((hown.alloc (.cells #[.int .i64 x.1] 3)).kept hgrow (map_not_row hmb hrow)).kept (grownBy_setCell' w4 P1 (.slice (some ⟨g', 0, none⟩) ((ddL pre).length + 1) cap')) (by intro e; injection e with e; omega))
        | (gi_at_mapUpdate; refine wpListIn_mapUpdate_own _ rfl _ _ _ 137 rfl 3 4 (Maps.int_keyed Try.underlying3) Try.underlying137 _ (P1 + 1) pre.length D rfl hownA hmx _ _ _ rfl rfl (Maps.keyOf_int_mk Try.underlying3 x.2) _ [] (plainElem_bool Try.underlying4 true) ?_; intro w5 hown5 hgrow5))
      have hdd : ddL (pre ++ [x]) = ddL pre ++ [x.1] := by rw [ddL_snoc, if_neg (by rw [hin]; decide)]
      have hbA := ((World.grownBy_alloc W (.cells #[.int .i64 x.1] 3) none).block B (Array.getElem?_eq_some_iff.1 hbx).1 (by simp)).trans hbx
      have hb4 := (hgrow.block B (Array.getElem?_eq_some_iff.1 hbA).1 (cells_not_row hbx (by decide) hrow)).trans hbA
      have hb4' := ((grownBy_setCell' w4 P1 (.slice (some ⟨g', 0, none⟩) ((ddL pre).length + 1) cap')).block B (Array.getElem?_eq_some_iff.1 hb4).1 (by intro e; injection e with e; omega)).trans hb4
      have hb5 := (hgrow5.block B (Array.getElem?_eq_some_iff.1 hb4').1 (by intro e; injection e with e; omega)).trans hb4'
      obtain ⟨es5, ck5, hm5, _⟩ := hownA
      exact ⟨(hk2.from _).trans (KeepsFrom.of_grownBy hgrow5 (fun j e => by cases e; omega)), ⟨hb2.grown hgrow5 (Nat.le_trans hB.size hb2.size) (fun k e => by cases e; omega), hb5.trans hbx.symm⟩,
        ⟨_, hv2.kept hgrow5 (by intro e; injection e with e; omega), by rw [hdd, List.length_append, List.map_append]; exact hr2.kept hgrow5 (.inr (map_not_row hm5 hr2).symm), trivial⟩,
        ⟨hX5.kept hgrow5 (by intro e; injection e with e; omega), ⟨_, by rw [List.length_append]; exact hown5, hm', hat'⟩, hb5⟩,
        (hB.trans hb2).grown hgrow5 (Nat.le_trans hB.size hb2.size) (fun k e => by cases e; omega)⟩
  case done =>
    rintro D ys W hD rfl ⟨⟨v, hv, hrow, _⟩, ⟨hX, hseen, hbx⟩, hB⟩ hK
    have hc1 := hv.cell
    gi_wp2
    refine ⟨by simp, .inl ⟨_, _, rfl, run_takeDeferred hK, ?_⟩⟩
    exact ⟨_, results_tmp2 rfl _ _ _, v, s, f, rfl, HS1.out, HS2.out, HS3.out, hf1, ownsRow_putObj hrow _ hK rfl, hB.trans (belowK_b (w := w) (Nat.le_refl _) W D _ _ (by have := hBW2.size; omega) hK rfl rfl)⟩
  case stop =>
    rintro D c' pre W _ _ hh _
    exact hh.elim
end
/-- Is it that one's? -/
def hasB (id : Int) (x : S30) : Bool := decide (x.f0 = id)
set_option maxHeartbeats 400000 in
theorem has1.calls (x : S30) (p : Addr) (id : Int) (w : World) (hid : w.cell? p = some (.int .i64 id)) :
    Calls Try.prog 49 #[.agg #[.int .i64 x.f0, .int .i64 x.f1], .pointer (some p)] w fun e w' => e = .returned (.bool (hasB id x)) ∧ Below w.heap.size w w' := by
  have hn2 := (Ch.alloc (Ch.refl (fun _ => False) w) (.cells #[.int .i64 x.f0, .int .i64 x.f1] 30 (0, 0))).cell hid (fun h => h)
  clear hid
  unfold hasB
  go_enter Try.func49, Try.ntmps49
  go_wp2_with fail
  go_ret
  exact ⟨rfl, below_alloc (Below.refl _ _) _⟩
set_option maxHeartbeats 1000000 in
theorem has_idx.calls (A : Option Addr) (c : Nat) (l : List S30) (p : Addr) (id : Int) (w : World) (hr : Kd.C k30 w A l.length l) (hc : l.length ≤ c)  (hid : w.cell? (p) = some (.int .i64 id)) :
    Calls Try.prog 65 #[.slice A l.length c, .func (.func 49) #[] #[.pointer (some p)]] w fun e w' => e = .returned (.int .i64 (idxL (hasB id) l)) ∧ Below w.heap.size w w' := by
  have HR := Aside0.mk hr
  have hlen : l.length ≤ 9223372036854775807 := hr.2.1
  have HB := Aside0.mk (Below.refl w.heap.size w)
  have Hhid := Aside0.mk hid
  clear hid
  clear hr
  obtain ⟨g, hg⟩ : ∃ g, g = idxL (hasB id) l := ⟨_, rfl⟩
  rw [← hg]
  have HG : Aside0 (g = idxFrom (hasB id) 0 (l.drop 0)) := ⟨hg⟩
  clear hg
  go_enter Try.func65, Try.ntmps65
  go_wp2
  go_loopw [5, 8] (fun v5 v8 W => ∃ i : Int, 0 ≤ i ∧ i ≤ l.length ∧ v8 = .int .i64 i ∧ Aside0 (g = idxFrom (hasB id) i (l.drop i.toNat)) ∧ Aside0 (Below w.heap.size w W)) (fun _ v _ => l.length - (intOf v).toNat)
  case atStart => exact ⟨0, by omega, by omega, rfl, HG, HB⟩
  case round =>
    clear HB HG
    obtain ⟨i, i0, ile, rfl, HG, HB⟩ := hrel
    have HRw := Aside0.mk (C30_below HR.out HB.out (Nat.le_refl _))
    have hid := (Ch.of_below HB.out (fun _ => False)).cell Hhid.out (fun h => h)
    by_cases hlt : i < l.length
    · obtain ⟨ad, e1, hx0, hx1⟩ := at_T30 HRw.out i i0 hlt
      cases e1
      have HS := Aside0.mk (idx_step (hasB id) l z30 i i0 hlt)
      obtain ⟨o, ho⟩ : ∃ o, o = (hasB id) (rd_T30 l i) := ⟨_, rfl⟩
      have HO := Aside0.mk ho
      clear ho
      cases o
      · have hgi : g = idxFrom (hasB id) (i + 1) (l.drop (i + 1).toNat) := by rw [HG.out, HS.out]; exact if_neg (by show ¬ (hasB id) (rd_T30 l i) = true; rw [← HO.out]; decide)
        have HG2 := Aside0.mk hgi
        clear hgi
        go_wp2_with (first | (go_at_call 49; refine (has1.calls (rd_T30 l i) p id _ hid).mono ?_; rintro e w1 ⟨rfl, hb⟩; rw [← HO.out]; have HB1 := Aside0.mk (below_b HB.out hb HB.out.size); clear hb))
        refine ⟨⟨i + 1, by omega, by omega, rfl, HG2, HB1⟩, ?_⟩
        simp [intOf]; omega
      · obtain rfl : i = g := by rw [HG.out, HS.out]; exact (if_pos HO.out.symm).symm
        go_wp2_with (first | (go_at_call 49; refine (has1.calls (rd_T30 l i) p id _ hid).mono ?_; rintro e w1 ⟨rfl, hb⟩; rw [← HO.out]; have HB1 := Aside0.mk (below_b HB.out hb HB.out.size); clear hb))
        go_ret
        exact ⟨rfl, HB1.out⟩
    · obtain rfl : g = -1 := by rw [HG.out, List.drop_eq_nil_of_le (by omega)]; rfl
      go_wp2
      go_ret
      exact ⟨rfl, HB.out⟩
set_option maxHeartbeats 1000000 in
theorem has_any.calls (A : Option Addr) (c : Nat) (l : List S30) (p : Addr) (id : Int) (w : World) (hr : Kd.C k30 w A l.length l) (hc : l.length ≤ c)  (hid : w.cell? (p) = some (.int .i64 id)) :
    Calls Try.prog 38 #[.slice A l.length c, .func (.func 49) #[] #[.pointer (some p)]] w fun e w' => e = .returned (.bool (l.any (hasB id))) ∧ Below w.heap.size w w' := by
  have HI := Aside0.mk (idx_any (hasB id) l)
  have HC := Aside0.mk (has_idx.calls A c l p id w hr hc hid)
  clear hr hid
  go_enter Try.func38, Try.ntmps38
  go_wp2_with (first | (go_at_call 65; refine HC.out.mono ?_; rintro e w' ⟨rfl, hb⟩; have HB := Aside0.mk hb; clear hb))
  go_ret
  exact ⟨by rw [← HI.out]; rfl, HB.out⟩
/-- Have the loads that one? -/
def loadB (m : List S30) (id : Int) : Bool := m.any (hasB id)
set_option maxHeartbeats 1000000 in
theorem load1.calls (A : Option Addr) (c : Nat) (m : List S30) (q : Addr) (id : Int) (w : World) (hr : Kd.C k30 w A m.length m) (hc : m.length ≤ c) (hq : w.cell? q = some (.slice A m.length c)) :
    Calls Try.prog 48 #[.int .i64 id, .pointer (some q)] w fun e w' => e = .returned (.bool (loadB m id)) ∧ Below w.heap.size w w' := by
  have HR := Aside0.mk hr
  have hq2 := (Ch.alloc (Ch.refl (fun _ => False) w) (.cells #[.int .i64 id] 3 (0, 0))).cell hq (fun h => h)
  clear hr hq
  unfold loadB
  have hi2 : (w.alloc (.cells #[.int .i64 id] 3)).cell? ⟨w.heap.size, 0, none⟩ = some (.int .i64 id) := (Boxed.new w 3 (.int .i64 id)).cell
  go_enter Try.func48, Try.ntmps48
  go_wp2_with (first | (go_at_call 38; refine (has_any.calls A c m _ id _ (C30_below HR.out (below_alloc (Below.refl _ _) _) (Nat.le_refl _)) hc hi2).mono ?_; rintro e w1 ⟨rfl, hb⟩; have HB := Aside0.mk (below_b (below_alloc (Below.refl _ w) _) hb (by simp)); clear hb))
  go_ret
  exact ⟨rfl, HB.out⟩
set_option maxHeartbeats 1000000 in
theorem ix47.calls (A : Option Addr) (c : Nat) (l : List Int) (A2 : Option Addr) (c2 : Nat) (m : List S30) (q : Addr) (w : World) (hr : Kd.C (Kd.int .i64) w A l.length l) (hc : l.length ≤ c) (hm : Kd.C k30 w A2 m.length m) (hc2 : m.length ≤ c2) (hq : w.cell? q = some (.slice A2 m.length c2)) :
    Calls Try.prog 47 #[.slice A l.length c, .func (.func 48) #[] #[.pointer (some q)]] w fun e w' => e = .returned (.int .i64 (idxL (loadB m) l)) ∧ Below w.heap.size w w' := by
  have HR := Aside0.mk hr
  have HM := Aside0.mk hm
  have HQ := Aside0.mk hq
  have hlen : l.length ≤ 9223372036854775807 := hr.2.1
  have HB := Aside0.mk (Below.refl w.heap.size w)
  clear hr hm hq
  obtain ⟨g, hg⟩ : ∃ g, g = idxL (loadB m) l := ⟨_, rfl⟩
  rw [← hg]
  have HG : Aside0 (g = idxFrom (loadB m) 0 (l.drop 0)) := ⟨hg⟩
  clear hg
  go_enter Try.func47, Try.ntmps47
  go_wp2
  go_loopw [5, 8] (fun v5 v8 W => ∃ i : Int, 0 ≤ i ∧ i ≤ l.length ∧ v8 = .int .i64 i ∧ Aside0 (g = idxFrom (loadB m) i (l.drop i.toNat)) ∧ Aside0 (Below w.heap.size w W)) (fun _ v _ => l.length - (intOf v).toNat)
  case atStart => exact ⟨0, by omega, by omega, rfl, HG, HB⟩
  case round =>
    clear HB HG
    obtain ⟨i, i0, ile, rfl, HG, HB⟩ := hrel
    have HRw := Aside0.mk (Kd.C_below HR.out HB.out)
    have HMw := Aside0.mk (Kd.C_below HM.out HB.out)
    have HQw := Aside0.mk ((Ch.of_below HB.out (fun _ => False)).cell HQ.out (fun h => h))
    by_cases hlt : i < l.length
    · obtain ⟨ad, e1, hx0⟩ := Kd.at_int HRw.out i i0 hlt
      cases e1
      have HS := Aside0.mk (idx_step (loadB m) l 0 i i0 hlt)
      obtain ⟨x, hx⟩ : ∃ x, x = rd l i := ⟨_, rfl⟩
      obtain ⟨o, ho⟩ : ∃ o, o = loadB m (rd l i) := ⟨_, rfl⟩
      rw [← hx] at ho hx0
      have HO := Aside0.mk ho
      have HX := Aside0.mk hx
      clear ho hx
      cases o
      · have hgi : g = idxFrom (loadB m) (i + 1) (l.drop (i + 1).toNat) := by rw [HG.out, HS.out]; exact if_neg (by show ¬ loadB m (rd l i) = true; rw [← HX.out, ← HO.out]; decide)
        have HG2 := Aside0.mk hgi
        clear hgi
        go_wp2_with (first | (go_at_call 48; refine (load1.calls A2 c2 m q x _ HMw.out hc2 HQw.out).mono ?_; rintro e w1 ⟨rfl, hb⟩; rw [← HO.out]; have HB1 := Aside0.mk (below_b HB.out hb HB.out.size); clear hb))
        refine ⟨⟨i + 1, by omega, by omega, rfl, HG2, HB1⟩, ?_⟩
        simp [intOf]; omega
      · obtain rfl : i = g := by rw [HG.out, HS.out]; exact (if_pos (by show loadB m (rd l i) = true; rw [← HX.out]; exact HO.out.symm)).symm
        go_wp2_with (first | (go_at_call 48; refine (load1.calls A2 c2 m q x _ HMw.out hc2 HQw.out).mono ?_; rintro e w1 ⟨rfl, hb⟩; rw [← HO.out]; have HB1 := Aside0.mk (below_b HB.out hb HB.out.size); clear hb))
        go_ret
        exact ⟨rfl, HB1.out⟩
    · obtain rfl : g = -1 := by rw [HG.out, List.drop_eq_nil_of_le (by omega)]; rfl
      go_wp2
      go_ret
      exact ⟨rfl, HB.out⟩
theorem reps_int (xs : List Int) : Reps (fun (p : Int) (c : List Value) => c = [Value.int .i64 p]) 1 xs (xs.map (Value.int .i64)) := by
  refine ⟨by simp, fun j p hj => ?_⟩
  have hj' : (xs.map (Value.int .i64))[j]? = some (.int .i64 p) := by simp [hj]
  obtain ⟨hlt, he⟩ := List.getElem?_eq_some_iff.1 hj'
  rw [Nat.mul_one, List.drop_eq_getElem_cons hlt, he]
  rfl
def ddI (l : List Int) : List Int := l.foldl (fun out x => if out.contains x then out else out ++ [x]) []
theorem ddL_eq (pre : List I64) : ddL pre = ddI (pre.map (·.1)) := by unfold ddL ddI; rw [List.foldl_map]
/-- Where the walk begins: behind those whose hash is less. -/
def fromN (l : List S105) (h : Int) : Nat := (l.takeWhile (fun x => decide (x.f0 < h))).length
theorem takeWhile_len {α : Type} (p : α → Bool) : ∀ (l : List α) (s : Nat), s ≤ l.length → (∀ i (hi : i < l.length), i < s → p l[i] = true) → (∀ i (hi : i < l.length), s ≤ i → p l[i] = false) → (l.takeWhile p).length = s
  | [], s, h, _, _ => by simp at h; simp [h]
  | x :: t, 0, _, _, h2 => by
    have := h2 0 (by simp) (Nat.le_refl _)
    simp at this
    simp [this]
  | x :: t, s + 1, h, h1, h2 => by
    have h0 := h1 0 (by simp) (by omega)
    simp at h0
    rw [List.takeWhile_cons, if_pos h0, List.length_cons, takeWhile_len p t s (by simpa using h) (fun i hi hs => h1 (i + 1) (by simpa using hi) (by omega)) (fun i hi hs => h2 (i + 1) (by simpa using hi) (by omega))]
theorem from_eq (l : List S105) (h : Int) (s : Nat) (h0 : s ≤ l.length) (h1 : ∀ i : Nat, i < s → (rd_T105 l i).f0 < h) (h2 : ∀ i : Nat, s ≤ i → i < l.length → h ≤ (rd_T105 l i).f0) : s = fromN l h := by
  refine (takeWhile_len _ l s h0 (fun i hi hs => ?_) (fun i hi hs => ?_)).symm
  · have := h1 i hs
    rw [rd105 l i hi] at this
    simpa using this
  · have := h2 i hs hi
    rw [rd105 l i hi] at this
    simpa using this
/-- The holders once around, each once. -/
def walkL (l : List S105) (h : Int) : List Int := ddI ((List.range l.length).map (fun i => (rd_T105 l (((fromN l h + i) % l.length : Nat) : Int)).f1))
theorem errno_or (a b : Int) : api_Errno.f 10 [a, b] = some (if a = 0 then b else a) := by
  show api_Errno.l0 (7 + 1 + 1 + 1) 0 [a, b] 2 0 = _
  rw [api_Errno.l0, if_pos (by decide), if_pos (by decide), if_pos (show (0 : Int) < (([a, b] : List Int).length : Int) by simp), show rd [a, b] 0 = a from rfl]
  by_cases h : a = 0
  · rw [if_pos h, if_pos h, w01, api_Errno.l0, if_pos (by decide), if_pos (by decide), if_pos (show (1 : Int) < (([a, b] : List Int).length : Int) by simp), show rd [a, b] 1 = b from rfl]
    by_cases h2 : b = 0
    · rw [if_pos h2, w12, api_Errno.l0, if_neg (by decide), h2]
    · rw [if_neg h2]
  · rw [if_neg h, if_neg h]
theorem whole0 {l : List S105} (h : wholeL l = 0) : l.length ≤ 1024 ∧ srtF l (l.length - 1) = true ∧ l.any negB = false := by
  unfold wholeL at h
  split at h
  · cases h
  · split at h
    · split at h
      · cases h
      · rename_i h1 h2 h3
        exact ⟨by omega, h2, by simpa using h3⟩
    · cases h
theorem own_ints {W : World} {base : Nat} {v : Value} {xs : List Int} (h : W.ownsRow base 3 1 v xs.length (xs.map (Value.int .i64))) : Kd.R (Kd.int .i64) 3 W base (fun _ => True) v xs :=
  ⟨fun _ _ => trivial, _, h, reps_int xs⟩
set_option maxRecDepth 100000 in
set_option maxHeartbeats 2000000 in
theorem walkC.calls (A : Option Addr) (c : Nat) (l : List S105) (h : Int) (w : World) (hr : Kd.C k105 w A l.length l) (hc : l.length ≤ c) (hw : ∀ x ∈ l, (Lit.int .i64 x.f1).wf = true) (h0 : wholeL l = 0) :
    Calls Try.prog 46 #[.slice A l.length c, .int .u64 h] w fun e w' => (∃ (v : Value) (r : Int), e = .returned (.tuple #[v, .int .i64 r]) ∧ Kd.R (Kd.int .i64) 3 w' w.heap.size (fun _ => True) v (walkL l h)) ∧ Below w.heap.size w w' := by
  obtain ⟨hl, hs, _⟩ := whole0 h0
  by_cases hlen : (l.length : Int) = 0
  · have hwl : walkL l h = [] := by unfold walkL; rw [show l.length = 0 by omega]; rfl
    have hask : rAskL l = 71 := by unfold rAskL; rw [if_pos h0, if_pos hlen]
    rw [hwl]
    have HR := Aside0.mk hr
    have HA := Aside0.mk hask
    clear hr hw h0 hs hwl hask
    go_enter Try.func46, Try.ntmps46
    go_wp2_with (first | (go_at_call 71; refine (rask.calls A c l _ HR.out hc).mono ?_; rintro e w1 ⟨rfl, hb⟩; rw [HA.out]; have HB1 := Aside0.mk hb; clear hb))
    go_ret2
    exact ⟨⟨_, _, rfl, Kd.R_nil _ _ _ _ _⟩, HB1.out⟩
  · have hask : rAskL l = 0 := by unfold rAskL; rw [if_pos h0, if_neg hlen]
    refine (walk.calls A c l h w hr hc hw hask hl (srt_le l hs)).mono ?_
    rintro e w1 ⟨v, s, f, rfl, h1, h2, h3, h4, h5, hb⟩
    refine ⟨⟨v, 0, rfl, own_ints ?_⟩, hb⟩
    have hwalk : ddL ((List.range l.length).map f) = walkL l h := by
      rw [ddL_eq, List.map_map]
      unfold walkL
      rw [← from_eq l h s h1 h2 h3]
      congr 1
      refine List.map_congr_left fun i _ => ?_
      exact h4 i
    rw [← hwalk]
    exact h5
theorem two_row (w : World) (a b : Int) : Kd.C (Kd.int .i64) (w.alloc (.cells #[.int .i64 a, .int .i64 b] 24)) (some ⟨w.heap.size, 0, none⟩) 2 [a, b] := by
  have hz : (w.alloc (.cells #[.int .i64 a, .int .i64 b] 24)).heap[w.heap.size]? = some (.cells #[.int .i64 a, .int .i64 b] 24 (0, 0)) := World.alloc_heap_new _ _
  refine ⟨rfl, by decide, fun _ => ⟨_, rfl, fun j p hj => ⟨[.int .i64 p], rfl, rfl, fun i u hu => ?_⟩⟩⟩
  obtain rfl : i = 0 := by
    cases i with
    | zero => rfl
    | succ i => simp at hu
  have hu : Value.int .i64 p = u := by simpa using hu
  subst hu
  match j, hj with
  | 0, hj => cases hj; exact zcell hz 0 _ rfl
  | 1, hj => cases hj; exact zcell hz 1 _ rfl
  | j + 2, hj => simp at hj
/-- The first of the walk that the loads have. -/
def ringL (l : List S105) (h : Int) (m : List S30) : Int × Int := if checkL m = 0 then (if wholeL l = 0 then (if idxL (loadB m) (walkL l h) < 0 then (0, 71) else (rd (walkL l h) (idxL (loadB m) (walkL l h)), 0)) else (0, wholeL l)) else (0, checkL m)
theorem idxL_lt {α : Type} (p : α → Bool) (l : List α) : idxL p l < l.length := by
  rcases idxFrom_spec p l 0 with ⟨h, _⟩ | ⟨n, h, hn, _⟩
  · unfold idxL; rw [h]; omega
  · unfold idxL; rw [h]; omega
set_option maxRecDepth 100000 in
set_option maxHeartbeats 2000000 in
theorem ring.calls (A : Option Addr) (c : Nat) (l : List S105) (h : Int) (A2 : Option Addr) (c2 : Nat) (m : List S30) (w : World) (hr : Kd.C k105 w A l.length l) (hc : l.length ≤ c) (hm : Kd.C k30 w A2 m.length m) (hc2 : m.length ≤ c2) (hw : ∀ x ∈ l, (Lit.int .i64 x.f1).wf = true) :
    Calls Try.prog 21 #[.slice A l.length c, .int .u64 h, .slice A2 m.length c2] w fun e w' => e = .returned (.tuple #[.int .i64 (ringL l h m).1, .int .i64 (ringL l h m).2]) ∧ Below w.heap.size w w' := by
  have HR := Aside0.mk hr
  have HM := Aside0.mk hm
  have HW := Aside0.mk hw
  clear hr hm hw
  obtain ⟨ck, hck⟩ : ∃ ck, ck = checkL m := ⟨_, rfl⟩
  obtain ⟨wh, hwh⟩ : ∃ wh, wh = wholeL l := ⟨_, rfl⟩
  unfold ringL
  rw [← hck, ← hwh]
  have HCK := Aside0.mk hck
  have HWH := Aside0.mk hwh
  clear hck hwh
  go_enter Try.func21, Try.ntmps21
  by_cases h1 : ck = 0
  · by_cases h2 : wh = 0
    · rw [if_pos h1, if_pos h2]
      have HOR := Aside0.mk (show (if ck = 0 then wh else ck) = 0 by rw [if_pos h1, h2])
      have HWH0 := Aside0.mk (show wholeL l = 0 by rw [← HWH.out, h2])
      clear h1 h2
      obtain ⟨xs, hxs⟩ : ∃ xs, xs = walkL l h := ⟨_, rfl⟩
      obtain ⟨ix, hix⟩ : ∃ ix, ix = idxL (loadB m) xs := ⟨_, rfl⟩
      rw [← hxs, ← hix]
      have hlt : ix < xs.length := by rw [hix]; exact idxL_lt _ _
      have HXS := Aside0.mk hxs
      have HIX := Aside0.mk hix
      clear hxs hix
      by_cases hneg : ix < 0
      · rw [if_pos hneg]
        go_wp2_with (first
      | (go_at_call 23; refine (check.calls A2 c2 m _ (C30_below HM.out (below_alloc (Below.refl _ _) _) (Nat.le_refl _)) hc2).mono ?_; rintro e w1 ⟨rfl, hb⟩; rw [← HCK.out]; have HZ := Aside0.mk (made_at hb); have HB1 := Aside0.mk ((below_alloc (Below.refl w.heap.size w) (.cells #[.slice A2 m.length c2] 22)).trans (hb.mono (by simp))); clear hb)
      | (go_at_call 45; refine (whole.calls A c l _ (k105_C_below HR.out HB1.out (Nat.le_refl _)) hc).mono ?_; rintro e w2 ⟨rfl, hb⟩; rw [← HWH.out]; have HZ2 := Aside0.mk ((Ch.of_below hb (fun _ => False)).heap HZ.out (fun h => h)); have HB2 := Aside0.mk (below_b HB1.out hb HB1.out.size); clear hb)
      | (go_at_call 44; refine (api_Errno.calls 10 _ 2 [ck, wh] _ _ (two_row _ ck wh) (Nat.le_refl _) (errno_or ck wh)).mono ?_; rintro e w3 ⟨rfl, ⟨nd, rfl⟩⟩; rw [HOR.out]; have hb3 := below_drewN (below_alloc (Below.refl w2.heap.size w2) (.cells #[.int .i64 ck, .int .i64 wh] 24)) nd; generalize ((w2.alloc (.cells #[.int .i64 ck, .int .i64 wh] 24)).drewN nd) = w3 at hb3 ⊢; have HZ3 := Aside0.mk ((Ch.of_below hb3 (fun _ => False)).heap HZ2.out (fun h => h)); have HB3 := Aside0.mk (below_b HB2.out hb3 HB2.out.size); clear hb3; have hq3 := zcell HZ3.out 0 _ rfl)
      | (go_at_call 46; refine (walkC.calls A c l h _ (k105_C_below HR.out HB3.out (Nat.le_refl _)) hc HW.out HWH0.out).mono ?_; rintro e w4 ⟨⟨v, r, rfl, hv⟩, hb⟩; obtain ⟨A4, c4, rfl, hc4, hC4⟩ := Kd.R_reads hv; rw [← HXS.out] at hC4 hc4 ⊢; have HC4 := Aside0.mk hC4; have HZ4 := Aside0.mk ((Ch.of_below hb (fun _ => False)).heap HZ3.out (fun h => h)); have HB4 := Aside0.mk (below_b HB3.out hb HB3.out.size); clear hb hv hC4)
      | (go_at_call 47; refine (ix47.calls A4 c4 xs A2 c2 m _ _ HC4.out hc4 (C30_below HM.out HB4.out (Nat.le_refl _)) hc2 (zcell HZ4.out 0 _ rfl)).mono ?_; rintro e w5 ⟨rfl, hb⟩; rw [← HIX.out]; have HC5 := Aside0.mk (Kd.C_below HC4.out hb); have HB5 := Aside0.mk (below_b HB4.out hb HB4.out.size); clear hb))
        go_ret2
        exact ⟨rfl, HB5.out⟩
      · rw [if_neg hneg]
        have hge : 0 ≤ ix := by omega
        go_wp2_with (first
      | (go_at_call 23; refine (check.calls A2 c2 m _ (C30_below HM.out (below_alloc (Below.refl _ _) _) (Nat.le_refl _)) hc2).mono ?_; rintro e w1 ⟨rfl, hb⟩; rw [← HCK.out]; have HZ := Aside0.mk (made_at hb); have HB1 := Aside0.mk ((below_alloc (Below.refl w.heap.size w) (.cells #[.slice A2 m.length c2] 22)).trans (hb.mono (by simp))); clear hb)
      | (go_at_call 45; refine (whole.calls A c l _ (k105_C_below HR.out HB1.out (Nat.le_refl _)) hc).mono ?_; rintro e w2 ⟨rfl, hb⟩; rw [← HWH.out]; have HZ2 := Aside0.mk ((Ch.of_below hb (fun _ => False)).heap HZ.out (fun h => h)); have HB2 := Aside0.mk (below_b HB1.out hb HB1.out.size); clear hb)
      | (go_at_call 44; refine (api_Errno.calls 10 _ 2 [ck, wh] _ _ (two_row _ ck wh) (Nat.le_refl _) (errno_or ck wh)).mono ?_; rintro e w3 ⟨rfl, ⟨nd, rfl⟩⟩; rw [HOR.out]; have hb3 := below_drewN (below_alloc (Below.refl w2.heap.size w2) (.cells #[.int .i64 ck, .int .i64 wh] 24)) nd; generalize ((w2.alloc (.cells #[.int .i64 ck, .int .i64 wh] 24)).drewN nd) = w3 at hb3 ⊢; have HZ3 := Aside0.mk ((Ch.of_below hb3 (fun _ => False)).heap HZ2.out (fun h => h)); have HB3 := Aside0.mk (below_b HB2.out hb3 HB2.out.size); clear hb3; have hq3 := zcell HZ3.out 0 _ rfl)
      | (go_at_call 46; refine (walkC.calls A c l h _ (k105_C_below HR.out HB3.out (Nat.le_refl _)) hc HW.out HWH0.out).mono ?_; rintro e w4 ⟨⟨v, r, rfl, hv⟩, hb⟩; obtain ⟨A4, c4, rfl, hc4, hC4⟩ := Kd.R_reads hv; rw [← HXS.out] at hC4 hc4 ⊢; have HC4 := Aside0.mk hC4; have HZ4 := Aside0.mk ((Ch.of_below hb (fun _ => False)).heap HZ3.out (fun h => h)); have HB4 := Aside0.mk (below_b HB3.out hb HB3.out.size); clear hb hv hC4)
      | (go_at_call 47; refine (ix47.calls A4 c4 xs A2 c2 m _ _ HC4.out hc4 (C30_below HM.out HB4.out (Nat.le_refl _)) hc2 (zcell HZ4.out 0 _ rfl)).mono ?_; rintro e w5 ⟨rfl, hb⟩; rw [← HIX.out]; have HC5 := Aside0.mk (Kd.C_below HC4.out hb); have HB5 := Aside0.mk (below_b HB4.out hb HB4.out.size); clear hb; obtain ⟨ad, e1, hx⟩ := Kd.at_int HC5.out ix hge hlt; cases e1))
        go_ret2
        exact ⟨rfl, HB5.out⟩
    · rw [if_pos h1, if_neg h2]
      have HOR := Aside0.mk (show (if ck = 0 then wh else ck) = wh by rw [if_pos h1])
      clear h1
      go_wp2_with (first
      | (go_at_call 23; refine (check.calls A2 c2 m _ (C30_below HM.out (below_alloc (Below.refl _ _) _) (Nat.le_refl _)) hc2).mono ?_; rintro e w1 ⟨rfl, hb⟩; rw [← HCK.out]; have HZ := Aside0.mk (made_at hb); have HB1 := Aside0.mk ((below_alloc (Below.refl w.heap.size w) (.cells #[.slice A2 m.length c2] 22)).trans (hb.mono (by simp))); clear hb)
      | (go_at_call 45; refine (whole.calls A c l _ (k105_C_below HR.out HB1.out (Nat.le_refl _)) hc).mono ?_; rintro e w2 ⟨rfl, hb⟩; rw [← HWH.out]; have HZ2 := Aside0.mk ((Ch.of_below hb (fun _ => False)).heap HZ.out (fun h => h)); have HB2 := Aside0.mk (below_b HB1.out hb HB1.out.size); clear hb)
      | (go_at_call 44; refine (api_Errno.calls 10 _ 2 [ck, wh] _ _ (two_row _ ck wh) (Nat.le_refl _) (errno_or ck wh)).mono ?_; rintro e w3 ⟨rfl, ⟨nd, rfl⟩⟩; rw [HOR.out]; have hb3 := below_drewN (below_alloc (Below.refl w2.heap.size w2) (.cells #[.int .i64 ck, .int .i64 wh] 24)) nd; generalize ((w2.alloc (.cells #[.int .i64 ck, .int .i64 wh] 24)).drewN nd) = w3 at hb3 ⊢; have HZ3 := Aside0.mk ((Ch.of_below hb3 (fun _ => False)).heap HZ2.out (fun h => h)); have HB3 := Aside0.mk (below_b HB2.out hb3 HB2.out.size); clear hb3; have hq3 := zcell HZ3.out 0 _ rfl)
      | (go_at_call 46; refine (walkC.calls A c l h _ (k105_C_below HR.out HB3.out (Nat.le_refl _)) hc HW.out HWH0.out).mono ?_; rintro e w4 ⟨⟨v, r, rfl, hv⟩, hb⟩; obtain ⟨A4, c4, rfl, hc4, hC4⟩ := Kd.R_reads hv; rw [← HXS.out] at hC4 hc4 ⊢; have HC4 := Aside0.mk hC4; have HZ4 := Aside0.mk ((Ch.of_below hb (fun _ => False)).heap HZ3.out (fun h => h)); have HB4 := Aside0.mk (below_b HB3.out hb HB3.out.size); clear hb hv hC4)
      | (go_at_call 47; refine (ix47.calls A4 c4 xs A2 c2 m _ _ HC4.out hc4 (C30_below HM.out HB4.out (Nat.le_refl _)) hc2 (zcell HZ4.out 0 _ rfl)).mono ?_; rintro e w5 ⟨rfl, hb⟩; rw [← HIX.out]; have HC5 := Aside0.mk (Kd.C_below HC4.out hb); have HB5 := Aside0.mk (below_b HB4.out hb HB4.out.size); clear hb))
      go_ret2
      exact ⟨rfl, HB3.out⟩
  · rw [if_neg h1]
    have HOR := Aside0.mk (show (if ck = 0 then wh else ck) = ck by rw [if_neg h1])
    go_wp2_with (first
      | (go_at_call 23; refine (check.calls A2 c2 m _ (C30_below HM.out (below_alloc (Below.refl _ _) _) (Nat.le_refl _)) hc2).mono ?_; rintro e w1 ⟨rfl, hb⟩; rw [← HCK.out]; have HZ := Aside0.mk (made_at hb); have HB1 := Aside0.mk ((below_alloc (Below.refl w.heap.size w) (.cells #[.slice A2 m.length c2] 22)).trans (hb.mono (by simp))); clear hb)
      | (go_at_call 45; refine (whole.calls A c l _ (k105_C_below HR.out HB1.out (Nat.le_refl _)) hc).mono ?_; rintro e w2 ⟨rfl, hb⟩; rw [← HWH.out]; have HZ2 := Aside0.mk ((Ch.of_below hb (fun _ => False)).heap HZ.out (fun h => h)); have HB2 := Aside0.mk (below_b HB1.out hb HB1.out.size); clear hb)
      | (go_at_call 44; refine (api_Errno.calls 10 _ 2 [ck, wh] _ _ (two_row _ ck wh) (Nat.le_refl _) (errno_or ck wh)).mono ?_; rintro e w3 ⟨rfl, ⟨nd, rfl⟩⟩; rw [HOR.out]; have hb3 := below_drewN (below_alloc (Below.refl w2.heap.size w2) (.cells #[.int .i64 ck, .int .i64 wh] 24)) nd; generalize ((w2.alloc (.cells #[.int .i64 ck, .int .i64 wh] 24)).drewN nd) = w3 at hb3 ⊢; have HZ3 := Aside0.mk ((Ch.of_below hb3 (fun _ => False)).heap HZ2.out (fun h => h)); have HB3 := Aside0.mk (below_b HB2.out hb3 HB2.out.size); clear hb3; have hq3 := zcell HZ3.out 0 _ rfl)
      | (go_at_call 46; refine (walkC.calls A c l h _ (k105_C_below HR.out HB3.out (Nat.le_refl _)) hc HW.out HWH0.out).mono ?_; rintro e w4 ⟨⟨v, r, rfl, hv⟩, hb⟩; obtain ⟨A4, c4, rfl, hc4, hC4⟩ := Kd.R_reads hv; rw [← HXS.out] at hC4 hc4 ⊢; have HC4 := Aside0.mk hC4; have HZ4 := Aside0.mk ((Ch.of_below hb (fun _ => False)).heap HZ3.out (fun h => h)); have HB4 := Aside0.mk (below_b HB3.out hb HB3.out.size); clear hb hv hC4)
      | (go_at_call 47; refine (ix47.calls A4 c4 xs A2 c2 m _ _ HC4.out hc4 (C30_below HM.out HB4.out (Nat.le_refl _)) hc2 (zcell HZ4.out 0 _ rfl)).mono ?_; rintro e w5 ⟨rfl, hb⟩; rw [← HIX.out]; have HC5 := Aside0.mk (Kd.C_below HC4.out hb); have HB5 := Aside0.mk (below_b HB4.out hb HB4.out.size); clear hb))
    go_ret2
    exact ⟨rfl, HB3.out⟩
def choice_Ring.f (l0 : List S105) (a1 : Int) (l2 : List S30) : Option (Int × Int) := if (∀ x ∈ l0, (Lit.int .i64 x.f1).wf = true) then some (ringL l0 a1 l2) else none
theorem choice_Ring.calls (A0 : Option Addr) (c0 : Nat) (l0 : List S105) (a1 : Int) (A2 : Option Addr) (c2 : Nat) (l2 : List S30) (r0 r1 : Int) (w : World) (hr0 : Kd.C k105 w A0 l0.length l0) (hc0 : l0.length ≤ c0) (hr2 : Kd.C k30 w A2 l2.length l2) (hc2 : l2.length ≤ c2) (h : choice_Ring.f l0 a1 l2 = some (r0, r1)) :
    Calls Try.prog 21 #[.slice A0 l0.length c0, .int .u64 a1, .slice A2 l2.length c2] w fun e w' => e = .returned (.tuple #[.int .i64 r0, .int .i64 r1]) ∧ Below w.heap.size w w' := by
  unfold choice_Ring.f at h
  split at h
  · rename_i hw
    have h := Option.some.inj h
    refine (ring.calls A0 c0 l0 a1 A2 c2 l2 w hr0 hc0 hr2 hc2 hw).mono ?_
    rintro e w1 ⟨rfl, hb⟩
    rw [h]
    exact ⟨rfl, hb⟩
  · cases h

end Go.Proofs.Ytemleanglkaedaa.EChoiceTells
