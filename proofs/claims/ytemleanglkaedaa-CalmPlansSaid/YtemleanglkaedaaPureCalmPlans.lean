/- What is planned is calm, of so many rounds, and has all issues: the walk of the law; no condition. -/
import Derived.StillTailTactics
import Derived.Test.YtemleanglkaedaaCalm4
namespace Go.Proofs.Ytemleanglkaedaa.ECalmPlans
open Go.RowKit Go.Shelf Go.Proofs.YtemleanglkaedaaW.PrintWords Go.Proofs.YtemleanglkaedaaW.PrintLast Go.Proofs.YtemleanglkaedaaW.PrintMore
set_option linter.unusedVariables false
set_option linter.unusedSimpArgs false
/-! What is planned, read again: so many rounds. -/
theorem idxFrom_app {α : Type} (p : α → Bool) : ∀ (l m : List α) (i : Int), 0 ≤ i → (∀ x ∈ l, p x = false) → idxFrom p i (l ++ m) = idxFrom p (i + l.length) m
  | [], m, i, _, _ => by simp
  | x :: l, m, i, h0, h => by
    show (if p x = true then i else idxFrom p (i + 1) (l ++ m)) = _
    rw [h x List.mem_cons_self, if_neg (by decide), idxFrom_app p l m (i + 1) (by omega) (fun y hy => h y (List.mem_cons_of_mem _ hy)), List.length_cons]
    congr 1
    omega
def noIss (l : List T3) : List T3 := l.filter (fun x => !(decide (x.1 = 1)))
/-- The plan without issues. -/
def plainT (t : List T3) (D : Nat) : Nat → List T3
  | 0 => []
  | n + 1 => t ++ (List.replicate D (2, 0, 0) ++ plainT t D n)
theorem noIss_ticks (cl be : Int) : noIss (ticksT cl be) = ticksT cl be := by
  refine List.filter_eq_self.2 fun x hx => ?_
  have h2 : x.1 ≠ 1 := by
    rcases List.mem_append.1 hx with h1 | h1
    · exact tkT_no 5 (by decide) _ _ _ h1
    · exact tkT_no 6 (by decide) _ _ _ h1
  simp [h2]
theorem noIss_dels (D : Nat) : noIss (List.replicate D (2, 0, 0)) = List.replicate D (2, 0, 0) :=
  List.filter_eq_self.2 fun x hx => by rw [List.eq_of_mem_replicate hx]; decide
theorem noIss_nil (l : List T3) (h : ∀ x ∈ l, x.1 = 1) : noIss l = [] := by
  unfold noIss
  rw [List.filter_eq_nil_iff]
  intro x hx
  simp [h x hx]
theorem noIss_plan (cl be : Int) (D : Nat) : ∀ (n : Nat) (l : List T3), (∀ x ∈ l, x.1 = 1) → noIss (planT cl be D n l) = plainT (ticksT cl be) D n
  | 0, l, h => noIss_nil l h
  | n + 1, l, h => by
    show noIss (ticksT cl be ++ (l.take 1 ++ (List.replicate D (2, 0, 0) ++ planT cl be D n (l.drop 1)))) = _
    have e1 := noIss_plan cl be D n (l.drop 1) (fun x hx => h x (List.mem_of_mem_drop hx))
    have e2 := noIss_nil (l.take 1) (fun x hx => h x (List.mem_of_mem_take hx))
    have e3 := noIss_ticks cl be
    have e4 := noIss_dels D
    unfold noIss at *
    rw [List.filter_append, List.filter_append, List.filter_append, e1, e2, e3, e4]
    rfl
theorem eqT_refl : ∀ l : List T3, eqT l l = true
  | [] => rfl
  | x :: l => by
    show (tickT x x && eqT l l) = true
    rw [eqT_refl l]
    unfold tickT
    simp
theorem delT_run (D : Nat) (r : List T3) (hr : r = [] ∨ ∃ x t, r = x :: t ∧ othT x = true) : delT (List.replicate D (2, 0, 0) ++ r) = D := by
  unfold delT idxL
  rw [idxFrom_app othT (List.replicate D (2, 0, 0)) r 0 (by omega) (fun x hx => by rw [List.eq_of_mem_replicate hx]; decide), List.length_replicate]
  rcases hr with rfl | ⟨x, t, rfl, hx⟩
  · rw [show idxFrom othT (0 + (D : Int)) [] = -1 from rfl, if_pos (by decide), List.length_append, List.length_replicate]; simp
  · show (if (if othT x = true then (0 + (D : Int)) else idxFrom othT (0 + (D : Int) + 1) t) < 0 then _ else (if othT x = true then (0 + (D : Int)) else idxFrom othT (0 + (D : Int) + 1) t).toNat) = D
    rw [if_pos hx, if_neg (by omega)]
    omega
theorem plain_head (t : List T3) (D n : Nat) (ht : ∃ x s, t = x :: s ∧ othT x = true) : plainT t D n = [] ∨ ∃ x s, plainT t D n = x :: s ∧ othT x = true := by
  cases n with
  | zero => exact .inl rfl
  | succ n =>
    obtain ⟨x, s, rfl, hx⟩ := ht
    exact .inr ⟨x, _, rfl, hx⟩
theorem roundT_plain (t : List T3) (D n : Nat) (r e : Int) (ht : ∃ x s, t = x :: s ∧ othT x = true) (hD : 1 ≤ D) (he : r = 0 ∨ e = D) : roundT t (plainT t D (n + 1)) r e = some (plainT t D n, r + 1, (D : Int)) := by
  have hl : t.length ≤ (plainT t D (n + 1)).length := by
    show t.length ≤ (t ++ _).length
    rw [List.length_append]; omega
  have h1 : (plainT t D (n + 1)).take t.length = t := List.take_left
  have h2 : (plainT t D (n + 1)).drop t.length = List.replicate D (2, 0, 0) ++ plainT t D n := List.drop_left
  have h3 := delT_run D (plainT t D n) (plain_head t D n ht)
  have h4 : (List.replicate D ((2, 0, 0) : T3) ++ plainT t D n).drop D = plainT t D n := by
    have := List.drop_left (l₁ := List.replicate D ((2, 0, 0) : T3)) (l₂ := plainT t D n)
    rwa [List.length_replicate] at this
  unfold roundT
  rw [h1, eqT_refl, h2, h3, h4, if_pos (by simp [hl]), if_neg (by omega), if_neg (by
    rintro ⟨a, b⟩
    rcases he with he | he
    · omega
    · exact b he.symm)]
theorem allT_plain (t : List T3) (D : Nat) (ht : ∃ x s, t = x :: s ∧ othT x = true) (hD : 1 ≤ D) : ∀ (n k : Nat) (r e : Int), n ≤ k → (r = 0 ∨ e = D) → 0 ≤ r → allT t k (plainT t D n) r e = (r + n, if n = 0 then e else (D : Int))
  | 0, k, r, e, _, _, _ => by
    show allT t k [] r e = _
    rw [allT_nil]; simp
  | n + 1, 0, _, _, h, _, _ => absurd h (by omega)
  | n + 1, k + 1, r, e, h, he, h0 => by
    show (if (plainT t D (n + 1)).isEmpty = true then (r, e) else match roundT t (plainT t D (n + 1)) r e with
      | none => (0, 0)
      | some (l2, r2, e2) => allT t k l2 r2 e2) = _
    have hne : (plainT t D (n + 1)).isEmpty = false := by
      obtain ⟨x, s, rfl, _⟩ := ht
      rfl
    rw [hne, if_neg (by decide), roundT_plain t D n r e ht hD he]
    show allT t k (plainT t D n) (r + 1) D = _
    rw [allT_plain t D ht hD n k (r + 1) D (by omega) (.inr rfl) (by omega)]
    simp only [Nat.succ_ne_zero, if_false]
    congr 1
    · push_cast; omega
    · split <;> rfl
theorem ticks_head (cl be : Int) (h : 1 ≤ cl) : ∃ x s, ticksT cl be = x :: s ∧ othT x = true := by
  obtain ⟨k, hk⟩ : ∃ k, cl.toNat = k + 1 := ⟨cl.toNat - 1, by omega⟩
  refine ⟨(5, 0, 0), tkT 5 1 k ++ tkT 6 0 be.toNat, ?_, by decide⟩
  unfold ticksT
  rw [hk]
  rfl
theorem plainT_len (t : List T3) (D : Nat) (hD : 1 ≤ D) : ∀ n, n ≤ (plainT t D n).length
  | 0 => Nat.zero_le _
  | n + 1 => by
    show n + 1 ≤ (t ++ (List.replicate D (2, 0, 0) ++ plainT t D n)).length
    have := plainT_len t D hD n
    simp only [List.length_append, List.length_replicate]
    omega
theorem rounds_plan (cl be : Int) (D n : Nat) (l : List T3) (hcl : 1 ≤ cl) (hD : 1 ≤ D) (hl : ∀ x ∈ l, x.1 = 1) (htot : n * ((ticksT cl be).length + D) + l.length ≤ 512) : roundsL cl be (planT cl be D n l) = ((n : Int), if n = 0 then 0 else (D : Int), 0) := by
  unfold roundsL
  rw [planT_len, if_neg (by omega)]
  have e := noIss_plan cl be D n l hl
  unfold noIss at e
  rw [e]
  unfold allL
  rw [allT_plain (ticksT cl be) D (ticks_head cl be hcl) hD n _ 0 0 (plainT_len _ D hD n) (.inl rfl) (by omega)]
  simp
theorem eqs102 (k : Nat) : waybillplain_SameBackends.f (k + 1) [] [] = some true := by rfl
/-- The issue of a place. -/
def issE (i : Int) (x : S73) : SE := ⟨1, i, 9, x.f0, x.f1, x.f2, x.f3, 0, (none, 0, 0)⟩
def issL (l : List S73) : Nat → List SE
  | 0 => []
  | n + 1 => issL l n ++ [issE n (rd_T73 l n)]
theorem issL_len (l : List S73) : ∀ n, (issL l n).length = n
  | 0 => rfl
  | n + 1 => by show (issL l n ++ [_]).length = _; rw [List.length_append, issL_len l n]; rfl
theorem issL_mem (l : List S73) : ∀ n, ∀ x ∈ issL l n, ∃ i y, x = issE i y
  | 0, x, h => by cases h
  | n + 1, x, h => by
    rcases List.mem_append.1 h with h | h
    · exact issL_mem l n x h
    · exact ⟨_, _, List.mem_singleton.1 h⟩
theorem issL_any (l : List S73) (n : Nat) : (issL l n).any nisB = false := by
  rw [List.any_eq_false]
  intro x hx
  obtain ⟨i, y, rfl⟩ := issL_mem l n x hx
  show ¬ (!(decide ((1 : Int) = 1))) = true
  decide
theorem issE_same (i : Int) (x : S73) : waybillplain_SameEvent.f 1 1 i 9 x.f0 x.f1 x.f2 x.f3 0 [] 1 i 9 x.f0 x.f1 x.f2 x.f3 0 [] = some true := by
  unfold waybillplain_SameEvent.f
  rw [if_pos rfl, if_pos rfl, if_pos rfl, if_pos (by simp), if_pos rfl, eqs102 0]
  rfl
/-- How many of the first are issues. -/
def cntI (out : List SE) (i : Nat) : Nat := ((out.take i).filter issB).length
theorem cntI_step (out : List SE) (i : Int) (h0 : 0 ≤ i) (h : i < out.length) : cntI out (i + 1).toNat = cntI out i.toNat + (if issB (rdE out i) = true then 1 else 0) := by
  obtain ⟨k, rfl⟩ : ∃ k : Nat, i = k := ⟨i.toNat, by omega⟩
  unfold cntI
  rw [show ((k : Int) + 1).toNat = k + 1 by omega, Int.toNat_natCast, take_rd out k (by omega), List.filter_append, List.length_append, List.filter_cons]
  split <;> simp
theorem cntI_get (out : List SE) (i : Int) (h0 : 0 ≤ i) (h : i < out.length) (hi : issB (rdE out i) = true) : cntI out i.toNat < (out.filter issB).length ∧ rdE (out.filter issB) (cntI out i.toNat) = rdE out i := by
  obtain ⟨k, rfl⟩ : ∃ k : Nat, i = k := ⟨i.toNat, by omega⟩
  rw [Int.toNat_natCast]
  have e : out.filter issB = (out.take k).filter issB ++ (rdE out k :: (out.drop (k + 1)).filter issB) := by
    conv => lhs; rw [← List.take_append_drop k out, drop_rd out k (by omega)]
    rw [List.filter_append, List.filter_cons, if_pos hi]
  unfold cntI
  refine ⟨by rw [e]; simp, ?_⟩
  conv => lhs; rw [e]
  unfold rdE
  simp only [Int.toNat_natCast]
  rw [List.getD_eq_getElem?_getD, List.getElem?_append_right (Nat.le_refl _), Nat.sub_self]
  rfl
theorem cntI_all (out : List SE) (i : Int) (h : ¬ i < out.length) : cntI out i.toNat = (out.filter issB).length := by
  unfold cntI
  rw [List.take_of_length_le (by omega)]
def dC (a : Int) : Int := wrap64 (1 + Int.tmod (wrap64 (Int.tmod a 8 + 8)) 8)
def nC (a : Int) : Int := Int.tmod (wrap64 (Int.tmod a 10 + 10)) 10
theorem dC_bd (a : Int) : 1 ≤ dC a ∧ dC a ≤ 8 := by
  have := tmod_bd a 8 (by omega) (by omega)
  unfold dC
  generalize Int.tmod (wrap64 (Int.tmod a 8 + 8)) 8 = z at *
  unfold wrap64
  omega
theorem nC_bd (a : Int) : 0 ≤ nC a ∧ nC a ≤ 9 := by
  have := tmod_bd a 10 (by omega) (by omega)
  unfold nC
  omega
set_option maxHeartbeats 4000000 in
set_option maxRecDepth 100000 in
theorem plans.calls (a0 a1 a2 a3 : Int) (A4 : Option Addr) (c4 : Nat) (l4 : List S73) (w : World) (hr : Kd.C k73 w A4 l4.length l4) (hc : l4.length ≤ c4) :
    Calls Try.prog 8 #[.int .i64 a0, .int .i64 a1, .int .i64 a2, .int .i64 a3, .slice A4 l4.length c4] w fun e w' => e = .returned (.bool true) ∧ Below w.heap.size w w' := by
  have HR := Aside0.mk hr
  have hlen : l4.length ≤ 9223372036854775807 := hr.2.1
  clear hr
  obtain ⟨cl0, cl1⟩ := clC_bd a0
  obtain ⟨be0, be1⟩ := beC_bd a1
  obtain ⟨dd0, dd1⟩ := dC_bd a2
  obtain ⟨nn0, nn1⟩ := nC_bd a3
  go_enter Try.func8, Try.ntmps8
  go_wp2_with (first | (go_at_call 24; refine (alive.calls _).mono ?_; rintro e w1 ⟨rfl, hb⟩; have HB1 := Aside0.mk hb; clear hb) | (go_at_call 25; refine (cfg.calls a0 a1 1 _).mono ?_; rintro e w2 ⟨rfl, hb⟩; have HB2 := Aside0.mk (below_b HB1.out hb HB1.out.size); clear hb) | ((with_reducible refine gate_dst (N := 11) rfl ?_); refine box_event ?hg (N := 11) ?hd (cs := #[.int .i64 0, .int .i64 0, .int .u64 0, .int .i64 0, .bool false, .int .i64 0, .int .i64 0, .int .i64 0, .int .i64 0, .int .i64 0, .int .i64 0, .int .i64 0, .int .i64 0, .int .i64 0, .int .i64 0, .int .i64 0, .int .i64 0, .int .i64 0, .int .i64 0, .int .i64 0, .int .i64 0, .int .i64 0, .int .i64 0, .int .i64 0, .int .i64 0, .int .i64 0, .int .i64 0, .int .i64 0, .int .i64 0, .int .i64 0, .int .i64 0, .int .i64 0]) (t := 69) ?hr ?_; (case hd => rfl); (case hg => rfl); (case hr => first | (go_simp; done) | (go_simp; rfl)); intro gb hg w3 hbox hb; have HB3 := Aside0.mk (below_b HB2.out hb HB2.out.size); have BK3 := Aside0.mk hbox; have GB := Aside0.mk (show w.heap.size ≤ gb from by rw [hg]; exact HB2.out.size); clear hb hbox hg) | ((with_reducible refine gate_store (p := 11) rfl ?_); refine store_all rfl rfl 69 _ _ rfl #[.int .i64 (clC a0), .int .i64 (beC a1), .int .u64 1, .int .i64 3, .bool false, .int .i64 4, .int .i64 2, .int .i64 6, .int .i64 1, .int .i64 3, .int .i64 800, .int .i64 5, .int .i64 4, .int .i64 16, .int .i64 50, .int .i64 40, .int .i64 200, .int .i64 50, .int .i64 2, .int .i64 5, .int .i64 3, .int .i64 1, .int .i64 5, .int .i64 900, .int .i64 2, .int .i64 1, .int .i64 4, .int .i64 500, .int .i64 4, .int .i64 4, .int .i64 30, .int .i64 8] rfl rfl BK3.out rfl (by kernel_rfl) (by rfl) ?_; intro w4 h1 h2; have BK4 := Aside0.mk h1; have HB4 := Aside0.mk (below_ch HB3.out h2 HB3.out.size (fun k e => by rw [e]; exact GB.out)); clear h1 h2))
  have HRN := Aside0.mk (Kd.R_nil kE 77 w4 w4.heap.size (fun _ => True))
  have HC4 := Aside0.mk (Kd.C_below HR.out HB4.out)
  go_loopw [12, 13] (fun v12 v13 W => ∃ i : Int, 0 ≤ i ∧ i ≤ l4.length ∧ i ≤ 20 ∧ v13 = .int .i64 i ∧ Aside0 (Kd.R kE 77 W w4.heap.size (fun _ => True) v12 (issL l4 i.toNat)) ∧ Aside0 (Below w4.heap.size w4 W)) (fun _ v _ => l4.length - (intOf v).toNat)
  case atStart => exact ⟨0, by omega, by omega, by omega, rfl, HRN, ⟨Below.refl _ _⟩⟩
  case round =>
    clear HRN HB1 HB2 HB3 BK3
    obtain ⟨i, i0, i1, i2, rfl, HR5, HB5⟩ := hrel
    by_cases hlt : i < l4.length ∧ i < 20
    · obtain ⟨hl1, hl2⟩ := hlt
      obtain ⟨ad, e1, hx0, hx1, hx2, hx3⟩ := at_T73 (Kd.C_below HC4.out HB5.out) i i0 hl1
      cases e1
      have HLI : Aside0 ((issL l4 i.toNat).length + 1 ≤ 10000) := ⟨by rw [issL_len]; omega⟩
      have hd1 : decide (i < ((l4.length : Nat) : Int)) = true := decide_eq_true hl1
      have hd2 : decide (i < 20) = true := decide_eq_true hl2
      have HS : Aside0 (issL l4 (i + 1).toNat = issL l4 i.toNat ++ [issE i (rd_T73 l4 i)]) := ⟨by
        obtain ⟨k, rfl⟩ : ∃ k : Nat, i = k := ⟨i.toNat, by omega⟩
        rw [show ((k : Int) + 1).toNat = k + 1 by omega]; rfl⟩
      go_wp2_with (first | ((with_reducible refine gate_ (.call { callee := .builtin .append, args := #[.tmp 36, .tmp 43], argTypes := #[71, 71] }) rfl ?_); refine append_E rfl (.tmp 36) (.tmp 43) 71 (.inl rfl) rfl w4.heap.size _ (issL l4 i.toNat) [issE i (rd_T73 l4 i)] _ 1 1 rfl rfl (Kd.R_below HR5.out (below_alloc (Below.refl _ _) _)) (C_newE _ _) (below_alloc HB5.out _) (below_alloc HB5.out _).size HLI.out ?_; intro v6 w6 hr hb; have HR6 := Aside0.mk hr; have HB6 := Aside0.mk hb; clear hr hb))
      refine ⟨⟨i + 1, by omega, by omega, by omega, rfl, ⟨by rw [HS.out]; exact HR6.out⟩, HB6⟩, ?_⟩
      simp [intOf]; omega
    · obtain ⟨iss, hiss⟩ : ∃ x, x = issL l4 i.toNat := ⟨_, rfl⟩
      have hil : iss.length ≤ 20 := by rw [hiss, issL_len]; omega
      have HNI : Aside0 (iss.any nisB = false) := ⟨by rw [hiss]; exact issL_any _ _⟩
      have HMEM : Aside0 (∀ x ∈ iss, ∃ i y, x = issE i y) := ⟨fun x hx => by rw [hiss] at hx; exact issL_mem _ _ x hx⟩
      rw [← hiss] at HR5
      clear hiss
      obtain ⟨Ai, ci, rfl⟩ := Kd.R_slice HR5.out
      have HCI := Aside0.mk (Kd.R_reads' HR5.out).2.2
      have hci := (Kd.R_reads' HR5.out).2.1
      have HBW := Aside0.mk (below_b HB4.out HB5.out HB4.out.size)
      have BKW := Aside0.mk ((Ch.of_below HB5.out (fun _ => False)).heap BK4.out (fun h => h))
      obtain ⟨D, hD⟩ : ∃ D, D = wrap64 (1 + Int.tmod (wrap64 (Int.tmod a2 8 + 8)) 8) := ⟨_, rfl⟩
      obtain ⟨M, hM⟩ : ∃ M, M = Int.tmod (wrap64 (Int.tmod a3 10 + 10)) 10 := ⟨_, rfl⟩
      have hD2 : 1 ≤ D ∧ D ≤ 8 := by rw [hD]; exact dC_bd a2
      have hM2 : 0 ≤ M ∧ M ≤ 9 := by rw [hM]; exact nC_bd a3
      obtain ⟨d0, d1⟩ := hD2
      obtain ⟨m0, m1⟩ := hM2
      have HTOT : Aside0 (M.toNat * ((ticksT (clC a0) (beC a1)).length + D.toNat) + iss.length ≤ 512) := ⟨by
        rw [ticksT_len]
        have h1 : M.toNat * ((clC a0).toNat + (beC a1).toNat + D.toNat) ≤ 9 * 15 := Nat.mul_le_mul (by omega) (by omega)
        omega⟩
      have HRP : Aside0 (roundsL (clC a0) (beC a1) (planT (clC a0) (beC a1) D.toNat M.toNat (iss.map pE)) = (M, (if M.toNat = 0 then 0 else D), 0)) := ⟨by
        rw [rounds_plan (clC a0) (beC a1) D.toNat M.toNat (iss.map pE) cl0 (by omega) (fun x hx => by
          obtain ⟨y, hy, rfl⟩ := List.mem_map.1 hx
          obtain ⟨j, z, rfl⟩ := HMEM.out y hy
          rfl) (by rw [List.length_map]; exact HTOT.out)]
        rw [show ((M.toNat : Nat) : Int) = M by omega, show ((D.toNat : Nat) : Int) = D by omega]⟩
      obtain ⟨E, hE⟩ : ∃ E, E = (if M.toNat = 0 then 0 else D) := ⟨_, rfl⟩
      rw [← hE] at HRP
      have hEq : M > 0 → E = D := fun h => by rw [hE, if_neg (by omega)]
      clear hE HR5 HC4 HB5 HR nn0 nn1 dd0 dd1
      have hnum0 : wrap64 (0 + 0) = 0 := by decide +kernel
      have hx : ¬ i < l4.length ∨ (i < l4.length ∧ ¬ i < 20) := by
        rcases Int.lt_or_le i l4.length with h | h
        · exact .inr ⟨h, fun h2 => hlt ⟨h, h2⟩⟩
        · exact .inl (by omega)
      clear hlt
      rcases hx with hx | ⟨hx, hx2⟩
      · have hd1 : decide (i < ((l4.length : Nat) : Int)) = false := decide_eq_false hx
        go_wp2_with (first | ((with_reducible refine gate_dst (N := 55) rfl ?_); refine load_mid_w ?hw 69 _ rfl gb 0 rfl [.int .i64 (clC a0), .int .i64 (beC a1), .int .u64 1, .int .i64 3, .bool false, .int .i64 4, .int .i64 2, .int .i64 6, .int .i64 1, .int .i64 3, .int .i64 800, .int .i64 5, .int .i64 4, .int .i64 16, .int .i64 50, .int .i64 40, .int .i64 200, .int .i64 50, .int .i64 2, .int .i64 5, .int .i64 3, .int .i64 1, .int .i64 5, .int .i64 900, .int .i64 2, .int .i64 1, .int .i64 4, .int .i64 500, .int .i64 4, .int .i64 4, .int .i64 30, .int .i64 8] _ (range_of BKW.out (by rfl)) Try.underlying69 rfl (by kernel_rfl) ?_; (case hw => first | rfl | (go_simp; done) | (go_simp; rfl))))
        rw [← hD, ← hM]
        clear hD hM
        go_at_call 26
        refine (plan.calls (clC a0) (beC a1) 1 D M Ai ci iss _ HCI.out hci (by omega) (by omega) (by omega) (by omega) (by omega) (by omega) (by omega) (by omega) (by omega) HNI.out HTOT.out).mono ?_
        rintro e w7 ⟨⟨v, out, rfl, hR, hmap, hfil⟩, hb⟩
        obtain ⟨Ao, co, rfl⟩ := Kd.R_slice hR
        have HB7 := Aside0.mk (below_b HBW.out hb HBW.out.size)
        have BK7 := Aside0.mk ((Ch.of_below hb (fun _ => False)).heap BKW.out (fun h => h))
        have HCO := Aside0.mk (Kd.R_reads' hR).2.2
        have hco := (Kd.R_reads' hR).2.1
        have HFI := Aside0.mk hfil
        have HMP := Aside0.mk hmap
        have HCI7 := Aside0.mk (Kd.C_below HCI.out hb)
        have holen : out.length ≤ 9223372036854775807 := HCO.out.2.1
        clear hb hR hmap hfil
        go_wp2_with (first | ((with_reducible refine gate_dst (N := 63) rfl ?_); refine load_mid_w ?hw 69 _ rfl gb 0 rfl [.int .i64 (clC a0), .int .i64 (beC a1), .int .u64 1, .int .i64 3, .bool false, .int .i64 4, .int .i64 2, .int .i64 6, .int .i64 1, .int .i64 3, .int .i64 800, .int .i64 5, .int .i64 4, .int .i64 16, .int .i64 50, .int .i64 40, .int .i64 200, .int .i64 50, .int .i64 2, .int .i64 5, .int .i64 3, .int .i64 1, .int .i64 5, .int .i64 900, .int .i64 2, .int .i64 1, .int .i64 4, .int .i64 500, .int .i64 4, .int .i64 4, .int .i64 30, .int .i64 8] _ (range_of BK7.out (by rfl)) Try.underlying69 rfl (by kernel_rfl) ?_; (case hw => first | rfl | (go_simp; done) | (go_simp; rfl))))
        go_at_call 27
        refine (rounds.calls (clC a0) (beC a1) 1 Ao co out _ HCO.out hco (by omega) (by omega) (by omega) (by omega)).mono ?_
        rintro e w8 ⟨rfl, hb⟩
        rw [HMP.out, HRP.out]
        have HB8 := Aside0.mk (below_b HB7.out hb HB7.out.size)
        have HCO8 := Aside0.mk (Kd.C_below HCO.out hb)
        have HCI8 := Aside0.mk (Kd.C_below HCI7.out hb)
        clear hb
        go_wp2_with fail
        go_at_call 28
        refine (waybilllaw32_num.calls 0 0 _ rfl).mono ?_
        rintro e w9 ⟨rfl, hb⟩
        have HB9 := Aside0.mk (below_b HB8.out hb.below HB8.out.size)
        have HCO9 := Aside0.mk (Kd.C_below HCO8.out hb.below)
        have HCI9 := Aside0.mk (Kd.C_below HCI8.out hb.below)
        clear hb
        go_wp2_with fail
        go_at_call 28
        refine (waybilllaw32_num.calls 0 0 _ rfl).mono ?_
        rintro e w10 ⟨rfl, hb⟩
        have HBA := Aside0.mk (below_b HB9.out hb.below HB9.out.size)
        have HCOA := Aside0.mk (Kd.C_below HCO9.out hb.below)
        have HCIA := Aside0.mk (Kd.C_below HCI9.out hb.below)
        clear hb HB7 HB8 HB9 HCO HCO8 HCO9 HCI HCI7 HCI8 HCI9 HBW BKW BK7 HMP HRP HTOT HNI
        by_cases hM0 : M > 0
        · obtain rfl := hEq hM0
          clear hEq
          have hd3 : decide (M > 0) = true := decide_eq_true hM0
          go_wp2_with fail
          go_loopw [19, 20] (fun v19 v20 W => ∃ i : Int, 0 ≤ i ∧ i ≤ out.length ∧ v20 = .int .i64 i ∧ v19 = .int .i64 ((cntI out i.toNat : Nat) : Int) ∧ Aside0 (Below w10.heap.size w10 W)) (fun _ v _ => out.length - (intOf v).toNat)
          case atStart => exact ⟨0, by omega, by omega, rfl, rfl, ⟨Below.refl _ _⟩⟩
          case round =>
            obtain ⟨q, q0, q1, rfl, rfl, HBQ⟩ := hrel
            by_cases hq : q < out.length
            · have hdq : decide (q < ((out.length : Nat) : Int)) = true := decide_eq_true hq
              obtain ⟨ad, e1, hx0, hx1, hx2, hx3, hx4, hx5, hx6, hx7, hx8⟩ := at_E (Kd.C_below HCOA.out HBQ.out) q q0 hq
              cases e1
              have HST := Aside0.mk (cntI_step out q q0 hq)
              by_cases hk : (rdE out q).f0 = 1
              · have hib : issB (rdE out q) = true := by unfold issB; exact decide_eq_true hk
                obtain ⟨hc1, hc2⟩ := cntI_get out q q0 hq hib
                rw [HFI.out] at hc1 hc2
                have HST2 : Aside0 (cntI out (q + 1).toNat = cntI out q.toNat + 1) := ⟨by rw [HST.out, if_pos hib]⟩
                clear HST
                obtain ⟨n, hn⟩ : ∃ n, n = cntI out q.toNat := ⟨_, rfl⟩
                rw [← hn] at hc1 hc2 HST2 ⊢
                clear hn
                obtain ⟨ad2, e2, hy0, hy1, hy2, hy3, hy4, hy5, hy6, hy7, hy8⟩ := at_E (Kd.C_below HCIA.out HBQ.out) (n : Int) (by omega) (by omega)
                cases e2
                rw [hc2] at hy0 hy1 hy2 hy3 hy4 hy5 hy6 hy7 hy8
                have hmem : rdE out q ∈ iss := by
                  rw [← hc2]
                  unfold rdE
                  rw [Int.toNat_natCast, List.getD_eq_getElem?_getD, List.getElem?_eq_getElem hc1]
                  exact List.getElem_mem _
                obtain ⟨j, y, hjy⟩ := HMEM.out _ hmem
                rw [hjy] at hx0 hx1 hx2 hx3 hx4 hx5 hx6 hx7 hx8 hy0 hy1 hy2 hy3 hy4 hy5 hy6 hy7 hy8
                clear hc2 hmem hjy hk hib
                dsimp only [issE] at hx0 hx1 hx2 hx3 hx4 hx5 hx6 hx7 hx8 hy0 hy1 hy2 hy3 hy4 hy5 hy6 hy7 hy8
                rw [Int.toNat_natCast] at hy0 hy1 hy2 hy3 hy4 hy5 hy6 hy7 hy8
                have hcd : decide (((n : Nat) : Int) ≥ ((iss.length : Nat) : Int)) = false := decide_eq_false (by omega)
                have hcl : ((n : Nat) : Int) < ((iss.length : Nat) : Int) := by omega
                have hn0 : (0 : Int) ≤ ((n : Nat) : Int) := by omega
                have hcn1 : ¬ iss.length ≤ n := by omega
                have hcn2 : ¬ ((iss.length : Nat) : Int) ≤ ((n : Nat) : Int) := by omega
                have hcn3 : decide (iss.length ≤ n) = false := decide_eq_false hcn1
                have hcn4 : decide (((iss.length : Nat) : Int) ≤ ((n : Nat) : Int)) = false := decide_eq_false hcn2
                have hil2 : iss.length ≤ 20 := hil
                go_wp2_with fail
                go_still_tail 13, (by kernel_rfl)
                change wpList _ _ _ _ _ wr.drew
                have HBD := Aside0.mk (below_drew HBQ.out)
                clear hx0 hx1 hx2 hx3 hx4 hx5 hx6 hx7 hx8 hy0 hy1 hy2 hy3 hy4 hy5 hy6 hy7 hy8
                generalize wr.drew = wd at HBD ⊢
                go_wp2_with (first | (go_at_call 29; refine (waybillplain_SameEvent.calls 1 1 j 9 y.f0 y.f1 y.f2 y.f3 0 none 0 [] 1 j 9 y.f0 y.f1 y.f2 y.f3 0 none 0 [] true _ (Kd.C_nil _ _) (Nat.le_refl _) (Kd.C_nil _ _) (Nat.le_refl _) (issE_same j y)).mono ?_; rintro e wz ⟨rfl, hb⟩; have HBZ := Aside0.mk (below_b HBD.out hb HBD.out.size); clear hb))
                refine ⟨⟨q + 1, by omega, by omega, rfl, by rw [HST2.out, Int.natCast_add]; rfl, HBZ⟩, ?_⟩
                simp [intOf]; omega
              · have hib : issB (rdE out q) = false := by unfold issB; exact decide_eq_false hk
                have HST2 : Aside0 (cntI out (q + 1).toNat = cntI out q.toNat) := ⟨by rw [HST.out, if_neg (by rw [hib]; decide)]; rfl⟩
                clear HST
                obtain ⟨kk, hkk⟩ : ∃ kk, kk = (rdE out q).f0 := ⟨_, rfl⟩
                rw [← hkk] at hx0 hk
                have hkb : (kk == 1) = false := by simpa using hk
                clear hkk hib
                go_wp2_with fail
                refine ⟨⟨q + 1, by omega, by omega, rfl, by rw [HST2.out], HBQ⟩, ?_⟩
                simp [intOf]; omega
            · have hdq : decide (q < ((out.length : Nat) : Int)) = false := decide_eq_false hq
              have hall := cntI_all out q hq
              rw [HFI.out] at hall
              rw [hall]
              go_wp2_with fail
              go_ret
              exact ⟨by first | rfl | (simp; done), below_b HBA.out HBQ.out HBA.out.size⟩
        · have hd3 : decide (M > 0) = false := decide_eq_false hM0
          clear hEq
          go_wp2_with fail
          go_loopw [19, 20] (fun v19 v20 W => ∃ i : Int, 0 ≤ i ∧ i ≤ out.length ∧ v20 = .int .i64 i ∧ v19 = .int .i64 ((cntI out i.toNat : Nat) : Int) ∧ Aside0 (Below w10.heap.size w10 W)) (fun _ v _ => out.length - (intOf v).toNat)
          case atStart => exact ⟨0, by omega, by omega, rfl, rfl, ⟨Below.refl _ _⟩⟩
          case round =>
            obtain ⟨q, q0, q1, rfl, rfl, HBQ⟩ := hrel
            by_cases hq : q < out.length
            · have hdq : decide (q < ((out.length : Nat) : Int)) = true := decide_eq_true hq
              obtain ⟨ad, e1, hx0, hx1, hx2, hx3, hx4, hx5, hx6, hx7, hx8⟩ := at_E (Kd.C_below HCOA.out HBQ.out) q q0 hq
              cases e1
              have HST := Aside0.mk (cntI_step out q q0 hq)
              by_cases hk : (rdE out q).f0 = 1
              · have hib : issB (rdE out q) = true := by unfold issB; exact decide_eq_true hk
                obtain ⟨hc1, hc2⟩ := cntI_get out q q0 hq hib
                rw [HFI.out] at hc1 hc2
                have HST2 : Aside0 (cntI out (q + 1).toNat = cntI out q.toNat + 1) := ⟨by rw [HST.out, if_pos hib]⟩
                clear HST
                obtain ⟨n, hn⟩ : ∃ n, n = cntI out q.toNat := ⟨_, rfl⟩
                rw [← hn] at hc1 hc2 HST2 ⊢
                clear hn
                obtain ⟨ad2, e2, hy0, hy1, hy2, hy3, hy4, hy5, hy6, hy7, hy8⟩ := at_E (Kd.C_below HCIA.out HBQ.out) (n : Int) (by omega) (by omega)
                cases e2
                rw [hc2] at hy0 hy1 hy2 hy3 hy4 hy5 hy6 hy7 hy8
                have hmem : rdE out q ∈ iss := by
                  rw [← hc2]
                  unfold rdE
                  rw [Int.toNat_natCast, List.getD_eq_getElem?_getD, List.getElem?_eq_getElem hc1]
                  exact List.getElem_mem _
                obtain ⟨j, y, hjy⟩ := HMEM.out _ hmem
                rw [hjy] at hx0 hx1 hx2 hx3 hx4 hx5 hx6 hx7 hx8 hy0 hy1 hy2 hy3 hy4 hy5 hy6 hy7 hy8
                clear hc2 hmem hjy hk hib
                dsimp only [issE] at hx0 hx1 hx2 hx3 hx4 hx5 hx6 hx7 hx8 hy0 hy1 hy2 hy3 hy4 hy5 hy6 hy7 hy8
                rw [Int.toNat_natCast] at hy0 hy1 hy2 hy3 hy4 hy5 hy6 hy7 hy8
                have hcd : decide (((n : Nat) : Int) ≥ ((iss.length : Nat) : Int)) = false := decide_eq_false (by omega)
                have hcl : ((n : Nat) : Int) < ((iss.length : Nat) : Int) := by omega
                have hn0 : (0 : Int) ≤ ((n : Nat) : Int) := by omega
                have hcn1 : ¬ iss.length ≤ n := by omega
                have hcn2 : ¬ ((iss.length : Nat) : Int) ≤ ((n : Nat) : Int) := by omega
                have hcn3 : decide (iss.length ≤ n) = false := decide_eq_false hcn1
                have hcn4 : decide (((iss.length : Nat) : Int) ≤ ((n : Nat) : Int)) = false := decide_eq_false hcn2
                have hil2 : iss.length ≤ 20 := hil
                go_wp2_with fail
                go_still_tail 13, (by kernel_rfl)
                change wpList _ _ _ _ _ wr.drew
                have HBD := Aside0.mk (below_drew HBQ.out)
                clear hx0 hx1 hx2 hx3 hx4 hx5 hx6 hx7 hx8 hy0 hy1 hy2 hy3 hy4 hy5 hy6 hy7 hy8
                generalize wr.drew = wd at HBD ⊢
                go_wp2_with (first | (go_at_call 29; refine (waybillplain_SameEvent.calls 1 1 j 9 y.f0 y.f1 y.f2 y.f3 0 none 0 [] 1 j 9 y.f0 y.f1 y.f2 y.f3 0 none 0 [] true _ (Kd.C_nil _ _) (Nat.le_refl _) (Kd.C_nil _ _) (Nat.le_refl _) (issE_same j y)).mono ?_; rintro e wz ⟨rfl, hb⟩; have HBZ := Aside0.mk (below_b HBD.out hb HBD.out.size); clear hb))
                refine ⟨⟨q + 1, by omega, by omega, rfl, by rw [HST2.out, Int.natCast_add]; rfl, HBZ⟩, ?_⟩
                simp [intOf]; omega
              · have hib : issB (rdE out q) = false := by unfold issB; exact decide_eq_false hk
                have HST2 : Aside0 (cntI out (q + 1).toNat = cntI out q.toNat) := ⟨by rw [HST.out, if_neg (by rw [hib]; decide)]; rfl⟩
                clear HST
                obtain ⟨kk, hkk⟩ : ∃ kk, kk = (rdE out q).f0 := ⟨_, rfl⟩
                rw [← hkk] at hx0 hk
                have hkb : (kk == 1) = false := by simpa using hk
                clear hkk hib
                go_wp2_with fail
                refine ⟨⟨q + 1, by omega, by omega, rfl, by rw [HST2.out], HBQ⟩, ?_⟩
                simp [intOf]; omega
            · have hdq : decide (q < ((out.length : Nat) : Int)) = false := decide_eq_false hq
              have hall := cntI_all out q hq
              rw [HFI.out] at hall
              rw [hall]
              go_wp2_with fail
              go_ret
              exact ⟨by first | rfl | (simp; done), below_b HBA.out HBQ.out HBA.out.size⟩
      · have hd1 : decide (i < ((l4.length : Nat) : Int)) = true := decide_eq_true hx
        have hd2 : decide (i < 20) = false := decide_eq_false hx2
        go_wp2_with (first | ((with_reducible refine gate_dst (N := 55) rfl ?_); refine load_mid_w ?hw 69 _ rfl gb 0 rfl [.int .i64 (clC a0), .int .i64 (beC a1), .int .u64 1, .int .i64 3, .bool false, .int .i64 4, .int .i64 2, .int .i64 6, .int .i64 1, .int .i64 3, .int .i64 800, .int .i64 5, .int .i64 4, .int .i64 16, .int .i64 50, .int .i64 40, .int .i64 200, .int .i64 50, .int .i64 2, .int .i64 5, .int .i64 3, .int .i64 1, .int .i64 5, .int .i64 900, .int .i64 2, .int .i64 1, .int .i64 4, .int .i64 500, .int .i64 4, .int .i64 4, .int .i64 30, .int .i64 8] _ (range_of BKW.out (by rfl)) Try.underlying69 rfl (by kernel_rfl) ?_; (case hw => first | rfl | (go_simp; done) | (go_simp; rfl))))
        rw [← hD, ← hM]
        clear hD hM
        go_at_call 26
        refine (plan.calls (clC a0) (beC a1) 1 D M Ai ci iss _ HCI.out hci (by omega) (by omega) (by omega) (by omega) (by omega) (by omega) (by omega) (by omega) (by omega) HNI.out HTOT.out).mono ?_
        rintro e w7 ⟨⟨v, out, rfl, hR, hmap, hfil⟩, hb⟩
        obtain ⟨Ao, co, rfl⟩ := Kd.R_slice hR
        have HB7 := Aside0.mk (below_b HBW.out hb HBW.out.size)
        have BK7 := Aside0.mk ((Ch.of_below hb (fun _ => False)).heap BKW.out (fun h => h))
        have HCO := Aside0.mk (Kd.R_reads' hR).2.2
        have hco := (Kd.R_reads' hR).2.1
        have HFI := Aside0.mk hfil
        have HMP := Aside0.mk hmap
        have HCI7 := Aside0.mk (Kd.C_below HCI.out hb)
        have holen : out.length ≤ 9223372036854775807 := HCO.out.2.1
        clear hb hR hmap hfil
        go_wp2_with (first | ((with_reducible refine gate_dst (N := 63) rfl ?_); refine load_mid_w ?hw 69 _ rfl gb 0 rfl [.int .i64 (clC a0), .int .i64 (beC a1), .int .u64 1, .int .i64 3, .bool false, .int .i64 4, .int .i64 2, .int .i64 6, .int .i64 1, .int .i64 3, .int .i64 800, .int .i64 5, .int .i64 4, .int .i64 16, .int .i64 50, .int .i64 40, .int .i64 200, .int .i64 50, .int .i64 2, .int .i64 5, .int .i64 3, .int .i64 1, .int .i64 5, .int .i64 900, .int .i64 2, .int .i64 1, .int .i64 4, .int .i64 500, .int .i64 4, .int .i64 4, .int .i64 30, .int .i64 8] _ (range_of BK7.out (by rfl)) Try.underlying69 rfl (by kernel_rfl) ?_; (case hw => first | rfl | (go_simp; done) | (go_simp; rfl))))
        go_at_call 27
        refine (rounds.calls (clC a0) (beC a1) 1 Ao co out _ HCO.out hco (by omega) (by omega) (by omega) (by omega)).mono ?_
        rintro e w8 ⟨rfl, hb⟩
        rw [HMP.out, HRP.out]
        have HB8 := Aside0.mk (below_b HB7.out hb HB7.out.size)
        have HCO8 := Aside0.mk (Kd.C_below HCO.out hb)
        have HCI8 := Aside0.mk (Kd.C_below HCI7.out hb)
        clear hb
        go_wp2_with fail
        go_at_call 28
        refine (waybilllaw32_num.calls 0 0 _ rfl).mono ?_
        rintro e w9 ⟨rfl, hb⟩
        have HB9 := Aside0.mk (below_b HB8.out hb.below HB8.out.size)
        have HCO9 := Aside0.mk (Kd.C_below HCO8.out hb.below)
        have HCI9 := Aside0.mk (Kd.C_below HCI8.out hb.below)
        clear hb
        go_wp2_with fail
        go_at_call 28
        refine (waybilllaw32_num.calls 0 0 _ rfl).mono ?_
        rintro e w10 ⟨rfl, hb⟩
        have HBA := Aside0.mk (below_b HB9.out hb.below HB9.out.size)
        have HCOA := Aside0.mk (Kd.C_below HCO9.out hb.below)
        have HCIA := Aside0.mk (Kd.C_below HCI9.out hb.below)
        clear hb HB7 HB8 HB9 HCO HCO8 HCO9 HCI HCI7 HCI8 HCI9 HBW BKW BK7 HMP HRP HTOT HNI
        by_cases hM0 : M > 0
        · obtain rfl := hEq hM0
          clear hEq
          have hd3 : decide (M > 0) = true := decide_eq_true hM0
          go_wp2_with fail
          go_loopw [19, 20] (fun v19 v20 W => ∃ i : Int, 0 ≤ i ∧ i ≤ out.length ∧ v20 = .int .i64 i ∧ v19 = .int .i64 ((cntI out i.toNat : Nat) : Int) ∧ Aside0 (Below w10.heap.size w10 W)) (fun _ v _ => out.length - (intOf v).toNat)
          case atStart => exact ⟨0, by omega, by omega, rfl, rfl, ⟨Below.refl _ _⟩⟩
          case round =>
            obtain ⟨q, q0, q1, rfl, rfl, HBQ⟩ := hrel
            by_cases hq : q < out.length
            · have hdq : decide (q < ((out.length : Nat) : Int)) = true := decide_eq_true hq
              obtain ⟨ad, e1, hx0, hx1, hx2, hx3, hx4, hx5, hx6, hx7, hx8⟩ := at_E (Kd.C_below HCOA.out HBQ.out) q q0 hq
              cases e1
              have HST := Aside0.mk (cntI_step out q q0 hq)
              by_cases hk : (rdE out q).f0 = 1
              · have hib : issB (rdE out q) = true := by unfold issB; exact decide_eq_true hk
                obtain ⟨hc1, hc2⟩ := cntI_get out q q0 hq hib
                rw [HFI.out] at hc1 hc2
                have HST2 : Aside0 (cntI out (q + 1).toNat = cntI out q.toNat + 1) := ⟨by rw [HST.out, if_pos hib]⟩
                clear HST
                obtain ⟨n, hn⟩ : ∃ n, n = cntI out q.toNat := ⟨_, rfl⟩
                rw [← hn] at hc1 hc2 HST2 ⊢
                clear hn
                obtain ⟨ad2, e2, hy0, hy1, hy2, hy3, hy4, hy5, hy6, hy7, hy8⟩ := at_E (Kd.C_below HCIA.out HBQ.out) (n : Int) (by omega) (by omega)
                cases e2
                rw [hc2] at hy0 hy1 hy2 hy3 hy4 hy5 hy6 hy7 hy8
                have hmem : rdE out q ∈ iss := by
                  rw [← hc2]
                  unfold rdE
                  rw [Int.toNat_natCast, List.getD_eq_getElem?_getD, List.getElem?_eq_getElem hc1]
                  exact List.getElem_mem _
                obtain ⟨j, y, hjy⟩ := HMEM.out _ hmem
                rw [hjy] at hx0 hx1 hx2 hx3 hx4 hx5 hx6 hx7 hx8 hy0 hy1 hy2 hy3 hy4 hy5 hy6 hy7 hy8
                clear hc2 hmem hjy hk hib
                dsimp only [issE] at hx0 hx1 hx2 hx3 hx4 hx5 hx6 hx7 hx8 hy0 hy1 hy2 hy3 hy4 hy5 hy6 hy7 hy8
                rw [Int.toNat_natCast] at hy0 hy1 hy2 hy3 hy4 hy5 hy6 hy7 hy8
                have hcd : decide (((n : Nat) : Int) ≥ ((iss.length : Nat) : Int)) = false := decide_eq_false (by omega)
                have hcl : ((n : Nat) : Int) < ((iss.length : Nat) : Int) := by omega
                have hn0 : (0 : Int) ≤ ((n : Nat) : Int) := by omega
                have hcn1 : ¬ iss.length ≤ n := by omega
                have hcn2 : ¬ ((iss.length : Nat) : Int) ≤ ((n : Nat) : Int) := by omega
                have hcn3 : decide (iss.length ≤ n) = false := decide_eq_false hcn1
                have hcn4 : decide (((iss.length : Nat) : Int) ≤ ((n : Nat) : Int)) = false := decide_eq_false hcn2
                have hil2 : iss.length ≤ 20 := hil
                go_wp2_with fail
                go_still_tail 13, (by kernel_rfl)
                change wpList _ _ _ _ _ wr.drew
                have HBD := Aside0.mk (below_drew HBQ.out)
                clear hx0 hx1 hx2 hx3 hx4 hx5 hx6 hx7 hx8 hy0 hy1 hy2 hy3 hy4 hy5 hy6 hy7 hy8
                generalize wr.drew = wd at HBD ⊢
                go_wp2_with (first | (go_at_call 29; refine (waybillplain_SameEvent.calls 1 1 j 9 y.f0 y.f1 y.f2 y.f3 0 none 0 [] 1 j 9 y.f0 y.f1 y.f2 y.f3 0 none 0 [] true _ (Kd.C_nil _ _) (Nat.le_refl _) (Kd.C_nil _ _) (Nat.le_refl _) (issE_same j y)).mono ?_; rintro e wz ⟨rfl, hb⟩; have HBZ := Aside0.mk (below_b HBD.out hb HBD.out.size); clear hb))
                refine ⟨⟨q + 1, by omega, by omega, rfl, by rw [HST2.out, Int.natCast_add]; rfl, HBZ⟩, ?_⟩
                simp [intOf]; omega
              · have hib : issB (rdE out q) = false := by unfold issB; exact decide_eq_false hk
                have HST2 : Aside0 (cntI out (q + 1).toNat = cntI out q.toNat) := ⟨by rw [HST.out, if_neg (by rw [hib]; decide)]; rfl⟩
                clear HST
                obtain ⟨kk, hkk⟩ : ∃ kk, kk = (rdE out q).f0 := ⟨_, rfl⟩
                rw [← hkk] at hx0 hk
                have hkb : (kk == 1) = false := by simpa using hk
                clear hkk hib
                go_wp2_with fail
                refine ⟨⟨q + 1, by omega, by omega, rfl, by rw [HST2.out], HBQ⟩, ?_⟩
                simp [intOf]; omega
            · have hdq : decide (q < ((out.length : Nat) : Int)) = false := decide_eq_false hq
              have hall := cntI_all out q hq
              rw [HFI.out] at hall
              rw [hall]
              go_wp2_with fail
              go_ret
              exact ⟨by first | rfl | (simp; done), below_b HBA.out HBQ.out HBA.out.size⟩
        · have hd3 : decide (M > 0) = false := decide_eq_false hM0
          clear hEq
          go_wp2_with fail
          go_loopw [19, 20] (fun v19 v20 W => ∃ i : Int, 0 ≤ i ∧ i ≤ out.length ∧ v20 = .int .i64 i ∧ v19 = .int .i64 ((cntI out i.toNat : Nat) : Int) ∧ Aside0 (Below w10.heap.size w10 W)) (fun _ v _ => out.length - (intOf v).toNat)
          case atStart => exact ⟨0, by omega, by omega, rfl, rfl, ⟨Below.refl _ _⟩⟩
          case round =>
            obtain ⟨q, q0, q1, rfl, rfl, HBQ⟩ := hrel
            by_cases hq : q < out.length
            · have hdq : decide (q < ((out.length : Nat) : Int)) = true := decide_eq_true hq
              obtain ⟨ad, e1, hx0, hx1, hx2, hx3, hx4, hx5, hx6, hx7, hx8⟩ := at_E (Kd.C_below HCOA.out HBQ.out) q q0 hq
              cases e1
              have HST := Aside0.mk (cntI_step out q q0 hq)
              by_cases hk : (rdE out q).f0 = 1
              · have hib : issB (rdE out q) = true := by unfold issB; exact decide_eq_true hk
                obtain ⟨hc1, hc2⟩ := cntI_get out q q0 hq hib
                rw [HFI.out] at hc1 hc2
                have HST2 : Aside0 (cntI out (q + 1).toNat = cntI out q.toNat + 1) := ⟨by rw [HST.out, if_pos hib]⟩
                clear HST
                obtain ⟨n, hn⟩ : ∃ n, n = cntI out q.toNat := ⟨_, rfl⟩
                rw [← hn] at hc1 hc2 HST2 ⊢
                clear hn
                obtain ⟨ad2, e2, hy0, hy1, hy2, hy3, hy4, hy5, hy6, hy7, hy8⟩ := at_E (Kd.C_below HCIA.out HBQ.out) (n : Int) (by omega) (by omega)
                cases e2
                rw [hc2] at hy0 hy1 hy2 hy3 hy4 hy5 hy6 hy7 hy8
                have hmem : rdE out q ∈ iss := by
                  rw [← hc2]
                  unfold rdE
                  rw [Int.toNat_natCast, List.getD_eq_getElem?_getD, List.getElem?_eq_getElem hc1]
                  exact List.getElem_mem _
                obtain ⟨j, y, hjy⟩ := HMEM.out _ hmem
                rw [hjy] at hx0 hx1 hx2 hx3 hx4 hx5 hx6 hx7 hx8 hy0 hy1 hy2 hy3 hy4 hy5 hy6 hy7 hy8
                clear hc2 hmem hjy hk hib
                dsimp only [issE] at hx0 hx1 hx2 hx3 hx4 hx5 hx6 hx7 hx8 hy0 hy1 hy2 hy3 hy4 hy5 hy6 hy7 hy8
                rw [Int.toNat_natCast] at hy0 hy1 hy2 hy3 hy4 hy5 hy6 hy7 hy8
                have hcd : decide (((n : Nat) : Int) ≥ ((iss.length : Nat) : Int)) = false := decide_eq_false (by omega)
                have hcl : ((n : Nat) : Int) < ((iss.length : Nat) : Int) := by omega
                have hn0 : (0 : Int) ≤ ((n : Nat) : Int) := by omega
                have hcn1 : ¬ iss.length ≤ n := by omega
                have hcn2 : ¬ ((iss.length : Nat) : Int) ≤ ((n : Nat) : Int) := by omega
                have hcn3 : decide (iss.length ≤ n) = false := decide_eq_false hcn1
                have hcn4 : decide (((iss.length : Nat) : Int) ≤ ((n : Nat) : Int)) = false := decide_eq_false hcn2
                have hil2 : iss.length ≤ 20 := hil
                go_wp2_with fail
                go_still_tail 13, (by kernel_rfl)
                change wpList _ _ _ _ _ wr.drew
                have HBD := Aside0.mk (below_drew HBQ.out)
                clear hx0 hx1 hx2 hx3 hx4 hx5 hx6 hx7 hx8 hy0 hy1 hy2 hy3 hy4 hy5 hy6 hy7 hy8
                generalize wr.drew = wd at HBD ⊢
                go_wp2_with (first | (go_at_call 29; refine (waybillplain_SameEvent.calls 1 1 j 9 y.f0 y.f1 y.f2 y.f3 0 none 0 [] 1 j 9 y.f0 y.f1 y.f2 y.f3 0 none 0 [] true _ (Kd.C_nil _ _) (Nat.le_refl _) (Kd.C_nil _ _) (Nat.le_refl _) (issE_same j y)).mono ?_; rintro e wz ⟨rfl, hb⟩; have HBZ := Aside0.mk (below_b HBD.out hb HBD.out.size); clear hb))
                refine ⟨⟨q + 1, by omega, by omega, rfl, by rw [HST2.out, Int.natCast_add]; rfl, HBZ⟩, ?_⟩
                simp [intOf]; omega
              · have hib : issB (rdE out q) = false := by unfold issB; exact decide_eq_false hk
                have HST2 : Aside0 (cntI out (q + 1).toNat = cntI out q.toNat) := ⟨by rw [HST.out, if_neg (by rw [hib]; decide)]; rfl⟩
                clear HST
                obtain ⟨kk, hkk⟩ : ∃ kk, kk = (rdE out q).f0 := ⟨_, rfl⟩
                rw [← hkk] at hx0 hk
                have hkb : (kk == 1) = false := by simpa using hk
                clear hkk hib
                go_wp2_with fail
                refine ⟨⟨q + 1, by omega, by omega, rfl, by rw [HST2.out], HBQ⟩, ?_⟩
                simp [intOf]; omega
            · have hdq : decide (q < ((out.length : Nat) : Int)) = false := decide_eq_false hq
              have hall := cntI_all out q hq
              rw [HFI.out] at hall
              rw [hall]
              go_wp2_with fail
              go_ret
              exact ⟨by first | rfl | (simp; done), below_b HBA.out HBQ.out HBA.out.size⟩
end Go.Proofs.Ytemleanglkaedaa.ECalmPlans
