-- Written by a program of this seat, over a copy of the print; parts by hand.
import Derived.Test.YthldeecchlgieaaEDrawGoesx0
import Derived.Test.YthldeecchlgieaaEDrawGoesx1
namespace Go.Proofs.Ythldeecchlgieaa.EDrawGoes
open Go.RowKit Go.Proofs.YthldeecchlgieaaW.PrintWords Go.Proofs.YthldeecchlgieaaW.PrintLast Go.Proofs.YthldeecchlgieaaW.PrintMore
attribute [local go_sem] max2_int min2_int max_two min_two max_three min_three max_four min_four   -- for this text's walks alone
set_option linter.unusedVariables false
set_option linter.unusedSimpArgs false

/-! ### draw_Skip: function 32 -/
def draw_Skip.f (a0 : Int) (a1 : Int) : Option (Int × Int) := if a1 < 0 then (some (0, 4)) else (if a1 > 1073741824 then (some (0, 4)) else (some (IntKind.u64.wrap (a0 + (IntKind.u64.wrap (11400714819323198485 * (IntKind.u64.wrap (a1))))), 0)))
set_option maxHeartbeats 8000000 in
set_option maxRecDepth 100000 in
theorem draw_Skip.calls (a0 : Int) (a1 : Int) (r1 : Int) (r2 : Int) (w : World) (h : draw_Skip.f a0 a1 = some (r1, r2)) :
    Calls Try.prog 32 #[.int .u64 a0, .int .i64 a1] w fun e w' => e = .returned (.tuple #[.int .u64 r1, .int .i64 r2]) ∧ Drawn0 w w' := by
  have H : (if a1 < 0 then (some (0, 4)) else (if a1 > 1073741824 then (some (0, 4)) else (some (IntKind.u64.wrap (a0 + (IntKind.u64.wrap (11400714819323198485 * (IntKind.u64.wrap (a1))))), 0)))) = some (r1, r2) := h
  clear h
  by_cases c3 : a1 < 0
  · rw [if_pos c3] at H
    have c3b0 : decide (a1 < 0) = true := decide_eq_true c3
    clear c3
    simp only [Option.some.injEq, Prod.mk.injEq] at H
    obtain ⟨rfl, rfl⟩ := H
    go_enter Try.func32, Try.ntmps32
    go_wp2
    go_ret2
    exact ⟨by first | rfl | (simp; done) | (simp [*]; done), by repeat (first | exact Drawn0.refl _ | apply Drawn0.step)⟩
  · rw [if_neg c3] at H
    have c3b0 : decide (a1 < 0) = false := decide_eq_false c3
    clear c3
    by_cases c4 : a1 > 1073741824
    · rw [if_pos c4] at H
      have c4b0 : decide (1073741824 < a1) = true := decide_eq_true c4
      clear c4
      simp only [Option.some.injEq, Prod.mk.injEq] at H
      obtain ⟨rfl, rfl⟩ := H
      go_enter Try.func32, Try.ntmps32
      go_wp2
      go_ret2
      exact ⟨by first | rfl | (simp; done) | (simp [*]; done), by repeat (first | exact Drawn0.refl _ | apply Drawn0.step)⟩
    · rw [if_neg c4] at H
      have c4b0 : decide (1073741824 < a1) = false := decide_eq_false c4
      clear c4
      simp only [Option.some.injEq, Prod.mk.injEq] at H
      obtain ⟨rfl, rfl⟩ := H
      go_enter Try.func32, Try.ntmps32
      go_wp2
      go_ret2
      exact ⟨by first | rfl | (simp; done) | (simp [*]; done), by repeat (first | exact Drawn0.refl _ | apply Drawn0.step)⟩

-- by hand: drawgoes.inc
/-- As a step of its own: not by unfolding. -/
theorem obind {α β : Type} (a : α) (f : α → Option β) : (some a).bind f = f a := Eq.trans (Option.bind_some a f) (Eq.refl _)
/-- Numbers of 64 bits. -/
abbrev B := BitVec 64
def c1 : B := 18397679294719823053#64
def c2 : B := 14181476777654086739#64
theorem wu (n : Int) : IntKind.u64.wrap n = n % 18446744073709551616 := by simp [IntKind.wrap, IntKind.bits, IntKind.signed]
theorem bv_of (a : Int) (h : (Lit.int .u64 a).wf = true) : ∃ v : B, a = (v.toNat : Int) := by
  simp only [Lit.wf, IntKind.min, IntKind.max, IntKind.signed, IntKind.bits, Bool.and_eq_true] at h
  refine ⟨BitVec.ofInt 64 a, ?_⟩
  rw [BitVec.toNat_ofInt]
  have h2 : a < 18446744073709551616 := by have := h.2; simp at this; omega
  have h1 : 0 ≤ a := by simpa using h.1
  simp
  omega
theorem bv_lt (v : B) : (v.toNat : Int) < 18446744073709551616 := by have := v.isLt; omega
def foldB (v : B) : B := v ^^^ (v >>> 33)
theorem fold_of (v : B) : Go.bits .xor .u64 (v.toNat : Int) ((v.toNat : Int) / 8589934592) = ((foldB v).toNat : Int) := by
  have h : ((v.toNat : Int) / (8589934592 : Int)) = (((v >>> 33).toNat : Nat) : Int) := by
    simp [BitVec.toNat_ushiftRight, Nat.shiftRight_eq_div_pow]
  rw [h]
  unfold Go.bits foldB
  simp only [IntKind.bits]
  rw [BitVec.ofInt_natCast, BitVec.ofInt_natCast]
  simp only [BitVec.ofNat_toNat, BitVec.setWidth_eq]
  rw [wu]
  show ((v ^^^ (v >>> 33) : B).toNat : Int) % 18446744073709551616 = ((v ^^^ (v >>> 33) : B).toNat : Int)
  have := (v ^^^ (v >>> 33) : B).isLt
  omega
theorem foldB_foldB (v : B) : foldB (foldB v) = v := by
  unfold foldB
  have h : (v >>> 33) >>> 33 = 0#64 := by
    rw [← BitVec.shiftRight_add]
    apply BitVec.eq_of_toNat_eq
    simp [BitVec.toNat_ushiftRight, Nat.shiftRight_eq_div_pow]
    have := v.isLt
    omega
  rw [BitVec.ushiftRight_xor_distrib, h]
  simp [BitVec.xor_assoc]
theorem mul_of (v c : B) : IntKind.u64.wrap ((v.toNat : Int) * (c.toNat : Int)) = ((v * c).toNat : Int) := by
  rw [wu, BitVec.toNat_mul]; simp
theorem add_of (v c : B) : IntKind.u64.wrap ((v.toNat : Int) + (c.toNat : Int)) = ((v + c).toNat : Int) := by
  rw [wu, BitVec.toNat_add]; simp
def mixB (v : B) : B := foldB (foldB (foldB v * c1) * c2)
def i1 : B := 5725274745694666757#64
def i2 : B := 11291846944257947611#64
def unmixB (v : B) : B := foldB (foldB (foldB v * i2) * i1)
theorem c1i1 : c1 * i1 = 1#64 := by decide
theorem c2i2 : c2 * i2 = 1#64 := by decide
theorem unmix_mix (v : B) : unmixB (mixB v) = v := by
  unfold unmixB mixB
  rw [foldB_foldB, BitVec.mul_assoc, c2i2, BitVec.mul_one, foldB_foldB, BitVec.mul_assoc, c1i1, BitVec.mul_one, foldB_foldB]
theorem mix_unmix (v : B) : mixB (unmixB v) = v := by
  unfold unmixB mixB
  rw [foldB_foldB, BitVec.mul_assoc, BitVec.mul_comm i1 c1, c1i1, BitVec.mul_one, foldB_foldB, BitVec.mul_assoc, BitVec.mul_comm i2 c2, c2i2, BitVec.mul_one, foldB_foldB]
theorem mix_inj {v u : B} : mixB v = mixB u ↔ v = u := ⟨fun h => by rw [← unmix_mix v, h, unmix_mix], fun h => by rw [h]⟩
theorem toNat_beq (v u : B) : (((v.toNat : Nat) : Int) == ((u.toNat : Nat) : Int)) = (v == u) := by
  rw [Bool.eq_iff_iff]; simp [BitVec.toNat_inj, Int.ofNat_inj]
theorem Fold (v : B) : hash_fold.f (v.toNat : Int) = some ((foldB v).toNat : Int) := by unfold hash_fold.f; rw [fold_of]
theorem c1_int : (18397679294719823053 : Int) = ((c1.toNat : Nat) : Int) := by simp [c1]
theorem c2_int : (14181476777654086739 : Int) = ((c2.toNat : Nat) : Int) := by simp [c2]
theorem Mix (v : B) : hash_Mix.f (v.toNat : Int) = some ((mixB v).toNat : Int) := by
  unfold hash_Mix.f
  rw [Fold]; simp only [obind]
  rw [c1_int, mul_of, Fold]; simp only [obind]
  rw [c2_int, mul_of, Fold]; rfl
def stepB : B := 11400714819323198485#64
theorem step_int : (11400714819323198485 : Int) = ((stepB.toNat : Nat) : Int) := by simp [stepB]
theorem NextB (v : B) : draw_Next.f (v.toNat : Int) = some (((v + stepB).toNat : Int), ((mixB (v + stepB)).toNat : Int)) := by
  unfold draw_Next.f
  rw [step_int, add_of, Mix]; simp only [obind]
theorem dT_of (v : B) (n : Int) : ∃ p, hash_Share.f ((mixB (v + stepB)).toNat : Int) n = some p ∧ dT (v.toNat : Int) n = (((v + stepB).toNat : Int), p.1) := by
  obtain ⟨p, hp⟩ := share_some ((mixB (v + stepB)).toNat : Int) n
  refine ⟨p, hp, ?_⟩
  unfold dT drw
  rw [NextB]; simp only [obind]
  rw [hp]; simp only [obind]; rfl
theorem dT_state (v : B) (n : Int) : (dT (v.toNat : Int) n).1 = ((v + stepB).toNat : Int) := by
  obtain ⟨p, _, h⟩ := dT_of v n
  rw [h]
theorem dT_wf (v : B) (n : Int) : ∃ u : B, (dT (v.toNat : Int) n).1 = (u.toNat : Int) := ⟨_, dT_state v n⟩
/-- The bounds that the law makes of its numbers. -/
def gN (a : Int) : Int := wrap64 (1 + (Int.tmod (wrap64 ((Int.tmod a 1000) + 1000)) 1000))
theorem gN_bd (a : Int) : 1 ≤ gN a ∧ gN a ≤ 1000 := by
  unfold gN
  have h1 := Int.tmod_lt_of_pos a (show (0 : Int) < 1000 by decide)
  have h2 := Int.lt_tmod_of_pos a (show (0 : Int) < 1000 by decide)
  have e1 : wrap64 (a.tmod 1000 + 1000) = a.tmod 1000 + 1000 := by unfold wrap64; omega
  rw [e1, Int.tmod_eq_emod_of_nonneg (by omega)]
  unfold wrap64
  omega
def ownL (l : List Int) (i : Nat) : List Int := (l.take i).map gN
theorem ownL_succ (l : List Int) (i : Int) (h0 : 0 ≤ i) (h : i < l.length) : ownL l (i + 1).toNat = ownL l i.toNat ++ [gN (rd l i)] := by
  unfold ownL
  rw [show (i + 1).toNat = i.toNat + 1 by omega, List.take_succ_eq_append_getElem (show i.toNat < l.length by omega), List.map_append]
  congr 2
  unfold rd
  rw [List.getD_eq_getElem?_getD, List.getElem?_eq_getElem (show i.toNat < l.length by omega)]; rfl
theorem ownL_length (l : List Int) (i : Nat) : (ownL l i).length = min i l.length := by simp [ownL]
theorem ownL_bd (l : List Int) (i : Nat) : ∀ x ∈ ownL l i, 1 ≤ x ∧ x ≤ 1000 := by
  intro x hx
  unfold ownL at hx
  obtain ⟨a, _, rfl⟩ := List.mem_map.1 hx
  exact gN_bd a
theorem odd_no (l : List Int) (h : ∀ x ∈ l, 1 ≤ x ∧ x ≤ 1000) : l.any oddN = false := by
  rw [List.any_eq_false]
  intro x hx
  have := h x hx
  unfold oddN
  rw [decide_eq_false (by omega), decide_eq_false (by omega)]; decide
theorem BelowF (s : Int) (l : List Int) (hl : l.length ≤ 1000) (h : ∀ x ∈ l, 1 ≤ x ∧ x ≤ 1000) : draw_Below.f s l = some ((drws s l).1, (drws s l).2, 0) := by
  unfold draw_Below.f
  rw [if_pos (by omega), if_neg (by rw [odd_no l h]; decide)]
theorem Alive : waybilllaw11_alive.f 5 = some true := by
  unfold waybilllaw11_alive.f
  have h1 : draw_Shuffle.f 5 1 = some (5, [0], 0) := by unfold draw_Shuffle.f; rw [if_neg (by decide), if_neg (by decide)]; rfl
  have h2 : draw_Below.f 5 [1, 1] = some ((drws 5 [1, 1]).1, (drws 5 [1, 1]).2, 0) := by unfold draw_Below.f; rw [if_pos (by simp), if_neg (by decide)]
  rw [h1, h2]; simp only [obind]
  have h3 : ((drws 5 [1, 1]).2.length : Int) = 2 := by rw [drws_length]; rfl
  rw [h3]
  generalize (drws 5 [1, 1]).1 = z
  unfold waybilllaw11_num.f
  simp only [obind]
  rw [if_pos (show wrap64 (0 + 0) = 0 by decide +kernel), if_pos trivial, show waybillplain_SameInts.f 5 [0] [0] = some true by decide +kernel]; simp only [obind, if_true]
  rfl
theorem drws_state (l : List Int) : ∀ v : B, (drws (v.toNat : Int) l).1 = ((v + BitVec.ofNat 64 l.length * stepB).toNat : Int) := by
  induction l with
  | nil => intro v; simp [drws]
  | cons n t ih =>
    intro v
    show (drws (dT (v.toNat : Int) n).1 t).1 = _
    rw [dT_state, ih]
    have e : v + stepB + BitVec.ofNat 64 t.length * stepB = v + BitVec.ofNat 64 (n :: t).length * stepB := by
      rw [List.length_cons, BitVec.ofNat_add, BitVec.add_mul, BitVec.add_assoc, BitVec.add_comm stepB, BitVec.one_mul]
    rw [e]
theorem skipF (v : B) (own : List Int) (hl : own.length ≤ 100) : draw_Skip.f (v.toNat : Int) (own.length : Int) = some ((drws (v.toNat : Int) own).1, 0) := by
  unfold draw_Skip.f
  rw [if_neg (by omega), if_neg (by omega), drws_state, step_int]
  have e1 : IntKind.u64.wrap ((own.length : Int)) = ((BitVec.ofNat 64 own.length).toNat : Int) := by rw [wu, BitVec.toNat_ofNat]; simp
  rw [e1, mul_of, add_of, BitVec.mul_comm]
theorem drop_some (l : List Int) (i : Int) (h0 : 0 ≤ i) (h : i < l.length) (a : Int) (t : List Int) (e : l.drop i.toNat = a :: t) : rd l i = a ∧ l.drop (i + 1).toNat = t := by
  rw [drop_cons l i h0 h] at e
  injection e with e1 e2
  exact ⟨e1, e2⟩
theorem goes_step (own all : List Int) (st fin i : Int) (h0 : 0 ≤ i) (hlt : i < own.length) (hall : all.length = own.length) (he : drws st (own.drop i.toNat) = (fin, all.drop i.toNat)) :
    drws st [rd own i] = ((dT st (rd own i)).1, [(dT st (rd own i)).2]) ∧ rd all i = (dT st (rd own i)).2 ∧ drws (dT st (rd own i)).1 (own.drop (i + 1).toNat) = (fin, all.drop (i + 1).toNat) := by
  rw [drop_cons own i h0 hlt] at he
  have he1 : (drws (dT st (rd own i)).1 (own.drop (i + 1).toNat)).1 = fin := congrArg Prod.fst he
  have he2 : (dT st (rd own i)).2 :: (drws (dT st (rd own i)).1 (own.drop (i + 1).toNat)).2 = all.drop i.toNat := congrArg Prod.snd he
  obtain ⟨r1, r2⟩ := drop_some all i h0 (by omega) _ _ he2.symm
  exact ⟨rfl, r1, by rw [r2, ← he1]⟩
theorem rd_mem (own : List Int) (i : Int) (h0 : 0 ≤ i) (hlt : i < own.length) : rd own i ∈ own := by
  unfold rd
  rw [List.getD_eq_getElem?_getD, List.getElem?_eq_getElem (show i.toNat < own.length by omega)]; exact List.getElem_mem _
theorem rd_one (x : Int) : rd [x] 0 = x := rfl
set_option maxRecDepth 100000 in
set_option maxHeartbeats 4000000 in
theorem waybilllaw11_DrawGoes.calls (a0 : Int) (A1 : Option Addr) (c1 : Nat) (l1 : List Int) (w : World) (w0 : (Lit.int .u64 a0).wf = true) (hlen : l1.length * 8 ≤ 140737488351232) (hr1 : Kd.C (Kd.int .i64) w A1 l1.length l1) (hc1 : l1.length ≤ c1) :
    Calls Try.prog 10 #[.int .u64 a0, .slice A1 l1.length c1] w fun e w' => e = .returned (.bool true) ∧ Below w.heap.size w w' := by
  obtain ⟨v, rfl⟩ := bv_of a0 w0
  have HR1 := Aside0.mk hr1
  clear hr1 w0
  go_enter Try.func10, Try.ntmps10
  go_wp2_with fail
  refine (waybilllaw11_alive.calls 5 true _ Alive).mono ?_
  rintro e w1 ⟨rfl, hB1⟩
  have HB1 := Aside0.mk hB1
  clear hB1
  go_wp2
  go_loopw [5, 6] (fun v5 v6 wr => ∃ i : Int, 0 ≤ i ∧ i ≤ l1.length ∧ i ≤ 100 ∧ v6 = .int .i64 i ∧ Aside0 (Kd.R (Kd.int .i64) 3 wr w.heap.size (fun _ => True) v5 (ownL l1 i.toNat)) ∧ Aside0 (Below w.heap.size w wr)) (fun _ v _ => 100 - (intOf v).toNat)
  case atStart => exact ⟨0, by omega, by omega, by omega, rfl, ⟨Kd.R_nil _ _ _ _ _⟩, HB1⟩
  case round =>
    clear HB1
    obtain ⟨i, h0, hi, hi2, rfl, HO, HB⟩ := hrel
    have hor : (i < l1.length ∧ i < 100) ∨ (i < l1.length ∧ ¬ i < 100) ∨ ¬ i < l1.length := by omega
    rcases hor with ⟨hlt, hl2⟩ | hor
    · obtain ⟨ad, e1, hx⟩ := Kd.at_int HR1.out i h0 hlt
      cases e1
      replace hx := (HB.out.cell (World.block_lt_of_cell? w _ hx)).trans hx
      have HLB : Aside0 (((ownL l1 i.toNat).length + 1) * 8 ≤ 140737488355328) := ⟨by rw [ownL_length]; omega⟩
      go_wp2_with ((with_reducible refine gate_builtin (b := .append) (xs := #[.tmp 29, .tmp 38]) rfl ?_); at_builtin; refine Kd.R_append (Kd.int .i64) (w0 := w) w.heap.size rfl (.tmp 29) (.tmp 38) 39 3 (.int .i64 0) 8 rfl Try.underlying39 info3 rfl (by decide) (by decide) _ (ownL l1 i.toNat) (gN (rd l1 i)) [.int .i64 (gN (rd l1 i))] (fun _ => True) (fun _ => False) rfl rfl rfl (fun _ hk => hk.elim) (fun _ _ => trivial) HO.out HB.out HB.out.size HLB.out ?_; intro v1 w2 hR hB hG _; have X := Aside0.mk (And.intro hR hB); clear hR hB hG)
      obtain ⟨hR, hB⟩ := X.out
      clear X
      rw [← ownL_succ l1 i h0 hlt] at hR
      have HO2 := Aside0.mk hR
      have HB2 := Aside0.mk hB
      clear hR hB HO HB HLB hx
      try go_wp2
      go_roundw
      case rel => exact ⟨i + 1, by omega, by omega, by omega, rfl, HO2, HB2⟩
      case measure => simp [intOf]; omega
    · rcases hor with ⟨hlt, hl2⟩ | hlt
      all_goals
        have hown : Aside0 ((ownL l1 i.toNat).length = i) := ⟨by rw [ownL_length]; omega⟩
        have hbd := Aside0.mk (ownL_bd l1 i.toNat)
        obtain ⟨own, howndef⟩ : ∃ own, own = ownL l1 i.toNat := ⟨_, rfl⟩
        rw [← howndef] at hown hbd HO
        clear howndef
        have hl100 : own.length ≤ 100 := by have := hown.out; omega
        have HBF := Aside0.mk (BelowF (v.toNat : Int) own (by omega) hbd.out)
        have HSF := Aside0.mk (skipF v own hl100)
        obtain ⟨st, hst⟩ : ∃ st, st = (drws (v.toNat : Int) own).1 := ⟨_, rfl⟩
        obtain ⟨all, hall⟩ : ∃ all, all = (drws (v.toNat : Int) own).2 := ⟨_, rfl⟩
        have hal : all.length = own.length := by rw [hall, drws_length]
        have hD : Aside0 (drws (v.toNat : Int) own = (st, all)) := ⟨by rw [hst, hall]⟩
        rw [← hst, ← hall] at HBF
        rw [← hst] at HSF
        have HAL := Aside0.mk hal
        clear hst hall hal
        obtain ⟨A, c, rfl, hc, hC⟩ := Kd.R_reads HO.out
        have HC := Aside0.mk hC
        have HCc := Aside0.mk hc
        clear hC hc HO
        go_wp2_with fail
        refine (draw_Below.calls _ A c own _ _ _ _ HC.out HCc.out HBF.out).mono ?_
        rintro e w3 ⟨v8, rfl, hR8, hB8⟩
        obtain ⟨A8, c8, rfl, hc8, hC8⟩ := Kd.R_reads hR8
        have HC8 := Aside0.mk hC8
        have HC2 := Aside0.mk (Kd.C_below HC.out hB8)
        have HB2 := Aside0.mk (below_step HB.out hB8)
        clear hR8 hC8 hc8 HC HB hB8
        go_wp2_with fail
        refine (draw_Skip.calls _ _ _ _ _ HSF.out).mono ?_
        rintro e w4 ⟨rfl, hB4⟩
        have HC8b := Aside0.mk (Kd.C_below HC8.out hB4.below)
        have HC2b := Aside0.mk (Kd.C_below HC2.out hB4.below)
        have HB3 := Aside0.mk (below_step HB2.out hB4.below)
        have hne1 : (all.length != own.length) = false := by rw [HAL.out]; simp
        have hne2 : (((all.length : Nat) : Int) != ((own.length : Nat) : Int)) = false := by rw [HAL.out]; simp
        clear hB4 HC8 HC2 HB2
        go_wp2_with (go_at_call 29; refine (waybilllaw11_num.calls _ _ _ rfl).mono ?_; rintro e w' ⟨rfl, ⟨n1, rfl⟩⟩)
        go_loopw [12, 13, 14, 15, 16] (fun v12 v13 v14 v15 v16 wr => ∃ i x : Int, 0 ≤ i ∧ i ≤ own.length ∧ v12 = .int .u64 x ∧ v13 = .int .i64 i ∧ Aside0 (drws x (own.drop i.toNat) = (st, all.drop i.toNat)) ∧ Aside0 (Kd.C (Kd.int .i64) wr A own.length own) ∧ Aside0 (Kd.C (Kd.int .i64) wr A8 all.length all) ∧ Aside0 (Below w.heap.size w wr)) (fun _ v _ _ _ _ => own.length - (intOf v).toNat)
        case atStart => exact ⟨0, _, by omega, by omega, rfl, rfl, hD, HC2b, HC8b, ⟨pw_below_drewN HB3.out _⟩⟩
        case round =>
          clear hD HC2b HC8b HB3
          obtain ⟨j, x, j0, hj, rfl, rfl, hD, HC, HC8, HB⟩ := hrel
          by_cases jlt : j < own.length
          · obtain ⟨ad, e1, hx⟩ := Kd.at_int HC.out j j0 jlt
            cases e1
            have hmem := hbd.out _ (rd_mem own j j0 jlt)
            obtain ⟨g1, g2, g3⟩ := goes_step own all x st j j0 jlt HAL.out hD.out
            have hdd := dT_bd x (rd own j) hmem.1 (by omega)
            obtain ⟨y, hy⟩ : ∃ y, y = (dT x (rd own j)).1 := ⟨_, rfl⟩
            obtain ⟨q, hq⟩ : ∃ q, q = (dT x (rd own j)).2 := ⟨_, rfl⟩
            rw [← hy, ← hq] at g1
            rw [← hq] at g2 hdd
            rw [← hy] at g3
            clear hy hq
            obtain ⟨z, hz⟩ : ∃ z, z = rd own j := ⟨_, rfl⟩
            rw [← hz] at hx hmem g1 hdd
            have HBF1 : Aside0 (draw_Below.f x [z] = some (y, [q], 0)) := ⟨by rw [BelowF x [z] (by simp) (by intro a ha; simp at ha; rw [ha]; exact hmem), g1]⟩
            have G3 := Aside0.mk g3
            have G2 := Aside0.mk g2
            have HZ := Aside0.mk hz
            clear g1 g2 g3 hz hD
            obtain ⟨hd0, hd1⟩ := hdd
            go_wp2_with fail
            refine (draw_Below.calls _ _ _ [z] _ _ _ _ (by exact zC_new .i64 3 [z] _ _ (by simp) (by simp)) (Nat.le_refl _) HBF1.out).mono ?_
            rintro e w5 ⟨v15, rfl, hR5, hB5⟩
            obtain ⟨A5, c5, rfl, hc5, hC5⟩ := Kd.R_reads hR5
            have HB5 := Aside0.mk (below_step (below_alloc HB.out _) hB5)
            have HCo := Aside0.mk (Kd.C_below (Kd.C_below HC.out (below_alloc (Below.refl _ _) _)) hB5)
            have HCa := Aside0.mk (Kd.C_below (Kd.C_below HC8.out (below_alloc (Below.refl _ _) _)) hB5)
            obtain ⟨ad1, e1, hx1⟩ := Kd.at_int hC5 0 (by omega) (by simp)
            cases e1
            rw [rd_one] at hx1
            have hx1b : w5.cell? (ad1.add 0) = some (.int .i64 q) := hx1
            have hx1c : w5.cell? ad1 = some (.int .i64 q) := by simpa [Addr.add] using hx1
            obtain ⟨ad2, e2, hx2⟩ := Kd.at_int HCa.out j j0 (by have := HAL.out; omega)
            cases e2
            rw [G2.out] at hx2
            obtain ⟨ad3, e3, hx3⟩ := Kd.at_int HCo.out j j0 jlt
            cases e3
            rw [← HZ.out] at hx3
            have jlt8 : j < all.length := by have := HAL.out; omega
            clear hR5 hC5 hc5 hB5 HC HC8 HB hx
            go_wp2_with fail
            go_quiet ((go_at_call 29; exact Calls.quiet_of ((waybilllaw11_num.calls _ _ _ rfl).mono fun _ _ ⟨he, hd⟩ => ⟨he, hd.out⟩)))
            try go_wp2
            go_roundw
            case rel => exact ⟨j + 1, y, by omega, by omega, rfl, rfl, G3, ⟨HCo.out⟩, ⟨HCa.out⟩, ⟨by repeat (first | exact HB5.out | apply pw_below_drewN | apply below_drew1)⟩⟩
            case measure => simp [intOf]; omega
          · obtain rfl : j = own.length := by omega
            have hfin : x = st := by have := hD.out; rw [List.drop_eq_nil_of_le (by omega)] at this; exact congrArg Prod.fst this
            subst hfin
            go_wp2
            go_ret
            exact ⟨by simp, HB.out⟩
/-- The statement's walk: by hand. -/
def waybilllaw11_DrawGoes.Pure : Prop := True
theorem waybilllaw11_DrawGoes.walk (P : waybilllaw11_DrawGoes.Pure) (a0 : Int) (a1 : Option Addr) (len1 cap1 : Nat) (z1 : List Int) (w : World) (w0 : (Lit.int .u64 a0).wf = true) (w1 : (a1 = none ∧ len1 = 0 ∧ cap1 = 0 ∧ z1 = []) ∨ ∃ x, a1 = some x ∧ len1 ≤ cap1 ∧ cap1 ≤ maxLen ∧ z1.length = cap1 ∧ (∀ i, i < z1.length → w.cell? (x.add i) = some (.int .i64 (z1.getD i 0))) ∧ ∀ n ∈ z1, (Lit.int .i64 n).wf = true) (y1 : len1 * 8 ≤ 140737488351232) :
    Calls Try.prog 10 #[.int .u64 a0, .slice a1 len1 cap1] w fun e w' => e = .returned (.bool true) ∧ Below w.heap.size w w' := by
  obtain ⟨l1, rfl, hr1, hm1, hw1, hc1⟩ := ReadsInt.ofRowC w1
  exact waybilllaw11_DrawGoes.calls a0 _ _ l1 w w0 y1 (Kd.C_of_reads (d := (0 : Int)) (h1 := fun _ => rfl) hr1) hc1

end Go.Proofs.Ythldeecchlgieaa.EDrawGoes
