-- Written by a program of this seat, over a copy of the print; parts by hand.
import Derived.Test.YthldeecchlgieaaEDrawShufflesx0
namespace Go.Proofs.Ythldeecchlgieaa.EDrawShuffles
open Go.RowKit Go.Proofs.YthldeecchlgieaaW.PrintWords Go.Proofs.YthldeecchlgieaaW.PrintLast Go.Proofs.YthldeecchlgieaaW.PrintMore
attribute [local go_sem] max2_int min2_int max_two min_two max_three min_three max_four min_four   -- for this text's walks alone
set_option linter.unusedVariables false
set_option linter.unusedSimpArgs false

-- by hand: ../lib/Aid.inc
/-! What a call changes: the blocks of S, and what is new since. -/
structure Ch (S : Nat → Prop) (w w' : World) : Prop where
  os : w'.os = w.os
  tape : w'.tape = w.tape
  output : w'.output = w.output
  size : w.heap.size ≤ w'.heap.size
  block : ∀ k, k < w.heap.size → ¬ S k → w'.heap[k]? = w.heap[k]?
section
variable {S S' : Nat → Prop} {w w1 w2 : World}
theorem Ch.refl (S : Nat → Prop) (w : World) : Ch S w w := ⟨rfl, rfl, rfl, Nat.le_refl _, fun _ _ _ => rfl⟩
theorem Ch.trans (h : Ch S w w1) (k : Ch S' w1 w2) (hs : ∀ k, S' k → S k ∨ w.heap.size ≤ k) : Ch S w w2 :=
  ⟨k.os.trans h.os, k.tape.trans h.tape, k.output.trans h.output, Nat.le_trans h.size k.size, fun i hi hn => (k.block i (Nat.lt_of_lt_of_le hi h.size) (fun h2 => (hs i h2).elim hn (fun h3 => by omega))).trans (h.block i hi hn)⟩
theorem Ch.mono (h : Ch S w w1) (hs : ∀ k, S k → S' k) : Ch S' w w1 := ⟨h.os, h.tape, h.output, h.size, fun i hi hn => h.block i hi (fun hk => hn (hs i hk))⟩
theorem Ch.of_below (h : Below w.heap.size w w1) (S : Nat → Prop) : Ch S w w1 := ⟨h.os, h.tape, h.output, h.size, fun k hk _ => h.block k hk⟩
theorem Ch.thenB (h : Ch S w w1) (k : Below w1.heap.size w1 w2) : Ch S w w2 := h.trans (Ch.of_below k (fun _ => False)) (fun _ h => h.elim)
theorem Ch.alloc (h : Ch S w w1) (o : Obj) : Ch S w (w1.alloc o) := h.thenB (below_alloc (Below.refl _ _) o)
theorem Ch.drewN (h : Ch S w w1) (n : Nat) : Ch S w (w1.drewN n) := ⟨h.os, h.tape, h.output, h.size, h.block⟩
theorem Ch.drew (h : Ch S w w1) : Ch S w w1.drew := ⟨h.os, h.tape, h.output, h.size, h.block⟩
theorem Ch.drawn (h : Ch S w w1) (k : Drawn0 w1 w2) : Ch S w w2 := h.thenB k.below
theorem Ch.set (h : Ch S w w1) {p : Addr} (hp : S p.block ∨ w.heap.size ≤ p.block) (u : Value) : Ch S w (w1.setCell p u) :=
  h.trans (S' := fun k => k = p.block) ⟨rfl, rfl, rfl, by simp [World.setCell], fun i _ hn => Below.heap_setCell w1 p u i hn⟩ (fun k hk => by rw [hk]; exact hp)
theorem Ch.grown {row : Option Nat} (h : Ch S w w1) (hg : w1.grownBy w2 row) (hr : ∀ k, row = some k → S k ∨ w.heap.size ≤ k) : Ch S w w2 :=
  h.trans (S' := fun k => row = some k) ⟨hg.os, hg.tape, hg.output, hg.size, fun i hi hn => hg.block i hi (fun he => hn he.symm)⟩ hr
theorem Ch.toB {B : Nat} (h : Ch S w w1) (hB : B ≤ w.heap.size) (hs : ∀ k, S k → B ≤ k) : Below B w w1 :=
  ⟨h.os, h.tape, h.output, h.size, fun k hk => h.block k (Nat.lt_of_lt_of_le hk hB) (fun h2 => by have := hs k h2; omega)⟩
theorem Ch.below (h : Ch (fun _ => False) w w1) : Below w.heap.size w w1 := h.toB (Nat.le_refl _) (fun _ h => h.elim)
theorem Ch.belowN (h : Ch S w w1) (hs : ∀ k, S k → w.heap.size ≤ k) : Below w.heap.size w w1 := h.toB (Nat.le_refl _) hs
theorem Ch.cell (h : Ch S w w1) {a : Addr} {v : Value} (hc : w.cell? a = some v) (hn : ¬ S a.block) : w1.cell? a = some v := by
  have := h.block a.block (World.block_lt_of_cell? w a hc) hn
  simpa [World.cell?, this] using hc
theorem Ch.heap (h : Ch S w w1) {g : Nat} {o : Obj} (hb : w.heap[g]? = some o) (hn : ¬ S g) : w1.heap[g]? = some o := (h.block g (lt_of_block hb) hn).trans hb
end
/-- below(B, w0, W) and on. -/
theorem below_ch {B : Nat} {w0 w w1 : World} {S : Nat → Prop} (h : Below B w0 w) (k : Ch S w w1) (hB : B ≤ w.heap.size) (hs : ∀ k, S k → B ≤ k) : Below B w0 w1 := h.trans (k.toB hB hs)
theorem R_ch {α : Type} {d : Kd α} {e base : Nat} {ok S : Nat → Prop} {w w1 : World} {v : Value} {xs : List α} (h : d.R e w base ok v xs) (k : Ch S w w1) (hok : ∀ k, ok k → ¬ S k) : d.R e w1 base ok v xs :=
  Kd.R_step h (fun i ho hi => k.block i hi (hok i ho))
theorem setCell_drewN_ (w : World) (n : Nat) (a : Addr) (v : Value) : (w.drewN n).setCell a v = (w.setCell a v).drewN n := rfl
/-- A slice's length, for a measure. -/
def slen (v : Value) : Nat := match v with | .slice _ m _ => m | _ => 0
theorem zC_block (k : IntKind) (e : TypeId) (xs : List Int) {W : World} {g : Nat} (h : W.heap[g]? = some (.cells (nums k xs).toArray e (0, 0))) (hm : xs.length ≤ 9223372036854775807) : Kd.C (Kd.int k) W (some ⟨g, 0, none⟩) xs.length xs := by
  refine ⟨rfl, hm, fun _ => ⟨_, rfl, fun j p hp => ⟨[.int k p], rfl, rfl, fun i u hu => ?_⟩⟩⟩
  obtain ⟨rfl, rfl⟩ : i = 0 ∧ u = .int k p := by
    cases i with
    | zero => simp at hu; exact ⟨rfl, hu.symm⟩
    | succ i => simp at hu
  rw [add_plain]
  have hs : (Kd.int k).sz = 1 := rfl
  rw [hs, Nat.mul_one, Nat.add_zero]
  have hj : (nums k xs)[j]? = some (.int k p) := by simp [nums, hp]
  simp only [World.cell?, h]
  simp [hj]
theorem zC_new (k : IntKind) (e : TypeId) (xs : List Int) (W : World) (g : Nat) (hg : g = W.heap.size) (hm : xs.length ≤ 9223372036854775807) : Kd.C (Kd.int k) (W.alloc (.cells (nums k xs).toArray e)) (some ⟨g, 0, none⟩) xs.length xs := by
  subst hg
  exact zC_block k e xs (heap_alloc_new W _) hm

/-! ### bits_Mul64: function 43 -/
def bits_Mul64.f (a0 : Int) (a1 : Int) : Option (Int × Int) := some (IntKind.u64.wrap ((IntKind.u64.wrap ((IntKind.u64.wrap ((a0 / 4294967296) * (a1 / 4294967296))) + ((IntKind.u64.wrap ((IntKind.u64.wrap ((a0 / 4294967296) * (Go.bits .and .u64 a1 4294967295))) + ((IntKind.u64.wrap ((Go.bits .and .u64 a0 4294967295) * (Go.bits .and .u64 a1 4294967295))) / 4294967296))) / 4294967296))) + ((IntKind.u64.wrap ((Go.bits .and .u64 (IntKind.u64.wrap ((IntKind.u64.wrap ((a0 / 4294967296) * (Go.bits .and .u64 a1 4294967295))) + ((IntKind.u64.wrap ((Go.bits .and .u64 a0 4294967295) * (Go.bits .and .u64 a1 4294967295))) / 4294967296))) 4294967295) + (IntKind.u64.wrap ((Go.bits .and .u64 a0 4294967295) * (a1 / 4294967296))))) / 4294967296)), IntKind.u64.wrap (a0 * a1))
set_option maxHeartbeats 8000000 in
set_option maxRecDepth 100000 in
theorem bits_Mul64.calls (a0 : Int) (a1 : Int) (r1 : Int) (r2 : Int) (w : World) (h : bits_Mul64.f a0 a1 = some (r1, r2)) :
    Calls Try.prog 43 #[.int .u64 a0, .int .u64 a1] w fun e w' => e = .returned (.tuple #[.int .u64 r1, .int .u64 r2]) ∧ Drawn0 w w' := by
  have H : (some (IntKind.u64.wrap ((IntKind.u64.wrap ((IntKind.u64.wrap ((a0 / 4294967296) * (a1 / 4294967296))) + ((IntKind.u64.wrap ((IntKind.u64.wrap ((a0 / 4294967296) * (Go.bits .and .u64 a1 4294967295))) + ((IntKind.u64.wrap ((Go.bits .and .u64 a0 4294967295) * (Go.bits .and .u64 a1 4294967295))) / 4294967296))) / 4294967296))) + ((IntKind.u64.wrap ((Go.bits .and .u64 (IntKind.u64.wrap ((IntKind.u64.wrap ((a0 / 4294967296) * (Go.bits .and .u64 a1 4294967295))) + ((IntKind.u64.wrap ((Go.bits .and .u64 a0 4294967295) * (Go.bits .and .u64 a1 4294967295))) / 4294967296))) 4294967295) + (IntKind.u64.wrap ((Go.bits .and .u64 a0 4294967295) * (a1 / 4294967296))))) / 4294967296)), IntKind.u64.wrap (a0 * a1))) = some (r1, r2) := h
  clear h
  simp only [Option.some.injEq, Prod.mk.injEq] at H
  obtain ⟨rfl, rfl⟩ := H
  go_enter Try.func43, Try.ntmps43
  go_wp2
  go_ret2
  exact ⟨by first | rfl | (simp; done) | (simp [*]; done), by repeat (first | exact Drawn0.refl _ | apply Drawn0.step)⟩

/-! ### hash_Share: function 18 -/
def hash_Share.f (a0 : Int) (a1 : Int) : Option (Int × Int) := if a1 < 1 then (some (0, 4)) else (if a1 > 1048576 then (some (0, 4)) else ((bits_Mul64.f (IntKind.u64.wrap ((a0 / 4294967296) * 4294967296)) (IntKind.u64.wrap (a1))).bind fun bt101 => (some (wrap64 (bt101.1), 0))))
set_option maxHeartbeats 8000000 in
set_option maxRecDepth 100000 in
theorem hash_Share.calls (a0 : Int) (a1 : Int) (r1 : Int) (r2 : Int) (w : World) (h : hash_Share.f a0 a1 = some (r1, r2)) :
    Calls Try.prog 18 #[.int .u64 a0, .int .i64 a1] w fun e w' => e = .returned (.tuple #[.int .i64 r1, .int .i64 r2]) ∧ Drawn0 w w' := by
  have H : (if a1 < 1 then (some (0, 4)) else (if a1 > 1048576 then (some (0, 4)) else ((bits_Mul64.f (IntKind.u64.wrap ((a0 / 4294967296) * 4294967296)) (IntKind.u64.wrap (a1))).bind fun bt101 => (some (wrap64 (bt101.1), 0))))) = some (r1, r2) := h
  clear h
  by_cases c3 : a1 < 1
  · rw [if_pos c3] at H
    have c3b0 : decide (a1 < 1) = true := decide_eq_true c3
    clear c3
    simp only [Option.some.injEq, Prod.mk.injEq] at H
    obtain ⟨rfl, rfl⟩ := H
    go_enter Try.func18, Try.ntmps18
    go_wp2
    go_ret2
    exact ⟨by first | rfl | (simp; done) | (simp [*]; done), by repeat (first | exact Drawn0.refl _ | apply Drawn0.step)⟩
  · rw [if_neg c3] at H
    have c3b0 : decide (a1 < 1) = false := decide_eq_false c3
    clear c3
    by_cases c4 : a1 > 1048576
    · rw [if_pos c4] at H
      have c4b0 : decide (1048576 < a1) = true := decide_eq_true c4
      clear c4
      simp only [Option.some.injEq, Prod.mk.injEq] at H
      obtain ⟨rfl, rfl⟩ := H
      go_enter Try.func18, Try.ntmps18
      go_wp2
      go_ret2
      exact ⟨by first | rfl | (simp; done) | (simp [*]; done), by repeat (first | exact Drawn0.refl _ | apply Drawn0.step)⟩
    · rw [if_neg c4] at H
      have c4b0 : decide (1048576 < a1) = false := decide_eq_false c4
      clear c4
      replace H := Option.bind_eq_some_iff.mp H
      obtain ⟨⟨t101, t102⟩, A50, H⟩ := H
      replace H : (some (wrap64 (t101), 0)) = some (r1, r2) := H
      have A5 := Aside0.mk A50
      clear A50
      simp only [Option.some.injEq, Prod.mk.injEq] at H
      obtain ⟨rfl, rfl⟩ := H
      go_enter Try.func18, Try.ntmps18
      go_wp2_with (first | ((with_reducible refine gate_callee (f := 43) rfl ?_); refine goesL_ (some 20) rfl rfl Try.func43 (by kernel_rfl) rfl #[.int .u64 (IntKind.u64.wrap ((a0 / 4294967296) * 4294967296)), .int .u64 (IntKind.u64.wrap (a1))] rfl (by (try simp only [List.map_toArray, List.map_cons, List.map_nil]); first | done | rfl | (simp only [List.length_drop, List.length_take]; rfl)) ?_; (with_reducible refine (bits_Mul64.calls (IntKind.u64.wrap ((a0 / 4294967296) * 4294967296)) (IntKind.u64.wrap (a1)) t101 t102 _ A5.out).mono ?_); rintro e w' ⟨rfl, ⟨nd, rfl⟩⟩; refine ⟨_, rfl, ?_⟩))
      go_ret2
      exact ⟨by first | rfl | (simp; done) | (simp [*]; done), by repeat (first | exact Drawn0.refl _ | apply Drawn0.step)⟩

/-! ### hash_fold: function 41 -/
def hash_fold.f (a0 : Int) : Option (Int) := some (Go.bits .xor .u64 a0 (a0 / 8589934592))
set_option maxHeartbeats 8000000 in
set_option maxRecDepth 100000 in
theorem hash_fold.calls (a0 : Int) (r : Int) (w : World) (h : hash_fold.f a0 = some r) :
    Calls Try.prog 41 #[.int .u64 a0] w fun e w' => e = .returned (.int .u64 r) ∧ Drawn0 w w' := by
  have H : (some (Go.bits .xor .u64 a0 (a0 / 8589934592))) = some r := h
  clear h
  obtain rfl := Option.some.inj H
  go_enter Try.func41, Try.ntmps41
  go_wp2
  go_ret
  exact ⟨by first | rfl | (simp; done) | (simp [*]; done), by repeat (first | exact Drawn0.refl _ | apply Drawn0.step)⟩

/-! ### hash_Mix: function 16 -/
def hash_Mix.f (a0 : Int) : Option (Int) := (hash_fold.f a0).bind fun t103 => ((hash_fold.f (IntKind.u64.wrap (t103 * 18397679294719823053))).bind fun t104 => ((hash_fold.f (IntKind.u64.wrap (t104 * 14181476777654086739))).bind fun t105 => (some t105)))
set_option maxHeartbeats 8000000 in
set_option maxRecDepth 100000 in
theorem hash_Mix.calls (a0 : Int) (r : Int) (w : World) (h : hash_Mix.f a0 = some r) :
    Calls Try.prog 16 #[.int .u64 a0] w fun e w' => e = .returned (.int .u64 r) ∧ Drawn0 w w' := by
  have H : ((hash_fold.f a0).bind fun t103 => ((hash_fold.f (IntKind.u64.wrap (t103 * 18397679294719823053))).bind fun t104 => ((hash_fold.f (IntKind.u64.wrap (t104 * 14181476777654086739))).bind fun t105 => (some t105)))) = some r := h
  clear h
  replace H := Option.bind_eq_some_iff.mp H
  obtain ⟨t103, A20, H⟩ := H
  replace H : ((hash_fold.f (IntKind.u64.wrap (t103 * 18397679294719823053))).bind fun t104 => ((hash_fold.f (IntKind.u64.wrap (t104 * 14181476777654086739))).bind fun t105 => (some t105))) = some r := H
  have A2 := Aside0.mk A20
  clear A20
  replace H := Option.bind_eq_some_iff.mp H
  obtain ⟨t104, A30, H⟩ := H
  replace H : ((hash_fold.f (IntKind.u64.wrap (t104 * 14181476777654086739))).bind fun t105 => (some t105)) = some r := H
  have A3 := Aside0.mk A30
  clear A30
  replace H := Option.bind_eq_some_iff.mp H
  obtain ⟨t105, A40, H⟩ := H
  replace H : (some t105) = some r := H
  have A4 := Aside0.mk A40
  clear A40
  obtain rfl := Option.some.inj H
  go_enter Try.func16, Try.ntmps16
  go_wp2_with (first | ((with_reducible refine gate_callee (f := 41) rfl ?_); refine goesL_ (some 4) rfl rfl Try.func41 (by kernel_rfl) rfl #[.int .u64 a0] rfl (by (try simp only [List.map_toArray, List.map_cons, List.map_nil]); first | done | rfl | (simp only [List.length_drop, List.length_take]; rfl)) ?_; (with_reducible refine (hash_fold.calls a0 t103 _ A2.out).mono ?_); rintro e w' ⟨rfl, ⟨nd, rfl⟩⟩; refine ⟨_, rfl, ?_⟩) | ((with_reducible refine gate_callee (f := 41) rfl ?_); refine goesL_ (some 6) rfl rfl Try.func41 (by kernel_rfl) rfl #[.int .u64 (IntKind.u64.wrap (t103 * 18397679294719823053))] rfl (by (try simp only [List.map_toArray, List.map_cons, List.map_nil]); first | done | rfl | (simp only [List.length_drop, List.length_take]; rfl)) ?_; (with_reducible refine (hash_fold.calls (IntKind.u64.wrap (t103 * 18397679294719823053)) t104 _ A3.out).mono ?_); rintro e w' ⟨rfl, ⟨nd, rfl⟩⟩; refine ⟨_, rfl, ?_⟩) | ((with_reducible refine gate_callee (f := 41) rfl ?_); refine goesL_ (some 8) rfl rfl Try.func41 (by kernel_rfl) rfl #[.int .u64 (IntKind.u64.wrap (t104 * 14181476777654086739))] rfl (by (try simp only [List.map_toArray, List.map_cons, List.map_nil]); first | done | rfl | (simp only [List.length_drop, List.length_take]; rfl)) ?_; (with_reducible refine (hash_fold.calls (IntKind.u64.wrap (t104 * 14181476777654086739)) t105 _ A4.out).mono ?_); rintro e w' ⟨rfl, ⟨nd, rfl⟩⟩; refine ⟨_, rfl, ?_⟩))
  go_ret
  exact ⟨by first | rfl | (simp; done) | (simp [*]; done), by repeat (first | exact Drawn0.refl _ | apply Drawn0.step)⟩

/-! ### draw_Next: function 35 -/
def draw_Next.f (a0 : Int) : Option (Int × Int) := (hash_Mix.f (IntKind.u64.wrap (a0 + 11400714819323198485))).bind fun t106 => (some (IntKind.u64.wrap (a0 + 11400714819323198485), t106))
set_option maxHeartbeats 8000000 in
set_option maxRecDepth 100000 in
theorem draw_Next.calls (a0 : Int) (r1 : Int) (r2 : Int) (w : World) (h : draw_Next.f a0 = some (r1, r2)) :
    Calls Try.prog 35 #[.int .u64 a0] w fun e w' => e = .returned (.tuple #[.int .u64 r1, .int .u64 r2]) ∧ Drawn0 w w' := by
  have H : ((hash_Mix.f (IntKind.u64.wrap (a0 + 11400714819323198485))).bind fun t106 => (some (IntKind.u64.wrap (a0 + 11400714819323198485), t106))) = some (r1, r2) := h
  clear h
  replace H := Option.bind_eq_some_iff.mp H
  obtain ⟨t106, A20, H⟩ := H
  replace H : (some (IntKind.u64.wrap (a0 + 11400714819323198485), t106)) = some (r1, r2) := H
  have A2 := Aside0.mk A20
  clear A20
  simp only [Option.some.injEq, Prod.mk.injEq] at H
  obtain ⟨rfl, rfl⟩ := H
  go_enter Try.func35, Try.ntmps35
  go_wp2_with (first | ((with_reducible refine gate_callee (f := 16) rfl ?_); refine goesL_ (some 8) rfl rfl Try.func16 (by kernel_rfl) rfl #[.int .u64 (IntKind.u64.wrap (a0 + 11400714819323198485))] rfl (by (try simp only [List.map_toArray, List.map_cons, List.map_nil]); first | done | rfl | (simp only [List.length_drop, List.length_take]; rfl)) ?_; (with_reducible refine (hash_Mix.calls (IntKind.u64.wrap (a0 + 11400714819323198485)) t106 _ A2.out).mono ?_); rintro e w' ⟨rfl, ⟨nd, rfl⟩⟩; refine ⟨_, rfl, ?_⟩))
  go_ret2
  exact ⟨by first | rfl | (simp; done) | (simp [*]; done), by repeat (first | exact Drawn0.refl _ | apply Drawn0.step)⟩

-- by hand: draw1.inc
/-- One draw below n. -/
def drw (s n : Int) : Option (Int × Int) := (draw_Next.f s).bind fun p => (hash_Share.f p.2 n).bind fun q => some (p.1, q.1)
def dT (s n : Int) : Int × Int := (drw s n).getD (0, 0)
theorem next_some (s : Int) : ∃ p, draw_Next.f s = some p := by
  unfold draw_Next.f hash_Mix.f hash_fold.f
  exact ⟨_, rfl⟩
theorem share_some (x n : Int) : ∃ p, hash_Share.f x n = some p := by
  unfold hash_Share.f bits_Mul64.f
  split
  · exact ⟨_, rfl⟩
  · split
    · exact ⟨_, rfl⟩
    · exact ⟨_, rfl⟩
theorem drw_T (s n : Int) : drw s n = some (dT s n) := by
  have h : ∃ p, drw s n = some p := by
    unfold drw
    obtain ⟨p, hp⟩ := next_some s
    obtain ⟨q, hq⟩ := share_some p.2 n
    exact ⟨(p.1, q.1), by rw [hp, Option.bind_some, hq, Option.bind_some]⟩
  obtain ⟨p, hp⟩ := h
  unfold dT
  rw [hp]; rfl
set_option maxHeartbeats 400000 in
theorem stream_below.calls (b : Nat) (s n : Int) (w : World) (hb : w.heap[b]? = some (.cells #[.int .u64 s] 71 (0, 0))) :
    Calls Try.prog 48 #[.pointer (some ⟨b, 0, none⟩), .int .i64 n] w fun e w' => e = .returned (.int .i64 (dT s n).2) ∧ Ch (fun k => k = b) w w' ∧ w'.heap[b]? = some (.cells #[.int .u64 (dT s n).1] 71 (0, 0)) := by
  have h := drw_T s n
  obtain ⟨⟨s', k⟩, hd⟩ : ∃ p, p = dT s n := ⟨_, rfl⟩
  rw [← hd] at h ⊢
  clear hd
  unfold drw at h
  obtain ⟨⟨p1, p2⟩, h1, h⟩ := Option.bind_eq_some_iff.1 h
  obtain ⟨⟨q1, q2⟩, h2, h⟩ := Option.bind_eq_some_iff.1 h
  simp only [Option.some.injEq, Prod.mk.injEq] at h
  obtain ⟨rfl, rfl⟩ := h
  have A1 := Lib.hid h1
  have A2 := Lib.hid h2
  clear h1 h2
  have hc := cell_of_one hb
  have hf := free_of_one hb
  have HB := Lib.hid hb
  clear hb
  go_enter Try.func48, Try.ntmps48
  go_wp2_with (first | (go_at_call 35; refine (draw_Next.calls _ _ _ _ A1).mono ?_; rintro e w' ⟨rfl, ⟨n1, rfl⟩⟩) | (go_at_call 18; refine (hash_Share.calls _ _ _ _ _ A2).mono ?_; rintro e w' ⟨rfl, ⟨n2, rfl⟩⟩))
  go_ret
  exact ⟨rfl, ((((Ch.refl (fun k => k = b) w).drewN n1).set (p := ⟨b, 0, none⟩) (.inl rfl) _).drewN n2), one_setCell (w := w) HB.out⟩
def draw_Chance.f (a0 : Int) (a1 : Int) : Option (Int × Bool × Int) := if a1 < 0 then some (0, false, 4) else if a1 > 1000 then some (0, false, 4) else some ((dT a0 1000).1, decide ((dT a0 1000).2 < a1), 0)
set_option maxHeartbeats 400000 in
theorem draw_Chance.calls (a0 : Int) (a1 : Int) (r1 : Int) (r2 : Bool) (r3 : Int) (w : World) (h : draw_Chance.f a0 a1 = some (r1, r2, r3)) :
    Calls Try.prog 33 #[.int .u64 a0, .int .i64 a1] w fun e w' => e = .returned (.tuple #[.int .u64 r1, .bool r2, .int .i64 r3]) ∧ Below w.heap.size w w' := by
  unfold draw_Chance.f at h
  by_cases c1 : a1 < 0
  · rw [if_pos c1] at h
    simp only [Option.some.injEq, Prod.mk.injEq] at h
    obtain ⟨rfl, rfl, rfl⟩ := h
    go_enter Try.func33, Try.ntmps33
    go_wp2
    go_ret3
    exact ⟨rfl, Below.refl _ _⟩
  rw [if_neg c1] at h
  by_cases c2 : a1 > 1000
  · rw [if_pos c2] at h
    simp only [Option.some.injEq, Prod.mk.injEq] at h
    obtain ⟨rfl, rfl, rfl⟩ := h
    go_enter Try.func33, Try.ntmps33
    go_wp2
    go_ret3
    exact ⟨rfl, Below.refl _ _⟩
  rw [if_neg c2] at h
  simp only [Option.some.injEq, Prod.mk.injEq] at h
  obtain ⟨rfl, rfl, rfl⟩ := h
  go_enter Try.func33, Try.ntmps33
  go_wp2_with (first | (go_at_call 48; refine (stream_below.calls _ _ _ _ (heap_alloc_new _ _)).mono ?_; rintro e W1 ⟨rfl, HC, HS⟩; have hcl := cell_of_one HS; have X := Lib.hid HC; clear HS HC))
  go_ret3
  exact ⟨rfl, below_ch (below_alloc (Below.refl _ w) _) X (by simp) (fun k h => by omega)⟩

-- by hand: draw5.inc
/-- The exchange from the end on: 'left' has m numbers. -/
def shufs (s : Int) (xs : List Int) : Nat → Int × List Int
  | 0 => (s, xs)
  | 1 => (s, xs)
  | m + 2 => shufs (dT s ((m : Int) + 2)).1 ((xs.set (dT s ((m : Int) + 2)).2.toNat (rd xs ((m : Int) + 1))).set (m + 1) (rd xs (dT s ((m : Int) + 2)).2)) (m + 1)
def uptoL (n : Nat) : List Int := (List.range n).map fun (i : Nat) => (i : Int)
theorem uptoL_length (n : Nat) : (uptoL n).length = n := by simp [uptoL]
theorem uptoL_succ (n : Nat) : uptoL (n + 1) = uptoL n ++ [(n : Int)] := by simp [uptoL, List.range_succ]
theorem share_bd (x n : Int) (h0 : 0 ≤ x) (h1 : x < 18446744073709551616) (hn : 1 ≤ n) (hm : n ≤ 1048576) (p : Int × Int) (h : hash_Share.f x n = some p) : p.1 = (x / 4294967296) * n / 4294967296 ∧ p.2 = 0 := by
  unfold hash_Share.f at h
  rw [if_neg (by omega), if_neg (by omega)] at h
  unfold bits_Mul64.f at h
  simp only [Option.bind_some, Option.some.injEq] at h
  have e1 : IntKind.u64.wrap (x / 4294967296 * 4294967296) = x / 4294967296 * 4294967296 := by simp [IntKind.wrap, IntKind.bits, IntKind.signed]; omega
  have e2 : IntKind.u64.wrap n = n := by simp [IntKind.wrap, IntKind.bits, IntKind.signed]; omega
  have mask : ∀ y : Int, 0 ≤ y → y < 18446744073709551616 → Go.bits .and .u64 y 4294967295 = y % 4294967296 := fun y a b => by
    have := bits_mask .u64 64 (Nat.le_refl _) (fun n a b => by simp [IntKind.wrap, IntKind.bits, IntKind.signed]; omega) 32 (by decide) y a (by simpa using b)
    simpa using this
  have wu : ∀ n : Int, IntKind.u64.wrap n = n % 18446744073709551616 := fun n => by simp [IntKind.wrap, IntKind.bits, IntKind.signed]
  rw [e1, e2] at h
  obtain ⟨H, hH⟩ : ∃ H, H = x / 4294967296 := ⟨_, rfl⟩
  have H0 : 0 ≤ H := by omega
  have H1 : H < 4294967296 := by omega
  rw [← hH] at h ⊢
  rw [mask n (by omega) (by omega), mask (H * 4294967296) (by omega) (by omega)] at h
  rw [show H * 4294967296 / 4294967296 = H by omega, show H * 4294967296 % 4294967296 = 0 by omega, show n % 4294967296 = n by omega, show n / 4294967296 = 0 by omega] at h
  obtain ⟨p1, p2⟩ := p
  simp only [Prod.mk.injEq, Int.mul_zero, Int.zero_mul] at h
  obtain ⟨h, rfl⟩ := h
  refine ⟨?_, rfl⟩
  have q0 : 0 ≤ H * n := Int.mul_nonneg H0 (by omega)
  have q1 : H * n ≤ 4294967295 * 1048576 := Int.mul_le_mul (by omega) hm (by omega) (by omega)
  generalize H * n = q at h q0 q1 ⊢
  simp only [wu] at h
  rw [mask _ (by omega) (by omega)] at h
  unfold wrap64 at h
  show p1 = q / 4294967296
  omega
theorem share_lt (x n : Int) (h0 : 0 ≤ x) (h1 : x < 18446744073709551616) (hn : 1 ≤ n) (hm : n ≤ 1048576) (p : Int × Int) (h : hash_Share.f x n = some p) : 0 ≤ p.1 ∧ p.1 < n := by
  obtain ⟨h2, _⟩ := share_bd x n h0 h1 hn hm p h
  rw [h2]
  have q0 : 0 ≤ x / 4294967296 * n := Int.mul_nonneg (by omega) (by omega)
  have q1 : x / 4294967296 * n ≤ 4294967295 * n := Int.mul_le_mul_of_nonneg_right (by omega) (by omega)
  omega
theorem fold_rng (x : Int) (p : Int) (h : hash_fold.f x = some p) : 0 ≤ p ∧ p < 18446744073709551616 := by
  unfold hash_fold.f at h
  obtain rfl := Option.some.inj h
  unfold Go.bits
  simp [IntKind.wrap, IntKind.bits, IntKind.signed]
  omega
theorem next_rng (s : Int) (p : Int × Int) (h : draw_Next.f s = some p) : 0 ≤ p.2 ∧ p.2 < 18446744073709551616 := by
  unfold draw_Next.f at h
  obtain ⟨q, hq, h⟩ := Option.bind_eq_some_iff.1 h
  obtain rfl := Option.some.inj h
  unfold hash_Mix.f at hq
  obtain ⟨a, ha, hq⟩ := Option.bind_eq_some_iff.1 hq
  obtain ⟨b, hb, hq⟩ := Option.bind_eq_some_iff.1 hq
  obtain ⟨c, hc, hq⟩ := Option.bind_eq_some_iff.1 hq
  obtain rfl := Option.some.inj hq
  exact fold_rng _ _ hc
theorem dT_bd (s n : Int) (hn : 1 ≤ n) (hm : n ≤ 1048576) : 0 ≤ (dT s n).2 ∧ (dT s n).2 < n := by
  have h := drw_T s n
  unfold drw at h
  obtain ⟨p, h1, h⟩ := Option.bind_eq_some_iff.1 h
  obtain ⟨q, h2, h⟩ := Option.bind_eq_some_iff.1 h
  have h := Option.some.inj h
  rw [← h]
  exact share_lt _ _ (next_rng _ _ h1).1 (next_rng _ _ h1).2 hn hm _ h2
theorem shufs_succ (s : Int) (xs : List Int) (m : Nat) (hm : 1 < m) : shufs s xs m = shufs (dT s (m : Int)).1 ((xs.set (dT s (m : Int)).2.toNat (rd xs ((m : Int) - 1))).set (m - 1) (rd xs (dT s (m : Int)).2)) (m - 1) := by
  obtain ⟨m, rfl⟩ : ∃ k, m = k + 2 := ⟨m - 2, by omega⟩
  rw [shufs]
  simp only [Int.natCast_add, show m + 2 - 1 = m + 1 from rfl, show ((m : Int) + (2 : Nat) - 1) = (m : Int) + 1 by omega]
  rfl
def draw_Shuffle.f (a0 : Int) (a1 : Int) : Option (Int × List Int × Int) := if a1 < 0 then some (0, [], 4) else if a1 > 1024 then some (0, [], 4) else some ((shufs a0 (uptoL a1.toNat) a1.toNat).1, (shufs a0 (uptoL a1.toNat) a1.toNat).2, 0)
set_option maxHeartbeats 1000000 in
theorem draw_Shuffle.calls (a0 : Int) (a1 : Int) (r1 : Int) (r2 : List Int) (r3 : Int) (w : World) (h : draw_Shuffle.f a0 a1 = some (r1, r2, r3)) :
    Calls Try.prog 26 #[.int .u64 a0, .int .i64 a1] w fun e w' => ∃ v1_ : Value, e = .returned (.tuple #[.int .u64 r1, v1_, .int .i64 r3]) ∧ Kd.R (Kd.int .i64) 3 w' w.heap.size (fun _ => True) v1_ r2 ∧ Below w.heap.size w w' := by
  unfold draw_Shuffle.f at h
  by_cases c1 : a1 < 0
  · rw [if_pos c1] at h
    simp only [Option.some.injEq, Prod.mk.injEq] at h
    obtain ⟨rfl, rfl, rfl⟩ := h
    go_enter Try.func26, Try.ntmps26
    go_wp2
    go_ret3
    exact ⟨_, rfl, Kd.R_nil _ _ _ _ _, Below.refl _ _⟩
  rw [if_neg c1] at h
  by_cases c2 : a1 > 1024
  · rw [if_pos c2] at h
    simp only [Option.some.injEq, Prod.mk.injEq] at h
    obtain ⟨rfl, rfl, rfl⟩ := h
    go_enter Try.func26, Try.ntmps26
    go_wp2
    go_ret3
    exact ⟨_, rfl, Kd.R_nil _ _ _ _ _, Below.refl _ _⟩
  rw [if_neg c2] at h
  obtain ⟨n, rfl⟩ := Int.eq_ofNat_of_zero_le (show 0 ≤ a1 by omega)
  rw [Int.toNat_natCast] at h
  simp only [Option.some.injEq, Prod.mk.injEq] at h
  obtain ⟨rfl, rfl, rfl⟩ := h
  have hn : (n : Int) ≤ 1024 := by omega
  go_enter Try.func26, Try.ntmps26
  go_wp2
  go_loopw [8, 9, 21] (fun v8 v9 v21 wr => ∃ (i : Int), 0 ≤ i ∧ i ≤ n ∧ v21 = .int .i64 i ∧ Aside0 (wr.heap[w.heap.size]? = some (.cells #[.int .u64 a0] 71 (0, 0))) ∧ Aside0 (Kd.R (Kd.int .i64) 3 wr w.heap.size (fun k => k ≠ w.heap.size) v8 (uptoL i.toNat)) ∧ Aside0 (Below w.heap.size w wr)) (fun _ _ v _ => n - (intOf v).toNat)
  case atStart =>
    exact ⟨0, by omega, by omega, rfl, ⟨heap_alloc_new w _⟩, ⟨Kd.R_nil _ _ _ _ _⟩, ⟨below_alloc (Below.refl _ _) _⟩⟩
  case round =>
    obtain ⟨i, h0, hi, rfl, HS, HR, HB⟩ := hrel
    by_cases hlt : i < n
    · have HF : ∀ k, wr.heap.size ≤ k → k ≠ w.heap.size := fun k hk => by have := lt_of_block HS.out; omega
      have HFr := Aside0.mk HF
      have HLB : Aside0 (((uptoL i.toNat).length + 1) * 8 ≤ 140737488355328) := ⟨by rw [uptoL_length]; omega⟩
      clear HF
      go_wp2_with ((with_reducible refine gate_builtin (b := .append) (xs := #[.tmp 24, .tmp 26]) rfl ?_); at_builtin; refine Kd.R_append (Kd.int .i64) (w0 := w) w.heap.size rfl (.tmp 24) (.tmp 26) 39 3 (.int .i64 0) 8 rfl Try.underlying39 info3 rfl (by decide) (by decide) _ (uptoL i.toNat) i [.int .i64 i] (fun k => k ≠ w.heap.size) (fun _ => False) rfl rfl rfl (fun _ hk => hk.elim) HFr.out HR.out HB.out HB.out.size HLB.out ?_; intro v1 w1 hR hB hG _; have X := Aside0.mk (And.intro hR (And.intro hB hG)); clear hR hB hG)
      obtain ⟨hR, hB, hG⟩ := X.out
      clear X
      have HS2 : Aside0 (w1.heap[w.heap.size]? = some (.cells #[.int .u64 a0] 71 (0, 0))) := ⟨by
        rw [hG.block _ (lt_of_block HS.out) (fun hk => HR.out.1 _ hk.symm rfl)]
        exact HS.out⟩
      have HR2 : Aside0 (Kd.R (Kd.int .i64) 3 w1 w.heap.size (fun k => k ≠ w.heap.size) v1 (uptoL (i + 1).toNat)) := ⟨by
        rw [show (i + 1).toNat = i.toNat + 1 by omega, uptoL_succ, show ((i.toNat : Nat) : Int) = i by omega]; exact hR⟩
      have HB2 := Aside0.mk hB
      clear hR hB hG HS HR HB HFr HLB
      try go_wp2
      go_roundw
      case rel => exact ⟨i + 1, by omega, by omega, rfl, HS2, HR2, HB2⟩
      case measure => simp [intOf]; omega
    · obtain rfl : i = n := by omega
      clear hi hlt
      rw [Int.toNat_natCast] at HR
      obtain ⟨A, c, hv, hc, _⟩ := Kd.R_reads HR.out
      rw [uptoL_length] at hv hc
      subst hv
      go_wp2
      go_loopw [10, 11, 12] (fun v10 v11 v12 wr => ∃ (m : Nat) (s : Int) (xs : List Int), m ≤ n ∧ v10 = .slice A m c ∧ Aside0 (xs.length = n) ∧ Aside0 (shufs a0 (uptoL n) n = shufs s xs m) ∧ Aside0 (wr.heap[w.heap.size]? = some (.cells #[.int .u64 s] 71 (0, 0))) ∧ Aside0 (Kd.R (Kd.int .i64) 3 wr w.heap.size (fun k => k ≠ w.heap.size) (.slice A n c) xs) ∧ Aside0 (Below w.heap.size w wr)) (fun v _ _ _ => match v with | .slice _ m _ => m | _ => 0)
      case atStart => exact ⟨n, a0, uptoL n, Nat.le_refl _, rfl, ⟨uptoL_length n⟩, ⟨rfl⟩, HS, HR, HB⟩
      case round =>
        clear HS HR HB
        obtain ⟨m, s, xs, hm, rfl, HL, HD, HS, HR, HB⟩ := hrel
        by_cases h1 : 1 < m
        · have hmd : decide (1 < m) = true := decide_eq_true h1
          have hbd := dT_bd s m (by omega) (by omega)
          have E1 := shufs_succ s xs m h1
          obtain ⟨s', hs'⟩ : ∃ x, x = (dT s m).1 := ⟨_, rfl⟩
          obtain ⟨k, hk⟩ : ∃ x, x = (dT s m).2 := ⟨_, rfl⟩
          rw [← hs', ← hk] at E1
          rw [← hk] at hbd
          obtain ⟨hk0, hk1⟩ := hbd
          have HE1 := Aside0.mk E1
          have Hs' := Aside0.mk hs'
          have Hk' := Aside0.mk hk
          clear E1 hs' hk
          go_wp2_with fail
          refine (stream_below.calls _ _ _ _ HS.out).mono ?_
          rintro e W1 ⟨rfl, hC, hS⟩
          rw [← Hs'.out] at hS
          rw [← Hk'.out]
          have HS1 := Aside0.mk hS
          have HR1 := R_ch HR.out hC (fun k h => h)
          have HB1 := Aside0.mk (below_ch HB.out hC HB.out.size (fun k h => by omega))
          obtain ⟨g, cap, he, hg0, hg1, _⟩ := Kd.R_form HR1 (by have := HL.out; omega)
          injection he with he1 he2 he3
          subst he1
          have HG := Aside0.mk hg0
          have HGN := Aside0.mk (HR1.1 g rfl)
          obtain ⟨hx1, hf1⟩ := Kd.R_celln 0 HR1 k hk0 (by omega)
          obtain ⟨hx2, hf2⟩ := Kd.R_celln 0 HR1 ((m : Int) - 1) (by omega) (by omega)
          have HP1 := Kd.R_putn HR1 k (rdOf 0 xs ((m : Int) - 1))
          have HP2 := Aside0.mk (Kd.R_putn HP1 ((m : Int) - 1) (rdOf 0 xs k))
          have HR1' := Aside0.mk HR1
          clear hC hS HS HR HB he2 he3 hg0 hg1 HR1 HP1
          go_wp2
          have hm1 : ((m : Int) - 1).toNat = m - 1 := by omega
          rw [hm1] at hx2 hf2 HP2
          clear hm1
          obtain ⟨q1, hq1⟩ := cell?_setCell_some (w := W1) (p := ⟨g, k.toNat, none⟩) (x := .int .i64 (rdOf 0 xs ((m : Int) - 1))) (q := ⟨g, m - 1, none⟩) hx2
          go_region
          go_wp2
          go_roundw
          case rel =>
            refine ⟨m - 1, s', _, by omega, rfl, ⟨?_⟩, ⟨HD.out.trans HE1.out⟩, ⟨?_⟩, ⟨HP2.out⟩, ⟨?_⟩⟩
            · have := HL.out; simpa using this
            · exact ((Below.heap_setCell _ _ _ _ (fun h => HGN.out h.symm)).trans (Below.heap_setCell _ _ _ _ (fun h => HGN.out h.symm))).trans HS1.out
            · exact ((HB1.out.setCell HG.out _).setCell HG.out _).drew
          case measure => show m - 1 < m; omega
        · have hmd : decide (1 < m) = false := decide_eq_false h1
          have hE : shufs s xs m = (s, xs) := by
            match m, h1 with
            | 0, _ => rfl
            | 1, _ => rfl
          have hcl := cell_of_one HS.out
          have HF := Aside0.mk (HD.out.trans hE)
          clear hE HD
          go_wp2
          go_ret3
          rw [HF.out]
          exact ⟨_, rfl, Kd.R_mono HR.out (fun _ _ => trivial), HB.out⟩

/-! ### waybillref10_Share: function 20 -/
def waybillref10_Share.f (a0 : Int) (a1 : Int) : Option (Int × Int) := if a1 < 1 then (some (0, 4)) else (if a1 > 1048576 then (some (0, 4)) else (some (wrap64 ((IntKind.u64.wrap ((a0 / 4294967296) * (IntKind.u64.wrap (a1)))) / 4294967296), 0)))
set_option maxHeartbeats 8000000 in
set_option maxRecDepth 100000 in
theorem waybillref10_Share.calls (a0 : Int) (a1 : Int) (r1 : Int) (r2 : Int) (w : World) (h : waybillref10_Share.f a0 a1 = some (r1, r2)) :
    Calls Try.prog 20 #[.int .u64 a0, .int .i64 a1] w fun e w' => e = .returned (.tuple #[.int .i64 r1, .int .i64 r2]) ∧ Drawn0 w w' := by
  have H : (if a1 < 1 then (some (0, 4)) else (if a1 > 1048576 then (some (0, 4)) else (some (wrap64 ((IntKind.u64.wrap ((a0 / 4294967296) * (IntKind.u64.wrap (a1)))) / 4294967296), 0)))) = some (r1, r2) := h
  clear h
  by_cases c3 : a1 < 1
  · rw [if_pos c3] at H
    have c3b0 : decide (a1 < 1) = true := decide_eq_true c3
    clear c3
    simp only [Option.some.injEq, Prod.mk.injEq] at H
    obtain ⟨rfl, rfl⟩ := H
    go_enter Try.func20, Try.ntmps20
    go_wp2
    go_ret2
    exact ⟨by first | rfl | (simp; done) | (simp [*]; done), by repeat (first | exact Drawn0.refl _ | apply Drawn0.step)⟩
  · rw [if_neg c3] at H
    have c3b0 : decide (a1 < 1) = false := decide_eq_false c3
    clear c3
    by_cases c4 : a1 > 1048576
    · rw [if_pos c4] at H
      have c4b0 : decide (1048576 < a1) = true := decide_eq_true c4
      clear c4
      simp only [Option.some.injEq, Prod.mk.injEq] at H
      obtain ⟨rfl, rfl⟩ := H
      go_enter Try.func20, Try.ntmps20
      go_wp2
      go_ret2
      exact ⟨by first | rfl | (simp; done) | (simp [*]; done), by repeat (first | exact Drawn0.refl _ | apply Drawn0.step)⟩
    · rw [if_neg c4] at H
      have c4b0 : decide (1048576 < a1) = false := decide_eq_false c4
      clear c4
      simp only [Option.some.injEq, Prod.mk.injEq] at H
      obtain ⟨rfl, rfl⟩ := H
      go_enter Try.func20, Try.ntmps20
      go_wp2
      go_ret2
      exact ⟨by first | rfl | (simp; done) | (simp [*]; done), by repeat (first | exact Drawn0.refl _ | apply Drawn0.step)⟩

/-! ### waybillref10_times: function 44 -/
def waybillref10_times.l0 : Nat → Int → Int → Int → Int → Option (Int)
  | 0, _, _, _, _ => none
  | k + 1, x0, x1, x5, x6 => if x6 < 64 then (if 0 ≤ x6 then (if (Go.bits .and .u64 (shr .u64 x1 x6) 1) = 1 then (waybillref10_times.l0 k x0 x1 (IntKind.u64.wrap (x5 + (shl .u64 x0 x6))) (wrap64 (x6 + 1))) else (waybillref10_times.l0 k x0 x1 x5 (wrap64 (x6 + 1)))) else (none)) else (some x5)
def waybillref10_times.f (k : Nat) (a0 : Int) (a1 : Int) : Option (Int) := waybillref10_times.l0 k a0 a1 0 0
theorem waybillref10_times.mono_l : ∀ k, (∀ y0 y1 y2 y3, LeO (waybillref10_times.l0 k y0 y1 y2 y3) (waybillref10_times.l0 (k + 1) y0 y1 y2 y3))
  | 0 => fun _ _ _ _ r h => by simp [waybillref10_times.l0] at h
  | k + 1 => by
    have ih0 := waybillref10_times.mono_l k
    · intro y0 y1 y2 y3
      unfold waybillref10_times.l0
      repeat' first
      | (with_reducible exact ih0 _ _ _ _)
      | (with_reducible exact LeO.refl _)
      | (with_reducible exact LeO.none _)
      | (with_reducible refine LeO.ite ?_ ?_)
      | (with_reducible refine LeO.bind ?_ (fun _ => ?_))
      | exact ih0 _ _ _ _
      | exact LeO.none _
      | refine LeO.ite ?_ ?_
      | refine LeO.bind ?_ (fun _ => ?_)
theorem waybillref10_times.mono : ∀ a0 a1 k, LeO (waybillref10_times.f k a0 a1) (waybillref10_times.f (k + 1) a0 a1) := by
  intro a0 a1 k
  have ih0 := waybillref10_times.mono_l k
  unfold waybillref10_times.f
  repeat' first
      | (with_reducible exact ih0 _ _ _ _)
      | (with_reducible exact LeO.refl _)
      | (with_reducible exact LeO.none _)
      | (with_reducible refine LeO.ite ?_ ?_)
      | (with_reducible refine LeO.bind ?_ (fun _ => ?_))
      | exact ih0 _ _ _ _
      | exact LeO.none _
      | refine LeO.ite ?_ ?_
      | refine LeO.bind ?_ (fun _ => ?_)
set_option maxHeartbeats 8000000 in
set_option maxRecDepth 100000 in
theorem waybillref10_times.calls (k : Nat) (a0 : Int) (a1 : Int) (r : Int) (w : World) (h : waybillref10_times.f k a0 a1 = some r) :
    Calls Try.prog 44 #[.int .u64 a0, .int .u64 a1] w fun e w' => e = .returned (.int .u64 r) ∧ Drawn0 w w' := by
  have H : (waybillref10_times.l0 k a0 a1 0 0) = some r := h
  clear h
  have H' := Aside0.mk H
  clear H
  go_enter Try.func44, Try.ntmps44
  go_wp2
  go_loopg [5, 6] k (fun kq v5 v6 w' => ∃ (x5_1 : Int) (x6_1 : Int), v5 = .int .u64 x5_1 ∧ v6 = .int .i64 x6_1 ∧ Aside0 (waybillref10_times.l0 kq a0 a1 x5_1 x6_1 = some r) ∧ Aside0 (kq ≤ k) ∧ Drawn0 w w')
  case atStart => exact ⟨(0), (0), (by first | rfl | (simp; done) | (simp [*]; done)), (by first | rfl | (simp; done) | (simp [*]; done)), H', ⟨Nat.le_refl _⟩, by repeat (first | exact Drawn0.refl _ | apply Drawn0.step)⟩
  case round =>
    clear H'
    try clear p2
    obtain ⟨x5_1, x6_1, rfl, rfl, HA, HK1, ⟨m1, rfl⟩⟩ := hrel
    cases gk with
    | zero => exact absurd HA.out (by simp [waybillref10_times.l0])
    | succ k1 =>
      have H := HA.out
      clear HA
      simp only [waybillref10_times.l0] at H
      by_cases c3 : x6_1 < 64
      · rw [if_pos c3] at H
        have c3b0 : decide (x6_1 < 64) = true := decide_eq_true c3
        clear c3
        by_cases c4 : 0 ≤ x6_1
        · rw [if_pos c4] at H
          have c4b0 := eq_true c4
          have c4b1 : decide (0 ≤ x6_1) = true := decide_eq_true c4
          clear c4
          obtain ⟨ji5, hji5⟩ : ∃ j_ : Int, (shr .u64 a1 x6_1) = j_ := ⟨_, rfl⟩
          replace H : (if (Go.bits .and .u64 (ji5) 1) = 1 then (waybillref10_times.l0 k1 a0 a1 (IntKind.u64.wrap (x5_1 + (shl .u64 a0 x6_1))) (wrap64 (x6_1 + 1))) else (waybillref10_times.l0 k1 a0 a1 x5_1 (wrap64 (x6_1 + 1)))) = some r := by first | (rw [hji5] at H; exact H) | (simp only [hji5] at H ⊢; exact H)
          have hji5_ : (a1 / 2 ^ min x6_1.toNat 64) = ji5 := hji5
          have hji5z : x6_1 ≤ 64 → (a1 / 2 ^ x6_1.toNat) = ji5 := shr_small hji5
          by_cases c6 : (Go.bits .and .u64 (ji5) 1) = 1
          · rw [if_pos c6] at H
            have c6b0 : ((Go.bits .and .u64 (ji5) 1) == 1) = true := beq_iff_eq.mpr c6
            have c6b1 : ((Go.bits .and .u64 (ji5) 1) != 1) = false := bne_eq_false_iff_eq.mpr c6
            clear c6
            have c7b0 := eq_true (of_decide_eq_true (by first | (with_reducible assumption) | assumption) : 0 ≤ x6_1)
            obtain ⟨ji8, hji8⟩ : ∃ j_ : Int, (shl .u64 a0 x6_1) = j_ := ⟨_, rfl⟩
            replace H : (waybillref10_times.l0 k1 a0 a1 (IntKind.u64.wrap (x5_1 + (ji8))) (wrap64 (x6_1 + 1))) = some r := by first | (rw [hji8] at H; exact H) | (simp only [hji8] at H ⊢; exact H)
            have hji8_ : (IntKind.u64.wrap (a0 * 2 ^ min x6_1.toNat 64)) = ji8 := hji8
            have hji8z : x6_1 ≤ 64 → (IntKind.u64.wrap (a0 * 2 ^ x6_1.toNat)) = ji8 := shl_small hji8
            have H' := Aside0.mk H
            clear H
            go_wp2
            go_roundg k1
            case measure => have := HK1.out; omega
            case rel => exact ⟨(IntKind.u64.wrap (x5_1 + (ji8))), (wrap64 (x6_1 + 1)), (by first | rfl | (simp; done) | (simp only [← hji8] <;> (first | rfl | simp)) | (simp [*]; done)), (by first | rfl | (simp; done) | (simp [*]; done)), H', ⟨by have := HK1.out; omega⟩, by repeat (first | exact Drawn0.refl _ | apply Drawn0.step)⟩
          · rw [if_neg c6] at H
            have c6b0 : ((Go.bits .and .u64 (ji5) 1) == 1) = false := beq_eq_false_iff_ne.mpr c6
            have c6b1 : ((Go.bits .and .u64 (ji5) 1) != 1) = true := bne_iff_ne.mpr c6
            have H' := Aside0.mk H
            clear H
            go_wp2
            go_roundg k1
            case measure => have := HK1.out; omega
            case rel => exact ⟨(x5_1), (wrap64 (x6_1 + 1)), (by first | rfl | (simp; done) | (simp [*]; done)), (by first | rfl | (simp; done) | (simp [*]; done)), H', ⟨by have := HK1.out; omega⟩, by repeat (first | exact Drawn0.refl _ | apply Drawn0.step)⟩
        · rw [if_neg c4] at H
          exact absurd H (by simp)
      · rw [if_neg c3] at H
        have c3b0 : decide (x6_1 < 64) = false := decide_eq_false c3
        clear c3
        obtain rfl := Option.some.inj H
        go_wp2
        go_ret
        exact ⟨by first | rfl | (simp; done) | (simp [*]; done), by repeat (first | exact Drawn0.refl _ | apply Drawn0.step)⟩

/-! ### waybillref10_Mix: function 21 -/
def waybillref10_Mix.f (k : Nat) (a0 : Int) : Option (Int) := (waybillref10_times.f k (Go.bits .xor .u64 a0 (a0 / 8589934592)) 18397679294719823053).bind fun t107 => ((waybillref10_times.f k (Go.bits .xor .u64 t107 (t107 / 8589934592)) 14181476777654086739).bind fun t108 => (some (Go.bits .xor .u64 t108 (t108 / 8589934592))))
theorem waybillref10_Mix.mono : ∀ a0 k, LeO (waybillref10_Mix.f k a0) (waybillref10_Mix.f (k + 1) a0) := by
  intro a0 k
  unfold waybillref10_Mix.f
  repeat' first
      | (with_reducible exact waybillref10_times.mono _ _ _)
      | (with_reducible exact LeO.refl _)
      | (with_reducible exact LeO.none _)
      | (with_reducible refine LeO.ite ?_ ?_)
      | (with_reducible refine LeO.bind ?_ (fun _ => ?_))
      | exact waybillref10_times.mono _ _ _
      | exact LeO.none _
      | refine LeO.ite ?_ ?_
      | refine LeO.bind ?_ (fun _ => ?_)
set_option maxHeartbeats 8000000 in
set_option maxRecDepth 100000 in
theorem waybillref10_Mix.calls (k : Nat) (a0 : Int) (r : Int) (w : World) (h : waybillref10_Mix.f k a0 = some r) :
    Calls Try.prog 21 #[.int .u64 a0] w fun e w' => e = .returned (.int .u64 r) ∧ Drawn0 w w' := by
  have H : ((waybillref10_times.f k (Go.bits .xor .u64 a0 (a0 / 8589934592)) 18397679294719823053).bind fun t107 => ((waybillref10_times.f k (Go.bits .xor .u64 t107 (t107 / 8589934592)) 14181476777654086739).bind fun t108 => (some (Go.bits .xor .u64 t108 (t108 / 8589934592))))) = some r := h
  clear h
  replace H := Option.bind_eq_some_iff.mp H
  obtain ⟨t107, A20, H⟩ := H
  replace H : ((waybillref10_times.f k (Go.bits .xor .u64 t107 (t107 / 8589934592)) 14181476777654086739).bind fun t108 => (some (Go.bits .xor .u64 t108 (t108 / 8589934592)))) = some r := H
  have A2 := Aside0.mk A20
  clear A20
  replace H := Option.bind_eq_some_iff.mp H
  obtain ⟨t108, A30, H⟩ := H
  replace H : (some (Go.bits .xor .u64 t108 (t108 / 8589934592))) = some r := H
  have A3 := Aside0.mk A30
  clear A30
  obtain rfl := Option.some.inj H
  go_enter Try.func21, Try.ntmps21
  go_wp2_with (first | ((with_reducible refine gate_callee (f := 44) rfl ?_); refine goesL_ (some 7) rfl rfl Try.func44 (by kernel_rfl) rfl #[.int .u64 (Go.bits .xor .u64 a0 (a0 / 8589934592)), .int .u64 18397679294719823053] rfl (by (try simp only [List.map_toArray, List.map_cons, List.map_nil]); first | done | rfl | (simp only [List.length_drop, List.length_take]; rfl)) ?_; (with_reducible refine (waybillref10_times.calls k (Go.bits .xor .u64 a0 (a0 / 8589934592)) 18397679294719823053 t107 _ A2.out).mono ?_); rintro e w' ⟨rfl, ⟨nd, rfl⟩⟩; refine ⟨_, rfl, ?_⟩) | ((with_reducible refine gate_callee (f := 44) rfl ?_); refine goesL_ (some 12) rfl rfl Try.func44 (by kernel_rfl) rfl #[.int .u64 (Go.bits .xor .u64 t107 (t107 / 8589934592)), .int .u64 14181476777654086739] rfl (by (try simp only [List.map_toArray, List.map_cons, List.map_nil]); first | done | rfl | (simp only [List.length_drop, List.length_take]; rfl)) ?_; (with_reducible refine (waybillref10_times.calls k (Go.bits .xor .u64 t107 (t107 / 8589934592)) 14181476777654086739 t108 _ A3.out).mono ?_); rintro e w' ⟨rfl, ⟨nd, rfl⟩⟩; refine ⟨_, rfl, ?_⟩))
  go_ret
  exact ⟨by first | rfl | (simp; done) | (simp [*]; done), by repeat (first | exact Drawn0.refl _ | apply Drawn0.step)⟩

/-! ### waybillref11_Next: function 36 -/
def waybillref11_Next.f (k : Nat) (a0 : Int) : Option (Int × Int) := (waybillref10_Mix.f k (IntKind.u64.wrap (a0 + 11400714819323198485))).bind fun t109 => (some (IntKind.u64.wrap (a0 + 11400714819323198485), t109))
theorem waybillref11_Next.mono : ∀ a0 k, LeO (waybillref11_Next.f k a0) (waybillref11_Next.f (k + 1) a0) := by
  intro a0 k
  unfold waybillref11_Next.f
  repeat' first
      | (with_reducible exact waybillref10_Mix.mono _ _)
      | (with_reducible exact LeO.refl _)
      | (with_reducible exact LeO.none _)
      | (with_reducible refine LeO.ite ?_ ?_)
      | (with_reducible refine LeO.bind ?_ (fun _ => ?_))
      | exact waybillref10_Mix.mono _ _
      | exact LeO.none _
      | refine LeO.ite ?_ ?_
      | refine LeO.bind ?_ (fun _ => ?_)
set_option maxHeartbeats 8000000 in
set_option maxRecDepth 100000 in
theorem waybillref11_Next.calls (k : Nat) (a0 : Int) (r1 : Int) (r2 : Int) (w : World) (h : waybillref11_Next.f k a0 = some (r1, r2)) :
    Calls Try.prog 36 #[.int .u64 a0] w fun e w' => e = .returned (.tuple #[.int .u64 r1, .int .u64 r2]) ∧ Drawn0 w w' := by
  have H : ((waybillref10_Mix.f k (IntKind.u64.wrap (a0 + 11400714819323198485))).bind fun t109 => (some (IntKind.u64.wrap (a0 + 11400714819323198485), t109))) = some (r1, r2) := h
  clear h
  replace H := Option.bind_eq_some_iff.mp H
  obtain ⟨t109, A20, H⟩ := H
  replace H : (some (IntKind.u64.wrap (a0 + 11400714819323198485), t109)) = some (r1, r2) := H
  have A2 := Aside0.mk A20
  clear A20
  simp only [Option.some.injEq, Prod.mk.injEq] at H
  obtain ⟨rfl, rfl⟩ := H
  go_enter Try.func36, Try.ntmps36
  go_wp2_with (first | ((with_reducible refine gate_callee (f := 21) rfl ?_); refine goesL_ (some 8) rfl rfl Try.func21 (by kernel_rfl) rfl #[.int .u64 (IntKind.u64.wrap (a0 + 11400714819323198485))] rfl (by (try simp only [List.map_toArray, List.map_cons, List.map_nil]); first | done | rfl | (simp only [List.length_drop, List.length_take]; rfl)) ?_; (with_reducible refine (waybillref10_Mix.calls k (IntKind.u64.wrap (a0 + 11400714819323198485)) t109 _ A2.out).mono ?_); rintro e w' ⟨rfl, ⟨nd, rfl⟩⟩; refine ⟨_, rfl, ?_⟩))
  go_ret2
  exact ⟨by first | rfl | (simp; done) | (simp [*]; done), by repeat (first | exact Drawn0.refl _ | apply Drawn0.step)⟩

/-! ### waybillref11_one: function 49 -/
def waybillref11_one.f (k : Nat) (a0 : Int) (a1 : Int) : Option (Int × Int) := (waybillref11_Next.f k a0).bind fun bt110 => ((waybillref10_Share.f bt110.2 a1).bind fun bt112 => (some (bt110.1, bt112.1)))
theorem waybillref11_one.mono : ∀ a0 a1 k, LeO (waybillref11_one.f k a0 a1) (waybillref11_one.f (k + 1) a0 a1) := by
  intro a0 a1 k
  unfold waybillref11_one.f
  repeat' first
      | (with_reducible exact waybillref11_Next.mono _ _)
      | (with_reducible exact LeO.refl _)
      | (with_reducible exact LeO.none _)
      | (with_reducible refine LeO.ite ?_ ?_)
      | (with_reducible refine LeO.bind ?_ (fun _ => ?_))
      | exact waybillref11_Next.mono _ _
      | exact LeO.none _
      | refine LeO.ite ?_ ?_
      | refine LeO.bind ?_ (fun _ => ?_)
set_option maxHeartbeats 8000000 in
set_option maxRecDepth 100000 in
theorem waybillref11_one.calls (k : Nat) (a0 : Int) (a1 : Int) (r1 : Int) (r2 : Int) (w : World) (h : waybillref11_one.f k a0 a1 = some (r1, r2)) :
    Calls Try.prog 49 #[.int .u64 a0, .int .i64 a1] w fun e w' => e = .returned (.tuple #[.int .u64 r1, .int .i64 r2]) ∧ Drawn0 w w' := by
  have H : ((waybillref11_Next.f k a0).bind fun bt110 => ((waybillref10_Share.f bt110.2 a1).bind fun bt112 => (some (bt110.1, bt112.1)))) = some (r1, r2) := h
  clear h
  replace H := Option.bind_eq_some_iff.mp H
  obtain ⟨⟨t110, t111⟩, A30, H⟩ := H
  replace H : ((waybillref10_Share.f t111 a1).bind fun bt112 => (some (t110, bt112.1))) = some (r1, r2) := H
  have A3 := Aside0.mk A30
  clear A30
  replace H := Option.bind_eq_some_iff.mp H
  obtain ⟨⟨t112, t113⟩, A40, H⟩ := H
  replace H : (some (t110, t112)) = some (r1, r2) := H
  have A4 := Aside0.mk A40
  clear A40
  simp only [Option.some.injEq, Prod.mk.injEq] at H
  obtain ⟨rfl, rfl⟩ := H
  go_enter Try.func49, Try.ntmps49
  go_wp2_with (first | ((with_reducible refine gate_callee (f := 36) rfl ?_); refine goesL_ (some 11) rfl rfl Try.func36 (by kernel_rfl) rfl #[.int .u64 a0] rfl (by (try simp only [List.map_toArray, List.map_cons, List.map_nil]); first | done | rfl | (simp only [List.length_drop, List.length_take]; rfl)) ?_; (with_reducible refine (waybillref11_Next.calls k a0 t110 t111 _ A3.out).mono ?_); rintro e w' ⟨rfl, ⟨nd, rfl⟩⟩; refine ⟨_, rfl, ?_⟩) | ((with_reducible refine gate_callee (f := 20) rfl ?_); refine goesL_ (some 17) rfl rfl Try.func20 (by kernel_rfl) rfl #[.int .u64 t111, .int .i64 a1] rfl (by (try simp only [List.map_toArray, List.map_cons, List.map_nil]); first | done | rfl | (simp only [List.length_drop, List.length_take]; rfl)) ?_; (with_reducible refine (waybillref10_Share.calls t111 a1 t112 t113 _ A4.out).mono ?_); rintro e w' ⟨rfl, ⟨nd, rfl⟩⟩; refine ⟨_, rfl, ?_⟩))
  go_ret2
  exact ⟨by first | rfl | (simp; done) | (simp [*]; done), by repeat (first | exact Drawn0.refl _ | apply Drawn0.step)⟩

end Go.Proofs.Ythldeecchlgieaa.EDrawShuffles
