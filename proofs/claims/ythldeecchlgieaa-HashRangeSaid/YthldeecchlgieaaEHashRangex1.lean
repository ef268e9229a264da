-- Written by a program of this seat, over a copy of the print; parts by hand.
import Derived.Test.YthldeecchlgieaaEHashRangex0
namespace Go.Proofs.Ythldeecchlgieaa.EHashRange
open Go.RowKit Go.Proofs.YthldeecchlgieaaW.PrintWords Go.Proofs.YthldeecchlgieaaW.PrintLast Go.Proofs.YthldeecchlgieaaW.PrintMore
attribute [local go_sem] max2_int min2_int max_two min_two max_three min_three max_four min_four   -- for this text's walks alone
set_option linter.unusedVariables false
set_option linter.unusedSimpArgs false

-- by hand: ../lib/Aid.inc
/-! What a call changes: the blocks of S, and what is new since. -/
structure Ch (S : Nat → Prop) (w w' : World) : Prop where
  os : w'.os = w.os
  tape : w'.tape = w.tape
  output : w'.output = w.output
  size : w.heap.size ≤ w'.heap.size
  block : ∀ k, k < w.heap.size → ¬ S k → w'.heap[k]? = w.heap[k]?
section
variable {S S' : Nat → Prop} {w w1 w2 : World}
theorem Ch.refl (S : Nat → Prop) (w : World) : Ch S w w := ⟨rfl, rfl, rfl, Nat.le_refl _, fun _ _ _ => rfl⟩
theorem Ch.trans (h : Ch S w w1) (k : Ch S' w1 w2) (hs : ∀ k, S' k → S k ∨ w.heap.size ≤ k) : Ch S w w2 :=
  ⟨k.os.trans h.os, k.tape.trans h.tape, k.output.trans h.output, Nat.le_trans h.size k.size, fun i hi hn => (k.block i (Nat.lt_of_lt_of_le hi h.size) (fun h2 => (hs i h2).elim hn (fun h3 => by omega))).trans (h.block i hi hn)⟩
theorem Ch.mono (h : Ch S w w1) (hs : ∀ k, S k → S' k) : Ch S' w w1 := ⟨h.os, h.tape, h.output, h.size, fun i hi hn => h.block i hi (fun hk => hn (hs i hk))⟩
theorem Ch.of_below (h : Below w.heap.size w w1) (S : Nat → Prop) : Ch S w w1 := ⟨h.os, h.tape, h.output, h.size, fun k hk _ => h.block k hk⟩
theorem Ch.thenB (h : Ch S w w1) (k : Below w1.heap.size w1 w2) : Ch S w w2 := h.trans (Ch.of_below k (fun _ => False)) (fun _ h => h.elim)
theorem Ch.alloc (h : Ch S w w1) (o : Obj) : Ch S w (w1.alloc o) := h.thenB (below_alloc (Below.refl _ _) o)
theorem Ch.drewN (h : Ch S w w1) (n : Nat) : Ch S w (w1.drewN n) := ⟨h.os, h.tape, h.output, h.size, h.block⟩
theorem Ch.drew (h : Ch S w w1) : Ch S w w1.drew := ⟨h.os, h.tape, h.output, h.size, h.block⟩
theorem Ch.drawn (h : Ch S w w1) (k : Drawn0 w1 w2) : Ch S w w2 := h.thenB k.below
theorem Ch.set (h : Ch S w w1) {p : Addr} (hp : S p.block ∨ w.heap.size ≤ p.block) (u : Value) : Ch S w (w1.setCell p u) :=
  h.trans (S' := fun k => k = p.block) ⟨rfl, rfl, rfl, by simp [World.setCell], fun i _ hn => Below.heap_setCell w1 p u i hn⟩ (fun k hk => by rw [hk]; exact hp)
theorem Ch.grown {row : Option Nat} (h : Ch S w w1) (hg : w1.grownBy w2 row) (hr : ∀ k, row = some k → S k ∨ w.heap.size ≤ k) : Ch S w w2 :=
  h.trans (S' := fun k => row = some k) ⟨hg.os, hg.tape, hg.output, hg.size, fun i hi hn => hg.block i hi (fun he => hn he.symm)⟩ hr
theorem Ch.toB {B : Nat} (h : Ch S w w1) (hB : B ≤ w.heap.size) (hs : ∀ k, S k → B ≤ k) : Below B w w1 :=
  ⟨h.os, h.tape, h.output, h.size, fun k hk => h.block k (Nat.lt_of_lt_of_le hk hB) (fun h2 => by have := hs k h2; omega)⟩
theorem Ch.below (h : Ch (fun _ => False) w w1) : Below w.heap.size w w1 := h.toB (Nat.le_refl _) (fun _ h => h.elim)
theorem Ch.belowN (h : Ch S w w1) (hs : ∀ k, S k → w.heap.size ≤ k) : Below w.heap.size w w1 := h.toB (Nat.le_refl _) hs
theorem Ch.cell (h : Ch S w w1) {a : Addr} {v : Value} (hc : w.cell? a = some v) (hn : ¬ S a.block) : w1.cell? a = some v := by
  have := h.block a.block (World.block_lt_of_cell? w a hc) hn
  simpa [World.cell?, this] using hc
theorem Ch.heap (h : Ch S w w1) {g : Nat} {o : Obj} (hb : w.heap[g]? = some o) (hn : ¬ S g) : w1.heap[g]? = some o := (h.block g (lt_of_block hb) hn).trans hb
end
/-- below(B, w0, W) and on. -/
theorem below_ch {B : Nat} {w0 w w1 : World} {S : Nat → Prop} (h : Below B w0 w) (k : Ch S w w1) (hB : B ≤ w.heap.size) (hs : ∀ k, S k → B ≤ k) : Below B w0 w1 := h.trans (k.toB hB hs)
theorem R_ch {α : Type} {d : Kd α} {e base : Nat} {ok S : Nat → Prop} {w w1 : World} {v : Value} {xs : List α} (h : d.R e w base ok v xs) (k : Ch S w w1) (hok : ∀ k, ok k → ¬ S k) : d.R e w1 base ok v xs :=
  Kd.R_step h (fun i ho hi => k.block i hi (hok i ho))
theorem setCell_drewN_ (w : World) (n : Nat) (a : Addr) (v : Value) : (w.drewN n).setCell a v = (w.setCell a v).drewN n := rfl
/-- A slice's length, for a measure. -/
def slen (v : Value) : Nat := match v with | .slice _ m _ => m | _ => 0
theorem zC_block (k : IntKind) (e : TypeId) (xs : List Int) {W : World} {g : Nat} (h : W.heap[g]? = some (.cells (nums k xs).toArray e (0, 0))) (hm : xs.length ≤ 9223372036854775807) : Kd.C (Kd.int k) W (some ⟨g, 0, none⟩) xs.length xs := by
  refine ⟨rfl, hm, fun _ => ⟨_, rfl, fun j p hp => ⟨[.int k p], rfl, rfl, fun i u hu => ?_⟩⟩⟩
  obtain ⟨rfl, rfl⟩ : i = 0 ∧ u = .int k p := by
    cases i with
    | zero => simp at hu; exact ⟨rfl, hu.symm⟩
    | succ i => simp at hu
  rw [add_plain]
  have hs : (Kd.int k).sz = 1 := rfl
  rw [hs, Nat.mul_one, Nat.add_zero]
  have hj : (nums k xs)[j]? = some (.int k p) := by simp [nums, hp]
  simp only [World.cell?, h]
  simp [hj]
theorem zC_new (k : IntKind) (e : TypeId) (xs : List Int) (W : World) (g : Nat) (hg : g = W.heap.size) (hm : xs.length ≤ 9223372036854775807) : Kd.C (Kd.int k) (W.alloc (.cells (nums k xs).toArray e)) (some ⟨g, 0, none⟩) xs.length xs := by
  subst hg
  exact zC_block k e xs (heap_alloc_new W _) hm

/-! ### hash_fold: function 41 -/
def hash_fold.f (a0 : Int) : Option (Int) := some (Go.bits .xor .u64 a0 (a0 / 8589934592))
set_option maxHeartbeats 8000000 in
set_option maxRecDepth 100000 in
theorem hash_fold.calls (a0 : Int) (r : Int) (w : World) (h : hash_fold.f a0 = some r) :
    Calls Try.prog 41 #[.int .u64 a0] w fun e w' => e = .returned (.int .u64 r) ∧ Drawn0 w w' := by
  have H : (some (Go.bits .xor .u64 a0 (a0 / 8589934592))) = some r := h
  clear h
  obtain rfl := Option.some.inj H
  go_enter Try.func41, Try.ntmps41
  go_wp2
  go_ret
  exact ⟨by first | rfl | (simp; done) | (simp [*]; done), by repeat (first | exact Drawn0.refl _ | apply Drawn0.step)⟩

/-! ### hash_inverse: function 42 -/
def hash_inverse.l0 : Nat → Int → Int → Int → Option (Int)
  | 0, _, _, _ => none
  | k + 1, x0, x3, x5 => if x5 < 5 then (hash_inverse.l0 k x0 (IntKind.u64.wrap (x3 * (IntKind.u64.wrap (2 - (IntKind.u64.wrap (x0 * x3)))))) (wrap64 (x5 + 1))) else (some x3)
def hash_inverse.f (k : Nat) (a0 : Int) : Option (Int) := hash_inverse.l0 k a0 a0 0
theorem hash_inverse.mono_l : ∀ k, (∀ y0 y1 y2, LeO (hash_inverse.l0 k y0 y1 y2) (hash_inverse.l0 (k + 1) y0 y1 y2))
  | 0 => fun _ _ _ r h => by simp [hash_inverse.l0] at h
  | k + 1 => by
    have ih0 := hash_inverse.mono_l k
    · intro y0 y1 y2
      unfold hash_inverse.l0
      repeat' first
      | (with_reducible exact ih0 _ _ _)
      | (with_reducible exact LeO.refl _)
      | (with_reducible exact LeO.none _)
      | (with_reducible refine LeO.ite ?_ ?_)
      | (with_reducible refine LeO.bind ?_ (fun _ => ?_))
      | exact ih0 _ _ _
      | exact LeO.none _
      | refine LeO.ite ?_ ?_
      | refine LeO.bind ?_ (fun _ => ?_)
theorem hash_inverse.mono : ∀ a0 k, LeO (hash_inverse.f k a0) (hash_inverse.f (k + 1) a0) := by
  intro a0 k
  have ih0 := hash_inverse.mono_l k
  unfold hash_inverse.f
  repeat' first
      | (with_reducible exact ih0 _ _ _)
      | (with_reducible exact LeO.refl _)
      | (with_reducible exact LeO.none _)
      | (with_reducible refine LeO.ite ?_ ?_)
      | (with_reducible refine LeO.bind ?_ (fun _ => ?_))
      | exact ih0 _ _ _
      | exact LeO.none _
      | refine LeO.ite ?_ ?_
      | refine LeO.bind ?_ (fun _ => ?_)
set_option maxHeartbeats 8000000 in
set_option maxRecDepth 100000 in
theorem hash_inverse.calls (k : Nat) (a0 : Int) (r : Int) (w : World) (h : hash_inverse.f k a0 = some r) :
    Calls Try.prog 42 #[.int .u64 a0] w fun e w' => e = .returned (.int .u64 r) ∧ Drawn0 w w' := by
  have H : (hash_inverse.l0 k a0 a0 0) = some r := h
  clear h
  have H' := Aside0.mk H
  clear H
  go_enter Try.func42, Try.ntmps42
  go_wp2
  go_loopg [3, 5] k (fun kq v3 v5 w' => ∃ (x3_1 : Int) (x5_1 : Int), v3 = .int .u64 x3_1 ∧ v5 = .int .i64 x5_1 ∧ Aside0 (hash_inverse.l0 kq a0 x3_1 x5_1 = some r) ∧ Aside0 (kq ≤ k) ∧ Drawn0 w w')
  case atStart => exact ⟨(a0), (0), (by first | rfl | (simp; done) | (simp [*]; done)), (by first | rfl | (simp; done) | (simp [*]; done)), H', ⟨Nat.le_refl _⟩, by repeat (first | exact Drawn0.refl _ | apply Drawn0.step)⟩
  case round =>
    clear H'
    obtain ⟨x3_1, x5_1, rfl, rfl, HA, HK1, ⟨m1, rfl⟩⟩ := hrel
    cases gk with
    | zero => exact absurd HA.out (by simp [hash_inverse.l0])
    | succ k1 =>
      have H := HA.out
      clear HA
      simp only [hash_inverse.l0] at H
      by_cases c2 : x5_1 < 5
      · rw [if_pos c2] at H
        have c2b0 : decide (x5_1 < 5) = true := decide_eq_true c2
        clear c2
        have H' := Aside0.mk H
        clear H
        go_wp2
        go_roundg k1
        case measure => have := HK1.out; omega
        case rel => exact ⟨(IntKind.u64.wrap (x3_1 * (IntKind.u64.wrap (2 - (IntKind.u64.wrap (a0 * x3_1)))))), (wrap64 (x5_1 + 1)), (by first | rfl | (simp; done) | (simp [*]; done)), (by first | rfl | (simp; done) | (simp [*]; done)), H', ⟨by have := HK1.out; omega⟩, by repeat (first | exact Drawn0.refl _ | apply Drawn0.step)⟩
      · rw [if_neg c2] at H
        have c2b0 : decide (x5_1 < 5) = false := decide_eq_false c2
        clear c2
        obtain rfl := Option.some.inj H
        go_wp2
        go_ret
        exact ⟨by first | rfl | (simp; done) | (simp [*]; done), by repeat (first | exact Drawn0.refl _ | apply Drawn0.step)⟩

/-! ### hash_Unmix: function 15 -/
def hash_Unmix.f (k : Nat) (a0 : Int) : Option (Int) := (hash_fold.f a0).bind fun t101 => ((hash_inverse.f k 14181476777654086739).bind fun t102 => ((hash_fold.f (IntKind.u64.wrap (t101 * t102))).bind fun t103 => ((hash_inverse.f k 18397679294719823053).bind fun t104 => ((hash_fold.f (IntKind.u64.wrap (t103 * t104))).bind fun t105 => (some t105)))))
theorem hash_Unmix.mono : ∀ a0 k, LeO (hash_Unmix.f k a0) (hash_Unmix.f (k + 1) a0) := by
  intro a0 k
  unfold hash_Unmix.f
  repeat' first
      | (with_reducible exact hash_inverse.mono _ _)
      | (with_reducible exact LeO.refl _)
      | (with_reducible exact LeO.none _)
      | (with_reducible refine LeO.ite ?_ ?_)
      | (with_reducible refine LeO.bind ?_ (fun _ => ?_))
      | exact hash_inverse.mono _ _
      | exact LeO.none _
      | refine LeO.ite ?_ ?_
      | refine LeO.bind ?_ (fun _ => ?_)
set_option maxHeartbeats 8000000 in
set_option maxRecDepth 100000 in
theorem hash_Unmix.calls (k : Nat) (a0 : Int) (r : Int) (w : World) (h : hash_Unmix.f k a0 = some r) :
    Calls Try.prog 15 #[.int .u64 a0] w fun e w' => e = .returned (.int .u64 r) ∧ Drawn0 w w' := by
  have H : ((hash_fold.f a0).bind fun t101 => ((hash_inverse.f k 14181476777654086739).bind fun t102 => ((hash_fold.f (IntKind.u64.wrap (t101 * t102))).bind fun t103 => ((hash_inverse.f k 18397679294719823053).bind fun t104 => ((hash_fold.f (IntKind.u64.wrap (t103 * t104))).bind fun t105 => (some t105)))))) = some r := h
  clear h
  replace H := Option.bind_eq_some_iff.mp H
  obtain ⟨t101, A20, H⟩ := H
  replace H : ((hash_inverse.f k 14181476777654086739).bind fun t102 => ((hash_fold.f (IntKind.u64.wrap (t101 * t102))).bind fun t103 => ((hash_inverse.f k 18397679294719823053).bind fun t104 => ((hash_fold.f (IntKind.u64.wrap (t103 * t104))).bind fun t105 => (some t105))))) = some r := H
  have A2 := Aside0.mk A20
  clear A20
  replace H := Option.bind_eq_some_iff.mp H
  obtain ⟨t102, A30, H⟩ := H
  replace H : ((hash_fold.f (IntKind.u64.wrap (t101 * t102))).bind fun t103 => ((hash_inverse.f k 18397679294719823053).bind fun t104 => ((hash_fold.f (IntKind.u64.wrap (t103 * t104))).bind fun t105 => (some t105)))) = some r := H
  have A3 := Aside0.mk A30
  clear A30
  replace H := Option.bind_eq_some_iff.mp H
  obtain ⟨t103, A40, H⟩ := H
  replace H : ((hash_inverse.f k 18397679294719823053).bind fun t104 => ((hash_fold.f (IntKind.u64.wrap (t103 * t104))).bind fun t105 => (some t105))) = some r := H
  have A4 := Aside0.mk A40
  clear A40
  replace H := Option.bind_eq_some_iff.mp H
  obtain ⟨t104, A50, H⟩ := H
  replace H : ((hash_fold.f (IntKind.u64.wrap (t103 * t104))).bind fun t105 => (some t105)) = some r := H
  have A5 := Aside0.mk A50
  clear A50
  replace H := Option.bind_eq_some_iff.mp H
  obtain ⟨t105, A60, H⟩ := H
  replace H : (some t105) = some r := H
  have A6 := Aside0.mk A60
  clear A60
  obtain rfl := Option.some.inj H
  go_enter Try.func15, Try.ntmps15
  go_wp2_with (first | ((with_reducible refine gate_callee (f := 41) rfl ?_); refine goesL_ (some 4) rfl rfl Try.func41 (by kernel_rfl) rfl #[.int .u64 a0] rfl (by (try simp only [List.map_toArray, List.map_cons, List.map_nil]); first | done | rfl | (simp only [List.length_drop, List.length_take]; rfl)) ?_; (with_reducible refine (hash_fold.calls a0 t101 _ A2.out).mono ?_); rintro e w' ⟨rfl, ⟨nd, rfl⟩⟩; refine ⟨_, rfl, ?_⟩) | ((with_reducible refine gate_callee (f := 42) rfl ?_); refine goesL_ (some 5) rfl rfl Try.func42 (by kernel_rfl) rfl #[.int .u64 14181476777654086739] rfl (by (try simp only [List.map_toArray, List.map_cons, List.map_nil]); first | done | rfl | (simp only [List.length_drop, List.length_take]; rfl)) ?_; (with_reducible refine (hash_inverse.calls k 14181476777654086739 t102 _ A3.out).mono ?_); rintro e w' ⟨rfl, ⟨nd, rfl⟩⟩; refine ⟨_, rfl, ?_⟩) | ((with_reducible refine gate_callee (f := 41) rfl ?_); refine goesL_ (some 7) rfl rfl Try.func41 (by kernel_rfl) rfl #[.int .u64 (IntKind.u64.wrap (t101 * t102))] rfl (by (try simp only [List.map_toArray, List.map_cons, List.map_nil]); first | done | rfl | (simp only [List.length_drop, List.length_take]; rfl)) ?_; (with_reducible refine (hash_fold.calls (IntKind.u64.wrap (t101 * t102)) t103 _ A4.out).mono ?_); rintro e w' ⟨rfl, ⟨nd, rfl⟩⟩; refine ⟨_, rfl, ?_⟩) | ((with_reducible refine gate_callee (f := 42) rfl ?_); refine goesL_ (some 8) rfl rfl Try.func42 (by kernel_rfl) rfl #[.int .u64 18397679294719823053] rfl (by (try simp only [List.map_toArray, List.map_cons, List.map_nil]); first | done | rfl | (simp only [List.length_drop, List.length_take]; rfl)) ?_; (with_reducible refine (hash_inverse.calls k 18397679294719823053 t104 _ A5.out).mono ?_); rintro e w' ⟨rfl, ⟨nd, rfl⟩⟩; refine ⟨_, rfl, ?_⟩) | ((with_reducible refine gate_callee (f := 41) rfl ?_); refine goesL_ (some 10) rfl rfl Try.func41 (by kernel_rfl) rfl #[.int .u64 (IntKind.u64.wrap (t103 * t104))] rfl (by (try simp only [List.map_toArray, List.map_cons, List.map_nil]); first | done | rfl | (simp only [List.length_drop, List.length_take]; rfl)) ?_; (with_reducible refine (hash_fold.calls (IntKind.u64.wrap (t103 * t104)) t105 _ A6.out).mono ?_); rintro e w' ⟨rfl, ⟨nd, rfl⟩⟩; refine ⟨_, rfl, ?_⟩))
  go_ret
  exact ⟨by first | rfl | (simp; done) | (simp [*]; done), by repeat (first | exact Drawn0.refl _ | apply Drawn0.step)⟩

/-! ### hash_Mix: function 16 -/
def hash_Mix.f (a0 : Int) : Option (Int) := (hash_fold.f a0).bind fun t106 => ((hash_fold.f (IntKind.u64.wrap (t106 * 18397679294719823053))).bind fun t107 => ((hash_fold.f (IntKind.u64.wrap (t107 * 14181476777654086739))).bind fun t108 => (some t108)))
set_option maxHeartbeats 8000000 in
set_option maxRecDepth 100000 in
theorem hash_Mix.calls (a0 : Int) (r : Int) (w : World) (h : hash_Mix.f a0 = some r) :
    Calls Try.prog 16 #[.int .u64 a0] w fun e w' => e = .returned (.int .u64 r) ∧ Drawn0 w w' := by
  have H : ((hash_fold.f a0).bind fun t106 => ((hash_fold.f (IntKind.u64.wrap (t106 * 18397679294719823053))).bind fun t107 => ((hash_fold.f (IntKind.u64.wrap (t107 * 14181476777654086739))).bind fun t108 => (some t108)))) = some r := h
  clear h
  replace H := Option.bind_eq_some_iff.mp H
  obtain ⟨t106, A20, H⟩ := H
  replace H : ((hash_fold.f (IntKind.u64.wrap (t106 * 18397679294719823053))).bind fun t107 => ((hash_fold.f (IntKind.u64.wrap (t107 * 14181476777654086739))).bind fun t108 => (some t108))) = some r := H
  have A2 := Aside0.mk A20
  clear A20
  replace H := Option.bind_eq_some_iff.mp H
  obtain ⟨t107, A30, H⟩ := H
  replace H : ((hash_fold.f (IntKind.u64.wrap (t107 * 14181476777654086739))).bind fun t108 => (some t108)) = some r := H
  have A3 := Aside0.mk A30
  clear A30
  replace H := Option.bind_eq_some_iff.mp H
  obtain ⟨t108, A40, H⟩ := H
  replace H : (some t108) = some r := H
  have A4 := Aside0.mk A40
  clear A40
  obtain rfl := Option.some.inj H
  go_enter Try.func16, Try.ntmps16
  go_wp2_with (first | ((with_reducible refine gate_callee (f := 41) rfl ?_); refine goesL_ (some 4) rfl rfl Try.func41 (by kernel_rfl) rfl #[.int .u64 a0] rfl (by (try simp only [List.map_toArray, List.map_cons, List.map_nil]); first | done | rfl | (simp only [List.length_drop, List.length_take]; rfl)) ?_; (with_reducible refine (hash_fold.calls a0 t106 _ A2.out).mono ?_); rintro e w' ⟨rfl, ⟨nd, rfl⟩⟩; refine ⟨_, rfl, ?_⟩) | ((with_reducible refine gate_callee (f := 41) rfl ?_); refine goesL_ (some 6) rfl rfl Try.func41 (by kernel_rfl) rfl #[.int .u64 (IntKind.u64.wrap (t106 * 18397679294719823053))] rfl (by (try simp only [List.map_toArray, List.map_cons, List.map_nil]); first | done | rfl | (simp only [List.length_drop, List.length_take]; rfl)) ?_; (with_reducible refine (hash_fold.calls (IntKind.u64.wrap (t106 * 18397679294719823053)) t107 _ A3.out).mono ?_); rintro e w' ⟨rfl, ⟨nd, rfl⟩⟩; refine ⟨_, rfl, ?_⟩) | ((with_reducible refine gate_callee (f := 41) rfl ?_); refine goesL_ (some 8) rfl rfl Try.func41 (by kernel_rfl) rfl #[.int .u64 (IntKind.u64.wrap (t107 * 14181476777654086739))] rfl (by (try simp only [List.map_toArray, List.map_cons, List.map_nil]); first | done | rfl | (simp only [List.length_drop, List.length_take]; rfl)) ?_; (with_reducible refine (hash_fold.calls (IntKind.u64.wrap (t107 * 14181476777654086739)) t108 _ A4.out).mono ?_); rintro e w' ⟨rfl, ⟨nd, rfl⟩⟩; refine ⟨_, rfl, ?_⟩))
  go_ret
  exact ⟨by first | rfl | (simp; done) | (simp [*]; done), by repeat (first | exact Drawn0.refl _ | apply Drawn0.step)⟩

/-! ### waybilllaw10_alive: function 14 -/
def waybilllaw10_alive.f (k : Nat)  : Option (Bool) := (hash_Mix.f 0).bind fun t109 => (if t109 = 0 then ((hash_Mix.f 12345).bind fun t110 => ((hash_Unmix.f k t110).bind fun t111 => (if t111 = 12345 then ((hash_Mix.f 1).bind fun t112 => (some (t112 != 1))) else (some false)))) else (some false))
theorem waybilllaw10_alive.mono : ∀ k, LeO (waybilllaw10_alive.f k ) (waybilllaw10_alive.f (k + 1) ) := by
  intro  k
  unfold waybilllaw10_alive.f
  repeat' first
      | (with_reducible exact hash_Unmix.mono _ _)
      | (with_reducible exact LeO.refl _)
      | (with_reducible exact LeO.none _)
      | (with_reducible refine LeO.ite ?_ ?_)
      | (with_reducible refine LeO.bind ?_ (fun _ => ?_))
      | exact hash_Unmix.mono _ _
      | exact LeO.none _
      | refine LeO.ite ?_ ?_
      | refine LeO.bind ?_ (fun _ => ?_)
set_option maxHeartbeats 8000000 in
set_option maxRecDepth 100000 in
theorem waybilllaw10_alive.calls (k : Nat)  (r : Bool) (w : World) (h : waybilllaw10_alive.f k  = some r) :
    Calls Try.prog 14 #[] w fun e w' => e = .returned (.bool r) ∧ Drawn0 w w' := by
  have H : ((hash_Mix.f 0).bind fun t109 => (if t109 = 0 then ((hash_Mix.f 12345).bind fun t110 => ((hash_Unmix.f k t110).bind fun t111 => (if t111 = 12345 then ((hash_Mix.f 1).bind fun t112 => (some (t112 != 1))) else (some false)))) else (some false))) = some r := h
  clear h
  replace H := Option.bind_eq_some_iff.mp H
  obtain ⟨t109, A10, H⟩ := H
  replace H : (if t109 = 0 then ((hash_Mix.f 12345).bind fun t110 => ((hash_Unmix.f k t110).bind fun t111 => (if t111 = 12345 then ((hash_Mix.f 1).bind fun t112 => (some (t112 != 1))) else (some false)))) else (some false)) = some r := H
  have A1 := Aside0.mk A10
  clear A10
  by_cases c2 : t109 = 0
  · rw [if_pos c2] at H
    have c2b0 : (t109 == 0) = true := beq_iff_eq.mpr c2
    have c2b1 : (t109 != 0) = false := bne_eq_false_iff_eq.mpr c2
    clear c2
    replace H := Option.bind_eq_some_iff.mp H
    obtain ⟨t110, A30, H⟩ := H
    replace H : ((hash_Unmix.f k t110).bind fun t111 => (if t111 = 12345 then ((hash_Mix.f 1).bind fun t112 => (some (t112 != 1))) else (some false))) = some r := H
    have A3 := Aside0.mk A30
    clear A30
    replace H := Option.bind_eq_some_iff.mp H
    obtain ⟨t111, A40, H⟩ := H
    replace H : (if t111 = 12345 then ((hash_Mix.f 1).bind fun t112 => (some (t112 != 1))) else (some false)) = some r := H
    have A4 := Aside0.mk A40
    clear A40
    by_cases c5 : t111 = 12345
    · rw [if_pos c5] at H
      have c5b0 : (t111 == 12345) = true := beq_iff_eq.mpr c5
      have c5b1 : (t111 != 12345) = false := bne_eq_false_iff_eq.mpr c5
      clear c5
      replace H := Option.bind_eq_some_iff.mp H
      obtain ⟨t112, A60, H⟩ := H
      replace H : (some (t112 != 1)) = some r := H
      have A6 := Aside0.mk A60
      clear A60
      obtain rfl := Option.some.inj H
      go_enter Try.func14, Try.ntmps14
      go_wp2_with (first | ((with_reducible refine gate_callee (f := 16) rfl ?_); refine goesL_ (some 1) rfl rfl Try.func16 (by kernel_rfl) rfl #[.int .u64 0] rfl (by (try simp only [List.map_toArray, List.map_cons, List.map_nil]); first | done | rfl | (simp only [List.length_drop, List.length_take]; rfl)) ?_; (with_reducible refine (hash_Mix.calls 0 t109 _ A1.out).mono ?_); rintro e w' ⟨rfl, ⟨nd, rfl⟩⟩; refine ⟨_, rfl, ?_⟩) | (go_at_call 16; (with_reducible refine (hash_Mix.calls 12345 t110 _ A3.out).mono ?_); rintro e w' ⟨rfl, ⟨nd, rfl⟩⟩) | (go_at_call 15; (with_reducible refine (hash_Unmix.calls k t110 t111 _ A4.out).mono ?_); rintro e w' ⟨rfl, ⟨nd, rfl⟩⟩) | (go_at_call 16; (with_reducible refine (hash_Mix.calls 1 t112 _ A6.out).mono ?_); rintro e w' ⟨rfl, ⟨nd, rfl⟩⟩))
      go_ret
      exact ⟨by first | rfl | (simp; done) | (simp [*]; done), by repeat (first | exact Drawn0.refl _ | apply Drawn0.step)⟩
    · rw [if_neg c5] at H
      have c5b0 : (t111 == 12345) = false := beq_eq_false_iff_ne.mpr c5
      have c5b1 : (t111 != 12345) = true := bne_iff_ne.mpr c5
      obtain rfl := Option.some.inj H
      go_enter Try.func14, Try.ntmps14
      go_wp2_with (first | ((with_reducible refine gate_callee (f := 16) rfl ?_); refine goesL_ (some 1) rfl rfl Try.func16 (by kernel_rfl) rfl #[.int .u64 0] rfl (by (try simp only [List.map_toArray, List.map_cons, List.map_nil]); first | done | rfl | (simp only [List.length_drop, List.length_take]; rfl)) ?_; (with_reducible refine (hash_Mix.calls 0 t109 _ A1.out).mono ?_); rintro e w' ⟨rfl, ⟨nd, rfl⟩⟩; refine ⟨_, rfl, ?_⟩) | (go_at_call 16; (with_reducible refine (hash_Mix.calls 12345 t110 _ A3.out).mono ?_); rintro e w' ⟨rfl, ⟨nd, rfl⟩⟩) | (go_at_call 15; (with_reducible refine (hash_Unmix.calls k t110 t111 _ A4.out).mono ?_); rintro e w' ⟨rfl, ⟨nd, rfl⟩⟩))
      go_ret
      exact ⟨by first | rfl | (simp; done) | (simp [*]; done), by repeat (first | exact Drawn0.refl _ | apply Drawn0.step)⟩
  · rw [if_neg c2] at H
    have c2b0 : (t109 == 0) = false := beq_eq_false_iff_ne.mpr c2
    have c2b1 : (t109 != 0) = true := bne_iff_ne.mpr c2
    obtain rfl := Option.some.inj H
    go_enter Try.func14, Try.ntmps14
    go_wp2_with (first | ((with_reducible refine gate_callee (f := 16) rfl ?_); refine goesL_ (some 1) rfl rfl Try.func16 (by kernel_rfl) rfl #[.int .u64 0] rfl (by (try simp only [List.map_toArray, List.map_cons, List.map_nil]); first | done | rfl | (simp only [List.length_drop, List.length_take]; rfl)) ?_; (with_reducible refine (hash_Mix.calls 0 t109 _ A1.out).mono ?_); rintro e w' ⟨rfl, ⟨nd, rfl⟩⟩; refine ⟨_, rfl, ?_⟩))
    go_ret
    exact ⟨by first | rfl | (simp; done) | (simp [*]; done), by repeat (first | exact Drawn0.refl _ | apply Drawn0.step)⟩

/-! ### bits_Mul64: function 43 -/
def bits_Mul64.f (a0 : Int) (a1 : Int) : Option (Int × Int) := some (IntKind.u64.wrap ((IntKind.u64.wrap ((IntKind.u64.wrap ((a0 / 4294967296) * (a1 / 4294967296))) + ((IntKind.u64.wrap ((IntKind.u64.wrap ((a0 / 4294967296) * (Go.bits .and .u64 a1 4294967295))) + ((IntKind.u64.wrap ((Go.bits .and .u64 a0 4294967295) * (Go.bits .and .u64 a1 4294967295))) / 4294967296))) / 4294967296))) + ((IntKind.u64.wrap ((Go.bits .and .u64 (IntKind.u64.wrap ((IntKind.u64.wrap ((a0 / 4294967296) * (Go.bits .and .u64 a1 4294967295))) + ((IntKind.u64.wrap ((Go.bits .and .u64 a0 4294967295) * (Go.bits .and .u64 a1 4294967295))) / 4294967296))) 4294967295) + (IntKind.u64.wrap ((Go.bits .and .u64 a0 4294967295) * (a1 / 4294967296))))) / 4294967296)), IntKind.u64.wrap (a0 * a1))
set_option maxHeartbeats 8000000 in
set_option maxRecDepth 100000 in
theorem bits_Mul64.calls (a0 : Int) (a1 : Int) (r1 : Int) (r2 : Int) (w : World) (h : bits_Mul64.f a0 a1 = some (r1, r2)) :
    Calls Try.prog 43 #[.int .u64 a0, .int .u64 a1] w fun e w' => e = .returned (.tuple #[.int .u64 r1, .int .u64 r2]) ∧ Drawn0 w w' := by
  have H : (some (IntKind.u64.wrap ((IntKind.u64.wrap ((IntKind.u64.wrap ((a0 / 4294967296) * (a1 / 4294967296))) + ((IntKind.u64.wrap ((IntKind.u64.wrap ((a0 / 4294967296) * (Go.bits .and .u64 a1 4294967295))) + ((IntKind.u64.wrap ((Go.bits .and .u64 a0 4294967295) * (Go.bits .and .u64 a1 4294967295))) / 4294967296))) / 4294967296))) + ((IntKind.u64.wrap ((Go.bits .and .u64 (IntKind.u64.wrap ((IntKind.u64.wrap ((a0 / 4294967296) * (Go.bits .and .u64 a1 4294967295))) + ((IntKind.u64.wrap ((Go.bits .and .u64 a0 4294967295) * (Go.bits .and .u64 a1 4294967295))) / 4294967296))) 4294967295) + (IntKind.u64.wrap ((Go.bits .and .u64 a0 4294967295) * (a1 / 4294967296))))) / 4294967296)), IntKind.u64.wrap (a0 * a1))) = some (r1, r2) := h
  clear h
  simp only [Option.some.injEq, Prod.mk.injEq] at H
  obtain ⟨rfl, rfl⟩ := H
  go_enter Try.func43, Try.ntmps43
  go_wp2
  go_ret2
  exact ⟨by first | rfl | (simp; done) | (simp [*]; done), by repeat (first | exact Drawn0.refl _ | apply Drawn0.step)⟩

/-! ### hash_Share: function 18 -/
def hash_Share.f (a0 : Int) (a1 : Int) : Option (Int × Int) := if a1 < 1 then (some (0, 4)) else (if a1 > 1048576 then (some (0, 4)) else ((bits_Mul64.f (IntKind.u64.wrap ((a0 / 4294967296) * 4294967296)) (IntKind.u64.wrap (a1))).bind fun bt113 => (some (wrap64 (bt113.1), 0))))
set_option maxHeartbeats 8000000 in
set_option maxRecDepth 100000 in
theorem hash_Share.calls (a0 : Int) (a1 : Int) (r1 : Int) (r2 : Int) (w : World) (h : hash_Share.f a0 a1 = some (r1, r2)) :
    Calls Try.prog 18 #[.int .u64 a0, .int .i64 a1] w fun e w' => e = .returned (.tuple #[.int .i64 r1, .int .i64 r2]) ∧ Drawn0 w w' := by
  have H : (if a1 < 1 then (some (0, 4)) else (if a1 > 1048576 then (some (0, 4)) else ((bits_Mul64.f (IntKind.u64.wrap ((a0 / 4294967296) * 4294967296)) (IntKind.u64.wrap (a1))).bind fun bt113 => (some (wrap64 (bt113.1), 0))))) = some (r1, r2) := h
  clear h
  by_cases c3 : a1 < 1
  · rw [if_pos c3] at H
    have c3b0 : decide (a1 < 1) = true := decide_eq_true c3
    clear c3
    simp only [Option.some.injEq, Prod.mk.injEq] at H
    obtain ⟨rfl, rfl⟩ := H
    go_enter Try.func18, Try.ntmps18
    go_wp2
    go_ret2
    exact ⟨by first | rfl | (simp; done) | (simp [*]; done), by repeat (first | exact Drawn0.refl _ | apply Drawn0.step)⟩
  · rw [if_neg c3] at H
    have c3b0 : decide (a1 < 1) = false := decide_eq_false c3
    clear c3
    by_cases c4 : a1 > 1048576
    · rw [if_pos c4] at H
      have c4b0 : decide (1048576 < a1) = true := decide_eq_true c4
      clear c4
      simp only [Option.some.injEq, Prod.mk.injEq] at H
      obtain ⟨rfl, rfl⟩ := H
      go_enter Try.func18, Try.ntmps18
      go_wp2
      go_ret2
      exact ⟨by first | rfl | (simp; done) | (simp [*]; done), by repeat (first | exact Drawn0.refl _ | apply Drawn0.step)⟩
    · rw [if_neg c4] at H
      have c4b0 : decide (1048576 < a1) = false := decide_eq_false c4
      clear c4
      replace H := Option.bind_eq_some_iff.mp H
      obtain ⟨⟨t113, t114⟩, A50, H⟩ := H
      replace H : (some (wrap64 (t113), 0)) = some (r1, r2) := H
      have A5 := Aside0.mk A50
      clear A50
      simp only [Option.some.injEq, Prod.mk.injEq] at H
      obtain ⟨rfl, rfl⟩ := H
      go_enter Try.func18, Try.ntmps18
      go_wp2_with (first | ((with_reducible refine gate_callee (f := 43) rfl ?_); refine goesL_ (some 20) rfl rfl Try.func43 (by kernel_rfl) rfl #[.int .u64 (IntKind.u64.wrap ((a0 / 4294967296) * 4294967296)), .int .u64 (IntKind.u64.wrap (a1))] rfl (by (try simp only [List.map_toArray, List.map_cons, List.map_nil]); first | done | rfl | (simp only [List.length_drop, List.length_take]; rfl)) ?_; (with_reducible refine (bits_Mul64.calls (IntKind.u64.wrap ((a0 / 4294967296) * 4294967296)) (IntKind.u64.wrap (a1)) t113 t114 _ A5.out).mono ?_); rintro e w' ⟨rfl, ⟨nd, rfl⟩⟩; refine ⟨_, rfl, ?_⟩))
      go_ret2
      exact ⟨by first | rfl | (simp; done) | (simp [*]; done), by repeat (first | exact Drawn0.refl _ | apply Drawn0.step)⟩

/-! ### waybilllaw10_num: function 19 -/
def waybilllaw10_num.f (a0 : Int) : Option (Int) := some a0
set_option maxHeartbeats 8000000 in
set_option maxRecDepth 100000 in
theorem waybilllaw10_num.calls (a0 : Int) (r : Int) (w : World) (h : waybilllaw10_num.f a0 = some r) :
    Calls Try.prog 19 #[.int .i64 a0] w fun e w' => e = .returned (.int .i64 r) ∧ Drawn0 w w' := by
  have H : (some a0) = some r := h
  clear h
  obtain rfl := Option.some.inj H
  go_enter Try.func19, Try.ntmps19
  go_wp2
  go_ret
  exact ⟨by first | rfl | (simp; done) | (simp [*]; done), by repeat (first | exact Drawn0.refl _ | apply Drawn0.step)⟩

-- by hand: hashrange.inc
/-- As a step of its own: not by unfolding. -/
theorem obind {α β : Type} (a : α) (f : α → Option β) : (some a).bind f = f a := Eq.trans (Option.bind_some a f) (Eq.refl _)
/-- Numbers of 64 bits. -/
abbrev B := BitVec 64
def c1 : B := 18397679294719823053#64
def c2 : B := 14181476777654086739#64
theorem wu (n : Int) : IntKind.u64.wrap n = n % 18446744073709551616 := by simp [IntKind.wrap, IntKind.bits, IntKind.signed]
theorem bv_of (a : Int) (h : (Lit.int .u64 a).wf = true) : ∃ v : B, a = (v.toNat : Int) := by
  simp only [Lit.wf, IntKind.min, IntKind.max, IntKind.signed, IntKind.bits, Bool.and_eq_true] at h
  refine ⟨BitVec.ofInt 64 a, ?_⟩
  rw [BitVec.toNat_ofInt]
  have h2 : a < 18446744073709551616 := by have := h.2; simp at this; omega
  have h1 : 0 ≤ a := by simpa using h.1
  simp
  omega
theorem bv_lt (v : B) : (v.toNat : Int) < 18446744073709551616 := by have := v.isLt; omega
def foldB (v : B) : B := v ^^^ (v >>> 33)
theorem fold_of (v : B) : Go.bits .xor .u64 (v.toNat : Int) ((v.toNat : Int) / 8589934592) = ((foldB v).toNat : Int) := by
  have h : ((v.toNat : Int) / (8589934592 : Int)) = (((v >>> 33).toNat : Nat) : Int) := by
    simp [BitVec.toNat_ushiftRight, Nat.shiftRight_eq_div_pow]
  rw [h]
  unfold Go.bits foldB
  simp only [IntKind.bits]
  rw [BitVec.ofInt_natCast, BitVec.ofInt_natCast]
  simp only [BitVec.ofNat_toNat, BitVec.setWidth_eq]
  rw [wu]
  show ((v ^^^ (v >>> 33) : B).toNat : Int) % 18446744073709551616 = ((v ^^^ (v >>> 33) : B).toNat : Int)
  have := (v ^^^ (v >>> 33) : B).isLt
  omega
theorem foldB_foldB (v : B) : foldB (foldB v) = v := by
  unfold foldB
  have h : (v >>> 33) >>> 33 = 0#64 := by
    rw [← BitVec.shiftRight_add]
    apply BitVec.eq_of_toNat_eq
    simp [BitVec.toNat_ushiftRight, Nat.shiftRight_eq_div_pow]
    have := v.isLt
    omega
  rw [BitVec.ushiftRight_xor_distrib, h]
  simp [BitVec.xor_assoc]
theorem mul_of (v c : B) : IntKind.u64.wrap ((v.toNat : Int) * (c.toNat : Int)) = ((v * c).toNat : Int) := by
  rw [wu, BitVec.toNat_mul]; simp
theorem add_of (v c : B) : IntKind.u64.wrap ((v.toNat : Int) + (c.toNat : Int)) = ((v + c).toNat : Int) := by
  rw [wu, BitVec.toNat_add]; simp
def mixB (v : B) : B := foldB (foldB (foldB v * c1) * c2)
def i1 : B := 5725274745694666757#64
def i2 : B := 11291846944257947611#64
def unmixB (v : B) : B := foldB (foldB (foldB v * i2) * i1)
theorem c1i1 : c1 * i1 = 1#64 := by decide
theorem c2i2 : c2 * i2 = 1#64 := by decide
theorem unmix_mix (v : B) : unmixB (mixB v) = v := by
  unfold unmixB mixB
  rw [foldB_foldB, BitVec.mul_assoc, c2i2, BitVec.mul_one, foldB_foldB, BitVec.mul_assoc, c1i1, BitVec.mul_one, foldB_foldB]
theorem mix_unmix (v : B) : mixB (unmixB v) = v := by
  unfold unmixB mixB
  rw [foldB_foldB, BitVec.mul_assoc, BitVec.mul_comm i1 c1, c1i1, BitVec.mul_one, foldB_foldB, BitVec.mul_assoc, BitVec.mul_comm i2 c2, c2i2, BitVec.mul_one, foldB_foldB]
theorem mix_inj {v u : B} : mixB v = mixB u ↔ v = u := ⟨fun h => by rw [← unmix_mix v, h, unmix_mix], fun h => by rw [h]⟩
theorem toNat_beq (v u : B) : (((v.toNat : Nat) : Int) == ((u.toNat : Nat) : Int)) = (v == u) := by
  rw [Bool.eq_iff_iff]; simp [BitVec.toNat_inj, Int.ofNat_inj]
theorem Fold (v : B) : hash_fold.f (v.toNat : Int) = some ((foldB v).toNat : Int) := by unfold hash_fold.f; rw [fold_of]
theorem c1_int : (18397679294719823053 : Int) = ((c1.toNat : Nat) : Int) := by simp [c1]
theorem c2_int : (14181476777654086739 : Int) = ((c2.toNat : Nat) : Int) := by simp [c2]
theorem Mix (v : B) : hash_Mix.f (v.toNat : Int) = some ((mixB v).toNat : Int) := by
  unfold hash_Mix.f
  rw [Fold]; simp only [obind]
  rw [c1_int, mul_of, Fold]; simp only [obind]
  rw [c2_int, mul_of, Fold]; rfl
theorem Inv1 {k : Nat} (hk : 10 ≤ k) : hash_inverse.f k 18397679294719823053 = some ((i1.toNat : Nat) : Int) := at_rounds (hash_inverse.mono _) hk (by decide +kernel)
theorem Inv2 {k : Nat} (hk : 10 ≤ k) : hash_inverse.f k 14181476777654086739 = some ((i2.toNat : Nat) : Int) := at_rounds (hash_inverse.mono _) hk (by decide +kernel)
theorem Unmix (v : B) {k : Nat} (hk : 10 ≤ k) : hash_Unmix.f k (v.toNat : Int) = some ((unmixB v).toNat : Int) := by
  unfold hash_Unmix.f
  rw [Fold]; simp only [obind]
  rw [Inv2 hk]; simp only [obind]
  rw [mul_of, Fold]; simp only [obind]
  rw [Inv1 hk]; simp only [obind]
  rw [mul_of, Fold]; rfl
theorem mix0 : mixB 0#64 = 0#64 := by decide +kernel
theorem mix1 : (mixB 1#64 == 1#64) = false := by decide +kernel
theorem Alive {k : Nat} (hk : 10 ≤ k) : waybilllaw10_alive.f k = some true := by
  unfold waybilllaw10_alive.f
  have h0 : hash_Mix.f 0 = some 0 := by have := Mix 0#64; rw [mix0] at this; simpa using this
  have h1 : hash_Mix.f 12345 = some ((mixB 12345#64).toNat : Int) := by have := Mix 12345#64; simpa using this
  have h2 : hash_Mix.f 1 = some ((mixB 1#64).toNat : Int) := by have := Mix 1#64; simpa using this
  rw [h0]; simp only [obind, if_true]
  rw [h1]; simp only [obind]
  rw [Unmix _ hk, unmix_mix]; simp only [obind]
  rw [if_pos (by simp), h2]; simp only [obind]
  have h3 := toNat_beq (mixB 1#64) 1#64
  rw [mix1] at h3
  have h4 : (((1#64 : B).toNat : Nat) : Int) = 1 := by simp
  rw [h4] at h3
  simp only [bne, h3]; rfl
theorem mask32 (y : Int) (h0 : 0 ≤ y) (h1 : y < 18446744073709551616) : Go.bits .and .u64 y 4294967295 = y % 4294967296 := by
  have := bits_mask .u64 64 (Nat.le_refl _) (fun n a b => by rw [wu]; omega) 32 (by decide) y h0 (by simpa using h1)
  simpa using this
theorem Share (x n : Int) (h0 : 0 ≤ x) (h1 : x < 18446744073709551616) (hn : 1 ≤ n) (hm : n ≤ 1048576) : hash_Share.f x n = some ((x / 4294967296) * n / 4294967296, 0) := by
  unfold hash_Share.f
  rw [if_neg (by omega), if_neg (by omega)]
  unfold bits_Mul64.f
  simp only [obind]
  congr 1
  have e1 : IntKind.u64.wrap (x / 4294967296 * 4294967296) = x / 4294967296 * 4294967296 := by rw [wu]; omega
  have e2 : IntKind.u64.wrap n = n := by rw [wu]; omega
  rw [e1, e2]
  obtain ⟨H, hH⟩ : ∃ H, H = x / 4294967296 := ⟨_, rfl⟩
  have H0 : 0 ≤ H := by omega
  have H1 : H < 4294967296 := by omega
  rw [← hH]
  rw [mask32 n (by omega) (by omega), mask32 (H * 4294967296) (by omega) (by omega)]
  rw [show H * 4294967296 / 4294967296 = H by omega, show H * 4294967296 % 4294967296 = 0 by omega, show n % 4294967296 = n by omega, show n / 4294967296 = 0 by omega]
  simp only [Int.mul_zero, Int.zero_mul]
  have q0 : 0 ≤ H * n := Int.mul_nonneg H0 (by omega)
  have q1 : H * n ≤ 4294967295 * 1048576 := Int.mul_le_mul (by omega) hm (by omega) (by omega)
  generalize H * n = q at q0 q1 ⊢
  simp only [wu]
  rw [mask32 _ (by omega) (by omega)]
  unfold wrap64
  refine Prod.ext ?_ rfl
  show _ = q / 4294967296
  omega
theorem Share_no (x n : Int) (h : n < 1 ∨ n > 1048576) : hash_Share.f x n = some (0, 4) := by
  unfold hash_Share.f
  by_cases h1 : n < 1
  · rw [if_pos h1]
  · rw [if_neg h1, if_pos (by omega)]
theorem u64_bd {a : Int} (h : (Lit.int .u64 a).wf = true) : 0 ≤ a ∧ a < 18446744073709551616 := by
  obtain ⟨v, rfl⟩ := bv_of a h
  exact ⟨by omega, bv_lt v⟩
/-- The statement's walk: by hand (the print's own text of this one function falls). -/
def waybilllaw10_HashRange.Pure : Prop := True
set_option maxHeartbeats 1000000 in
theorem waybilllaw10_HashRange.walk (P : waybilllaw10_HashRange.Pure) (a0 : Int) (a1 : Int) (w : World) (w0 : (Lit.int .u64 a0).wf = true) (w1 : (Lit.int .i64 a1).wf = true) :
    Calls Try.prog 6 #[.int .u64 a0, .int .i64 a1] w fun e w' => e = .returned (.bool true) ∧ Below w.heap.size w w' := by
  obtain ⟨x0, x1⟩ := u64_bd w0
  by_cases h : 1 ≤ a1 ∧ a1 ≤ 1048576
  · have A1 := Lib.hid (Share a0 a1 x0 x1 h.1 h.2)
    obtain ⟨h1, h2⟩ := h
    clear w0 w1 x0 x1
    go_enter Try.func6, Try.ntmps6
    go_wp2_with (first | (go_at_call 14; refine (waybilllaw10_alive.calls 10 true _ (Alive (Nat.le_refl _))).mono ?_; rintro e w' ⟨rfl, ⟨nd, rfl⟩⟩) | (go_at_call 18; refine (hash_Share.calls _ _ _ _ _ A1.out).mono ?_; rintro e w' ⟨rfl, ⟨nd, rfl⟩⟩) | (go_at_call 19; refine (waybilllaw10_num.calls _ _ _ rfl).mono ?_; rintro e w' ⟨rfl, ⟨nd, rfl⟩⟩))
    go_ret
    exact ⟨rfl, by repeat (first | exact Below.refl _ _ | apply pw_below_drewN)⟩
  · have A1 := Lib.hid (Share_no a0 a1 (by omega))
    by_cases c : 1 ≤ a1
    · have h2 : ¬ a1 ≤ 1048576 := by omega
      have h3 : decide (a1 ≤ 1048576) = false := decide_eq_false h2
      clear w0 w1 x0 x1 h
      go_enter Try.func6, Try.ntmps6
      go_wp2_with (first | (go_at_call 14; refine (waybilllaw10_alive.calls 10 true _ (Alive (Nat.le_refl _))).mono ?_; rintro e w' ⟨rfl, ⟨nd, rfl⟩⟩) | (go_at_call 18; refine (hash_Share.calls _ _ _ _ _ A1.out).mono ?_; rintro e w' ⟨rfl, ⟨nd, rfl⟩⟩) | (go_at_call 19; refine (waybilllaw10_num.calls _ _ _ rfl).mono ?_; rintro e w' ⟨rfl, ⟨nd, rfl⟩⟩))
      go_ret
      exact ⟨rfl, by repeat (first | exact Below.refl _ _ | apply pw_below_drewN)⟩
    · clear w0 w1 x0 x1 h
      go_enter Try.func6, Try.ntmps6
      go_wp2_with (first | (go_at_call 14; refine (waybilllaw10_alive.calls 10 true _ (Alive (Nat.le_refl _))).mono ?_; rintro e w' ⟨rfl, ⟨nd, rfl⟩⟩) | (go_at_call 18; refine (hash_Share.calls _ _ _ _ _ A1.out).mono ?_; rintro e w' ⟨rfl, ⟨nd, rfl⟩⟩) | (go_at_call 19; refine (waybilllaw10_num.calls _ _ _ rfl).mono ?_; rintro e w' ⟨rfl, ⟨nd, rfl⟩⟩))
      go_ret
      exact ⟨rfl, by repeat (first | exact Below.refl _ _ | apply pw_below_drewN)⟩

end Go.Proofs.Ythldeecchlgieaa.EHashRange
