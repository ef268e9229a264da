-- Written by a program of this seat, over a copy of the print; parts by hand.
import Derived.Test.YthldeecchlgieaaEDrawTellsx0
import Derived.Test.YthldeecchlgieaaEDrawTellsx1
import Derived.Test.YthldeecchlgieaaEDrawTellsx2
namespace Go.Proofs.Ythldeecchlgieaa.EDrawTells
open Go.RowKit Go.Proofs.YthldeecchlgieaaW.PrintWords Go.Proofs.YthldeecchlgieaaW.PrintLast Go.Proofs.YthldeecchlgieaaW.PrintMore
attribute [local go_sem] max2_int min2_int max_two min_two max_three min_three max_four min_four   -- for this text's walks alone
set_option linter.unusedVariables false
set_option linter.unusedSimpArgs false

/-! ### waybillref11_Skip: function 40 -/
mutual
def waybillref11_Skip.j0 : Nat → Int → Int → Bool → Option (Int × Int)
  | 0, _, _, _ => none
  | k + 1, x0, x1, x13 => if x13 = true then (some (0, 4)) else (waybillref11_Skip.l0 k x0 x1 11400714819323198485 0)
def waybillref11_Skip.l0 : Nat → Int → Int → Int → Int → Option (Int × Int)
  | 0, _, _, _, _ => none
  | k + 1, x0, x1, x6, x7 => if x7 < 31 then (if 0 ≤ x7 then (if (Go.bits .and .i64 (shr .i64 x1 x7) 1) = 1 then (waybillref11_Skip.l0 k (IntKind.u64.wrap (x0 + x6)) x1 (IntKind.u64.wrap (x6 + x6)) (wrap64 (x7 + 1))) else (waybillref11_Skip.l0 k x0 x1 (IntKind.u64.wrap (x6 + x6)) (wrap64 (x7 + 1)))) else (none)) else (some (x0, 0))
end
def waybillref11_Skip.f (k : Nat) (a0 : Int) (a1 : Int) : Option (Int × Int) := if a1 < 0 then (waybillref11_Skip.j0 k a0 a1 true) else (waybillref11_Skip.j0 k a0 a1 (decide (a1 > 1073741824)))
theorem waybillref11_Skip.mono_l : ∀ k, (∀ y0 y1 y2, LeO (waybillref11_Skip.j0 k y0 y1 y2) (waybillref11_Skip.j0 (k + 1) y0 y1 y2)) ∧ (∀ y0 y1 y2 y3, LeO (waybillref11_Skip.l0 k y0 y1 y2 y3) (waybillref11_Skip.l0 (k + 1) y0 y1 y2 y3))
  | 0 => ⟨fun _ _ _ r h => by simp [waybillref11_Skip.j0] at h, fun _ _ _ _ r h => by simp [waybillref11_Skip.l0] at h⟩
  | k + 1 => by
    obtain ⟨ih0, ih1⟩ := waybillref11_Skip.mono_l k
    refine ⟨?_, ?_⟩
    · intro y0 y1 y2
      unfold waybillref11_Skip.j0
      repeat' first
      | (with_reducible exact ih0 _ _ _)
      | (with_reducible exact ih1 _ _ _ _)
      | (with_reducible exact LeO.refl _)
      | (with_reducible exact LeO.none _)
      | (with_reducible refine LeO.ite ?_ ?_)
      | (with_reducible refine LeO.bind ?_ (fun _ => ?_))
      | exact ih0 _ _ _
      | exact ih1 _ _ _ _
      | exact LeO.none _
      | refine LeO.ite ?_ ?_
      | refine LeO.bind ?_ (fun _ => ?_)
    · intro y0 y1 y2 y3
      unfold waybillref11_Skip.l0
      repeat' first
      | (with_reducible exact ih0 _ _ _)
      | (with_reducible exact ih1 _ _ _ _)
      | (with_reducible exact LeO.refl _)
      | (with_reducible exact LeO.none _)
      | (with_reducible refine LeO.ite ?_ ?_)
      | (with_reducible refine LeO.bind ?_ (fun _ => ?_))
      | exact ih0 _ _ _
      | exact ih1 _ _ _ _
      | exact LeO.none _
      | refine LeO.ite ?_ ?_
      | refine LeO.bind ?_ (fun _ => ?_)
theorem waybillref11_Skip.mono : ∀ a0 a1 k, LeO (waybillref11_Skip.f k a0 a1) (waybillref11_Skip.f (k + 1) a0 a1) := by
  intro a0 a1 k
  obtain ⟨ih0, ih1⟩ := waybillref11_Skip.mono_l k
  unfold waybillref11_Skip.f
  repeat' first
      | (with_reducible exact ih0 _ _ _)
      | (with_reducible exact ih1 _ _ _ _)
      | (with_reducible exact LeO.refl _)
      | (with_reducible exact LeO.none _)
      | (with_reducible refine LeO.ite ?_ ?_)
      | (with_reducible refine LeO.bind ?_ (fun _ => ?_))
      | exact ih0 _ _ _
      | exact ih1 _ _ _ _
      | exact LeO.none _
      | refine LeO.ite ?_ ?_
      | refine LeO.bind ?_ (fun _ => ?_)
set_option maxHeartbeats 8000000 in
set_option maxRecDepth 100000 in
theorem waybillref11_Skip.calls (k : Nat) (a0 : Int) (a1 : Int) (r1 : Int) (r2 : Int) (w : World) (h : waybillref11_Skip.f k a0 a1 = some (r1, r2)) :
    Calls Try.prog 40 #[.int .u64 a0, .int .i64 a1] w fun e w' => e = .returned (.tuple #[.int .u64 r1, .int .i64 r2]) ∧ Drawn0 w w' := by
  have H : (if a1 < 0 then (waybillref11_Skip.j0 k a0 a1 true) else (waybillref11_Skip.j0 k a0 a1 (decide (a1 > 1073741824)))) = some (r1, r2) := h
  clear h
  have HC3 := Aside0.mk H
  clear H
  go_enter Try.func40, Try.ntmps40
  go_upto_region 1 with (fail)
  go_cut [13] (fun v13 wc => ∃ (kq : Nat) (x13_2 : Bool), v13 = .bool x13_2 ∧ Aside0 (waybillref11_Skip.j0 kq a0 a1 x13_2 = some (r1, r2)) ∧ Aside0 (kq ≤ k) ∧ Drawn0 w wc)
  case first =>
    have H := HC3.out
    clear HC3
    by_cases c4 : a1 < 0
    · rw [if_pos c4] at H
      have c4b0 : decide (a1 < 0) = true := decide_eq_true c4
      clear c4
      (first | rw [c4b0] | (simp only [i64_w, i32_w]; rw [c4b0]) | skip)
      have H' := Aside0.mk H
      clear H
      go_wp2
      go_meet
      case rel => exact ⟨_, (true), (by first | rfl | (simp; done) | (simp [*]; done)), H', ⟨by first | omega | exact Nat.le_refl _⟩, by repeat (first | exact Drawn0.refl _ | apply Drawn0.step)⟩
    · rw [if_neg c4] at H
      have c4b0 : decide (a1 < 0) = false := decide_eq_false c4
      clear c4
      (first | rw [c4b0] | (simp only [i64_w, i32_w]; rw [c4b0]) | skip)
      have H' := Aside0.mk H
      clear H
      go_wp2
      go_meet
      case rel => exact ⟨_, (decide (a1 > 1073741824)), (by first | rfl | (simp; done) | (simp [*]; done)), H', ⟨by first | omega | exact Nat.le_refl _⟩, by repeat (first | exact Drawn0.refl _ | apply Drawn0.step)⟩
  case rest =>
    clear HC3
    try clear p2
    try clear c4
    try clear c4b0
    obtain ⟨kq, x13_2, rfl, HA, HJ2, ⟨mc2, rfl⟩⟩ := hcut
    cases kq with
    | zero => exact absurd HA.out (by simp [waybillref11_Skip.j0])
    | succ kj2 =>
      have H := HA.out
      clear HA
      simp only [waybillref11_Skip.j0] at H
      by_cases c5 : x13_2 = true
      · subst c5
        have H1 : (some (0, 4)) = some (r1, r2) := by rw [if_pos rfl] at H; exact H
        clear H
        have H := H1
        clear H1
        simp only [Option.some.injEq, Prod.mk.injEq] at H
        obtain ⟨rfl, rfl⟩ := H
        go_wp2
        go_ret2
        exact ⟨by first | rfl | (simp; done) | (simp [*]; done), by repeat (first | exact Drawn0.refl _ | apply Drawn0.step)⟩
      · replace c5 := Bool.eq_false_iff.mpr c5
        subst c5
        have H1 : (waybillref11_Skip.l0 kj2 a0 a1 11400714819323198485 0) = some (r1, r2) := by rw [if_neg (show ¬ (false = true) by decide)] at H; exact H
        clear H
        have H := H1
        clear H1
        have H' := Aside0.mk H
        clear H
        go_wp2
        go_loopg [0, 6, 7] kj2 (fun kq v0 v6 v7 w' => ∃ (x0_2 : Int) (x6_2 : Int) (x7_2 : Int), v0 = .int .u64 x0_2 ∧ v6 = .int .u64 x6_2 ∧ v7 = .int .i64 x7_2 ∧ Aside0 (waybillref11_Skip.l0 kq x0_2 a1 x6_2 x7_2 = some (r1, r2)) ∧ Aside0 (kq ≤ kj2) ∧ Drawn0 w w')
        case atStart => exact ⟨(a0), (11400714819323198485), (0), (by first | rfl | (simp; done) | (simp [*]; done)), (by first | rfl | (simp; done) | (simp [*]; done)), (by first | rfl | (simp; done) | (simp [*]; done)), H', ⟨Nat.le_refl _⟩, by repeat (first | exact Drawn0.refl _ | apply Drawn0.step)⟩
        case round =>
          clear H'
          try clear c2
          try clear p2
          try clear c4
          try clear c4b0
          try clear c5
          try clear p2
          obtain ⟨x0_2, x6_2, x7_2, rfl, rfl, rfl, HA, HK2, ⟨m2, rfl⟩⟩ := hrel
          cases gk with
          | zero => exact absurd HA.out (by simp [waybillref11_Skip.l0])
          | succ k2 =>
            have H := HA.out
            clear HA
            simp only [waybillref11_Skip.l0] at H
            by_cases c6 : x7_2 < 31
            · rw [if_pos c6] at H
              have c6b0 : decide (x7_2 < 31) = true := decide_eq_true c6
              clear c6
              by_cases c7 : 0 ≤ x7_2
              · rw [if_pos c7] at H
                have c7b0 := eq_true c7
                have c7b1 : decide (0 ≤ x7_2) = true := decide_eq_true c7
                clear c7
                obtain ⟨ji8, hji8⟩ : ∃ j_ : Int, (shr .i64 a1 x7_2) = j_ := ⟨_, rfl⟩
                replace H : (if (Go.bits .and .i64 (ji8) 1) = 1 then (waybillref11_Skip.l0 k2 (IntKind.u64.wrap (x0_2 + x6_2)) a1 (IntKind.u64.wrap (x6_2 + x6_2)) (wrap64 (x7_2 + 1))) else (waybillref11_Skip.l0 k2 x0_2 a1 (IntKind.u64.wrap (x6_2 + x6_2)) (wrap64 (x7_2 + 1)))) = some (r1, r2) := by first | (rw [hji8] at H; exact H) | (simp only [hji8] at H ⊢; exact H)
                have hji8_ : (a1 / 2 ^ min x7_2.toNat 64) = ji8 := hji8
                have hji8z : x7_2 ≤ 64 → (a1 / 2 ^ x7_2.toNat) = ji8 := shr_small hji8
                by_cases c9 : (Go.bits .and .i64 (ji8) 1) = 1
                · rw [if_pos c9] at H
                  have c9b0 : ((Go.bits .and .i64 (ji8) 1) == 1) = true := beq_iff_eq.mpr c9
                  have c9b1 : ((Go.bits .and .i64 (ji8) 1) != 1) = false := bne_eq_false_iff_eq.mpr c9
                  clear c9
                  have H' := Aside0.mk H
                  clear H
                  go_wp2
                  go_roundg k2
                  case measure => have := HJ2.out; have := HK2.out; omega
                  case rel => exact ⟨(IntKind.u64.wrap (x0_2 + x6_2)), (IntKind.u64.wrap (x6_2 + x6_2)), (wrap64 (x7_2 + 1)), (by first | rfl | (simp; done) | (simp [*]; done)), (by first | rfl | (simp; done) | (simp [*]; done)), (by first | rfl | (simp; done) | (simp [*]; done)), H', ⟨by have := HJ2.out; have := HK2.out; omega⟩, by repeat (first | exact Drawn0.refl _ | apply Drawn0.step)⟩
                · rw [if_neg c9] at H
                  have c9b0 : ((Go.bits .and .i64 (ji8) 1) == 1) = false := beq_eq_false_iff_ne.mpr c9
                  have c9b1 : ((Go.bits .and .i64 (ji8) 1) != 1) = true := bne_iff_ne.mpr c9
                  have H' := Aside0.mk H
                  clear H
                  go_wp2
                  go_roundg k2
                  case measure => have := HJ2.out; have := HK2.out; omega
                  case rel => exact ⟨(x0_2), (IntKind.u64.wrap (x6_2 + x6_2)), (wrap64 (x7_2 + 1)), (by first | rfl | (simp; done) | (simp [*]; done)), (by first | rfl | (simp; done) | (simp [*]; done)), (by first | rfl | (simp; done) | (simp [*]; done)), H', ⟨by have := HJ2.out; have := HK2.out; omega⟩, by repeat (first | exact Drawn0.refl _ | apply Drawn0.step)⟩
              · rw [if_neg c7] at H
                exact absurd H (by simp)
            · rw [if_neg c6] at H
              have c6b0 : decide (x7_2 < 31) = false := decide_eq_false c6
              clear c6
              simp only [Option.some.injEq, Prod.mk.injEq] at H
              obtain ⟨rfl, rfl⟩ := H
              go_wp2
              go_ret2
              exact ⟨by first | rfl | (simp; done) | (simp [*]; done), by repeat (first | exact Drawn0.refl _ | apply Drawn0.step)⟩

/-! ### waybilllaw11_DrawTells: function 13 -/
def waybilllaw11_DrawTells.j0 : Nat → Int → Int → Bool → Option (Bool)
  | 0, _, _, _ => none
  | k + 1, x0, x3, x126 => if x126 = true then (some false) else ((draw_Chance.f x0 x3).bind fun bt180 => ((waybillref11_Chance.f k x0 x3).bind fun bt183 => ((draw_Skip.f x0 x3).bind fun bt186 => ((waybillref11_Skip.f k x0 x3).bind fun bt188 => (if bt180.1 = bt183.1 then (if (bt180.2.1 == bt183.2.1) = true then ((waybilllaw11_num.f bt180.2.2).bind fun t190 => (if t190 = bt183.2.2 then (if bt186.1 = bt188.1 then ((waybilllaw11_num.f bt186.2).bind fun t191 => (if t191 = bt188.2 then ((waybilllaw11_alive.f k).bind fun t192 => (some t192)) else (some false))) else (some false)) else (some false))) else (some false)) else (some false))))))
def waybilllaw11_DrawTells.f (k : Nat) (a0 : Int) (a1 : Int) (a2 : Int) (a3 : Int) : Option (Bool) := (draw_Next.f a0).bind fun bt149 => ((waybillref11_Next.f k a0).bind fun bt151 => ((draw_Below.f a0 (([a1, a2] : List Int))).bind fun bt156 => ((waybillref11_Below.f k a0 (([a1, a2] : List Int))).bind fun bt164 => ((draw_Two.f a0 a3).bind fun bt169 => ((waybillref11_Two.f k a0 a3).bind fun bt173 => (if bt149.1 = bt151.1 then (if bt149.2 = bt151.2 then (if bt156.1 = bt164.1 then ((waybillplain_SameInts.f k bt156.2.1 bt164.2.1).bind fun t177 => (if t177 = true then ((waybilllaw11_num.f bt156.2.2).bind fun t178 => (if t178 = bt164.2.2 then (if bt169.1 = bt173.1 then (if bt169.2.1 = bt173.2.1 then (if bt169.2.2.1 = bt173.2.2.1 then ((waybilllaw11_num.f bt169.2.2.2).bind fun t179 => (waybilllaw11_DrawTells.j0 k a0 a3 (t179 != bt173.2.2.2))) else (waybilllaw11_DrawTells.j0 k a0 a3 true)) else (waybilllaw11_DrawTells.j0 k a0 a3 true)) else (waybilllaw11_DrawTells.j0 k a0 a3 true)) else (waybilllaw11_DrawTells.j0 k a0 a3 true))) else (waybilllaw11_DrawTells.j0 k a0 a3 true))) else (waybilllaw11_DrawTells.j0 k a0 a3 true)) else (waybilllaw11_DrawTells.j0 k a0 a3 true)) else (waybilllaw11_DrawTells.j0 k a0 a3 true)))))))
theorem waybilllaw11_DrawTells.mono_l : ∀ k, (∀ y0 y1 y2, LeO (waybilllaw11_DrawTells.j0 k y0 y1 y2) (waybilllaw11_DrawTells.j0 (k + 1) y0 y1 y2))
  | 0 => fun _ _ _ r h => by simp [waybilllaw11_DrawTells.j0] at h
  | k + 1 => by
    have ih0 := waybilllaw11_DrawTells.mono_l k
    · intro y0 y1 y2
      unfold waybilllaw11_DrawTells.j0
      repeat' first
      | (with_reducible exact ih0 _ _ _)
      | (with_reducible exact waybilllaw11_alive.mono _)
      | (with_reducible exact waybillplain_SameInts.mono _ _ _)
      | (with_reducible exact waybillref11_Below.mono _ _ _)
      | (with_reducible exact waybillref11_Chance.mono _ _ _)
      | (with_reducible exact waybillref11_Next.mono _ _)
      | (with_reducible exact waybillref11_Skip.mono _ _ _)
      | (with_reducible exact waybillref11_Two.mono _ _ _)
      | (with_reducible exact LeO.refl _)
      | (with_reducible exact LeO.none _)
      | (with_reducible refine LeO.ite ?_ ?_)
      | (with_reducible refine LeO.bind ?_ (fun _ => ?_))
      | exact ih0 _ _ _
      | exact waybilllaw11_alive.mono _
      | exact waybillplain_SameInts.mono _ _ _
      | exact waybillref11_Below.mono _ _ _
      | exact waybillref11_Chance.mono _ _ _
      | exact waybillref11_Next.mono _ _
      | exact waybillref11_Skip.mono _ _ _
      | exact waybillref11_Two.mono _ _ _
      | exact LeO.none _
      | refine LeO.ite ?_ ?_
      | refine LeO.bind ?_ (fun _ => ?_)
theorem waybilllaw11_DrawTells.mono : ∀ a0 a1 a2 a3 k, LeO (waybilllaw11_DrawTells.f k a0 a1 a2 a3) (waybilllaw11_DrawTells.f (k + 1) a0 a1 a2 a3) := by
  intro a0 a1 a2 a3 k
  have ih0 := waybilllaw11_DrawTells.mono_l k
  unfold waybilllaw11_DrawTells.f
  repeat' first
      | (with_reducible exact ih0 _ _ _)
      | (with_reducible exact waybilllaw11_alive.mono _)
      | (with_reducible exact waybillplain_SameInts.mono _ _ _)
      | (with_reducible exact waybillref11_Below.mono _ _ _)
      | (with_reducible exact waybillref11_Chance.mono _ _ _)
      | (with_reducible exact waybillref11_Next.mono _ _)
      | (with_reducible exact waybillref11_Skip.mono _ _ _)
      | (with_reducible exact waybillref11_Two.mono _ _ _)
      | (with_reducible exact LeO.refl _)
      | (with_reducible exact LeO.none _)
      | (with_reducible refine LeO.ite ?_ ?_)
      | (with_reducible refine LeO.bind ?_ (fun _ => ?_))
      | exact ih0 _ _ _
      | exact waybilllaw11_alive.mono _
      | exact waybillplain_SameInts.mono _ _ _
      | exact waybillref11_Below.mono _ _ _
      | exact waybillref11_Chance.mono _ _ _
      | exact waybillref11_Next.mono _ _
      | exact waybillref11_Skip.mono _ _ _
      | exact waybillref11_Two.mono _ _ _
      | exact LeO.none _
      | refine LeO.ite ?_ ?_
      | refine LeO.bind ?_ (fun _ => ?_)
set_option maxHeartbeats 8000000 in
set_option maxRecDepth 100000 in
theorem waybilllaw11_DrawTells.calls (k : Nat) (a0 : Int) (a1 : Int) (a2 : Int) (a3 : Int) (r : Bool) (w : World) (h : waybilllaw11_DrawTells.f k a0 a1 a2 a3 = some r) :
    Calls Try.prog 13 #[.int .u64 a0, .int .i64 a1, .int .i64 a2, .int .i64 a3] w fun e w' => e = .returned (.bool r) ∧ Below w.heap.size w w' := by
  have HB := Aside0.mk (Below.refl w.heap.size w)
  have H : ((draw_Next.f a0).bind fun bt149 => ((waybillref11_Next.f k a0).bind fun bt151 => ((draw_Below.f a0 (([a1, a2] : List Int))).bind fun bt156 => ((waybillref11_Below.f k a0 (([a1, a2] : List Int))).bind fun bt164 => ((draw_Two.f a0 a3).bind fun bt169 => ((waybillref11_Two.f k a0 a3).bind fun bt173 => (if bt149.1 = bt151.1 then (if bt149.2 = bt151.2 then (if bt156.1 = bt164.1 then ((waybillplain_SameInts.f k bt156.2.1 bt164.2.1).bind fun t177 => (if t177 = true then ((waybilllaw11_num.f bt156.2.2).bind fun t178 => (if t178 = bt164.2.2 then (if bt169.1 = bt173.1 then (if bt169.2.1 = bt173.2.1 then (if bt169.2.2.1 = bt173.2.2.1 then ((waybilllaw11_num.f bt169.2.2.2).bind fun t179 => (waybilllaw11_DrawTells.j0 k a0 a3 (t179 != bt173.2.2.2))) else (waybilllaw11_DrawTells.j0 k a0 a3 true)) else (waybilllaw11_DrawTells.j0 k a0 a3 true)) else (waybilllaw11_DrawTells.j0 k a0 a3 true)) else (waybilllaw11_DrawTells.j0 k a0 a3 true))) else (waybilllaw11_DrawTells.j0 k a0 a3 true))) else (waybilllaw11_DrawTells.j0 k a0 a3 true)) else (waybilllaw11_DrawTells.j0 k a0 a3 true)) else (waybilllaw11_DrawTells.j0 k a0 a3 true)))))))) = some r := h
  clear h
  replace H := Option.bind_eq_some_iff.mp H
  obtain ⟨⟨t149, t150⟩, A50, H⟩ := H
  replace H : ((waybillref11_Next.f k a0).bind fun bt151 => ((draw_Below.f a0 (([a1, a2] : List Int))).bind fun bt156 => ((waybillref11_Below.f k a0 (([a1, a2] : List Int))).bind fun bt164 => ((draw_Two.f a0 a3).bind fun bt169 => ((waybillref11_Two.f k a0 a3).bind fun bt173 => (if t149 = bt151.1 then (if t150 = bt151.2 then (if bt156.1 = bt164.1 then ((waybillplain_SameInts.f k bt156.2.1 bt164.2.1).bind fun t177 => (if t177 = true then ((waybilllaw11_num.f bt156.2.2).bind fun t178 => (if t178 = bt164.2.2 then (if bt169.1 = bt173.1 then (if bt169.2.1 = bt173.2.1 then (if bt169.2.2.1 = bt173.2.2.1 then ((waybilllaw11_num.f bt169.2.2.2).bind fun t179 => (waybilllaw11_DrawTells.j0 k a0 a3 (t179 != bt173.2.2.2))) else (waybilllaw11_DrawTells.j0 k a0 a3 true)) else (waybilllaw11_DrawTells.j0 k a0 a3 true)) else (waybilllaw11_DrawTells.j0 k a0 a3 true)) else (waybilllaw11_DrawTells.j0 k a0 a3 true))) else (waybilllaw11_DrawTells.j0 k a0 a3 true))) else (waybilllaw11_DrawTells.j0 k a0 a3 true)) else (waybilllaw11_DrawTells.j0 k a0 a3 true)) else (waybilllaw11_DrawTells.j0 k a0 a3 true))))))) = some r := H
  have A5 := Aside0.mk A50
  clear A50
  replace H := Option.bind_eq_some_iff.mp H
  obtain ⟨⟨t151, t152⟩, A60, H⟩ := H
  replace H : ((draw_Below.f a0 (([a1, a2] : List Int))).bind fun bt156 => ((waybillref11_Below.f k a0 (([a1, a2] : List Int))).bind fun bt164 => ((draw_Two.f a0 a3).bind fun bt169 => ((waybillref11_Two.f k a0 a3).bind fun bt173 => (if t149 = t151 then (if t150 = t152 then (if bt156.1 = bt164.1 then ((waybillplain_SameInts.f k bt156.2.1 bt164.2.1).bind fun t177 => (if t177 = true then ((waybilllaw11_num.f bt156.2.2).bind fun t178 => (if t178 = bt164.2.2 then (if bt169.1 = bt173.1 then (if bt169.2.1 = bt173.2.1 then (if bt169.2.2.1 = bt173.2.2.1 then ((waybilllaw11_num.f bt169.2.2.2).bind fun t179 => (waybilllaw11_DrawTells.j0 k a0 a3 (t179 != bt173.2.2.2))) else (waybilllaw11_DrawTells.j0 k a0 a3 true)) else (waybilllaw11_DrawTells.j0 k a0 a3 true)) else (waybilllaw11_DrawTells.j0 k a0 a3 true)) else (waybilllaw11_DrawTells.j0 k a0 a3 true))) else (waybilllaw11_DrawTells.j0 k a0 a3 true))) else (waybilllaw11_DrawTells.j0 k a0 a3 true)) else (waybilllaw11_DrawTells.j0 k a0 a3 true)) else (waybilllaw11_DrawTells.j0 k a0 a3 true)))))) = some r := H
  have A6 := Aside0.mk A60
  clear A60
  obtain ⟨y153, hy153⟩ : ∃ y_ : List Int, y_ = (([a1, a2] : List Int)) := ⟨_, rfl⟩
  replace H : ((draw_Below.f a0 y153).bind fun bt156 => ((waybillref11_Below.f k a0 (([a1, a2] : List Int))).bind fun bt164 => ((draw_Two.f a0 a3).bind fun bt169 => ((waybillref11_Two.f k a0 a3).bind fun bt173 => (if t149 = t151 then (if t150 = t152 then (if bt156.1 = bt164.1 then ((waybillplain_SameInts.f k bt156.2.1 bt164.2.1).bind fun t177 => (if t177 = true then ((waybilllaw11_num.f bt156.2.2).bind fun t178 => (if t178 = bt164.2.2 then (if bt169.1 = bt173.1 then (if bt169.2.1 = bt173.2.1 then (if bt169.2.2.1 = bt173.2.2.1 then ((waybilllaw11_num.f bt169.2.2.2).bind fun t179 => (waybilllaw11_DrawTells.j0 k a0 a3 (t179 != bt173.2.2.2))) else (waybilllaw11_DrawTells.j0 k a0 a3 true)) else (waybilllaw11_DrawTells.j0 k a0 a3 true)) else (waybilllaw11_DrawTells.j0 k a0 a3 true)) else (waybilllaw11_DrawTells.j0 k a0 a3 true))) else (waybilllaw11_DrawTells.j0 k a0 a3 true))) else (waybilllaw11_DrawTells.j0 k a0 a3 true)) else (waybilllaw11_DrawTells.j0 k a0 a3 true)) else (waybilllaw11_DrawTells.j0 k a0 a3 true)))))) = some r := by first | (rw [hy153]; with_reducible exact H) | (have H2_ := (Option.bind_some _ _).symm.trans H; rw [hy153]; with_reducible exact H2_) | (have H2_ := (Option.bind_some _ _).symm.trans H; with_reducible exact H2_) | with_reducible exact H | (rw [hy153]; exact H) | exact H
  have Ny153 := Aside0.mk hy153
  clear hy153
  replace H := Option.bind_eq_some_iff.mp H
  obtain ⟨⟨t156, t157, t158⟩, A70, H⟩ := H
  replace H : ((waybillref11_Below.f k a0 (([a1, a2] : List Int))).bind fun bt164 => ((draw_Two.f a0 a3).bind fun bt169 => ((waybillref11_Two.f k a0 a3).bind fun bt173 => (if t149 = t151 then (if t150 = t152 then (if t156 = bt164.1 then ((waybillplain_SameInts.f k t157 bt164.2.1).bind fun t177 => (if t177 = true then ((waybilllaw11_num.f t158).bind fun t178 => (if t178 = bt164.2.2 then (if bt169.1 = bt173.1 then (if bt169.2.1 = bt173.2.1 then (if bt169.2.2.1 = bt173.2.2.1 then ((waybilllaw11_num.f bt169.2.2.2).bind fun t179 => (waybilllaw11_DrawTells.j0 k a0 a3 (t179 != bt173.2.2.2))) else (waybilllaw11_DrawTells.j0 k a0 a3 true)) else (waybilllaw11_DrawTells.j0 k a0 a3 true)) else (waybilllaw11_DrawTells.j0 k a0 a3 true)) else (waybilllaw11_DrawTells.j0 k a0 a3 true))) else (waybilllaw11_DrawTells.j0 k a0 a3 true))) else (waybilllaw11_DrawTells.j0 k a0 a3 true)) else (waybilllaw11_DrawTells.j0 k a0 a3 true)) else (waybilllaw11_DrawTells.j0 k a0 a3 true))))) = some r := H
  have A7 := Aside0.mk A70
  clear A70
  obtain ⟨y161, hy161⟩ : ∃ y_ : List Int, y_ = (([a1, a2] : List Int)) := ⟨_, rfl⟩
  replace H : ((waybillref11_Below.f k a0 y161).bind fun bt164 => ((draw_Two.f a0 a3).bind fun bt169 => ((waybillref11_Two.f k a0 a3).bind fun bt173 => (if t149 = t151 then (if t150 = t152 then (if t156 = bt164.1 then ((waybillplain_SameInts.f k t157 bt164.2.1).bind fun t177 => (if t177 = true then ((waybilllaw11_num.f t158).bind fun t178 => (if t178 = bt164.2.2 then (if bt169.1 = bt173.1 then (if bt169.2.1 = bt173.2.1 then (if bt169.2.2.1 = bt173.2.2.1 then ((waybilllaw11_num.f bt169.2.2.2).bind fun t179 => (waybilllaw11_DrawTells.j0 k a0 a3 (t179 != bt173.2.2.2))) else (waybilllaw11_DrawTells.j0 k a0 a3 true)) else (waybilllaw11_DrawTells.j0 k a0 a3 true)) else (waybilllaw11_DrawTells.j0 k a0 a3 true)) else (waybilllaw11_DrawTells.j0 k a0 a3 true))) else (waybilllaw11_DrawTells.j0 k a0 a3 true))) else (waybilllaw11_DrawTells.j0 k a0 a3 true)) else (waybilllaw11_DrawTells.j0 k a0 a3 true)) else (waybilllaw11_DrawTells.j0 k a0 a3 true))))) = some r := by first | (rw [hy161]; with_reducible exact H) | (have H2_ := (Option.bind_some _ _).symm.trans H; rw [hy161]; with_reducible exact H2_) | (have H2_ := (Option.bind_some _ _).symm.trans H; with_reducible exact H2_) | with_reducible exact H | (rw [hy161]; exact H) | exact H
  have Ny161 := Aside0.mk hy161
  clear hy161
  replace H := Option.bind_eq_some_iff.mp H
  obtain ⟨⟨t164, t165, t166⟩, A80, H⟩ := H
  replace H : ((draw_Two.f a0 a3).bind fun bt169 => ((waybillref11_Two.f k a0 a3).bind fun bt173 => (if t149 = t151 then (if t150 = t152 then (if t156 = t164 then ((waybillplain_SameInts.f k t157 t165).bind fun t177 => (if t177 = true then ((waybilllaw11_num.f t158).bind fun t178 => (if t178 = t166 then (if bt169.1 = bt173.1 then (if bt169.2.1 = bt173.2.1 then (if bt169.2.2.1 = bt173.2.2.1 then ((waybilllaw11_num.f bt169.2.2.2).bind fun t179 => (waybilllaw11_DrawTells.j0 k a0 a3 (t179 != bt173.2.2.2))) else (waybilllaw11_DrawTells.j0 k a0 a3 true)) else (waybilllaw11_DrawTells.j0 k a0 a3 true)) else (waybilllaw11_DrawTells.j0 k a0 a3 true)) else (waybilllaw11_DrawTells.j0 k a0 a3 true))) else (waybilllaw11_DrawTells.j0 k a0 a3 true))) else (waybilllaw11_DrawTells.j0 k a0 a3 true)) else (waybilllaw11_DrawTells.j0 k a0 a3 true)) else (waybilllaw11_DrawTells.j0 k a0 a3 true)))) = some r := H
  have A8 := Aside0.mk A80
  clear A80
  replace H := Option.bind_eq_some_iff.mp H
  obtain ⟨⟨t169, t170, t171, t172⟩, A90, H⟩ := H
  replace H : ((waybillref11_Two.f k a0 a3).bind fun bt173 => (if t149 = t151 then (if t150 = t152 then (if t156 = t164 then ((waybillplain_SameInts.f k t157 t165).bind fun t177 => (if t177 = true then ((waybilllaw11_num.f t158).bind fun t178 => (if t178 = t166 then (if t169 = bt173.1 then (if t170 = bt173.2.1 then (if t171 = bt173.2.2.1 then ((waybilllaw11_num.f t172).bind fun t179 => (waybilllaw11_DrawTells.j0 k a0 a3 (t179 != bt173.2.2.2))) else (waybilllaw11_DrawTells.j0 k a0 a3 true)) else (waybilllaw11_DrawTells.j0 k a0 a3 true)) else (waybilllaw11_DrawTells.j0 k a0 a3 true)) else (waybilllaw11_DrawTells.j0 k a0 a3 true))) else (waybilllaw11_DrawTells.j0 k a0 a3 true))) else (waybilllaw11_DrawTells.j0 k a0 a3 true)) else (waybilllaw11_DrawTells.j0 k a0 a3 true)) else (waybilllaw11_DrawTells.j0 k a0 a3 true))) = some r := H
  have A9 := Aside0.mk A90
  clear A90
  replace H := Option.bind_eq_some_iff.mp H
  obtain ⟨⟨t173, t174, t175, t176⟩, A100, H⟩ := H
  replace H : (if t149 = t151 then (if t150 = t152 then (if t156 = t164 then ((waybillplain_SameInts.f k t157 t165).bind fun t177 => (if t177 = true then ((waybilllaw11_num.f t158).bind fun t178 => (if t178 = t166 then (if t169 = t173 then (if t170 = t174 then (if t171 = t175 then ((waybilllaw11_num.f t172).bind fun t179 => (waybilllaw11_DrawTells.j0 k a0 a3 (t179 != t176))) else (waybilllaw11_DrawTells.j0 k a0 a3 true)) else (waybilllaw11_DrawTells.j0 k a0 a3 true)) else (waybilllaw11_DrawTells.j0 k a0 a3 true)) else (waybilllaw11_DrawTells.j0 k a0 a3 true))) else (waybilllaw11_DrawTells.j0 k a0 a3 true))) else (waybilllaw11_DrawTells.j0 k a0 a3 true)) else (waybilllaw11_DrawTells.j0 k a0 a3 true)) else (waybilllaw11_DrawTells.j0 k a0 a3 true)) = some r := H
  have A10 := Aside0.mk A100
  clear A100
  have HC11 := Aside0.mk H
  clear H
  go_enter Try.func13, Try.ntmps13
  go_upto_region 7 with (first | ((with_reducible refine gate_callee (f := 35) rfl ?_); refine goesL_ (some 39) rfl rfl Try.func35 (by kernel_rfl) rfl #[.int .u64 a0] rfl (by (try simp only [List.map_toArray, List.map_cons, List.map_nil]); first | done | rfl | (simp only [List.length_drop, List.length_take]; rfl)) ?_; (with_reducible refine (draw_Next.calls a0 t149 t150 _ A5.out).mono ?_); rintro e w' ⟨rfl, ⟨nd, rfl⟩⟩; refine ⟨_, rfl, ?_⟩) | ((with_reducible refine gate_callee (f := 36) rfl ?_); refine goesL_ (some 44) rfl rfl Try.func36 (by kernel_rfl) rfl #[.int .u64 a0] rfl (by (try simp only [List.map_toArray, List.map_cons, List.map_nil]); first | done | rfl | (simp only [List.length_drop, List.length_take]; rfl)) ?_; (with_reducible refine (waybillref11_Next.calls k a0 t151 t152 _ A6.out).mono ?_); rintro e w' ⟨rfl, ⟨nd, rfl⟩⟩; refine ⟨_, rfl, ?_⟩) | ((with_reducible refine gate_dst (N := 51) rfl ?_); refine Kd.R_lit (Kd.int .i64) _ 3 ?hg (N := 51) ?hd (xs := ([a1, a2] : List Int)) (inner := [.int .i64 a1, .int .i64 a2]) (ok := fun _ => True) (okp := fun _ => True) ?hr ?hp (fun _ hk => hk) trivial (Below.refl _ _) (Nat.le_refl _) (by simp) ?_; (case hd => rfl); (case hg => rfl); (case hr => first | (go_simp; done) | (go_simp; rfl)); (case hp => exact (Reps.one (show Kd.M (Kd.int .i64) _ _ _ a1 [.int .i64 a1] from rfl) (Reps.one (show Kd.M (Kd.int .i64) _ _ _ a2 [.int .i64 a2] from rfl) (Reps.none _ _)))); intro v154 w12 ho13 hb hg_ hnew_; clear hg_ hnew_; (first | rw [← Ny153.out] at ho13 | (simp only [Int.reduceToNat] at ho13; rw [← Ny153.out] at ho13)); have n0_ := Aside0.mk (Kd.R_lower ho13 (below_size (by repeat (first | (with_reducible first | exact HB.out | apply below_alloc | apply pw_below_drewN | apply below_drew1) | exact HB.out)))); have n1_ := Aside0.mk (below_step (by repeat (first | (with_reducible first | exact HB.out | apply below_alloc | apply pw_below_drewN | apply below_drew1) | exact HB.out)) hb); clear HB; have HO155 := n0_; have HB := n1_; clear n0_ n1_; clear hb ho13; obtain ⟨Ao14, co14, eo14⟩ := Kd.R_slice HO155.out; subst eo14) | ((with_reducible refine gate_callee (f := 31) rfl ?_); refine goesL_ (some 52) rfl rfl Try.func31 (by kernel_rfl) rfl #[.int .u64 a0, .slice Ao14 y153.length co14] rfl (by (try simp only [List.map_toArray, List.map_cons, List.map_nil]); first | done | rfl | (simp only [List.length_drop, List.length_take]; rfl)) ?_; (with_reducible refine (draw_Below.calls a0 _ _ y153 t156 t157 t158 _ ?side1 ?side2 A7.out).mono ?_); (case side1 => repeat (first | exact (Kd.R_reads' HO155.out).2.2 | (with_reducible refine Kd.C_alloc ?_ _) | (with_reducible refine Kd.C_drewN ?_ _) | (with_reducible refine Kd.C_drew ?_))); (case side2 => exact (Kd.R_reads' HO155.out).2.1); rintro e w15 ⟨v159, rfl, ho0, hb⟩; refine ⟨_, rfl, ?_⟩; have n0_ := Aside0.mk (Kd.R_elder' (by (with_reducible repeat (first | apply Kd.R_alloc | apply Kd.R_drewN | apply Kd.R_drew)); exact HO155.out) (Kd.R_base ho0) hb); have n1_ := Aside0.mk (Kd.R_lower (Kd.R_new' ho0 (Kd.R_lt (by (with_reducible repeat (first | apply Kd.R_alloc | apply Kd.R_drewN | apply Kd.R_drew)); exact HO155.out))) (below_size (by repeat (first | (with_reducible first | exact HB.out | apply below_alloc | apply pw_below_drewN | apply below_drew1) | exact HB.out)))); have n2_ := Aside0.mk (below_step (by repeat (first | (with_reducible first | exact HB.out | apply below_alloc | apply pw_below_drewN | apply below_drew1) | exact HB.out)) hb); clear HO155; clear HB; have HO155 := n0_; have HO160 := n1_; have HB := n2_; clear n0_ n1_ n2_; (try clear hb); (try clear hb2); (try clear hk); (try clear hi); (try clear ho0)) | ((with_reducible refine gate_dst (N := 60) rfl ?_); refine Kd.R_lit (Kd.int .i64) _ 3 ?hg (N := 60) ?hd (xs := ([a1, a2] : List Int)) (inner := [.int .i64 a1, .int .i64 a2]) (ok := fun _ => True) (okp := fun _ => True) ?hr ?hp (fun _ hk => hk) trivial (Below.refl _ _) (Nat.le_refl _) (by simp) ?_; (case hd => rfl); (case hg => rfl); (case hr => first | (go_simp; done) | (go_simp; rfl)); (case hp => exact (Reps.one (show Kd.M (Kd.int .i64) _ _ _ a1 [.int .i64 a1] from rfl) (Reps.one (show Kd.M (Kd.int .i64) _ _ _ a2 [.int .i64 a2] from rfl) (Reps.none _ _)))); intro v162 w16 ho17 hb hg_ hnew_; clear hg_ hnew_; (first | rw [← Ny161.out] at ho17 | (simp only [Int.reduceToNat] at ho17; rw [← Ny161.out] at ho17)); have n0_ := Aside0.mk (Kd.R_elder' (by (with_reducible repeat (first | apply Kd.R_alloc | apply Kd.R_drewN | apply Kd.R_drew)); exact HO155.out) (Kd.R_base ho17) hb); have n1_ := Aside0.mk (Kd.R_elder' (by (with_reducible repeat (first | apply Kd.R_alloc | apply Kd.R_drewN | apply Kd.R_drew)); exact HO160.out) (Kd.R_base ho17) hb); have n2_ := Aside0.mk (Kd.R_lower (Kd.R_new' (Kd.R_new' ho17 (Kd.R_lt (by (with_reducible repeat (first | apply Kd.R_alloc | apply Kd.R_drewN | apply Kd.R_drew)); exact HO155.out))) (Kd.R_lt (by (with_reducible repeat (first | apply Kd.R_alloc | apply Kd.R_drewN | apply Kd.R_drew)); exact HO160.out))) (below_size (by repeat (first | (with_reducible first | exact HB.out | apply below_alloc | apply pw_below_drewN | apply below_drew1) | exact HB.out)))); have n3_ := Aside0.mk (below_step (by repeat (first | (with_reducible first | exact HB.out | apply below_alloc | apply pw_below_drewN | apply below_drew1) | exact HB.out)) hb); clear HO155; clear HO160; clear HB; have HO155 := n0_; have HO160 := n1_; have HO163 := n2_; have HB := n3_; clear n0_ n1_ n2_ n3_; clear hb ho17; obtain ⟨Ao18, co18, eo18⟩ := Kd.R_slice HO163.out; subst eo18) | ((with_reducible refine gate_callee (f := 37) rfl ?_); refine goesL_ (some 61) rfl rfl Try.func37 (by kernel_rfl) rfl #[.int .u64 a0, .slice Ao18 y161.length co18] rfl (by (try simp only [List.map_toArray, List.map_cons, List.map_nil]); first | done | rfl | (simp only [List.length_drop, List.length_take]; rfl)) ?_; (with_reducible refine (waybillref11_Below.calls k a0 _ _ y161 t164 t165 t166 _ ?side1 ?side2 A8.out).mono ?_); (case side1 => repeat (first | exact (Kd.R_reads' HO163.out).2.2 | (with_reducible refine Kd.C_alloc ?_ _) | (with_reducible refine Kd.C_drewN ?_ _) | (with_reducible refine Kd.C_drew ?_))); (case side2 => exact (Kd.R_reads' HO163.out).2.1); rintro e w19 ⟨v167, rfl, ho0, hb⟩; refine ⟨_, rfl, ?_⟩; have n0_ := Aside0.mk (Kd.R_elder' (by (with_reducible repeat (first | apply Kd.R_alloc | apply Kd.R_drewN | apply Kd.R_drew)); exact HO155.out) (Kd.R_base ho0) hb); have n1_ := Aside0.mk (Kd.R_elder' (by (with_reducible repeat (first | apply Kd.R_alloc | apply Kd.R_drewN | apply Kd.R_drew)); exact HO160.out) (Kd.R_base ho0) hb); have n2_ := Aside0.mk (Kd.R_elder' (by (with_reducible repeat (first | apply Kd.R_alloc | apply Kd.R_drewN | apply Kd.R_drew)); exact HO163.out) (Kd.R_base ho0) hb); have n3_ := Aside0.mk (Kd.R_lower (Kd.R_new' (Kd.R_new' (Kd.R_new' ho0 (Kd.R_lt (by (with_reducible repeat (first | apply Kd.R_alloc | apply Kd.R_drewN | apply Kd.R_drew)); exact HO155.out))) (Kd.R_lt (by (with_reducible repeat (first | apply Kd.R_alloc | apply Kd.R_drewN | apply Kd.R_drew)); exact HO160.out))) (Kd.R_lt (by (with_reducible repeat (first | apply Kd.R_alloc | apply Kd.R_drewN | apply Kd.R_drew)); exact HO163.out))) (below_size (by repeat (first | (with_reducible first | exact HB.out | apply below_alloc | apply pw_below_drewN | apply below_drew1) | exact HB.out)))); have n4_ := Aside0.mk (below_step (by repeat (first | (with_reducible first | exact HB.out | apply below_alloc | apply pw_below_drewN | apply below_drew1) | exact HB.out)) hb); clear HO155; clear HO160; clear HO163; clear HB; have HO155 := n0_; have HO160 := n1_; have HO163 := n2_; have HO168 := n3_; have HB := n4_; clear n0_ n1_ n2_ n3_ n4_; (try clear hb); (try clear hb2); (try clear hk); (try clear hi); (try clear ho0)) | ((with_reducible refine gate_callee (f := 34) rfl ?_); refine goesL_ (some 68) rfl rfl Try.func34 (by kernel_rfl) rfl #[.int .u64 a0, .int .i64 a3] rfl (by (try simp only [List.map_toArray, List.map_cons, List.map_nil]); first | done | rfl | (simp only [List.length_drop, List.length_take]; rfl)) ?_; (with_reducible refine (draw_Two.calls a0 a3 t169 t170 t171 t172 _ A9.out).mono ?_); rintro e w20 ⟨rfl, hb⟩; refine ⟨_, rfl, ?_⟩; have n0_ := Aside0.mk (Kd.R_below (by (with_reducible repeat (first | apply Kd.R_alloc | apply Kd.R_drewN | apply Kd.R_drew)); exact HO155.out) hb); have n1_ := Aside0.mk (Kd.R_below (by (with_reducible repeat (first | apply Kd.R_alloc | apply Kd.R_drewN | apply Kd.R_drew)); exact HO160.out) hb); have n2_ := Aside0.mk (Kd.R_below (by (with_reducible repeat (first | apply Kd.R_alloc | apply Kd.R_drewN | apply Kd.R_drew)); exact HO163.out) hb); have n3_ := Aside0.mk (Kd.R_below (by (with_reducible repeat (first | apply Kd.R_alloc | apply Kd.R_drewN | apply Kd.R_drew)); exact HO168.out) hb); have n4_ := Aside0.mk (below_step (by repeat (first | (with_reducible first | exact HB.out | apply below_alloc | apply pw_below_drewN | apply below_drew1) | exact HB.out)) hb); clear HO155; clear HO160; clear HO163; clear HO168; clear HB; have HO155 := n0_; have HO160 := n1_; have HO163 := n2_; have HO168 := n3_; have HB := n4_; clear n0_ n1_ n2_ n3_ n4_; (try clear hb); (try clear hb2); (try clear hk); (try clear hi)) | ((with_reducible refine gate_callee (f := 38) rfl ?_); refine goesL_ (some 76) rfl rfl Try.func38 (by kernel_rfl) rfl #[.int .u64 a0, .int .i64 a3] rfl (by (try simp only [List.map_toArray, List.map_cons, List.map_nil]); first | done | rfl | (simp only [List.length_drop, List.length_take]; rfl)) ?_; (with_reducible refine (waybillref11_Two.calls k a0 a3 t173 t174 t175 t176 _ A10.out).mono ?_); rintro e w' ⟨rfl, ⟨nd, rfl⟩⟩; refine ⟨_, rfl, ?_⟩))
  (try simp only [Act.put, List.setIfInBounds_toArray, List.set_cons_zero, List.set_cons_succ])
  go_cut [126] (fun v126 wc => ∃ (kq : Nat) (x126_10 : Bool), v126 = .bool x126_10 ∧ Aside0 (waybilllaw11_DrawTells.j0 kq a0 a3 x126_10 = some r) ∧ Aside0 (kq ≤ k) ∧ Aside0 (Below w.heap.size w wc))
  case first =>
    have H := HC11.out
    clear HC11
    by_cases c21 : t149 = t151
    · rw [if_pos c21] at H
      have c21b0 : (t149 == t151) = true := beq_iff_eq.mpr c21
      have c21b1 : (t149 != t151) = false := bne_eq_false_iff_eq.mpr c21
      clear c21
      (first | rw [c21b0] | (simp only [i64_w, i32_w]; rw [c21b0]) | skip)
      by_cases c22 : t150 = t152
      · rw [if_pos c22] at H
        have c22b0 : (t150 == t152) = true := beq_iff_eq.mpr c22
        have c22b1 : (t150 != t152) = false := bne_eq_false_iff_eq.mpr c22
        clear c22
        by_cases c23 : t156 = t164
        · rw [if_pos c23] at H
          have c23b0 : (t156 == t164) = true := beq_iff_eq.mpr c23
          have c23b1 : (t156 != t164) = false := bne_eq_false_iff_eq.mpr c23
          clear c23
          replace H := Option.bind_eq_some_iff.mp H
          obtain ⟨t177, A240, H⟩ := H
          replace H : (if t177 = true then ((waybilllaw11_num.f t158).bind fun t178 => (if t178 = t166 then (if t169 = t173 then (if t170 = t174 then (if t171 = t175 then ((waybilllaw11_num.f t172).bind fun t179 => (waybilllaw11_DrawTells.j0 k a0 a3 (t179 != t176))) else (waybilllaw11_DrawTells.j0 k a0 a3 true)) else (waybilllaw11_DrawTells.j0 k a0 a3 true)) else (waybilllaw11_DrawTells.j0 k a0 a3 true)) else (waybilllaw11_DrawTells.j0 k a0 a3 true))) else (waybilllaw11_DrawTells.j0 k a0 a3 true)) = some r := H
          have A24 := Aside0.mk A240
          clear A240
          by_cases c25 : t177 = true
          · subst c25
            have H1 : ((waybilllaw11_num.f t158).bind fun t178 => (if t178 = t166 then (if t169 = t173 then (if t170 = t174 then (if t171 = t175 then ((waybilllaw11_num.f t172).bind fun t179 => (waybilllaw11_DrawTells.j0 k a0 a3 (t179 != t176))) else (waybilllaw11_DrawTells.j0 k a0 a3 true)) else (waybilllaw11_DrawTells.j0 k a0 a3 true)) else (waybilllaw11_DrawTells.j0 k a0 a3 true)) else (waybilllaw11_DrawTells.j0 k a0 a3 true))) = some r := by rw [if_pos rfl] at H; exact H
            clear H
            have H := H1
            clear H1
            replace H := Option.bind_eq_some_iff.mp H
            obtain ⟨t178, A260, H⟩ := H
            replace H : (if t178 = t166 then (if t169 = t173 then (if t170 = t174 then (if t171 = t175 then ((waybilllaw11_num.f t172).bind fun t179 => (waybilllaw11_DrawTells.j0 k a0 a3 (t179 != t176))) else (waybilllaw11_DrawTells.j0 k a0 a3 true)) else (waybilllaw11_DrawTells.j0 k a0 a3 true)) else (waybilllaw11_DrawTells.j0 k a0 a3 true)) else (waybilllaw11_DrawTells.j0 k a0 a3 true)) = some r := H
            have A26 := Aside0.mk A260
            clear A260
            by_cases c27 : t178 = t166
            · rw [if_pos c27] at H
              have c27b0 : (t178 == t166) = true := beq_iff_eq.mpr c27
              have c27b1 : (t178 != t166) = false := bne_eq_false_iff_eq.mpr c27
              clear c27
              by_cases c28 : t169 = t173
              · rw [if_pos c28] at H
                have c28b0 : (t169 == t173) = true := beq_iff_eq.mpr c28
                have c28b1 : (t169 != t173) = false := bne_eq_false_iff_eq.mpr c28
                clear c28
                by_cases c29 : t170 = t174
                · rw [if_pos c29] at H
                  have c29b0 : (t170 == t174) = true := beq_iff_eq.mpr c29
                  have c29b1 : (t170 != t174) = false := bne_eq_false_iff_eq.mpr c29
                  clear c29
                  by_cases c30 : t171 = t175
                  · rw [if_pos c30] at H
                    have c30b0 : (t171 == t175) = true := beq_iff_eq.mpr c30
                    have c30b1 : (t171 != t175) = false := bne_eq_false_iff_eq.mpr c30
                    clear c30
                    replace H := Option.bind_eq_some_iff.mp H
                    obtain ⟨t179, A310, H⟩ := H
                    replace H : (waybilllaw11_DrawTells.j0 k a0 a3 (t179 != t176)) = some r := H
                    have A31 := Aside0.mk A310
                    clear A310
                    have H' := Aside0.mk H
                    clear H
                    obtain ⟨Ao32, co32, eo32⟩ := Kd.R_slice HO160.out
                    subst eo32
                    obtain ⟨Ao33, co33, eo33⟩ := Kd.R_slice HO168.out
                    subst eo33
                    go_wp2_with (first | (go_at_call 28; (with_reducible refine (waybillplain_SameInts.calls k _ _ t157 _ _ t165 true _ ?side1 ?side2 ?side3 ?side4 A24.out).mono ?_); (case side1 => repeat (first | exact (Kd.R_reads' HO160.out).2.2 | (with_reducible refine Kd.C_alloc ?_ _) | (with_reducible refine Kd.C_drewN ?_ _) | (with_reducible refine Kd.C_drew ?_))); (case side2 => exact (Kd.R_reads' HO160.out).2.1); (case side3 => repeat (first | exact (Kd.R_reads' HO168.out).2.2 | (with_reducible refine Kd.C_alloc ?_ _) | (with_reducible refine Kd.C_drewN ?_ _) | (with_reducible refine Kd.C_drew ?_))); (case side4 => exact (Kd.R_reads' HO168.out).2.1); rintro e w' ⟨rfl, ⟨nd, rfl⟩⟩) | (go_at_call 29; (with_reducible refine (waybilllaw11_num.calls t158 t178 _ A26.out).mono ?_); rintro e w' ⟨rfl, ⟨nd, rfl⟩⟩) | (go_at_call 29; (with_reducible refine (waybilllaw11_num.calls t172 t179 _ A31.out).mono ?_); rintro e w' ⟨rfl, ⟨nd, rfl⟩⟩))
                    go_meet
                    case rel => exact ⟨_, ((t179 != t176)), (by first | rfl | (simp; done) | (simp [*]; done)), H', ⟨by first | omega | exact Nat.le_refl _⟩, ⟨by repeat (first | (with_reducible first | exact HB.out | apply below_alloc | apply pw_below_drewN | apply below_drew1) | exact HB.out)⟩⟩
                  · rw [if_neg c30] at H
                    have c30b0 : (t171 == t175) = false := beq_eq_false_iff_ne.mpr c30
                    have c30b1 : (t171 != t175) = true := bne_iff_ne.mpr c30
                    have H' := Aside0.mk H
                    clear H
                    obtain ⟨Ao34, co34, eo34⟩ := Kd.R_slice HO160.out
                    subst eo34
                    obtain ⟨Ao35, co35, eo35⟩ := Kd.R_slice HO168.out
                    subst eo35
                    go_wp2_with (first | (go_at_call 28; (with_reducible refine (waybillplain_SameInts.calls k _ _ t157 _ _ t165 true _ ?side1 ?side2 ?side3 ?side4 A24.out).mono ?_); (case side1 => repeat (first | exact (Kd.R_reads' HO160.out).2.2 | (with_reducible refine Kd.C_alloc ?_ _) | (with_reducible refine Kd.C_drewN ?_ _) | (with_reducible refine Kd.C_drew ?_))); (case side2 => exact (Kd.R_reads' HO160.out).2.1); (case side3 => repeat (first | exact (Kd.R_reads' HO168.out).2.2 | (with_reducible refine Kd.C_alloc ?_ _) | (with_reducible refine Kd.C_drewN ?_ _) | (with_reducible refine Kd.C_drew ?_))); (case side4 => exact (Kd.R_reads' HO168.out).2.1); rintro e w' ⟨rfl, ⟨nd, rfl⟩⟩) | (go_at_call 29; (with_reducible refine (waybilllaw11_num.calls t158 t178 _ A26.out).mono ?_); rintro e w' ⟨rfl, ⟨nd, rfl⟩⟩))
                    go_meet
                    case rel => exact ⟨_, (true), (by first | rfl | (simp; done) | (simp [*]; done)), H', ⟨by first | omega | exact Nat.le_refl _⟩, ⟨by repeat (first | (with_reducible first | exact HB.out | apply below_alloc | apply pw_below_drewN | apply below_drew1) | exact HB.out)⟩⟩
                · rw [if_neg c29] at H
                  have c29b0 : (t170 == t174) = false := beq_eq_false_iff_ne.mpr c29
                  have c29b1 : (t170 != t174) = true := bne_iff_ne.mpr c29
                  have H' := Aside0.mk H
                  clear H
                  obtain ⟨Ao36, co36, eo36⟩ := Kd.R_slice HO160.out
                  subst eo36
                  obtain ⟨Ao37, co37, eo37⟩ := Kd.R_slice HO168.out
                  subst eo37
                  go_wp2_with (first | (go_at_call 28; (with_reducible refine (waybillplain_SameInts.calls k _ _ t157 _ _ t165 true _ ?side1 ?side2 ?side3 ?side4 A24.out).mono ?_); (case side1 => repeat (first | exact (Kd.R_reads' HO160.out).2.2 | (with_reducible refine Kd.C_alloc ?_ _) | (with_reducible refine Kd.C_drewN ?_ _) | (with_reducible refine Kd.C_drew ?_))); (case side2 => exact (Kd.R_reads' HO160.out).2.1); (case side3 => repeat (first | exact (Kd.R_reads' HO168.out).2.2 | (with_reducible refine Kd.C_alloc ?_ _) | (with_reducible refine Kd.C_drewN ?_ _) | (with_reducible refine Kd.C_drew ?_))); (case side4 => exact (Kd.R_reads' HO168.out).2.1); rintro e w' ⟨rfl, ⟨nd, rfl⟩⟩) | (go_at_call 29; (with_reducible refine (waybilllaw11_num.calls t158 t178 _ A26.out).mono ?_); rintro e w' ⟨rfl, ⟨nd, rfl⟩⟩))
                  go_meet
                  case rel => exact ⟨_, (true), (by first | rfl | (simp; done) | (simp [*]; done)), H', ⟨by first | omega | exact Nat.le_refl _⟩, ⟨by repeat (first | (with_reducible first | exact HB.out | apply below_alloc | apply pw_below_drewN | apply below_drew1) | exact HB.out)⟩⟩
              · rw [if_neg c28] at H
                have c28b0 : (t169 == t173) = false := beq_eq_false_iff_ne.mpr c28
                have c28b1 : (t169 != t173) = true := bne_iff_ne.mpr c28
                have H' := Aside0.mk H
                clear H
                obtain ⟨Ao38, co38, eo38⟩ := Kd.R_slice HO160.out
                subst eo38
                obtain ⟨Ao39, co39, eo39⟩ := Kd.R_slice HO168.out
                subst eo39
                go_wp2_with (first | (go_at_call 28; (with_reducible refine (waybillplain_SameInts.calls k _ _ t157 _ _ t165 true _ ?side1 ?side2 ?side3 ?side4 A24.out).mono ?_); (case side1 => repeat (first | exact (Kd.R_reads' HO160.out).2.2 | (with_reducible refine Kd.C_alloc ?_ _) | (with_reducible refine Kd.C_drewN ?_ _) | (with_reducible refine Kd.C_drew ?_))); (case side2 => exact (Kd.R_reads' HO160.out).2.1); (case side3 => repeat (first | exact (Kd.R_reads' HO168.out).2.2 | (with_reducible refine Kd.C_alloc ?_ _) | (with_reducible refine Kd.C_drewN ?_ _) | (with_reducible refine Kd.C_drew ?_))); (case side4 => exact (Kd.R_reads' HO168.out).2.1); rintro e w' ⟨rfl, ⟨nd, rfl⟩⟩) | (go_at_call 29; (with_reducible refine (waybilllaw11_num.calls t158 t178 _ A26.out).mono ?_); rintro e w' ⟨rfl, ⟨nd, rfl⟩⟩))
                go_meet
                case rel => exact ⟨_, (true), (by first | rfl | (simp; done) | (simp [*]; done)), H', ⟨by first | omega | exact Nat.le_refl _⟩, ⟨by repeat (first | (with_reducible first | exact HB.out | apply below_alloc | apply pw_below_drewN | apply below_drew1) | exact HB.out)⟩⟩
            · rw [if_neg c27] at H
              have c27b0 : (t178 == t166) = false := beq_eq_false_iff_ne.mpr c27
              have c27b1 : (t178 != t166) = true := bne_iff_ne.mpr c27
              have H' := Aside0.mk H
              clear H
              obtain ⟨Ao40, co40, eo40⟩ := Kd.R_slice HO160.out
              subst eo40
              obtain ⟨Ao41, co41, eo41⟩ := Kd.R_slice HO168.out
              subst eo41
              go_wp2_with (first | (go_at_call 28; (with_reducible refine (waybillplain_SameInts.calls k _ _ t157 _ _ t165 true _ ?side1 ?side2 ?side3 ?side4 A24.out).mono ?_); (case side1 => repeat (first | exact (Kd.R_reads' HO160.out).2.2 | (with_reducible refine Kd.C_alloc ?_ _) | (with_reducible refine Kd.C_drewN ?_ _) | (with_reducible refine Kd.C_drew ?_))); (case side2 => exact (Kd.R_reads' HO160.out).2.1); (case side3 => repeat (first | exact (Kd.R_reads' HO168.out).2.2 | (with_reducible refine Kd.C_alloc ?_ _) | (with_reducible refine Kd.C_drewN ?_ _) | (with_reducible refine Kd.C_drew ?_))); (case side4 => exact (Kd.R_reads' HO168.out).2.1); rintro e w' ⟨rfl, ⟨nd, rfl⟩⟩) | (go_at_call 29; (with_reducible refine (waybilllaw11_num.calls t158 t178 _ A26.out).mono ?_); rintro e w' ⟨rfl, ⟨nd, rfl⟩⟩))
              go_meet
              case rel => exact ⟨_, (true), (by first | rfl | (simp; done) | (simp [*]; done)), H', ⟨by first | omega | exact Nat.le_refl _⟩, ⟨by repeat (first | (with_reducible first | exact HB.out | apply below_alloc | apply pw_below_drewN | apply below_drew1) | exact HB.out)⟩⟩
          · replace c25 := Bool.eq_false_iff.mpr c25
            subst c25
            have H1 : (waybilllaw11_DrawTells.j0 k a0 a3 true) = some r := by rw [if_neg (show ¬ (false = true) by decide)] at H; exact H
            clear H
            have H := H1
            clear H1
            have H' := Aside0.mk H
            clear H
            obtain ⟨Ao42, co42, eo42⟩ := Kd.R_slice HO160.out
            subst eo42
            obtain ⟨Ao43, co43, eo43⟩ := Kd.R_slice HO168.out
            subst eo43
            go_wp2_with (first | (go_at_call 28; (with_reducible refine (waybillplain_SameInts.calls k _ _ t157 _ _ t165 false _ ?side1 ?side2 ?side3 ?side4 A24.out).mono ?_); (case side1 => repeat (first | exact (Kd.R_reads' HO160.out).2.2 | (with_reducible refine Kd.C_alloc ?_ _) | (with_reducible refine Kd.C_drewN ?_ _) | (with_reducible refine Kd.C_drew ?_))); (case side2 => exact (Kd.R_reads' HO160.out).2.1); (case side3 => repeat (first | exact (Kd.R_reads' HO168.out).2.2 | (with_reducible refine Kd.C_alloc ?_ _) | (with_reducible refine Kd.C_drewN ?_ _) | (with_reducible refine Kd.C_drew ?_))); (case side4 => exact (Kd.R_reads' HO168.out).2.1); rintro e w' ⟨rfl, ⟨nd, rfl⟩⟩))
            go_meet
            case rel => exact ⟨_, (true), (by first | rfl | (simp; done) | (simp [*]; done)), H', ⟨by first | omega | exact Nat.le_refl _⟩, ⟨by repeat (first | (with_reducible first | exact HB.out | apply below_alloc | apply pw_below_drewN | apply below_drew1) | exact HB.out)⟩⟩
        · rw [if_neg c23] at H
          have c23b0 : (t156 == t164) = false := beq_eq_false_iff_ne.mpr c23
          have c23b1 : (t156 != t164) = true := bne_iff_ne.mpr c23
          have H' := Aside0.mk H
          clear H
          go_wp2
          go_meet
          case rel => exact ⟨_, (true), (by first | rfl | (simp; done) | (simp [*]; done)), H', ⟨by first | omega | exact Nat.le_refl _⟩, ⟨by repeat (first | (with_reducible first | exact HB.out | apply below_alloc | apply pw_below_drewN | apply below_drew1) | exact HB.out)⟩⟩
      · rw [if_neg c22] at H
        have c22b0 : (t150 == t152) = false := beq_eq_false_iff_ne.mpr c22
        have c22b1 : (t150 != t152) = true := bne_iff_ne.mpr c22
        have H' := Aside0.mk H
        clear H
        go_wp2
        go_meet
        case rel => exact ⟨_, (true), (by first | rfl | (simp; done) | (simp [*]; done)), H', ⟨by first | omega | exact Nat.le_refl _⟩, ⟨by repeat (first | (with_reducible first | exact HB.out | apply below_alloc | apply pw_below_drewN | apply below_drew1) | exact HB.out)⟩⟩
    · rw [if_neg c21] at H
      have c21b0 : (t149 == t151) = false := beq_eq_false_iff_ne.mpr c21
      have c21b1 : (t149 != t151) = true := bne_iff_ne.mpr c21
      (first | rw [c21b0] | (simp only [i64_w, i32_w]; rw [c21b0]) | skip)
      have H' := Aside0.mk H
      clear H
      go_wp2
      go_meet
      case rel => exact ⟨_, (true), (by first | rfl | (simp; done) | (simp [*]; done)), H', ⟨by first | omega | exact Nat.le_refl _⟩, ⟨by repeat (first | (with_reducible first | exact HB.out | apply below_alloc | apply pw_below_drewN | apply below_drew1) | exact HB.out)⟩⟩
  case rest =>
    clear HC11
    try clear c1
    try clear c2
    try clear p2
    try clear c3
    try clear c13
    try clear c21
    try clear c21b0
    try clear c21b1
    try clear c22
    try clear c22b0
    try clear c22b1
    try clear c23
    try clear c23b0
    try clear c23b1
    try clear c25
    try clear c27
    try clear c27b0
    try clear c27b1
    try clear c28
    try clear c28b0
    try clear c28b1
    try clear c29
    try clear c29b0
    try clear c29b1
    try clear c30
    try clear c30b0
    try clear c30b1
    try clear c31
    try clear c34
    try clear c35
    try clear c36
    try clear c37
    try clear c38
    obtain ⟨kq, x126_10, rfl, HA, HJ10, HB⟩ := hcut
    cases kq with
    | zero => exact absurd HA.out (by simp [waybilllaw11_DrawTells.j0])
    | succ kj10 =>
      have H := HA.out
      clear HA
      simp only [waybilllaw11_DrawTells.j0] at H
      by_cases c44 : x126_10 = true
      · subst c44
        have H1 : (some false) = some r := by rw [if_pos rfl] at H; exact H
        clear H
        have H := H1
        clear H1
        obtain rfl := Option.some.inj H
        go_wp2
        go_ret
        exact ⟨by first | rfl | (simp [errW_none, errW_some] <;> rfl) | (simp [*, errW_none, errW_some] <;> rfl), by repeat (first | (with_reducible first | exact HB.out | apply below_alloc | apply pw_below_drewN | apply below_drew1) | exact HB.out)⟩
      · replace c44 := Bool.eq_false_iff.mpr c44
        subst c44
        have H1 : ((draw_Chance.f a0 a3).bind fun bt180 => ((waybillref11_Chance.f kj10 a0 a3).bind fun bt183 => ((draw_Skip.f a0 a3).bind fun bt186 => ((waybillref11_Skip.f kj10 a0 a3).bind fun bt188 => (if bt180.1 = bt183.1 then (if (bt180.2.1 == bt183.2.1) = true then ((waybilllaw11_num.f bt180.2.2).bind fun t190 => (if t190 = bt183.2.2 then (if bt186.1 = bt188.1 then ((waybilllaw11_num.f bt186.2).bind fun t191 => (if t191 = bt188.2 then ((waybilllaw11_alive.f kj10).bind fun t192 => (some t192)) else (some false))) else (some false)) else (some false))) else (some false)) else (some false)))))) = some r := by rw [if_neg (show ¬ (false = true) by decide)] at H; exact H
        clear H
        have H := H1
        clear H1
        replace H := Option.bind_eq_some_iff.mp H
        obtain ⟨⟨t180, t181, t182⟩, A450, H⟩ := H
        replace H : ((waybillref11_Chance.f kj10 a0 a3).bind fun bt183 => ((draw_Skip.f a0 a3).bind fun bt186 => ((waybillref11_Skip.f kj10 a0 a3).bind fun bt188 => (if t180 = bt183.1 then (if (t181 == bt183.2.1) = true then ((waybilllaw11_num.f t182).bind fun t190 => (if t190 = bt183.2.2 then (if bt186.1 = bt188.1 then ((waybilllaw11_num.f bt186.2).bind fun t191 => (if t191 = bt188.2 then ((waybilllaw11_alive.f kj10).bind fun t192 => (some t192)) else (some false))) else (some false)) else (some false))) else (some false)) else (some false))))) = some r := H
        have A45 := Aside0.mk A450
        clear A450
        replace H := Option.bind_eq_some_iff.mp H
        obtain ⟨⟨t183, t184, t185⟩, A460, H⟩ := H
        replace H : ((draw_Skip.f a0 a3).bind fun bt186 => ((waybillref11_Skip.f kj10 a0 a3).bind fun bt188 => (if t180 = t183 then (if (t181 == t184) = true then ((waybilllaw11_num.f t182).bind fun t190 => (if t190 = t185 then (if bt186.1 = bt188.1 then ((waybilllaw11_num.f bt186.2).bind fun t191 => (if t191 = bt188.2 then ((waybilllaw11_alive.f kj10).bind fun t192 => (some t192)) else (some false))) else (some false)) else (some false))) else (some false)) else (some false)))) = some r := H
        have A46 := Aside0.mk A460
        clear A460
        replace H := Option.bind_eq_some_iff.mp H
        obtain ⟨⟨t186, t187⟩, A470, H⟩ := H
        replace H : ((waybillref11_Skip.f kj10 a0 a3).bind fun bt188 => (if t180 = t183 then (if (t181 == t184) = true then ((waybilllaw11_num.f t182).bind fun t190 => (if t190 = t185 then (if t186 = bt188.1 then ((waybilllaw11_num.f t187).bind fun t191 => (if t191 = bt188.2 then ((waybilllaw11_alive.f kj10).bind fun t192 => (some t192)) else (some false))) else (some false)) else (some false))) else (some false)) else (some false))) = some r := H
        have A47 := Aside0.mk A470
        clear A470
        replace H := Option.bind_eq_some_iff.mp H
        obtain ⟨⟨t188, t189⟩, A480, H⟩ := H
        replace H : (if t180 = t183 then (if (t181 == t184) = true then ((waybilllaw11_num.f t182).bind fun t190 => (if t190 = t185 then (if t186 = t188 then ((waybilllaw11_num.f t187).bind fun t191 => (if t191 = t189 then ((waybilllaw11_alive.f kj10).bind fun t192 => (some t192)) else (some false))) else (some false)) else (some false))) else (some false)) else (some false)) = some r := H
        have A48 := Aside0.mk A480
        clear A480
        by_cases c49 : t180 = t183
        · rw [if_pos c49] at H
          have c49b0 : (t180 == t183) = true := beq_iff_eq.mpr c49
          have c49b1 : (t180 != t183) = false := bne_eq_false_iff_eq.mpr c49
          clear c49
          by_cases c50 : (t181 == t184) = true
          · rw [if_pos c50] at H
            have c50b0 : (t181 == t184) = true := c50
            (try (have c50b1 : decide (t181 = t184) = true := by simpa using c50))
            (try (have c50b2 : (t181 == t184) = true := by simpa using c50))
            clear c50
            replace H := Option.bind_eq_some_iff.mp H
            obtain ⟨t190, A510, H⟩ := H
            replace H : (if t190 = t185 then (if t186 = t188 then ((waybilllaw11_num.f t187).bind fun t191 => (if t191 = t189 then ((waybilllaw11_alive.f kj10).bind fun t192 => (some t192)) else (some false))) else (some false)) else (some false)) = some r := H
            have A51 := Aside0.mk A510
            clear A510
            by_cases c52 : t190 = t185
            · rw [if_pos c52] at H
              have c52b0 : (t190 == t185) = true := beq_iff_eq.mpr c52
              have c52b1 : (t190 != t185) = false := bne_eq_false_iff_eq.mpr c52
              clear c52
              by_cases c53 : t186 = t188
              · rw [if_pos c53] at H
                have c53b0 : (t186 == t188) = true := beq_iff_eq.mpr c53
                have c53b1 : (t186 != t188) = false := bne_eq_false_iff_eq.mpr c53
                clear c53
                replace H := Option.bind_eq_some_iff.mp H
                obtain ⟨t191, A540, H⟩ := H
                replace H : (if t191 = t189 then ((waybilllaw11_alive.f kj10).bind fun t192 => (some t192)) else (some false)) = some r := H
                have A54 := Aside0.mk A540
                clear A540
                by_cases c55 : t191 = t189
                · rw [if_pos c55] at H
                  have c55b0 : (t191 == t189) = true := beq_iff_eq.mpr c55
                  have c55b1 : (t191 != t189) = false := bne_eq_false_iff_eq.mpr c55
                  clear c55
                  replace H := Option.bind_eq_some_iff.mp H
                  obtain ⟨t192, A560, H⟩ := H
                  replace H : (some t192) = some r := H
                  have A56 := Aside0.mk A560
                  clear A560
                  obtain rfl := Option.some.inj H
                  go_wp2_with (first | ((with_reducible refine gate_callee (f := 33) rfl ?_); refine goesL_ (some 130) rfl rfl Try.func33 (by kernel_rfl) rfl #[.int .u64 a0, .int .i64 a3] rfl (by (try simp only [List.map_toArray, List.map_cons, List.map_nil]); first | done | rfl | (simp only [List.length_drop, List.length_take]; rfl)) ?_; (with_reducible refine (draw_Chance.calls a0 a3 t180 t181 t182 _ A45.out).mono ?_); rintro e w57 ⟨rfl, hb⟩; refine ⟨_, rfl, ?_⟩; have n0_ := Aside0.mk (below_step (by repeat (first | (with_reducible first | exact HB.out | apply below_alloc | apply pw_below_drewN | apply below_drew1) | exact HB.out)) hb); clear HB; have HB := n0_; clear n0_; (try clear hb); (try clear hb2); (try clear hk); (try clear hi)) | ((with_reducible refine gate_callee (f := 39) rfl ?_); refine goesL_ (some 137) rfl rfl Try.func39 (by kernel_rfl) rfl #[.int .u64 a0, .int .i64 a3] rfl (by (try simp only [List.map_toArray, List.map_cons, List.map_nil]); first | done | rfl | (simp only [List.length_drop, List.length_take]; rfl)) ?_; (with_reducible refine (waybillref11_Chance.calls kj10 a0 a3 t183 t184 t185 _ A46.out).mono ?_); rintro e w' ⟨rfl, ⟨nd, rfl⟩⟩; refine ⟨_, rfl, ?_⟩) | ((with_reducible refine gate_callee (f := 32) rfl ?_); refine goesL_ (some 144) rfl rfl Try.func32 (by kernel_rfl) rfl #[.int .u64 a0, .int .i64 a3] rfl (by (try simp only [List.map_toArray, List.map_cons, List.map_nil]); first | done | rfl | (simp only [List.length_drop, List.length_take]; rfl)) ?_; (with_reducible refine (draw_Skip.calls a0 a3 t186 t187 _ A47.out).mono ?_); rintro e w' ⟨rfl, ⟨nd, rfl⟩⟩; refine ⟨_, rfl, ?_⟩) | ((with_reducible refine gate_callee (f := 40) rfl ?_); refine goesL_ (some 150) rfl rfl Try.func40 (by kernel_rfl) rfl #[.int .u64 a0, .int .i64 a3] rfl (by (try simp only [List.map_toArray, List.map_cons, List.map_nil]); first | done | rfl | (simp only [List.length_drop, List.length_take]; rfl)) ?_; (with_reducible refine (waybillref11_Skip.calls kj10 a0 a3 t188 t189 _ A48.out).mono ?_); rintro e w' ⟨rfl, ⟨nd, rfl⟩⟩; refine ⟨_, rfl, ?_⟩) | (go_at_call 29; (with_reducible refine (waybilllaw11_num.calls t182 t190 _ A51.out).mono ?_); rintro e w' ⟨rfl, ⟨nd, rfl⟩⟩) | (go_at_call 29; (with_reducible refine (waybilllaw11_num.calls t187 t191 _ A54.out).mono ?_); rintro e w' ⟨rfl, ⟨nd, rfl⟩⟩) | (go_at_call 30; (with_reducible refine (waybilllaw11_alive.calls kj10  t192 _ A56.out).mono ?_); rintro e w58 ⟨rfl, hb⟩; have n0_ := Aside0.mk (below_step (by repeat (first | (with_reducible first | exact HB.out | apply below_alloc | apply pw_below_drewN | apply below_drew1) | exact HB.out)) hb); clear HB; have HB := n0_; clear n0_; (try clear hb); (try clear hb2); (try clear hk); (try clear hi)))
                  go_ret
                  exact ⟨by first | rfl | (simp [errW_none, errW_some] <;> rfl) | (simp [*, errW_none, errW_some] <;> rfl), by repeat (first | (with_reducible first | exact HB.out | apply below_alloc | apply pw_below_drewN | apply below_drew1) | exact HB.out)⟩
                · rw [if_neg c55] at H
                  have c55b0 : (t191 == t189) = false := beq_eq_false_iff_ne.mpr c55
                  have c55b1 : (t191 != t189) = true := bne_iff_ne.mpr c55
                  obtain rfl := Option.some.inj H
                  go_wp2_with (first | ((with_reducible refine gate_callee (f := 33) rfl ?_); refine goesL_ (some 130) rfl rfl Try.func33 (by kernel_rfl) rfl #[.int .u64 a0, .int .i64 a3] rfl (by (try simp only [List.map_toArray, List.map_cons, List.map_nil]); first | done | rfl | (simp only [List.length_drop, List.length_take]; rfl)) ?_; (with_reducible refine (draw_Chance.calls a0 a3 t180 t181 t182 _ A45.out).mono ?_); rintro e w59 ⟨rfl, hb⟩; refine ⟨_, rfl, ?_⟩; have n0_ := Aside0.mk (below_step (by repeat (first | (with_reducible first | exact HB.out | apply below_alloc | apply pw_below_drewN | apply below_drew1) | exact HB.out)) hb); clear HB; have HB := n0_; clear n0_; (try clear hb); (try clear hb2); (try clear hk); (try clear hi)) | ((with_reducible refine gate_callee (f := 39) rfl ?_); refine goesL_ (some 137) rfl rfl Try.func39 (by kernel_rfl) rfl #[.int .u64 a0, .int .i64 a3] rfl (by (try simp only [List.map_toArray, List.map_cons, List.map_nil]); first | done | rfl | (simp only [List.length_drop, List.length_take]; rfl)) ?_; (with_reducible refine (waybillref11_Chance.calls kj10 a0 a3 t183 t184 t185 _ A46.out).mono ?_); rintro e w' ⟨rfl, ⟨nd, rfl⟩⟩; refine ⟨_, rfl, ?_⟩) | ((with_reducible refine gate_callee (f := 32) rfl ?_); refine goesL_ (some 144) rfl rfl Try.func32 (by kernel_rfl) rfl #[.int .u64 a0, .int .i64 a3] rfl (by (try simp only [List.map_toArray, List.map_cons, List.map_nil]); first | done | rfl | (simp only [List.length_drop, List.length_take]; rfl)) ?_; (with_reducible refine (draw_Skip.calls a0 a3 t186 t187 _ A47.out).mono ?_); rintro e w' ⟨rfl, ⟨nd, rfl⟩⟩; refine ⟨_, rfl, ?_⟩) | ((with_reducible refine gate_callee (f := 40) rfl ?_); refine goesL_ (some 150) rfl rfl Try.func40 (by kernel_rfl) rfl #[.int .u64 a0, .int .i64 a3] rfl (by (try simp only [List.map_toArray, List.map_cons, List.map_nil]); first | done | rfl | (simp only [List.length_drop, List.length_take]; rfl)) ?_; (with_reducible refine (waybillref11_Skip.calls kj10 a0 a3 t188 t189 _ A48.out).mono ?_); rintro e w' ⟨rfl, ⟨nd, rfl⟩⟩; refine ⟨_, rfl, ?_⟩) | (go_at_call 29; (with_reducible refine (waybilllaw11_num.calls t182 t190 _ A51.out).mono ?_); rintro e w' ⟨rfl, ⟨nd, rfl⟩⟩) | (go_at_call 29; (with_reducible refine (waybilllaw11_num.calls t187 t191 _ A54.out).mono ?_); rintro e w' ⟨rfl, ⟨nd, rfl⟩⟩))
                  go_ret
                  exact ⟨by first | rfl | (simp [errW_none, errW_some] <;> rfl) | (simp [*, errW_none, errW_some] <;> rfl), by repeat (first | (with_reducible first | exact HB.out | apply below_alloc | apply pw_below_drewN | apply below_drew1) | exact HB.out)⟩
              · rw [if_neg c53] at H
                have c53b0 : (t186 == t188) = false := beq_eq_false_iff_ne.mpr c53
                have c53b1 : (t186 != t188) = true := bne_iff_ne.mpr c53
                obtain rfl := Option.some.inj H
                go_wp2_with (first | ((with_reducible refine gate_callee (f := 33) rfl ?_); refine goesL_ (some 130) rfl rfl Try.func33 (by kernel_rfl) rfl #[.int .u64 a0, .int .i64 a3] rfl (by (try simp only [List.map_toArray, List.map_cons, List.map_nil]); first | done | rfl | (simp only [List.length_drop, List.length_take]; rfl)) ?_; (with_reducible refine (draw_Chance.calls a0 a3 t180 t181 t182 _ A45.out).mono ?_); rintro e w60 ⟨rfl, hb⟩; refine ⟨_, rfl, ?_⟩; have n0_ := Aside0.mk (below_step (by repeat (first | (with_reducible first | exact HB.out | apply below_alloc | apply pw_below_drewN | apply below_drew1) | exact HB.out)) hb); clear HB; have HB := n0_; clear n0_; (try clear hb); (try clear hb2); (try clear hk); (try clear hi)) | ((with_reducible refine gate_callee (f := 39) rfl ?_); refine goesL_ (some 137) rfl rfl Try.func39 (by kernel_rfl) rfl #[.int .u64 a0, .int .i64 a3] rfl (by (try simp only [List.map_toArray, List.map_cons, List.map_nil]); first | done | rfl | (simp only [List.length_drop, List.length_take]; rfl)) ?_; (with_reducible refine (waybillref11_Chance.calls kj10 a0 a3 t183 t184 t185 _ A46.out).mono ?_); rintro e w' ⟨rfl, ⟨nd, rfl⟩⟩; refine ⟨_, rfl, ?_⟩) | ((with_reducible refine gate_callee (f := 32) rfl ?_); refine goesL_ (some 144) rfl rfl Try.func32 (by kernel_rfl) rfl #[.int .u64 a0, .int .i64 a3] rfl (by (try simp only [List.map_toArray, List.map_cons, List.map_nil]); first | done | rfl | (simp only [List.length_drop, List.length_take]; rfl)) ?_; (with_reducible refine (draw_Skip.calls a0 a3 t186 t187 _ A47.out).mono ?_); rintro e w' ⟨rfl, ⟨nd, rfl⟩⟩; refine ⟨_, rfl, ?_⟩) | ((with_reducible refine gate_callee (f := 40) rfl ?_); refine goesL_ (some 150) rfl rfl Try.func40 (by kernel_rfl) rfl #[.int .u64 a0, .int .i64 a3] rfl (by (try simp only [List.map_toArray, List.map_cons, List.map_nil]); first | done | rfl | (simp only [List.length_drop, List.length_take]; rfl)) ?_; (with_reducible refine (waybillref11_Skip.calls kj10 a0 a3 t188 t189 _ A48.out).mono ?_); rintro e w' ⟨rfl, ⟨nd, rfl⟩⟩; refine ⟨_, rfl, ?_⟩) | (go_at_call 29; (with_reducible refine (waybilllaw11_num.calls t182 t190 _ A51.out).mono ?_); rintro e w' ⟨rfl, ⟨nd, rfl⟩⟩))
                go_ret
                exact ⟨by first | rfl | (simp [errW_none, errW_some] <;> rfl) | (simp [*, errW_none, errW_some] <;> rfl), by repeat (first | (with_reducible first | exact HB.out | apply below_alloc | apply pw_below_drewN | apply below_drew1) | exact HB.out)⟩
            · rw [if_neg c52] at H
              have c52b0 : (t190 == t185) = false := beq_eq_false_iff_ne.mpr c52
              have c52b1 : (t190 != t185) = true := bne_iff_ne.mpr c52
              obtain rfl := Option.some.inj H
              go_wp2_with (first | ((with_reducible refine gate_callee (f := 33) rfl ?_); refine goesL_ (some 130) rfl rfl Try.func33 (by kernel_rfl) rfl #[.int .u64 a0, .int .i64 a3] rfl (by (try simp only [List.map_toArray, List.map_cons, List.map_nil]); first | done | rfl | (simp only [List.length_drop, List.length_take]; rfl)) ?_; (with_reducible refine (draw_Chance.calls a0 a3 t180 t181 t182 _ A45.out).mono ?_); rintro e w61 ⟨rfl, hb⟩; refine ⟨_, rfl, ?_⟩; have n0_ := Aside0.mk (below_step (by repeat (first | (with_reducible first | exact HB.out | apply below_alloc | apply pw_below_drewN | apply below_drew1) | exact HB.out)) hb); clear HB; have HB := n0_; clear n0_; (try clear hb); (try clear hb2); (try clear hk); (try clear hi)) | ((with_reducible refine gate_callee (f := 39) rfl ?_); refine goesL_ (some 137) rfl rfl Try.func39 (by kernel_rfl) rfl #[.int .u64 a0, .int .i64 a3] rfl (by (try simp only [List.map_toArray, List.map_cons, List.map_nil]); first | done | rfl | (simp only [List.length_drop, List.length_take]; rfl)) ?_; (with_reducible refine (waybillref11_Chance.calls kj10 a0 a3 t183 t184 t185 _ A46.out).mono ?_); rintro e w' ⟨rfl, ⟨nd, rfl⟩⟩; refine ⟨_, rfl, ?_⟩) | ((with_reducible refine gate_callee (f := 32) rfl ?_); refine goesL_ (some 144) rfl rfl Try.func32 (by kernel_rfl) rfl #[.int .u64 a0, .int .i64 a3] rfl (by (try simp only [List.map_toArray, List.map_cons, List.map_nil]); first | done | rfl | (simp only [List.length_drop, List.length_take]; rfl)) ?_; (with_reducible refine (draw_Skip.calls a0 a3 t186 t187 _ A47.out).mono ?_); rintro e w' ⟨rfl, ⟨nd, rfl⟩⟩; refine ⟨_, rfl, ?_⟩) | ((with_reducible refine gate_callee (f := 40) rfl ?_); refine goesL_ (some 150) rfl rfl Try.func40 (by kernel_rfl) rfl #[.int .u64 a0, .int .i64 a3] rfl (by (try simp only [List.map_toArray, List.map_cons, List.map_nil]); first | done | rfl | (simp only [List.length_drop, List.length_take]; rfl)) ?_; (with_reducible refine (waybillref11_Skip.calls kj10 a0 a3 t188 t189 _ A48.out).mono ?_); rintro e w' ⟨rfl, ⟨nd, rfl⟩⟩; refine ⟨_, rfl, ?_⟩) | (go_at_call 29; (with_reducible refine (waybilllaw11_num.calls t182 t190 _ A51.out).mono ?_); rintro e w' ⟨rfl, ⟨nd, rfl⟩⟩))
              go_ret
              exact ⟨by first | rfl | (simp [errW_none, errW_some] <;> rfl) | (simp [*, errW_none, errW_some] <;> rfl), by repeat (first | (with_reducible first | exact HB.out | apply below_alloc | apply pw_below_drewN | apply below_drew1) | exact HB.out)⟩
          · rw [if_neg c50] at H
            have c50b0 : (t181 == t184) = false := by simpa using c50
            (try (have c50b1 : decide (t181 = t184) = false := by simpa using c50))
            (try (have c50b2 : (t181 == t184) = false := by simpa using c50))
            (try (have c50b3 : ¬ (t181 = t184) := by simpa using c50))
            clear c50
            obtain rfl := Option.some.inj H
            go_wp2_with (first | ((with_reducible refine gate_callee (f := 33) rfl ?_); refine goesL_ (some 130) rfl rfl Try.func33 (by kernel_rfl) rfl #[.int .u64 a0, .int .i64 a3] rfl (by (try simp only [List.map_toArray, List.map_cons, List.map_nil]); first | done | rfl | (simp only [List.length_drop, List.length_take]; rfl)) ?_; (with_reducible refine (draw_Chance.calls a0 a3 t180 t181 t182 _ A45.out).mono ?_); rintro e w62 ⟨rfl, hb⟩; refine ⟨_, rfl, ?_⟩; have n0_ := Aside0.mk (below_step (by repeat (first | (with_reducible first | exact HB.out | apply below_alloc | apply pw_below_drewN | apply below_drew1) | exact HB.out)) hb); clear HB; have HB := n0_; clear n0_; (try clear hb); (try clear hb2); (try clear hk); (try clear hi)) | ((with_reducible refine gate_callee (f := 39) rfl ?_); refine goesL_ (some 137) rfl rfl Try.func39 (by kernel_rfl) rfl #[.int .u64 a0, .int .i64 a3] rfl (by (try simp only [List.map_toArray, List.map_cons, List.map_nil]); first | done | rfl | (simp only [List.length_drop, List.length_take]; rfl)) ?_; (with_reducible refine (waybillref11_Chance.calls kj10 a0 a3 t183 t184 t185 _ A46.out).mono ?_); rintro e w' ⟨rfl, ⟨nd, rfl⟩⟩; refine ⟨_, rfl, ?_⟩) | ((with_reducible refine gate_callee (f := 32) rfl ?_); refine goesL_ (some 144) rfl rfl Try.func32 (by kernel_rfl) rfl #[.int .u64 a0, .int .i64 a3] rfl (by (try simp only [List.map_toArray, List.map_cons, List.map_nil]); first | done | rfl | (simp only [List.length_drop, List.length_take]; rfl)) ?_; (with_reducible refine (draw_Skip.calls a0 a3 t186 t187 _ A47.out).mono ?_); rintro e w' ⟨rfl, ⟨nd, rfl⟩⟩; refine ⟨_, rfl, ?_⟩) | ((with_reducible refine gate_callee (f := 40) rfl ?_); refine goesL_ (some 150) rfl rfl Try.func40 (by kernel_rfl) rfl #[.int .u64 a0, .int .i64 a3] rfl (by (try simp only [List.map_toArray, List.map_cons, List.map_nil]); first | done | rfl | (simp only [List.length_drop, List.length_take]; rfl)) ?_; (with_reducible refine (waybillref11_Skip.calls kj10 a0 a3 t188 t189 _ A48.out).mono ?_); rintro e w' ⟨rfl, ⟨nd, rfl⟩⟩; refine ⟨_, rfl, ?_⟩))
            go_ret
            exact ⟨by first | rfl | (simp [errW_none, errW_some] <;> rfl) | (simp [*, errW_none, errW_some] <;> rfl), by repeat (first | (with_reducible first | exact HB.out | apply below_alloc | apply pw_below_drewN | apply below_drew1) | exact HB.out)⟩
        · rw [if_neg c49] at H
          have c49b0 : (t180 == t183) = false := beq_eq_false_iff_ne.mpr c49
          have c49b1 : (t180 != t183) = true := bne_iff_ne.mpr c49
          obtain rfl := Option.some.inj H
          go_wp2_with (first | ((with_reducible refine gate_callee (f := 33) rfl ?_); refine goesL_ (some 130) rfl rfl Try.func33 (by kernel_rfl) rfl #[.int .u64 a0, .int .i64 a3] rfl (by (try simp only [List.map_toArray, List.map_cons, List.map_nil]); first | done | rfl | (simp only [List.length_drop, List.length_take]; rfl)) ?_; (with_reducible refine (draw_Chance.calls a0 a3 t180 t181 t182 _ A45.out).mono ?_); rintro e w63 ⟨rfl, hb⟩; refine ⟨_, rfl, ?_⟩; have n0_ := Aside0.mk (below_step (by repeat (first | (with_reducible first | exact HB.out | apply below_alloc | apply pw_below_drewN | apply below_drew1) | exact HB.out)) hb); clear HB; have HB := n0_; clear n0_; (try clear hb); (try clear hb2); (try clear hk); (try clear hi)) | ((with_reducible refine gate_callee (f := 39) rfl ?_); refine goesL_ (some 137) rfl rfl Try.func39 (by kernel_rfl) rfl #[.int .u64 a0, .int .i64 a3] rfl (by (try simp only [List.map_toArray, List.map_cons, List.map_nil]); first | done | rfl | (simp only [List.length_drop, List.length_take]; rfl)) ?_; (with_reducible refine (waybillref11_Chance.calls kj10 a0 a3 t183 t184 t185 _ A46.out).mono ?_); rintro e w' ⟨rfl, ⟨nd, rfl⟩⟩; refine ⟨_, rfl, ?_⟩) | ((with_reducible refine gate_callee (f := 32) rfl ?_); refine goesL_ (some 144) rfl rfl Try.func32 (by kernel_rfl) rfl #[.int .u64 a0, .int .i64 a3] rfl (by (try simp only [List.map_toArray, List.map_cons, List.map_nil]); first | done | rfl | (simp only [List.length_drop, List.length_take]; rfl)) ?_; (with_reducible refine (draw_Skip.calls a0 a3 t186 t187 _ A47.out).mono ?_); rintro e w' ⟨rfl, ⟨nd, rfl⟩⟩; refine ⟨_, rfl, ?_⟩) | ((with_reducible refine gate_callee (f := 40) rfl ?_); refine goesL_ (some 150) rfl rfl Try.func40 (by kernel_rfl) rfl #[.int .u64 a0, .int .i64 a3] rfl (by (try simp only [List.map_toArray, List.map_cons, List.map_nil]); first | done | rfl | (simp only [List.length_drop, List.length_take]; rfl)) ?_; (with_reducible refine (waybillref11_Skip.calls kj10 a0 a3 t188 t189 _ A48.out).mono ?_); rintro e w' ⟨rfl, ⟨nd, rfl⟩⟩; refine ⟨_, rfl, ?_⟩))
          go_ret
          exact ⟨by first | rfl | (simp [errW_none, errW_some] <;> rfl) | (simp [*, errW_none, errW_some] <;> rfl), by repeat (first | (with_reducible first | exact HB.out | apply below_alloc | apply pw_below_drewN | apply below_drew1) | exact HB.out)⟩

/-- THE ONE PURE STATEMENT of waybilllaw11_DrawTells: yours. -/
def waybilllaw11_DrawTells.Pure : Prop := ∀ (a0 : Int) (a1 : Int) (a2 : Int) (a3 : Int), (Lit.int .u64 a0).wf = true → (Lit.int .i64 a1).wf = true → (Lit.int .i64 a2).wf = true → (Lit.int .i64 a3).wf = true → ∃ k, waybilllaw11_DrawTells.f k a0 a1 a2 a3 = some true
theorem waybilllaw11_DrawTells.walk (P : waybilllaw11_DrawTells.Pure) (a0 : Int) (a1 : Int) (a2 : Int) (a3 : Int) (w : World) (w0 : (Lit.int .u64 a0).wf = true) (w1 : (Lit.int .i64 a1).wf = true) (w2 : (Lit.int .i64 a2).wf = true) (w3 : (Lit.int .i64 a3).wf = true) :
    Calls Try.prog 13 #[.int .u64 a0, .int .i64 a1, .int .i64 a2, .int .i64 a3] w fun e w' => e = .returned (.bool true) ∧ Below w.heap.size w w' := by
  obtain ⟨k, h⟩ := P a0 a1 a2 a3 w0 w1 w2 w3
  refine (waybilllaw11_DrawTells.calls k a0 a1 a2 a3 true w h).mono ?_
  rintro e w' ⟨rfl, hd⟩
  exact ⟨rfl, hd⟩

end Go.Proofs.Ythldeecchlgieaa.EDrawTells
