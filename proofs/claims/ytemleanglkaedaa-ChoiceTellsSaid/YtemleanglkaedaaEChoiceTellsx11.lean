-- Written by a program of this seat, over a copy of the print; parts by hand.
import Derived.Test.YtemleanglkaedaaEChoiceTellsx0
import Derived.Test.YtemleanglkaedaaEChoiceTellsx2
import Derived.Test.YtemleanglkaedaaEChoiceTellsx3
import Derived.Test.YtemleanglkaedaaEChoiceTellsx4
import Derived.Test.YtemleanglkaedaaEChoiceTellsx5
import Derived.Test.YtemleanglkaedaaEChoiceTellsx7
import Derived.Test.YtemleanglkaedaaEChoiceTellsx8
import Derived.Test.YtemleanglkaedaaEChoiceTellsx10
namespace Go.Proofs.Ytemleanglkaedaa.EChoiceTells
open Go.RowKit Go.Proofs.YtemleanglkaedaaW.PrintWords Go.Proofs.YtemleanglkaedaaW.PrintLast Go.Proofs.YtemleanglkaedaaW.PrintMore
attribute [local go_sem] max2_int min2_int max_two min_two max_three min_three max_four min_four   -- for this text's walks alone
set_option linter.unusedVariables false
set_option linter.unusedSimpArgs false

/-! ### waybilllaw14_ChoiceTells: function 10 -/
def waybilllaw14_ChoiceTells.j0 : Nat → List (S30) → List (S30) → Bool → Option (Bool)
  | 0, _, _, _ => none
  | k + 1, x1, x11, x131 => if x131 = true then (some false) else ((choice_Check.f x1).bind fun t231 => ((waybilllaw14_num.f t231).bind fun t232 => ((waybillref14_Check.f k x1).bind fun t233 => (if t232 = t233 then ((waybillplain_SameLoads.f k x11 x1).bind fun t234 => (if t234 = true then ((waybilllaw14_alive.f).bind fun t235 => (some t235)) else (some false))) else (some false)))))
def waybilllaw14_ChoiceTells.f (k : Nat) (a0 : Int) (l1 : List (S30)) (l2 : List (S105)) (a3 : Int) (a4 : Int) : Option (Bool) := (waybilllaw14_own.f l1).bind fun t201 => ((choice_Least.f t201).bind fun bt204 => ((waybillref14_Least.f k l1).bind fun bt206 => ((choice_Two.f a0 t201).bind fun bt208 => ((waybillref14_Two.f k a0 l1).bind fun bt211 => ((choice_Ring.f l2 a3 t201).bind fun bt214 => ((waybillref14_Ring.f k l2 a3 l1).bind fun bt216 => ((choice_Spread.f a0 a4 t201).bind fun bt218 => ((waybillref14_Spread.f k a0 a4 l1).bind fun bt222 => (if bt204.1 = bt206.1 then ((waybilllaw14_num.f bt204.2).bind fun t226 => (if t226 = bt206.2 then (if bt208.1 = bt211.1 then (if bt208.2.1 = bt211.2.1 then ((waybilllaw14_num.f bt208.2.2).bind fun t227 => (if t227 = bt211.2.2 then (if bt214.1 = bt216.1 then ((waybilllaw14_num.f bt214.2).bind fun t228 => (if t228 = bt216.2 then ((waybillplain_SameLoads.f k bt218.1 bt222.1).bind fun t229 => (if t229 = true then ((waybilllaw14_num.f bt218.2).bind fun t230 => (waybilllaw14_ChoiceTells.j0 k l1 t201 (t230 != bt222.2))) else (waybilllaw14_ChoiceTells.j0 k l1 t201 true))) else (waybilllaw14_ChoiceTells.j0 k l1 t201 true))) else (waybilllaw14_ChoiceTells.j0 k l1 t201 true)) else (waybilllaw14_ChoiceTells.j0 k l1 t201 true))) else (waybilllaw14_ChoiceTells.j0 k l1 t201 true)) else (waybilllaw14_ChoiceTells.j0 k l1 t201 true)) else (waybilllaw14_ChoiceTells.j0 k l1 t201 true))) else (waybilllaw14_ChoiceTells.j0 k l1 t201 true))))))))))
theorem waybilllaw14_ChoiceTells.mono_l : ∀ k, (∀ y0 y1 y2, LeO (waybilllaw14_ChoiceTells.j0 k y0 y1 y2) (waybilllaw14_ChoiceTells.j0 (k + 1) y0 y1 y2))
  | 0 => fun _ _ _ r h => by simp [waybilllaw14_ChoiceTells.j0] at h
  | k + 1 => by
    have ih0 := waybilllaw14_ChoiceTells.mono_l k
    · intro y0 y1 y2
      unfold waybilllaw14_ChoiceTells.j0
      repeat' first
      | (with_reducible exact ih0 _ _ _)
      | (with_reducible exact waybillplain_SameLoads.mono _ _ _)
      | (with_reducible exact waybillref14_Check.mono _ _)
      | (with_reducible exact waybillref14_Least.mono _ _)
      | (with_reducible exact waybillref14_Ring.mono _ _ _ _)
      | (with_reducible exact waybillref14_Spread.mono _ _ _ _)
      | (with_reducible exact waybillref14_Two.mono _ _ _)
      | (with_reducible exact LeO.refl _)
      | (with_reducible exact LeO.none _)
      | (with_reducible refine LeO.ite ?_ ?_)
      | (with_reducible refine LeO.bind ?_ (fun _ => ?_))
      | exact ih0 _ _ _
      | exact waybillplain_SameLoads.mono _ _ _
      | exact waybillref14_Check.mono _ _
      | exact waybillref14_Least.mono _ _
      | exact waybillref14_Ring.mono _ _ _ _
      | exact waybillref14_Spread.mono _ _ _ _
      | exact waybillref14_Two.mono _ _ _
      | exact LeO.none _
      | refine LeO.ite ?_ ?_
      | refine LeO.bind ?_ (fun _ => ?_)
theorem waybilllaw14_ChoiceTells.mono : ∀ a0 a1 a2 a3 a4 k, LeO (waybilllaw14_ChoiceTells.f k a0 a1 a2 a3 a4) (waybilllaw14_ChoiceTells.f (k + 1) a0 a1 a2 a3 a4) := by
  intro a0 a1 a2 a3 a4 k
  have ih0 := waybilllaw14_ChoiceTells.mono_l k
  unfold waybilllaw14_ChoiceTells.f
  repeat' first
      | (with_reducible exact ih0 _ _ _)
      | (with_reducible exact waybillplain_SameLoads.mono _ _ _)
      | (with_reducible exact waybillref14_Check.mono _ _)
      | (with_reducible exact waybillref14_Least.mono _ _)
      | (with_reducible exact waybillref14_Ring.mono _ _ _ _)
      | (with_reducible exact waybillref14_Spread.mono _ _ _ _)
      | (with_reducible exact waybillref14_Two.mono _ _ _)
      | (with_reducible exact LeO.refl _)
      | (with_reducible exact LeO.none _)
      | (with_reducible refine LeO.ite ?_ ?_)
      | (with_reducible refine LeO.bind ?_ (fun _ => ?_))
      | exact ih0 _ _ _
      | exact waybillplain_SameLoads.mono _ _ _
      | exact waybillref14_Check.mono _ _
      | exact waybillref14_Least.mono _ _
      | exact waybillref14_Ring.mono _ _ _ _
      | exact waybillref14_Spread.mono _ _ _ _
      | exact waybillref14_Two.mono _ _ _
      | exact LeO.none _
      | refine LeO.ite ?_ ?_
      | refine LeO.bind ?_ (fun _ => ?_)
set_option maxHeartbeats 8000000 in
set_option maxRecDepth 100000 in
theorem waybilllaw14_ChoiceTells.calls (k : Nat) (a0 : Int) (A1 : Option Addr) (c1 : Nat) (l1 : List (S30)) (A2 : Option Addr) (c2 : Nat) (l2 : List (S105)) (a3 : Int) (a4 : Int) (r : Bool) (w : World) (hr1 : Kd.C k30 w A1 l1.length l1) (hc1 : l1.length ≤ c1) (hr2 : Kd.C k105 w A2 l2.length l2) (hc2 : l2.length ≤ c2) (h : waybilllaw14_ChoiceTells.f k a0 l1 l2 a3 a4 = some r) :
    Calls Try.prog 10 #[.int .u64 a0, .slice A1 l1.length c1, .slice A2 l2.length c2, .int .u64 a3, .int .i64 a4] w fun e w' => e = .returned (.bool r) ∧ Below w.heap.size w w' := by
  have HR1 := Aside0.mk hr1
  have HC1 := Aside0.mk hc1
  clear hr1 hc1
  have HR2 := Aside0.mk hr2
  have HC2 := Aside0.mk hc2
  clear hr2 hc2
  have HB := Aside0.mk (Below.refl w.heap.size w)
  have H : ((waybilllaw14_own.f l1).bind fun t201 => ((choice_Least.f t201).bind fun bt204 => ((waybillref14_Least.f k l1).bind fun bt206 => ((choice_Two.f a0 t201).bind fun bt208 => ((waybillref14_Two.f k a0 l1).bind fun bt211 => ((choice_Ring.f l2 a3 t201).bind fun bt214 => ((waybillref14_Ring.f k l2 a3 l1).bind fun bt216 => ((choice_Spread.f a0 a4 t201).bind fun bt218 => ((waybillref14_Spread.f k a0 a4 l1).bind fun bt222 => (if bt204.1 = bt206.1 then ((waybilllaw14_num.f bt204.2).bind fun t226 => (if t226 = bt206.2 then (if bt208.1 = bt211.1 then (if bt208.2.1 = bt211.2.1 then ((waybilllaw14_num.f bt208.2.2).bind fun t227 => (if t227 = bt211.2.2 then (if bt214.1 = bt216.1 then ((waybilllaw14_num.f bt214.2).bind fun t228 => (if t228 = bt216.2 then ((waybillplain_SameLoads.f k bt218.1 bt222.1).bind fun t229 => (if t229 = true then ((waybilllaw14_num.f bt218.2).bind fun t230 => (waybilllaw14_ChoiceTells.j0 k l1 t201 (t230 != bt222.2))) else (waybilllaw14_ChoiceTells.j0 k l1 t201 true))) else (waybilllaw14_ChoiceTells.j0 k l1 t201 true))) else (waybilllaw14_ChoiceTells.j0 k l1 t201 true)) else (waybilllaw14_ChoiceTells.j0 k l1 t201 true))) else (waybilllaw14_ChoiceTells.j0 k l1 t201 true)) else (waybilllaw14_ChoiceTells.j0 k l1 t201 true)) else (waybilllaw14_ChoiceTells.j0 k l1 t201 true))) else (waybilllaw14_ChoiceTells.j0 k l1 t201 true))))))))))) = some r := h
  clear h
  replace H := Option.bind_eq_some_iff.mp H
  obtain ⟨t201, A60, H⟩ := H
  replace H : ((choice_Least.f t201).bind fun bt204 => ((waybillref14_Least.f k l1).bind fun bt206 => ((choice_Two.f a0 t201).bind fun bt208 => ((waybillref14_Two.f k a0 l1).bind fun bt211 => ((choice_Ring.f l2 a3 t201).bind fun bt214 => ((waybillref14_Ring.f k l2 a3 l1).bind fun bt216 => ((choice_Spread.f a0 a4 t201).bind fun bt218 => ((waybillref14_Spread.f k a0 a4 l1).bind fun bt222 => (if bt204.1 = bt206.1 then ((waybilllaw14_num.f bt204.2).bind fun t226 => (if t226 = bt206.2 then (if bt208.1 = bt211.1 then (if bt208.2.1 = bt211.2.1 then ((waybilllaw14_num.f bt208.2.2).bind fun t227 => (if t227 = bt211.2.2 then (if bt214.1 = bt216.1 then ((waybilllaw14_num.f bt214.2).bind fun t228 => (if t228 = bt216.2 then ((waybillplain_SameLoads.f k bt218.1 bt222.1).bind fun t229 => (if t229 = true then ((waybilllaw14_num.f bt218.2).bind fun t230 => (waybilllaw14_ChoiceTells.j0 k l1 t201 (t230 != bt222.2))) else (waybilllaw14_ChoiceTells.j0 k l1 t201 true))) else (waybilllaw14_ChoiceTells.j0 k l1 t201 true))) else (waybilllaw14_ChoiceTells.j0 k l1 t201 true)) else (waybilllaw14_ChoiceTells.j0 k l1 t201 true))) else (waybilllaw14_ChoiceTells.j0 k l1 t201 true)) else (waybilllaw14_ChoiceTells.j0 k l1 t201 true)) else (waybilllaw14_ChoiceTells.j0 k l1 t201 true))) else (waybilllaw14_ChoiceTells.j0 k l1 t201 true)))))))))) = some r := H
  have A6 := Aside0.mk A60
  clear A60
  replace H := Option.bind_eq_some_iff.mp H
  obtain ⟨⟨t204, t205⟩, A70, H⟩ := H
  replace H : ((waybillref14_Least.f k l1).bind fun bt206 => ((choice_Two.f a0 t201).bind fun bt208 => ((waybillref14_Two.f k a0 l1).bind fun bt211 => ((choice_Ring.f l2 a3 t201).bind fun bt214 => ((waybillref14_Ring.f k l2 a3 l1).bind fun bt216 => ((choice_Spread.f a0 a4 t201).bind fun bt218 => ((waybillref14_Spread.f k a0 a4 l1).bind fun bt222 => (if t204 = bt206.1 then ((waybilllaw14_num.f t205).bind fun t226 => (if t226 = bt206.2 then (if bt208.1 = bt211.1 then (if bt208.2.1 = bt211.2.1 then ((waybilllaw14_num.f bt208.2.2).bind fun t227 => (if t227 = bt211.2.2 then (if bt214.1 = bt216.1 then ((waybilllaw14_num.f bt214.2).bind fun t228 => (if t228 = bt216.2 then ((waybillplain_SameLoads.f k bt218.1 bt222.1).bind fun t229 => (if t229 = true then ((waybilllaw14_num.f bt218.2).bind fun t230 => (waybilllaw14_ChoiceTells.j0 k l1 t201 (t230 != bt222.2))) else (waybilllaw14_ChoiceTells.j0 k l1 t201 true))) else (waybilllaw14_ChoiceTells.j0 k l1 t201 true))) else (waybilllaw14_ChoiceTells.j0 k l1 t201 true)) else (waybilllaw14_ChoiceTells.j0 k l1 t201 true))) else (waybilllaw14_ChoiceTells.j0 k l1 t201 true)) else (waybilllaw14_ChoiceTells.j0 k l1 t201 true)) else (waybilllaw14_ChoiceTells.j0 k l1 t201 true))) else (waybilllaw14_ChoiceTells.j0 k l1 t201 true))))))))) = some r := H
  have A7 := Aside0.mk A70
  clear A70
  replace H := Option.bind_eq_some_iff.mp H
  obtain ⟨⟨t206, t207⟩, A80, H⟩ := H
  replace H : ((choice_Two.f a0 t201).bind fun bt208 => ((waybillref14_Two.f k a0 l1).bind fun bt211 => ((choice_Ring.f l2 a3 t201).bind fun bt214 => ((waybillref14_Ring.f k l2 a3 l1).bind fun bt216 => ((choice_Spread.f a0 a4 t201).bind fun bt218 => ((waybillref14_Spread.f k a0 a4 l1).bind fun bt222 => (if t204 = t206 then ((waybilllaw14_num.f t205).bind fun t226 => (if t226 = t207 then (if bt208.1 = bt211.1 then (if bt208.2.1 = bt211.2.1 then ((waybilllaw14_num.f bt208.2.2).bind fun t227 => (if t227 = bt211.2.2 then (if bt214.1 = bt216.1 then ((waybilllaw14_num.f bt214.2).bind fun t228 => (if t228 = bt216.2 then ((waybillplain_SameLoads.f k bt218.1 bt222.1).bind fun t229 => (if t229 = true then ((waybilllaw14_num.f bt218.2).bind fun t230 => (waybilllaw14_ChoiceTells.j0 k l1 t201 (t230 != bt222.2))) else (waybilllaw14_ChoiceTells.j0 k l1 t201 true))) else (waybilllaw14_ChoiceTells.j0 k l1 t201 true))) else (waybilllaw14_ChoiceTells.j0 k l1 t201 true)) else (waybilllaw14_ChoiceTells.j0 k l1 t201 true))) else (waybilllaw14_ChoiceTells.j0 k l1 t201 true)) else (waybilllaw14_ChoiceTells.j0 k l1 t201 true)) else (waybilllaw14_ChoiceTells.j0 k l1 t201 true))) else (waybilllaw14_ChoiceTells.j0 k l1 t201 true)))))))) = some r := H
  have A8 := Aside0.mk A80
  clear A80
  replace H := Option.bind_eq_some_iff.mp H
  obtain ⟨⟨t208, t209, t210⟩, A90, H⟩ := H
  replace H : ((waybillref14_Two.f k a0 l1).bind fun bt211 => ((choice_Ring.f l2 a3 t201).bind fun bt214 => ((waybillref14_Ring.f k l2 a3 l1).bind fun bt216 => ((choice_Spread.f a0 a4 t201).bind fun bt218 => ((waybillref14_Spread.f k a0 a4 l1).bind fun bt222 => (if t204 = t206 then ((waybilllaw14_num.f t205).bind fun t226 => (if t226 = t207 then (if t208 = bt211.1 then (if t209 = bt211.2.1 then ((waybilllaw14_num.f t210).bind fun t227 => (if t227 = bt211.2.2 then (if bt214.1 = bt216.1 then ((waybilllaw14_num.f bt214.2).bind fun t228 => (if t228 = bt216.2 then ((waybillplain_SameLoads.f k bt218.1 bt222.1).bind fun t229 => (if t229 = true then ((waybilllaw14_num.f bt218.2).bind fun t230 => (waybilllaw14_ChoiceTells.j0 k l1 t201 (t230 != bt222.2))) else (waybilllaw14_ChoiceTells.j0 k l1 t201 true))) else (waybilllaw14_ChoiceTells.j0 k l1 t201 true))) else (waybilllaw14_ChoiceTells.j0 k l1 t201 true)) else (waybilllaw14_ChoiceTells.j0 k l1 t201 true))) else (waybilllaw14_ChoiceTells.j0 k l1 t201 true)) else (waybilllaw14_ChoiceTells.j0 k l1 t201 true)) else (waybilllaw14_ChoiceTells.j0 k l1 t201 true))) else (waybilllaw14_ChoiceTells.j0 k l1 t201 true))))))) = some r := H
  have A9 := Aside0.mk A90
  clear A90
  replace H := Option.bind_eq_some_iff.mp H
  obtain ⟨⟨t211, t212, t213⟩, A100, H⟩ := H
  replace H : ((choice_Ring.f l2 a3 t201).bind fun bt214 => ((waybillref14_Ring.f k l2 a3 l1).bind fun bt216 => ((choice_Spread.f a0 a4 t201).bind fun bt218 => ((waybillref14_Spread.f k a0 a4 l1).bind fun bt222 => (if t204 = t206 then ((waybilllaw14_num.f t205).bind fun t226 => (if t226 = t207 then (if t208 = t211 then (if t209 = t212 then ((waybilllaw14_num.f t210).bind fun t227 => (if t227 = t213 then (if bt214.1 = bt216.1 then ((waybilllaw14_num.f bt214.2).bind fun t228 => (if t228 = bt216.2 then ((waybillplain_SameLoads.f k bt218.1 bt222.1).bind fun t229 => (if t229 = true then ((waybilllaw14_num.f bt218.2).bind fun t230 => (waybilllaw14_ChoiceTells.j0 k l1 t201 (t230 != bt222.2))) else (waybilllaw14_ChoiceTells.j0 k l1 t201 true))) else (waybilllaw14_ChoiceTells.j0 k l1 t201 true))) else (waybilllaw14_ChoiceTells.j0 k l1 t201 true)) else (waybilllaw14_ChoiceTells.j0 k l1 t201 true))) else (waybilllaw14_ChoiceTells.j0 k l1 t201 true)) else (waybilllaw14_ChoiceTells.j0 k l1 t201 true)) else (waybilllaw14_ChoiceTells.j0 k l1 t201 true))) else (waybilllaw14_ChoiceTells.j0 k l1 t201 true)))))) = some r := H
  have A10 := Aside0.mk A100
  clear A100
  replace H := Option.bind_eq_some_iff.mp H
  obtain ⟨⟨t214, t215⟩, A110, H⟩ := H
  replace H : ((waybillref14_Ring.f k l2 a3 l1).bind fun bt216 => ((choice_Spread.f a0 a4 t201).bind fun bt218 => ((waybillref14_Spread.f k a0 a4 l1).bind fun bt222 => (if t204 = t206 then ((waybilllaw14_num.f t205).bind fun t226 => (if t226 = t207 then (if t208 = t211 then (if t209 = t212 then ((waybilllaw14_num.f t210).bind fun t227 => (if t227 = t213 then (if t214 = bt216.1 then ((waybilllaw14_num.f t215).bind fun t228 => (if t228 = bt216.2 then ((waybillplain_SameLoads.f k bt218.1 bt222.1).bind fun t229 => (if t229 = true then ((waybilllaw14_num.f bt218.2).bind fun t230 => (waybilllaw14_ChoiceTells.j0 k l1 t201 (t230 != bt222.2))) else (waybilllaw14_ChoiceTells.j0 k l1 t201 true))) else (waybilllaw14_ChoiceTells.j0 k l1 t201 true))) else (waybilllaw14_ChoiceTells.j0 k l1 t201 true)) else (waybilllaw14_ChoiceTells.j0 k l1 t201 true))) else (waybilllaw14_ChoiceTells.j0 k l1 t201 true)) else (waybilllaw14_ChoiceTells.j0 k l1 t201 true)) else (waybilllaw14_ChoiceTells.j0 k l1 t201 true))) else (waybilllaw14_ChoiceTells.j0 k l1 t201 true))))) = some r := H
  have A11 := Aside0.mk A110
  clear A110
  replace H := Option.bind_eq_some_iff.mp H
  obtain ⟨⟨t216, t217⟩, A120, H⟩ := H
  replace H : ((choice_Spread.f a0 a4 t201).bind fun bt218 => ((waybillref14_Spread.f k a0 a4 l1).bind fun bt222 => (if t204 = t206 then ((waybilllaw14_num.f t205).bind fun t226 => (if t226 = t207 then (if t208 = t211 then (if t209 = t212 then ((waybilllaw14_num.f t210).bind fun t227 => (if t227 = t213 then (if t214 = t216 then ((waybilllaw14_num.f t215).bind fun t228 => (if t228 = t217 then ((waybillplain_SameLoads.f k bt218.1 bt222.1).bind fun t229 => (if t229 = true then ((waybilllaw14_num.f bt218.2).bind fun t230 => (waybilllaw14_ChoiceTells.j0 k l1 t201 (t230 != bt222.2))) else (waybilllaw14_ChoiceTells.j0 k l1 t201 true))) else (waybilllaw14_ChoiceTells.j0 k l1 t201 true))) else (waybilllaw14_ChoiceTells.j0 k l1 t201 true)) else (waybilllaw14_ChoiceTells.j0 k l1 t201 true))) else (waybilllaw14_ChoiceTells.j0 k l1 t201 true)) else (waybilllaw14_ChoiceTells.j0 k l1 t201 true)) else (waybilllaw14_ChoiceTells.j0 k l1 t201 true))) else (waybilllaw14_ChoiceTells.j0 k l1 t201 true)))) = some r := H
  have A12 := Aside0.mk A120
  clear A120
  replace H := Option.bind_eq_some_iff.mp H
  obtain ⟨⟨t218, t219⟩, A130, H⟩ := H
  replace H : ((waybillref14_Spread.f k a0 a4 l1).bind fun bt222 => (if t204 = t206 then ((waybilllaw14_num.f t205).bind fun t226 => (if t226 = t207 then (if t208 = t211 then (if t209 = t212 then ((waybilllaw14_num.f t210).bind fun t227 => (if t227 = t213 then (if t214 = t216 then ((waybilllaw14_num.f t215).bind fun t228 => (if t228 = t217 then ((waybillplain_SameLoads.f k t218 bt222.1).bind fun t229 => (if t229 = true then ((waybilllaw14_num.f t219).bind fun t230 => (waybilllaw14_ChoiceTells.j0 k l1 t201 (t230 != bt222.2))) else (waybilllaw14_ChoiceTells.j0 k l1 t201 true))) else (waybilllaw14_ChoiceTells.j0 k l1 t201 true))) else (waybilllaw14_ChoiceTells.j0 k l1 t201 true)) else (waybilllaw14_ChoiceTells.j0 k l1 t201 true))) else (waybilllaw14_ChoiceTells.j0 k l1 t201 true)) else (waybilllaw14_ChoiceTells.j0 k l1 t201 true)) else (waybilllaw14_ChoiceTells.j0 k l1 t201 true))) else (waybilllaw14_ChoiceTells.j0 k l1 t201 true))) = some r := H
  have A13 := Aside0.mk A130
  clear A130
  replace H := Option.bind_eq_some_iff.mp H
  obtain ⟨⟨t222, t223⟩, A140, H⟩ := H
  replace H : (if t204 = t206 then ((waybilllaw14_num.f t205).bind fun t226 => (if t226 = t207 then (if t208 = t211 then (if t209 = t212 then ((waybilllaw14_num.f t210).bind fun t227 => (if t227 = t213 then (if t214 = t216 then ((waybilllaw14_num.f t215).bind fun t228 => (if t228 = t217 then ((waybillplain_SameLoads.f k t218 t222).bind fun t229 => (if t229 = true then ((waybilllaw14_num.f t219).bind fun t230 => (waybilllaw14_ChoiceTells.j0 k l1 t201 (t230 != t223))) else (waybilllaw14_ChoiceTells.j0 k l1 t201 true))) else (waybilllaw14_ChoiceTells.j0 k l1 t201 true))) else (waybilllaw14_ChoiceTells.j0 k l1 t201 true)) else (waybilllaw14_ChoiceTells.j0 k l1 t201 true))) else (waybilllaw14_ChoiceTells.j0 k l1 t201 true)) else (waybilllaw14_ChoiceTells.j0 k l1 t201 true)) else (waybilllaw14_ChoiceTells.j0 k l1 t201 true))) else (waybilllaw14_ChoiceTells.j0 k l1 t201 true)) = some r := H
  have A14 := Aside0.mk A140
  clear A140
  have HC15 := Aside0.mk H
  clear H
  go_enter Try.func10, Try.ntmps10
  go_upto_region 10 with (first | ((with_reducible refine gate_callee (f := 17) rfl ?_); refine goesL_ (some 31) rfl rfl Try.func17 (by kernel_rfl) rfl #[.slice A1 l1.length c1] rfl (by (try simp only [List.map_toArray, List.map_cons, List.map_nil]); first | done | rfl | (simp only [List.length_drop, List.length_take]; rfl)) ?_; (with_reducible refine (waybilllaw14_own.calls _ _ l1 t201 _ ?side1 ?side2 A6.out).mono ?_); (case side1 => repeat (first | exact HR1.out | (with_reducible refine Kd.C_alloc ?_ _) | (with_reducible refine Kd.C_drewN ?_ _) | (with_reducible refine Kd.C_drew ?_))); (case side2 => exact HC1.out); rintro e w16 ⟨v202, rfl, ho0, hb⟩; refine ⟨_, rfl, ?_⟩; have n0_ := Aside0.mk (Kd.R_lower ho0 (below_size (by repeat (first | (with_reducible first | exact HB.out | apply below_alloc | apply pw_below_drewN | apply below_drew1) | exact HB.out)))); have n1_ := Aside0.mk (below_step (by repeat (first | (with_reducible first | exact HB.out | apply below_alloc | apply pw_below_drewN | apply below_drew1) | exact HB.out)) hb); clear HB; have HO203 := n0_; have HB := n1_; clear n0_ n1_; (try clear hb); (try clear hb2); (try clear hk); (try clear hi); (try clear ho0); obtain ⟨Ao17, co17, eo17⟩ := Kd.R_slice HO203.out; subst eo17) | ((with_reducible refine gate_callee (f := 12) rfl ?_); refine goesL_ (some 34) rfl rfl Try.func12 (by kernel_rfl) rfl #[.slice Ao17 t201.length co17] rfl (by (try simp only [List.map_toArray, List.map_cons, List.map_nil]); first | done | rfl | (simp only [List.length_drop, List.length_take]; rfl)) ?_; (with_reducible refine (choice_Least.calls _ _ t201 t204 t205 _ ?side1 ?side2 A7.out).mono ?_); (case side1 => repeat (first | exact (Kd.R_reads' HO203.out).2.2 | (with_reducible refine Kd.C_alloc ?_ _) | (with_reducible refine Kd.C_drewN ?_ _) | (with_reducible refine Kd.C_drew ?_))); (case side2 => exact (Kd.R_reads' HO203.out).2.1); rintro e w18 ⟨rfl, hb⟩; refine ⟨_, rfl, ?_⟩; have n0_ := Aside0.mk (Kd.R_below (by (with_reducible repeat (first | apply Kd.R_alloc | apply Kd.R_drewN | apply Kd.R_drew)); exact HO203.out) hb); have n1_ := Aside0.mk (below_step (by repeat (first | (with_reducible first | exact HB.out | apply below_alloc | apply pw_below_drewN | apply below_drew1) | exact HB.out)) hb); clear HO203; clear HB; have HO203 := n0_; have HB := n1_; clear n0_ n1_; (try clear hb); (try clear hb2); (try clear hk); (try clear hi)) | ((with_reducible refine gate_callee (f := 30) rfl ?_); refine goesL_ (some 39) rfl rfl Try.func30 (by kernel_rfl) rfl #[.slice A1 l1.length c1] rfl (by (try simp only [List.map_toArray, List.map_cons, List.map_nil]); first | done | rfl | (simp only [List.length_drop, List.length_take]; rfl)) ?_; (with_reducible refine (waybillref14_Least.calls k _ _ l1 t206 t207 _ ?side1 ?side2 A8.out).mono ?_); (case side1 => repeat (first | exact (Kd.C_below HR1.out HB.out) | (with_reducible refine Kd.C_alloc ?_ _) | (with_reducible refine Kd.C_drewN ?_ _) | (with_reducible refine Kd.C_drew ?_))); (case side2 => exact HC1.out); rintro e w' ⟨rfl, ⟨nd, rfl⟩⟩; refine ⟨_, rfl, ?_⟩) | ((with_reducible refine gate_callee (f := 15) rfl ?_); refine goesL_ (some 45) rfl rfl Try.func15 (by kernel_rfl) rfl #[.int .u64 a0, .slice Ao17 t201.length co17] rfl (by (try simp only [List.map_toArray, List.map_cons, List.map_nil]); first | done | rfl | (simp only [List.length_drop, List.length_take]; rfl)) ?_; (with_reducible refine (choice_Two.calls a0 _ _ t201 t208 t209 t210 _ ?side1 ?side2 A9.out).mono ?_); (case side1 => repeat (first | exact (Kd.R_reads' HO203.out).2.2 | (with_reducible refine Kd.C_alloc ?_ _) | (with_reducible refine Kd.C_drewN ?_ _) | (with_reducible refine Kd.C_drew ?_))); (case side2 => exact (Kd.R_reads' HO203.out).2.1); rintro e w19 ⟨rfl, hb⟩; refine ⟨_, rfl, ?_⟩; have n0_ := Aside0.mk (Kd.R_below (by (with_reducible repeat (first | apply Kd.R_alloc | apply Kd.R_drewN | apply Kd.R_drew)); exact HO203.out) hb); have n1_ := Aside0.mk (below_step (by repeat (first | (with_reducible first | exact HB.out | apply below_alloc | apply pw_below_drewN | apply below_drew1) | exact HB.out)) hb); clear HO203; clear HB; have HO203 := n0_; have HB := n1_; clear n0_ n1_; (try clear hb); (try clear hb2); (try clear hk); (try clear hi)) | ((with_reducible refine gate_callee (f := 31) rfl ?_); refine goesL_ (some 52) rfl rfl Try.func31 (by kernel_rfl) rfl #[.int .u64 a0, .slice A1 l1.length c1] rfl (by (try simp only [List.map_toArray, List.map_cons, List.map_nil]); first | done | rfl | (simp only [List.length_drop, List.length_take]; rfl)) ?_; (with_reducible refine (waybillref14_Two.calls k a0 _ _ l1 t211 t212 t213 _ ?side1 ?side2 A10.out).mono ?_); (case side1 => repeat (first | exact (Kd.C_below HR1.out HB.out) | (with_reducible refine Kd.C_alloc ?_ _) | (with_reducible refine Kd.C_drewN ?_ _) | (with_reducible refine Kd.C_drew ?_))); (case side2 => exact HC1.out); rintro e w' ⟨rfl, ⟨nd, rfl⟩⟩; refine ⟨_, rfl, ?_⟩) | ((with_reducible refine gate_callee (f := 21) rfl ?_); refine goesL_ (some 60) rfl rfl Try.func21 (by kernel_rfl) rfl #[.slice A2 l2.length c2, .int .u64 a3, .slice Ao17 t201.length co17] rfl (by (try simp only [List.map_toArray, List.map_cons, List.map_nil]); first | done | rfl | (simp only [List.length_drop, List.length_take]; rfl)) ?_; (with_reducible refine (choice_Ring.calls _ _ l2 a3 _ _ t201 t214 t215 _ ?side1 ?side2 ?side3 ?side4 A11.out).mono ?_); (case side1 => repeat (first | exact (Kd.C_below HR2.out (by repeat (first | (with_reducible first | exact HB.out | apply below_alloc | apply pw_below_drewN | apply below_drew1) | exact HB.out))) | (with_reducible refine Kd.C_alloc ?_ _) | (with_reducible refine Kd.C_drewN ?_ _) | (with_reducible refine Kd.C_drew ?_))); (case side2 => exact HC2.out); (case side3 => repeat (first | exact (Kd.R_reads' HO203.out).2.2 | (with_reducible refine Kd.C_alloc ?_ _) | (with_reducible refine Kd.C_drewN ?_ _) | (with_reducible refine Kd.C_drew ?_))); (case side4 => exact (Kd.R_reads' HO203.out).2.1); rintro e w20 ⟨rfl, hb⟩; refine ⟨_, rfl, ?_⟩; have n0_ := Aside0.mk (Kd.R_below (by (with_reducible repeat (first | apply Kd.R_alloc | apply Kd.R_drewN | apply Kd.R_drew)); exact HO203.out) hb); have n1_ := Aside0.mk (below_step (by repeat (first | (with_reducible first | exact HB.out | apply below_alloc | apply pw_below_drewN | apply below_drew1) | exact HB.out)) hb); clear HO203; clear HB; have HO203 := n0_; have HB := n1_; clear n0_ n1_; (try clear hb); (try clear hb2); (try clear hk); (try clear hi)) | ((with_reducible refine gate_callee (f := 32) rfl ?_); refine goesL_ (some 67) rfl rfl Try.func32 (by kernel_rfl) rfl #[.slice A2 l2.length c2, .int .u64 a3, .slice A1 l1.length c1] rfl (by (try simp only [List.map_toArray, List.map_cons, List.map_nil]); first | done | rfl | (simp only [List.length_drop, List.length_take]; rfl)) ?_; (with_reducible refine (waybillref14_Ring.calls k _ _ l2 a3 _ _ l1 t216 t217 _ ?side1 ?side2 ?side3 ?side4 A12.out).mono ?_); (case side1 => repeat (first | exact (Kd.C_below HR2.out HB.out) | (with_reducible refine Kd.C_alloc ?_ _) | (with_reducible refine Kd.C_drewN ?_ _) | (with_reducible refine Kd.C_drew ?_))); (case side2 => exact HC2.out); (case side3 => repeat (first | exact (Kd.C_below HR1.out HB.out) | (with_reducible refine Kd.C_alloc ?_ _) | (with_reducible refine Kd.C_drewN ?_ _) | (with_reducible refine Kd.C_drew ?_))); (case side4 => exact HC1.out); rintro e w21 ⟨rfl, hb⟩; refine ⟨_, rfl, ?_⟩; have n0_ := Aside0.mk (Kd.R_below (by (with_reducible repeat (first | apply Kd.R_alloc | apply Kd.R_drewN | apply Kd.R_drew)); exact HO203.out) hb); have n1_ := Aside0.mk (below_step (by repeat (first | (with_reducible first | exact HB.out | apply below_alloc | apply pw_below_drewN | apply below_drew1) | exact HB.out)) hb); clear HO203; clear HB; have HO203 := n0_; have HB := n1_; clear n0_ n1_; (try clear hb); (try clear hb2); (try clear hk); (try clear hi)) | ((with_reducible refine gate_callee (f := 16) rfl ?_); refine goesL_ (some 74) rfl rfl Try.func16 (by kernel_rfl) rfl #[.int .u64 a0, .int .i64 a4, .slice Ao17 t201.length co17] rfl (by (try simp only [List.map_toArray, List.map_cons, List.map_nil]); first | done | rfl | (simp only [List.length_drop, List.length_take]; rfl)) ?_; (with_reducible refine (choice_Spread.calls a0 a4 _ _ t201 t218 t219 _ ?side1 ?side2 A13.out).mono ?_); (case side1 => repeat (first | exact (Kd.R_reads' HO203.out).2.2 | (with_reducible refine Kd.C_alloc ?_ _) | (with_reducible refine Kd.C_drewN ?_ _) | (with_reducible refine Kd.C_drew ?_))); (case side2 => exact (Kd.R_reads' HO203.out).2.1); rintro e w22 ⟨v220, rfl, ho0, hb⟩; refine ⟨_, rfl, ?_⟩; have n0_ := Aside0.mk (Kd.R_elder' (by (with_reducible repeat (first | apply Kd.R_alloc | apply Kd.R_drewN | apply Kd.R_drew)); exact HO203.out) (Kd.R_base ho0) hb); have n1_ := Aside0.mk (Kd.R_lower (Kd.R_new' ho0 (Kd.R_lt (by (with_reducible repeat (first | apply Kd.R_alloc | apply Kd.R_drewN | apply Kd.R_drew)); exact HO203.out))) (below_size (by repeat (first | (with_reducible first | exact HB.out | apply below_alloc | apply pw_below_drewN | apply below_drew1) | exact HB.out)))); have n2_ := Aside0.mk (below_step (by repeat (first | (with_reducible first | exact HB.out | apply below_alloc | apply pw_below_drewN | apply below_drew1) | exact HB.out)) hb); clear HO203; clear HB; have HO203 := n0_; have HO221 := n1_; have HB := n2_; clear n0_ n1_ n2_; (try clear hb); (try clear hb2); (try clear hk); (try clear hi); (try clear ho0)) | ((with_reducible refine gate_callee (f := 18) rfl ?_); refine goesL_ (some 81) rfl rfl Try.func18 (by kernel_rfl) rfl #[.int .u64 a0, .int .i64 a4, .slice A1 l1.length c1] rfl (by (try simp only [List.map_toArray, List.map_cons, List.map_nil]); first | done | rfl | (simp only [List.length_drop, List.length_take]; rfl)) ?_; (with_reducible refine (waybillref14_Spread.calls k a0 a4 _ _ l1 t222 t223 _ ?side1 ?side2 A14.out).mono ?_); (case side1 => repeat (first | exact (Kd.C_below HR1.out HB.out) | (with_reducible refine Kd.C_alloc ?_ _) | (with_reducible refine Kd.C_drewN ?_ _) | (with_reducible refine Kd.C_drew ?_))); (case side2 => exact HC1.out); rintro e w23 ⟨v224, rfl, ho0, hb⟩; refine ⟨_, rfl, ?_⟩; have n0_ := Aside0.mk (Kd.R_elder' (by (with_reducible repeat (first | apply Kd.R_alloc | apply Kd.R_drewN | apply Kd.R_drew)); exact HO203.out) (Kd.R_base ho0) hb); have n1_ := Aside0.mk (Kd.R_elder' (by (with_reducible repeat (first | apply Kd.R_alloc | apply Kd.R_drewN | apply Kd.R_drew)); exact HO221.out) (Kd.R_base ho0) hb); have n2_ := Aside0.mk (Kd.R_lower (Kd.R_new' (Kd.R_new' ho0 (Kd.R_lt (by (with_reducible repeat (first | apply Kd.R_alloc | apply Kd.R_drewN | apply Kd.R_drew)); exact HO203.out))) (Kd.R_lt (by (with_reducible repeat (first | apply Kd.R_alloc | apply Kd.R_drewN | apply Kd.R_drew)); exact HO221.out))) (below_size (by repeat (first | (with_reducible first | exact HB.out | apply below_alloc | apply pw_below_drewN | apply below_drew1) | exact HB.out)))); have n3_ := Aside0.mk (below_step (by repeat (first | (with_reducible first | exact HB.out | apply below_alloc | apply pw_below_drewN | apply below_drew1) | exact HB.out)) hb); clear HO203; clear HO221; clear HB; have HO203 := n0_; have HO221 := n1_; have HO225 := n2_; have HB := n3_; clear n0_ n1_ n2_ n3_; (try clear hb); (try clear hb2); (try clear hk); (try clear hi); (try clear ho0)))
  (try simp only [Act.put, List.setIfInBounds_toArray, List.set_cons_zero, List.set_cons_succ])
  go_cut [131] (fun v131 wc => ∃ (kq : Nat) (x131_14 : Bool), v131 = .bool x131_14 ∧ Aside0 (waybilllaw14_ChoiceTells.j0 kq l1 t201 x131_14 = some r) ∧ Aside0 (kq ≤ k) ∧ Aside0 (Kd.R k30 30 wc w.heap.size (fun _ => True) (.slice Ao17 t201.length co17) t201) ∧ Aside0 (Below w.heap.size w wc))
  case first =>
    have H := HC15.out
    clear HC15
    by_cases c24 : t204 = t206
    · rw [if_pos c24] at H
      have c24b0 : (t204 == t206) = true := beq_iff_eq.mpr c24
      have c24b1 : (t204 != t206) = false := bne_eq_false_iff_eq.mpr c24
      clear c24
      (first | rw [c24b0] | (simp only [i64_w, i32_w]; rw [c24b0]) | skip)
      replace H := Option.bind_eq_some_iff.mp H
      obtain ⟨t226, A250, H⟩ := H
      replace H : (if t226 = t207 then (if t208 = t211 then (if t209 = t212 then ((waybilllaw14_num.f t210).bind fun t227 => (if t227 = t213 then (if t214 = t216 then ((waybilllaw14_num.f t215).bind fun t228 => (if t228 = t217 then ((waybillplain_SameLoads.f k t218 t222).bind fun t229 => (if t229 = true then ((waybilllaw14_num.f t219).bind fun t230 => (waybilllaw14_ChoiceTells.j0 k l1 t201 (t230 != t223))) else (waybilllaw14_ChoiceTells.j0 k l1 t201 true))) else (waybilllaw14_ChoiceTells.j0 k l1 t201 true))) else (waybilllaw14_ChoiceTells.j0 k l1 t201 true)) else (waybilllaw14_ChoiceTells.j0 k l1 t201 true))) else (waybilllaw14_ChoiceTells.j0 k l1 t201 true)) else (waybilllaw14_ChoiceTells.j0 k l1 t201 true)) else (waybilllaw14_ChoiceTells.j0 k l1 t201 true)) = some r := H
      have A25 := Aside0.mk A250
      clear A250
      by_cases c26 : t226 = t207
      · rw [if_pos c26] at H
        have c26b0 : (t226 == t207) = true := beq_iff_eq.mpr c26
        have c26b1 : (t226 != t207) = false := bne_eq_false_iff_eq.mpr c26
        clear c26
        by_cases c27 : t208 = t211
        · rw [if_pos c27] at H
          have c27b0 : (t208 == t211) = true := beq_iff_eq.mpr c27
          have c27b1 : (t208 != t211) = false := bne_eq_false_iff_eq.mpr c27
          clear c27
          by_cases c28 : t209 = t212
          · rw [if_pos c28] at H
            have c28b0 : (t209 == t212) = true := beq_iff_eq.mpr c28
            have c28b1 : (t209 != t212) = false := bne_eq_false_iff_eq.mpr c28
            clear c28
            replace H := Option.bind_eq_some_iff.mp H
            obtain ⟨t227, A290, H⟩ := H
            replace H : (if t227 = t213 then (if t214 = t216 then ((waybilllaw14_num.f t215).bind fun t228 => (if t228 = t217 then ((waybillplain_SameLoads.f k t218 t222).bind fun t229 => (if t229 = true then ((waybilllaw14_num.f t219).bind fun t230 => (waybilllaw14_ChoiceTells.j0 k l1 t201 (t230 != t223))) else (waybilllaw14_ChoiceTells.j0 k l1 t201 true))) else (waybilllaw14_ChoiceTells.j0 k l1 t201 true))) else (waybilllaw14_ChoiceTells.j0 k l1 t201 true)) else (waybilllaw14_ChoiceTells.j0 k l1 t201 true)) = some r := H
            have A29 := Aside0.mk A290
            clear A290
            by_cases c30 : t227 = t213
            · rw [if_pos c30] at H
              have c30b0 : (t227 == t213) = true := beq_iff_eq.mpr c30
              have c30b1 : (t227 != t213) = false := bne_eq_false_iff_eq.mpr c30
              clear c30
              by_cases c31 : t214 = t216
              · rw [if_pos c31] at H
                have c31b0 : (t214 == t216) = true := beq_iff_eq.mpr c31
                have c31b1 : (t214 != t216) = false := bne_eq_false_iff_eq.mpr c31
                clear c31
                replace H := Option.bind_eq_some_iff.mp H
                obtain ⟨t228, A320, H⟩ := H
                replace H : (if t228 = t217 then ((waybillplain_SameLoads.f k t218 t222).bind fun t229 => (if t229 = true then ((waybilllaw14_num.f t219).bind fun t230 => (waybilllaw14_ChoiceTells.j0 k l1 t201 (t230 != t223))) else (waybilllaw14_ChoiceTells.j0 k l1 t201 true))) else (waybilllaw14_ChoiceTells.j0 k l1 t201 true)) = some r := H
                have A32 := Aside0.mk A320
                clear A320
                by_cases c33 : t228 = t217
                · rw [if_pos c33] at H
                  have c33b0 : (t228 == t217) = true := beq_iff_eq.mpr c33
                  have c33b1 : (t228 != t217) = false := bne_eq_false_iff_eq.mpr c33
                  clear c33
                  replace H := Option.bind_eq_some_iff.mp H
                  obtain ⟨t229, A340, H⟩ := H
                  replace H : (if t229 = true then ((waybilllaw14_num.f t219).bind fun t230 => (waybilllaw14_ChoiceTells.j0 k l1 t201 (t230 != t223))) else (waybilllaw14_ChoiceTells.j0 k l1 t201 true)) = some r := H
                  have A34 := Aside0.mk A340
                  clear A340
                  by_cases c35 : t229 = true
                  · subst c35
                    have H1 : ((waybilllaw14_num.f t219).bind fun t230 => (waybilllaw14_ChoiceTells.j0 k l1 t201 (t230 != t223))) = some r := by rw [if_pos rfl] at H; exact H
                    clear H
                    have H := H1
                    clear H1
                    replace H := Option.bind_eq_some_iff.mp H
                    obtain ⟨t230, A360, H⟩ := H
                    replace H : (waybilllaw14_ChoiceTells.j0 k l1 t201 (t230 != t223)) = some r := H
                    have A36 := Aside0.mk A360
                    clear A360
                    have H' := Aside0.mk H
                    clear H
                    go_wp2_with (first | (go_at_call 13; (with_reducible refine (waybilllaw14_num.calls t205 t226 _ A25.out).mono ?_); rintro e w' ⟨rfl, ⟨nd, rfl⟩⟩) | (go_at_call 13; (with_reducible refine (waybilllaw14_num.calls t210 t227 _ A29.out).mono ?_); rintro e w' ⟨rfl, ⟨nd, rfl⟩⟩) | (go_at_call 13; (with_reducible refine (waybilllaw14_num.calls t215 t228 _ A32.out).mono ?_); rintro e w' ⟨rfl, ⟨nd, rfl⟩⟩; obtain ⟨Ao37, co37, eo37⟩ := Kd.R_slice HO221.out; subst eo37; obtain ⟨Ao38, co38, eo38⟩ := Kd.R_slice HO225.out; subst eo38) | (go_at_call 19; (with_reducible refine (waybillplain_SameLoads.calls k _ _ t218 _ _ t222 true _ ?side1 ?side2 ?side3 ?side4 A34.out).mono ?_); (case side1 => repeat (first | exact (Kd.R_reads' HO221.out).2.2 | (with_reducible refine Kd.C_alloc ?_ _) | (with_reducible refine Kd.C_drewN ?_ _) | (with_reducible refine Kd.C_drew ?_))); (case side2 => exact (Kd.R_reads' HO221.out).2.1); (case side3 => repeat (first | exact (Kd.R_reads' HO225.out).2.2 | (with_reducible refine Kd.C_alloc ?_ _) | (with_reducible refine Kd.C_drewN ?_ _) | (with_reducible refine Kd.C_drew ?_))); (case side4 => exact (Kd.R_reads' HO225.out).2.1); rintro e w' ⟨rfl, ⟨nd, rfl⟩⟩) | (go_at_call 13; (with_reducible refine (waybilllaw14_num.calls t219 t230 _ A36.out).mono ?_); rintro e w' ⟨rfl, ⟨nd, rfl⟩⟩))
                    go_meet
                    case rel => exact ⟨_, ((t230 != t223)), (by first | rfl | (simp; done) | (simp [*]; done)), H', ⟨by first | omega | exact Nat.le_refl _⟩, ⟨by (with_reducible repeat (first | apply Kd.R_alloc | apply Kd.R_drewN | apply Kd.R_drew)); exact Kd.R_mono HO203.out (fun _ hk => trivial)⟩, ⟨by repeat (first | (with_reducible first | exact HB.out | apply below_alloc | apply pw_below_drewN | apply below_drew1) | exact HB.out)⟩⟩
                  · replace c35 := Bool.eq_false_iff.mpr c35
                    subst c35
                    have H1 : (waybilllaw14_ChoiceTells.j0 k l1 t201 true) = some r := by rw [if_neg (show ¬ (false = true) by decide)] at H; exact H
                    clear H
                    have H := H1
                    clear H1
                    have H' := Aside0.mk H
                    clear H
                    go_wp2_with (first | (go_at_call 13; (with_reducible refine (waybilllaw14_num.calls t205 t226 _ A25.out).mono ?_); rintro e w' ⟨rfl, ⟨nd, rfl⟩⟩) | (go_at_call 13; (with_reducible refine (waybilllaw14_num.calls t210 t227 _ A29.out).mono ?_); rintro e w' ⟨rfl, ⟨nd, rfl⟩⟩) | (go_at_call 13; (with_reducible refine (waybilllaw14_num.calls t215 t228 _ A32.out).mono ?_); rintro e w' ⟨rfl, ⟨nd, rfl⟩⟩; obtain ⟨Ao39, co39, eo39⟩ := Kd.R_slice HO221.out; subst eo39; obtain ⟨Ao40, co40, eo40⟩ := Kd.R_slice HO225.out; subst eo40) | (go_at_call 19; (with_reducible refine (waybillplain_SameLoads.calls k _ _ t218 _ _ t222 false _ ?side1 ?side2 ?side3 ?side4 A34.out).mono ?_); (case side1 => repeat (first | exact (Kd.R_reads' HO221.out).2.2 | (with_reducible refine Kd.C_alloc ?_ _) | (with_reducible refine Kd.C_drewN ?_ _) | (with_reducible refine Kd.C_drew ?_))); (case side2 => exact (Kd.R_reads' HO221.out).2.1); (case side3 => repeat (first | exact (Kd.R_reads' HO225.out).2.2 | (with_reducible refine Kd.C_alloc ?_ _) | (with_reducible refine Kd.C_drewN ?_ _) | (with_reducible refine Kd.C_drew ?_))); (case side4 => exact (Kd.R_reads' HO225.out).2.1); rintro e w' ⟨rfl, ⟨nd, rfl⟩⟩))
                    go_meet
                    case rel => exact ⟨_, (true), (by first | rfl | (simp; done) | (simp [*]; done)), H', ⟨by first | omega | exact Nat.le_refl _⟩, ⟨by (with_reducible repeat (first | apply Kd.R_alloc | apply Kd.R_drewN | apply Kd.R_drew)); exact Kd.R_mono HO203.out (fun _ hk => trivial)⟩, ⟨by repeat (first | (with_reducible first | exact HB.out | apply below_alloc | apply pw_below_drewN | apply below_drew1) | exact HB.out)⟩⟩
                · rw [if_neg c33] at H
                  have c33b0 : (t228 == t217) = false := beq_eq_false_iff_ne.mpr c33
                  have c33b1 : (t228 != t217) = true := bne_iff_ne.mpr c33
                  have H' := Aside0.mk H
                  clear H
                  go_wp2_with (first | (go_at_call 13; (with_reducible refine (waybilllaw14_num.calls t205 t226 _ A25.out).mono ?_); rintro e w' ⟨rfl, ⟨nd, rfl⟩⟩) | (go_at_call 13; (with_reducible refine (waybilllaw14_num.calls t210 t227 _ A29.out).mono ?_); rintro e w' ⟨rfl, ⟨nd, rfl⟩⟩) | (go_at_call 13; (with_reducible refine (waybilllaw14_num.calls t215 t228 _ A32.out).mono ?_); rintro e w' ⟨rfl, ⟨nd, rfl⟩⟩))
                  go_meet
                  case rel => exact ⟨_, (true), (by first | rfl | (simp; done) | (simp [*]; done)), H', ⟨by first | omega | exact Nat.le_refl _⟩, ⟨by (with_reducible repeat (first | apply Kd.R_alloc | apply Kd.R_drewN | apply Kd.R_drew)); exact Kd.R_mono HO203.out (fun _ hk => trivial)⟩, ⟨by repeat (first | (with_reducible first | exact HB.out | apply below_alloc | apply pw_below_drewN | apply below_drew1) | exact HB.out)⟩⟩
              · rw [if_neg c31] at H
                have c31b0 : (t214 == t216) = false := beq_eq_false_iff_ne.mpr c31
                have c31b1 : (t214 != t216) = true := bne_iff_ne.mpr c31
                have H' := Aside0.mk H
                clear H
                go_wp2_with (first | (go_at_call 13; (with_reducible refine (waybilllaw14_num.calls t205 t226 _ A25.out).mono ?_); rintro e w' ⟨rfl, ⟨nd, rfl⟩⟩) | (go_at_call 13; (with_reducible refine (waybilllaw14_num.calls t210 t227 _ A29.out).mono ?_); rintro e w' ⟨rfl, ⟨nd, rfl⟩⟩))
                go_meet
                case rel => exact ⟨_, (true), (by first | rfl | (simp; done) | (simp [*]; done)), H', ⟨by first | omega | exact Nat.le_refl _⟩, ⟨by (with_reducible repeat (first | apply Kd.R_alloc | apply Kd.R_drewN | apply Kd.R_drew)); exact Kd.R_mono HO203.out (fun _ hk => trivial)⟩, ⟨by repeat (first | (with_reducible first | exact HB.out | apply below_alloc | apply pw_below_drewN | apply below_drew1) | exact HB.out)⟩⟩
            · rw [if_neg c30] at H
              have c30b0 : (t227 == t213) = false := beq_eq_false_iff_ne.mpr c30
              have c30b1 : (t227 != t213) = true := bne_iff_ne.mpr c30
              have H' := Aside0.mk H
              clear H
              go_wp2_with (first | (go_at_call 13; (with_reducible refine (waybilllaw14_num.calls t205 t226 _ A25.out).mono ?_); rintro e w' ⟨rfl, ⟨nd, rfl⟩⟩) | (go_at_call 13; (with_reducible refine (waybilllaw14_num.calls t210 t227 _ A29.out).mono ?_); rintro e w' ⟨rfl, ⟨nd, rfl⟩⟩))
              go_meet
              case rel => exact ⟨_, (true), (by first | rfl | (simp; done) | (simp [*]; done)), H', ⟨by first | omega | exact Nat.le_refl _⟩, ⟨by (with_reducible repeat (first | apply Kd.R_alloc | apply Kd.R_drewN | apply Kd.R_drew)); exact Kd.R_mono HO203.out (fun _ hk => trivial)⟩, ⟨by repeat (first | (with_reducible first | exact HB.out | apply below_alloc | apply pw_below_drewN | apply below_drew1) | exact HB.out)⟩⟩
          · rw [if_neg c28] at H
            have c28b0 : (t209 == t212) = false := beq_eq_false_iff_ne.mpr c28
            have c28b1 : (t209 != t212) = true := bne_iff_ne.mpr c28
            have H' := Aside0.mk H
            clear H
            go_wp2_with (first | (go_at_call 13; (with_reducible refine (waybilllaw14_num.calls t205 t226 _ A25.out).mono ?_); rintro e w' ⟨rfl, ⟨nd, rfl⟩⟩))
            go_meet
            case rel => exact ⟨_, (true), (by first | rfl | (simp; done) | (simp [*]; done)), H', ⟨by first | omega | exact Nat.le_refl _⟩, ⟨by (with_reducible repeat (first | apply Kd.R_alloc | apply Kd.R_drewN | apply Kd.R_drew)); exact Kd.R_mono HO203.out (fun _ hk => trivial)⟩, ⟨by repeat (first | (with_reducible first | exact HB.out | apply below_alloc | apply pw_below_drewN | apply below_drew1) | exact HB.out)⟩⟩
        · rw [if_neg c27] at H
          have c27b0 : (t208 == t211) = false := beq_eq_false_iff_ne.mpr c27
          have c27b1 : (t208 != t211) = true := bne_iff_ne.mpr c27
          have H' := Aside0.mk H
          clear H
          go_wp2_with (first | (go_at_call 13; (with_reducible refine (waybilllaw14_num.calls t205 t226 _ A25.out).mono ?_); rintro e w' ⟨rfl, ⟨nd, rfl⟩⟩))
          go_meet
          case rel => exact ⟨_, (true), (by first | rfl | (simp; done) | (simp [*]; done)), H', ⟨by first | omega | exact Nat.le_refl _⟩, ⟨by (with_reducible repeat (first | apply Kd.R_alloc | apply Kd.R_drewN | apply Kd.R_drew)); exact Kd.R_mono HO203.out (fun _ hk => trivial)⟩, ⟨by repeat (first | (with_reducible first | exact HB.out | apply below_alloc | apply pw_below_drewN | apply below_drew1) | exact HB.out)⟩⟩
      · rw [if_neg c26] at H
        have c26b0 : (t226 == t207) = false := beq_eq_false_iff_ne.mpr c26
        have c26b1 : (t226 != t207) = true := bne_iff_ne.mpr c26
        have H' := Aside0.mk H
        clear H
        go_wp2_with (first | (go_at_call 13; (with_reducible refine (waybilllaw14_num.calls t205 t226 _ A25.out).mono ?_); rintro e w' ⟨rfl, ⟨nd, rfl⟩⟩))
        go_meet
        case rel => exact ⟨_, (true), (by first | rfl | (simp; done) | (simp [*]; done)), H', ⟨by first | omega | exact Nat.le_refl _⟩, ⟨by (with_reducible repeat (first | apply Kd.R_alloc | apply Kd.R_drewN | apply Kd.R_drew)); exact Kd.R_mono HO203.out (fun _ hk => trivial)⟩, ⟨by repeat (first | (with_reducible first | exact HB.out | apply below_alloc | apply pw_below_drewN | apply below_drew1) | exact HB.out)⟩⟩
    · rw [if_neg c24] at H
      have c24b0 : (t204 == t206) = false := beq_eq_false_iff_ne.mpr c24
      have c24b1 : (t204 != t206) = true := bne_iff_ne.mpr c24
      (first | rw [c24b0] | (simp only [i64_w, i32_w]; rw [c24b0]) | skip)
      have H' := Aside0.mk H
      clear H
      go_wp2
      go_meet
      case rel => exact ⟨_, (true), (by first | rfl | (simp; done) | (simp [*]; done)), H', ⟨by first | omega | exact Nat.le_refl _⟩, ⟨by (with_reducible repeat (first | apply Kd.R_alloc | apply Kd.R_drewN | apply Kd.R_drew)); exact Kd.R_mono HO203.out (fun _ hk => trivial)⟩, ⟨by repeat (first | (with_reducible first | exact HB.out | apply below_alloc | apply pw_below_drewN | apply below_drew1) | exact HB.out)⟩⟩
  case rest =>
    clear HC15
    try clear c1
    try clear c2
    try clear p2
    try clear c3
    try clear c10
    try clear c12
    try clear c15
    try clear c16
    try clear c17
    try clear c18
    try clear c21
    try clear c24
    try clear c24b0
    try clear c24b1
    try clear c26
    try clear c26b0
    try clear c26b1
    try clear c27
    try clear c27b0
    try clear c27b1
    try clear c28
    try clear c28b0
    try clear c28b1
    try clear c30
    try clear c30b0
    try clear c30b1
    try clear c31
    try clear c31b0
    try clear c31b1
    try clear c32
    try clear c33
    try clear c33b0
    try clear c33b1
    try clear c35
    obtain ⟨kq, x131_14, rfl, HA, HJ14, HO_11, HB⟩ := hcut
    cases kq with
    | zero => exact absurd HA.out (by simp [waybilllaw14_ChoiceTells.j0])
    | succ kj14 =>
      have H := HA.out
      clear HA
      simp only [waybilllaw14_ChoiceTells.j0] at H
      by_cases c41 : x131_14 = true
      · subst c41
        have H1 : (some false) = some r := by rw [if_pos rfl] at H; exact H
        clear H
        have H := H1
        clear H1
        obtain rfl := Option.some.inj H
        go_wp2
        go_ret
        exact ⟨by first | rfl | (simp [errW_none, errW_some] <;> rfl) | (simp [*, errW_none, errW_some] <;> rfl), by repeat (first | (with_reducible first | exact HB.out | apply below_alloc | apply pw_below_drewN | apply below_drew1) | exact HB.out)⟩
      · replace c41 := Bool.eq_false_iff.mpr c41
        subst c41
        have H1 : ((choice_Check.f l1).bind fun t231 => ((waybilllaw14_num.f t231).bind fun t232 => ((waybillref14_Check.f kj14 l1).bind fun t233 => (if t232 = t233 then ((waybillplain_SameLoads.f kj14 t201 l1).bind fun t234 => (if t234 = true then ((waybilllaw14_alive.f).bind fun t235 => (some t235)) else (some false))) else (some false))))) = some r := by rw [if_neg (show ¬ (false = true) by decide)] at H; exact H
        clear H
        have H := H1
        clear H1
        replace H := Option.bind_eq_some_iff.mp H
        obtain ⟨t231, A420, H⟩ := H
        replace H : ((waybilllaw14_num.f t231).bind fun t232 => ((waybillref14_Check.f kj14 l1).bind fun t233 => (if t232 = t233 then ((waybillplain_SameLoads.f kj14 t201 l1).bind fun t234 => (if t234 = true then ((waybilllaw14_alive.f).bind fun t235 => (some t235)) else (some false))) else (some false)))) = some r := H
        have A42 := Aside0.mk A420
        clear A420
        replace H := Option.bind_eq_some_iff.mp H
        obtain ⟨t232, A430, H⟩ := H
        replace H : ((waybillref14_Check.f kj14 l1).bind fun t233 => (if t232 = t233 then ((waybillplain_SameLoads.f kj14 t201 l1).bind fun t234 => (if t234 = true then ((waybilllaw14_alive.f).bind fun t235 => (some t235)) else (some false))) else (some false))) = some r := H
        have A43 := Aside0.mk A430
        clear A430
        replace H := Option.bind_eq_some_iff.mp H
        obtain ⟨t233, A440, H⟩ := H
        replace H : (if t232 = t233 then ((waybillplain_SameLoads.f kj14 t201 l1).bind fun t234 => (if t234 = true then ((waybilllaw14_alive.f).bind fun t235 => (some t235)) else (some false))) else (some false)) = some r := H
        have A44 := Aside0.mk A440
        clear A440
        by_cases c45 : t232 = t233
        · rw [if_pos c45] at H
          have c45b0 : (t232 == t233) = true := beq_iff_eq.mpr c45
          have c45b1 : (t232 != t233) = false := bne_eq_false_iff_eq.mpr c45
          clear c45
          replace H := Option.bind_eq_some_iff.mp H
          obtain ⟨t234, A460, H⟩ := H
          replace H : (if t234 = true then ((waybilllaw14_alive.f).bind fun t235 => (some t235)) else (some false)) = some r := H
          have A46 := Aside0.mk A460
          clear A460
          by_cases c47 : t234 = true
          · subst c47
            have H1 : ((waybilllaw14_alive.f).bind fun t235 => (some t235)) = some r := by rw [if_pos rfl] at H; exact H
            clear H
            have H := H1
            clear H1
            replace H := Option.bind_eq_some_iff.mp H
            obtain ⟨t235, A480, H⟩ := H
            replace H : (some t235) = some r := H
            have A48 := Aside0.mk A480
            clear A480
            obtain rfl := Option.some.inj H
            go_wp2_with (first | ((with_reducible refine gate_callee (f := 23) rfl ?_); refine goesL_ (some 133) rfl rfl Try.func23 (by kernel_rfl) rfl #[.slice A1 l1.length c1] rfl (by (try simp only [List.map_toArray, List.map_cons, List.map_nil]); first | done | rfl | (simp only [List.length_drop, List.length_take]; rfl)) ?_; (with_reducible refine (choice_Check.calls _ _ l1 t231 _ ?side1 ?side2 A42.out).mono ?_); (case side1 => repeat (first | exact (Kd.C_below HR1.out HB.out) | (with_reducible refine Kd.C_alloc ?_ _) | (with_reducible refine Kd.C_drewN ?_ _) | (with_reducible refine Kd.C_drew ?_))); (case side2 => exact HC1.out); rintro e w49 ⟨rfl, hb⟩; refine ⟨_, rfl, ?_⟩; have n0_ := Aside0.mk (Kd.R_below (by (with_reducible repeat (first | apply Kd.R_alloc | apply Kd.R_drewN | apply Kd.R_drew)); exact HO_11.out) hb); have n1_ := Aside0.mk (below_step (by repeat (first | (with_reducible first | exact HB.out | apply below_alloc | apply pw_below_drewN | apply below_drew1) | exact HB.out)) hb); clear HO_11; clear HB; have HO_11 := n0_; have HB := n1_; clear n0_ n1_; (try clear hb); (try clear hb2); (try clear hk); (try clear hi)) | ((with_reducible refine gate_callee (f := 13) rfl ?_); refine goesL_ (some 134) rfl rfl Try.func13 (by kernel_rfl) rfl #[.int .i64 t231] rfl (by (try simp only [List.map_toArray, List.map_cons, List.map_nil]); first | done | rfl | (simp only [List.length_drop, List.length_take]; rfl)) ?_; (with_reducible refine (waybilllaw14_num.calls t231 t232 _ A43.out).mono ?_); rintro e w' ⟨rfl, ⟨nd, rfl⟩⟩; refine ⟨_, rfl, ?_⟩) | ((with_reducible refine gate_callee (f := 33) rfl ?_); refine goesL_ (some 136) rfl rfl Try.func33 (by kernel_rfl) rfl #[.slice A1 l1.length c1] rfl (by (try simp only [List.map_toArray, List.map_cons, List.map_nil]); first | done | rfl | (simp only [List.length_drop, List.length_take]; rfl)) ?_; (with_reducible refine (waybillref14_Check.calls kj14 _ _ l1 t233 _ ?side1 ?side2 A44.out).mono ?_); (case side1 => repeat (first | exact (Kd.C_below HR1.out (by repeat (first | (with_reducible first | exact HB.out | apply below_alloc | apply pw_below_drewN | apply below_drew1) | exact HB.out))) | (with_reducible refine Kd.C_alloc ?_ _) | (with_reducible refine Kd.C_drewN ?_ _) | (with_reducible refine Kd.C_drew ?_))); (case side2 => exact HC1.out); rintro e w' ⟨rfl, ⟨nd, rfl⟩⟩; refine ⟨_, rfl, ?_⟩) | (go_at_call 19; (with_reducible refine (waybillplain_SameLoads.calls kj14 _ _ t201 _ _ l1 true _ ?side1 ?side2 ?side3 ?side4 A46.out).mono ?_); (case side1 => repeat (first | exact (Kd.R_reads' HO_11.out).2.2 | (with_reducible refine Kd.C_alloc ?_ _) | (with_reducible refine Kd.C_drewN ?_ _) | (with_reducible refine Kd.C_drew ?_))); (case side2 => exact (Kd.R_reads' HO_11.out).2.1); (case side3 => repeat (first | exact (Kd.C_below HR1.out (by repeat (first | (with_reducible first | exact HB.out | apply below_alloc | apply pw_below_drewN | apply below_drew1) | exact HB.out))) | (with_reducible refine Kd.C_alloc ?_ _) | (with_reducible refine Kd.C_drewN ?_ _) | (with_reducible refine Kd.C_drew ?_))); (case side4 => exact HC1.out); rintro e w' ⟨rfl, ⟨nd, rfl⟩⟩) | (go_at_call 11; (with_reducible refine (waybilllaw14_alive.calls  t235 _ A48.out).mono ?_); rintro e w50 ⟨rfl, hb⟩; have n0_ := Aside0.mk (Kd.R_below (by (with_reducible repeat (first | apply Kd.R_alloc | apply Kd.R_drewN | apply Kd.R_drew)); exact HO_11.out) hb); have n1_ := Aside0.mk (below_step (by repeat (first | (with_reducible first | exact HB.out | apply below_alloc | apply pw_below_drewN | apply below_drew1) | exact HB.out)) hb); clear HO_11; clear HB; have HO_11 := n0_; have HB := n1_; clear n0_ n1_; (try clear hb); (try clear hb2); (try clear hk); (try clear hi)))
            go_ret
            exact ⟨by first | rfl | (simp [errW_none, errW_some] <;> rfl) | (simp [*, errW_none, errW_some] <;> rfl), by repeat (first | (with_reducible first | exact HB.out | apply below_alloc | apply pw_below_drewN | apply below_drew1) | exact HB.out)⟩
          · replace c47 := Bool.eq_false_iff.mpr c47
            subst c47
            have H1 : (some false) = some r := by rw [if_neg (show ¬ (false = true) by decide)] at H; exact H
            clear H
            have H := H1
            clear H1
            obtain rfl := Option.some.inj H
            go_wp2_with (first | ((with_reducible refine gate_callee (f := 23) rfl ?_); refine goesL_ (some 133) rfl rfl Try.func23 (by kernel_rfl) rfl #[.slice A1 l1.length c1] rfl (by (try simp only [List.map_toArray, List.map_cons, List.map_nil]); first | done | rfl | (simp only [List.length_drop, List.length_take]; rfl)) ?_; (with_reducible refine (choice_Check.calls _ _ l1 t231 _ ?side1 ?side2 A42.out).mono ?_); (case side1 => repeat (first | exact (Kd.C_below HR1.out HB.out) | (with_reducible refine Kd.C_alloc ?_ _) | (with_reducible refine Kd.C_drewN ?_ _) | (with_reducible refine Kd.C_drew ?_))); (case side2 => exact HC1.out); rintro e w51 ⟨rfl, hb⟩; refine ⟨_, rfl, ?_⟩; have n0_ := Aside0.mk (Kd.R_below (by (with_reducible repeat (first | apply Kd.R_alloc | apply Kd.R_drewN | apply Kd.R_drew)); exact HO_11.out) hb); have n1_ := Aside0.mk (below_step (by repeat (first | (with_reducible first | exact HB.out | apply below_alloc | apply pw_below_drewN | apply below_drew1) | exact HB.out)) hb); clear HO_11; clear HB; have HO_11 := n0_; have HB := n1_; clear n0_ n1_; (try clear hb); (try clear hb2); (try clear hk); (try clear hi)) | ((with_reducible refine gate_callee (f := 13) rfl ?_); refine goesL_ (some 134) rfl rfl Try.func13 (by kernel_rfl) rfl #[.int .i64 t231] rfl (by (try simp only [List.map_toArray, List.map_cons, List.map_nil]); first | done | rfl | (simp only [List.length_drop, List.length_take]; rfl)) ?_; (with_reducible refine (waybilllaw14_num.calls t231 t232 _ A43.out).mono ?_); rintro e w' ⟨rfl, ⟨nd, rfl⟩⟩; refine ⟨_, rfl, ?_⟩) | ((with_reducible refine gate_callee (f := 33) rfl ?_); refine goesL_ (some 136) rfl rfl Try.func33 (by kernel_rfl) rfl #[.slice A1 l1.length c1] rfl (by (try simp only [List.map_toArray, List.map_cons, List.map_nil]); first | done | rfl | (simp only [List.length_drop, List.length_take]; rfl)) ?_; (with_reducible refine (waybillref14_Check.calls kj14 _ _ l1 t233 _ ?side1 ?side2 A44.out).mono ?_); (case side1 => repeat (first | exact (Kd.C_below HR1.out (by repeat (first | (with_reducible first | exact HB.out | apply below_alloc | apply pw_below_drewN | apply below_drew1) | exact HB.out))) | (with_reducible refine Kd.C_alloc ?_ _) | (with_reducible refine Kd.C_drewN ?_ _) | (with_reducible refine Kd.C_drew ?_))); (case side2 => exact HC1.out); rintro e w' ⟨rfl, ⟨nd, rfl⟩⟩; refine ⟨_, rfl, ?_⟩) | (go_at_call 19; (with_reducible refine (waybillplain_SameLoads.calls kj14 _ _ t201 _ _ l1 false _ ?side1 ?side2 ?side3 ?side4 A46.out).mono ?_); (case side1 => repeat (first | exact (Kd.R_reads' HO_11.out).2.2 | (with_reducible refine Kd.C_alloc ?_ _) | (with_reducible refine Kd.C_drewN ?_ _) | (with_reducible refine Kd.C_drew ?_))); (case side2 => exact (Kd.R_reads' HO_11.out).2.1); (case side3 => repeat (first | exact (Kd.C_below HR1.out (by repeat (first | (with_reducible first | exact HB.out | apply below_alloc | apply pw_below_drewN | apply below_drew1) | exact HB.out))) | (with_reducible refine Kd.C_alloc ?_ _) | (with_reducible refine Kd.C_drewN ?_ _) | (with_reducible refine Kd.C_drew ?_))); (case side4 => exact HC1.out); rintro e w' ⟨rfl, ⟨nd, rfl⟩⟩))
            go_ret
            exact ⟨by first | rfl | (simp [errW_none, errW_some] <;> rfl) | (simp [*, errW_none, errW_some] <;> rfl), by repeat (first | (with_reducible first | exact HB.out | apply below_alloc | apply pw_below_drewN | apply below_drew1) | exact HB.out)⟩
        · rw [if_neg c45] at H
          have c45b0 : (t232 == t233) = false := beq_eq_false_iff_ne.mpr c45
          have c45b1 : (t232 != t233) = true := bne_iff_ne.mpr c45
          obtain rfl := Option.some.inj H
          go_wp2_with (first | ((with_reducible refine gate_callee (f := 23) rfl ?_); refine goesL_ (some 133) rfl rfl Try.func23 (by kernel_rfl) rfl #[.slice A1 l1.length c1] rfl (by (try simp only [List.map_toArray, List.map_cons, List.map_nil]); first | done | rfl | (simp only [List.length_drop, List.length_take]; rfl)) ?_; (with_reducible refine (choice_Check.calls _ _ l1 t231 _ ?side1 ?side2 A42.out).mono ?_); (case side1 => repeat (first | exact (Kd.C_below HR1.out HB.out) | (with_reducible refine Kd.C_alloc ?_ _) | (with_reducible refine Kd.C_drewN ?_ _) | (with_reducible refine Kd.C_drew ?_))); (case side2 => exact HC1.out); rintro e w52 ⟨rfl, hb⟩; refine ⟨_, rfl, ?_⟩; have n0_ := Aside0.mk (Kd.R_below (by (with_reducible repeat (first | apply Kd.R_alloc | apply Kd.R_drewN | apply Kd.R_drew)); exact HO_11.out) hb); have n1_ := Aside0.mk (below_step (by repeat (first | (with_reducible first | exact HB.out | apply below_alloc | apply pw_below_drewN | apply below_drew1) | exact HB.out)) hb); clear HO_11; clear HB; have HO_11 := n0_; have HB := n1_; clear n0_ n1_; (try clear hb); (try clear hb2); (try clear hk); (try clear hi)) | ((with_reducible refine gate_callee (f := 13) rfl ?_); refine goesL_ (some 134) rfl rfl Try.func13 (by kernel_rfl) rfl #[.int .i64 t231] rfl (by (try simp only [List.map_toArray, List.map_cons, List.map_nil]); first | done | rfl | (simp only [List.length_drop, List.length_take]; rfl)) ?_; (with_reducible refine (waybilllaw14_num.calls t231 t232 _ A43.out).mono ?_); rintro e w' ⟨rfl, ⟨nd, rfl⟩⟩; refine ⟨_, rfl, ?_⟩) | ((with_reducible refine gate_callee (f := 33) rfl ?_); refine goesL_ (some 136) rfl rfl Try.func33 (by kernel_rfl) rfl #[.slice A1 l1.length c1] rfl (by (try simp only [List.map_toArray, List.map_cons, List.map_nil]); first | done | rfl | (simp only [List.length_drop, List.length_take]; rfl)) ?_; (with_reducible refine (waybillref14_Check.calls kj14 _ _ l1 t233 _ ?side1 ?side2 A44.out).mono ?_); (case side1 => repeat (first | exact (Kd.C_below HR1.out (by repeat (first | (with_reducible first | exact HB.out | apply below_alloc | apply pw_below_drewN | apply below_drew1) | exact HB.out))) | (with_reducible refine Kd.C_alloc ?_ _) | (with_reducible refine Kd.C_drewN ?_ _) | (with_reducible refine Kd.C_drew ?_))); (case side2 => exact HC1.out); rintro e w' ⟨rfl, ⟨nd, rfl⟩⟩; refine ⟨_, rfl, ?_⟩))
          go_ret
          exact ⟨by first | rfl | (simp [errW_none, errW_some] <;> rfl) | (simp [*, errW_none, errW_some] <;> rfl), by repeat (first | (with_reducible first | exact HB.out | apply below_alloc | apply pw_below_drewN | apply below_drew1) | exact HB.out)⟩

end Go.Proofs.Ytemleanglkaedaa.EChoiceTells
