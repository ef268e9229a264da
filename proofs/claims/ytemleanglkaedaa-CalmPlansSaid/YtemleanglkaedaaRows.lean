/-
  No cell of these rows narrows 'for every input' (looked for: loops, veiled, ifaces, maps, wideKeys, modest, calm, conditions, laid).
  DERIVED. THE GIVEN ROWS OF THIS SEAT. 8 by the template 'for every input the law returns true; each argument reads behind the call as it read before'; 0 by the template 'total and deterministic' (their statements: YtemleanglkaedaaTotals.lean).
  GIVEN WITH THE SEED: the statements are not yours to turn. If you find one false, say at which input.
  Laid BY PROGRAM, IN A SANDBOX (cutbox-rows.mjs): the forced cells as the released guide's own fill.sh prints them over the translation 576daf3e0f389c8f… (all of the seat's roots in one cut). By AI agents, Wed Nov 11 2026. No macro, syntax, notation, axiom, sorry.
-/
import Derived.Test.YtemleanglkaedaaChecked
import GoSem.Claim
import GoSem.ClaimJoined
import GoSem.ClaimMapViews
import Derived.JoinedTies
import Derived.KernelRfl
namespace Go.Proofs.Ytemleanglkaedaa
/- THE CELL 'sum', in the pinned program and in every row, IS THE sha256 OF THE DUMP (.gsa) THAT YtemleanglkaedaaProg.lean LOADS. Nothing in Lean hashes anything: it is a label: what it is worth is what the hold of that sum in a sandbox is worth. -/
noncomputable def Try.pinned : Pinned := { name := "ytemleanglkaedaa", sum := "576daf3e0f389c8ff9f69e019eb0012d4e2f3b44b9f91d3e0731270d358b9aef", checked := Try.checked }
namespace Rows
def none {H : Type} : Left H := { results := [], args := [] }

/-- 'waybilllaw14.ChoiceLeast': WHATEVER THE INPUT: true; the input reads as it did. -/
def choiceLeastSpec : ChangeSpec := { name := "choiceLeast", fn := fun _ => fun
  | [d] => { results := [.lit (.bool true)], args := [d] }
  | _ => none }
def choiceLeastRow : OpenClaim := { program := "ytemleanglkaedaa", sum := "576daf3e0f389c8ff9f69e019eb0012d4e2f3b44b9f91d3e0731270d358b9aef", func := "waybill/waybilllaw14.ChoiceLeast", spec := "choiceLeast", unfollowed := true, recurses := true, apart := false }
def ChoiceLeastSaid : Prop := choiceLeastRow.holds Try.pinned (OpenSpec.ofChange choiceLeastSpec)

/-- ITS FALSE NEIGHBOUR: 'it returns false'. Refute it at one input. -/
def choiceLeastWrong : ChangeSpec := { name := "choiceLeast", fn := fun _ => fun
  | [d] => { results := [.lit (.bool false)], args := [d] }
  | _ => none }
def ChoiceLeastWrongFalsely : Prop := choiceLeastRow.holds Try.pinned (OpenSpec.ofChange choiceLeastWrong)

/-- 'waybilllaw14.ChoiceOne': WHATEVER THE INPUT: true; the input reads as it did. -/
def choiceOneSpec : ChangeSpec := { name := "choiceOne", fn := fun _ => fun
  | [d1, d2] => { results := [.lit (.bool true)], args := [d1, d2] }
  | _ => none }
def choiceOneRow : OpenClaim := { program := "ytemleanglkaedaa", sum := "576daf3e0f389c8ff9f69e019eb0012d4e2f3b44b9f91d3e0731270d358b9aef", func := "waybill/waybilllaw14.ChoiceOne", spec := "choiceOne", unfollowed := true, recurses := true, apart := false }
def ChoiceOneSaid : Prop := choiceOneRow.holds Try.pinned (OpenSpec.ofChange choiceOneSpec)

/-- ITS FALSE NEIGHBOUR: 'it returns false'. Refute it at one input. -/
def choiceOneWrong : ChangeSpec := { name := "choiceOne", fn := fun _ => fun
  | [d1, d2] => { results := [.lit (.bool false)], args := [d1, d2] }
  | _ => none }
def ChoiceOneWrongFalsely : Prop := choiceOneRow.holds Try.pinned (OpenSpec.ofChange choiceOneWrong)

/-- 'waybilllaw14.ChoiceSpreads': WHATEVER THE INPUT: true; the input reads as it did. -/
def choiceSpreadsSpec : ChangeSpec := { name := "choiceSpreads", fn := fun _ => fun
  | [d1, d2, d3] => { results := [.lit (.bool true)], args := [d1, d2, d3] }
  | _ => none }
def choiceSpreadsRow : OpenClaim := { program := "ytemleanglkaedaa", sum := "576daf3e0f389c8ff9f69e019eb0012d4e2f3b44b9f91d3e0731270d358b9aef", func := "waybill/waybilllaw14.ChoiceSpreads", spec := "choiceSpreads", unfollowed := true, recurses := true, apart := false }
def ChoiceSpreadsSaid : Prop := choiceSpreadsRow.holds Try.pinned (OpenSpec.ofChange choiceSpreadsSpec)

/-- ITS FALSE NEIGHBOUR: 'it returns false'. Refute it at one input. -/
def choiceSpreadsWrong : ChangeSpec := { name := "choiceSpreads", fn := fun _ => fun
  | [d1, d2, d3] => { results := [.lit (.bool false)], args := [d1, d2, d3] }
  | _ => none }
def ChoiceSpreadsWrongFalsely : Prop := choiceSpreadsRow.holds Try.pinned (OpenSpec.ofChange choiceSpreadsWrong)

/-- 'waybilllaw14.ChoiceOwn': WHATEVER THE INPUT: true; the input reads as it did. -/
def choiceOwnSpec : ChangeSpec := { name := "choiceOwn", fn := fun _ => fun
  | [d1, d2, d3] => { results := [.lit (.bool true)], args := [d1, d2, d3] }
  | _ => none }
def choiceOwnRow : OpenClaim := { program := "ytemleanglkaedaa", sum := "576daf3e0f389c8ff9f69e019eb0012d4e2f3b44b9f91d3e0731270d358b9aef", func := "waybill/waybilllaw14.ChoiceOwn", spec := "choiceOwn", unfollowed := true, recurses := true, apart := false }
def ChoiceOwnSaid : Prop := choiceOwnRow.holds Try.pinned (OpenSpec.ofChange choiceOwnSpec)

/-- ITS FALSE NEIGHBOUR: 'it returns false'. Refute it at one input. -/
def choiceOwnWrong : ChangeSpec := { name := "choiceOwn", fn := fun _ => fun
  | [d1, d2, d3] => { results := [.lit (.bool false)], args := [d1, d2, d3] }
  | _ => none }
def ChoiceOwnWrongFalsely : Prop := choiceOwnRow.holds Try.pinned (OpenSpec.ofChange choiceOwnWrong)

/-- 'waybilllaw14.ChoiceRing': WHATEVER THE INPUT: true; the input reads as it did. -/
def choiceRingSpec : ChangeSpec := { name := "choiceRing", fn := fun _ => fun
  | [d1, d2, d3, d4] => { results := [.lit (.bool true)], args := [d1, d2, d3, d4] }
  | _ => none }
def choiceRingRow : OpenClaim := { program := "ytemleanglkaedaa", sum := "576daf3e0f389c8ff9f69e019eb0012d4e2f3b44b9f91d3e0731270d358b9aef", func := "waybill/waybilllaw14.ChoiceRing", spec := "choiceRing", unfollowed := true, recurses := true, apart := false }
def ChoiceRingSaid : Prop := choiceRingRow.holds Try.pinned (OpenSpec.ofChange choiceRingSpec)

/-- ITS FALSE NEIGHBOUR: 'it returns false'. Refute it at one input. -/
def choiceRingWrong : ChangeSpec := { name := "choiceRing", fn := fun _ => fun
  | [d1, d2, d3, d4] => { results := [.lit (.bool false)], args := [d1, d2, d3, d4] }
  | _ => none }
def ChoiceRingWrongFalsely : Prop := choiceRingRow.holds Try.pinned (OpenSpec.ofChange choiceRingWrong)

/-- 'waybilllaw32.CalmPlans': WHATEVER THE INPUT: true; the input reads as it did. -/
def calmPlansSpec : ChangeSpec := { name := "calmPlans", fn := fun _ => fun
  | [d1, d2, d3, d4, d5] => { results := [.lit (.bool true)], args := [d1, d2, d3, d4, d5] }
  | _ => none }
def calmPlansRow : OpenClaim := { program := "ytemleanglkaedaa", sum := "576daf3e0f389c8ff9f69e019eb0012d4e2f3b44b9f91d3e0731270d358b9aef", func := "waybill/waybilllaw32.CalmPlans", spec := "calmPlans", unfollowed := true, recurses := true, apart := false }
def CalmPlansSaid : Prop := calmPlansRow.holds Try.pinned (OpenSpec.ofChange calmPlansSpec)

/-- ITS FALSE NEIGHBOUR: 'it returns false'. Refute it at one input. -/
def calmPlansWrong : ChangeSpec := { name := "calmPlans", fn := fun _ => fun
  | [d1, d2, d3, d4, d5] => { results := [.lit (.bool false)], args := [d1, d2, d3, d4, d5] }
  | _ => none }
def CalmPlansWrongFalsely : Prop := calmPlansRow.holds Try.pinned (OpenSpec.ofChange calmPlansWrong)

/-- 'waybilllaw32.CalmIssues': WHATEVER THE INPUT: true; the input reads as it did. -/
def calmIssuesSpec : ChangeSpec := { name := "calmIssues", fn := fun _ => fun
  | [d1, d2, d3, d4, d5] => { results := [.lit (.bool true)], args := [d1, d2, d3, d4, d5] }
  | _ => none }
def calmIssuesRow : OpenClaim := { program := "ytemleanglkaedaa", sum := "576daf3e0f389c8ff9f69e019eb0012d4e2f3b44b9f91d3e0731270d358b9aef", func := "waybill/waybilllaw32.CalmIssues", spec := "calmIssues", unfollowed := true, recurses := true, apart := false }
def CalmIssuesSaid : Prop := calmIssuesRow.holds Try.pinned (OpenSpec.ofChange calmIssuesSpec)

/-- ITS FALSE NEIGHBOUR: 'it returns false'. Refute it at one input. -/
def calmIssuesWrong : ChangeSpec := { name := "calmIssues", fn := fun _ => fun
  | [d1, d2, d3, d4, d5] => { results := [.lit (.bool false)], args := [d1, d2, d3, d4, d5] }
  | _ => none }
def CalmIssuesWrongFalsely : Prop := calmIssuesRow.holds Try.pinned (OpenSpec.ofChange calmIssuesWrong)

/-- 'waybilllaw14.ChoiceTells': WHATEVER THE INPUT: true; the input reads as it did. -/
def choiceTellsSpec : ChangeSpec := { name := "choiceTells", fn := fun _ => fun
  | [d1, d2, d3, d4, d5] => { results := [.lit (.bool true)], args := [d1, d2, d3, d4, d5] }
  | _ => none }
def choiceTellsRow : OpenClaim := { program := "ytemleanglkaedaa", sum := "576daf3e0f389c8ff9f69e019eb0012d4e2f3b44b9f91d3e0731270d358b9aef", func := "waybill/waybilllaw14.ChoiceTells", spec := "choiceTells", unfollowed := true, recurses := true, apart := false }
def ChoiceTellsSaid : Prop := choiceTellsRow.holds Try.pinned (OpenSpec.ofChange choiceTellsSpec)

/-- ITS FALSE NEIGHBOUR: 'it returns false'. Refute it at one input. -/
def choiceTellsWrong : ChangeSpec := { name := "choiceTells", fn := fun _ => fun
  | [d1, d2, d3, d4, d5] => { results := [.lit (.bool false)], args := [d1, d2, d3, d4, d5] }
  | _ => none }
def ChoiceTellsWrongFalsely : Prop := choiceTellsRow.holds Try.pinned (OpenSpec.ofChange choiceTellsWrong)

/- THE SECOND FORM. 'bulk': how many values and letters a reading holds, each counted each time it is reached (what is shared counts as often as it is met; a slice's spare places count too). A statement '..UptoSaid' is the law's where the arguments, and the package variables that the reading takes, are together of bulk at most 1048576: NARROWER than '..Said'. Prove '..Said' where nothing that the law and all that it calls make is longer than what came in: it says more and counts as full. Else prove '..UptoSaid'. A law counts once. -/
mutual
def uptoBulk {H : Type} : DataW H → Nat
  | .lit (.string bytes) => bytes.length + 1
  | .lit _ => 1
  | .nil => 1
  | .ptr d => uptoBulk d + 1
  | .slice elems spare => uptoBulkAll elems + uptoBulkAll spare + 1
  | .agg parts => uptoBulkAll parts + 1
  | .iface _ d => uptoBulk d + 1
  | .map entries => uptoBulkEntries entries + 1
  | .held _ => 1
def uptoBulkAll {H : Type} : List (DataW H) → Nat
  | [] => 0
  | d :: r => uptoBulk d + uptoBulkAll r
def uptoBulkEntries {H : Type} : List (Lit × DataW H) → Nat
  | [] => 0
  | x :: r => uptoBulkEntry x + uptoBulkEntries r
def uptoBulkEntry {H : Type} : Lit × DataW H → Nat
  | (.string bytes, d) => bytes.length + uptoBulk d + 1
  | (_, d) => uptoBulk d + 1
 end
def uptoSmall : (H : Type) → List (DataW H) → Bool := fun _ ds => decide (uptoBulkAll ds ≤ 1048576)
def OpenSpec.upto (s : _root_.Go.ChangeSpec) : _root_.Go.OpenSpec := { _root_.Go.OpenSpec.ofChange s with cond := some uptoSmall }

/-- 'waybilllaw14.ChoiceLeast', WHERE WHAT IT READS IS OF BULK AT MOST 1048576: true; the input reads as it did. -/
def choiceLeastUptoRow : OpenClaim := { program := "ytemleanglkaedaa", sum := "576daf3e0f389c8ff9f69e019eb0012d4e2f3b44b9f91d3e0731270d358b9aef", func := "waybill/waybilllaw14.ChoiceLeast", spec := "choiceLeast", unfollowed := true, recurses := true, apart := false, narrowed := true }
def ChoiceLeastUptoSaid : Prop := choiceLeastUptoRow.holds Try.pinned (OpenSpec.upto choiceLeastSpec)

/-- 'waybilllaw14.ChoiceOne', WHERE WHAT IT READS IS OF BULK AT MOST 1048576: true; the input reads as it did. -/
def choiceOneUptoRow : OpenClaim := { program := "ytemleanglkaedaa", sum := "576daf3e0f389c8ff9f69e019eb0012d4e2f3b44b9f91d3e0731270d358b9aef", func := "waybill/waybilllaw14.ChoiceOne", spec := "choiceOne", unfollowed := true, recurses := true, apart := false, narrowed := true }
def ChoiceOneUptoSaid : Prop := choiceOneUptoRow.holds Try.pinned (OpenSpec.upto choiceOneSpec)

/-- 'waybilllaw14.ChoiceSpreads', WHERE WHAT IT READS IS OF BULK AT MOST 1048576: true; the input reads as it did. -/
def choiceSpreadsUptoRow : OpenClaim := { program := "ytemleanglkaedaa", sum := "576daf3e0f389c8ff9f69e019eb0012d4e2f3b44b9f91d3e0731270d358b9aef", func := "waybill/waybilllaw14.ChoiceSpreads", spec := "choiceSpreads", unfollowed := true, recurses := true, apart := false, narrowed := true }
def ChoiceSpreadsUptoSaid : Prop := choiceSpreadsUptoRow.holds Try.pinned (OpenSpec.upto choiceSpreadsSpec)

/-- 'waybilllaw14.ChoiceOwn', WHERE WHAT IT READS IS OF BULK AT MOST 1048576: true; the input reads as it did. -/
def choiceOwnUptoRow : OpenClaim := { program := "ytemleanglkaedaa", sum := "576daf3e0f389c8ff9f69e019eb0012d4e2f3b44b9f91d3e0731270d358b9aef", func := "waybill/waybilllaw14.ChoiceOwn", spec := "choiceOwn", unfollowed := true, recurses := true, apart := false, narrowed := true }
def ChoiceOwnUptoSaid : Prop := choiceOwnUptoRow.holds Try.pinned (OpenSpec.upto choiceOwnSpec)

/-- 'waybilllaw14.ChoiceRing', WHERE WHAT IT READS IS OF BULK AT MOST 1048576: true; the input reads as it did. -/
def choiceRingUptoRow : OpenClaim := { program := "ytemleanglkaedaa", sum := "576daf3e0f389c8ff9f69e019eb0012d4e2f3b44b9f91d3e0731270d358b9aef", func := "waybill/waybilllaw14.ChoiceRing", spec := "choiceRing", unfollowed := true, recurses := true, apart := false, narrowed := true }
def ChoiceRingUptoSaid : Prop := choiceRingUptoRow.holds Try.pinned (OpenSpec.upto choiceRingSpec)

/-- 'waybilllaw32.CalmPlans', WHERE WHAT IT READS IS OF BULK AT MOST 1048576: true; the input reads as it did. -/
def calmPlansUptoRow : OpenClaim := { program := "ytemleanglkaedaa", sum := "576daf3e0f389c8ff9f69e019eb0012d4e2f3b44b9f91d3e0731270d358b9aef", func := "waybill/waybilllaw32.CalmPlans", spec := "calmPlans", unfollowed := true, recurses := true, apart := false, narrowed := true }
def CalmPlansUptoSaid : Prop := calmPlansUptoRow.holds Try.pinned (OpenSpec.upto calmPlansSpec)

/-- 'waybilllaw32.CalmIssues', WHERE WHAT IT READS IS OF BULK AT MOST 1048576: true; the input reads as it did. -/
def calmIssuesUptoRow : OpenClaim := { program := "ytemleanglkaedaa", sum := "576daf3e0f389c8ff9f69e019eb0012d4e2f3b44b9f91d3e0731270d358b9aef", func := "waybill/waybilllaw32.CalmIssues", spec := "calmIssues", unfollowed := true, recurses := true, apart := false, narrowed := true }
def CalmIssuesUptoSaid : Prop := calmIssuesUptoRow.holds Try.pinned (OpenSpec.upto calmIssuesSpec)

/-- 'waybilllaw14.ChoiceTells', WHERE WHAT IT READS IS OF BULK AT MOST 1048576: true; the input reads as it did. -/
def choiceTellsUptoRow : OpenClaim := { program := "ytemleanglkaedaa", sum := "576daf3e0f389c8ff9f69e019eb0012d4e2f3b44b9f91d3e0731270d358b9aef", func := "waybill/waybilllaw14.ChoiceTells", spec := "choiceTells", unfollowed := true, recurses := true, apart := false, narrowed := true }
def ChoiceTellsUptoSaid : Prop := choiceTellsUptoRow.holds Try.pinned (OpenSpec.upto choiceTellsSpec)

end Rows
end Go.Proofs.Ytemleanglkaedaa
