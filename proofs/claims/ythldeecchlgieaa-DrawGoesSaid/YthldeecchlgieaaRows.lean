/-
  No cell of these rows narrows 'for every input' (looked for: loops, veiled, ifaces, maps, wideKeys, modest, calm, conditions, laid).
  DERIVED. THE GIVEN ROWS OF THIS SEAT. 11 by the template 'for every input the law returns true; each argument reads behind the call as it read before'; 0 by the template 'total and deterministic' (their statements: YthldeecchlgieaaTotals.lean).
  GIVEN WITH THE SEED: the statements are not yours to turn. If you find one false, say at which input.
  Laid BY PROGRAM, IN A SANDBOX (cutbox-rows.mjs): the forced cells as the released guide's own fill.sh prints them over the translation d47de4a4e68dda09… (all of the seat's roots in one cut). By AI agents, Wed Nov 11 2026. No macro, syntax, notation, axiom, sorry.
-/
import Derived.Test.YthldeecchlgieaaChecked
import GoSem.Claim
import GoSem.ClaimJoined
import GoSem.ClaimMapViews
import Derived.JoinedTies
import Derived.KernelRfl
namespace Go.Proofs.Ythldeecchlgieaa
/- THE CELL 'sum', in the pinned program and in every row, IS THE sha256 OF THE DUMP (.gsa) THAT YthldeecchlgieaaProg.lean LOADS. Nothing in Lean hashes anything: it is a label: what it is worth is what the hold of that sum in a sandbox is worth. -/
noncomputable def Try.pinned : Pinned := { name := "ythldeecchlgieaa", sum := "d47de4a4e68dda09745ced28547d4fe55eeef95d73e3e5f37616b8482d088736", checked := Try.checked }
namespace Rows
def none {H : Type} : Left H := { results := [], args := [] }

/-- 'waybilllaw10.HashBack': WHATEVER THE INPUT: true; the input reads as it did. -/
def hashBackSpec : ChangeSpec := { name := "hashBack", fn := fun _ => fun
  | [d1, d2] => { results := [.lit (.bool true)], args := [d1, d2] }
  | _ => none }
def hashBackRow : OpenClaim := { program := "ythldeecchlgieaa", sum := "d47de4a4e68dda09745ced28547d4fe55eeef95d73e3e5f37616b8482d088736", func := "waybill/waybilllaw10.HashBack", spec := "hashBack", apart := false }
def HashBackSaid : Prop := hashBackRow.holds Try.pinned (OpenSpec.ofChange hashBackSpec)

/-- ITS FALSE NEIGHBOUR: 'it returns false'. Refute it at one input. -/
def hashBackWrong : ChangeSpec := { name := "hashBack", fn := fun _ => fun
  | [d1, d2] => { results := [.lit (.bool false)], args := [d1, d2] }
  | _ => none }
def HashBackWrongFalsely : Prop := hashBackRow.holds Try.pinned (OpenSpec.ofChange hashBackWrong)

/-- 'waybilllaw10.HashParts': WHATEVER THE INPUT: true; the input reads as it did. -/
def hashPartsSpec : ChangeSpec := { name := "hashParts", fn := fun _ => fun
  | [d1, d2, d3, d4] => { results := [.lit (.bool true)], args := [d1, d2, d3, d4] }
  | _ => none }
def hashPartsRow : OpenClaim := { program := "ythldeecchlgieaa", sum := "d47de4a4e68dda09745ced28547d4fe55eeef95d73e3e5f37616b8482d088736", func := "waybill/waybilllaw10.HashParts", spec := "hashParts", apart := false }
def HashPartsSaid : Prop := hashPartsRow.holds Try.pinned (OpenSpec.ofChange hashPartsSpec)

/-- ITS FALSE NEIGHBOUR: 'it returns false'. Refute it at one input. -/
def hashPartsWrong : ChangeSpec := { name := "hashParts", fn := fun _ => fun
  | [d1, d2, d3, d4] => { results := [.lit (.bool false)], args := [d1, d2, d3, d4] }
  | _ => none }
def HashPartsWrongFalsely : Prop := hashPartsRow.holds Try.pinned (OpenSpec.ofChange hashPartsWrong)

/-- 'waybilllaw10.HashShares': WHATEVER THE INPUT: true; the input reads as it did. -/
def hashSharesSpec : ChangeSpec := { name := "hashShares", fn := fun _ => fun
  | [d1, d2, d3, d4] => { results := [.lit (.bool true)], args := [d1, d2, d3, d4] }
  | _ => none }
def hashSharesRow : OpenClaim := { program := "ythldeecchlgieaa", sum := "d47de4a4e68dda09745ced28547d4fe55eeef95d73e3e5f37616b8482d088736", func := "waybill/waybilllaw10.HashShares", spec := "hashShares", apart := false }
def HashSharesSaid : Prop := hashSharesRow.holds Try.pinned (OpenSpec.ofChange hashSharesSpec)

/-- ITS FALSE NEIGHBOUR: 'it returns false'. Refute it at one input. -/
def hashSharesWrong : ChangeSpec := { name := "hashShares", fn := fun _ => fun
  | [d1, d2, d3, d4] => { results := [.lit (.bool false)], args := [d1, d2, d3, d4] }
  | _ => none }
def HashSharesWrongFalsely : Prop := hashSharesRow.holds Try.pinned (OpenSpec.ofChange hashSharesWrong)

/-- 'waybilllaw10.HashRange': WHATEVER THE INPUT: true; the input reads as it did. -/
def hashRangeSpec : ChangeSpec := { name := "hashRange", fn := fun _ => fun
  | [d1, d2] => { results := [.lit (.bool true)], args := [d1, d2] }
  | _ => none }
def hashRangeRow : OpenClaim := { program := "ythldeecchlgieaa", sum := "d47de4a4e68dda09745ced28547d4fe55eeef95d73e3e5f37616b8482d088736", func := "waybill/waybilllaw10.HashRange", spec := "hashRange", apart := false }
def HashRangeSaid : Prop := hashRangeRow.holds Try.pinned (OpenSpec.ofChange hashRangeSpec)

/-- ITS FALSE NEIGHBOUR: 'it returns false'. Refute it at one input. -/
def hashRangeWrong : ChangeSpec := { name := "hashRange", fn := fun _ => fun
  | [d1, d2] => { results := [.lit (.bool false)], args := [d1, d2] }
  | _ => none }
def HashRangeWrongFalsely : Prop := hashRangeRow.holds Try.pinned (OpenSpec.ofChange hashRangeWrong)

/-- 'waybilllaw10.HashTells': WHATEVER THE INPUT: true; the input reads as it did. -/
def hashTellsSpec : ChangeSpec := { name := "hashTells", fn := fun _ => fun
  | [d1, d2, d3, d4, d5, d6] => { results := [.lit (.bool true)], args := [d1, d2, d3, d4, d5, d6] }
  | _ => none }
def hashTellsRow : OpenClaim := { program := "ythldeecchlgieaa", sum := "d47de4a4e68dda09745ced28547d4fe55eeef95d73e3e5f37616b8482d088736", func := "waybill/waybilllaw10.HashTells", spec := "hashTells", apart := false }
def HashTellsSaid : Prop := hashTellsRow.holds Try.pinned (OpenSpec.ofChange hashTellsSpec)

/-- ITS FALSE NEIGHBOUR: 'it returns false'. Refute it at one input. -/
def hashTellsWrong : ChangeSpec := { name := "hashTells", fn := fun _ => fun
  | [d1, d2, d3, d4, d5, d6] => { results := [.lit (.bool false)], args := [d1, d2, d3, d4, d5, d6] }
  | _ => none }
def HashTellsWrongFalsely : Prop := hashTellsRow.holds Try.pinned (OpenSpec.ofChange hashTellsWrong)

/-- 'waybilllaw11.DrawShuffles': WHATEVER THE INPUT: true; the input reads as it did. -/
def drawShufflesSpec : ChangeSpec := { name := "drawShuffles", fn := fun _ => fun
  | [d1, d2] => { results := [.lit (.bool true)], args := [d1, d2] }
  | _ => none }
def drawShufflesRow : OpenClaim := { program := "ythldeecchlgieaa", sum := "d47de4a4e68dda09745ced28547d4fe55eeef95d73e3e5f37616b8482d088736", func := "waybill/waybilllaw11.DrawShuffles", spec := "drawShuffles", unfollowed := true, recurses := true, apart := false }
def DrawShufflesSaid : Prop := drawShufflesRow.holds Try.pinned (OpenSpec.ofChange drawShufflesSpec)

/-- ITS FALSE NEIGHBOUR: 'it returns false'. Refute it at one input. -/
def drawShufflesWrong : ChangeSpec := { name := "drawShuffles", fn := fun _ => fun
  | [d1, d2] => { results := [.lit (.bool false)], args := [d1, d2] }
  | _ => none }
def DrawShufflesWrongFalsely : Prop := drawShufflesRow.holds Try.pinned (OpenSpec.ofChange drawShufflesWrong)

/-- 'waybilllaw11.DrawEach': WHATEVER THE INPUT: true; the input reads as it did. -/
def drawEachSpec : ChangeSpec := { name := "drawEach", fn := fun _ => fun
  | [d1, d2] => { results := [.lit (.bool true)], args := [d1, d2] }
  | _ => none }
def drawEachRow : OpenClaim := { program := "ythldeecchlgieaa", sum := "d47de4a4e68dda09745ced28547d4fe55eeef95d73e3e5f37616b8482d088736", func := "waybill/waybilllaw11.DrawEach", spec := "drawEach", unfollowed := true, recurses := true, apart := false }
def DrawEachSaid : Prop := drawEachRow.holds Try.pinned (OpenSpec.ofChange drawEachSpec)

/-- ITS FALSE NEIGHBOUR: 'it returns false'. Refute it at one input. -/
def drawEachWrong : ChangeSpec := { name := "drawEach", fn := fun _ => fun
  | [d1, d2] => { results := [.lit (.bool false)], args := [d1, d2] }
  | _ => none }
def DrawEachWrongFalsely : Prop := drawEachRow.holds Try.pinned (OpenSpec.ofChange drawEachWrong)

/-- 'waybilllaw11.DrawGoes': WHATEVER THE INPUT: true; the input reads as it did. -/
def drawGoesSpec : ChangeSpec := { name := "drawGoes", fn := fun _ => fun
  | [d1, d2] => { results := [.lit (.bool true)], args := [d1, d2] }
  | _ => none }
def drawGoesRow : OpenClaim := { program := "ythldeecchlgieaa", sum := "d47de4a4e68dda09745ced28547d4fe55eeef95d73e3e5f37616b8482d088736", func := "waybill/waybilllaw11.DrawGoes", spec := "drawGoes", unfollowed := true, recurses := true, apart := false }
def DrawGoesSaid : Prop := drawGoesRow.holds Try.pinned (OpenSpec.ofChange drawGoesSpec)

/-- ITS FALSE NEIGHBOUR: 'it returns false'. Refute it at one input. -/
def drawGoesWrong : ChangeSpec := { name := "drawGoes", fn := fun _ => fun
  | [d1, d2] => { results := [.lit (.bool false)], args := [d1, d2] }
  | _ => none }
def DrawGoesWrongFalsely : Prop := drawGoesRow.holds Try.pinned (OpenSpec.ofChange drawGoesWrong)

/-- 'waybilllaw11.DrawChance': WHATEVER THE INPUT: true; the input reads as it did. -/
def drawChanceSpec : ChangeSpec := { name := "drawChance", fn := fun _ => fun
  | [d1, d2, d3] => { results := [.lit (.bool true)], args := [d1, d2, d3] }
  | _ => none }
def drawChanceRow : OpenClaim := { program := "ythldeecchlgieaa", sum := "d47de4a4e68dda09745ced28547d4fe55eeef95d73e3e5f37616b8482d088736", func := "waybill/waybilllaw11.DrawChance", spec := "drawChance", unfollowed := true, recurses := true, apart := false }
def DrawChanceSaid : Prop := drawChanceRow.holds Try.pinned (OpenSpec.ofChange drawChanceSpec)

/-- ITS FALSE NEIGHBOUR: 'it returns false'. Refute it at one input. -/
def drawChanceWrong : ChangeSpec := { name := "drawChance", fn := fun _ => fun
  | [d1, d2, d3] => { results := [.lit (.bool false)], args := [d1, d2, d3] }
  | _ => none }
def DrawChanceWrongFalsely : Prop := drawChanceRow.holds Try.pinned (OpenSpec.ofChange drawChanceWrong)

/-- 'waybilllaw11.DrawTwo': WHATEVER THE INPUT: true; the input reads as it did. -/
def drawTwoSpec : ChangeSpec := { name := "drawTwo", fn := fun _ => fun
  | [d1, d2] => { results := [.lit (.bool true)], args := [d1, d2] }
  | _ => none }
def drawTwoRow : OpenClaim := { program := "ythldeecchlgieaa", sum := "d47de4a4e68dda09745ced28547d4fe55eeef95d73e3e5f37616b8482d088736", func := "waybill/waybilllaw11.DrawTwo", spec := "drawTwo", unfollowed := true, recurses := true, apart := false }
def DrawTwoSaid : Prop := drawTwoRow.holds Try.pinned (OpenSpec.ofChange drawTwoSpec)

/-- ITS FALSE NEIGHBOUR: 'it returns false'. Refute it at one input. -/
def drawTwoWrong : ChangeSpec := { name := "drawTwo", fn := fun _ => fun
  | [d1, d2] => { results := [.lit (.bool false)], args := [d1, d2] }
  | _ => none }
def DrawTwoWrongFalsely : Prop := drawTwoRow.holds Try.pinned (OpenSpec.ofChange drawTwoWrong)

/-- 'waybilllaw11.DrawTells': WHATEVER THE INPUT: true; the input reads as it did. -/
def drawTellsSpec : ChangeSpec := { name := "drawTells", fn := fun _ => fun
  | [d1, d2, d3, d4] => { results := [.lit (.bool true)], args := [d1, d2, d3, d4] }
  | _ => none }
def drawTellsRow : OpenClaim := { program := "ythldeecchlgieaa", sum := "d47de4a4e68dda09745ced28547d4fe55eeef95d73e3e5f37616b8482d088736", func := "waybill/waybilllaw11.DrawTells", spec := "drawTells", unfollowed := true, recurses := true, apart := false }
def DrawTellsSaid : Prop := drawTellsRow.holds Try.pinned (OpenSpec.ofChange drawTellsSpec)

/-- ITS FALSE NEIGHBOUR: 'it returns false'. Refute it at one input. -/
def drawTellsWrong : ChangeSpec := { name := "drawTells", fn := fun _ => fun
  | [d1, d2, d3, d4] => { results := [.lit (.bool false)], args := [d1, d2, d3, d4] }
  | _ => none }
def DrawTellsWrongFalsely : Prop := drawTellsRow.holds Try.pinned (OpenSpec.ofChange drawTellsWrong)

/- THE SECOND FORM. 'bulk': how many values and letters a reading holds, each counted each time it is reached (what is shared counts as often as it is met; a slice's spare places count too). A statement '..UptoSaid' is the law's where the arguments, and the package variables that the reading takes, are together of bulk at most 1048576: NARROWER than '..Said'. Prove '..Said' where nothing that the law and all that it calls make is longer than what came in: it says more and counts as full. Else prove '..UptoSaid'. A law counts once. -/
mutual
def uptoBulk {H : Type} : DataW H → Nat
  | .lit (.string bytes) => bytes.length + 1
  | .lit _ => 1
  | .nil => 1
  | .ptr d => uptoBulk d + 1
  | .slice elems spare => uptoBulkAll elems + uptoBulkAll spare + 1
  | .agg parts => uptoBulkAll parts + 1
  | .iface _ d => uptoBulk d + 1
  | .map entries => uptoBulkEntries entries + 1
  | .held _ => 1
def uptoBulkAll {H : Type} : List (DataW H) → Nat
  | [] => 0
  | d :: r => uptoBulk d + uptoBulkAll r
def uptoBulkEntries {H : Type} : List (Lit × DataW H) → Nat
  | [] => 0
  | x :: r => uptoBulkEntry x + uptoBulkEntries r
def uptoBulkEntry {H : Type} : Lit × DataW H → Nat
  | (.string bytes, d) => bytes.length + uptoBulk d + 1
  | (_, d) => uptoBulk d + 1
 end
def uptoSmall : (H : Type) → List (DataW H) → Bool := fun _ ds => decide (uptoBulkAll ds ≤ 1048576)
def OpenSpec.upto (s : _root_.Go.ChangeSpec) : _root_.Go.OpenSpec := { _root_.Go.OpenSpec.ofChange s with cond := some uptoSmall }

/-- 'waybilllaw10.HashBack', WHERE WHAT IT READS IS OF BULK AT MOST 1048576: true; the input reads as it did. -/
def hashBackUptoRow : OpenClaim := { program := "ythldeecchlgieaa", sum := "d47de4a4e68dda09745ced28547d4fe55eeef95d73e3e5f37616b8482d088736", func := "waybill/waybilllaw10.HashBack", spec := "hashBack", apart := false, narrowed := true }
def HashBackUptoSaid : Prop := hashBackUptoRow.holds Try.pinned (OpenSpec.upto hashBackSpec)

/-- 'waybilllaw10.HashParts', WHERE WHAT IT READS IS OF BULK AT MOST 1048576: true; the input reads as it did. -/
def hashPartsUptoRow : OpenClaim := { program := "ythldeecchlgieaa", sum := "d47de4a4e68dda09745ced28547d4fe55eeef95d73e3e5f37616b8482d088736", func := "waybill/waybilllaw10.HashParts", spec := "hashParts", apart := false, narrowed := true }
def HashPartsUptoSaid : Prop := hashPartsUptoRow.holds Try.pinned (OpenSpec.upto hashPartsSpec)

/-- 'waybilllaw10.HashShares', WHERE WHAT IT READS IS OF BULK AT MOST 1048576: true; the input reads as it did. -/
def hashSharesUptoRow : OpenClaim := { program := "ythldeecchlgieaa", sum := "d47de4a4e68dda09745ced28547d4fe55eeef95d73e3e5f37616b8482d088736", func := "waybill/waybilllaw10.HashShares", spec := "hashShares", apart := false, narrowed := true }
def HashSharesUptoSaid : Prop := hashSharesUptoRow.holds Try.pinned (OpenSpec.upto hashSharesSpec)

/-- 'waybilllaw10.HashRange', WHERE WHAT IT READS IS OF BULK AT MOST 1048576: true; the input reads as it did. -/
def hashRangeUptoRow : OpenClaim := { program := "ythldeecchlgieaa", sum := "d47de4a4e68dda09745ced28547d4fe55eeef95d73e3e5f37616b8482d088736", func := "waybill/waybilllaw10.HashRange", spec := "hashRange", apart := false, narrowed := true }
def HashRangeUptoSaid : Prop := hashRangeUptoRow.holds Try.pinned (OpenSpec.upto hashRangeSpec)

/-- 'waybilllaw10.HashTells', WHERE WHAT IT READS IS OF BULK AT MOST 1048576: true; the input reads as it did. -/
def hashTellsUptoRow : OpenClaim := { program := "ythldeecchlgieaa", sum := "d47de4a4e68dda09745ced28547d4fe55eeef95d73e3e5f37616b8482d088736", func := "waybill/waybilllaw10.HashTells", spec := "hashTells", apart := false, narrowed := true }
def HashTellsUptoSaid : Prop := hashTellsUptoRow.holds Try.pinned (OpenSpec.upto hashTellsSpec)

/-- 'waybilllaw11.DrawShuffles', WHERE WHAT IT READS IS OF BULK AT MOST 1048576: true; the input reads as it did. -/
def drawShufflesUptoRow : OpenClaim := { program := "ythldeecchlgieaa", sum := "d47de4a4e68dda09745ced28547d4fe55eeef95d73e3e5f37616b8482d088736", func := "waybill/waybilllaw11.DrawShuffles", spec := "drawShuffles", unfollowed := true, recurses := true, apart := false, narrowed := true }
def DrawShufflesUptoSaid : Prop := drawShufflesUptoRow.holds Try.pinned (OpenSpec.upto drawShufflesSpec)

/-- 'waybilllaw11.DrawEach', WHERE WHAT IT READS IS OF BULK AT MOST 1048576: true; the input reads as it did. -/
def drawEachUptoRow : OpenClaim := { program := "ythldeecchlgieaa", sum := "d47de4a4e68dda09745ced28547d4fe55eeef95d73e3e5f37616b8482d088736", func := "waybill/waybilllaw11.DrawEach", spec := "drawEach", unfollowed := true, recurses := true, apart := false, narrowed := true }
def DrawEachUptoSaid : Prop := drawEachUptoRow.holds Try.pinned (OpenSpec.upto drawEachSpec)

/-- 'waybilllaw11.DrawGoes', WHERE WHAT IT READS IS OF BULK AT MOST 1048576: true; the input reads as it did. -/
def drawGoesUptoRow : OpenClaim := { program := "ythldeecchlgieaa", sum := "d47de4a4e68dda09745ced28547d4fe55eeef95d73e3e5f37616b8482d088736", func := "waybill/waybilllaw11.DrawGoes", spec := "drawGoes", unfollowed := true, recurses := true, apart := false, narrowed := true }
def DrawGoesUptoSaid : Prop := drawGoesUptoRow.holds Try.pinned (OpenSpec.upto drawGoesSpec)

/-- 'waybilllaw11.DrawChance', WHERE WHAT IT READS IS OF BULK AT MOST 1048576: true; the input reads as it did. -/
def drawChanceUptoRow : OpenClaim := { program := "ythldeecchlgieaa", sum := "d47de4a4e68dda09745ced28547d4fe55eeef95d73e3e5f37616b8482d088736", func := "waybill/waybilllaw11.DrawChance", spec := "drawChance", unfollowed := true, recurses := true, apart := false, narrowed := true }
def DrawChanceUptoSaid : Prop := drawChanceUptoRow.holds Try.pinned (OpenSpec.upto drawChanceSpec)

/-- 'waybilllaw11.DrawTwo', WHERE WHAT IT READS IS OF BULK AT MOST 1048576: true; the input reads as it did. -/
def drawTwoUptoRow : OpenClaim := { program := "ythldeecchlgieaa", sum := "d47de4a4e68dda09745ced28547d4fe55eeef95d73e3e5f37616b8482d088736", func := "waybill/waybilllaw11.DrawTwo", spec := "drawTwo", unfollowed := true, recurses := true, apart := false, narrowed := true }
def DrawTwoUptoSaid : Prop := drawTwoUptoRow.holds Try.pinned (OpenSpec.upto drawTwoSpec)

/-- 'waybilllaw11.DrawTells', WHERE WHAT IT READS IS OF BULK AT MOST 1048576: true; the input reads as it did. -/
def drawTellsUptoRow : OpenClaim := { program := "ythldeecchlgieaa", sum := "d47de4a4e68dda09745ced28547d4fe55eeef95d73e3e5f37616b8482d088736", func := "waybill/waybilllaw11.DrawTells", spec := "drawTells", unfollowed := true, recurses := true, apart := false, narrowed := true }
def DrawTellsUptoSaid : Prop := drawTellsUptoRow.holds Try.pinned (OpenSpec.upto drawTellsSpec)

end Rows
end Go.Proofs.Ythldeecchlgieaa
