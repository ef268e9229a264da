/-
  NARROWER THAN 'FOR EVERY INPUT', by the rows' own cells (each row's printed sentence says how): ParseBack: loops.
  DERIVED. THE GIVEN ROWS OF THIS SEAT. 11 by the template 'for every input the law returns true; each argument reads behind the call as it read before'; 0 by the template 'total and deterministic' (their statements: YtoloneoeojoiaaaTotals.lean).
  GIVEN WITH THE SEED: the statements are not yours to turn. If you find one false, say at which input.
  Laid BY PROGRAM, IN A SANDBOX (cutbox-rows.mjs): the forced cells as the released guide's own fill.sh prints them over the translation d38232d5350a8e06… (all of the seat's roots in one cut). By AI agents, Wed Nov 11 2026. No macro, syntax, notation, axiom, sorry.
-/
import Derived.Test.YtoloneoeojoiaaaChecked
import GoSem.Claim
import GoSem.ClaimJoined
import GoSem.ClaimMapViews
import Derived.JoinedTies
import Derived.KernelRfl
namespace Go.Proofs.Ytoloneoeojoiaaa
/- THE CELL 'sum', in the pinned program and in every row, IS THE sha256 OF THE DUMP (.gsa) THAT YtoloneoeojoiaaaProg.lean LOADS. Nothing in Lean hashes anything: it is a label: what it is worth is what the hold of that sum in a sandbox is worth. -/
noncomputable def Try.pinned : Pinned := { name := "ytoloneoeojoiaaa", sum := "d38232d5350a8e0619552ce8e702b4179c1fe6101981d8034b5a1627f8b1462d", checked := Try.checked }
namespace Rows
def none {H : Type} : Left H := { results := [], args := [] }

/-- 'waybilllaw04.LexRemarks': WHATEVER THE INPUT: true; the input reads as it did. -/
def lexRemarksSpec : ChangeSpec := { name := "lexRemarks", fn := fun _ => fun
  | [d1, d2] => { results := [.lit (.bool true)], args := [d1, d2] }
  | _ => none }
def lexRemarksRow : OpenClaim := { program := "ytoloneoeojoiaaa", sum := "d38232d5350a8e0619552ce8e702b4179c1fe6101981d8034b5a1627f8b1462d", func := "waybill/waybilllaw04.LexRemarks", spec := "lexRemarks", inPlace := ["internal/bytealg.IndexByteString"], unfollowed := true, recurses := true, apart := false }
def LexRemarksSaid : Prop := lexRemarksRow.holds Try.pinned (OpenSpec.ofChange lexRemarksSpec)

/-- ITS FALSE NEIGHBOUR: 'it returns false'. Refute it at one input. -/
def lexRemarksWrong : ChangeSpec := { name := "lexRemarks", fn := fun _ => fun
  | [d1, d2] => { results := [.lit (.bool false)], args := [d1, d2] }
  | _ => none }
def LexRemarksWrongFalsely : Prop := lexRemarksRow.holds Try.pinned (OpenSpec.ofChange lexRemarksWrong)

/-- 'waybilllaw04.LexLines': WHATEVER THE INPUT: true; the input reads as it did. -/
def lexLinesSpec : ChangeSpec := { name := "lexLines", fn := fun _ => fun
  | [d1, d2] => { results := [.lit (.bool true)], args := [d1, d2] }
  | _ => none }
def lexLinesRow : OpenClaim := { program := "ytoloneoeojoiaaa", sum := "d38232d5350a8e0619552ce8e702b4179c1fe6101981d8034b5a1627f8b1462d", func := "waybill/waybilllaw04.LexLines", spec := "lexLines", inPlace := ["internal/bytealg.IndexByteString"], unfollowed := true, recurses := true, apart := false }
def LexLinesSaid : Prop := lexLinesRow.holds Try.pinned (OpenSpec.ofChange lexLinesSpec)

/-- ITS FALSE NEIGHBOUR: 'it returns false'. Refute it at one input. -/
def lexLinesWrong : ChangeSpec := { name := "lexLines", fn := fun _ => fun
  | [d1, d2] => { results := [.lit (.bool false)], args := [d1, d2] }
  | _ => none }
def LexLinesWrongFalsely : Prop := lexLinesRow.holds Try.pinned (OpenSpec.ofChange lexLinesWrong)

/-- 'waybilllaw04.LexOwn': WHATEVER THE INPUT: true; the input reads as it did. -/
def lexOwnSpec : ChangeSpec := { name := "lexOwn", fn := fun _ => fun
  | [d] => { results := [.lit (.bool true)], args := [d] }
  | _ => none }
def lexOwnRow : OpenClaim := { program := "ytoloneoeojoiaaa", sum := "d38232d5350a8e0619552ce8e702b4179c1fe6101981d8034b5a1627f8b1462d", func := "waybill/waybilllaw04.LexOwn", spec := "lexOwn", inPlace := ["internal/bytealg.IndexByteString"], unfollowed := true, recurses := true, apart := false }
def LexOwnSaid : Prop := lexOwnRow.holds Try.pinned (OpenSpec.ofChange lexOwnSpec)

/-- ITS FALSE NEIGHBOUR: 'it returns false'. Refute it at one input. -/
def lexOwnWrong : ChangeSpec := { name := "lexOwn", fn := fun _ => fun
  | [d] => { results := [.lit (.bool false)], args := [d] }
  | _ => none }
def LexOwnWrongFalsely : Prop := lexOwnRow.holds Try.pinned (OpenSpec.ofChange lexOwnWrong)

/-- 'waybilllaw05.ParseCut': WHATEVER THE INPUT: true; the input reads as it did. -/
def parseCutSpec : ChangeSpec := { name := "parseCut", fn := fun _ => fun
  | [d1, d2] => { results := [.lit (.bool true)], args := [d1, d2] }
  | _ => none }
def parseCutRow : OpenClaim := { program := "ytoloneoeojoiaaa", sum := "d38232d5350a8e0619552ce8e702b4179c1fe6101981d8034b5a1627f8b1462d", func := "waybill/waybilllaw05.ParseCut", spec := "parseCut", inPlace := ["internal/bytealg.IndexByteString"], unfollowed := true, recurses := true, apart := false }
def ParseCutSaid : Prop := parseCutRow.holds Try.pinned (OpenSpec.ofChange parseCutSpec)

/-- ITS FALSE NEIGHBOUR: 'it returns false'. Refute it at one input. -/
def parseCutWrong : ChangeSpec := { name := "parseCut", fn := fun _ => fun
  | [d1, d2] => { results := [.lit (.bool false)], args := [d1, d2] }
  | _ => none }
def ParseCutWrongFalsely : Prop := parseCutRow.holds Try.pinned (OpenSpec.ofChange parseCutWrong)

/-- 'waybilllaw05.ParseJoins': WHATEVER THE INPUT: true; the input reads as it did. -/
def parseJoinsSpec : ChangeSpec := { name := "parseJoins", fn := fun _ => fun
  | [d1, d2] => { results := [.lit (.bool true)], args := [d1, d2] }
  | _ => none }
def parseJoinsRow : OpenClaim := { program := "ytoloneoeojoiaaa", sum := "d38232d5350a8e0619552ce8e702b4179c1fe6101981d8034b5a1627f8b1462d", func := "waybill/waybilllaw05.ParseJoins", spec := "parseJoins", inPlace := ["internal/bytealg.IndexByteString"], unfollowed := true, recurses := true, apart := false }
def ParseJoinsSaid : Prop := parseJoinsRow.holds Try.pinned (OpenSpec.ofChange parseJoinsSpec)

/-- ITS FALSE NEIGHBOUR: 'it returns false'. Refute it at one input. -/
def parseJoinsWrong : ChangeSpec := { name := "parseJoins", fn := fun _ => fun
  | [d1, d2] => { results := [.lit (.bool false)], args := [d1, d2] }
  | _ => none }
def ParseJoinsWrongFalsely : Prop := parseJoinsRow.holds Try.pinned (OpenSpec.ofChange parseJoinsWrong)

/-- 'waybilllaw05.ParseOwn': WHATEVER THE INPUT: true; the input reads as it did. -/
def parseOwnSpec : ChangeSpec := { name := "parseOwn", fn := fun _ => fun
  | [d] => { results := [.lit (.bool true)], args := [d] }
  | _ => none }
def parseOwnRow : OpenClaim := { program := "ytoloneoeojoiaaa", sum := "d38232d5350a8e0619552ce8e702b4179c1fe6101981d8034b5a1627f8b1462d", func := "waybill/waybilllaw05.ParseOwn", spec := "parseOwn", inPlace := ["internal/bytealg.IndexByteString"], unfollowed := true, recurses := true, apart := false }
def ParseOwnSaid : Prop := parseOwnRow.holds Try.pinned (OpenSpec.ofChange parseOwnSpec)

/-- ITS FALSE NEIGHBOUR: 'it returns false'. Refute it at one input. -/
def parseOwnWrong : ChangeSpec := { name := "parseOwn", fn := fun _ => fun
  | [d] => { results := [.lit (.bool false)], args := [d] }
  | _ => none }
def ParseOwnWrongFalsely : Prop := parseOwnRow.holds Try.pinned (OpenSpec.ofChange parseOwnWrong)

/-- 'waybilllaw04.LexBack': WHATEVER THE INPUT: true; the input reads as it did. -/
def lexBackSpec : ChangeSpec := { name := "lexBack", fn := fun _ => fun
  | [d] => { results := [.lit (.bool true)], args := [d] }
  | _ => none }
def lexBackRow : OpenClaim := { program := "ytoloneoeojoiaaa", sum := "d38232d5350a8e0619552ce8e702b4179c1fe6101981d8034b5a1627f8b1462d", func := "waybill/waybilllaw04.LexBack", spec := "lexBack", inPlace := ["internal/bytealg.IndexByteString", "internal/abi.NoEscape", "internal/bytealg.MakeNoZero"], unfollowed := true, recurses := true, apart := false }
def LexBackSaid : Prop := lexBackRow.holds Try.pinned (OpenSpec.ofChange lexBackSpec)

/-- ITS FALSE NEIGHBOUR: 'it returns false'. Refute it at one input. -/
def lexBackWrong : ChangeSpec := { name := "lexBack", fn := fun _ => fun
  | [d] => { results := [.lit (.bool false)], args := [d] }
  | _ => none }
def LexBackWrongFalsely : Prop := lexBackRow.holds Try.pinned (OpenSpec.ofChange lexBackWrong)

/-- 'waybilllaw04.LexMay': WHATEVER THE INPUT: true; the input reads as it did. -/
def lexMaySpec : ChangeSpec := { name := "lexMay", fn := fun _ => fun
  | [d] => { results := [.lit (.bool true)], args := [d] }
  | _ => none }
def lexMayRow : OpenClaim := { program := "ytoloneoeojoiaaa", sum := "d38232d5350a8e0619552ce8e702b4179c1fe6101981d8034b5a1627f8b1462d", func := "waybill/waybilllaw04.LexMay", spec := "lexMay", inPlace := ["internal/bytealg.IndexByteString", "internal/abi.NoEscape", "internal/bytealg.MakeNoZero"], unfollowed := true, recurses := true, apart := false }
def LexMaySaid : Prop := lexMayRow.holds Try.pinned (OpenSpec.ofChange lexMaySpec)

/-- ITS FALSE NEIGHBOUR: 'it returns false'. Refute it at one input. -/
def lexMayWrong : ChangeSpec := { name := "lexMay", fn := fun _ => fun
  | [d] => { results := [.lit (.bool false)], args := [d] }
  | _ => none }
def LexMayWrongFalsely : Prop := lexMayRow.holds Try.pinned (OpenSpec.ofChange lexMayWrong)

/-- 'waybilllaw04.LexTells': WHATEVER THE INPUT: true; the input reads as it did. -/
def lexTellsSpec : ChangeSpec := { name := "lexTells", fn := fun _ => fun
  | [d1, d2, d3] => { results := [.lit (.bool true)], args := [d1, d2, d3] }
  | _ => none }
def lexTellsRow : OpenClaim := { program := "ytoloneoeojoiaaa", sum := "d38232d5350a8e0619552ce8e702b4179c1fe6101981d8034b5a1627f8b1462d", func := "waybill/waybilllaw04.LexTells", spec := "lexTells", inPlace := ["internal/bytealg.IndexByteString", "internal/abi.NoEscape", "internal/bytealg.MakeNoZero"], unfollowed := true, recurses := true, apart := false }
def LexTellsSaid : Prop := lexTellsRow.holds Try.pinned (OpenSpec.ofChange lexTellsSpec)

/-- ITS FALSE NEIGHBOUR: 'it returns false'. Refute it at one input. -/
def lexTellsWrong : ChangeSpec := { name := "lexTells", fn := fun _ => fun
  | [d1, d2, d3] => { results := [.lit (.bool false)], args := [d1, d2, d3] }
  | _ => none }
def LexTellsWrongFalsely : Prop := lexTellsRow.holds Try.pinned (OpenSpec.ofChange lexTellsWrong)

/-- 'waybilllaw05.ParseBack': WHATEVER THE INPUT: true; the input reads as it did. -/
def parseBackSpec : ChangeSpec := { name := "parseBack", fn := fun _ => fun
  | [d] => { results := [.lit (.bool true)], args := [d] }
  | _ => none }
def parseBackRow : OpenClaim := { program := "ytoloneoeojoiaaa", sum := "d38232d5350a8e0619552ce8e702b4179c1fe6101981d8034b5a1627f8b1462d", func := "waybill/waybilllaw05.ParseBack", spec := "parseBack", inPlace := ["internal/bytealg.IndexByteString", "internal/abi.NoEscape"], unfollowed := true, recurses := true, loops := true, apart := false }
def ParseBackSaid : Prop := parseBackRow.holds Try.pinned (OpenSpec.ofChange parseBackSpec)

/-- ITS FALSE NEIGHBOUR: 'it returns false'. Refute it at one input. -/
def parseBackWrong : ChangeSpec := { name := "parseBack", fn := fun _ => fun
  | [d] => { results := [.lit (.bool false)], args := [d] }
  | _ => none }
def ParseBackWrongFalsely : Prop := parseBackRow.holds Try.pinned (OpenSpec.ofChange parseBackWrong)

/-- 'waybilllaw05.ParseMay': WHATEVER THE INPUT: true; the input reads as it did. -/
def parseMaySpec : ChangeSpec := { name := "parseMay", fn := fun _ => fun
  | [d] => { results := [.lit (.bool true)], args := [d] }
  | _ => none }
def parseMayRow : OpenClaim := { program := "ytoloneoeojoiaaa", sum := "d38232d5350a8e0619552ce8e702b4179c1fe6101981d8034b5a1627f8b1462d", func := "waybill/waybilllaw05.ParseMay", spec := "parseMay", inPlace := ["internal/bytealg.IndexByteString", "internal/abi.NoEscape"], unfollowed := true, recurses := true, apart := false }
def ParseMaySaid : Prop := parseMayRow.holds Try.pinned (OpenSpec.ofChange parseMaySpec)

/-- ITS FALSE NEIGHBOUR: 'it returns false'. Refute it at one input. -/
def parseMayWrong : ChangeSpec := { name := "parseMay", fn := fun _ => fun
  | [d] => { results := [.lit (.bool false)], args := [d] }
  | _ => none }
def ParseMayWrongFalsely : Prop := parseMayRow.holds Try.pinned (OpenSpec.ofChange parseMayWrong)

/- THE SECOND FORM. 'bulk': how many values and letters a reading holds, each counted each time it is reached (what is shared counts as often as it is met; a slice's spare places count too). A statement '..UptoSaid' is the law's where the arguments, and the package variables that the reading takes, are together of bulk at most 1048576: NARROWER than '..Said'. Prove '..Said' where nothing that the law and all that it calls make is longer than what came in: it says more and counts as full. Else prove '..UptoSaid'. A law counts once. -/
mutual
def uptoBulk {H : Type} : DataW H → Nat
  | .lit (.string bytes) => bytes.length + 1
  | .lit _ => 1
  | .nil => 1
  | .ptr d => uptoBulk d + 1
  | .slice elems spare => uptoBulkAll elems + uptoBulkAll spare + 1
  | .agg parts => uptoBulkAll parts + 1
  | .iface _ d => uptoBulk d + 1
  | .map entries => uptoBulkEntries entries + 1
  | .held _ => 1
def uptoBulkAll {H : Type} : List (DataW H) → Nat
  | [] => 0
  | d :: r => uptoBulk d + uptoBulkAll r
def uptoBulkEntries {H : Type} : List (Lit × DataW H) → Nat
  | [] => 0
  | x :: r => uptoBulkEntry x + uptoBulkEntries r
def uptoBulkEntry {H : Type} : Lit × DataW H → Nat
  | (.string bytes, d) => bytes.length + uptoBulk d + 1
  | (_, d) => uptoBulk d + 1
 end
def uptoSmall : (H : Type) → List (DataW H) → Bool := fun _ ds => decide (uptoBulkAll ds ≤ 1048576)
def OpenSpec.upto (s : _root_.Go.ChangeSpec) : _root_.Go.OpenSpec := { _root_.Go.OpenSpec.ofChange s with cond := some uptoSmall }

/-- 'waybilllaw04.LexRemarks', WHERE WHAT IT READS IS OF BULK AT MOST 1048576: true; the input reads as it did. -/
def lexRemarksUptoRow : OpenClaim := { program := "ytoloneoeojoiaaa", sum := "d38232d5350a8e0619552ce8e702b4179c1fe6101981d8034b5a1627f8b1462d", func := "waybill/waybilllaw04.LexRemarks", spec := "lexRemarks", inPlace := ["internal/bytealg.IndexByteString"], unfollowed := true, recurses := true, apart := false, narrowed := true }
def LexRemarksUptoSaid : Prop := lexRemarksUptoRow.holds Try.pinned (OpenSpec.upto lexRemarksSpec)

/-- 'waybilllaw04.LexLines', WHERE WHAT IT READS IS OF BULK AT MOST 1048576: true; the input reads as it did. -/
def lexLinesUptoRow : OpenClaim := { program := "ytoloneoeojoiaaa", sum := "d38232d5350a8e0619552ce8e702b4179c1fe6101981d8034b5a1627f8b1462d", func := "waybill/waybilllaw04.LexLines", spec := "lexLines", inPlace := ["internal/bytealg.IndexByteString"], unfollowed := true, recurses := true, apart := false, narrowed := true }
def LexLinesUptoSaid : Prop := lexLinesUptoRow.holds Try.pinned (OpenSpec.upto lexLinesSpec)

/-- 'waybilllaw04.LexOwn', WHERE WHAT IT READS IS OF BULK AT MOST 1048576: true; the input reads as it did. -/
def lexOwnUptoRow : OpenClaim := { program := "ytoloneoeojoiaaa", sum := "d38232d5350a8e0619552ce8e702b4179c1fe6101981d8034b5a1627f8b1462d", func := "waybill/waybilllaw04.LexOwn", spec := "lexOwn", inPlace := ["internal/bytealg.IndexByteString"], unfollowed := true, recurses := true, apart := false, narrowed := true }
def LexOwnUptoSaid : Prop := lexOwnUptoRow.holds Try.pinned (OpenSpec.upto lexOwnSpec)

/-- 'waybilllaw05.ParseCut', WHERE WHAT IT READS IS OF BULK AT MOST 1048576: true; the input reads as it did. -/
def parseCutUptoRow : OpenClaim := { program := "ytoloneoeojoiaaa", sum := "d38232d5350a8e0619552ce8e702b4179c1fe6101981d8034b5a1627f8b1462d", func := "waybill/waybilllaw05.ParseCut", spec := "parseCut", inPlace := ["internal/bytealg.IndexByteString"], unfollowed := true, recurses := true, apart := false, narrowed := true }
def ParseCutUptoSaid : Prop := parseCutUptoRow.holds Try.pinned (OpenSpec.upto parseCutSpec)

/-- 'waybilllaw05.ParseJoins', WHERE WHAT IT READS IS OF BULK AT MOST 1048576: true; the input reads as it did. -/
def parseJoinsUptoRow : OpenClaim := { program := "ytoloneoeojoiaaa", sum := "d38232d5350a8e0619552ce8e702b4179c1fe6101981d8034b5a1627f8b1462d", func := "waybill/waybilllaw05.ParseJoins", spec := "parseJoins", inPlace := ["internal/bytealg.IndexByteString"], unfollowed := true, recurses := true, apart := false, narrowed := true }
def ParseJoinsUptoSaid : Prop := parseJoinsUptoRow.holds Try.pinned (OpenSpec.upto parseJoinsSpec)

/-- 'waybilllaw05.ParseOwn', WHERE WHAT IT READS IS OF BULK AT MOST 1048576: true; the input reads as it did. -/
def parseOwnUptoRow : OpenClaim := { program := "ytoloneoeojoiaaa", sum := "d38232d5350a8e0619552ce8e702b4179c1fe6101981d8034b5a1627f8b1462d", func := "waybill/waybilllaw05.ParseOwn", spec := "parseOwn", inPlace := ["internal/bytealg.IndexByteString"], unfollowed := true, recurses := true, apart := false, narrowed := true }
def ParseOwnUptoSaid : Prop := parseOwnUptoRow.holds Try.pinned (OpenSpec.upto parseOwnSpec)

/-- 'waybilllaw04.LexBack', WHERE WHAT IT READS IS OF BULK AT MOST 1048576: true; the input reads as it did. -/
def lexBackUptoRow : OpenClaim := { program := "ytoloneoeojoiaaa", sum := "d38232d5350a8e0619552ce8e702b4179c1fe6101981d8034b5a1627f8b1462d", func := "waybill/waybilllaw04.LexBack", spec := "lexBack", inPlace := ["internal/bytealg.IndexByteString", "internal/abi.NoEscape", "internal/bytealg.MakeNoZero"], unfollowed := true, recurses := true, apart := false, narrowed := true }
def LexBackUptoSaid : Prop := lexBackUptoRow.holds Try.pinned (OpenSpec.upto lexBackSpec)

/-- 'waybilllaw04.LexMay', WHERE WHAT IT READS IS OF BULK AT MOST 1048576: true; the input reads as it did. -/
def lexMayUptoRow : OpenClaim := { program := "ytoloneoeojoiaaa", sum := "d38232d5350a8e0619552ce8e702b4179c1fe6101981d8034b5a1627f8b1462d", func := "waybill/waybilllaw04.LexMay", spec := "lexMay", inPlace := ["internal/bytealg.IndexByteString", "internal/abi.NoEscape", "internal/bytealg.MakeNoZero"], unfollowed := true, recurses := true, apart := false, narrowed := true }
def LexMayUptoSaid : Prop := lexMayUptoRow.holds Try.pinned (OpenSpec.upto lexMaySpec)

/-- 'waybilllaw04.LexTells', WHERE WHAT IT READS IS OF BULK AT MOST 1048576: true; the input reads as it did. -/
def lexTellsUptoRow : OpenClaim := { program := "ytoloneoeojoiaaa", sum := "d38232d5350a8e0619552ce8e702b4179c1fe6101981d8034b5a1627f8b1462d", func := "waybill/waybilllaw04.LexTells", spec := "lexTells", inPlace := ["internal/bytealg.IndexByteString", "internal/abi.NoEscape", "internal/bytealg.MakeNoZero"], unfollowed := true, recurses := true, apart := false, narrowed := true }
def LexTellsUptoSaid : Prop := lexTellsUptoRow.holds Try.pinned (OpenSpec.upto lexTellsSpec)

/-- 'waybilllaw05.ParseBack', WHERE WHAT IT READS IS OF BULK AT MOST 1048576: true; the input reads as it did. -/
def parseBackUptoRow : OpenClaim := { program := "ytoloneoeojoiaaa", sum := "d38232d5350a8e0619552ce8e702b4179c1fe6101981d8034b5a1627f8b1462d", func := "waybill/waybilllaw05.ParseBack", spec := "parseBack", inPlace := ["internal/bytealg.IndexByteString", "internal/abi.NoEscape"], unfollowed := true, recurses := true, loops := true, apart := false, narrowed := true }
def ParseBackUptoSaid : Prop := parseBackUptoRow.holds Try.pinned (OpenSpec.upto parseBackSpec)

/-- 'waybilllaw05.ParseMay', WHERE WHAT IT READS IS OF BULK AT MOST 1048576: true; the input reads as it did. -/
def parseMayUptoRow : OpenClaim := { program := "ytoloneoeojoiaaa", sum := "d38232d5350a8e0619552ce8e702b4179c1fe6101981d8034b5a1627f8b1462d", func := "waybill/waybilllaw05.ParseMay", spec := "parseMay", inPlace := ["internal/bytealg.IndexByteString", "internal/abi.NoEscape"], unfollowed := true, recurses := true, apart := false, narrowed := true }
def ParseMayUptoSaid : Prop := parseMayUptoRow.holds Try.pinned (OpenSpec.upto parseMaySpec)

end Rows
end Go.Proofs.Ytoloneoeojoiaaa
