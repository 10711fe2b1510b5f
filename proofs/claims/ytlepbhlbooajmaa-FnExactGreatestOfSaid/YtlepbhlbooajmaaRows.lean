/-
  No cell of these rows narrows 'for every input' (looked for: loops, veiled, ifaces, maps, wideKeys, modest, calm, conditions, laid).
  DERIVED. THE GIVEN ROWS OF THIS SEAT. 4 by the template 'for every input the law returns true; each argument reads behind the call as it read before'; 0 by the template 'total and deterministic' (their statements: YtlepbhlbooajmaaTotals.lean).
  GIVEN WITH THE SEED: the statements are not yours to turn. If you find one false, say at which input.
  Laid BY PROGRAM, IN A SANDBOX (cutbox-rows.mjs): the forced cells as the released guide's own fill.sh prints them over the translation 573b7ccb39e44c18… (all of the seat's roots in one cut). By AI agents, Wed Nov 11 2026. No macro, syntax, notation, axiom, sorry.
-/
import Derived.Test.YtlepbhlbooajmaaChecked
import GoSem.Claim
import GoSem.ClaimJoined
import GoSem.ClaimMapViews
import Derived.JoinedTies
import Derived.KernelRfl
namespace Go.Proofs.Ytlepbhlbooajmaa
/- THE CELL 'sum', in the pinned program and in every row, IS THE sha256 OF THE DUMP (.gsa) THAT YtlepbhlbooajmaaProg.lean LOADS. Nothing in Lean hashes anything: it is a label: what it is worth is what the hold of that sum in a sandbox is worth. -/
noncomputable def Try.pinned : Pinned := { name := "ytlepbhlbooajmaa", sum := "573b7ccb39e44c18efd8cebb26850ebf458b12a920a78bcfa65fbe6a426e906e", checked := Try.checked }
namespace Rows
def none {H : Type} : Left H := { results := [], args := [] }

/-- 'laws.FnExactGreatestOf': WHATEVER THE INPUT: true; the input reads as it did. -/
def fnExactGreatestOfSpec : ChangeSpec := { name := "fnExactGreatestOf", fn := fun _ => fun
  | [d1, d2] => { results := [.lit (.bool true)], args := [d1, d2] }
  | _ => none }
def fnExactGreatestOfRow : OpenClaim := { program := "ytlepbhlbooajmaa", sum := "573b7ccb39e44c18efd8cebb26850ebf458b12a920a78bcfa65fbe6a426e906e", func := "loop.example/g01398/laws.FnExactGreatestOf", spec := "fnExactGreatestOf", unfollowed := true, recurses := true, apart := false }
def FnExactGreatestOfSaid : Prop := fnExactGreatestOfRow.holds Try.pinned (OpenSpec.ofChange fnExactGreatestOfSpec)

/-- ITS FALSE NEIGHBOUR: 'it returns false'. Refute it at one input. -/
def fnExactGreatestOfWrong : ChangeSpec := { name := "fnExactGreatestOf", fn := fun _ => fun
  | [d1, d2] => { results := [.lit (.bool false)], args := [d1, d2] }
  | _ => none }
def FnExactGreatestOfWrongFalsely : Prop := fnExactGreatestOfRow.holds Try.pinned (OpenSpec.ofChange fnExactGreatestOfWrong)

/-- 'laws.FnExactShortestFor': WHATEVER THE INPUT: true; the input reads as it did. -/
def fnExactShortestForSpec : ChangeSpec := { name := "fnExactShortestFor", fn := fun _ => fun
  | [d1, d2] => { results := [.lit (.bool true)], args := [d1, d2] }
  | _ => none }
def fnExactShortestForRow : OpenClaim := { program := "ytlepbhlbooajmaa", sum := "573b7ccb39e44c18efd8cebb26850ebf458b12a920a78bcfa65fbe6a426e906e", func := "loop.example/g01398/laws.FnExactShortestFor", spec := "fnExactShortestFor", unfollowed := true, recurses := true, apart := false }
def FnExactShortestForSaid : Prop := fnExactShortestForRow.holds Try.pinned (OpenSpec.ofChange fnExactShortestForSpec)

/-- ITS FALSE NEIGHBOUR: 'it returns false'. Refute it at one input. -/
def fnExactShortestForWrong : ChangeSpec := { name := "fnExactShortestFor", fn := fun _ => fun
  | [d1, d2] => { results := [.lit (.bool false)], args := [d1, d2] }
  | _ => none }
def FnExactShortestForWrongFalsely : Prop := fnExactShortestForRow.holds Try.pinned (OpenSpec.ofChange fnExactShortestForWrong)

/-- 'laws.FnExactLongestNumber': WHATEVER THE INPUT: true; the input reads as it did. -/
def fnExactLongestNumberSpec : ChangeSpec := { name := "fnExactLongestNumber", fn := fun _ => fun
  | [d1, d2, d3] => { results := [.lit (.bool true)], args := [d1, d2, d3] }
  | _ => none }
def fnExactLongestNumberRow : OpenClaim := { program := "ytlepbhlbooajmaa", sum := "573b7ccb39e44c18efd8cebb26850ebf458b12a920a78bcfa65fbe6a426e906e", func := "loop.example/g01398/laws.FnExactLongestNumber", spec := "fnExactLongestNumber", unfollowed := true, recurses := true, apart := false }
def FnExactLongestNumberSaid : Prop := fnExactLongestNumberRow.holds Try.pinned (OpenSpec.ofChange fnExactLongestNumberSpec)

/-- ITS FALSE NEIGHBOUR: 'it returns false'. Refute it at one input. -/
def fnExactLongestNumberWrong : ChangeSpec := { name := "fnExactLongestNumber", fn := fun _ => fun
  | [d1, d2, d3] => { results := [.lit (.bool false)], args := [d1, d2, d3] }
  | _ => none }
def FnExactLongestNumberWrongFalsely : Prop := fnExactLongestNumberRow.holds Try.pinned (OpenSpec.ofChange fnExactLongestNumberWrong)

/-- 'laws.FnExactWidthOfNumber': WHATEVER THE INPUT: true; the input reads as it did. -/
def fnExactWidthOfNumberSpec : ChangeSpec := { name := "fnExactWidthOfNumber", fn := fun _ => fun
  | [d1, d2, d3] => { results := [.lit (.bool true)], args := [d1, d2, d3] }
  | _ => none }
def fnExactWidthOfNumberRow : OpenClaim := { program := "ytlepbhlbooajmaa", sum := "573b7ccb39e44c18efd8cebb26850ebf458b12a920a78bcfa65fbe6a426e906e", func := "loop.example/g01398/laws.FnExactWidthOfNumber", spec := "fnExactWidthOfNumber", unfollowed := true, recurses := true, apart := false }
def FnExactWidthOfNumberSaid : Prop := fnExactWidthOfNumberRow.holds Try.pinned (OpenSpec.ofChange fnExactWidthOfNumberSpec)

/-- ITS FALSE NEIGHBOUR: 'it returns false'. Refute it at one input. -/
def fnExactWidthOfNumberWrong : ChangeSpec := { name := "fnExactWidthOfNumber", fn := fun _ => fun
  | [d1, d2, d3] => { results := [.lit (.bool false)], args := [d1, d2, d3] }
  | _ => none }
def FnExactWidthOfNumberWrongFalsely : Prop := fnExactWidthOfNumberRow.holds Try.pinned (OpenSpec.ofChange fnExactWidthOfNumberWrong)

/- THE SECOND FORM. 'bulk': how many values and letters a reading holds, each counted each time it is reached (what is shared counts as often as it is met; a slice's spare places count too). A statement '..UptoSaid' is the law's where the arguments, and the package variables that the reading takes, are together of bulk at most 1048576: NARROWER than '..Said'. Prove '..Said' where nothing that the law and all that it calls make is longer than what came in: it says more and counts as full. Else prove '..UptoSaid'. A law counts once. -/
mutual
def uptoBulk {H : Type} : DataW H → Nat
  | .lit (.string bytes) => bytes.length + 1
  | .lit _ => 1
  | .nil => 1
  | .ptr d => uptoBulk d + 1
  | .slice elems spare => uptoBulkAll elems + uptoBulkAll spare + 1
  | .agg parts => uptoBulkAll parts + 1
  | .iface _ d => uptoBulk d + 1
  | .map entries => uptoBulkEntries entries + 1
  | .held _ => 1
def uptoBulkAll {H : Type} : List (DataW H) → Nat
  | [] => 0
  | d :: r => uptoBulk d + uptoBulkAll r
def uptoBulkEntries {H : Type} : List (Lit × DataW H) → Nat
  | [] => 0
  | x :: r => uptoBulkEntry x + uptoBulkEntries r
def uptoBulkEntry {H : Type} : Lit × DataW H → Nat
  | (.string bytes, d) => bytes.length + uptoBulk d + 1
  | (_, d) => uptoBulk d + 1
 end
def uptoSmall : (H : Type) → List (DataW H) → Bool := fun _ ds => decide (uptoBulkAll ds ≤ 1048576)
def OpenSpec.upto (s : _root_.Go.ChangeSpec) : _root_.Go.OpenSpec := { _root_.Go.OpenSpec.ofChange s with cond := some uptoSmall }

/-- 'laws.FnExactGreatestOf', WHERE WHAT IT READS IS OF BULK AT MOST 1048576: true; the input reads as it did. -/
def fnExactGreatestOfUptoRow : OpenClaim := { program := "ytlepbhlbooajmaa", sum := "573b7ccb39e44c18efd8cebb26850ebf458b12a920a78bcfa65fbe6a426e906e", func := "loop.example/g01398/laws.FnExactGreatestOf", spec := "fnExactGreatestOf", unfollowed := true, recurses := true, apart := false, narrowed := true }
def FnExactGreatestOfUptoSaid : Prop := fnExactGreatestOfUptoRow.holds Try.pinned (OpenSpec.upto fnExactGreatestOfSpec)

/-- 'laws.FnExactShortestFor', WHERE WHAT IT READS IS OF BULK AT MOST 1048576: true; the input reads as it did. -/
def fnExactShortestForUptoRow : OpenClaim := { program := "ytlepbhlbooajmaa", sum := "573b7ccb39e44c18efd8cebb26850ebf458b12a920a78bcfa65fbe6a426e906e", func := "loop.example/g01398/laws.FnExactShortestFor", spec := "fnExactShortestFor", unfollowed := true, recurses := true, apart := false, narrowed := true }
def FnExactShortestForUptoSaid : Prop := fnExactShortestForUptoRow.holds Try.pinned (OpenSpec.upto fnExactShortestForSpec)

/-- 'laws.FnExactLongestNumber', WHERE WHAT IT READS IS OF BULK AT MOST 1048576: true; the input reads as it did. -/
def fnExactLongestNumberUptoRow : OpenClaim := { program := "ytlepbhlbooajmaa", sum := "573b7ccb39e44c18efd8cebb26850ebf458b12a920a78bcfa65fbe6a426e906e", func := "loop.example/g01398/laws.FnExactLongestNumber", spec := "fnExactLongestNumber", unfollowed := true, recurses := true, apart := false, narrowed := true }
def FnExactLongestNumberUptoSaid : Prop := fnExactLongestNumberUptoRow.holds Try.pinned (OpenSpec.upto fnExactLongestNumberSpec)

/-- 'laws.FnExactWidthOfNumber', WHERE WHAT IT READS IS OF BULK AT MOST 1048576: true; the input reads as it did. -/
def fnExactWidthOfNumberUptoRow : OpenClaim := { program := "ytlepbhlbooajmaa", sum := "573b7ccb39e44c18efd8cebb26850ebf458b12a920a78bcfa65fbe6a426e906e", func := "loop.example/g01398/laws.FnExactWidthOfNumber", spec := "fnExactWidthOfNumber", unfollowed := true, recurses := true, apart := false, narrowed := true }
def FnExactWidthOfNumberUptoSaid : Prop := fnExactWidthOfNumberUptoRow.holds Try.pinned (OpenSpec.upto fnExactWidthOfNumberSpec)

end Rows
end Go.Proofs.Ytlepbhlbooajmaa
