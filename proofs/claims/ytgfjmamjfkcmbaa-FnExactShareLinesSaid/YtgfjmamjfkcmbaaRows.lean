/-
  No cell of these rows narrows 'for every input' (looked for: loops, veiled, ifaces, maps, wideKeys, modest, calm, conditions, laid).
  DERIVED. THE GIVEN ROWS OF THIS SEAT. 13 by the template 'for every input the law returns true; each argument reads behind the call as it read before'; 0 by the template 'total and deterministic' (their statements: YtgfjmamjfkcmbaaTotals.lean).
  GIVEN WITH THE SEED: the statements are not yours to turn. If you find one false, say at which input.
  Laid BY PROGRAM, IN A SANDBOX (cutbox-rows.mjs): the forced cells as the released guide's own fill.sh prints them over the translation b1567f144c0c17e3… (all of the seat's roots in one cut). By AI agents, Wed Nov 11 2026. No macro, syntax, notation, axiom, sorry.
-/
import Derived.Test.YtgfjmamjfkcmbaaChecked
import GoSem.Claim
import GoSem.ClaimJoined
import GoSem.ClaimMapViews
import Derived.JoinedTies
import Derived.KernelRfl
namespace Go.Proofs.Ytgfjmamjfkcmbaa
/- THE CELL 'sum', in the pinned program and in every row, IS THE sha256 OF THE DUMP (.gsa) THAT YtgfjmamjfkcmbaaProg.lean LOADS. Nothing in Lean hashes anything: it is a label: what it is worth is what the hold of that sum in a sandbox is worth. -/
noncomputable def Try.pinned : Pinned := { name := "ytgfjmamjfkcmbaa", sum := "b1567f144c0c17e3d9a8c6866f1831f90cb1bb806efffc44b6ea688cf1be2636", checked := Try.checked }
namespace Rows
def none {H : Type} : Left H := { results := [], args := [] }

/-- 'laws.FnExactValidChisel': WHATEVER THE INPUT: true; the input reads as it did. -/
def fnExactValidChiselSpec : ChangeSpec := { name := "fnExactValidChisel", fn := fun _ => fun
  | [d] => { results := [.lit (.bool true)], args := [d] }
  | _ => none }
def fnExactValidChiselRow : OpenClaim := { program := "ytgfjmamjfkcmbaa", sum := "b1567f144c0c17e3d9a8c6866f1831f90cb1bb806efffc44b6ea688cf1be2636", func := "loop.example/g01398/laws.FnExactValidChisel", spec := "fnExactValidChisel", apart := false }
def FnExactValidChiselSaid : Prop := fnExactValidChiselRow.holds Try.pinned (OpenSpec.ofChange fnExactValidChiselSpec)

/-- ITS FALSE NEIGHBOUR: 'it returns false'. Refute it at one input. -/
def fnExactValidChiselWrong : ChangeSpec := { name := "fnExactValidChisel", fn := fun _ => fun
  | [d] => { results := [.lit (.bool false)], args := [d] }
  | _ => none }
def FnExactValidChiselWrongFalsely : Prop := fnExactValidChiselRow.holds Try.pinned (OpenSpec.ofChange fnExactValidChiselWrong)

/-- 'laws.FnExactValidSheet': WHATEVER THE INPUT: true; the input reads as it did. -/
def fnExactValidSheetSpec : ChangeSpec := { name := "fnExactValidSheet", fn := fun _ => fun
  | [d] => { results := [.lit (.bool true)], args := [d] }
  | _ => none }
def fnExactValidSheetRow : OpenClaim := { program := "ytgfjmamjfkcmbaa", sum := "b1567f144c0c17e3d9a8c6866f1831f90cb1bb806efffc44b6ea688cf1be2636", func := "loop.example/g01398/laws.FnExactValidSheet", spec := "fnExactValidSheet", apart := false }
def FnExactValidSheetSaid : Prop := fnExactValidSheetRow.holds Try.pinned (OpenSpec.ofChange fnExactValidSheetSpec)

/-- ITS FALSE NEIGHBOUR: 'it returns false'. Refute it at one input. -/
def fnExactValidSheetWrong : ChangeSpec := { name := "fnExactValidSheet", fn := fun _ => fun
  | [d] => { results := [.lit (.bool false)], args := [d] }
  | _ => none }
def FnExactValidSheetWrongFalsely : Prop := fnExactValidSheetRow.holds Try.pinned (OpenSpec.ofChange fnExactValidSheetWrong)

/-- 'laws.FnExactValidStrokes': WHATEVER THE INPUT: true; the input reads as it did. -/
def fnExactValidStrokesSpec : ChangeSpec := { name := "fnExactValidStrokes", fn := fun _ => fun
  | [d] => { results := [.lit (.bool true)], args := [d] }
  | _ => none }
def fnExactValidStrokesRow : OpenClaim := { program := "ytgfjmamjfkcmbaa", sum := "b1567f144c0c17e3d9a8c6866f1831f90cb1bb806efffc44b6ea688cf1be2636", func := "loop.example/g01398/laws.FnExactValidStrokes", spec := "fnExactValidStrokes", unfollowed := true, recurses := true, apart := false }
def FnExactValidStrokesSaid : Prop := fnExactValidStrokesRow.holds Try.pinned (OpenSpec.ofChange fnExactValidStrokesSpec)

/-- ITS FALSE NEIGHBOUR: 'it returns false'. Refute it at one input. -/
def fnExactValidStrokesWrong : ChangeSpec := { name := "fnExactValidStrokes", fn := fun _ => fun
  | [d] => { results := [.lit (.bool false)], args := [d] }
  | _ => none }
def FnExactValidStrokesWrongFalsely : Prop := fnExactValidStrokesRow.holds Try.pinned (OpenSpec.ofChange fnExactValidStrokesWrong)

/-- 'laws.FnExactValidPrices': WHATEVER THE INPUT: true; the input reads as it did. -/
def fnExactValidPricesSpec : ChangeSpec := { name := "fnExactValidPrices", fn := fun _ => fun
  | [d] => { results := [.lit (.bool true)], args := [d] }
  | _ => none }
def fnExactValidPricesRow : OpenClaim := { program := "ytgfjmamjfkcmbaa", sum := "b1567f144c0c17e3d9a8c6866f1831f90cb1bb806efffc44b6ea688cf1be2636", func := "loop.example/g01398/laws.FnExactValidPrices", spec := "fnExactValidPrices", unfollowed := true, recurses := true, apart := false }
def FnExactValidPricesSaid : Prop := fnExactValidPricesRow.holds Try.pinned (OpenSpec.ofChange fnExactValidPricesSpec)

/-- ITS FALSE NEIGHBOUR: 'it returns false'. Refute it at one input. -/
def fnExactValidPricesWrong : ChangeSpec := { name := "fnExactValidPrices", fn := fun _ => fun
  | [d] => { results := [.lit (.bool false)], args := [d] }
  | _ => none }
def FnExactValidPricesWrongFalsely : Prop := fnExactValidPricesRow.holds Try.pinned (OpenSpec.ofChange fnExactValidPricesWrong)

/-- 'laws.FnExactFirstShort': WHATEVER THE INPUT: true; the input reads as it did. -/
def fnExactFirstShortSpec : ChangeSpec := { name := "fnExactFirstShort", fn := fun _ => fun
  | [d1, d2] => { results := [.lit (.bool true)], args := [d1, d2] }
  | _ => none }
def fnExactFirstShortRow : OpenClaim := { program := "ytgfjmamjfkcmbaa", sum := "b1567f144c0c17e3d9a8c6866f1831f90cb1bb806efffc44b6ea688cf1be2636", func := "loop.example/g01398/laws.FnExactFirstShort", spec := "fnExactFirstShort", unfollowed := true, recurses := true, apart := false }
def FnExactFirstShortSaid : Prop := fnExactFirstShortRow.holds Try.pinned (OpenSpec.ofChange fnExactFirstShortSpec)

/-- ITS FALSE NEIGHBOUR: 'it returns false'. Refute it at one input. -/
def fnExactFirstShortWrong : ChangeSpec := { name := "fnExactFirstShort", fn := fun _ => fun
  | [d1, d2] => { results := [.lit (.bool false)], args := [d1, d2] }
  | _ => none }
def FnExactFirstShortWrongFalsely : Prop := fnExactFirstShortRow.holds Try.pinned (OpenSpec.ofChange fnExactFirstShortWrong)

/-- 'laws.FnShared': WHATEVER THE INPUT: true; the input reads as it did. -/
def fnSharedSpec : ChangeSpec := { name := "fnShared", fn := fun _ => fun
  | [d1, d2] => { results := [.lit (.bool true)], args := [d1, d2] }
  | _ => none }
def fnSharedRow : OpenClaim := { program := "ytgfjmamjfkcmbaa", sum := "b1567f144c0c17e3d9a8c6866f1831f90cb1bb806efffc44b6ea688cf1be2636", func := "loop.example/g01398/laws.FnShared", spec := "fnShared", unfollowed := true, recurses := true, apart := false }
def FnSharedSaid : Prop := fnSharedRow.holds Try.pinned (OpenSpec.ofChange fnSharedSpec)

/-- ITS FALSE NEIGHBOUR: 'it returns false'. Refute it at one input. -/
def fnSharedWrong : ChangeSpec := { name := "fnShared", fn := fun _ => fun
  | [d1, d2] => { results := [.lit (.bool false)], args := [d1, d2] }
  | _ => none }
def FnSharedWrongFalsely : Prop := fnSharedRow.holds Try.pinned (OpenSpec.ofChange fnSharedWrong)

/-- 'laws.FnExactLeastStart': WHATEVER THE INPUT: true; the input reads as it did. -/
def fnExactLeastStartSpec : ChangeSpec := { name := "fnExactLeastStart", fn := fun _ => fun
  | [d] => { results := [.lit (.bool true)], args := [d] }
  | _ => none }
def fnExactLeastStartRow : OpenClaim := { program := "ytgfjmamjfkcmbaa", sum := "b1567f144c0c17e3d9a8c6866f1831f90cb1bb806efffc44b6ea688cf1be2636", func := "loop.example/g01398/laws.FnExactLeastStart", spec := "fnExactLeastStart", unfollowed := true, recurses := true, apart := false }
def FnExactLeastStartSaid : Prop := fnExactLeastStartRow.holds Try.pinned (OpenSpec.ofChange fnExactLeastStartSpec)

/-- ITS FALSE NEIGHBOUR: 'it returns false'. Refute it at one input. -/
def fnExactLeastStartWrong : ChangeSpec := { name := "fnExactLeastStart", fn := fun _ => fun
  | [d] => { results := [.lit (.bool false)], args := [d] }
  | _ => none }
def FnExactLeastStartWrongFalsely : Prop := fnExactLeastStartRow.holds Try.pinned (OpenSpec.ofChange fnExactLeastStartWrong)

/-- 'laws.FnExactDaysFor': WHATEVER THE INPUT: true; the input reads as it did. -/
def fnExactDaysForSpec : ChangeSpec := { name := "fnExactDaysFor", fn := fun _ => fun
  | [d1, d2] => { results := [.lit (.bool true)], args := [d1, d2] }
  | _ => none }
def fnExactDaysForRow : OpenClaim := { program := "ytgfjmamjfkcmbaa", sum := "b1567f144c0c17e3d9a8c6866f1831f90cb1bb806efffc44b6ea688cf1be2636", func := "loop.example/g01398/laws.FnExactDaysFor", spec := "fnExactDaysFor", unfollowed := true, recurses := true, apart := false }
def FnExactDaysForSaid : Prop := fnExactDaysForRow.holds Try.pinned (OpenSpec.ofChange fnExactDaysForSpec)

/-- ITS FALSE NEIGHBOUR: 'it returns false'. Refute it at one input. -/
def fnExactDaysForWrong : ChangeSpec := { name := "fnExactDaysFor", fn := fun _ => fun
  | [d1, d2] => { results := [.lit (.bool false)], args := [d1, d2] }
  | _ => none }
def FnExactDaysForWrongFalsely : Prop := fnExactDaysForRow.holds Try.pinned (OpenSpec.ofChange fnExactDaysForWrong)

/-- 'laws.FnExactStockAfter': WHATEVER THE INPUT: true; the input reads as it did. -/
def fnExactStockAfterSpec : ChangeSpec := { name := "fnExactStockAfter", fn := fun _ => fun
  | [d1, d2] => { results := [.lit (.bool true)], args := [d1, d2] }
  | _ => none }
def fnExactStockAfterRow : OpenClaim := { program := "ytgfjmamjfkcmbaa", sum := "b1567f144c0c17e3d9a8c6866f1831f90cb1bb806efffc44b6ea688cf1be2636", func := "loop.example/g01398/laws.FnExactStockAfter", spec := "fnExactStockAfter", unfollowed := true, recurses := true, apart := false }
def FnExactStockAfterSaid : Prop := fnExactStockAfterRow.holds Try.pinned (OpenSpec.ofChange fnExactStockAfterSpec)

/-- ITS FALSE NEIGHBOUR: 'it returns false'. Refute it at one input. -/
def fnExactStockAfterWrong : ChangeSpec := { name := "fnExactStockAfter", fn := fun _ => fun
  | [d1, d2] => { results := [.lit (.bool false)], args := [d1, d2] }
  | _ => none }
def FnExactStockAfterWrongFalsely : Prop := fnExactStockAfterRow.holds Try.pinned (OpenSpec.ofChange fnExactStockAfterWrong)

/-- 'laws.FnExactLateLines': WHATEVER THE INPUT: true; the input reads as it did. -/
def fnExactLateLinesSpec : ChangeSpec := { name := "fnExactLateLines", fn := fun _ => fun
  | [d1, d2] => { results := [.lit (.bool true)], args := [d1, d2] }
  | _ => none }
def fnExactLateLinesRow : OpenClaim := { program := "ytgfjmamjfkcmbaa", sum := "b1567f144c0c17e3d9a8c6866f1831f90cb1bb806efffc44b6ea688cf1be2636", func := "loop.example/g01398/laws.FnExactLateLines", spec := "fnExactLateLines", unfollowed := true, recurses := true, apart := false }
def FnExactLateLinesSaid : Prop := fnExactLateLinesRow.holds Try.pinned (OpenSpec.ofChange fnExactLateLinesSpec)

/-- ITS FALSE NEIGHBOUR: 'it returns false'. Refute it at one input. -/
def fnExactLateLinesWrong : ChangeSpec := { name := "fnExactLateLines", fn := fun _ => fun
  | [d1, d2] => { results := [.lit (.bool false)], args := [d1, d2] }
  | _ => none }
def FnExactLateLinesWrongFalsely : Prop := fnExactLateLinesRow.holds Try.pinned (OpenSpec.ofChange fnExactLateLinesWrong)

/-- 'laws.FnExactShareAny': WHATEVER THE INPUT: true; the input reads as it did. -/
def fnExactShareAnySpec : ChangeSpec := { name := "fnExactShareAny", fn := fun _ => fun
  | [d1, d2] => { results := [.lit (.bool true)], args := [d1, d2] }
  | _ => none }
def fnExactShareAnyRow : OpenClaim := { program := "ytgfjmamjfkcmbaa", sum := "b1567f144c0c17e3d9a8c6866f1831f90cb1bb806efffc44b6ea688cf1be2636", func := "loop.example/g01398/laws.FnExactShareAny", spec := "fnExactShareAny", unfollowed := true, recurses := true, apart := false }
def FnExactShareAnySaid : Prop := fnExactShareAnyRow.holds Try.pinned (OpenSpec.ofChange fnExactShareAnySpec)

/-- ITS FALSE NEIGHBOUR: 'it returns false'. Refute it at one input. -/
def fnExactShareAnyWrong : ChangeSpec := { name := "fnExactShareAny", fn := fun _ => fun
  | [d1, d2] => { results := [.lit (.bool false)], args := [d1, d2] }
  | _ => none }
def FnExactShareAnyWrongFalsely : Prop := fnExactShareAnyRow.holds Try.pinned (OpenSpec.ofChange fnExactShareAnyWrong)

/-- 'laws.FnExactShareLines': WHATEVER THE INPUT: true; the input reads as it did. -/
def fnExactShareLinesSpec : ChangeSpec := { name := "fnExactShareLines", fn := fun _ => fun
  | [d1, d2] => { results := [.lit (.bool true)], args := [d1, d2] }
  | _ => none }
def fnExactShareLinesRow : OpenClaim := { program := "ytgfjmamjfkcmbaa", sum := "b1567f144c0c17e3d9a8c6866f1831f90cb1bb806efffc44b6ea688cf1be2636", func := "loop.example/g01398/laws.FnExactShareLines", spec := "fnExactShareLines", unfollowed := true, recurses := true, apart := false }
def FnExactShareLinesSaid : Prop := fnExactShareLinesRow.holds Try.pinned (OpenSpec.ofChange fnExactShareLinesSpec)

/-- ITS FALSE NEIGHBOUR: 'it returns false'. Refute it at one input. -/
def fnExactShareLinesWrong : ChangeSpec := { name := "fnExactShareLines", fn := fun _ => fun
  | [d1, d2] => { results := [.lit (.bool false)], args := [d1, d2] }
  | _ => none }
def FnExactShareLinesWrongFalsely : Prop := fnExactShareLinesRow.holds Try.pinned (OpenSpec.ofChange fnExactShareLinesWrong)

/-- 'laws.FnExactFewestLate': WHATEVER THE INPUT: true; the input reads as it did. -/
def fnExactFewestLateSpec : ChangeSpec := { name := "fnExactFewestLate", fn := fun _ => fun
  | [d1, d2] => { results := [.lit (.bool true)], args := [d1, d2] }
  | _ => none }
def fnExactFewestLateRow : OpenClaim := { program := "ytgfjmamjfkcmbaa", sum := "b1567f144c0c17e3d9a8c6866f1831f90cb1bb806efffc44b6ea688cf1be2636", func := "loop.example/g01398/laws.FnExactFewestLate", spec := "fnExactFewestLate", unfollowed := true, recurses := true, apart := false }
def FnExactFewestLateSaid : Prop := fnExactFewestLateRow.holds Try.pinned (OpenSpec.ofChange fnExactFewestLateSpec)

/-- ITS FALSE NEIGHBOUR: 'it returns false'. Refute it at one input. -/
def fnExactFewestLateWrong : ChangeSpec := { name := "fnExactFewestLate", fn := fun _ => fun
  | [d1, d2] => { results := [.lit (.bool false)], args := [d1, d2] }
  | _ => none }
def FnExactFewestLateWrongFalsely : Prop := fnExactFewestLateRow.holds Try.pinned (OpenSpec.ofChange fnExactFewestLateWrong)

/- THE SECOND FORM. 'bulk': how many values and letters a reading holds, each counted each time it is reached (what is shared counts as often as it is met; a slice's spare places count too). A statement '..UptoSaid' is the law's where the arguments, and the package variables that the reading takes, are together of bulk at most 1048576: NARROWER than '..Said'. Prove '..Said' where nothing that the law and all that it calls make is longer than what came in: it says more and counts as full. Else prove '..UptoSaid'. A law counts once. -/
mutual
def uptoBulk {H : Type} : DataW H → Nat
  | .lit (.string bytes) => bytes.length + 1
  | .lit _ => 1
  | .nil => 1
  | .ptr d => uptoBulk d + 1
  | .slice elems spare => uptoBulkAll elems + uptoBulkAll spare + 1
  | .agg parts => uptoBulkAll parts + 1
  | .iface _ d => uptoBulk d + 1
  | .map entries => uptoBulkEntries entries + 1
  | .held _ => 1
def uptoBulkAll {H : Type} : List (DataW H) → Nat
  | [] => 0
  | d :: r => uptoBulk d + uptoBulkAll r
def uptoBulkEntries {H : Type} : List (Lit × DataW H) → Nat
  | [] => 0
  | x :: r => uptoBulkEntry x + uptoBulkEntries r
def uptoBulkEntry {H : Type} : Lit × DataW H → Nat
  | (.string bytes, d) => bytes.length + uptoBulk d + 1
  | (_, d) => uptoBulk d + 1
 end
def uptoSmall : (H : Type) → List (DataW H) → Bool := fun _ ds => decide (uptoBulkAll ds ≤ 1048576)
def OpenSpec.upto (s : _root_.Go.ChangeSpec) : _root_.Go.OpenSpec := { _root_.Go.OpenSpec.ofChange s with cond := some uptoSmall }

/-- 'laws.FnExactValidChisel', WHERE WHAT IT READS IS OF BULK AT MOST 1048576: true; the input reads as it did. -/
def fnExactValidChiselUptoRow : OpenClaim := { program := "ytgfjmamjfkcmbaa", sum := "b1567f144c0c17e3d9a8c6866f1831f90cb1bb806efffc44b6ea688cf1be2636", func := "loop.example/g01398/laws.FnExactValidChisel", spec := "fnExactValidChisel", apart := false, narrowed := true }
def FnExactValidChiselUptoSaid : Prop := fnExactValidChiselUptoRow.holds Try.pinned (OpenSpec.upto fnExactValidChiselSpec)

/-- 'laws.FnExactValidSheet', WHERE WHAT IT READS IS OF BULK AT MOST 1048576: true; the input reads as it did. -/
def fnExactValidSheetUptoRow : OpenClaim := { program := "ytgfjmamjfkcmbaa", sum := "b1567f144c0c17e3d9a8c6866f1831f90cb1bb806efffc44b6ea688cf1be2636", func := "loop.example/g01398/laws.FnExactValidSheet", spec := "fnExactValidSheet", apart := false, narrowed := true }
def FnExactValidSheetUptoSaid : Prop := fnExactValidSheetUptoRow.holds Try.pinned (OpenSpec.upto fnExactValidSheetSpec)

/-- 'laws.FnExactValidStrokes', WHERE WHAT IT READS IS OF BULK AT MOST 1048576: true; the input reads as it did. -/
def fnExactValidStrokesUptoRow : OpenClaim := { program := "ytgfjmamjfkcmbaa", sum := "b1567f144c0c17e3d9a8c6866f1831f90cb1bb806efffc44b6ea688cf1be2636", func := "loop.example/g01398/laws.FnExactValidStrokes", spec := "fnExactValidStrokes", unfollowed := true, recurses := true, apart := false, narrowed := true }
def FnExactValidStrokesUptoSaid : Prop := fnExactValidStrokesUptoRow.holds Try.pinned (OpenSpec.upto fnExactValidStrokesSpec)

/-- 'laws.FnExactValidPrices', WHERE WHAT IT READS IS OF BULK AT MOST 1048576: true; the input reads as it did. -/
def fnExactValidPricesUptoRow : OpenClaim := { program := "ytgfjmamjfkcmbaa", sum := "b1567f144c0c17e3d9a8c6866f1831f90cb1bb806efffc44b6ea688cf1be2636", func := "loop.example/g01398/laws.FnExactValidPrices", spec := "fnExactValidPrices", unfollowed := true, recurses := true, apart := false, narrowed := true }
def FnExactValidPricesUptoSaid : Prop := fnExactValidPricesUptoRow.holds Try.pinned (OpenSpec.upto fnExactValidPricesSpec)

/-- 'laws.FnExactFirstShort', WHERE WHAT IT READS IS OF BULK AT MOST 1048576: true; the input reads as it did. -/
def fnExactFirstShortUptoRow : OpenClaim := { program := "ytgfjmamjfkcmbaa", sum := "b1567f144c0c17e3d9a8c6866f1831f90cb1bb806efffc44b6ea688cf1be2636", func := "loop.example/g01398/laws.FnExactFirstShort", spec := "fnExactFirstShort", unfollowed := true, recurses := true, apart := false, narrowed := true }
def FnExactFirstShortUptoSaid : Prop := fnExactFirstShortUptoRow.holds Try.pinned (OpenSpec.upto fnExactFirstShortSpec)

/-- 'laws.FnShared', WHERE WHAT IT READS IS OF BULK AT MOST 1048576: true; the input reads as it did. -/
def fnSharedUptoRow : OpenClaim := { program := "ytgfjmamjfkcmbaa", sum := "b1567f144c0c17e3d9a8c6866f1831f90cb1bb806efffc44b6ea688cf1be2636", func := "loop.example/g01398/laws.FnShared", spec := "fnShared", unfollowed := true, recurses := true, apart := false, narrowed := true }
def FnSharedUptoSaid : Prop := fnSharedUptoRow.holds Try.pinned (OpenSpec.upto fnSharedSpec)

/-- 'laws.FnExactLeastStart', WHERE WHAT IT READS IS OF BULK AT MOST 1048576: true; the input reads as it did. -/
def fnExactLeastStartUptoRow : OpenClaim := { program := "ytgfjmamjfkcmbaa", sum := "b1567f144c0c17e3d9a8c6866f1831f90cb1bb806efffc44b6ea688cf1be2636", func := "loop.example/g01398/laws.FnExactLeastStart", spec := "fnExactLeastStart", unfollowed := true, recurses := true, apart := false, narrowed := true }
def FnExactLeastStartUptoSaid : Prop := fnExactLeastStartUptoRow.holds Try.pinned (OpenSpec.upto fnExactLeastStartSpec)

/-- 'laws.FnExactDaysFor', WHERE WHAT IT READS IS OF BULK AT MOST 1048576: true; the input reads as it did. -/
def fnExactDaysForUptoRow : OpenClaim := { program := "ytgfjmamjfkcmbaa", sum := "b1567f144c0c17e3d9a8c6866f1831f90cb1bb806efffc44b6ea688cf1be2636", func := "loop.example/g01398/laws.FnExactDaysFor", spec := "fnExactDaysFor", unfollowed := true, recurses := true, apart := false, narrowed := true }
def FnExactDaysForUptoSaid : Prop := fnExactDaysForUptoRow.holds Try.pinned (OpenSpec.upto fnExactDaysForSpec)

/-- 'laws.FnExactStockAfter', WHERE WHAT IT READS IS OF BULK AT MOST 1048576: true; the input reads as it did. -/
def fnExactStockAfterUptoRow : OpenClaim := { program := "ytgfjmamjfkcmbaa", sum := "b1567f144c0c17e3d9a8c6866f1831f90cb1bb806efffc44b6ea688cf1be2636", func := "loop.example/g01398/laws.FnExactStockAfter", spec := "fnExactStockAfter", unfollowed := true, recurses := true, apart := false, narrowed := true }
def FnExactStockAfterUptoSaid : Prop := fnExactStockAfterUptoRow.holds Try.pinned (OpenSpec.upto fnExactStockAfterSpec)

/-- 'laws.FnExactLateLines', WHERE WHAT IT READS IS OF BULK AT MOST 1048576: true; the input reads as it did. -/
def fnExactLateLinesUptoRow : OpenClaim := { program := "ytgfjmamjfkcmbaa", sum := "b1567f144c0c17e3d9a8c6866f1831f90cb1bb806efffc44b6ea688cf1be2636", func := "loop.example/g01398/laws.FnExactLateLines", spec := "fnExactLateLines", unfollowed := true, recurses := true, apart := false, narrowed := true }
def FnExactLateLinesUptoSaid : Prop := fnExactLateLinesUptoRow.holds Try.pinned (OpenSpec.upto fnExactLateLinesSpec)

/-- 'laws.FnExactShareAny', WHERE WHAT IT READS IS OF BULK AT MOST 1048576: true; the input reads as it did. -/
def fnExactShareAnyUptoRow : OpenClaim := { program := "ytgfjmamjfkcmbaa", sum := "b1567f144c0c17e3d9a8c6866f1831f90cb1bb806efffc44b6ea688cf1be2636", func := "loop.example/g01398/laws.FnExactShareAny", spec := "fnExactShareAny", unfollowed := true, recurses := true, apart := false, narrowed := true }
def FnExactShareAnyUptoSaid : Prop := fnExactShareAnyUptoRow.holds Try.pinned (OpenSpec.upto fnExactShareAnySpec)

/-- 'laws.FnExactShareLines', WHERE WHAT IT READS IS OF BULK AT MOST 1048576: true; the input reads as it did. -/
def fnExactShareLinesUptoRow : OpenClaim := { program := "ytgfjmamjfkcmbaa", sum := "b1567f144c0c17e3d9a8c6866f1831f90cb1bb806efffc44b6ea688cf1be2636", func := "loop.example/g01398/laws.FnExactShareLines", spec := "fnExactShareLines", unfollowed := true, recurses := true, apart := false, narrowed := true }
def FnExactShareLinesUptoSaid : Prop := fnExactShareLinesUptoRow.holds Try.pinned (OpenSpec.upto fnExactShareLinesSpec)

/-- 'laws.FnExactFewestLate', WHERE WHAT IT READS IS OF BULK AT MOST 1048576: true; the input reads as it did. -/
def fnExactFewestLateUptoRow : OpenClaim := { program := "ytgfjmamjfkcmbaa", sum := "b1567f144c0c17e3d9a8c6866f1831f90cb1bb806efffc44b6ea688cf1be2636", func := "loop.example/g01398/laws.FnExactFewestLate", spec := "fnExactFewestLate", unfollowed := true, recurses := true, apart := false, narrowed := true }
def FnExactFewestLateUptoSaid : Prop := fnExactFewestLateUptoRow.holds Try.pinned (OpenSpec.upto fnExactFewestLateSpec)

end Rows
end Go.Proofs.Ytgfjmamjfkcmbaa
