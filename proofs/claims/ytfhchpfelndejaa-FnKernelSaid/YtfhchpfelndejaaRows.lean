/-
  No cell of these rows narrows 'for every input' (looked for: loops, veiled, ifaces, maps, wideKeys, modest, calm, conditions, laid).
  DERIVED. THE GIVEN ROWS OF THIS SEAT. 14 by the template 'for every input the law returns true; each argument reads behind the call as it read before'; 0 by the template 'total and deterministic' (their statements: YtfhchpfelndejaaTotals.lean).
  GIVEN WITH THE SEED: the statements are not yours to turn. If you find one false, say at which input.
  Laid BY PROGRAM, IN A SANDBOX (cutbox-rows.mjs): the forced cells as the released guide's own fill.sh prints them over the translation b16872156e086d3e… (all of the seat's roots in one cut). By AI agents, Wed Nov 11 2026. No macro, syntax, notation, axiom, sorry.
-/
import Derived.Test.YtfhchpfelndejaaChecked
import GoSem.Claim
import GoSem.ClaimJoined
import GoSem.ClaimMapViews
import Derived.JoinedTies
import Derived.KernelRfl
namespace Go.Proofs.Ytfhchpfelndejaa
/- THE CELL 'sum', in the pinned program and in every row, IS THE sha256 OF THE DUMP (.gsa) THAT YtfhchpfelndejaaProg.lean LOADS. Nothing in Lean hashes anything: it is a label: what it is worth is what the hold of that sum in a sandbox is worth. -/
noncomputable def Try.pinned : Pinned := { name := "ytfhchpfelndejaa", sum := "b16872156e086d3ed84b19871495a0467c0e5d4087054dc92619cbe09a9fd32f", checked := Try.checked }
namespace Rows
def none {H : Type} : Left H := { results := [], args := [] }

/-- 'laws.FnPathAll': WHATEVER THE INPUT: true; the input reads as it did. -/
def fnPathAllSpec : ChangeSpec := { name := "fnPathAll", fn := fun _ => fun
  | [d] => { results := [.lit (.bool true)], args := [d] }
  | _ => none }
def fnPathAllRow : OpenClaim := { program := "ytfhchpfelndejaa", sum := "b16872156e086d3ed84b19871495a0467c0e5d4087054dc92619cbe09a9fd32f", func := "loop.example/graphways/laws.FnPathAll", spec := "fnPathAll", unfollowed := true, recurses := true, apart := false }
def FnPathAllSaid : Prop := fnPathAllRow.holds Try.pinned (OpenSpec.ofChange fnPathAllSpec)

/-- ITS FALSE NEIGHBOUR: 'it returns false'. Refute it at one input. -/
def fnPathAllWrong : ChangeSpec := { name := "fnPathAll", fn := fun _ => fun
  | [d] => { results := [.lit (.bool false)], args := [d] }
  | _ => none }
def FnPathAllWrongFalsely : Prop := fnPathAllRow.holds Try.pinned (OpenSpec.ofChange fnPathAllWrong)

/-- 'laws.FnKernelAll': WHATEVER THE INPUT: true; the input reads as it did. -/
def fnKernelAllSpec : ChangeSpec := { name := "fnKernelAll", fn := fun _ => fun
  | [d] => { results := [.lit (.bool true)], args := [d] }
  | _ => none }
def fnKernelAllRow : OpenClaim := { program := "ytfhchpfelndejaa", sum := "b16872156e086d3ed84b19871495a0467c0e5d4087054dc92619cbe09a9fd32f", func := "loop.example/graphways/laws.FnKernelAll", spec := "fnKernelAll", apart := false }
def FnKernelAllSaid : Prop := fnKernelAllRow.holds Try.pinned (OpenSpec.ofChange fnKernelAllSpec)

/-- ITS FALSE NEIGHBOUR: 'it returns false'. Refute it at one input. -/
def fnKernelAllWrong : ChangeSpec := { name := "fnKernelAll", fn := fun _ => fun
  | [d] => { results := [.lit (.bool false)], args := [d] }
  | _ => none }
def FnKernelAllWrongFalsely : Prop := fnKernelAllRow.holds Try.pinned (OpenSpec.ofChange fnKernelAllWrong)

/-- 'laws.FnExactKernelRoots': WHATEVER THE INPUT: true; the input reads as it did. -/
def fnExactKernelRootsSpec : ChangeSpec := { name := "fnExactKernelRoots", fn := fun _ => fun
  | [d1, d2] => { results := [.lit (.bool true)], args := [d1, d2] }
  | _ => none }
def fnExactKernelRootsRow : OpenClaim := { program := "ytfhchpfelndejaa", sum := "b16872156e086d3ed84b19871495a0467c0e5d4087054dc92619cbe09a9fd32f", func := "loop.example/graphways/laws.FnExactKernelRoots", spec := "fnExactKernelRoots", apart := false }
def FnExactKernelRootsSaid : Prop := fnExactKernelRootsRow.holds Try.pinned (OpenSpec.ofChange fnExactKernelRootsSpec)

/-- ITS FALSE NEIGHBOUR: 'it returns false'. Refute it at one input. -/
def fnExactKernelRootsWrong : ChangeSpec := { name := "fnExactKernelRoots", fn := fun _ => fun
  | [d1, d2] => { results := [.lit (.bool false)], args := [d1, d2] }
  | _ => none }
def FnExactKernelRootsWrongFalsely : Prop := fnExactKernelRootsRow.holds Try.pinned (OpenSpec.ofChange fnExactKernelRootsWrong)

/-- 'laws.FnForests': WHATEVER THE INPUT: true; the input reads as it did. -/
def fnForestsSpec : ChangeSpec := { name := "fnForests", fn := fun _ => fun
  | [d] => { results := [.lit (.bool true)], args := [d] }
  | _ => none }
def fnForestsRow : OpenClaim := { program := "ytfhchpfelndejaa", sum := "b16872156e086d3ed84b19871495a0467c0e5d4087054dc92619cbe09a9fd32f", func := "loop.example/graphways/laws.FnForests", spec := "fnForests", unfollowed := true, recurses := true, apart := false }
def FnForestsSaid : Prop := fnForestsRow.holds Try.pinned (OpenSpec.ofChange fnForestsSpec)

/-- ITS FALSE NEIGHBOUR: 'it returns false'. Refute it at one input. -/
def fnForestsWrong : ChangeSpec := { name := "fnForests", fn := fun _ => fun
  | [d] => { results := [.lit (.bool false)], args := [d] }
  | _ => none }
def FnForestsWrongFalsely : Prop := fnForestsRow.holds Try.pinned (OpenSpec.ofChange fnForestsWrong)

/-- 'laws.FnKernel': WHATEVER THE INPUT: true; the input reads as it did. -/
def fnKernelSpec : ChangeSpec := { name := "fnKernel", fn := fun _ => fun
  | [d] => { results := [.lit (.bool true)], args := [d] }
  | _ => none }
def fnKernelRow : OpenClaim := { program := "ytfhchpfelndejaa", sum := "b16872156e086d3ed84b19871495a0467c0e5d4087054dc92619cbe09a9fd32f", func := "loop.example/graphways/laws.FnKernel", spec := "fnKernel", apart := false }
def FnKernelSaid : Prop := fnKernelRow.holds Try.pinned (OpenSpec.ofChange fnKernelSpec)

/-- ITS FALSE NEIGHBOUR: 'it returns false'. Refute it at one input. -/
def fnKernelWrong : ChangeSpec := { name := "fnKernel", fn := fun _ => fun
  | [d] => { results := [.lit (.bool false)], args := [d] }
  | _ => none }
def FnKernelWrongFalsely : Prop := fnKernelRow.holds Try.pinned (OpenSpec.ofChange fnKernelWrong)

/-- 'laws.FnThree': WHATEVER THE INPUT: true; the input reads as it did. -/
def fnThreeSpec : ChangeSpec := { name := "fnThree", fn := fun _ => fun
  | [d] => { results := [.lit (.bool true)], args := [d] }
  | _ => none }
def fnThreeRow : OpenClaim := { program := "ytfhchpfelndejaa", sum := "b16872156e086d3ed84b19871495a0467c0e5d4087054dc92619cbe09a9fd32f", func := "loop.example/graphways/laws.FnThree", spec := "fnThree", apart := false }
def FnThreeSaid : Prop := fnThreeRow.holds Try.pinned (OpenSpec.ofChange fnThreeSpec)

/-- ITS FALSE NEIGHBOUR: 'it returns false'. Refute it at one input. -/
def fnThreeWrong : ChangeSpec := { name := "fnThree", fn := fun _ => fun
  | [d] => { results := [.lit (.bool false)], args := [d] }
  | _ => none }
def FnThreeWrongFalsely : Prop := fnThreeRow.holds Try.pinned (OpenSpec.ofChange fnThreeWrong)

/-- 'laws.FnWhole': WHATEVER THE INPUT: true; the input reads as it did. -/
def fnWholeSpec : ChangeSpec := { name := "fnWhole", fn := fun _ => fun
  | [d] => { results := [.lit (.bool true)], args := [d] }
  | _ => none }
def fnWholeRow : OpenClaim := { program := "ytfhchpfelndejaa", sum := "b16872156e086d3ed84b19871495a0467c0e5d4087054dc92619cbe09a9fd32f", func := "loop.example/graphways/laws.FnWhole", spec := "fnWhole", unfollowed := true, recurses := true, apart := false }
def FnWholeSaid : Prop := fnWholeRow.holds Try.pinned (OpenSpec.ofChange fnWholeSpec)

/-- ITS FALSE NEIGHBOUR: 'it returns false'. Refute it at one input. -/
def fnWholeWrong : ChangeSpec := { name := "fnWhole", fn := fun _ => fun
  | [d] => { results := [.lit (.bool false)], args := [d] }
  | _ => none }
def FnWholeWrongFalsely : Prop := fnWholeRow.holds Try.pinned (OpenSpec.ofChange fnWholeWrong)

/-- 'laws.FnExactScoreMany': WHATEVER THE INPUT: true; the input reads as it did. -/
def fnExactScoreManySpec : ChangeSpec := { name := "fnExactScoreMany", fn := fun _ => fun
  | [d1, d2] => { results := [.lit (.bool true)], args := [d1, d2] }
  | _ => none }
def fnExactScoreManyRow : OpenClaim := { program := "ytfhchpfelndejaa", sum := "b16872156e086d3ed84b19871495a0467c0e5d4087054dc92619cbe09a9fd32f", func := "loop.example/graphways/laws.FnExactScoreMany", spec := "fnExactScoreMany", unfollowed := true, recurses := true, apart := false }
def FnExactScoreManySaid : Prop := fnExactScoreManyRow.holds Try.pinned (OpenSpec.ofChange fnExactScoreManySpec)

/-- ITS FALSE NEIGHBOUR: 'it returns false'. Refute it at one input. -/
def fnExactScoreManyWrong : ChangeSpec := { name := "fnExactScoreMany", fn := fun _ => fun
  | [d1, d2] => { results := [.lit (.bool false)], args := [d1, d2] }
  | _ => none }
def FnExactScoreManyWrongFalsely : Prop := fnExactScoreManyRow.holds Try.pinned (OpenSpec.ofChange fnExactScoreManyWrong)

/-- 'laws.FnExactScoreForests': WHATEVER THE INPUT: true; the input reads as it did. -/
def fnExactScoreForestsSpec : ChangeSpec := { name := "fnExactScoreForests", fn := fun _ => fun
  | [d] => { results := [.lit (.bool true)], args := [d] }
  | _ => none }
def fnExactScoreForestsRow : OpenClaim := { program := "ytfhchpfelndejaa", sum := "b16872156e086d3ed84b19871495a0467c0e5d4087054dc92619cbe09a9fd32f", func := "loop.example/graphways/laws.FnExactScoreForests", spec := "fnExactScoreForests", unfollowed := true, recurses := true, apart := false }
def FnExactScoreForestsSaid : Prop := fnExactScoreForestsRow.holds Try.pinned (OpenSpec.ofChange fnExactScoreForestsSpec)

/-- ITS FALSE NEIGHBOUR: 'it returns false'. Refute it at one input. -/
def fnExactScoreForestsWrong : ChangeSpec := { name := "fnExactScoreForests", fn := fun _ => fun
  | [d] => { results := [.lit (.bool false)], args := [d] }
  | _ => none }
def FnExactScoreForestsWrongFalsely : Prop := fnExactScoreForestsRow.holds Try.pinned (OpenSpec.ofChange fnExactScoreForestsWrong)

/-- 'laws.FnBridges': WHATEVER THE INPUT: true; the input reads as it did. -/
def fnBridgesSpec : ChangeSpec := { name := "fnBridges", fn := fun _ => fun
  | [d] => { results := [.lit (.bool true)], args := [d] }
  | _ => none }
def fnBridgesRow : OpenClaim := { program := "ytfhchpfelndejaa", sum := "b16872156e086d3ed84b19871495a0467c0e5d4087054dc92619cbe09a9fd32f", func := "loop.example/graphways/laws.FnBridges", spec := "fnBridges", unfollowed := true, recurses := true, apart := false }
def FnBridgesSaid : Prop := fnBridgesRow.holds Try.pinned (OpenSpec.ofChange fnBridgesSpec)

/-- ITS FALSE NEIGHBOUR: 'it returns false'. Refute it at one input. -/
def fnBridgesWrong : ChangeSpec := { name := "fnBridges", fn := fun _ => fun
  | [d] => { results := [.lit (.bool false)], args := [d] }
  | _ => none }
def FnBridgesWrongFalsely : Prop := fnBridgesRow.holds Try.pinned (OpenSpec.ofChange fnBridgesWrong)

/-- 'laws.FnExactKernelAll': WHATEVER THE INPUT: true; the input reads as it did. -/
def fnExactKernelAllSpec : ChangeSpec := { name := "fnExactKernelAll", fn := fun _ => fun
  | [d1, d2] => { results := [.lit (.bool true)], args := [d1, d2] }
  | _ => none }
def fnExactKernelAllRow : OpenClaim := { program := "ytfhchpfelndejaa", sum := "b16872156e086d3ed84b19871495a0467c0e5d4087054dc92619cbe09a9fd32f", func := "loop.example/graphways/laws.FnExactKernelAll", spec := "fnExactKernelAll", apart := false }
def FnExactKernelAllSaid : Prop := fnExactKernelAllRow.holds Try.pinned (OpenSpec.ofChange fnExactKernelAllSpec)

/-- ITS FALSE NEIGHBOUR: 'it returns false'. Refute it at one input. -/
def fnExactKernelAllWrong : ChangeSpec := { name := "fnExactKernelAll", fn := fun _ => fun
  | [d1, d2] => { results := [.lit (.bool false)], args := [d1, d2] }
  | _ => none }
def FnExactKernelAllWrongFalsely : Prop := fnExactKernelAllRow.holds Try.pinned (OpenSpec.ofChange fnExactKernelAllWrong)

/-- 'laws.FnExactScoreEvens': WHATEVER THE INPUT: true; the input reads as it did. -/
def fnExactScoreEvensSpec : ChangeSpec := { name := "fnExactScoreEvens", fn := fun _ => fun
  | [d] => { results := [.lit (.bool true)], args := [d] }
  | _ => none }
def fnExactScoreEvensRow : OpenClaim := { program := "ytfhchpfelndejaa", sum := "b16872156e086d3ed84b19871495a0467c0e5d4087054dc92619cbe09a9fd32f", func := "loop.example/graphways/laws.FnExactScoreEvens", spec := "fnExactScoreEvens", unfollowed := true, recurses := true, apart := false }
def FnExactScoreEvensSaid : Prop := fnExactScoreEvensRow.holds Try.pinned (OpenSpec.ofChange fnExactScoreEvensSpec)

/-- ITS FALSE NEIGHBOUR: 'it returns false'. Refute it at one input. -/
def fnExactScoreEvensWrong : ChangeSpec := { name := "fnExactScoreEvens", fn := fun _ => fun
  | [d] => { results := [.lit (.bool false)], args := [d] }
  | _ => none }
def FnExactScoreEvensWrongFalsely : Prop := fnExactScoreEvensRow.holds Try.pinned (OpenSpec.ofChange fnExactScoreEvensWrong)

/-- 'laws.FnKings': WHATEVER THE INPUT: true; the input reads as it did. -/
def fnKingsSpec : ChangeSpec := { name := "fnKings", fn := fun _ => fun
  | [d] => { results := [.lit (.bool true)], args := [d] }
  | _ => none }
def fnKingsRow : OpenClaim := { program := "ytfhchpfelndejaa", sum := "b16872156e086d3ed84b19871495a0467c0e5d4087054dc92619cbe09a9fd32f", func := "loop.example/graphways/laws.FnKings", spec := "fnKings", apart := false }
def FnKingsSaid : Prop := fnKingsRow.holds Try.pinned (OpenSpec.ofChange fnKingsSpec)

/-- ITS FALSE NEIGHBOUR: 'it returns false'. Refute it at one input. -/
def fnKingsWrong : ChangeSpec := { name := "fnKings", fn := fun _ => fun
  | [d] => { results := [.lit (.bool false)], args := [d] }
  | _ => none }
def FnKingsWrongFalsely : Prop := fnKingsRow.holds Try.pinned (OpenSpec.ofChange fnKingsWrong)

/-- 'laws.FnWholeGraph': WHATEVER THE INPUT: true; the input reads as it did. -/
def fnWholeGraphSpec : ChangeSpec := { name := "fnWholeGraph", fn := fun _ => fun
  | [d] => { results := [.lit (.bool true)], args := [d] }
  | _ => none }
def fnWholeGraphRow : OpenClaim := { program := "ytfhchpfelndejaa", sum := "b16872156e086d3ed84b19871495a0467c0e5d4087054dc92619cbe09a9fd32f", func := "loop.example/graphways/laws.FnWholeGraph", spec := "fnWholeGraph", unfollowed := true, recurses := true, apart := false }
def FnWholeGraphSaid : Prop := fnWholeGraphRow.holds Try.pinned (OpenSpec.ofChange fnWholeGraphSpec)

/-- ITS FALSE NEIGHBOUR: 'it returns false'. Refute it at one input. -/
def fnWholeGraphWrong : ChangeSpec := { name := "fnWholeGraph", fn := fun _ => fun
  | [d] => { results := [.lit (.bool false)], args := [d] }
  | _ => none }
def FnWholeGraphWrongFalsely : Prop := fnWholeGraphRow.holds Try.pinned (OpenSpec.ofChange fnWholeGraphWrong)

/- THE SECOND FORM. 'bulk': how many values and letters a reading holds, each counted each time it is reached (what is shared counts as often as it is met; a slice's spare places count too). A statement '..UptoSaid' is the law's where the arguments, and the package variables that the reading takes, are together of bulk at most 1048576: NARROWER than '..Said'. Prove '..Said' where nothing that the law and all that it calls make is longer than what came in: it says more and counts as full. Else prove '..UptoSaid'. A law counts once. -/
mutual
def uptoBulk {H : Type} : DataW H → Nat
  | .lit (.string bytes) => bytes.length + 1
  | .lit _ => 1
  | .nil => 1
  | .ptr d => uptoBulk d + 1
  | .slice elems spare => uptoBulkAll elems + uptoBulkAll spare + 1
  | .agg parts => uptoBulkAll parts + 1
  | .iface _ d => uptoBulk d + 1
  | .map entries => uptoBulkEntries entries + 1
  | .held _ => 1
def uptoBulkAll {H : Type} : List (DataW H) → Nat
  | [] => 0
  | d :: r => uptoBulk d + uptoBulkAll r
def uptoBulkEntries {H : Type} : List (Lit × DataW H) → Nat
  | [] => 0
  | x :: r => uptoBulkEntry x + uptoBulkEntries r
def uptoBulkEntry {H : Type} : Lit × DataW H → Nat
  | (.string bytes, d) => bytes.length + uptoBulk d + 1
  | (_, d) => uptoBulk d + 1
 end
def uptoSmall : (H : Type) → List (DataW H) → Bool := fun _ ds => decide (uptoBulkAll ds ≤ 1048576)
def OpenSpec.upto (s : _root_.Go.ChangeSpec) : _root_.Go.OpenSpec := { _root_.Go.OpenSpec.ofChange s with cond := some uptoSmall }

/-- 'laws.FnPathAll', WHERE WHAT IT READS IS OF BULK AT MOST 1048576: true; the input reads as it did. -/
def fnPathAllUptoRow : OpenClaim := { program := "ytfhchpfelndejaa", sum := "b16872156e086d3ed84b19871495a0467c0e5d4087054dc92619cbe09a9fd32f", func := "loop.example/graphways/laws.FnPathAll", spec := "fnPathAll", unfollowed := true, recurses := true, apart := false, narrowed := true }
def FnPathAllUptoSaid : Prop := fnPathAllUptoRow.holds Try.pinned (OpenSpec.upto fnPathAllSpec)

/-- 'laws.FnKernelAll', WHERE WHAT IT READS IS OF BULK AT MOST 1048576: true; the input reads as it did. -/
def fnKernelAllUptoRow : OpenClaim := { program := "ytfhchpfelndejaa", sum := "b16872156e086d3ed84b19871495a0467c0e5d4087054dc92619cbe09a9fd32f", func := "loop.example/graphways/laws.FnKernelAll", spec := "fnKernelAll", apart := false, narrowed := true }
def FnKernelAllUptoSaid : Prop := fnKernelAllUptoRow.holds Try.pinned (OpenSpec.upto fnKernelAllSpec)

/-- 'laws.FnExactKernelRoots', WHERE WHAT IT READS IS OF BULK AT MOST 1048576: true; the input reads as it did. -/
def fnExactKernelRootsUptoRow : OpenClaim := { program := "ytfhchpfelndejaa", sum := "b16872156e086d3ed84b19871495a0467c0e5d4087054dc92619cbe09a9fd32f", func := "loop.example/graphways/laws.FnExactKernelRoots", spec := "fnExactKernelRoots", apart := false, narrowed := true }
def FnExactKernelRootsUptoSaid : Prop := fnExactKernelRootsUptoRow.holds Try.pinned (OpenSpec.upto fnExactKernelRootsSpec)

/-- 'laws.FnForests', WHERE WHAT IT READS IS OF BULK AT MOST 1048576: true; the input reads as it did. -/
def fnForestsUptoRow : OpenClaim := { program := "ytfhchpfelndejaa", sum := "b16872156e086d3ed84b19871495a0467c0e5d4087054dc92619cbe09a9fd32f", func := "loop.example/graphways/laws.FnForests", spec := "fnForests", unfollowed := true, recurses := true, apart := false, narrowed := true }
def FnForestsUptoSaid : Prop := fnForestsUptoRow.holds Try.pinned (OpenSpec.upto fnForestsSpec)

/-- 'laws.FnKernel', WHERE WHAT IT READS IS OF BULK AT MOST 1048576: true; the input reads as it did. -/
def fnKernelUptoRow : OpenClaim := { program := "ytfhchpfelndejaa", sum := "b16872156e086d3ed84b19871495a0467c0e5d4087054dc92619cbe09a9fd32f", func := "loop.example/graphways/laws.FnKernel", spec := "fnKernel", apart := false, narrowed := true }
def FnKernelUptoSaid : Prop := fnKernelUptoRow.holds Try.pinned (OpenSpec.upto fnKernelSpec)

/-- 'laws.FnThree', WHERE WHAT IT READS IS OF BULK AT MOST 1048576: true; the input reads as it did. -/
def fnThreeUptoRow : OpenClaim := { program := "ytfhchpfelndejaa", sum := "b16872156e086d3ed84b19871495a0467c0e5d4087054dc92619cbe09a9fd32f", func := "loop.example/graphways/laws.FnThree", spec := "fnThree", apart := false, narrowed := true }
def FnThreeUptoSaid : Prop := fnThreeUptoRow.holds Try.pinned (OpenSpec.upto fnThreeSpec)

/-- 'laws.FnWhole', WHERE WHAT IT READS IS OF BULK AT MOST 1048576: true; the input reads as it did. -/
def fnWholeUptoRow : OpenClaim := { program := "ytfhchpfelndejaa", sum := "b16872156e086d3ed84b19871495a0467c0e5d4087054dc92619cbe09a9fd32f", func := "loop.example/graphways/laws.FnWhole", spec := "fnWhole", unfollowed := true, recurses := true, apart := false, narrowed := true }
def FnWholeUptoSaid : Prop := fnWholeUptoRow.holds Try.pinned (OpenSpec.upto fnWholeSpec)

/-- 'laws.FnExactScoreMany', WHERE WHAT IT READS IS OF BULK AT MOST 1048576: true; the input reads as it did. -/
def fnExactScoreManyUptoRow : OpenClaim := { program := "ytfhchpfelndejaa", sum := "b16872156e086d3ed84b19871495a0467c0e5d4087054dc92619cbe09a9fd32f", func := "loop.example/graphways/laws.FnExactScoreMany", spec := "fnExactScoreMany", unfollowed := true, recurses := true, apart := false, narrowed := true }
def FnExactScoreManyUptoSaid : Prop := fnExactScoreManyUptoRow.holds Try.pinned (OpenSpec.upto fnExactScoreManySpec)

/-- 'laws.FnExactScoreForests', WHERE WHAT IT READS IS OF BULK AT MOST 1048576: true; the input reads as it did. -/
def fnExactScoreForestsUptoRow : OpenClaim := { program := "ytfhchpfelndejaa", sum := "b16872156e086d3ed84b19871495a0467c0e5d4087054dc92619cbe09a9fd32f", func := "loop.example/graphways/laws.FnExactScoreForests", spec := "fnExactScoreForests", unfollowed := true, recurses := true, apart := false, narrowed := true }
def FnExactScoreForestsUptoSaid : Prop := fnExactScoreForestsUptoRow.holds Try.pinned (OpenSpec.upto fnExactScoreForestsSpec)

/-- 'laws.FnBridges', WHERE WHAT IT READS IS OF BULK AT MOST 1048576: true; the input reads as it did. -/
def fnBridgesUptoRow : OpenClaim := { program := "ytfhchpfelndejaa", sum := "b16872156e086d3ed84b19871495a0467c0e5d4087054dc92619cbe09a9fd32f", func := "loop.example/graphways/laws.FnBridges", spec := "fnBridges", unfollowed := true, recurses := true, apart := false, narrowed := true }
def FnBridgesUptoSaid : Prop := fnBridgesUptoRow.holds Try.pinned (OpenSpec.upto fnBridgesSpec)

/-- 'laws.FnExactKernelAll', WHERE WHAT IT READS IS OF BULK AT MOST 1048576: true; the input reads as it did. -/
def fnExactKernelAllUptoRow : OpenClaim := { program := "ytfhchpfelndejaa", sum := "b16872156e086d3ed84b19871495a0467c0e5d4087054dc92619cbe09a9fd32f", func := "loop.example/graphways/laws.FnExactKernelAll", spec := "fnExactKernelAll", apart := false, narrowed := true }
def FnExactKernelAllUptoSaid : Prop := fnExactKernelAllUptoRow.holds Try.pinned (OpenSpec.upto fnExactKernelAllSpec)

/-- 'laws.FnExactScoreEvens', WHERE WHAT IT READS IS OF BULK AT MOST 1048576: true; the input reads as it did. -/
def fnExactScoreEvensUptoRow : OpenClaim := { program := "ytfhchpfelndejaa", sum := "b16872156e086d3ed84b19871495a0467c0e5d4087054dc92619cbe09a9fd32f", func := "loop.example/graphways/laws.FnExactScoreEvens", spec := "fnExactScoreEvens", unfollowed := true, recurses := true, apart := false, narrowed := true }
def FnExactScoreEvensUptoSaid : Prop := fnExactScoreEvensUptoRow.holds Try.pinned (OpenSpec.upto fnExactScoreEvensSpec)

/-- 'laws.FnKings', WHERE WHAT IT READS IS OF BULK AT MOST 1048576: true; the input reads as it did. -/
def fnKingsUptoRow : OpenClaim := { program := "ytfhchpfelndejaa", sum := "b16872156e086d3ed84b19871495a0467c0e5d4087054dc92619cbe09a9fd32f", func := "loop.example/graphways/laws.FnKings", spec := "fnKings", apart := false, narrowed := true }
def FnKingsUptoSaid : Prop := fnKingsUptoRow.holds Try.pinned (OpenSpec.upto fnKingsSpec)

/-- 'laws.FnWholeGraph', WHERE WHAT IT READS IS OF BULK AT MOST 1048576: true; the input reads as it did. -/
def fnWholeGraphUptoRow : OpenClaim := { program := "ytfhchpfelndejaa", sum := "b16872156e086d3ed84b19871495a0467c0e5d4087054dc92619cbe09a9fd32f", func := "loop.example/graphways/laws.FnWholeGraph", spec := "fnWholeGraph", unfollowed := true, recurses := true, apart := false, narrowed := true }
def FnWholeGraphUptoSaid : Prop := fnWholeGraphUptoRow.holds Try.pinned (OpenSpec.upto fnWholeGraphSpec)

end Rows
end Go.Proofs.Ytfhchpfelndejaa
