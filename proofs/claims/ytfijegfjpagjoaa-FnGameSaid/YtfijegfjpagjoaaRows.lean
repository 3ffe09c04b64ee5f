/-
  No cell of these rows narrows 'for every input' (looked for: loops, veiled, ifaces, maps, wideKeys, modest, calm, conditions, laid).
  DERIVED. THE GIVEN ROWS OF THIS SEAT. 15 by the template 'for every input the law returns true; each argument reads behind the call as it read before'; 0 by the template 'total and deterministic' (their statements: YtfijegfjpagjoaaTotals.lean).
  GIVEN WITH THE SEED: the statements are not yours to turn. If you find one false, say at which input.
  Laid BY PROGRAM, IN A SANDBOX (cutbox-rows.mjs): the forced cells as the released guide's own fill.sh prints them over the translation f95fd1c9fb0a44b8… (all of the seat's roots in one cut). By AI agents, Wed Nov 11 2026. No macro, syntax, notation, axiom, sorry.
-/
import Derived.Test.YtfijegfjpagjoaaChecked
import GoSem.Claim
import GoSem.ClaimJoined
import GoSem.ClaimMapViews
import Derived.JoinedTies
import Derived.KernelRfl
namespace Go.Proofs.Ytfijegfjpagjoaa
/- THE CELL 'sum', in the pinned program and in every row, IS THE sha256 OF THE DUMP (.gsa) THAT YtfijegfjpagjoaaProg.lean LOADS. Nothing in Lean hashes anything: it is a label: what it is worth is what the hold of that sum in a sandbox is worth. -/
noncomputable def Try.pinned : Pinned := { name := "ytfijegfjpagjoaa", sum := "f95fd1c9fb0a44b8188c4bda2fee8ea8e5877406552970cc84a35a49428d47bc", checked := Try.checked }
namespace Rows
def none {H : Type} : Left H := { results := [], args := [] }

/-- 'laws.FnExactPathAll': WHATEVER THE INPUT: true; the input reads as it did. -/
def fnExactPathAllSpec : ChangeSpec := { name := "fnExactPathAll", fn := fun _ => fun
  | [d1, d2] => { results := [.lit (.bool true)], args := [d1, d2] }
  | _ => none }
def fnExactPathAllRow : OpenClaim := { program := "ytfijegfjpagjoaa", sum := "f95fd1c9fb0a44b8188c4bda2fee8ea8e5877406552970cc84a35a49428d47bc", func := "loop.example/graphways/laws.FnExactPathAll", spec := "fnExactPathAll", unfollowed := true, recurses := true, apart := false }
def FnExactPathAllSaid : Prop := fnExactPathAllRow.holds Try.pinned (OpenSpec.ofChange fnExactPathAllSpec)

/-- ITS FALSE NEIGHBOUR: 'it returns false'. Refute it at one input. -/
def fnExactPathAllWrong : ChangeSpec := { name := "fnExactPathAll", fn := fun _ => fun
  | [d1, d2] => { results := [.lit (.bool false)], args := [d1, d2] }
  | _ => none }
def FnExactPathAllWrongFalsely : Prop := fnExactPathAllRow.holds Try.pinned (OpenSpec.ofChange fnExactPathAllWrong)

/-- 'laws.FnExactPathLongest': WHATEVER THE INPUT: true; the input reads as it did. -/
def fnExactPathLongestSpec : ChangeSpec := { name := "fnExactPathLongest", fn := fun _ => fun
  | [d1, d2] => { results := [.lit (.bool true)], args := [d1, d2] }
  | _ => none }
def fnExactPathLongestRow : OpenClaim := { program := "ytfijegfjpagjoaa", sum := "f95fd1c9fb0a44b8188c4bda2fee8ea8e5877406552970cc84a35a49428d47bc", func := "loop.example/graphways/laws.FnExactPathLongest", spec := "fnExactPathLongest", unfollowed := true, recurses := true, apart := false }
def FnExactPathLongestSaid : Prop := fnExactPathLongestRow.holds Try.pinned (OpenSpec.ofChange fnExactPathLongestSpec)

/-- ITS FALSE NEIGHBOUR: 'it returns false'. Refute it at one input. -/
def fnExactPathLongestWrong : ChangeSpec := { name := "fnExactPathLongest", fn := fun _ => fun
  | [d1, d2] => { results := [.lit (.bool false)], args := [d1, d2] }
  | _ => none }
def FnExactPathLongestWrongFalsely : Prop := fnExactPathLongestRow.holds Try.pinned (OpenSpec.ofChange fnExactPathLongestWrong)

/-- 'laws.FnExactPathLeast': WHATEVER THE INPUT: true; the input reads as it did. -/
def fnExactPathLeastSpec : ChangeSpec := { name := "fnExactPathLeast", fn := fun _ => fun
  | [d] => { results := [.lit (.bool true)], args := [d] }
  | _ => none }
def fnExactPathLeastRow : OpenClaim := { program := "ytfijegfjpagjoaa", sum := "f95fd1c9fb0a44b8188c4bda2fee8ea8e5877406552970cc84a35a49428d47bc", func := "loop.example/graphways/laws.FnExactPathLeast", spec := "fnExactPathLeast", unfollowed := true, recurses := true, apart := false }
def FnExactPathLeastSaid : Prop := fnExactPathLeastRow.holds Try.pinned (OpenSpec.ofChange fnExactPathLeastSpec)

/-- ITS FALSE NEIGHBOUR: 'it returns false'. Refute it at one input. -/
def fnExactPathLeastWrong : ChangeSpec := { name := "fnExactPathLeast", fn := fun _ => fun
  | [d] => { results := [.lit (.bool false)], args := [d] }
  | _ => none }
def FnExactPathLeastWrongFalsely : Prop := fnExactPathLeastRow.holds Try.pinned (OpenSpec.ofChange fnExactPathLeastWrong)

/-- 'laws.FnFirst': WHATEVER THE INPUT: true; the input reads as it did. -/
def fnFirstSpec : ChangeSpec := { name := "fnFirst", fn := fun _ => fun
  | [d] => { results := [.lit (.bool true)], args := [d] }
  | _ => none }
def fnFirstRow : OpenClaim := { program := "ytfijegfjpagjoaa", sum := "f95fd1c9fb0a44b8188c4bda2fee8ea8e5877406552970cc84a35a49428d47bc", func := "loop.example/graphways/laws.FnFirst", spec := "fnFirst", unfollowed := true, recurses := true, apart := false }
def FnFirstSaid : Prop := fnFirstRow.holds Try.pinned (OpenSpec.ofChange fnFirstSpec)

/-- ITS FALSE NEIGHBOUR: 'it returns false'. Refute it at one input. -/
def fnFirstWrong : ChangeSpec := { name := "fnFirst", fn := fun _ => fun
  | [d] => { results := [.lit (.bool false)], args := [d] }
  | _ => none }
def FnFirstWrongFalsely : Prop := fnFirstRow.holds Try.pinned (OpenSpec.ofChange fnFirstWrong)

/-- 'laws.FnPathAll': WHATEVER THE INPUT: true; the input reads as it did. -/
def fnPathAllSpec : ChangeSpec := { name := "fnPathAll", fn := fun _ => fun
  | [d] => { results := [.lit (.bool true)], args := [d] }
  | _ => none }
def fnPathAllRow : OpenClaim := { program := "ytfijegfjpagjoaa", sum := "f95fd1c9fb0a44b8188c4bda2fee8ea8e5877406552970cc84a35a49428d47bc", func := "loop.example/graphways/laws.FnPathAll", spec := "fnPathAll", unfollowed := true, recurses := true, apart := false }
def FnPathAllSaid : Prop := fnPathAllRow.holds Try.pinned (OpenSpec.ofChange fnPathAllSpec)

/-- ITS FALSE NEIGHBOUR: 'it returns false'. Refute it at one input. -/
def fnPathAllWrong : ChangeSpec := { name := "fnPathAll", fn := fun _ => fun
  | [d] => { results := [.lit (.bool false)], args := [d] }
  | _ => none }
def FnPathAllWrongFalsely : Prop := fnPathAllRow.holds Try.pinned (OpenSpec.ofChange fnPathAllWrong)

/-- 'laws.FnExactPathFirst': WHATEVER THE INPUT: true; the input reads as it did. -/
def fnExactPathFirstSpec : ChangeSpec := { name := "fnExactPathFirst", fn := fun _ => fun
  | [d1, d2] => { results := [.lit (.bool true)], args := [d1, d2] }
  | _ => none }
def fnExactPathFirstRow : OpenClaim := { program := "ytfijegfjpagjoaa", sum := "f95fd1c9fb0a44b8188c4bda2fee8ea8e5877406552970cc84a35a49428d47bc", func := "loop.example/graphways/laws.FnExactPathFirst", spec := "fnExactPathFirst", unfollowed := true, recurses := true, apart := false }
def FnExactPathFirstSaid : Prop := fnExactPathFirstRow.holds Try.pinned (OpenSpec.ofChange fnExactPathFirstSpec)

/-- ITS FALSE NEIGHBOUR: 'it returns false'. Refute it at one input. -/
def fnExactPathFirstWrong : ChangeSpec := { name := "fnExactPathFirst", fn := fun _ => fun
  | [d1, d2] => { results := [.lit (.bool false)], args := [d1, d2] }
  | _ => none }
def FnExactPathFirstWrongFalsely : Prop := fnExactPathFirstRow.holds Try.pinned (OpenSpec.ofChange fnExactPathFirstWrong)

/-- 'laws.FnPathLeast': WHATEVER THE INPUT: true; the input reads as it did. -/
def fnPathLeastSpec : ChangeSpec := { name := "fnPathLeast", fn := fun _ => fun
  | [d] => { results := [.lit (.bool true)], args := [d] }
  | _ => none }
def fnPathLeastRow : OpenClaim := { program := "ytfijegfjpagjoaa", sum := "f95fd1c9fb0a44b8188c4bda2fee8ea8e5877406552970cc84a35a49428d47bc", func := "loop.example/graphways/laws.FnPathLeast", spec := "fnPathLeast", unfollowed := true, recurses := true, apart := false }
def FnPathLeastSaid : Prop := fnPathLeastRow.holds Try.pinned (OpenSpec.ofChange fnPathLeastSpec)

/-- ITS FALSE NEIGHBOUR: 'it returns false'. Refute it at one input. -/
def fnPathLeastWrong : ChangeSpec := { name := "fnPathLeast", fn := fun _ => fun
  | [d] => { results := [.lit (.bool false)], args := [d] }
  | _ => none }
def FnPathLeastWrongFalsely : Prop := fnPathLeastRow.holds Try.pinned (OpenSpec.ofChange fnPathLeastWrong)

/-- 'laws.FnLongest': WHATEVER THE INPUT: true; the input reads as it did. -/
def fnLongestSpec : ChangeSpec := { name := "fnLongest", fn := fun _ => fun
  | [d] => { results := [.lit (.bool true)], args := [d] }
  | _ => none }
def fnLongestRow : OpenClaim := { program := "ytfijegfjpagjoaa", sum := "f95fd1c9fb0a44b8188c4bda2fee8ea8e5877406552970cc84a35a49428d47bc", func := "loop.example/graphways/laws.FnLongest", spec := "fnLongest", unfollowed := true, recurses := true, apart := false }
def FnLongestSaid : Prop := fnLongestRow.holds Try.pinned (OpenSpec.ofChange fnLongestSpec)

/-- ITS FALSE NEIGHBOUR: 'it returns false'. Refute it at one input. -/
def fnLongestWrong : ChangeSpec := { name := "fnLongest", fn := fun _ => fun
  | [d] => { results := [.lit (.bool false)], args := [d] }
  | _ => none }
def FnLongestWrongFalsely : Prop := fnLongestRow.holds Try.pinned (OpenSpec.ofChange fnLongestWrong)

/-- 'laws.FnExactKernelGame': WHATEVER THE INPUT: true; the input reads as it did. -/
def fnExactKernelGameSpec : ChangeSpec := { name := "fnExactKernelGame", fn := fun _ => fun
  | [d1, d2] => { results := [.lit (.bool true)], args := [d1, d2] }
  | _ => none }
def fnExactKernelGameRow : OpenClaim := { program := "ytfijegfjpagjoaa", sum := "f95fd1c9fb0a44b8188c4bda2fee8ea8e5877406552970cc84a35a49428d47bc", func := "loop.example/graphways/laws.FnExactKernelGame", spec := "fnExactKernelGame", apart := false }
def FnExactKernelGameSaid : Prop := fnExactKernelGameRow.holds Try.pinned (OpenSpec.ofChange fnExactKernelGameSpec)

/-- ITS FALSE NEIGHBOUR: 'it returns false'. Refute it at one input. -/
def fnExactKernelGameWrong : ChangeSpec := { name := "fnExactKernelGame", fn := fun _ => fun
  | [d1, d2] => { results := [.lit (.bool false)], args := [d1, d2] }
  | _ => none }
def FnExactKernelGameWrongFalsely : Prop := fnExactKernelGameRow.holds Try.pinned (OpenSpec.ofChange fnExactKernelGameWrong)

/-- 'laws.FnExactKernelRoots': WHATEVER THE INPUT: true; the input reads as it did. -/
def fnExactKernelRootsSpec : ChangeSpec := { name := "fnExactKernelRoots", fn := fun _ => fun
  | [d1, d2] => { results := [.lit (.bool true)], args := [d1, d2] }
  | _ => none }
def fnExactKernelRootsRow : OpenClaim := { program := "ytfijegfjpagjoaa", sum := "f95fd1c9fb0a44b8188c4bda2fee8ea8e5877406552970cc84a35a49428d47bc", func := "loop.example/graphways/laws.FnExactKernelRoots", spec := "fnExactKernelRoots", apart := false }
def FnExactKernelRootsSaid : Prop := fnExactKernelRootsRow.holds Try.pinned (OpenSpec.ofChange fnExactKernelRootsSpec)

/-- ITS FALSE NEIGHBOUR: 'it returns false'. Refute it at one input. -/
def fnExactKernelRootsWrong : ChangeSpec := { name := "fnExactKernelRoots", fn := fun _ => fun
  | [d1, d2] => { results := [.lit (.bool false)], args := [d1, d2] }
  | _ => none }
def FnExactKernelRootsWrongFalsely : Prop := fnExactKernelRootsRow.holds Try.pinned (OpenSpec.ofChange fnExactKernelRootsWrong)

/-- 'laws.FnRoots': WHATEVER THE INPUT: true; the input reads as it did. -/
def fnRootsSpec : ChangeSpec := { name := "fnRoots", fn := fun _ => fun
  | [d] => { results := [.lit (.bool true)], args := [d] }
  | _ => none }
def fnRootsRow : OpenClaim := { program := "ytfijegfjpagjoaa", sum := "f95fd1c9fb0a44b8188c4bda2fee8ea8e5877406552970cc84a35a49428d47bc", func := "loop.example/graphways/laws.FnRoots", spec := "fnRoots", apart := false }
def FnRootsSaid : Prop := fnRootsRow.holds Try.pinned (OpenSpec.ofChange fnRootsSpec)

/-- ITS FALSE NEIGHBOUR: 'it returns false'. Refute it at one input. -/
def fnRootsWrong : ChangeSpec := { name := "fnRoots", fn := fun _ => fun
  | [d] => { results := [.lit (.bool false)], args := [d] }
  | _ => none }
def FnRootsWrongFalsely : Prop := fnRootsRow.holds Try.pinned (OpenSpec.ofChange fnRootsWrong)

/-- 'laws.FnMany': WHATEVER THE INPUT: true; the input reads as it did. -/
def fnManySpec : ChangeSpec := { name := "fnMany", fn := fun _ => fun
  | [d] => { results := [.lit (.bool true)], args := [d] }
  | _ => none }
def fnManyRow : OpenClaim := { program := "ytfijegfjpagjoaa", sum := "f95fd1c9fb0a44b8188c4bda2fee8ea8e5877406552970cc84a35a49428d47bc", func := "loop.example/graphways/laws.FnMany", spec := "fnMany", unfollowed := true, recurses := true, apart := false }
def FnManySaid : Prop := fnManyRow.holds Try.pinned (OpenSpec.ofChange fnManySpec)

/-- ITS FALSE NEIGHBOUR: 'it returns false'. Refute it at one input. -/
def fnManyWrong : ChangeSpec := { name := "fnMany", fn := fun _ => fun
  | [d] => { results := [.lit (.bool false)], args := [d] }
  | _ => none }
def FnManyWrongFalsely : Prop := fnManyRow.holds Try.pinned (OpenSpec.ofChange fnManyWrong)

/-- 'laws.FnScoreFirst': WHATEVER THE INPUT: true; the input reads as it did. -/
def fnScoreFirstSpec : ChangeSpec := { name := "fnScoreFirst", fn := fun _ => fun
  | [d] => { results := [.lit (.bool true)], args := [d] }
  | _ => none }
def fnScoreFirstRow : OpenClaim := { program := "ytfijegfjpagjoaa", sum := "f95fd1c9fb0a44b8188c4bda2fee8ea8e5877406552970cc84a35a49428d47bc", func := "loop.example/graphways/laws.FnScoreFirst", spec := "fnScoreFirst", apart := false }
def FnScoreFirstSaid : Prop := fnScoreFirstRow.holds Try.pinned (OpenSpec.ofChange fnScoreFirstSpec)

/-- ITS FALSE NEIGHBOUR: 'it returns false'. Refute it at one input. -/
def fnScoreFirstWrong : ChangeSpec := { name := "fnScoreFirst", fn := fun _ => fun
  | [d] => { results := [.lit (.bool false)], args := [d] }
  | _ => none }
def FnScoreFirstWrongFalsely : Prop := fnScoreFirstRow.holds Try.pinned (OpenSpec.ofChange fnScoreFirstWrong)

/-- 'laws.FnKernelMany': WHATEVER THE INPUT: true; the input reads as it did. -/
def fnKernelManySpec : ChangeSpec := { name := "fnKernelMany", fn := fun _ => fun
  | [d] => { results := [.lit (.bool true)], args := [d] }
  | _ => none }
def fnKernelManyRow : OpenClaim := { program := "ytfijegfjpagjoaa", sum := "f95fd1c9fb0a44b8188c4bda2fee8ea8e5877406552970cc84a35a49428d47bc", func := "loop.example/graphways/laws.FnKernelMany", spec := "fnKernelMany", unfollowed := true, recurses := true, apart := false }
def FnKernelManySaid : Prop := fnKernelManyRow.holds Try.pinned (OpenSpec.ofChange fnKernelManySpec)

/-- ITS FALSE NEIGHBOUR: 'it returns false'. Refute it at one input. -/
def fnKernelManyWrong : ChangeSpec := { name := "fnKernelMany", fn := fun _ => fun
  | [d] => { results := [.lit (.bool false)], args := [d] }
  | _ => none }
def FnKernelManyWrongFalsely : Prop := fnKernelManyRow.holds Try.pinned (OpenSpec.ofChange fnKernelManyWrong)

/-- 'laws.FnGame': WHATEVER THE INPUT: true; the input reads as it did. -/
def fnGameSpec : ChangeSpec := { name := "fnGame", fn := fun _ => fun
  | [d] => { results := [.lit (.bool true)], args := [d] }
  | _ => none }
def fnGameRow : OpenClaim := { program := "ytfijegfjpagjoaa", sum := "f95fd1c9fb0a44b8188c4bda2fee8ea8e5877406552970cc84a35a49428d47bc", func := "loop.example/graphways/laws.FnGame", spec := "fnGame", apart := false }
def FnGameSaid : Prop := fnGameRow.holds Try.pinned (OpenSpec.ofChange fnGameSpec)

/-- ITS FALSE NEIGHBOUR: 'it returns false'. Refute it at one input. -/
def fnGameWrong : ChangeSpec := { name := "fnGame", fn := fun _ => fun
  | [d] => { results := [.lit (.bool false)], args := [d] }
  | _ => none }
def FnGameWrongFalsely : Prop := fnGameRow.holds Try.pinned (OpenSpec.ofChange fnGameWrong)

/- THE SECOND FORM. 'bulk': how many values and letters a reading holds, each counted each time it is reached (what is shared counts as often as it is met; a slice's spare places count too). A statement '..UptoSaid' is the law's where the arguments, and the package variables that the reading takes, are together of bulk at most 1048576: NARROWER than '..Said'. Prove '..Said' where nothing that the law and all that it calls make is longer than what came in: it says more and counts as full. Else prove '..UptoSaid'. A law counts once. -/
mutual
def uptoBulk {H : Type} : DataW H → Nat
  | .lit (.string bytes) => bytes.length + 1
  | .lit _ => 1
  | .nil => 1
  | .ptr d => uptoBulk d + 1
  | .slice elems spare => uptoBulkAll elems + uptoBulkAll spare + 1
  | .agg parts => uptoBulkAll parts + 1
  | .iface _ d => uptoBulk d + 1
  | .map entries => uptoBulkEntries entries + 1
  | .held _ => 1
def uptoBulkAll {H : Type} : List (DataW H) → Nat
  | [] => 0
  | d :: r => uptoBulk d + uptoBulkAll r
def uptoBulkEntries {H : Type} : List (Lit × DataW H) → Nat
  | [] => 0
  | x :: r => uptoBulkEntry x + uptoBulkEntries r
def uptoBulkEntry {H : Type} : Lit × DataW H → Nat
  | (.string bytes, d) => bytes.length + uptoBulk d + 1
  | (_, d) => uptoBulk d + 1
 end
def uptoSmall : (H : Type) → List (DataW H) → Bool := fun _ ds => decide (uptoBulkAll ds ≤ 1048576)
def OpenSpec.upto (s : _root_.Go.ChangeSpec) : _root_.Go.OpenSpec := { _root_.Go.OpenSpec.ofChange s with cond := some uptoSmall }

/-- 'laws.FnExactPathAll', WHERE WHAT IT READS IS OF BULK AT MOST 1048576: true; the input reads as it did. -/
def fnExactPathAllUptoRow : OpenClaim := { program := "ytfijegfjpagjoaa", sum := "f95fd1c9fb0a44b8188c4bda2fee8ea8e5877406552970cc84a35a49428d47bc", func := "loop.example/graphways/laws.FnExactPathAll", spec := "fnExactPathAll", unfollowed := true, recurses := true, apart := false, narrowed := true }
def FnExactPathAllUptoSaid : Prop := fnExactPathAllUptoRow.holds Try.pinned (OpenSpec.upto fnExactPathAllSpec)

/-- 'laws.FnExactPathLongest', WHERE WHAT IT READS IS OF BULK AT MOST 1048576: true; the input reads as it did. -/
def fnExactPathLongestUptoRow : OpenClaim := { program := "ytfijegfjpagjoaa", sum := "f95fd1c9fb0a44b8188c4bda2fee8ea8e5877406552970cc84a35a49428d47bc", func := "loop.example/graphways/laws.FnExactPathLongest", spec := "fnExactPathLongest", unfollowed := true, recurses := true, apart := false, narrowed := true }
def FnExactPathLongestUptoSaid : Prop := fnExactPathLongestUptoRow.holds Try.pinned (OpenSpec.upto fnExactPathLongestSpec)

/-- 'laws.FnExactPathLeast', WHERE WHAT IT READS IS OF BULK AT MOST 1048576: true; the input reads as it did. -/
def fnExactPathLeastUptoRow : OpenClaim := { program := "ytfijegfjpagjoaa", sum := "f95fd1c9fb0a44b8188c4bda2fee8ea8e5877406552970cc84a35a49428d47bc", func := "loop.example/graphways/laws.FnExactPathLeast", spec := "fnExactPathLeast", unfollowed := true, recurses := true, apart := false, narrowed := true }
def FnExactPathLeastUptoSaid : Prop := fnExactPathLeastUptoRow.holds Try.pinned (OpenSpec.upto fnExactPathLeastSpec)

/-- 'laws.FnFirst', WHERE WHAT IT READS IS OF BULK AT MOST 1048576: true; the input reads as it did. -/
def fnFirstUptoRow : OpenClaim := { program := "ytfijegfjpagjoaa", sum := "f95fd1c9fb0a44b8188c4bda2fee8ea8e5877406552970cc84a35a49428d47bc", func := "loop.example/graphways/laws.FnFirst", spec := "fnFirst", unfollowed := true, recurses := true, apart := false, narrowed := true }
def FnFirstUptoSaid : Prop := fnFirstUptoRow.holds Try.pinned (OpenSpec.upto fnFirstSpec)

/-- 'laws.FnPathAll', WHERE WHAT IT READS IS OF BULK AT MOST 1048576: true; the input reads as it did. -/
def fnPathAllUptoRow : OpenClaim := { program := "ytfijegfjpagjoaa", sum := "f95fd1c9fb0a44b8188c4bda2fee8ea8e5877406552970cc84a35a49428d47bc", func := "loop.example/graphways/laws.FnPathAll", spec := "fnPathAll", unfollowed := true, recurses := true, apart := false, narrowed := true }
def FnPathAllUptoSaid : Prop := fnPathAllUptoRow.holds Try.pinned (OpenSpec.upto fnPathAllSpec)

/-- 'laws.FnExactPathFirst', WHERE WHAT IT READS IS OF BULK AT MOST 1048576: true; the input reads as it did. -/
def fnExactPathFirstUptoRow : OpenClaim := { program := "ytfijegfjpagjoaa", sum := "f95fd1c9fb0a44b8188c4bda2fee8ea8e5877406552970cc84a35a49428d47bc", func := "loop.example/graphways/laws.FnExactPathFirst", spec := "fnExactPathFirst", unfollowed := true, recurses := true, apart := false, narrowed := true }
def FnExactPathFirstUptoSaid : Prop := fnExactPathFirstUptoRow.holds Try.pinned (OpenSpec.upto fnExactPathFirstSpec)

/-- 'laws.FnPathLeast', WHERE WHAT IT READS IS OF BULK AT MOST 1048576: true; the input reads as it did. -/
def fnPathLeastUptoRow : OpenClaim := { program := "ytfijegfjpagjoaa", sum := "f95fd1c9fb0a44b8188c4bda2fee8ea8e5877406552970cc84a35a49428d47bc", func := "loop.example/graphways/laws.FnPathLeast", spec := "fnPathLeast", unfollowed := true, recurses := true, apart := false, narrowed := true }
def FnPathLeastUptoSaid : Prop := fnPathLeastUptoRow.holds Try.pinned (OpenSpec.upto fnPathLeastSpec)

/-- 'laws.FnLongest', WHERE WHAT IT READS IS OF BULK AT MOST 1048576: true; the input reads as it did. -/
def fnLongestUptoRow : OpenClaim := { program := "ytfijegfjpagjoaa", sum := "f95fd1c9fb0a44b8188c4bda2fee8ea8e5877406552970cc84a35a49428d47bc", func := "loop.example/graphways/laws.FnLongest", spec := "fnLongest", unfollowed := true, recurses := true, apart := false, narrowed := true }
def FnLongestUptoSaid : Prop := fnLongestUptoRow.holds Try.pinned (OpenSpec.upto fnLongestSpec)

/-- 'laws.FnExactKernelGame', WHERE WHAT IT READS IS OF BULK AT MOST 1048576: true; the input reads as it did. -/
def fnExactKernelGameUptoRow : OpenClaim := { program := "ytfijegfjpagjoaa", sum := "f95fd1c9fb0a44b8188c4bda2fee8ea8e5877406552970cc84a35a49428d47bc", func := "loop.example/graphways/laws.FnExactKernelGame", spec := "fnExactKernelGame", apart := false, narrowed := true }
def FnExactKernelGameUptoSaid : Prop := fnExactKernelGameUptoRow.holds Try.pinned (OpenSpec.upto fnExactKernelGameSpec)

/-- 'laws.FnExactKernelRoots', WHERE WHAT IT READS IS OF BULK AT MOST 1048576: true; the input reads as it did. -/
def fnExactKernelRootsUptoRow : OpenClaim := { program := "ytfijegfjpagjoaa", sum := "f95fd1c9fb0a44b8188c4bda2fee8ea8e5877406552970cc84a35a49428d47bc", func := "loop.example/graphways/laws.FnExactKernelRoots", spec := "fnExactKernelRoots", apart := false, narrowed := true }
def FnExactKernelRootsUptoSaid : Prop := fnExactKernelRootsUptoRow.holds Try.pinned (OpenSpec.upto fnExactKernelRootsSpec)

/-- 'laws.FnRoots', WHERE WHAT IT READS IS OF BULK AT MOST 1048576: true; the input reads as it did. -/
def fnRootsUptoRow : OpenClaim := { program := "ytfijegfjpagjoaa", sum := "f95fd1c9fb0a44b8188c4bda2fee8ea8e5877406552970cc84a35a49428d47bc", func := "loop.example/graphways/laws.FnRoots", spec := "fnRoots", apart := false, narrowed := true }
def FnRootsUptoSaid : Prop := fnRootsUptoRow.holds Try.pinned (OpenSpec.upto fnRootsSpec)

/-- 'laws.FnMany', WHERE WHAT IT READS IS OF BULK AT MOST 1048576: true; the input reads as it did. -/
def fnManyUptoRow : OpenClaim := { program := "ytfijegfjpagjoaa", sum := "f95fd1c9fb0a44b8188c4bda2fee8ea8e5877406552970cc84a35a49428d47bc", func := "loop.example/graphways/laws.FnMany", spec := "fnMany", unfollowed := true, recurses := true, apart := false, narrowed := true }
def FnManyUptoSaid : Prop := fnManyUptoRow.holds Try.pinned (OpenSpec.upto fnManySpec)

/-- 'laws.FnScoreFirst', WHERE WHAT IT READS IS OF BULK AT MOST 1048576: true; the input reads as it did. -/
def fnScoreFirstUptoRow : OpenClaim := { program := "ytfijegfjpagjoaa", sum := "f95fd1c9fb0a44b8188c4bda2fee8ea8e5877406552970cc84a35a49428d47bc", func := "loop.example/graphways/laws.FnScoreFirst", spec := "fnScoreFirst", apart := false, narrowed := true }
def FnScoreFirstUptoSaid : Prop := fnScoreFirstUptoRow.holds Try.pinned (OpenSpec.upto fnScoreFirstSpec)

/-- 'laws.FnKernelMany', WHERE WHAT IT READS IS OF BULK AT MOST 1048576: true; the input reads as it did. -/
def fnKernelManyUptoRow : OpenClaim := { program := "ytfijegfjpagjoaa", sum := "f95fd1c9fb0a44b8188c4bda2fee8ea8e5877406552970cc84a35a49428d47bc", func := "loop.example/graphways/laws.FnKernelMany", spec := "fnKernelMany", unfollowed := true, recurses := true, apart := false, narrowed := true }
def FnKernelManyUptoSaid : Prop := fnKernelManyUptoRow.holds Try.pinned (OpenSpec.upto fnKernelManySpec)

/-- 'laws.FnGame', WHERE WHAT IT READS IS OF BULK AT MOST 1048576: true; the input reads as it did. -/
def fnGameUptoRow : OpenClaim := { program := "ytfijegfjpagjoaa", sum := "f95fd1c9fb0a44b8188c4bda2fee8ea8e5877406552970cc84a35a49428d47bc", func := "loop.example/graphways/laws.FnGame", spec := "fnGame", apart := false, narrowed := true }
def FnGameUptoSaid : Prop := fnGameUptoRow.holds Try.pinned (OpenSpec.upto fnGameSpec)

end Rows
end Go.Proofs.Ytfijegfjpagjoaa
