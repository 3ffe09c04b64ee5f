/-
  No cell of these rows narrows 'for every input' (looked for: loops, veiled, ifaces, maps, wideKeys, modest, calm, conditions, laid).
  DERIVED. THE GIVEN ROWS OF THIS SEAT. 14 by the template 'for every input the law returns true; each argument reads behind the call as it read before'; 0 by the template 'total and deterministic' (their statements: YtdgnnbbjehdogaaTotals.lean).
  GIVEN WITH THE SEED: the statements are not yours to turn. If you find one false, say at which input.
  Laid BY PROGRAM, IN A SANDBOX (cutbox-rows.mjs): the forced cells as the released guide's own fill.sh prints them over the translation e51c80b785376c99… (all of the seat's roots in one cut). By AI agents, Wed Nov 11 2026. No macro, syntax, notation, axiom, sorry.
-/
import Derived.Test.YtdgnnbbjehdogaaChecked
import GoSem.Claim
import GoSem.ClaimJoined
import GoSem.ClaimMapViews
import Derived.JoinedTies
import Derived.KernelRfl
namespace Go.Proofs.Ytdgnnbbjehdogaa
/- THE CELL 'sum', in the pinned program and in every row, IS THE sha256 OF THE DUMP (.gsa) THAT YtdgnnbbjehdogaaProg.lean LOADS. Nothing in Lean hashes anything: it is a label: what it is worth is what the hold of that sum in a sandbox is worth. -/
noncomputable def Try.pinned : Pinned := { name := "ytdgnnbbjehdogaa", sum := "e51c80b785376c99561999358390e01e94682bd08899dd34995ea09494bf0ade", checked := Try.checked }
namespace Rows
def none {H : Type} : Left H := { results := [], args := [] }

/-- 'laws.FnExactPathMend': WHATEVER THE INPUT: true; the input reads as it did. -/
def fnExactPathMendSpec : ChangeSpec := { name := "fnExactPathMend", fn := fun _ => fun
  | [d1, d2] => { results := [.lit (.bool true)], args := [d1, d2] }
  | _ => none }
def fnExactPathMendRow : OpenClaim := { program := "ytdgnnbbjehdogaa", sum := "e51c80b785376c99561999358390e01e94682bd08899dd34995ea09494bf0ade", func := "loop.example/graphways/laws.FnExactPathMend", spec := "fnExactPathMend", plainKeys := false, apart := false }
def FnExactPathMendSaid : Prop := fnExactPathMendRow.holds Try.pinned (OpenSpec.ofChange fnExactPathMendSpec)

/-- ITS FALSE NEIGHBOUR: 'it returns false'. Refute it at one input. -/
def fnExactPathMendWrong : ChangeSpec := { name := "fnExactPathMend", fn := fun _ => fun
  | [d1, d2] => { results := [.lit (.bool false)], args := [d1, d2] }
  | _ => none }
def FnExactPathMendWrongFalsely : Prop := fnExactPathMendRow.holds Try.pinned (OpenSpec.ofChange fnExactPathMendWrong)

/-- 'laws.FnMend': WHATEVER THE INPUT: true; the input reads as it did. -/
def fnMendSpec : ChangeSpec := { name := "fnMend", fn := fun _ => fun
  | [d] => { results := [.lit (.bool true)], args := [d] }
  | _ => none }
def fnMendRow : OpenClaim := { program := "ytdgnnbbjehdogaa", sum := "e51c80b785376c99561999358390e01e94682bd08899dd34995ea09494bf0ade", func := "loop.example/graphways/laws.FnMend", spec := "fnMend", plainKeys := false, apart := false }
def FnMendSaid : Prop := fnMendRow.holds Try.pinned (OpenSpec.ofChange fnMendSpec)

/-- ITS FALSE NEIGHBOUR: 'it returns false'. Refute it at one input. -/
def fnMendWrong : ChangeSpec := { name := "fnMend", fn := fun _ => fun
  | [d] => { results := [.lit (.bool false)], args := [d] }
  | _ => none }
def FnMendWrongFalsely : Prop := fnMendRow.holds Try.pinned (OpenSpec.ofChange fnMendWrong)

/-- 'laws.FnExactPathFirst': WHATEVER THE INPUT: true; the input reads as it did. -/
def fnExactPathFirstSpec : ChangeSpec := { name := "fnExactPathFirst", fn := fun _ => fun
  | [d1, d2] => { results := [.lit (.bool true)], args := [d1, d2] }
  | _ => none }
def fnExactPathFirstRow : OpenClaim := { program := "ytdgnnbbjehdogaa", sum := "e51c80b785376c99561999358390e01e94682bd08899dd34995ea09494bf0ade", func := "loop.example/graphways/laws.FnExactPathFirst", spec := "fnExactPathFirst", unfollowed := true, recurses := true, plainKeys := false, apart := false }
def FnExactPathFirstSaid : Prop := fnExactPathFirstRow.holds Try.pinned (OpenSpec.ofChange fnExactPathFirstSpec)

/-- ITS FALSE NEIGHBOUR: 'it returns false'. Refute it at one input. -/
def fnExactPathFirstWrong : ChangeSpec := { name := "fnExactPathFirst", fn := fun _ => fun
  | [d1, d2] => { results := [.lit (.bool false)], args := [d1, d2] }
  | _ => none }
def FnExactPathFirstWrongFalsely : Prop := fnExactPathFirstRow.holds Try.pinned (OpenSpec.ofChange fnExactPathFirstWrong)

/-- 'laws.FnExactScoreTrees': WHATEVER THE INPUT: true; the input reads as it did. -/
def fnExactScoreTreesSpec : ChangeSpec := { name := "fnExactScoreTrees", fn := fun _ => fun
  | [d] => { results := [.lit (.bool true)], args := [d] }
  | _ => none }
def fnExactScoreTreesRow : OpenClaim := { program := "ytdgnnbbjehdogaa", sum := "e51c80b785376c99561999358390e01e94682bd08899dd34995ea09494bf0ade", func := "loop.example/graphways/laws.FnExactScoreTrees", spec := "fnExactScoreTrees", unfollowed := true, recurses := true, plainKeys := false, apart := false }
def FnExactScoreTreesSaid : Prop := fnExactScoreTreesRow.holds Try.pinned (OpenSpec.ofChange fnExactScoreTreesSpec)

/-- ITS FALSE NEIGHBOUR: 'it returns false'. Refute it at one input. -/
def fnExactScoreTreesWrong : ChangeSpec := { name := "fnExactScoreTrees", fn := fun _ => fun
  | [d] => { results := [.lit (.bool false)], args := [d] }
  | _ => none }
def FnExactScoreTreesWrongFalsely : Prop := fnExactScoreTreesRow.holds Try.pinned (OpenSpec.ofChange fnExactScoreTreesWrong)

/-- 'laws.FnExactScoreFirst': WHATEVER THE INPUT: true; the input reads as it did. -/
def fnExactScoreFirstSpec : ChangeSpec := { name := "fnExactScoreFirst", fn := fun _ => fun
  | [d1, d2] => { results := [.lit (.bool true)], args := [d1, d2] }
  | _ => none }
def fnExactScoreFirstRow : OpenClaim := { program := "ytdgnnbbjehdogaa", sum := "e51c80b785376c99561999358390e01e94682bd08899dd34995ea09494bf0ade", func := "loop.example/graphways/laws.FnExactScoreFirst", spec := "fnExactScoreFirst", plainKeys := false, apart := false }
def FnExactScoreFirstSaid : Prop := fnExactScoreFirstRow.holds Try.pinned (OpenSpec.ofChange fnExactScoreFirstSpec)

/-- ITS FALSE NEIGHBOUR: 'it returns false'. Refute it at one input. -/
def fnExactScoreFirstWrong : ChangeSpec := { name := "fnExactScoreFirst", fn := fun _ => fun
  | [d1, d2] => { results := [.lit (.bool false)], args := [d1, d2] }
  | _ => none }
def FnExactScoreFirstWrongFalsely : Prop := fnExactScoreFirstRow.holds Try.pinned (OpenSpec.ofChange fnExactScoreFirstWrong)

/-- 'laws.FnRows': WHATEVER THE INPUT: true; the input reads as it did. -/
def fnRowsSpec : ChangeSpec := { name := "fnRows", fn := fun _ => fun
  | [d] => { results := [.lit (.bool true)], args := [d] }
  | _ => none }
def fnRowsRow : OpenClaim := { program := "ytdgnnbbjehdogaa", sum := "e51c80b785376c99561999358390e01e94682bd08899dd34995ea09494bf0ade", func := "loop.example/graphways/laws.FnRows", spec := "fnRows", unfollowed := true, recurses := true, plainKeys := false, apart := false }
def FnRowsSaid : Prop := fnRowsRow.holds Try.pinned (OpenSpec.ofChange fnRowsSpec)

/-- ITS FALSE NEIGHBOUR: 'it returns false'. Refute it at one input. -/
def fnRowsWrong : ChangeSpec := { name := "fnRows", fn := fun _ => fun
  | [d] => { results := [.lit (.bool false)], args := [d] }
  | _ => none }
def FnRowsWrongFalsely : Prop := fnRowsRow.holds Try.pinned (OpenSpec.ofChange fnRowsWrong)

/-- 'laws.FnMany': WHATEVER THE INPUT: true; the input reads as it did. -/
def fnManySpec : ChangeSpec := { name := "fnMany", fn := fun _ => fun
  | [d] => { results := [.lit (.bool true)], args := [d] }
  | _ => none }
def fnManyRow : OpenClaim := { program := "ytdgnnbbjehdogaa", sum := "e51c80b785376c99561999358390e01e94682bd08899dd34995ea09494bf0ade", func := "loop.example/graphways/laws.FnMany", spec := "fnMany", unfollowed := true, recurses := true, plainKeys := false, apart := false }
def FnManySaid : Prop := fnManyRow.holds Try.pinned (OpenSpec.ofChange fnManySpec)

/-- ITS FALSE NEIGHBOUR: 'it returns false'. Refute it at one input. -/
def fnManyWrong : ChangeSpec := { name := "fnMany", fn := fun _ => fun
  | [d] => { results := [.lit (.bool false)], args := [d] }
  | _ => none }
def FnManyWrongFalsely : Prop := fnManyRow.holds Try.pinned (OpenSpec.ofChange fnManyWrong)

/-- 'laws.FnEven': WHATEVER THE INPUT: true; the input reads as it did. -/
def fnEvenSpec : ChangeSpec := { name := "fnEven", fn := fun _ => fun
  | [d] => { results := [.lit (.bool true)], args := [d] }
  | _ => none }
def fnEvenRow : OpenClaim := { program := "ytdgnnbbjehdogaa", sum := "e51c80b785376c99561999358390e01e94682bd08899dd34995ea09494bf0ade", func := "loop.example/graphways/laws.FnEven", spec := "fnEven", plainKeys := false, apart := false }
def FnEvenSaid : Prop := fnEvenRow.holds Try.pinned (OpenSpec.ofChange fnEvenSpec)

/-- ITS FALSE NEIGHBOUR: 'it returns false'. Refute it at one input. -/
def fnEvenWrong : ChangeSpec := { name := "fnEven", fn := fun _ => fun
  | [d] => { results := [.lit (.bool false)], args := [d] }
  | _ => none }
def FnEvenWrongFalsely : Prop := fnEvenRow.holds Try.pinned (OpenSpec.ofChange fnEvenWrong)

/-- 'laws.FnScoreFirst': WHATEVER THE INPUT: true; the input reads as it did. -/
def fnScoreFirstSpec : ChangeSpec := { name := "fnScoreFirst", fn := fun _ => fun
  | [d] => { results := [.lit (.bool true)], args := [d] }
  | _ => none }
def fnScoreFirstRow : OpenClaim := { program := "ytdgnnbbjehdogaa", sum := "e51c80b785376c99561999358390e01e94682bd08899dd34995ea09494bf0ade", func := "loop.example/graphways/laws.FnScoreFirst", spec := "fnScoreFirst", plainKeys := false, apart := false }
def FnScoreFirstSaid : Prop := fnScoreFirstRow.holds Try.pinned (OpenSpec.ofChange fnScoreFirstSpec)

/-- ITS FALSE NEIGHBOUR: 'it returns false'. Refute it at one input. -/
def fnScoreFirstWrong : ChangeSpec := { name := "fnScoreFirst", fn := fun _ => fun
  | [d] => { results := [.lit (.bool false)], args := [d] }
  | _ => none }
def FnScoreFirstWrongFalsely : Prop := fnScoreFirstRow.holds Try.pinned (OpenSpec.ofChange fnScoreFirstWrong)

/-- 'laws.FnScoreIs': WHATEVER THE INPUT: true; the input reads as it did. -/
def fnScoreIsSpec : ChangeSpec := { name := "fnScoreIs", fn := fun _ => fun
  | [d] => { results := [.lit (.bool true)], args := [d] }
  | _ => none }
def fnScoreIsRow : OpenClaim := { program := "ytdgnnbbjehdogaa", sum := "e51c80b785376c99561999358390e01e94682bd08899dd34995ea09494bf0ade", func := "loop.example/graphways/laws.FnScoreIs", spec := "fnScoreIs", plainKeys := false, apart := false }
def FnScoreIsSaid : Prop := fnScoreIsRow.holds Try.pinned (OpenSpec.ofChange fnScoreIsSpec)

/-- ITS FALSE NEIGHBOUR: 'it returns false'. Refute it at one input. -/
def fnScoreIsWrong : ChangeSpec := { name := "fnScoreIs", fn := fun _ => fun
  | [d] => { results := [.lit (.bool false)], args := [d] }
  | _ => none }
def FnScoreIsWrongFalsely : Prop := fnScoreIsRow.holds Try.pinned (OpenSpec.ofChange fnScoreIsWrong)

/-- 'laws.FnExactKernelGame': WHATEVER THE INPUT: true; the input reads as it did. -/
def fnExactKernelGameSpec : ChangeSpec := { name := "fnExactKernelGame", fn := fun _ => fun
  | [d1, d2] => { results := [.lit (.bool true)], args := [d1, d2] }
  | _ => none }
def fnExactKernelGameRow : OpenClaim := { program := "ytdgnnbbjehdogaa", sum := "e51c80b785376c99561999358390e01e94682bd08899dd34995ea09494bf0ade", func := "loop.example/graphways/laws.FnExactKernelGame", spec := "fnExactKernelGame", plainKeys := false, apart := false }
def FnExactKernelGameSaid : Prop := fnExactKernelGameRow.holds Try.pinned (OpenSpec.ofChange fnExactKernelGameSpec)

/-- ITS FALSE NEIGHBOUR: 'it returns false'. Refute it at one input. -/
def fnExactKernelGameWrong : ChangeSpec := { name := "fnExactKernelGame", fn := fun _ => fun
  | [d1, d2] => { results := [.lit (.bool false)], args := [d1, d2] }
  | _ => none }
def FnExactKernelGameWrongFalsely : Prop := fnExactKernelGameRow.holds Try.pinned (OpenSpec.ofChange fnExactKernelGameWrong)

/-- 'laws.FnRoots': WHATEVER THE INPUT: true; the input reads as it did. -/
def fnRootsSpec : ChangeSpec := { name := "fnRoots", fn := fun _ => fun
  | [d] => { results := [.lit (.bool true)], args := [d] }
  | _ => none }
def fnRootsRow : OpenClaim := { program := "ytdgnnbbjehdogaa", sum := "e51c80b785376c99561999358390e01e94682bd08899dd34995ea09494bf0ade", func := "loop.example/graphways/laws.FnRoots", spec := "fnRoots", plainKeys := false, apart := false }
def FnRootsSaid : Prop := fnRootsRow.holds Try.pinned (OpenSpec.ofChange fnRootsSpec)

/-- ITS FALSE NEIGHBOUR: 'it returns false'. Refute it at one input. -/
def fnRootsWrong : ChangeSpec := { name := "fnRoots", fn := fun _ => fun
  | [d] => { results := [.lit (.bool false)], args := [d] }
  | _ => none }
def FnRootsWrongFalsely : Prop := fnRootsRow.holds Try.pinned (OpenSpec.ofChange fnRootsWrong)

/-- 'laws.FnPathLeast': WHATEVER THE INPUT: true; the input reads as it did. -/
def fnPathLeastSpec : ChangeSpec := { name := "fnPathLeast", fn := fun _ => fun
  | [d] => { results := [.lit (.bool true)], args := [d] }
  | _ => none }
def fnPathLeastRow : OpenClaim := { program := "ytdgnnbbjehdogaa", sum := "e51c80b785376c99561999358390e01e94682bd08899dd34995ea09494bf0ade", func := "loop.example/graphways/laws.FnPathLeast", spec := "fnPathLeast", unfollowed := true, recurses := true, plainKeys := false, apart := false }
def FnPathLeastSaid : Prop := fnPathLeastRow.holds Try.pinned (OpenSpec.ofChange fnPathLeastSpec)

/-- ITS FALSE NEIGHBOUR: 'it returns false'. Refute it at one input. -/
def fnPathLeastWrong : ChangeSpec := { name := "fnPathLeast", fn := fun _ => fun
  | [d] => { results := [.lit (.bool false)], args := [d] }
  | _ => none }
def FnPathLeastWrongFalsely : Prop := fnPathLeastRow.holds Try.pinned (OpenSpec.ofChange fnPathLeastWrong)

/-- 'laws.FnLongest': WHATEVER THE INPUT: true; the input reads as it did. -/
def fnLongestSpec : ChangeSpec := { name := "fnLongest", fn := fun _ => fun
  | [d] => { results := [.lit (.bool true)], args := [d] }
  | _ => none }
def fnLongestRow : OpenClaim := { program := "ytdgnnbbjehdogaa", sum := "e51c80b785376c99561999358390e01e94682bd08899dd34995ea09494bf0ade", func := "loop.example/graphways/laws.FnLongest", spec := "fnLongest", unfollowed := true, recurses := true, plainKeys := false, apart := false }
def FnLongestSaid : Prop := fnLongestRow.holds Try.pinned (OpenSpec.ofChange fnLongestSpec)

/-- ITS FALSE NEIGHBOUR: 'it returns false'. Refute it at one input. -/
def fnLongestWrong : ChangeSpec := { name := "fnLongest", fn := fun _ => fun
  | [d] => { results := [.lit (.bool false)], args := [d] }
  | _ => none }
def FnLongestWrongFalsely : Prop := fnLongestRow.holds Try.pinned (OpenSpec.ofChange fnLongestWrong)

/- THE SECOND FORM. 'bulk': how many values and letters a reading holds, each counted each time it is reached (what is shared counts as often as it is met; a slice's spare places count too). A statement '..UptoSaid' is the law's where the arguments, and the package variables that the reading takes, are together of bulk at most 1048576: NARROWER than '..Said'. Prove '..Said' where nothing that the law and all that it calls make is longer than what came in: it says more and counts as full. Else prove '..UptoSaid'. A law counts once. -/
mutual
def uptoBulk {H : Type} : DataW H → Nat
  | .lit (.string bytes) => bytes.length + 1
  | .lit _ => 1
  | .nil => 1
  | .ptr d => uptoBulk d + 1
  | .slice elems spare => uptoBulkAll elems + uptoBulkAll spare + 1
  | .agg parts => uptoBulkAll parts + 1
  | .iface _ d => uptoBulk d + 1
  | .map entries => uptoBulkEntries entries + 1
  | .held _ => 1
def uptoBulkAll {H : Type} : List (DataW H) → Nat
  | [] => 0
  | d :: r => uptoBulk d + uptoBulkAll r
def uptoBulkEntries {H : Type} : List (Lit × DataW H) → Nat
  | [] => 0
  | x :: r => uptoBulkEntry x + uptoBulkEntries r
def uptoBulkEntry {H : Type} : Lit × DataW H → Nat
  | (.string bytes, d) => bytes.length + uptoBulk d + 1
  | (_, d) => uptoBulk d + 1
 end
def uptoSmall : (H : Type) → List (DataW H) → Bool := fun _ ds => decide (uptoBulkAll ds ≤ 1048576)
def OpenSpec.upto (s : _root_.Go.ChangeSpec) : _root_.Go.OpenSpec := { _root_.Go.OpenSpec.ofChange s with cond := some uptoSmall }

/-- 'laws.FnExactPathMend', WHERE WHAT IT READS IS OF BULK AT MOST 1048576: true; the input reads as it did. -/
def fnExactPathMendUptoRow : OpenClaim := { program := "ytdgnnbbjehdogaa", sum := "e51c80b785376c99561999358390e01e94682bd08899dd34995ea09494bf0ade", func := "loop.example/graphways/laws.FnExactPathMend", spec := "fnExactPathMend", plainKeys := false, apart := false, narrowed := true }
def FnExactPathMendUptoSaid : Prop := fnExactPathMendUptoRow.holds Try.pinned (OpenSpec.upto fnExactPathMendSpec)

/-- 'laws.FnMend', WHERE WHAT IT READS IS OF BULK AT MOST 1048576: true; the input reads as it did. -/
def fnMendUptoRow : OpenClaim := { program := "ytdgnnbbjehdogaa", sum := "e51c80b785376c99561999358390e01e94682bd08899dd34995ea09494bf0ade", func := "loop.example/graphways/laws.FnMend", spec := "fnMend", plainKeys := false, apart := false, narrowed := true }
def FnMendUptoSaid : Prop := fnMendUptoRow.holds Try.pinned (OpenSpec.upto fnMendSpec)

/-- 'laws.FnExactPathFirst', WHERE WHAT IT READS IS OF BULK AT MOST 1048576: true; the input reads as it did. -/
def fnExactPathFirstUptoRow : OpenClaim := { program := "ytdgnnbbjehdogaa", sum := "e51c80b785376c99561999358390e01e94682bd08899dd34995ea09494bf0ade", func := "loop.example/graphways/laws.FnExactPathFirst", spec := "fnExactPathFirst", unfollowed := true, recurses := true, plainKeys := false, apart := false, narrowed := true }
def FnExactPathFirstUptoSaid : Prop := fnExactPathFirstUptoRow.holds Try.pinned (OpenSpec.upto fnExactPathFirstSpec)

/-- 'laws.FnExactScoreTrees', WHERE WHAT IT READS IS OF BULK AT MOST 1048576: true; the input reads as it did. -/
def fnExactScoreTreesUptoRow : OpenClaim := { program := "ytdgnnbbjehdogaa", sum := "e51c80b785376c99561999358390e01e94682bd08899dd34995ea09494bf0ade", func := "loop.example/graphways/laws.FnExactScoreTrees", spec := "fnExactScoreTrees", unfollowed := true, recurses := true, plainKeys := false, apart := false, narrowed := true }
def FnExactScoreTreesUptoSaid : Prop := fnExactScoreTreesUptoRow.holds Try.pinned (OpenSpec.upto fnExactScoreTreesSpec)

/-- 'laws.FnExactScoreFirst', WHERE WHAT IT READS IS OF BULK AT MOST 1048576: true; the input reads as it did. -/
def fnExactScoreFirstUptoRow : OpenClaim := { program := "ytdgnnbbjehdogaa", sum := "e51c80b785376c99561999358390e01e94682bd08899dd34995ea09494bf0ade", func := "loop.example/graphways/laws.FnExactScoreFirst", spec := "fnExactScoreFirst", plainKeys := false, apart := false, narrowed := true }
def FnExactScoreFirstUptoSaid : Prop := fnExactScoreFirstUptoRow.holds Try.pinned (OpenSpec.upto fnExactScoreFirstSpec)

/-- 'laws.FnRows', WHERE WHAT IT READS IS OF BULK AT MOST 1048576: true; the input reads as it did. -/
def fnRowsUptoRow : OpenClaim := { program := "ytdgnnbbjehdogaa", sum := "e51c80b785376c99561999358390e01e94682bd08899dd34995ea09494bf0ade", func := "loop.example/graphways/laws.FnRows", spec := "fnRows", unfollowed := true, recurses := true, plainKeys := false, apart := false, narrowed := true }
def FnRowsUptoSaid : Prop := fnRowsUptoRow.holds Try.pinned (OpenSpec.upto fnRowsSpec)

/-- 'laws.FnMany', WHERE WHAT IT READS IS OF BULK AT MOST 1048576: true; the input reads as it did. -/
def fnManyUptoRow : OpenClaim := { program := "ytdgnnbbjehdogaa", sum := "e51c80b785376c99561999358390e01e94682bd08899dd34995ea09494bf0ade", func := "loop.example/graphways/laws.FnMany", spec := "fnMany", unfollowed := true, recurses := true, plainKeys := false, apart := false, narrowed := true }
def FnManyUptoSaid : Prop := fnManyUptoRow.holds Try.pinned (OpenSpec.upto fnManySpec)

/-- 'laws.FnEven', WHERE WHAT IT READS IS OF BULK AT MOST 1048576: true; the input reads as it did. -/
def fnEvenUptoRow : OpenClaim := { program := "ytdgnnbbjehdogaa", sum := "e51c80b785376c99561999358390e01e94682bd08899dd34995ea09494bf0ade", func := "loop.example/graphways/laws.FnEven", spec := "fnEven", plainKeys := false, apart := false, narrowed := true }
def FnEvenUptoSaid : Prop := fnEvenUptoRow.holds Try.pinned (OpenSpec.upto fnEvenSpec)

/-- 'laws.FnScoreFirst', WHERE WHAT IT READS IS OF BULK AT MOST 1048576: true; the input reads as it did. -/
def fnScoreFirstUptoRow : OpenClaim := { program := "ytdgnnbbjehdogaa", sum := "e51c80b785376c99561999358390e01e94682bd08899dd34995ea09494bf0ade", func := "loop.example/graphways/laws.FnScoreFirst", spec := "fnScoreFirst", plainKeys := false, apart := false, narrowed := true }
def FnScoreFirstUptoSaid : Prop := fnScoreFirstUptoRow.holds Try.pinned (OpenSpec.upto fnScoreFirstSpec)

/-- 'laws.FnScoreIs', WHERE WHAT IT READS IS OF BULK AT MOST 1048576: true; the input reads as it did. -/
def fnScoreIsUptoRow : OpenClaim := { program := "ytdgnnbbjehdogaa", sum := "e51c80b785376c99561999358390e01e94682bd08899dd34995ea09494bf0ade", func := "loop.example/graphways/laws.FnScoreIs", spec := "fnScoreIs", plainKeys := false, apart := false, narrowed := true }
def FnScoreIsUptoSaid : Prop := fnScoreIsUptoRow.holds Try.pinned (OpenSpec.upto fnScoreIsSpec)

/-- 'laws.FnExactKernelGame', WHERE WHAT IT READS IS OF BULK AT MOST 1048576: true; the input reads as it did. -/
def fnExactKernelGameUptoRow : OpenClaim := { program := "ytdgnnbbjehdogaa", sum := "e51c80b785376c99561999358390e01e94682bd08899dd34995ea09494bf0ade", func := "loop.example/graphways/laws.FnExactKernelGame", spec := "fnExactKernelGame", plainKeys := false, apart := false, narrowed := true }
def FnExactKernelGameUptoSaid : Prop := fnExactKernelGameUptoRow.holds Try.pinned (OpenSpec.upto fnExactKernelGameSpec)

/-- 'laws.FnRoots', WHERE WHAT IT READS IS OF BULK AT MOST 1048576: true; the input reads as it did. -/
def fnRootsUptoRow : OpenClaim := { program := "ytdgnnbbjehdogaa", sum := "e51c80b785376c99561999358390e01e94682bd08899dd34995ea09494bf0ade", func := "loop.example/graphways/laws.FnRoots", spec := "fnRoots", plainKeys := false, apart := false, narrowed := true }
def FnRootsUptoSaid : Prop := fnRootsUptoRow.holds Try.pinned (OpenSpec.upto fnRootsSpec)

/-- 'laws.FnPathLeast', WHERE WHAT IT READS IS OF BULK AT MOST 1048576: true; the input reads as it did. -/
def fnPathLeastUptoRow : OpenClaim := { program := "ytdgnnbbjehdogaa", sum := "e51c80b785376c99561999358390e01e94682bd08899dd34995ea09494bf0ade", func := "loop.example/graphways/laws.FnPathLeast", spec := "fnPathLeast", unfollowed := true, recurses := true, plainKeys := false, apart := false, narrowed := true }
def FnPathLeastUptoSaid : Prop := fnPathLeastUptoRow.holds Try.pinned (OpenSpec.upto fnPathLeastSpec)

/-- 'laws.FnLongest', WHERE WHAT IT READS IS OF BULK AT MOST 1048576: true; the input reads as it did. -/
def fnLongestUptoRow : OpenClaim := { program := "ytdgnnbbjehdogaa", sum := "e51c80b785376c99561999358390e01e94682bd08899dd34995ea09494bf0ade", func := "loop.example/graphways/laws.FnLongest", spec := "fnLongest", unfollowed := true, recurses := true, plainKeys := false, apart := false, narrowed := true }
def FnLongestUptoSaid : Prop := fnLongestUptoRow.holds Try.pinned (OpenSpec.upto fnLongestSpec)

end Rows
end Go.Proofs.Ytdgnnbbjehdogaa
