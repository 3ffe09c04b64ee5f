/-
  No cell of these rows narrows 'for every input' (looked for: loops, veiled, ifaces, maps, wideKeys, modest, calm, conditions, laid).
  DERIVED. THE GIVEN ROWS OF THIS SEAT. 10 by the template 'for every input the law returns true; each argument reads behind the call as it read before'; 0 by the template 'total and deterministic' (their statements: YthoaebnnolbaaaaTotals.lean).
  GIVEN WITH THE SEED: the statements are not yours to turn. If you find one false, say at which input.
  Laid BY PROGRAM, IN A SANDBOX (cutbox-rows.mjs): the forced cells as the released guide's own fill.sh prints them over the translation b24d33f2cebb1d1a… (all of the seat's roots in one cut). By AI agents, Wed Nov 11 2026. No macro, syntax, notation, axiom, sorry.
-/
import Derived.Test.YthoaebnnolbaaaaChecked
import GoSem.Claim
import GoSem.ClaimJoined
import GoSem.ClaimMapViews
import Derived.JoinedTies
import Derived.KernelRfl
namespace Go.Proofs.Ythoaebnnolbaaaa
/- THE CELL 'sum', in the pinned program and in every row, IS THE sha256 OF THE DUMP (.gsa) THAT YthoaebnnolbaaaaProg.lean LOADS. Nothing in Lean hashes anything: it is a label: what it is worth is what the hold of that sum in a sandbox is worth. -/
noncomputable def Try.pinned : Pinned := { name := "ythoaebnnolbaaaa", sum := "b24d33f2cebb1d1a6ace60758d7f32fc52fc1c26d4f21ee4520c55239be9ca4e", checked := Try.checked }
namespace Rows
def none {H : Type} : Left H := { results := [], args := [] }

/-- 'laws.FnRows': WHATEVER THE INPUT: true; the input reads as it did. -/
def fnRowsSpec : ChangeSpec := { name := "fnRows", fn := fun _ => fun
  | [d] => { results := [.lit (.bool true)], args := [d] }
  | _ => none }
def fnRowsRow : OpenClaim := { program := "ythoaebnnolbaaaa", sum := "b24d33f2cebb1d1a6ace60758d7f32fc52fc1c26d4f21ee4520c55239be9ca4e", func := "loop.example/graphways/laws.FnRows", spec := "fnRows", unfollowed := true, recurses := true, plainKeys := false, apart := false }
def FnRowsSaid : Prop := fnRowsRow.holds Try.pinned (OpenSpec.ofChange fnRowsSpec)

/-- ITS FALSE NEIGHBOUR: 'it returns false'. Refute it at one input. -/
def fnRowsWrong : ChangeSpec := { name := "fnRows", fn := fun _ => fun
  | [d] => { results := [.lit (.bool false)], args := [d] }
  | _ => none }
def FnRowsWrongFalsely : Prop := fnRowsRow.holds Try.pinned (OpenSpec.ofChange fnRowsWrong)

/-- 'laws.FnScoreIs': WHATEVER THE INPUT: true; the input reads as it did. -/
def fnScoreIsSpec : ChangeSpec := { name := "fnScoreIs", fn := fun _ => fun
  | [d] => { results := [.lit (.bool true)], args := [d] }
  | _ => none }
def fnScoreIsRow : OpenClaim := { program := "ythoaebnnolbaaaa", sum := "b24d33f2cebb1d1a6ace60758d7f32fc52fc1c26d4f21ee4520c55239be9ca4e", func := "loop.example/graphways/laws.FnScoreIs", spec := "fnScoreIs", plainKeys := false, apart := false }
def FnScoreIsSaid : Prop := fnScoreIsRow.holds Try.pinned (OpenSpec.ofChange fnScoreIsSpec)

/-- ITS FALSE NEIGHBOUR: 'it returns false'. Refute it at one input. -/
def fnScoreIsWrong : ChangeSpec := { name := "fnScoreIs", fn := fun _ => fun
  | [d] => { results := [.lit (.bool false)], args := [d] }
  | _ => none }
def FnScoreIsWrongFalsely : Prop := fnScoreIsRow.holds Try.pinned (OpenSpec.ofChange fnScoreIsWrong)

/-- 'laws.FnCuts': WHATEVER THE INPUT: true; the input reads as it did. -/
def fnCutsSpec : ChangeSpec := { name := "fnCuts", fn := fun _ => fun
  | [d] => { results := [.lit (.bool true)], args := [d] }
  | _ => none }
def fnCutsRow : OpenClaim := { program := "ythoaebnnolbaaaa", sum := "b24d33f2cebb1d1a6ace60758d7f32fc52fc1c26d4f21ee4520c55239be9ca4e", func := "loop.example/graphways/laws.FnCuts", spec := "fnCuts", unfollowed := true, recurses := true, plainKeys := false, apart := false }
def FnCutsSaid : Prop := fnCutsRow.holds Try.pinned (OpenSpec.ofChange fnCutsSpec)

/-- ITS FALSE NEIGHBOUR: 'it returns false'. Refute it at one input. -/
def fnCutsWrong : ChangeSpec := { name := "fnCuts", fn := fun _ => fun
  | [d] => { results := [.lit (.bool false)], args := [d] }
  | _ => none }
def FnCutsWrongFalsely : Prop := fnCutsRow.holds Try.pinned (OpenSpec.ofChange fnCutsWrong)

/-- 'laws.FnRounds': WHATEVER THE INPUT: true; the input reads as it did. -/
def fnRoundsSpec : ChangeSpec := { name := "fnRounds", fn := fun _ => fun
  | [d] => { results := [.lit (.bool true)], args := [d] }
  | _ => none }
def fnRoundsRow : OpenClaim := { program := "ythoaebnnolbaaaa", sum := "b24d33f2cebb1d1a6ace60758d7f32fc52fc1c26d4f21ee4520c55239be9ca4e", func := "loop.example/graphways/laws.FnRounds", spec := "fnRounds", unfollowed := true, recurses := true, plainKeys := false, apart := false }
def FnRoundsSaid : Prop := fnRoundsRow.holds Try.pinned (OpenSpec.ofChange fnRoundsSpec)

/-- ITS FALSE NEIGHBOUR: 'it returns false'. Refute it at one input. -/
def fnRoundsWrong : ChangeSpec := { name := "fnRounds", fn := fun _ => fun
  | [d] => { results := [.lit (.bool false)], args := [d] }
  | _ => none }
def FnRoundsWrongFalsely : Prop := fnRoundsRow.holds Try.pinned (OpenSpec.ofChange fnRoundsWrong)

/-- 'laws.FnExactFlipSize': WHATEVER THE INPUT: true; the input reads as it did. -/
def fnExactFlipSizeSpec : ChangeSpec := { name := "fnExactFlipSize", fn := fun _ => fun
  | [d1, d2, d3] => { results := [.lit (.bool true)], args := [d1, d2, d3] }
  | _ => none }
def fnExactFlipSizeRow : OpenClaim := { program := "ythoaebnnolbaaaa", sum := "b24d33f2cebb1d1a6ace60758d7f32fc52fc1c26d4f21ee4520c55239be9ca4e", func := "loop.example/graphways/laws.FnExactFlipSize", spec := "fnExactFlipSize", unfollowed := true, recurses := true, plainKeys := false, apart := false }
def FnExactFlipSizeSaid : Prop := fnExactFlipSizeRow.holds Try.pinned (OpenSpec.ofChange fnExactFlipSizeSpec)

/-- ITS FALSE NEIGHBOUR: 'it returns false'. Refute it at one input. -/
def fnExactFlipSizeWrong : ChangeSpec := { name := "fnExactFlipSize", fn := fun _ => fun
  | [d1, d2, d3] => { results := [.lit (.bool false)], args := [d1, d2, d3] }
  | _ => none }
def FnExactFlipSizeWrongFalsely : Prop := fnExactFlipSizeRow.holds Try.pinned (OpenSpec.ofChange fnExactFlipSizeWrong)

/-- 'laws.FnExactFlipSame': WHATEVER THE INPUT: true; the input reads as it did. -/
def fnExactFlipSameSpec : ChangeSpec := { name := "fnExactFlipSame", fn := fun _ => fun
  | [d1, d2, d3, d4] => { results := [.lit (.bool true)], args := [d1, d2, d3, d4] }
  | _ => none }
def fnExactFlipSameRow : OpenClaim := { program := "ythoaebnnolbaaaa", sum := "b24d33f2cebb1d1a6ace60758d7f32fc52fc1c26d4f21ee4520c55239be9ca4e", func := "loop.example/graphways/laws.FnExactFlipSame", spec := "fnExactFlipSame", unfollowed := true, recurses := true, plainKeys := false, apart := false }
def FnExactFlipSameSaid : Prop := fnExactFlipSameRow.holds Try.pinned (OpenSpec.ofChange fnExactFlipSameSpec)

/-- ITS FALSE NEIGHBOUR: 'it returns false'. Refute it at one input. -/
def fnExactFlipSameWrong : ChangeSpec := { name := "fnExactFlipSame", fn := fun _ => fun
  | [d1, d2, d3, d4] => { results := [.lit (.bool false)], args := [d1, d2, d3, d4] }
  | _ => none }
def FnExactFlipSameWrongFalsely : Prop := fnExactFlipSameRow.holds Try.pinned (OpenSpec.ofChange fnExactFlipSameWrong)

/-- 'laws.FnExactFlipClasses': WHATEVER THE INPUT: true; the input reads as it did. -/
def fnExactFlipClassesSpec : ChangeSpec := { name := "fnExactFlipClasses", fn := fun _ => fun
  | [d1, d2] => { results := [.lit (.bool true)], args := [d1, d2] }
  | _ => none }
def fnExactFlipClassesRow : OpenClaim := { program := "ythoaebnnolbaaaa", sum := "b24d33f2cebb1d1a6ace60758d7f32fc52fc1c26d4f21ee4520c55239be9ca4e", func := "loop.example/graphways/laws.FnExactFlipClasses", spec := "fnExactFlipClasses", unfollowed := true, recurses := true, plainKeys := false, apart := false }
def FnExactFlipClassesSaid : Prop := fnExactFlipClassesRow.holds Try.pinned (OpenSpec.ofChange fnExactFlipClassesSpec)

/-- ITS FALSE NEIGHBOUR: 'it returns false'. Refute it at one input. -/
def fnExactFlipClassesWrong : ChangeSpec := { name := "fnExactFlipClasses", fn := fun _ => fun
  | [d1, d2] => { results := [.lit (.bool false)], args := [d1, d2] }
  | _ => none }
def FnExactFlipClassesWrongFalsely : Prop := fnExactFlipClassesRow.holds Try.pinned (OpenSpec.ofChange fnExactFlipClassesWrong)

/-- 'laws.FnFlipSame': WHATEVER THE INPUT: true; the input reads as it did. -/
def fnFlipSameSpec : ChangeSpec := { name := "fnFlipSame", fn := fun _ => fun
  | [d] => { results := [.lit (.bool true)], args := [d] }
  | _ => none }
def fnFlipSameRow : OpenClaim := { program := "ythoaebnnolbaaaa", sum := "b24d33f2cebb1d1a6ace60758d7f32fc52fc1c26d4f21ee4520c55239be9ca4e", func := "loop.example/graphways/laws.FnFlipSame", spec := "fnFlipSame", unfollowed := true, recurses := true, plainKeys := false, apart := false }
def FnFlipSameSaid : Prop := fnFlipSameRow.holds Try.pinned (OpenSpec.ofChange fnFlipSameSpec)

/-- ITS FALSE NEIGHBOUR: 'it returns false'. Refute it at one input. -/
def fnFlipSameWrong : ChangeSpec := { name := "fnFlipSame", fn := fun _ => fun
  | [d] => { results := [.lit (.bool false)], args := [d] }
  | _ => none }
def FnFlipSameWrongFalsely : Prop := fnFlipSameRow.holds Try.pinned (OpenSpec.ofChange fnFlipSameWrong)

/-- 'laws.FnFlipRow': WHATEVER THE INPUT: true; the input reads as it did. -/
def fnFlipRowSpec : ChangeSpec := { name := "fnFlipRow", fn := fun _ => fun
  | [d] => { results := [.lit (.bool true)], args := [d] }
  | _ => none }
def fnFlipRowRow : OpenClaim := { program := "ythoaebnnolbaaaa", sum := "b24d33f2cebb1d1a6ace60758d7f32fc52fc1c26d4f21ee4520c55239be9ca4e", func := "loop.example/graphways/laws.FnFlipRow", spec := "fnFlipRow", unfollowed := true, recurses := true, plainKeys := false, apart := false }
def FnFlipRowSaid : Prop := fnFlipRowRow.holds Try.pinned (OpenSpec.ofChange fnFlipRowSpec)

/-- ITS FALSE NEIGHBOUR: 'it returns false'. Refute it at one input. -/
def fnFlipRowWrong : ChangeSpec := { name := "fnFlipRow", fn := fun _ => fun
  | [d] => { results := [.lit (.bool false)], args := [d] }
  | _ => none }
def FnFlipRowWrongFalsely : Prop := fnFlipRowRow.holds Try.pinned (OpenSpec.ofChange fnFlipRowWrong)

/-- 'laws.FnFlipClasses': WHATEVER THE INPUT: true; the input reads as it did. -/
def fnFlipClassesSpec : ChangeSpec := { name := "fnFlipClasses", fn := fun _ => fun
  | [d] => { results := [.lit (.bool true)], args := [d] }
  | _ => none }
def fnFlipClassesRow : OpenClaim := { program := "ythoaebnnolbaaaa", sum := "b24d33f2cebb1d1a6ace60758d7f32fc52fc1c26d4f21ee4520c55239be9ca4e", func := "loop.example/graphways/laws.FnFlipClasses", spec := "fnFlipClasses", unfollowed := true, recurses := true, plainKeys := false, apart := false }
def FnFlipClassesSaid : Prop := fnFlipClassesRow.holds Try.pinned (OpenSpec.ofChange fnFlipClassesSpec)

/-- ITS FALSE NEIGHBOUR: 'it returns false'. Refute it at one input. -/
def fnFlipClassesWrong : ChangeSpec := { name := "fnFlipClasses", fn := fun _ => fun
  | [d] => { results := [.lit (.bool false)], args := [d] }
  | _ => none }
def FnFlipClassesWrongFalsely : Prop := fnFlipClassesRow.holds Try.pinned (OpenSpec.ofChange fnFlipClassesWrong)

/- THE SECOND FORM. 'bulk': how many values and letters a reading holds, each counted each time it is reached (what is shared counts as often as it is met; a slice's spare places count too). A statement '..UptoSaid' is the law's where the arguments, and the package variables that the reading takes, are together of bulk at most 1048576: NARROWER than '..Said'. Prove '..Said' where nothing that the law and all that it calls make is longer than what came in: it says more and counts as full. Else prove '..UptoSaid'. A law counts once. -/
mutual
def uptoBulk {H : Type} : DataW H → Nat
  | .lit (.string bytes) => bytes.length + 1
  | .lit _ => 1
  | .nil => 1
  | .ptr d => uptoBulk d + 1
  | .slice elems spare => uptoBulkAll elems + uptoBulkAll spare + 1
  | .agg parts => uptoBulkAll parts + 1
  | .iface _ d => uptoBulk d + 1
  | .map entries => uptoBulkEntries entries + 1
  | .held _ => 1
def uptoBulkAll {H : Type} : List (DataW H) → Nat
  | [] => 0
  | d :: r => uptoBulk d + uptoBulkAll r
def uptoBulkEntries {H : Type} : List (Lit × DataW H) → Nat
  | [] => 0
  | x :: r => uptoBulkEntry x + uptoBulkEntries r
def uptoBulkEntry {H : Type} : Lit × DataW H → Nat
  | (.string bytes, d) => bytes.length + uptoBulk d + 1
  | (_, d) => uptoBulk d + 1
 end
def uptoSmall : (H : Type) → List (DataW H) → Bool := fun _ ds => decide (uptoBulkAll ds ≤ 1048576)
def OpenSpec.upto (s : _root_.Go.ChangeSpec) : _root_.Go.OpenSpec := { _root_.Go.OpenSpec.ofChange s with cond := some uptoSmall }

/-- 'laws.FnRows', WHERE WHAT IT READS IS OF BULK AT MOST 1048576: true; the input reads as it did. -/
def fnRowsUptoRow : OpenClaim := { program := "ythoaebnnolbaaaa", sum := "b24d33f2cebb1d1a6ace60758d7f32fc52fc1c26d4f21ee4520c55239be9ca4e", func := "loop.example/graphways/laws.FnRows", spec := "fnRows", unfollowed := true, recurses := true, plainKeys := false, apart := false, narrowed := true }
def FnRowsUptoSaid : Prop := fnRowsUptoRow.holds Try.pinned (OpenSpec.upto fnRowsSpec)

/-- 'laws.FnScoreIs', WHERE WHAT IT READS IS OF BULK AT MOST 1048576: true; the input reads as it did. -/
def fnScoreIsUptoRow : OpenClaim := { program := "ythoaebnnolbaaaa", sum := "b24d33f2cebb1d1a6ace60758d7f32fc52fc1c26d4f21ee4520c55239be9ca4e", func := "loop.example/graphways/laws.FnScoreIs", spec := "fnScoreIs", plainKeys := false, apart := false, narrowed := true }
def FnScoreIsUptoSaid : Prop := fnScoreIsUptoRow.holds Try.pinned (OpenSpec.upto fnScoreIsSpec)

/-- 'laws.FnCuts', WHERE WHAT IT READS IS OF BULK AT MOST 1048576: true; the input reads as it did. -/
def fnCutsUptoRow : OpenClaim := { program := "ythoaebnnolbaaaa", sum := "b24d33f2cebb1d1a6ace60758d7f32fc52fc1c26d4f21ee4520c55239be9ca4e", func := "loop.example/graphways/laws.FnCuts", spec := "fnCuts", unfollowed := true, recurses := true, plainKeys := false, apart := false, narrowed := true }
def FnCutsUptoSaid : Prop := fnCutsUptoRow.holds Try.pinned (OpenSpec.upto fnCutsSpec)

/-- 'laws.FnRounds', WHERE WHAT IT READS IS OF BULK AT MOST 1048576: true; the input reads as it did. -/
def fnRoundsUptoRow : OpenClaim := { program := "ythoaebnnolbaaaa", sum := "b24d33f2cebb1d1a6ace60758d7f32fc52fc1c26d4f21ee4520c55239be9ca4e", func := "loop.example/graphways/laws.FnRounds", spec := "fnRounds", unfollowed := true, recurses := true, plainKeys := false, apart := false, narrowed := true }
def FnRoundsUptoSaid : Prop := fnRoundsUptoRow.holds Try.pinned (OpenSpec.upto fnRoundsSpec)

/-- 'laws.FnExactFlipSize', WHERE WHAT IT READS IS OF BULK AT MOST 1048576: true; the input reads as it did. -/
def fnExactFlipSizeUptoRow : OpenClaim := { program := "ythoaebnnolbaaaa", sum := "b24d33f2cebb1d1a6ace60758d7f32fc52fc1c26d4f21ee4520c55239be9ca4e", func := "loop.example/graphways/laws.FnExactFlipSize", spec := "fnExactFlipSize", unfollowed := true, recurses := true, plainKeys := false, apart := false, narrowed := true }
def FnExactFlipSizeUptoSaid : Prop := fnExactFlipSizeUptoRow.holds Try.pinned (OpenSpec.upto fnExactFlipSizeSpec)

/-- 'laws.FnExactFlipSame', WHERE WHAT IT READS IS OF BULK AT MOST 1048576: true; the input reads as it did. -/
def fnExactFlipSameUptoRow : OpenClaim := { program := "ythoaebnnolbaaaa", sum := "b24d33f2cebb1d1a6ace60758d7f32fc52fc1c26d4f21ee4520c55239be9ca4e", func := "loop.example/graphways/laws.FnExactFlipSame", spec := "fnExactFlipSame", unfollowed := true, recurses := true, plainKeys := false, apart := false, narrowed := true }
def FnExactFlipSameUptoSaid : Prop := fnExactFlipSameUptoRow.holds Try.pinned (OpenSpec.upto fnExactFlipSameSpec)

/-- 'laws.FnExactFlipClasses', WHERE WHAT IT READS IS OF BULK AT MOST 1048576: true; the input reads as it did. -/
def fnExactFlipClassesUptoRow : OpenClaim := { program := "ythoaebnnolbaaaa", sum := "b24d33f2cebb1d1a6ace60758d7f32fc52fc1c26d4f21ee4520c55239be9ca4e", func := "loop.example/graphways/laws.FnExactFlipClasses", spec := "fnExactFlipClasses", unfollowed := true, recurses := true, plainKeys := false, apart := false, narrowed := true }
def FnExactFlipClassesUptoSaid : Prop := fnExactFlipClassesUptoRow.holds Try.pinned (OpenSpec.upto fnExactFlipClassesSpec)

/-- 'laws.FnFlipSame', WHERE WHAT IT READS IS OF BULK AT MOST 1048576: true; the input reads as it did. -/
def fnFlipSameUptoRow : OpenClaim := { program := "ythoaebnnolbaaaa", sum := "b24d33f2cebb1d1a6ace60758d7f32fc52fc1c26d4f21ee4520c55239be9ca4e", func := "loop.example/graphways/laws.FnFlipSame", spec := "fnFlipSame", unfollowed := true, recurses := true, plainKeys := false, apart := false, narrowed := true }
def FnFlipSameUptoSaid : Prop := fnFlipSameUptoRow.holds Try.pinned (OpenSpec.upto fnFlipSameSpec)

/-- 'laws.FnFlipRow', WHERE WHAT IT READS IS OF BULK AT MOST 1048576: true; the input reads as it did. -/
def fnFlipRowUptoRow : OpenClaim := { program := "ythoaebnnolbaaaa", sum := "b24d33f2cebb1d1a6ace60758d7f32fc52fc1c26d4f21ee4520c55239be9ca4e", func := "loop.example/graphways/laws.FnFlipRow", spec := "fnFlipRow", unfollowed := true, recurses := true, plainKeys := false, apart := false, narrowed := true }
def FnFlipRowUptoSaid : Prop := fnFlipRowUptoRow.holds Try.pinned (OpenSpec.upto fnFlipRowSpec)

/-- 'laws.FnFlipClasses', WHERE WHAT IT READS IS OF BULK AT MOST 1048576: true; the input reads as it did. -/
def fnFlipClassesUptoRow : OpenClaim := { program := "ythoaebnnolbaaaa", sum := "b24d33f2cebb1d1a6ace60758d7f32fc52fc1c26d4f21ee4520c55239be9ca4e", func := "loop.example/graphways/laws.FnFlipClasses", spec := "fnFlipClasses", unfollowed := true, recurses := true, plainKeys := false, apart := false, narrowed := true }
def FnFlipClassesUptoSaid : Prop := fnFlipClassesUptoRow.holds Try.pinned (OpenSpec.upto fnFlipClassesSpec)

end Rows
end Go.Proofs.Ythoaebnnolbaaaa
