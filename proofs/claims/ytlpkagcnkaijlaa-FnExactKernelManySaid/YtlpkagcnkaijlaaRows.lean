/-
  No cell of these rows narrows 'for every input' (looked for: loops, veiled, ifaces, maps, wideKeys, modest, calm, conditions, laid).
  DERIVED. THE GIVEN ROWS OF THIS SEAT. 12 by the template 'for every input the law returns true; each argument reads behind the call as it read before'; 0 by the template 'total and deterministic' (their statements: YtlpkagcnkaijlaaTotals.lean).
  GIVEN WITH THE SEED: the statements are not yours to turn. If you find one false, say at which input.
  Laid BY PROGRAM, IN A SANDBOX (cutbox-rows.mjs): the forced cells as the released guide's own fill.sh prints them over the translation 37ed00868b799082… (all of the seat's roots in one cut). By AI agents, Wed Nov 11 2026. No macro, syntax, notation, axiom, sorry.
-/
import Derived.Test.YtlpkagcnkaijlaaChecked
import GoSem.Claim
import GoSem.ClaimJoined
import GoSem.ClaimMapViews
import Derived.JoinedTies
import Derived.KernelRfl
namespace Go.Proofs.Ytlpkagcnkaijlaa
/- THE CELL 'sum', in the pinned program and in every row, IS THE sha256 OF THE DUMP (.gsa) THAT YtlpkagcnkaijlaaProg.lean LOADS. Nothing in Lean hashes anything: it is a label: what it is worth is what the hold of that sum in a sandbox is worth. -/
noncomputable def Try.pinned : Pinned := { name := "ytlpkagcnkaijlaa", sum := "37ed00868b79908230a255ba9ab902f1bab28b93a28fc41eb96a95f579360cf0", checked := Try.checked }
namespace Rows
def none {H : Type} : Left H := { results := [], args := [] }

/-- 'laws.FnExactPathWhole': WHATEVER THE INPUT: true; the input reads as it did. -/
def fnExactPathWholeSpec : ChangeSpec := { name := "fnExactPathWhole", fn := fun _ => fun
  | [d] => { results := [.lit (.bool true)], args := [d] }
  | _ => none }
def fnExactPathWholeRow : OpenClaim := { program := "ytlpkagcnkaijlaa", sum := "37ed00868b79908230a255ba9ab902f1bab28b93a28fc41eb96a95f579360cf0", func := "loop.example/graphways/laws.FnExactPathWhole", spec := "fnExactPathWhole", apart := false }
def FnExactPathWholeSaid : Prop := fnExactPathWholeRow.holds Try.pinned (OpenSpec.ofChange fnExactPathWholeSpec)

/-- ITS FALSE NEIGHBOUR: 'it returns false'. Refute it at one input. -/
def fnExactPathWholeWrong : ChangeSpec := { name := "fnExactPathWhole", fn := fun _ => fun
  | [d] => { results := [.lit (.bool false)], args := [d] }
  | _ => none }
def FnExactPathWholeWrongFalsely : Prop := fnExactPathWholeRow.holds Try.pinned (OpenSpec.ofChange fnExactPathWholeWrong)

/-- 'laws.FnFree': WHATEVER THE INPUT: true; the input reads as it did. -/
def fnFreeSpec : ChangeSpec := { name := "fnFree", fn := fun _ => fun
  | [d] => { results := [.lit (.bool true)], args := [d] }
  | _ => none }
def fnFreeRow : OpenClaim := { program := "ytlpkagcnkaijlaa", sum := "37ed00868b79908230a255ba9ab902f1bab28b93a28fc41eb96a95f579360cf0", func := "loop.example/graphways/laws.FnFree", spec := "fnFree", unfollowed := true, recurses := true, apart := false }
def FnFreeSaid : Prop := fnFreeRow.holds Try.pinned (OpenSpec.ofChange fnFreeSpec)

/-- ITS FALSE NEIGHBOUR: 'it returns false'. Refute it at one input. -/
def fnFreeWrong : ChangeSpec := { name := "fnFree", fn := fun _ => fun
  | [d] => { results := [.lit (.bool false)], args := [d] }
  | _ => none }
def FnFreeWrongFalsely : Prop := fnFreeRow.holds Try.pinned (OpenSpec.ofChange fnFreeWrong)

/-- 'laws.FnExactKernelFree': WHATEVER THE INPUT: true; the input reads as it did. -/
def fnExactKernelFreeSpec : ChangeSpec := { name := "fnExactKernelFree", fn := fun _ => fun
  | [d] => { results := [.lit (.bool true)], args := [d] }
  | _ => none }
def fnExactKernelFreeRow : OpenClaim := { program := "ytlpkagcnkaijlaa", sum := "37ed00868b79908230a255ba9ab902f1bab28b93a28fc41eb96a95f579360cf0", func := "loop.example/graphways/laws.FnExactKernelFree", spec := "fnExactKernelFree", unfollowed := true, recurses := true, apart := false }
def FnExactKernelFreeSaid : Prop := fnExactKernelFreeRow.holds Try.pinned (OpenSpec.ofChange fnExactKernelFreeSpec)

/-- ITS FALSE NEIGHBOUR: 'it returns false'. Refute it at one input. -/
def fnExactKernelFreeWrong : ChangeSpec := { name := "fnExactKernelFree", fn := fun _ => fun
  | [d] => { results := [.lit (.bool false)], args := [d] }
  | _ => none }
def FnExactKernelFreeWrongFalsely : Prop := fnExactKernelFreeRow.holds Try.pinned (OpenSpec.ofChange fnExactKernelFreeWrong)

/-- 'laws.FnExactKernelIn': WHATEVER THE INPUT: true; the input reads as it did. -/
def fnExactKernelInSpec : ChangeSpec := { name := "fnExactKernelIn", fn := fun _ => fun
  | [d1, d2, d3] => { results := [.lit (.bool true)], args := [d1, d2, d3] }
  | _ => none }
def fnExactKernelInRow : OpenClaim := { program := "ytlpkagcnkaijlaa", sum := "37ed00868b79908230a255ba9ab902f1bab28b93a28fc41eb96a95f579360cf0", func := "loop.example/graphways/laws.FnExactKernelIn", spec := "fnExactKernelIn", apart := false }
def FnExactKernelInSaid : Prop := fnExactKernelInRow.holds Try.pinned (OpenSpec.ofChange fnExactKernelInSpec)

/-- ITS FALSE NEIGHBOUR: 'it returns false'. Refute it at one input. -/
def fnExactKernelInWrong : ChangeSpec := { name := "fnExactKernelIn", fn := fun _ => fun
  | [d1, d2, d3] => { results := [.lit (.bool false)], args := [d1, d2, d3] }
  | _ => none }
def FnExactKernelInWrongFalsely : Prop := fnExactKernelInRow.holds Try.pinned (OpenSpec.ofChange fnExactKernelInWrong)

/-- 'laws.FnExactPathThree': WHATEVER THE INPUT: true; the input reads as it did. -/
def fnExactPathThreeSpec : ChangeSpec := { name := "fnExactPathThree", fn := fun _ => fun
  | [d1, d2] => { results := [.lit (.bool true)], args := [d1, d2] }
  | _ => none }
def fnExactPathThreeRow : OpenClaim := { program := "ytlpkagcnkaijlaa", sum := "37ed00868b79908230a255ba9ab902f1bab28b93a28fc41eb96a95f579360cf0", func := "loop.example/graphways/laws.FnExactPathThree", spec := "fnExactPathThree", apart := false }
def FnExactPathThreeSaid : Prop := fnExactPathThreeRow.holds Try.pinned (OpenSpec.ofChange fnExactPathThreeSpec)

/-- ITS FALSE NEIGHBOUR: 'it returns false'. Refute it at one input. -/
def fnExactPathThreeWrong : ChangeSpec := { name := "fnExactPathThree", fn := fun _ => fun
  | [d1, d2] => { results := [.lit (.bool false)], args := [d1, d2] }
  | _ => none }
def FnExactPathThreeWrongFalsely : Prop := fnExactPathThreeRow.holds Try.pinned (OpenSpec.ofChange fnExactPathThreeWrong)

/-- 'laws.FnExactPathKings': WHATEVER THE INPUT: true; the input reads as it did. -/
def fnExactPathKingsSpec : ChangeSpec := { name := "fnExactPathKings", fn := fun _ => fun
  | [d1, d2] => { results := [.lit (.bool true)], args := [d1, d2] }
  | _ => none }
def fnExactPathKingsRow : OpenClaim := { program := "ytlpkagcnkaijlaa", sum := "37ed00868b79908230a255ba9ab902f1bab28b93a28fc41eb96a95f579360cf0", func := "loop.example/graphways/laws.FnExactPathKings", spec := "fnExactPathKings", apart := false }
def FnExactPathKingsSaid : Prop := fnExactPathKingsRow.holds Try.pinned (OpenSpec.ofChange fnExactPathKingsSpec)

/-- ITS FALSE NEIGHBOUR: 'it returns false'. Refute it at one input. -/
def fnExactPathKingsWrong : ChangeSpec := { name := "fnExactPathKings", fn := fun _ => fun
  | [d1, d2] => { results := [.lit (.bool false)], args := [d1, d2] }
  | _ => none }
def FnExactPathKingsWrongFalsely : Prop := fnExactPathKingsRow.holds Try.pinned (OpenSpec.ofChange fnExactPathKingsWrong)

/-- 'laws.FnExactPathAll': WHATEVER THE INPUT: true; the input reads as it did. -/
def fnExactPathAllSpec : ChangeSpec := { name := "fnExactPathAll", fn := fun _ => fun
  | [d1, d2] => { results := [.lit (.bool true)], args := [d1, d2] }
  | _ => none }
def fnExactPathAllRow : OpenClaim := { program := "ytlpkagcnkaijlaa", sum := "37ed00868b79908230a255ba9ab902f1bab28b93a28fc41eb96a95f579360cf0", func := "loop.example/graphways/laws.FnExactPathAll", spec := "fnExactPathAll", unfollowed := true, recurses := true, apart := false }
def FnExactPathAllSaid : Prop := fnExactPathAllRow.holds Try.pinned (OpenSpec.ofChange fnExactPathAllSpec)

/-- ITS FALSE NEIGHBOUR: 'it returns false'. Refute it at one input. -/
def fnExactPathAllWrong : ChangeSpec := { name := "fnExactPathAll", fn := fun _ => fun
  | [d1, d2] => { results := [.lit (.bool false)], args := [d1, d2] }
  | _ => none }
def FnExactPathAllWrongFalsely : Prop := fnExactPathAllRow.holds Try.pinned (OpenSpec.ofChange fnExactPathAllWrong)

/-- 'laws.FnExactFlipWhole': WHATEVER THE INPUT: true; the input reads as it did. -/
def fnExactFlipWholeSpec : ChangeSpec := { name := "fnExactFlipWhole", fn := fun _ => fun
  | [d] => { results := [.lit (.bool true)], args := [d] }
  | _ => none }
def fnExactFlipWholeRow : OpenClaim := { program := "ytlpkagcnkaijlaa", sum := "37ed00868b79908230a255ba9ab902f1bab28b93a28fc41eb96a95f579360cf0", func := "loop.example/graphways/laws.FnExactFlipWhole", spec := "fnExactFlipWhole", unfollowed := true, recurses := true, apart := false }
def FnExactFlipWholeSaid : Prop := fnExactFlipWholeRow.holds Try.pinned (OpenSpec.ofChange fnExactFlipWholeSpec)

/-- ITS FALSE NEIGHBOUR: 'it returns false'. Refute it at one input. -/
def fnExactFlipWholeWrong : ChangeSpec := { name := "fnExactFlipWhole", fn := fun _ => fun
  | [d] => { results := [.lit (.bool false)], args := [d] }
  | _ => none }
def FnExactFlipWholeWrongFalsely : Prop := fnExactFlipWholeRow.holds Try.pinned (OpenSpec.ofChange fnExactFlipWholeWrong)

/-- 'laws.FnExactPathLongest': WHATEVER THE INPUT: true; the input reads as it did. -/
def fnExactPathLongestSpec : ChangeSpec := { name := "fnExactPathLongest", fn := fun _ => fun
  | [d1, d2] => { results := [.lit (.bool true)], args := [d1, d2] }
  | _ => none }
def fnExactPathLongestRow : OpenClaim := { program := "ytlpkagcnkaijlaa", sum := "37ed00868b79908230a255ba9ab902f1bab28b93a28fc41eb96a95f579360cf0", func := "loop.example/graphways/laws.FnExactPathLongest", spec := "fnExactPathLongest", unfollowed := true, recurses := true, apart := false }
def FnExactPathLongestSaid : Prop := fnExactPathLongestRow.holds Try.pinned (OpenSpec.ofChange fnExactPathLongestSpec)

/-- ITS FALSE NEIGHBOUR: 'it returns false'. Refute it at one input. -/
def fnExactPathLongestWrong : ChangeSpec := { name := "fnExactPathLongest", fn := fun _ => fun
  | [d1, d2] => { results := [.lit (.bool false)], args := [d1, d2] }
  | _ => none }
def FnExactPathLongestWrongFalsely : Prop := fnExactPathLongestRow.holds Try.pinned (OpenSpec.ofChange fnExactPathLongestWrong)

/-- 'laws.FnExactPathLeast': WHATEVER THE INPUT: true; the input reads as it did. -/
def fnExactPathLeastSpec : ChangeSpec := { name := "fnExactPathLeast", fn := fun _ => fun
  | [d] => { results := [.lit (.bool true)], args := [d] }
  | _ => none }
def fnExactPathLeastRow : OpenClaim := { program := "ytlpkagcnkaijlaa", sum := "37ed00868b79908230a255ba9ab902f1bab28b93a28fc41eb96a95f579360cf0", func := "loop.example/graphways/laws.FnExactPathLeast", spec := "fnExactPathLeast", unfollowed := true, recurses := true, apart := false }
def FnExactPathLeastSaid : Prop := fnExactPathLeastRow.holds Try.pinned (OpenSpec.ofChange fnExactPathLeastSpec)

/-- ITS FALSE NEIGHBOUR: 'it returns false'. Refute it at one input. -/
def fnExactPathLeastWrong : ChangeSpec := { name := "fnExactPathLeast", fn := fun _ => fun
  | [d] => { results := [.lit (.bool false)], args := [d] }
  | _ => none }
def FnExactPathLeastWrongFalsely : Prop := fnExactPathLeastRow.holds Try.pinned (OpenSpec.ofChange fnExactPathLeastWrong)

/-- 'laws.FnFirst': WHATEVER THE INPUT: true; the input reads as it did. -/
def fnFirstSpec : ChangeSpec := { name := "fnFirst", fn := fun _ => fun
  | [d] => { results := [.lit (.bool true)], args := [d] }
  | _ => none }
def fnFirstRow : OpenClaim := { program := "ytlpkagcnkaijlaa", sum := "37ed00868b79908230a255ba9ab902f1bab28b93a28fc41eb96a95f579360cf0", func := "loop.example/graphways/laws.FnFirst", spec := "fnFirst", unfollowed := true, recurses := true, apart := false }
def FnFirstSaid : Prop := fnFirstRow.holds Try.pinned (OpenSpec.ofChange fnFirstSpec)

/-- ITS FALSE NEIGHBOUR: 'it returns false'. Refute it at one input. -/
def fnFirstWrong : ChangeSpec := { name := "fnFirst", fn := fun _ => fun
  | [d] => { results := [.lit (.bool false)], args := [d] }
  | _ => none }
def FnFirstWrongFalsely : Prop := fnFirstRow.holds Try.pinned (OpenSpec.ofChange fnFirstWrong)

/-- 'laws.FnExactKernelMany': WHATEVER THE INPUT: true; the input reads as it did. -/
def fnExactKernelManySpec : ChangeSpec := { name := "fnExactKernelMany", fn := fun _ => fun
  | [d] => { results := [.lit (.bool true)], args := [d] }
  | _ => none }
def fnExactKernelManyRow : OpenClaim := { program := "ytlpkagcnkaijlaa", sum := "37ed00868b79908230a255ba9ab902f1bab28b93a28fc41eb96a95f579360cf0", func := "loop.example/graphways/laws.FnExactKernelMany", spec := "fnExactKernelMany", unfollowed := true, recurses := true, apart := false }
def FnExactKernelManySaid : Prop := fnExactKernelManyRow.holds Try.pinned (OpenSpec.ofChange fnExactKernelManySpec)

/-- ITS FALSE NEIGHBOUR: 'it returns false'. Refute it at one input. -/
def fnExactKernelManyWrong : ChangeSpec := { name := "fnExactKernelMany", fn := fun _ => fun
  | [d] => { results := [.lit (.bool false)], args := [d] }
  | _ => none }
def FnExactKernelManyWrongFalsely : Prop := fnExactKernelManyRow.holds Try.pinned (OpenSpec.ofChange fnExactKernelManyWrong)

/- THE SECOND FORM. 'bulk': how many values and letters a reading holds, each counted each time it is reached (what is shared counts as often as it is met; a slice's spare places count too). A statement '..UptoSaid' is the law's where the arguments, and the package variables that the reading takes, are together of bulk at most 1048576: NARROWER than '..Said'. Prove '..Said' where nothing that the law and all that it calls make is longer than what came in: it says more and counts as full. Else prove '..UptoSaid'. A law counts once. -/
mutual
def uptoBulk {H : Type} : DataW H → Nat
  | .lit (.string bytes) => bytes.length + 1
  | .lit _ => 1
  | .nil => 1
  | .ptr d => uptoBulk d + 1
  | .slice elems spare => uptoBulkAll elems + uptoBulkAll spare + 1
  | .agg parts => uptoBulkAll parts + 1
  | .iface _ d => uptoBulk d + 1
  | .map entries => uptoBulkEntries entries + 1
  | .held _ => 1
def uptoBulkAll {H : Type} : List (DataW H) → Nat
  | [] => 0
  | d :: r => uptoBulk d + uptoBulkAll r
def uptoBulkEntries {H : Type} : List (Lit × DataW H) → Nat
  | [] => 0
  | x :: r => uptoBulkEntry x + uptoBulkEntries r
def uptoBulkEntry {H : Type} : Lit × DataW H → Nat
  | (.string bytes, d) => bytes.length + uptoBulk d + 1
  | (_, d) => uptoBulk d + 1
 end
def uptoSmall : (H : Type) → List (DataW H) → Bool := fun _ ds => decide (uptoBulkAll ds ≤ 1048576)
def OpenSpec.upto (s : _root_.Go.ChangeSpec) : _root_.Go.OpenSpec := { _root_.Go.OpenSpec.ofChange s with cond := some uptoSmall }

/-- 'laws.FnExactPathWhole', WHERE WHAT IT READS IS OF BULK AT MOST 1048576: true; the input reads as it did. -/
def fnExactPathWholeUptoRow : OpenClaim := { program := "ytlpkagcnkaijlaa", sum := "37ed00868b79908230a255ba9ab902f1bab28b93a28fc41eb96a95f579360cf0", func := "loop.example/graphways/laws.FnExactPathWhole", spec := "fnExactPathWhole", apart := false, narrowed := true }
def FnExactPathWholeUptoSaid : Prop := fnExactPathWholeUptoRow.holds Try.pinned (OpenSpec.upto fnExactPathWholeSpec)

/-- 'laws.FnFree', WHERE WHAT IT READS IS OF BULK AT MOST 1048576: true; the input reads as it did. -/
def fnFreeUptoRow : OpenClaim := { program := "ytlpkagcnkaijlaa", sum := "37ed00868b79908230a255ba9ab902f1bab28b93a28fc41eb96a95f579360cf0", func := "loop.example/graphways/laws.FnFree", spec := "fnFree", unfollowed := true, recurses := true, apart := false, narrowed := true }
def FnFreeUptoSaid : Prop := fnFreeUptoRow.holds Try.pinned (OpenSpec.upto fnFreeSpec)

/-- 'laws.FnExactKernelFree', WHERE WHAT IT READS IS OF BULK AT MOST 1048576: true; the input reads as it did. -/
def fnExactKernelFreeUptoRow : OpenClaim := { program := "ytlpkagcnkaijlaa", sum := "37ed00868b79908230a255ba9ab902f1bab28b93a28fc41eb96a95f579360cf0", func := "loop.example/graphways/laws.FnExactKernelFree", spec := "fnExactKernelFree", unfollowed := true, recurses := true, apart := false, narrowed := true }
def FnExactKernelFreeUptoSaid : Prop := fnExactKernelFreeUptoRow.holds Try.pinned (OpenSpec.upto fnExactKernelFreeSpec)

/-- 'laws.FnExactKernelIn', WHERE WHAT IT READS IS OF BULK AT MOST 1048576: true; the input reads as it did. -/
def fnExactKernelInUptoRow : OpenClaim := { program := "ytlpkagcnkaijlaa", sum := "37ed00868b79908230a255ba9ab902f1bab28b93a28fc41eb96a95f579360cf0", func := "loop.example/graphways/laws.FnExactKernelIn", spec := "fnExactKernelIn", apart := false, narrowed := true }
def FnExactKernelInUptoSaid : Prop := fnExactKernelInUptoRow.holds Try.pinned (OpenSpec.upto fnExactKernelInSpec)

/-- 'laws.FnExactPathThree', WHERE WHAT IT READS IS OF BULK AT MOST 1048576: true; the input reads as it did. -/
def fnExactPathThreeUptoRow : OpenClaim := { program := "ytlpkagcnkaijlaa", sum := "37ed00868b79908230a255ba9ab902f1bab28b93a28fc41eb96a95f579360cf0", func := "loop.example/graphways/laws.FnExactPathThree", spec := "fnExactPathThree", apart := false, narrowed := true }
def FnExactPathThreeUptoSaid : Prop := fnExactPathThreeUptoRow.holds Try.pinned (OpenSpec.upto fnExactPathThreeSpec)

/-- 'laws.FnExactPathKings', WHERE WHAT IT READS IS OF BULK AT MOST 1048576: true; the input reads as it did. -/
def fnExactPathKingsUptoRow : OpenClaim := { program := "ytlpkagcnkaijlaa", sum := "37ed00868b79908230a255ba9ab902f1bab28b93a28fc41eb96a95f579360cf0", func := "loop.example/graphways/laws.FnExactPathKings", spec := "fnExactPathKings", apart := false, narrowed := true }
def FnExactPathKingsUptoSaid : Prop := fnExactPathKingsUptoRow.holds Try.pinned (OpenSpec.upto fnExactPathKingsSpec)

/-- 'laws.FnExactPathAll', WHERE WHAT IT READS IS OF BULK AT MOST 1048576: true; the input reads as it did. -/
def fnExactPathAllUptoRow : OpenClaim := { program := "ytlpkagcnkaijlaa", sum := "37ed00868b79908230a255ba9ab902f1bab28b93a28fc41eb96a95f579360cf0", func := "loop.example/graphways/laws.FnExactPathAll", spec := "fnExactPathAll", unfollowed := true, recurses := true, apart := false, narrowed := true }
def FnExactPathAllUptoSaid : Prop := fnExactPathAllUptoRow.holds Try.pinned (OpenSpec.upto fnExactPathAllSpec)

/-- 'laws.FnExactFlipWhole', WHERE WHAT IT READS IS OF BULK AT MOST 1048576: true; the input reads as it did. -/
def fnExactFlipWholeUptoRow : OpenClaim := { program := "ytlpkagcnkaijlaa", sum := "37ed00868b79908230a255ba9ab902f1bab28b93a28fc41eb96a95f579360cf0", func := "loop.example/graphways/laws.FnExactFlipWhole", spec := "fnExactFlipWhole", unfollowed := true, recurses := true, apart := false, narrowed := true }
def FnExactFlipWholeUptoSaid : Prop := fnExactFlipWholeUptoRow.holds Try.pinned (OpenSpec.upto fnExactFlipWholeSpec)

/-- 'laws.FnExactPathLongest', WHERE WHAT IT READS IS OF BULK AT MOST 1048576: true; the input reads as it did. -/
def fnExactPathLongestUptoRow : OpenClaim := { program := "ytlpkagcnkaijlaa", sum := "37ed00868b79908230a255ba9ab902f1bab28b93a28fc41eb96a95f579360cf0", func := "loop.example/graphways/laws.FnExactPathLongest", spec := "fnExactPathLongest", unfollowed := true, recurses := true, apart := false, narrowed := true }
def FnExactPathLongestUptoSaid : Prop := fnExactPathLongestUptoRow.holds Try.pinned (OpenSpec.upto fnExactPathLongestSpec)

/-- 'laws.FnExactPathLeast', WHERE WHAT IT READS IS OF BULK AT MOST 1048576: true; the input reads as it did. -/
def fnExactPathLeastUptoRow : OpenClaim := { program := "ytlpkagcnkaijlaa", sum := "37ed00868b79908230a255ba9ab902f1bab28b93a28fc41eb96a95f579360cf0", func := "loop.example/graphways/laws.FnExactPathLeast", spec := "fnExactPathLeast", unfollowed := true, recurses := true, apart := false, narrowed := true }
def FnExactPathLeastUptoSaid : Prop := fnExactPathLeastUptoRow.holds Try.pinned (OpenSpec.upto fnExactPathLeastSpec)

/-- 'laws.FnFirst', WHERE WHAT IT READS IS OF BULK AT MOST 1048576: true; the input reads as it did. -/
def fnFirstUptoRow : OpenClaim := { program := "ytlpkagcnkaijlaa", sum := "37ed00868b79908230a255ba9ab902f1bab28b93a28fc41eb96a95f579360cf0", func := "loop.example/graphways/laws.FnFirst", spec := "fnFirst", unfollowed := true, recurses := true, apart := false, narrowed := true }
def FnFirstUptoSaid : Prop := fnFirstUptoRow.holds Try.pinned (OpenSpec.upto fnFirstSpec)

/-- 'laws.FnExactKernelMany', WHERE WHAT IT READS IS OF BULK AT MOST 1048576: true; the input reads as it did. -/
def fnExactKernelManyUptoRow : OpenClaim := { program := "ytlpkagcnkaijlaa", sum := "37ed00868b79908230a255ba9ab902f1bab28b93a28fc41eb96a95f579360cf0", func := "loop.example/graphways/laws.FnExactKernelMany", spec := "fnExactKernelMany", unfollowed := true, recurses := true, apart := false, narrowed := true }
def FnExactKernelManyUptoSaid : Prop := fnExactKernelManyUptoRow.holds Try.pinned (OpenSpec.upto fnExactKernelManySpec)

end Rows
end Go.Proofs.Ytlpkagcnkaijlaa
