/- For each Go function named below: a plain Lean function of the same name, and the proof that a call of the Go function returns just what the plain function tells, where it tells something. Written by a program of this session with the printer of the kit. -/
import Derived.Test.YthoaebnnolbaaaaVG0
namespace Go.Proofs.Ythoaebnnolbaaaa.G
open Go.RowKit Go.Proofs.YthoaebnnolbaaaaW.PrintWords Go.Proofs.YthoaebnnolbaaaaW.PrintLast Go.Proofs.YthoaebnnolbaaaaW.PrintMore
attribute [local go_sem] max2_int min2_int max_two min_two max_three min_three max_four min_four   -- for this text's walks alone
set_option linter.unusedVariables false
set_option linter.unusedSimpArgs false

/-! ### impl_spread: function 75 -/
/-- What is captured, the marks and the list. -/
structure SpEnv (W0 : World) (bg bk : Nat) (n : Int) (A0 : Option Addr) (len0 c0 : Nat) (kind : ByteArray) (vs : Value) (ls : List Bool) (vl : Value) (ll : List Int) (w : World) : Prop where
 below : Below W0.heap.size W0 w
 g : w.heap[bg]? = some (.cells #[.int .i64 n, .slice A0 len0 c0] 25 (0, 0))
 k : w.heap[bk]? = some (.cells #[.string kind] 9 (0, 0))
 s : Kd.R Kd.bool 4 w W0.heap.size (fun _ => True) vs ls
 l : Kd.R (Kd.int .i64) 3 w W0.heap.size (fun _ => True) vl ll
theorem SpEnv.next {W0 : World} {bg bk : Nat} {n : Int} {A0 : Option Addr} {len0 c0 : Nat} {kind : ByteArray} {vs : Value} {ls : List Bool} {vl : Value} {ll : List Int} {w w1 : World} (h : SpEnv W0 bg bk n A0 len0 c0 kind vs ls vl ll w) (hb : Below w.heap.size w w1) : SpEnv W0 bg bk n A0 len0 c0 kind vs ls vl ll w1 :=
 ⟨below_step h.below hb, blk_below h.g hb, blk_below h.k hb, Kd.R_below h.s hb, Kd.R_below h.l hb⟩
end Go.Proofs.Ythoaebnnolbaaaa.G
