/- For each Go function named below: a plain Lean function of the same name, and the proof that a call of the Go function returns just what the plain function tells, where it tells something. Written by a program of this session with the printer of the kit. -/
import Derived.Test.YthoaebnnolbaaaaVG0
import Derived.Test.YthoaebnnolbaaaaVG11
import Derived.Test.YthoaebnnolbaaaaVG13
import Derived.Test.YthoaebnnolbaaaaVG1
import Derived.Test.YthoaebnnolbaaaaVG3
namespace Go.Proofs.Ythoaebnnolbaaaa.G
open Go.RowKit Go.Proofs.YthoaebnnolbaaaaW.PrintWords Go.Proofs.YthoaebnnolbaaaaW.PrintLast Go.Proofs.YthoaebnnolbaaaaW.PrintMore
attribute [local go_sem] max2_int min2_int max_two min_two max_three min_three max_four min_four   -- for this text's walks alone
set_option linter.unusedVariables false
set_option linter.unusedSimpArgs false

/-! ### impl_ScoreTrees: function 46 -/
/-- What the closure of ScoreTrees asks of a set of edges. -/
def impl_treeP.f (k : Nat) (a0_0 : Int) (l0_1 : List (S69)) (parts x : Int) : Option Bool := (impl_isForest.f k a0_0 l0_1 x).bind fun t => if t = true then ((impl_partsBy.f k a0_0 l0_1 x).bind fun q => some (q == parts)) else some false
theorem impl_treeP.mono (a0 : Int) (a1 : List (S69)) (p x : Int) (k : Nat) : LeO (impl_treeP.f k a0 a1 p x) (impl_treeP.f (k + 1) a0 a1 p x) := by
 unfold impl_treeP.f
 exact LeO.bind (impl_isForest.mono _ _ _ _) fun _ => LeO.ite (LeO.bind (impl_partsBy.mono _ _ _ _) fun _ => LeO.refl _) (LeO.refl _)
set_option maxHeartbeats 8000000 in
set_option maxRecDepth 100000 in
theorem impl_ScoreTrees_1.calls (k : Nat) (gb gp : Nat) (a0_0 : Int) (A0_1 : Option Addr) (c0_1 : Nat) (l0_1 : List (S69)) (parts x : Int) (t : Bool) (w : World) (bk : w.heap[gb]? = some (.cells #[.int .i64 a0_0, .slice A0_1 l0_1.length c0_1] 25 (0, 0)))
  (bp : w.heap[gp]? = some (.cells #[.int .i64 parts] 3 (0, 0))) (hr0_1 : Kd.C k69 w A0_1 l0_1.length l0_1) (hc0_1 : l0_1.length ≤ c0_1) (h : impl_treeP.f k a0_0 l0_1 parts x = some t) :
  Calls Try.prog 92 #[.int .i64 x, .pointer (some ⟨gb, 0, none⟩), .pointer (some ⟨gp, 0, none⟩)] w fun e w' => e = .returned (.bool t) ∧ Below w.heap.size w w' := by
 have hu := Try.underlying25; have HR := Aside0.mk hr0_1; have HC := Aside0.mk hc0_1; have HBP := Aside0.mk bp; have HBK := Aside0.mk bk; clear hr0_1 hc0_1; have hcz_0 : w.cell? ⟨gb, 0, none⟩ = some (.int .i64 a0_0) := (blk_cell bk 0).trans rfl; have hcz_1 : w.cell? ⟨gb, 1, none⟩ = some (.slice A0_1 l0_1.length c0_1) := (blk_cell bk 1).trans rfl; clear bk bp
 unfold impl_treeP.f at h
 obtain ⟨q, A1, h⟩ := Option.bind_eq_some_iff.mp h; have A1' := Aside0.mk A1; clear A1
 cases q with
 | false =>
  have h1 : false = t := by simpa using h
  subst h1; clear h
  go_enter Try.func92, Try.ntmps92
  go_wp2
  first | go_region_with (go_at_call 55; refine (impl_isForest.calls k a0_0 _ _ l0_1 x false w.drew (Kd.C_drew HR.out) HC.out A1'.out).mono ?_; rintro e w1 ⟨rfl, hb⟩; have HB1 := Aside0.mk (below_step (below_drew1 (Below.refl w.heap.size w)) hb); clear hb) | fail "region"
  all_goals go_wp2
  all_goals go_ret
  all_goals exact ⟨rfl, HB1.out⟩
 | true =>
  obtain ⟨p, A2, h⟩ := Option.bind_eq_some_iff.mp (show ((impl_partsBy.f k a0_0 l0_1 x).bind fun q => some (q == parts)) = some t from h); have h1 : (p == parts) = t := by simpa using h
  subst h1; clear h; have A2' := Aside0.mk A2; clear A2
  go_enter Try.func92, Try.ntmps92
  go_wp2
  go_region_with (first | (go_at_call 55; refine (impl_isForest.calls k a0_0 _ _ l0_1 x true w.drew (Kd.C_drew HR.out) HC.out A1'.out).mono ?_; rintro e w1 ⟨rfl, hb⟩; have HB1 := Aside0.mk (below_step (below_drew1 (Below.refl w.heap.size w)) hb); clear hb; have hcy_0 : w1.cell? ⟨gb, 0, none⟩ = some (.int .i64 a0_0) := (blk_cell (blk_below HBK.out HB1.out) 0).trans rfl; have hcy_1 : w1.cell? ⟨gb, 1, none⟩ = some (.slice A0_1 l0_1.length c0_1) := (blk_cell (blk_below HBK.out HB1.out) 1).trans rfl; have hcp1 : w1.cell? ⟨gp, 0, none⟩ = some (.int .i64 parts) := (blk_cell (blk_below HBP.out HB1.out) 0).trans rfl) | (go_at_call 91; refine (impl_partsBy.calls k a0_0 _ _ l0_1 x p _ (Kd.C_below HR.out HB1.out) HC.out A2'.out).mono ?_; rintro e w2 ⟨rfl, hb⟩; have HB2 := Aside0.mk (below_step HB1.out hb); clear hb; have hcp2 : w2.cell? ⟨gp, 0, none⟩ = some (.int .i64 parts) := (blk_cell (blk_below HBP.out HB2.out) 0).trans rfl))
  all_goals go_wp2
  all_goals go_ret
  all_goals exact ⟨rfl, HB2.out⟩
end Go.Proofs.Ythoaebnnolbaaaa.G
