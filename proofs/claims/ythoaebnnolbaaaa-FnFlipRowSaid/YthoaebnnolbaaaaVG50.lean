/- For each Go function named below: a plain Lean function of the same name, and the proof that a call of the Go function returns just what the plain function tells, where it tells something. Written by a program of this session with the printer of the kit. -/
import Derived.Test.YthoaebnnolbaaaaVG0
import Derived.Test.YthoaebnnolbaaaaVG6
import Derived.Test.YthoaebnnolbaaaaVG9
import Derived.Test.YthoaebnnolbaaaaVG14
import Derived.Test.YthoaebnnolbaaaaVG16
namespace Go.Proofs.Ythoaebnnolbaaaa.G
open Go.RowKit Go.Proofs.YthoaebnnolbaaaaW.PrintWords Go.Proofs.YthoaebnnolbaaaaW.PrintLast Go.Proofs.YthoaebnnolbaaaaW.PrintMore
attribute [local go_sem] max2_int min2_int max_two min_two max_three min_three max_four min_four   -- for this text's walks alone
set_option linter.unusedVariables false
set_option linter.unusedSimpArgs false

/-! ### impl_ScoreMany: function 43 -/
/-- What the closure of ScoreMany asks of a direction. -/
def impl_rowP.f (k : Nat) (a0_0 : Int) (l0_1 : List (S69)) (row : List Int) (x : Int) : Option Bool := (impl_outOf.f k a0_0 l0_1 x).bind fun l => slices_Equal_int_int.f k l row
theorem impl_rowP.mono (a0 : Int) (a1 : List (S69)) (row : List Int) (x : Int) (k : Nat) : LeO (impl_rowP.f k a0 a1 row x) (impl_rowP.f (k + 1) a0 a1 row x) := by
 unfold impl_rowP.f
 exact LeO.bind (impl_outOf.mono _ _ _ _) fun _ => slices_Equal_int_int.mono _ _ _
set_option maxHeartbeats 8000000 in
set_option maxRecDepth 100000 in
theorem impl_ScoreMany_1.calls (k : Nat) (gb gp : Nat) (a0_0 : Int) (A0_1 : Option Addr) (c0_1 : Nat) (l0_1 : List (S69)) (A2 : Option Addr) (c2 : Nat) (row : List Int) (x : Int) (t : Bool) (w : World) (bk : w.heap[gb]? = some (.cells #[.int .i64 a0_0, .slice A0_1 l0_1.length c0_1] 25 (0, 0)))
  (bp : w.heap[gp]? = some (.cells #[.slice A2 row.length c2] 30 (0, 0))) (hr0_1 : Kd.C k69 w A0_1 l0_1.length l0_1) (hc0_1 : l0_1.length ≤ c0_1) (hr2 : Kd.C (Kd.int .i64) w A2 row.length row) (hc2 : row.length ≤ c2) (h : impl_rowP.f k a0_0 l0_1 row x = some t) :
  Calls Try.prog 88 #[.int .i64 x, .pointer (some ⟨gb, 0, none⟩), .pointer (some ⟨gp, 0, none⟩)] w fun e w' => e = .returned (.bool t) ∧ Below w.heap.size w w' := by
 have hu := Try.underlying25; have HR := Aside0.mk hr0_1; have HC := Aside0.mk hc0_1; have HR2 := Aside0.mk hr2; have HC2 := Aside0.mk hc2; have HBP := Aside0.mk bp; clear hr0_1 hc0_1 hr2 hc2; have hcz_0 : w.cell? ⟨gb, 0, none⟩ = some (.int .i64 a0_0) := (blk_cell bk 0).trans rfl; have hcz_1 : w.cell? ⟨gb, 1, none⟩ = some (.slice A0_1 l0_1.length c0_1) := (blk_cell bk 1).trans rfl; have hcp : w.cell? ⟨gp, 0, none⟩ = some (.slice A2 row.length c2) := (blk_cell bp 0).trans rfl; clear bk bp
 unfold impl_rowP.f at h
 obtain ⟨l, A1, h⟩ := Option.bind_eq_some_iff.mp h; have A1' := Aside0.mk A1; have H := Aside0.mk h; clear A1 h
 go_enter Try.func88, Try.ntmps88
 go_wp2
 go_region_with (first | (go_at_call 49; refine (impl_outOf.calls k a0_0 _ _ l0_1 x l w.drew (Kd.C_drew HR.out) HC.out A1'.out).mono ?_; rintro e w1 ⟨v, rfl, ho, hb⟩; have HB1 := Aside0.mk (below_step (below_drew1 (Below.refl w.heap.size w)) hb); have HO := Aside0.mk ho; clear hb ho; obtain ⟨A3, c3, hv⟩ := Kd.R_slice HO.out; subst hv; have hcp1 : w1.cell? ⟨gp, 0, none⟩ = some (.slice A2 row.length c2) := (blk_cell (blk_below HBP.out HB1.out) 0).trans rfl) | (go_at_call 59; refine (slices_Equal_int_int.calls k A3 c3 l A2 c2 row t _ (Kd.R_reads' HO.out).2.2 (Kd.R_reads' HO.out).2.1 (Kd.C_below HR2.out HB1.out) HC2.out H.out).mono ?_; rintro e w2 ⟨rfl, ⟨nd, rfl⟩⟩; have HB2 := Aside0.mk (pw_below_drewN HB1.out nd)))
 all_goals go_wp2
 all_goals go_ret
 all_goals exact ⟨rfl, HB2.out⟩
def impl_ScoreMany.f (k : Nat) (a0_0 : Int) (l0_1 : List (S69)) (a1 : Int) : Option (Int × Bool) := (impl_WayIn.f k a0_0 l0_1 a1).bind fun b => (if b = true then ((impl_outOf.f k a0_0 l0_1 a1).bind fun row => (impl_count.f k (fun j x => impl_rowP.f j a0_0 l0_1 row x) (shl .i64 1 (l0_1.length : Int))).bind fun n => some (n, true)) else (some (0, false)))
set_option maxHeartbeats 8000000 in
set_option maxRecDepth 100000 in
theorem impl_ScoreMany.calls (k : Nat) (a0_0 : Int) (A0_1 : Option Addr) (c0_1 : Nat) (l0_1 : List (S69)) (a1 : Int) (r1 : Int) (r2 : Bool) (w : World) (hr0_1 : Kd.C k69 w A0_1 l0_1.length l0_1) (hc0_1 : l0_1.length ≤ c0_1) (h : impl_ScoreMany.f k a0_0 l0_1 a1 = some (r1, r2)) :
  Calls Try.prog 43 #[.agg #[.int .i64 a0_0, .slice A0_1 l0_1.length c0_1], .int .i64 a1] w fun e w' => e = .returned (.tuple #[.int .i64 r1, .bool r2]) ∧ Below w.heap.size w w' := by
 have hu := Try.underlying25; have hmf : ∀ (fn : Fn) (first cap : Array Value) (w : World), (Instr.makeFunc fn first cap).run Try.prog w = .ok (.func fn first cap) w := fun _ _ _ _ => rfl; have HR := Aside0.mk hr0_1; have HC := Aside0.mk hc0_1; have hb0 : Below w.heap.size w (w.alloc (.cells #[.int .i64 a0_0, .slice A0_1 l0_1.length c0_1] 25)) := (Below.refl _ _).alloc (Nat.le_refl _) _; have hbk : (w.alloc (.cells #[.int .i64 a0_0, .slice A0_1 l0_1.length c0_1] 25)).heap[w.heap.size]? = some (.cells #[.int .i64 a0_0, .slice A0_1 l0_1.length c0_1] 25 (0, 0)) := heap_alloc_new w _; have HB0 := Aside0.mk hb0; have HBK := Aside0.mk hbk; clear hb0 hbk; clear hr0_1 hc0_1
 unfold impl_ScoreMany.f at h
 obtain ⟨t, A1, h⟩ := Option.bind_eq_some_iff.mp h; have A1' := Aside0.mk A1; clear A1
 cases t with
 | false =>
  have h1 : r1 = 0 ∧ r2 = false := by simpa [eq_comm] using h
  obtain ⟨rfl, rfl⟩ := h1; clear h
  go_enter Try.func43, Try.ntmps43
  go_wp2_with fail
  refine (impl_WayIn.calls k a0_0 _ _ l0_1 a1 false _ (Kd.C_below HR.out HB0.out) HC.out A1'.out).mono ?_
  rintro e w1 ⟨rfl, hb1⟩
  have HB1 := Aside0.mk (below_step HB0.out hb1); clear hb1
  go_wp2
  go_ret2
  exact ⟨rfl, HB1.out⟩
 | true =>
  obtain ⟨row, A3, h⟩ := Option.bind_eq_some_iff.mp (show ((impl_outOf.f k a0_0 l0_1 a1).bind fun row => (impl_count.f k (fun j x => impl_rowP.f j a0_0 l0_1 row x) (shl .i64 1 (l0_1.length : Int))).bind fun n => some (n, true)) = some (r1, r2) from h); obtain ⟨n, A2, h⟩ := Option.bind_eq_some_iff.mp h; have h1 : n = r1 ∧ true = r2 := by simpa using h
  obtain ⟨rfl, rfl⟩ := h1; clear h; have A2' := Aside0.mk A2; have A3' := Aside0.mk A3; clear A2 A3
  go_enter Try.func43, Try.ntmps43
  go_wp2_with fail
  refine (impl_WayIn.calls k a0_0 _ _ l0_1 a1 true _ (Kd.C_below HR.out HB0.out) HC.out A1'.out).mono ?_
  rintro e w1 ⟨rfl, hb1⟩
  have HB1 := Aside0.mk (below_step HB0.out hb1); have HBK1 := Aside0.mk (blk_below HBK.out hb1); clear hb1; have hcz_0 : w1.cell? ⟨w.heap.size, 0, none⟩ = some (.int .i64 a0_0) := (blk_cell HBK1.out 0).trans rfl; have hcz_1 : w1.cell? ⟨w.heap.size, 1, none⟩ = some (.slice A0_1 l0_1.length c0_1) := (blk_cell HBK1.out 1).trans rfl
  go_wp2_with fail
  refine (impl_outOf.calls k a0_0 _ _ l0_1 a1 row _ (Kd.C_below HR.out HB1.out) HC.out A3'.out).mono ?_
  rintro e w2 ⟨v, rfl, ho, hb2⟩
  have HB2 := Aside0.mk (below_step HB1.out hb2); have HBK2 := Aside0.mk (blk_below HBK1.out hb2); have HO := Aside0.mk ho; clear hb2 ho hcz_0 hcz_1; obtain ⟨A3, c3, hv⟩ := Kd.R_slice HO.out; subst hv; have hlt := blk_lt HBK2.out; have hcz_0 : w2.cell? ⟨w.heap.size, 0, none⟩ = some (.int .i64 a0_0) := (blk_cell HBK2.out 0).trans rfl; have hcz_1 : w2.cell? ⟨w.heap.size, 1, none⟩ = some (.slice A0_1 l0_1.length c0_1) := (blk_cell HBK2.out 1).trans rfl
  go_wp2_with fail
  have e9 : wrap64 (2 ^ min l0_1.length 64) = shl .i64 1 (l0_1.length : Int) := by unfold shl; rw [i64_w, Int.one_mul]; rfl
  rw [e9]
  clear e9; have HB3 := Aside0.mk (below_alloc HB2.out (.cells #[.slice A3 row.length c3] 30)); have HBK3 := Aside0.mk (blk_alloc HBK2.out (.cells #[.slice A3 row.length c3] 30)); have HBP3 := Aside0.mk (heap_alloc_new w2 (.cells #[.slice A3 row.length c3] 30)); have HRR := Aside0.mk (Kd.C_below (Kd.R_reads' HO.out).2.2 (below_alloc (Below.refl w2.heap.size w2) (.cells #[.slice A3 row.length c3] 30)))
  refine (impl_count.calls k (fun j x => impl_rowP.f j a0_0 l0_1 row x) 88 Try.f88 #[.pointer (some ⟨w.heap.size, 0, none⟩), .pointer (some ⟨w2.heap.size, 0, none⟩)] _ n _ Try.func88 (by kernel_rfl) rfl ?hp A2'.out).mono ?_
  case hp =>
   intro j x t W hx _ hW
   exact impl_ScoreMany_1.calls j w.heap.size w2.heap.size a0_0 A0_1 c0_1 l0_1 A3 c3 row x t W (blk_below HBK3.out hW) (blk_below HBP3.out hW) (Kd.C_below (Kd.C_below HR.out HB3.out) hW) HC.out (Kd.C_below HRR.out hW) (Kd.R_reads' HO.out).2.1 hx
  rintro e w3 ⟨rfl, hb3⟩
  have HB4 := Aside0.mk (below_step HB3.out hb3); clear hb3
  go_wp2
  go_ret2
  exact ⟨rfl, HB4.out⟩

end Go.Proofs.Ythoaebnnolbaaaa.G
