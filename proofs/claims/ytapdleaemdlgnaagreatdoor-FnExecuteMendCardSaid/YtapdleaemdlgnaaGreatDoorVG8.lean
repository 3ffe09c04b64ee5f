/- For each Go function named below: a plain Lean function of the same name, and the proof that a call of the Go function returns just what the plain function tells, where it tells something. Written by a program of this session with the printer of the kit. -/
import Derived.Test.YtapdleaemdlgnaaGreatDoorVG0
import Derived.Test.YtapdleaemdlgnaaGreatDoorVG5
import Derived.Test.YtapdleaemdlgnaaGreatDoorVG6
import Derived.Test.YtapdleaemdlgnaaGreatDoorVG7
namespace Go.Proofs.YtapdleaemdlgnaaGreatDoor.G
open Go.RowKit Go.Proofs.YtapdleaemdlgnaaGreatDoorW.PrintWords Go.Proofs.YtapdleaemdlgnaaGreatDoorW.PrintLast Go.Proofs.YtapdleaemdlgnaaGreatDoorW.PrintMore
attribute [local go_sem] max2_int min2_int max_two min_two max_three min_three max_four min_four   -- for this text's walks alone
set_option linter.unusedVariables false
set_option linter.unusedSimpArgs false

/-! ### impl_PlainCount: function 15 -/
set_option maxHeartbeats 8000000 in
set_option maxRecDepth 100000 in
theorem impl_PlainCount_1.calls (k : Nat) (gb : Nat) (a0_0 : Int) (A0_1 : Option Addr) (c0_1 : Nat) (l0_1 : List (S44)) (x : Int) (t : Bool) (w : World) (bk : w.heap[gb]? = some (.cells #[.int .i64 a0_0, .slice A0_1 l0_1.length c0_1] 28 (0, 0)))
  (hr0_1 : Kd.C k44 w A0_1 l0_1.length l0_1) (hc0_1 : l0_1.length ≤ c0_1) (h : impl_isPlain.f k a0_0 l0_1 x = some t) :
  Calls Tryz.prog 36 #[.int .i64 x, .pointer (some ⟨gb, 0, none⟩)] w fun e w' => e = .returned (.bool t) ∧ Below w.heap.size w w' := by
 have hu := Tryz.underlying28; have H := Aside0.mk h; have HR := Aside0.mk hr0_1; have HC := Aside0.mk hc0_1; clear h hr0_1 hc0_1; have hcz_0 : w.cell? ⟨gb, 0, none⟩ = some (.int .i64 a0_0) := (blk_cell bk 0).trans rfl; have hcz_1 : w.cell? ⟨gb, 1, none⟩ = some (.slice A0_1 l0_1.length c0_1) := (blk_cell bk 1).trans rfl; clear bk
 go_enter Tryz.func36, Tryz.ntmps36
 go_wp2_with fail
 refine (impl_isPlain.calls k a0_0 _ _ l0_1 x t _ HR.out HC.out H.out).mono ?_
 rintro e w1 ⟨rfl, hb⟩
 go_wp2
 go_ret
 exact ⟨rfl, hb⟩
def impl_PlainCount.f (k : Nat) (a0_0 : Int) (l0_1 : List (S44)) : Option (Int × Bool) := (impl_WayGraph.f k a0_0 l0_1).bind fun t => (if t = true then ((impl_count.f k (fun j x => impl_isPlain.f j a0_0 l0_1 x) (shl .i64 1 (l0_1.length : Int))).bind fun n => some (n, true)) else (some (0, false)))
set_option maxHeartbeats 8000000 in
set_option maxRecDepth 100000 in
theorem impl_PlainCount.calls (k : Nat) (a0_0 : Int) (A0_1 : Option Addr) (c0_1 : Nat) (l0_1 : List (S44)) (r1 : Int) (r2 : Bool) (w : World) (hr0_1 : Kd.C k44 w A0_1 l0_1.length l0_1) (hc0_1 : l0_1.length ≤ c0_1) (h : impl_PlainCount.f k a0_0 l0_1 = some (r1, r2)) :
  Calls Tryz.prog 15 #[.agg #[.int .i64 a0_0, .slice A0_1 l0_1.length c0_1]] w fun e w' => e = .returned (.tuple #[.int .i64 r1, .bool r2]) ∧ Below w.heap.size w w' := by
 have hu := Tryz.underlying28; have hmf : ∀ (fn : Fn) (first cap : Array Value) (w : World), (Instr.makeFunc fn first cap).run Tryz.prog w = .ok (.func fn first cap) w := fun _ _ _ _ => rfl; have HR := Aside0.mk hr0_1; have HC := Aside0.mk hc0_1; have hb0 : Below w.heap.size w (w.alloc (.cells #[.int .i64 a0_0, .slice A0_1 l0_1.length c0_1] 28)) := (Below.refl _ _).alloc (Nat.le_refl _) _; have hbk : (w.alloc (.cells #[.int .i64 a0_0, .slice A0_1 l0_1.length c0_1] 28)).heap[w.heap.size]? = some (.cells #[.int .i64 a0_0, .slice A0_1 l0_1.length c0_1] 28 (0, 0)) := heap_alloc_new w _; have HB0 := Aside0.mk hb0; have HBK := Aside0.mk hbk; clear hb0 hbk; clear hr0_1 hc0_1
 unfold impl_PlainCount.f at h
 obtain ⟨t, A1, h⟩ := Option.bind_eq_some_iff.mp h; have A1' := Aside0.mk A1; clear A1
 cases t with
 | false =>
  have h1 : r1 = 0 ∧ r2 = false := by simpa [eq_comm] using h
  obtain ⟨rfl, rfl⟩ := h1; clear h
  go_enter Tryz.func15, Tryz.ntmps15
  go_wp2_with fail
  refine (impl_WayGraph.calls k a0_0 _ _ l0_1 false _ (Kd.C_below HR.out HB0.out) HC.out A1'.out).mono ?_
  rintro e w1 ⟨rfl, hb1⟩
  have HB1 := Aside0.mk (below_step HB0.out hb1); clear hb1
  go_wp2
  go_ret2
  exact ⟨rfl, HB1.out⟩
 | true =>
  obtain ⟨n, A2, h⟩ := Option.bind_eq_some_iff.mp (show (((impl_count.f k (fun j x => impl_isPlain.f j a0_0 l0_1 x) (shl .i64 1 (l0_1.length : Int))).bind fun n => some (n, true)) = some (r1, r2)) from h); have h1 : n = r1 ∧ true = r2 := by simpa using h
  obtain ⟨rfl, rfl⟩ := h1; clear h; have A2' := Aside0.mk A2; clear A2
  go_enter Tryz.func15, Tryz.ntmps15
  go_wp2_with fail
  refine (impl_WayGraph.calls k a0_0 _ _ l0_1 true _ (Kd.C_below HR.out HB0.out) HC.out A1'.out).mono ?_
  rintro e w1 ⟨rfl, hb1⟩
  have HB1 := Aside0.mk (below_step HB0.out hb1); have HBK1 := Aside0.mk (blk_below HBK.out hb1); clear hb1; have hcz_0 : w1.cell? ⟨w.heap.size, 0, none⟩ = some (.int .i64 a0_0) := (blk_cell HBK1.out 0).trans rfl; have hcz_1 : w1.cell? ⟨w.heap.size, 1, none⟩ = some (.slice A0_1 l0_1.length c0_1) := (blk_cell HBK1.out 1).trans rfl
  go_wp2_with fail
  have e9 : wrap64 (2 ^ min l0_1.length 64) = shl .i64 1 (l0_1.length : Int) := by unfold shl; rw [i64_w, Int.one_mul]; rfl
  rw [e9]
  clear e9
  refine (impl_count.calls k (fun j x => impl_isPlain.f j a0_0 l0_1 x) 36 Tryz.f36 #[.pointer (some ⟨w.heap.size, 0, none⟩)] _ n w1 Tryz.func36 (by kernel_rfl) rfl ?hp A2'.out).mono ?_
  case hp =>
   intro j x t W hx _ hW
   exact impl_PlainCount_1.calls j w.heap.size a0_0 A0_1 c0_1 l0_1 x t W (blk_below HBK1.out hW) (Kd.C_below (Kd.C_below HR.out HB1.out) hW) HC.out hx
  rintro e w2 ⟨rfl, hb2⟩
  have HB2 := Aside0.mk (below_step HB1.out hb2); clear hb2
  go_wp2
  go_ret2
  exact ⟨rfl, HB2.out⟩

end Go.Proofs.YtapdleaemdlgnaaGreatDoor.G
