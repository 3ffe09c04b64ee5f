/- For each Go function named below: a plain Lean function of the same name, and the proof that a call of the Go function returns just what the plain function tells, where it tells something. Written by a program of this session with the printer of the kit. -/
import Derived.Test.YtfijegfjpagjoaaG0
import Derived.Test.YtfijegfjpagjoaaG5
import Derived.Test.YtfijegfjpagjoaaG6
namespace Go.Proofs.Ytfijegfjpagjoaa.G
open Go.RowKit Go.Proofs.YtfijegfjpagjoaaW.PrintWords Go.Proofs.YtfijegfjpagjoaaW.PrintLast Go.Proofs.YtfijegfjpagjoaaW.PrintMore
attribute [local go_sem] max2_int min2_int max_two min_two max_three min_three max_four min_four   -- for this text's walks alone
set_option linter.unusedVariables false
set_option linter.unusedSimpArgs false

/-! ### impl_PathAll: function 21 -/
/-- A path that has all nodes is counted. -/
def impl_PathAll.step (nodes : Int) (n : Int) (p : List Int) : Int := if (p.length : Int) = nodes then wrap64 (n + 1) else n
/-- The variables of PathAll: the count and the graph. -/
def impl_PathAll.I (c cg : Nat) (nodes : Int) (A0 : Option Addr) (len0 c0 : Nat) (n : Int) (w : World) : Prop :=
 w.heap[c]? = some (.cells #[.int .i64 n] 3 (0, 0)) ∧ w.heap[cg]? = some (.cells #[.int .i64 nodes, .slice A0 len0 c0] 30 (0, 0)) ∧ cg ≠ c
theorem impl_PathAll.I_below (c cg : Nat) (nodes : Int) (A0 : Option Addr) (len0 c0 : Nat) : ∀ (a : Int) (W W' : World), impl_PathAll.I c cg nodes A0 len0 c0 a W → Below W.heap.size W W' → impl_PathAll.I c cg nodes A0 len0 c0 a W' :=
 fun _ _ _ h hb => ⟨blk_below h.1 hb, blk_below h.2.1 hb, h.2.2⟩
theorem Keeps.set {c : Nat} (w : World) (v : Value) : Keeps c w (w.setCell ⟨c, 0, none⟩ v) := ⟨(Below.refl _ _).setCell (Nat.zero_le _) v, (KeepBut.refl _ _ _).set_ _ _⟩
set_option maxHeartbeats 8000000 in
set_option maxRecDepth 100000 in
theorem impl_PathAll_1.tells (c cg : Nat) (nodes : Int) (A0 : Option Addr) (len0 c0 : Nat) : Tells 70 #[.pointer (some ⟨cg, 0, none⟩), .pointer (some ⟨c, 0, none⟩)] c (impl_PathAll.step nodes) (impl_PathAll.I c cg nodes A0 len0 c0) := by
 intro a p A cp W hcp hpl hI hr hA hcW; have hu := Try.underlying30; obtain ⟨h1, h2, h3⟩ := hI; have hcn := cell_of_one h1; have hfn := free_of_one h1; have hcg : W.cell? ⟨cg, 0, none⟩ = some (.int .i64 nodes) := (blk_cell h2 0).trans rfl; have H1 := Aside0.mk h1; have H2 := Aside0.mk h2; have H3 := Aside0.mk h3; clear h1 h2 h3 hr hA hcW hcp
 by_cases hp : (p.length : Int) = nodes
 ·have hpb : ((p.length : Int) == nodes) = true := beq_iff_eq.mpr hp
  have HP := Aside0.mk hp; clear hp
  go_enter Try.func70, Try.ntmps70
  go_wp2
  go_end0
  refine ⟨rfl, ?_, Keeps.set _ _⟩
  unfold impl_PathAll.step
  rw [if_pos HP.out]
  exact ⟨one_setCell H1.out, (Below.heap_setCell _ _ _ _ H3.out).trans H2.out, H3.out⟩
 ·have hpb : ((p.length : Int) == nodes) = false := beq_eq_false_iff_ne.mpr hp
  have HP := Aside0.mk hp; clear hp
  go_enter Try.func70, Try.ntmps70
  go_wp2
  go_end0
  refine ⟨rfl, ?_, Keeps.refl _ _⟩
  unfold impl_PathAll.step
  rw [if_neg HP.out]
  exact ⟨H1.out, H2.out, H3.out⟩
def impl_PathAll.f (k : Nat) (a0_0 : Int) (l0_1 : List (S44)) (a1 : Int) : Option (Int × Bool) := (impl_WayIn.f k a0_0 l0_1 a1).bind fun t => if t = true then ((impl_paths.f (impl_PathAll.step a0_0) k a0_0 l0_1 a1 0).bind fun n => some (n, true)) else some (0, false)
theorem impl_PathAll.mono : ∀ a0 a1 a2 k, LeO (impl_PathAll.f k a0 a1 a2) (impl_PathAll.f (k + 1) a0 a1 a2) := by
 intro a0 a1 a2 k
 unfold impl_PathAll.f
 exact LeO.bind (impl_WayIn.mono _ _ _ _) fun _ => LeO.ite (LeO.bind (impl_paths.mono _ _ _ _ _ _) fun _ => LeO.refl _) (LeO.refl _)
set_option maxHeartbeats 8000000 in
set_option maxRecDepth 100000 in
theorem impl_PathAll.calls (k : Nat) (a0_0 : Int) (A0_1 : Option Addr) (c0_1 : Nat) (l0_1 : List (S44)) (a1 : Int) (r1 : Int) (r2 : Bool) (w : World) (hr0_1 : Kd.C k44 w A0_1 l0_1.length l0_1) (hc0_1 : l0_1.length ≤ c0_1) (h : impl_PathAll.f k a0_0 l0_1 a1 = some (r1, r2)) :
  Calls Try.prog 21 #[.agg #[.int .i64 a0_0, .slice A0_1 l0_1.length c0_1], .int .i64 a1] w fun e w' => e = .returned (.tuple #[.int .i64 r1, .bool r2]) ∧ Below w.heap.size w w' := by
 have hu := Try.underlying30; have hmf : ∀ (fn : Fn) (first cap : Array Value) (w : World), (Instr.makeFunc fn first cap).run Try.prog w = .ok (.func fn first cap) w := fun _ _ _ _ => rfl; have HR := Aside0.mk hr0_1; have HC := Aside0.mk hc0_1; have hb0 : Below w.heap.size w (w.alloc (.cells #[.int .i64 a0_0, .slice A0_1 l0_1.length c0_1] 30)) := (Below.refl _ _).alloc (Nat.le_refl _) _; have hbk : (w.alloc (.cells #[.int .i64 a0_0, .slice A0_1 l0_1.length c0_1] 30)).heap[w.heap.size]? = some (.cells #[.int .i64 a0_0, .slice A0_1 l0_1.length c0_1] 30 (0, 0)) := heap_alloc_new w _; have HB0 := Aside0.mk hb0; have HBK := Aside0.mk hbk; clear hb0 hbk; clear hr0_1 hc0_1
 unfold impl_PathAll.f at h
 obtain ⟨t, A1, h⟩ := Option.bind_eq_some_iff.mp h; have A1' := Aside0.mk A1; clear A1
 cases t with
 | false =>
  have h1 : r1 = 0 ∧ r2 = false := by simpa [eq_comm] using h
  obtain ⟨rfl, rfl⟩ := h1; clear h
  go_enter Try.func21, Try.ntmps21
  go_wp2_with fail
  refine (impl_WayIn.calls k a0_0 _ _ l0_1 a1 false _ (Kd.C_below HR.out HB0.out) HC.out A1'.out).mono ?_
  rintro e w1 ⟨rfl, hb1⟩
  have HB1 := Aside0.mk (below_step HB0.out hb1); clear hb1
  go_wp2
  go_ret2
  exact ⟨rfl, HB1.out⟩
 | true =>
  obtain ⟨n, A2, h⟩ := Option.bind_eq_some_iff.mp (show ((impl_paths.f (impl_PathAll.step a0_0) k a0_0 l0_1 a1 0).bind fun n => some (n, true)) = some (r1, r2) from h); have h1 : n = r1 ∧ true = r2 := by simpa using h
  obtain ⟨rfl, rfl⟩ := h1; clear h; have A2' := Aside0.mk A2; clear A2
  go_enter Try.func21, Try.ntmps21
  go_wp2_with fail
  refine (impl_WayIn.calls k a0_0 _ _ l0_1 a1 true _ (Kd.C_below HR.out HB0.out) HC.out A1'.out).mono ?_
  rintro e w1 ⟨rfl, hb1⟩
  have HB1 := Aside0.mk (below_step HB0.out hb1); have HBK1 := Aside0.mk (blk_below HBK.out hb1); have HSZ := Aside0.mk (show w.heap.size < w1.heap.size by have := hb1.size; simp at this; omega); clear hb1; have hcz_0 : (w1.alloc (.cells #[.int .i64 0] 3)).cell? ⟨w.heap.size, 0, none⟩ = some (.int .i64 a0_0) := (blk_cell (blk_alloc HBK1.out _) 0).trans rfl; have hcz_1 : (w1.alloc (.cells #[.int .i64 0] 3)).cell? ⟨w.heap.size, 1, none⟩ = some (.slice A0_1 l0_1.length c0_1) := (blk_cell (blk_alloc HBK1.out _) 1).trans rfl
  go_wp2_with fail
  have HBA := Aside0.mk (Below.alloc (Below.refl w1.heap.size w1) (Nat.le_refl _) (.cells #[.int .i64 0] 3)); clear hcz_0 hcz_1
  refine (impl_paths.calls (impl_PathAll.step a0_0) (impl_PathAll.I w1.heap.size w.heap.size a0_0 A0_1 l0_1.length c0_1) w1.heap.size 70 Try.f70 #[.pointer (some ⟨w.heap.size, 0, none⟩), .pointer (some ⟨w1.heap.size, 0, none⟩)] Try.func70 (by kernel_rfl) rfl (impl_PathAll_1.tells _ _ _ _ _ _) (impl_PathAll.I_below _ _ _ _ _ _) k a0_0 A0_1 c0_1 l0_1 a1 0 n (w1.alloc (.cells #[.int .i64 0] 3)) (Kd.C_below (Kd.C_below HR.out HB1.out) HBA.out) HC.out ⟨heap_alloc_new w1 _, blk_alloc HBK1.out _, by have := HSZ.out; omega⟩ (by simp) A2'.out).mono ?_
  rintro e w2 ⟨rfl, hi, hk⟩
  have hcn := cell_of_one hi.1; have HB2 := Aside0.mk (Keeps.below (below_step HB1.out HBA.out) hk (Nat.le_of_lt HSZ.out)); clear hi hk
  go_wp2
  go_ret2
  exact ⟨rfl, HB2.out⟩


end Go.Proofs.Ytfijegfjpagjoaa.G
