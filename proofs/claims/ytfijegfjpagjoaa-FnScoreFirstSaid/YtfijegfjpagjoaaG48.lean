/- For each Go function named below: a plain Lean function of the same name, and the proof that a call of the Go function returns just what the plain function tells, where it tells something. Written by a program of this session with the printer of the kit. -/
import Derived.Test.YtfijegfjpagjoaaG0
import Derived.Test.YtfijegfjpagjoaaG2
import Derived.Test.YtfijegfjpagjoaaG3
import Derived.Test.YtfijegfjpagjoaaG15
import Derived.Test.YtfijegfjpagjoaaG18
import Derived.Test.YtfijegfjpagjoaaG19
import Derived.Test.YtfijegfjpagjoaaG43
import Derived.Test.YtfijegfjpagjoaaG45
namespace Go.Proofs.Ytfijegfjpagjoaa.G
open Go.RowKit Go.Proofs.YtfijegfjpagjoaaW.PrintWords Go.Proofs.YtfijegfjpagjoaaW.PrintLast Go.Proofs.YtfijegfjpagjoaaW.PrintMore
attribute [local go_sem] max2_int min2_int max_two min_two max_three min_three max_four min_four   -- for this text's walks alone
set_option linter.unusedVariables false
set_option linter.unusedSimpArgs false

/-! ### spec_WayOut: function 123 -/
def spec_WayOut.f (k : Nat) (a0_0 : Int) (l0_1 : List (S44)) (a1 : Int) : Option (List Int × Bool) := (spec_WayIn.f k a0_0 l0_1 a1).bind fun t840 => (if t840 = true then ((spec_l1Out.f k a0_0 l0_1 a1).bind fun t841 => (some (t841, true))) else (some ((([] : List Int)), false)))
theorem spec_WayOut.mono : ∀ a0 a1 a2 k, LeO (spec_WayOut.f k a0 a1 a2) (spec_WayOut.f (k + 1) a0 a1 a2) := by
 intro a0 a1 a2 k
 unfold spec_WayOut.f
 repeat' first
   | (with_reducible exact spec_WayIn.mono _ _ _ _)
   | (with_reducible exact spec_l1Out.mono _ _ _ _)
   | (with_reducible exact LeO.refl _)
   | (with_reducible exact LeO.none _)
   | (with_reducible refine LeO.ite ?_ ?_)
   | (with_reducible refine LeO.bind ?_ (fun _ => ?_))
   | exact spec_WayIn.mono _ _ _ _
   | exact spec_l1Out.mono _ _ _ _
   | exact LeO.none _
   | refine LeO.ite ?_ ?_
   | refine LeO.bind ?_ (fun _ => ?_)
set_option maxHeartbeats 8000000 in
set_option maxRecDepth 100000 in
theorem spec_WayOut.calls (k : Nat) (a0_0 : Int) (A0_1 : Option Addr) (c0_1 : Nat) (l0_1 : List (S44)) (a1 : Int) (r1 : List Int) (r2 : Bool) (w : World) (hr0_1 : Kd.C k44 w A0_1 l0_1.length l0_1) (hc0_1 : l0_1.length ≤ c0_1) (h : spec_WayOut.f k a0_0 l0_1 a1 = some (r1, r2)) :
  Calls Try.prog 123 #[.agg #[.int .i64 a0_0, .slice A0_1 l0_1.length c0_1], .int .i64 a1] w fun e w' => ∃ v0_ : Value, e = .returned (.tuple #[v0_, .bool r2]) ∧ Kd.R (Kd.int .i64) 3 w' w.heap.size (fun _ => True) v0_ r1 ∧ Below w.heap.size w w' := by
 have hu30 := Try.underlying30; have HR0_1 := Aside0.mk hr0_1; have HC0_1 := Aside0.mk hc0_1; clear hr0_1 hc0_1; have HB := Aside0.mk (Below.refl w.heap.size w); have H : ((spec_WayIn.f k a0_0 l0_1 a1).bind fun t840 => (if t840 = true then ((spec_l1Out.f k a0_0 l0_1 a1).bind fun t841 => (some (t841, true))) else (some ((([] : List Int)), false)))) = some (r1, r2) := h; clear h; replace H := Option.bind_eq_some_iff.mp H; obtain ⟨t840, A30, H⟩ := H; replace H : (if t840 = true then ((spec_l1Out.f k a0_0 l0_1 a1).bind fun t841 => (some (t841, true))) else (some ((([] : List Int)), false))) = some (r1, r2) := H; have A3 := Aside0.mk A30; clear A30
 by_cases c4 : t840 = true
 ·subst c4
  have H1 : ((spec_l1Out.f k a0_0 l0_1 a1).bind fun t841 => (some (t841, true))) = some (r1, r2) := by rw [if_pos rfl] at H; exact H
  clear H; have H := H1; clear H1; replace H := Option.bind_eq_some_iff.mp H; obtain ⟨t841, A50, H⟩ := H; replace H : (some (t841, true)) = some (r1, r2) := H; have A5 := Aside0.mk A50; clear A50
  simp only [Option.some.injEq, Prod.mk.injEq] at H
  obtain ⟨rfl, rfl⟩ := H
  go_enter Try.func123, Try.ntmps123
  go_wp2_with (first | ((with_reducible refine gate_dst (N := 2) rfl ?_); refine box_event ?hg (N := 2) ?hd (cs := #[.int .i64 a0_0, .slice A0_1 l0_1.length c0_1]) (t := 30) ?hr ?_; (case hd => rfl); (case hg => rfl); (case hr => first | (go_simp; done) | (go_simp; rfl)); intro gb839 hg w6 hbox hb; have n0_ := Aside0.mk (below_step (viaW HB.out) hb); have n1_ := Aside0.mk (hbox); have n2_ := Aside0.mk ((by rw [hg]; exact (below_size (viaW HB.out)) : w.heap.size ≤ gb839)); have n3_ := Aside0.mk ((by rw [hg]; exact (below_size (viaW HB.out)) : w.heap.size ≤ gb839)); clear HB; have HB := n0_; have BK839 := n1_; have GW839 := n2_; have GE839 := n3_; clear n0_ n1_ n2_ n3_; clear hb hbox hg; have hcz7_0 : w6.cell? ⟨gb839, 0, none⟩ = some (.int .i64 a0_0) := (blk_cell BK839.out 0).trans rfl; have hcz7_1 : w6.cell? ⟨gb839, 1, none⟩ = some (.slice A0_1 l0_1.length c0_1) := (blk_cell BK839.out 1).trans rfl; have hfz7_0 := blk_frozen BK839.out 0; have hfz7_1 := blk_frozen BK839.out 1) | ((with_reducible refine gate_callee (f := 65) rfl ?_); refine goesL_ (some 8) rfl rfl Try.func65 (by kernel_rfl) rfl #[.agg #[.int .i64 a0_0, .slice A0_1 l0_1.length c0_1], .int .i64 a1] rfl (by (try simp only [List.map_toArray, List.map_cons, List.map_nil]); first | done | rfl | (simp only [List.length_drop, List.length_take]; rfl)) ?_; (with_reducible refine (spec_WayIn.calls k a0_0 _ _ l0_1 a1 true _ ?side1 ?side2 A3.out).mono ?_); (case side1 => repeat (first | exact (Kd.C_below HR0_1.out HB.out) | (with_reducible refine Kd.C_alloc ?_ _) | (with_reducible refine Kd.C_drewN ?_ _) | (with_reducible refine Kd.C_drew ?_))); (case side2 => exact HC0_1.out); rintro e w8 ⟨rfl, hb⟩; refine ⟨_, rfl, ?_⟩; have n0_ := Aside0.mk (blk_below (g := gb839) (o := .cells #[.int .i64 a0_0, .slice A0_1 l0_1.length c0_1] 30 (0, 0)) (viaB BK839.out) hb); have n1_ := Aside0.mk (below_step (viaX HB.out GE839.out) hb); clear BK839; clear HB; have BK839 := n0_; have HB := n1_; clear n0_ n1_; (try clear hb); (try clear hb2); (try clear hk); (try clear hi); have hcz9_0 : w8.cell? ⟨gb839, 0, none⟩ = some (.int .i64 a0_0) := (blk_cell BK839.out 0).trans rfl; have hcz9_1 : w8.cell? ⟨gb839, 1, none⟩ = some (.slice A0_1 l0_1.length c0_1) := (blk_cell BK839.out 1).trans rfl; have hfz9_0 := blk_frozen BK839.out 0; have hfz9_1 := blk_frozen BK839.out 1) | ((with_reducible refine gate_callee (f := 102) rfl ?_); refine goesL_ (some 13) rfl rfl Try.func102 (by kernel_rfl) rfl #[.agg #[.int .i64 a0_0, .slice A0_1 l0_1.length c0_1], .int .i64 a1] rfl (by (try simp only [List.map_toArray, List.map_cons, List.map_nil]); first | done | rfl | (simp only [List.length_drop, List.length_take]; rfl)) ?_; (with_reducible refine (spec_l1Out.calls k a0_0 _ _ l0_1 a1 t841 _ ?side1 ?side2 A5.out).mono ?_); (case side1 => repeat (first | exact (Kd.C_below HR0_1.out HB.out) | (with_reducible refine Kd.C_alloc ?_ _) | (with_reducible refine Kd.C_drewN ?_ _) | (with_reducible refine Kd.C_drew ?_))); (case side2 => exact HC0_1.out); rintro e w10 ⟨v842, rfl, ho0, hb⟩; refine ⟨_, rfl, ?_⟩; have n0_ := Aside0.mk (Kd.R_lower ho0 (below_size (viaX HB.out GE839.out))); have n1_ := Aside0.mk (blk_below (g := gb839) (o := .cells #[.int .i64 a0_0, .slice A0_1 l0_1.length c0_1] 30 (0, 0)) (viaB BK839.out) hb); have n2_ := Aside0.mk (below_step (viaX HB.out GE839.out) hb); clear BK839; clear HB; have HO843 := n0_; have BK839 := n1_; have HB := n2_; clear n0_ n1_ n2_; (try clear hb); (try clear hb2); (try clear hk); (try clear hi); (try clear ho0)))
  go_ret2
  exact ⟨_, by first | rfl | (simp [errW_none, errW_some] <;> rfl) | (simp [*, errW_none, errW_some] <;> rfl), viaR HO843.out, viaX HB.out GE839.out⟩
 ·replace c4 := Bool.eq_false_iff.mpr c4
  subst c4; have H1 : (some ((([] : List Int)), false)) = some (r1, r2) := by rw [if_neg (show ¬ (false = true) by decide)] at H; exact H
  clear H; have H := H1; clear H1; obtain ⟨y844, hy844⟩ : ∃ y_ : List Int, y_ = (([] : List Int)) := ⟨_, rfl⟩; replace H : (some (y844, false)) = some (r1, r2) := by first | (rw [hy844]; with_reducible exact H) | (have H2_ := (Option.bind_some _ _).symm.trans H; rw [hy844]; with_reducible exact H2_) | (have H2_ := (Option.bind_some _ _).symm.trans H; with_reducible exact H2_) | with_reducible exact H | (rw [hy844]; exact H) | exact H
  have Ny844 := Aside0.mk hy844; clear hy844
  simp only [Option.some.injEq, Prod.mk.injEq] at H
  obtain ⟨rfl, rfl⟩ := H
  go_enter Try.func123, Try.ntmps123
  go_wp2_with (first | ((with_reducible refine gate_dst (N := 2) rfl ?_); refine box_event ?hg (N := 2) ?hd (cs := #[.int .i64 a0_0, .slice A0_1 l0_1.length c0_1]) (t := 30) ?hr ?_; (case hd => rfl); (case hg => rfl); (case hr => first | (go_simp; done) | (go_simp; rfl)); intro gb839 hg w11 hbox hb; have n0_ := Aside0.mk (below_step (viaW HB.out) hb); have n1_ := Aside0.mk (hbox); have n2_ := Aside0.mk ((by rw [hg]; exact (below_size (viaW HB.out)) : w.heap.size ≤ gb839)); have n3_ := Aside0.mk ((by rw [hg]; exact (below_size (viaW HB.out)) : w.heap.size ≤ gb839)); clear HB; have HB := n0_; have BK839 := n1_; have GW839 := n2_; have GE839 := n3_; clear n0_ n1_ n2_ n3_; clear hb hbox hg; have hcz12_0 : w11.cell? ⟨gb839, 0, none⟩ = some (.int .i64 a0_0) := (blk_cell BK839.out 0).trans rfl; have hcz12_1 : w11.cell? ⟨gb839, 1, none⟩ = some (.slice A0_1 l0_1.length c0_1) := (blk_cell BK839.out 1).trans rfl; have hfz12_0 := blk_frozen BK839.out 0; have hfz12_1 := blk_frozen BK839.out 1) | ((with_reducible refine gate_callee (f := 65) rfl ?_); refine goesL_ (some 8) rfl rfl Try.func65 (by kernel_rfl) rfl #[.agg #[.int .i64 a0_0, .slice A0_1 l0_1.length c0_1], .int .i64 a1] rfl (by (try simp only [List.map_toArray, List.map_cons, List.map_nil]); first | done | rfl | (simp only [List.length_drop, List.length_take]; rfl)) ?_; (with_reducible refine (spec_WayIn.calls k a0_0 _ _ l0_1 a1 false _ ?side1 ?side2 A3.out).mono ?_); (case side1 => repeat (first | exact (Kd.C_below HR0_1.out HB.out) | (with_reducible refine Kd.C_alloc ?_ _) | (with_reducible refine Kd.C_drewN ?_ _) | (with_reducible refine Kd.C_drew ?_))); (case side2 => exact HC0_1.out); rintro e w13 ⟨rfl, hb⟩; refine ⟨_, rfl, ?_⟩; have n0_ := Aside0.mk (blk_below (g := gb839) (o := .cells #[.int .i64 a0_0, .slice A0_1 l0_1.length c0_1] 30 (0, 0)) (viaB BK839.out) hb); have n1_ := Aside0.mk (below_step (viaX HB.out GE839.out) hb); clear BK839; clear HB; have BK839 := n0_; have HB := n1_; clear n0_ n1_; (try clear hb); (try clear hb2); (try clear hk); (try clear hi)) | ((with_reducible refine gate_dst (N := 10) rfl ?_); refine Kd.R_lit (Kd.int .i64) _ 3 ?hg (N := 10) ?hd (xs := ([] : List Int)) (inner := []) (ok := fun _ => True) (okp := fun _ => True) ?hr ?hp (fun _ hk => hk) trivial (Below.refl _ _) (Nat.le_refl _) (by simp) ?_; (case hd => rfl); (case hg => rfl); (case hr => first | (go_simp; done) | (go_simp; rfl)); (case hp => exact (Reps.none _ _)); intro v845 w14 ho15 hb hg_ hnew_; clear hg_ hnew_; (first | rw [← Ny844.out] at ho15 | (simp only [Int.reduceToNat] at ho15; rw [← Ny844.out] at ho15)); have n0_ := Aside0.mk (Kd.R_lower ho15 (below_size (viaX HB.out GE839.out))); have n1_ := Aside0.mk (blk_below (g := gb839) (o := .cells #[.int .i64 a0_0, .slice A0_1 l0_1.length c0_1] 30 (0, 0)) (viaB BK839.out) hb); have n2_ := Aside0.mk (below_step (viaX HB.out GE839.out) hb); clear BK839; clear HB; have HO846 := n0_; have BK839 := n1_; have HB := n2_; clear n0_ n1_ n2_; clear hb ho15))
  go_ret2
  exact ⟨_, by first | rfl | (simp [errW_none, errW_some] <;> rfl) | (simp [*, errW_none, errW_some] <;> rfl), viaR HO846.out, viaX HB.out GE839.out⟩

/-! ### spec_l92Row: function 100 -/
mutual
def spec_l92Row.j0 : Nat → List Int → Bool → List Int → Int → Int → List (S44) → Option (Int × (List (S44)) × List Int)
 | 0, _, _, _, _, _, _ => none
 | k + 1, x6, x27, x851000, x851001, x857000, x857001 => if x27 = true then (spec_l92Row.l0 k (([] : List Int)) 0 x851000 x851001 x857000 x857001) else (some (x857000, x857001, x6))
def spec_l92Row.l0 : Nat → List Int → Int → List Int → Int → Int → List (S44) → Option (Int × (List (S44)) × List Int)
 | 0, _, _, _, _, _, _ => none
 | k + 1, x6, x8, x851000, x851001, x857000, x857001 => (spec_l6Rd_pick.f k x851000 x851001 24).bind fun bt868 => (if x8 < (wrap64 (x857000 + (wrap64 (Int.tdiv bt868.1 23)))) then ((spec_l6Rd_pick.f k x851000 bt868.2 4).bind fun bt870 => (if x6.length < 17592186044416 then (spec_l92Row.l0 k (x6 ++ [bt870.1]) (wrap64 (x8 + 1)) x851000 bt870.2 x857000 x857001) else (none))) else (some (x857000, x857001, x6)))
end
def spec_l92Row.f (k : Nat) (l0 : List Int) : Option (Int × (List (S44)) × List Int) := (spec_l6Open.f l0).bind fun bt848 => ((spec_l91Graph.f k bt848.1 bt848.2).bind fun bt851 => ((spec_l91Way.f k bt848.1 bt851.2.2 bt851.1 bt851.2.1).bind fun bt857 => ((spec_WayOut.f k bt851.1 bt851.2.1 bt857.1).bind fun bt859 => (if bt859.2 = true then ((spec_l6Rd_pick.f k bt848.1 bt857.2 4).bind fun bt863 => (spec_l92Row.j0 k bt859.1 (bt863.1 == 0) bt848.1 bt863.2 bt851.1 bt851.2.1)) else (spec_l92Row.j0 k bt859.1 true bt848.1 bt857.2 bt851.1 bt851.2.1)))))
theorem spec_l92Row.mono_l : ∀ k, (∀ y0 y1 y2 y3 y4 y5, LeO (spec_l92Row.j0 k y0 y1 y2 y3 y4 y5) (spec_l92Row.j0 (k + 1) y0 y1 y2 y3 y4 y5)) ∧ (∀ y0 y1 y2 y3 y4 y5, LeO (spec_l92Row.l0 k y0 y1 y2 y3 y4 y5) (spec_l92Row.l0 (k + 1) y0 y1 y2 y3 y4 y5))
 | 0 => ⟨fun _ _ _ _ _ _ r h => by simp [spec_l92Row.j0] at h, fun _ _ _ _ _ _ r h => by simp [spec_l92Row.l0] at h⟩
 | k + 1 => by
  obtain ⟨ih0, ih1⟩ := spec_l92Row.mono_l k
  refine ⟨?_, ?_⟩
  ·intro y0 y1 y2 y3 y4 y5
   unfold spec_l92Row.j0
   repeat' first
   | (with_reducible exact ih0 _ _ _ _ _ _)
   | (with_reducible exact ih1 _ _ _ _ _ _)
   | (with_reducible exact spec_WayOut.mono _ _ _ _)
   | (with_reducible exact spec_l6Rd_pick.mono _ _ _ _)
   | (with_reducible exact spec_l91Graph.mono _ _ _)
   | (with_reducible exact spec_l91Way.mono _ _ _ _ _)
   | (with_reducible exact LeO.refl _)
   | (with_reducible exact LeO.none _)
   | (with_reducible refine LeO.ite ?_ ?_)
   | (with_reducible refine LeO.bind ?_ (fun _ => ?_))
   | exact ih0 _ _ _ _ _ _
   | exact ih1 _ _ _ _ _ _
   | exact spec_WayOut.mono _ _ _ _
   | exact spec_l6Rd_pick.mono _ _ _ _
   | exact spec_l91Graph.mono _ _ _
   | exact spec_l91Way.mono _ _ _ _ _
   | exact LeO.none _
   | refine LeO.ite ?_ ?_
   | refine LeO.bind ?_ (fun _ => ?_)
  ·intro y0 y1 y2 y3 y4 y5
   unfold spec_l92Row.l0
   repeat' first
   | (with_reducible exact ih0 _ _ _ _ _ _)
   | (with_reducible exact ih1 _ _ _ _ _ _)
   | (with_reducible exact spec_WayOut.mono _ _ _ _)
   | (with_reducible exact spec_l6Rd_pick.mono _ _ _ _)
   | (with_reducible exact spec_l91Graph.mono _ _ _)
   | (with_reducible exact spec_l91Way.mono _ _ _ _ _)
   | (with_reducible exact LeO.refl _)
   | (with_reducible exact LeO.none _)
   | (with_reducible refine LeO.ite ?_ ?_)
   | (with_reducible refine LeO.bind ?_ (fun _ => ?_))
   | exact ih0 _ _ _ _ _ _
   | exact ih1 _ _ _ _ _ _
   | exact spec_WayOut.mono _ _ _ _
   | exact spec_l6Rd_pick.mono _ _ _ _
   | exact spec_l91Graph.mono _ _ _
   | exact spec_l91Way.mono _ _ _ _ _
   | exact LeO.none _
   | refine LeO.ite ?_ ?_
   | refine LeO.bind ?_ (fun _ => ?_)
theorem spec_l92Row.mono : ∀ a0 k, LeO (spec_l92Row.f k a0) (spec_l92Row.f (k + 1) a0) := by
 intro a0 k; obtain ⟨ih0, ih1⟩ := spec_l92Row.mono_l k
 unfold spec_l92Row.f
 repeat' first
   | (with_reducible exact ih0 _ _ _ _ _ _)
   | (with_reducible exact ih1 _ _ _ _ _ _)
   | (with_reducible exact spec_WayOut.mono _ _ _ _)
   | (with_reducible exact spec_l6Rd_pick.mono _ _ _ _)
   | (with_reducible exact spec_l91Graph.mono _ _ _)
   | (with_reducible exact spec_l91Way.mono _ _ _ _ _)
   | (with_reducible exact LeO.refl _)
   | (with_reducible exact LeO.none _)
   | (with_reducible refine LeO.ite ?_ ?_)
   | (with_reducible refine LeO.bind ?_ (fun _ => ?_))
   | exact ih0 _ _ _ _ _ _
   | exact ih1 _ _ _ _ _ _
   | exact spec_WayOut.mono _ _ _ _
   | exact spec_l6Rd_pick.mono _ _ _ _
   | exact spec_l91Graph.mono _ _ _
   | exact spec_l91Way.mono _ _ _ _ _
   | exact LeO.none _
   | refine LeO.ite ?_ ?_
   | refine LeO.bind ?_ (fun _ => ?_)
def spec_l92Row.T3 : Bool × List (List Nat × List Nat) := (true, [([], []), ([], []), ([], []), ([1, 2], [1, 2]), ([0, 3, 3], [0, 3]), ([4], [4]), ([5], [5]), ([5], [5]), ([6, 4, 0, 1, 2, 3, 4, 5, 6], [6]), ([7, 8, 0, 1, 2, 3, 4, 5, 6, 7, 8], [7])])
def spec_l92Row.B3 : List Nat := [0, 0, 0, 6, 15, 31, 63, 63, 127, 511]
theorem spec_l92Row.tab3 : rtab .any (opsOf Try.f100 3) = spec_l92Row.T3 := by kernel_rfl
theorem spec_l92Row.bits3 : waitsOk spec_l92Row.T3.2 spec_l92Row.B3 = true := by kernel_rfl
def spec_l92Row.T7 : Bool × List (List Nat × List Nat) := (true, [([], []), ([], []), ([1], [1]), ([], []), ([3], [3]), ([4], [4]), ([2, 5], [2, 5]), ([0, 6], [0, 6])])
def spec_l92Row.B7 : List Nat := [0, 0, 2, 0, 8, 24, 62, 127]
theorem spec_l92Row.tab7 : rtab .any (opsOf Try.f100 7) = spec_l92Row.T7 := by kernel_rfl
theorem spec_l92Row.bits7 : waitsOk spec_l92Row.T7.2 spec_l92Row.B7 = true := by kernel_rfl
set_option maxHeartbeats 8000000 in
set_option maxRecDepth 100000 in
theorem spec_l92Row.calls (k : Nat) (A0 : Option Addr) (c0 : Nat) (l0 : List Int) (r1 : Int) (r2 : List (S44)) (r3 : List Int) (w : World) (hr0 : Kd.C (Kd.int .u8) w A0 l0.length l0) (hc0 : l0.length ≤ c0) (h : spec_l92Row.f k l0 = some (r1, r2, r3)) :
  Calls Try.prog 100 #[.slice A0 l0.length c0] w fun e w' => ∃ v1_ v2_ : Value, e = .returned (.tuple #[.agg #[.int .i64 r1, v1_], v2_]) ∧ Kd.R k44 44 w' w.heap.size (fun _ => True) v1_ r2 ∧ Kd.R (Kd.int .i64) 3 w' w.heap.size (fun _ => True) v2_ r3 ∧ Below w.heap.size w w' := by
 have hu30 := Try.underlying30; have HR0 := Aside0.mk hr0; have HC0 := Aside0.mk hc0; clear hr0 hc0; have HB := Aside0.mk (Below.refl w.heap.size w); have H : ((spec_l6Open.f l0).bind fun bt848 => ((spec_l91Graph.f k bt848.1 bt848.2).bind fun bt851 => ((spec_l91Way.f k bt848.1 bt851.2.2 bt851.1 bt851.2.1).bind fun bt857 => ((spec_WayOut.f k bt851.1 bt851.2.1 bt857.1).bind fun bt859 => (if bt859.2 = true then ((spec_l6Rd_pick.f k bt848.1 bt857.2 4).bind fun bt863 => (spec_l92Row.j0 k bt859.1 (bt863.1 == 0) bt848.1 bt863.2 bt851.1 bt851.2.1)) else (spec_l92Row.j0 k bt859.1 true bt848.1 bt857.2 bt851.1 bt851.2.1)))))) = some (r1, r2, r3) := h; clear h; replace H := Option.bind_eq_some_iff.mp H; obtain ⟨⟨t848, t849⟩, A20, H⟩ := H; replace H : ((spec_l91Graph.f k t848 t849).bind fun bt851 => ((spec_l91Way.f k t848 bt851.2.2 bt851.1 bt851.2.1).bind fun bt857 => ((spec_WayOut.f k bt851.1 bt851.2.1 bt857.1).bind fun bt859 => (if bt859.2 = true then ((spec_l6Rd_pick.f k t848 bt857.2 4).bind fun bt863 => (spec_l92Row.j0 k bt859.1 (bt863.1 == 0) t848 bt863.2 bt851.1 bt851.2.1)) else (spec_l92Row.j0 k bt859.1 true t848 bt857.2 bt851.1 bt851.2.1))))) = some (r1, r2, r3) := H; have A2 := Aside0.mk A20; clear A20; replace H := Option.bind_eq_some_iff.mp H; obtain ⟨⟨t851, t852, t855⟩, A30, H⟩ := H; replace H : ((spec_l91Way.f k t848 t855 t851 t852).bind fun bt857 => ((spec_WayOut.f k t851 t852 bt857.1).bind fun bt859 => (if bt859.2 = true then ((spec_l6Rd_pick.f k t848 bt857.2 4).bind fun bt863 => (spec_l92Row.j0 k bt859.1 (bt863.1 == 0) t848 bt863.2 t851 t852)) else (spec_l92Row.j0 k bt859.1 true t848 bt857.2 t851 t852)))) = some (r1, r2, r3) := H; have A3 := Aside0.mk A30; clear A30; replace H := Option.bind_eq_some_iff.mp H; obtain ⟨⟨t857, t858⟩, A40, H⟩ := H; replace H : ((spec_WayOut.f k t851 t852 t857).bind fun bt859 => (if bt859.2 = true then ((spec_l6Rd_pick.f k t848 t858 4).bind fun bt863 => (spec_l92Row.j0 k bt859.1 (bt863.1 == 0) t848 bt863.2 t851 t852)) else (spec_l92Row.j0 k bt859.1 true t848 t858 t851 t852))) = some (r1, r2, r3) := H; have A4 := Aside0.mk A40; clear A40; replace H := Option.bind_eq_some_iff.mp H; obtain ⟨⟨t859, t862⟩, A50, H⟩ := H; replace H : (if t862 = true then ((spec_l6Rd_pick.f k t848 t858 4).bind fun bt863 => (spec_l92Row.j0 k t859 (bt863.1 == 0) t848 bt863.2 t851 t852)) else (spec_l92Row.j0 k t859 true t848 t858 t851 t852)) = some (r1, r2, r3) := H; have A5 := Aside0.mk A50; clear A50; have HC6 := Aside0.mk H; clear H
 go_enter Try.func100, Try.ntmps100
 try go_wp2_with (first | ((with_reducible refine gate_dst (N := 2) rfl ?_); refine box_event ?hg (N := 2) ?hd (cs := #[.int .i64 0, .slice none 0 0]) (t := 30) ?hr ?_; (case hd => rfl); (case hg => rfl); (case hr => first | (go_simp; done) | (go_simp; rfl)); intro gb847 hg w7 hbox hb; have n0_ := Aside0.mk (below_step (viaW HB.out) hb); have n1_ := Aside0.mk (hbox); have n2_ := Aside0.mk ((by rw [hg]; exact (below_size (viaW HB.out)) : w.heap.size ≤ gb847)); have n3_ := Aside0.mk ((by rw [hg]; exact (below_size (viaW HB.out)) : w.heap.size ≤ gb847)); clear HB; have HB := n0_; have BK847 := n1_; have GW847 := n2_; have GE847 := n3_; clear n0_ n1_ n2_ n3_; clear hb hbox hg) | ((with_reducible refine gate_callee (f := 82) rfl ?_); refine goesL_ (some 10) rfl rfl Try.func82 (by kernel_rfl) rfl #[.slice A0 l0.length c0] rfl (by (try simp only [List.map_toArray, List.map_cons, List.map_nil]); first | done | rfl | (simp only [List.length_drop, List.length_take]; rfl)) ?_; (with_reducible refine (spec_l6Open.calls _ _ l0 t848 t849 w _ ?side1 ?side2 ?side3 A2.out).mono ?_); (case side1 => repeat (first | (with_reducible first | exact HB.out | apply below_alloc | apply pw_below_drewN | apply below_drew1 | refine below_set ?_ GE847.out) | exact HB.out)); (case side2 => exact HR0.out); (case side3 => exact HC0.out); rintro e w8 ⟨g850, rfl, hi, hb, hb2⟩; refine ⟨_, rfl, ?_⟩; have n0_ := Aside0.mk (blk_below (g := gb847) (o := .cells #[.int .i64 0, .slice none 0 0] 30 (0, 0)) (viaB BK847.out) hb2); have n1_ := Aside0.mk (hb); have n2_ := Aside0.mk (hi); have n3_ := Aside0.mk (IsS84.ne_blk hi (blk_below (g := gb847) (o := .cells #[.int .i64 0, .slice none 0 0] 30 (0, 0)) (viaB BK847.out) hb2) (by decide)); have n4_ := Aside0.mk (Ne.symm (IsS84.ne_blk hi (blk_below (g := gb847) (o := .cells #[.int .i64 0, .slice none 0 0] 30 (0, 0)) (viaB BK847.out) hb2) (by decide))); clear BK847; clear HB; have BK847 := n0_; have HB := n1_; have HI850 := n2_; have NB850_847 := n3_; have NB847_850 := n4_; clear n0_ n1_ n2_ n3_ n4_; (try clear hb); (try clear hb2); (try clear hk); (try clear hi)) | ((with_reducible refine gate_callee (f := 116) rfl ?_); refine goesL_ (some 12) rfl rfl Try.func116 (by kernel_rfl) rfl #[.pointer (some ⟨g850, 0, none⟩)] rfl (by (try simp only [List.map_toArray, List.map_cons, List.map_nil]); first | done | rfl | (simp only [List.length_drop, List.length_take]; rfl)) ?_; (with_reducible refine (spec_l91Graph.calls k g850 t848 t849 t851 t852 t855 w _ ?side1 ?side2 A3.out).mono ?_); (case side1 => repeat (first | (with_reducible first | exact HI850.out | apply IsS84.alloc | apply IsS84.drewN | apply IsS84.drew | apply IsS84.set_1 | refine IsS84.far ?_ NB850_847.out _) | exact HI850.out)); (case side2 => repeat (first | (with_reducible first | exact HB.out | apply below_alloc | apply pw_below_drewN | apply below_drew1 | refine below_set ?_ (IsS84.ge HI850.out) | refine below_set ?_ GE847.out) | exact HB.out)); rintro e w9 ⟨v853, rfl, ho0, hi, hb, hk⟩; refine ⟨_, rfl, ?_⟩; have n0_ := Aside0.mk (KeepBut.blk hk (g' := gb847) (o := .cells #[.int .i64 0, .slice none 0 0] 30 (0, 0)) (viaB BK847.out) NB847_850.out (by simp)); have n1_ := Aside0.mk (Kd.R_lower ho0 (below_size (by repeat (first | (with_reducible first | exact HB.out | apply below_alloc | apply pw_below_drewN | apply below_drew1 | refine below_set ?_ (IsS84.ge HI850.out) | refine below_set ?_ GE847.out) | exact HB.out)))); have n2_ := Aside0.mk (hb); have n3_ := Aside0.mk (hi); clear BK847; clear HB; clear HI850; have BK847 := n0_; have HO854 := n1_; have HB := n2_; have HI850 := n3_; clear n0_ n1_ n2_ n3_; (try clear hb); (try clear hb2); (try clear hk); (try clear hi); (try clear ho0)) | ((with_reducible refine gate_dst (N := 5) rfl ?_); refine box_event ?hg (N := 5) ?hd (cs := #[.int .i64 0, .slice none 0 0]) (t := 30) ?hr ?_; (case hd => rfl); (case hg => rfl); (case hr => first | (go_simp; done) | (go_simp; rfl)); intro gb856 hg w10 hbox hb; have n0_ := Aside0.mk (Kd.R_below (viaR HO854.out) hb); have n1_ := Aside0.mk (blk_below (g := gb847) (o := .cells #[.int .i64 0, .slice none 0 0] 30 (0, 0)) (viaB BK847.out) hb); have n2_ := Aside0.mk (IsS84.below (by repeat (first | (with_reducible first | exact HI850.out | apply IsS84.alloc | apply IsS84.drewN | apply IsS84.drew | apply IsS84.set_1 | refine IsS84.far ?_ NB850_847.out _) | exact HI850.out)) hb); have n3_ := Aside0.mk (below_step (by repeat (first | (with_reducible first | exact HB.out | apply below_alloc | apply pw_below_drewN | apply below_drew1 | refine below_set ?_ (IsS84.ge HI850.out) | refine below_set ?_ GE847.out) | exact HB.out)) hb); have n4_ := Aside0.mk (hbox); have n5_ := Aside0.mk ((by rw [hg]; exact (below_size (by repeat (first | (with_reducible first | exact HB.out | apply below_alloc | apply pw_below_drewN | apply below_drew1 | refine below_set ?_ (IsS84.ge HI850.out) | refine below_set ?_ GE847.out) | exact HB.out))) : w.heap.size ≤ gb856)); have n6_ := Aside0.mk ((by rw [hg]; exact (below_size (by repeat (first | (with_reducible first | exact HB.out | apply below_alloc | apply pw_below_drewN | apply below_drew1 | refine below_set ?_ (IsS84.ge HI850.out) | refine below_set ?_ GE847.out) | exact HB.out))) : w.heap.size ≤ gb856)); have n7_ := Aside0.mk ((by rw [hg]; exact Nat.ne_of_lt (blk_lt (g := gb847) (o := .cells #[.int .i64 0, .slice none 0 0] 30 (0, 0)) (viaB BK847.out)) : gb847 ≠ gb856)); have n8_ := Aside0.mk ((by rw [hg]; exact Nat.ne_of_gt (blk_lt (g := gb847) (o := .cells #[.int .i64 0, .slice none 0 0] 30 (0, 0)) (viaB BK847.out)) : gb856 ≠ gb847)); have n9_ := Aside0.mk ((by rw [hg]; exact Nat.ne_of_lt (IsS84.lt (show IsS84 w _ g850 t848 t855 from by repeat (first | (with_reducible first | exact HI850.out | apply IsS84.alloc | apply IsS84.drewN | apply IsS84.drew | apply IsS84.set_1 | refine IsS84.far ?_ NB850_847.out _) | exact HI850.out))) : g850 ≠ gb856)); have n10_ := Aside0.mk ((by rw [hg]; exact Nat.ne_of_gt (IsS84.lt (show IsS84 w _ g850 t848 t855 from by repeat (first | (with_reducible first | exact HI850.out | apply IsS84.alloc | apply IsS84.drewN | apply IsS84.drew | apply IsS84.set_1 | refine IsS84.far ?_ NB850_847.out _) | exact HI850.out))) : gb856 ≠ g850)); clear HO854; clear BK847; clear HI850; clear HB; have HO854 := n0_; have BK847 := n1_; have HI850 := n2_; have HB := n3_; have BK856 := n4_; have GW856 := n5_; have GE856 := n6_; have NB847_856 := n7_; have NB856_847 := n8_; have NB850_856 := n9_; have NB856_850 := n10_; clear n0_ n1_ n2_ n3_ n4_ n5_ n6_ n7_ n8_ n9_ n10_; clear hb hbox hg; have hnb11 := NB856_847.out; have hnc11 := NB847_856.out; have hnb12 := NB856_850.out; have hnc12 := NB850_856.out; have hcz13_0 : w10.cell? ⟨gb856, 0, none⟩ = some (.int .i64 0) := (blk_cell BK856.out 0).trans rfl; have hcz13_1 : w10.cell? ⟨gb856, 1, none⟩ = some (.slice none 0 0) := (blk_cell BK856.out 1).trans rfl; have hfz13_0 := blk_frozen BK856.out 0; have hfz13_1 := blk_frozen BK856.out 1; obtain ⟨Ao14, co14, eo14⟩ := Kd.R_slice HO854.out; subst eo14))
 have n0_ : Aside0 (Kd.R k44 44 ((w10.setCell ⟨gb856, 0, none⟩ (.int .i64 t851)).setCell ⟨gb856, 1, none⟩ (.slice Ao14 t852.length co14)) w.heap.size (fun _ => True) (.slice Ao14 t852.length co14) t852) := ⟨by (with_reducible repeat (first | apply Kd.R_alloc | apply Kd.R_drewN | apply Kd.R_drew)); exact Kd.R_mono (Kd.R_far (p := ⟨gb856, 1, none⟩) (Kd.R_far (p := ⟨gb856, 0, none⟩) (Kd.R_types HO854.out BK856.out (by decide)) (fun _ hk => hk.2) (.int .i64 t851)) (fun _ hk => hk.2) (.slice Ao14 t852.length co14)) (fun _ hk => trivial)⟩; have n1_ : Aside0 (((w10.setCell ⟨gb856, 0, none⟩ (.int .i64 t851)).setCell ⟨gb856, 1, none⟩ (.slice Ao14 t852.length co14)).heap[gb847]? = some (.cells #[.int .i64 0, .slice none 0 0] 30 (0, 0))) := ⟨by (with_reducible repeat (first | refine blk_drewN ?_ _ | refine blk_drew ?_ | refine blk_alloc ?_ _)); refine blk_far ?_ NB847_856.out _; (with_reducible repeat (first | refine blk_drewN ?_ _ | refine blk_drew ?_ | refine blk_alloc ?_ _)); refine blk_far ?_ NB847_856.out _; (with_reducible repeat (first | refine blk_drewN ?_ _ | refine blk_drew ?_ | refine blk_alloc ?_ _)); exact BK847.out⟩; have n2_ : Aside0 (((w10.setCell ⟨gb856, 0, none⟩ (.int .i64 t851)).setCell ⟨gb856, 1, none⟩ (.slice Ao14 t852.length co14)).heap[gb856]? = some (.cells #[.int .i64 t851, .slice Ao14 t852.length co14] 30 (0, 0))) := ⟨by (with_reducible repeat (first | refine blk_drewN ?_ _ | refine blk_drew ?_ | refine blk_alloc ?_ _)); refine blk_put (cs := #[.int .i64 t851, .slice none 0 0]) ?_ 1 _ rfl; (with_reducible repeat (first | refine blk_drewN ?_ _ | refine blk_drew ?_ | refine blk_alloc ?_ _)); refine blk_put (cs := #[.int .i64 0, .slice none 0 0]) ?_ 0 _ rfl; (with_reducible repeat (first | refine blk_drewN ?_ _ | refine blk_drew ?_ | refine blk_alloc ?_ _)); exact BK856.out⟩; have n3_ : Aside0 (IsS84 w ((w10.setCell ⟨gb856, 0, none⟩ (.int .i64 t851)).setCell ⟨gb856, 1, none⟩ (.slice Ao14 t852.length co14)) g850 t848 t855) := ⟨by repeat (first | (with_reducible first | exact HI850.out | apply IsS84.alloc | apply IsS84.drewN | apply IsS84.drew | apply IsS84.set_1 | refine IsS84.far ?_ NB850_847.out _ | refine IsS84.far ?_ NB850_856.out _) | exact HI850.out)⟩; have n4_ : Aside0 (Below w.heap.size w ((w10.setCell ⟨gb856, 0, none⟩ (.int .i64 t851)).setCell ⟨gb856, 1, none⟩ (.slice Ao14 t852.length co14))) := ⟨by repeat (first | (with_reducible first | exact HB.out | apply below_alloc | apply pw_below_drewN | apply below_drew1 | refine below_set ?_ (IsS84.ge HI850.out) | refine below_set ?_ GE847.out | refine below_set ?_ GE856.out) | exact HB.out)⟩
 (try clear HO854)
 (try clear BK847)
 (try clear BK856)
 (try clear HI850)
 (try clear HB)
 generalize ((w10.setCell ⟨gb856, 0, none⟩ (.int .i64 t851)).setCell ⟨gb856, 1, none⟩ (.slice Ao14 t852.length co14)) = w15 at n0_ n1_ n2_ n3_ n4_ ⊢
 have HO854 := n0_; have BK847 := n1_; have BK856 := n2_; have HI850 := n3_; have HB := n4_; clear n0_ n1_ n2_ n3_ n4_; have n0_ := Aside0.mk (Kd.R_drew HO854.out); have n1_ := Aside0.mk (blk_drew BK847.out); have n2_ := Aside0.mk (blk_drew BK856.out); have n3_ := Aside0.mk (IsS84.drew HI850.out); have n4_ := Aside0.mk (below_drew1 HB.out); clear HO854; clear BK847; clear BK856; clear HI850; clear HB; have HO854 := n0_; have BK847 := n1_; have BK856 := n2_; have HI850 := n3_; have HB := n4_; clear n0_ n1_ n2_ n3_ n4_
 refine start_ (n := 10) (S := fun w' => w'.cell? ⟨gb856, 0, none⟩ = some (.int .i64 t851) ∧ w'.cell? ⟨gb856, 1, none⟩ = some (.slice Ao14 t852.length co14)) (ds := []) #[false, false, false, false, false, false, false, false, false, false] (by kernel_rfl) rfl rfl ⟨(blk_cell BK856.out 0).trans rfl, (blk_cell BK856.out 1).trans rfl⟩ (fun hHeld => ?_); refine with_tabW spec_l92Row.tab3 spec_l92Row.bits3 (fun HT_ HW_ => ?_)
 generalize w15.drew = w16 at HO854 BK847 BK856 HI850 HB hHeld ⊢
 refine pure_ (i := 1) (N := some 15) (v := ?_) (a' := ?_) #[false, true, false, false, false, false, false, false, false, false] rfl rfl (any_of HT_.out (by kernel_rfl)) (fun _ _ _ h => h) (Or.inl ⟨by rfl, ?_⟩) ?_ ?_
 rotate_left
 ·intro w'
  go_simp
  with_reducible rfl
 rotate_left
 ·simp only [Act.put, List.setIfInBounds_toArray, List.set_cons_zero, List.set_cons_succ, i64_w, i32_w]
  rfl
 refine take_ (i := 0) (N := some 14) (v := ?_) (a' := ?_) #[true, true, false, false, false, false, false, false, false, false] rfl rfl (take_ofW HT_.out HW_.out (by kernel_rfl)) (fun _ _ _ h => h) (Or.inl ⟨by rfl, ?_⟩) hHeld ?_ ?_
 rotate_left
 ·rintro w' ⟨s0, s1⟩
  go_simp
  with_reducible rfl
 rotate_left
 ·simp only [Act.put, List.setIfInBounds_toArray, List.set_cons_zero, List.set_cons_succ, i64_w, i32_w]
  rfl
 refine take_ (i := 2) (N := some 16) (v := ?_) (a' := ?_) #[true, true, true, false, false, false, false, false, false, false] rfl rfl (take_ofW HT_.out HW_.out (by kernel_rfl)) (fun _ _ _ h => h) (Or.inl ⟨by rfl, ?_⟩) hHeld ?_ ?_
 rotate_left
 ·rintro w' ⟨s0, s1⟩
  go_simp
  with_reducible rfl
 rotate_left
 ·simp only [Act.put, List.setIfInBounds_toArray, List.set_cons_zero, List.set_cons_succ, i64_w, i32_w]
  rfl
 refine one_ (i := 3) (N := some 17) #[true, true, true, true, false, false, false, false, false, false] rfl rfl (one_of HT_.out (by kernel_rfl)) (by decide) (fun K hK => ?_)
 refine goes_ Try.func117 (by kernel_rfl) rfl #[.pointer (some ⟨g850, 0, none⟩), .agg #[.int .i64 t851, .slice Ao14 t852.length co14]] (by rfl) rfl rfl (by (try simp only [List.map_toArray, List.map_cons, List.map_nil]); first | done | rfl | (simp only [List.length_drop, List.length_take]; rfl)) ?_
 with_reducible refine (spec_l91Way.calls k g850 t848 t855 t851 _ _ t852 t857 t858 w _ ?side1 ?side2 ?side3 ?side4 A4.out).mono ?_
 (case side1 => repeat (first | (with_reducible first | exact HI850.out | apply IsS84.alloc | apply IsS84.drewN | apply IsS84.drew | apply IsS84.set_1 | refine IsS84.far ?_ NB850_847.out _ | refine IsS84.far ?_ NB850_856.out _) | exact HI850.out))
 (case side2 => repeat (first | (with_reducible first | exact HB.out | apply below_alloc | apply pw_below_drewN | apply below_drew1 | refine below_set ?_ (IsS84.ge HI850.out) | refine below_set ?_ GE847.out | refine below_set ?_ GE856.out) | exact HB.out))
 (case side3 => exact Kd.C_foot_own (IsS84.apart (show IsS84 w _ g850 t848 t855 from by repeat (first | (with_reducible first | exact HI850.out | apply IsS84.alloc | apply IsS84.drewN | apply IsS84.drew | apply IsS84.set_1 | refine IsS84.far ?_ NB850_847.out _ | refine IsS84.far ?_ NB850_856.out _) | exact HI850.out)) (viaR HO854.out) (by decide)) (fun _ h_ => h_.2))
 (case side4 => exact (Kd.R_reads' HO854.out).2.1)
 rintro e w17 ⟨rfl, hi, hb, hk⟩
 refine ⟨_, rfl, ?_⟩
 have n0_ := Aside0.mk (KeepBut.blk hk (g' := gb847) (o := .cells #[.int .i64 0, .slice none 0 0] 30 (0, 0)) (viaB BK847.out) NB847_850.out (by simp)); have n1_ := Aside0.mk (Kd.R_mono (Kd.R_keep (IsS84.apart (show IsS84 w _ g850 t848 t855 from by repeat (first | (with_reducible first | exact HI850.out | apply IsS84.alloc | apply IsS84.drewN | apply IsS84.drew | apply IsS84.set_1 | refine IsS84.far ?_ NB850_847.out _ | refine IsS84.far ?_ NB850_856.out _) | exact HI850.out)) (viaR HO854.out) (by decide)) hk (fun _ h => h.2)) (fun _ h => h.1)); have n2_ := Aside0.mk (KeepBut.blk hk (g' := gb856) (o := .cells #[.int .i64 t851, .slice Ao14 t852.length co14] 30 (0, 0)) (viaB BK856.out) NB856_850.out (by simp)); have n3_ := Aside0.mk (hb); have n4_ := Aside0.mk (hi); clear BK847; clear HO854; clear BK856; clear HB; clear HI850; have BK847 := n0_; have HO854 := n1_; have BK856 := n2_; have HB := n3_; have HI850 := n4_; clear n0_ n1_ n2_ n3_ n4_
 (try clear hb)
 (try clear hb2)
 (try clear hk)
 (try clear hi)
 refine hK.out _ _ ⟨(blk_cell BK856.out 0).trans rfl, (blk_cell BK856.out 1).trans rfl⟩ (fun hHeld => ?_)
 clear hK K
 refine norm_ (a' := ?_) ?_ ?_
 rotate_left
 ·show Act.put _ (some 17) _ = _
  simp only [Act.put, List.setIfInBounds_toArray, List.set_cons_zero, List.set_cons_succ, i64_w, i32_w]
  rfl
 refine one_ (i := 4) (N := some 18) #[true, true, true, true, true, false, false, false, false, false] rfl rfl (one_of HT_.out (by kernel_rfl)) (by decide) (fun K hK => ?_)
 refine goes_ Try.func123 (by kernel_rfl) rfl #[.agg #[.int .i64 t851, .slice Ao14 t852.length co14], .int .i64 t857] (by rfl) rfl rfl (by (try simp only [List.map_toArray, List.map_cons, List.map_nil]); first | done | rfl | (simp only [List.length_drop, List.length_take]; rfl)) ?_
 with_reducible refine (spec_WayOut.calls k t851 _ _ t852 t857 t859 t862 _ ?side1 ?side2 A5.out).mono ?_
 (case side1 => repeat (first | exact (Kd.R_reads' HO854.out).2.2 | (with_reducible refine Kd.C_alloc ?_ _) | (with_reducible refine Kd.C_drewN ?_ _) | (with_reducible refine Kd.C_drew ?_)))
 (case side2 => exact (Kd.R_reads' HO854.out).2.1)
 rintro e w18 ⟨v860, rfl, ho0, hb⟩
 refine ⟨_, rfl, ?_⟩
 have n0_ := Aside0.mk (Kd.R_below (viaR HO854.out) hb); have n1_ := Aside0.mk (Kd.R_lower ho0 (below_size (by repeat (first | (with_reducible first | exact HB.out | apply below_alloc | apply pw_below_drewN | apply below_drew1 | refine below_set ?_ (IsS84.ge HI850.out) | refine below_set ?_ GE847.out | refine below_set ?_ GE856.out) | exact HB.out)))); have n2_ := Aside0.mk (blk_below (g := gb847) (o := .cells #[.int .i64 0, .slice none 0 0] 30 (0, 0)) (viaB BK847.out) hb); have n3_ := Aside0.mk (IsS84.below (by repeat (first | (with_reducible first | exact HI850.out | apply IsS84.alloc | apply IsS84.drewN | apply IsS84.drew | apply IsS84.set_1 | refine IsS84.far ?_ NB850_847.out _ | refine IsS84.far ?_ NB850_856.out _) | exact HI850.out)) hb); have n4_ := Aside0.mk (blk_below (g := gb856) (o := .cells #[.int .i64 t851, .slice Ao14 t852.length co14] 30 (0, 0)) (viaB BK856.out) hb); have n5_ := Aside0.mk (below_step (by repeat (first | (with_reducible first | exact HB.out | apply below_alloc | apply pw_below_drewN | apply below_drew1 | refine below_set ?_ (IsS84.ge HI850.out) | refine below_set ?_ GE847.out | refine below_set ?_ GE856.out) | exact HB.out)) hb); clear HO854; clear BK847; clear HI850; clear BK856; clear HB; have HO854 := n0_; have HO861 := n1_; have BK847 := n2_; have HI850 := n3_; have BK856 := n4_; have HB := n5_; clear n0_ n1_ n2_ n3_ n4_ n5_
 (try clear hb)
 (try clear hb2)
 (try clear hk)
 (try clear hi)
 (try clear ho0)
 refine hK.out _ _ ⟨(blk_cell BK856.out 0).trans rfl, (blk_cell BK856.out 1).trans rfl⟩ (fun hHeld => ?_)
 clear hK K
 refine norm_ (a' := ?_) ?_ ?_
 rotate_left
 ·show Act.put _ (some 18) _ = _
  simp only [Act.put, List.setIfInBounds_toArray, List.set_cons_zero, List.set_cons_succ, i64_w, i32_w]
  rfl
 refine pure_ (i := 5) (N := some 13) (v := ?_) (a' := ?_) #[true, true, true, true, true, true, false, false, false, false] rfl rfl (any_of HT_.out (by kernel_rfl)) (fun _ _ _ h => h) (Or.inl ⟨by rfl, ?_⟩) ?_ ?_
 rotate_left
 ·intro w'
  go_simp
  with_reducible rfl
 rotate_left
 ·simp only [Act.put, List.setIfInBounds_toArray, List.set_cons_zero, List.set_cons_succ, i64_w, i32_w]
  rfl
 refine pure_ (i := 6) (N := some 19) (v := ?_) (a' := ?_) #[true, true, true, true, true, true, true, false, false, false] rfl rfl (any_of HT_.out (by kernel_rfl)) (fun _ _ _ h => h) (Or.inl ⟨by rfl, ?_⟩) ?_ ?_
 rotate_left
 ·intro w'
  go_simp
  with_reducible rfl
 rotate_left
 ·simp only [Act.put, List.setIfInBounds_toArray, List.set_cons_zero, List.set_cons_succ, i64_w, i32_w]
  rfl
 refine pure_ (i := 7) (N := some 20) (v := ?_) (a' := ?_) #[true, true, true, true, true, true, true, true, false, false] rfl rfl (any_of HT_.out (by kernel_rfl)) (fun _ _ _ h => h) (Or.inl ⟨by rfl, ?_⟩) ?_ ?_
 rotate_left
 ·intro w'
  go_simp
  with_reducible rfl
 rotate_left
 ·simp only [Act.put, List.setIfInBounds_toArray, List.set_cons_zero, List.set_cons_succ, i64_w, i32_w]
  rfl
 refine pure_ (i := 8) (N := some 6) (v := ?_) (a' := ?_) #[true, true, true, true, true, true, true, true, true, false] rfl rfl (any_of HT_.out (by kernel_rfl)) (fun _ _ _ h => h) (Or.inl ⟨by rfl, ?_⟩) ?_ ?_
 rotate_left
 ·intro w'
  go_simp
  with_reducible rfl
 rotate_left
 ·simp only [Act.put, List.setIfInBounds_toArray, List.set_cons_zero, List.set_cons_succ, i64_w, i32_w]
  rfl
 refine pure_ (i := 9) (N := some 7) (v := ?_) (a' := ?_) #[true, true, true, true, true, true, true, true, true, true] rfl rfl (any_of HT_.out (by kernel_rfl)) (fun _ _ _ h => h) (Or.inl ⟨by rfl, ?_⟩) ?_ ?_
 rotate_left
 ·intro w'
  go_simp
  with_reducible rfl
 rotate_left
 ·simp only [Act.put, List.setIfInBounds_toArray, List.set_cons_zero, List.set_cons_succ, i64_w, i32_w]
  rfl
 refine done_ (done_of HT_.out (by kernel_rfl)) ?_
 go_upto_region 4 with (fail)
 go_cut [27] (fun v27 wc => ∃ (kq : Nat) (x27_5 : Bool) (x851001_5 : Int), v27 = .bool x27_5 ∧ Aside0 (spec_l92Row.j0 kq t859 x27_5 t848 x851001_5 t851 t852 = some (r1, r2, r3)) ∧ Aside0 (kq ≤ k) ∧ Aside0 (Kd.R (Kd.int .i64) 3 wc w.heap.size (fun _ => True) v860 t859) ∧ Aside0 (Kd.R k44 44 wc w.heap.size (fun _ => True) (.slice Ao14 t852.length co14) t852) ∧ Aside0 (wc.heap[gb847]? = some (.cells #[.int .i64 0, (.slice none 0 0)] 30 (0, 0))) ∧ Aside0 (wc.heap[gb856]? = some (.cells #[.int .i64 t851, (.slice Ao14 t852.length co14)] 30 (0, 0))) ∧ Aside0 (IsS84 w wc g850 t848 x851001_5) ∧ Aside0 (Below w.heap.size w wc))
 case first =>
  have H := HC6.out; clear HC6
  by_cases c19 : t862 = true
  ·subst c19
   have H1 : ((spec_l6Rd_pick.f k t848 t858 4).bind fun bt863 => (spec_l92Row.j0 k t859 (bt863.1 == 0) t848 bt863.2 t851 t852)) = some (r1, r2, r3) := by rw [if_pos rfl] at H; exact H
   clear H; have H := H1; clear H1; replace H := Option.bind_eq_some_iff.mp H; obtain ⟨⟨t863, t864⟩, A200, H⟩ := H; replace H : (spec_l92Row.j0 k t859 (t863 == 0) t848 t864 t851 t852) = some (r1, r2, r3) := H; have A20 := Aside0.mk A200; clear A200; have H' := Aside0.mk H; clear H
   go_wp2_with (first | (go_at_call 118; (with_reducible refine (spec_l6Rd_pick.calls k g850 t848 t858 4 t863 t864 w _ ?side1 ?side2 A20.out).mono ?_); (case side1 => repeat (first | (with_reducible first | exact HI850.out | apply IsS84.alloc | apply IsS84.drewN | apply IsS84.drew | apply IsS84.set_1 | refine IsS84.far ?_ NB850_847.out _ | refine IsS84.far ?_ NB850_856.out _) | exact HI850.out)); (case side2 => repeat (first | (with_reducible first | exact HB.out | apply below_alloc | apply pw_below_drewN | apply below_drew1 | refine below_set ?_ (IsS84.ge HI850.out) | refine below_set ?_ GE847.out | refine below_set ?_ GE856.out) | exact HB.out)); rintro e w21 ⟨rfl, hi, hb, hk⟩; have n0_ := Aside0.mk (KeepBut.blk hk (g' := gb847) (o := .cells #[.int .i64 0, .slice none 0 0] 30 (0, 0)) (viaB BK847.out) NB847_850.out (by simp)); have n1_ := Aside0.mk (Kd.R_mono (Kd.R_keep (IsS84.apart (show IsS84 w _ g850 t848 t858 from by repeat (first | (with_reducible first | exact HI850.out | apply IsS84.alloc | apply IsS84.drewN | apply IsS84.drew | apply IsS84.set_1 | refine IsS84.far ?_ NB850_847.out _ | refine IsS84.far ?_ NB850_856.out _) | exact HI850.out)) (viaR HO854.out) (by decide)) hk (fun _ h => h.2)) (fun _ h => h.1)); have n2_ := Aside0.mk (KeepBut.blk hk (g' := gb856) (o := .cells #[.int .i64 t851, .slice Ao14 t852.length co14] 30 (0, 0)) (viaB BK856.out) NB856_850.out (by simp)); have n3_ := Aside0.mk (Kd.R_mono (Kd.R_keep (IsS84.apart (show IsS84 w _ g850 t848 t858 from by repeat (first | (with_reducible first | exact HI850.out | apply IsS84.alloc | apply IsS84.drewN | apply IsS84.drew | apply IsS84.set_1 | refine IsS84.far ?_ NB850_847.out _ | refine IsS84.far ?_ NB850_856.out _) | exact HI850.out)) (viaR HO861.out) (by decide)) hk (fun _ h => h.2)) (fun _ h => h.1)); have n4_ := Aside0.mk (hb); have n5_ := Aside0.mk (hi); clear BK847; clear HO854; clear BK856; clear HO861; clear HB; clear HI850; have BK847 := n0_; have HO854 := n1_; have BK856 := n2_; have HO861 := n3_; have HB := n4_; have HI850 := n5_; clear n0_ n1_ n2_ n3_ n4_ n5_; (try clear hb); (try clear hb2); (try clear hk); (try clear hi)))
   go_meet
   case rel => exact ⟨_, ((t863 == 0)), (t864), (by first | rfl | (simp; done) | (simp [*]; done)), H', ⟨by first | omega | exact Nat.le_refl _⟩, ⟨viaR HO861.out⟩, ⟨viaR HO854.out⟩, ⟨viaB BK847.out⟩, ⟨viaB BK856.out⟩, ⟨by repeat (first | (with_reducible first | exact HI850.out | apply IsS84.alloc | apply IsS84.drewN | apply IsS84.drew | apply IsS84.set_1 | refine IsS84.far ?_ NB850_847.out _ | refine IsS84.far ?_ NB850_856.out _) | exact HI850.out)⟩, ⟨by repeat (first | (with_reducible first | exact HB.out | apply below_alloc | apply pw_below_drewN | apply below_drew1 | refine below_set ?_ (IsS84.ge HI850.out) | refine below_set ?_ GE847.out | refine below_set ?_ GE856.out) | exact HB.out)⟩⟩
  ·replace c19 := Bool.eq_false_iff.mpr c19
   subst c19; have H1 : (spec_l92Row.j0 k t859 true t848 t858 t851 t852) = some (r1, r2, r3) := by rw [if_neg (show ¬ (false = true) by decide)] at H; exact H
   clear H; have H := H1; clear H1; have H' := Aside0.mk H; clear H
   go_wp2
   go_meet
   case rel => exact ⟨_, (true), (t858), (by first | rfl | (simp; done) | (simp [*]; done)), H', ⟨by first | omega | exact Nat.le_refl _⟩, ⟨viaR HO861.out⟩, ⟨viaR HO854.out⟩, ⟨viaB BK847.out⟩, ⟨viaB BK856.out⟩, ⟨by repeat (first | (with_reducible first | exact HI850.out | apply IsS84.alloc | apply IsS84.drewN | apply IsS84.drew | apply IsS84.set_1 | refine IsS84.far ?_ NB850_847.out _ | refine IsS84.far ?_ NB850_856.out _) | exact HI850.out)⟩, ⟨by repeat (first | (with_reducible first | exact HB.out | apply below_alloc | apply pw_below_drewN | apply below_drew1 | refine below_set ?_ (IsS84.ge HI850.out) | refine below_set ?_ GE847.out | refine below_set ?_ GE856.out) | exact HB.out)⟩⟩
 case rest =>
  clear HC6
  try clear c1
  try clear p2
  try clear c8
  try clear c10
  try clear c11
  try clear c12
  try clear c19
  try clear hcz13_0
  try clear hcz13_1
  try clear hfz13_0
  try clear hfz13_1
  obtain ⟨kq, x27_5, x851001_5, rfl, HA, HJ5, HO_6, HO_857001, BK847, BK856, HI850, HB⟩ := hcut
  cases kq with
  | zero => exact absurd HA.out (by simp [spec_l92Row.j0])
  | succ kj5 =>
   have H := HA.out; clear HA
   simp only [spec_l92Row.j0] at H
   by_cases c22 : x27_5 = true
   ·subst c22
    have H1 : (spec_l92Row.l0 kj5 (([] : List Int)) 0 t848 x851001_5 t851 t852) = some (r1, r2, r3) := by rw [if_pos rfl] at H; exact H
    clear H; have H := H1; clear H1; obtain ⟨y865, hy865⟩ : ∃ y_ : List Int, y_ = (([] : List Int)) := ⟨_, rfl⟩; replace H : (spec_l92Row.l0 kj5 y865 0 t848 x851001_5 t851 t852) = some (r1, r2, r3) := by first | (rw [hy865]; with_reducible exact H) | (have H2_ := (Option.bind_some _ _).symm.trans H; rw [hy865]; with_reducible exact H2_) | (have H2_ := (Option.bind_some _ _).symm.trans H; with_reducible exact H2_) | with_reducible exact H | (rw [hy865]; exact H) | exact H
    have Ny865 := Aside0.mk hy865; clear hy865; have H' := Aside0.mk H; clear H
    go_wp2_with (first | ((with_reducible refine gate_dst (N := 28) rfl ?_); refine Kd.R_lit (Kd.int .i64) _ 3 ?hg (N := 28) ?hd (xs := ([] : List Int)) (inner := []) (ok := fun _ => True) (okp := fun _ => True) ?hr ?hp (fun _ hk => hk) trivial (Below.refl _ _) (Nat.le_refl _) (by simp) ?_; (case hd => rfl); (case hg => rfl); (case hr => first | (go_simp; done) | (go_simp; rfl)); (case hp => exact (Reps.none _ _)); intro v866 w23 ho24 hb hg_ hnew_; clear hg_ hnew_; (first | rw [← Ny865.out] at ho24 | (simp only [Int.reduceToNat] at ho24; rw [← Ny865.out] at ho24)); have n0_ := Aside0.mk (Kd.R_elder' (viaR HO_6.out) (Kd.R_base ho24) hb); have n1_ := Aside0.mk (Kd.R_below (viaR HO_857001.out) hb); have n2_ := Aside0.mk (Kd.R_lower (Kd.R_new' ho24 (Kd.R_lt (viaR HO_6.out))) (below_size (by repeat (first | (with_reducible first | exact HB.out | apply below_alloc | apply pw_below_drewN | apply below_drew1 | refine below_set ?_ (IsS84.ge HI850.out) | refine below_set ?_ GE847.out | refine below_set ?_ GE856.out) | exact HB.out)))); have n3_ := Aside0.mk (blk_below (g := gb847) (o := .cells #[.int .i64 0, .slice none 0 0] 30 (0, 0)) (viaB BK847.out) hb); have n4_ := Aside0.mk (blk_below (g := gb856) (o := .cells #[.int .i64 t851, .slice Ao14 t852.length co14] 30 (0, 0)) (viaB BK856.out) hb); have n5_ := Aside0.mk (IsS84.below (by repeat (first | (with_reducible first | exact HI850.out | apply IsS84.alloc | apply IsS84.drewN | apply IsS84.drew | apply IsS84.set_1 | refine IsS84.far ?_ NB850_847.out _ | refine IsS84.far ?_ NB850_856.out _) | exact HI850.out)) hb); have n6_ := Aside0.mk (below_step (by repeat (first | (with_reducible first | exact HB.out | apply below_alloc | apply pw_below_drewN | apply below_drew1 | refine below_set ?_ (IsS84.ge HI850.out) | refine below_set ?_ GE847.out | refine below_set ?_ GE856.out) | exact HB.out)) hb); clear HO_6; clear HO_857001; clear BK847; clear BK856; clear HI850; clear HB; have HO_6 := n0_; have HO_857001 := n1_; have HO867 := n2_; have BK847 := n3_; have BK856 := n4_; have HI850 := n5_; have HB := n6_; clear n0_ n1_ n2_ n3_ n4_ n5_ n6_; clear hb ho24))
    go_loopg [6, 8] kj5 (fun kq v6 v8 w' => ∃ (x6_2 : List Int) (x8_2 : Int) (x851001_2 : Int), v8 = .int .i64 x8_2 ∧ Aside0 (spec_l92Row.l0 kq x6_2 x8_2 t848 x851001_2 t851 t852 = some (r1, r2, r3)) ∧ Aside0 (kq ≤ kj5) ∧ Aside0 (Kd.R (Kd.int .i64) 3 w' w.heap.size (fun _ => True) v6 x6_2) ∧ Aside0 (Kd.R k44 44 w' w.heap.size (fun _ => True) (.slice Ao14 t852.length co14) t852) ∧ Aside0 (w'.heap[gb847]? = some (.cells #[.int .i64 0, (.slice none 0 0)] 30 (0, 0))) ∧ Aside0 (w'.heap[gb856]? = some (.cells #[.int .i64 t851, (.slice Ao14 t852.length co14)] 30 (0, 0))) ∧ Aside0 (IsS84 w w' g850 t848 x851001_2) ∧ Aside0 (Below w.heap.size w w'))
    case atStart => exact ⟨(y865), (0), (x851001_5), (by first | rfl | (simp; done) | (simp [*]; done)), H', ⟨Nat.le_refl _⟩, ⟨by (with_reducible repeat (first | apply Kd.R_alloc | apply Kd.R_drewN | apply Kd.R_drew)); exact Kd.R_mono HO867.out (fun _ hk => trivial)⟩, ⟨viaR HO_857001.out⟩, ⟨viaB BK847.out⟩, ⟨viaB BK856.out⟩, ⟨by repeat (first | (with_reducible first | exact HI850.out | apply IsS84.alloc | apply IsS84.drewN | apply IsS84.drew | apply IsS84.set_1 | refine IsS84.far ?_ NB850_847.out _ | refine IsS84.far ?_ NB850_856.out _) | exact HI850.out)⟩, ⟨by repeat (first | (with_reducible first | exact HB.out | apply below_alloc | apply pw_below_drewN | apply below_drew1 | refine below_set ?_ (IsS84.ge HI850.out) | refine below_set ?_ GE847.out | refine below_set ?_ GE856.out) | exact HB.out)⟩⟩
    case round =>
     clear H'
     try clear c1
     try clear c2
     try clear p2
     try clear c8
     try clear c10
     try clear c11
     try clear c12
     try clear c19
     try clear c22
     try clear hcz13_0
     try clear hcz13_1
     try clear hfz13_0
     try clear hfz13_1
     try clear p2
     obtain ⟨x6_2, x8_2, x851001_2, rfl, HA, HK2, HO_6, HO_857001, BK847, BK856, HI850, HB⟩ := hrel
     cases gk with
     | zero => exact absurd HA.out (by simp [spec_l92Row.l0])
     | succ k2 =>
      have H := HA.out; clear HA
      simp only [spec_l92Row.l0] at H
      replace H := Option.bind_eq_some_iff.mp H; obtain ⟨⟨t868, t869⟩, A250, H⟩ := H; replace H : (if x8_2 < (wrap64 (t851 + (wrap64 (Int.tdiv t868 23)))) then ((spec_l6Rd_pick.f k2 t848 t869 4).bind fun bt870 => (if x6_2.length < 17592186044416 then (spec_l92Row.l0 k2 (x6_2 ++ [bt870.1]) (wrap64 (x8_2 + 1)) t848 bt870.2 t851 t852) else (none))) else (some (t851, t852, x6_2))) = some (r1, r2, r3) := H; have A25 := Aside0.mk A250; clear A250
      by_cases c26 : x8_2 < (wrap64 (t851 + (wrap64 (Int.tdiv t868 23))))
      ·rw [if_pos c26] at H
       have c26b0 : decide (x8_2 < (wrap64 (t851 + (wrap64 (Int.tdiv t868 23))))) = true := decide_eq_true c26; clear c26; replace H := Option.bind_eq_some_iff.mp H; obtain ⟨⟨t870, t871⟩, A270, H⟩ := H; replace H : (if x6_2.length < 17592186044416 then (spec_l92Row.l0 k2 (x6_2 ++ [t870]) (wrap64 (x8_2 + 1)) t848 t871 t851 t852) else (none)) = some (r1, r2, r3) := H; have A27 := Aside0.mk A270; clear A270
       by_cases c28 : x6_2.length < 17592186044416
       ·rw [if_pos c28] at H
        have LMc28 := Aside0.mk c28; clear c28; obtain ⟨y872, hy872⟩ : ∃ y_ : List Int, y_ = (x6_2 ++ [t870]) := ⟨_, rfl⟩; replace H : (spec_l92Row.l0 k2 y872 (wrap64 (x8_2 + 1)) t848 t871 t851 t852) = some (r1, r2, r3) := by first | (rw [hy872]; with_reducible exact H) | (have H2_ := (Option.bind_some _ _).symm.trans H; rw [hy872]; with_reducible exact H2_) | (have H2_ := (Option.bind_some _ _).symm.trans H; with_reducible exact H2_) | with_reducible exact H | (rw [hy872]; exact H) | exact H
        have Ny872 := Aside0.mk hy872; clear hy872; have H' := Aside0.mk H; clear H
        try go_wp2
        have n0_ := Aside0.mk (Kd.R_drew HO_6.out); have n1_ := Aside0.mk (Kd.R_drew HO_857001.out); have n2_ := Aside0.mk (blk_drew BK847.out); have n3_ := Aside0.mk (blk_drew BK856.out); have n4_ := Aside0.mk (IsS84.drew HI850.out); have n5_ := Aside0.mk (below_drew1 HB.out); clear HO_6; clear HO_857001; clear BK847; clear BK856; clear HI850; clear HB; have HO_6 := n0_; have HO_857001 := n1_; have BK847 := n2_; have BK856 := n3_; have HI850 := n4_; have HB := n5_; clear n0_ n1_ n2_ n3_ n4_ n5_
        refine start_ (n := 8) (S := fun w' => w'.cell? ⟨gb856, 0, none⟩ = some (.int .i64 t851) ∧ w'.cell? ⟨gb856, 1, none⟩ = some (.slice Ao14 t852.length co14)) (ds := []) #[false, false, false, false, false, false, false, false] (by kernel_rfl) rfl rfl ⟨(blk_cell BK856.out 0).trans rfl, (blk_cell BK856.out 1).trans rfl⟩ (fun hHeld => ?_); refine with_tabW spec_l92Row.tab7 spec_l92Row.bits7 (fun HT_ HW_ => ?_)
        generalize wr.drew = w29 at HO_6 HO_857001 BK847 BK856 HI850 HB hHeld ⊢
        refine pure_ (i := 0) (N := some 29) (v := ?_) (a' := ?_) #[true, false, false, false, false, false, false, false] rfl rfl (any_of HT_.out (by kernel_rfl)) (fun _ _ _ h => h) (Or.inl ⟨by rfl, ?_⟩) ?_ ?_
        rotate_left
        ·intro w'
         go_simp
         with_reducible rfl
        rotate_left
        ·simp only [Act.put, List.setIfInBounds_toArray, List.set_cons_zero, List.set_cons_succ, i64_w, i32_w]
         rfl
        refine pure_ (i := 1) (N := some 30) (v := ?_) (a' := ?_) #[true, true, false, false, false, false, false, false] rfl rfl (any_of HT_.out (by kernel_rfl)) (fun _ _ _ h => h) (Or.inl ⟨by rfl, ?_⟩) ?_ ?_
        rotate_left
        ·intro w'
         go_simp
         with_reducible rfl
        rotate_left
        ·simp only [Act.put, List.setIfInBounds_toArray, List.set_cons_zero, List.set_cons_succ, i64_w, i32_w]
         rfl
        refine pure_ (i := 3) (N := some 32) (v := ?_) (a' := ?_) #[true, true, false, true, false, false, false, false] rfl rfl (any_of HT_.out (by kernel_rfl)) (fun _ _ _ h => h) (Or.inl ⟨by rfl, ?_⟩) ?_ ?_
        rotate_left
        ·intro w'
         go_simp
         with_reducible rfl
        rotate_left
        ·simp only [Act.put, List.setIfInBounds_toArray, List.set_cons_zero, List.set_cons_succ, i64_w, i32_w]
         rfl
        refine take_ (i := 2) (N := some 31) (v := ?_) (a' := ?_) #[true, true, true, true, false, false, false, false] rfl rfl (take_ofW HT_.out HW_.out (by kernel_rfl)) (fun _ _ _ h => h) (Or.inl ⟨by rfl, ?_⟩) hHeld ?_ ?_
        rotate_left
        ·rintro w' ⟨s0, s1⟩
         go_simp
         with_reducible rfl
        rotate_left
        ·simp only [Act.put, List.setIfInBounds_toArray, List.set_cons_zero, List.set_cons_succ, i64_w, i32_w]
         rfl
        refine one_ (i := 4) (N := some 33) #[true, true, true, true, true, false, false, false] rfl rfl (one_of HT_.out (by kernel_rfl)) (by decide) (fun K hK => ?_)
        refine goes_ Try.func118 (by kernel_rfl) rfl #[.pointer (some ⟨g850, 0, none⟩), .int .i64 24] (by rfl) rfl rfl (by (try simp only [List.map_toArray, List.map_cons, List.map_nil]); first | done | rfl | (simp only [List.length_drop, List.length_take]; rfl)) ?_
        with_reducible refine (spec_l6Rd_pick.calls k2 g850 t848 x851001_2 24 t868 t869 w _ ?side1 ?side2 A25.out).mono ?_
        (case side1 => repeat (first | (with_reducible first | exact HI850.out | apply IsS84.alloc | apply IsS84.drewN | apply IsS84.drew | apply IsS84.set_1 | refine IsS84.far ?_ NB850_847.out _ | refine IsS84.far ?_ NB850_856.out _) | exact HI850.out))
        (case side2 => repeat (first | (with_reducible first | exact HB.out | apply below_alloc | apply pw_below_drewN | apply below_drew1 | refine below_set ?_ (IsS84.ge HI850.out) | refine below_set ?_ GE847.out | refine below_set ?_ GE856.out) | exact HB.out))
        rintro e w30 ⟨rfl, hi, hb, hk⟩
        refine ⟨_, rfl, ?_⟩
        have n0_ := Aside0.mk (Kd.R_mono (Kd.R_keep (IsS84.apart (show IsS84 w _ g850 t848 x851001_2 from by repeat (first | (with_reducible first | exact HI850.out | apply IsS84.alloc | apply IsS84.drewN | apply IsS84.drew | apply IsS84.set_1 | refine IsS84.far ?_ NB850_847.out _ | refine IsS84.far ?_ NB850_856.out _) | exact HI850.out)) (viaR HO_6.out) (by decide)) hk (fun _ h => h.2)) (fun _ h => h.1)); have n1_ := Aside0.mk (Kd.R_mono (Kd.R_keep (IsS84.apart (show IsS84 w _ g850 t848 x851001_2 from by repeat (first | (with_reducible first | exact HI850.out | apply IsS84.alloc | apply IsS84.drewN | apply IsS84.drew | apply IsS84.set_1 | refine IsS84.far ?_ NB850_847.out _ | refine IsS84.far ?_ NB850_856.out _) | exact HI850.out)) (viaR HO_857001.out) (by decide)) hk (fun _ h => h.2)) (fun _ h => h.1)); have n2_ := Aside0.mk (KeepBut.blk hk (g' := gb847) (o := .cells #[.int .i64 0, .slice none 0 0] 30 (0, 0)) (viaB BK847.out) NB847_850.out (by simp)); have n3_ := Aside0.mk (KeepBut.blk hk (g' := gb856) (o := .cells #[.int .i64 t851, .slice Ao14 t852.length co14] 30 (0, 0)) (viaB BK856.out) NB856_850.out (by simp)); have n4_ := Aside0.mk (hb); have n5_ := Aside0.mk (hi); clear HO_6; clear HO_857001; clear BK847; clear BK856; clear HB; clear HI850; have HO_6 := n0_; have HO_857001 := n1_; have BK847 := n2_; have BK856 := n3_; have HB := n4_; have HI850 := n5_; clear n0_ n1_ n2_ n3_ n4_ n5_
        (try clear hb)
        (try clear hb2)
        (try clear hk)
        (try clear hi)
        refine hK.out _ _ ⟨(blk_cell BK856.out 0).trans rfl, (blk_cell BK856.out 1).trans rfl⟩ (fun hHeld => ?_)
        clear hK K
        refine norm_ (a' := ?_) ?_ ?_
        rotate_left
        ·show Act.put _ (some 33) _ = _
         simp only [Act.put, List.setIfInBounds_toArray, List.set_cons_zero, List.set_cons_succ, i64_w, i32_w]
         rfl
        refine pure_ (i := 5) (N := some 34) (v := ?_) (a' := ?_) #[true, true, true, true, true, true, false, false] rfl rfl (any_of HT_.out (by kernel_rfl)) (fun _ _ _ h => h) (Or.inl ⟨by rfl, ?_⟩) ?_ ?_
        rotate_left
        ·intro w'
         go_simp
         with_reducible rfl
        rotate_left
        ·simp only [Act.put, List.setIfInBounds_toArray, List.set_cons_zero, List.set_cons_succ, i64_w, i32_w]
         rfl
        refine pure_ (i := 6) (N := some 35) (v := ?_) (a' := ?_) #[true, true, true, true, true, true, true, false] rfl rfl (any_of HT_.out (by kernel_rfl)) (fun _ _ _ h => h) (Or.inl ⟨by rfl, ?_⟩) ?_ ?_
        rotate_left
        ·intro w'
         go_simp
         with_reducible rfl
        rotate_left
        ·simp only [Act.put, List.setIfInBounds_toArray, List.set_cons_zero, List.set_cons_succ, i64_w, i32_w]
         rfl
        refine pure_ (i := 7) (N := some 36) (v := ?_) (a' := ?_) #[true, true, true, true, true, true, true, true] rfl rfl (any_of HT_.out (by kernel_rfl)) (fun _ _ _ h => h) (Or.inl ⟨by rfl, ?_⟩) ?_ ?_
        rotate_left
        ·intro w'
         go_simp
         with_reducible rfl
        rotate_left
        ·simp only [Act.put, List.setIfInBounds_toArray, List.set_cons_zero, List.set_cons_succ, i64_w, i32_w]
         rfl
        refine done_ (done_of HT_.out (by kernel_rfl)) ?_
        try go_wp2_with (first | ((with_reducible refine gate_callee (f := 118) rfl ?_); refine goesL_ (some 41) rfl rfl Try.func118 (by kernel_rfl) rfl #[.pointer (some ⟨g850, 0, none⟩), .int .i64 4] rfl (by (try simp only [List.map_toArray, List.map_cons, List.map_nil]); first | done | rfl | (simp only [List.length_drop, List.length_take]; rfl)) ?_; (with_reducible refine (spec_l6Rd_pick.calls k2 g850 t848 t869 4 t870 t871 w _ ?side1 ?side2 A27.out).mono ?_); (case side1 => repeat (first | (with_reducible first | exact HI850.out | apply IsS84.alloc | apply IsS84.drewN | apply IsS84.drew | apply IsS84.set_1 | refine IsS84.far ?_ NB850_847.out _ | refine IsS84.far ?_ NB850_856.out _) | exact HI850.out)); (case side2 => repeat (first | (with_reducible first | exact HB.out | apply below_alloc | apply pw_below_drewN | apply below_drew1 | refine below_set ?_ (IsS84.ge HI850.out) | refine below_set ?_ GE847.out | refine below_set ?_ GE856.out) | exact HB.out)); rintro e w31 ⟨rfl, hi, hb, hk⟩; refine ⟨_, rfl, ?_⟩; have n0_ := Aside0.mk (Kd.R_mono (Kd.R_keep (IsS84.apart (show IsS84 w _ g850 t848 t869 from by repeat (first | (with_reducible first | exact HI850.out | apply IsS84.alloc | apply IsS84.drewN | apply IsS84.drew | apply IsS84.set_1 | refine IsS84.far ?_ NB850_847.out _ | refine IsS84.far ?_ NB850_856.out _) | exact HI850.out)) (viaR HO_6.out) (by decide)) hk (fun _ h => h.2)) (fun _ h => h.1)); have n1_ := Aside0.mk (Kd.R_mono (Kd.R_keep (IsS84.apart (show IsS84 w _ g850 t848 t869 from by repeat (first | (with_reducible first | exact HI850.out | apply IsS84.alloc | apply IsS84.drewN | apply IsS84.drew | apply IsS84.set_1 | refine IsS84.far ?_ NB850_847.out _ | refine IsS84.far ?_ NB850_856.out _) | exact HI850.out)) (viaR HO_857001.out) (by decide)) hk (fun _ h => h.2)) (fun _ h => h.1)); have n2_ := Aside0.mk (KeepBut.blk hk (g' := gb847) (o := .cells #[.int .i64 0, .slice none 0 0] 30 (0, 0)) (viaB BK847.out) NB847_850.out (by simp)); have n3_ := Aside0.mk (KeepBut.blk hk (g' := gb856) (o := .cells #[.int .i64 t851, .slice Ao14 t852.length co14] 30 (0, 0)) (viaB BK856.out) NB856_850.out (by simp)); have n4_ := Aside0.mk (hb); have n5_ := Aside0.mk (hi); clear HO_6; clear HO_857001; clear BK847; clear BK856; clear HB; clear HI850; have HO_6 := n0_; have HO_857001 := n1_; have BK847 := n2_; have BK856 := n3_; have HB := n4_; have HI850 := n5_; clear n0_ n1_ n2_ n3_ n4_ n5_; (try clear hb); (try clear hb2); (try clear hk); (try clear hi)) | ((with_reducible refine gate_builtin (b := .append) (xs := #[.tmp 39, .tmp 42]) rfl ?_); at_builtin; refine Kd.R_append (Kd.int .i64) (w0 := w) w.heap.size rfl (.tmp 39) (.tmp 42) 39 3 (.int .i64 0) 8 rfl Try.underlying39 info3 rfl (by decide) (by omega) u6 x6_2 t870 [.int .i64 t870] (fun _ => True) (fun _ => False) rfl rfl ?aP (fun _ hk => hk.elim) ?aF ?aO ?aB ?aS ?aL ?_; (case aP => exact rfl); (case aB => exact (by repeat (first | (with_reducible first | exact HB.out | apply below_alloc | apply pw_below_drewN | apply below_drew1 | refine below_set ?_ (IsS84.ge HI850.out) | refine below_set ?_ GE847.out | refine below_set ?_ GE856.out) | exact HB.out))); (case aF => exact (fun _ _ => trivial)); (case aO => exact (viaR HO_6.out)); (case aS => exact (below_size (by repeat (first | (with_reducible first | exact HB.out | apply below_alloc | apply pw_below_drewN | apply below_drew1 | refine below_set ?_ (IsS84.ge HI850.out) | refine below_set ?_ GE847.out | refine below_set ?_ GE856.out) | exact HB.out)))); (case aL => have := LMc28.out; omega); intro v873 w32 ho hb hg hat; rw [← Ny872.out] at ho; have n0_ := Aside0.mk (Kd.R_over' (viaR HO_857001.out) (Kd.R_typed (viaR HO_6.out)) (by decide) hg); have n1_ := Aside0.mk (blk_grown (g := gb847) (o := .cells #[.int .i64 0, .slice none 0 0] 30 (0, 0)) (viaB BK847.out) hg (Kd.R_ne HO_6.out BK847.out (by decide))); have n2_ := Aside0.mk (blk_grown (g := gb856) (o := .cells #[.int .i64 t851, .slice Ao14 t852.length co14] 30 (0, 0)) (viaB BK856.out) hg (Kd.R_ne HO_6.out BK856.out (by decide))); have n3_ := Aside0.mk (IsS84.grown (by repeat (first | (with_reducible first | exact HI850.out | apply IsS84.alloc | apply IsS84.drewN | apply IsS84.drew | apply IsS84.set_1 | refine IsS84.far ?_ NB850_847.out _ | refine IsS84.far ?_ NB850_856.out _) | exact HI850.out)) hg (IsS84.own_ne HI850.out HO_6.out (by decide))); have n4_ := Aside0.mk (hb); have n5_ := Aside0.mk (ho); clear HO_857001; clear BK847; clear BK856; clear HI850; clear HB; clear HO_6; have HO_857001 := n0_; have BK847 := n1_; have BK856 := n2_; have HI850 := n3_; have HB := n4_; have HO874 := n5_; clear n0_ n1_ n2_ n3_ n4_ n5_; clear ho hb hg hat))
        go_roundg k2
        case measure => have := HJ5.out; have := HK2.out; omega
        case rel => exact ⟨(y872), (wrap64 (x8_2 + 1)), (t871), (by first | rfl | (simp; done) | (simp [*]; done)), H', ⟨by have := HJ5.out; have := HK2.out; omega⟩, ⟨viaR HO874.out⟩, ⟨viaR HO_857001.out⟩, ⟨viaB BK847.out⟩, ⟨viaB BK856.out⟩, ⟨by repeat (first | (with_reducible first | exact HI850.out | apply IsS84.alloc | apply IsS84.drewN | apply IsS84.drew | apply IsS84.set_1 | refine IsS84.far ?_ NB850_847.out _ | refine IsS84.far ?_ NB850_856.out _) | exact HI850.out)⟩, ⟨by repeat (first | (with_reducible first | exact HB.out | apply below_alloc | apply pw_below_drewN | apply below_drew1 | refine below_set ?_ (IsS84.ge HI850.out) | refine below_set ?_ GE847.out | refine below_set ?_ GE856.out) | exact HB.out)⟩⟩
       ·rw [if_neg c28] at H
        exact absurd H (by simp)
      ·rw [if_neg c26] at H
       have c26b0 : decide (x8_2 < (wrap64 (t851 + (wrap64 (Int.tdiv t868 23))))) = false := decide_eq_false c26; clear c26
       simp only [Option.some.injEq, Prod.mk.injEq] at H
       obtain ⟨rfl, rfl, rfl⟩ := H
       try go_wp2
       have n0_ := Aside0.mk (Kd.R_drew HO_6.out); have n1_ := Aside0.mk (Kd.R_drew HO_857001.out); have n2_ := Aside0.mk (blk_drew BK847.out); have n3_ := Aside0.mk (blk_drew BK856.out); have n4_ := Aside0.mk (IsS84.drew HI850.out); have n5_ := Aside0.mk (below_drew1 HB.out); clear HO_6; clear HO_857001; clear BK847; clear BK856; clear HI850; clear HB; have HO_6 := n0_; have HO_857001 := n1_; have BK847 := n2_; have BK856 := n3_; have HI850 := n4_; have HB := n5_; clear n0_ n1_ n2_ n3_ n4_ n5_
       refine start_ (n := 8) (S := fun w' => w'.cell? ⟨gb856, 0, none⟩ = some (.int .i64 t851) ∧ w'.cell? ⟨gb856, 1, none⟩ = some (.slice Ao14 t852.length co14)) (ds := []) #[false, false, false, false, false, false, false, false] (by kernel_rfl) rfl rfl ⟨(blk_cell BK856.out 0).trans rfl, (blk_cell BK856.out 1).trans rfl⟩ (fun hHeld => ?_); refine with_tabW spec_l92Row.tab7 spec_l92Row.bits7 (fun HT_ HW_ => ?_)
       generalize wr.drew = w33 at HO_6 HO_857001 BK847 BK856 HI850 HB hHeld ⊢
       refine pure_ (i := 0) (N := some 29) (v := ?_) (a' := ?_) #[true, false, false, false, false, false, false, false] rfl rfl (any_of HT_.out (by kernel_rfl)) (fun _ _ _ h => h) (Or.inl ⟨by rfl, ?_⟩) ?_ ?_
       rotate_left
       ·intro w'
        go_simp
        with_reducible rfl
       rotate_left
       ·simp only [Act.put, List.setIfInBounds_toArray, List.set_cons_zero, List.set_cons_succ, i64_w, i32_w]
        rfl
       refine pure_ (i := 1) (N := some 30) (v := ?_) (a' := ?_) #[true, true, false, false, false, false, false, false] rfl rfl (any_of HT_.out (by kernel_rfl)) (fun _ _ _ h => h) (Or.inl ⟨by rfl, ?_⟩) ?_ ?_
       rotate_left
       ·intro w'
        go_simp
        with_reducible rfl
       rotate_left
       ·simp only [Act.put, List.setIfInBounds_toArray, List.set_cons_zero, List.set_cons_succ, i64_w, i32_w]
        rfl
       refine pure_ (i := 3) (N := some 32) (v := ?_) (a' := ?_) #[true, true, false, true, false, false, false, false] rfl rfl (any_of HT_.out (by kernel_rfl)) (fun _ _ _ h => h) (Or.inl ⟨by rfl, ?_⟩) ?_ ?_
       rotate_left
       ·intro w'
        go_simp
        with_reducible rfl
       rotate_left
       ·simp only [Act.put, List.setIfInBounds_toArray, List.set_cons_zero, List.set_cons_succ, i64_w, i32_w]
        rfl
       refine take_ (i := 2) (N := some 31) (v := ?_) (a' := ?_) #[true, true, true, true, false, false, false, false] rfl rfl (take_ofW HT_.out HW_.out (by kernel_rfl)) (fun _ _ _ h => h) (Or.inl ⟨by rfl, ?_⟩) hHeld ?_ ?_
       rotate_left
       ·rintro w' ⟨s0, s1⟩
        go_simp
        with_reducible rfl
       rotate_left
       ·simp only [Act.put, List.setIfInBounds_toArray, List.set_cons_zero, List.set_cons_succ, i64_w, i32_w]
        rfl
       refine one_ (i := 4) (N := some 33) #[true, true, true, true, true, false, false, false] rfl rfl (one_of HT_.out (by kernel_rfl)) (by decide) (fun K hK => ?_)
       refine goes_ Try.func118 (by kernel_rfl) rfl #[.pointer (some ⟨g850, 0, none⟩), .int .i64 24] (by rfl) rfl rfl (by (try simp only [List.map_toArray, List.map_cons, List.map_nil]); first | done | rfl | (simp only [List.length_drop, List.length_take]; rfl)) ?_
       with_reducible refine (spec_l6Rd_pick.calls k2 g850 t848 x851001_2 24 t868 t869 w _ ?side1 ?side2 A25.out).mono ?_
       (case side1 => repeat (first | (with_reducible first | exact HI850.out | apply IsS84.alloc | apply IsS84.drewN | apply IsS84.drew | apply IsS84.set_1 | refine IsS84.far ?_ NB850_847.out _ | refine IsS84.far ?_ NB850_856.out _) | exact HI850.out))
       (case side2 => repeat (first | (with_reducible first | exact HB.out | apply below_alloc | apply pw_below_drewN | apply below_drew1 | refine below_set ?_ (IsS84.ge HI850.out) | refine below_set ?_ GE847.out | refine below_set ?_ GE856.out) | exact HB.out))
       rintro e w34 ⟨rfl, hi, hb, hk⟩
       refine ⟨_, rfl, ?_⟩
       have n0_ := Aside0.mk (Kd.R_mono (Kd.R_keep (IsS84.apart (show IsS84 w _ g850 t848 x851001_2 from by repeat (first | (with_reducible first | exact HI850.out | apply IsS84.alloc | apply IsS84.drewN | apply IsS84.drew | apply IsS84.set_1 | refine IsS84.far ?_ NB850_847.out _ | refine IsS84.far ?_ NB850_856.out _) | exact HI850.out)) (viaR HO_6.out) (by decide)) hk (fun _ h => h.2)) (fun _ h => h.1)); have n1_ := Aside0.mk (Kd.R_mono (Kd.R_keep (IsS84.apart (show IsS84 w _ g850 t848 x851001_2 from by repeat (first | (with_reducible first | exact HI850.out | apply IsS84.alloc | apply IsS84.drewN | apply IsS84.drew | apply IsS84.set_1 | refine IsS84.far ?_ NB850_847.out _ | refine IsS84.far ?_ NB850_856.out _) | exact HI850.out)) (viaR HO_857001.out) (by decide)) hk (fun _ h => h.2)) (fun _ h => h.1)); have n2_ := Aside0.mk (KeepBut.blk hk (g' := gb847) (o := .cells #[.int .i64 0, .slice none 0 0] 30 (0, 0)) (viaB BK847.out) NB847_850.out (by simp)); have n3_ := Aside0.mk (KeepBut.blk hk (g' := gb856) (o := .cells #[.int .i64 t851, .slice Ao14 t852.length co14] 30 (0, 0)) (viaB BK856.out) NB856_850.out (by simp)); have n4_ := Aside0.mk (hb); have n5_ := Aside0.mk (hi); clear HO_6; clear HO_857001; clear BK847; clear BK856; clear HB; clear HI850; have HO_6 := n0_; have HO_857001 := n1_; have BK847 := n2_; have BK856 := n3_; have HB := n4_; have HI850 := n5_; clear n0_ n1_ n2_ n3_ n4_ n5_
       (try clear hb)
       (try clear hb2)
       (try clear hk)
       (try clear hi)
       refine hK.out _ _ ⟨(blk_cell BK856.out 0).trans rfl, (blk_cell BK856.out 1).trans rfl⟩ (fun hHeld => ?_)
       clear hK K
       refine norm_ (a' := ?_) ?_ ?_
       rotate_left
       ·show Act.put _ (some 33) _ = _
        simp only [Act.put, List.setIfInBounds_toArray, List.set_cons_zero, List.set_cons_succ, i64_w, i32_w]
        rfl
       refine pure_ (i := 5) (N := some 34) (v := ?_) (a' := ?_) #[true, true, true, true, true, true, false, false] rfl rfl (any_of HT_.out (by kernel_rfl)) (fun _ _ _ h => h) (Or.inl ⟨by rfl, ?_⟩) ?_ ?_
       rotate_left
       ·intro w'
        go_simp
        with_reducible rfl
       rotate_left
       ·simp only [Act.put, List.setIfInBounds_toArray, List.set_cons_zero, List.set_cons_succ, i64_w, i32_w]
        rfl
       refine pure_ (i := 6) (N := some 35) (v := ?_) (a' := ?_) #[true, true, true, true, true, true, true, false] rfl rfl (any_of HT_.out (by kernel_rfl)) (fun _ _ _ h => h) (Or.inl ⟨by rfl, ?_⟩) ?_ ?_
       rotate_left
       ·intro w'
        go_simp
        with_reducible rfl
       rotate_left
       ·simp only [Act.put, List.setIfInBounds_toArray, List.set_cons_zero, List.set_cons_succ, i64_w, i32_w]
        rfl
       refine pure_ (i := 7) (N := some 36) (v := ?_) (a' := ?_) #[true, true, true, true, true, true, true, true] rfl rfl (any_of HT_.out (by kernel_rfl)) (fun _ _ _ h => h) (Or.inl ⟨by rfl, ?_⟩) ?_ ?_
       rotate_left
       ·intro w'
        go_simp
        with_reducible rfl
       rotate_left
       ·simp only [Act.put, List.setIfInBounds_toArray, List.set_cons_zero, List.set_cons_succ, i64_w, i32_w]
        rfl
       refine done_ (done_of HT_.out (by kernel_rfl)) ?_
       have hnb35 := NB856_847.out; have hnc35 := NB847_856.out; have hnb36 := NB856_850.out; have hnc36 := NB850_856.out; have hcz37_0 : w34.cell? ⟨gb856, 0, none⟩ = some (.int .i64 t851) := (blk_cell BK856.out 0).trans rfl; have hcz37_1 : w34.cell? ⟨gb856, 1, none⟩ = some (.slice Ao14 t852.length co14) := (blk_cell BK856.out 1).trans rfl; have hfz37_0 := blk_frozen BK856.out 0; have hfz37_1 := blk_frozen BK856.out 1; have hnb38 := NB847_850.out; have hnc38 := NB850_847.out; have hcz39_0 : w34.cell? ⟨gb847, 0, none⟩ = some (.int .i64 0) := (blk_cell BK847.out 0).trans rfl; have hcz39_1 : w34.cell? ⟨gb847, 1, none⟩ = some (.slice none 0 0) := (blk_cell BK847.out 1).trans rfl; have hfz39_0 := blk_frozen BK847.out 0; have hfz39_1 := blk_frozen BK847.out 1
       try go_wp2
       refine bodyPost_ret (results_ct rfl _ _ gb847 30 #[.int .i64 t851, .slice Ao14 t852.length co14] (0, 0) _ rfl (by (with_reducible repeat (first | refine blk_drewN ?_ _ | refine blk_drew ?_ | refine blk_alloc ?_ _)); refine blk_put (cs := #[.int .i64 t851, .slice none 0 0]) ?_ 1 _ rfl; (with_reducible repeat (first | refine blk_drewN ?_ _ | refine blk_drew ?_ | refine blk_alloc ?_ _)); refine blk_put (cs := #[.int .i64 0, .slice none 0 0]) ?_ 0 _ rfl; (with_reducible repeat (first | refine blk_drewN ?_ _ | refine blk_drew ?_ | refine blk_alloc ?_ _)); exact BK847.out) Try.underlying30 rfl (by kernel_rfl)) rfl ?_
       exact ⟨_, _, by first | rfl | (simp [errW_none, errW_some] <;> rfl) | (simp [*, errW_none, errW_some] <;> rfl), by (with_reducible repeat (first | apply Kd.R_alloc | apply Kd.R_drewN | apply Kd.R_drew)); exact Kd.R_mono (Kd.R_far (p := ⟨gb847, 1, none⟩) (Kd.R_far (p := ⟨gb847, 0, none⟩) (Kd.R_types HO_857001.out BK847.out (by decide)) (fun _ hk => hk.2) (.int .i64 t851)) (fun _ hk => hk.2) (.slice Ao14 t852.length co14)) (fun _ hk => trivial), by (with_reducible repeat (first | apply Kd.R_alloc | apply Kd.R_drewN | apply Kd.R_drew)); exact Kd.R_mono (Kd.R_far (p := ⟨gb847, 1, none⟩) (Kd.R_far (p := ⟨gb847, 0, none⟩) (Kd.R_types HO_6.out BK847.out (by decide)) (fun _ hk => hk.2) (.int .i64 t851)) (fun _ hk => hk.2) (.slice Ao14 t852.length co14)) (fun _ hk => trivial), by repeat (first | (with_reducible first | exact HB.out | apply below_alloc | apply pw_below_drewN | apply below_drew1 | refine below_set ?_ (IsS84.ge HI850.out) | refine below_set ?_ GE847.out | refine below_set ?_ GE856.out) | exact HB.out)⟩
   ·replace c22 := Bool.eq_false_iff.mpr c22
    subst c22; have H1 : (some (t851, t852, t859)) = some (r1, r2, r3) := by rw [if_neg (show ¬ (false = true) by decide)] at H; exact H
    clear H; have H := H1; clear H1
    simp only [Option.some.injEq, Prod.mk.injEq] at H
    obtain ⟨rfl, rfl, rfl⟩ := H; have hnb40 := NB856_847.out; have hnc40 := NB847_856.out; have hnb41 := NB856_850.out; have hnc41 := NB850_856.out; have hcz42_0 : wc.cell? ⟨gb856, 0, none⟩ = some (.int .i64 t851) := (blk_cell BK856.out 0).trans rfl; have hcz42_1 : wc.cell? ⟨gb856, 1, none⟩ = some (.slice Ao14 t852.length co14) := (blk_cell BK856.out 1).trans rfl; have hfz42_0 := blk_frozen BK856.out 0; have hfz42_1 := blk_frozen BK856.out 1; have hnb43 := NB847_850.out; have hnc43 := NB850_847.out; have hcz44_0 : wc.cell? ⟨gb847, 0, none⟩ = some (.int .i64 0) := (blk_cell BK847.out 0).trans rfl; have hcz44_1 : wc.cell? ⟨gb847, 1, none⟩ = some (.slice none 0 0) := (blk_cell BK847.out 1).trans rfl; have hfz44_0 := blk_frozen BK847.out 0; have hfz44_1 := blk_frozen BK847.out 1
    go_wp2
    refine bodyPost_ret (results_ct rfl _ _ gb847 30 #[.int .i64 t851, .slice Ao14 t852.length co14] (0, 0) _ rfl (by (with_reducible repeat (first | refine blk_drewN ?_ _ | refine blk_drew ?_ | refine blk_alloc ?_ _)); refine blk_put (cs := #[.int .i64 t851, .slice none 0 0]) ?_ 1 _ rfl; (with_reducible repeat (first | refine blk_drewN ?_ _ | refine blk_drew ?_ | refine blk_alloc ?_ _)); refine blk_put (cs := #[.int .i64 0, .slice none 0 0]) ?_ 0 _ rfl; (with_reducible repeat (first | refine blk_drewN ?_ _ | refine blk_drew ?_ | refine blk_alloc ?_ _)); exact BK847.out) Try.underlying30 rfl (by kernel_rfl)) rfl ?_
    exact ⟨_, _, by first | rfl | (simp [errW_none, errW_some] <;> rfl) | (simp [*, errW_none, errW_some] <;> rfl), by (with_reducible repeat (first | apply Kd.R_alloc | apply Kd.R_drewN | apply Kd.R_drew)); exact Kd.R_mono (Kd.R_far (p := ⟨gb847, 1, none⟩) (Kd.R_far (p := ⟨gb847, 0, none⟩) (Kd.R_types HO_857001.out BK847.out (by decide)) (fun _ hk => hk.2) (.int .i64 t851)) (fun _ hk => hk.2) (.slice Ao14 t852.length co14)) (fun _ hk => trivial), by (with_reducible repeat (first | apply Kd.R_alloc | apply Kd.R_drewN | apply Kd.R_drew)); exact Kd.R_mono (Kd.R_far (p := ⟨gb847, 1, none⟩) (Kd.R_far (p := ⟨gb847, 0, none⟩) (Kd.R_types HO_6.out BK847.out (by decide)) (fun _ hk => hk.2) (.int .i64 t851)) (fun _ hk => hk.2) (.slice Ao14 t852.length co14)) (fun _ hk => trivial), by repeat (first | (with_reducible first | exact HB.out | apply below_alloc | apply pw_below_drewN | apply below_drew1 | refine below_set ?_ (IsS84.ge HI850.out) | refine below_set ?_ GE847.out | refine below_set ?_ GE856.out) | exact HB.out)⟩

/-! ### spec_DrawScoreFirst: function 53 -/
def spec_DrawScoreFirst.f (k : Nat) (l0 : List Int) : Option (Int × (List (S44)) × List Int) := (spec_l92Row.f k l0).bind fun bt876 => (some (bt876.1, bt876.2.1, bt876.2.2))
theorem spec_DrawScoreFirst.mono : ∀ a0 k, LeO (spec_DrawScoreFirst.f k a0) (spec_DrawScoreFirst.f (k + 1) a0) := by
 intro a0 k
 unfold spec_DrawScoreFirst.f
 repeat' first
   | (with_reducible exact spec_l92Row.mono _ _)
   | (with_reducible exact LeO.refl _)
   | (with_reducible exact LeO.none _)
   | (with_reducible refine LeO.ite ?_ ?_)
   | (with_reducible refine LeO.bind ?_ (fun _ => ?_))
   | exact spec_l92Row.mono _ _
   | exact LeO.none _
   | refine LeO.ite ?_ ?_
   | refine LeO.bind ?_ (fun _ => ?_)
set_option maxHeartbeats 8000000 in
set_option maxRecDepth 100000 in
theorem spec_DrawScoreFirst.calls (k : Nat) (A0 : Option Addr) (c0 : Nat) (l0 : List Int) (r1 : Int) (r2 : List (S44)) (r3 : List Int) (w : World) (hr0 : Kd.C (Kd.int .u8) w A0 l0.length l0) (hc0 : l0.length ≤ c0) (h : spec_DrawScoreFirst.f k l0 = some (r1, r2, r3)) :
  Calls Try.prog 53 #[.slice A0 l0.length c0] w fun e w' => ∃ v1_ v2_ : Value, e = .returned (.tuple #[.agg #[.int .i64 r1, v1_], v2_]) ∧ Kd.R k44 44 w' w.heap.size (fun _ => True) v1_ r2 ∧ Kd.R (Kd.int .i64) 3 w' w.heap.size (fun _ => True) v2_ r3 ∧ Below w.heap.size w w' := by
 have hu30 := Try.underlying30; have HR0 := Aside0.mk hr0; have HC0 := Aside0.mk hc0; clear hr0 hc0; have HB := Aside0.mk (Below.refl w.heap.size w); have H : ((spec_l92Row.f k l0).bind fun bt876 => (some (bt876.1, bt876.2.1, bt876.2.2))) = some (r1, r2, r3) := h; clear h; replace H := Option.bind_eq_some_iff.mp H; obtain ⟨⟨t876, t877, t880⟩, A20, H⟩ := H; replace H : (some (t876, t877, t880)) = some (r1, r2, r3) := H; have A2 := Aside0.mk A20; clear A20
 simp only [Option.some.injEq, Prod.mk.injEq] at H
 obtain ⟨rfl, rfl, rfl⟩ := H
 go_enter Try.func53, Try.ntmps53
 go_wp2_with (first | ((with_reducible refine gate_dst (N := 2) rfl ?_); refine box_event ?hg (N := 2) ?hd (cs := #[.int .i64 0, .slice none 0 0]) (t := 30) ?hr ?_; (case hd => rfl); (case hg => rfl); (case hr => first | (go_simp; done) | (go_simp; rfl)); intro gb875 hg w3 hbox hb; have n0_ := Aside0.mk (below_step (viaW HB.out) hb); have n1_ := Aside0.mk (hbox); have n2_ := Aside0.mk ((by rw [hg]; exact (below_size (viaW HB.out)) : w.heap.size ≤ gb875)); have n3_ := Aside0.mk ((by rw [hg]; exact (below_size (viaW HB.out)) : w.heap.size ≤ gb875)); clear HB; have HB := n0_; have BK875 := n1_; have GW875 := n2_; have GE875 := n3_; clear n0_ n1_ n2_ n3_; clear hb hbox hg) | ((with_reducible refine gate_callee (f := 100) rfl ?_); refine goesL_ (some 5) rfl rfl Try.func100 (by kernel_rfl) rfl #[.slice A0 l0.length c0] rfl (by (try simp only [List.map_toArray, List.map_cons, List.map_nil]); first | done | rfl | (simp only [List.length_drop, List.length_take]; rfl)) ?_; (with_reducible refine (spec_l92Row.calls k _ _ l0 t876 t877 t880 _ ?side1 ?side2 A2.out).mono ?_); (case side1 => repeat (first | exact (Kd.C_below HR0.out HB.out) | (with_reducible refine Kd.C_alloc ?_ _) | (with_reducible refine Kd.C_drewN ?_ _) | (with_reducible refine Kd.C_drew ?_))); (case side2 => exact HC0.out); rintro e w4 ⟨v878, v881, rfl, ho0, ho1, hb⟩; refine ⟨_, rfl, ?_⟩; have n0_ := Aside0.mk (Kd.R_lower ho0 (below_size (viaX HB.out GE875.out))); have n1_ := Aside0.mk (Kd.R_lower ho1 (below_size (viaX HB.out GE875.out))); have n2_ := Aside0.mk (blk_below (g := gb875) (o := .cells #[.int .i64 0, .slice none 0 0] 30 (0, 0)) (viaB BK875.out) hb); have n3_ := Aside0.mk (below_step (viaX HB.out GE875.out) hb); clear BK875; clear HB; have HO879 := n0_; have HO882 := n1_; have BK875 := n2_; have HB := n3_; clear n0_ n1_ n2_ n3_; (try clear hb); (try clear hb2); (try clear hk); (try clear hi); (try clear ho0); (try clear ho1); have hcz5_0 : w4.cell? ⟨gb875, 0, none⟩ = some (.int .i64 0) := (blk_cell BK875.out 0).trans rfl; have hcz5_1 : w4.cell? ⟨gb875, 1, none⟩ = some (.slice none 0 0) := (blk_cell BK875.out 1).trans rfl; have hfz5_0 := blk_frozen BK875.out 0; have hfz5_1 := blk_frozen BK875.out 1; obtain ⟨Ao6, co6, eo6⟩ := Kd.R_slice HO879.out; subst eo6))
 refine bodyPost_ret (results_ct rfl _ _ gb875 30 #[.int .i64 t876, .slice Ao6 t877.length co6] (0, 0) _ rfl (by (with_reducible repeat (first | refine blk_drewN ?_ _ | refine blk_drew ?_ | refine blk_alloc ?_ _)); refine blk_put (cs := #[.int .i64 t876, .slice none 0 0]) ?_ 1 _ rfl; (with_reducible repeat (first | refine blk_drewN ?_ _ | refine blk_drew ?_ | refine blk_alloc ?_ _)); refine blk_put (cs := #[.int .i64 0, .slice none 0 0]) ?_ 0 _ rfl; (with_reducible repeat (first | refine blk_drewN ?_ _ | refine blk_drew ?_ | refine blk_alloc ?_ _)); exact BK875.out) Try.underlying30 rfl (by kernel_rfl)) rfl ?_
 exact ⟨_, _, by first | rfl | (simp [errW_none, errW_some] <;> rfl) | (simp [*, errW_none, errW_some] <;> rfl), by (with_reducible repeat (first | apply Kd.R_alloc | apply Kd.R_drewN | apply Kd.R_drew)); exact Kd.R_mono (Kd.R_far (p := ⟨gb875, 1, none⟩) (Kd.R_far (p := ⟨gb875, 0, none⟩) (Kd.R_types HO879.out BK875.out (by decide)) (fun _ hk => hk.2) (.int .i64 t876)) (fun _ hk => hk.2) (.slice Ao6 t877.length co6)) (fun _ hk => trivial), by (with_reducible repeat (first | apply Kd.R_alloc | apply Kd.R_drewN | apply Kd.R_drew)); exact Kd.R_mono (Kd.R_far (p := ⟨gb875, 1, none⟩) (Kd.R_far (p := ⟨gb875, 0, none⟩) (Kd.R_types HO882.out BK875.out (by decide)) (fun _ hk => hk.2) (.int .i64 t876)) (fun _ hk => hk.2) (.slice Ao6 t877.length co6)) (fun _ hk => trivial), viaX HB.out GE875.out⟩

/-! ### impl_ScoreFirst: function 54 -/
def impl_ScoreFirst.l0 : Nat → List Int → Int → Int → Int → List (S44) → Option (Int × Bool)
 | 0, _, _, _, _, _ => none
 | k + 1, x1, x13, x14, x884000, x884001 => if x14 < x13 then ((impl_outOf.f k x884000 x884001 x14).bind fun t885 => ((slices_Equal_int_int.f k t885 x1).bind fun t888 => (if t888 = true then (some (x14, true)) else (impl_ScoreFirst.l0 k x1 x13 (wrap64 (x14 + 1)) x884000 x884001)))) else (some (0, false))
def impl_ScoreFirst.f (k : Nat) (a0_0 : Int) (l0_1 : List (S44)) (l1 : List Int) : Option (Int × Bool) := (impl_WayGraph.f k a0_0 l0_1).bind fun t884 => (if t884 = true then (impl_ScoreFirst.l0 k l1 (shl .i64 1 (l0_1.length : Int)) 0 a0_0 l0_1) else (some (0, false)))
theorem impl_ScoreFirst.mono_l : ∀ k, (∀ y0 y1 y2 y3 y4, LeO (impl_ScoreFirst.l0 k y0 y1 y2 y3 y4) (impl_ScoreFirst.l0 (k + 1) y0 y1 y2 y3 y4))
 | 0 => fun _ _ _ _ _ r h => by simp [impl_ScoreFirst.l0] at h
 | k + 1 => by
  have ih0 := impl_ScoreFirst.mono_l k
  ·intro y0 y1 y2 y3 y4
   unfold impl_ScoreFirst.l0
   repeat' first
   | (with_reducible exact ih0 _ _ _ _ _)
   | (with_reducible exact impl_WayGraph.mono _ _ _)
   | (with_reducible exact impl_outOf.mono _ _ _ _)
   | (with_reducible exact slices_Equal_int_int.mono _ _ _)
   | (with_reducible exact LeO.refl _)
   | (with_reducible exact LeO.none _)
   | (with_reducible refine LeO.ite ?_ ?_)
   | (with_reducible refine LeO.bind ?_ (fun _ => ?_))
   | exact ih0 _ _ _ _ _
   | exact impl_WayGraph.mono _ _ _
   | exact impl_outOf.mono _ _ _ _
   | exact slices_Equal_int_int.mono _ _ _
   | exact LeO.none _
   | refine LeO.ite ?_ ?_
   | refine LeO.bind ?_ (fun _ => ?_)
theorem impl_ScoreFirst.mono : ∀ a0 a1 a2 k, LeO (impl_ScoreFirst.f k a0 a1 a2) (impl_ScoreFirst.f (k + 1) a0 a1 a2) := by
 intro a0 a1 a2 k; have ih0 := impl_ScoreFirst.mono_l k
 unfold impl_ScoreFirst.f
 repeat' first
   | (with_reducible exact ih0 _ _ _ _ _)
   | (with_reducible exact impl_WayGraph.mono _ _ _)
   | (with_reducible exact impl_outOf.mono _ _ _ _)
   | (with_reducible exact slices_Equal_int_int.mono _ _ _)
   | (with_reducible exact LeO.refl _)
   | (with_reducible exact LeO.none _)
   | (with_reducible refine LeO.ite ?_ ?_)
   | (with_reducible refine LeO.bind ?_ (fun _ => ?_))
   | exact ih0 _ _ _ _ _
   | exact impl_WayGraph.mono _ _ _
   | exact impl_outOf.mono _ _ _ _
   | exact slices_Equal_int_int.mono _ _ _
   | exact LeO.none _
   | refine LeO.ite ?_ ?_
   | refine LeO.bind ?_ (fun _ => ?_)
set_option maxHeartbeats 8000000 in
set_option maxRecDepth 100000 in
theorem impl_ScoreFirst.calls (k : Nat) (a0_0 : Int) (A0_1 : Option Addr) (c0_1 : Nat) (l0_1 : List (S44)) (A1 : Option Addr) (c1 : Nat) (l1 : List Int) (r1 : Int) (r2 : Bool) (w : World) (hr0_1 : Kd.C k44 w A0_1 l0_1.length l0_1) (hc0_1 : l0_1.length ≤ c0_1) (hr1 : Kd.C (Kd.int .i64) w A1 l1.length l1) (hc1 : l1.length ≤ c1) (h : impl_ScoreFirst.f k a0_0 l0_1 l1 = some (r1, r2)) :
  Calls Try.prog 54 #[.agg #[.int .i64 a0_0, .slice A0_1 l0_1.length c0_1], .slice A1 l1.length c1] w fun e w' => e = .returned (.tuple #[.int .i64 r1, .bool r2]) ∧ Below w.heap.size w w' := by
 have hu30 := Try.underlying30; have HR0_1 := Aside0.mk hr0_1; have HC0_1 := Aside0.mk hc0_1; clear hr0_1 hc0_1; have HR1 := Aside0.mk hr1; have HC1 := Aside0.mk hc1; clear hr1 hc1; have HB := Aside0.mk (Below.refl w.heap.size w); have H : ((impl_WayGraph.f k a0_0 l0_1).bind fun t884 => (if t884 = true then (impl_ScoreFirst.l0 k l1 (shl .i64 1 (l0_1.length : Int)) 0 a0_0 l0_1) else (some (0, false)))) = some (r1, r2) := h; clear h; replace H := Option.bind_eq_some_iff.mp H; obtain ⟨t884, A30, H⟩ := H; replace H : (if t884 = true then (impl_ScoreFirst.l0 k l1 (shl .i64 1 (l0_1.length : Int)) 0 a0_0 l0_1) else (some (0, false))) = some (r1, r2) := H; have A3 := Aside0.mk A30; clear A30
 by_cases c4 : t884 = true
 ·subst c4
  have H1 : (impl_ScoreFirst.l0 k l1 (shl .i64 1 (l0_1.length : Int)) 0 a0_0 l0_1) = some (r1, r2) := by rw [if_pos rfl] at H; exact H
  clear H; have H := H1; clear H1; obtain ⟨ji5, hji5⟩ : ∃ j_ : Int, (shl .i64 1 (l0_1.length : Int)) = j_ := ⟨_, rfl⟩; replace H : (impl_ScoreFirst.l0 k l1 ji5 0 a0_0 l0_1) = some (r1, r2) := by first | (rw [hji5] at H; exact H) | (simp only [hji5] at H ⊢; exact H)
  (try rw [hji5] at A3)
  have hji5_ : (IntKind.i64.wrap (1 * 2 ^ min (l0_1.length : Int).toNat 64)) = ji5 := hji5; have hji5z : (l0_1.length : Int) ≤ 64 → (IntKind.i64.wrap (1 * 2 ^ (l0_1.length : Int).toNat)) = ji5 := shl_small hji5; have hji5p : (IntKind.i64.wrap (1 * 2 ^ min l0_1.length 64)) = ji5 := hji5_; have hji5q : (l0_1.length : Int) ≤ 64 → (IntKind.i64.wrap (1 * 2 ^ l0_1.length)) = ji5 := hji5z; have hji5r : (IntKind.i64.wrap (2 ^ min l0_1.length 64)) = ji5 := by have h_ := hji5p; rw [Int.one_mul] at h_; exact h_
  have hji5s : (l0_1.length : Int) ≤ 64 → (IntKind.i64.wrap (2 ^ l0_1.length)) = ji5 := fun hle_ => by have h_ := hji5q hle_; rw [Int.one_mul] at h_; exact h_
  have hji5u : (IntKind.i64.wrap (2 ^ min (l0_1.length : Int).toNat 64)) = ji5 := by have h_ := hji5_; rw [Int.one_mul] at h_; exact h_
  have hji5v : (l0_1.length : Int) ≤ 64 → (IntKind.i64.wrap (2 ^ (l0_1.length : Int).toNat)) = ji5 := fun hle_ => by have h_ := hji5z hle_; rw [Int.one_mul] at h_; exact h_
  have hji5y : (wrap64 (1 * 2 ^ min (l0_1.length : Int).toNat 64)) = ji5 := (i64_w _).symm.trans hji5_; have hji5x : (l0_1.length : Int) ≤ 64 → (wrap64 (1 * 2 ^ (l0_1.length : Int).toNat)) = ji5 := fun h_ => (i64_w _).symm.trans (hji5z h_); have H' := Aside0.mk H; clear H
  go_enter Try.func54, Try.ntmps54
  go_wp2_with (first | ((with_reducible refine gate_dst (N := 2) rfl ?_); refine box_event ?hg (N := 2) ?hd (cs := #[.int .i64 a0_0, .slice A0_1 l0_1.length c0_1]) (t := 30) ?hr ?_; (case hd => rfl); (case hg => rfl); (case hr => first | (go_simp; done) | (go_simp; rfl)); intro gb883 hg w6 hbox hb; have n0_ := Aside0.mk (below_step (viaW HB.out) hb); have n1_ := Aside0.mk (hbox); have n2_ := Aside0.mk ((by rw [hg]; exact (below_size (viaW HB.out)) : w.heap.size ≤ gb883)); have n3_ := Aside0.mk ((by rw [hg]; exact (below_size (viaW HB.out)) : w.heap.size ≤ gb883)); clear HB; have HB := n0_; have BK883 := n1_; have GW883 := n2_; have GE883 := n3_; clear n0_ n1_ n2_ n3_; clear hb hbox hg; have hcz7_0 : w6.cell? ⟨gb883, 0, none⟩ = some (.int .i64 a0_0) := (blk_cell BK883.out 0).trans rfl; have hcz7_1 : w6.cell? ⟨gb883, 1, none⟩ = some (.slice A0_1 l0_1.length c0_1) := (blk_cell BK883.out 1).trans rfl; have hfz7_0 := blk_frozen BK883.out 0; have hfz7_1 := blk_frozen BK883.out 1) | ((with_reducible refine gate_callee (f := 76) rfl ?_); refine goesL_ (some 8) rfl rfl Try.func76 (by kernel_rfl) rfl #[.agg #[.int .i64 a0_0, .slice A0_1 l0_1.length c0_1]] rfl (by (try simp only [List.map_toArray, List.map_cons, List.map_nil]); first | done | rfl | (simp only [List.length_drop, List.length_take]; rfl)) ?_; (with_reducible refine (impl_WayGraph.calls k a0_0 _ _ l0_1 true _ ?side1 ?side2 A3.out).mono ?_); (case side1 => repeat (first | exact (Kd.C_below HR0_1.out HB.out) | (with_reducible refine Kd.C_alloc ?_ _) | (with_reducible refine Kd.C_drewN ?_ _) | (with_reducible refine Kd.C_drew ?_))); (case side2 => exact HC0_1.out); rintro e w8 ⟨rfl, hb⟩; refine ⟨_, rfl, ?_⟩; have n0_ := Aside0.mk (blk_below (g := gb883) (o := .cells #[.int .i64 a0_0, .slice A0_1 l0_1.length c0_1] 30 (0, 0)) (viaB BK883.out) hb); have n1_ := Aside0.mk (below_step (viaX HB.out GE883.out) hb); clear BK883; clear HB; have BK883 := n0_; have HB := n1_; clear n0_ n1_; (try clear hb); (try clear hb2); (try clear hk); (try clear hi); have hcz9_0 : w8.cell? ⟨gb883, 0, none⟩ = some (.int .i64 a0_0) := (blk_cell BK883.out 0).trans rfl; have hcz9_1 : w8.cell? ⟨gb883, 1, none⟩ = some (.slice A0_1 l0_1.length c0_1) := (blk_cell BK883.out 1).trans rfl; have hfz9_0 := blk_frozen BK883.out 0; have hfz9_1 := blk_frozen BK883.out 1))
  go_loopg [14] k (fun kq v14 w' => ∃ (x14_1 : Int), v14 = .int .i64 x14_1 ∧ Aside0 (impl_ScoreFirst.l0 kq l1 ji5 x14_1 a0_0 l0_1 = some (r1, r2)) ∧ Aside0 (kq ≤ k) ∧ Aside0 (w'.heap[gb883]? = some (.cells #[.int .i64 a0_0, (.slice A0_1 l0_1.length c0_1)] 30 (0, 0))) ∧ Aside0 (Below w.heap.size w w'))
  case atStart => exact ⟨(0), (by first | rfl | (simp; done) | (simp [*]; done)), H', ⟨Nat.le_refl _⟩, ⟨viaB BK883.out⟩, ⟨viaX HB.out GE883.out⟩⟩
  case round =>
   clear H'
   try clear c1
   try clear p2
   try clear c4
   try clear c5
   try clear p6
   try clear c7
   try clear hcz7_0
   try clear hcz7_1
   try clear hcz9_0
   try clear hcz9_1
   try clear hfz7_0
   try clear hfz7_1
   try clear hfz9_0
   try clear hfz9_1
   obtain ⟨x14_1, rfl, HA, HK1, BK883, HB⟩ := hrel
   cases gk with
   | zero => exact absurd HA.out (by simp [impl_ScoreFirst.l0])
   | succ k1 =>
    have H := HA.out; clear HA
    simp only [impl_ScoreFirst.l0] at H
    by_cases c10 : x14_1 < ji5
    ·rw [if_pos c10] at H
     have c10b0 : decide (x14_1 < ji5) = true := decide_eq_true c10; clear c10; replace H := Option.bind_eq_some_iff.mp H; obtain ⟨t885, A110, H⟩ := H; replace H : ((slices_Equal_int_int.f k1 t885 l1).bind fun t888 => (if t888 = true then (some (x14_1, true)) else (impl_ScoreFirst.l0 k1 l1 ji5 (wrap64 (x14_1 + 1)) a0_0 l0_1))) = some (r1, r2) := H; have A11 := Aside0.mk A110; clear A110; replace H := Option.bind_eq_some_iff.mp H; obtain ⟨t888, A120, H⟩ := H; replace H : (if t888 = true then (some (x14_1, true)) else (impl_ScoreFirst.l0 k1 l1 ji5 (wrap64 (x14_1 + 1)) a0_0 l0_1)) = some (r1, r2) := H; have A12 := Aside0.mk A120; clear A120
     by_cases c13 : t888 = true
     ·subst c13
      have H1 : (some (x14_1, true)) = some (r1, r2) := by rw [if_pos rfl] at H; exact H
      clear H; have H := H1; clear H1
      simp only [Option.some.injEq, Prod.mk.injEq] at H
      obtain ⟨rfl, rfl⟩ := H; have hcz14_0 : wr.cell? ⟨gb883, 0, none⟩ = some (.int .i64 a0_0) := (blk_cell BK883.out 0).trans rfl; have hcz14_1 : wr.cell? ⟨gb883, 1, none⟩ = some (.slice A0_1 l0_1.length c0_1) := (blk_cell BK883.out 1).trans rfl; have hfz14_0 := blk_frozen BK883.out 0; have hfz14_1 := blk_frozen BK883.out 1
      go_wp2_with (first | ((with_reducible refine gate_callee (f := 95) rfl ?_); refine goesL_ (some 19) rfl rfl Try.func95 (by kernel_rfl) rfl #[.agg #[.int .i64 a0_0, .slice A0_1 l0_1.length c0_1], .int .i64 x14_1] rfl (by (try simp only [List.map_toArray, List.map_cons, List.map_nil]); first | done | rfl | (simp only [List.length_drop, List.length_take]; rfl)) ?_; (with_reducible refine (impl_outOf.calls k1 a0_0 _ _ l0_1 x14_1 t885 _ ?side1 ?side2 A11.out).mono ?_); (case side1 => repeat (first | exact (Kd.C_below HR0_1.out HB.out) | (with_reducible refine Kd.C_alloc ?_ _) | (with_reducible refine Kd.C_drewN ?_ _) | (with_reducible refine Kd.C_drew ?_))); (case side2 => exact HC0_1.out); rintro e w15 ⟨v886, rfl, ho0, hb⟩; refine ⟨_, rfl, ?_⟩; have n0_ := Aside0.mk (Kd.R_lower ho0 (below_size (viaX HB.out GE883.out))); have n1_ := Aside0.mk (blk_below (g := gb883) (o := .cells #[.int .i64 a0_0, .slice A0_1 l0_1.length c0_1] 30 (0, 0)) (viaB BK883.out) hb); have n2_ := Aside0.mk (below_step (viaX HB.out GE883.out) hb); clear BK883; clear HB; have HO887 := n0_; have BK883 := n1_; have HB := n2_; clear n0_ n1_ n2_; (try clear hb); (try clear hb2); (try clear hk); (try clear hi); (try clear ho0); obtain ⟨Ao16, co16, eo16⟩ := Kd.R_slice HO887.out; subst eo16) | ((with_reducible refine gate_callee (f := 98) rfl ?_); refine goesL_ (some 21) rfl rfl Try.func98 (by kernel_rfl) rfl #[.slice Ao16 t885.length co16, .slice A1 l1.length c1] rfl (by (try simp only [List.map_toArray, List.map_cons, List.map_nil]); first | done | rfl | (simp only [List.length_drop, List.length_take]; rfl)) ?_; (with_reducible refine (slices_Equal_int_int.calls k1 _ _ t885 _ _ l1 true _ ?side1 ?side2 ?side3 ?side4 A12.out).mono ?_); (case side1 => repeat (first | exact (Kd.R_reads' HO887.out).2.2 | (with_reducible refine Kd.C_alloc ?_ _) | (with_reducible refine Kd.C_drewN ?_ _) | (with_reducible refine Kd.C_drew ?_))); (case side2 => exact (Kd.R_reads' HO887.out).2.1); (case side3 => repeat (first | exact (Kd.C_below HR1.out HB.out) | (with_reducible refine Kd.C_alloc ?_ _) | (with_reducible refine Kd.C_drewN ?_ _) | (with_reducible refine Kd.C_drew ?_))); (case side4 => exact HC1.out); rintro e w' ⟨rfl, ⟨nd, rfl⟩⟩; refine ⟨_, rfl, ?_⟩))
      go_ret2
      exact ⟨by first | rfl | (simp [errW_none, errW_some] <;> rfl) | (simp only [← hji5]; first | rfl | (simp [errW_none, errW_some] <;> rfl)) | (simp [*, errW_none, errW_some] <;> rfl), viaX HB.out GE883.out⟩
     ·replace c13 := Bool.eq_false_iff.mpr c13
      subst c13; have H1 : (impl_ScoreFirst.l0 k1 l1 ji5 (wrap64 (x14_1 + 1)) a0_0 l0_1) = some (r1, r2) := by rw [if_neg (show ¬ (false = true) by decide)] at H; exact H
      clear H; have H := H1; clear H1; have H' := Aside0.mk H; clear H; have hcz17_0 : wr.cell? ⟨gb883, 0, none⟩ = some (.int .i64 a0_0) := (blk_cell BK883.out 0).trans rfl; have hcz17_1 : wr.cell? ⟨gb883, 1, none⟩ = some (.slice A0_1 l0_1.length c0_1) := (blk_cell BK883.out 1).trans rfl; have hfz17_0 := blk_frozen BK883.out 0; have hfz17_1 := blk_frozen BK883.out 1
      go_wp2_with (first | ((with_reducible refine gate_callee (f := 95) rfl ?_); refine goesL_ (some 19) rfl rfl Try.func95 (by kernel_rfl) rfl #[.agg #[.int .i64 a0_0, .slice A0_1 l0_1.length c0_1], .int .i64 x14_1] rfl (by (try simp only [List.map_toArray, List.map_cons, List.map_nil]); first | done | rfl | (simp only [List.length_drop, List.length_take]; rfl)) ?_; (with_reducible refine (impl_outOf.calls k1 a0_0 _ _ l0_1 x14_1 t885 _ ?side1 ?side2 A11.out).mono ?_); (case side1 => repeat (first | exact (Kd.C_below HR0_1.out HB.out) | (with_reducible refine Kd.C_alloc ?_ _) | (with_reducible refine Kd.C_drewN ?_ _) | (with_reducible refine Kd.C_drew ?_))); (case side2 => exact HC0_1.out); rintro e w18 ⟨v886, rfl, ho0, hb⟩; refine ⟨_, rfl, ?_⟩; have n0_ := Aside0.mk (Kd.R_lower ho0 (below_size (viaX HB.out GE883.out))); have n1_ := Aside0.mk (blk_below (g := gb883) (o := .cells #[.int .i64 a0_0, .slice A0_1 l0_1.length c0_1] 30 (0, 0)) (viaB BK883.out) hb); have n2_ := Aside0.mk (below_step (viaX HB.out GE883.out) hb); clear BK883; clear HB; have HO887 := n0_; have BK883 := n1_; have HB := n2_; clear n0_ n1_ n2_; (try clear hb); (try clear hb2); (try clear hk); (try clear hi); (try clear ho0); obtain ⟨Ao19, co19, eo19⟩ := Kd.R_slice HO887.out; subst eo19) | ((with_reducible refine gate_callee (f := 98) rfl ?_); refine goesL_ (some 21) rfl rfl Try.func98 (by kernel_rfl) rfl #[.slice Ao19 t885.length co19, .slice A1 l1.length c1] rfl (by (try simp only [List.map_toArray, List.map_cons, List.map_nil]); first | done | rfl | (simp only [List.length_drop, List.length_take]; rfl)) ?_; (with_reducible refine (slices_Equal_int_int.calls k1 _ _ t885 _ _ l1 false _ ?side1 ?side2 ?side3 ?side4 A12.out).mono ?_); (case side1 => repeat (first | exact (Kd.R_reads' HO887.out).2.2 | (with_reducible refine Kd.C_alloc ?_ _) | (with_reducible refine Kd.C_drewN ?_ _) | (with_reducible refine Kd.C_drew ?_))); (case side2 => exact (Kd.R_reads' HO887.out).2.1); (case side3 => repeat (first | exact (Kd.C_below HR1.out HB.out) | (with_reducible refine Kd.C_alloc ?_ _) | (with_reducible refine Kd.C_drewN ?_ _) | (with_reducible refine Kd.C_drew ?_))); (case side4 => exact HC1.out); rintro e w' ⟨rfl, ⟨nd, rfl⟩⟩; refine ⟨_, rfl, ?_⟩))
      go_roundg k1
      case measure => have := HK1.out; omega
      case rel => exact ⟨(wrap64 (x14_1 + 1)), (by first | rfl | (simp; done) | (simp [*]; done)), H', ⟨by have := HK1.out; omega⟩, ⟨viaB BK883.out⟩, ⟨viaX HB.out GE883.out⟩⟩
    ·rw [if_neg c10] at H
     have c10b0 : decide (x14_1 < ji5) = false := decide_eq_false c10; clear c10
     simp only [Option.some.injEq, Prod.mk.injEq] at H
     obtain ⟨rfl, rfl⟩ := H
     go_wp2
     go_ret2
     exact ⟨by first | rfl | (simp [errW_none, errW_some] <;> rfl) | (simp only [← hji5]; first | rfl | (simp [errW_none, errW_some] <;> rfl)) | (simp [*, errW_none, errW_some] <;> rfl), viaX HB.out GE883.out⟩
 ·replace c4 := Bool.eq_false_iff.mpr c4
  subst c4; have H1 : (some (0, false)) = some (r1, r2) := by rw [if_neg (show ¬ (false = true) by decide)] at H; exact H
  clear H; have H := H1; clear H1
  simp only [Option.some.injEq, Prod.mk.injEq] at H
  obtain ⟨rfl, rfl⟩ := H
  go_enter Try.func54, Try.ntmps54
  go_wp2_with (first | ((with_reducible refine gate_dst (N := 2) rfl ?_); refine box_event ?hg (N := 2) ?hd (cs := #[.int .i64 a0_0, .slice A0_1 l0_1.length c0_1]) (t := 30) ?hr ?_; (case hd => rfl); (case hg => rfl); (case hr => first | (go_simp; done) | (go_simp; rfl)); intro gb883 hg w20 hbox hb; have n0_ := Aside0.mk (below_step (viaW HB.out) hb); have n1_ := Aside0.mk (hbox); have n2_ := Aside0.mk ((by rw [hg]; exact (below_size (viaW HB.out)) : w.heap.size ≤ gb883)); have n3_ := Aside0.mk ((by rw [hg]; exact (below_size (viaW HB.out)) : w.heap.size ≤ gb883)); clear HB; have HB := n0_; have BK883 := n1_; have GW883 := n2_; have GE883 := n3_; clear n0_ n1_ n2_ n3_; clear hb hbox hg; have hcz21_0 : w20.cell? ⟨gb883, 0, none⟩ = some (.int .i64 a0_0) := (blk_cell BK883.out 0).trans rfl; have hcz21_1 : w20.cell? ⟨gb883, 1, none⟩ = some (.slice A0_1 l0_1.length c0_1) := (blk_cell BK883.out 1).trans rfl; have hfz21_0 := blk_frozen BK883.out 0; have hfz21_1 := blk_frozen BK883.out 1) | ((with_reducible refine gate_callee (f := 76) rfl ?_); refine goesL_ (some 8) rfl rfl Try.func76 (by kernel_rfl) rfl #[.agg #[.int .i64 a0_0, .slice A0_1 l0_1.length c0_1]] rfl (by (try simp only [List.map_toArray, List.map_cons, List.map_nil]); first | done | rfl | (simp only [List.length_drop, List.length_take]; rfl)) ?_; (with_reducible refine (impl_WayGraph.calls k a0_0 _ _ l0_1 false _ ?side1 ?side2 A3.out).mono ?_); (case side1 => repeat (first | exact (Kd.C_below HR0_1.out HB.out) | (with_reducible refine Kd.C_alloc ?_ _) | (with_reducible refine Kd.C_drewN ?_ _) | (with_reducible refine Kd.C_drew ?_))); (case side2 => exact HC0_1.out); rintro e w22 ⟨rfl, hb⟩; refine ⟨_, rfl, ?_⟩; have n0_ := Aside0.mk (blk_below (g := gb883) (o := .cells #[.int .i64 a0_0, .slice A0_1 l0_1.length c0_1] 30 (0, 0)) (viaB BK883.out) hb); have n1_ := Aside0.mk (below_step (viaX HB.out GE883.out) hb); clear BK883; clear HB; have BK883 := n0_; have HB := n1_; clear n0_ n1_; (try clear hb); (try clear hb2); (try clear hk); (try clear hi)))
  go_ret2
  exact ⟨by first | rfl | (simp [errW_none, errW_some] <;> rfl) | (simp [*, errW_none, errW_some] <;> rfl), viaX HB.out GE883.out⟩

/-! ### spec_l4Equal: function 101 -/
def spec_l4Equal.l0 : Nat → List Int → List Int → Int → Option (Bool)
 | 0, _, _, _ => none
 | k + 1, x0, x1, x5 => if x5 < (x0.length : Int) then (if 0 ≤ x5 then (if x5 < (x1.length : Int) then (if (rd x0 x5) = (rd x1 x5) then (spec_l4Equal.l0 k x0 x1 (wrap64 (x5 + 1))) else (some false)) else (none)) else (none)) else (some true)
def spec_l4Equal.f (k : Nat) (l0 : List Int) (l1 : List Int) : Option (Bool) := if (l0.length : Int) = (l1.length : Int) then (spec_l4Equal.l0 k l0 l1 0) else (some false)
theorem spec_l4Equal.mono_l : ∀ k, (∀ y0 y1 y2, LeO (spec_l4Equal.l0 k y0 y1 y2) (spec_l4Equal.l0 (k + 1) y0 y1 y2))
 | 0 => fun _ _ _ r h => by simp [spec_l4Equal.l0] at h
 | k + 1 => by
  have ih0 := spec_l4Equal.mono_l k
  ·intro y0 y1 y2
   unfold spec_l4Equal.l0
   repeat' first
   | (with_reducible exact ih0 _ _ _)
   | (with_reducible exact LeO.refl _)
   | (with_reducible exact LeO.none _)
   | (with_reducible refine LeO.ite ?_ ?_)
   | (with_reducible refine LeO.bind ?_ (fun _ => ?_))
   | exact ih0 _ _ _
   | exact LeO.none _
   | refine LeO.ite ?_ ?_
   | refine LeO.bind ?_ (fun _ => ?_)
theorem spec_l4Equal.mono : ∀ a0 a1 k, LeO (spec_l4Equal.f k a0 a1) (spec_l4Equal.f (k + 1) a0 a1) := by
 intro a0 a1 k; have ih0 := spec_l4Equal.mono_l k
 unfold spec_l4Equal.f
 repeat' first
   | (with_reducible exact ih0 _ _ _)
   | (with_reducible exact LeO.refl _)
   | (with_reducible exact LeO.none _)
   | (with_reducible refine LeO.ite ?_ ?_)
   | (with_reducible refine LeO.bind ?_ (fun _ => ?_))
   | exact ih0 _ _ _
   | exact LeO.none _
   | refine LeO.ite ?_ ?_
   | refine LeO.bind ?_ (fun _ => ?_)
set_option maxHeartbeats 8000000 in
set_option maxRecDepth 100000 in
theorem spec_l4Equal.calls (k : Nat) (A0 : Option Addr) (c0 : Nat) (l0 : List Int) (A1 : Option Addr) (c1 : Nat) (l1 : List Int) (r : Bool) (w : World) (hr0 : Kd.C (Kd.int .i64) w A0 l0.length l0) (hc0 : l0.length ≤ c0) (hr1 : Kd.C (Kd.int .i64) w A1 l1.length l1) (hc1 : l1.length ≤ c1) (h : spec_l4Equal.f k l0 l1 = some r) :
  Calls Try.prog 101 #[.slice A0 l0.length c0, .slice A1 l1.length c1] w fun e w' => e = .returned (.bool r) ∧ Drawn0 w w' := by
 have HR0 := Aside0.mk hr0; have HC0 := Aside0.mk hc0; clear hr0 hc0; have HR1 := Aside0.mk hr1; have HC1 := Aside0.mk hc1; clear hr1 hc1; have H : (if (l0.length : Int) = (l1.length : Int) then (spec_l4Equal.l0 k l0 l1 0) else (some false)) = some r := h; clear h
 by_cases c3 : (l0.length : Int) = (l1.length : Int)
 ·rw [if_pos c3] at H
  have c3b0 : ((l0.length : Int) == (l1.length : Int)) = true := beq_iff_eq.mpr c3; have c3b1 : ((l0.length : Int) != (l1.length : Int)) = false := bne_eq_false_iff_eq.mpr c3; have c3b2 : (l0.length == l1.length) = true := by first | simpa using c3 | (simp at c3 ⊢; omega)
  clear c3; have H' := Aside0.mk H; clear H
  go_enter Try.func101, Try.ntmps101
  go_wp2
  repeat (go_quiet (fail); try go_wp2)
  go_loopg [5] k (fun kq v5 w' => ∃ (x5_1 : Int), v5 = .int .i64 x5_1 ∧ Aside0 (spec_l4Equal.l0 kq l0 l1 x5_1 = some r) ∧ Aside0 (kq ≤ k) ∧ Drawn0 w w')
  case atStart => exact ⟨(0), (by first | rfl | (simp; done) | (simp [*]; done)), H', ⟨Nat.le_refl _⟩, by repeat (first | exact Drawn0.refl _ | apply Drawn0.step)⟩
  case round =>
   clear H'
   try clear c1
   try clear p2
   try clear c3
   try clear c3b0
   try clear c3b1
   try clear c3b2
   obtain ⟨x5_1, rfl, HA, HK1, ⟨m1, rfl⟩⟩ := hrel
   cases gk with
   | zero => exact absurd HA.out (by simp [spec_l4Equal.l0])
   | succ k1 =>
    have H := HA.out; clear HA
    simp only [spec_l4Equal.l0] at H
    by_cases c4 : x5_1 < (l0.length : Int)
    ·rw [if_pos c4] at H
     have c4b0 : decide (x5_1 < (l0.length : Int)) = true := decide_eq_true c4; clear c4
     by_cases c5 : 0 ≤ x5_1
     ·rw [if_pos c5] at H
      have c5b0 : decide (0 ≤ x5_1) = true := decide_eq_true c5; clear c5
      by_cases c6 : x5_1 < (l1.length : Int)
      ·rw [if_pos c6] at H
       have c6b0 : decide (x5_1 < (l1.length : Int)) = true := decide_eq_true c6; clear c6
       by_cases c7 : (rd l0 x5_1) = (rd l1 x5_1)
       ·rw [if_pos c7] at H
        have c7b0 : ((rd l0 x5_1) == (rd l1 x5_1)) = true := beq_iff_eq.mpr c7; have c7b1 : ((rd l0 x5_1) != (rd l1 x5_1)) = false := bne_eq_false_iff_eq.mpr c7; clear c7; have H' := Aside0.mk H; clear H; have p889 : 0 ≤ (x5_1 : Int) := of_decide_eq_true (by first | (with_reducible assumption) | assumption); have q889 : x5_1 < (l0.length : Int) := of_decide_eq_true (by first | (with_reducible assumption) | assumption); obtain ⟨ad889, e889, hx889_0⟩ := Kd.at_int HR0.out x5_1 p889 q889
        cases e889
        replace p889 := eq_true p889; replace q889 := eq_true q889; have p890 : 0 ≤ (x5_1 : Int) := of_decide_eq_true (by first | (with_reducible assumption) | assumption); have q890 : x5_1 < (l1.length : Int) := of_decide_eq_true (by first | (with_reducible assumption) | assumption); obtain ⟨ad890, e890, hx890_0⟩ := Kd.at_int HR1.out x5_1 p890 q890
        cases e890
        replace p890 := eq_true p890; replace q890 := eq_true q890
        go_wp2
        repeat (go_quiet (fail); try go_wp2)
        go_roundg k1
        case measure => have := HK1.out; omega
        case rel => exact ⟨(wrap64 (x5_1 + 1)), (by first | rfl | (simp; done) | (simp [*]; done)), H', ⟨by have := HK1.out; omega⟩, by repeat (first | exact Drawn0.refl _ | apply Drawn0.step)⟩
       ·rw [if_neg c7] at H
        have c7b0 : ((rd l0 x5_1) == (rd l1 x5_1)) = false := beq_eq_false_iff_ne.mpr c7; have c7b1 : ((rd l0 x5_1) != (rd l1 x5_1)) = true := bne_iff_ne.mpr c7; obtain rfl := Option.some.inj H; have p889 : 0 ≤ (x5_1 : Int) := of_decide_eq_true (by first | (with_reducible assumption) | assumption); have q889 : x5_1 < (l0.length : Int) := of_decide_eq_true (by first | (with_reducible assumption) | assumption); obtain ⟨ad889, e889, hx889_0⟩ := Kd.at_int HR0.out x5_1 p889 q889
        cases e889
        replace p889 := eq_true p889; replace q889 := eq_true q889; have p890 : 0 ≤ (x5_1 : Int) := of_decide_eq_true (by first | (with_reducible assumption) | assumption); have q890 : x5_1 < (l1.length : Int) := of_decide_eq_true (by first | (with_reducible assumption) | assumption); obtain ⟨ad890, e890, hx890_0⟩ := Kd.at_int HR1.out x5_1 p890 q890
        cases e890
        replace p890 := eq_true p890; replace q890 := eq_true q890
        go_wp2
        repeat (go_quiet (fail); try go_wp2)
        go_ret
        exact ⟨by first | rfl | (simp; done) | (simp [*]; done), by repeat (first | exact Drawn0.refl _ | apply Drawn0.step)⟩
      ·rw [if_neg c6] at H
       exact absurd H (by simp)
     ·rw [if_neg c5] at H
      exact absurd H (by simp)
    ·rw [if_neg c4] at H
     have c4b0 : decide (x5_1 < (l0.length : Int)) = false := decide_eq_false c4; clear c4; obtain rfl := Option.some.inj H
     go_wp2
     repeat (go_quiet (fail); try go_wp2)
     go_ret
     exact ⟨by first | rfl | (simp; done) | (simp [*]; done), by repeat (first | exact Drawn0.refl _ | apply Drawn0.step)⟩
 ·rw [if_neg c3] at H
  have c3b0 : ((l0.length : Int) == (l1.length : Int)) = false := beq_eq_false_iff_ne.mpr c3; have c3b1 : ((l0.length : Int) != (l1.length : Int)) = true := bne_iff_ne.mpr c3; have c3b2 : (l0.length == l1.length) = false := by first | simpa using c3 | (simp at c3 ⊢; omega)
  obtain rfl := Option.some.inj H
  go_enter Try.func101, Try.ntmps101
  go_wp2
  repeat (go_quiet (fail); try go_wp2)
  go_ret
  exact ⟨by first | rfl | (simp; done) | (simp [*]; done), by repeat (first | exact Drawn0.refl _ | apply Drawn0.step)⟩

/-! ### spec_ScoreFirst: function 55 -/
def spec_ScoreFirst.l0 : Nat → List Int → Int → Int → List (S44) → Option (Int × Bool)
 | 0, _, _, _, _ => none
 | k + 1, x1, x6, x892000, x892001 => (spec_l1All.f x892000 x892001).bind fun t893 => (if x6 ≤ t893 then ((spec_l1Out.f k x892000 x892001 x6).bind fun t894 => ((spec_l4Equal.f k t894 x1).bind fun t897 => (if t897 = true then (some (x6, true)) else (spec_ScoreFirst.l0 k x1 (wrap64 (x6 + 1)) x892000 x892001)))) else (some (0, false)))
def spec_ScoreFirst.f (k : Nat) (a0_0 : Int) (l0_1 : List (S44)) (l1 : List Int) : Option (Int × Bool) := (spec_WayGraph.f k a0_0 l0_1).bind fun t892 => (if t892 = true then (spec_ScoreFirst.l0 k l1 0 a0_0 l0_1) else (some (0, false)))
theorem spec_ScoreFirst.mono_l : ∀ k, (∀ y0 y1 y2 y3, LeO (spec_ScoreFirst.l0 k y0 y1 y2 y3) (spec_ScoreFirst.l0 (k + 1) y0 y1 y2 y3))
 | 0 => fun _ _ _ _ r h => by simp [spec_ScoreFirst.l0] at h
 | k + 1 => by
  have ih0 := spec_ScoreFirst.mono_l k
  ·intro y0 y1 y2 y3
   unfold spec_ScoreFirst.l0
   repeat' first
   | (with_reducible exact ih0 _ _ _ _)
   | (with_reducible exact spec_WayGraph.mono _ _ _)
   | (with_reducible exact spec_l1Out.mono _ _ _ _)
   | (with_reducible exact spec_l4Equal.mono _ _ _)
   | (with_reducible exact LeO.refl _)
   | (with_reducible exact LeO.none _)
   | (with_reducible refine LeO.ite ?_ ?_)
   | (with_reducible refine LeO.bind ?_ (fun _ => ?_))
   | exact ih0 _ _ _ _
   | exact spec_WayGraph.mono _ _ _
   | exact spec_l1Out.mono _ _ _ _
   | exact spec_l4Equal.mono _ _ _
   | exact LeO.none _
   | refine LeO.ite ?_ ?_
   | refine LeO.bind ?_ (fun _ => ?_)
theorem spec_ScoreFirst.mono : ∀ a0 a1 a2 k, LeO (spec_ScoreFirst.f k a0 a1 a2) (spec_ScoreFirst.f (k + 1) a0 a1 a2) := by
 intro a0 a1 a2 k; have ih0 := spec_ScoreFirst.mono_l k
 unfold spec_ScoreFirst.f
 repeat' first
   | (with_reducible exact ih0 _ _ _ _)
   | (with_reducible exact spec_WayGraph.mono _ _ _)
   | (with_reducible exact spec_l1Out.mono _ _ _ _)
   | (with_reducible exact spec_l4Equal.mono _ _ _)
   | (with_reducible exact LeO.refl _)
   | (with_reducible exact LeO.none _)
   | (with_reducible refine LeO.ite ?_ ?_)
   | (with_reducible refine LeO.bind ?_ (fun _ => ?_))
   | exact ih0 _ _ _ _
   | exact spec_WayGraph.mono _ _ _
   | exact spec_l1Out.mono _ _ _ _
   | exact spec_l4Equal.mono _ _ _
   | exact LeO.none _
   | refine LeO.ite ?_ ?_
   | refine LeO.bind ?_ (fun _ => ?_)
set_option maxHeartbeats 8000000 in
set_option maxRecDepth 100000 in
theorem spec_ScoreFirst.calls (k : Nat) (a0_0 : Int) (A0_1 : Option Addr) (c0_1 : Nat) (l0_1 : List (S44)) (A1 : Option Addr) (c1 : Nat) (l1 : List Int) (r1 : Int) (r2 : Bool) (w : World) (hr0_1 : Kd.C k44 w A0_1 l0_1.length l0_1) (hc0_1 : l0_1.length ≤ c0_1) (hr1 : Kd.C (Kd.int .i64) w A1 l1.length l1) (hc1 : l1.length ≤ c1) (h : spec_ScoreFirst.f k a0_0 l0_1 l1 = some (r1, r2)) :
  Calls Try.prog 55 #[.agg #[.int .i64 a0_0, .slice A0_1 l0_1.length c0_1], .slice A1 l1.length c1] w fun e w' => e = .returned (.tuple #[.int .i64 r1, .bool r2]) ∧ Below w.heap.size w w' := by
 have hu30 := Try.underlying30; have HR0_1 := Aside0.mk hr0_1; have HC0_1 := Aside0.mk hc0_1; clear hr0_1 hc0_1; have HR1 := Aside0.mk hr1; have HC1 := Aside0.mk hc1; clear hr1 hc1; have HB := Aside0.mk (Below.refl w.heap.size w); have H : ((spec_WayGraph.f k a0_0 l0_1).bind fun t892 => (if t892 = true then (spec_ScoreFirst.l0 k l1 0 a0_0 l0_1) else (some (0, false)))) = some (r1, r2) := h; clear h; replace H := Option.bind_eq_some_iff.mp H; obtain ⟨t892, A30, H⟩ := H; replace H : (if t892 = true then (spec_ScoreFirst.l0 k l1 0 a0_0 l0_1) else (some (0, false))) = some (r1, r2) := H; have A3 := Aside0.mk A30; clear A30
 by_cases c4 : t892 = true
 ·subst c4
  have H1 : (spec_ScoreFirst.l0 k l1 0 a0_0 l0_1) = some (r1, r2) := by rw [if_pos rfl] at H; exact H
  clear H; have H := H1; clear H1; have H' := Aside0.mk H; clear H
  go_enter Try.func55, Try.ntmps55
  go_wp2_with (first | ((with_reducible refine gate_dst (N := 2) rfl ?_); refine box_event ?hg (N := 2) ?hd (cs := #[.int .i64 a0_0, .slice A0_1 l0_1.length c0_1]) (t := 30) ?hr ?_; (case hd => rfl); (case hg => rfl); (case hr => first | (go_simp; done) | (go_simp; rfl)); intro gb891 hg w5 hbox hb; have n0_ := Aside0.mk (below_step (viaW HB.out) hb); have n1_ := Aside0.mk (hbox); have n2_ := Aside0.mk ((by rw [hg]; exact (below_size (viaW HB.out)) : w.heap.size ≤ gb891)); have n3_ := Aside0.mk ((by rw [hg]; exact (below_size (viaW HB.out)) : w.heap.size ≤ gb891)); clear HB; have HB := n0_; have BK891 := n1_; have GW891 := n2_; have GE891 := n3_; clear n0_ n1_ n2_ n3_; clear hb hbox hg; have hcz6_0 : w5.cell? ⟨gb891, 0, none⟩ = some (.int .i64 a0_0) := (blk_cell BK891.out 0).trans rfl; have hcz6_1 : w5.cell? ⟨gb891, 1, none⟩ = some (.slice A0_1 l0_1.length c0_1) := (blk_cell BK891.out 1).trans rfl; have hfz6_0 := blk_frozen BK891.out 0; have hfz6_1 := blk_frozen BK891.out 1) | ((with_reducible refine gate_callee (f := 74) rfl ?_); refine goesL_ (some 8) rfl rfl Try.func74 (by kernel_rfl) rfl #[.agg #[.int .i64 a0_0, .slice A0_1 l0_1.length c0_1]] rfl (by (try simp only [List.map_toArray, List.map_cons, List.map_nil]); first | done | rfl | (simp only [List.length_drop, List.length_take]; rfl)) ?_; (with_reducible refine (spec_WayGraph.calls k a0_0 _ _ l0_1 true _ ?side1 ?side2 A3.out).mono ?_); (case side1 => repeat (first | exact (Kd.C_below HR0_1.out HB.out) | (with_reducible refine Kd.C_alloc ?_ _) | (with_reducible refine Kd.C_drewN ?_ _) | (with_reducible refine Kd.C_drew ?_))); (case side2 => exact HC0_1.out); rintro e w7 ⟨rfl, hb⟩; refine ⟨_, rfl, ?_⟩; have n0_ := Aside0.mk (blk_below (g := gb891) (o := .cells #[.int .i64 a0_0, .slice A0_1 l0_1.length c0_1] 30 (0, 0)) (viaB BK891.out) hb); have n1_ := Aside0.mk (below_step (viaX HB.out GE891.out) hb); clear BK891; clear HB; have BK891 := n0_; have HB := n1_; clear n0_ n1_; (try clear hb); (try clear hb2); (try clear hk); (try clear hi)))
  go_loopg [6] k (fun kq v6 w' => ∃ (x6_1 : Int), v6 = .int .i64 x6_1 ∧ Aside0 (spec_ScoreFirst.l0 kq l1 x6_1 a0_0 l0_1 = some (r1, r2)) ∧ Aside0 (kq ≤ k) ∧ Aside0 (w'.heap[gb891]? = some (.cells #[.int .i64 a0_0, (.slice A0_1 l0_1.length c0_1)] 30 (0, 0))) ∧ Aside0 (Below w.heap.size w w'))
  case atStart => exact ⟨(0), (by first | rfl | (simp; done) | (simp [*]; done)), H', ⟨Nat.le_refl _⟩, ⟨viaB BK891.out⟩, ⟨viaX HB.out GE891.out⟩⟩
  case round =>
   clear H'
   try clear c1
   try clear p2
   try clear c4
   try clear c5
   try clear c7
   try clear hcz6_0
   try clear hcz6_1
   try clear hfz6_0
   try clear hfz6_1
   obtain ⟨x6_1, rfl, HA, HK1, BK891, HB⟩ := hrel
   cases gk with
   | zero => exact absurd HA.out (by simp [spec_ScoreFirst.l0])
   | succ k1 =>
    have H := HA.out; clear HA
    simp only [spec_ScoreFirst.l0] at H
    replace H := Option.bind_eq_some_iff.mp H; obtain ⟨t893, A80, H⟩ := H; replace H : (if x6_1 ≤ t893 then ((spec_l1Out.f k1 a0_0 l0_1 x6_1).bind fun t894 => ((spec_l4Equal.f k1 t894 l1).bind fun t897 => (if t897 = true then (some (x6_1, true)) else (spec_ScoreFirst.l0 k1 l1 (wrap64 (x6_1 + 1)) a0_0 l0_1)))) else (some (0, false))) = some (r1, r2) := H; have A8 := Aside0.mk A80; clear A80
    by_cases c9 : x6_1 ≤ t893
    ·rw [if_pos c9] at H
     have c9b0 : decide (x6_1 ≤ t893) = true := decide_eq_true c9; clear c9; replace H := Option.bind_eq_some_iff.mp H; obtain ⟨t894, A100, H⟩ := H; replace H : ((spec_l4Equal.f k1 t894 l1).bind fun t897 => (if t897 = true then (some (x6_1, true)) else (spec_ScoreFirst.l0 k1 l1 (wrap64 (x6_1 + 1)) a0_0 l0_1))) = some (r1, r2) := H; have A10 := Aside0.mk A100; clear A100; replace H := Option.bind_eq_some_iff.mp H; obtain ⟨t897, A110, H⟩ := H; replace H : (if t897 = true then (some (x6_1, true)) else (spec_ScoreFirst.l0 k1 l1 (wrap64 (x6_1 + 1)) a0_0 l0_1)) = some (r1, r2) := H; have A11 := Aside0.mk A110; clear A110
     by_cases c12 : t897 = true
     ·subst c12
      have H1 : (some (x6_1, true)) = some (r1, r2) := by rw [if_pos rfl] at H; exact H
      clear H; have H := H1; clear H1
      simp only [Option.some.injEq, Prod.mk.injEq] at H
      obtain ⟨rfl, rfl⟩ := H; have hcz13_0 : wr.cell? ⟨gb891, 0, none⟩ = some (.int .i64 a0_0) := (blk_cell BK891.out 0).trans rfl; have hcz13_1 : wr.cell? ⟨gb891, 1, none⟩ = some (.slice A0_1 l0_1.length c0_1) := (blk_cell BK891.out 1).trans rfl; have hfz13_0 := blk_frozen BK891.out 0; have hfz13_1 := blk_frozen BK891.out 1
      go_wp2_with (first | ((with_reducible refine gate_callee (f := 75) rfl ?_); refine goesL_ (some 12) rfl rfl Try.func75 (by kernel_rfl) rfl #[.agg #[.int .i64 a0_0, .slice A0_1 l0_1.length c0_1]] rfl (by (try simp only [List.map_toArray, List.map_cons, List.map_nil]); first | done | rfl | (simp only [List.length_drop, List.length_take]; rfl)) ?_; (with_reducible refine (spec_l1All.calls a0_0 _ _ l0_1 t893 _ ?side1 ?side2 A8.out).mono ?_); (case side1 => repeat (first | exact (Kd.C_below HR0_1.out HB.out) | (with_reducible refine Kd.C_alloc ?_ _) | (with_reducible refine Kd.C_drewN ?_ _) | (with_reducible refine Kd.C_drew ?_))); (case side2 => exact HC0_1.out); rintro e w14 ⟨rfl, hb⟩; refine ⟨_, rfl, ?_⟩; have n0_ := Aside0.mk (blk_below (g := gb891) (o := .cells #[.int .i64 a0_0, .slice A0_1 l0_1.length c0_1] 30 (0, 0)) (viaB BK891.out) hb); have n1_ := Aside0.mk (below_step (viaX HB.out GE891.out) hb); clear BK891; clear HB; have BK891 := n0_; have HB := n1_; clear n0_ n1_; (try clear hb); (try clear hb2); (try clear hk); (try clear hi); have hcz15_0 : w14.cell? ⟨gb891, 0, none⟩ = some (.int .i64 a0_0) := (blk_cell BK891.out 0).trans rfl; have hcz15_1 : w14.cell? ⟨gb891, 1, none⟩ = some (.slice A0_1 l0_1.length c0_1) := (blk_cell BK891.out 1).trans rfl; have hfz15_0 := blk_frozen BK891.out 0; have hfz15_1 := blk_frozen BK891.out 1) | ((with_reducible refine gate_callee (f := 102) rfl ?_); refine goesL_ (some 18) rfl rfl Try.func102 (by kernel_rfl) rfl #[.agg #[.int .i64 a0_0, .slice A0_1 l0_1.length c0_1], .int .i64 x6_1] rfl (by (try simp only [List.map_toArray, List.map_cons, List.map_nil]); first | done | rfl | (simp only [List.length_drop, List.length_take]; rfl)) ?_; (with_reducible refine (spec_l1Out.calls k1 a0_0 _ _ l0_1 x6_1 t894 _ ?side1 ?side2 A10.out).mono ?_); (case side1 => repeat (first | exact (Kd.C_below HR0_1.out HB.out) | (with_reducible refine Kd.C_alloc ?_ _) | (with_reducible refine Kd.C_drewN ?_ _) | (with_reducible refine Kd.C_drew ?_))); (case side2 => exact HC0_1.out); rintro e w16 ⟨v895, rfl, ho0, hb⟩; refine ⟨_, rfl, ?_⟩; have n0_ := Aside0.mk (Kd.R_lower ho0 (below_size (viaX HB.out GE891.out))); have n1_ := Aside0.mk (blk_below (g := gb891) (o := .cells #[.int .i64 a0_0, .slice A0_1 l0_1.length c0_1] 30 (0, 0)) (viaB BK891.out) hb); have n2_ := Aside0.mk (below_step (viaX HB.out GE891.out) hb); clear BK891; clear HB; have HO896 := n0_; have BK891 := n1_; have HB := n2_; clear n0_ n1_ n2_; (try clear hb); (try clear hb2); (try clear hk); (try clear hi); (try clear ho0); obtain ⟨Ao17, co17, eo17⟩ := Kd.R_slice HO896.out; subst eo17) | ((with_reducible refine gate_callee (f := 101) rfl ?_); refine goesL_ (some 20) rfl rfl Try.func101 (by kernel_rfl) rfl #[.slice Ao17 t894.length co17, .slice A1 l1.length c1] rfl (by (try simp only [List.map_toArray, List.map_cons, List.map_nil]); first | done | rfl | (simp only [List.length_drop, List.length_take]; rfl)) ?_; (with_reducible refine (spec_l4Equal.calls k1 _ _ t894 _ _ l1 true _ ?side1 ?side2 ?side3 ?side4 A11.out).mono ?_); (case side1 => repeat (first | exact (Kd.R_reads' HO896.out).2.2 | (with_reducible refine Kd.C_alloc ?_ _) | (with_reducible refine Kd.C_drewN ?_ _) | (with_reducible refine Kd.C_drew ?_))); (case side2 => exact (Kd.R_reads' HO896.out).2.1); (case side3 => repeat (first | exact (Kd.C_below HR1.out HB.out) | (with_reducible refine Kd.C_alloc ?_ _) | (with_reducible refine Kd.C_drewN ?_ _) | (with_reducible refine Kd.C_drew ?_))); (case side4 => exact HC1.out); rintro e w' ⟨rfl, ⟨nd, rfl⟩⟩; refine ⟨_, rfl, ?_⟩))
      go_ret2
      exact ⟨by first | rfl | (simp [errW_none, errW_some] <;> rfl) | (simp [*, errW_none, errW_some] <;> rfl), viaX HB.out GE891.out⟩
     ·replace c12 := Bool.eq_false_iff.mpr c12
      subst c12; have H1 : (spec_ScoreFirst.l0 k1 l1 (wrap64 (x6_1 + 1)) a0_0 l0_1) = some (r1, r2) := by rw [if_neg (show ¬ (false = true) by decide)] at H; exact H
      clear H; have H := H1; clear H1; have H' := Aside0.mk H; clear H; have hcz18_0 : wr.cell? ⟨gb891, 0, none⟩ = some (.int .i64 a0_0) := (blk_cell BK891.out 0).trans rfl; have hcz18_1 : wr.cell? ⟨gb891, 1, none⟩ = some (.slice A0_1 l0_1.length c0_1) := (blk_cell BK891.out 1).trans rfl; have hfz18_0 := blk_frozen BK891.out 0; have hfz18_1 := blk_frozen BK891.out 1
      go_wp2_with (first | ((with_reducible refine gate_callee (f := 75) rfl ?_); refine goesL_ (some 12) rfl rfl Try.func75 (by kernel_rfl) rfl #[.agg #[.int .i64 a0_0, .slice A0_1 l0_1.length c0_1]] rfl (by (try simp only [List.map_toArray, List.map_cons, List.map_nil]); first | done | rfl | (simp only [List.length_drop, List.length_take]; rfl)) ?_; (with_reducible refine (spec_l1All.calls a0_0 _ _ l0_1 t893 _ ?side1 ?side2 A8.out).mono ?_); (case side1 => repeat (first | exact (Kd.C_below HR0_1.out HB.out) | (with_reducible refine Kd.C_alloc ?_ _) | (with_reducible refine Kd.C_drewN ?_ _) | (with_reducible refine Kd.C_drew ?_))); (case side2 => exact HC0_1.out); rintro e w19 ⟨rfl, hb⟩; refine ⟨_, rfl, ?_⟩; have n0_ := Aside0.mk (blk_below (g := gb891) (o := .cells #[.int .i64 a0_0, .slice A0_1 l0_1.length c0_1] 30 (0, 0)) (viaB BK891.out) hb); have n1_ := Aside0.mk (below_step (viaX HB.out GE891.out) hb); clear BK891; clear HB; have BK891 := n0_; have HB := n1_; clear n0_ n1_; (try clear hb); (try clear hb2); (try clear hk); (try clear hi); have hcz20_0 : w19.cell? ⟨gb891, 0, none⟩ = some (.int .i64 a0_0) := (blk_cell BK891.out 0).trans rfl; have hcz20_1 : w19.cell? ⟨gb891, 1, none⟩ = some (.slice A0_1 l0_1.length c0_1) := (blk_cell BK891.out 1).trans rfl; have hfz20_0 := blk_frozen BK891.out 0; have hfz20_1 := blk_frozen BK891.out 1) | ((with_reducible refine gate_callee (f := 102) rfl ?_); refine goesL_ (some 18) rfl rfl Try.func102 (by kernel_rfl) rfl #[.agg #[.int .i64 a0_0, .slice A0_1 l0_1.length c0_1], .int .i64 x6_1] rfl (by (try simp only [List.map_toArray, List.map_cons, List.map_nil]); first | done | rfl | (simp only [List.length_drop, List.length_take]; rfl)) ?_; (with_reducible refine (spec_l1Out.calls k1 a0_0 _ _ l0_1 x6_1 t894 _ ?side1 ?side2 A10.out).mono ?_); (case side1 => repeat (first | exact (Kd.C_below HR0_1.out HB.out) | (with_reducible refine Kd.C_alloc ?_ _) | (with_reducible refine Kd.C_drewN ?_ _) | (with_reducible refine Kd.C_drew ?_))); (case side2 => exact HC0_1.out); rintro e w21 ⟨v895, rfl, ho0, hb⟩; refine ⟨_, rfl, ?_⟩; have n0_ := Aside0.mk (Kd.R_lower ho0 (below_size (viaX HB.out GE891.out))); have n1_ := Aside0.mk (blk_below (g := gb891) (o := .cells #[.int .i64 a0_0, .slice A0_1 l0_1.length c0_1] 30 (0, 0)) (viaB BK891.out) hb); have n2_ := Aside0.mk (below_step (viaX HB.out GE891.out) hb); clear BK891; clear HB; have HO896 := n0_; have BK891 := n1_; have HB := n2_; clear n0_ n1_ n2_; (try clear hb); (try clear hb2); (try clear hk); (try clear hi); (try clear ho0); obtain ⟨Ao22, co22, eo22⟩ := Kd.R_slice HO896.out; subst eo22) | ((with_reducible refine gate_callee (f := 101) rfl ?_); refine goesL_ (some 20) rfl rfl Try.func101 (by kernel_rfl) rfl #[.slice Ao22 t894.length co22, .slice A1 l1.length c1] rfl (by (try simp only [List.map_toArray, List.map_cons, List.map_nil]); first | done | rfl | (simp only [List.length_drop, List.length_take]; rfl)) ?_; (with_reducible refine (spec_l4Equal.calls k1 _ _ t894 _ _ l1 false _ ?side1 ?side2 ?side3 ?side4 A11.out).mono ?_); (case side1 => repeat (first | exact (Kd.R_reads' HO896.out).2.2 | (with_reducible refine Kd.C_alloc ?_ _) | (with_reducible refine Kd.C_drewN ?_ _) | (with_reducible refine Kd.C_drew ?_))); (case side2 => exact (Kd.R_reads' HO896.out).2.1); (case side3 => repeat (first | exact (Kd.C_below HR1.out HB.out) | (with_reducible refine Kd.C_alloc ?_ _) | (with_reducible refine Kd.C_drewN ?_ _) | (with_reducible refine Kd.C_drew ?_))); (case side4 => exact HC1.out); rintro e w' ⟨rfl, ⟨nd, rfl⟩⟩; refine ⟨_, rfl, ?_⟩))
      go_roundg k1
      case measure => have := HK1.out; omega
      case rel => exact ⟨(wrap64 (x6_1 + 1)), (by first | rfl | (simp; done) | (simp [*]; done)), H', ⟨by have := HK1.out; omega⟩, ⟨viaB BK891.out⟩, ⟨viaX HB.out GE891.out⟩⟩
    ·rw [if_neg c9] at H
     have c9b0 : decide (x6_1 ≤ t893) = false := decide_eq_false c9; clear c9
     simp only [Option.some.injEq, Prod.mk.injEq] at H
     obtain ⟨rfl, rfl⟩ := H; have hcz23_0 : wr.cell? ⟨gb891, 0, none⟩ = some (.int .i64 a0_0) := (blk_cell BK891.out 0).trans rfl; have hcz23_1 : wr.cell? ⟨gb891, 1, none⟩ = some (.slice A0_1 l0_1.length c0_1) := (blk_cell BK891.out 1).trans rfl; have hfz23_0 := blk_frozen BK891.out 0; have hfz23_1 := blk_frozen BK891.out 1
     go_wp2_with (first | ((with_reducible refine gate_callee (f := 75) rfl ?_); refine goesL_ (some 12) rfl rfl Try.func75 (by kernel_rfl) rfl #[.agg #[.int .i64 a0_0, .slice A0_1 l0_1.length c0_1]] rfl (by (try simp only [List.map_toArray, List.map_cons, List.map_nil]); first | done | rfl | (simp only [List.length_drop, List.length_take]; rfl)) ?_; (with_reducible refine (spec_l1All.calls a0_0 _ _ l0_1 t893 _ ?side1 ?side2 A8.out).mono ?_); (case side1 => repeat (first | exact (Kd.C_below HR0_1.out HB.out) | (with_reducible refine Kd.C_alloc ?_ _) | (with_reducible refine Kd.C_drewN ?_ _) | (with_reducible refine Kd.C_drew ?_))); (case side2 => exact HC0_1.out); rintro e w24 ⟨rfl, hb⟩; refine ⟨_, rfl, ?_⟩; have n0_ := Aside0.mk (blk_below (g := gb891) (o := .cells #[.int .i64 a0_0, .slice A0_1 l0_1.length c0_1] 30 (0, 0)) (viaB BK891.out) hb); have n1_ := Aside0.mk (below_step (viaX HB.out GE891.out) hb); clear BK891; clear HB; have BK891 := n0_; have HB := n1_; clear n0_ n1_; (try clear hb); (try clear hb2); (try clear hk); (try clear hi)))
     go_ret2
     exact ⟨by first | rfl | (simp [errW_none, errW_some] <;> rfl) | (simp [*, errW_none, errW_some] <;> rfl), viaX HB.out GE891.out⟩
 ·replace c4 := Bool.eq_false_iff.mpr c4
  subst c4; have H1 : (some (0, false)) = some (r1, r2) := by rw [if_neg (show ¬ (false = true) by decide)] at H; exact H
  clear H; have H := H1; clear H1
  simp only [Option.some.injEq, Prod.mk.injEq] at H
  obtain ⟨rfl, rfl⟩ := H
  go_enter Try.func55, Try.ntmps55
  go_wp2_with (first | ((with_reducible refine gate_dst (N := 2) rfl ?_); refine box_event ?hg (N := 2) ?hd (cs := #[.int .i64 a0_0, .slice A0_1 l0_1.length c0_1]) (t := 30) ?hr ?_; (case hd => rfl); (case hg => rfl); (case hr => first | (go_simp; done) | (go_simp; rfl)); intro gb891 hg w25 hbox hb; have n0_ := Aside0.mk (below_step (viaW HB.out) hb); have n1_ := Aside0.mk (hbox); have n2_ := Aside0.mk ((by rw [hg]; exact (below_size (viaW HB.out)) : w.heap.size ≤ gb891)); have n3_ := Aside0.mk ((by rw [hg]; exact (below_size (viaW HB.out)) : w.heap.size ≤ gb891)); clear HB; have HB := n0_; have BK891 := n1_; have GW891 := n2_; have GE891 := n3_; clear n0_ n1_ n2_ n3_; clear hb hbox hg; have hcz26_0 : w25.cell? ⟨gb891, 0, none⟩ = some (.int .i64 a0_0) := (blk_cell BK891.out 0).trans rfl; have hcz26_1 : w25.cell? ⟨gb891, 1, none⟩ = some (.slice A0_1 l0_1.length c0_1) := (blk_cell BK891.out 1).trans rfl; have hfz26_0 := blk_frozen BK891.out 0; have hfz26_1 := blk_frozen BK891.out 1) | ((with_reducible refine gate_callee (f := 74) rfl ?_); refine goesL_ (some 8) rfl rfl Try.func74 (by kernel_rfl) rfl #[.agg #[.int .i64 a0_0, .slice A0_1 l0_1.length c0_1]] rfl (by (try simp only [List.map_toArray, List.map_cons, List.map_nil]); first | done | rfl | (simp only [List.length_drop, List.length_take]; rfl)) ?_; (with_reducible refine (spec_WayGraph.calls k a0_0 _ _ l0_1 false _ ?side1 ?side2 A3.out).mono ?_); (case side1 => repeat (first | exact (Kd.C_below HR0_1.out HB.out) | (with_reducible refine Kd.C_alloc ?_ _) | (with_reducible refine Kd.C_drewN ?_ _) | (with_reducible refine Kd.C_drew ?_))); (case side2 => exact HC0_1.out); rintro e w27 ⟨rfl, hb⟩; refine ⟨_, rfl, ?_⟩; have n0_ := Aside0.mk (blk_below (g := gb891) (o := .cells #[.int .i64 a0_0, .slice A0_1 l0_1.length c0_1] 30 (0, 0)) (viaB BK891.out) hb); have n1_ := Aside0.mk (below_step (viaX HB.out GE891.out) hb); clear BK891; clear HB; have BK891 := n0_; have HB := n1_; clear n0_ n1_; (try clear hb); (try clear hb2); (try clear hk); (try clear hi)))
  go_ret2
  exact ⟨by first | rfl | (simp [errW_none, errW_some] <;> rfl) | (simp [*, errW_none, errW_some] <;> rfl), viaX HB.out GE891.out⟩

/-! ### impl_ScoreIs: function 56 -/
mutual
def impl_ScoreIs.j0 : Nat → List Int → Bool → Int → List (S44) → Option (Bool)
 | 0, _, _, _, _ => none
 | k + 1, x1, x21, x899000, x899001 => if x21 = true then (some false) else (if 0 ≤ x899000 then (impl_ScoreIs.l0 k x1 0 (shl .i64 1 x899000) 0 x899000 x899001) else (none))
def impl_ScoreIs.l0 : Nat → List Int → Int → Int → Int → Int → List (S44) → Option (Bool)
 | 0, _, _, _, _, _, _ => none
 | k + 1, x1, x5, x24, x25, x899000, x899001 => if x25 < x24 then (impl_ScoreIs.l1 k x1 0 x25 x24 x25 x1 (x1.length : Int) 0 x899000 x899001) else (some (x5 == (x899001.length : Int)))
def impl_ScoreIs.l1 : Nat → List Int → Int → Int → Int → Int → List Int → Int → Int → Int → List (S44) → Option (Bool)
 | 0, _, _, _, _, _, _, _, _, _, _ => none
 | k + 1, x1, x5, x6, x24, x25, x28, x29, x30, x899000, x899001 => if x30 < x29 then (if 0 ≤ x30 then (if x30 < (x28.length : Int) then (if (rd x28 x30) < 0 then (some false) else (if (rd x28 x30) > (x899001.length : Int) then (some false) else (impl_ScoreIs.l1 k x1 (wrap64 (x5 + (wrap64 ((rd x28 x30) * (Go.bits .and .i64 (shr .i64 x6 x30) 1))))) x6 x24 x25 x28 x29 (wrap64 (x30 + 1)) x899000 x899001))) else (none)) else (none)) else (impl_ScoreIs.l2 k x1 x5 x6 0 x24 x25 x899001 (x899001.length : Int) 0 x899000 x899001)
def impl_ScoreIs.l2 : Nat → List Int → Int → Int → Int → Int → Int → List (S44) → Int → Int → Int → List (S44) → Option (Bool)
 | 0, _, _, _, _, _, _, _, _, _, _, _ => none
 | k + 1, x1, x5, x6, x9, x24, x25, x54, x55, x56, x899000, x899001 => if x56 < x55 then (if 0 ≤ x56 then (if x56 < (x54.length : Int) then (if 0 ≤ ((rd_T44 x54 x56).f0) then (if 0 ≤ ((rd_T44 x54 x56).f1) then (impl_ScoreIs.l2 k x1 x5 x6 (wrap64 (x9 + (Go.bits .and .i64 (Go.bits .and .i64 (shr .i64 x6 ((rd_T44 x54 x56).f0)) (shr .i64 x6 ((rd_T44 x54 x56).f1))) 1))) x24 x25 x54 x55 (wrap64 (x56 + 1)) x899000 x899001) else (none)) else (none)) else (none)) else (none)) else (if x5 < x9 then (some false) else (impl_ScoreIs.l0 k x1 x5 x24 (wrap64 (x25 + 1)) x899000 x899001))
end
def impl_ScoreIs.f (k : Nat) (a0_0 : Int) (l0_1 : List (S44)) (l1 : List Int) : Option (Bool) := (impl_WayGraph.f k a0_0 l0_1).bind fun t899 => (if t899 = true then (impl_ScoreIs.j0 k l1 ((l1.length : Int) != a0_0) a0_0 l0_1) else (impl_ScoreIs.j0 k l1 true a0_0 l0_1))
theorem impl_ScoreIs.mono_l : ∀ k, (∀ y0 y1 y2 y3, LeO (impl_ScoreIs.j0 k y0 y1 y2 y3) (impl_ScoreIs.j0 (k + 1) y0 y1 y2 y3)) ∧ (∀ y0 y1 y2 y3 y4 y5, LeO (impl_ScoreIs.l0 k y0 y1 y2 y3 y4 y5) (impl_ScoreIs.l0 (k + 1) y0 y1 y2 y3 y4 y5)) ∧ (∀ y0 y1 y2 y3 y4 y5 y6 y7 y8 y9, LeO (impl_ScoreIs.l1 k y0 y1 y2 y3 y4 y5 y6 y7 y8 y9) (impl_ScoreIs.l1 (k + 1) y0 y1 y2 y3 y4 y5 y6 y7 y8 y9)) ∧ (∀ y0 y1 y2 y3 y4 y5 y6 y7 y8 y9 y10, LeO (impl_ScoreIs.l2 k y0 y1 y2 y3 y4 y5 y6 y7 y8 y9 y10) (impl_ScoreIs.l2 (k + 1) y0 y1 y2 y3 y4 y5 y6 y7 y8 y9 y10))
 | 0 => ⟨fun _ _ _ _ r h => by simp [impl_ScoreIs.j0] at h, fun _ _ _ _ _ _ r h => by simp [impl_ScoreIs.l0] at h, fun _ _ _ _ _ _ _ _ _ _ r h => by simp [impl_ScoreIs.l1] at h, fun _ _ _ _ _ _ _ _ _ _ _ r h => by simp [impl_ScoreIs.l2] at h⟩
 | k + 1 => by
  obtain ⟨ih0, ih1, ih2, ih3⟩ := impl_ScoreIs.mono_l k
  refine ⟨?_, ?_, ?_, ?_⟩
  ·intro y0 y1 y2 y3
   unfold impl_ScoreIs.j0
   repeat' first
   | (with_reducible exact ih0 _ _ _ _)
   | (with_reducible exact ih1 _ _ _ _ _ _)
   | (with_reducible exact ih2 _ _ _ _ _ _ _ _ _ _)
   | (with_reducible exact ih3 _ _ _ _ _ _ _ _ _ _ _)
   | (with_reducible exact impl_WayGraph.mono _ _ _)
   | (with_reducible exact LeO.refl _)
   | (with_reducible exact LeO.none _)
   | (with_reducible refine LeO.ite ?_ ?_)
   | (with_reducible refine LeO.bind ?_ (fun _ => ?_))
   | exact ih0 _ _ _ _
   | exact ih1 _ _ _ _ _ _
   | exact ih2 _ _ _ _ _ _ _ _ _ _
   | exact ih3 _ _ _ _ _ _ _ _ _ _ _
   | exact impl_WayGraph.mono _ _ _
   | exact LeO.none _
   | refine LeO.ite ?_ ?_
   | refine LeO.bind ?_ (fun _ => ?_)
  ·intro y0 y1 y2 y3 y4 y5
   unfold impl_ScoreIs.l0
   repeat' first
   | (with_reducible exact ih0 _ _ _ _)
   | (with_reducible exact ih1 _ _ _ _ _ _)
   | (with_reducible exact ih2 _ _ _ _ _ _ _ _ _ _)
   | (with_reducible exact ih3 _ _ _ _ _ _ _ _ _ _ _)
   | (with_reducible exact impl_WayGraph.mono _ _ _)
   | (with_reducible exact LeO.refl _)
   | (with_reducible exact LeO.none _)
   | (with_reducible refine LeO.ite ?_ ?_)
   | (with_reducible refine LeO.bind ?_ (fun _ => ?_))
   | exact ih0 _ _ _ _
   | exact ih1 _ _ _ _ _ _
   | exact ih2 _ _ _ _ _ _ _ _ _ _
   | exact ih3 _ _ _ _ _ _ _ _ _ _ _
   | exact impl_WayGraph.mono _ _ _
   | exact LeO.none _
   | refine LeO.ite ?_ ?_
   | refine LeO.bind ?_ (fun _ => ?_)
  ·intro y0 y1 y2 y3 y4 y5 y6 y7 y8 y9
   unfold impl_ScoreIs.l1
   repeat' first
   | (with_reducible exact ih0 _ _ _ _)
   | (with_reducible exact ih1 _ _ _ _ _ _)
   | (with_reducible exact ih2 _ _ _ _ _ _ _ _ _ _)
   | (with_reducible exact ih3 _ _ _ _ _ _ _ _ _ _ _)
   | (with_reducible exact impl_WayGraph.mono _ _ _)
   | (with_reducible exact LeO.refl _)
   | (with_reducible exact LeO.none _)
   | (with_reducible refine LeO.ite ?_ ?_)
   | (with_reducible refine LeO.bind ?_ (fun _ => ?_))
   | exact ih0 _ _ _ _
   | exact ih1 _ _ _ _ _ _
   | exact ih2 _ _ _ _ _ _ _ _ _ _
   | exact ih3 _ _ _ _ _ _ _ _ _ _ _
   | exact impl_WayGraph.mono _ _ _
   | exact LeO.none _
   | refine LeO.ite ?_ ?_
   | refine LeO.bind ?_ (fun _ => ?_)
  ·intro y0 y1 y2 y3 y4 y5 y6 y7 y8 y9 y10
   unfold impl_ScoreIs.l2
   repeat' first
   | (with_reducible exact ih0 _ _ _ _)
   | (with_reducible exact ih1 _ _ _ _ _ _)
   | (with_reducible exact ih2 _ _ _ _ _ _ _ _ _ _)
   | (with_reducible exact ih3 _ _ _ _ _ _ _ _ _ _ _)
   | (with_reducible exact impl_WayGraph.mono _ _ _)
   | (with_reducible exact LeO.refl _)
   | (with_reducible exact LeO.none _)
   | (with_reducible refine LeO.ite ?_ ?_)
   | (with_reducible refine LeO.bind ?_ (fun _ => ?_))
   | exact ih0 _ _ _ _
   | exact ih1 _ _ _ _ _ _
   | exact ih2 _ _ _ _ _ _ _ _ _ _
   | exact ih3 _ _ _ _ _ _ _ _ _ _ _
   | exact impl_WayGraph.mono _ _ _
   | exact LeO.none _
   | refine LeO.ite ?_ ?_
   | refine LeO.bind ?_ (fun _ => ?_)
theorem impl_ScoreIs.mono : ∀ a0 a1 a2 k, LeO (impl_ScoreIs.f k a0 a1 a2) (impl_ScoreIs.f (k + 1) a0 a1 a2) := by
 intro a0 a1 a2 k; obtain ⟨ih0, ih1, ih2, ih3⟩ := impl_ScoreIs.mono_l k
 unfold impl_ScoreIs.f
 repeat' first
   | (with_reducible exact ih0 _ _ _ _)
   | (with_reducible exact ih1 _ _ _ _ _ _)
   | (with_reducible exact ih2 _ _ _ _ _ _ _ _ _ _)
   | (with_reducible exact ih3 _ _ _ _ _ _ _ _ _ _ _)
   | (with_reducible exact impl_WayGraph.mono _ _ _)
   | (with_reducible exact LeO.refl _)
   | (with_reducible exact LeO.none _)
   | (with_reducible refine LeO.ite ?_ ?_)
   | (with_reducible refine LeO.bind ?_ (fun _ => ?_))
   | exact ih0 _ _ _ _
   | exact ih1 _ _ _ _ _ _
   | exact ih2 _ _ _ _ _ _ _ _ _ _
   | exact ih3 _ _ _ _ _ _ _ _ _ _ _
   | exact impl_WayGraph.mono _ _ _
   | exact LeO.none _
   | refine LeO.ite ?_ ?_
   | refine LeO.bind ?_ (fun _ => ?_)
set_option maxHeartbeats 8000000 in
set_option maxRecDepth 100000 in
theorem impl_ScoreIs.calls (k : Nat) (a0_0 : Int) (A0_1 : Option Addr) (c0_1 : Nat) (l0_1 : List (S44)) (A1 : Option Addr) (c1 : Nat) (l1 : List Int) (r : Bool) (w : World) (hr0_1 : Kd.C k44 w A0_1 l0_1.length l0_1) (hc0_1 : l0_1.length ≤ c0_1) (hr1 : Kd.C (Kd.int .i64) w A1 l1.length l1) (hc1 : l1.length ≤ c1) (h : impl_ScoreIs.f k a0_0 l0_1 l1 = some r) :
  Calls Try.prog 56 #[.agg #[.int .i64 a0_0, .slice A0_1 l0_1.length c0_1], .slice A1 l1.length c1] w fun e w' => e = .returned (.bool r) ∧ Below w.heap.size w w' := by
 have hu30 := Try.underlying30; have hu44 := Try.underlying44; have HR0_1 := Aside0.mk hr0_1; have HC0_1 := Aside0.mk hc0_1; clear hr0_1 hc0_1; have HR1 := Aside0.mk hr1; have HC1 := Aside0.mk hc1; clear hr1 hc1; have HB := Aside0.mk (Below.refl w.heap.size w); have H : ((impl_WayGraph.f k a0_0 l0_1).bind fun t899 => (if t899 = true then (impl_ScoreIs.j0 k l1 ((l1.length : Int) != a0_0) a0_0 l0_1) else (impl_ScoreIs.j0 k l1 true a0_0 l0_1))) = some r := h; clear h; have HC3 := Aside0.mk H; clear H
 go_enter Try.func56, Try.ntmps56
 go_upto_region 1 with (first | ((with_reducible refine gate_dst (N := 2) rfl ?_); (try (refine gate_guard (by rfl) ?_; dsimp only)); refine box_event ?hg (N := 2) ?hd (cs := #[.int .i64 a0_0, .slice A0_1 l0_1.length c0_1]) (t := 30) ?hr ?_; (case hd => rfl); (case hg => rfl); (case hr => first | (go_simp; done) | (go_simp; rfl)); intro gb898 hg w4 hbox hb; have n0_ := Aside0.mk (below_step (viaW HB.out) hb); have n1_ := Aside0.mk (hbox); have n2_ := Aside0.mk ((by rw [hg]; exact (below_size (viaW HB.out)) : w.heap.size ≤ gb898)); have n3_ := Aside0.mk ((by rw [hg]; exact (below_size (viaW HB.out)) : w.heap.size ≤ gb898)); clear HB; have HB := n0_; have BK898 := n1_; have GW898 := n2_; have GE898 := n3_; clear n0_ n1_ n2_ n3_; clear hb hbox hg))
 repeat (go_quiet (first | ((with_reducible refine gate_dst (N := 2) rfl ?_); (try (refine gate_guard (by rfl) ?_; dsimp only)); refine box_event ?hg (N := 2) ?hd (cs := #[.int .i64 a0_0, .slice A0_1 l0_1.length c0_1]) (t := 30) ?hr ?_; (case hd => rfl); (case hg => rfl); (case hr => first | (go_simp; done) | (go_simp; rfl)); intro gb898 hg w4 hbox hb; have n0_ := Aside0.mk (below_step (viaW HB.out) hb); have n1_ := Aside0.mk (hbox); have n2_ := Aside0.mk ((by rw [hg]; exact (below_size (viaW HB.out)) : w.heap.size ≤ gb898)); have n3_ := Aside0.mk ((by rw [hg]; exact (below_size (viaW HB.out)) : w.heap.size ≤ gb898)); clear HB; have HB := n0_; have BK898 := n1_; have GW898 := n2_; have GE898 := n3_; clear n0_ n1_ n2_ n3_; clear hb hbox hg)); go_upto_region 1 with (first | ((with_reducible refine gate_dst (N := 2) rfl ?_); (try (refine gate_guard (by rfl) ?_; dsimp only)); refine box_event ?hg (N := 2) ?hd (cs := #[.int .i64 a0_0, .slice A0_1 l0_1.length c0_1]) (t := 30) ?hr ?_; (case hd => rfl); (case hg => rfl); (case hr => first | (go_simp; done) | (go_simp; rfl)); intro gb898 hg w4 hbox hb; have n0_ := Aside0.mk (below_step (viaW HB.out) hb); have n1_ := Aside0.mk (hbox); have n2_ := Aside0.mk ((by rw [hg]; exact (below_size (viaW HB.out)) : w.heap.size ≤ gb898)); have n3_ := Aside0.mk ((by rw [hg]; exact (below_size (viaW HB.out)) : w.heap.size ≤ gb898)); clear HB; have HB := n0_; have BK898 := n1_; have GW898 := n2_; have GE898 := n3_; clear n0_ n1_ n2_ n3_; clear hb hbox hg)))
 (try simp only [Act.put, List.setIfInBounds_toArray, List.set_cons_zero, List.set_cons_succ])
 go_cut [21] (fun v21 wc => ∃ (kq : Nat) (x21_2 : Bool), v21 = .bool x21_2 ∧ Aside0 (impl_ScoreIs.j0 kq l1 x21_2 a0_0 l0_1 = some r) ∧ Aside0 (kq ≤ k) ∧ Aside0 (wc.heap[gb898]? = some (.cells #[.int .i64 a0_0, (.slice A0_1 l0_1.length c0_1)] 30 (0, 0))) ∧ Aside0 (Below w.heap.size w wc))
 case first =>
  have H := HC3.out; clear HC3; replace H := Option.bind_eq_some_iff.mp H; obtain ⟨t899, A50, H⟩ := H; replace H : (if t899 = true then (impl_ScoreIs.j0 k l1 ((l1.length : Int) != a0_0) a0_0 l0_1) else (impl_ScoreIs.j0 k l1 true a0_0 l0_1)) = some r := H; have A5 := Aside0.mk A50; clear A50
  by_cases c6 : t899 = true
  ·subst c6
   have H1 : (impl_ScoreIs.j0 k l1 ((l1.length : Int) != a0_0) a0_0 l0_1) = some r := by rw [if_pos rfl] at H; exact H
   clear H; have H := H1; clear H1; have H' := Aside0.mk H; clear H; have hcz7_0 : w4.cell? ⟨gb898, 0, none⟩ = some (.int .i64 a0_0) := (blk_cell BK898.out 0).trans rfl; have hcz7_1 : w4.cell? ⟨gb898, 1, none⟩ = some (.slice A0_1 l0_1.length c0_1) := (blk_cell BK898.out 1).trans rfl; have hfz7_0 := blk_frozen BK898.out 0; have hfz7_1 := blk_frozen BK898.out 1
   go_wp2_with (first | (go_at_call 76; (with_reducible refine (impl_WayGraph.calls k a0_0 _ _ l0_1 true _ ?side1 ?side2 A5.out).mono ?_); (case side1 => repeat (first | exact (Kd.C_below HR0_1.out HB.out) | (with_reducible refine Kd.C_alloc ?_ _) | (with_reducible refine Kd.C_drewN ?_ _) | (with_reducible refine Kd.C_drew ?_))); (case side2 => exact HC0_1.out); rintro e w8 ⟨rfl, hb⟩; have n0_ := Aside0.mk (blk_below (g := gb898) (o := .cells #[.int .i64 a0_0, .slice A0_1 l0_1.length c0_1] 30 (0, 0)) (viaB BK898.out) hb); have n1_ := Aside0.mk (below_step (viaX HB.out GE898.out) hb); clear BK898; clear HB; have BK898 := n0_; have HB := n1_; clear n0_ n1_; (try clear hb); (try clear hb2); (try clear hk); (try clear hi); have hcz9_0 : w8.cell? ⟨gb898, 0, none⟩ = some (.int .i64 a0_0) := (blk_cell BK898.out 0).trans rfl; have hcz9_1 : w8.cell? ⟨gb898, 1, none⟩ = some (.slice A0_1 l0_1.length c0_1) := (blk_cell BK898.out 1).trans rfl; have hfz9_0 := blk_frozen BK898.out 0; have hfz9_1 := blk_frozen BK898.out 1))
   repeat (go_quiet (first | (go_at_call 76; (with_reducible refine (impl_WayGraph.calls k a0_0 _ _ l0_1 true _ ?side1 ?side2 A5.out).mono ?_); (case side1 => repeat (first | exact (Kd.C_below HR0_1.out HB.out) | (with_reducible refine Kd.C_alloc ?_ _) | (with_reducible refine Kd.C_drewN ?_ _) | (with_reducible refine Kd.C_drew ?_))); (case side2 => exact HC0_1.out); rintro e w8 ⟨rfl, hb⟩; have n0_ := Aside0.mk (blk_below (g := gb898) (o := .cells #[.int .i64 a0_0, .slice A0_1 l0_1.length c0_1] 30 (0, 0)) (viaB BK898.out) hb); have n1_ := Aside0.mk (below_step (viaX HB.out GE898.out) hb); clear BK898; clear HB; have BK898 := n0_; have HB := n1_; clear n0_ n1_; (try clear hb); (try clear hb2); (try clear hk); (try clear hi); have hcz9_0 : w8.cell? ⟨gb898, 0, none⟩ = some (.int .i64 a0_0) := (blk_cell BK898.out 0).trans rfl; have hcz9_1 : w8.cell? ⟨gb898, 1, none⟩ = some (.slice A0_1 l0_1.length c0_1) := (blk_cell BK898.out 1).trans rfl; have hfz9_0 := blk_frozen BK898.out 0; have hfz9_1 := blk_frozen BK898.out 1)); try go_wp2_with (first | (go_at_call 76; (with_reducible refine (impl_WayGraph.calls k a0_0 _ _ l0_1 true _ ?side1 ?side2 A5.out).mono ?_); (case side1 => repeat (first | exact (Kd.C_below HR0_1.out HB.out) | (with_reducible refine Kd.C_alloc ?_ _) | (with_reducible refine Kd.C_drewN ?_ _) | (with_reducible refine Kd.C_drew ?_))); (case side2 => exact HC0_1.out); rintro e w8 ⟨rfl, hb⟩; have n0_ := Aside0.mk (blk_below (g := gb898) (o := .cells #[.int .i64 a0_0, .slice A0_1 l0_1.length c0_1] 30 (0, 0)) (viaB BK898.out) hb); have n1_ := Aside0.mk (below_step (viaX HB.out GE898.out) hb); clear BK898; clear HB; have BK898 := n0_; have HB := n1_; clear n0_ n1_; (try clear hb); (try clear hb2); (try clear hk); (try clear hi); have hcz9_0 : w8.cell? ⟨gb898, 0, none⟩ = some (.int .i64 a0_0) := (blk_cell BK898.out 0).trans rfl; have hcz9_1 : w8.cell? ⟨gb898, 1, none⟩ = some (.slice A0_1 l0_1.length c0_1) := (blk_cell BK898.out 1).trans rfl; have hfz9_0 := blk_frozen BK898.out 0; have hfz9_1 := blk_frozen BK898.out 1)))
   go_meet
   case rel => exact ⟨_, (((l1.length : Int) != a0_0)), (by first | rfl | (simp; done) | (simp [*]; done)), H', ⟨by first | omega | exact Nat.le_refl _⟩, ⟨viaB BK898.out⟩, ⟨viaX HB.out GE898.out⟩⟩
  ·replace c6 := Bool.eq_false_iff.mpr c6
   subst c6; have H1 : (impl_ScoreIs.j0 k l1 true a0_0 l0_1) = some r := by rw [if_neg (show ¬ (false = true) by decide)] at H; exact H
   clear H; have H := H1; clear H1; have H' := Aside0.mk H; clear H; have hcz10_0 : w4.cell? ⟨gb898, 0, none⟩ = some (.int .i64 a0_0) := (blk_cell BK898.out 0).trans rfl; have hcz10_1 : w4.cell? ⟨gb898, 1, none⟩ = some (.slice A0_1 l0_1.length c0_1) := (blk_cell BK898.out 1).trans rfl; have hfz10_0 := blk_frozen BK898.out 0; have hfz10_1 := blk_frozen BK898.out 1
   go_wp2_with (first | (go_at_call 76; (with_reducible refine (impl_WayGraph.calls k a0_0 _ _ l0_1 false _ ?side1 ?side2 A5.out).mono ?_); (case side1 => repeat (first | exact (Kd.C_below HR0_1.out HB.out) | (with_reducible refine Kd.C_alloc ?_ _) | (with_reducible refine Kd.C_drewN ?_ _) | (with_reducible refine Kd.C_drew ?_))); (case side2 => exact HC0_1.out); rintro e w11 ⟨rfl, hb⟩; have n0_ := Aside0.mk (blk_below (g := gb898) (o := .cells #[.int .i64 a0_0, .slice A0_1 l0_1.length c0_1] 30 (0, 0)) (viaB BK898.out) hb); have n1_ := Aside0.mk (below_step (viaX HB.out GE898.out) hb); clear BK898; clear HB; have BK898 := n0_; have HB := n1_; clear n0_ n1_; (try clear hb); (try clear hb2); (try clear hk); (try clear hi)))
   repeat (go_quiet (first | (go_at_call 76; (with_reducible refine (impl_WayGraph.calls k a0_0 _ _ l0_1 false _ ?side1 ?side2 A5.out).mono ?_); (case side1 => repeat (first | exact (Kd.C_below HR0_1.out HB.out) | (with_reducible refine Kd.C_alloc ?_ _) | (with_reducible refine Kd.C_drewN ?_ _) | (with_reducible refine Kd.C_drew ?_))); (case side2 => exact HC0_1.out); rintro e w11 ⟨rfl, hb⟩; have n0_ := Aside0.mk (blk_below (g := gb898) (o := .cells #[.int .i64 a0_0, .slice A0_1 l0_1.length c0_1] 30 (0, 0)) (viaB BK898.out) hb); have n1_ := Aside0.mk (below_step (viaX HB.out GE898.out) hb); clear BK898; clear HB; have BK898 := n0_; have HB := n1_; clear n0_ n1_; (try clear hb); (try clear hb2); (try clear hk); (try clear hi))); try go_wp2_with (first | (go_at_call 76; (with_reducible refine (impl_WayGraph.calls k a0_0 _ _ l0_1 false _ ?side1 ?side2 A5.out).mono ?_); (case side1 => repeat (first | exact (Kd.C_below HR0_1.out HB.out) | (with_reducible refine Kd.C_alloc ?_ _) | (with_reducible refine Kd.C_drewN ?_ _) | (with_reducible refine Kd.C_drew ?_))); (case side2 => exact HC0_1.out); rintro e w11 ⟨rfl, hb⟩; have n0_ := Aside0.mk (blk_below (g := gb898) (o := .cells #[.int .i64 a0_0, .slice A0_1 l0_1.length c0_1] 30 (0, 0)) (viaB BK898.out) hb); have n1_ := Aside0.mk (below_step (viaX HB.out GE898.out) hb); clear BK898; clear HB; have BK898 := n0_; have HB := n1_; clear n0_ n1_; (try clear hb); (try clear hb2); (try clear hk); (try clear hi))))
   go_meet
   case rel => exact ⟨_, (true), (by first | rfl | (simp; done) | (simp [*]; done)), H', ⟨by first | omega | exact Nat.le_refl _⟩, ⟨viaB BK898.out⟩, ⟨viaX HB.out GE898.out⟩⟩
 case rest =>
  clear HC3
  try clear c1
  try clear p2
  try clear c5
  try clear c6
  try clear hcz10_0
  try clear hcz10_1
  try clear hcz7_0
  try clear hcz7_1
  try clear hcz9_0
  try clear hcz9_1
  try clear hfz10_0
  try clear hfz10_1
  try clear hfz7_0
  try clear hfz7_1
  try clear hfz9_0
  try clear hfz9_1
  obtain ⟨kq, x21_2, rfl, HA, HJ2, BK898, HB⟩ := hcut
  cases kq with
  | zero => exact absurd HA.out (by simp [impl_ScoreIs.j0])
  | succ kj2 =>
   have H := HA.out; clear HA
   simp only [impl_ScoreIs.j0] at H
   by_cases c12 : x21_2 = true
   ·subst c12
    have H1 : (some false) = some r := by rw [if_pos rfl] at H; exact H
    clear H; have H := H1; clear H1; obtain rfl := Option.some.inj H
    go_wp2
    repeat (go_quiet (fail); try go_wp2)
    go_ret
    exact ⟨by first | rfl | (simp [errW_none, errW_some] <;> rfl) | (simp [*, errW_none, errW_some] <;> rfl), viaX HB.out GE898.out⟩
   ·replace c12 := Bool.eq_false_iff.mpr c12
    subst c12; have H1 : (if 0 ≤ a0_0 then (impl_ScoreIs.l0 kj2 l1 0 (shl .i64 1 a0_0) 0 a0_0 l0_1) else (none)) = some r := by rw [if_neg (show ¬ (false = true) by decide)] at H; exact H
    clear H; have H := H1; clear H1
    by_cases c13 : 0 ≤ a0_0
    ·rw [if_pos c13] at H
     have c13b0 := eq_true c13; have c13b1 : decide (0 ≤ a0_0) = true := decide_eq_true c13; clear c13; obtain ⟨ji14, hji14⟩ : ∃ j_ : Int, (shl .i64 1 a0_0) = j_ := ⟨_, rfl⟩; replace H : (impl_ScoreIs.l0 kj2 l1 0 ji14 0 a0_0 l0_1) = some r := by first | (rw [hji14] at H; exact H) | (simp only [hji14] at H ⊢; exact H)
     have hji14_ : (IntKind.i64.wrap (1 * 2 ^ min a0_0.toNat 64)) = ji14 := hji14; have hji14z : a0_0 ≤ 64 → (IntKind.i64.wrap (1 * 2 ^ a0_0.toNat)) = ji14 := shl_small hji14; have hji14u : (IntKind.i64.wrap (2 ^ min a0_0.toNat 64)) = ji14 := by have h_ := hji14_; rw [Int.one_mul] at h_; exact h_
     have hji14v : a0_0 ≤ 64 → (IntKind.i64.wrap (2 ^ a0_0.toNat)) = ji14 := fun hle_ => by have h_ := hji14z hle_; rw [Int.one_mul] at h_; exact h_
     have hji14y : (wrap64 (1 * 2 ^ min a0_0.toNat 64)) = ji14 := (i64_w _).symm.trans hji14_; have hji14x : a0_0 ≤ 64 → (wrap64 (1 * 2 ^ a0_0.toNat)) = ji14 := fun h_ => (i64_w _).symm.trans (hji14z h_); have H' := Aside0.mk H; clear H; have hcz15_0 : wc.cell? ⟨gb898, 0, none⟩ = some (.int .i64 a0_0) := (blk_cell BK898.out 0).trans rfl; have hcz15_1 : wc.cell? ⟨gb898, 1, none⟩ = some (.slice A0_1 l0_1.length c0_1) := (blk_cell BK898.out 1).trans rfl; have hfz15_0 := blk_frozen BK898.out 0; have hfz15_1 := blk_frozen BK898.out 1
     go_wp2
     repeat (go_quiet (fail); try go_wp2)
     go_loopg [5, 25] kj2 (fun kq v5 v25 w' => ∃ (x5_2 : Int) (x25_2 : Int), v5 = .int .i64 x5_2 ∧ v25 = .int .i64 x25_2 ∧ Aside0 (impl_ScoreIs.l0 kq l1 x5_2 ji14 x25_2 a0_0 l0_1 = some r) ∧ Aside0 (kq ≤ kj2) ∧ Aside0 (w'.heap[gb898]? = some (.cells #[.int .i64 a0_0, (.slice A0_1 l0_1.length c0_1)] 30 (0, 0))) ∧ Aside0 (Below w.heap.size w w'))
     case atStart => exact ⟨(0), (0), (by first | rfl | (simp; done) | (simp [*]; done)), (by first | rfl | (simp; done) | (simp [*]; done)), H', ⟨Nat.le_refl _⟩, ⟨viaB BK898.out⟩, ⟨viaX HB.out GE898.out⟩⟩
     case round =>
      clear H'
      try clear c1
      try clear p2
      try clear c5
      try clear c6
      try clear p6
      try clear c12
      try clear c13
      try clear c13b0
      try clear c13b1
      try clear hcz10_0
      try clear hcz10_1
      try clear hcz15_0
      try clear hcz15_1
      try clear hcz7_0
      try clear hcz7_1
      try clear hcz9_0
      try clear hcz9_1
      try clear hfz10_0
      try clear hfz10_1
      try clear hfz15_0
      try clear hfz15_1
      try clear hfz7_0
      try clear hfz7_1
      try clear hfz9_0
      try clear hfz9_1
      try clear p2
      obtain ⟨x5_2, x25_2, rfl, rfl, HA, HK2, BK898, HB⟩ := hrel
      cases gk with
      | zero => exact absurd HA.out (by simp [impl_ScoreIs.l0])
      | succ k2 =>
       have H := HA.out; clear HA
       simp only [impl_ScoreIs.l0] at H
       by_cases c16 : x25_2 < ji14
       ·rw [if_pos c16] at H
        have c16b0 : decide (x25_2 < ji14) = true := decide_eq_true c16; clear c16; have H' := Aside0.mk H; clear H
        go_wp2
        repeat (go_quiet (fail); try go_wp2)
        go_loopg [5, 30] k2 (fun kq v5 v30 w' => ∃ (x5_3 : Int) (x30_3 : Int), v5 = .int .i64 x5_3 ∧ v30 = .int .i64 x30_3 ∧ Aside0 (impl_ScoreIs.l1 kq l1 x5_3 x25_2 ji14 x25_2 l1 (l1.length : Int) x30_3 a0_0 l0_1 = some r) ∧ Aside0 (kq ≤ k2) ∧ Aside0 (w'.heap[gb898]? = some (.cells #[.int .i64 a0_0, (.slice A0_1 l0_1.length c0_1)] 30 (0, 0))) ∧ Aside0 (Below w.heap.size w w'))
        case atStart => exact ⟨(0), (0), (by first | rfl | (simp; done) | (simp [*]; done)), (by first | rfl | (simp; done) | (simp [*]; done)), H', ⟨Nat.le_refl _⟩, ⟨viaB BK898.out⟩, ⟨viaX HB.out GE898.out⟩⟩
        case round =>
         clear H'
         try clear c1
         try clear p2
         try clear c5
         try clear c6
         try clear p6
         try clear c12
         try clear c13
         try clear c13b0
         try clear c13b1
         try clear c16
         try clear c16b0
         try clear hcz10_0
         try clear hcz10_1
         try clear hcz15_0
         try clear hcz15_1
         try clear hcz7_0
         try clear hcz7_1
         try clear hcz9_0
         try clear hcz9_1
         try clear hfz10_0
         try clear hfz10_1
         try clear hfz15_0
         try clear hfz15_1
         try clear hfz7_0
         try clear hfz7_1
         try clear hfz9_0
         try clear hfz9_1
         try clear p2
         try clear p6
         obtain ⟨x5_3, x30_3, rfl, rfl, HA, HK3, BK898, HB⟩ := hrel
         cases gk with
         | zero => exact absurd HA.out (by simp [impl_ScoreIs.l1])
         | succ k3 =>
          have H := HA.out; clear HA
          simp only [impl_ScoreIs.l1] at H
          by_cases c17 : x30_3 < (l1.length : Int)
          ·rw [if_pos c17] at H
           have c17b0 : decide (x30_3 < (l1.length : Int)) = true := decide_eq_true c17; clear c17
           by_cases c18 : 0 ≤ x30_3
           ·rw [if_pos c18] at H
            have c18b0 : decide (0 ≤ x30_3) = true := decide_eq_true c18; clear c18
            by_cases c19 : x30_3 < (l1.length : Int)
            ·rw [if_pos c19] at H
             have c19b0 : decide (x30_3 < (l1.length : Int)) = true := decide_eq_true c19; clear c19
             by_cases c20 : (rd l1 x30_3) < 0
             ·rw [if_pos c20] at H
              have c20b0 : decide ((rd l1 x30_3) < 0) = true := decide_eq_true c20; clear c20; obtain rfl := Option.some.inj H; have p900 : 0 ≤ (x30_3 : Int) := of_decide_eq_true (by first | (with_reducible assumption) | assumption); have q900 : x30_3 < (l1.length : Int) := of_decide_eq_true (by first | (with_reducible assumption) | assumption); obtain ⟨ad900, e900, hx900_0⟩ := Kd.at_int HR1.out x30_3 p900 q900
              cases e900
              replace hx900_0 := (HB.out.cell (World.block_lt_of_cell? w _ hx900_0)).trans hx900_0; replace p900 := eq_true p900; replace q900 := eq_true q900
              go_wp2
              repeat (go_quiet (fail); try go_wp2)
              go_ret
              exact ⟨by first | rfl | (simp [errW_none, errW_some] <;> rfl) | (simp only [← hji14]; first | rfl | (simp [errW_none, errW_some] <;> rfl)) | (simp [*, errW_none, errW_some] <;> rfl), viaX HB.out GE898.out⟩
             ·rw [if_neg c20] at H
              have c20b0 : decide ((rd l1 x30_3) < 0) = false := decide_eq_false c20; clear c20
              by_cases c21 : (rd l1 x30_3) > (l0_1.length : Int)
              ·rw [if_pos c21] at H
               have c21b0 : decide ((l0_1.length : Int) < (rd l1 x30_3)) = true := decide_eq_true c21; clear c21; obtain rfl := Option.some.inj H; have p900 : 0 ≤ (x30_3 : Int) := of_decide_eq_true (by first | (with_reducible assumption) | assumption); have q900 : x30_3 < (l1.length : Int) := of_decide_eq_true (by first | (with_reducible assumption) | assumption); obtain ⟨ad900, e900, hx900_0⟩ := Kd.at_int HR1.out x30_3 p900 q900
               cases e900
               replace hx900_0 := (HB.out.cell (World.block_lt_of_cell? w _ hx900_0)).trans hx900_0; replace p900 := eq_true p900; replace q900 := eq_true q900; have hcz22_0 : wr.cell? ⟨gb898, 0, none⟩ = some (.int .i64 a0_0) := (blk_cell BK898.out 0).trans rfl; have hcz22_1 : wr.cell? ⟨gb898, 1, none⟩ = some (.slice A0_1 l0_1.length c0_1) := (blk_cell BK898.out 1).trans rfl; have hfz22_0 := blk_frozen BK898.out 0; have hfz22_1 := blk_frozen BK898.out 1
               go_wp2
               repeat (go_quiet (fail); try go_wp2)
               go_ret
               exact ⟨by first | rfl | (simp [errW_none, errW_some] <;> rfl) | (simp only [← hji14]; first | rfl | (simp [errW_none, errW_some] <;> rfl)) | (simp [*, errW_none, errW_some] <;> rfl), viaX HB.out GE898.out⟩
              ·rw [if_neg c21] at H
               have c21b0 : decide ((l0_1.length : Int) < (rd l1 x30_3)) = false := decide_eq_false c21; clear c21; have c23b0 := eq_true (of_decide_eq_true (by first | (with_reducible assumption) | assumption) : 0 ≤ x30_3); obtain ⟨ji24, hji24⟩ : ∃ j_ : Int, (shr .i64 x25_2 x30_3) = j_ := ⟨_, rfl⟩; replace H : (impl_ScoreIs.l1 k3 l1 (wrap64 (x5_3 + (wrap64 ((rd l1 x30_3) * (Go.bits .and .i64 (ji24) 1))))) x25_2 ji14 x25_2 l1 (l1.length : Int) (wrap64 (x30_3 + 1)) a0_0 l0_1) = some r := by first | (rw [hji24] at H; exact H) | (simp only [hji24] at H ⊢; exact H)
               have hji24_ : (x25_2 / 2 ^ min x30_3.toNat 64) = ji24 := hji24; have hji24z : x30_3 ≤ 64 → (x25_2 / 2 ^ x30_3.toNat) = ji24 := shr_small hji24; have H' := Aside0.mk H; clear H; have p900 : 0 ≤ (x30_3 : Int) := of_decide_eq_true (by first | (with_reducible assumption) | assumption); have q900 : x30_3 < (l1.length : Int) := of_decide_eq_true (by first | (with_reducible assumption) | assumption); obtain ⟨ad900, e900, hx900_0⟩ := Kd.at_int HR1.out x30_3 p900 q900
               cases e900
               replace hx900_0 := (HB.out.cell (World.block_lt_of_cell? w _ hx900_0)).trans hx900_0; replace p900 := eq_true p900; replace q900 := eq_true q900; have hcz25_0 : wr.cell? ⟨gb898, 0, none⟩ = some (.int .i64 a0_0) := (blk_cell BK898.out 0).trans rfl; have hcz25_1 : wr.cell? ⟨gb898, 1, none⟩ = some (.slice A0_1 l0_1.length c0_1) := (blk_cell BK898.out 1).trans rfl; have hfz25_0 := blk_frozen BK898.out 0; have hfz25_1 := blk_frozen BK898.out 1
               go_wp2
               repeat (go_quiet (fail); try go_wp2)
               go_roundg k3
               case measure => have := HJ2.out; have := HK2.out; have := HK3.out; omega
               case rel => exact ⟨(wrap64 (x5_3 + (wrap64 ((rd l1 x30_3) * (Go.bits .and .i64 (ji24) 1))))), (wrap64 (x30_3 + 1)), (by first | rfl | (simp; done) | (simp only [← hji24] <;> (first | rfl | simp)) | (simp [*]; done)), (by first | rfl | (simp; done) | (simp [*]; done)), H', ⟨by have := HJ2.out; have := HK2.out; have := HK3.out; omega⟩, ⟨viaB BK898.out⟩, ⟨viaX HB.out GE898.out⟩⟩
            ·rw [if_neg c19] at H
             exact absurd H (by simp)
           ·rw [if_neg c18] at H
            exact absurd H (by simp)
          ·rw [if_neg c17] at H
           have c17b0 : decide (x30_3 < (l1.length : Int)) = false := decide_eq_false c17; clear c17; have H' := Aside0.mk H; clear H; have hcz26_0 : wr.cell? ⟨gb898, 0, none⟩ = some (.int .i64 a0_0) := (blk_cell BK898.out 0).trans rfl; have hcz26_1 : wr.cell? ⟨gb898, 1, none⟩ = some (.slice A0_1 l0_1.length c0_1) := (blk_cell BK898.out 1).trans rfl; have hfz26_0 := blk_frozen BK898.out 0; have hfz26_1 := blk_frozen BK898.out 1
           go_wp2
           repeat (go_quiet (fail); try go_wp2)
           go_loopg [9, 56] k3 (fun kq v9 v56 w' => ∃ (x9_4 : Int) (x56_4 : Int), v9 = .int .i64 x9_4 ∧ v56 = .int .i64 x56_4 ∧ Aside0 (impl_ScoreIs.l2 kq l1 x5_3 x25_2 x9_4 ji14 x25_2 l0_1 (l0_1.length : Int) x56_4 a0_0 l0_1 = some r) ∧ Aside0 (kq ≤ k3) ∧ Aside0 (w'.heap[gb898]? = some (.cells #[.int .i64 a0_0, (.slice A0_1 l0_1.length c0_1)] 30 (0, 0))) ∧ Aside0 (Below w.heap.size w w'))
           case atStart => exact ⟨(0), (0), (by first | rfl | (simp; done) | (simp [*]; done)), (by first | rfl | (simp; done) | (simp [*]; done)), H', ⟨Nat.le_refl _⟩, ⟨viaB BK898.out⟩, ⟨viaX HB.out GE898.out⟩⟩
           case round =>
            clear H'
            try clear c1
            try clear c2
            try clear p2
            try clear c5
            try clear c6
            try clear p6
            try clear p9
            try clear q9
            try clear hx9
            try clear c12
            try clear c13
            try clear c13b0
            try clear c13b1
            try clear c16
            try clear c16b0
            try clear c17
            try clear c17b0
            try clear c18
            try clear c18b0
            try clear c19
            try clear c19b0
            try clear c20
            try clear c20b0
            try clear c21
            try clear c21b0
            try clear c23
            try clear c23b0
            try clear hcz10_0
            try clear hcz10_1
            try clear hcz15_0
            try clear hcz15_1
            try clear hcz22_0
            try clear hcz22_1
            try clear hcz25_0
            try clear hcz25_1
            try clear hcz26_0
            try clear hcz26_1
            try clear hcz7_0
            try clear hcz7_1
            try clear hcz9_0
            try clear hcz9_1
            try clear hfz10_0
            try clear hfz10_1
            try clear hfz15_0
            try clear hfz15_1
            try clear hfz22_0
            try clear hfz22_1
            try clear hfz25_0
            try clear hfz25_1
            try clear hfz26_0
            try clear hfz26_1
            try clear hfz7_0
            try clear hfz7_1
            try clear hfz9_0
            try clear hfz9_1
            try clear hx900_0
            try clear p2
            try clear p6
            try clear p900
            try clear q900
            obtain ⟨x9_4, x56_4, rfl, rfl, HA, HK4, BK898, HB⟩ := hrel
            cases gk with
            | zero => exact absurd HA.out (by simp [impl_ScoreIs.l2])
            | succ k4 =>
             have H := HA.out; clear HA
             simp only [impl_ScoreIs.l2] at H
             by_cases c27 : x56_4 < (l0_1.length : Int)
             ·rw [if_pos c27] at H
              have c27b0 : decide (x56_4 < (l0_1.length : Int)) = true := decide_eq_true c27; clear c27
              by_cases c28 : 0 ≤ x56_4
              ·rw [if_pos c28] at H
               have c28b0 : decide (0 ≤ x56_4) = true := decide_eq_true c28; clear c28
               by_cases c29 : x56_4 < (l0_1.length : Int)
               ·rw [if_pos c29] at H
                have c29b0 : decide (x56_4 < (l0_1.length : Int)) = true := decide_eq_true c29; clear c29
                by_cases c30 : 0 ≤ ((rd_T44 l0_1 x56_4).f0)
                ·rw [if_pos c30] at H
                 have c30b0 := eq_true c30; have c30b1 : decide (0 ≤ ((rd_T44 l0_1 x56_4).f0)) = true := decide_eq_true c30; clear c30; obtain ⟨ji31, hji31⟩ : ∃ j_ : Int, (shr .i64 x25_2 ((rd_T44 l0_1 x56_4).f0)) = j_ := ⟨_, rfl⟩; replace H : (if 0 ≤ ((rd_T44 l0_1 x56_4).f1) then (impl_ScoreIs.l2 k4 l1 x5_3 x25_2 (wrap64 (x9_4 + (Go.bits .and .i64 (Go.bits .and .i64 (ji31) (shr .i64 x25_2 ((rd_T44 l0_1 x56_4).f1))) 1))) ji14 x25_2 l0_1 (l0_1.length : Int) (wrap64 (x56_4 + 1)) a0_0 l0_1) else (none)) = some r := by first | (rw [hji31] at H; exact H) | (simp only [hji31] at H ⊢; exact H)
                 have hji31_ : (x25_2 / 2 ^ min ((rd_T44 l0_1 x56_4).f0).toNat 64) = ji31 := hji31; have hji31z : ((rd_T44 l0_1 x56_4).f0) ≤ 64 → (x25_2 / 2 ^ ((rd_T44 l0_1 x56_4).f0).toNat) = ji31 := shr_small hji31
                 by_cases c32 : 0 ≤ ((rd_T44 l0_1 x56_4).f1)
                 ·rw [if_pos c32] at H
                  have c32b0 := eq_true c32; have c32b1 : decide (0 ≤ ((rd_T44 l0_1 x56_4).f1)) = true := decide_eq_true c32; clear c32; obtain ⟨ji33, hji33⟩ : ∃ j_ : Int, (shr .i64 x25_2 ((rd_T44 l0_1 x56_4).f1)) = j_ := ⟨_, rfl⟩; replace H : (impl_ScoreIs.l2 k4 l1 x5_3 x25_2 (wrap64 (x9_4 + (Go.bits .and .i64 (Go.bits .and .i64 (ji31) (ji33)) 1))) ji14 x25_2 l0_1 (l0_1.length : Int) (wrap64 (x56_4 + 1)) a0_0 l0_1) = some r := by first | (rw [hji33] at H; exact H) | (simp only [hji33] at H ⊢; exact H)
                  have hji33_ : (x25_2 / 2 ^ min ((rd_T44 l0_1 x56_4).f1).toNat 64) = ji33 := hji33; have hji33z : ((rd_T44 l0_1 x56_4).f1) ≤ 64 → (x25_2 / 2 ^ ((rd_T44 l0_1 x56_4).f1).toNat) = ji33 := shr_small hji33; have H' := Aside0.mk H; clear H; have p901 : 0 ≤ (x56_4 : Int) := of_decide_eq_true (by first | (with_reducible assumption) | assumption); have q901 : x56_4 < (l0_1.length : Int) := of_decide_eq_true (by first | (with_reducible assumption) | assumption); obtain ⟨ad901, e901, hx901_0, hx901_1⟩ := at_T44 HR0_1.out x56_4 p901 q901
                  cases e901
                  replace hx901_0 := (HB.out.cell (World.block_lt_of_cell? w _ hx901_0)).trans hx901_0; replace hx901_1 := (HB.out.cell (World.block_lt_of_cell? w _ hx901_1)).trans hx901_1; replace p901 := eq_true p901; replace q901 := eq_true q901
                  go_wp2_with (first | ((with_reducible refine gate_dst (N := 11) rfl ?_); (try (refine gate_guard (by rfl) ?_; dsimp only)); refine box_event ?hg (N := 11) ?hd (cs := #[.int .i64 0, .int .i64 0]) (t := 44) ?hr ?_; (case hd => rfl); (case hg => rfl); (case hr => first | (go_simp; done) | (go_simp; rfl)); intro gb902 hg w34 hbox hb; have n0_ := Aside0.mk (blk_below (g := gb898) (o := .cells #[.int .i64 a0_0, .slice (some ad901) l0_1.length c0_1] 30 (0, 0)) (viaB BK898.out) hb); have n1_ := Aside0.mk (below_step (viaX HB.out GE898.out) hb); have n2_ := Aside0.mk (hbox); have n3_ := Aside0.mk ((by rw [hg]; exact (below_size (viaX HB.out GE898.out)) : w.heap.size ≤ gb902)); have n4_ := Aside0.mk ((by rw [hg]; exact (below_size (viaX HB.out GE898.out)) : w.heap.size ≤ gb902)); have n5_ := Aside0.mk ((by rw [hg]; exact Nat.ne_of_lt (blk_lt (g := gb898) (o := .cells #[.int .i64 a0_0, .slice (some ad901) l0_1.length c0_1] 30 (0, 0)) (viaB BK898.out)) : gb898 ≠ gb902)); have n6_ := Aside0.mk ((by rw [hg]; exact Nat.ne_of_gt (blk_lt (g := gb898) (o := .cells #[.int .i64 a0_0, .slice (some ad901) l0_1.length c0_1] 30 (0, 0)) (viaB BK898.out)) : gb902 ≠ gb898)); clear BK898; clear HB; have BK898 := n0_; have HB := n1_; have BK902 := n2_; have GW902 := n3_; have GE902 := n4_; have NB898_902 := n5_; have NB902_898 := n6_; clear n0_ n1_ n2_ n3_ n4_ n5_ n6_; clear hb hbox hg; have hnb35 := NB902_898.out; have hnc35 := NB898_902.out; have hcz36_0 : w34.cell? ⟨gb902, 0, none⟩ = some (.int .i64 0) := (blk_cell BK902.out 0).trans rfl; have hcz36_1 : w34.cell? ⟨gb902, 1, none⟩ = some (.int .i64 0) := (blk_cell BK902.out 1).trans rfl; have hfz36_0 := blk_frozen BK902.out 0; have hfz36_1 := blk_frozen BK902.out 1))
                  repeat (go_quiet (first | ((with_reducible refine gate_dst (N := 11) rfl ?_); (try (refine gate_guard (by rfl) ?_; dsimp only)); refine box_event ?hg (N := 11) ?hd (cs := #[.int .i64 0, .int .i64 0]) (t := 44) ?hr ?_; (case hd => rfl); (case hg => rfl); (case hr => first | (go_simp; done) | (go_simp; rfl)); intro gb902 hg w34 hbox hb; have n0_ := Aside0.mk (blk_below (g := gb898) (o := .cells #[.int .i64 a0_0, .slice (some ad901) l0_1.length c0_1] 30 (0, 0)) (viaB BK898.out) hb); have n1_ := Aside0.mk (below_step (viaX HB.out GE898.out) hb); have n2_ := Aside0.mk (hbox); have n3_ := Aside0.mk ((by rw [hg]; exact (below_size (viaX HB.out GE898.out)) : w.heap.size ≤ gb902)); have n4_ := Aside0.mk ((by rw [hg]; exact (below_size (viaX HB.out GE898.out)) : w.heap.size ≤ gb902)); have n5_ := Aside0.mk ((by rw [hg]; exact Nat.ne_of_lt (blk_lt (g := gb898) (o := .cells #[.int .i64 a0_0, .slice (some ad901) l0_1.length c0_1] 30 (0, 0)) (viaB BK898.out)) : gb898 ≠ gb902)); have n6_ := Aside0.mk ((by rw [hg]; exact Nat.ne_of_gt (blk_lt (g := gb898) (o := .cells #[.int .i64 a0_0, .slice (some ad901) l0_1.length c0_1] 30 (0, 0)) (viaB BK898.out)) : gb902 ≠ gb898)); clear BK898; clear HB; have BK898 := n0_; have HB := n1_; have BK902 := n2_; have GW902 := n3_; have GE902 := n4_; have NB898_902 := n5_; have NB902_898 := n6_; clear n0_ n1_ n2_ n3_ n4_ n5_ n6_; clear hb hbox hg; have hnb35 := NB902_898.out; have hnc35 := NB898_902.out; have hcz36_0 : w34.cell? ⟨gb902, 0, none⟩ = some (.int .i64 0) := (blk_cell BK902.out 0).trans rfl; have hcz36_1 : w34.cell? ⟨gb902, 1, none⟩ = some (.int .i64 0) := (blk_cell BK902.out 1).trans rfl; have hfz36_0 := blk_frozen BK902.out 0; have hfz36_1 := blk_frozen BK902.out 1)); try go_wp2_with (first | ((with_reducible refine gate_dst (N := 11) rfl ?_); (try (refine gate_guard (by rfl) ?_; dsimp only)); refine box_event ?hg (N := 11) ?hd (cs := #[.int .i64 0, .int .i64 0]) (t := 44) ?hr ?_; (case hd => rfl); (case hg => rfl); (case hr => first | (go_simp; done) | (go_simp; rfl)); intro gb902 hg w34 hbox hb; have n0_ := Aside0.mk (blk_below (g := gb898) (o := .cells #[.int .i64 a0_0, .slice (some ad901) l0_1.length c0_1] 30 (0, 0)) (viaB BK898.out) hb); have n1_ := Aside0.mk (below_step (viaX HB.out GE898.out) hb); have n2_ := Aside0.mk (hbox); have n3_ := Aside0.mk ((by rw [hg]; exact (below_size (viaX HB.out GE898.out)) : w.heap.size ≤ gb902)); have n4_ := Aside0.mk ((by rw [hg]; exact (below_size (viaX HB.out GE898.out)) : w.heap.size ≤ gb902)); have n5_ := Aside0.mk ((by rw [hg]; exact Nat.ne_of_lt (blk_lt (g := gb898) (o := .cells #[.int .i64 a0_0, .slice (some ad901) l0_1.length c0_1] 30 (0, 0)) (viaB BK898.out)) : gb898 ≠ gb902)); have n6_ := Aside0.mk ((by rw [hg]; exact Nat.ne_of_gt (blk_lt (g := gb898) (o := .cells #[.int .i64 a0_0, .slice (some ad901) l0_1.length c0_1] 30 (0, 0)) (viaB BK898.out)) : gb902 ≠ gb898)); clear BK898; clear HB; have BK898 := n0_; have HB := n1_; have BK902 := n2_; have GW902 := n3_; have GE902 := n4_; have NB898_902 := n5_; have NB902_898 := n6_; clear n0_ n1_ n2_ n3_ n4_ n5_ n6_; clear hb hbox hg; have hnb35 := NB902_898.out; have hnc35 := NB898_902.out; have hcz36_0 : w34.cell? ⟨gb902, 0, none⟩ = some (.int .i64 0) := (blk_cell BK902.out 0).trans rfl; have hcz36_1 : w34.cell? ⟨gb902, 1, none⟩ = some (.int .i64 0) := (blk_cell BK902.out 1).trans rfl; have hfz36_0 := blk_frozen BK902.out 0; have hfz36_1 := blk_frozen BK902.out 1)))
                  go_roundg k4
                  case measure => have := HJ2.out; have := HK2.out; have := HK3.out; have := HK4.out; omega
                  case rel => exact ⟨(wrap64 (x9_4 + (Go.bits .and .i64 (Go.bits .and .i64 (ji31) (ji33)) 1))), (wrap64 (x56_4 + 1)), (by first | rfl | (simp; done) | (simp only [← hji31, ← hji33] <;> (first | rfl | simp)) | (simp [*]; done)), (by first | rfl | (simp; done) | (simp [*]; done)), H', ⟨by have := HJ2.out; have := HK2.out; have := HK3.out; have := HK4.out; omega⟩, ⟨by (with_reducible repeat (first | refine blk_drewN ?_ _ | refine blk_drew ?_ | refine blk_alloc ?_ _)); refine blk_far ?_ NB898_902.out _; (with_reducible repeat (first | refine blk_drewN ?_ _ | refine blk_drew ?_ | refine blk_alloc ?_ _)); refine blk_far ?_ NB898_902.out _; (with_reducible repeat (first | refine blk_drewN ?_ _ | refine blk_drew ?_ | refine blk_alloc ?_ _)); exact BK898.out⟩, ⟨by repeat (first | (with_reducible first | exact HB.out | apply below_alloc | apply pw_below_drewN | apply below_drew1 | refine below_set ?_ GE898.out | refine below_set ?_ GE902.out) | exact HB.out)⟩⟩
                 ·rw [if_neg c32] at H
                  exact absurd H (by simp)
                ·rw [if_neg c30] at H
                 exact absurd H (by simp)
               ·rw [if_neg c29] at H
                exact absurd H (by simp)
              ·rw [if_neg c28] at H
               exact absurd H (by simp)
             ·rw [if_neg c27] at H
              have c27b0 : decide (x56_4 < (l0_1.length : Int)) = false := decide_eq_false c27; clear c27
              by_cases c37 : x5_3 < x9_4
              ·rw [if_pos c37] at H
               have c37b0 : decide (x5_3 < x9_4) = true := decide_eq_true c37; clear c37; obtain rfl := Option.some.inj H
               go_wp2
               repeat (go_quiet (fail); try go_wp2)
               go_ret
               exact ⟨by first | rfl | (simp [errW_none, errW_some] <;> rfl) | (simp only [← hji14]; first | rfl | (simp [errW_none, errW_some] <;> rfl)) | (simp [*, errW_none, errW_some] <;> rfl), viaX HB.out GE898.out⟩
              ·rw [if_neg c37] at H
               have c37b0 : decide (x5_3 < x9_4) = false := decide_eq_false c37; clear c37; have H' := Aside0.mk H; clear H
               go_wp2
               repeat (go_quiet (fail); try go_wp2)
               go_roundg k4
               case measure => have := HJ2.out; have := HK2.out; have := HK3.out; have := HK4.out; omega
               case rel => exact ⟨(x5_3), (wrap64 (x25_2 + 1)), (by first | rfl | (simp; done) | (simp [*]; done)), (by first | rfl | (simp; done) | (simp [*]; done)), H', ⟨by have := HJ2.out; have := HK2.out; have := HK3.out; have := HK4.out; omega⟩, ⟨viaB BK898.out⟩, ⟨viaX HB.out GE898.out⟩⟩
       ·rw [if_neg c16] at H
        have c16b0 : decide (x25_2 < ji14) = false := decide_eq_false c16; clear c16; obtain rfl := Option.some.inj H; have hcz38_0 : wr.cell? ⟨gb898, 0, none⟩ = some (.int .i64 a0_0) := (blk_cell BK898.out 0).trans rfl; have hcz38_1 : wr.cell? ⟨gb898, 1, none⟩ = some (.slice A0_1 l0_1.length c0_1) := (blk_cell BK898.out 1).trans rfl; have hfz38_0 := blk_frozen BK898.out 0; have hfz38_1 := blk_frozen BK898.out 1
        go_wp2
        repeat (go_quiet (fail); try go_wp2)
        go_ret
        exact ⟨by first | rfl | (simp [errW_none, errW_some] <;> rfl) | (simp only [← hji14]; first | rfl | (simp [errW_none, errW_some] <;> rfl)) | (simp [*, errW_none, errW_some] <;> rfl), viaX HB.out GE898.out⟩
    ·rw [if_neg c13] at H
     exact absurd H (by simp)

/-! ### laws_FnScoreFirst: function 15 -/
def laws_FnScoreFirst.f (k : Nat) (l0 : List Int) : Option (Bool) := if (l0.length : Int) > 1048576 then (some true) else ((spec_DrawScoreFirst.f k l0).bind fun bt903 => ((impl_ScoreFirst.f k bt903.1 bt903.2.1 bt903.2.2).bind fun bt911 => ((spec_ScoreFirst.f k bt903.1 bt903.2.1 bt903.2.2).bind fun bt913 => (if (bt911.2 != bt913.2) = true then (if (bt911.2 == bt913.2) = true then (some (bt911.1 == bt913.1)) else (some false)) else (if bt911.1 = bt913.1 then (if bt911.2 = true then ((impl_ScoreIs.f k bt903.1 bt903.2.1 bt903.2.2).bind fun t915 => (some t915)) else (if (bt911.2 == bt913.2) = true then (some (bt911.1 == bt913.1)) else (some false))) else (if (bt911.2 == bt913.2) = true then (some (bt911.1 == bt913.1)) else (some false)))))))
theorem laws_FnScoreFirst.mono : ∀ a0 k, LeO (laws_FnScoreFirst.f k a0) (laws_FnScoreFirst.f (k + 1) a0) := by
 intro a0 k
 unfold laws_FnScoreFirst.f
 repeat' first
   | (with_reducible exact impl_ScoreFirst.mono _ _ _ _)
   | (with_reducible exact impl_ScoreIs.mono _ _ _ _)
   | (with_reducible exact spec_DrawScoreFirst.mono _ _)
   | (with_reducible exact spec_ScoreFirst.mono _ _ _ _)
   | (with_reducible exact LeO.refl _)
   | (with_reducible exact LeO.none _)
   | (with_reducible refine LeO.ite ?_ ?_)
   | (with_reducible refine LeO.bind ?_ (fun _ => ?_))
   | exact impl_ScoreFirst.mono _ _ _ _
   | exact impl_ScoreIs.mono _ _ _ _
   | exact spec_DrawScoreFirst.mono _ _
   | exact spec_ScoreFirst.mono _ _ _ _
   | exact LeO.none _
   | refine LeO.ite ?_ ?_
   | refine LeO.bind ?_ (fun _ => ?_)
set_option maxHeartbeats 8000000 in
set_option maxRecDepth 100000 in
theorem laws_FnScoreFirst.calls (k : Nat) (A0 : Option Addr) (c0 : Nat) (l0 : List Int) (r : Bool) (w : World) (hr0 : Kd.C (Kd.int .u8) w A0 l0.length l0) (hc0 : l0.length ≤ c0) (h : laws_FnScoreFirst.f k l0 = some r) :
  Calls Try.prog 15 #[.slice A0 l0.length c0] w fun e w' => e = .returned (.bool r) ∧ Below w.heap.size w w' := by
 have hu30 := Try.underlying30; have HR0 := Aside0.mk hr0; have HC0 := Aside0.mk hc0; clear hr0 hc0; have HB := Aside0.mk (Below.refl w.heap.size w); have H : (if (l0.length : Int) > 1048576 then (some true) else ((spec_DrawScoreFirst.f k l0).bind fun bt903 => ((impl_ScoreFirst.f k bt903.1 bt903.2.1 bt903.2.2).bind fun bt911 => ((spec_ScoreFirst.f k bt903.1 bt903.2.1 bt903.2.2).bind fun bt913 => (if (bt911.2 != bt913.2) = true then (if (bt911.2 == bt913.2) = true then (some (bt911.1 == bt913.1)) else (some false)) else (if bt911.1 = bt913.1 then (if bt911.2 = true then ((impl_ScoreIs.f k bt903.1 bt903.2.1 bt903.2.2).bind fun t915 => (some t915)) else (if (bt911.2 == bt913.2) = true then (some (bt911.1 == bt913.1)) else (some false))) else (if (bt911.2 == bt913.2) = true then (some (bt911.1 == bt913.1)) else (some false)))))))) = some r := h; clear h
 by_cases c2 : (l0.length : Int) > 1048576
 ·rw [if_pos c2] at H
  have c2b0 : decide (1048576 < (l0.length : Int)) = true := decide_eq_true c2; have c2b1 : decide (1048576 < l0.length) = true := decide_eq_true (by omega); clear c2; obtain rfl := Option.some.inj H
  go_enter Try.func15, Try.ntmps15
  go_wp2
  go_ret
  exact ⟨by first | rfl | (simp [errW_none, errW_some] <;> rfl) | (simp [*, errW_none, errW_some] <;> rfl), viaW HB.out⟩
 ·rw [if_neg c2] at H
  have c2b0 : decide (1048576 < (l0.length : Int)) = false := decide_eq_false c2; have c2b1 : decide (1048576 < l0.length) = false := decide_eq_false (by omega); clear c2; replace H := Option.bind_eq_some_iff.mp H; obtain ⟨⟨t903, t904, t907⟩, A30, H⟩ := H; replace H : ((impl_ScoreFirst.f k t903 t904 t907).bind fun bt911 => ((spec_ScoreFirst.f k t903 t904 t907).bind fun bt913 => (if (bt911.2 != bt913.2) = true then (if (bt911.2 == bt913.2) = true then (some (bt911.1 == bt913.1)) else (some false)) else (if bt911.1 = bt913.1 then (if bt911.2 = true then ((impl_ScoreIs.f k t903 t904 t907).bind fun t915 => (some t915)) else (if (bt911.2 == bt913.2) = true then (some (bt911.1 == bt913.1)) else (some false))) else (if (bt911.2 == bt913.2) = true then (some (bt911.1 == bt913.1)) else (some false)))))) = some r := H; have A3 := Aside0.mk A30; clear A30; replace H := Option.bind_eq_some_iff.mp H; obtain ⟨⟨t911, t912⟩, A40, H⟩ := H; replace H : ((spec_ScoreFirst.f k t903 t904 t907).bind fun bt913 => (if (t912 != bt913.2) = true then (if (t912 == bt913.2) = true then (some (t911 == bt913.1)) else (some false)) else (if t911 = bt913.1 then (if t912 = true then ((impl_ScoreIs.f k t903 t904 t907).bind fun t915 => (some t915)) else (if (t912 == bt913.2) = true then (some (t911 == bt913.1)) else (some false))) else (if (t912 == bt913.2) = true then (some (t911 == bt913.1)) else (some false))))) = some r := H; have A4 := Aside0.mk A40; clear A40; replace H := Option.bind_eq_some_iff.mp H; obtain ⟨⟨t913, t914⟩, A50, H⟩ := H; replace H : (if (t912 != t914) = true then (if (t912 == t914) = true then (some (t911 == t913)) else (some false)) else (if t911 = t913 then (if t912 = true then ((impl_ScoreIs.f k t903 t904 t907).bind fun t915 => (some t915)) else (if (t912 == t914) = true then (some (t911 == t913)) else (some false))) else (if (t912 == t914) = true then (some (t911 == t913)) else (some false)))) = some r := H; have A5 := Aside0.mk A50; clear A50
  by_cases c6 : (t912 != t914) = true
  ·rw [if_pos c6] at H
   have c6b0 : (t912 != t914) = true := c6
   (try (have c6b1 : decide (t912 = t914) = false := by simpa using c6))
   (try (have c6b2 : (t912 == t914) = false := by simpa using c6))
   (try (have c6b3 : ¬ (t912 = t914) := by simpa using c6))
   clear c6
   by_cases c7 : (t912 == t914) = true
   ·exact absurd c7 (by simpa using c6b0)
   ·rw [if_neg c7] at H
    have c7b0 : (t912 == t914) = false := by simpa using c7
    (try (have c7b1 : decide (t912 = t914) = false := by simpa using c7))
    (try (have c7b2 : (t912 == t914) = false := by simpa using c7))
    (try (have c7b3 : ¬ (t912 = t914) := by simpa using c7))
    clear c7; obtain rfl := Option.some.inj H
    go_enter Try.func15, Try.ntmps15
    go_wp2_with (first | ((with_reducible refine gate_callee (f := 53) rfl ?_); refine goesL_ (some 14) rfl rfl Try.func53 (by kernel_rfl) rfl #[.slice A0 l0.length c0] rfl (by (try simp only [List.map_toArray, List.map_cons, List.map_nil]); first | done | rfl | (simp only [List.length_drop, List.length_take]; rfl)) ?_; (with_reducible refine (spec_DrawScoreFirst.calls k _ _ l0 t903 t904 t907 _ ?side1 ?side2 A3.out).mono ?_); (case side1 => repeat (first | exact HR0.out | (with_reducible refine Kd.C_alloc ?_ _) | (with_reducible refine Kd.C_drewN ?_ _) | (with_reducible refine Kd.C_drew ?_))); (case side2 => exact HC0.out); rintro e w16 ⟨v905, v908, rfl, ho0, ho1, hb⟩; refine ⟨_, rfl, ?_⟩; have n0_ := Aside0.mk (Kd.R_lower ho0 (below_size (viaW HB.out))); have n1_ := Aside0.mk (Kd.R_lower ho1 (below_size (viaW HB.out))); have n2_ := Aside0.mk (below_step (viaW HB.out) hb); clear HB; have HO906 := n0_; have HO909 := n1_; have HB := n2_; clear n0_ n1_ n2_; (try clear hb); (try clear hb2); (try clear hk); (try clear hi); (try clear ho0); (try clear ho1)) | ((with_reducible refine gate_dst (N := 3) rfl ?_); refine box_event ?hg (N := 3) ?hd (cs := #[.int .i64 0, .slice none 0 0]) (t := 30) ?hr ?_; (case hd => rfl); (case hg => rfl); (case hr => first | (go_simp; done) | (go_simp; rfl)); intro gb910 hg w17 hbox hb; have n0_ := Aside0.mk (Kd.R_below (viaR HO906.out) hb); have n1_ := Aside0.mk (Kd.R_below (viaR HO909.out) hb); have n2_ := Aside0.mk (below_step (viaW HB.out) hb); have n3_ := Aside0.mk (hbox); have n4_ := Aside0.mk ((by rw [hg]; exact (below_size (viaW HB.out)) : w.heap.size ≤ gb910)); have n5_ := Aside0.mk ((by rw [hg]; exact (below_size (viaW HB.out)) : w.heap.size ≤ gb910)); clear HO906; clear HO909; clear HB; have HO906 := n0_; have HO909 := n1_; have HB := n2_; have BK910 := n3_; have GW910 := n4_; have GE910 := n5_; clear n0_ n1_ n2_ n3_ n4_ n5_; clear hb hbox hg; have hcz18_0 : w17.cell? ⟨gb910, 0, none⟩ = some (.int .i64 0) := (blk_cell BK910.out 0).trans rfl; have hcz18_1 : w17.cell? ⟨gb910, 1, none⟩ = some (.slice none 0 0) := (blk_cell BK910.out 1).trans rfl; have hfz18_0 := blk_frozen BK910.out 0; have hfz18_1 := blk_frozen BK910.out 1; obtain ⟨Ao19, co19, eo19⟩ := Kd.R_slice HO906.out; subst eo19; obtain ⟨Ao20, co20, eo20⟩ := Kd.R_slice HO909.out; subst eo20) | ((with_reducible refine gate_callee (f := 54) rfl ?_); refine goesL_ (some 20) rfl rfl Try.func54 (by kernel_rfl) rfl #[.agg #[.int .i64 t903, .slice Ao19 t904.length co19], .slice Ao20 t907.length co20] rfl (by (try simp only [List.map_toArray, List.map_cons, List.map_nil]); first | done | rfl | (simp only [List.length_drop, List.length_take]; rfl)) ?_; (with_reducible refine (impl_ScoreFirst.calls k t903 _ _ t904 _ _ t907 t911 t912 _ ?side1 ?side2 ?side3 ?side4 A4.out).mono ?_); (case side1 => refine (Kd.R_reads' (e := 44) (base := w.heap.size) (ok := fun k_ => True) (n := t904.length) (c := co19) ?_).2.2; exact (by (with_reducible repeat (first | apply Kd.R_alloc | apply Kd.R_drewN | apply Kd.R_drew)); exact (Kd.R_mono (Kd.R_far (p := ⟨gb910, 1, none⟩) (Kd.R_far (p := ⟨gb910, 0, none⟩) (Kd.R_types HO906.out BK910.out (by decide)) (fun _ hk => hk.2) (.int .i64 t903)) (fun _ hk => hk.2) (.slice Ao19 t904.length co19)) (fun _ h_ => h_.1)))); (case side2 => exact (Kd.R_reads' HO906.out).2.1); (case side3 => refine (Kd.R_reads' (e := 3) (base := w.heap.size) (ok := fun k_ => True) (n := t907.length) (c := co20) ?_).2.2; exact (by (with_reducible repeat (first | apply Kd.R_alloc | apply Kd.R_drewN | apply Kd.R_drew)); exact (Kd.R_mono (Kd.R_far (p := ⟨gb910, 1, none⟩) (Kd.R_far (p := ⟨gb910, 0, none⟩) (Kd.R_types HO909.out BK910.out (by decide)) (fun _ hk => hk.2) (.int .i64 t903)) (fun _ hk => hk.2) (.slice Ao19 t904.length co19)) (fun _ h_ => h_.1)))); (case side4 => exact (Kd.R_reads' HO909.out).2.1); rintro e w21 ⟨rfl, hb⟩; refine ⟨_, rfl, ?_⟩; have n0_ := Aside0.mk (Kd.R_below (by (with_reducible repeat (first | apply Kd.R_alloc | apply Kd.R_drewN | apply Kd.R_drew)); exact (Kd.R_mono (Kd.R_far (p := ⟨gb910, 1, none⟩) (Kd.R_far (p := ⟨gb910, 0, none⟩) (Kd.R_types HO906.out BK910.out (by decide)) (fun _ hk => hk.2) (.int .i64 t903)) (fun _ hk => hk.2) (.slice Ao19 t904.length co19)) (fun _ h_ => h_.1))) hb); have n1_ := Aside0.mk (Kd.R_below (by (with_reducible repeat (first | apply Kd.R_alloc | apply Kd.R_drewN | apply Kd.R_drew)); exact (Kd.R_mono (Kd.R_far (p := ⟨gb910, 1, none⟩) (Kd.R_far (p := ⟨gb910, 0, none⟩) (Kd.R_types HO909.out BK910.out (by decide)) (fun _ hk => hk.2) (.int .i64 t903)) (fun _ hk => hk.2) (.slice Ao19 t904.length co19)) (fun _ h_ => h_.1))) hb); have n2_ := Aside0.mk (blk_below (g := gb910) (o := .cells #[.int .i64 t903, .slice Ao19 t904.length co19] 30 (0, 0)) (by (with_reducible repeat (first | refine blk_drewN ?_ _ | refine blk_drew ?_ | refine blk_alloc ?_ _)); refine blk_put (cs := #[.int .i64 t903, .slice none 0 0]) ?_ 1 _ rfl; (with_reducible repeat (first | refine blk_drewN ?_ _ | refine blk_drew ?_ | refine blk_alloc ?_ _)); refine blk_put (cs := #[.int .i64 0, .slice none 0 0]) ?_ 0 _ rfl; (with_reducible repeat (first | refine blk_drewN ?_ _ | refine blk_drew ?_ | refine blk_alloc ?_ _)); exact BK910.out) hb); have n3_ := Aside0.mk (below_step (viaX HB.out GE910.out) hb); clear HO906; clear HO909; clear BK910; clear HB; have HO906 := n0_; have HO909 := n1_; have BK910 := n2_; have HB := n3_; clear n0_ n1_ n2_ n3_; (try clear hb); (try clear hb2); (try clear hk); (try clear hi); have hcz22_0 : w21.cell? ⟨gb910, 0, none⟩ = some (.int .i64 t903) := (blk_cell BK910.out 0).trans rfl; have hcz22_1 : w21.cell? ⟨gb910, 1, none⟩ = some (.slice Ao19 t904.length co19) := (blk_cell BK910.out 1).trans rfl; have hfz22_0 := blk_frozen BK910.out 0; have hfz22_1 := blk_frozen BK910.out 1) | ((with_reducible refine gate_callee (f := 55) rfl ?_); refine goesL_ (some 26) rfl rfl Try.func55 (by kernel_rfl) rfl #[.agg #[.int .i64 t903, .slice Ao19 t904.length co19], .slice Ao20 t907.length co20] rfl (by (try simp only [List.map_toArray, List.map_cons, List.map_nil]); first | done | rfl | (simp only [List.length_drop, List.length_take]; rfl)) ?_; (with_reducible refine (spec_ScoreFirst.calls k t903 _ _ t904 _ _ t907 t913 t914 _ ?side1 ?side2 ?side3 ?side4 A5.out).mono ?_); (case side1 => repeat (first | exact (Kd.R_reads' HO906.out).2.2 | (with_reducible refine Kd.C_alloc ?_ _) | (with_reducible refine Kd.C_drewN ?_ _) | (with_reducible refine Kd.C_drew ?_))); (case side2 => exact (Kd.R_reads' HO906.out).2.1); (case side3 => repeat (first | exact (Kd.R_reads' HO909.out).2.2 | (with_reducible refine Kd.C_alloc ?_ _) | (with_reducible refine Kd.C_drewN ?_ _) | (with_reducible refine Kd.C_drew ?_))); (case side4 => exact (Kd.R_reads' HO909.out).2.1); rintro e w23 ⟨rfl, hb⟩; refine ⟨_, rfl, ?_⟩; have n0_ := Aside0.mk (Kd.R_below (viaR HO906.out) hb); have n1_ := Aside0.mk (Kd.R_below (viaR HO909.out) hb); have n2_ := Aside0.mk (blk_below (g := gb910) (o := .cells #[.int .i64 t903, .slice Ao19 t904.length co19] 30 (0, 0)) (viaB BK910.out) hb); have n3_ := Aside0.mk (below_step (viaX HB.out GE910.out) hb); clear HO906; clear HO909; clear BK910; clear HB; have HO906 := n0_; have HO909 := n1_; have BK910 := n2_; have HB := n3_; clear n0_ n1_ n2_ n3_; (try clear hb); (try clear hb2); (try clear hk); (try clear hi)))
    go_ret
    exact ⟨by first | rfl | (simp [errW_none, errW_some] <;> rfl) | (simp [*, errW_none, errW_some] <;> rfl), viaX HB.out GE910.out⟩
  ·rw [if_neg c6] at H
   have c6b0 : (t912 != t914) = false := by simpa using c6
   (try (have c6b1 : decide (t912 = t914) = true := by simpa using c6))
   (try (have c6b2 : (t912 == t914) = true := by simpa using c6))
   clear c6
   by_cases c24 : t911 = t913
   ·rw [if_pos c24] at H
    have c24b0 : (t911 == t913) = true := beq_iff_eq.mpr c24; have c24b1 : (t911 != t913) = false := bne_eq_false_iff_eq.mpr c24; clear c24
    by_cases c25 : t912 = true
    ·subst c25
     have H1 : ((impl_ScoreIs.f k t903 t904 t907).bind fun t915 => (some t915)) = some r := by rw [if_pos rfl] at H; exact H
     clear H; have H := H1; clear H1; replace H := Option.bind_eq_some_iff.mp H; obtain ⟨t915, A260, H⟩ := H; replace H : (some t915) = some r := H; have A26 := Aside0.mk A260; clear A260; obtain rfl := Option.some.inj H
     go_enter Try.func15, Try.ntmps15
     go_wp2_with (first | ((with_reducible refine gate_callee (f := 53) rfl ?_); refine goesL_ (some 14) rfl rfl Try.func53 (by kernel_rfl) rfl #[.slice A0 l0.length c0] rfl (by (try simp only [List.map_toArray, List.map_cons, List.map_nil]); first | done | rfl | (simp only [List.length_drop, List.length_take]; rfl)) ?_; (with_reducible refine (spec_DrawScoreFirst.calls k _ _ l0 t903 t904 t907 _ ?side1 ?side2 A3.out).mono ?_); (case side1 => repeat (first | exact HR0.out | (with_reducible refine Kd.C_alloc ?_ _) | (with_reducible refine Kd.C_drewN ?_ _) | (with_reducible refine Kd.C_drew ?_))); (case side2 => exact HC0.out); rintro e w27 ⟨v905, v908, rfl, ho0, ho1, hb⟩; refine ⟨_, rfl, ?_⟩; have n0_ := Aside0.mk (Kd.R_lower ho0 (below_size (viaW HB.out))); have n1_ := Aside0.mk (Kd.R_lower ho1 (below_size (viaW HB.out))); have n2_ := Aside0.mk (below_step (viaW HB.out) hb); clear HB; have HO906 := n0_; have HO909 := n1_; have HB := n2_; clear n0_ n1_ n2_; (try clear hb); (try clear hb2); (try clear hk); (try clear hi); (try clear ho0); (try clear ho1)) | ((with_reducible refine gate_dst (N := 3) rfl ?_); refine box_event ?hg (N := 3) ?hd (cs := #[.int .i64 0, .slice none 0 0]) (t := 30) ?hr ?_; (case hd => rfl); (case hg => rfl); (case hr => first | (go_simp; done) | (go_simp; rfl)); intro gb910 hg w28 hbox hb; have n0_ := Aside0.mk (Kd.R_below (viaR HO906.out) hb); have n1_ := Aside0.mk (Kd.R_below (viaR HO909.out) hb); have n2_ := Aside0.mk (below_step (viaW HB.out) hb); have n3_ := Aside0.mk (hbox); have n4_ := Aside0.mk ((by rw [hg]; exact (below_size (viaW HB.out)) : w.heap.size ≤ gb910)); have n5_ := Aside0.mk ((by rw [hg]; exact (below_size (viaW HB.out)) : w.heap.size ≤ gb910)); clear HO906; clear HO909; clear HB; have HO906 := n0_; have HO909 := n1_; have HB := n2_; have BK910 := n3_; have GW910 := n4_; have GE910 := n5_; clear n0_ n1_ n2_ n3_ n4_ n5_; clear hb hbox hg; have hcz29_0 : w28.cell? ⟨gb910, 0, none⟩ = some (.int .i64 0) := (blk_cell BK910.out 0).trans rfl; have hcz29_1 : w28.cell? ⟨gb910, 1, none⟩ = some (.slice none 0 0) := (blk_cell BK910.out 1).trans rfl; have hfz29_0 := blk_frozen BK910.out 0; have hfz29_1 := blk_frozen BK910.out 1; obtain ⟨Ao30, co30, eo30⟩ := Kd.R_slice HO906.out; subst eo30; obtain ⟨Ao31, co31, eo31⟩ := Kd.R_slice HO909.out; subst eo31) | ((with_reducible refine gate_callee (f := 54) rfl ?_); refine goesL_ (some 20) rfl rfl Try.func54 (by kernel_rfl) rfl #[.agg #[.int .i64 t903, .slice Ao30 t904.length co30], .slice Ao31 t907.length co31] rfl (by (try simp only [List.map_toArray, List.map_cons, List.map_nil]); first | done | rfl | (simp only [List.length_drop, List.length_take]; rfl)) ?_; (with_reducible refine (impl_ScoreFirst.calls k t903 _ _ t904 _ _ t907 t911 true _ ?side1 ?side2 ?side3 ?side4 A4.out).mono ?_); (case side1 => refine (Kd.R_reads' (e := 44) (base := w.heap.size) (ok := fun k_ => True) (n := t904.length) (c := co30) ?_).2.2; exact (by (with_reducible repeat (first | apply Kd.R_alloc | apply Kd.R_drewN | apply Kd.R_drew)); exact (Kd.R_mono (Kd.R_far (p := ⟨gb910, 1, none⟩) (Kd.R_far (p := ⟨gb910, 0, none⟩) (Kd.R_types HO906.out BK910.out (by decide)) (fun _ hk => hk.2) (.int .i64 t903)) (fun _ hk => hk.2) (.slice Ao30 t904.length co30)) (fun _ h_ => h_.1)))); (case side2 => exact (Kd.R_reads' HO906.out).2.1); (case side3 => refine (Kd.R_reads' (e := 3) (base := w.heap.size) (ok := fun k_ => True) (n := t907.length) (c := co31) ?_).2.2; exact (by (with_reducible repeat (first | apply Kd.R_alloc | apply Kd.R_drewN | apply Kd.R_drew)); exact (Kd.R_mono (Kd.R_far (p := ⟨gb910, 1, none⟩) (Kd.R_far (p := ⟨gb910, 0, none⟩) (Kd.R_types HO909.out BK910.out (by decide)) (fun _ hk => hk.2) (.int .i64 t903)) (fun _ hk => hk.2) (.slice Ao30 t904.length co30)) (fun _ h_ => h_.1)))); (case side4 => exact (Kd.R_reads' HO909.out).2.1); rintro e w32 ⟨rfl, hb⟩; refine ⟨_, rfl, ?_⟩; have n0_ := Aside0.mk (Kd.R_below (by (with_reducible repeat (first | apply Kd.R_alloc | apply Kd.R_drewN | apply Kd.R_drew)); exact (Kd.R_mono (Kd.R_far (p := ⟨gb910, 1, none⟩) (Kd.R_far (p := ⟨gb910, 0, none⟩) (Kd.R_types HO906.out BK910.out (by decide)) (fun _ hk => hk.2) (.int .i64 t903)) (fun _ hk => hk.2) (.slice Ao30 t904.length co30)) (fun _ h_ => h_.1))) hb); have n1_ := Aside0.mk (Kd.R_below (by (with_reducible repeat (first | apply Kd.R_alloc | apply Kd.R_drewN | apply Kd.R_drew)); exact (Kd.R_mono (Kd.R_far (p := ⟨gb910, 1, none⟩) (Kd.R_far (p := ⟨gb910, 0, none⟩) (Kd.R_types HO909.out BK910.out (by decide)) (fun _ hk => hk.2) (.int .i64 t903)) (fun _ hk => hk.2) (.slice Ao30 t904.length co30)) (fun _ h_ => h_.1))) hb); have n2_ := Aside0.mk (blk_below (g := gb910) (o := .cells #[.int .i64 t903, .slice Ao30 t904.length co30] 30 (0, 0)) (by (with_reducible repeat (first | refine blk_drewN ?_ _ | refine blk_drew ?_ | refine blk_alloc ?_ _)); refine blk_put (cs := #[.int .i64 t903, .slice none 0 0]) ?_ 1 _ rfl; (with_reducible repeat (first | refine blk_drewN ?_ _ | refine blk_drew ?_ | refine blk_alloc ?_ _)); refine blk_put (cs := #[.int .i64 0, .slice none 0 0]) ?_ 0 _ rfl; (with_reducible repeat (first | refine blk_drewN ?_ _ | refine blk_drew ?_ | refine blk_alloc ?_ _)); exact BK910.out) hb); have n3_ := Aside0.mk (below_step (viaX HB.out GE910.out) hb); clear HO906; clear HO909; clear BK910; clear HB; have HO906 := n0_; have HO909 := n1_; have BK910 := n2_; have HB := n3_; clear n0_ n1_ n2_ n3_; (try clear hb); (try clear hb2); (try clear hk); (try clear hi); have hcz33_0 : w32.cell? ⟨gb910, 0, none⟩ = some (.int .i64 t903) := (blk_cell BK910.out 0).trans rfl; have hcz33_1 : w32.cell? ⟨gb910, 1, none⟩ = some (.slice Ao30 t904.length co30) := (blk_cell BK910.out 1).trans rfl; have hfz33_0 := blk_frozen BK910.out 0; have hfz33_1 := blk_frozen BK910.out 1) | ((with_reducible refine gate_callee (f := 55) rfl ?_); refine goesL_ (some 26) rfl rfl Try.func55 (by kernel_rfl) rfl #[.agg #[.int .i64 t903, .slice Ao30 t904.length co30], .slice Ao31 t907.length co31] rfl (by (try simp only [List.map_toArray, List.map_cons, List.map_nil]); first | done | rfl | (simp only [List.length_drop, List.length_take]; rfl)) ?_; (with_reducible refine (spec_ScoreFirst.calls k t903 _ _ t904 _ _ t907 t913 t914 _ ?side1 ?side2 ?side3 ?side4 A5.out).mono ?_); (case side1 => repeat (first | exact (Kd.R_reads' HO906.out).2.2 | (with_reducible refine Kd.C_alloc ?_ _) | (with_reducible refine Kd.C_drewN ?_ _) | (with_reducible refine Kd.C_drew ?_))); (case side2 => exact (Kd.R_reads' HO906.out).2.1); (case side3 => repeat (first | exact (Kd.R_reads' HO909.out).2.2 | (with_reducible refine Kd.C_alloc ?_ _) | (with_reducible refine Kd.C_drewN ?_ _) | (with_reducible refine Kd.C_drew ?_))); (case side4 => exact (Kd.R_reads' HO909.out).2.1); rintro e w34 ⟨rfl, hb⟩; refine ⟨_, rfl, ?_⟩; have n0_ := Aside0.mk (Kd.R_below (viaR HO906.out) hb); have n1_ := Aside0.mk (Kd.R_below (viaR HO909.out) hb); have n2_ := Aside0.mk (blk_below (g := gb910) (o := .cells #[.int .i64 t903, .slice Ao30 t904.length co30] 30 (0, 0)) (viaB BK910.out) hb); have n3_ := Aside0.mk (below_step (viaX HB.out GE910.out) hb); clear HO906; clear HO909; clear BK910; clear HB; have HO906 := n0_; have HO909 := n1_; have BK910 := n2_; have HB := n3_; clear n0_ n1_ n2_ n3_; (try clear hb); (try clear hb2); (try clear hk); (try clear hi); have hcz35_0 : w34.cell? ⟨gb910, 0, none⟩ = some (.int .i64 t903) := (blk_cell BK910.out 0).trans rfl; have hcz35_1 : w34.cell? ⟨gb910, 1, none⟩ = some (.slice Ao30 t904.length co30) := (blk_cell BK910.out 1).trans rfl; have hfz35_0 := blk_frozen BK910.out 0; have hfz35_1 := blk_frozen BK910.out 1) | ((with_reducible refine gate_callee (f := 56) rfl ?_); refine goesL_ (some 51) rfl rfl Try.func56 (by kernel_rfl) rfl #[.agg #[.int .i64 t903, .slice Ao30 t904.length co30], .slice Ao31 t907.length co31] rfl (by (try simp only [List.map_toArray, List.map_cons, List.map_nil]); first | done | rfl | (simp only [List.length_drop, List.length_take]; rfl)) ?_; (with_reducible refine (impl_ScoreIs.calls k t903 _ _ t904 _ _ t907 t915 _ ?side1 ?side2 ?side3 ?side4 A26.out).mono ?_); (case side1 => repeat (first | exact (Kd.R_reads' HO906.out).2.2 | (with_reducible refine Kd.C_alloc ?_ _) | (with_reducible refine Kd.C_drewN ?_ _) | (with_reducible refine Kd.C_drew ?_))); (case side2 => exact (Kd.R_reads' HO906.out).2.1); (case side3 => repeat (first | exact (Kd.R_reads' HO909.out).2.2 | (with_reducible refine Kd.C_alloc ?_ _) | (with_reducible refine Kd.C_drewN ?_ _) | (with_reducible refine Kd.C_drew ?_))); (case side4 => exact (Kd.R_reads' HO909.out).2.1); rintro e w36 ⟨rfl, hb⟩; refine ⟨_, rfl, ?_⟩; have n0_ := Aside0.mk (Kd.R_below (viaR HO906.out) hb); have n1_ := Aside0.mk (Kd.R_below (viaR HO909.out) hb); have n2_ := Aside0.mk (blk_below (g := gb910) (o := .cells #[.int .i64 t903, .slice Ao30 t904.length co30] 30 (0, 0)) (viaB BK910.out) hb); have n3_ := Aside0.mk (below_step (viaX HB.out GE910.out) hb); clear HO906; clear HO909; clear BK910; clear HB; have HO906 := n0_; have HO909 := n1_; have BK910 := n2_; have HB := n3_; clear n0_ n1_ n2_ n3_; (try clear hb); (try clear hb2); (try clear hk); (try clear hi)))
     go_ret
     exact ⟨by first | rfl | (simp [errW_none, errW_some] <;> rfl) | (simp [*, errW_none, errW_some] <;> rfl), viaX HB.out GE910.out⟩
    ·replace c25 := Bool.eq_false_iff.mpr c25
     subst c25; have H1 : (if (false == t914) = true then (some (t911 == t913)) else (some false)) = some r := by rw [if_neg (show ¬ (false = true) by decide)] at H; exact H
     clear H; have H := H1; clear H1
     by_cases c37 : (false == t914) = true
     ·rw [if_pos c37] at H
      have c37b0 : (false == t914) = true := c37
      (try (have c37b1 : decide (false = t914) = true := by simpa using c37))
      (try (have c37b2 : (false == t914) = true := by simpa using c37))
      clear c37; obtain rfl := Option.some.inj H
      go_enter Try.func15, Try.ntmps15
      go_wp2_with (first | ((with_reducible refine gate_callee (f := 53) rfl ?_); refine goesL_ (some 14) rfl rfl Try.func53 (by kernel_rfl) rfl #[.slice A0 l0.length c0] rfl (by (try simp only [List.map_toArray, List.map_cons, List.map_nil]); first | done | rfl | (simp only [List.length_drop, List.length_take]; rfl)) ?_; (with_reducible refine (spec_DrawScoreFirst.calls k _ _ l0 t903 t904 t907 _ ?side1 ?side2 A3.out).mono ?_); (case side1 => repeat (first | exact HR0.out | (with_reducible refine Kd.C_alloc ?_ _) | (with_reducible refine Kd.C_drewN ?_ _) | (with_reducible refine Kd.C_drew ?_))); (case side2 => exact HC0.out); rintro e w38 ⟨v905, v908, rfl, ho0, ho1, hb⟩; refine ⟨_, rfl, ?_⟩; have n0_ := Aside0.mk (Kd.R_lower ho0 (below_size (viaW HB.out))); have n1_ := Aside0.mk (Kd.R_lower ho1 (below_size (viaW HB.out))); have n2_ := Aside0.mk (below_step (viaW HB.out) hb); clear HB; have HO906 := n0_; have HO909 := n1_; have HB := n2_; clear n0_ n1_ n2_; (try clear hb); (try clear hb2); (try clear hk); (try clear hi); (try clear ho0); (try clear ho1)) | ((with_reducible refine gate_dst (N := 3) rfl ?_); refine box_event ?hg (N := 3) ?hd (cs := #[.int .i64 0, .slice none 0 0]) (t := 30) ?hr ?_; (case hd => rfl); (case hg => rfl); (case hr => first | (go_simp; done) | (go_simp; rfl)); intro gb910 hg w39 hbox hb; have n0_ := Aside0.mk (Kd.R_below (viaR HO906.out) hb); have n1_ := Aside0.mk (Kd.R_below (viaR HO909.out) hb); have n2_ := Aside0.mk (below_step (viaW HB.out) hb); have n3_ := Aside0.mk (hbox); have n4_ := Aside0.mk ((by rw [hg]; exact (below_size (viaW HB.out)) : w.heap.size ≤ gb910)); have n5_ := Aside0.mk ((by rw [hg]; exact (below_size (viaW HB.out)) : w.heap.size ≤ gb910)); clear HO906; clear HO909; clear HB; have HO906 := n0_; have HO909 := n1_; have HB := n2_; have BK910 := n3_; have GW910 := n4_; have GE910 := n5_; clear n0_ n1_ n2_ n3_ n4_ n5_; clear hb hbox hg; have hcz40_0 : w39.cell? ⟨gb910, 0, none⟩ = some (.int .i64 0) := (blk_cell BK910.out 0).trans rfl; have hcz40_1 : w39.cell? ⟨gb910, 1, none⟩ = some (.slice none 0 0) := (blk_cell BK910.out 1).trans rfl; have hfz40_0 := blk_frozen BK910.out 0; have hfz40_1 := blk_frozen BK910.out 1; obtain ⟨Ao41, co41, eo41⟩ := Kd.R_slice HO906.out; subst eo41; obtain ⟨Ao42, co42, eo42⟩ := Kd.R_slice HO909.out; subst eo42) | ((with_reducible refine gate_callee (f := 54) rfl ?_); refine goesL_ (some 20) rfl rfl Try.func54 (by kernel_rfl) rfl #[.agg #[.int .i64 t903, .slice Ao41 t904.length co41], .slice Ao42 t907.length co42] rfl (by (try simp only [List.map_toArray, List.map_cons, List.map_nil]); first | done | rfl | (simp only [List.length_drop, List.length_take]; rfl)) ?_; (with_reducible refine (impl_ScoreFirst.calls k t903 _ _ t904 _ _ t907 t911 false _ ?side1 ?side2 ?side3 ?side4 A4.out).mono ?_); (case side1 => refine (Kd.R_reads' (e := 44) (base := w.heap.size) (ok := fun k_ => True) (n := t904.length) (c := co41) ?_).2.2; exact (by (with_reducible repeat (first | apply Kd.R_alloc | apply Kd.R_drewN | apply Kd.R_drew)); exact (Kd.R_mono (Kd.R_far (p := ⟨gb910, 1, none⟩) (Kd.R_far (p := ⟨gb910, 0, none⟩) (Kd.R_types HO906.out BK910.out (by decide)) (fun _ hk => hk.2) (.int .i64 t903)) (fun _ hk => hk.2) (.slice Ao41 t904.length co41)) (fun _ h_ => h_.1)))); (case side2 => exact (Kd.R_reads' HO906.out).2.1); (case side3 => refine (Kd.R_reads' (e := 3) (base := w.heap.size) (ok := fun k_ => True) (n := t907.length) (c := co42) ?_).2.2; exact (by (with_reducible repeat (first | apply Kd.R_alloc | apply Kd.R_drewN | apply Kd.R_drew)); exact (Kd.R_mono (Kd.R_far (p := ⟨gb910, 1, none⟩) (Kd.R_far (p := ⟨gb910, 0, none⟩) (Kd.R_types HO909.out BK910.out (by decide)) (fun _ hk => hk.2) (.int .i64 t903)) (fun _ hk => hk.2) (.slice Ao41 t904.length co41)) (fun _ h_ => h_.1)))); (case side4 => exact (Kd.R_reads' HO909.out).2.1); rintro e w43 ⟨rfl, hb⟩; refine ⟨_, rfl, ?_⟩; have n0_ := Aside0.mk (Kd.R_below (by (with_reducible repeat (first | apply Kd.R_alloc | apply Kd.R_drewN | apply Kd.R_drew)); exact (Kd.R_mono (Kd.R_far (p := ⟨gb910, 1, none⟩) (Kd.R_far (p := ⟨gb910, 0, none⟩) (Kd.R_types HO906.out BK910.out (by decide)) (fun _ hk => hk.2) (.int .i64 t903)) (fun _ hk => hk.2) (.slice Ao41 t904.length co41)) (fun _ h_ => h_.1))) hb); have n1_ := Aside0.mk (Kd.R_below (by (with_reducible repeat (first | apply Kd.R_alloc | apply Kd.R_drewN | apply Kd.R_drew)); exact (Kd.R_mono (Kd.R_far (p := ⟨gb910, 1, none⟩) (Kd.R_far (p := ⟨gb910, 0, none⟩) (Kd.R_types HO909.out BK910.out (by decide)) (fun _ hk => hk.2) (.int .i64 t903)) (fun _ hk => hk.2) (.slice Ao41 t904.length co41)) (fun _ h_ => h_.1))) hb); have n2_ := Aside0.mk (blk_below (g := gb910) (o := .cells #[.int .i64 t903, .slice Ao41 t904.length co41] 30 (0, 0)) (by (with_reducible repeat (first | refine blk_drewN ?_ _ | refine blk_drew ?_ | refine blk_alloc ?_ _)); refine blk_put (cs := #[.int .i64 t903, .slice none 0 0]) ?_ 1 _ rfl; (with_reducible repeat (first | refine blk_drewN ?_ _ | refine blk_drew ?_ | refine blk_alloc ?_ _)); refine blk_put (cs := #[.int .i64 0, .slice none 0 0]) ?_ 0 _ rfl; (with_reducible repeat (first | refine blk_drewN ?_ _ | refine blk_drew ?_ | refine blk_alloc ?_ _)); exact BK910.out) hb); have n3_ := Aside0.mk (below_step (viaX HB.out GE910.out) hb); clear HO906; clear HO909; clear BK910; clear HB; have HO906 := n0_; have HO909 := n1_; have BK910 := n2_; have HB := n3_; clear n0_ n1_ n2_ n3_; (try clear hb); (try clear hb2); (try clear hk); (try clear hi); have hcz44_0 : w43.cell? ⟨gb910, 0, none⟩ = some (.int .i64 t903) := (blk_cell BK910.out 0).trans rfl; have hcz44_1 : w43.cell? ⟨gb910, 1, none⟩ = some (.slice Ao41 t904.length co41) := (blk_cell BK910.out 1).trans rfl; have hfz44_0 := blk_frozen BK910.out 0; have hfz44_1 := blk_frozen BK910.out 1) | ((with_reducible refine gate_callee (f := 55) rfl ?_); refine goesL_ (some 26) rfl rfl Try.func55 (by kernel_rfl) rfl #[.agg #[.int .i64 t903, .slice Ao41 t904.length co41], .slice Ao42 t907.length co42] rfl (by (try simp only [List.map_toArray, List.map_cons, List.map_nil]); first | done | rfl | (simp only [List.length_drop, List.length_take]; rfl)) ?_; (with_reducible refine (spec_ScoreFirst.calls k t903 _ _ t904 _ _ t907 t913 t914 _ ?side1 ?side2 ?side3 ?side4 A5.out).mono ?_); (case side1 => repeat (first | exact (Kd.R_reads' HO906.out).2.2 | (with_reducible refine Kd.C_alloc ?_ _) | (with_reducible refine Kd.C_drewN ?_ _) | (with_reducible refine Kd.C_drew ?_))); (case side2 => exact (Kd.R_reads' HO906.out).2.1); (case side3 => repeat (first | exact (Kd.R_reads' HO909.out).2.2 | (with_reducible refine Kd.C_alloc ?_ _) | (with_reducible refine Kd.C_drewN ?_ _) | (with_reducible refine Kd.C_drew ?_))); (case side4 => exact (Kd.R_reads' HO909.out).2.1); rintro e w45 ⟨rfl, hb⟩; refine ⟨_, rfl, ?_⟩; have n0_ := Aside0.mk (Kd.R_below (viaR HO906.out) hb); have n1_ := Aside0.mk (Kd.R_below (viaR HO909.out) hb); have n2_ := Aside0.mk (blk_below (g := gb910) (o := .cells #[.int .i64 t903, .slice Ao41 t904.length co41] 30 (0, 0)) (viaB BK910.out) hb); have n3_ := Aside0.mk (below_step (viaX HB.out GE910.out) hb); clear HO906; clear HO909; clear BK910; clear HB; have HO906 := n0_; have HO909 := n1_; have BK910 := n2_; have HB := n3_; clear n0_ n1_ n2_ n3_; (try clear hb); (try clear hb2); (try clear hk); (try clear hi)))
      go_ret
      exact ⟨by first | rfl | (simp [errW_none, errW_some] <;> rfl) | (simp [*, errW_none, errW_some] <;> rfl), viaX HB.out GE910.out⟩
     ·exact absurd (by simpa using c6b0) c37
   ·rw [if_neg c24] at H
    have c24b0 : (t911 == t913) = false := beq_eq_false_iff_ne.mpr c24; have c24b1 : (t911 != t913) = true := bne_iff_ne.mpr c24
    by_cases c54 : (t912 == t914) = true
    ·rw [if_pos c54] at H
     have c54b0 : (t912 == t914) = true := c54
     (try (have c54b1 : decide (t912 = t914) = true := by simpa using c54))
     (try (have c54b2 : (t912 == t914) = true := by simpa using c54))
     clear c54; obtain rfl := Option.some.inj H
     go_enter Try.func15, Try.ntmps15
     go_wp2_with (first | ((with_reducible refine gate_callee (f := 53) rfl ?_); refine goesL_ (some 14) rfl rfl Try.func53 (by kernel_rfl) rfl #[.slice A0 l0.length c0] rfl (by (try simp only [List.map_toArray, List.map_cons, List.map_nil]); first | done | rfl | (simp only [List.length_drop, List.length_take]; rfl)) ?_; (with_reducible refine (spec_DrawScoreFirst.calls k _ _ l0 t903 t904 t907 _ ?side1 ?side2 A3.out).mono ?_); (case side1 => repeat (first | exact HR0.out | (with_reducible refine Kd.C_alloc ?_ _) | (with_reducible refine Kd.C_drewN ?_ _) | (with_reducible refine Kd.C_drew ?_))); (case side2 => exact HC0.out); rintro e w55 ⟨v905, v908, rfl, ho0, ho1, hb⟩; refine ⟨_, rfl, ?_⟩; have n0_ := Aside0.mk (Kd.R_lower ho0 (below_size (viaW HB.out))); have n1_ := Aside0.mk (Kd.R_lower ho1 (below_size (viaW HB.out))); have n2_ := Aside0.mk (below_step (viaW HB.out) hb); clear HB; have HO906 := n0_; have HO909 := n1_; have HB := n2_; clear n0_ n1_ n2_; (try clear hb); (try clear hb2); (try clear hk); (try clear hi); (try clear ho0); (try clear ho1)) | ((with_reducible refine gate_dst (N := 3) rfl ?_); refine box_event ?hg (N := 3) ?hd (cs := #[.int .i64 0, .slice none 0 0]) (t := 30) ?hr ?_; (case hd => rfl); (case hg => rfl); (case hr => first | (go_simp; done) | (go_simp; rfl)); intro gb910 hg w56 hbox hb; have n0_ := Aside0.mk (Kd.R_below (viaR HO906.out) hb); have n1_ := Aside0.mk (Kd.R_below (viaR HO909.out) hb); have n2_ := Aside0.mk (below_step (viaW HB.out) hb); have n3_ := Aside0.mk (hbox); have n4_ := Aside0.mk ((by rw [hg]; exact (below_size (viaW HB.out)) : w.heap.size ≤ gb910)); have n5_ := Aside0.mk ((by rw [hg]; exact (below_size (viaW HB.out)) : w.heap.size ≤ gb910)); clear HO906; clear HO909; clear HB; have HO906 := n0_; have HO909 := n1_; have HB := n2_; have BK910 := n3_; have GW910 := n4_; have GE910 := n5_; clear n0_ n1_ n2_ n3_ n4_ n5_; clear hb hbox hg; have hcz57_0 : w56.cell? ⟨gb910, 0, none⟩ = some (.int .i64 0) := (blk_cell BK910.out 0).trans rfl; have hcz57_1 : w56.cell? ⟨gb910, 1, none⟩ = some (.slice none 0 0) := (blk_cell BK910.out 1).trans rfl; have hfz57_0 := blk_frozen BK910.out 0; have hfz57_1 := blk_frozen BK910.out 1; obtain ⟨Ao58, co58, eo58⟩ := Kd.R_slice HO906.out; subst eo58; obtain ⟨Ao59, co59, eo59⟩ := Kd.R_slice HO909.out; subst eo59) | ((with_reducible refine gate_callee (f := 54) rfl ?_); refine goesL_ (some 20) rfl rfl Try.func54 (by kernel_rfl) rfl #[.agg #[.int .i64 t903, .slice Ao58 t904.length co58], .slice Ao59 t907.length co59] rfl (by (try simp only [List.map_toArray, List.map_cons, List.map_nil]); first | done | rfl | (simp only [List.length_drop, List.length_take]; rfl)) ?_; (with_reducible refine (impl_ScoreFirst.calls k t903 _ _ t904 _ _ t907 t911 t912 _ ?side1 ?side2 ?side3 ?side4 A4.out).mono ?_); (case side1 => refine (Kd.R_reads' (e := 44) (base := w.heap.size) (ok := fun k_ => True) (n := t904.length) (c := co58) ?_).2.2; exact (by (with_reducible repeat (first | apply Kd.R_alloc | apply Kd.R_drewN | apply Kd.R_drew)); exact (Kd.R_mono (Kd.R_far (p := ⟨gb910, 1, none⟩) (Kd.R_far (p := ⟨gb910, 0, none⟩) (Kd.R_types HO906.out BK910.out (by decide)) (fun _ hk => hk.2) (.int .i64 t903)) (fun _ hk => hk.2) (.slice Ao58 t904.length co58)) (fun _ h_ => h_.1)))); (case side2 => exact (Kd.R_reads' HO906.out).2.1); (case side3 => refine (Kd.R_reads' (e := 3) (base := w.heap.size) (ok := fun k_ => True) (n := t907.length) (c := co59) ?_).2.2; exact (by (with_reducible repeat (first | apply Kd.R_alloc | apply Kd.R_drewN | apply Kd.R_drew)); exact (Kd.R_mono (Kd.R_far (p := ⟨gb910, 1, none⟩) (Kd.R_far (p := ⟨gb910, 0, none⟩) (Kd.R_types HO909.out BK910.out (by decide)) (fun _ hk => hk.2) (.int .i64 t903)) (fun _ hk => hk.2) (.slice Ao58 t904.length co58)) (fun _ h_ => h_.1)))); (case side4 => exact (Kd.R_reads' HO909.out).2.1); rintro e w60 ⟨rfl, hb⟩; refine ⟨_, rfl, ?_⟩; have n0_ := Aside0.mk (Kd.R_below (by (with_reducible repeat (first | apply Kd.R_alloc | apply Kd.R_drewN | apply Kd.R_drew)); exact (Kd.R_mono (Kd.R_far (p := ⟨gb910, 1, none⟩) (Kd.R_far (p := ⟨gb910, 0, none⟩) (Kd.R_types HO906.out BK910.out (by decide)) (fun _ hk => hk.2) (.int .i64 t903)) (fun _ hk => hk.2) (.slice Ao58 t904.length co58)) (fun _ h_ => h_.1))) hb); have n1_ := Aside0.mk (Kd.R_below (by (with_reducible repeat (first | apply Kd.R_alloc | apply Kd.R_drewN | apply Kd.R_drew)); exact (Kd.R_mono (Kd.R_far (p := ⟨gb910, 1, none⟩) (Kd.R_far (p := ⟨gb910, 0, none⟩) (Kd.R_types HO909.out BK910.out (by decide)) (fun _ hk => hk.2) (.int .i64 t903)) (fun _ hk => hk.2) (.slice Ao58 t904.length co58)) (fun _ h_ => h_.1))) hb); have n2_ := Aside0.mk (blk_below (g := gb910) (o := .cells #[.int .i64 t903, .slice Ao58 t904.length co58] 30 (0, 0)) (by (with_reducible repeat (first | refine blk_drewN ?_ _ | refine blk_drew ?_ | refine blk_alloc ?_ _)); refine blk_put (cs := #[.int .i64 t903, .slice none 0 0]) ?_ 1 _ rfl; (with_reducible repeat (first | refine blk_drewN ?_ _ | refine blk_drew ?_ | refine blk_alloc ?_ _)); refine blk_put (cs := #[.int .i64 0, .slice none 0 0]) ?_ 0 _ rfl; (with_reducible repeat (first | refine blk_drewN ?_ _ | refine blk_drew ?_ | refine blk_alloc ?_ _)); exact BK910.out) hb); have n3_ := Aside0.mk (below_step (viaX HB.out GE910.out) hb); clear HO906; clear HO909; clear BK910; clear HB; have HO906 := n0_; have HO909 := n1_; have BK910 := n2_; have HB := n3_; clear n0_ n1_ n2_ n3_; (try clear hb); (try clear hb2); (try clear hk); (try clear hi); have hcz61_0 : w60.cell? ⟨gb910, 0, none⟩ = some (.int .i64 t903) := (blk_cell BK910.out 0).trans rfl; have hcz61_1 : w60.cell? ⟨gb910, 1, none⟩ = some (.slice Ao58 t904.length co58) := (blk_cell BK910.out 1).trans rfl; have hfz61_0 := blk_frozen BK910.out 0; have hfz61_1 := blk_frozen BK910.out 1) | ((with_reducible refine gate_callee (f := 55) rfl ?_); refine goesL_ (some 26) rfl rfl Try.func55 (by kernel_rfl) rfl #[.agg #[.int .i64 t903, .slice Ao58 t904.length co58], .slice Ao59 t907.length co59] rfl (by (try simp only [List.map_toArray, List.map_cons, List.map_nil]); first | done | rfl | (simp only [List.length_drop, List.length_take]; rfl)) ?_; (with_reducible refine (spec_ScoreFirst.calls k t903 _ _ t904 _ _ t907 t913 t914 _ ?side1 ?side2 ?side3 ?side4 A5.out).mono ?_); (case side1 => repeat (first | exact (Kd.R_reads' HO906.out).2.2 | (with_reducible refine Kd.C_alloc ?_ _) | (with_reducible refine Kd.C_drewN ?_ _) | (with_reducible refine Kd.C_drew ?_))); (case side2 => exact (Kd.R_reads' HO906.out).2.1); (case side3 => repeat (first | exact (Kd.R_reads' HO909.out).2.2 | (with_reducible refine Kd.C_alloc ?_ _) | (with_reducible refine Kd.C_drewN ?_ _) | (with_reducible refine Kd.C_drew ?_))); (case side4 => exact (Kd.R_reads' HO909.out).2.1); rintro e w62 ⟨rfl, hb⟩; refine ⟨_, rfl, ?_⟩; have n0_ := Aside0.mk (Kd.R_below (viaR HO906.out) hb); have n1_ := Aside0.mk (Kd.R_below (viaR HO909.out) hb); have n2_ := Aside0.mk (blk_below (g := gb910) (o := .cells #[.int .i64 t903, .slice Ao58 t904.length co58] 30 (0, 0)) (viaB BK910.out) hb); have n3_ := Aside0.mk (below_step (viaX HB.out GE910.out) hb); clear HO906; clear HO909; clear BK910; clear HB; have HO906 := n0_; have HO909 := n1_; have BK910 := n2_; have HB := n3_; clear n0_ n1_ n2_ n3_; (try clear hb); (try clear hb2); (try clear hk); (try clear hi)))
     go_ret
     exact ⟨by first | rfl | (simp [errW_none, errW_some] <;> rfl) | (simp [*, errW_none, errW_some] <;> rfl), viaX HB.out GE910.out⟩
    ·exact absurd (by simpa using c6b0) c54

/-- THE ONE PURE STATEMENT of laws_FnScoreFirst: yours. -/
def laws_FnScoreFirst.Pure : Prop := ∀ (l0 : List Int), l0.length ≤ maxLen → l0.length * 1 ≤ 140737488351232 → (∀ x ∈ l0, (Lit.int .u8 x).wf = true) → ∃ k, laws_FnScoreFirst.f k l0 = some true
theorem laws_FnScoreFirst.walk (P : laws_FnScoreFirst.Pure) (a0 : Option Addr) (len0 cap0 : Nat) (z0 : List Int) (w : World) (w0 : (a0 = none ∧ len0 = 0 ∧ cap0 = 0 ∧ z0 = []) ∨ ∃ x, a0 = some x ∧ len0 ≤ cap0 ∧ cap0 ≤ maxLen ∧ z0.length = cap0 ∧ (∀ i, i < z0.length → w.cell? (x.add i) = some (.int .u8 (z0.getD i 0))) ∧ ∀ n ∈ z0, (Lit.int .u8 n).wf = true) (y0 : len0 * 1 ≤ 140737488351232) :
  Calls Try.prog 15 #[.slice a0 len0 cap0] w fun e w' => e = .returned (.bool true) ∧ Below w.heap.size w w' := by
 obtain ⟨l0, rfl, hr0, hm0, hw0, hc0⟩ := ReadsInt.ofRowC w0; obtain ⟨k, h⟩ := P l0 hm0 y0 hw0
 refine (laws_FnScoreFirst.calls k _ _ l0 true w (Kd.C_of_reads (d := (0 : Int)) (h1 := fun _ => rfl) hr0) hc0 h).mono ?_
 rintro e w' ⟨rfl, hd⟩
 exact ⟨rfl, hd⟩

end Go.Proofs.Ytfijegfjpagjoaa.G
