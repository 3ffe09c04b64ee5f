/- For each Go function named below: a plain Lean function of the same name, and the proof that a call of the Go function returns just what the plain function tells, where it tells something. Written by a program of this session with the printer of the kit. -/
import Derived.Test.YtfijegfjpagjoaaG0
import Derived.Test.YtfijegfjpagjoaaG13
import Derived.Test.YtfijegfjpagjoaaG20
import Derived.Test.YtfijegfjpagjoaaG22
import Derived.Test.YtfijegfjpagjoaaG23
namespace Go.Proofs.Ytfijegfjpagjoaa.G
open Go.RowKit Go.Proofs.YtfijegfjpagjoaaW.PrintWords Go.Proofs.YtfijegfjpagjoaaW.PrintLast Go.Proofs.YtfijegfjpagjoaaW.PrintMore
attribute [local go_sem] max2_int min2_int max_two min_two max_three min_three max_four min_four   -- for this text's walks alone
set_option linter.unusedVariables false
set_option linter.unusedSimpArgs false

/-! ### spec_DrawPathFirst: function 27 -/
def spec_DrawPathFirst.f (k : Nat) (l0 : List Int) : Option (Int × (List (S44)) × Int) := (spec_l91One.f k l0).bind fun bt343 => (some (bt343.1, bt343.2.1, bt343.2.2))
theorem spec_DrawPathFirst.mono : ∀ a0 k, LeO (spec_DrawPathFirst.f k a0) (spec_DrawPathFirst.f (k + 1) a0) := by
 intro a0 k
 unfold spec_DrawPathFirst.f
 repeat' first
   | (with_reducible exact spec_l91One.mono _ _)
   | (with_reducible exact LeO.refl _)
   | (with_reducible exact LeO.none _)
   | (with_reducible refine LeO.ite ?_ ?_)
   | (with_reducible refine LeO.bind ?_ (fun _ => ?_))
   | exact spec_l91One.mono _ _
   | exact LeO.none _
   | refine LeO.ite ?_ ?_
   | refine LeO.bind ?_ (fun _ => ?_)
set_option maxHeartbeats 8000000 in
set_option maxRecDepth 100000 in
theorem spec_DrawPathFirst.calls (k : Nat) (A0 : Option Addr) (c0 : Nat) (l0 : List Int) (r1 : Int) (r2 : List (S44)) (r3 : Int) (w : World) (hr0 : Kd.C (Kd.int .u8) w A0 l0.length l0) (hc0 : l0.length ≤ c0) (h : spec_DrawPathFirst.f k l0 = some (r1, r2, r3)) :
  Calls Try.prog 27 #[.slice A0 l0.length c0] w fun e w' => ∃ v1_ : Value, e = .returned (.tuple #[.agg #[.int .i64 r1, v1_], .int .i64 r3]) ∧ Kd.R k44 44 w' w.heap.size (fun _ => True) v1_ r2 ∧ Below w.heap.size w w' := by
 have hu30 := Try.underlying30; have HR0 := Aside0.mk hr0; have HC0 := Aside0.mk hc0; clear hr0 hc0; have HB := Aside0.mk (Below.refl w.heap.size w); have H : ((spec_l91One.f k l0).bind fun bt343 => (some (bt343.1, bt343.2.1, bt343.2.2))) = some (r1, r2, r3) := h; clear h; replace H := Option.bind_eq_some_iff.mp H; obtain ⟨⟨t343, t344, t347⟩, A20, H⟩ := H; replace H : (some (t343, t344, t347)) = some (r1, r2, r3) := H; have A2 := Aside0.mk A20; clear A20
 simp only [Option.some.injEq, Prod.mk.injEq] at H
 obtain ⟨rfl, rfl, rfl⟩ := H
 go_enter Try.func27, Try.ntmps27
 go_wp2_with (first | ((with_reducible refine gate_dst (N := 2) rfl ?_); refine box_event ?hg (N := 2) ?hd (cs := #[.int .i64 0, .slice none 0 0]) (t := 30) ?hr ?_; (case hd => rfl); (case hg => rfl); (case hr => first | (go_simp; done) | (go_simp; rfl)); intro gb342 hg w3 hbox hb; have n0_ := Aside0.mk (below_step (viaW HB.out) hb); have n1_ := Aside0.mk (hbox); have n2_ := Aside0.mk ((by rw [hg]; exact (below_size (viaW HB.out)) : w.heap.size ≤ gb342)); have n3_ := Aside0.mk ((by rw [hg]; exact (below_size (viaW HB.out)) : w.heap.size ≤ gb342)); clear HB; have HB := n0_; have BK342 := n1_; have GW342 := n2_; have GE342 := n3_; clear n0_ n1_ n2_ n3_; clear hb hbox hg) | ((with_reducible refine gate_callee (f := 77) rfl ?_); refine goesL_ (some 5) rfl rfl Try.func77 (by kernel_rfl) rfl #[.slice A0 l0.length c0] rfl (by (try simp only [List.map_toArray, List.map_cons, List.map_nil]); first | done | rfl | (simp only [List.length_drop, List.length_take]; rfl)) ?_; (with_reducible refine (spec_l91One.calls k _ _ l0 t343 t344 t347 _ ?side1 ?side2 A2.out).mono ?_); (case side1 => repeat (first | exact (Kd.C_below HR0.out HB.out) | (with_reducible refine Kd.C_alloc ?_ _) | (with_reducible refine Kd.C_drewN ?_ _) | (with_reducible refine Kd.C_drew ?_))); (case side2 => exact HC0.out); rintro e w4 ⟨v345, rfl, ho0, hb⟩; refine ⟨_, rfl, ?_⟩; have n0_ := Aside0.mk (Kd.R_lower ho0 (below_size (viaX HB.out GE342.out))); have n1_ := Aside0.mk (blk_below (g := gb342) (o := .cells #[.int .i64 0, .slice none 0 0] 30 (0, 0)) (viaB BK342.out) hb); have n2_ := Aside0.mk (below_step (viaX HB.out GE342.out) hb); clear BK342; clear HB; have HO346 := n0_; have BK342 := n1_; have HB := n2_; clear n0_ n1_ n2_; (try clear hb); (try clear hb2); (try clear hk); (try clear hi); (try clear ho0); have hcz5_0 : w4.cell? ⟨gb342, 0, none⟩ = some (.int .i64 0) := (blk_cell BK342.out 0).trans rfl; have hcz5_1 : w4.cell? ⟨gb342, 1, none⟩ = some (.slice none 0 0) := (blk_cell BK342.out 1).trans rfl; have hfz5_0 := blk_frozen BK342.out 0; have hfz5_1 := blk_frozen BK342.out 1; obtain ⟨Ao6, co6, eo6⟩ := Kd.R_slice HO346.out; subst eo6))
 refine bodyPost_ret (results_ct rfl _ _ gb342 30 #[.int .i64 t343, .slice Ao6 t344.length co6] (0, 0) _ rfl (by (with_reducible repeat (first | refine blk_drewN ?_ _ | refine blk_drew ?_ | refine blk_alloc ?_ _)); refine blk_put (cs := #[.int .i64 t343, .slice none 0 0]) ?_ 1 _ rfl; (with_reducible repeat (first | refine blk_drewN ?_ _ | refine blk_drew ?_ | refine blk_alloc ?_ _)); refine blk_put (cs := #[.int .i64 0, .slice none 0 0]) ?_ 0 _ rfl; (with_reducible repeat (first | refine blk_drewN ?_ _ | refine blk_drew ?_ | refine blk_alloc ?_ _)); exact BK342.out) Try.underlying30 rfl (by kernel_rfl)) rfl ?_
 exact ⟨_, by first | rfl | (simp [errW_none, errW_some] <;> rfl) | (simp [*, errW_none, errW_some] <;> rfl), by (with_reducible repeat (first | apply Kd.R_alloc | apply Kd.R_drewN | apply Kd.R_drew)); exact Kd.R_mono (Kd.R_far (p := ⟨gb342, 1, none⟩) (Kd.R_far (p := ⟨gb342, 0, none⟩) (Kd.R_types HO346.out BK342.out (by decide)) (fun _ hk => hk.2) (.int .i64 t343)) (fun _ hk => hk.2) (.slice Ao6 t344.length co6)) (fun _ hk => trivial), viaX HB.out GE342.out⟩

/-! ### laws_FnFirst: function 6 -/
mutual
def laws_FnFirst.j0 : Nat → Int → List Int → Bool → List Int → Bool → Bool → Int → List (S44) → Option (Bool)
 | 0, _, _, _, _, _, _, _, _ => none
 | k + 1, x4, x5, x6, x7, x8, x49, x369000, x369001 => if x49 = true then (if (x6 == x8) = true then ((laws_sameInts.f k x5 x7).bind fun t378 => (some t378)) else (some false)) else ((impl_PathLongest.f k x369000 x369001 x4).bind fun bt379 => (laws_FnFirst.l0 k x4 x5 bt379.1 bt379.2 0 0 x369000 x369001))
def laws_FnFirst.l0 : Nat → Int → List Int → Int → Bool → Int → Int → Int → List (S44) → Option (Bool)
 | 0, _, _, _, _, _, _, _, _ => none
 | k + 1, x4, x5, x9, x10, x11, x12, x369000, x369001 => if x12 < (x5.length : Int) then (if 0 ≤ x12 then (if 0 ≤ (rd x5 x12) then (if (Go.bits .and .i64 (shr .i64 x11 (rd x5 x12)) 1) = 1 then (some false) else (laws_FnFirst.l1 k x4 x5 x9 x10 (Go.bits .or .i64 x11 (shl .i64 1 (rd x5 x12))) x12 (x12 == 0) 0 x369000 x369001)) else (none)) else (none)) else (if x10 = true then (some ((x5.length : Int) == x9)) else (some false))
def laws_FnFirst.l1 : Nat → Int → List Int → Int → Bool → Int → Int → Bool → Int → Int → List (S44) → Option (Bool)
 | 0, _, _, _, _, _, _, _, _, _, _ => none
 | k + 1, x4, x5, x9, x10, x11, x12, x13, x14, x369000, x369001 => if x14 < (x369001.length : Int) then (if 0 ≤ x14 then (if (Go.bits .and .i64 (shr .i64 x4 x14) 1) = 1 then (if x13 = true then (laws_FnFirst.l1 k x4 x5 x9 x10 x11 x12 true (wrap64 (x14 + 1)) x369000 x369001) else (if 0 ≤ (wrap64 (x12 - 1)) then (if (wrap64 (x12 - 1)) < (x5.length : Int) then (if ((rd_T44 x369001 x14).f1) = (rd x5 (wrap64 (x12 - 1))) then (if 0 ≤ x12 then (if x12 < (x5.length : Int) then (laws_FnFirst.l1 k x4 x5 x9 x10 x11 x12 (((rd_T44 x369001 x14).f0) == (rd x5 x12)) (wrap64 (x14 + 1)) x369000 x369001) else (none)) else (none)) else (laws_FnFirst.l1 k x4 x5 x9 x10 x11 x12 false (wrap64 (x14 + 1)) x369000 x369001)) else (none)) else (none))) else (if x13 = true then (laws_FnFirst.l1 k x4 x5 x9 x10 x11 x12 true (wrap64 (x14 + 1)) x369000 x369001) else (if 0 ≤ (wrap64 (x12 - 1)) then (if (wrap64 (x12 - 1)) < (x5.length : Int) then (if ((rd_T44 x369001 x14).f0) = (rd x5 (wrap64 (x12 - 1))) then (if 0 ≤ x12 then (if x12 < (x5.length : Int) then (laws_FnFirst.l1 k x4 x5 x9 x10 x11 x12 (((rd_T44 x369001 x14).f1) == (rd x5 x12)) (wrap64 (x14 + 1)) x369000 x369001) else (none)) else (none)) else (laws_FnFirst.l1 k x4 x5 x9 x10 x11 x12 false (wrap64 (x14 + 1)) x369000 x369001)) else (none)) else (none)))) else (none)) else (if x13 = true then (laws_FnFirst.l0 k x4 x5 x9 x10 x11 (wrap64 (x12 + 1)) x369000 x369001) else (some false))
end
def laws_FnFirst.f (k : Nat) (l0 : List Int) : Option (Bool) := if (l0.length : Int) > 1048576 then (some true) else ((spec_DrawPathFirst.f k l0).bind fun bt363 => ((impl_PathFirst.f k bt363.1 bt363.2.1 bt363.2.2).bind fun bt369 => ((spec_PathFirst.f k bt363.1 bt363.2.1 bt363.2.2).bind fun bt373 => (if (bt369.2 != bt373.2) = true then (laws_FnFirst.j0 k bt363.2.2 bt369.1 bt369.2 bt373.1 bt373.2 true bt363.1 bt363.2.1) else ((laws_sameInts.f k bt369.1 bt373.1).bind fun t377 => (if t377 = true then (laws_FnFirst.j0 k bt363.2.2 bt369.1 bt369.2 bt373.1 bt373.2 (!bt369.2) bt363.1 bt363.2.1) else (laws_FnFirst.j0 k bt363.2.2 bt369.1 bt369.2 bt373.1 bt373.2 true bt363.1 bt363.2.1)))))))
theorem laws_FnFirst.mono_l : ∀ k, (∀ y0 y1 y2 y3 y4 y5 y6 y7, LeO (laws_FnFirst.j0 k y0 y1 y2 y3 y4 y5 y6 y7) (laws_FnFirst.j0 (k + 1) y0 y1 y2 y3 y4 y5 y6 y7)) ∧ (∀ y0 y1 y2 y3 y4 y5 y6 y7, LeO (laws_FnFirst.l0 k y0 y1 y2 y3 y4 y5 y6 y7) (laws_FnFirst.l0 (k + 1) y0 y1 y2 y3 y4 y5 y6 y7)) ∧ (∀ y0 y1 y2 y3 y4 y5 y6 y7 y8 y9, LeO (laws_FnFirst.l1 k y0 y1 y2 y3 y4 y5 y6 y7 y8 y9) (laws_FnFirst.l1 (k + 1) y0 y1 y2 y3 y4 y5 y6 y7 y8 y9))
 | 0 => ⟨fun _ _ _ _ _ _ _ _ r h => by simp [laws_FnFirst.j0] at h, fun _ _ _ _ _ _ _ _ r h => by simp [laws_FnFirst.l0] at h, fun _ _ _ _ _ _ _ _ _ _ r h => by simp [laws_FnFirst.l1] at h⟩
 | k + 1 => by
  obtain ⟨ih0, ih1, ih2⟩ := laws_FnFirst.mono_l k
  refine ⟨?_, ?_, ?_⟩
  ·intro y0 y1 y2 y3 y4 y5 y6 y7
   unfold laws_FnFirst.j0
   repeat' first
   | (with_reducible exact ih0 _ _ _ _ _ _ _ _)
   | (with_reducible exact ih1 _ _ _ _ _ _ _ _)
   | (with_reducible exact ih2 _ _ _ _ _ _ _ _ _ _)
   | (with_reducible exact impl_PathFirst.mono _ _ _ _)
   | (with_reducible exact impl_PathLongest.mono _ _ _ _)
   | (with_reducible exact laws_sameInts.mono _ _ _)
   | (with_reducible exact spec_DrawPathFirst.mono _ _)
   | (with_reducible exact spec_PathFirst.mono _ _ _ _)
   | (with_reducible exact LeO.refl _)
   | (with_reducible exact LeO.none _)
   | (with_reducible refine LeO.ite ?_ ?_)
   | (with_reducible refine LeO.bind ?_ (fun _ => ?_))
   | exact ih0 _ _ _ _ _ _ _ _
   | exact ih1 _ _ _ _ _ _ _ _
   | exact ih2 _ _ _ _ _ _ _ _ _ _
   | exact impl_PathFirst.mono _ _ _ _
   | exact impl_PathLongest.mono _ _ _ _
   | exact laws_sameInts.mono _ _ _
   | exact spec_DrawPathFirst.mono _ _
   | exact spec_PathFirst.mono _ _ _ _
   | exact LeO.none _
   | refine LeO.ite ?_ ?_
   | refine LeO.bind ?_ (fun _ => ?_)
  ·intro y0 y1 y2 y3 y4 y5 y6 y7
   unfold laws_FnFirst.l0
   repeat' first
   | (with_reducible exact ih0 _ _ _ _ _ _ _ _)
   | (with_reducible exact ih1 _ _ _ _ _ _ _ _)
   | (with_reducible exact ih2 _ _ _ _ _ _ _ _ _ _)
   | (with_reducible exact impl_PathFirst.mono _ _ _ _)
   | (with_reducible exact impl_PathLongest.mono _ _ _ _)
   | (with_reducible exact laws_sameInts.mono _ _ _)
   | (with_reducible exact spec_DrawPathFirst.mono _ _)
   | (with_reducible exact spec_PathFirst.mono _ _ _ _)
   | (with_reducible exact LeO.refl _)
   | (with_reducible exact LeO.none _)
   | (with_reducible refine LeO.ite ?_ ?_)
   | (with_reducible refine LeO.bind ?_ (fun _ => ?_))
   | exact ih0 _ _ _ _ _ _ _ _
   | exact ih1 _ _ _ _ _ _ _ _
   | exact ih2 _ _ _ _ _ _ _ _ _ _
   | exact impl_PathFirst.mono _ _ _ _
   | exact impl_PathLongest.mono _ _ _ _
   | exact laws_sameInts.mono _ _ _
   | exact spec_DrawPathFirst.mono _ _
   | exact spec_PathFirst.mono _ _ _ _
   | exact LeO.none _
   | refine LeO.ite ?_ ?_
   | refine LeO.bind ?_ (fun _ => ?_)
  ·intro y0 y1 y2 y3 y4 y5 y6 y7 y8 y9
   unfold laws_FnFirst.l1
   repeat' first
   | (with_reducible exact ih0 _ _ _ _ _ _ _ _)
   | (with_reducible exact ih1 _ _ _ _ _ _ _ _)
   | (with_reducible exact ih2 _ _ _ _ _ _ _ _ _ _)
   | (with_reducible exact impl_PathFirst.mono _ _ _ _)
   | (with_reducible exact impl_PathLongest.mono _ _ _ _)
   | (with_reducible exact laws_sameInts.mono _ _ _)
   | (with_reducible exact spec_DrawPathFirst.mono _ _)
   | (with_reducible exact spec_PathFirst.mono _ _ _ _)
   | (with_reducible exact LeO.refl _)
   | (with_reducible exact LeO.none _)
   | (with_reducible refine LeO.ite ?_ ?_)
   | (with_reducible refine LeO.bind ?_ (fun _ => ?_))
   | exact ih0 _ _ _ _ _ _ _ _
   | exact ih1 _ _ _ _ _ _ _ _
   | exact ih2 _ _ _ _ _ _ _ _ _ _
   | exact impl_PathFirst.mono _ _ _ _
   | exact impl_PathLongest.mono _ _ _ _
   | exact laws_sameInts.mono _ _ _
   | exact spec_DrawPathFirst.mono _ _
   | exact spec_PathFirst.mono _ _ _ _
   | exact LeO.none _
   | refine LeO.ite ?_ ?_
   | refine LeO.bind ?_ (fun _ => ?_)
theorem laws_FnFirst.mono : ∀ a0 k, LeO (laws_FnFirst.f k a0) (laws_FnFirst.f (k + 1) a0) := by
 intro a0 k; obtain ⟨ih0, ih1, ih2⟩ := laws_FnFirst.mono_l k
 unfold laws_FnFirst.f
 repeat' first
   | (with_reducible exact ih0 _ _ _ _ _ _ _ _)
   | (with_reducible exact ih1 _ _ _ _ _ _ _ _)
   | (with_reducible exact ih2 _ _ _ _ _ _ _ _ _ _)
   | (with_reducible exact impl_PathFirst.mono _ _ _ _)
   | (with_reducible exact impl_PathLongest.mono _ _ _ _)
   | (with_reducible exact laws_sameInts.mono _ _ _)
   | (with_reducible exact spec_DrawPathFirst.mono _ _)
   | (with_reducible exact spec_PathFirst.mono _ _ _ _)
   | (with_reducible exact LeO.refl _)
   | (with_reducible exact LeO.none _)
   | (with_reducible refine LeO.ite ?_ ?_)
   | (with_reducible refine LeO.bind ?_ (fun _ => ?_))
   | exact ih0 _ _ _ _ _ _ _ _
   | exact ih1 _ _ _ _ _ _ _ _
   | exact ih2 _ _ _ _ _ _ _ _ _ _
   | exact impl_PathFirst.mono _ _ _ _
   | exact impl_PathLongest.mono _ _ _ _
   | exact laws_sameInts.mono _ _ _
   | exact spec_DrawPathFirst.mono _ _
   | exact spec_PathFirst.mono _ _ _ _
   | exact LeO.none _
   | refine LeO.ite ?_ ?_
   | refine LeO.bind ?_ (fun _ => ?_)
set_option maxHeartbeats 8000000 in
set_option maxRecDepth 100000 in
theorem laws_FnFirst.calls (k : Nat) (A0 : Option Addr) (c0 : Nat) (l0 : List Int) (r : Bool) (w : World) (hr0 : Kd.C (Kd.int .u8) w A0 l0.length l0) (hc0 : l0.length ≤ c0) (h : laws_FnFirst.f k l0 = some r) :
  Calls Try.prog 6 #[.slice A0 l0.length c0] w fun e w' => e = .returned (.bool r) ∧ Below w.heap.size w w' := by
 have hu30 := Try.underlying30; have HR0 := Aside0.mk hr0; have HC0 := Aside0.mk hc0; clear hr0 hc0; have HB := Aside0.mk (Below.refl w.heap.size w); have H : (if (l0.length : Int) > 1048576 then (some true) else ((spec_DrawPathFirst.f k l0).bind fun bt363 => ((impl_PathFirst.f k bt363.1 bt363.2.1 bt363.2.2).bind fun bt369 => ((spec_PathFirst.f k bt363.1 bt363.2.1 bt363.2.2).bind fun bt373 => (if (bt369.2 != bt373.2) = true then (laws_FnFirst.j0 k bt363.2.2 bt369.1 bt369.2 bt373.1 bt373.2 true bt363.1 bt363.2.1) else ((laws_sameInts.f k bt369.1 bt373.1).bind fun t377 => (if t377 = true then (laws_FnFirst.j0 k bt363.2.2 bt369.1 bt369.2 bt373.1 bt373.2 (!bt369.2) bt363.1 bt363.2.1) else (laws_FnFirst.j0 k bt363.2.2 bt369.1 bt369.2 bt373.1 bt373.2 true bt363.1 bt363.2.1)))))))) = some r := h; clear h
 by_cases c2 : (l0.length : Int) > 1048576
 ·rw [if_pos c2] at H
  have c2b0 : decide (1048576 < (l0.length : Int)) = true := decide_eq_true c2; have c2b1 : decide (1048576 < l0.length) = true := decide_eq_true (by omega); clear c2; obtain rfl := Option.some.inj H
  go_enter Try.func6, Try.ntmps6
  go_wp2
  go_ret
  exact ⟨by first | rfl | (simp [errW_none, errW_some] <;> rfl) | (simp [*, errW_none, errW_some] <;> rfl), viaW HB.out⟩
 ·rw [if_neg c2] at H
  have c2b0 : decide (1048576 < (l0.length : Int)) = false := decide_eq_false c2; have c2b1 : decide (1048576 < l0.length) = false := decide_eq_false (by omega); clear c2; replace H := Option.bind_eq_some_iff.mp H; obtain ⟨⟨t363, t364, t367⟩, A30, H⟩ := H; replace H : ((impl_PathFirst.f k t363 t364 t367).bind fun bt369 => ((spec_PathFirst.f k t363 t364 t367).bind fun bt373 => (if (bt369.2 != bt373.2) = true then (laws_FnFirst.j0 k t367 bt369.1 bt369.2 bt373.1 bt373.2 true t363 t364) else ((laws_sameInts.f k bt369.1 bt373.1).bind fun t377 => (if t377 = true then (laws_FnFirst.j0 k t367 bt369.1 bt369.2 bt373.1 bt373.2 (!bt369.2) t363 t364) else (laws_FnFirst.j0 k t367 bt369.1 bt369.2 bt373.1 bt373.2 true t363 t364)))))) = some r := H; have A3 := Aside0.mk A30; clear A30; replace H := Option.bind_eq_some_iff.mp H; obtain ⟨⟨t369, t372⟩, A40, H⟩ := H; replace H : ((spec_PathFirst.f k t363 t364 t367).bind fun bt373 => (if (t372 != bt373.2) = true then (laws_FnFirst.j0 k t367 t369 t372 bt373.1 bt373.2 true t363 t364) else ((laws_sameInts.f k t369 bt373.1).bind fun t377 => (if t377 = true then (laws_FnFirst.j0 k t367 t369 t372 bt373.1 bt373.2 (!t372) t363 t364) else (laws_FnFirst.j0 k t367 t369 t372 bt373.1 bt373.2 true t363 t364))))) = some r := H; have A4 := Aside0.mk A40; clear A40; replace H := Option.bind_eq_some_iff.mp H; obtain ⟨⟨t373, t376⟩, A50, H⟩ := H; replace H : (if (t372 != t376) = true then (laws_FnFirst.j0 k t367 t369 t372 t373 t376 true t363 t364) else ((laws_sameInts.f k t369 t373).bind fun t377 => (if t377 = true then (laws_FnFirst.j0 k t367 t369 t372 t373 t376 (!t372) t363 t364) else (laws_FnFirst.j0 k t367 t369 t372 t373 t376 true t363 t364)))) = some r := H; have A5 := Aside0.mk A50; clear A50; have HC6 := Aside0.mk H; clear H
  go_enter Try.func6, Try.ntmps6
  go_upto_region 6 with (first | ((with_reducible refine gate_callee (f := 27) rfl ?_); refine goesL_ (some 22) rfl rfl Try.func27 (by kernel_rfl) rfl #[.slice A0 l0.length c0] rfl (by (try simp only [List.map_toArray, List.map_cons, List.map_nil]); first | done | rfl | (simp only [List.length_drop, List.length_take]; rfl)) ?_; (with_reducible refine (spec_DrawPathFirst.calls k _ _ l0 t363 t364 t367 _ ?side1 ?side2 A3.out).mono ?_); (case side1 => repeat (first | exact HR0.out | (with_reducible refine Kd.C_alloc ?_ _) | (with_reducible refine Kd.C_drewN ?_ _) | (with_reducible refine Kd.C_drew ?_))); (case side2 => exact HC0.out); rintro e w7 ⟨v365, rfl, ho0, hb⟩; refine ⟨_, rfl, ?_⟩; have n0_ := Aside0.mk (Kd.R_lower ho0 (below_size (viaW HB.out))); have n1_ := Aside0.mk (below_step (viaW HB.out) hb); clear HB; have HO366 := n0_; have HB := n1_; clear n0_ n1_; (try clear hb); (try clear hb2); (try clear hk); (try clear hi); (try clear ho0)) | ((with_reducible refine gate_dst (N := 3) rfl ?_); (try (refine gate_guard (by rfl) ?_; dsimp only)); refine box_event ?hg (N := 3) ?hd (cs := #[.int .i64 0, .slice none 0 0]) (t := 30) ?hr ?_; (case hd => rfl); (case hg => rfl); (case hr => first | (go_simp; done) | (go_simp; rfl)); intro gb368 hg w8 hbox hb; have n0_ := Aside0.mk (Kd.R_below (viaR HO366.out) hb); have n1_ := Aside0.mk (below_step (viaW HB.out) hb); have n2_ := Aside0.mk (hbox); have n3_ := Aside0.mk ((by rw [hg]; exact (below_size (viaW HB.out)) : w.heap.size ≤ gb368)); have n4_ := Aside0.mk ((by rw [hg]; exact (below_size (viaW HB.out)) : w.heap.size ≤ gb368)); clear HO366; clear HB; have HO366 := n0_; have HB := n1_; have BK368 := n2_; have GW368 := n3_; have GE368 := n4_; clear n0_ n1_ n2_ n3_ n4_; clear hb hbox hg; have hcz9_0 : w8.cell? ⟨gb368, 0, none⟩ = some (.int .i64 0) := (blk_cell BK368.out 0).trans rfl; have hcz9_1 : w8.cell? ⟨gb368, 1, none⟩ = some (.slice none 0 0) := (blk_cell BK368.out 1).trans rfl; have hfz9_0 := blk_frozen BK368.out 0; have hfz9_1 := blk_frozen BK368.out 1; obtain ⟨Ao10, co10, eo10⟩ := Kd.R_slice HO366.out; subst eo10) | ((with_reducible refine gate_callee (f := 28) rfl ?_); refine goesL_ (some 28) rfl rfl Try.func28 (by kernel_rfl) rfl #[.agg #[.int .i64 t363, .slice Ao10 t364.length co10], .int .i64 t367] rfl (by (try simp only [List.map_toArray, List.map_cons, List.map_nil]); first | done | rfl | (simp only [List.length_drop, List.length_take]; rfl)) ?_; (with_reducible refine (impl_PathFirst.calls k t363 _ _ t364 t367 t369 t372 _ ?side1 ?side2 A4.out).mono ?_); (case side1 => refine (Kd.R_reads' (e := 44) (base := w.heap.size) (ok := fun k_ => True) (n := t364.length) (c := co10) ?_).2.2; exact (by (with_reducible repeat (first | apply Kd.R_alloc | apply Kd.R_drewN | apply Kd.R_drew)); exact (Kd.R_mono (Kd.R_far (p := ⟨gb368, 1, none⟩) (Kd.R_far (p := ⟨gb368, 0, none⟩) (Kd.R_types HO366.out BK368.out (by decide)) (fun _ hk => hk.2) (.int .i64 t363)) (fun _ hk => hk.2) (.slice Ao10 t364.length co10)) (fun _ h_ => h_.1)))); (case side2 => exact (Kd.R_reads' HO366.out).2.1); rintro e w11 ⟨v370, rfl, ho0, hb⟩; refine ⟨_, rfl, ?_⟩; have n0_ := Aside0.mk (Kd.R_below (by (with_reducible repeat (first | apply Kd.R_alloc | apply Kd.R_drewN | apply Kd.R_drew)); exact (Kd.R_mono (Kd.R_far (p := ⟨gb368, 1, none⟩) (Kd.R_far (p := ⟨gb368, 0, none⟩) (Kd.R_types HO366.out BK368.out (by decide)) (fun _ hk => hk.2) (.int .i64 t363)) (fun _ hk => hk.2) (.slice Ao10 t364.length co10)) (fun _ h_ => h_.1))) hb); have n1_ := Aside0.mk (Kd.R_lower ho0 (below_size (viaX HB.out GE368.out))); have n2_ := Aside0.mk (blk_below (g := gb368) (o := .cells #[.int .i64 t363, .slice Ao10 t364.length co10] 30 (0, 0)) (by (with_reducible repeat (first | refine blk_drewN ?_ _ | refine blk_drew ?_ | refine blk_alloc ?_ _)); refine blk_put (cs := #[.int .i64 t363, .slice none 0 0]) ?_ 1 _ rfl; (with_reducible repeat (first | refine blk_drewN ?_ _ | refine blk_drew ?_ | refine blk_alloc ?_ _)); refine blk_put (cs := #[.int .i64 0, .slice none 0 0]) ?_ 0 _ rfl; (with_reducible repeat (first | refine blk_drewN ?_ _ | refine blk_drew ?_ | refine blk_alloc ?_ _)); exact BK368.out) hb); have n3_ := Aside0.mk (below_step (viaX HB.out GE368.out) hb); clear HO366; clear BK368; clear HB; have HO366 := n0_; have HO371 := n1_; have BK368 := n2_; have HB := n3_; clear n0_ n1_ n2_ n3_; (try clear hb); (try clear hb2); (try clear hk); (try clear hi); (try clear ho0); have hcz12_0 : w11.cell? ⟨gb368, 0, none⟩ = some (.int .i64 t363) := (blk_cell BK368.out 0).trans rfl; have hcz12_1 : w11.cell? ⟨gb368, 1, none⟩ = some (.slice Ao10 t364.length co10) := (blk_cell BK368.out 1).trans rfl; have hfz12_0 := blk_frozen BK368.out 0; have hfz12_1 := blk_frozen BK368.out 1) | ((with_reducible refine gate_callee (f := 29) rfl ?_); refine goesL_ (some 34) rfl rfl Try.func29 (by kernel_rfl) rfl #[.agg #[.int .i64 t363, .slice Ao10 t364.length co10], .int .i64 t367] rfl (by (try simp only [List.map_toArray, List.map_cons, List.map_nil]); first | done | rfl | (simp only [List.length_drop, List.length_take]; rfl)) ?_; (with_reducible refine (spec_PathFirst.calls k t363 _ _ t364 t367 t373 t376 _ ?side1 ?side2 A5.out).mono ?_); (case side1 => repeat (first | exact (Kd.R_reads' HO366.out).2.2 | (with_reducible refine Kd.C_alloc ?_ _) | (with_reducible refine Kd.C_drewN ?_ _) | (with_reducible refine Kd.C_drew ?_))); (case side2 => exact (Kd.R_reads' HO366.out).2.1); rintro e w13 ⟨v374, rfl, ho0, hb⟩; refine ⟨_, rfl, ?_⟩; have n0_ := Aside0.mk (Kd.R_below (viaR HO366.out) hb); have n1_ := Aside0.mk (Kd.R_below (viaR HO371.out) hb); have n2_ := Aside0.mk (Kd.V_lower (Kd.V_mono (ok' := fun k_ => some k_ ≠ (.slice Ao10 t364.length co10 : Value).ownBlock ∧ some k_ ≠ (v370 : Value).ownBlock ∧ k_ ≠ gb368) ho0 (fun k_ hk_ => ⟨(Kd.fresh' (Kd.R_lt (viaR HO366.out)) k_ hk_), (Kd.fresh' (Kd.R_lt (viaR HO371.out)) k_ hk_), (Kd.freshB (g := gb368) (o := .cells #[.int .i64 t363, .slice Ao10 t364.length co10] 30 (0, 0)) (viaB BK368.out) k_ hk_)⟩)) (below_size (viaX HB.out GE368.out))); have n3_ := Aside0.mk (blk_below (g := gb368) (o := .cells #[.int .i64 t363, .slice Ao10 t364.length co10] 30 (0, 0)) (viaB BK368.out) hb); have n4_ := Aside0.mk (below_step (viaX HB.out GE368.out) hb); clear HO366; clear HO371; clear BK368; clear HB; have HO366 := n0_; have HO371 := n1_; have HO375 := n2_; have BK368 := n3_; have HB := n4_; clear n0_ n1_ n2_ n3_ n4_; (try clear hb); (try clear hb2); (try clear hk); (try clear hi); (try clear ho0)))
  (try simp only [Act.put, List.setIfInBounds_toArray, List.set_cons_zero, List.set_cons_succ])
  go_cut [49] (fun v49 wc => ∃ (kq : Nat) (x49_5 : Bool), v49 = .bool x49_5 ∧ Aside0 (laws_FnFirst.j0 kq t367 t369 t372 t373 t376 x49_5 t363 t364 = some r) ∧ Aside0 (kq ≤ k) ∧ Aside0 (Kd.R (Kd.int .i64) 3 wc w.heap.size (fun _ => True) v370 t369) ∧ Aside0 (Kd.V (Kd.int .i64) 3 wc w.heap.size (fun k_ => some k_ ≠ (v370 : Value).ownBlock ∧ some k_ ≠ ((.slice Ao10 t364.length co10) : Value).ownBlock ∧ k_ ≠ gb368) v374 t373) ∧ Aside0 (Kd.R k44 44 wc w.heap.size (fun _ => True) (.slice Ao10 t364.length co10) t364) ∧ Aside0 (wc.heap[gb368]? = some (.cells #[.int .i64 t363, (.slice Ao10 t364.length co10)] 30 (0, 0))) ∧ Aside0 (Below w.heap.size w wc))
  case first =>
   have H := HC6.out; clear HC6
   by_cases c14 : (t372 != t376) = true
   ·rw [if_pos c14] at H
    have c14b0 : (t372 != t376) = true := c14
    (try (have c14b1 : decide (t372 = t376) = false := by simpa using c14))
    (try (have c14b2 : (t372 == t376) = false := by simpa using c14))
    (try (have c14b3 : ¬ (t372 = t376) := by simpa using c14))
    clear c14
    (first | rw [c14b0] | (simp only [i64_w, i32_w]; rw [c14b0]) | skip)
    have H' := Aside0.mk H; clear H
    go_wp2
    go_meet
    case rel => exact ⟨_, (true), (by first | rfl | (simp; done) | (simp [*]; done)), H', ⟨by first | omega | exact Nat.le_refl _⟩, ⟨viaR HO371.out⟩, ⟨by (with_reducible repeat (first | apply Kd.V_alloc | apply Kd.V_drewN | apply Kd.V_drew)); exact Kd.V_mono HO375.out (fun _ hk => ⟨hk.2.1, ⟨hk.1, hk.2.2⟩⟩)⟩, ⟨viaR HO366.out⟩, ⟨viaB BK368.out⟩, ⟨viaX HB.out GE368.out⟩⟩
   ·rw [if_neg c14] at H
    have c14b0 : (t372 != t376) = false := by simpa using c14
    (try (have c14b1 : decide (t372 = t376) = true := by simpa using c14))
    (try (have c14b2 : (t372 == t376) = true := by simpa using c14))
    clear c14
    (first | rw [c14b0] | (simp only [i64_w, i32_w]; rw [c14b0]) | skip)
    replace H := Option.bind_eq_some_iff.mp H; obtain ⟨t377, A150, H⟩ := H; replace H : (if t377 = true then (laws_FnFirst.j0 k t367 t369 t372 t373 t376 (!t372) t363 t364) else (laws_FnFirst.j0 k t367 t369 t372 t373 t376 true t363 t364)) = some r := H; have A15 := Aside0.mk A150; clear A150
    by_cases c16 : t377 = true
    ·subst c16
     have H1 : (laws_FnFirst.j0 k t367 t369 t372 t373 t376 (!t372) t363 t364) = some r := by rw [if_pos rfl] at H; exact H
     clear H; have H := H1; clear H1; have H' := Aside0.mk H; clear H; obtain ⟨Ao17, co17, eo17⟩ := Kd.R_slice HO371.out; subst eo17; obtain ⟨Ao18, co18, eo18⟩ := Kd.V_slice HO375.out; subst eo18
     go_wp2_with (first | (go_at_call 30; (with_reducible refine (laws_sameInts.calls k _ _ t369 _ _ t373 true _ ?side1 ?side2 ?side3 ?side4 A15.out).mono ?_); (case side1 => repeat (first | exact (Kd.R_reads' HO371.out).2.2 | (with_reducible refine Kd.C_alloc ?_ _) | (with_reducible refine Kd.C_drewN ?_ _) | (with_reducible refine Kd.C_drew ?_))); (case side2 => exact (Kd.R_reads' HO371.out).2.1); (case side3 => repeat (first | exact (Kd.V_reads' HO375.out).2.2 | (with_reducible refine Kd.C_alloc ?_ _) | (with_reducible refine Kd.C_drewN ?_ _) | (with_reducible refine Kd.C_drew ?_))); (case side4 => exact (Kd.V_reads' HO375.out).2.1); rintro e w' ⟨rfl, ⟨nd, rfl⟩⟩))
     go_meet
     case rel => exact ⟨_, (!t372), (by first | rfl | (simp; done) | (simp [*]; done)), H', ⟨by first | omega | exact Nat.le_refl _⟩, ⟨viaR HO371.out⟩, ⟨by (with_reducible repeat (first | apply Kd.V_alloc | apply Kd.V_drewN | apply Kd.V_drew)); exact Kd.V_mono HO375.out (fun _ hk => ⟨hk.2.1, ⟨hk.1, hk.2.2⟩⟩)⟩, ⟨viaR HO366.out⟩, ⟨viaB BK368.out⟩, ⟨viaX HB.out GE368.out⟩⟩
    ·replace c16 := Bool.eq_false_iff.mpr c16
     subst c16; have H1 : (laws_FnFirst.j0 k t367 t369 t372 t373 t376 true t363 t364) = some r := by rw [if_neg (show ¬ (false = true) by decide)] at H; exact H
     clear H; have H := H1; clear H1; have H' := Aside0.mk H; clear H; obtain ⟨Ao19, co19, eo19⟩ := Kd.R_slice HO371.out; subst eo19; obtain ⟨Ao20, co20, eo20⟩ := Kd.V_slice HO375.out; subst eo20
     go_wp2_with (first | (go_at_call 30; (with_reducible refine (laws_sameInts.calls k _ _ t369 _ _ t373 false _ ?side1 ?side2 ?side3 ?side4 A15.out).mono ?_); (case side1 => repeat (first | exact (Kd.R_reads' HO371.out).2.2 | (with_reducible refine Kd.C_alloc ?_ _) | (with_reducible refine Kd.C_drewN ?_ _) | (with_reducible refine Kd.C_drew ?_))); (case side2 => exact (Kd.R_reads' HO371.out).2.1); (case side3 => repeat (first | exact (Kd.V_reads' HO375.out).2.2 | (with_reducible refine Kd.C_alloc ?_ _) | (with_reducible refine Kd.C_drewN ?_ _) | (with_reducible refine Kd.C_drew ?_))); (case side4 => exact (Kd.V_reads' HO375.out).2.1); rintro e w' ⟨rfl, ⟨nd, rfl⟩⟩))
     go_meet
     case rel => exact ⟨_, (true), (by first | rfl | (simp; done) | (simp [*]; done)), H', ⟨by first | omega | exact Nat.le_refl _⟩, ⟨viaR HO371.out⟩, ⟨by (with_reducible repeat (first | apply Kd.V_alloc | apply Kd.V_drewN | apply Kd.V_drew)); exact Kd.V_mono HO375.out (fun _ hk => ⟨hk.2.1, ⟨hk.1, hk.2.2⟩⟩)⟩, ⟨viaR HO366.out⟩, ⟨viaB BK368.out⟩, ⟨viaX HB.out GE368.out⟩⟩
  case rest =>
   clear HC6
   try clear c1
   try clear c2
   try clear c2b0
   try clear c2b1
   try clear p2
   try clear c6
   try clear c14
   try clear c14b0
   try clear c14b1
   try clear c14b2
   try clear c16
   try clear hcz12_0
   try clear hcz12_1
   try clear hcz9_0
   try clear hcz9_1
   try clear hfz12_0
   try clear hfz12_1
   try clear hfz9_0
   try clear hfz9_1
   obtain ⟨kq, x49_5, rfl, HA, HJ5, HO_5, HO_7, HO_369001, BK368, HB⟩ := hcut
   cases kq with
   | zero => exact absurd HA.out (by simp [laws_FnFirst.j0])
   | succ kj5 =>
    have H := HA.out; clear HA
    simp only [laws_FnFirst.j0] at H
    by_cases c21 : x49_5 = true
    ·subst c21
     have H1 : (if (t372 == t376) = true then ((laws_sameInts.f kj5 t369 t373).bind fun t378 => (some t378)) else (some false)) = some r := by rw [if_pos rfl] at H; exact H
     clear H; have H := H1; clear H1
     by_cases c22 : (t372 == t376) = true
     ·rw [if_pos c22] at H
      have c22b0 : (t372 == t376) = true := c22
      (try (have c22b1 : decide (t372 = t376) = true := by simpa using c22))
      (try (have c22b2 : (t372 == t376) = true := by simpa using c22))
      clear c22; replace H := Option.bind_eq_some_iff.mp H; obtain ⟨t378, A230, H⟩ := H; replace H : (some t378) = some r := H; have A23 := Aside0.mk A230; clear A230; obtain rfl := Option.some.inj H; obtain ⟨Ao24, co24, eo24⟩ := Kd.R_slice HO_5.out; subst eo24; obtain ⟨Ao25, co25, eo25⟩ := Kd.V_slice HO_7.out; subst eo25
      go_wp2_with (first | (go_at_call 30; (with_reducible refine (laws_sameInts.calls kj5 _ _ t369 _ _ t373 t378 _ ?side1 ?side2 ?side3 ?side4 A23.out).mono ?_); (case side1 => repeat (first | exact (Kd.R_reads' HO_5.out).2.2 | (with_reducible refine Kd.C_alloc ?_ _) | (with_reducible refine Kd.C_drewN ?_ _) | (with_reducible refine Kd.C_drew ?_))); (case side2 => exact (Kd.R_reads' HO_5.out).2.1); (case side3 => repeat (first | exact (Kd.V_reads' HO_7.out).2.2 | (with_reducible refine Kd.C_alloc ?_ _) | (with_reducible refine Kd.C_drewN ?_ _) | (with_reducible refine Kd.C_drew ?_))); (case side4 => exact (Kd.V_reads' HO_7.out).2.1); rintro e w' ⟨rfl, ⟨nd, rfl⟩⟩))
      go_ret
      exact ⟨by first | rfl | (simp [errW_none, errW_some] <;> rfl) | (simp [*, errW_none, errW_some] <;> rfl), viaX HB.out GE368.out⟩
     ·rw [if_neg c22] at H
      have c22b0 : (t372 == t376) = false := by simpa using c22
      (try (have c22b1 : decide (t372 = t376) = false := by simpa using c22))
      (try (have c22b2 : (t372 == t376) = false := by simpa using c22))
      (try (have c22b3 : ¬ (t372 = t376) := by simpa using c22))
      clear c22; obtain rfl := Option.some.inj H
      go_wp2
      go_ret
      exact ⟨by first | rfl | (simp [errW_none, errW_some] <;> rfl) | (simp [*, errW_none, errW_some] <;> rfl), viaX HB.out GE368.out⟩
    ·replace c21 := Bool.eq_false_iff.mpr c21
     subst c21; have H1 : ((impl_PathLongest.f kj5 t363 t364 t367).bind fun bt379 => (laws_FnFirst.l0 kj5 t367 t369 bt379.1 bt379.2 0 0 t363 t364)) = some r := by rw [if_neg (show ¬ (false = true) by decide)] at H; exact H
     clear H; have H := H1; clear H1; replace H := Option.bind_eq_some_iff.mp H; obtain ⟨⟨t379, t380⟩, A260, H⟩ := H; replace H : (laws_FnFirst.l0 kj5 t367 t369 t379 t380 0 0 t363 t364) = some r := H; have A26 := Aside0.mk A260; clear A260; have H' := Aside0.mk H; clear H; have hcz27_0 : wc.cell? ⟨gb368, 0, none⟩ = some (.int .i64 t363) := (blk_cell BK368.out 0).trans rfl; have hcz27_1 : wc.cell? ⟨gb368, 1, none⟩ = some (.slice Ao10 t364.length co10) := (blk_cell BK368.out 1).trans rfl; have hfz27_0 := blk_frozen BK368.out 0; have hfz27_1 := blk_frozen BK368.out 1
     go_wp2_with (first | ((with_reducible refine gate_callee (f := 24) rfl ?_); refine goesL_ (some 61) rfl rfl Try.func24 (by kernel_rfl) rfl #[.agg #[.int .i64 t363, .slice Ao10 t364.length co10], .int .i64 t367] rfl (by (try simp only [List.map_toArray, List.map_cons, List.map_nil]); first | done | rfl | (simp only [List.length_drop, List.length_take]; rfl)) ?_; (with_reducible refine (impl_PathLongest.calls kj5 t363 _ _ t364 t367 t379 t380 _ ?side1 ?side2 A26.out).mono ?_); (case side1 => repeat (first | exact (Kd.R_reads' HO_369001.out).2.2 | (with_reducible refine Kd.C_alloc ?_ _) | (with_reducible refine Kd.C_drewN ?_ _) | (with_reducible refine Kd.C_drew ?_))); (case side2 => exact (Kd.R_reads' HO_369001.out).2.1); rintro e w28 ⟨rfl, hb⟩; refine ⟨_, rfl, ?_⟩; have n0_ := Aside0.mk (Kd.R_below (viaR HO_5.out) hb); have n1_ := Aside0.mk (Kd.V_below (by (with_reducible repeat (first | apply Kd.V_alloc | apply Kd.V_drewN | apply Kd.V_drew)); exact HO_7.out) hb); have n2_ := Aside0.mk (Kd.R_below (viaR HO_369001.out) hb); have n3_ := Aside0.mk (blk_below (g := gb368) (o := .cells #[.int .i64 t363, .slice Ao10 t364.length co10] 30 (0, 0)) (viaB BK368.out) hb); have n4_ := Aside0.mk (below_step (viaX HB.out GE368.out) hb); clear HO_5; clear HO_7; clear HO_369001; clear BK368; clear HB; have HO_5 := n0_; have HO_7 := n1_; have HO_369001 := n2_; have BK368 := n3_; have HB := n4_; clear n0_ n1_ n2_ n3_ n4_; (try clear hb); (try clear hb2); (try clear hk); (try clear hi)))
     go_loopg [11, 12] kj5 (fun kq v11 v12 w' => ∃ (x11_2 : Int) (x12_2 : Int), v11 = .int .i64 x11_2 ∧ v12 = .int .i64 x12_2 ∧ Aside0 (laws_FnFirst.l0 kq t367 t369 t379 t380 x11_2 x12_2 t363 t364 = some r) ∧ Aside0 (kq ≤ kj5) ∧ Aside0 (Kd.R (Kd.int .i64) 3 w' w.heap.size (fun _ => True) v370 t369) ∧ Aside0 (Kd.R k44 44 w' w.heap.size (fun _ => True) (.slice Ao10 t364.length co10) t364) ∧ Aside0 (w'.heap[gb368]? = some (.cells #[.int .i64 t363, (.slice Ao10 t364.length co10)] 30 (0, 0))) ∧ Aside0 (Below w.heap.size w w'))
     case atStart => exact ⟨(0), (0), (by first | rfl | (simp; done) | (simp [*]; done)), (by first | rfl | (simp; done) | (simp [*]; done)), H', ⟨Nat.le_refl _⟩, ⟨viaR HO_5.out⟩, ⟨viaR HO_369001.out⟩, ⟨viaB BK368.out⟩, ⟨viaX HB.out GE368.out⟩⟩
     case round =>
      clear H'
      try clear c1
      try clear c2
      try clear c2b0
      try clear c2b1
      try clear p2
      try clear c6
      try clear c14
      try clear c14b0
      try clear c14b1
      try clear c14b2
      try clear c16
      try clear c21
      try clear c22
      try clear c22b0
      try clear c22b1
      try clear c22b2
      try clear c24
      try clear c27
      try clear c28
      try clear hcz12_0
      try clear hcz12_1
      try clear hcz27_0
      try clear hcz27_1
      try clear hcz9_0
      try clear hcz9_1
      try clear hfz12_0
      try clear hfz12_1
      try clear hfz27_0
      try clear hfz27_1
      try clear hfz9_0
      try clear hfz9_1
      try clear p2
      obtain ⟨x11_2, x12_2, rfl, rfl, HA, HK2, HO_5, HO_369001, BK368, HB⟩ := hrel
      cases gk with
      | zero => exact absurd HA.out (by simp [laws_FnFirst.l0])
      | succ k2 =>
       have H := HA.out; clear HA
       simp only [laws_FnFirst.l0] at H
       by_cases c29 : x12_2 < (t369.length : Int)
       ·rw [if_pos c29] at H
        have c29b0 : decide (x12_2 < (t369.length : Int)) = true := decide_eq_true c29; clear c29
        by_cases c30 : 0 ≤ x12_2
        ·rw [if_pos c30] at H
         have c30b0 : decide (0 ≤ x12_2) = true := decide_eq_true c30; clear c30
         by_cases c31 : 0 ≤ (rd t369 x12_2)
         ·rw [if_pos c31] at H
          have c31b0 := eq_true c31; have c31b1 : decide (0 ≤ (rd t369 x12_2)) = true := decide_eq_true c31; clear c31; obtain ⟨ji32, hji32⟩ : ∃ j_ : Int, (shr .i64 x11_2 (rd t369 x12_2)) = j_ := ⟨_, rfl⟩; replace H : (if (Go.bits .and .i64 (ji32) 1) = 1 then (some false) else (laws_FnFirst.l1 k2 t367 t369 t379 t380 (Go.bits .or .i64 x11_2 (shl .i64 1 (rd t369 x12_2))) x12_2 (x12_2 == 0) 0 t363 t364)) = some r := by first | (rw [hji32] at H; exact H) | (simp only [hji32] at H ⊢; exact H)
          have hji32_ : (x11_2 / 2 ^ min (rd t369 x12_2).toNat 64) = ji32 := hji32; have hji32z : (rd t369 x12_2) ≤ 64 → (x11_2 / 2 ^ (rd t369 x12_2).toNat) = ji32 := shr_small hji32
          by_cases c33 : (Go.bits .and .i64 (ji32) 1) = 1
          ·rw [if_pos c33] at H
           have c33b0 : ((Go.bits .and .i64 (ji32) 1) == 1) = true := beq_iff_eq.mpr c33; have c33b1 : ((Go.bits .and .i64 (ji32) 1) != 1) = false := bne_eq_false_iff_eq.mpr c33; clear c33; obtain rfl := Option.some.inj H; obtain ⟨Ao34, co34, eo34⟩ := Kd.R_slice HO_5.out; subst eo34; have p381 : 0 ≤ (x12_2 : Int) := of_decide_eq_true (by first | (with_reducible assumption) | assumption); have q381 : x12_2 < (t369.length : Int) := of_decide_eq_true (by first | (with_reducible assumption) | assumption); obtain ⟨ad381, e381, hx381_0⟩ := Kd.at_int (Kd.R_reads' HO_5.out).2.2 x12_2 p381 q381
           cases e381
           replace p381 := eq_true p381; replace q381 := eq_true q381
           go_wp2
           go_ret
           exact ⟨by first | rfl | (simp [errW_none, errW_some] <;> rfl) | (simp only [← hji32]; first | rfl | (simp [errW_none, errW_some] <;> rfl)) | (simp [*, errW_none, errW_some] <;> rfl), viaX HB.out GE368.out⟩
          ·rw [if_neg c33] at H
           have c33b0 : ((Go.bits .and .i64 (ji32) 1) == 1) = false := beq_eq_false_iff_ne.mpr c33; have c33b1 : ((Go.bits .and .i64 (ji32) 1) != 1) = true := bne_iff_ne.mpr c33; have c35b0 := eq_true (of_decide_eq_true (by first | (with_reducible assumption) | assumption) : 0 ≤ (rd t369 x12_2)); obtain ⟨ji36, hji36⟩ : ∃ j_ : Int, (shl .i64 1 (rd t369 x12_2)) = j_ := ⟨_, rfl⟩; replace H : (laws_FnFirst.l1 k2 t367 t369 t379 t380 (Go.bits .or .i64 x11_2 (ji36)) x12_2 (x12_2 == 0) 0 t363 t364) = some r := by first | (rw [hji36] at H; exact H) | (simp only [hji36] at H ⊢; exact H)
           have hji36_ : (IntKind.i64.wrap (1 * 2 ^ min (rd t369 x12_2).toNat 64)) = ji36 := hji36; have hji36z : (rd t369 x12_2) ≤ 64 → (IntKind.i64.wrap (1 * 2 ^ (rd t369 x12_2).toNat)) = ji36 := shl_small hji36; have hji36u : (IntKind.i64.wrap (2 ^ min (rd t369 x12_2).toNat 64)) = ji36 := by have h_ := hji36_; rw [Int.one_mul] at h_; exact h_
           have hji36v : (rd t369 x12_2) ≤ 64 → (IntKind.i64.wrap (2 ^ (rd t369 x12_2).toNat)) = ji36 := fun hle_ => by have h_ := hji36z hle_; rw [Int.one_mul] at h_; exact h_
           have hji36y : (wrap64 (1 * 2 ^ min (rd t369 x12_2).toNat 64)) = ji36 := (i64_w _).symm.trans hji36_; have hji36x : (rd t369 x12_2) ≤ 64 → (wrap64 (1 * 2 ^ (rd t369 x12_2).toNat)) = ji36 := fun h_ => (i64_w _).symm.trans (hji36z h_); have H' := Aside0.mk H; clear H; obtain ⟨Ao37, co37, eo37⟩ := Kd.R_slice HO_5.out; subst eo37; have p381 : 0 ≤ (x12_2 : Int) := of_decide_eq_true (by first | (with_reducible assumption) | assumption); have q381 : x12_2 < (t369.length : Int) := of_decide_eq_true (by first | (with_reducible assumption) | assumption); obtain ⟨ad381, e381, hx381_0⟩ := Kd.at_int (Kd.R_reads' HO_5.out).2.2 x12_2 p381 q381
           cases e381
           replace p381 := eq_true p381; replace q381 := eq_true q381; have p382 : 0 ≤ (x12_2 : Int) := of_decide_eq_true (by first | (with_reducible assumption) | assumption); have q382 : x12_2 < (t369.length : Int) := of_decide_eq_true (by first | (with_reducible assumption) | assumption); obtain ⟨ad382, e382, hx382_0⟩ := Kd.at_int (Kd.R_reads' HO_5.out).2.2 x12_2 p382 q382; obtain rfl : ad381 = ad382 := (by injection e382); replace p382 := eq_true p382; replace q382 := eq_true q382
           go_wp2
           go_loopg [13, 14] k2 (fun kq v13 v14 w' => ∃ (x13_3 : Bool) (x14_3 : Int), v13 = .bool x13_3 ∧ v14 = .int .i64 x14_3 ∧ Aside0 (laws_FnFirst.l1 kq t367 t369 t379 t380 (Go.bits .or .i64 x11_2 (ji36)) x12_2 x13_3 x14_3 t363 t364 = some r) ∧ Aside0 (kq ≤ k2) ∧ Aside0 (Kd.R (Kd.int .i64) 3 w' w.heap.size (fun _ => True) (.slice (some ad381) t369.length co37) t369) ∧ Aside0 (Kd.R k44 44 w' w.heap.size (fun _ => True) (.slice Ao10 t364.length co10) t364) ∧ Aside0 (w'.heap[gb368]? = some (.cells #[.int .i64 t363, (.slice Ao10 t364.length co10)] 30 (0, 0))) ∧ Aside0 (Below w.heap.size w w'))
           case atStart => exact ⟨((x12_2 == 0)), (0), (by first | rfl | (simp; done) | (simp [*]; done)), (by first | rfl | (simp; done) | (simp [*]; done)), H', ⟨Nat.le_refl _⟩, ⟨viaR HO_5.out⟩, ⟨viaR HO_369001.out⟩, ⟨viaB BK368.out⟩, ⟨viaX HB.out GE368.out⟩⟩
           case round =>
            clear H'
            try clear c1
            try clear c2
            try clear c2b0
            try clear c2b1
            try clear p2
            try clear c3
            try clear p3
            try clear q3
            try clear hx3
            try clear c6
            try clear p6
            try clear c14
            try clear c14b0
            try clear c14b1
            try clear c14b2
            try clear c16
            try clear c21
            try clear c22
            try clear c22b0
            try clear c22b1
            try clear c22b2
            try clear c24
            try clear c27
            try clear c28
            try clear c29
            try clear c29b0
            try clear c30
            try clear c30b0
            try clear c31
            try clear c31b0
            try clear c31b1
            try clear c33
            try clear c33b0
            try clear c33b1
            try clear c35
            try clear c35b0
            try clear hcz12_0
            try clear hcz12_1
            try clear hcz27_0
            try clear hcz27_1
            try clear hcz9_0
            try clear hcz9_1
            try clear hfz12_0
            try clear hfz12_1
            try clear hfz27_0
            try clear hfz27_1
            try clear hfz9_0
            try clear hfz9_1
            try clear hx381_0
            try clear hx382_0
            try clear p2
            try clear p381
            try clear p382
            try clear q381
            try clear q382
            obtain ⟨x13_3, x14_3, rfl, rfl, HA, HK3, HO_5, HO_369001, BK368, HB⟩ := hrel
            cases gk with
            | zero => exact absurd HA.out (by simp [laws_FnFirst.l1])
            | succ k3 =>
             have H := HA.out; clear HA
             simp only [laws_FnFirst.l1] at H
             by_cases c38 : x14_3 < (t364.length : Int)
             ·rw [if_pos c38] at H
              have c38b0 : decide (x14_3 < (t364.length : Int)) = true := decide_eq_true c38; clear c38
              by_cases c39 : 0 ≤ x14_3
              ·rw [if_pos c39] at H
               have c39b0 : decide (0 ≤ x14_3) = true := decide_eq_true c39; clear c39; have c40b0 := eq_true (of_decide_eq_true (by first | (with_reducible assumption) | assumption) : 0 ≤ x14_3); obtain ⟨ji41, hji41⟩ : ∃ j_ : Int, (shr .i64 t367 x14_3) = j_ := ⟨_, rfl⟩; replace H : (if (Go.bits .and .i64 (ji41) 1) = 1 then (if x13_3 = true then (laws_FnFirst.l1 k3 t367 t369 t379 t380 (Go.bits .or .i64 x11_2 (ji36)) x12_2 true (wrap64 (x14_3 + 1)) t363 t364) else (if 0 ≤ (wrap64 (x12_2 - 1)) then (if (wrap64 (x12_2 - 1)) < (t369.length : Int) then (if ((rd_T44 t364 x14_3).f1) = (rd t369 (wrap64 (x12_2 - 1))) then (if 0 ≤ x12_2 then (if x12_2 < (t369.length : Int) then (laws_FnFirst.l1 k3 t367 t369 t379 t380 (Go.bits .or .i64 x11_2 (ji36)) x12_2 (((rd_T44 t364 x14_3).f0) == (rd t369 x12_2)) (wrap64 (x14_3 + 1)) t363 t364) else (none)) else (none)) else (laws_FnFirst.l1 k3 t367 t369 t379 t380 (Go.bits .or .i64 x11_2 (ji36)) x12_2 false (wrap64 (x14_3 + 1)) t363 t364)) else (none)) else (none))) else (if x13_3 = true then (laws_FnFirst.l1 k3 t367 t369 t379 t380 (Go.bits .or .i64 x11_2 (ji36)) x12_2 true (wrap64 (x14_3 + 1)) t363 t364) else (if 0 ≤ (wrap64 (x12_2 - 1)) then (if (wrap64 (x12_2 - 1)) < (t369.length : Int) then (if ((rd_T44 t364 x14_3).f0) = (rd t369 (wrap64 (x12_2 - 1))) then (if 0 ≤ x12_2 then (if x12_2 < (t369.length : Int) then (laws_FnFirst.l1 k3 t367 t369 t379 t380 (Go.bits .or .i64 x11_2 (ji36)) x12_2 (((rd_T44 t364 x14_3).f1) == (rd t369 x12_2)) (wrap64 (x14_3 + 1)) t363 t364) else (none)) else (none)) else (laws_FnFirst.l1 k3 t367 t369 t379 t380 (Go.bits .or .i64 x11_2 (ji36)) x12_2 false (wrap64 (x14_3 + 1)) t363 t364)) else (none)) else (none)))) = some r := by first | (rw [hji41] at H; exact H) | (simp only [hji41] at H ⊢; exact H)
               have hji41_ : (t367 / 2 ^ min x14_3.toNat 64) = ji41 := hji41; have hji41z : x14_3 ≤ 64 → (t367 / 2 ^ x14_3.toNat) = ji41 := shr_small hji41
               by_cases c42 : (Go.bits .and .i64 (ji41) 1) = 1
               ·rw [if_pos c42] at H
                have c42b0 : ((Go.bits .and .i64 (ji41) 1) == 1) = true := beq_iff_eq.mpr c42; have c42b1 : ((Go.bits .and .i64 (ji41) 1) != 1) = false := bne_eq_false_iff_eq.mpr c42; clear c42
                by_cases c43 : x13_3 = true
                ·subst c43
                 have H1 : (laws_FnFirst.l1 k3 t367 t369 t379 t380 (Go.bits .or .i64 x11_2 (ji36)) x12_2 true (wrap64 (x14_3 + 1)) t363 t364) = some r := by rw [if_pos rfl] at H; exact H
                 clear H; have H := H1; clear H1; have H' := Aside0.mk H; clear H; have hcz44_0 : wr.cell? ⟨gb368, 0, none⟩ = some (.int .i64 t363) := (blk_cell BK368.out 0).trans rfl; have hcz44_1 : wr.cell? ⟨gb368, 1, none⟩ = some (.slice Ao10 t364.length co10) := (blk_cell BK368.out 1).trans rfl; have hfz44_0 := blk_frozen BK368.out 0; have hfz44_1 := blk_frozen BK368.out 1; have p383 : 0 ≤ (x14_3 : Int) := of_decide_eq_true (by first | (with_reducible assumption) | assumption); have q383 : x14_3 < (t364.length : Int) := of_decide_eq_true (by first | (with_reducible assumption) | assumption); obtain ⟨ad383, e383, hx383_0, hx383_1⟩ := at_T44 (Kd.R_reads' HO_369001.out).2.2 x14_3 p383 q383
                 cases e383
                 replace p383 := eq_true p383; replace q383 := eq_true q383; have p384 : 0 ≤ (x14_3 : Int) := of_decide_eq_true (by first | (with_reducible assumption) | assumption); have q384 : x14_3 < (t364.length : Int) := of_decide_eq_true (by first | (with_reducible assumption) | assumption); obtain ⟨ad384, e384, hx384_0, hx384_1⟩ := at_T44 (Kd.R_reads' HO_369001.out).2.2 x14_3 p384 q384; obtain rfl : ad383 = ad384 := (by injection e384); replace p384 := eq_true p384; replace q384 := eq_true q384; have p385 : 0 ≤ (x14_3 : Int) := of_decide_eq_true (by first | (with_reducible assumption) | assumption); have q385 : x14_3 < (t364.length : Int) := of_decide_eq_true (by first | (with_reducible assumption) | assumption); obtain ⟨ad385, e385, hx385_0, hx385_1⟩ := at_T44 (Kd.R_reads' HO_369001.out).2.2 x14_3 p385 q385; obtain rfl : ad383 = ad385 := (by injection e385); replace p385 := eq_true p385; replace q385 := eq_true q385; have p386 : 0 ≤ (x14_3 : Int) := of_decide_eq_true (by first | (with_reducible assumption) | assumption); have q386 : x14_3 < (t364.length : Int) := of_decide_eq_true (by first | (with_reducible assumption) | assumption); obtain ⟨ad386, e386, hx386_0, hx386_1⟩ := at_T44 (Kd.R_reads' HO_369001.out).2.2 x14_3 p386 q386; obtain rfl : ad383 = ad386 := (by injection e386); replace p386 := eq_true p386; replace q386 := eq_true q386
                 go_wp2
                 go_roundg k3
                 case measure => have := HJ5.out; have := HK2.out; have := HK3.out; omega
                 case rel => exact ⟨(true), (wrap64 (x14_3 + 1)), (by first | rfl | (simp; done) | (simp [*]; done)), (by first | rfl | (simp; done) | (simp [*]; done)), H', ⟨by have := HJ5.out; have := HK2.out; have := HK3.out; omega⟩, ⟨viaR HO_5.out⟩, ⟨viaR HO_369001.out⟩, ⟨viaB BK368.out⟩, ⟨viaX HB.out GE368.out⟩⟩
                ·replace c43 := Bool.eq_false_iff.mpr c43
                 subst c43; have H1 : (if 0 ≤ (wrap64 (x12_2 - 1)) then (if (wrap64 (x12_2 - 1)) < (t369.length : Int) then (if ((rd_T44 t364 x14_3).f1) = (rd t369 (wrap64 (x12_2 - 1))) then (if 0 ≤ x12_2 then (if x12_2 < (t369.length : Int) then (laws_FnFirst.l1 k3 t367 t369 t379 t380 (Go.bits .or .i64 x11_2 (ji36)) x12_2 (((rd_T44 t364 x14_3).f0) == (rd t369 x12_2)) (wrap64 (x14_3 + 1)) t363 t364) else (none)) else (none)) else (laws_FnFirst.l1 k3 t367 t369 t379 t380 (Go.bits .or .i64 x11_2 (ji36)) x12_2 false (wrap64 (x14_3 + 1)) t363 t364)) else (none)) else (none)) = some r := by rw [if_neg (show ¬ (false = true) by decide)] at H; exact H
                 clear H; have H := H1; clear H1; obtain ⟨ji45, hji45⟩ : ∃ j_ : Int, (wrap64 (x12_2 - 1)) = j_ := ⟨_, rfl⟩; replace H : (if 0 ≤ (ji45) then (if (ji45) < (t369.length : Int) then (if ((rd_T44 t364 x14_3).f1) = (rd t369 (ji45)) then (if 0 ≤ x12_2 then (if x12_2 < (t369.length : Int) then (laws_FnFirst.l1 k3 t367 t369 t379 t380 (Go.bits .or .i64 x11_2 (ji36)) x12_2 (((rd_T44 t364 x14_3).f0) == (rd t369 x12_2)) (wrap64 (x14_3 + 1)) t363 t364) else (none)) else (none)) else (laws_FnFirst.l1 k3 t367 t369 t379 t380 (Go.bits .or .i64 x11_2 (ji36)) x12_2 false (wrap64 (x14_3 + 1)) t363 t364)) else (none)) else (none)) = some r := by first | (rw [hji45] at H; exact H) | (simp only [hji45] at H ⊢; exact H)
                 have hji45w : (IntKind.i64.wrap (x12_2 - 1)) = ji45 := (i64_w _).trans hji45
                 by_cases c46 : 0 ≤ (ji45)
                 ·rw [if_pos c46] at H
                  have c46b0 : decide (0 ≤ (ji45)) = true := decide_eq_true c46; clear c46
                  by_cases c47 : (ji45) < (t369.length : Int)
                  ·rw [if_pos c47] at H
                   have c47b0 : decide ((ji45) < (t369.length : Int)) = true := decide_eq_true c47; clear c47
                   by_cases c48 : ((rd_T44 t364 x14_3).f1) = (rd t369 (ji45))
                   ·rw [if_pos c48] at H
                    have c48b0 : (((rd_T44 t364 x14_3).f1) == (rd t369 (ji45))) = true := beq_iff_eq.mpr c48; have c48b1 : (((rd_T44 t364 x14_3).f1) != (rd t369 (ji45))) = false := bne_eq_false_iff_eq.mpr c48; clear c48
                    by_cases c49 : 0 ≤ x12_2
                    ·rw [if_pos c49] at H
                     have c49b0 : decide (0 ≤ x12_2) = true := decide_eq_true c49; clear c49
                     by_cases c50 : x12_2 < (t369.length : Int)
                     ·rw [if_pos c50] at H
                      have c50b0 : decide (x12_2 < (t369.length : Int)) = true := decide_eq_true c50; clear c50; have H' := Aside0.mk H; clear H; have hcz51_0 : wr.cell? ⟨gb368, 0, none⟩ = some (.int .i64 t363) := (blk_cell BK368.out 0).trans rfl; have hcz51_1 : wr.cell? ⟨gb368, 1, none⟩ = some (.slice Ao10 t364.length co10) := (blk_cell BK368.out 1).trans rfl; have hfz51_0 := blk_frozen BK368.out 0; have hfz51_1 := blk_frozen BK368.out 1; have p383 : 0 ≤ (x14_3 : Int) := of_decide_eq_true (by first | (with_reducible assumption) | assumption); have q383 : x14_3 < (t364.length : Int) := of_decide_eq_true (by first | (with_reducible assumption) | assumption); obtain ⟨ad383, e383, hx383_0, hx383_1⟩ := at_T44 (Kd.R_reads' HO_369001.out).2.2 x14_3 p383 q383
                      cases e383
                      replace p383 := eq_true p383; replace q383 := eq_true q383; have p384 : 0 ≤ (x14_3 : Int) := of_decide_eq_true (by first | (with_reducible assumption) | assumption); have q384 : x14_3 < (t364.length : Int) := of_decide_eq_true (by first | (with_reducible assumption) | assumption); obtain ⟨ad384, e384, hx384_0, hx384_1⟩ := at_T44 (Kd.R_reads' HO_369001.out).2.2 x14_3 p384 q384; obtain rfl : ad383 = ad384 := (by injection e384); replace p384 := eq_true p384; replace q384 := eq_true q384; have p385 : 0 ≤ (x14_3 : Int) := of_decide_eq_true (by first | (with_reducible assumption) | assumption); have q385 : x14_3 < (t364.length : Int) := of_decide_eq_true (by first | (with_reducible assumption) | assumption); obtain ⟨ad385, e385, hx385_0, hx385_1⟩ := at_T44 (Kd.R_reads' HO_369001.out).2.2 x14_3 p385 q385; obtain rfl : ad383 = ad385 := (by injection e385); replace p385 := eq_true p385; replace q385 := eq_true q385; have p386 : 0 ≤ (x14_3 : Int) := of_decide_eq_true (by first | (with_reducible assumption) | assumption); have q386 : x14_3 < (t364.length : Int) := of_decide_eq_true (by first | (with_reducible assumption) | assumption); obtain ⟨ad386, e386, hx386_0, hx386_1⟩ := at_T44 (Kd.R_reads' HO_369001.out).2.2 x14_3 p386 q386; obtain rfl : ad383 = ad386 := (by injection e386); replace p386 := eq_true p386; replace q386 := eq_true q386; have p387 : 0 ≤ ((ji45) : Int) := of_decide_eq_true (by first | (with_reducible assumption) | assumption); have q387 : (ji45) < (t369.length : Int) := of_decide_eq_true (by first | (with_reducible assumption) | assumption); obtain ⟨ad387, e387, hx387_0⟩ := Kd.at_int (Kd.R_reads' HO_5.out).2.2 (ji45) p387 q387; obtain rfl : ad381 = ad387 := (by injection e387); replace p387 := eq_true p387; replace q387 := eq_true q387; have p388 : 0 ≤ (x12_2 : Int) := of_decide_eq_true (by first | (with_reducible assumption) | assumption); have q388 : x12_2 < (t369.length : Int) := of_decide_eq_true (by first | (with_reducible assumption) | assumption); obtain ⟨ad388, e388, hx388_0⟩ := Kd.at_int (Kd.R_reads' HO_5.out).2.2 x12_2 p388 q388; obtain rfl : ad381 = ad388 := (by injection e388); replace p388 := eq_true p388; replace q388 := eq_true q388
                      go_wp2
                      go_roundg k3
                      case measure => have := HJ5.out; have := HK2.out; have := HK3.out; omega
                      case rel => exact ⟨((((rd_T44 t364 x14_3).f0) == (rd t369 x12_2))), (wrap64 (x14_3 + 1)), (by first | rfl | (simp; done) | (simp [*]; done)), (by first | rfl | (simp; done) | (simp [*]; done)), H', ⟨by have := HJ5.out; have := HK2.out; have := HK3.out; omega⟩, ⟨viaR HO_5.out⟩, ⟨viaR HO_369001.out⟩, ⟨viaB BK368.out⟩, ⟨viaX HB.out GE368.out⟩⟩
                     ·rw [if_neg c50] at H
                      exact absurd H (by simp)
                    ·rw [if_neg c49] at H
                     exact absurd H (by simp)
                   ·rw [if_neg c48] at H
                    have c48b0 : (((rd_T44 t364 x14_3).f1) == (rd t369 (ji45))) = false := beq_eq_false_iff_ne.mpr c48; have c48b1 : (((rd_T44 t364 x14_3).f1) != (rd t369 (ji45))) = true := bne_iff_ne.mpr c48; have H' := Aside0.mk H; clear H; have hcz52_0 : wr.cell? ⟨gb368, 0, none⟩ = some (.int .i64 t363) := (blk_cell BK368.out 0).trans rfl; have hcz52_1 : wr.cell? ⟨gb368, 1, none⟩ = some (.slice Ao10 t364.length co10) := (blk_cell BK368.out 1).trans rfl; have hfz52_0 := blk_frozen BK368.out 0; have hfz52_1 := blk_frozen BK368.out 1; have p383 : 0 ≤ (x14_3 : Int) := of_decide_eq_true (by first | (with_reducible assumption) | assumption); have q383 : x14_3 < (t364.length : Int) := of_decide_eq_true (by first | (with_reducible assumption) | assumption); obtain ⟨ad383, e383, hx383_0, hx383_1⟩ := at_T44 (Kd.R_reads' HO_369001.out).2.2 x14_3 p383 q383
                    cases e383
                    replace p383 := eq_true p383; replace q383 := eq_true q383; have p384 : 0 ≤ (x14_3 : Int) := of_decide_eq_true (by first | (with_reducible assumption) | assumption); have q384 : x14_3 < (t364.length : Int) := of_decide_eq_true (by first | (with_reducible assumption) | assumption); obtain ⟨ad384, e384, hx384_0, hx384_1⟩ := at_T44 (Kd.R_reads' HO_369001.out).2.2 x14_3 p384 q384; obtain rfl : ad383 = ad384 := (by injection e384); replace p384 := eq_true p384; replace q384 := eq_true q384; have p385 : 0 ≤ (x14_3 : Int) := of_decide_eq_true (by first | (with_reducible assumption) | assumption); have q385 : x14_3 < (t364.length : Int) := of_decide_eq_true (by first | (with_reducible assumption) | assumption); obtain ⟨ad385, e385, hx385_0, hx385_1⟩ := at_T44 (Kd.R_reads' HO_369001.out).2.2 x14_3 p385 q385; obtain rfl : ad383 = ad385 := (by injection e385); replace p385 := eq_true p385; replace q385 := eq_true q385; have p386 : 0 ≤ (x14_3 : Int) := of_decide_eq_true (by first | (with_reducible assumption) | assumption); have q386 : x14_3 < (t364.length : Int) := of_decide_eq_true (by first | (with_reducible assumption) | assumption); obtain ⟨ad386, e386, hx386_0, hx386_1⟩ := at_T44 (Kd.R_reads' HO_369001.out).2.2 x14_3 p386 q386; obtain rfl : ad383 = ad386 := (by injection e386); replace p386 := eq_true p386; replace q386 := eq_true q386; have p387 : 0 ≤ ((ji45) : Int) := of_decide_eq_true (by first | (with_reducible assumption) | assumption); have q387 : (ji45) < (t369.length : Int) := of_decide_eq_true (by first | (with_reducible assumption) | assumption); obtain ⟨ad387, e387, hx387_0⟩ := Kd.at_int (Kd.R_reads' HO_5.out).2.2 (ji45) p387 q387; obtain rfl : ad381 = ad387 := (by injection e387); replace p387 := eq_true p387; replace q387 := eq_true q387
                    go_wp2
                    go_roundg k3
                    case measure => have := HJ5.out; have := HK2.out; have := HK3.out; omega
                    case rel => exact ⟨(false), (wrap64 (x14_3 + 1)), (by first | rfl | (simp; done) | (simp [*]; done)), (by first | rfl | (simp; done) | (simp [*]; done)), H', ⟨by have := HJ5.out; have := HK2.out; have := HK3.out; omega⟩, ⟨viaR HO_5.out⟩, ⟨viaR HO_369001.out⟩, ⟨viaB BK368.out⟩, ⟨viaX HB.out GE368.out⟩⟩
                  ·rw [if_neg c47] at H
                   exact absurd H (by simp)
                 ·rw [if_neg c46] at H
                  exact absurd H (by simp)
               ·rw [if_neg c42] at H
                have c42b0 : ((Go.bits .and .i64 (ji41) 1) == 1) = false := beq_eq_false_iff_ne.mpr c42; have c42b1 : ((Go.bits .and .i64 (ji41) 1) != 1) = true := bne_iff_ne.mpr c42
                by_cases c53 : x13_3 = true
                ·subst c53
                 have H1 : (laws_FnFirst.l1 k3 t367 t369 t379 t380 (Go.bits .or .i64 x11_2 (ji36)) x12_2 true (wrap64 (x14_3 + 1)) t363 t364) = some r := by rw [if_pos rfl] at H; exact H
                 clear H; have H := H1; clear H1; have H' := Aside0.mk H; clear H; have hcz54_0 : wr.cell? ⟨gb368, 0, none⟩ = some (.int .i64 t363) := (blk_cell BK368.out 0).trans rfl; have hcz54_1 : wr.cell? ⟨gb368, 1, none⟩ = some (.slice Ao10 t364.length co10) := (blk_cell BK368.out 1).trans rfl; have hfz54_0 := blk_frozen BK368.out 0; have hfz54_1 := blk_frozen BK368.out 1; have p383 : 0 ≤ (x14_3 : Int) := of_decide_eq_true (by first | (with_reducible assumption) | assumption); have q383 : x14_3 < (t364.length : Int) := of_decide_eq_true (by first | (with_reducible assumption) | assumption); obtain ⟨ad383, e383, hx383_0, hx383_1⟩ := at_T44 (Kd.R_reads' HO_369001.out).2.2 x14_3 p383 q383
                 cases e383
                 replace p383 := eq_true p383; replace q383 := eq_true q383; have p384 : 0 ≤ (x14_3 : Int) := of_decide_eq_true (by first | (with_reducible assumption) | assumption); have q384 : x14_3 < (t364.length : Int) := of_decide_eq_true (by first | (with_reducible assumption) | assumption); obtain ⟨ad384, e384, hx384_0, hx384_1⟩ := at_T44 (Kd.R_reads' HO_369001.out).2.2 x14_3 p384 q384; obtain rfl : ad383 = ad384 := (by injection e384); replace p384 := eq_true p384; replace q384 := eq_true q384
                 go_wp2
                 go_roundg k3
                 case measure => have := HJ5.out; have := HK2.out; have := HK3.out; omega
                 case rel => exact ⟨(true), (wrap64 (x14_3 + 1)), (by first | rfl | (simp; done) | (simp [*]; done)), (by first | rfl | (simp; done) | (simp [*]; done)), H', ⟨by have := HJ5.out; have := HK2.out; have := HK3.out; omega⟩, ⟨viaR HO_5.out⟩, ⟨viaR HO_369001.out⟩, ⟨viaB BK368.out⟩, ⟨viaX HB.out GE368.out⟩⟩
                ·replace c53 := Bool.eq_false_iff.mpr c53
                 subst c53; have H1 : (if 0 ≤ (wrap64 (x12_2 - 1)) then (if (wrap64 (x12_2 - 1)) < (t369.length : Int) then (if ((rd_T44 t364 x14_3).f0) = (rd t369 (wrap64 (x12_2 - 1))) then (if 0 ≤ x12_2 then (if x12_2 < (t369.length : Int) then (laws_FnFirst.l1 k3 t367 t369 t379 t380 (Go.bits .or .i64 x11_2 (ji36)) x12_2 (((rd_T44 t364 x14_3).f1) == (rd t369 x12_2)) (wrap64 (x14_3 + 1)) t363 t364) else (none)) else (none)) else (laws_FnFirst.l1 k3 t367 t369 t379 t380 (Go.bits .or .i64 x11_2 (ji36)) x12_2 false (wrap64 (x14_3 + 1)) t363 t364)) else (none)) else (none)) = some r := by rw [if_neg (show ¬ (false = true) by decide)] at H; exact H
                 clear H; have H := H1; clear H1; obtain ⟨ji55, hji55⟩ : ∃ j_ : Int, (wrap64 (x12_2 - 1)) = j_ := ⟨_, rfl⟩; replace H : (if 0 ≤ (ji55) then (if (ji55) < (t369.length : Int) then (if ((rd_T44 t364 x14_3).f0) = (rd t369 (ji55)) then (if 0 ≤ x12_2 then (if x12_2 < (t369.length : Int) then (laws_FnFirst.l1 k3 t367 t369 t379 t380 (Go.bits .or .i64 x11_2 (ji36)) x12_2 (((rd_T44 t364 x14_3).f1) == (rd t369 x12_2)) (wrap64 (x14_3 + 1)) t363 t364) else (none)) else (none)) else (laws_FnFirst.l1 k3 t367 t369 t379 t380 (Go.bits .or .i64 x11_2 (ji36)) x12_2 false (wrap64 (x14_3 + 1)) t363 t364)) else (none)) else (none)) = some r := by first | (rw [hji55] at H; exact H) | (simp only [hji55] at H ⊢; exact H)
                 have hji55w : (IntKind.i64.wrap (x12_2 - 1)) = ji55 := (i64_w _).trans hji55
                 by_cases c56 : 0 ≤ (ji55)
                 ·rw [if_pos c56] at H
                  have c56b0 : decide (0 ≤ (ji55)) = true := decide_eq_true c56; clear c56
                  by_cases c57 : (ji55) < (t369.length : Int)
                  ·rw [if_pos c57] at H
                   have c57b0 : decide ((ji55) < (t369.length : Int)) = true := decide_eq_true c57; clear c57
                   by_cases c58 : ((rd_T44 t364 x14_3).f0) = (rd t369 (ji55))
                   ·rw [if_pos c58] at H
                    have c58b0 : (((rd_T44 t364 x14_3).f0) == (rd t369 (ji55))) = true := beq_iff_eq.mpr c58; have c58b1 : (((rd_T44 t364 x14_3).f0) != (rd t369 (ji55))) = false := bne_eq_false_iff_eq.mpr c58; clear c58
                    by_cases c59 : 0 ≤ x12_2
                    ·rw [if_pos c59] at H
                     have c59b0 : decide (0 ≤ x12_2) = true := decide_eq_true c59; clear c59
                     by_cases c60 : x12_2 < (t369.length : Int)
                     ·rw [if_pos c60] at H
                      have c60b0 : decide (x12_2 < (t369.length : Int)) = true := decide_eq_true c60; clear c60; have H' := Aside0.mk H; clear H; have hcz61_0 : wr.cell? ⟨gb368, 0, none⟩ = some (.int .i64 t363) := (blk_cell BK368.out 0).trans rfl; have hcz61_1 : wr.cell? ⟨gb368, 1, none⟩ = some (.slice Ao10 t364.length co10) := (blk_cell BK368.out 1).trans rfl; have hfz61_0 := blk_frozen BK368.out 0; have hfz61_1 := blk_frozen BK368.out 1; have p383 : 0 ≤ (x14_3 : Int) := of_decide_eq_true (by first | (with_reducible assumption) | assumption); have q383 : x14_3 < (t364.length : Int) := of_decide_eq_true (by first | (with_reducible assumption) | assumption); obtain ⟨ad383, e383, hx383_0, hx383_1⟩ := at_T44 (Kd.R_reads' HO_369001.out).2.2 x14_3 p383 q383
                      cases e383
                      replace p383 := eq_true p383; replace q383 := eq_true q383; have p384 : 0 ≤ (x14_3 : Int) := of_decide_eq_true (by first | (with_reducible assumption) | assumption); have q384 : x14_3 < (t364.length : Int) := of_decide_eq_true (by first | (with_reducible assumption) | assumption); obtain ⟨ad384, e384, hx384_0, hx384_1⟩ := at_T44 (Kd.R_reads' HO_369001.out).2.2 x14_3 p384 q384; obtain rfl : ad383 = ad384 := (by injection e384); replace p384 := eq_true p384; replace q384 := eq_true q384; have p389 : 0 ≤ ((ji55) : Int) := of_decide_eq_true (by first | (with_reducible assumption) | assumption); have q389 : (ji55) < (t369.length : Int) := of_decide_eq_true (by first | (with_reducible assumption) | assumption); obtain ⟨ad389, e389, hx389_0⟩ := Kd.at_int (Kd.R_reads' HO_5.out).2.2 (ji55) p389 q389; obtain rfl : ad381 = ad389 := (by injection e389); replace p389 := eq_true p389; replace q389 := eq_true q389; have p390 : 0 ≤ (x12_2 : Int) := of_decide_eq_true (by first | (with_reducible assumption) | assumption); have q390 : x12_2 < (t369.length : Int) := of_decide_eq_true (by first | (with_reducible assumption) | assumption); obtain ⟨ad390, e390, hx390_0⟩ := Kd.at_int (Kd.R_reads' HO_5.out).2.2 x12_2 p390 q390; obtain rfl : ad381 = ad390 := (by injection e390); replace p390 := eq_true p390; replace q390 := eq_true q390
                      go_wp2
                      go_roundg k3
                      case measure => have := HJ5.out; have := HK2.out; have := HK3.out; omega
                      case rel => exact ⟨((((rd_T44 t364 x14_3).f1) == (rd t369 x12_2))), (wrap64 (x14_3 + 1)), (by first | rfl | (simp; done) | (simp [*]; done)), (by first | rfl | (simp; done) | (simp [*]; done)), H', ⟨by have := HJ5.out; have := HK2.out; have := HK3.out; omega⟩, ⟨viaR HO_5.out⟩, ⟨viaR HO_369001.out⟩, ⟨viaB BK368.out⟩, ⟨viaX HB.out GE368.out⟩⟩
                     ·rw [if_neg c60] at H
                      exact absurd H (by simp)
                    ·rw [if_neg c59] at H
                     exact absurd H (by simp)
                   ·rw [if_neg c58] at H
                    have c58b0 : (((rd_T44 t364 x14_3).f0) == (rd t369 (ji55))) = false := beq_eq_false_iff_ne.mpr c58; have c58b1 : (((rd_T44 t364 x14_3).f0) != (rd t369 (ji55))) = true := bne_iff_ne.mpr c58; have H' := Aside0.mk H; clear H; have hcz62_0 : wr.cell? ⟨gb368, 0, none⟩ = some (.int .i64 t363) := (blk_cell BK368.out 0).trans rfl; have hcz62_1 : wr.cell? ⟨gb368, 1, none⟩ = some (.slice Ao10 t364.length co10) := (blk_cell BK368.out 1).trans rfl; have hfz62_0 := blk_frozen BK368.out 0; have hfz62_1 := blk_frozen BK368.out 1; have p383 : 0 ≤ (x14_3 : Int) := of_decide_eq_true (by first | (with_reducible assumption) | assumption); have q383 : x14_3 < (t364.length : Int) := of_decide_eq_true (by first | (with_reducible assumption) | assumption); obtain ⟨ad383, e383, hx383_0, hx383_1⟩ := at_T44 (Kd.R_reads' HO_369001.out).2.2 x14_3 p383 q383
                    cases e383
                    replace p383 := eq_true p383; replace q383 := eq_true q383; have p384 : 0 ≤ (x14_3 : Int) := of_decide_eq_true (by first | (with_reducible assumption) | assumption); have q384 : x14_3 < (t364.length : Int) := of_decide_eq_true (by first | (with_reducible assumption) | assumption); obtain ⟨ad384, e384, hx384_0, hx384_1⟩ := at_T44 (Kd.R_reads' HO_369001.out).2.2 x14_3 p384 q384; obtain rfl : ad383 = ad384 := (by injection e384); replace p384 := eq_true p384; replace q384 := eq_true q384; have p389 : 0 ≤ ((ji55) : Int) := of_decide_eq_true (by first | (with_reducible assumption) | assumption); have q389 : (ji55) < (t369.length : Int) := of_decide_eq_true (by first | (with_reducible assumption) | assumption); obtain ⟨ad389, e389, hx389_0⟩ := Kd.at_int (Kd.R_reads' HO_5.out).2.2 (ji55) p389 q389; obtain rfl : ad381 = ad389 := (by injection e389); replace p389 := eq_true p389; replace q389 := eq_true q389
                    go_wp2
                    go_roundg k3
                    case measure => have := HJ5.out; have := HK2.out; have := HK3.out; omega
                    case rel => exact ⟨(false), (wrap64 (x14_3 + 1)), (by first | rfl | (simp; done) | (simp [*]; done)), (by first | rfl | (simp; done) | (simp [*]; done)), H', ⟨by have := HJ5.out; have := HK2.out; have := HK3.out; omega⟩, ⟨viaR HO_5.out⟩, ⟨viaR HO_369001.out⟩, ⟨viaB BK368.out⟩, ⟨viaX HB.out GE368.out⟩⟩
                  ·rw [if_neg c57] at H
                   exact absurd H (by simp)
                 ·rw [if_neg c56] at H
                  exact absurd H (by simp)
              ·rw [if_neg c39] at H
               exact absurd H (by simp)
             ·rw [if_neg c38] at H
              have c38b0 : decide (x14_3 < (t364.length : Int)) = false := decide_eq_false c38; clear c38
              by_cases c63 : x13_3 = true
              ·subst c63
               have H1 : (laws_FnFirst.l0 k3 t367 t369 t379 t380 (Go.bits .or .i64 x11_2 (ji36)) (wrap64 (x12_2 + 1)) t363 t364) = some r := by rw [if_pos rfl] at H; exact H
               clear H; have H := H1; clear H1; have H' := Aside0.mk H; clear H; have hcz64_0 : wr.cell? ⟨gb368, 0, none⟩ = some (.int .i64 t363) := (blk_cell BK368.out 0).trans rfl; have hcz64_1 : wr.cell? ⟨gb368, 1, none⟩ = some (.slice Ao10 t364.length co10) := (blk_cell BK368.out 1).trans rfl; have hfz64_0 := blk_frozen BK368.out 0; have hfz64_1 := blk_frozen BK368.out 1
               go_wp2
               go_roundg k3
               case measure => have := HJ5.out; have := HK2.out; have := HK3.out; omega
               case rel => exact ⟨((Go.bits .or .i64 x11_2 (ji36))), (wrap64 (x12_2 + 1)), (by first | rfl | (simp; done) | (simp only [← hji36] <;> (first | rfl | simp)) | (simp [*]; done)), (by first | rfl | (simp; done) | (simp [*]; done)), H', ⟨by have := HJ5.out; have := HK2.out; have := HK3.out; omega⟩, ⟨viaR HO_5.out⟩, ⟨viaR HO_369001.out⟩, ⟨viaB BK368.out⟩, ⟨viaX HB.out GE368.out⟩⟩
              ·replace c63 := Bool.eq_false_iff.mpr c63
               subst c63; have H1 : (some false) = some r := by rw [if_neg (show ¬ (false = true) by decide)] at H; exact H
               clear H; have H := H1; clear H1; obtain rfl := Option.some.inj H; have hcz65_0 : wr.cell? ⟨gb368, 0, none⟩ = some (.int .i64 t363) := (blk_cell BK368.out 0).trans rfl; have hcz65_1 : wr.cell? ⟨gb368, 1, none⟩ = some (.slice Ao10 t364.length co10) := (blk_cell BK368.out 1).trans rfl; have hfz65_0 := blk_frozen BK368.out 0; have hfz65_1 := blk_frozen BK368.out 1
               go_wp2
               go_ret
               exact ⟨by first | rfl | (simp [errW_none, errW_some] <;> rfl) | (simp only [← hji32, ← hji36]; first | rfl | (simp [errW_none, errW_some] <;> rfl)) | (simp [*, errW_none, errW_some] <;> rfl), viaX HB.out GE368.out⟩
         ·rw [if_neg c31] at H
          exact absurd H (by simp)
        ·rw [if_neg c30] at H
         exact absurd H (by simp)
       ·rw [if_neg c29] at H
        have c29b0 : decide (x12_2 < (t369.length : Int)) = false := decide_eq_false c29; clear c29
        by_cases c66 : t380 = true
        ·subst c66
         have H1 : (some ((t369.length : Int) == t379)) = some r := by rw [if_pos rfl] at H; exact H
         clear H; have H := H1; clear H1; obtain rfl := Option.some.inj H; obtain ⟨Ao67, co67, eo67⟩ := Kd.R_slice HO_5.out; subst eo67
         go_wp2
         go_ret
         exact ⟨by first | rfl | (simp [errW_none, errW_some] <;> rfl) | (simp [*, errW_none, errW_some] <;> rfl), viaX HB.out GE368.out⟩
        ·replace c66 := Bool.eq_false_iff.mpr c66
         subst c66; have H1 : (some false) = some r := by rw [if_neg (show ¬ (false = true) by decide)] at H; exact H
         clear H; have H := H1; clear H1; obtain rfl := Option.some.inj H; obtain ⟨Ao68, co68, eo68⟩ := Kd.R_slice HO_5.out; subst eo68
         go_wp2
         go_ret
         exact ⟨by first | rfl | (simp [errW_none, errW_some] <;> rfl) | (simp [*, errW_none, errW_some] <;> rfl), viaX HB.out GE368.out⟩

/-- THE ONE PURE STATEMENT of laws_FnFirst: yours. -/
def laws_FnFirst.Pure : Prop := ∀ (l0 : List Int), l0.length ≤ maxLen → l0.length * 1 ≤ 140737488351232 → (∀ x ∈ l0, (Lit.int .u8 x).wf = true) → ∃ k, laws_FnFirst.f k l0 = some true
theorem laws_FnFirst.walk (P : laws_FnFirst.Pure) (a0 : Option Addr) (len0 cap0 : Nat) (z0 : List Int) (w : World) (w0 : (a0 = none ∧ len0 = 0 ∧ cap0 = 0 ∧ z0 = []) ∨ ∃ x, a0 = some x ∧ len0 ≤ cap0 ∧ cap0 ≤ maxLen ∧ z0.length = cap0 ∧ (∀ i, i < z0.length → w.cell? (x.add i) = some (.int .u8 (z0.getD i 0))) ∧ ∀ n ∈ z0, (Lit.int .u8 n).wf = true) (y0 : len0 * 1 ≤ 140737488351232) :
  Calls Try.prog 6 #[.slice a0 len0 cap0] w fun e w' => e = .returned (.bool true) ∧ Below w.heap.size w w' := by
 obtain ⟨l0, rfl, hr0, hm0, hw0, hc0⟩ := ReadsInt.ofRowC w0; obtain ⟨k, h⟩ := P l0 hm0 y0 hw0
 refine (laws_FnFirst.calls k _ _ l0 true w (Kd.C_of_reads (d := (0 : Int)) (h1 := fun _ => rfl) hr0) hc0 h).mono ?_
 rintro e w' ⟨rfl, hd⟩
 exact ⟨rfl, hd⟩

end Go.Proofs.Ytfijegfjpagjoaa.G
