/- For each Go function named below: a plain Lean function of the same name, and the proof that a call of the Go function returns just what the plain function tells, where it tells something. Written by a program of this session with the printer of the kit. -/
import Derived.Test.YtkgfkhhjpipngaaG0
import Derived.Test.YtkgfkhhjpipngaaG29
import Derived.Test.YtkgfkhhjpipngaaG39
import Derived.Test.YtkgfkhhjpipngaaG42
import Derived.Test.YtkgfkhhjpipngaaG44
namespace Go.Proofs.Ytkgfkhhjpipngaa.G
open Go.RowKit Go.Proofs.YtkgfkhhjpipngaaW.PrintWords Go.Proofs.YtkgfkhhjpipngaaW.PrintLast Go.Proofs.YtkgfkhhjpipngaaW.PrintMore
attribute [local go_sem] max2_int min2_int max_two min_two max_three min_three max_four min_four   -- for this text's walks alone
set_option linter.unusedVariables false
set_option linter.unusedSimpArgs false

/-! ### laws_FnExactFlipRounds: function 7 -/
mutual
def laws_FnExactFlipRounds.j0 : Nat → Int → List Int → Bool → List Int → Bool → Bool → Int → List (S96) → Int → List (S68) → Option (Bool)
 | 0, _, _, _, _, _, _, _, _, _, _ => none
 | k + 1, x1, x6, x7, x9, x10, x44, x719000, x719001, x733000, x733001 => if x44 = true then (some false) else ((laws_toGraph.f k x719000 x719001).bind fun bt738 => ((laws_eqGraph.f k x733000 x733001 bt738.1 bt738.2).bind fun t742 => (if t742 = true then ((laws_markGraph.f k x733000 x733001 1).bind fun bt743 => (if bt743.1 < 0 then (laws_FnExactFlipRounds.j1 k x1 x6 x7 x9 true x719000 x719001) else ((laws_eqIntS.f k x9 x6).bind fun t745 => (if t745 = true then (laws_FnExactFlipRounds.j1 k x1 x6 x7 x9 (x10 != x7) x719000 x719001) else (laws_FnExactFlipRounds.j1 k x1 x6 x7 x9 true x719000 x719001))))) else (some false))))
def laws_FnExactFlipRounds.j1 : Nat → Int → List Int → Bool → List Int → Bool → Int → List (S96) → Option (Bool)
 | 0, _, _, _, _, _, _, _ => none
 | k + 1, x1, x6, x7, x9, x65, x719000, x719001 => if x65 = true then (some false) else ((laws_markIntS.f k x9 1).bind fun bt746 => ((laws_heldIntS.f k bt746.2 1).bind fun t748 => (if t748 < 0 then (some false) else (if t748 = bt746.1 then ((laws_toGraph.f k x719000 x719001).bind fun bt749 => ((impl_FlipRounds.f k bt749.1 bt749.2 x1).bind fun bt753 => ((laws_eqIntS.f k bt753.1 x6).bind fun t757 => (if t757 = true then (laws_FnExactFlipRounds.j2 k bt746.2 bt746.1 (bt753.2 != x7)) else (laws_FnExactFlipRounds.j2 k bt746.2 bt746.1 true))))) else (some false)))))
def laws_FnExactFlipRounds.j2 : Nat → List Int → Int → Bool → Option (Bool)
 | 0, _, _, _ => none
 | k + 1, x9, x12, x92 => if x92 = true then (some false) else ((laws_heldIntS.f k x9 1).bind fun t758 => (if t758 < 0 then (some false) else (if t758 = x12 then (some true) else (some false))))
end
def laws_FnExactFlipRounds.f (k : Nat) (a0_0 : Int) (l0_1 : List (S96)) (a1 : Int) : Option (Bool) := (laws_szGraph.f a0_0 l0_1 1048576).bind fun t719 => (if t719 < 0 then (some true) else ((laws_toGraph.f k a0_0 l0_1).bind fun bt720 => ((spec_FlipRounds.f k bt720.1 bt720.2 a1).bind fun bt724 => ((laws_toGraph.f k a0_0 l0_1).bind fun bt728 => ((impl_FlipRounds.f k bt728.1 bt728.2 a1).bind fun bt733 => ((laws_eqIntS.f k bt733.1 bt724.1).bind fun t737 => (if t737 = true then (laws_FnExactFlipRounds.j0 k a1 bt724.1 bt724.2 bt733.1 bt733.2 (bt733.2 != bt724.2) a0_0 l0_1 bt728.1 bt728.2) else (laws_FnExactFlipRounds.j0 k a1 bt724.1 bt724.2 bt733.1 bt733.2 true a0_0 l0_1 bt728.1 bt728.2))))))))
theorem laws_FnExactFlipRounds.mono_l : ∀ k, (∀ y0 y1 y2 y3 y4 y5 y6 y7 y8 y9, LeO (laws_FnExactFlipRounds.j0 k y0 y1 y2 y3 y4 y5 y6 y7 y8 y9) (laws_FnExactFlipRounds.j0 (k + 1) y0 y1 y2 y3 y4 y5 y6 y7 y8 y9)) ∧ (∀ y0 y1 y2 y3 y4 y5 y6, LeO (laws_FnExactFlipRounds.j1 k y0 y1 y2 y3 y4 y5 y6) (laws_FnExactFlipRounds.j1 (k + 1) y0 y1 y2 y3 y4 y5 y6)) ∧ (∀ y0 y1 y2, LeO (laws_FnExactFlipRounds.j2 k y0 y1 y2) (laws_FnExactFlipRounds.j2 (k + 1) y0 y1 y2))
 | 0 => ⟨fun _ _ _ _ _ _ _ _ _ _ r h => by simp [laws_FnExactFlipRounds.j0] at h, fun _ _ _ _ _ _ _ r h => by simp [laws_FnExactFlipRounds.j1] at h, fun _ _ _ r h => by simp [laws_FnExactFlipRounds.j2] at h⟩
 | k + 1 => by
  obtain ⟨ih0, ih1, ih2⟩ := laws_FnExactFlipRounds.mono_l k
  refine ⟨?_, ?_, ?_⟩
  ·intro y0 y1 y2 y3 y4 y5 y6 y7 y8 y9
   unfold laws_FnExactFlipRounds.j0
   repeat' first
   | (with_reducible exact ih0 _ _ _ _ _ _ _ _ _ _)
   | (with_reducible exact ih1 _ _ _ _ _ _ _)
   | (with_reducible exact ih2 _ _ _)
   | (with_reducible exact impl_FlipRounds.mono _ _ _ _)
   | (with_reducible exact laws_eqGraph.mono _ _ _ _ _)
   | (with_reducible exact laws_eqIntS.mono _ _ _)
   | (with_reducible exact laws_heldIntS.mono _ _ _)
   | (with_reducible exact laws_markGraph.mono _ _ _ _)
   | (with_reducible exact laws_markIntS.mono _ _ _)
   | (with_reducible exact laws_toGraph.mono _ _ _)
   | (with_reducible exact spec_FlipRounds.mono _ _ _ _)
   | (with_reducible exact LeO.refl _)
   | (with_reducible exact LeO.none _)
   | (with_reducible refine LeO.ite ?_ ?_)
   | (with_reducible refine LeO.bind ?_ (fun _ => ?_))
   | exact ih0 _ _ _ _ _ _ _ _ _ _
   | exact ih1 _ _ _ _ _ _ _
   | exact ih2 _ _ _
   | exact impl_FlipRounds.mono _ _ _ _
   | exact laws_eqGraph.mono _ _ _ _ _
   | exact laws_eqIntS.mono _ _ _
   | exact laws_heldIntS.mono _ _ _
   | exact laws_markGraph.mono _ _ _ _
   | exact laws_markIntS.mono _ _ _
   | exact laws_toGraph.mono _ _ _
   | exact spec_FlipRounds.mono _ _ _ _
   | exact LeO.none _
   | refine LeO.ite ?_ ?_
   | refine LeO.bind ?_ (fun _ => ?_)
  ·intro y0 y1 y2 y3 y4 y5 y6
   unfold laws_FnExactFlipRounds.j1
   repeat' first
   | (with_reducible exact ih0 _ _ _ _ _ _ _ _ _ _)
   | (with_reducible exact ih1 _ _ _ _ _ _ _)
   | (with_reducible exact ih2 _ _ _)
   | (with_reducible exact impl_FlipRounds.mono _ _ _ _)
   | (with_reducible exact laws_eqGraph.mono _ _ _ _ _)
   | (with_reducible exact laws_eqIntS.mono _ _ _)
   | (with_reducible exact laws_heldIntS.mono _ _ _)
   | (with_reducible exact laws_markGraph.mono _ _ _ _)
   | (with_reducible exact laws_markIntS.mono _ _ _)
   | (with_reducible exact laws_toGraph.mono _ _ _)
   | (with_reducible exact spec_FlipRounds.mono _ _ _ _)
   | (with_reducible exact LeO.refl _)
   | (with_reducible exact LeO.none _)
   | (with_reducible refine LeO.ite ?_ ?_)
   | (with_reducible refine LeO.bind ?_ (fun _ => ?_))
   | exact ih0 _ _ _ _ _ _ _ _ _ _
   | exact ih1 _ _ _ _ _ _ _
   | exact ih2 _ _ _
   | exact impl_FlipRounds.mono _ _ _ _
   | exact laws_eqGraph.mono _ _ _ _ _
   | exact laws_eqIntS.mono _ _ _
   | exact laws_heldIntS.mono _ _ _
   | exact laws_markGraph.mono _ _ _ _
   | exact laws_markIntS.mono _ _ _
   | exact laws_toGraph.mono _ _ _
   | exact spec_FlipRounds.mono _ _ _ _
   | exact LeO.none _
   | refine LeO.ite ?_ ?_
   | refine LeO.bind ?_ (fun _ => ?_)
  ·intro y0 y1 y2
   unfold laws_FnExactFlipRounds.j2
   repeat' first
   | (with_reducible exact ih0 _ _ _ _ _ _ _ _ _ _)
   | (with_reducible exact ih1 _ _ _ _ _ _ _)
   | (with_reducible exact ih2 _ _ _)
   | (with_reducible exact impl_FlipRounds.mono _ _ _ _)
   | (with_reducible exact laws_eqGraph.mono _ _ _ _ _)
   | (with_reducible exact laws_eqIntS.mono _ _ _)
   | (with_reducible exact laws_heldIntS.mono _ _ _)
   | (with_reducible exact laws_markGraph.mono _ _ _ _)
   | (with_reducible exact laws_markIntS.mono _ _ _)
   | (with_reducible exact laws_toGraph.mono _ _ _)
   | (with_reducible exact spec_FlipRounds.mono _ _ _ _)
   | (with_reducible exact LeO.refl _)
   | (with_reducible exact LeO.none _)
   | (with_reducible refine LeO.ite ?_ ?_)
   | (with_reducible refine LeO.bind ?_ (fun _ => ?_))
   | exact ih0 _ _ _ _ _ _ _ _ _ _
   | exact ih1 _ _ _ _ _ _ _
   | exact ih2 _ _ _
   | exact impl_FlipRounds.mono _ _ _ _
   | exact laws_eqGraph.mono _ _ _ _ _
   | exact laws_eqIntS.mono _ _ _
   | exact laws_heldIntS.mono _ _ _
   | exact laws_markGraph.mono _ _ _ _
   | exact laws_markIntS.mono _ _ _
   | exact laws_toGraph.mono _ _ _
   | exact spec_FlipRounds.mono _ _ _ _
   | exact LeO.none _
   | refine LeO.ite ?_ ?_
   | refine LeO.bind ?_ (fun _ => ?_)
theorem laws_FnExactFlipRounds.mono : ∀ a0 a1 a2 k, LeO (laws_FnExactFlipRounds.f k a0 a1 a2) (laws_FnExactFlipRounds.f (k + 1) a0 a1 a2) := by
 intro a0 a1 a2 k; obtain ⟨ih0, ih1, ih2⟩ := laws_FnExactFlipRounds.mono_l k
 unfold laws_FnExactFlipRounds.f
 repeat' first
   | (with_reducible exact ih0 _ _ _ _ _ _ _ _ _ _)
   | (with_reducible exact ih1 _ _ _ _ _ _ _)
   | (with_reducible exact ih2 _ _ _)
   | (with_reducible exact impl_FlipRounds.mono _ _ _ _)
   | (with_reducible exact laws_eqGraph.mono _ _ _ _ _)
   | (with_reducible exact laws_eqIntS.mono _ _ _)
   | (with_reducible exact laws_heldIntS.mono _ _ _)
   | (with_reducible exact laws_markGraph.mono _ _ _ _)
   | (with_reducible exact laws_markIntS.mono _ _ _)
   | (with_reducible exact laws_toGraph.mono _ _ _)
   | (with_reducible exact spec_FlipRounds.mono _ _ _ _)
   | (with_reducible exact LeO.refl _)
   | (with_reducible exact LeO.none _)
   | (with_reducible refine LeO.ite ?_ ?_)
   | (with_reducible refine LeO.bind ?_ (fun _ => ?_))
   | exact ih0 _ _ _ _ _ _ _ _ _ _
   | exact ih1 _ _ _ _ _ _ _
   | exact ih2 _ _ _
   | exact impl_FlipRounds.mono _ _ _ _
   | exact laws_eqGraph.mono _ _ _ _ _
   | exact laws_eqIntS.mono _ _ _
   | exact laws_heldIntS.mono _ _ _
   | exact laws_markGraph.mono _ _ _ _
   | exact laws_markIntS.mono _ _ _
   | exact laws_toGraph.mono _ _ _
   | exact spec_FlipRounds.mono _ _ _ _
   | exact LeO.none _
   | refine LeO.ite ?_ ?_
   | refine LeO.bind ?_ (fun _ => ?_)
set_option maxHeartbeats 8000000 in
set_option maxRecDepth 100000 in
theorem laws_FnExactFlipRounds.calls (k : Nat) (a0_0 : Int) (A0_1 : Option Addr) (c0_1 : Nat) (l0_1 : List (S96)) (a1 : Int) (r : Bool) (w : World) (hr0_1 : Kd.C k96 w A0_1 l0_1.length l0_1) (hc0_1 : l0_1.length ≤ c0_1) (h : laws_FnExactFlipRounds.f k a0_0 l0_1 a1 = some r) :
  Calls Try.prog 7 #[.agg #[.int .i64 a0_0, .slice A0_1 l0_1.length c0_1], .int .i64 a1] w fun e w' => e = .returned (.bool r) ∧ Below w.heap.size w w' := by
 have hu41 := Try.underlying41; have hu25 := Try.underlying25; have HR0_1 := Aside0.mk hr0_1; have HC0_1 := Aside0.mk hc0_1; clear hr0_1 hc0_1; have HB := Aside0.mk (Below.refl w.heap.size w); have H : ((laws_szGraph.f a0_0 l0_1 1048576).bind fun t719 => (if t719 < 0 then (some true) else ((laws_toGraph.f k a0_0 l0_1).bind fun bt720 => ((spec_FlipRounds.f k bt720.1 bt720.2 a1).bind fun bt724 => ((laws_toGraph.f k a0_0 l0_1).bind fun bt728 => ((impl_FlipRounds.f k bt728.1 bt728.2 a1).bind fun bt733 => ((laws_eqIntS.f k bt733.1 bt724.1).bind fun t737 => (if t737 = true then (laws_FnExactFlipRounds.j0 k a1 bt724.1 bt724.2 bt733.1 bt733.2 (bt733.2 != bt724.2) a0_0 l0_1 bt728.1 bt728.2) else (laws_FnExactFlipRounds.j0 k a1 bt724.1 bt724.2 bt733.1 bt733.2 true a0_0 l0_1 bt728.1 bt728.2))))))))) = some r := h; clear h; replace H := Option.bind_eq_some_iff.mp H; obtain ⟨t719, A30, H⟩ := H; replace H : (if t719 < 0 then (some true) else ((laws_toGraph.f k a0_0 l0_1).bind fun bt720 => ((spec_FlipRounds.f k bt720.1 bt720.2 a1).bind fun bt724 => ((laws_toGraph.f k a0_0 l0_1).bind fun bt728 => ((impl_FlipRounds.f k bt728.1 bt728.2 a1).bind fun bt733 => ((laws_eqIntS.f k bt733.1 bt724.1).bind fun t737 => (if t737 = true then (laws_FnExactFlipRounds.j0 k a1 bt724.1 bt724.2 bt733.1 bt733.2 (bt733.2 != bt724.2) a0_0 l0_1 bt728.1 bt728.2) else (laws_FnExactFlipRounds.j0 k a1 bt724.1 bt724.2 bt733.1 bt733.2 true a0_0 l0_1 bt728.1 bt728.2)))))))) = some r := H; have A3 := Aside0.mk A30; clear A30
 by_cases c4 : t719 < 0
 ·rw [if_pos c4] at H
  have c4b0 : decide (t719 < 0) = true := decide_eq_true c4; clear c4; obtain rfl := Option.some.inj H
  go_enter Try.func7, Try.ntmps7
  go_wp2_with (first | ((with_reducible refine gate_dst (N := 2) rfl ?_); refine box_event ?hg (N := 2) ?hd (cs := #[.int .i64 a0_0, .slice A0_1 l0_1.length c0_1]) (t := 41) ?hr ?_; (case hd => rfl); (case hg => rfl); (case hr => first | (go_simp; done) | (go_simp; rfl)); intro gb718 hg w5 hbox hb; have n0_ := Aside0.mk (below_step (viaW HB.out) hb); have n1_ := Aside0.mk (hbox); have n2_ := Aside0.mk ((by rw [hg]; exact (below_size (viaW HB.out)) : w.heap.size ≤ gb718)); have n3_ := Aside0.mk ((by rw [hg]; exact (below_size (viaW HB.out)) : w.heap.size ≤ gb718)); clear HB; have HB := n0_; have BK718 := n1_; have GW718 := n2_; have GE718 := n3_; clear n0_ n1_ n2_ n3_; clear hb hbox hg; have hcz6_0 : w5.cell? ⟨gb718, 0, none⟩ = some (.int .i64 a0_0) := (blk_cell BK718.out 0).trans rfl; have hcz6_1 : w5.cell? ⟨gb718, 1, none⟩ = some (.slice A0_1 l0_1.length c0_1) := (blk_cell BK718.out 1).trans rfl; have hfz6_0 := blk_frozen BK718.out 0; have hfz6_1 := blk_frozen BK718.out 1) | ((with_reducible refine gate_callee (f := 31) rfl ?_); refine goesL_ (some 18) rfl rfl Try.func31 (by kernel_rfl) rfl #[.agg #[.int .i64 a0_0, .slice A0_1 l0_1.length c0_1], .int .i64 1048576] rfl (by (try simp only [List.map_toArray, List.map_cons, List.map_nil]); first | done | rfl | (simp only [List.length_drop, List.length_take]; rfl)) ?_; (with_reducible refine (laws_szGraph.calls a0_0 _ _ l0_1 1048576 t719 _ ?side1 ?side2 A3.out).mono ?_); (case side1 => repeat (first | exact (Kd.C_below HR0_1.out HB.out) | (with_reducible refine Kd.C_alloc ?_ _) | (with_reducible refine Kd.C_drewN ?_ _) | (with_reducible refine Kd.C_drew ?_))); (case side2 => exact HC0_1.out); rintro e w7 ⟨rfl, hb⟩; refine ⟨_, rfl, ?_⟩; have n0_ := Aside0.mk (blk_below (g := gb718) (o := .cells #[.int .i64 a0_0, .slice A0_1 l0_1.length c0_1] 41 (0, 0)) (viaB BK718.out) hb); have n1_ := Aside0.mk (below_step (viaX HB.out GE718.out) hb); clear BK718; clear HB; have BK718 := n0_; have HB := n1_; clear n0_ n1_; (try clear hb); (try clear hb2); (try clear hk); (try clear hi)))
  go_ret
  exact ⟨by first | rfl | (simp [errW_none, errW_some] <;> rfl) | (simp [*, errW_none, errW_some] <;> rfl), viaX HB.out GE718.out⟩
 ·rw [if_neg c4] at H
  have c4b0 : decide (t719 < 0) = false := decide_eq_false c4; clear c4; replace H := Option.bind_eq_some_iff.mp H; obtain ⟨⟨t720, t721⟩, A80, H⟩ := H; replace H : ((spec_FlipRounds.f k t720 t721 a1).bind fun bt724 => ((laws_toGraph.f k a0_0 l0_1).bind fun bt728 => ((impl_FlipRounds.f k bt728.1 bt728.2 a1).bind fun bt733 => ((laws_eqIntS.f k bt733.1 bt724.1).bind fun t737 => (if t737 = true then (laws_FnExactFlipRounds.j0 k a1 bt724.1 bt724.2 bt733.1 bt733.2 (bt733.2 != bt724.2) a0_0 l0_1 bt728.1 bt728.2) else (laws_FnExactFlipRounds.j0 k a1 bt724.1 bt724.2 bt733.1 bt733.2 true a0_0 l0_1 bt728.1 bt728.2)))))) = some r := H; have A8 := Aside0.mk A80; clear A80; replace H := Option.bind_eq_some_iff.mp H; obtain ⟨⟨t724, t727⟩, A90, H⟩ := H; replace H : ((laws_toGraph.f k a0_0 l0_1).bind fun bt728 => ((impl_FlipRounds.f k bt728.1 bt728.2 a1).bind fun bt733 => ((laws_eqIntS.f k bt733.1 t724).bind fun t737 => (if t737 = true then (laws_FnExactFlipRounds.j0 k a1 t724 t727 bt733.1 bt733.2 (bt733.2 != t727) a0_0 l0_1 bt728.1 bt728.2) else (laws_FnExactFlipRounds.j0 k a1 t724 t727 bt733.1 bt733.2 true a0_0 l0_1 bt728.1 bt728.2))))) = some r := H; have A9 := Aside0.mk A90; clear A90; replace H := Option.bind_eq_some_iff.mp H; obtain ⟨⟨t728, t729⟩, A100, H⟩ := H; replace H : ((impl_FlipRounds.f k t728 t729 a1).bind fun bt733 => ((laws_eqIntS.f k bt733.1 t724).bind fun t737 => (if t737 = true then (laws_FnExactFlipRounds.j0 k a1 t724 t727 bt733.1 bt733.2 (bt733.2 != t727) a0_0 l0_1 t728 t729) else (laws_FnExactFlipRounds.j0 k a1 t724 t727 bt733.1 bt733.2 true a0_0 l0_1 t728 t729)))) = some r := H; have A10 := Aside0.mk A100; clear A100; replace H := Option.bind_eq_some_iff.mp H; obtain ⟨⟨t733, t736⟩, A110, H⟩ := H; replace H : ((laws_eqIntS.f k t733 t724).bind fun t737 => (if t737 = true then (laws_FnExactFlipRounds.j0 k a1 t724 t727 t733 t736 (t736 != t727) a0_0 l0_1 t728 t729) else (laws_FnExactFlipRounds.j0 k a1 t724 t727 t733 t736 true a0_0 l0_1 t728 t729))) = some r := H; have A11 := Aside0.mk A110; clear A110; have HC12 := Aside0.mk H; clear H
  go_enter Try.func7, Try.ntmps7
  go_upto_region 8 with (first | ((with_reducible refine gate_dst (N := 2) rfl ?_); refine box_event ?hg (N := 2) ?hd (cs := #[.int .i64 a0_0, .slice A0_1 l0_1.length c0_1]) (t := 41) ?hr ?_; (case hd => rfl); (case hg => rfl); (case hr => first | (go_simp; done) | (go_simp; rfl)); intro gb718 hg w13 hbox hb; have n0_ := Aside0.mk (below_step (viaW HB.out) hb); have n1_ := Aside0.mk (hbox); have n2_ := Aside0.mk ((by rw [hg]; exact (below_size (viaW HB.out)) : w.heap.size ≤ gb718)); have n3_ := Aside0.mk ((by rw [hg]; exact (below_size (viaW HB.out)) : w.heap.size ≤ gb718)); clear HB; have HB := n0_; have BK718 := n1_; have GW718 := n2_; have GE718 := n3_; clear n0_ n1_ n2_ n3_; clear hb hbox hg; have hcz14_0 : w13.cell? ⟨gb718, 0, none⟩ = some (.int .i64 a0_0) := (blk_cell BK718.out 0).trans rfl; have hcz14_1 : w13.cell? ⟨gb718, 1, none⟩ = some (.slice A0_1 l0_1.length c0_1) := (blk_cell BK718.out 1).trans rfl; have hfz14_0 := blk_frozen BK718.out 0; have hfz14_1 := blk_frozen BK718.out 1) | ((with_reducible refine gate_callee (f := 31) rfl ?_); refine goesL_ (some 18) rfl rfl Try.func31 (by kernel_rfl) rfl #[.agg #[.int .i64 a0_0, .slice A0_1 l0_1.length c0_1], .int .i64 1048576] rfl (by (try simp only [List.map_toArray, List.map_cons, List.map_nil]); first | done | rfl | (simp only [List.length_drop, List.length_take]; rfl)) ?_; (with_reducible refine (laws_szGraph.calls a0_0 _ _ l0_1 1048576 t719 _ ?side1 ?side2 A3.out).mono ?_); (case side1 => repeat (first | exact (Kd.C_below HR0_1.out HB.out) | (with_reducible refine Kd.C_alloc ?_ _) | (with_reducible refine Kd.C_drewN ?_ _) | (with_reducible refine Kd.C_drew ?_))); (case side2 => exact HC0_1.out); rintro e w15 ⟨rfl, hb⟩; refine ⟨_, rfl, ?_⟩; have n0_ := Aside0.mk (blk_below (g := gb718) (o := .cells #[.int .i64 a0_0, .slice A0_1 l0_1.length c0_1] 41 (0, 0)) (viaB BK718.out) hb); have n1_ := Aside0.mk (below_step (viaX HB.out GE718.out) hb); clear BK718; clear HB; have BK718 := n0_; have HB := n1_; clear n0_ n1_; (try clear hb); (try clear hb2); (try clear hk); (try clear hi); have hcz16_0 : w15.cell? ⟨gb718, 0, none⟩ = some (.int .i64 a0_0) := (blk_cell BK718.out 0).trans rfl; have hcz16_1 : w15.cell? ⟨gb718, 1, none⟩ = some (.slice A0_1 l0_1.length c0_1) := (blk_cell BK718.out 1).trans rfl; have hfz16_0 := blk_frozen BK718.out 0; have hfz16_1 := blk_frozen BK718.out 1) | ((with_reducible refine gate_callee (f := 33) rfl ?_); refine goesL_ (some 23) rfl rfl Try.func33 (by kernel_rfl) rfl #[.agg #[.int .i64 a0_0, .slice A0_1 l0_1.length c0_1]] rfl (by (try simp only [List.map_toArray, List.map_cons, List.map_nil]); first | done | rfl | (simp only [List.length_drop, List.length_take]; rfl)) ?_; (with_reducible refine (laws_toGraph.calls k a0_0 _ _ l0_1 t720 t721 _ ?side1 ?side2 A8.out).mono ?_); (case side1 => repeat (first | exact (Kd.C_below HR0_1.out HB.out) | (with_reducible refine Kd.C_alloc ?_ _) | (with_reducible refine Kd.C_drewN ?_ _) | (with_reducible refine Kd.C_drew ?_))); (case side2 => exact HC0_1.out); rintro e w17 ⟨v722, rfl, ho0, hb⟩; refine ⟨_, rfl, ?_⟩; have n0_ := Aside0.mk (Kd.R_lower ho0 (below_size (viaX HB.out GE718.out))); have n1_ := Aside0.mk (blk_below (g := gb718) (o := .cells #[.int .i64 a0_0, .slice A0_1 l0_1.length c0_1] 41 (0, 0)) (viaB BK718.out) hb); have n2_ := Aside0.mk (below_step (viaX HB.out GE718.out) hb); clear BK718; clear HB; have HO723 := n0_; have BK718 := n1_; have HB := n2_; clear n0_ n1_ n2_; (try clear hb); (try clear hb2); (try clear hk); (try clear hi); (try clear ho0); obtain ⟨Ao18, co18, eo18⟩ := Kd.R_slice HO723.out; subst eo18) | ((with_reducible refine gate_callee (f := 40) rfl ?_); refine goesL_ (some 25) rfl rfl Try.func40 (by kernel_rfl) rfl #[.agg #[.int .i64 t720, .slice Ao18 t721.length co18], .int .i64 a1] rfl (by (try simp only [List.map_toArray, List.map_cons, List.map_nil]); first | done | rfl | (simp only [List.length_drop, List.length_take]; rfl)) ?_; (with_reducible refine (spec_FlipRounds.calls k t720 _ _ t721 a1 t724 t727 _ ?side1 ?side2 A9.out).mono ?_); (case side1 => repeat (first | exact (Kd.R_reads' HO723.out).2.2 | (with_reducible refine Kd.C_alloc ?_ _) | (with_reducible refine Kd.C_drewN ?_ _) | (with_reducible refine Kd.C_drew ?_))); (case side2 => exact (Kd.R_reads' HO723.out).2.1); rintro e w19 ⟨v725, rfl, ho0, hb⟩; refine ⟨_, rfl, ?_⟩; have n0_ := Aside0.mk (Kd.R_below (viaR HO723.out) hb); have n1_ := Aside0.mk (Kd.R_lower ho0 (below_size (viaX HB.out GE718.out))); have n2_ := Aside0.mk (blk_below (g := gb718) (o := .cells #[.int .i64 a0_0, .slice A0_1 l0_1.length c0_1] 41 (0, 0)) (viaB BK718.out) hb); have n3_ := Aside0.mk (below_step (viaX HB.out GE718.out) hb); clear HO723; clear BK718; clear HB; have HO723 := n0_; have HO726 := n1_; have BK718 := n2_; have HB := n3_; clear n0_ n1_ n2_ n3_; (try clear hb); (try clear hb2); (try clear hk); (try clear hi); (try clear ho0); have hcz20_0 : w19.cell? ⟨gb718, 0, none⟩ = some (.int .i64 a0_0) := (blk_cell BK718.out 0).trans rfl; have hcz20_1 : w19.cell? ⟨gb718, 1, none⟩ = some (.slice A0_1 l0_1.length c0_1) := (blk_cell BK718.out 1).trans rfl; have hfz20_0 := blk_frozen BK718.out 0; have hfz20_1 := blk_frozen BK718.out 1) | ((with_reducible refine gate_callee (f := 33) rfl ?_); refine goesL_ (some 29) rfl rfl Try.func33 (by kernel_rfl) rfl #[.agg #[.int .i64 a0_0, .slice A0_1 l0_1.length c0_1]] rfl (by (try simp only [List.map_toArray, List.map_cons, List.map_nil]); first | done | rfl | (simp only [List.length_drop, List.length_take]; rfl)) ?_; (with_reducible refine (laws_toGraph.calls k a0_0 _ _ l0_1 t728 t729 _ ?side1 ?side2 A10.out).mono ?_); (case side1 => repeat (first | exact (Kd.C_below HR0_1.out HB.out) | (with_reducible refine Kd.C_alloc ?_ _) | (with_reducible refine Kd.C_drewN ?_ _) | (with_reducible refine Kd.C_drew ?_))); (case side2 => exact HC0_1.out); rintro e w21 ⟨v730, rfl, ho0, hb⟩; refine ⟨_, rfl, ?_⟩; have n0_ := Aside0.mk (Kd.R_elder' (viaR HO723.out) (Kd.R_base ho0) hb); have n1_ := Aside0.mk (Kd.R_below (viaR HO726.out) hb); have n2_ := Aside0.mk (Kd.R_lower (Kd.R_new' ho0 (Kd.R_lt (viaR HO723.out))) (below_size (viaX HB.out GE718.out))); have n3_ := Aside0.mk (blk_below (g := gb718) (o := .cells #[.int .i64 a0_0, .slice A0_1 l0_1.length c0_1] 41 (0, 0)) (viaB BK718.out) hb); have n4_ := Aside0.mk (below_step (viaX HB.out GE718.out) hb); clear HO723; clear HO726; clear BK718; clear HB; have HO723 := n0_; have HO726 := n1_; have HO731 := n2_; have BK718 := n3_; have HB := n4_; clear n0_ n1_ n2_ n3_ n4_; (try clear hb); (try clear hb2); (try clear hk); (try clear hi); (try clear ho0)) | ((with_reducible refine gate_dst (N := 8) rfl ?_); refine box_event ?hg (N := 8) ?hd (cs := #[.int .i64 0, .slice none 0 0]) (t := 25) ?hr ?_; (case hd => rfl); (case hg => rfl); (case hr => first | (go_simp; done) | (go_simp; rfl)); intro gb732 hg w22 hbox hb; have n0_ := Aside0.mk (Kd.R_below (viaR HO723.out) hb); have n1_ := Aside0.mk (Kd.R_below (viaR HO726.out) hb); have n2_ := Aside0.mk (Kd.R_below (viaR HO731.out) hb); have n3_ := Aside0.mk (blk_below (g := gb718) (o := .cells #[.int .i64 a0_0, .slice A0_1 l0_1.length c0_1] 41 (0, 0)) (viaB BK718.out) hb); have n4_ := Aside0.mk (below_step (viaX HB.out GE718.out) hb); have n5_ := Aside0.mk (hbox); have n6_ := Aside0.mk ((by rw [hg]; exact (below_size (viaX HB.out GE718.out)) : w.heap.size ≤ gb732)); have n7_ := Aside0.mk ((by rw [hg]; exact (below_size (viaX HB.out GE718.out)) : w.heap.size ≤ gb732)); have n8_ := Aside0.mk ((by rw [hg]; exact Nat.ne_of_lt (blk_lt (g := gb718) (o := .cells #[.int .i64 a0_0, .slice A0_1 l0_1.length c0_1] 41 (0, 0)) (viaB BK718.out)) : gb718 ≠ gb732)); have n9_ := Aside0.mk ((by rw [hg]; exact Nat.ne_of_gt (blk_lt (g := gb718) (o := .cells #[.int .i64 a0_0, .slice A0_1 l0_1.length c0_1] 41 (0, 0)) (viaB BK718.out)) : gb732 ≠ gb718)); clear HO723; clear HO726; clear HO731; clear BK718; clear HB; have HO723 := n0_; have HO726 := n1_; have HO731 := n2_; have BK718 := n3_; have HB := n4_; have BK732 := n5_; have GW732 := n6_; have GE732 := n7_; have NB718_732 := n8_; have NB732_718 := n9_; clear n0_ n1_ n2_ n3_ n4_ n5_ n6_ n7_ n8_ n9_; clear hb hbox hg; have hnb23 := NB732_718.out; have hnc23 := NB718_732.out; have hcz24_0 : w22.cell? ⟨gb732, 0, none⟩ = some (.int .i64 0) := (blk_cell BK732.out 0).trans rfl; have hcz24_1 : w22.cell? ⟨gb732, 1, none⟩ = some (.slice none 0 0) := (blk_cell BK732.out 1).trans rfl; have hfz24_0 := blk_frozen BK732.out 0; have hfz24_1 := blk_frozen BK732.out 1; obtain ⟨Ao25, co25, eo25⟩ := Kd.R_slice HO731.out; subst eo25) | ((with_reducible refine gate_callee (f := 41) rfl ?_); refine goesL_ (some 33) rfl rfl Try.func41 (by kernel_rfl) rfl #[.agg #[.int .i64 t728, .slice Ao25 t729.length co25], .int .i64 a1] rfl (by (try simp only [List.map_toArray, List.map_cons, List.map_nil]); first | done | rfl | (simp only [List.length_drop, List.length_take]; rfl)) ?_; (with_reducible refine (impl_FlipRounds.calls k t728 _ _ t729 a1 t733 t736 _ ?side1 ?side2 A11.out).mono ?_); (case side1 => refine (Kd.R_reads' (e := 68) (base := w.heap.size) (ok := fun k_ => (True ∧ some k_ ≠ (.slice Ao18 t721.length co18 : Value).ownBlock)) (n := t729.length) (c := co25) ?_).2.2; exact (by (with_reducible repeat (first | apply Kd.R_alloc | apply Kd.R_drewN | apply Kd.R_drew)); exact (Kd.R_mono (Kd.R_far (p := ⟨gb732, 1, none⟩) (Kd.R_far (p := ⟨gb732, 0, none⟩) (Kd.R_types HO731.out BK732.out (by decide)) (fun _ hk => hk.2) (.int .i64 t728)) (fun _ hk => hk.2) (.slice Ao25 t729.length co25)) (fun _ h_ => h_.1)))); (case side2 => exact (Kd.R_reads' HO731.out).2.1); rintro e w26 ⟨v734, rfl, ho0, hb⟩; refine ⟨_, rfl, ?_⟩; have n0_ := Aside0.mk (Kd.R_below (by (with_reducible repeat (first | apply Kd.R_alloc | apply Kd.R_drewN | apply Kd.R_drew)); exact (Kd.R_mono (Kd.R_far (p := ⟨gb732, 1, none⟩) (Kd.R_far (p := ⟨gb732, 0, none⟩) (Kd.R_types HO723.out BK732.out (by decide)) (fun _ hk => hk.2) (.int .i64 t728)) (fun _ hk => hk.2) (.slice Ao25 t729.length co25)) (fun _ h_ => h_.1))) hb); have n1_ := Aside0.mk (Kd.R_elder' (by (with_reducible repeat (first | apply Kd.R_alloc | apply Kd.R_drewN | apply Kd.R_drew)); exact (Kd.R_mono (Kd.R_far (p := ⟨gb732, 1, none⟩) (Kd.R_far (p := ⟨gb732, 0, none⟩) (Kd.R_types HO726.out BK732.out (by decide)) (fun _ hk => hk.2) (.int .i64 t728)) (fun _ hk => hk.2) (.slice Ao25 t729.length co25)) (fun _ h_ => h_.1))) (Kd.R_base ho0) hb); have n2_ := Aside0.mk (Kd.R_below (by (with_reducible repeat (first | apply Kd.R_alloc | apply Kd.R_drewN | apply Kd.R_drew)); exact (Kd.R_mono (Kd.R_far (p := ⟨gb732, 1, none⟩) (Kd.R_far (p := ⟨gb732, 0, none⟩) (Kd.R_types HO731.out BK732.out (by decide)) (fun _ hk => hk.2) (.int .i64 t728)) (fun _ hk => hk.2) (.slice Ao25 t729.length co25)) (fun _ h_ => h_.1))) hb); have n3_ := Aside0.mk (Kd.R_lower (Kd.R_new' ho0 (Kd.R_lt (by (with_reducible repeat (first | apply Kd.R_alloc | apply Kd.R_drewN | apply Kd.R_drew)); exact (Kd.R_mono (Kd.R_far (p := ⟨gb732, 1, none⟩) (Kd.R_far (p := ⟨gb732, 0, none⟩) (Kd.R_types HO726.out BK732.out (by decide)) (fun _ hk => hk.2) (.int .i64 t728)) (fun _ hk => hk.2) (.slice Ao25 t729.length co25)) (fun _ h_ => h_.1))))) (below_size (by repeat (first | (with_reducible first | exact HB.out | apply below_alloc | apply pw_below_drewN | apply below_drew1 | refine below_set ?_ GE718.out | refine below_set ?_ GE732.out) | exact HB.out)))); have n4_ := Aside0.mk (blk_below (g := gb718) (o := .cells #[.int .i64 a0_0, .slice A0_1 l0_1.length c0_1] 41 (0, 0)) (by (with_reducible repeat (first | refine blk_drewN ?_ _ | refine blk_drew ?_ | refine blk_alloc ?_ _)); refine blk_far ?_ NB718_732.out _; (with_reducible repeat (first | refine blk_drewN ?_ _ | refine blk_drew ?_ | refine blk_alloc ?_ _)); refine blk_far ?_ NB718_732.out _; (with_reducible repeat (first | refine blk_drewN ?_ _ | refine blk_drew ?_ | refine blk_alloc ?_ _)); exact BK718.out) hb); have n5_ := Aside0.mk (blk_below (g := gb732) (o := .cells #[.int .i64 t728, .slice Ao25 t729.length co25] 25 (0, 0)) (by (with_reducible repeat (first | refine blk_drewN ?_ _ | refine blk_drew ?_ | refine blk_alloc ?_ _)); refine blk_put (cs := #[.int .i64 t728, .slice none 0 0]) ?_ 1 _ rfl; (with_reducible repeat (first | refine blk_drewN ?_ _ | refine blk_drew ?_ | refine blk_alloc ?_ _)); refine blk_put (cs := #[.int .i64 0, .slice none 0 0]) ?_ 0 _ rfl; (with_reducible repeat (first | refine blk_drewN ?_ _ | refine blk_drew ?_ | refine blk_alloc ?_ _)); exact BK732.out) hb); have n6_ := Aside0.mk (below_step (by repeat (first | (with_reducible first | exact HB.out | apply below_alloc | apply pw_below_drewN | apply below_drew1 | refine below_set ?_ GE718.out | refine below_set ?_ GE732.out) | exact HB.out)) hb); clear HO723; clear HO726; clear HO731; clear BK718; clear BK732; clear HB; have HO723 := n0_; have HO726 := n1_; have HO731 := n2_; have HO735 := n3_; have BK718 := n4_; have BK732 := n5_; have HB := n6_; clear n0_ n1_ n2_ n3_ n4_ n5_ n6_; (try clear hb); (try clear hb2); (try clear hk); (try clear hi); (try clear ho0)))
  (try simp only [Act.put, List.setIfInBounds_toArray, List.set_cons_zero, List.set_cons_succ])
  go_cut [44] (fun v44 wc => ∃ (kq : Nat) (x44_11 : Bool), v44 = .bool x44_11 ∧ Aside0 (laws_FnExactFlipRounds.j0 kq a1 t724 t727 t733 t736 x44_11 a0_0 l0_1 t728 t729 = some r) ∧ Aside0 (kq ≤ k) ∧ Aside0 (Kd.R (Kd.int .i64) 3 wc w.heap.size (fun k_ => some k_ ≠ (v734 : Value).ownBlock) v725 t724) ∧ Aside0 (Kd.R (Kd.int .i64) 3 wc w.heap.size (fun k_ => some k_ ≠ (v725 : Value).ownBlock) v734 t733) ∧ Aside0 (Kd.R k68 68 wc w.heap.size (fun _ => True) (.slice Ao25 t729.length co25) t729) ∧ Aside0 (wc.heap[gb718]? = some (.cells #[.int .i64 a0_0, (.slice A0_1 l0_1.length c0_1)] 41 (0, 0))) ∧ Aside0 (wc.heap[gb732]? = some (.cells #[.int .i64 t728, (.slice Ao25 t729.length co25)] 25 (0, 0))) ∧ Aside0 (Below w.heap.size w wc))
  case first =>
   have H := HC12.out; clear HC12; replace H := Option.bind_eq_some_iff.mp H; obtain ⟨t737, A270, H⟩ := H; replace H : (if t737 = true then (laws_FnExactFlipRounds.j0 k a1 t724 t727 t733 t736 (t736 != t727) a0_0 l0_1 t728 t729) else (laws_FnExactFlipRounds.j0 k a1 t724 t727 t733 t736 true a0_0 l0_1 t728 t729)) = some r := H; have A27 := Aside0.mk A270; clear A270
   by_cases c28 : t737 = true
   ·subst c28
    have H1 : (laws_FnExactFlipRounds.j0 k a1 t724 t727 t733 t736 (t736 != t727) a0_0 l0_1 t728 t729) = some r := by rw [if_pos rfl] at H; exact H
    clear H; have H := H1; clear H1; have H' := Aside0.mk H; clear H; obtain ⟨Ao29, co29, eo29⟩ := Kd.R_slice HO735.out; subst eo29; obtain ⟨Ao30, co30, eo30⟩ := Kd.R_slice HO726.out; subst eo30
    go_wp2_with (first | ((with_reducible refine gate_callee (f := 35) rfl ?_); refine goesL_ (some 38) rfl rfl Try.func35 (by kernel_rfl) rfl #[.slice Ao29 t733.length co29, .slice Ao30 t724.length co30] rfl (by (try simp only [List.map_toArray, List.map_cons, List.map_nil]); first | done | rfl | (simp only [List.length_drop, List.length_take]; rfl)) ?_; (with_reducible refine (laws_eqIntS.calls k _ _ t733 _ _ t724 true _ ?side1 ?side2 ?side3 ?side4 A27.out).mono ?_); (case side1 => repeat (first | exact (Kd.R_reads' HO735.out).2.2 | (with_reducible refine Kd.C_alloc ?_ _) | (with_reducible refine Kd.C_drewN ?_ _) | (with_reducible refine Kd.C_drew ?_))); (case side2 => exact (Kd.R_reads' HO735.out).2.1); (case side3 => repeat (first | exact (Kd.R_reads' HO726.out).2.2 | (with_reducible refine Kd.C_alloc ?_ _) | (with_reducible refine Kd.C_drewN ?_ _) | (with_reducible refine Kd.C_drew ?_))); (case side4 => exact (Kd.R_reads' HO726.out).2.1); rintro e w' ⟨rfl, ⟨nd, rfl⟩⟩; refine ⟨_, rfl, ?_⟩))
    go_meet
    case rel => exact ⟨_, ((t736 != t727)), (by first | rfl | (simp; done) | (simp [*]; done)), H', ⟨by first | omega | exact Nat.le_refl _⟩, ⟨by (with_reducible repeat (first | apply Kd.R_alloc | apply Kd.R_drewN | apply Kd.R_drew)); exact Kd.R_mono HO726.out (fun _ hk => hk.2)⟩, ⟨by (with_reducible repeat (first | apply Kd.R_alloc | apply Kd.R_drewN | apply Kd.R_drew)); exact Kd.R_mono HO735.out (fun _ hk => hk.2)⟩, ⟨by (with_reducible repeat (first | apply Kd.R_alloc | apply Kd.R_drewN | apply Kd.R_drew)); exact Kd.R_mono HO731.out (fun _ hk => trivial)⟩, ⟨viaB BK718.out⟩, ⟨viaB BK732.out⟩, ⟨by repeat (first | (with_reducible first | exact HB.out | apply below_alloc | apply pw_below_drewN | apply below_drew1 | refine below_set ?_ GE718.out | refine below_set ?_ GE732.out) | exact HB.out)⟩⟩
   ·replace c28 := Bool.eq_false_iff.mpr c28
    subst c28; have H1 : (laws_FnExactFlipRounds.j0 k a1 t724 t727 t733 t736 true a0_0 l0_1 t728 t729) = some r := by rw [if_neg (show ¬ (false = true) by decide)] at H; exact H
    clear H; have H := H1; clear H1; have H' := Aside0.mk H; clear H; obtain ⟨Ao31, co31, eo31⟩ := Kd.R_slice HO735.out; subst eo31; obtain ⟨Ao32, co32, eo32⟩ := Kd.R_slice HO726.out; subst eo32
    go_wp2_with (first | ((with_reducible refine gate_callee (f := 35) rfl ?_); refine goesL_ (some 38) rfl rfl Try.func35 (by kernel_rfl) rfl #[.slice Ao31 t733.length co31, .slice Ao32 t724.length co32] rfl (by (try simp only [List.map_toArray, List.map_cons, List.map_nil]); first | done | rfl | (simp only [List.length_drop, List.length_take]; rfl)) ?_; (with_reducible refine (laws_eqIntS.calls k _ _ t733 _ _ t724 false _ ?side1 ?side2 ?side3 ?side4 A27.out).mono ?_); (case side1 => repeat (first | exact (Kd.R_reads' HO735.out).2.2 | (with_reducible refine Kd.C_alloc ?_ _) | (with_reducible refine Kd.C_drewN ?_ _) | (with_reducible refine Kd.C_drew ?_))); (case side2 => exact (Kd.R_reads' HO735.out).2.1); (case side3 => repeat (first | exact (Kd.R_reads' HO726.out).2.2 | (with_reducible refine Kd.C_alloc ?_ _) | (with_reducible refine Kd.C_drewN ?_ _) | (with_reducible refine Kd.C_drew ?_))); (case side4 => exact (Kd.R_reads' HO726.out).2.1); rintro e w' ⟨rfl, ⟨nd, rfl⟩⟩; refine ⟨_, rfl, ?_⟩))
    go_meet
    case rel => exact ⟨_, (true), (by first | rfl | (simp; done) | (simp [*]; done)), H', ⟨by first | omega | exact Nat.le_refl _⟩, ⟨by (with_reducible repeat (first | apply Kd.R_alloc | apply Kd.R_drewN | apply Kd.R_drew)); exact Kd.R_mono HO726.out (fun _ hk => hk.2)⟩, ⟨by (with_reducible repeat (first | apply Kd.R_alloc | apply Kd.R_drewN | apply Kd.R_drew)); exact Kd.R_mono HO735.out (fun _ hk => hk.2)⟩, ⟨by (with_reducible repeat (first | apply Kd.R_alloc | apply Kd.R_drewN | apply Kd.R_drew)); exact Kd.R_mono HO731.out (fun _ hk => trivial)⟩, ⟨viaB BK718.out⟩, ⟨viaB BK732.out⟩, ⟨by repeat (first | (with_reducible first | exact HB.out | apply below_alloc | apply pw_below_drewN | apply below_drew1 | refine below_set ?_ GE718.out | refine below_set ?_ GE732.out) | exact HB.out)⟩⟩
  case rest =>
   clear HC12
   try clear c2
   try clear p2
   try clear c3
   try clear c4
   try clear c4b0
   try clear c7
   try clear c23
   try clear c28
   try clear c31
   try clear hcz14_0
   try clear hcz14_1
   try clear hcz16_0
   try clear hcz16_1
   try clear hcz20_0
   try clear hcz20_1
   try clear hcz24_0
   try clear hcz24_1
   try clear hcz6_0
   try clear hcz6_1
   try clear hfz14_0
   try clear hfz14_1
   try clear hfz16_0
   try clear hfz16_1
   try clear hfz20_0
   try clear hfz20_1
   try clear hfz24_0
   try clear hfz24_1
   try clear hfz6_0
   try clear hfz6_1
   obtain ⟨kq, x44_11, rfl, HA, HJ11, HO_6, HO_9, HO_733001, BK718, BK732, HB⟩ := hcut
   cases kq with
   | zero => exact absurd HA.out (by simp [laws_FnExactFlipRounds.j0])
   | succ kj11 =>
    have H := HA.out; clear HA
    simp only [laws_FnExactFlipRounds.j0] at H
    by_cases c33 : x44_11 = true
    ·subst c33
     have H1 : (some false) = some r := by rw [if_pos rfl] at H; exact H
     clear H; have H := H1; clear H1; obtain rfl := Option.some.inj H
     go_wp2
     go_ret
     exact ⟨by first | rfl | (simp [errW_none, errW_some] <;> rfl) | (simp [*, errW_none, errW_some] <;> rfl), by repeat (first | (with_reducible first | exact HB.out | apply below_alloc | apply pw_below_drewN | apply below_drew1 | refine below_set ?_ GE718.out | refine below_set ?_ GE732.out) | exact HB.out)⟩
    ·replace c33 := Bool.eq_false_iff.mpr c33
     subst c33; have H1 : ((laws_toGraph.f kj11 a0_0 l0_1).bind fun bt738 => ((laws_eqGraph.f kj11 t728 t729 bt738.1 bt738.2).bind fun t742 => (if t742 = true then ((laws_markGraph.f kj11 t728 t729 1).bind fun bt743 => (if bt743.1 < 0 then (laws_FnExactFlipRounds.j1 kj11 a1 t724 t727 t733 true a0_0 l0_1) else ((laws_eqIntS.f kj11 t733 t724).bind fun t745 => (if t745 = true then (laws_FnExactFlipRounds.j1 kj11 a1 t724 t727 t733 (t736 != t727) a0_0 l0_1) else (laws_FnExactFlipRounds.j1 kj11 a1 t724 t727 t733 true a0_0 l0_1))))) else (some false)))) = some r := by rw [if_neg (show ¬ (false = true) by decide)] at H; exact H
     clear H; have H := H1; clear H1; replace H := Option.bind_eq_some_iff.mp H; obtain ⟨⟨t738, t739⟩, A340, H⟩ := H; replace H : ((laws_eqGraph.f kj11 t728 t729 t738 t739).bind fun t742 => (if t742 = true then ((laws_markGraph.f kj11 t728 t729 1).bind fun bt743 => (if bt743.1 < 0 then (laws_FnExactFlipRounds.j1 kj11 a1 t724 t727 t733 true a0_0 l0_1) else ((laws_eqIntS.f kj11 t733 t724).bind fun t745 => (if t745 = true then (laws_FnExactFlipRounds.j1 kj11 a1 t724 t727 t733 (t736 != t727) a0_0 l0_1) else (laws_FnExactFlipRounds.j1 kj11 a1 t724 t727 t733 true a0_0 l0_1))))) else (some false))) = some r := H; have A34 := Aside0.mk A340; clear A340; replace H := Option.bind_eq_some_iff.mp H; obtain ⟨t742, A350, H⟩ := H; replace H : (if t742 = true then ((laws_markGraph.f kj11 t728 t729 1).bind fun bt743 => (if bt743.1 < 0 then (laws_FnExactFlipRounds.j1 kj11 a1 t724 t727 t733 true a0_0 l0_1) else ((laws_eqIntS.f kj11 t733 t724).bind fun t745 => (if t745 = true then (laws_FnExactFlipRounds.j1 kj11 a1 t724 t727 t733 (t736 != t727) a0_0 l0_1) else (laws_FnExactFlipRounds.j1 kj11 a1 t724 t727 t733 true a0_0 l0_1))))) else (some false)) = some r := H; have A35 := Aside0.mk A350; clear A350
     by_cases c36 : t742 = true
     ·subst c36
      have H1 : ((laws_markGraph.f kj11 t728 t729 1).bind fun bt743 => (if bt743.1 < 0 then (laws_FnExactFlipRounds.j1 kj11 a1 t724 t727 t733 true a0_0 l0_1) else ((laws_eqIntS.f kj11 t733 t724).bind fun t745 => (if t745 = true then (laws_FnExactFlipRounds.j1 kj11 a1 t724 t727 t733 (t736 != t727) a0_0 l0_1) else (laws_FnExactFlipRounds.j1 kj11 a1 t724 t727 t733 true a0_0 l0_1))))) = some r := by rw [if_pos rfl] at H; exact H
      clear H; have H := H1; clear H1; replace H := Option.bind_eq_some_iff.mp H; obtain ⟨⟨t743, t744⟩, A370, H⟩ := H; replace H : (if t743 < 0 then (laws_FnExactFlipRounds.j1 kj11 a1 t724 t727 t733 true a0_0 l0_1) else ((laws_eqIntS.f kj11 t733 t724).bind fun t745 => (if t745 = true then (laws_FnExactFlipRounds.j1 kj11 a1 t724 t727 t733 (t736 != t727) a0_0 l0_1) else (laws_FnExactFlipRounds.j1 kj11 a1 t724 t727 t733 true a0_0 l0_1)))) = some r := H; have A37 := Aside0.mk A370; clear A370; have HC38 := Aside0.mk H; clear H
      try go_wp2
      have n0_ := Aside0.mk (Kd.R_drew HO_6.out); have n1_ := Aside0.mk (Kd.R_drew HO_9.out); have n2_ := Aside0.mk (Kd.R_drew HO_733001.out); have n3_ := Aside0.mk (blk_drew BK718.out); have n4_ := Aside0.mk (blk_drew BK732.out); have n5_ := Aside0.mk (below_drew1 HB.out); clear HO_6; clear HO_9; clear HO_733001; clear BK718; clear BK732; clear HB; have HO_6 := n0_; have HO_9 := n1_; have HO_733001 := n2_; have BK718 := n3_; have BK732 := n4_; have HB := n5_; clear n0_ n1_ n2_ n3_ n4_ n5_
      refine start_ (n := 5) (S := fun w' => w'.cell? ⟨gb732, 0, none⟩ = some (.int .i64 t728) ∧ w'.cell? ⟨gb732, 1, none⟩ = some (.slice Ao25 t729.length co25) ∧ w'.cell? ⟨gb718, 0, none⟩ = some (.int .i64 a0_0) ∧ w'.cell? ⟨gb718, 1, none⟩ = some (.slice A0_1 l0_1.length c0_1)) (ds := []) #[false, false, false, false, false] (by kernel_rfl) rfl rfl ⟨(blk_cell BK732.out 0).trans rfl, (blk_cell BK732.out 1).trans rfl, (blk_cell BK718.out 0).trans rfl, (blk_cell BK718.out 1).trans rfl⟩ (fun hHeld => ?_)
      generalize wc.drew = w39 at HO_6 HO_9 HO_733001 BK718 BK732 HB hHeld ⊢
      refine take_ (i := 0) (N := some 45) (v := ?_) (a' := ?_) #[true, false, false, false, false] rfl rfl (by kernel_rfl) (fun _ _ _ h => h) (Or.inl ⟨by rfl, ?_⟩) hHeld ?_ ?_
      rotate_left
      ·rintro w' ⟨s0, s1, s2, s3⟩
       go_simp
       with_reducible rfl
      rotate_left
      ·simp only [Act.put, List.setIfInBounds_toArray, List.set_cons_zero, List.set_cons_succ, i64_w, i32_w]
       rfl
      refine take_ (i := 1) (N := some 46) (v := ?_) (a' := ?_) #[true, true, false, false, false] rfl rfl (by kernel_rfl) (fun _ _ _ h => h) (Or.inl ⟨by rfl, ?_⟩) hHeld ?_ ?_
      rotate_left
      ·rintro w' ⟨s0, s1, s2, s3⟩
       go_simp
       with_reducible rfl
      rotate_left
      ·simp only [Act.put, List.setIfInBounds_toArray, List.set_cons_zero, List.set_cons_succ, i64_w, i32_w]
       rfl
      refine one_ (i := 2) (N := some 47) #[true, true, true, false, false] rfl rfl (by kernel_rfl) (by decide) (fun K hK => ?_)
      refine goes_ Try.func33 (by kernel_rfl) rfl #[.agg #[.int .i64 a0_0, .slice A0_1 l0_1.length c0_1]] (by rfl) rfl rfl (by (try simp only [List.map_toArray, List.map_cons, List.map_nil]); first | done | rfl | (simp only [List.length_drop, List.length_take]; rfl)) ?_
      with_reducible refine (laws_toGraph.calls kj11 a0_0 _ _ l0_1 t738 t739 _ ?side1 ?side2 A34.out).mono ?_
      (case side1 => repeat (first | exact (Kd.C_below HR0_1.out HB.out) | (with_reducible refine Kd.C_alloc ?_ _) | (with_reducible refine Kd.C_drewN ?_ _) | (with_reducible refine Kd.C_drew ?_)))
      (case side2 => exact HC0_1.out)
      rintro e w40 ⟨v740, rfl, ho0, hb⟩
      refine ⟨_, rfl, ?_⟩
      have n0_ := Aside0.mk (Kd.R_below (viaR HO_6.out) hb); have n1_ := Aside0.mk (Kd.R_below (viaR HO_9.out) hb); have n2_ := Aside0.mk (Kd.R_elder' (viaR HO_733001.out) (Kd.R_base ho0) hb); have n3_ := Aside0.mk (Kd.R_lower (Kd.R_new' ho0 (Kd.R_lt (viaR HO_733001.out))) (below_size (by repeat (first | (with_reducible first | exact HB.out | apply below_alloc | apply pw_below_drewN | apply below_drew1 | refine below_set ?_ GE718.out | refine below_set ?_ GE732.out) | exact HB.out)))); have n4_ := Aside0.mk (blk_below (g := gb718) (o := .cells #[.int .i64 a0_0, .slice A0_1 l0_1.length c0_1] 41 (0, 0)) (viaB BK718.out) hb); have n5_ := Aside0.mk (blk_below (g := gb732) (o := .cells #[.int .i64 t728, .slice Ao25 t729.length co25] 25 (0, 0)) (viaB BK732.out) hb); have n6_ := Aside0.mk (below_step (by repeat (first | (with_reducible first | exact HB.out | apply below_alloc | apply pw_below_drewN | apply below_drew1 | refine below_set ?_ GE718.out | refine below_set ?_ GE732.out) | exact HB.out)) hb); clear HO_6; clear HO_9; clear HO_733001; clear BK718; clear BK732; clear HB; have HO_6 := n0_; have HO_9 := n1_; have HO_733001 := n2_; have HO741 := n3_; have BK718 := n4_; have BK732 := n5_; have HB := n6_; clear n0_ n1_ n2_ n3_ n4_ n5_ n6_
      (try clear hb)
      (try clear hb2)
      (try clear hk)
      (try clear hi)
      (try clear ho0)
      obtain ⟨Ao41, co41, eo41⟩ := Kd.R_slice HO741.out
      (first | subst eo41 | (injection eo41 with f1_ f2_ f3_; have f4_ := f1_.symm; have f5_ := f3_.symm; clear f1_ f2_ f3_; subst f4_; subst f5_))
      refine hK.out _ _ ⟨(blk_cell BK732.out 0).trans rfl, (blk_cell BK732.out 1).trans rfl, (blk_cell BK718.out 0).trans rfl, (blk_cell BK718.out 1).trans rfl⟩ (fun hHeld => ?_)
      clear hK K
      refine norm_ (a' := ?_) ?_ ?_
      rotate_left
      ·show Act.put _ (some 47) _ = _
       simp only [Act.put, List.setIfInBounds_toArray, List.set_cons_zero, List.set_cons_succ, i64_w, i32_w]
       rfl
      refine one_ (i := 3) (N := some 48) #[true, true, true, true, false] rfl rfl (by kernel_rfl) (by decide) (fun K hK => ?_)
      refine goes_ Try.func36 (by kernel_rfl) rfl #[.agg #[.int .i64 t728, .slice Ao25 t729.length co25], .agg #[.int .i64 t738, .slice Ao41 t739.length co41]] (by rfl) rfl rfl (by (try simp only [List.map_toArray, List.map_cons, List.map_nil]); first | done | rfl | (simp only [List.length_drop, List.length_take]; rfl)) ?_
      with_reducible refine (laws_eqGraph.calls kj11 t728 _ _ t729 t738 _ _ t739 true _ ?side1 ?side2 ?side3 ?side4 A35.out).mono ?_
      (case side1 => repeat (first | exact (Kd.R_reads' HO_733001.out).2.2 | (with_reducible refine Kd.C_alloc ?_ _) | (with_reducible refine Kd.C_drewN ?_ _) | (with_reducible refine Kd.C_drew ?_)))
      (case side2 => exact (Kd.R_reads' HO_733001.out).2.1)
      (case side3 => repeat (first | exact (Kd.R_reads' HO741.out).2.2 | (with_reducible refine Kd.C_alloc ?_ _) | (with_reducible refine Kd.C_drewN ?_ _) | (with_reducible refine Kd.C_drew ?_)))
      (case side4 => exact (Kd.R_reads' HO741.out).2.1)
      rintro e w42 ⟨rfl, hb⟩
      refine ⟨_, rfl, ?_⟩
      have n0_ := Aside0.mk (Kd.R_below (viaR HO_6.out) hb); have n1_ := Aside0.mk (Kd.R_below (viaR HO_9.out) hb); have n2_ := Aside0.mk (Kd.R_below (viaR HO_733001.out) hb); have n3_ := Aside0.mk (Kd.R_below (viaR HO741.out) hb); have n4_ := Aside0.mk (blk_below (g := gb718) (o := .cells #[.int .i64 a0_0, .slice A0_1 l0_1.length c0_1] 41 (0, 0)) (viaB BK718.out) hb); have n5_ := Aside0.mk (blk_below (g := gb732) (o := .cells #[.int .i64 t728, .slice Ao25 t729.length co25] 25 (0, 0)) (viaB BK732.out) hb); have n6_ := Aside0.mk (below_step (by repeat (first | (with_reducible first | exact HB.out | apply below_alloc | apply pw_below_drewN | apply below_drew1 | refine below_set ?_ GE718.out | refine below_set ?_ GE732.out) | exact HB.out)) hb); clear HO_6; clear HO_9; clear HO_733001; clear HO741; clear BK718; clear BK732; clear HB; have HO_6 := n0_; have HO_9 := n1_; have HO_733001 := n2_; have HO741 := n3_; have BK718 := n4_; have BK732 := n5_; have HB := n6_; clear n0_ n1_ n2_ n3_ n4_ n5_ n6_
      (try clear hb)
      (try clear hb2)
      (try clear hk)
      (try clear hi)
      refine hK.out _ _ ⟨(blk_cell BK732.out 0).trans rfl, (blk_cell BK732.out 1).trans rfl, (blk_cell BK718.out 0).trans rfl, (blk_cell BK718.out 1).trans rfl⟩ (fun hHeld => ?_)
      clear hK K
      refine norm_ (a' := ?_) ?_ ?_
      rotate_left
      ·show Act.put _ (some 48) _ = _
       simp only [Act.put, List.setIfInBounds_toArray, List.set_cons_zero, List.set_cons_succ, i64_w, i32_w]
       rfl
      refine pure_ (i := 4) (N := some 49) (v := ?_) (a' := ?_) #[true, true, true, true, true] rfl rfl (by kernel_rfl) (fun _ _ _ h => h) (Or.inl ⟨by rfl, ?_⟩) ?_ ?_
      rotate_left
      ·intro w'
       go_simp
       with_reducible rfl
      rotate_left
      ·simp only [Act.put, List.setIfInBounds_toArray, List.set_cons_zero, List.set_cons_succ, i64_w, i32_w]
       rfl
      refine done_ (by kernel_rfl) ?_
      have hnb43 := NB732_718.out; have hnc43 := NB718_732.out; have hcz44_0 : w42.cell? ⟨gb732, 0, none⟩ = some (.int .i64 t728) := (blk_cell BK732.out 0).trans rfl; have hcz44_1 : w42.cell? ⟨gb732, 1, none⟩ = some (.slice Ao25 t729.length co25) := (blk_cell BK732.out 1).trans rfl; have hfz44_0 := blk_frozen BK732.out 0; have hfz44_1 := blk_frozen BK732.out 1
      go_upto_region 14 with (first | ((with_reducible refine gate_callee (f := 37) rfl ?_); refine goesL_ (some 52) rfl rfl Try.func37 (by kernel_rfl) rfl #[.agg #[.int .i64 t728, .slice Ao25 t729.length co25], .int .i64 1] rfl (by (try simp only [List.map_toArray, List.map_cons, List.map_nil]); first | done | rfl | (simp only [List.length_drop, List.length_take]; rfl)) ?_; (with_reducible refine (laws_markGraph.calls kj11 t728 (fun k_ => some k_ = (.slice Ao25 t729.length co25 : Value).ownBlock) (.slice Ao25 t729.length co25) t729 1 t743 t744 w _ ?side1 ?side2 A37.out).mono ?_); (case side1 => repeat (first | (with_reducible first | exact HB.out | apply below_alloc | apply pw_below_drewN | apply below_drew1 | refine below_set ?_ GE718.out | refine below_set ?_ GE732.out) | exact HB.out)); (case side2 => exact Kd.R_tight rfl HO_733001.out); rintro e w45 ⟨rfl, hy0, hb, hkp⟩; refine ⟨_, rfl, ?_⟩; have n0_ := Aside0.mk (Kd.R_mono (ok' := fun k_ => some k_ ≠ (v734 : Value).ownBlock) (Kd.R_keptB ((Kd.R_apart' HO_6.out (Kd.R_typed HO_733001.out) (by decide))) hkp (fun k_ hk_ hs_ => (hk_.2) hs_)) (fun k_ hk_ => hk_.1.1)); have n1_ := Aside0.mk (Kd.R_mono (ok' := fun k_ => some k_ ≠ (v725 : Value).ownBlock) (Kd.R_keptB ((Kd.R_apart' HO_9.out (Kd.R_typed HO_733001.out) (by decide))) hkp (fun k_ hk_ hs_ => (hk_.2) hs_)) (fun k_ hk_ => hk_.1.1)); have n2_ := Aside0.mk (Kd.R_reok rfl hy0 (fun k_ e_ => HO_733001.out.1 k_ e_)); have n3_ := Aside0.mk (blk_kept (viaB BK718.out) hkp (fun hs_ => (fun e_ => (Kd.R_ne HO_733001.out BK718.out (by decide)) e_) hs_)); have n4_ := Aside0.mk (blk_kept (viaB BK732.out) hkp (fun hs_ => (fun e_ => (Kd.R_ne HO_733001.out BK732.out (by decide)) e_) hs_)); have n5_ := Aside0.mk (Kd.R_mono (ok' := fun k_ => some k_ ≠ (.slice Ao25 t729.length co25 : Value).ownBlock) (Kd.R_keptB (HO741.out) hkp (fun k_ hk_ hs_ => (hk_.2) hs_)) (fun k_ hk_ => hk_.1.2)); have n6_ := Aside0.mk (hb); clear HO_6; clear HO_9; clear HO_733001; clear BK718; clear BK732; clear HO741; clear HB; have HO_6 := n0_; have HO_9 := n1_; have HO_733001 := n2_; have BK718 := n3_; have BK732 := n4_; have HO741 := n5_; have HB := n6_; clear n0_ n1_ n2_ n3_ n4_ n5_ n6_; (try clear hb); (try clear hkp); (try clear hy0)))
      (try simp only [Act.put, List.setIfInBounds_toArray, List.set_cons_zero, List.set_cons_succ])
      go_cut [65] (fun v65 wc => ∃ (kq : Nat) (x65_37 : Bool), v65 = .bool x65_37 ∧ Aside0 (laws_FnExactFlipRounds.j1 kq a1 t724 t727 t733 x65_37 a0_0 l0_1 = some r) ∧ Aside0 (kq ≤ kj11) ∧ Aside0 (Kd.R (Kd.int .i64) 3 wc w.heap.size (fun k_ => some k_ ≠ (v734 : Value).ownBlock) v725 t724) ∧ Aside0 (Kd.R (Kd.int .i64) 3 wc w.heap.size (fun k_ => some k_ ≠ (v725 : Value).ownBlock) v734 t733) ∧ Aside0 (Kd.R k68 68 wc w.heap.size (fun _ => True) (.slice Ao25 t729.length co25) t744) ∧ Aside0 (wc.heap[gb718]? = some (.cells #[.int .i64 a0_0, (.slice A0_1 l0_1.length c0_1)] 41 (0, 0))) ∧ Aside0 (wc.heap[gb732]? = some (.cells #[.int .i64 t728, (.slice Ao25 t729.length co25)] 25 (0, 0))) ∧ Aside0 (Below w.heap.size w wc))
      case first =>
       have H := HC38.out; clear HC38
       by_cases c46 : t743 < 0
       ·rw [if_pos c46] at H
        have c46b0 : decide (t743 < 0) = true := decide_eq_true c46; clear c46
        (first | rw [c46b0] | (simp only [i64_w, i32_w]; rw [c46b0]) | skip)
        have H' := Aside0.mk H; clear H
        go_wp2
        go_meet
        case rel => exact ⟨_, (true), (by first | rfl | (simp; done) | (simp [*]; done)), H', ⟨by have := HJ11.out; first | omega | exact Nat.le_refl _⟩, ⟨viaR HO_6.out⟩, ⟨viaR HO_9.out⟩, ⟨by (with_reducible repeat (first | apply Kd.R_alloc | apply Kd.R_drewN | apply Kd.R_drew)); exact Kd.R_mono HO_733001.out (fun _ hk => trivial)⟩, ⟨viaB BK718.out⟩, ⟨viaB BK732.out⟩, ⟨by repeat (first | (with_reducible first | exact HB.out | apply below_alloc | apply pw_below_drewN | apply below_drew1 | refine below_set ?_ GE718.out | refine below_set ?_ GE732.out) | exact HB.out)⟩⟩
       ·rw [if_neg c46] at H
        have c46b0 : decide (t743 < 0) = false := decide_eq_false c46; clear c46
        (first | rw [c46b0] | (simp only [i64_w, i32_w]; rw [c46b0]) | skip)
        replace H := Option.bind_eq_some_iff.mp H; obtain ⟨t745, A470, H⟩ := H; replace H : (if t745 = true then (laws_FnExactFlipRounds.j1 kj11 a1 t724 t727 t733 (t736 != t727) a0_0 l0_1) else (laws_FnExactFlipRounds.j1 kj11 a1 t724 t727 t733 true a0_0 l0_1)) = some r := H; have A47 := Aside0.mk A470; clear A470
        by_cases c48 : t745 = true
        ·subst c48
         have H1 : (laws_FnExactFlipRounds.j1 kj11 a1 t724 t727 t733 (t736 != t727) a0_0 l0_1) = some r := by rw [if_pos rfl] at H; exact H
         clear H; have H := H1; clear H1; have H' := Aside0.mk H; clear H; obtain ⟨Ao49, co49, eo49⟩ := Kd.R_slice HO_9.out; subst eo49; obtain ⟨Ao50, co50, eo50⟩ := Kd.R_slice HO_6.out; subst eo50
         go_wp2_with (first | (go_at_call 35; (with_reducible refine (laws_eqIntS.calls kj11 _ _ t733 _ _ t724 true _ ?side1 ?side2 ?side3 ?side4 A47.out).mono ?_); (case side1 => repeat (first | exact (Kd.R_reads' HO_9.out).2.2 | (with_reducible refine Kd.C_alloc ?_ _) | (with_reducible refine Kd.C_drewN ?_ _) | (with_reducible refine Kd.C_drew ?_))); (case side2 => exact (Kd.R_reads' HO_9.out).2.1); (case side3 => repeat (first | exact (Kd.R_reads' HO_6.out).2.2 | (with_reducible refine Kd.C_alloc ?_ _) | (with_reducible refine Kd.C_drewN ?_ _) | (with_reducible refine Kd.C_drew ?_))); (case side4 => exact (Kd.R_reads' HO_6.out).2.1); rintro e w' ⟨rfl, ⟨nd, rfl⟩⟩))
         go_meet
         case rel => exact ⟨_, ((t736 != t727)), (by first | rfl | (simp; done) | (simp [*]; done)), H', ⟨by have := HJ11.out; first | omega | exact Nat.le_refl _⟩, ⟨viaR HO_6.out⟩, ⟨viaR HO_9.out⟩, ⟨by (with_reducible repeat (first | apply Kd.R_alloc | apply Kd.R_drewN | apply Kd.R_drew)); exact Kd.R_mono HO_733001.out (fun _ hk => trivial)⟩, ⟨viaB BK718.out⟩, ⟨viaB BK732.out⟩, ⟨by repeat (first | (with_reducible first | exact HB.out | apply below_alloc | apply pw_below_drewN | apply below_drew1 | refine below_set ?_ GE718.out | refine below_set ?_ GE732.out) | exact HB.out)⟩⟩
        ·replace c48 := Bool.eq_false_iff.mpr c48
         subst c48; have H1 : (laws_FnExactFlipRounds.j1 kj11 a1 t724 t727 t733 true a0_0 l0_1) = some r := by rw [if_neg (show ¬ (false = true) by decide)] at H; exact H
         clear H; have H := H1; clear H1; have H' := Aside0.mk H; clear H; obtain ⟨Ao51, co51, eo51⟩ := Kd.R_slice HO_9.out; subst eo51; obtain ⟨Ao52, co52, eo52⟩ := Kd.R_slice HO_6.out; subst eo52
         go_wp2_with (first | (go_at_call 35; (with_reducible refine (laws_eqIntS.calls kj11 _ _ t733 _ _ t724 false _ ?side1 ?side2 ?side3 ?side4 A47.out).mono ?_); (case side1 => repeat (first | exact (Kd.R_reads' HO_9.out).2.2 | (with_reducible refine Kd.C_alloc ?_ _) | (with_reducible refine Kd.C_drewN ?_ _) | (with_reducible refine Kd.C_drew ?_))); (case side2 => exact (Kd.R_reads' HO_9.out).2.1); (case side3 => repeat (first | exact (Kd.R_reads' HO_6.out).2.2 | (with_reducible refine Kd.C_alloc ?_ _) | (with_reducible refine Kd.C_drewN ?_ _) | (with_reducible refine Kd.C_drew ?_))); (case side4 => exact (Kd.R_reads' HO_6.out).2.1); rintro e w' ⟨rfl, ⟨nd, rfl⟩⟩))
         go_meet
         case rel => exact ⟨_, (true), (by first | rfl | (simp; done) | (simp [*]; done)), H', ⟨by have := HJ11.out; first | omega | exact Nat.le_refl _⟩, ⟨viaR HO_6.out⟩, ⟨viaR HO_9.out⟩, ⟨by (with_reducible repeat (first | apply Kd.R_alloc | apply Kd.R_drewN | apply Kd.R_drew)); exact Kd.R_mono HO_733001.out (fun _ hk => trivial)⟩, ⟨viaB BK718.out⟩, ⟨viaB BK732.out⟩, ⟨by repeat (first | (with_reducible first | exact HB.out | apply below_alloc | apply pw_below_drewN | apply below_drew1 | refine below_set ?_ GE718.out | refine below_set ?_ GE732.out) | exact HB.out)⟩⟩
      case rest =>
       clear HC38
       try clear c2
       try clear p2
       try clear c3
       try clear c4
       try clear c4b0
       try clear c7
       try clear c23
       try clear c28
       try clear c31
       try clear c33
       try clear c35
       try clear c36
       try clear c37
       try clear c40
       try clear c41
       try clear c43
       try clear c46
       try clear c46b0
       try clear c48
       try clear hcz14_0
       try clear hcz14_1
       try clear hcz16_0
       try clear hcz16_1
       try clear hcz20_0
       try clear hcz20_1
       try clear hcz24_0
       try clear hcz24_1
       try clear hcz44_0
       try clear hcz44_1
       try clear hcz6_0
       try clear hcz6_1
       try clear hfz14_0
       try clear hfz14_1
       try clear hfz16_0
       try clear hfz16_1
       try clear hfz20_0
       try clear hfz20_1
       try clear hfz24_0
       try clear hfz24_1
       try clear hfz44_0
       try clear hfz44_1
       try clear hfz6_0
       try clear hfz6_1
       try clear p2
       obtain ⟨kq, x65_37, rfl, HA, HJ37, HO_6, HO_9, HO_733001, BK718, BK732, HB⟩ := hcut; have hl733001_37 := (Kd.R_reads' HO_733001.out).1
       rw [hl733001_37] at HO_733001
       (try simp only [hl733001_37])
       (try simp only [hl733001_37] at BK718)
       (try simp only [hl733001_37] at BK732)
       (try simp only [hl733001_37] at HO_6)
       (try simp only [hl733001_37] at HO_9)
       cases kq with
       | zero => exact absurd HA.out (by simp [laws_FnExactFlipRounds.j1])
       | succ kj37 =>
        have H := HA.out; clear HA
        simp only [laws_FnExactFlipRounds.j1] at H
        by_cases c53 : x65_37 = true
        ·subst c53
         have H1 : (some false) = some r := by rw [if_pos rfl] at H; exact H
         clear H; have H := H1; clear H1; obtain rfl := Option.some.inj H
         go_wp2
         go_ret
         exact ⟨by first | rfl | (simp [errW_none, errW_some] <;> rfl) | (simp [*, errW_none, errW_some] <;> rfl), by repeat (first | (with_reducible first | exact HB.out | apply below_alloc | apply pw_below_drewN | apply below_drew1 | refine below_set ?_ GE718.out | refine below_set ?_ GE732.out) | exact HB.out)⟩
        ·replace c53 := Bool.eq_false_iff.mpr c53
         subst c53; have H1 : ((laws_markIntS.f kj37 t733 1).bind fun bt746 => ((laws_heldIntS.f kj37 bt746.2 1).bind fun t748 => (if t748 < 0 then (some false) else (if t748 = bt746.1 then ((laws_toGraph.f kj37 a0_0 l0_1).bind fun bt749 => ((impl_FlipRounds.f kj37 bt749.1 bt749.2 a1).bind fun bt753 => ((laws_eqIntS.f kj37 bt753.1 t724).bind fun t757 => (if t757 = true then (laws_FnExactFlipRounds.j2 kj37 bt746.2 bt746.1 (bt753.2 != t727)) else (laws_FnExactFlipRounds.j2 kj37 bt746.2 bt746.1 true))))) else (some false))))) = some r := by rw [if_neg (show ¬ (false = true) by decide)] at H; exact H
         clear H; have H := H1; clear H1; replace H := Option.bind_eq_some_iff.mp H; obtain ⟨⟨t746, t747⟩, A540, H⟩ := H; replace H : ((laws_heldIntS.f kj37 t747 1).bind fun t748 => (if t748 < 0 then (some false) else (if t748 = t746 then ((laws_toGraph.f kj37 a0_0 l0_1).bind fun bt749 => ((impl_FlipRounds.f kj37 bt749.1 bt749.2 a1).bind fun bt753 => ((laws_eqIntS.f kj37 bt753.1 t724).bind fun t757 => (if t757 = true then (laws_FnExactFlipRounds.j2 kj37 t747 t746 (bt753.2 != t727)) else (laws_FnExactFlipRounds.j2 kj37 t747 t746 true))))) else (some false)))) = some r := H; have A54 := Aside0.mk A540; clear A540; replace H := Option.bind_eq_some_iff.mp H; obtain ⟨t748, A550, H⟩ := H; replace H : (if t748 < 0 then (some false) else (if t748 = t746 then ((laws_toGraph.f kj37 a0_0 l0_1).bind fun bt749 => ((impl_FlipRounds.f kj37 bt749.1 bt749.2 a1).bind fun bt753 => ((laws_eqIntS.f kj37 bt753.1 t724).bind fun t757 => (if t757 = true then (laws_FnExactFlipRounds.j2 kj37 t747 t746 (bt753.2 != t727)) else (laws_FnExactFlipRounds.j2 kj37 t747 t746 true))))) else (some false))) = some r := H; have A55 := Aside0.mk A550; clear A550
         by_cases c56 : t748 < 0
         ·rw [if_pos c56] at H
          have c56b0 : decide (t748 < 0) = true := decide_eq_true c56; clear c56; obtain rfl := Option.some.inj H; obtain ⟨Ao57, co57, eo57⟩ := Kd.R_slice HO_9.out; subst eo57
          go_wp2_with (first | ((with_reducible refine gate_callee (f := 38) rfl ?_); refine goesL_ (some 68) rfl rfl Try.func38 (by kernel_rfl) rfl #[.slice Ao57 t733.length co57, .int .i64 1] rfl (by (try simp only [List.map_toArray, List.map_cons, List.map_nil]); first | done | rfl | (simp only [List.length_drop, List.length_take]; rfl)) ?_; (with_reducible refine (laws_markIntS.calls kj37 (fun k_ => some k_ = (.slice Ao57 t733.length co57 : Value).ownBlock) (.slice Ao57 t733.length co57) t733 1 t746 t747 w _ ?side1 ?side2 A54.out).mono ?_); (case side1 => repeat (first | (with_reducible first | exact HB.out | apply below_alloc | apply pw_below_drewN | apply below_drew1 | refine below_set ?_ GE718.out | refine below_set ?_ GE732.out) | exact HB.out)); (case side2 => exact Kd.R_tight rfl HO_9.out); rintro e w58 ⟨rfl, hy0, hb, hkp⟩; refine ⟨_, rfl, ?_⟩; have n0_ := Aside0.mk (Kd.R_mono (ok' := fun k_ => some k_ ≠ (.slice Ao57 t733.length co57 : Value).ownBlock) (Kd.R_keptB (HO_6.out) hkp (fun k_ hk_ hs_ => (hk_) hs_)) (fun k_ hk_ => hk_.1)); have n1_ := Aside0.mk (Kd.R_reok rfl hy0 (fun k_ e_ => HO_9.out.1 k_ e_)); have n2_ := Aside0.mk (Kd.R_mono (ok' := fun k_ => True) (Kd.R_keptB ((Kd.R_apart' HO_733001.out (Kd.R_typed HO_9.out) (by decide))) hkp (fun k_ hk_ hs_ => (hk_.2) hs_)) (fun k_ hk_ => trivial)); have n3_ := Aside0.mk (blk_kept (viaB BK718.out) hkp (fun hs_ => (fun e_ => (Kd.R_ne HO_9.out BK718.out (by decide)) e_) hs_)); have n4_ := Aside0.mk (blk_kept (viaB BK732.out) hkp (fun hs_ => (fun e_ => (Kd.R_ne HO_9.out BK732.out (by decide)) e_) hs_)); have n5_ := Aside0.mk (hb); clear HO_6; clear HO_9; clear HO_733001; clear BK718; clear BK732; clear HB; have HO_6 := n0_; have HO_9 := n1_; have HO_733001 := n2_; have BK718 := n3_; have BK732 := n4_; have HB := n5_; clear n0_ n1_ n2_ n3_ n4_ n5_; (try clear hb); (try clear hkp); (try clear hy0)) | ((with_reducible refine gate_callee (f := 39) rfl ?_); refine goesL_ (some 71) rfl rfl Try.func39 (by kernel_rfl) rfl #[.slice Ao57 t747.length co57, .int .i64 1] rfl (by (try simp only [List.map_toArray, List.map_cons, List.map_nil]); first | done | (rw [show t747.length = t733.length from (Kd.R_reads' HO_9.out).1.symm] <;> rfl) | rfl | (simp only [List.length_drop, List.length_take]; rfl)) ?_; (with_reducible refine (laws_heldIntS.calls kj37 _ _ t747 1 t748 _ ?side1 ?side2 A55.out).mono ?_); (case side1 => repeat (first | exact (Kd.R_reads' HO_9.out).2.2 | (with_reducible refine Kd.C_alloc ?_ _) | (with_reducible refine Kd.C_drewN ?_ _) | (with_reducible refine Kd.C_drew ?_))); (case side2 => rw [show t747.length = t733.length from (Kd.R_reads' HO_9.out).1.symm]; exact (Kd.R_reads' HO_9.out).2.1); rintro e w' ⟨rfl, ⟨nd, rfl⟩⟩; refine ⟨_, rfl, ?_⟩))
          go_ret
          exact ⟨by first | rfl | (simp [errW_none, errW_some] <;> rfl) | (simp [*, errW_none, errW_some] <;> rfl), by repeat (first | (with_reducible first | exact HB.out | apply below_alloc | apply pw_below_drewN | apply below_drew1 | refine below_set ?_ GE718.out | refine below_set ?_ GE732.out) | exact HB.out)⟩
         ·rw [if_neg c56] at H
          have c56b0 : decide (t748 < 0) = false := decide_eq_false c56; clear c56
          by_cases c59 : t748 = t746
          ·rw [if_pos c59] at H
           have c59b0 : (t748 == t746) = true := beq_iff_eq.mpr c59; have c59b1 : (t748 != t746) = false := bne_eq_false_iff_eq.mpr c59; clear c59; replace H := Option.bind_eq_some_iff.mp H; obtain ⟨⟨t749, t750⟩, A600, H⟩ := H; replace H : ((impl_FlipRounds.f kj37 t749 t750 a1).bind fun bt753 => ((laws_eqIntS.f kj37 bt753.1 t724).bind fun t757 => (if t757 = true then (laws_FnExactFlipRounds.j2 kj37 t747 t746 (bt753.2 != t727)) else (laws_FnExactFlipRounds.j2 kj37 t747 t746 true)))) = some r := H; have A60 := Aside0.mk A600; clear A600; replace H := Option.bind_eq_some_iff.mp H; obtain ⟨⟨t753, t756⟩, A610, H⟩ := H; replace H : ((laws_eqIntS.f kj37 t753 t724).bind fun t757 => (if t757 = true then (laws_FnExactFlipRounds.j2 kj37 t747 t746 (t756 != t727)) else (laws_FnExactFlipRounds.j2 kj37 t747 t746 true))) = some r := H; have A61 := Aside0.mk A610; clear A610; have HC62 := Aside0.mk H; clear H; obtain ⟨Ao63, co63, eo63⟩ := Kd.R_slice HO_9.out; subst eo63
           go_upto_region 25 with (first | ((with_reducible refine gate_callee (f := 38) rfl ?_); refine goesL_ (some 68) rfl rfl Try.func38 (by kernel_rfl) rfl #[.slice Ao63 t733.length co63, .int .i64 1] rfl (by (try simp only [List.map_toArray, List.map_cons, List.map_nil]); first | done | rfl | (simp only [List.length_drop, List.length_take]; rfl)) ?_; (with_reducible refine (laws_markIntS.calls kj37 (fun k_ => some k_ = (.slice Ao63 t733.length co63 : Value).ownBlock) (.slice Ao63 t733.length co63) t733 1 t746 t747 w _ ?side1 ?side2 A54.out).mono ?_); (case side1 => repeat (first | (with_reducible first | exact HB.out | apply below_alloc | apply pw_below_drewN | apply below_drew1 | refine below_set ?_ GE718.out | refine below_set ?_ GE732.out) | exact HB.out)); (case side2 => exact Kd.R_tight rfl HO_9.out); rintro e w64 ⟨rfl, hy0, hb, hkp⟩; refine ⟨_, rfl, ?_⟩; have n0_ := Aside0.mk (Kd.R_mono (ok' := fun k_ => some k_ ≠ (.slice Ao63 t733.length co63 : Value).ownBlock) (Kd.R_keptB (HO_6.out) hkp (fun k_ hk_ hs_ => (hk_) hs_)) (fun k_ hk_ => hk_.1)); have n1_ := Aside0.mk (Kd.R_reok rfl hy0 (fun k_ e_ => HO_9.out.1 k_ e_)); have n2_ := Aside0.mk (Kd.R_mono (ok' := fun k_ => True) (Kd.R_keptB ((Kd.R_apart' HO_733001.out (Kd.R_typed HO_9.out) (by decide))) hkp (fun k_ hk_ hs_ => (hk_.2) hs_)) (fun k_ hk_ => trivial)); have n3_ := Aside0.mk (blk_kept (viaB BK718.out) hkp (fun hs_ => (fun e_ => (Kd.R_ne HO_9.out BK718.out (by decide)) e_) hs_)); have n4_ := Aside0.mk (blk_kept (viaB BK732.out) hkp (fun hs_ => (fun e_ => (Kd.R_ne HO_9.out BK732.out (by decide)) e_) hs_)); have n5_ := Aside0.mk (hb); clear HO_6; clear HO_9; clear HO_733001; clear BK718; clear BK732; clear HB; have HO_6 := n0_; have HO_9 := n1_; have HO_733001 := n2_; have BK718 := n3_; have BK732 := n4_; have HB := n5_; clear n0_ n1_ n2_ n3_ n4_ n5_; (try clear hb); (try clear hkp); (try clear hy0)) | ((with_reducible refine gate_callee (f := 39) rfl ?_); refine goesL_ (some 71) rfl rfl Try.func39 (by kernel_rfl) rfl #[.slice Ao63 t747.length co63, .int .i64 1] rfl (by (try simp only [List.map_toArray, List.map_cons, List.map_nil]); first | done | (rw [show t747.length = t733.length from (Kd.R_reads' HO_9.out).1.symm] <;> rfl) | rfl | (simp only [List.length_drop, List.length_take]; rfl)) ?_; (with_reducible refine (laws_heldIntS.calls kj37 _ _ t747 1 t748 _ ?side1 ?side2 A55.out).mono ?_); (case side1 => repeat (first | exact (Kd.R_reads' HO_9.out).2.2 | (with_reducible refine Kd.C_alloc ?_ _) | (with_reducible refine Kd.C_drewN ?_ _) | (with_reducible refine Kd.C_drew ?_))); (case side2 => rw [show t747.length = t733.length from (Kd.R_reads' HO_9.out).1.symm]; exact (Kd.R_reads' HO_9.out).2.1); rintro e w' ⟨rfl, ⟨nd, rfl⟩⟩; refine ⟨_, rfl, ?_⟩; have hnb65 := NB718_732.out; have hnc65 := NB732_718.out; have hcz66_0 : w64.cell? ⟨gb718, 0, none⟩ = some (.int .i64 a0_0) := (blk_cell BK718.out 0).trans rfl; have hcz66_1 : w64.cell? ⟨gb718, 1, none⟩ = some (.slice A0_1 l0_1.length c0_1) := (blk_cell BK718.out 1).trans rfl; have hfz66_0 := blk_frozen BK718.out 0; have hfz66_1 := blk_frozen BK718.out 1) | ((with_reducible refine gate_callee (f := 33) rfl ?_); refine goesL_ (some 79) rfl rfl Try.func33 (by kernel_rfl) rfl #[.agg #[.int .i64 a0_0, .slice A0_1 l0_1.length c0_1]] rfl (by (try simp only [List.map_toArray, List.map_cons, List.map_nil]); first | done | rfl | (simp only [List.length_drop, List.length_take]; rfl)) ?_; (with_reducible refine (laws_toGraph.calls kj37 a0_0 _ _ l0_1 t749 t750 _ ?side1 ?side2 A60.out).mono ?_); (case side1 => repeat (first | exact (Kd.C_below HR0_1.out (by repeat (first | (with_reducible first | exact HB.out | apply below_alloc | apply pw_below_drewN | apply below_drew1 | refine below_set ?_ GE718.out | refine below_set ?_ GE732.out) | exact HB.out))) | (with_reducible refine Kd.C_alloc ?_ _) | (with_reducible refine Kd.C_drewN ?_ _) | (with_reducible refine Kd.C_drew ?_))); (case side2 => exact HC0_1.out); rintro e w67 ⟨v751, rfl, ho0, hb⟩; refine ⟨_, rfl, ?_⟩; have n0_ := Aside0.mk (Kd.R_below (viaR HO_6.out) hb); have n1_ := Aside0.mk (Kd.R_below (viaR HO_9.out) hb); have n2_ := Aside0.mk (Kd.R_elder' (viaR HO_733001.out) (Kd.R_base ho0) hb); have n3_ := Aside0.mk (Kd.R_lower (Kd.R_new' ho0 (Kd.R_lt (viaR HO_733001.out))) (below_size (by repeat (first | (with_reducible first | exact HB.out | apply below_alloc | apply pw_below_drewN | apply below_drew1 | refine below_set ?_ GE718.out | refine below_set ?_ GE732.out) | exact HB.out)))); have n4_ := Aside0.mk (blk_below (g := gb718) (o := .cells #[.int .i64 a0_0, .slice A0_1 l0_1.length c0_1] 41 (0, 0)) (viaB BK718.out) hb); have n5_ := Aside0.mk (blk_below (g := gb732) (o := .cells #[.int .i64 t728, .slice Ao25 t744.length co25] 25 (0, 0)) (viaB BK732.out) hb); have n6_ := Aside0.mk (below_step (by repeat (first | (with_reducible first | exact HB.out | apply below_alloc | apply pw_below_drewN | apply below_drew1 | refine below_set ?_ GE718.out | refine below_set ?_ GE732.out) | exact HB.out)) hb); clear HO_6; clear HO_9; clear HO_733001; clear BK718; clear BK732; clear HB; have HO_6 := n0_; have HO_9 := n1_; have HO_733001 := n2_; have HO752 := n3_; have BK718 := n4_; have BK732 := n5_; have HB := n6_; clear n0_ n1_ n2_ n3_ n4_ n5_ n6_; (try clear hb); (try clear hb2); (try clear hk); (try clear hi); (try clear ho0); obtain ⟨Ao68, co68, eo68⟩ := Kd.R_slice HO752.out; subst eo68) | ((with_reducible refine gate_callee (f := 41) rfl ?_); refine goesL_ (some 81) rfl rfl Try.func41 (by kernel_rfl) rfl #[.agg #[.int .i64 t749, .slice Ao68 t750.length co68], .int .i64 a1] rfl (by (try simp only [List.map_toArray, List.map_cons, List.map_nil]); first | done | rfl | (simp only [List.length_drop, List.length_take]; rfl)) ?_; (with_reducible refine (impl_FlipRounds.calls kj37 t749 _ _ t750 a1 t753 t756 _ ?side1 ?side2 A61.out).mono ?_); (case side1 => repeat (first | exact (Kd.R_reads' HO752.out).2.2 | (with_reducible refine Kd.C_alloc ?_ _) | (with_reducible refine Kd.C_drewN ?_ _) | (with_reducible refine Kd.C_drew ?_))); (case side2 => exact (Kd.R_reads' HO752.out).2.1); rintro e w69 ⟨v754, rfl, ho0, hb⟩; refine ⟨_, rfl, ?_⟩; have n0_ := Aside0.mk (Kd.R_elder' (viaR HO_6.out) (Kd.R_base ho0) hb); have n1_ := Aside0.mk (Kd.R_elder' (viaR HO_9.out) (Kd.R_base ho0) hb); have n2_ := Aside0.mk (Kd.R_below (viaR HO_733001.out) hb); have n3_ := Aside0.mk (Kd.R_below (viaR HO752.out) hb); have n4_ := Aside0.mk (Kd.R_lower (Kd.R_new' (Kd.R_new' ho0 (Kd.R_lt (viaR HO_6.out))) (Kd.R_lt (viaR HO_9.out))) (below_size (by repeat (first | (with_reducible first | exact HB.out | apply below_alloc | apply pw_below_drewN | apply below_drew1 | refine below_set ?_ GE718.out | refine below_set ?_ GE732.out) | exact HB.out)))); have n5_ := Aside0.mk (blk_below (g := gb718) (o := .cells #[.int .i64 a0_0, .slice A0_1 l0_1.length c0_1] 41 (0, 0)) (viaB BK718.out) hb); have n6_ := Aside0.mk (blk_below (g := gb732) (o := .cells #[.int .i64 t728, .slice Ao25 t744.length co25] 25 (0, 0)) (viaB BK732.out) hb); have n7_ := Aside0.mk (below_step (by repeat (first | (with_reducible first | exact HB.out | apply below_alloc | apply pw_below_drewN | apply below_drew1 | refine below_set ?_ GE718.out | refine below_set ?_ GE732.out) | exact HB.out)) hb); clear HO_6; clear HO_9; clear HO_733001; clear HO752; clear BK718; clear BK732; clear HB; have HO_6 := n0_; have HO_9 := n1_; have HO_733001 := n2_; have HO752 := n3_; have HO755 := n4_; have BK718 := n5_; have BK732 := n6_; have HB := n7_; clear n0_ n1_ n2_ n3_ n4_ n5_ n6_ n7_; (try clear hb); (try clear hb2); (try clear hk); (try clear hi); (try clear ho0)))
           (try simp only [Act.put, List.setIfInBounds_toArray, List.set_cons_zero, List.set_cons_succ])
           go_cut [92] (fun v92 wc => ∃ (kq : Nat) (x92_61 : Bool), v92 = .bool x92_61 ∧ Aside0 (laws_FnExactFlipRounds.j2 kq t747 t746 x92_61 = some r) ∧ Aside0 (kq ≤ kj37) ∧ Aside0 (Kd.R (Kd.int .i64) 3 wc w.heap.size (fun _ => True) (.slice Ao63 t733.length co63) t747) ∧ Aside0 (Kd.R k68 68 wc w.heap.size (fun _ => True) (.slice Ao25 t744.length co25) t744) ∧ Aside0 (wc.heap[gb718]? = some (.cells #[.int .i64 a0_0, (.slice A0_1 l0_1.length c0_1)] 41 (0, 0))) ∧ Aside0 (wc.heap[gb732]? = some (.cells #[.int .i64 t728, (.slice Ao25 t744.length co25)] 25 (0, 0))) ∧ Aside0 (Below w.heap.size w wc))
           case first =>
            have H := HC62.out; clear HC62; replace H := Option.bind_eq_some_iff.mp H; obtain ⟨t757, A700, H⟩ := H; replace H : (if t757 = true then (laws_FnExactFlipRounds.j2 kj37 t747 t746 (t756 != t727)) else (laws_FnExactFlipRounds.j2 kj37 t747 t746 true)) = some r := H; have A70 := Aside0.mk A700; clear A700
            by_cases c71 : t757 = true
            ·subst c71
             have H1 : (laws_FnExactFlipRounds.j2 kj37 t747 t746 (t756 != t727)) = some r := by rw [if_pos rfl] at H; exact H
             clear H; have H := H1; clear H1; have H' := Aside0.mk H; clear H; obtain ⟨Ao72, co72, eo72⟩ := Kd.R_slice HO755.out; subst eo72; obtain ⟨Ao73, co73, eo73⟩ := Kd.R_slice HO_6.out; subst eo73
             go_wp2_with (first | ((with_reducible refine gate_callee (f := 35) rfl ?_); refine goesL_ (some 86) rfl rfl Try.func35 (by kernel_rfl) rfl #[.slice Ao72 t753.length co72, .slice Ao73 t724.length co73] rfl (by (try simp only [List.map_toArray, List.map_cons, List.map_nil]); first | done | rfl | (simp only [List.length_drop, List.length_take]; rfl)) ?_; (with_reducible refine (laws_eqIntS.calls kj37 _ _ t753 _ _ t724 true _ ?side1 ?side2 ?side3 ?side4 A70.out).mono ?_); (case side1 => repeat (first | exact (Kd.R_reads' HO755.out).2.2 | (with_reducible refine Kd.C_alloc ?_ _) | (with_reducible refine Kd.C_drewN ?_ _) | (with_reducible refine Kd.C_drew ?_))); (case side2 => exact (Kd.R_reads' HO755.out).2.1); (case side3 => repeat (first | exact (Kd.R_reads' HO_6.out).2.2 | (with_reducible refine Kd.C_alloc ?_ _) | (with_reducible refine Kd.C_drewN ?_ _) | (with_reducible refine Kd.C_drew ?_))); (case side4 => exact (Kd.R_reads' HO_6.out).2.1); rintro e w' ⟨rfl, ⟨nd, rfl⟩⟩; refine ⟨_, rfl, ?_⟩))
             go_meet
             case rel => exact ⟨_, ((t756 != t727)), (by first | rfl | (simp; done) | (simp [*]; done)), H', ⟨by have := HJ11.out; have := HJ37.out; first | omega | exact Nat.le_refl _⟩, ⟨by (try simp only [hl733001_37]); (with_reducible repeat (first | apply Kd.R_alloc | apply Kd.R_drewN | apply Kd.R_drew)); exact Kd.R_mono HO_9.out (fun _ hk => trivial)⟩, ⟨by (try simp only [hl733001_37]); (with_reducible repeat (first | apply Kd.R_alloc | apply Kd.R_drewN | apply Kd.R_drew)); exact Kd.R_mono HO_733001.out (fun _ hk => trivial)⟩, ⟨by (try simp only [hl733001_37]); (with_reducible repeat (first | refine blk_drewN ?_ _ | refine blk_drew ?_ | refine blk_alloc ?_ _)); exact BK718.out⟩, ⟨by (try simp only [hl733001_37]); (with_reducible repeat (first | refine blk_drewN ?_ _ | refine blk_drew ?_ | refine blk_alloc ?_ _)); exact BK732.out⟩, ⟨by repeat (first | (with_reducible first | exact HB.out | apply below_alloc | apply pw_below_drewN | apply below_drew1 | refine below_set ?_ GE718.out | refine below_set ?_ GE732.out) | exact HB.out)⟩⟩
            ·replace c71 := Bool.eq_false_iff.mpr c71
             subst c71; have H1 : (laws_FnExactFlipRounds.j2 kj37 t747 t746 true) = some r := by rw [if_neg (show ¬ (false = true) by decide)] at H; exact H
             clear H; have H := H1; clear H1; have H' := Aside0.mk H; clear H; obtain ⟨Ao74, co74, eo74⟩ := Kd.R_slice HO755.out; subst eo74; obtain ⟨Ao75, co75, eo75⟩ := Kd.R_slice HO_6.out; subst eo75
             go_wp2_with (first | ((with_reducible refine gate_callee (f := 35) rfl ?_); refine goesL_ (some 86) rfl rfl Try.func35 (by kernel_rfl) rfl #[.slice Ao74 t753.length co74, .slice Ao75 t724.length co75] rfl (by (try simp only [List.map_toArray, List.map_cons, List.map_nil]); first | done | rfl | (simp only [List.length_drop, List.length_take]; rfl)) ?_; (with_reducible refine (laws_eqIntS.calls kj37 _ _ t753 _ _ t724 false _ ?side1 ?side2 ?side3 ?side4 A70.out).mono ?_); (case side1 => repeat (first | exact (Kd.R_reads' HO755.out).2.2 | (with_reducible refine Kd.C_alloc ?_ _) | (with_reducible refine Kd.C_drewN ?_ _) | (with_reducible refine Kd.C_drew ?_))); (case side2 => exact (Kd.R_reads' HO755.out).2.1); (case side3 => repeat (first | exact (Kd.R_reads' HO_6.out).2.2 | (with_reducible refine Kd.C_alloc ?_ _) | (with_reducible refine Kd.C_drewN ?_ _) | (with_reducible refine Kd.C_drew ?_))); (case side4 => exact (Kd.R_reads' HO_6.out).2.1); rintro e w' ⟨rfl, ⟨nd, rfl⟩⟩; refine ⟨_, rfl, ?_⟩))
             go_meet
             case rel => exact ⟨_, (true), (by first | rfl | (simp; done) | (simp [*]; done)), H', ⟨by have := HJ11.out; have := HJ37.out; first | omega | exact Nat.le_refl _⟩, ⟨by (try simp only [hl733001_37]); (with_reducible repeat (first | apply Kd.R_alloc | apply Kd.R_drewN | apply Kd.R_drew)); exact Kd.R_mono HO_9.out (fun _ hk => trivial)⟩, ⟨by (try simp only [hl733001_37]); (with_reducible repeat (first | apply Kd.R_alloc | apply Kd.R_drewN | apply Kd.R_drew)); exact Kd.R_mono HO_733001.out (fun _ hk => trivial)⟩, ⟨by (try simp only [hl733001_37]); (with_reducible repeat (first | refine blk_drewN ?_ _ | refine blk_drew ?_ | refine blk_alloc ?_ _)); exact BK718.out⟩, ⟨by (try simp only [hl733001_37]); (with_reducible repeat (first | refine blk_drewN ?_ _ | refine blk_drew ?_ | refine blk_alloc ?_ _)); exact BK732.out⟩, ⟨by repeat (first | (with_reducible first | exact HB.out | apply below_alloc | apply pw_below_drewN | apply below_drew1 | refine below_set ?_ GE718.out | refine below_set ?_ GE732.out) | exact HB.out)⟩⟩
           case rest =>
            clear HC62
            try clear c2
            try clear p2
            try clear c3
            try clear c4
            try clear c4b0
            try clear c5
            try clear c6
            try clear c7
            try clear c23
            try clear c28
            try clear c31
            try clear c33
            try clear c35
            try clear c36
            try clear c37
            try clear c38
            try clear c39
            try clear c40
            try clear c41
            try clear c43
            try clear c46
            try clear c46b0
            try clear c48
            try clear c53
            try clear c56
            try clear c56b0
            try clear c59
            try clear c59b0
            try clear c59b1
            try clear c65
            try clear c71
            try clear hcz14_0
            try clear hcz14_1
            try clear hcz16_0
            try clear hcz16_1
            try clear hcz20_0
            try clear hcz20_1
            try clear hcz24_0
            try clear hcz24_1
            try clear hcz44_0
            try clear hcz44_1
            try clear hcz66_0
            try clear hcz66_1
            try clear hcz6_0
            try clear hcz6_1
            try clear hfz14_0
            try clear hfz14_1
            try clear hfz16_0
            try clear hfz16_1
            try clear hfz20_0
            try clear hfz20_1
            try clear hfz24_0
            try clear hfz24_1
            try clear hfz44_0
            try clear hfz44_1
            try clear hfz66_0
            try clear hfz66_1
            try clear hfz6_0
            try clear hfz6_1
            try clear p2
            obtain ⟨kq, x92_61, rfl, HA, HJ61, HO_9, HO_733001, BK718, BK732, HB⟩ := hcut; have hl9_61 := (Kd.R_reads' HO_9.out).1
            rw [hl9_61] at HO_9
            (try simp only [hl9_61])
            (try simp only [hl9_61] at BK718)
            (try simp only [hl9_61] at BK732)
            (try simp only [hl9_61] at HO_733001)
            cases kq with
            | zero => exact absurd HA.out (by simp [laws_FnExactFlipRounds.j2])
            | succ kj61 =>
             have H := HA.out; clear HA
             simp only [laws_FnExactFlipRounds.j2] at H
             by_cases c76 : x92_61 = true
             ·subst c76
              have H1 : (some false) = some r := by rw [if_pos rfl] at H; exact H
              clear H; have H := H1; clear H1; obtain rfl := Option.some.inj H
              go_wp2
              go_ret
              exact ⟨by first | rfl | (simp [errW_none, errW_some] <;> rfl) | (simp [*, errW_none, errW_some] <;> rfl), by repeat (first | (with_reducible first | exact HB.out | apply below_alloc | apply pw_below_drewN | apply below_drew1 | refine below_set ?_ GE718.out | refine below_set ?_ GE732.out) | exact HB.out)⟩
             ·replace c76 := Bool.eq_false_iff.mpr c76
              subst c76; have H1 : ((laws_heldIntS.f kj61 t747 1).bind fun t758 => (if t758 < 0 then (some false) else (if t758 = t746 then (some true) else (some false)))) = some r := by rw [if_neg (show ¬ (false = true) by decide)] at H; exact H
              clear H; have H := H1; clear H1; replace H := Option.bind_eq_some_iff.mp H; obtain ⟨t758, A770, H⟩ := H; replace H : (if t758 < 0 then (some false) else (if t758 = t746 then (some true) else (some false))) = some r := H; have A77 := Aside0.mk A770; clear A770
              by_cases c78 : t758 < 0
              ·rw [if_pos c78] at H
               have c78b0 : decide (t758 < 0) = true := decide_eq_true c78; clear c78; obtain rfl := Option.some.inj H
               go_wp2_with (first | ((with_reducible refine gate_callee (f := 39) rfl ?_); refine goesL_ (some 95) rfl rfl Try.func39 (by kernel_rfl) rfl #[.slice Ao63 t747.length co63, .int .i64 1] rfl (by (try simp only [List.map_toArray, List.map_cons, List.map_nil]); first | done | rfl | (simp only [List.length_drop, List.length_take]; rfl)) ?_; (with_reducible refine (laws_heldIntS.calls kj61 _ _ t747 1 t758 _ ?side1 ?side2 A77.out).mono ?_); (case side1 => repeat (first | exact (Kd.R_reads' HO_9.out).2.2 | (with_reducible refine Kd.C_alloc ?_ _) | (with_reducible refine Kd.C_drewN ?_ _) | (with_reducible refine Kd.C_drew ?_))); (case side2 => exact (Kd.R_reads' HO_9.out).2.1); rintro e w' ⟨rfl, ⟨nd, rfl⟩⟩; refine ⟨_, rfl, ?_⟩))
               go_ret
               exact ⟨by first | rfl | (simp [errW_none, errW_some] <;> rfl) | (simp [*, errW_none, errW_some] <;> rfl), by repeat (first | (with_reducible first | exact HB.out | apply below_alloc | apply pw_below_drewN | apply below_drew1 | refine below_set ?_ GE718.out | refine below_set ?_ GE732.out) | exact HB.out)⟩
              ·rw [if_neg c78] at H
               have c78b0 : decide (t758 < 0) = false := decide_eq_false c78; clear c78
               by_cases c79 : t758 = t746
               ·rw [if_pos c79] at H
                have c79b0 : (t758 == t746) = true := beq_iff_eq.mpr c79; have c79b1 : (t758 != t746) = false := bne_eq_false_iff_eq.mpr c79; clear c79; obtain rfl := Option.some.inj H
                go_wp2_with (first | ((with_reducible refine gate_callee (f := 39) rfl ?_); refine goesL_ (some 95) rfl rfl Try.func39 (by kernel_rfl) rfl #[.slice Ao63 t747.length co63, .int .i64 1] rfl (by (try simp only [List.map_toArray, List.map_cons, List.map_nil]); first | done | rfl | (simp only [List.length_drop, List.length_take]; rfl)) ?_; (with_reducible refine (laws_heldIntS.calls kj61 _ _ t747 1 t758 _ ?side1 ?side2 A77.out).mono ?_); (case side1 => repeat (first | exact (Kd.R_reads' HO_9.out).2.2 | (with_reducible refine Kd.C_alloc ?_ _) | (with_reducible refine Kd.C_drewN ?_ _) | (with_reducible refine Kd.C_drew ?_))); (case side2 => exact (Kd.R_reads' HO_9.out).2.1); rintro e w' ⟨rfl, ⟨nd, rfl⟩⟩; refine ⟨_, rfl, ?_⟩))
                go_ret
                exact ⟨by first | rfl | (simp [errW_none, errW_some] <;> rfl) | (simp [*, errW_none, errW_some] <;> rfl), by repeat (first | (with_reducible first | exact HB.out | apply below_alloc | apply pw_below_drewN | apply below_drew1 | refine below_set ?_ GE718.out | refine below_set ?_ GE732.out) | exact HB.out)⟩
               ·rw [if_neg c79] at H
                have c79b0 : (t758 == t746) = false := beq_eq_false_iff_ne.mpr c79; have c79b1 : (t758 != t746) = true := bne_iff_ne.mpr c79; obtain rfl := Option.some.inj H
                go_wp2_with (first | ((with_reducible refine gate_callee (f := 39) rfl ?_); refine goesL_ (some 95) rfl rfl Try.func39 (by kernel_rfl) rfl #[.slice Ao63 t747.length co63, .int .i64 1] rfl (by (try simp only [List.map_toArray, List.map_cons, List.map_nil]); first | done | rfl | (simp only [List.length_drop, List.length_take]; rfl)) ?_; (with_reducible refine (laws_heldIntS.calls kj61 _ _ t747 1 t758 _ ?side1 ?side2 A77.out).mono ?_); (case side1 => repeat (first | exact (Kd.R_reads' HO_9.out).2.2 | (with_reducible refine Kd.C_alloc ?_ _) | (with_reducible refine Kd.C_drewN ?_ _) | (with_reducible refine Kd.C_drew ?_))); (case side2 => exact (Kd.R_reads' HO_9.out).2.1); rintro e w' ⟨rfl, ⟨nd, rfl⟩⟩; refine ⟨_, rfl, ?_⟩))
                go_ret
                exact ⟨by first | rfl | (simp [errW_none, errW_some] <;> rfl) | (simp [*, errW_none, errW_some] <;> rfl), by repeat (first | (with_reducible first | exact HB.out | apply below_alloc | apply pw_below_drewN | apply below_drew1 | refine below_set ?_ GE718.out | refine below_set ?_ GE732.out) | exact HB.out)⟩
          ·rw [if_neg c59] at H
           have c59b0 : (t748 == t746) = false := beq_eq_false_iff_ne.mpr c59; have c59b1 : (t748 != t746) = true := bne_iff_ne.mpr c59; obtain rfl := Option.some.inj H; obtain ⟨Ao80, co80, eo80⟩ := Kd.R_slice HO_9.out; subst eo80
           go_wp2_with (first | ((with_reducible refine gate_callee (f := 38) rfl ?_); refine goesL_ (some 68) rfl rfl Try.func38 (by kernel_rfl) rfl #[.slice Ao80 t733.length co80, .int .i64 1] rfl (by (try simp only [List.map_toArray, List.map_cons, List.map_nil]); first | done | rfl | (simp only [List.length_drop, List.length_take]; rfl)) ?_; (with_reducible refine (laws_markIntS.calls kj37 (fun k_ => some k_ = (.slice Ao80 t733.length co80 : Value).ownBlock) (.slice Ao80 t733.length co80) t733 1 t746 t747 w _ ?side1 ?side2 A54.out).mono ?_); (case side1 => repeat (first | (with_reducible first | exact HB.out | apply below_alloc | apply pw_below_drewN | apply below_drew1 | refine below_set ?_ GE718.out | refine below_set ?_ GE732.out) | exact HB.out)); (case side2 => exact Kd.R_tight rfl HO_9.out); rintro e w81 ⟨rfl, hy0, hb, hkp⟩; refine ⟨_, rfl, ?_⟩; have n0_ := Aside0.mk (Kd.R_mono (ok' := fun k_ => some k_ ≠ (.slice Ao80 t733.length co80 : Value).ownBlock) (Kd.R_keptB (HO_6.out) hkp (fun k_ hk_ hs_ => (hk_) hs_)) (fun k_ hk_ => hk_.1)); have n1_ := Aside0.mk (Kd.R_reok rfl hy0 (fun k_ e_ => HO_9.out.1 k_ e_)); have n2_ := Aside0.mk (Kd.R_mono (ok' := fun k_ => True) (Kd.R_keptB ((Kd.R_apart' HO_733001.out (Kd.R_typed HO_9.out) (by decide))) hkp (fun k_ hk_ hs_ => (hk_.2) hs_)) (fun k_ hk_ => trivial)); have n3_ := Aside0.mk (blk_kept (viaB BK718.out) hkp (fun hs_ => (fun e_ => (Kd.R_ne HO_9.out BK718.out (by decide)) e_) hs_)); have n4_ := Aside0.mk (blk_kept (viaB BK732.out) hkp (fun hs_ => (fun e_ => (Kd.R_ne HO_9.out BK732.out (by decide)) e_) hs_)); have n5_ := Aside0.mk (hb); clear HO_6; clear HO_9; clear HO_733001; clear BK718; clear BK732; clear HB; have HO_6 := n0_; have HO_9 := n1_; have HO_733001 := n2_; have BK718 := n3_; have BK732 := n4_; have HB := n5_; clear n0_ n1_ n2_ n3_ n4_ n5_; (try clear hb); (try clear hkp); (try clear hy0)) | ((with_reducible refine gate_callee (f := 39) rfl ?_); refine goesL_ (some 71) rfl rfl Try.func39 (by kernel_rfl) rfl #[.slice Ao80 t747.length co80, .int .i64 1] rfl (by (try simp only [List.map_toArray, List.map_cons, List.map_nil]); first | done | (rw [show t747.length = t733.length from (Kd.R_reads' HO_9.out).1.symm] <;> rfl) | rfl | (simp only [List.length_drop, List.length_take]; rfl)) ?_; (with_reducible refine (laws_heldIntS.calls kj37 _ _ t747 1 t748 _ ?side1 ?side2 A55.out).mono ?_); (case side1 => repeat (first | exact (Kd.R_reads' HO_9.out).2.2 | (with_reducible refine Kd.C_alloc ?_ _) | (with_reducible refine Kd.C_drewN ?_ _) | (with_reducible refine Kd.C_drew ?_))); (case side2 => rw [show t747.length = t733.length from (Kd.R_reads' HO_9.out).1.symm]; exact (Kd.R_reads' HO_9.out).2.1); rintro e w' ⟨rfl, ⟨nd, rfl⟩⟩; refine ⟨_, rfl, ?_⟩))
           go_ret
           exact ⟨by first | rfl | (simp [errW_none, errW_some] <;> rfl) | (simp [*, errW_none, errW_some] <;> rfl), by repeat (first | (with_reducible first | exact HB.out | apply below_alloc | apply pw_below_drewN | apply below_drew1 | refine below_set ?_ GE718.out | refine below_set ?_ GE732.out) | exact HB.out)⟩
     ·replace c36 := Bool.eq_false_iff.mpr c36
      subst c36; have H1 : (some false) = some r := by rw [if_neg (show ¬ (false = true) by decide)] at H; exact H
      clear H; have H := H1; clear H1; obtain rfl := Option.some.inj H
      try go_wp2
      have n0_ := Aside0.mk (Kd.R_drew HO_6.out); have n1_ := Aside0.mk (Kd.R_drew HO_9.out); have n2_ := Aside0.mk (Kd.R_drew HO_733001.out); have n3_ := Aside0.mk (blk_drew BK718.out); have n4_ := Aside0.mk (blk_drew BK732.out); have n5_ := Aside0.mk (below_drew1 HB.out); clear HO_6; clear HO_9; clear HO_733001; clear BK718; clear BK732; clear HB; have HO_6 := n0_; have HO_9 := n1_; have HO_733001 := n2_; have BK718 := n3_; have BK732 := n4_; have HB := n5_; clear n0_ n1_ n2_ n3_ n4_ n5_
      refine start_ (n := 5) (S := fun w' => w'.cell? ⟨gb732, 0, none⟩ = some (.int .i64 t728) ∧ w'.cell? ⟨gb732, 1, none⟩ = some (.slice Ao25 t729.length co25) ∧ w'.cell? ⟨gb718, 0, none⟩ = some (.int .i64 a0_0) ∧ w'.cell? ⟨gb718, 1, none⟩ = some (.slice A0_1 l0_1.length c0_1)) (ds := []) #[false, false, false, false, false] (by kernel_rfl) rfl rfl ⟨(blk_cell BK732.out 0).trans rfl, (blk_cell BK732.out 1).trans rfl, (blk_cell BK718.out 0).trans rfl, (blk_cell BK718.out 1).trans rfl⟩ (fun hHeld => ?_)
      generalize wc.drew = w82 at HO_6 HO_9 HO_733001 BK718 BK732 HB hHeld ⊢
      refine take_ (i := 0) (N := some 45) (v := ?_) (a' := ?_) #[true, false, false, false, false] rfl rfl (by kernel_rfl) (fun _ _ _ h => h) (Or.inl ⟨by rfl, ?_⟩) hHeld ?_ ?_
      rotate_left
      ·rintro w' ⟨s0, s1, s2, s3⟩
       go_simp
       with_reducible rfl
      rotate_left
      ·simp only [Act.put, List.setIfInBounds_toArray, List.set_cons_zero, List.set_cons_succ, i64_w, i32_w]
       rfl
      refine take_ (i := 1) (N := some 46) (v := ?_) (a' := ?_) #[true, true, false, false, false] rfl rfl (by kernel_rfl) (fun _ _ _ h => h) (Or.inl ⟨by rfl, ?_⟩) hHeld ?_ ?_
      rotate_left
      ·rintro w' ⟨s0, s1, s2, s3⟩
       go_simp
       with_reducible rfl
      rotate_left
      ·simp only [Act.put, List.setIfInBounds_toArray, List.set_cons_zero, List.set_cons_succ, i64_w, i32_w]
       rfl
      refine one_ (i := 2) (N := some 47) #[true, true, true, false, false] rfl rfl (by kernel_rfl) (by decide) (fun K hK => ?_)
      refine goes_ Try.func33 (by kernel_rfl) rfl #[.agg #[.int .i64 a0_0, .slice A0_1 l0_1.length c0_1]] (by rfl) rfl rfl (by (try simp only [List.map_toArray, List.map_cons, List.map_nil]); first | done | rfl | (simp only [List.length_drop, List.length_take]; rfl)) ?_
      with_reducible refine (laws_toGraph.calls kj11 a0_0 _ _ l0_1 t738 t739 _ ?side1 ?side2 A34.out).mono ?_
      (case side1 => repeat (first | exact (Kd.C_below HR0_1.out HB.out) | (with_reducible refine Kd.C_alloc ?_ _) | (with_reducible refine Kd.C_drewN ?_ _) | (with_reducible refine Kd.C_drew ?_)))
      (case side2 => exact HC0_1.out)
      rintro e w83 ⟨v740, rfl, ho0, hb⟩
      refine ⟨_, rfl, ?_⟩
      have n0_ := Aside0.mk (Kd.R_below (viaR HO_6.out) hb); have n1_ := Aside0.mk (Kd.R_below (viaR HO_9.out) hb); have n2_ := Aside0.mk (Kd.R_elder' (viaR HO_733001.out) (Kd.R_base ho0) hb); have n3_ := Aside0.mk (Kd.R_lower (Kd.R_new' ho0 (Kd.R_lt (viaR HO_733001.out))) (below_size (by repeat (first | (with_reducible first | exact HB.out | apply below_alloc | apply pw_below_drewN | apply below_drew1 | refine below_set ?_ GE718.out | refine below_set ?_ GE732.out) | exact HB.out)))); have n4_ := Aside0.mk (blk_below (g := gb718) (o := .cells #[.int .i64 a0_0, .slice A0_1 l0_1.length c0_1] 41 (0, 0)) (viaB BK718.out) hb); have n5_ := Aside0.mk (blk_below (g := gb732) (o := .cells #[.int .i64 t728, .slice Ao25 t729.length co25] 25 (0, 0)) (viaB BK732.out) hb); have n6_ := Aside0.mk (below_step (by repeat (first | (with_reducible first | exact HB.out | apply below_alloc | apply pw_below_drewN | apply below_drew1 | refine below_set ?_ GE718.out | refine below_set ?_ GE732.out) | exact HB.out)) hb); clear HO_6; clear HO_9; clear HO_733001; clear BK718; clear BK732; clear HB; have HO_6 := n0_; have HO_9 := n1_; have HO_733001 := n2_; have HO741 := n3_; have BK718 := n4_; have BK732 := n5_; have HB := n6_; clear n0_ n1_ n2_ n3_ n4_ n5_ n6_
      (try clear hb)
      (try clear hb2)
      (try clear hk)
      (try clear hi)
      (try clear ho0)
      obtain ⟨Ao84, co84, eo84⟩ := Kd.R_slice HO741.out
      (first | subst eo84 | (injection eo84 with f1_ f2_ f3_; have f4_ := f1_.symm; have f5_ := f3_.symm; clear f1_ f2_ f3_; subst f4_; subst f5_))
      refine hK.out _ _ ⟨(blk_cell BK732.out 0).trans rfl, (blk_cell BK732.out 1).trans rfl, (blk_cell BK718.out 0).trans rfl, (blk_cell BK718.out 1).trans rfl⟩ (fun hHeld => ?_)
      clear hK K
      refine norm_ (a' := ?_) ?_ ?_
      rotate_left
      ·show Act.put _ (some 47) _ = _
       simp only [Act.put, List.setIfInBounds_toArray, List.set_cons_zero, List.set_cons_succ, i64_w, i32_w]
       rfl
      refine one_ (i := 3) (N := some 48) #[true, true, true, true, false] rfl rfl (by kernel_rfl) (by decide) (fun K hK => ?_)
      refine goes_ Try.func36 (by kernel_rfl) rfl #[.agg #[.int .i64 t728, .slice Ao25 t729.length co25], .agg #[.int .i64 t738, .slice Ao84 t739.length co84]] (by rfl) rfl rfl (by (try simp only [List.map_toArray, List.map_cons, List.map_nil]); first | done | rfl | (simp only [List.length_drop, List.length_take]; rfl)) ?_
      with_reducible refine (laws_eqGraph.calls kj11 t728 _ _ t729 t738 _ _ t739 false _ ?side1 ?side2 ?side3 ?side4 A35.out).mono ?_
      (case side1 => repeat (first | exact (Kd.R_reads' HO_733001.out).2.2 | (with_reducible refine Kd.C_alloc ?_ _) | (with_reducible refine Kd.C_drewN ?_ _) | (with_reducible refine Kd.C_drew ?_)))
      (case side2 => exact (Kd.R_reads' HO_733001.out).2.1)
      (case side3 => repeat (first | exact (Kd.R_reads' HO741.out).2.2 | (with_reducible refine Kd.C_alloc ?_ _) | (with_reducible refine Kd.C_drewN ?_ _) | (with_reducible refine Kd.C_drew ?_)))
      (case side4 => exact (Kd.R_reads' HO741.out).2.1)
      rintro e w85 ⟨rfl, hb⟩
      refine ⟨_, rfl, ?_⟩
      have n0_ := Aside0.mk (Kd.R_below (viaR HO_6.out) hb); have n1_ := Aside0.mk (Kd.R_below (viaR HO_9.out) hb); have n2_ := Aside0.mk (Kd.R_below (viaR HO_733001.out) hb); have n3_ := Aside0.mk (Kd.R_below (viaR HO741.out) hb); have n4_ := Aside0.mk (blk_below (g := gb718) (o := .cells #[.int .i64 a0_0, .slice A0_1 l0_1.length c0_1] 41 (0, 0)) (viaB BK718.out) hb); have n5_ := Aside0.mk (blk_below (g := gb732) (o := .cells #[.int .i64 t728, .slice Ao25 t729.length co25] 25 (0, 0)) (viaB BK732.out) hb); have n6_ := Aside0.mk (below_step (by repeat (first | (with_reducible first | exact HB.out | apply below_alloc | apply pw_below_drewN | apply below_drew1 | refine below_set ?_ GE718.out | refine below_set ?_ GE732.out) | exact HB.out)) hb); clear HO_6; clear HO_9; clear HO_733001; clear HO741; clear BK718; clear BK732; clear HB; have HO_6 := n0_; have HO_9 := n1_; have HO_733001 := n2_; have HO741 := n3_; have BK718 := n4_; have BK732 := n5_; have HB := n6_; clear n0_ n1_ n2_ n3_ n4_ n5_ n6_
      (try clear hb)
      (try clear hb2)
      (try clear hk)
      (try clear hi)
      refine hK.out _ _ ⟨(blk_cell BK732.out 0).trans rfl, (blk_cell BK732.out 1).trans rfl, (blk_cell BK718.out 0).trans rfl, (blk_cell BK718.out 1).trans rfl⟩ (fun hHeld => ?_)
      clear hK K
      refine norm_ (a' := ?_) ?_ ?_
      rotate_left
      ·show Act.put _ (some 48) _ = _
       simp only [Act.put, List.setIfInBounds_toArray, List.set_cons_zero, List.set_cons_succ, i64_w, i32_w]
       rfl
      refine pure_ (i := 4) (N := some 49) (v := ?_) (a' := ?_) #[true, true, true, true, true] rfl rfl (by kernel_rfl) (fun _ _ _ h => h) (Or.inl ⟨by rfl, ?_⟩) ?_ ?_
      rotate_left
      ·intro w'
       go_simp
       with_reducible rfl
      rotate_left
      ·simp only [Act.put, List.setIfInBounds_toArray, List.set_cons_zero, List.set_cons_succ, i64_w, i32_w]
       rfl
      refine done_ (by kernel_rfl) ?_
      try go_wp2
      go_ret
      exact ⟨by first | rfl | (simp [errW_none, errW_some] <;> rfl) | (simp [*, errW_none, errW_some] <;> rfl), by repeat (first | (with_reducible first | exact HB.out | apply below_alloc | apply pw_below_drewN | apply below_drew1 | refine below_set ?_ GE718.out | refine below_set ?_ GE732.out) | exact HB.out)⟩

end Go.Proofs.Ytkgfkhhjpipngaa.G
