/- For each Go function named below: a plain Lean function of the same name, and the proof that a call of the Go function returns just what the plain function tells, where it tells something. Written by a program of this session with the printer of the kit. -/
import Derived.Test.YthoaebnnolbaaaaG0
import Derived.Test.YthoaebnnolbaaaaG34
import Derived.Test.YthoaebnnolbaaaaG44
import Derived.Test.YthoaebnnolbaaaaG45
namespace Go.Proofs.Ythoaebnnolbaaaa.G
open Go.RowKit Go.Proofs.YthoaebnnolbaaaaW.PrintWords Go.Proofs.YthoaebnnolbaaaaW.PrintLast Go.Proofs.YthoaebnnolbaaaaW.PrintMore
attribute [local go_sem] max2_int min2_int max_two min_two max_three min_three max_four min_four   -- for this text's walks alone
set_option linter.unusedVariables false
set_option linter.unusedSimpArgs false

/-! ### laws_FnExactFlipClasses: function 9 -/
def laws_FnExactFlipClasses.j0 : Nat → Bool → Int → List (S96) → Int → List (S69) → Option (Bool)
 | 0, _, _, _, _, _ => none
 | k + 1, x41, x878000, x878001, x890000, x890001 => if x41 = true then (some false) else ((laws_toGraph.f k x878000 x878001).bind fun bt892 => ((laws_eqGraph.f k x890000 x890001 bt892.1 bt892.2).bind fun t896 => (if t896 = true then (some true) else (some false))))
def laws_FnExactFlipClasses.f (k : Nat) (a0_0 : Int) (l0_1 : List (S96)) (a1 : ByteArray) : Option (Bool) := if (a1.size : Int) > 1048576 then (some true) else ((laws_szGraph.f a0_0 l0_1 1048576).bind fun t878 => (if t878 < 0 then (some true) else ((laws_toGraph.f k a0_0 l0_1).bind fun bt879 => ((spec_FlipClasses.f k bt879.1 bt879.2 a1).bind fun bt883 => ((laws_toGraph.f k a0_0 l0_1).bind fun bt885 => ((impl_FlipClasses.f k bt885.1 bt885.2 a1).bind fun bt890 => (if bt890.1 = bt883.1 then (laws_FnExactFlipClasses.j0 k (bt890.2 != bt883.2) a0_0 l0_1 bt885.1 bt885.2) else (laws_FnExactFlipClasses.j0 k true a0_0 l0_1 bt885.1 bt885.2))))))))
theorem laws_FnExactFlipClasses.mono_l : ∀ k, (∀ y0 y1 y2 y3 y4, LeO (laws_FnExactFlipClasses.j0 k y0 y1 y2 y3 y4) (laws_FnExactFlipClasses.j0 (k + 1) y0 y1 y2 y3 y4))
 | 0 => fun _ _ _ _ _ r h => by simp [laws_FnExactFlipClasses.j0] at h
 | k + 1 => by
  have ih0 := laws_FnExactFlipClasses.mono_l k
  ·intro y0 y1 y2 y3 y4
   unfold laws_FnExactFlipClasses.j0
   repeat' first
   | (with_reducible exact ih0 _ _ _ _ _)
   | (with_reducible exact impl_FlipClasses.mono _ _ _ _)
   | (with_reducible exact laws_eqGraph.mono _ _ _ _ _)
   | (with_reducible exact laws_toGraph.mono _ _ _)
   | (with_reducible exact spec_FlipClasses.mono _ _ _ _)
   | (with_reducible exact LeO.refl _)
   | (with_reducible exact LeO.none _)
   | (with_reducible refine LeO.ite ?_ ?_)
   | (with_reducible refine LeO.bind ?_ (fun _ => ?_))
   | exact ih0 _ _ _ _ _
   | exact impl_FlipClasses.mono _ _ _ _
   | exact laws_eqGraph.mono _ _ _ _ _
   | exact laws_toGraph.mono _ _ _
   | exact spec_FlipClasses.mono _ _ _ _
   | exact LeO.none _
   | refine LeO.ite ?_ ?_
   | refine LeO.bind ?_ (fun _ => ?_)
theorem laws_FnExactFlipClasses.mono : ∀ a0 a1 a2 k, LeO (laws_FnExactFlipClasses.f k a0 a1 a2) (laws_FnExactFlipClasses.f (k + 1) a0 a1 a2) := by
 intro a0 a1 a2 k; have ih0 := laws_FnExactFlipClasses.mono_l k
 unfold laws_FnExactFlipClasses.f
 repeat' first
   | (with_reducible exact ih0 _ _ _ _ _)
   | (with_reducible exact impl_FlipClasses.mono _ _ _ _)
   | (with_reducible exact laws_eqGraph.mono _ _ _ _ _)
   | (with_reducible exact laws_toGraph.mono _ _ _)
   | (with_reducible exact spec_FlipClasses.mono _ _ _ _)
   | (with_reducible exact LeO.refl _)
   | (with_reducible exact LeO.none _)
   | (with_reducible refine LeO.ite ?_ ?_)
   | (with_reducible refine LeO.bind ?_ (fun _ => ?_))
   | exact ih0 _ _ _ _ _
   | exact impl_FlipClasses.mono _ _ _ _
   | exact laws_eqGraph.mono _ _ _ _ _
   | exact laws_toGraph.mono _ _ _
   | exact spec_FlipClasses.mono _ _ _ _
   | exact LeO.none _
   | refine LeO.ite ?_ ?_
   | refine LeO.bind ?_ (fun _ => ?_)
set_option maxHeartbeats 8000000 in
set_option maxRecDepth 100000 in
theorem laws_FnExactFlipClasses.calls (k : Nat) (a0_0 : Int) (A0_1 : Option Addr) (c0_1 : Nat) (l0_1 : List (S96)) (a1 : ByteArray) (r : Bool) (w : World) (hr0_1 : Kd.C k96 w A0_1 l0_1.length l0_1) (hc0_1 : l0_1.length ≤ c0_1) (h : laws_FnExactFlipClasses.f k a0_0 l0_1 a1 = some r) :
  Calls Try.prog 9 #[.agg #[.int .i64 a0_0, .slice A0_1 l0_1.length c0_1], .string a1] w fun e w' => e = .returned (.bool r) ∧ Below w.heap.size w w' := by
 have hu43 := Try.underlying43; have hu25 := Try.underlying25; have HR0_1 := Aside0.mk hr0_1; have HC0_1 := Aside0.mk hc0_1; clear hr0_1 hc0_1; have HB := Aside0.mk (Below.refl w.heap.size w); have H : (if (a1.size : Int) > 1048576 then (some true) else ((laws_szGraph.f a0_0 l0_1 1048576).bind fun t878 => (if t878 < 0 then (some true) else ((laws_toGraph.f k a0_0 l0_1).bind fun bt879 => ((spec_FlipClasses.f k bt879.1 bt879.2 a1).bind fun bt883 => ((laws_toGraph.f k a0_0 l0_1).bind fun bt885 => ((impl_FlipClasses.f k bt885.1 bt885.2 a1).bind fun bt890 => (if bt890.1 = bt883.1 then (laws_FnExactFlipClasses.j0 k (bt890.2 != bt883.2) a0_0 l0_1 bt885.1 bt885.2) else (laws_FnExactFlipClasses.j0 k true a0_0 l0_1 bt885.1 bt885.2))))))))) = some r := h; clear h
 by_cases c3 : (a1.size : Int) > 1048576
 ·rw [if_pos c3] at H
  have c3b0 : decide (1048576 < (a1.size : Int)) = true := decide_eq_true c3; have c3b1 : decide (1048576 < a1.size) = true := decide_eq_true (by omega); clear c3; obtain rfl := Option.some.inj H
  go_enter Try.func9, Try.ntmps9
  go_wp2_with (first | ((with_reducible refine gate_dst (N := 2) rfl ?_); refine box_event ?hg (N := 2) ?hd (cs := #[.int .i64 a0_0, .slice A0_1 l0_1.length c0_1]) (t := 43) ?hr ?_; (case hd => rfl); (case hg => rfl); (case hr => first | (go_simp; done) | (go_simp; rfl)); intro gb877 hg w4 hbox hb; have n0_ := Aside0.mk (below_step (viaW HB.out) hb); have n1_ := Aside0.mk (hbox); have n2_ := Aside0.mk ((by rw [hg]; exact (below_size (viaW HB.out)) : w.heap.size ≤ gb877)); have n3_ := Aside0.mk ((by rw [hg]; exact (below_size (viaW HB.out)) : w.heap.size ≤ gb877)); clear HB; have HB := n0_; have BK877 := n1_; have GW877 := n2_; have GE877 := n3_; clear n0_ n1_ n2_ n3_; clear hb hbox hg))
  go_ret
  exact ⟨by first | rfl | (simp [errW_none, errW_some] <;> rfl) | (simp [*, errW_none, errW_some] <;> rfl), viaX HB.out GE877.out⟩
 ·rw [if_neg c3] at H
  have c3b0 : decide (1048576 < (a1.size : Int)) = false := decide_eq_false c3; have c3b1 : decide (1048576 < a1.size) = false := decide_eq_false (by omega); clear c3; replace H := Option.bind_eq_some_iff.mp H; obtain ⟨t878, A50, H⟩ := H; replace H : (if t878 < 0 then (some true) else ((laws_toGraph.f k a0_0 l0_1).bind fun bt879 => ((spec_FlipClasses.f k bt879.1 bt879.2 a1).bind fun bt883 => ((laws_toGraph.f k a0_0 l0_1).bind fun bt885 => ((impl_FlipClasses.f k bt885.1 bt885.2 a1).bind fun bt890 => (if bt890.1 = bt883.1 then (laws_FnExactFlipClasses.j0 k (bt890.2 != bt883.2) a0_0 l0_1 bt885.1 bt885.2) else (laws_FnExactFlipClasses.j0 k true a0_0 l0_1 bt885.1 bt885.2))))))) = some r := H; have A5 := Aside0.mk A50; clear A50
  by_cases c6 : t878 < 0
  ·rw [if_pos c6] at H
   have c6b0 : decide (t878 < 0) = true := decide_eq_true c6; clear c6; obtain rfl := Option.some.inj H
   go_enter Try.func9, Try.ntmps9
   go_wp2_with (first | ((with_reducible refine gate_dst (N := 2) rfl ?_); refine box_event ?hg (N := 2) ?hd (cs := #[.int .i64 a0_0, .slice A0_1 l0_1.length c0_1]) (t := 43) ?hr ?_; (case hd => rfl); (case hg => rfl); (case hr => first | (go_simp; done) | (go_simp; rfl)); intro gb877 hg w7 hbox hb; have n0_ := Aside0.mk (below_step (viaW HB.out) hb); have n1_ := Aside0.mk (hbox); have n2_ := Aside0.mk ((by rw [hg]; exact (below_size (viaW HB.out)) : w.heap.size ≤ gb877)); have n3_ := Aside0.mk ((by rw [hg]; exact (below_size (viaW HB.out)) : w.heap.size ≤ gb877)); clear HB; have HB := n0_; have BK877 := n1_; have GW877 := n2_; have GE877 := n3_; clear n0_ n1_ n2_ n3_; clear hb hbox hg; have hcz8_0 : w7.cell? ⟨gb877, 0, none⟩ = some (.int .i64 a0_0) := (blk_cell BK877.out 0).trans rfl; have hcz8_1 : w7.cell? ⟨gb877, 1, none⟩ = some (.slice A0_1 l0_1.length c0_1) := (blk_cell BK877.out 1).trans rfl; have hfz8_0 := blk_frozen BK877.out 0; have hfz8_1 := blk_frozen BK877.out 1) | ((with_reducible refine gate_callee (f := 31) rfl ?_); refine goesL_ (some 16) rfl rfl Try.func31 (by kernel_rfl) rfl #[.agg #[.int .i64 a0_0, .slice A0_1 l0_1.length c0_1], .int .i64 1048576] rfl (by (try simp only [List.map_toArray, List.map_cons, List.map_nil]); first | done | rfl | (simp only [List.length_drop, List.length_take]; rfl)) ?_; (with_reducible refine (laws_szGraph.calls a0_0 _ _ l0_1 1048576 t878 _ ?side1 ?side2 A5.out).mono ?_); (case side1 => repeat (first | exact (Kd.C_below HR0_1.out HB.out) | (with_reducible refine Kd.C_alloc ?_ _) | (with_reducible refine Kd.C_drewN ?_ _) | (with_reducible refine Kd.C_drew ?_))); (case side2 => exact HC0_1.out); rintro e w9 ⟨rfl, hb⟩; refine ⟨_, rfl, ?_⟩; have n0_ := Aside0.mk (blk_below (g := gb877) (o := .cells #[.int .i64 a0_0, .slice A0_1 l0_1.length c0_1] 43 (0, 0)) (viaB BK877.out) hb); have n1_ := Aside0.mk (below_step (viaX HB.out GE877.out) hb); clear BK877; clear HB; have BK877 := n0_; have HB := n1_; clear n0_ n1_; (try clear hb); (try clear hb2); (try clear hk); (try clear hi)))
   go_ret
   exact ⟨by first | rfl | (simp [errW_none, errW_some] <;> rfl) | (simp [*, errW_none, errW_some] <;> rfl), viaX HB.out GE877.out⟩
  ·rw [if_neg c6] at H
   have c6b0 : decide (t878 < 0) = false := decide_eq_false c6; clear c6; replace H := Option.bind_eq_some_iff.mp H; obtain ⟨⟨t879, t880⟩, A100, H⟩ := H; replace H : ((spec_FlipClasses.f k t879 t880 a1).bind fun bt883 => ((laws_toGraph.f k a0_0 l0_1).bind fun bt885 => ((impl_FlipClasses.f k bt885.1 bt885.2 a1).bind fun bt890 => (if bt890.1 = bt883.1 then (laws_FnExactFlipClasses.j0 k (bt890.2 != bt883.2) a0_0 l0_1 bt885.1 bt885.2) else (laws_FnExactFlipClasses.j0 k true a0_0 l0_1 bt885.1 bt885.2))))) = some r := H; have A10 := Aside0.mk A100; clear A100; replace H := Option.bind_eq_some_iff.mp H; obtain ⟨⟨t883, t884⟩, A110, H⟩ := H; replace H : ((laws_toGraph.f k a0_0 l0_1).bind fun bt885 => ((impl_FlipClasses.f k bt885.1 bt885.2 a1).bind fun bt890 => (if bt890.1 = t883 then (laws_FnExactFlipClasses.j0 k (bt890.2 != t884) a0_0 l0_1 bt885.1 bt885.2) else (laws_FnExactFlipClasses.j0 k true a0_0 l0_1 bt885.1 bt885.2)))) = some r := H; have A11 := Aside0.mk A110; clear A110; replace H := Option.bind_eq_some_iff.mp H; obtain ⟨⟨t885, t886⟩, A120, H⟩ := H; replace H : ((impl_FlipClasses.f k t885 t886 a1).bind fun bt890 => (if bt890.1 = t883 then (laws_FnExactFlipClasses.j0 k (bt890.2 != t884) a0_0 l0_1 t885 t886) else (laws_FnExactFlipClasses.j0 k true a0_0 l0_1 t885 t886))) = some r := H; have A12 := Aside0.mk A120; clear A120; replace H := Option.bind_eq_some_iff.mp H; obtain ⟨⟨t890, t891⟩, A130, H⟩ := H; replace H : (if t890 = t883 then (laws_FnExactFlipClasses.j0 k (t891 != t884) a0_0 l0_1 t885 t886) else (laws_FnExactFlipClasses.j0 k true a0_0 l0_1 t885 t886)) = some r := H; have A13 := Aside0.mk A130; clear A130; have HC14 := Aside0.mk H; clear H
   go_enter Try.func9, Try.ntmps9
   go_upto_region 10 with (first | ((with_reducible refine gate_dst (N := 2) rfl ?_); refine box_event ?hg (N := 2) ?hd (cs := #[.int .i64 a0_0, .slice A0_1 l0_1.length c0_1]) (t := 43) ?hr ?_; (case hd => rfl); (case hg => rfl); (case hr => first | (go_simp; done) | (go_simp; rfl)); intro gb877 hg w15 hbox hb; have n0_ := Aside0.mk (below_step (viaW HB.out) hb); have n1_ := Aside0.mk (hbox); have n2_ := Aside0.mk ((by rw [hg]; exact (below_size (viaW HB.out)) : w.heap.size ≤ gb877)); have n3_ := Aside0.mk ((by rw [hg]; exact (below_size (viaW HB.out)) : w.heap.size ≤ gb877)); clear HB; have HB := n0_; have BK877 := n1_; have GW877 := n2_; have GE877 := n3_; clear n0_ n1_ n2_ n3_; clear hb hbox hg; have hcz16_0 : w15.cell? ⟨gb877, 0, none⟩ = some (.int .i64 a0_0) := (blk_cell BK877.out 0).trans rfl; have hcz16_1 : w15.cell? ⟨gb877, 1, none⟩ = some (.slice A0_1 l0_1.length c0_1) := (blk_cell BK877.out 1).trans rfl; have hfz16_0 := blk_frozen BK877.out 0; have hfz16_1 := blk_frozen BK877.out 1) | ((with_reducible refine gate_callee (f := 31) rfl ?_); refine goesL_ (some 16) rfl rfl Try.func31 (by kernel_rfl) rfl #[.agg #[.int .i64 a0_0, .slice A0_1 l0_1.length c0_1], .int .i64 1048576] rfl (by (try simp only [List.map_toArray, List.map_cons, List.map_nil]); first | done | rfl | (simp only [List.length_drop, List.length_take]; rfl)) ?_; (with_reducible refine (laws_szGraph.calls a0_0 _ _ l0_1 1048576 t878 _ ?side1 ?side2 A5.out).mono ?_); (case side1 => repeat (first | exact (Kd.C_below HR0_1.out HB.out) | (with_reducible refine Kd.C_alloc ?_ _) | (with_reducible refine Kd.C_drewN ?_ _) | (with_reducible refine Kd.C_drew ?_))); (case side2 => exact HC0_1.out); rintro e w17 ⟨rfl, hb⟩; refine ⟨_, rfl, ?_⟩; have n0_ := Aside0.mk (blk_below (g := gb877) (o := .cells #[.int .i64 a0_0, .slice A0_1 l0_1.length c0_1] 43 (0, 0)) (viaB BK877.out) hb); have n1_ := Aside0.mk (below_step (viaX HB.out GE877.out) hb); clear BK877; clear HB; have BK877 := n0_; have HB := n1_; clear n0_ n1_; (try clear hb); (try clear hb2); (try clear hk); (try clear hi); have hcz18_0 : w17.cell? ⟨gb877, 0, none⟩ = some (.int .i64 a0_0) := (blk_cell BK877.out 0).trans rfl; have hcz18_1 : w17.cell? ⟨gb877, 1, none⟩ = some (.slice A0_1 l0_1.length c0_1) := (blk_cell BK877.out 1).trans rfl; have hfz18_0 := blk_frozen BK877.out 0; have hfz18_1 := blk_frozen BK877.out 1) | ((with_reducible refine gate_callee (f := 33) rfl ?_); refine goesL_ (some 21) rfl rfl Try.func33 (by kernel_rfl) rfl #[.agg #[.int .i64 a0_0, .slice A0_1 l0_1.length c0_1]] rfl (by (try simp only [List.map_toArray, List.map_cons, List.map_nil]); first | done | rfl | (simp only [List.length_drop, List.length_take]; rfl)) ?_; (with_reducible refine (laws_toGraph.calls k a0_0 _ _ l0_1 t879 t880 _ ?side1 ?side2 A10.out).mono ?_); (case side1 => repeat (first | exact (Kd.C_below HR0_1.out HB.out) | (with_reducible refine Kd.C_alloc ?_ _) | (with_reducible refine Kd.C_drewN ?_ _) | (with_reducible refine Kd.C_drew ?_))); (case side2 => exact HC0_1.out); rintro e w19 ⟨v881, rfl, ho0, hb⟩; refine ⟨_, rfl, ?_⟩; have n0_ := Aside0.mk (Kd.R_lower ho0 (below_size (viaX HB.out GE877.out))); have n1_ := Aside0.mk (blk_below (g := gb877) (o := .cells #[.int .i64 a0_0, .slice A0_1 l0_1.length c0_1] 43 (0, 0)) (viaB BK877.out) hb); have n2_ := Aside0.mk (below_step (viaX HB.out GE877.out) hb); clear BK877; clear HB; have HO882 := n0_; have BK877 := n1_; have HB := n2_; clear n0_ n1_ n2_; (try clear hb); (try clear hb2); (try clear hk); (try clear hi); (try clear ho0); obtain ⟨Ao20, co20, eo20⟩ := Kd.R_slice HO882.out; subst eo20) | ((with_reducible refine gate_callee (f := 38) rfl ?_); refine goesL_ (some 23) rfl rfl Try.func38 (by kernel_rfl) rfl #[.agg #[.int .i64 t879, .slice Ao20 t880.length co20], .string a1] rfl (by (try simp only [List.map_toArray, List.map_cons, List.map_nil]); first | done | rfl | (simp only [List.length_drop, List.length_take]; rfl)) ?_; (with_reducible refine (spec_FlipClasses.calls k t879 _ _ t880 a1 t883 t884 _ ?side1 ?side2 A11.out).mono ?_); (case side1 => repeat (first | exact (Kd.R_reads' HO882.out).2.2 | (with_reducible refine Kd.C_alloc ?_ _) | (with_reducible refine Kd.C_drewN ?_ _) | (with_reducible refine Kd.C_drew ?_))); (case side2 => exact (Kd.R_reads' HO882.out).2.1); rintro e w21 ⟨rfl, hb⟩; refine ⟨_, rfl, ?_⟩; have n0_ := Aside0.mk (Kd.R_below (viaR HO882.out) hb); have n1_ := Aside0.mk (blk_below (g := gb877) (o := .cells #[.int .i64 a0_0, .slice A0_1 l0_1.length c0_1] 43 (0, 0)) (viaB BK877.out) hb); have n2_ := Aside0.mk (below_step (viaX HB.out GE877.out) hb); clear HO882; clear BK877; clear HB; have HO882 := n0_; have BK877 := n1_; have HB := n2_; clear n0_ n1_ n2_; (try clear hb); (try clear hb2); (try clear hk); (try clear hi); have hcz22_0 : w21.cell? ⟨gb877, 0, none⟩ = some (.int .i64 a0_0) := (blk_cell BK877.out 0).trans rfl; have hcz22_1 : w21.cell? ⟨gb877, 1, none⟩ = some (.slice A0_1 l0_1.length c0_1) := (blk_cell BK877.out 1).trans rfl; have hfz22_0 := blk_frozen BK877.out 0; have hfz22_1 := blk_frozen BK877.out 1) | ((with_reducible refine gate_callee (f := 33) rfl ?_); refine goesL_ (some 27) rfl rfl Try.func33 (by kernel_rfl) rfl #[.agg #[.int .i64 a0_0, .slice A0_1 l0_1.length c0_1]] rfl (by (try simp only [List.map_toArray, List.map_cons, List.map_nil]); first | done | rfl | (simp only [List.length_drop, List.length_take]; rfl)) ?_; (with_reducible refine (laws_toGraph.calls k a0_0 _ _ l0_1 t885 t886 _ ?side1 ?side2 A12.out).mono ?_); (case side1 => repeat (first | exact (Kd.C_below HR0_1.out HB.out) | (with_reducible refine Kd.C_alloc ?_ _) | (with_reducible refine Kd.C_drewN ?_ _) | (with_reducible refine Kd.C_drew ?_))); (case side2 => exact HC0_1.out); rintro e w23 ⟨v887, rfl, ho0, hb⟩; refine ⟨_, rfl, ?_⟩; have n0_ := Aside0.mk (Kd.R_elder' (viaR HO882.out) (Kd.R_base ho0) hb); have n1_ := Aside0.mk (Kd.R_lower (Kd.R_new' ho0 (Kd.R_lt (viaR HO882.out))) (below_size (viaX HB.out GE877.out))); have n2_ := Aside0.mk (blk_below (g := gb877) (o := .cells #[.int .i64 a0_0, .slice A0_1 l0_1.length c0_1] 43 (0, 0)) (viaB BK877.out) hb); have n3_ := Aside0.mk (below_step (viaX HB.out GE877.out) hb); clear HO882; clear BK877; clear HB; have HO882 := n0_; have HO888 := n1_; have BK877 := n2_; have HB := n3_; clear n0_ n1_ n2_ n3_; (try clear hb); (try clear hb2); (try clear hk); (try clear hi); (try clear ho0)) | ((with_reducible refine gate_dst (N := 8) rfl ?_); refine box_event ?hg (N := 8) ?hd (cs := #[.int .i64 0, .slice none 0 0]) (t := 25) ?hr ?_; (case hd => rfl); (case hg => rfl); (case hr => first | (go_simp; done) | (go_simp; rfl)); intro gb889 hg w24 hbox hb; have n0_ := Aside0.mk (Kd.R_below (viaR HO882.out) hb); have n1_ := Aside0.mk (Kd.R_below (viaR HO888.out) hb); have n2_ := Aside0.mk (blk_below (g := gb877) (o := .cells #[.int .i64 a0_0, .slice A0_1 l0_1.length c0_1] 43 (0, 0)) (viaB BK877.out) hb); have n3_ := Aside0.mk (below_step (viaX HB.out GE877.out) hb); have n4_ := Aside0.mk (hbox); have n5_ := Aside0.mk ((by rw [hg]; exact (below_size (viaX HB.out GE877.out)) : w.heap.size ≤ gb889)); have n6_ := Aside0.mk ((by rw [hg]; exact (below_size (viaX HB.out GE877.out)) : w.heap.size ≤ gb889)); have n7_ := Aside0.mk ((by rw [hg]; exact Nat.ne_of_lt (blk_lt (g := gb877) (o := .cells #[.int .i64 a0_0, .slice A0_1 l0_1.length c0_1] 43 (0, 0)) (viaB BK877.out)) : gb877 ≠ gb889)); have n8_ := Aside0.mk ((by rw [hg]; exact Nat.ne_of_gt (blk_lt (g := gb877) (o := .cells #[.int .i64 a0_0, .slice A0_1 l0_1.length c0_1] 43 (0, 0)) (viaB BK877.out)) : gb889 ≠ gb877)); clear HO882; clear HO888; clear BK877; clear HB; have HO882 := n0_; have HO888 := n1_; have BK877 := n2_; have HB := n3_; have BK889 := n4_; have GW889 := n5_; have GE889 := n6_; have NB877_889 := n7_; have NB889_877 := n8_; clear n0_ n1_ n2_ n3_ n4_ n5_ n6_ n7_ n8_; clear hb hbox hg; have hnb25 := NB889_877.out; have hnc25 := NB877_889.out; have hcz26_0 : w24.cell? ⟨gb889, 0, none⟩ = some (.int .i64 0) := (blk_cell BK889.out 0).trans rfl; have hcz26_1 : w24.cell? ⟨gb889, 1, none⟩ = some (.slice none 0 0) := (blk_cell BK889.out 1).trans rfl; have hfz26_0 := blk_frozen BK889.out 0; have hfz26_1 := blk_frozen BK889.out 1; obtain ⟨Ao27, co27, eo27⟩ := Kd.R_slice HO888.out; subst eo27) | ((with_reducible refine gate_callee (f := 39) rfl ?_); refine goesL_ (some 31) rfl rfl Try.func39 (by kernel_rfl) rfl #[.agg #[.int .i64 t885, .slice Ao27 t886.length co27], .string a1] rfl (by (try simp only [List.map_toArray, List.map_cons, List.map_nil]); first | done | rfl | (simp only [List.length_drop, List.length_take]; rfl)) ?_; (with_reducible refine (impl_FlipClasses.calls k t885 _ _ t886 a1 t890 t891 _ ?side1 ?side2 A13.out).mono ?_); (case side1 => refine (Kd.R_reads' (e := 69) (base := w.heap.size) (ok := fun k_ => (True ∧ some k_ ≠ (.slice Ao20 t880.length co20 : Value).ownBlock)) (n := t886.length) (c := co27) ?_).2.2; exact (by (with_reducible repeat (first | apply Kd.R_alloc | apply Kd.R_drewN | apply Kd.R_drew)); exact (Kd.R_mono (Kd.R_far (p := ⟨gb889, 1, none⟩) (Kd.R_far (p := ⟨gb889, 0, none⟩) (Kd.R_types HO888.out BK889.out (by decide)) (fun _ hk => hk.2) (.int .i64 t885)) (fun _ hk => hk.2) (.slice Ao27 t886.length co27)) (fun _ h_ => h_.1)))); (case side2 => exact (Kd.R_reads' HO888.out).2.1); rintro e w28 ⟨rfl, hb⟩; refine ⟨_, rfl, ?_⟩; have n0_ := Aside0.mk (Kd.R_below (by (with_reducible repeat (first | apply Kd.R_alloc | apply Kd.R_drewN | apply Kd.R_drew)); exact (Kd.R_mono (Kd.R_far (p := ⟨gb889, 1, none⟩) (Kd.R_far (p := ⟨gb889, 0, none⟩) (Kd.R_types HO882.out BK889.out (by decide)) (fun _ hk => hk.2) (.int .i64 t885)) (fun _ hk => hk.2) (.slice Ao27 t886.length co27)) (fun _ h_ => h_.1))) hb); have n1_ := Aside0.mk (Kd.R_below (by (with_reducible repeat (first | apply Kd.R_alloc | apply Kd.R_drewN | apply Kd.R_drew)); exact (Kd.R_mono (Kd.R_far (p := ⟨gb889, 1, none⟩) (Kd.R_far (p := ⟨gb889, 0, none⟩) (Kd.R_types HO888.out BK889.out (by decide)) (fun _ hk => hk.2) (.int .i64 t885)) (fun _ hk => hk.2) (.slice Ao27 t886.length co27)) (fun _ h_ => h_.1))) hb); have n2_ := Aside0.mk (blk_below (g := gb877) (o := .cells #[.int .i64 a0_0, .slice A0_1 l0_1.length c0_1] 43 (0, 0)) (by (with_reducible repeat (first | refine blk_drewN ?_ _ | refine blk_drew ?_ | refine blk_alloc ?_ _)); refine blk_far ?_ NB877_889.out _; (with_reducible repeat (first | refine blk_drewN ?_ _ | refine blk_drew ?_ | refine blk_alloc ?_ _)); refine blk_far ?_ NB877_889.out _; (with_reducible repeat (first | refine blk_drewN ?_ _ | refine blk_drew ?_ | refine blk_alloc ?_ _)); exact BK877.out) hb); have n3_ := Aside0.mk (blk_below (g := gb889) (o := .cells #[.int .i64 t885, .slice Ao27 t886.length co27] 25 (0, 0)) (by (with_reducible repeat (first | refine blk_drewN ?_ _ | refine blk_drew ?_ | refine blk_alloc ?_ _)); refine blk_put (cs := #[.int .i64 t885, .slice none 0 0]) ?_ 1 _ rfl; (with_reducible repeat (first | refine blk_drewN ?_ _ | refine blk_drew ?_ | refine blk_alloc ?_ _)); refine blk_put (cs := #[.int .i64 0, .slice none 0 0]) ?_ 0 _ rfl; (with_reducible repeat (first | refine blk_drewN ?_ _ | refine blk_drew ?_ | refine blk_alloc ?_ _)); exact BK889.out) hb); have n4_ := Aside0.mk (below_step (by repeat (first | (with_reducible first | exact HB.out | apply below_alloc | apply pw_below_drewN | apply below_drew1 | refine below_set ?_ GE877.out | refine below_set ?_ GE889.out) | exact HB.out)) hb); clear HO882; clear HO888; clear BK877; clear BK889; clear HB; have HO882 := n0_; have HO888 := n1_; have BK877 := n2_; have BK889 := n3_; have HB := n4_; clear n0_ n1_ n2_ n3_ n4_; (try clear hb); (try clear hb2); (try clear hk); (try clear hi)))
   (try simp only [Act.put, List.setIfInBounds_toArray, List.set_cons_zero, List.set_cons_succ])
   go_cut [41] (fun v41 wc => ∃ (kq : Nat) (x41_13 : Bool), v41 = .bool x41_13 ∧ Aside0 (laws_FnExactFlipClasses.j0 kq x41_13 a0_0 l0_1 t885 t886 = some r) ∧ Aside0 (kq ≤ k) ∧ Aside0 (Kd.R k69 69 wc w.heap.size (fun _ => True) (.slice Ao27 t886.length co27) t886) ∧ Aside0 (wc.heap[gb877]? = some (.cells #[.int .i64 a0_0, (.slice A0_1 l0_1.length c0_1)] 43 (0, 0))) ∧ Aside0 (wc.heap[gb889]? = some (.cells #[.int .i64 t885, (.slice Ao27 t886.length co27)] 25 (0, 0))) ∧ Aside0 (Below w.heap.size w wc))
   case first =>
    have H := HC14.out; clear HC14
    by_cases c29 : t890 = t883
    ·rw [if_pos c29] at H
     have c29b0 : (t890 == t883) = true := beq_iff_eq.mpr c29; have c29b1 : (t890 != t883) = false := bne_eq_false_iff_eq.mpr c29; clear c29
     (first | rw [c29b0] | (simp only [i64_w, i32_w]; rw [c29b0]) | skip)
     have H' := Aside0.mk H; clear H
     go_wp2
     go_meet
     case rel => exact ⟨_, ((t891 != t884)), (by first | rfl | (simp; done) | (simp [*]; done)), H', ⟨by first | omega | exact Nat.le_refl _⟩, ⟨by (with_reducible repeat (first | apply Kd.R_alloc | apply Kd.R_drewN | apply Kd.R_drew)); exact Kd.R_mono HO888.out (fun _ hk => trivial)⟩, ⟨viaB BK877.out⟩, ⟨viaB BK889.out⟩, ⟨by repeat (first | (with_reducible first | exact HB.out | apply below_alloc | apply pw_below_drewN | apply below_drew1 | refine below_set ?_ GE877.out | refine below_set ?_ GE889.out) | exact HB.out)⟩⟩
    ·rw [if_neg c29] at H
     have c29b0 : (t890 == t883) = false := beq_eq_false_iff_ne.mpr c29; have c29b1 : (t890 != t883) = true := bne_iff_ne.mpr c29
     (first | rw [c29b0] | (simp only [i64_w, i32_w]; rw [c29b0]) | skip)
     have H' := Aside0.mk H; clear H
     go_wp2
     go_meet
     case rel => exact ⟨_, (true), (by first | rfl | (simp; done) | (simp [*]; done)), H', ⟨by first | omega | exact Nat.le_refl _⟩, ⟨by (with_reducible repeat (first | apply Kd.R_alloc | apply Kd.R_drewN | apply Kd.R_drew)); exact Kd.R_mono HO888.out (fun _ hk => trivial)⟩, ⟨viaB BK877.out⟩, ⟨viaB BK889.out⟩, ⟨by repeat (first | (with_reducible first | exact HB.out | apply below_alloc | apply pw_below_drewN | apply below_drew1 | refine below_set ?_ GE877.out | refine below_set ?_ GE889.out) | exact HB.out)⟩⟩
   case rest =>
    clear HC14
    try clear c2
    try clear p2
    try clear c3
    try clear c3b0
    try clear c3b1
    try clear c6
    try clear c6b0
    try clear c9
    try clear c25
    try clear c29
    try clear c29b0
    try clear c29b1
    try clear hcz16_0
    try clear hcz16_1
    try clear hcz18_0
    try clear hcz18_1
    try clear hcz22_0
    try clear hcz22_1
    try clear hcz26_0
    try clear hcz26_1
    try clear hcz8_0
    try clear hcz8_1
    try clear hfz16_0
    try clear hfz16_1
    try clear hfz18_0
    try clear hfz18_1
    try clear hfz22_0
    try clear hfz22_1
    try clear hfz26_0
    try clear hfz26_1
    try clear hfz8_0
    try clear hfz8_1
    obtain ⟨kq, x41_13, rfl, HA, HJ13, HO_890001, BK877, BK889, HB⟩ := hcut
    cases kq with
    | zero => exact absurd HA.out (by simp [laws_FnExactFlipClasses.j0])
    | succ kj13 =>
     have H := HA.out; clear HA
     simp only [laws_FnExactFlipClasses.j0] at H
     by_cases c30 : x41_13 = true
     ·subst c30
      have H1 : (some false) = some r := by rw [if_pos rfl] at H; exact H
      clear H; have H := H1; clear H1; obtain rfl := Option.some.inj H
      go_wp2
      go_ret
      exact ⟨by first | rfl | (simp [errW_none, errW_some] <;> rfl) | (simp [*, errW_none, errW_some] <;> rfl), by repeat (first | (with_reducible first | exact HB.out | apply below_alloc | apply pw_below_drewN | apply below_drew1 | refine below_set ?_ GE877.out | refine below_set ?_ GE889.out) | exact HB.out)⟩
     ·replace c30 := Bool.eq_false_iff.mpr c30
      subst c30; have H1 : ((laws_toGraph.f kj13 a0_0 l0_1).bind fun bt892 => ((laws_eqGraph.f kj13 t885 t886 bt892.1 bt892.2).bind fun t896 => (if t896 = true then (some true) else (some false)))) = some r := by rw [if_neg (show ¬ (false = true) by decide)] at H; exact H
      clear H; have H := H1; clear H1; replace H := Option.bind_eq_some_iff.mp H; obtain ⟨⟨t892, t893⟩, A310, H⟩ := H; replace H : ((laws_eqGraph.f kj13 t885 t886 t892 t893).bind fun t896 => (if t896 = true then (some true) else (some false))) = some r := H; have A31 := Aside0.mk A310; clear A310; replace H := Option.bind_eq_some_iff.mp H; obtain ⟨t896, A320, H⟩ := H; replace H : (if t896 = true then (some true) else (some false)) = some r := H; have A32 := Aside0.mk A320; clear A320
      by_cases c33 : t896 = true
      ·subst c33
       have H1 : (some true) = some r := by rw [if_pos rfl] at H; exact H
       clear H; have H := H1; clear H1; obtain rfl := Option.some.inj H
       try go_wp2
       have n0_ := Aside0.mk (Kd.R_drew HO_890001.out); have n1_ := Aside0.mk (blk_drew BK877.out); have n2_ := Aside0.mk (blk_drew BK889.out); have n3_ := Aside0.mk (below_drew1 HB.out); clear HO_890001; clear BK877; clear BK889; clear HB; have HO_890001 := n0_; have BK877 := n1_; have BK889 := n2_; have HB := n3_; clear n0_ n1_ n2_ n3_
       refine start_ (n := 5) (S := fun w' => w'.cell? ⟨gb889, 0, none⟩ = some (.int .i64 t885) ∧ w'.cell? ⟨gb889, 1, none⟩ = some (.slice Ao27 t886.length co27) ∧ w'.cell? ⟨gb877, 0, none⟩ = some (.int .i64 a0_0) ∧ w'.cell? ⟨gb877, 1, none⟩ = some (.slice A0_1 l0_1.length c0_1)) (ds := []) #[false, false, false, false, false] (by kernel_rfl) rfl rfl ⟨(blk_cell BK889.out 0).trans rfl, (blk_cell BK889.out 1).trans rfl, (blk_cell BK877.out 0).trans rfl, (blk_cell BK877.out 1).trans rfl⟩ (fun hHeld => ?_)
       generalize wc.drew = w34 at HO_890001 BK877 BK889 HB hHeld ⊢
       refine take_ (i := 0) (N := some 42) (v := ?_) (a' := ?_) #[true, false, false, false, false] rfl rfl (by kernel_rfl) (fun _ _ _ h => h) (Or.inl ⟨by rfl, ?_⟩) hHeld ?_ ?_
       rotate_left
       ·rintro w' ⟨s0, s1, s2, s3⟩
        go_simp
        with_reducible rfl
       rotate_left
       ·simp only [Act.put, List.setIfInBounds_toArray, List.set_cons_zero, List.set_cons_succ, i64_w, i32_w]
        rfl
       refine take_ (i := 1) (N := some 43) (v := ?_) (a' := ?_) #[true, true, false, false, false] rfl rfl (by kernel_rfl) (fun _ _ _ h => h) (Or.inl ⟨by rfl, ?_⟩) hHeld ?_ ?_
       rotate_left
       ·rintro w' ⟨s0, s1, s2, s3⟩
        go_simp
        with_reducible rfl
       rotate_left
       ·simp only [Act.put, List.setIfInBounds_toArray, List.set_cons_zero, List.set_cons_succ, i64_w, i32_w]
        rfl
       refine one_ (i := 2) (N := some 44) #[true, true, true, false, false] rfl rfl (by kernel_rfl) (by decide) (fun K hK => ?_)
       refine goes_ Try.func33 (by kernel_rfl) rfl #[.agg #[.int .i64 a0_0, .slice A0_1 l0_1.length c0_1]] (by rfl) rfl rfl (by (try simp only [List.map_toArray, List.map_cons, List.map_nil]); first | done | rfl | (simp only [List.length_drop, List.length_take]; rfl)) ?_
       with_reducible refine (laws_toGraph.calls kj13 a0_0 _ _ l0_1 t892 t893 _ ?side1 ?side2 A31.out).mono ?_
       (case side1 => repeat (first | exact (Kd.C_below HR0_1.out HB.out) | (with_reducible refine Kd.C_alloc ?_ _) | (with_reducible refine Kd.C_drewN ?_ _) | (with_reducible refine Kd.C_drew ?_)))
       (case side2 => exact HC0_1.out)
       rintro e w35 ⟨v894, rfl, ho0, hb⟩
       refine ⟨_, rfl, ?_⟩
       have n0_ := Aside0.mk (Kd.R_elder' (viaR HO_890001.out) (Kd.R_base ho0) hb); have n1_ := Aside0.mk (Kd.R_lower (Kd.R_new' ho0 (Kd.R_lt (viaR HO_890001.out))) (below_size (by repeat (first | (with_reducible first | exact HB.out | apply below_alloc | apply pw_below_drewN | apply below_drew1 | refine below_set ?_ GE877.out | refine below_set ?_ GE889.out) | exact HB.out)))); have n2_ := Aside0.mk (blk_below (g := gb877) (o := .cells #[.int .i64 a0_0, .slice A0_1 l0_1.length c0_1] 43 (0, 0)) (viaB BK877.out) hb); have n3_ := Aside0.mk (blk_below (g := gb889) (o := .cells #[.int .i64 t885, .slice Ao27 t886.length co27] 25 (0, 0)) (viaB BK889.out) hb); have n4_ := Aside0.mk (below_step (by repeat (first | (with_reducible first | exact HB.out | apply below_alloc | apply pw_below_drewN | apply below_drew1 | refine below_set ?_ GE877.out | refine below_set ?_ GE889.out) | exact HB.out)) hb); clear HO_890001; clear BK877; clear BK889; clear HB; have HO_890001 := n0_; have HO895 := n1_; have BK877 := n2_; have BK889 := n3_; have HB := n4_; clear n0_ n1_ n2_ n3_ n4_
       (try clear hb)
       (try clear hb2)
       (try clear hk)
       (try clear hi)
       (try clear ho0)
       obtain ⟨Ao36, co36, eo36⟩ := Kd.R_slice HO895.out
       (first | subst eo36 | (injection eo36 with f1_ f2_ f3_; have f4_ := f1_.symm; have f5_ := f3_.symm; clear f1_ f2_ f3_; subst f4_; subst f5_))
       refine hK.out _ _ ⟨(blk_cell BK889.out 0).trans rfl, (blk_cell BK889.out 1).trans rfl, (blk_cell BK877.out 0).trans rfl, (blk_cell BK877.out 1).trans rfl⟩ (fun hHeld => ?_)
       clear hK K
       refine norm_ (a' := ?_) ?_ ?_
       rotate_left
       ·show Act.put _ (some 44) _ = _
        simp only [Act.put, List.setIfInBounds_toArray, List.set_cons_zero, List.set_cons_succ, i64_w, i32_w]
        rfl
       refine one_ (i := 3) (N := some 45) #[true, true, true, true, false] rfl rfl (by kernel_rfl) (by decide) (fun K hK => ?_)
       refine goes_ Try.func35 (by kernel_rfl) rfl #[.agg #[.int .i64 t885, .slice Ao27 t886.length co27], .agg #[.int .i64 t892, .slice Ao36 t893.length co36]] (by rfl) rfl rfl (by (try simp only [List.map_toArray, List.map_cons, List.map_nil]); first | done | rfl | (simp only [List.length_drop, List.length_take]; rfl)) ?_
       with_reducible refine (laws_eqGraph.calls kj13 t885 _ _ t886 t892 _ _ t893 true _ ?side1 ?side2 ?side3 ?side4 A32.out).mono ?_
       (case side1 => repeat (first | exact (Kd.R_reads' HO_890001.out).2.2 | (with_reducible refine Kd.C_alloc ?_ _) | (with_reducible refine Kd.C_drewN ?_ _) | (with_reducible refine Kd.C_drew ?_)))
       (case side2 => exact (Kd.R_reads' HO_890001.out).2.1)
       (case side3 => repeat (first | exact (Kd.R_reads' HO895.out).2.2 | (with_reducible refine Kd.C_alloc ?_ _) | (with_reducible refine Kd.C_drewN ?_ _) | (with_reducible refine Kd.C_drew ?_)))
       (case side4 => exact (Kd.R_reads' HO895.out).2.1)
       rintro e w37 ⟨rfl, hb⟩
       refine ⟨_, rfl, ?_⟩
       have n0_ := Aside0.mk (Kd.R_below (viaR HO_890001.out) hb); have n1_ := Aside0.mk (Kd.R_below (viaR HO895.out) hb); have n2_ := Aside0.mk (blk_below (g := gb877) (o := .cells #[.int .i64 a0_0, .slice A0_1 l0_1.length c0_1] 43 (0, 0)) (viaB BK877.out) hb); have n3_ := Aside0.mk (blk_below (g := gb889) (o := .cells #[.int .i64 t885, .slice Ao27 t886.length co27] 25 (0, 0)) (viaB BK889.out) hb); have n4_ := Aside0.mk (below_step (by repeat (first | (with_reducible first | exact HB.out | apply below_alloc | apply pw_below_drewN | apply below_drew1 | refine below_set ?_ GE877.out | refine below_set ?_ GE889.out) | exact HB.out)) hb); clear HO_890001; clear HO895; clear BK877; clear BK889; clear HB; have HO_890001 := n0_; have HO895 := n1_; have BK877 := n2_; have BK889 := n3_; have HB := n4_; clear n0_ n1_ n2_ n3_ n4_
       (try clear hb)
       (try clear hb2)
       (try clear hk)
       (try clear hi)
       refine hK.out _ _ ⟨(blk_cell BK889.out 0).trans rfl, (blk_cell BK889.out 1).trans rfl, (blk_cell BK877.out 0).trans rfl, (blk_cell BK877.out 1).trans rfl⟩ (fun hHeld => ?_)
       clear hK K
       refine norm_ (a' := ?_) ?_ ?_
       rotate_left
       ·show Act.put _ (some 45) _ = _
        simp only [Act.put, List.setIfInBounds_toArray, List.set_cons_zero, List.set_cons_succ, i64_w, i32_w]
        rfl
       refine pure_ (i := 4) (N := some 46) (v := ?_) (a' := ?_) #[true, true, true, true, true] rfl rfl (by kernel_rfl) (fun _ _ _ h => h) (Or.inl ⟨by rfl, ?_⟩) ?_ ?_
       rotate_left
       ·intro w'
        go_simp
        with_reducible rfl
       rotate_left
       ·simp only [Act.put, List.setIfInBounds_toArray, List.set_cons_zero, List.set_cons_succ, i64_w, i32_w]
        rfl
       refine done_ (by kernel_rfl) ?_
       try go_wp2
       go_ret
       exact ⟨by first | rfl | (simp [errW_none, errW_some] <;> rfl) | (simp [*, errW_none, errW_some] <;> rfl), by repeat (first | (with_reducible first | exact HB.out | apply below_alloc | apply pw_below_drewN | apply below_drew1 | refine below_set ?_ GE877.out | refine below_set ?_ GE889.out) | exact HB.out)⟩
      ·replace c33 := Bool.eq_false_iff.mpr c33
       subst c33; have H1 : (some false) = some r := by rw [if_neg (show ¬ (false = true) by decide)] at H; exact H
       clear H; have H := H1; clear H1; obtain rfl := Option.some.inj H
       try go_wp2
       have n0_ := Aside0.mk (Kd.R_drew HO_890001.out); have n1_ := Aside0.mk (blk_drew BK877.out); have n2_ := Aside0.mk (blk_drew BK889.out); have n3_ := Aside0.mk (below_drew1 HB.out); clear HO_890001; clear BK877; clear BK889; clear HB; have HO_890001 := n0_; have BK877 := n1_; have BK889 := n2_; have HB := n3_; clear n0_ n1_ n2_ n3_
       refine start_ (n := 5) (S := fun w' => w'.cell? ⟨gb889, 0, none⟩ = some (.int .i64 t885) ∧ w'.cell? ⟨gb889, 1, none⟩ = some (.slice Ao27 t886.length co27) ∧ w'.cell? ⟨gb877, 0, none⟩ = some (.int .i64 a0_0) ∧ w'.cell? ⟨gb877, 1, none⟩ = some (.slice A0_1 l0_1.length c0_1)) (ds := []) #[false, false, false, false, false] (by kernel_rfl) rfl rfl ⟨(blk_cell BK889.out 0).trans rfl, (blk_cell BK889.out 1).trans rfl, (blk_cell BK877.out 0).trans rfl, (blk_cell BK877.out 1).trans rfl⟩ (fun hHeld => ?_)
       generalize wc.drew = w38 at HO_890001 BK877 BK889 HB hHeld ⊢
       refine take_ (i := 0) (N := some 42) (v := ?_) (a' := ?_) #[true, false, false, false, false] rfl rfl (by kernel_rfl) (fun _ _ _ h => h) (Or.inl ⟨by rfl, ?_⟩) hHeld ?_ ?_
       rotate_left
       ·rintro w' ⟨s0, s1, s2, s3⟩
        go_simp
        with_reducible rfl
       rotate_left
       ·simp only [Act.put, List.setIfInBounds_toArray, List.set_cons_zero, List.set_cons_succ, i64_w, i32_w]
        rfl
       refine take_ (i := 1) (N := some 43) (v := ?_) (a' := ?_) #[true, true, false, false, false] rfl rfl (by kernel_rfl) (fun _ _ _ h => h) (Or.inl ⟨by rfl, ?_⟩) hHeld ?_ ?_
       rotate_left
       ·rintro w' ⟨s0, s1, s2, s3⟩
        go_simp
        with_reducible rfl
       rotate_left
       ·simp only [Act.put, List.setIfInBounds_toArray, List.set_cons_zero, List.set_cons_succ, i64_w, i32_w]
        rfl
       refine one_ (i := 2) (N := some 44) #[true, true, true, false, false] rfl rfl (by kernel_rfl) (by decide) (fun K hK => ?_)
       refine goes_ Try.func33 (by kernel_rfl) rfl #[.agg #[.int .i64 a0_0, .slice A0_1 l0_1.length c0_1]] (by rfl) rfl rfl (by (try simp only [List.map_toArray, List.map_cons, List.map_nil]); first | done | rfl | (simp only [List.length_drop, List.length_take]; rfl)) ?_
       with_reducible refine (laws_toGraph.calls kj13 a0_0 _ _ l0_1 t892 t893 _ ?side1 ?side2 A31.out).mono ?_
       (case side1 => repeat (first | exact (Kd.C_below HR0_1.out HB.out) | (with_reducible refine Kd.C_alloc ?_ _) | (with_reducible refine Kd.C_drewN ?_ _) | (with_reducible refine Kd.C_drew ?_)))
       (case side2 => exact HC0_1.out)
       rintro e w39 ⟨v894, rfl, ho0, hb⟩
       refine ⟨_, rfl, ?_⟩
       have n0_ := Aside0.mk (Kd.R_elder' (viaR HO_890001.out) (Kd.R_base ho0) hb); have n1_ := Aside0.mk (Kd.R_lower (Kd.R_new' ho0 (Kd.R_lt (viaR HO_890001.out))) (below_size (by repeat (first | (with_reducible first | exact HB.out | apply below_alloc | apply pw_below_drewN | apply below_drew1 | refine below_set ?_ GE877.out | refine below_set ?_ GE889.out) | exact HB.out)))); have n2_ := Aside0.mk (blk_below (g := gb877) (o := .cells #[.int .i64 a0_0, .slice A0_1 l0_1.length c0_1] 43 (0, 0)) (viaB BK877.out) hb); have n3_ := Aside0.mk (blk_below (g := gb889) (o := .cells #[.int .i64 t885, .slice Ao27 t886.length co27] 25 (0, 0)) (viaB BK889.out) hb); have n4_ := Aside0.mk (below_step (by repeat (first | (with_reducible first | exact HB.out | apply below_alloc | apply pw_below_drewN | apply below_drew1 | refine below_set ?_ GE877.out | refine below_set ?_ GE889.out) | exact HB.out)) hb); clear HO_890001; clear BK877; clear BK889; clear HB; have HO_890001 := n0_; have HO895 := n1_; have BK877 := n2_; have BK889 := n3_; have HB := n4_; clear n0_ n1_ n2_ n3_ n4_
       (try clear hb)
       (try clear hb2)
       (try clear hk)
       (try clear hi)
       (try clear ho0)
       obtain ⟨Ao40, co40, eo40⟩ := Kd.R_slice HO895.out
       (first | subst eo40 | (injection eo40 with f1_ f2_ f3_; have f4_ := f1_.symm; have f5_ := f3_.symm; clear f1_ f2_ f3_; subst f4_; subst f5_))
       refine hK.out _ _ ⟨(blk_cell BK889.out 0).trans rfl, (blk_cell BK889.out 1).trans rfl, (blk_cell BK877.out 0).trans rfl, (blk_cell BK877.out 1).trans rfl⟩ (fun hHeld => ?_)
       clear hK K
       refine norm_ (a' := ?_) ?_ ?_
       rotate_left
       ·show Act.put _ (some 44) _ = _
        simp only [Act.put, List.setIfInBounds_toArray, List.set_cons_zero, List.set_cons_succ, i64_w, i32_w]
        rfl
       refine one_ (i := 3) (N := some 45) #[true, true, true, true, false] rfl rfl (by kernel_rfl) (by decide) (fun K hK => ?_)
       refine goes_ Try.func35 (by kernel_rfl) rfl #[.agg #[.int .i64 t885, .slice Ao27 t886.length co27], .agg #[.int .i64 t892, .slice Ao40 t893.length co40]] (by rfl) rfl rfl (by (try simp only [List.map_toArray, List.map_cons, List.map_nil]); first | done | rfl | (simp only [List.length_drop, List.length_take]; rfl)) ?_
       with_reducible refine (laws_eqGraph.calls kj13 t885 _ _ t886 t892 _ _ t893 false _ ?side1 ?side2 ?side3 ?side4 A32.out).mono ?_
       (case side1 => repeat (first | exact (Kd.R_reads' HO_890001.out).2.2 | (with_reducible refine Kd.C_alloc ?_ _) | (with_reducible refine Kd.C_drewN ?_ _) | (with_reducible refine Kd.C_drew ?_)))
       (case side2 => exact (Kd.R_reads' HO_890001.out).2.1)
       (case side3 => repeat (first | exact (Kd.R_reads' HO895.out).2.2 | (with_reducible refine Kd.C_alloc ?_ _) | (with_reducible refine Kd.C_drewN ?_ _) | (with_reducible refine Kd.C_drew ?_)))
       (case side4 => exact (Kd.R_reads' HO895.out).2.1)
       rintro e w41 ⟨rfl, hb⟩
       refine ⟨_, rfl, ?_⟩
       have n0_ := Aside0.mk (Kd.R_below (viaR HO_890001.out) hb); have n1_ := Aside0.mk (Kd.R_below (viaR HO895.out) hb); have n2_ := Aside0.mk (blk_below (g := gb877) (o := .cells #[.int .i64 a0_0, .slice A0_1 l0_1.length c0_1] 43 (0, 0)) (viaB BK877.out) hb); have n3_ := Aside0.mk (blk_below (g := gb889) (o := .cells #[.int .i64 t885, .slice Ao27 t886.length co27] 25 (0, 0)) (viaB BK889.out) hb); have n4_ := Aside0.mk (below_step (by repeat (first | (with_reducible first | exact HB.out | apply below_alloc | apply pw_below_drewN | apply below_drew1 | refine below_set ?_ GE877.out | refine below_set ?_ GE889.out) | exact HB.out)) hb); clear HO_890001; clear HO895; clear BK877; clear BK889; clear HB; have HO_890001 := n0_; have HO895 := n1_; have BK877 := n2_; have BK889 := n3_; have HB := n4_; clear n0_ n1_ n2_ n3_ n4_
       (try clear hb)
       (try clear hb2)
       (try clear hk)
       (try clear hi)
       refine hK.out _ _ ⟨(blk_cell BK889.out 0).trans rfl, (blk_cell BK889.out 1).trans rfl, (blk_cell BK877.out 0).trans rfl, (blk_cell BK877.out 1).trans rfl⟩ (fun hHeld => ?_)
       clear hK K
       refine norm_ (a' := ?_) ?_ ?_
       rotate_left
       ·show Act.put _ (some 45) _ = _
        simp only [Act.put, List.setIfInBounds_toArray, List.set_cons_zero, List.set_cons_succ, i64_w, i32_w]
        rfl
       refine pure_ (i := 4) (N := some 46) (v := ?_) (a' := ?_) #[true, true, true, true, true] rfl rfl (by kernel_rfl) (fun _ _ _ h => h) (Or.inl ⟨by rfl, ?_⟩) ?_ ?_
       rotate_left
       ·intro w'
        go_simp
        with_reducible rfl
       rotate_left
       ·simp only [Act.put, List.setIfInBounds_toArray, List.set_cons_zero, List.set_cons_succ, i64_w, i32_w]
        rfl
       refine done_ (by kernel_rfl) ?_
       try go_wp2
       go_ret
       exact ⟨by first | rfl | (simp [errW_none, errW_some] <;> rfl) | (simp [*, errW_none, errW_some] <;> rfl), by repeat (first | (with_reducible first | exact HB.out | apply below_alloc | apply pw_below_drewN | apply below_drew1 | refine below_set ?_ GE877.out | refine below_set ?_ GE889.out) | exact HB.out)⟩

end Go.Proofs.Ythoaebnnolbaaaa.G
