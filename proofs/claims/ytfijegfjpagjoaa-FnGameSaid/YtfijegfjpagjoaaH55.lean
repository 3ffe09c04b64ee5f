/- For each Go function named below: a plain Lean function of the same name, and the proof that a call of the Go function returns just what the plain function tells, where it tells something. Written by a program of this session with the printer of the kit. -/
import Derived.Test.YtfijegfjpagjoaaH0
import Derived.Test.YtfijegfjpagjoaaH3
import Derived.Test.YtfijegfjpagjoaaH5
import Derived.Test.YtfijegfjpagjoaaH18
import Derived.Test.YtfijegfjpagjoaaH19
import Derived.Test.YtfijegfjpagjoaaH23
import Derived.Test.YtfijegfjpagjoaaH35
import Derived.Test.YtfijegfjpagjoaaH43
import Derived.Test.YtfijegfjpagjoaaH50
namespace Go.Proofs.Ytfijegfjpagjoaa.G
open Go.RowKit Go.Proofs.YtfijegfjpagjoaaW.PrintWords Go.Proofs.YtfijegfjpagjoaaW.PrintLast Go.Proofs.YtfijegfjpagjoaaW.PrintMore
attribute [local go_sem] max2_int min2_int max_two min_two max_three min_three max_four min_four   -- for this text's walks alone
set_option linter.unusedVariables false
set_option linter.unusedSimpArgs false
/-! ### spec_l91Plain: function 126 -/
mutual
def spec_l91Plain.j0 : Nat → Int → Bool → List Int → Int → Int → List (S44) → Option (Int × Int)
 | 0, _, _, _, _, _, _ => none
 | k + 1, x5, x20, x1000, x1001, x976000, x976001 => if x20 = true then (some (x5, x1001)) else (spec_l91Plain.l0 k (([] : List Int)) 0 x1000 x1001 x976000 x976001)
def spec_l91Plain.l0 : Nat → List Int → Int → List Int → Int → Int → List (S44) → Option (Int × Int)
 | 0, _, _, _, _, _, _ => none
 | k + 1, x6, x7, x1000, x1001, x976000, x976001 => if x7 < x976000 then ((spec_l6Rd_pick.f k x1000 x1001 8).bind fun bt984 => (if x6.length < 17592186044416 then (spec_l91Plain.l0 k (x6 ++ [bt984.1]) (wrap64 (x7 + 1)) x1000 bt984.2 x976000 x976001) else (none))) else (spec_l91Plain.l1 k 0 x6 0 x1000 x1001 x976000 x976001)
def spec_l91Plain.l1 : Nat → Int → List Int → Int → List Int → Int → Int → List (S44) → Option (Int × Int)
 | 0, _, _, _, _, _, _, _ => none
 | k + 1, x5, x6, x8, x1000, x1001, x976000, x976001 => if x8 < (x976001.length : Int) then (if 0 ≤ x8 then (if 0 ≤ ((rd_T44 x976001 x8).f0) then (if ((rd_T44 x976001 x8).f0) < (x6.length : Int) then (if 0 ≤ ((rd_T44 x976001 x8).f1) then (if ((rd_T44 x976001 x8).f1) < (x6.length : Int) then (if (rd x6 ((rd_T44 x976001 x8).f0)) > (rd x6 ((rd_T44 x976001 x8).f1)) then (spec_l91Plain.l1 k (Go.bits .or .i64 x5 (shl .i64 1 x8)) x6 (wrap64 (x8 + 1)) x1000 x1001 x976000 x976001) else (spec_l91Plain.l1 k x5 x6 (wrap64 (x8 + 1)) x1000 x1001 x976000 x976001)) else (none)) else (none)) else (none)) else (none)) else (none)) else (some (x5, x1001))
end
def spec_l91Plain.f (k : Nat) (s0_0 : List Int) (s0_1 : Int) (a1_0 : Int) (l1_1 : List (S44)) : Option (Int × Int) := (spec_l91Way.f k s0_0 s0_1 a1_0 l1_1).bind fun bt976 => ((spec_WayIn.f k a1_0 l1_1 bt976.1).bind fun t978 => (if t978 = true then ((spec_l6Rd_pick.f k s0_0 bt976.2 5).bind fun bt979 => (spec_l91Plain.j0 k bt976.1 (bt979.1 == 0) s0_0 bt979.2 a1_0 l1_1)) else (spec_l91Plain.j0 k bt976.1 true s0_0 bt976.2 a1_0 l1_1)))
theorem spec_l91Plain.mono_l : ∀ k, (∀ y0 y1 y2 y3 y4 y5, LeO (spec_l91Plain.j0 k y0 y1 y2 y3 y4 y5) (spec_l91Plain.j0 (k + 1) y0 y1 y2 y3 y4 y5)) ∧ (∀ y0 y1 y2 y3 y4 y5, LeO (spec_l91Plain.l0 k y0 y1 y2 y3 y4 y5) (spec_l91Plain.l0 (k + 1) y0 y1 y2 y3 y4 y5)) ∧ (∀ y0 y1 y2 y3 y4 y5 y6, LeO (spec_l91Plain.l1 k y0 y1 y2 y3 y4 y5 y6) (spec_l91Plain.l1 (k + 1) y0 y1 y2 y3 y4 y5 y6))
 | 0 => ⟨fun _ _ _ _ _ _ r h => by simp [spec_l91Plain.j0] at h, fun _ _ _ _ _ _ r h => by simp [spec_l91Plain.l0] at h, fun _ _ _ _ _ _ _ r h => by simp [spec_l91Plain.l1] at h⟩
 | k + 1 => by
  obtain ⟨ih0, ih1, ih2⟩ := spec_l91Plain.mono_l k
  refine ⟨?_, ?_, ?_⟩
  ·intro y0 y1 y2 y3 y4 y5
   unfold spec_l91Plain.j0
   repeat' first
   | (with_reducible exact ih0 _ _ _ _ _ _)
   | (with_reducible exact ih1 _ _ _ _ _ _)
   | (with_reducible exact ih2 _ _ _ _ _ _ _)
   | (with_reducible exact spec_WayIn.mono _ _ _ _)
   | (with_reducible exact spec_l6Rd_pick.mono _ _ _ _)
   | (with_reducible exact spec_l91Way.mono _ _ _ _ _)
   | (with_reducible exact LeO.refl _)
   | (with_reducible exact LeO.none _)
   | (with_reducible refine LeO.ite ?_ ?_)
   | (with_reducible refine LeO.bind ?_ (fun _ => ?_))
   | exact ih0 _ _ _ _ _ _
   | exact ih1 _ _ _ _ _ _
   | exact ih2 _ _ _ _ _ _ _
   | exact spec_WayIn.mono _ _ _ _
   | exact spec_l6Rd_pick.mono _ _ _ _
   | exact spec_l91Way.mono _ _ _ _ _
   | exact LeO.none _
   | refine LeO.ite ?_ ?_
   | refine LeO.bind ?_ (fun _ => ?_)
  ·intro y0 y1 y2 y3 y4 y5
   unfold spec_l91Plain.l0
   repeat' first
   | (with_reducible exact ih0 _ _ _ _ _ _)
   | (with_reducible exact ih1 _ _ _ _ _ _)
   | (with_reducible exact ih2 _ _ _ _ _ _ _)
   | (with_reducible exact spec_WayIn.mono _ _ _ _)
   | (with_reducible exact spec_l6Rd_pick.mono _ _ _ _)
   | (with_reducible exact spec_l91Way.mono _ _ _ _ _)
   | (with_reducible exact LeO.refl _)
   | (with_reducible exact LeO.none _)
   | (with_reducible refine LeO.ite ?_ ?_)
   | (with_reducible refine LeO.bind ?_ (fun _ => ?_))
   | exact ih0 _ _ _ _ _ _
   | exact ih1 _ _ _ _ _ _
   | exact ih2 _ _ _ _ _ _ _
   | exact spec_WayIn.mono _ _ _ _
   | exact spec_l6Rd_pick.mono _ _ _ _
   | exact spec_l91Way.mono _ _ _ _ _
   | exact LeO.none _
   | refine LeO.ite ?_ ?_
   | refine LeO.bind ?_ (fun _ => ?_)
  ·intro y0 y1 y2 y3 y4 y5 y6
   unfold spec_l91Plain.l1
   repeat' first
   | (with_reducible exact ih0 _ _ _ _ _ _)
   | (with_reducible exact ih1 _ _ _ _ _ _)
   | (with_reducible exact ih2 _ _ _ _ _ _ _)
   | (with_reducible exact spec_WayIn.mono _ _ _ _)
   | (with_reducible exact spec_l6Rd_pick.mono _ _ _ _)
   | (with_reducible exact spec_l91Way.mono _ _ _ _ _)
   | (with_reducible exact LeO.refl _)
   | (with_reducible exact LeO.none _)
   | (with_reducible refine LeO.ite ?_ ?_)
   | (with_reducible refine LeO.bind ?_ (fun _ => ?_))
   | exact ih0 _ _ _ _ _ _
   | exact ih1 _ _ _ _ _ _
   | exact ih2 _ _ _ _ _ _ _
   | exact spec_WayIn.mono _ _ _ _
   | exact spec_l6Rd_pick.mono _ _ _ _
   | exact spec_l91Way.mono _ _ _ _ _
   | exact LeO.none _
   | refine LeO.ite ?_ ?_
   | refine LeO.bind ?_ (fun _ => ?_)
theorem spec_l91Plain.mono : ∀ a0 a1 a2 a3 k, LeO (spec_l91Plain.f k a0 a1 a2 a3) (spec_l91Plain.f (k + 1) a0 a1 a2 a3) := by
 intro a0 a1 a2 a3 k; obtain ⟨ih0, ih1, ih2⟩ := spec_l91Plain.mono_l k
 unfold spec_l91Plain.f
 repeat' first
   | (with_reducible exact ih0 _ _ _ _ _ _)
   | (with_reducible exact ih1 _ _ _ _ _ _)
   | (with_reducible exact ih2 _ _ _ _ _ _ _)
   | (with_reducible exact spec_WayIn.mono _ _ _ _)
   | (with_reducible exact spec_l6Rd_pick.mono _ _ _ _)
   | (with_reducible exact spec_l91Way.mono _ _ _ _ _)
   | (with_reducible exact LeO.refl _)
   | (with_reducible exact LeO.none _)
   | (with_reducible refine LeO.ite ?_ ?_)
   | (with_reducible refine LeO.bind ?_ (fun _ => ?_))
   | exact ih0 _ _ _ _ _ _
   | exact ih1 _ _ _ _ _ _
   | exact ih2 _ _ _ _ _ _ _
   | exact spec_WayIn.mono _ _ _ _
   | exact spec_l6Rd_pick.mono _ _ _ _
   | exact spec_l91Way.mono _ _ _ _ _
   | exact LeO.none _
   | refine LeO.ite ?_ ?_
   | refine LeO.bind ?_ (fun _ => ?_)
set_option maxHeartbeats 8000000 in
set_option maxRecDepth 100000 in
theorem spec_l91Plain.calls (k : Nat) (g : Nat) (s0_0 : List Int) (s0_1 : Int) (a1_0 : Int) (A1_1 : Option Addr) (c1_1 : Nat) (l1_1 : List (S44)) (r1 : Int) (r2 : Int) (w0 w : World) (hI : IsS84 w0 w g s0_0 s0_1) (hB : Below w0.heap.size w0 w) (hr1_1 : ∀ W_, KeepBut w W_ g none → Kd.C k44 W_ A1_1 l1_1.length l1_1) (hc1_1 : l1_1.length ≤ c1_1) (h : spec_l91Plain.f k s0_0 s0_1 a1_0 l1_1 = some (r1, r2)) :
  Calls Try.prog 126 #[.pointer (some ⟨g, 0, none⟩), .agg #[.int .i64 a1_0, .slice A1_1 l1_1.length c1_1]] w fun e w' => e = .returned (.int .i64 r1) ∧ IsS84 w0 w' g s0_0 r2 ∧ Below w0.heap.size w0 w' ∧ KeepBut w w' g none := by
 have hu30 := Try.underlying30; have HR1_1 := Aside0.mk hr1_1; have HC1_1 := Aside0.mk hc1_1; clear hr1_1 hc1_1; have HI0 := Aside0.mk hI; have HK := Aside0.mk (KeepBut.refl w g none); have HL := Aside0.mk hB.size; clear hI; have HW0 := Aside0.mk hB.size; have HB := Aside0.mk hB; clear hB; have H : ((spec_l91Way.f k s0_0 s0_1 a1_0 l1_1).bind fun bt976 => ((spec_WayIn.f k a1_0 l1_1 bt976.1).bind fun t978 => (if t978 = true then ((spec_l6Rd_pick.f k s0_0 bt976.2 5).bind fun bt979 => (spec_l91Plain.j0 k bt976.1 (bt979.1 == 0) s0_0 bt979.2 a1_0 l1_1)) else (spec_l91Plain.j0 k bt976.1 true s0_0 bt976.2 a1_0 l1_1)))) = some (r1, r2) := h; clear h; replace H := Option.bind_eq_some_iff.mp H; obtain ⟨⟨t976, t977⟩, A30, H⟩ := H; replace H : ((spec_WayIn.f k a1_0 l1_1 t976).bind fun t978 => (if t978 = true then ((spec_l6Rd_pick.f k s0_0 t977 5).bind fun bt979 => (spec_l91Plain.j0 k t976 (bt979.1 == 0) s0_0 bt979.2 a1_0 l1_1)) else (spec_l91Plain.j0 k t976 true s0_0 t977 a1_0 l1_1))) = some (r1, r2) := H; have A3 := Aside0.mk A30; clear A30; have HC4 := Aside0.mk H; clear H
 go_enter Try.func126, Try.ntmps126
 go_upto_region 2 with (first | ((with_reducible refine gate_dst (N := 3) rfl ?_); refine box_event ?hg (N := 3) ?hd (cs := #[.int .i64 a1_0, .slice A1_1 l1_1.length c1_1]) (t := 30) ?hr ?_; (case hd => rfl); (case hg => rfl); (case hr => first | (go_simp; done) | (go_simp; rfl)); intro gb975 hg w5 hbox hb; have n0_ := Aside0.mk (IsS84.below (by exact viaI HI0.out) hb); have n1_ := Aside0.mk (KeepBut.trans (viaK HK.out) (KeepBut.of_below hb g none) (.inl rfl)); have n2_ := Aside0.mk (below_step (viaX HB.out (IsS84.ge HI0.out)) hb); have n3_ := Aside0.mk (hbox); have n4_ := Aside0.mk ((by rw [hg]; exact (keep_size (w := w) (g := g) (row := none) (viaK HK.out)) : w.heap.size ≤ gb975)); have n5_ := Aside0.mk ((Nat.le_trans HW0.out (by rw [hg]; exact (keep_size (w := w) (g := g) (row := none) (viaK HK.out)) : w.heap.size ≤ gb975) : w0.heap.size ≤ gb975)); have n6_ := Aside0.mk ((by rw [hg]; exact Nat.ne_of_lt (IsS84.lt (show IsS84 w0 _ g s0_0 s0_1 from by exact viaI HI0.out)) : g ≠ gb975)); have n7_ := Aside0.mk ((by rw [hg]; exact Nat.ne_of_gt (IsS84.lt (show IsS84 w0 _ g s0_0 s0_1 from by exact viaI HI0.out)) : gb975 ≠ g)); clear HI0; clear HK; clear HB; have HI0 := n0_; have HK := n1_; have HB := n2_; have BK975 := n3_; have GW975 := n4_; have GE975 := n5_; have NB0_975 := n6_; have NB975_0 := n7_; clear n0_ n1_ n2_ n3_ n4_ n5_ n6_ n7_; clear hb hbox hg; have hnb6 := NB975_0.out; have hnc6 := NB0_975.out; have hcz7_0 : w5.cell? ⟨gb975, 0, none⟩ = some (.int .i64 a1_0) := (blk_cell BK975.out 0).trans rfl; have hcz7_1 : w5.cell? ⟨gb975, 1, none⟩ = some (.slice A1_1 l1_1.length c1_1) := (blk_cell BK975.out 1).trans rfl; have hfz7_0 := blk_frozen BK975.out 0; have hfz7_1 := blk_frozen BK975.out 1) | (go_at_call 117; (with_reducible refine (spec_l91Way.calls k g s0_0 s0_1 a1_0 _ _ l1_1 t976 t977 w0 _ ?side1 ?side2 ?side3 ?side4 A3.out).mono ?_); (case side1 => exact viaI1 HI0.out NB0_975.out); (case side2 => repeat (first | (with_reducible first | exact HB.out | apply below_alloc | apply pw_below_drewN | apply below_drew1 | refine below_set ?_ (IsS84.ge HI0.out) | refine below_set ?_ GE975.out) | exact HB.out)); (case side3 => exact Kd.C_foot_step HR1_1.out (viaK1 HK.out GW975.out)); (case side4 => exact HC1_1.out); rintro e w8 ⟨rfl, hi, hb, hk⟩; have n0_ := Aside0.mk (KeepBut.blk hk (g' := gb975) (o := .cells #[.int .i64 a1_0, .slice A1_1 l1_1.length c1_1] 30 (0, 0)) (viaB BK975.out) NB975_0.out (by simp)); have n1_ := Aside0.mk (KeepBut.trans (viaK1 HK.out GW975.out) hk (.inl rfl)); have n2_ := Aside0.mk (hb); have n3_ := Aside0.mk (hi); clear BK975; clear HK; clear HB; clear HI0; have BK975 := n0_; have HK := n1_; have HB := n2_; have HI0 := n3_; clear n0_ n1_ n2_ n3_; (try clear hb); (try clear hb2); (try clear hk); (try clear hi)))
 repeat (go_quiet (first | ((with_reducible refine gate_dst (N := 3) rfl ?_); refine box_event ?hg (N := 3) ?hd (cs := #[.int .i64 a1_0, .slice A1_1 l1_1.length c1_1]) (t := 30) ?hr ?_; (case hd => rfl); (case hg => rfl); (case hr => first | (go_simp; done) | (go_simp; rfl)); intro gb975 hg w5 hbox hb; have n0_ := Aside0.mk (IsS84.below (by exact viaI HI0.out) hb); have n1_ := Aside0.mk (KeepBut.trans (viaK HK.out) (KeepBut.of_below hb g none) (.inl rfl)); have n2_ := Aside0.mk (below_step (viaX HB.out (IsS84.ge HI0.out)) hb); have n3_ := Aside0.mk (hbox); have n4_ := Aside0.mk ((by rw [hg]; exact (keep_size (w := w) (g := g) (row := none) (viaK HK.out)) : w.heap.size ≤ gb975)); have n5_ := Aside0.mk ((Nat.le_trans HW0.out (by rw [hg]; exact (keep_size (w := w) (g := g) (row := none) (viaK HK.out)) : w.heap.size ≤ gb975) : w0.heap.size ≤ gb975)); have n6_ := Aside0.mk ((by rw [hg]; exact Nat.ne_of_lt (IsS84.lt (show IsS84 w0 _ g s0_0 s0_1 from by exact viaI HI0.out)) : g ≠ gb975)); have n7_ := Aside0.mk ((by rw [hg]; exact Nat.ne_of_gt (IsS84.lt (show IsS84 w0 _ g s0_0 s0_1 from by exact viaI HI0.out)) : gb975 ≠ g)); clear HI0; clear HK; clear HB; have HI0 := n0_; have HK := n1_; have HB := n2_; have BK975 := n3_; have GW975 := n4_; have GE975 := n5_; have NB0_975 := n6_; have NB975_0 := n7_; clear n0_ n1_ n2_ n3_ n4_ n5_ n6_ n7_; clear hb hbox hg; have hnb6 := NB975_0.out; have hnc6 := NB0_975.out; have hcz7_0 : w5.cell? ⟨gb975, 0, none⟩ = some (.int .i64 a1_0) := (blk_cell BK975.out 0).trans rfl; have hcz7_1 : w5.cell? ⟨gb975, 1, none⟩ = some (.slice A1_1 l1_1.length c1_1) := (blk_cell BK975.out 1).trans rfl; have hfz7_0 := blk_frozen BK975.out 0; have hfz7_1 := blk_frozen BK975.out 1) | (go_at_call 117; (with_reducible refine (spec_l91Way.calls k g s0_0 s0_1 a1_0 _ _ l1_1 t976 t977 w0 _ ?side1 ?side2 ?side3 ?side4 A3.out).mono ?_); (case side1 => exact viaI1 HI0.out NB0_975.out); (case side2 => repeat (first | (with_reducible first | exact HB.out | apply below_alloc | apply pw_below_drewN | apply below_drew1 | refine below_set ?_ (IsS84.ge HI0.out) | refine below_set ?_ GE975.out) | exact HB.out)); (case side3 => exact Kd.C_foot_step HR1_1.out (viaK1 HK.out GW975.out)); (case side4 => exact HC1_1.out); rintro e w8 ⟨rfl, hi, hb, hk⟩; have n0_ := Aside0.mk (KeepBut.blk hk (g' := gb975) (o := .cells #[.int .i64 a1_0, .slice A1_1 l1_1.length c1_1] 30 (0, 0)) (viaB BK975.out) NB975_0.out (by simp)); have n1_ := Aside0.mk (KeepBut.trans (viaK1 HK.out GW975.out) hk (.inl rfl)); have n2_ := Aside0.mk (hb); have n3_ := Aside0.mk (hi); clear BK975; clear HK; clear HB; clear HI0; have BK975 := n0_; have HK := n1_; have HB := n2_; have HI0 := n3_; clear n0_ n1_ n2_ n3_; (try clear hb); (try clear hb2); (try clear hk); (try clear hi))); go_upto_region 2 with (first | ((with_reducible refine gate_dst (N := 3) rfl ?_); refine box_event ?hg (N := 3) ?hd (cs := #[.int .i64 a1_0, .slice A1_1 l1_1.length c1_1]) (t := 30) ?hr ?_; (case hd => rfl); (case hg => rfl); (case hr => first | (go_simp; done) | (go_simp; rfl)); intro gb975 hg w5 hbox hb; have n0_ := Aside0.mk (IsS84.below (by exact viaI HI0.out) hb); have n1_ := Aside0.mk (KeepBut.trans (viaK HK.out) (KeepBut.of_below hb g none) (.inl rfl)); have n2_ := Aside0.mk (below_step (viaX HB.out (IsS84.ge HI0.out)) hb); have n3_ := Aside0.mk (hbox); have n4_ := Aside0.mk ((by rw [hg]; exact (keep_size (w := w) (g := g) (row := none) (viaK HK.out)) : w.heap.size ≤ gb975)); have n5_ := Aside0.mk ((Nat.le_trans HW0.out (by rw [hg]; exact (keep_size (w := w) (g := g) (row := none) (viaK HK.out)) : w.heap.size ≤ gb975) : w0.heap.size ≤ gb975)); have n6_ := Aside0.mk ((by rw [hg]; exact Nat.ne_of_lt (IsS84.lt (show IsS84 w0 _ g s0_0 s0_1 from by exact viaI HI0.out)) : g ≠ gb975)); have n7_ := Aside0.mk ((by rw [hg]; exact Nat.ne_of_gt (IsS84.lt (show IsS84 w0 _ g s0_0 s0_1 from by exact viaI HI0.out)) : gb975 ≠ g)); clear HI0; clear HK; clear HB; have HI0 := n0_; have HK := n1_; have HB := n2_; have BK975 := n3_; have GW975 := n4_; have GE975 := n5_; have NB0_975 := n6_; have NB975_0 := n7_; clear n0_ n1_ n2_ n3_ n4_ n5_ n6_ n7_; clear hb hbox hg; have hnb6 := NB975_0.out; have hnc6 := NB0_975.out; have hcz7_0 : w5.cell? ⟨gb975, 0, none⟩ = some (.int .i64 a1_0) := (blk_cell BK975.out 0).trans rfl; have hcz7_1 : w5.cell? ⟨gb975, 1, none⟩ = some (.slice A1_1 l1_1.length c1_1) := (blk_cell BK975.out 1).trans rfl; have hfz7_0 := blk_frozen BK975.out 0; have hfz7_1 := blk_frozen BK975.out 1) | (go_at_call 117; (with_reducible refine (spec_l91Way.calls k g s0_0 s0_1 a1_0 _ _ l1_1 t976 t977 w0 _ ?side1 ?side2 ?side3 ?side4 A3.out).mono ?_); (case side1 => exact viaI1 HI0.out NB0_975.out); (case side2 => repeat (first | (with_reducible first | exact HB.out | apply below_alloc | apply pw_below_drewN | apply below_drew1 | refine below_set ?_ (IsS84.ge HI0.out) | refine below_set ?_ GE975.out) | exact HB.out)); (case side3 => exact Kd.C_foot_step HR1_1.out (viaK1 HK.out GW975.out)); (case side4 => exact HC1_1.out); rintro e w8 ⟨rfl, hi, hb, hk⟩; have n0_ := Aside0.mk (KeepBut.blk hk (g' := gb975) (o := .cells #[.int .i64 a1_0, .slice A1_1 l1_1.length c1_1] 30 (0, 0)) (viaB BK975.out) NB975_0.out (by simp)); have n1_ := Aside0.mk (KeepBut.trans (viaK1 HK.out GW975.out) hk (.inl rfl)); have n2_ := Aside0.mk (hb); have n3_ := Aside0.mk (hi); clear BK975; clear HK; clear HB; clear HI0; have BK975 := n0_; have HK := n1_; have HB := n2_; have HI0 := n3_; clear n0_ n1_ n2_ n3_; (try clear hb); (try clear hb2); (try clear hk); (try clear hi))))
 (try simp only [Act.put, List.setIfInBounds_toArray, List.set_cons_zero, List.set_cons_succ])
 go_cut [20] (fun v20 wc => ∃ (kq : Nat) (x20_3 : Bool) (x1001_3 : Int), v20 = .bool x20_3 ∧ Aside0 (spec_l91Plain.j0 kq t976 x20_3 s0_0 x1001_3 a1_0 l1_1 = some (r1, r2)) ∧ Aside0 (kq ≤ k) ∧ Aside0 (wc.heap[gb975]? = some (.cells #[.int .i64 a1_0, (.slice A1_1 l1_1.length c1_1)] 30 (0, 0))) ∧ Aside0 (IsS84 w0 wc g s0_0 x1001_3) ∧ Aside0 (KeepBut w wc g none) ∧ Aside0 (Below w0.heap.size w0 wc))
 case first =>
  have H := HC4.out; clear HC4; replace H := Option.bind_eq_some_iff.mp H; obtain ⟨t978, A90, H⟩ := H; replace H : (if t978 = true then ((spec_l6Rd_pick.f k s0_0 t977 5).bind fun bt979 => (spec_l91Plain.j0 k t976 (bt979.1 == 0) s0_0 bt979.2 a1_0 l1_1)) else (spec_l91Plain.j0 k t976 true s0_0 t977 a1_0 l1_1)) = some (r1, r2) := H; have A9 := Aside0.mk A90; clear A90
  by_cases c10 : t978 = true
  ·subst c10
   have H1 : ((spec_l6Rd_pick.f k s0_0 t977 5).bind fun bt979 => (spec_l91Plain.j0 k t976 (bt979.1 == 0) s0_0 bt979.2 a1_0 l1_1)) = some (r1, r2) := by rw [if_pos rfl] at H; exact H
   clear H; have H := H1; clear H1; replace H := Option.bind_eq_some_iff.mp H; obtain ⟨⟨t979, t980⟩, A110, H⟩ := H; replace H : (spec_l91Plain.j0 k t976 (t979 == 0) s0_0 t980 a1_0 l1_1) = some (r1, r2) := H; have A11 := Aside0.mk A110; clear A110; have H' := Aside0.mk H; clear H; have hnb12 := NB975_0.out; have hnc12 := NB0_975.out; have hcz13_0 : w8.cell? ⟨gb975, 0, none⟩ = some (.int .i64 a1_0) := (blk_cell BK975.out 0).trans rfl; have hcz13_1 : w8.cell? ⟨gb975, 1, none⟩ = some (.slice A1_1 l1_1.length c1_1) := (blk_cell BK975.out 1).trans rfl; have hfz13_0 := blk_frozen BK975.out 0; have hfz13_1 := blk_frozen BK975.out 1
   go_wp2_with (first | (go_at_call 65; (with_reducible refine (spec_WayIn.calls k a1_0 _ _ l1_1 t976 true _ ?side1 ?side2 A9.out).mono ?_); (case side1 => exact Kd.C_foot_now HR1_1.out (viaK1 HK.out GW975.out)); (case side2 => exact HC1_1.out); rintro e w14 ⟨rfl, hb⟩; have n0_ := Aside0.mk (IsS84.below (by exact viaI1 HI0.out NB0_975.out) hb); have n1_ := Aside0.mk (blk_below (g := gb975) (o := .cells #[.int .i64 a1_0, .slice A1_1 l1_1.length c1_1] 30 (0, 0)) (viaB BK975.out) hb); have n2_ := Aside0.mk (KeepBut.trans (viaK1 HK.out GW975.out) (KeepBut.of_below hb g none) (.inl rfl)); have n3_ := Aside0.mk (below_step (viaX2 HB.out (IsS84.ge HI0.out) GE975.out) hb); clear HI0; clear BK975; clear HK; clear HB; have HI0 := n0_; have BK975 := n1_; have HK := n2_; have HB := n3_; clear n0_ n1_ n2_ n3_; (try clear hb); (try clear hb2); (try clear hk); (try clear hi)) | (go_at_call 118; (with_reducible refine (spec_l6Rd_pick.calls k g s0_0 t977 5 t979 t980 w0 _ ?side1 ?side2 A11.out).mono ?_); (case side1 => exact viaI1 HI0.out NB0_975.out); (case side2 => repeat (first | (with_reducible first | exact HB.out | apply below_alloc | apply pw_below_drewN | apply below_drew1 | refine below_set ?_ (IsS84.ge HI0.out) | refine below_set ?_ GE975.out) | exact HB.out)); rintro e w15 ⟨rfl, hi, hb, hk⟩; have n0_ := Aside0.mk (KeepBut.blk hk (g' := gb975) (o := .cells #[.int .i64 a1_0, .slice A1_1 l1_1.length c1_1] 30 (0, 0)) (viaB BK975.out) NB975_0.out (by simp)); have n1_ := Aside0.mk (KeepBut.trans (viaK1 HK.out GW975.out) hk (.inl rfl)); have n2_ := Aside0.mk (hb); have n3_ := Aside0.mk (hi); clear BK975; clear HK; clear HB; clear HI0; have BK975 := n0_; have HK := n1_; have HB := n2_; have HI0 := n3_; clear n0_ n1_ n2_ n3_; (try clear hb); (try clear hb2); (try clear hk); (try clear hi)))
   repeat (go_quiet (first | (go_at_call 65; (with_reducible refine (spec_WayIn.calls k a1_0 _ _ l1_1 t976 true _ ?side1 ?side2 A9.out).mono ?_); (case side1 => exact Kd.C_foot_now HR1_1.out (viaK1 HK.out GW975.out)); (case side2 => exact HC1_1.out); rintro e w14 ⟨rfl, hb⟩; have n0_ := Aside0.mk (IsS84.below (by exact viaI1 HI0.out NB0_975.out) hb); have n1_ := Aside0.mk (blk_below (g := gb975) (o := .cells #[.int .i64 a1_0, .slice A1_1 l1_1.length c1_1] 30 (0, 0)) (viaB BK975.out) hb); have n2_ := Aside0.mk (KeepBut.trans (viaK1 HK.out GW975.out) (KeepBut.of_below hb g none) (.inl rfl)); have n3_ := Aside0.mk (below_step (viaX2 HB.out (IsS84.ge HI0.out) GE975.out) hb); clear HI0; clear BK975; clear HK; clear HB; have HI0 := n0_; have BK975 := n1_; have HK := n2_; have HB := n3_; clear n0_ n1_ n2_ n3_; (try clear hb); (try clear hb2); (try clear hk); (try clear hi)) | (go_at_call 118; (with_reducible refine (spec_l6Rd_pick.calls k g s0_0 t977 5 t979 t980 w0 _ ?side1 ?side2 A11.out).mono ?_); (case side1 => exact viaI1 HI0.out NB0_975.out); (case side2 => repeat (first | (with_reducible first | exact HB.out | apply below_alloc | apply pw_below_drewN | apply below_drew1 | refine below_set ?_ (IsS84.ge HI0.out) | refine below_set ?_ GE975.out) | exact HB.out)); rintro e w15 ⟨rfl, hi, hb, hk⟩; have n0_ := Aside0.mk (KeepBut.blk hk (g' := gb975) (o := .cells #[.int .i64 a1_0, .slice A1_1 l1_1.length c1_1] 30 (0, 0)) (viaB BK975.out) NB975_0.out (by simp)); have n1_ := Aside0.mk (KeepBut.trans (viaK1 HK.out GW975.out) hk (.inl rfl)); have n2_ := Aside0.mk (hb); have n3_ := Aside0.mk (hi); clear BK975; clear HK; clear HB; clear HI0; have BK975 := n0_; have HK := n1_; have HB := n2_; have HI0 := n3_; clear n0_ n1_ n2_ n3_; (try clear hb); (try clear hb2); (try clear hk); (try clear hi))); try go_wp2_with (first | (go_at_call 65; (with_reducible refine (spec_WayIn.calls k a1_0 _ _ l1_1 t976 true _ ?side1 ?side2 A9.out).mono ?_); (case side1 => exact Kd.C_foot_now HR1_1.out (viaK1 HK.out GW975.out)); (case side2 => exact HC1_1.out); rintro e w14 ⟨rfl, hb⟩; have n0_ := Aside0.mk (IsS84.below (by exact viaI1 HI0.out NB0_975.out) hb); have n1_ := Aside0.mk (blk_below (g := gb975) (o := .cells #[.int .i64 a1_0, .slice A1_1 l1_1.length c1_1] 30 (0, 0)) (viaB BK975.out) hb); have n2_ := Aside0.mk (KeepBut.trans (viaK1 HK.out GW975.out) (KeepBut.of_below hb g none) (.inl rfl)); have n3_ := Aside0.mk (below_step (viaX2 HB.out (IsS84.ge HI0.out) GE975.out) hb); clear HI0; clear BK975; clear HK; clear HB; have HI0 := n0_; have BK975 := n1_; have HK := n2_; have HB := n3_; clear n0_ n1_ n2_ n3_; (try clear hb); (try clear hb2); (try clear hk); (try clear hi)) | (go_at_call 118; (with_reducible refine (spec_l6Rd_pick.calls k g s0_0 t977 5 t979 t980 w0 _ ?side1 ?side2 A11.out).mono ?_); (case side1 => exact viaI1 HI0.out NB0_975.out); (case side2 => repeat (first | (with_reducible first | exact HB.out | apply below_alloc | apply pw_below_drewN | apply below_drew1 | refine below_set ?_ (IsS84.ge HI0.out) | refine below_set ?_ GE975.out) | exact HB.out)); rintro e w15 ⟨rfl, hi, hb, hk⟩; have n0_ := Aside0.mk (KeepBut.blk hk (g' := gb975) (o := .cells #[.int .i64 a1_0, .slice A1_1 l1_1.length c1_1] 30 (0, 0)) (viaB BK975.out) NB975_0.out (by simp)); have n1_ := Aside0.mk (KeepBut.trans (viaK1 HK.out GW975.out) hk (.inl rfl)); have n2_ := Aside0.mk (hb); have n3_ := Aside0.mk (hi); clear BK975; clear HK; clear HB; clear HI0; have BK975 := n0_; have HK := n1_; have HB := n2_; have HI0 := n3_; clear n0_ n1_ n2_ n3_; (try clear hb); (try clear hb2); (try clear hk); (try clear hi))))
   go_meet
   case rel => exact ⟨_, ((t979 == 0)), (t980), (by first | rfl | (simp; done) | (simp [*]; done)), H', ⟨by first | omega | exact Nat.le_refl _⟩, ⟨viaB BK975.out⟩, ⟨by exact viaI1 HI0.out NB0_975.out⟩, ⟨viaK1 HK.out GW975.out⟩, ⟨viaX2 HB.out (IsS84.ge HI0.out) GE975.out⟩⟩
  ·replace c10 := Bool.eq_false_iff.mpr c10
   subst c10; have H1 : (spec_l91Plain.j0 k t976 true s0_0 t977 a1_0 l1_1) = some (r1, r2) := by rw [if_neg (show ¬ (false = true) by decide)] at H; exact H
   clear H; have H := H1; clear H1; have H' := Aside0.mk H; clear H; have hnb16 := NB975_0.out; have hnc16 := NB0_975.out; have hcz17_0 : w8.cell? ⟨gb975, 0, none⟩ = some (.int .i64 a1_0) := (blk_cell BK975.out 0).trans rfl; have hcz17_1 : w8.cell? ⟨gb975, 1, none⟩ = some (.slice A1_1 l1_1.length c1_1) := (blk_cell BK975.out 1).trans rfl; have hfz17_0 := blk_frozen BK975.out 0; have hfz17_1 := blk_frozen BK975.out 1
   go_wp2_with (first | (go_at_call 65; (with_reducible refine (spec_WayIn.calls k a1_0 _ _ l1_1 t976 false _ ?side1 ?side2 A9.out).mono ?_); (case side1 => exact Kd.C_foot_now HR1_1.out (viaK1 HK.out GW975.out)); (case side2 => exact HC1_1.out); rintro e w18 ⟨rfl, hb⟩; have n0_ := Aside0.mk (IsS84.below (by exact viaI1 HI0.out NB0_975.out) hb); have n1_ := Aside0.mk (blk_below (g := gb975) (o := .cells #[.int .i64 a1_0, .slice A1_1 l1_1.length c1_1] 30 (0, 0)) (viaB BK975.out) hb); have n2_ := Aside0.mk (KeepBut.trans (viaK1 HK.out GW975.out) (KeepBut.of_below hb g none) (.inl rfl)); have n3_ := Aside0.mk (below_step (viaX2 HB.out (IsS84.ge HI0.out) GE975.out) hb); clear HI0; clear BK975; clear HK; clear HB; have HI0 := n0_; have BK975 := n1_; have HK := n2_; have HB := n3_; clear n0_ n1_ n2_ n3_; (try clear hb); (try clear hb2); (try clear hk); (try clear hi)))
   repeat (go_quiet (first | (go_at_call 65; (with_reducible refine (spec_WayIn.calls k a1_0 _ _ l1_1 t976 false _ ?side1 ?side2 A9.out).mono ?_); (case side1 => exact Kd.C_foot_now HR1_1.out (viaK1 HK.out GW975.out)); (case side2 => exact HC1_1.out); rintro e w18 ⟨rfl, hb⟩; have n0_ := Aside0.mk (IsS84.below (by exact viaI1 HI0.out NB0_975.out) hb); have n1_ := Aside0.mk (blk_below (g := gb975) (o := .cells #[.int .i64 a1_0, .slice A1_1 l1_1.length c1_1] 30 (0, 0)) (viaB BK975.out) hb); have n2_ := Aside0.mk (KeepBut.trans (viaK1 HK.out GW975.out) (KeepBut.of_below hb g none) (.inl rfl)); have n3_ := Aside0.mk (below_step (viaX2 HB.out (IsS84.ge HI0.out) GE975.out) hb); clear HI0; clear BK975; clear HK; clear HB; have HI0 := n0_; have BK975 := n1_; have HK := n2_; have HB := n3_; clear n0_ n1_ n2_ n3_; (try clear hb); (try clear hb2); (try clear hk); (try clear hi))); try go_wp2_with (first | (go_at_call 65; (with_reducible refine (spec_WayIn.calls k a1_0 _ _ l1_1 t976 false _ ?side1 ?side2 A9.out).mono ?_); (case side1 => exact Kd.C_foot_now HR1_1.out (viaK1 HK.out GW975.out)); (case side2 => exact HC1_1.out); rintro e w18 ⟨rfl, hb⟩; have n0_ := Aside0.mk (IsS84.below (by exact viaI1 HI0.out NB0_975.out) hb); have n1_ := Aside0.mk (blk_below (g := gb975) (o := .cells #[.int .i64 a1_0, .slice A1_1 l1_1.length c1_1] 30 (0, 0)) (viaB BK975.out) hb); have n2_ := Aside0.mk (KeepBut.trans (viaK1 HK.out GW975.out) (KeepBut.of_below hb g none) (.inl rfl)); have n3_ := Aside0.mk (below_step (viaX2 HB.out (IsS84.ge HI0.out) GE975.out) hb); clear HI0; clear BK975; clear HK; clear HB; have HI0 := n0_; have BK975 := n1_; have HK := n2_; have HB := n3_; clear n0_ n1_ n2_ n3_; (try clear hb); (try clear hb2); (try clear hk); (try clear hi))))
   go_meet
   case rel => exact ⟨_, (true), (t977), (by first | rfl | (simp; done) | (simp [*]; done)), H', ⟨by first | omega | exact Nat.le_refl _⟩, ⟨viaB BK975.out⟩, ⟨by exact viaI1 HI0.out NB0_975.out⟩, ⟨viaK1 HK.out GW975.out⟩, ⟨viaX2 HB.out (IsS84.ge HI0.out) GE975.out⟩⟩
 case rest =>
  clear HC4
  try clear c1
  try clear p2
  try clear c6
  try clear c10
  try clear c12
  try clear c16
  try clear hcz13_0
  try clear hcz13_1
  try clear hcz17_0
  try clear hcz17_1
  try clear hcz7_0
  try clear hcz7_1
  try clear hfz13_0
  try clear hfz13_1
  try clear hfz17_0
  try clear hfz17_1
  try clear hfz7_0
  try clear hfz7_1
  obtain ⟨kq, x20_3, x1001_3, rfl, HA, HJ3, BK975, HI0, HK, HB⟩ := hcut
  cases kq with
  | zero => exact absurd HA.out (by simp [spec_l91Plain.j0])
  | succ kj3 =>
   have H := HA.out; clear HA
   simp only [spec_l91Plain.j0] at H
   by_cases c19 : x20_3 = true
   ·subst c19
    have H1 : (some (t976, x1001_3)) = some (r1, r2) := by rw [if_pos rfl] at H; exact H
    clear H; have H := H1; clear H1
    simp only [Option.some.injEq, Prod.mk.injEq] at H
    obtain ⟨rfl, rfl⟩ := H
    go_wp2
    repeat (go_quiet (fail); try go_wp2)
    go_ret
    exact ⟨by first | rfl | (simp [errW_none, errW_some] <;> rfl) | (simp [*, errW_none, errW_some] <;> rfl), by exact viaI1 HI0.out NB0_975.out, viaX2 HB.out (IsS84.ge HI0.out) GE975.out, viaK1 HK.out GW975.out⟩
   ·replace c19 := Bool.eq_false_iff.mpr c19
    subst c19; have H1 : (spec_l91Plain.l0 kj3 (([] : List Int)) 0 s0_0 x1001_3 a1_0 l1_1) = some (r1, r2) := by rw [if_neg (show ¬ (false = true) by decide)] at H; exact H
    clear H; have H := H1; clear H1; obtain ⟨y981, hy981⟩ : ∃ y_ : List Int, y_ = (([] : List Int)) := ⟨_, rfl⟩; replace H : (spec_l91Plain.l0 kj3 y981 0 s0_0 x1001_3 a1_0 l1_1) = some (r1, r2) := by first | (rw [hy981]; with_reducible exact H) | (have H2_ := (Option.bind_some _ _).symm.trans H; rw [hy981]; with_reducible exact H2_) | (have H2_ := (Option.bind_some _ _).symm.trans H; with_reducible exact H2_) | with_reducible exact H | (rw [hy981]; exact H) | exact H
    have Ny981 := Aside0.mk hy981; clear hy981; have H' := Aside0.mk H; clear H
    go_wp2_with (first | ((with_reducible refine gate_dst (N := 22) rfl ?_); refine Kd.R_lit (Kd.int .i64) _ 3 ?hg (N := 22) ?hd (xs := ([] : List Int)) (inner := []) (ok := fun _ => True) (okp := fun _ => True) ?hr ?hp (fun _ hk => hk) trivial (Below.refl _ _) (Nat.le_refl _) (by simp) ?_; (case hd => rfl); (case hg => rfl); (case hr => first | (go_simp; done) | (go_simp; rfl)); (case hp => exact (Reps.none _ _)); intro v982 w20 ho21 hb hg_ hnew_; clear hg_ hnew_; (first | rw [← Ny981.out] at ho21 | (simp only [Int.reduceToNat] at ho21; rw [← Ny981.out] at ho21)); have n0_ := Aside0.mk (Kd.R_lower ho21 (keep_size (w := w) (g := g) (row := none) (viaK1 HK.out GW975.out))); have n1_ := Aside0.mk (blk_below (g := gb975) (o := .cells #[.int .i64 a1_0, .slice A1_1 l1_1.length c1_1] 30 (0, 0)) (viaB BK975.out) hb); have n2_ := Aside0.mk (IsS84.below (by exact viaI1 HI0.out NB0_975.out) hb); have n3_ := Aside0.mk (KeepBut.trans (viaK1 HK.out GW975.out) (KeepBut.of_below hb g none) (.inl rfl)); have n4_ := Aside0.mk (below_step (viaX2 HB.out (IsS84.ge HI0.out) GE975.out) hb); clear BK975; clear HI0; clear HK; clear HB; have HO983 := n0_; have BK975 := n1_; have HI0 := n2_; have HK := n3_; have HB := n4_; clear n0_ n1_ n2_ n3_ n4_; clear hb ho21))
    repeat (go_quiet (first | ((with_reducible refine gate_dst (N := 22) rfl ?_); refine Kd.R_lit (Kd.int .i64) _ 3 ?hg (N := 22) ?hd (xs := ([] : List Int)) (inner := []) (ok := fun _ => True) (okp := fun _ => True) ?hr ?hp (fun _ hk => hk) trivial (Below.refl _ _) (Nat.le_refl _) (by simp) ?_; (case hd => rfl); (case hg => rfl); (case hr => first | (go_simp; done) | (go_simp; rfl)); (case hp => exact (Reps.none _ _)); intro v982 w20 ho21 hb hg_ hnew_; clear hg_ hnew_; (first | rw [← Ny981.out] at ho21 | (simp only [Int.reduceToNat] at ho21; rw [← Ny981.out] at ho21)); have n0_ := Aside0.mk (Kd.R_lower ho21 (keep_size (w := w) (g := g) (row := none) (viaK1 HK.out GW975.out))); have n1_ := Aside0.mk (blk_below (g := gb975) (o := .cells #[.int .i64 a1_0, .slice A1_1 l1_1.length c1_1] 30 (0, 0)) (viaB BK975.out) hb); have n2_ := Aside0.mk (IsS84.below (by exact viaI1 HI0.out NB0_975.out) hb); have n3_ := Aside0.mk (KeepBut.trans (viaK1 HK.out GW975.out) (KeepBut.of_below hb g none) (.inl rfl)); have n4_ := Aside0.mk (below_step (viaX2 HB.out (IsS84.ge HI0.out) GE975.out) hb); clear BK975; clear HI0; clear HK; clear HB; have HO983 := n0_; have BK975 := n1_; have HI0 := n2_; have HK := n3_; have HB := n4_; clear n0_ n1_ n2_ n3_ n4_; clear hb ho21)); try go_wp2_with (first | ((with_reducible refine gate_dst (N := 22) rfl ?_); refine Kd.R_lit (Kd.int .i64) _ 3 ?hg (N := 22) ?hd (xs := ([] : List Int)) (inner := []) (ok := fun _ => True) (okp := fun _ => True) ?hr ?hp (fun _ hk => hk) trivial (Below.refl _ _) (Nat.le_refl _) (by simp) ?_; (case hd => rfl); (case hg => rfl); (case hr => first | (go_simp; done) | (go_simp; rfl)); (case hp => exact (Reps.none _ _)); intro v982 w20 ho21 hb hg_ hnew_; clear hg_ hnew_; (first | rw [← Ny981.out] at ho21 | (simp only [Int.reduceToNat] at ho21; rw [← Ny981.out] at ho21)); have n0_ := Aside0.mk (Kd.R_lower ho21 (keep_size (w := w) (g := g) (row := none) (viaK1 HK.out GW975.out))); have n1_ := Aside0.mk (blk_below (g := gb975) (o := .cells #[.int .i64 a1_0, .slice A1_1 l1_1.length c1_1] 30 (0, 0)) (viaB BK975.out) hb); have n2_ := Aside0.mk (IsS84.below (by exact viaI1 HI0.out NB0_975.out) hb); have n3_ := Aside0.mk (KeepBut.trans (viaK1 HK.out GW975.out) (KeepBut.of_below hb g none) (.inl rfl)); have n4_ := Aside0.mk (below_step (viaX2 HB.out (IsS84.ge HI0.out) GE975.out) hb); clear BK975; clear HI0; clear HK; clear HB; have HO983 := n0_; have BK975 := n1_; have HI0 := n2_; have HK := n3_; have HB := n4_; clear n0_ n1_ n2_ n3_ n4_; clear hb ho21)))
    go_loopg [6, 7] kj3 (fun kq v6 v7 w' => ∃ (x6_2 : List Int) (x7_2 : Int) (x1001_2 : Int), v7 = .int .i64 x7_2 ∧ Aside0 (spec_l91Plain.l0 kq x6_2 x7_2 s0_0 x1001_2 a1_0 l1_1 = some (r1, r2)) ∧ Aside0 (kq ≤ kj3) ∧ Aside0 (Kd.R (Kd.int .i64) 3 w' w.heap.size (fun _ => True) v6 x6_2) ∧ Aside0 (w'.heap[gb975]? = some (.cells #[.int .i64 a1_0, (.slice A1_1 l1_1.length c1_1)] 30 (0, 0))) ∧ Aside0 (IsS84 w0 w' g s0_0 x1001_2) ∧ Aside0 (KeepBut w w' g none) ∧ Aside0 (Below w0.heap.size w0 w'))
    case atStart => exact ⟨(y981), (0), (x1001_3), (by first | rfl | (simp; done) | (simp [*]; done)), H', ⟨Nat.le_refl _⟩, ⟨viaR HO983.out⟩, ⟨viaB BK975.out⟩, ⟨by exact viaI1 HI0.out NB0_975.out⟩, ⟨viaK1 HK.out GW975.out⟩, ⟨viaX2 HB.out (IsS84.ge HI0.out) GE975.out⟩⟩
    case round =>
     clear H'
     try clear c1
     try clear p2
     try clear c6
     try clear c10
     try clear c12
     try clear c16
     try clear c19
     try clear hcz13_0
     try clear hcz13_1
     try clear hcz17_0
     try clear hcz17_1
     try clear hcz7_0
     try clear hcz7_1
     try clear hfz13_0
     try clear hfz13_1
     try clear hfz17_0
     try clear hfz17_1
     try clear hfz7_0
     try clear hfz7_1
     try clear p2
     obtain ⟨x6_2, x7_2, x1001_2, rfl, HA, HK2, HO_6, BK975, HI0, HK, HB⟩ := hrel
     cases gk with
     | zero => exact absurd HA.out (by simp [spec_l91Plain.l0])
     | succ k2 =>
      have H := HA.out; clear HA
      simp only [spec_l91Plain.l0] at H
      by_cases c22 : x7_2 < a1_0
      ·rw [if_pos c22] at H
       have c22b0 : decide (x7_2 < a1_0) = true := decide_eq_true c22; clear c22; replace H := Option.bind_eq_some_iff.mp H; obtain ⟨⟨t984, t985⟩, A230, H⟩ := H; replace H : (if x6_2.length < 17592186044416 then (spec_l91Plain.l0 k2 (x6_2 ++ [t984]) (wrap64 (x7_2 + 1)) s0_0 t985 a1_0 l1_1) else (none)) = some (r1, r2) := H; have A23 := Aside0.mk A230; clear A230
       by_cases c24 : x6_2.length < 17592186044416
       ·rw [if_pos c24] at H
        have LMc24 := Aside0.mk c24; clear c24; obtain ⟨y986, hy986⟩ : ∃ y_ : List Int, y_ = (x6_2 ++ [t984]) := ⟨_, rfl⟩; replace H : (spec_l91Plain.l0 k2 y986 (wrap64 (x7_2 + 1)) s0_0 t985 a1_0 l1_1) = some (r1, r2) := by first | (rw [hy986]; with_reducible exact H) | (have H2_ := (Option.bind_some _ _).symm.trans H; rw [hy986]; with_reducible exact H2_) | (have H2_ := (Option.bind_some _ _).symm.trans H; with_reducible exact H2_) | with_reducible exact H | (rw [hy986]; exact H) | exact H
        have Ny986 := Aside0.mk hy986; clear hy986; have H' := Aside0.mk H; clear H; have hnb25 := NB975_0.out; have hnc25 := NB0_975.out; have hcz26_0 : wr.cell? ⟨gb975, 0, none⟩ = some (.int .i64 a1_0) := (blk_cell BK975.out 0).trans rfl; have hcz26_1 : wr.cell? ⟨gb975, 1, none⟩ = some (.slice A1_1 l1_1.length c1_1) := (blk_cell BK975.out 1).trans rfl; have hfz26_0 := blk_frozen BK975.out 0; have hfz26_1 := blk_frozen BK975.out 1
        go_wp2_with (first | (go_at_call 118; (with_reducible refine (spec_l6Rd_pick.calls k2 g s0_0 x1001_2 8 t984 t985 w0 _ ?side1 ?side2 A23.out).mono ?_); (case side1 => exact viaI1 HI0.out NB0_975.out); (case side2 => repeat (first | (with_reducible first | exact HB.out | apply below_alloc | apply pw_below_drewN | apply below_drew1 | refine below_set ?_ (IsS84.ge HI0.out) | refine below_set ?_ GE975.out) | exact HB.out)); rintro e w27 ⟨rfl, hi, hb, hk⟩; have n0_ := Aside0.mk (Kd.R_mono (Kd.R_keep (IsS84.apart (show IsS84 w0 _ g s0_0 x1001_2 from by exact viaI1 HI0.out NB0_975.out) (viaR HO_6.out) (by decide)) hk (fun _ h => h.2)) (fun _ h => h.1)); have n1_ := Aside0.mk (KeepBut.blk hk (g' := gb975) (o := .cells #[.int .i64 a1_0, .slice A1_1 l1_1.length c1_1] 30 (0, 0)) (viaB BK975.out) NB975_0.out (by simp)); have n2_ := Aside0.mk (KeepBut.trans (viaK1 HK.out GW975.out) hk (.inl rfl)); have n3_ := Aside0.mk (hb); have n4_ := Aside0.mk (hi); clear HO_6; clear BK975; clear HK; clear HB; clear HI0; have HO_6 := n0_; have BK975 := n1_; have HK := n2_; have HB := n3_; have HI0 := n4_; clear n0_ n1_ n2_ n3_ n4_; (try clear hb); (try clear hb2); (try clear hk); (try clear hi)) | ((with_reducible refine gate_builtin (b := .append) (xs := #[.tmp 29, .tmp 32]) rfl ?_); at_builtin; refine Kd.R_append (Kd.int .i64) w.heap.size rfl (.tmp 29) (.tmp 32) 39 3 (.int .i64 0) 8 rfl Try.underlying39 info3 rfl (by decide) (by omega) u6 x6_2 t984 [.int .i64 t984] (fun _ => True) (fun _ => False) rfl rfl ?aP (fun _ hk => hk.elim) ?aF ?aO (Below.refl _ _) ?aS ?aL ?_; (case aP => exact rfl); (case aF => exact (fun _ _ => trivial)); (case aO => exact (viaR HO_6.out)); (case aS => exact (keep_size (w := w) (g := g) (row := none) (viaK1 HK.out GW975.out))); (case aL => have := LMc24.out; omega); intro v987 w28 ho hb hg hat; rw [← Ny986.out] at ho; have n0_ := Aside0.mk (blk_grown (g := gb975) (o := .cells #[.int .i64 a1_0, .slice A1_1 l1_1.length c1_1] 30 (0, 0)) (viaB BK975.out) hg (Kd.R_ne HO_6.out BK975.out (by decide))); have n1_ := Aside0.mk (IsS84.grown (by exact viaI1 HI0.out NB0_975.out) hg (IsS84.own_ne HI0.out HO_6.out (by decide))); have n2_ := Aside0.mk (below_weaken (viaX2 HB.out (IsS84.ge HI0.out) GE975.out) HL.out hb); have n3_ := Aside0.mk (KeepBut.trans (viaK1 HK.out GW975.out) (KeepBut.of_grown hg g) (Kd.R_base2 HO_6.out)); have n4_ := Aside0.mk (ho); clear BK975; clear HI0; clear HB; clear HK; clear HO_6; have BK975 := n0_; have HI0 := n1_; have HB := n2_; have HK := n3_; have HO988 := n4_; clear n0_ n1_ n2_ n3_ n4_; clear ho hb hg hat))
        repeat (go_quiet (first | (go_at_call 118; (with_reducible refine (spec_l6Rd_pick.calls k2 g s0_0 x1001_2 8 t984 t985 w0 _ ?side1 ?side2 A23.out).mono ?_); (case side1 => exact viaI1 HI0.out NB0_975.out); (case side2 => repeat (first | (with_reducible first | exact HB.out | apply below_alloc | apply pw_below_drewN | apply below_drew1 | refine below_set ?_ (IsS84.ge HI0.out) | refine below_set ?_ GE975.out) | exact HB.out)); rintro e w27 ⟨rfl, hi, hb, hk⟩; have n0_ := Aside0.mk (Kd.R_mono (Kd.R_keep (IsS84.apart (show IsS84 w0 _ g s0_0 x1001_2 from by exact viaI1 HI0.out NB0_975.out) (viaR HO_6.out) (by decide)) hk (fun _ h => h.2)) (fun _ h => h.1)); have n1_ := Aside0.mk (KeepBut.blk hk (g' := gb975) (o := .cells #[.int .i64 a1_0, .slice A1_1 l1_1.length c1_1] 30 (0, 0)) (viaB BK975.out) NB975_0.out (by simp)); have n2_ := Aside0.mk (KeepBut.trans (viaK1 HK.out GW975.out) hk (.inl rfl)); have n3_ := Aside0.mk (hb); have n4_ := Aside0.mk (hi); clear HO_6; clear BK975; clear HK; clear HB; clear HI0; have HO_6 := n0_; have BK975 := n1_; have HK := n2_; have HB := n3_; have HI0 := n4_; clear n0_ n1_ n2_ n3_ n4_; (try clear hb); (try clear hb2); (try clear hk); (try clear hi)) | ((with_reducible refine gate_builtin (b := .append) (xs := #[.tmp 29, .tmp 32]) rfl ?_); at_builtin; refine Kd.R_append (Kd.int .i64) w.heap.size rfl (.tmp 29) (.tmp 32) 39 3 (.int .i64 0) 8 rfl Try.underlying39 info3 rfl (by decide) (by omega) u6 x6_2 t984 [.int .i64 t984] (fun _ => True) (fun _ => False) rfl rfl ?aP (fun _ hk => hk.elim) ?aF ?aO (Below.refl _ _) ?aS ?aL ?_; (case aP => exact rfl); (case aF => exact (fun _ _ => trivial)); (case aO => exact (viaR HO_6.out)); (case aS => exact (keep_size (w := w) (g := g) (row := none) (viaK1 HK.out GW975.out))); (case aL => have := LMc24.out; omega); intro v987 w28 ho hb hg hat; rw [← Ny986.out] at ho; have n0_ := Aside0.mk (blk_grown (g := gb975) (o := .cells #[.int .i64 a1_0, .slice A1_1 l1_1.length c1_1] 30 (0, 0)) (viaB BK975.out) hg (Kd.R_ne HO_6.out BK975.out (by decide))); have n1_ := Aside0.mk (IsS84.grown (by exact viaI1 HI0.out NB0_975.out) hg (IsS84.own_ne HI0.out HO_6.out (by decide))); have n2_ := Aside0.mk (below_weaken (viaX2 HB.out (IsS84.ge HI0.out) GE975.out) HL.out hb); have n3_ := Aside0.mk (KeepBut.trans (viaK1 HK.out GW975.out) (KeepBut.of_grown hg g) (Kd.R_base2 HO_6.out)); have n4_ := Aside0.mk (ho); clear BK975; clear HI0; clear HB; clear HK; clear HO_6; have BK975 := n0_; have HI0 := n1_; have HB := n2_; have HK := n3_; have HO988 := n4_; clear n0_ n1_ n2_ n3_ n4_; clear ho hb hg hat)); try go_wp2_with (first | (go_at_call 118; (with_reducible refine (spec_l6Rd_pick.calls k2 g s0_0 x1001_2 8 t984 t985 w0 _ ?side1 ?side2 A23.out).mono ?_); (case side1 => exact viaI1 HI0.out NB0_975.out); (case side2 => repeat (first | (with_reducible first | exact HB.out | apply below_alloc | apply pw_below_drewN | apply below_drew1 | refine below_set ?_ (IsS84.ge HI0.out) | refine below_set ?_ GE975.out) | exact HB.out)); rintro e w27 ⟨rfl, hi, hb, hk⟩; have n0_ := Aside0.mk (Kd.R_mono (Kd.R_keep (IsS84.apart (show IsS84 w0 _ g s0_0 x1001_2 from by exact viaI1 HI0.out NB0_975.out) (viaR HO_6.out) (by decide)) hk (fun _ h => h.2)) (fun _ h => h.1)); have n1_ := Aside0.mk (KeepBut.blk hk (g' := gb975) (o := .cells #[.int .i64 a1_0, .slice A1_1 l1_1.length c1_1] 30 (0, 0)) (viaB BK975.out) NB975_0.out (by simp)); have n2_ := Aside0.mk (KeepBut.trans (viaK1 HK.out GW975.out) hk (.inl rfl)); have n3_ := Aside0.mk (hb); have n4_ := Aside0.mk (hi); clear HO_6; clear BK975; clear HK; clear HB; clear HI0; have HO_6 := n0_; have BK975 := n1_; have HK := n2_; have HB := n3_; have HI0 := n4_; clear n0_ n1_ n2_ n3_ n4_; (try clear hb); (try clear hb2); (try clear hk); (try clear hi)) | ((with_reducible refine gate_builtin (b := .append) (xs := #[.tmp 29, .tmp 32]) rfl ?_); at_builtin; refine Kd.R_append (Kd.int .i64) w.heap.size rfl (.tmp 29) (.tmp 32) 39 3 (.int .i64 0) 8 rfl Try.underlying39 info3 rfl (by decide) (by omega) u6 x6_2 t984 [.int .i64 t984] (fun _ => True) (fun _ => False) rfl rfl ?aP (fun _ hk => hk.elim) ?aF ?aO (Below.refl _ _) ?aS ?aL ?_; (case aP => exact rfl); (case aF => exact (fun _ _ => trivial)); (case aO => exact (viaR HO_6.out)); (case aS => exact (keep_size (w := w) (g := g) (row := none) (viaK1 HK.out GW975.out))); (case aL => have := LMc24.out; omega); intro v987 w28 ho hb hg hat; rw [← Ny986.out] at ho; have n0_ := Aside0.mk (blk_grown (g := gb975) (o := .cells #[.int .i64 a1_0, .slice A1_1 l1_1.length c1_1] 30 (0, 0)) (viaB BK975.out) hg (Kd.R_ne HO_6.out BK975.out (by decide))); have n1_ := Aside0.mk (IsS84.grown (by exact viaI1 HI0.out NB0_975.out) hg (IsS84.own_ne HI0.out HO_6.out (by decide))); have n2_ := Aside0.mk (below_weaken (viaX2 HB.out (IsS84.ge HI0.out) GE975.out) HL.out hb); have n3_ := Aside0.mk (KeepBut.trans (viaK1 HK.out GW975.out) (KeepBut.of_grown hg g) (Kd.R_base2 HO_6.out)); have n4_ := Aside0.mk (ho); clear BK975; clear HI0; clear HB; clear HK; clear HO_6; have BK975 := n0_; have HI0 := n1_; have HB := n2_; have HK := n3_; have HO988 := n4_; clear n0_ n1_ n2_ n3_ n4_; clear ho hb hg hat)))
        go_roundg k2
        case measure => have := HJ3.out; have := HK2.out; omega
        case rel => exact ⟨(y986), (wrap64 (x7_2 + 1)), (t985), (by first | rfl | (simp; done) | (simp [*]; done)), H', ⟨by have := HJ3.out; have := HK2.out; omega⟩, ⟨viaR HO988.out⟩, ⟨viaB BK975.out⟩, ⟨by exact viaI1 HI0.out NB0_975.out⟩, ⟨viaK1 HK.out GW975.out⟩, ⟨viaX2 HB.out (IsS84.ge HI0.out) GE975.out⟩⟩
       ·rw [if_neg c24] at H
        exact absurd H (by simp)
      ·rw [if_neg c22] at H
       have c22b0 : decide (x7_2 < a1_0) = false := decide_eq_false c22; clear c22; have H' := Aside0.mk H; clear H; have hnb29 := NB975_0.out; have hnc29 := NB0_975.out; have hcz30_0 : wr.cell? ⟨gb975, 0, none⟩ = some (.int .i64 a1_0) := (blk_cell BK975.out 0).trans rfl; have hcz30_1 : wr.cell? ⟨gb975, 1, none⟩ = some (.slice A1_1 l1_1.length c1_1) := (blk_cell BK975.out 1).trans rfl; have hfz30_0 := blk_frozen BK975.out 0; have hfz30_1 := blk_frozen BK975.out 1
       go_wp2
       repeat (go_quiet (fail); try go_wp2)
       go_loopg [5, 8] k2 (fun kq v5 v8 w' => ∃ (x5_3 : Int) (x8_3 : Int), v5 = .int .i64 x5_3 ∧ v8 = .int .i64 x8_3 ∧ Aside0 (spec_l91Plain.l1 kq x5_3 x6_2 x8_3 s0_0 x1001_2 a1_0 l1_1 = some (r1, r2)) ∧ Aside0 (kq ≤ k2) ∧ Aside0 (Kd.R (Kd.int .i64) 3 w' w.heap.size (fun _ => True) u6 x6_2) ∧ Aside0 (w'.heap[gb975]? = some (.cells #[.int .i64 a1_0, (.slice A1_1 l1_1.length c1_1)] 30 (0, 0))) ∧ Aside0 (IsS84 w0 w' g s0_0 x1001_2) ∧ Aside0 (KeepBut w w' g none) ∧ Aside0 (Below w0.heap.size w0 w'))
       case atStart => exact ⟨(0), (0), (by first | rfl | (simp; done) | (simp [*]; done)), (by first | rfl | (simp; done) | (simp [*]; done)), H', ⟨Nat.le_refl _⟩, ⟨viaR HO_6.out⟩, ⟨viaB BK975.out⟩, ⟨by exact viaI1 HI0.out NB0_975.out⟩, ⟨viaK1 HK.out GW975.out⟩, ⟨viaX2 HB.out (IsS84.ge HI0.out) GE975.out⟩⟩
       case round =>
        clear H'
        try clear c1
        try clear c2
        try clear p2
        try clear c6
        try clear p6
        try clear c10
        try clear c12
        try clear c16
        try clear c19
        try clear c22
        try clear c22b0
        try clear c24
        try clear c25
        try clear c29
        try clear hcz13_0
        try clear hcz13_1
        try clear hcz17_0
        try clear hcz17_1
        try clear hcz26_0
        try clear hcz26_1
        try clear hcz30_0
        try clear hcz30_1
        try clear hcz7_0
        try clear hcz7_1
        try clear hfz13_0
        try clear hfz13_1
        try clear hfz17_0
        try clear hfz17_1
        try clear hfz26_0
        try clear hfz26_1
        try clear hfz30_0
        try clear hfz30_1
        try clear hfz7_0
        try clear hfz7_1
        try clear p2
        obtain ⟨x5_3, x8_3, rfl, rfl, HA, HK3, HO_6, BK975, HI0, HK, HB⟩ := hrel
        cases gk with
        | zero => exact absurd HA.out (by simp [spec_l91Plain.l1])
        | succ k3 =>
         have H := HA.out; clear HA
         simp only [spec_l91Plain.l1] at H
         by_cases c31 : x8_3 < (l1_1.length : Int)
         ·rw [if_pos c31] at H
          have c31b0 : decide (x8_3 < (l1_1.length : Int)) = true := decide_eq_true c31; clear c31
          by_cases c32 : 0 ≤ x8_3
          ·rw [if_pos c32] at H
           have c32b0 : decide (0 ≤ x8_3) = true := decide_eq_true c32; clear c32
           by_cases c33 : 0 ≤ ((rd_T44 l1_1 x8_3).f0)
           ·rw [if_pos c33] at H
            have c33b0 : decide (0 ≤ ((rd_T44 l1_1 x8_3).f0)) = true := decide_eq_true c33; clear c33
            by_cases c34 : ((rd_T44 l1_1 x8_3).f0) < (x6_2.length : Int)
            ·rw [if_pos c34] at H
             have c34b0 : decide (((rd_T44 l1_1 x8_3).f0) < (x6_2.length : Int)) = true := decide_eq_true c34; clear c34
             by_cases c35 : 0 ≤ ((rd_T44 l1_1 x8_3).f1)
             ·rw [if_pos c35] at H
              have c35b0 : decide (0 ≤ ((rd_T44 l1_1 x8_3).f1)) = true := decide_eq_true c35; clear c35
              by_cases c36 : ((rd_T44 l1_1 x8_3).f1) < (x6_2.length : Int)
              ·rw [if_pos c36] at H
               have c36b0 : decide (((rd_T44 l1_1 x8_3).f1) < (x6_2.length : Int)) = true := decide_eq_true c36; clear c36
               by_cases c37 : (rd x6_2 ((rd_T44 l1_1 x8_3).f0)) > (rd x6_2 ((rd_T44 l1_1 x8_3).f1))
               ·rw [if_pos c37] at H
                have c37b0 : decide ((rd x6_2 ((rd_T44 l1_1 x8_3).f1)) < (rd x6_2 ((rd_T44 l1_1 x8_3).f0))) = true := decide_eq_true c37; clear c37; have c38b0 := eq_true (of_decide_eq_true (by first | (with_reducible assumption) | assumption) : 0 ≤ x8_3); obtain ⟨ji39, hji39⟩ : ∃ j_ : Int, (shl .i64 1 x8_3) = j_ := ⟨_, rfl⟩; replace H : (spec_l91Plain.l1 k3 (Go.bits .or .i64 x5_3 (ji39)) x6_2 (wrap64 (x8_3 + 1)) s0_0 x1001_2 a1_0 l1_1) = some (r1, r2) := by first | (rw [hji39] at H; exact H) | (simp only [hji39] at H ⊢; exact H)
                have hji39_ : (IntKind.i64.wrap (1 * 2 ^ min x8_3.toNat 64)) = ji39 := hji39; have hji39z : x8_3 ≤ 64 → (IntKind.i64.wrap (1 * 2 ^ x8_3.toNat)) = ji39 := shl_small hji39; have hji39u : (IntKind.i64.wrap (2 ^ min x8_3.toNat 64)) = ji39 := by have h_ := hji39_; rw [Int.one_mul] at h_; exact h_
                have hji39v : x8_3 ≤ 64 → (IntKind.i64.wrap (2 ^ x8_3.toNat)) = ji39 := fun hle_ => by have h_ := hji39z hle_; rw [Int.one_mul] at h_; exact h_
                have hji39y : (wrap64 (1 * 2 ^ min x8_3.toNat 64)) = ji39 := (i64_w _).symm.trans hji39_; have hji39x : x8_3 ≤ 64 → (wrap64 (1 * 2 ^ x8_3.toNat)) = ji39 := fun h_ => (i64_w _).symm.trans (hji39z h_); have H' := Aside0.mk H; clear H; have hnb40 := NB975_0.out; have hnc40 := NB0_975.out; have hcz41_0 : wr.cell? ⟨gb975, 0, none⟩ = some (.int .i64 a1_0) := (blk_cell BK975.out 0).trans rfl; have hcz41_1 : wr.cell? ⟨gb975, 1, none⟩ = some (.slice A1_1 l1_1.length c1_1) := (blk_cell BK975.out 1).trans rfl; have hfz41_0 := blk_frozen BK975.out 0; have hfz41_1 := blk_frozen BK975.out 1; have p989 : 0 ≤ (x8_3 : Int) := of_decide_eq_true (by first | (with_reducible assumption) | assumption); have q989 : x8_3 < (l1_1.length : Int) := of_decide_eq_true (by first | (with_reducible assumption) | assumption); obtain ⟨ad989, e989, hx989_0, hx989_1⟩ := at_T44 (Kd.C_foot_now HR1_1.out HK.out) x8_3 p989 q989
                cases e989
                replace p989 := eq_true p989; replace q989 := eq_true q989; obtain ⟨Ao42, co42, eo42⟩ := Kd.R_slice HO_6.out; subst eo42; have p990 : 0 ≤ (((rd_T44 l1_1 x8_3).f0) : Int) := of_decide_eq_true (by first | (with_reducible assumption) | assumption); have q990 : ((rd_T44 l1_1 x8_3).f0) < (x6_2.length : Int) := of_decide_eq_true (by first | (with_reducible assumption) | assumption); obtain ⟨ad990, e990, hx990_0⟩ := Kd.at_int (Kd.R_reads' HO_6.out).2.2 ((rd_T44 l1_1 x8_3).f0) p990 q990
                cases e990
                replace p990 := eq_true p990; replace q990 := eq_true q990; have p991 : 0 ≤ (x8_3 : Int) := of_decide_eq_true (by first | (with_reducible assumption) | assumption); have q991 : x8_3 < (l1_1.length : Int) := of_decide_eq_true (by first | (with_reducible assumption) | assumption); obtain ⟨ad991, e991, hx991_0, hx991_1⟩ := at_T44 (Kd.C_foot_now HR1_1.out HK.out) x8_3 p991 q991; obtain rfl : ad989 = ad991 := (by injection e991); replace p991 := eq_true p991; replace q991 := eq_true q991; have p992 : 0 ≤ (((rd_T44 l1_1 x8_3).f1) : Int) := of_decide_eq_true (by first | (with_reducible assumption) | assumption); have q992 : ((rd_T44 l1_1 x8_3).f1) < (x6_2.length : Int) := of_decide_eq_true (by first | (with_reducible assumption) | assumption); obtain ⟨ad992, e992, hx992_0⟩ := Kd.at_int (Kd.R_reads' HO_6.out).2.2 ((rd_T44 l1_1 x8_3).f1) p992 q992; obtain rfl : ad990 = ad992 := (by injection e992); replace p992 := eq_true p992; replace q992 := eq_true q992
                go_wp2
                repeat (go_quiet (fail); try go_wp2)
                go_roundg k3
                case measure => have := HJ3.out; have := HK2.out; have := HK3.out; omega
                case rel => exact ⟨(Go.bits .or .i64 x5_3 (ji39)), (wrap64 (x8_3 + 1)), (by first | rfl | (simp; done) | (simp only [← hji39] <;> (first | rfl | simp)) | (simp [*]; done)), (by first | rfl | (simp; done) | (simp [*]; done)), H', ⟨by have := HJ3.out; have := HK2.out; have := HK3.out; omega⟩, ⟨viaR HO_6.out⟩, ⟨viaB BK975.out⟩, ⟨by exact viaI1 HI0.out NB0_975.out⟩, ⟨viaK1 HK.out GW975.out⟩, ⟨viaX2 HB.out (IsS84.ge HI0.out) GE975.out⟩⟩
               ·rw [if_neg c37] at H
                have c37b0 : decide ((rd x6_2 ((rd_T44 l1_1 x8_3).f1)) < (rd x6_2 ((rd_T44 l1_1 x8_3).f0))) = false := decide_eq_false c37; clear c37; have H' := Aside0.mk H; clear H; have hnb43 := NB975_0.out; have hnc43 := NB0_975.out; have hcz44_0 : wr.cell? ⟨gb975, 0, none⟩ = some (.int .i64 a1_0) := (blk_cell BK975.out 0).trans rfl; have hcz44_1 : wr.cell? ⟨gb975, 1, none⟩ = some (.slice A1_1 l1_1.length c1_1) := (blk_cell BK975.out 1).trans rfl; have hfz44_0 := blk_frozen BK975.out 0; have hfz44_1 := blk_frozen BK975.out 1; have p989 : 0 ≤ (x8_3 : Int) := of_decide_eq_true (by first | (with_reducible assumption) | assumption); have q989 : x8_3 < (l1_1.length : Int) := of_decide_eq_true (by first | (with_reducible assumption) | assumption); obtain ⟨ad989, e989, hx989_0, hx989_1⟩ := at_T44 (Kd.C_foot_now HR1_1.out HK.out) x8_3 p989 q989
                cases e989
                replace p989 := eq_true p989; replace q989 := eq_true q989; obtain ⟨Ao45, co45, eo45⟩ := Kd.R_slice HO_6.out; subst eo45; have p990 : 0 ≤ (((rd_T44 l1_1 x8_3).f0) : Int) := of_decide_eq_true (by first | (with_reducible assumption) | assumption); have q990 : ((rd_T44 l1_1 x8_3).f0) < (x6_2.length : Int) := of_decide_eq_true (by first | (with_reducible assumption) | assumption); obtain ⟨ad990, e990, hx990_0⟩ := Kd.at_int (Kd.R_reads' HO_6.out).2.2 ((rd_T44 l1_1 x8_3).f0) p990 q990
                cases e990
                replace p990 := eq_true p990; replace q990 := eq_true q990; have p991 : 0 ≤ (x8_3 : Int) := of_decide_eq_true (by first | (with_reducible assumption) | assumption); have q991 : x8_3 < (l1_1.length : Int) := of_decide_eq_true (by first | (with_reducible assumption) | assumption); obtain ⟨ad991, e991, hx991_0, hx991_1⟩ := at_T44 (Kd.C_foot_now HR1_1.out HK.out) x8_3 p991 q991; obtain rfl : ad989 = ad991 := (by injection e991); replace p991 := eq_true p991; replace q991 := eq_true q991; have p992 : 0 ≤ (((rd_T44 l1_1 x8_3).f1) : Int) := of_decide_eq_true (by first | (with_reducible assumption) | assumption); have q992 : ((rd_T44 l1_1 x8_3).f1) < (x6_2.length : Int) := of_decide_eq_true (by first | (with_reducible assumption) | assumption); obtain ⟨ad992, e992, hx992_0⟩ := Kd.at_int (Kd.R_reads' HO_6.out).2.2 ((rd_T44 l1_1 x8_3).f1) p992 q992; obtain rfl : ad990 = ad992 := (by injection e992); replace p992 := eq_true p992; replace q992 := eq_true q992
                go_wp2
                repeat (go_quiet (fail); try go_wp2)
                go_roundg k3
                case measure => have := HJ3.out; have := HK2.out; have := HK3.out; omega
                case rel => exact ⟨(x5_3), (wrap64 (x8_3 + 1)), (by first | rfl | (simp; done) | (simp [*]; done)), (by first | rfl | (simp; done) | (simp [*]; done)), H', ⟨by have := HJ3.out; have := HK2.out; have := HK3.out; omega⟩, ⟨viaR HO_6.out⟩, ⟨viaB BK975.out⟩, ⟨by exact viaI1 HI0.out NB0_975.out⟩, ⟨viaK1 HK.out GW975.out⟩, ⟨viaX2 HB.out (IsS84.ge HI0.out) GE975.out⟩⟩
              ·rw [if_neg c36] at H
               exact absurd H (by simp)
             ·rw [if_neg c35] at H
              exact absurd H (by simp)
            ·rw [if_neg c34] at H
             exact absurd H (by simp)
           ·rw [if_neg c33] at H
            exact absurd H (by simp)
          ·rw [if_neg c32] at H
           exact absurd H (by simp)
         ·rw [if_neg c31] at H
          have c31b0 : decide (x8_3 < (l1_1.length : Int)) = false := decide_eq_false c31; clear c31
          simp only [Option.some.injEq, Prod.mk.injEq] at H
          obtain ⟨rfl, rfl⟩ := H; have hnb46 := NB975_0.out; have hnc46 := NB0_975.out; have hcz47_0 : wr.cell? ⟨gb975, 0, none⟩ = some (.int .i64 a1_0) := (blk_cell BK975.out 0).trans rfl; have hcz47_1 : wr.cell? ⟨gb975, 1, none⟩ = some (.slice A1_1 l1_1.length c1_1) := (blk_cell BK975.out 1).trans rfl; have hfz47_0 := blk_frozen BK975.out 0; have hfz47_1 := blk_frozen BK975.out 1
          go_wp2
          repeat (go_quiet (fail); try go_wp2)
          go_ret
          exact ⟨by first | rfl | (simp [errW_none, errW_some] <;> rfl) | (simp [*, errW_none, errW_some] <;> rfl), by exact viaI1 HI0.out NB0_975.out, viaX2 HB.out (IsS84.ge HI0.out) GE975.out, viaK1 HK.out GW975.out⟩
/-! ### spec_l91Two: function 108 -/
def spec_l91Two.f (k : Nat) (l0 : List Int) : Option (Int × (List (S44)) × Int) := (spec_l6Open.f l0).bind fun bt994 => ((spec_l91Graph.f k bt994.1 bt994.2).bind fun bt997 => ((spec_l91Plain.f k bt994.1 bt997.2.2 bt997.1 bt997.2.1).bind fun bt1003 => (some (bt997.1, bt997.2.1, bt1003.1))))
theorem spec_l91Two.mono : ∀ a0 k, LeO (spec_l91Two.f k a0) (spec_l91Two.f (k + 1) a0) := by
 intro a0 k
 unfold spec_l91Two.f
 repeat' first
   | (with_reducible exact spec_l91Graph.mono _ _ _)
   | (with_reducible exact spec_l91Plain.mono _ _ _ _ _)
   | (with_reducible exact LeO.refl _)
   | (with_reducible exact LeO.none _)
   | (with_reducible refine LeO.ite ?_ ?_)
   | (with_reducible refine LeO.bind ?_ (fun _ => ?_))
   | exact spec_l91Graph.mono _ _ _
   | exact spec_l91Plain.mono _ _ _ _ _
   | exact LeO.none _
   | refine LeO.ite ?_ ?_
   | refine LeO.bind ?_ (fun _ => ?_)
set_option maxHeartbeats 8000000 in
set_option maxRecDepth 100000 in
theorem spec_l91Two.calls (k : Nat) (A0 : Option Addr) (c0 : Nat) (l0 : List Int) (r1 : Int) (r2 : List (S44)) (r3 : Int) (w : World) (hr0 : Kd.C (Kd.int .u8) w A0 l0.length l0) (hc0 : l0.length ≤ c0) (h : spec_l91Two.f k l0 = some (r1, r2, r3)) :
  Calls Try.prog 108 #[.slice A0 l0.length c0] w fun e w' => ∃ v1_ : Value, e = .returned (.tuple #[.agg #[.int .i64 r1, v1_], .int .i64 r3]) ∧ Kd.R k44 44 w' w.heap.size (fun _ => True) v1_ r2 ∧ Below w.heap.size w w' := by
 have hu30 := Try.underlying30; have HR0 := Aside0.mk hr0; have HC0 := Aside0.mk hc0; clear hr0 hc0; have HB := Aside0.mk (Below.refl w.heap.size w); have H : ((spec_l6Open.f l0).bind fun bt994 => ((spec_l91Graph.f k bt994.1 bt994.2).bind fun bt997 => ((spec_l91Plain.f k bt994.1 bt997.2.2 bt997.1 bt997.2.1).bind fun bt1003 => (some (bt997.1, bt997.2.1, bt1003.1))))) = some (r1, r2, r3) := h; clear h; replace H := Option.bind_eq_some_iff.mp H; obtain ⟨⟨t994, t995⟩, A20, H⟩ := H; replace H : ((spec_l91Graph.f k t994 t995).bind fun bt997 => ((spec_l91Plain.f k t994 bt997.2.2 bt997.1 bt997.2.1).bind fun bt1003 => (some (bt997.1, bt997.2.1, bt1003.1)))) = some (r1, r2, r3) := H; have A2 := Aside0.mk A20; clear A20; replace H := Option.bind_eq_some_iff.mp H; obtain ⟨⟨t997, t998, t1001⟩, A30, H⟩ := H; replace H : ((spec_l91Plain.f k t994 t1001 t997 t998).bind fun bt1003 => (some (t997, t998, bt1003.1))) = some (r1, r2, r3) := H; have A3 := Aside0.mk A30; clear A30; replace H := Option.bind_eq_some_iff.mp H; obtain ⟨⟨t1003, t1004⟩, A40, H⟩ := H; replace H : (some (t997, t998, t1003)) = some (r1, r2, r3) := H; have A4 := Aside0.mk A40; clear A40
 simp only [Option.some.injEq, Prod.mk.injEq] at H
 obtain ⟨rfl, rfl, rfl⟩ := H
 go_enter Try.func108, Try.ntmps108
 try go_wp2_with (first | ((with_reducible refine gate_dst (N := 2) rfl ?_); refine box_event ?hg (N := 2) ?hd (cs := #[.int .i64 0, .slice none 0 0]) (t := 30) ?hr ?_; (case hd => rfl); (case hg => rfl); (case hr => first | (go_simp; done) | (go_simp; rfl)); intro gb993 hg w5 hbox hb; have n0_ := Aside0.mk (below_step (viaW HB.out) hb); have n1_ := Aside0.mk (hbox); have n2_ := Aside0.mk ((by rw [hg]; exact (below_size (viaW HB.out)) : w.heap.size ≤ gb993)); have n3_ := Aside0.mk ((by rw [hg]; exact (below_size (viaW HB.out)) : w.heap.size ≤ gb993)); clear HB; have HB := n0_; have BK993 := n1_; have GW993 := n2_; have GE993 := n3_; clear n0_ n1_ n2_ n3_; clear hb hbox hg) | ((with_reducible refine gate_callee (f := 82) rfl ?_); refine goesL_ (some 7) rfl rfl Try.func82 (by kernel_rfl) rfl #[.slice A0 l0.length c0] rfl (by (try simp only [List.map_toArray, List.map_cons, List.map_nil]); first | done | rfl) ?_; (with_reducible refine (spec_l6Open.calls _ _ l0 t994 t995 w _ ?side1 ?side2 ?side3 A2.out).mono ?_); (case side1 => repeat (first | (with_reducible first | exact HB.out | apply below_alloc | apply pw_below_drewN | apply below_drew1 | refine below_set ?_ GE993.out) | exact HB.out)); (case side2 => exact HR0.out); (case side3 => exact HC0.out); rintro e w6 ⟨g996, rfl, hi, hb, hb2⟩; refine ⟨_, rfl, ?_⟩; have n0_ := Aside0.mk (blk_below (g := gb993) (o := .cells #[.int .i64 0, .slice none 0 0] 30 (0, 0)) (viaB BK993.out) hb2); have n1_ := Aside0.mk (hb); have n2_ := Aside0.mk (hi); have n3_ := Aside0.mk (IsS84.ne_blk hi (blk_below (g := gb993) (o := .cells #[.int .i64 0, .slice none 0 0] 30 (0, 0)) (viaB BK993.out) hb2) (by decide)); have n4_ := Aside0.mk (Ne.symm (IsS84.ne_blk hi (blk_below (g := gb993) (o := .cells #[.int .i64 0, .slice none 0 0] 30 (0, 0)) (viaB BK993.out) hb2) (by decide))); clear BK993; clear HB; have BK993 := n0_; have HB := n1_; have HI996 := n2_; have NB996_993 := n3_; have NB993_996 := n4_; clear n0_ n1_ n2_ n3_ n4_; (try clear hb); (try clear hb2); (try clear hk); (try clear hi)) | ((with_reducible refine gate_callee (f := 116) rfl ?_); refine goesL_ (some 9) rfl rfl Try.func116 (by kernel_rfl) rfl #[.pointer (some ⟨g996, 0, none⟩)] rfl (by (try simp only [List.map_toArray, List.map_cons, List.map_nil]); first | done | rfl) ?_; (with_reducible refine (spec_l91Graph.calls k g996 t994 t995 t997 t998 t1001 w _ ?side1 ?side2 A3.out).mono ?_); (case side1 => exact viaI1 HI996.out NB996_993.out); (case side2 => repeat (first | (with_reducible first | exact HB.out | apply below_alloc | apply pw_below_drewN | apply below_drew1 | refine below_set ?_ (IsS84.ge HI996.out) | refine below_set ?_ GE993.out) | exact HB.out)); rintro e w7 ⟨v999, rfl, ho0, hi, hb, hk⟩; refine ⟨_, rfl, ?_⟩; have n0_ := Aside0.mk (KeepBut.blk hk (g' := gb993) (o := .cells #[.int .i64 0, .slice none 0 0] 30 (0, 0)) (viaB BK993.out) NB993_996.out (by simp)); have n1_ := Aside0.mk (Kd.R_lower ho0 (below_size (viaX2 HB.out (IsS84.ge HI996.out) GE993.out))); have n2_ := Aside0.mk (hb); have n3_ := Aside0.mk (hi); clear BK993; clear HB; clear HI996; have BK993 := n0_; have HO1000 := n1_; have HB := n2_; have HI996 := n3_; clear n0_ n1_ n2_ n3_; (try clear hb); (try clear hb2); (try clear hk); (try clear hi); (try clear ho0)) | ((with_reducible refine gate_dst (N := 5) rfl ?_); refine box_event ?hg (N := 5) ?hd (cs := #[.int .i64 0, .slice none 0 0]) (t := 30) ?hr ?_; (case hd => rfl); (case hg => rfl); (case hr => first | (go_simp; done) | (go_simp; rfl)); intro gb1002 hg w8 hbox hb; have n0_ := Aside0.mk (Kd.R_below (viaR HO1000.out) hb); have n1_ := Aside0.mk (blk_below (g := gb993) (o := .cells #[.int .i64 0, .slice none 0 0] 30 (0, 0)) (viaB BK993.out) hb); have n2_ := Aside0.mk (IsS84.below (by exact viaI1 HI996.out NB996_993.out) hb); have n3_ := Aside0.mk (below_step (viaX2 HB.out (IsS84.ge HI996.out) GE993.out) hb); have n4_ := Aside0.mk (hbox); have n5_ := Aside0.mk ((by rw [hg]; exact (below_size (viaX2 HB.out (IsS84.ge HI996.out) GE993.out)) : w.heap.size ≤ gb1002)); have n6_ := Aside0.mk ((by rw [hg]; exact (below_size (viaX2 HB.out (IsS84.ge HI996.out) GE993.out)) : w.heap.size ≤ gb1002)); have n7_ := Aside0.mk ((by rw [hg]; exact Nat.ne_of_lt (blk_lt (g := gb993) (o := .cells #[.int .i64 0, .slice none 0 0] 30 (0, 0)) (viaB BK993.out)) : gb993 ≠ gb1002)); have n8_ := Aside0.mk ((by rw [hg]; exact Nat.ne_of_gt (blk_lt (g := gb993) (o := .cells #[.int .i64 0, .slice none 0 0] 30 (0, 0)) (viaB BK993.out)) : gb1002 ≠ gb993)); have n9_ := Aside0.mk ((by rw [hg]; exact Nat.ne_of_lt (IsS84.lt (show IsS84 w _ g996 t994 t1001 from by exact viaI1 HI996.out NB996_993.out)) : g996 ≠ gb1002)); have n10_ := Aside0.mk ((by rw [hg]; exact Nat.ne_of_gt (IsS84.lt (show IsS84 w _ g996 t994 t1001 from by exact viaI1 HI996.out NB996_993.out)) : gb1002 ≠ g996)); clear HO1000; clear BK993; clear HI996; clear HB; have HO1000 := n0_; have BK993 := n1_; have HI996 := n2_; have HB := n3_; have BK1002 := n4_; have GW1002 := n5_; have GE1002 := n6_; have NB993_1002 := n7_; have NB1002_993 := n8_; have NB996_1002 := n9_; have NB1002_996 := n10_; clear n0_ n1_ n2_ n3_ n4_ n5_ n6_ n7_ n8_ n9_ n10_; clear hb hbox hg; have hnb9 := NB1002_993.out; have hnc9 := NB993_1002.out; have hnb10 := NB1002_996.out; have hnc10 := NB996_1002.out; have hcz11_0 : w8.cell? ⟨gb1002, 0, none⟩ = some (.int .i64 0) := (blk_cell BK1002.out 0).trans rfl; have hcz11_1 : w8.cell? ⟨gb1002, 1, none⟩ = some (.slice none 0 0) := (blk_cell BK1002.out 1).trans rfl; have hfz11_0 := blk_frozen BK1002.out 0; have hfz11_1 := blk_frozen BK1002.out 1; obtain ⟨Ao12, co12, eo12⟩ := Kd.R_slice HO1000.out; subst eo12))
 have n0_ : Aside0 (Kd.R k44 44 ((w8.setCell ⟨gb1002, 0, none⟩ (.int .i64 t997)).setCell ⟨gb1002, 1, none⟩ (.slice Ao12 t998.length co12)) w.heap.size (fun _ => True) (.slice Ao12 t998.length co12) t998) := ⟨by (with_reducible repeat (first | apply Kd.R_alloc | apply Kd.R_drewN | apply Kd.R_drew)); exact Kd.R_mono (Kd.R_far (p := ⟨gb1002, 1, none⟩) (Kd.R_far (p := ⟨gb1002, 0, none⟩) (Kd.R_types HO1000.out BK1002.out (by decide)) (fun _ hk => hk.2) (.int .i64 t997)) (fun _ hk => hk.2) (.slice Ao12 t998.length co12)) (fun _ hk => trivial)⟩; have n1_ : Aside0 (((w8.setCell ⟨gb1002, 0, none⟩ (.int .i64 t997)).setCell ⟨gb1002, 1, none⟩ (.slice Ao12 t998.length co12)).heap[gb993]? = some (.cells #[.int .i64 0, .slice none 0 0] 30 (0, 0))) := ⟨by (with_reducible repeat (first | refine blk_drewN ?_ _ | refine blk_drew ?_ | refine blk_alloc ?_ _)); refine blk_far ?_ NB993_1002.out _; (with_reducible repeat (first | refine blk_drewN ?_ _ | refine blk_drew ?_ | refine blk_alloc ?_ _)); refine blk_far ?_ NB993_1002.out _; (with_reducible repeat (first | refine blk_drewN ?_ _ | refine blk_drew ?_ | refine blk_alloc ?_ _)); exact BK993.out⟩; have n2_ : Aside0 (((w8.setCell ⟨gb1002, 0, none⟩ (.int .i64 t997)).setCell ⟨gb1002, 1, none⟩ (.slice Ao12 t998.length co12)).heap[gb1002]? = some (.cells #[.int .i64 t997, .slice Ao12 t998.length co12] 30 (0, 0))) := ⟨by (with_reducible repeat (first | refine blk_drewN ?_ _ | refine blk_drew ?_ | refine blk_alloc ?_ _)); refine blk_put (cs := #[.int .i64 t997, .slice none 0 0]) ?_ 1 _ rfl; (with_reducible repeat (first | refine blk_drewN ?_ _ | refine blk_drew ?_ | refine blk_alloc ?_ _)); refine blk_put (cs := #[.int .i64 0, .slice none 0 0]) ?_ 0 _ rfl; (with_reducible repeat (first | refine blk_drewN ?_ _ | refine blk_drew ?_ | refine blk_alloc ?_ _)); exact BK1002.out⟩; have n3_ : Aside0 (IsS84 w ((w8.setCell ⟨gb1002, 0, none⟩ (.int .i64 t997)).setCell ⟨gb1002, 1, none⟩ (.slice Ao12 t998.length co12)) g996 t994 t1001) := ⟨by exact viaI2 HI996.out NB996_993.out NB996_1002.out⟩; have n4_ : Aside0 (Below w.heap.size w ((w8.setCell ⟨gb1002, 0, none⟩ (.int .i64 t997)).setCell ⟨gb1002, 1, none⟩ (.slice Ao12 t998.length co12))) := ⟨viaX3 HB.out (IsS84.ge HI996.out) GE993.out GE1002.out⟩
 (try clear HO1000)
 (try clear BK993)
 (try clear BK1002)
 (try clear HI996)
 (try clear HB)
 generalize ((w8.setCell ⟨gb1002, 0, none⟩ (.int .i64 t997)).setCell ⟨gb1002, 1, none⟩ (.slice Ao12 t998.length co12)) = w13 at n0_ n1_ n2_ n3_ n4_ ⊢
 have HO1000 := n0_; have BK993 := n1_; have BK1002 := n2_; have HI996 := n3_; have HB := n4_; clear n0_ n1_ n2_ n3_ n4_; have n0_ := Aside0.mk (Kd.R_drew HO1000.out); have n1_ := Aside0.mk (blk_drew BK993.out); have n2_ := Aside0.mk (blk_drew BK1002.out); have n3_ := Aside0.mk (IsS84.drew HI996.out); have n4_ := Aside0.mk (below_drew1 HB.out); clear HO1000; clear BK993; clear BK1002; clear HI996; clear HB; have HO1000 := n0_; have BK993 := n1_; have BK1002 := n2_; have HI996 := n3_; have HB := n4_; clear n0_ n1_ n2_ n3_ n4_
 refine start_ (n := 6) (S := fun w' => w'.cell? ⟨gb1002, 0, none⟩ = some (.int .i64 t997) ∧ w'.cell? ⟨gb1002, 1, none⟩ = some (.slice Ao12 t998.length co12)) (ds := []) #[false, false, false, false, false, false] (by kernel_rfl) rfl rfl ⟨(blk_cell BK1002.out 0).trans rfl, (blk_cell BK1002.out 1).trans rfl⟩ (fun hHeld => ?_)
 generalize w13.drew = w14 at HO1000 BK993 BK1002 HI996 HB hHeld ⊢
 refine pure_ (i := 1) (N := some 11) (v := ?_) (a' := ?_) #[false, true, false, false, false, false] rfl rfl (by kernel_rfl) (fun _ _ _ h => h) (Or.inl ⟨by rfl, ?_⟩) ?_ ?_
 rotate_left
 ·intro w'
  go_simp
  with_reducible rfl
 rotate_left
 ·simp only [Act.put, List.setIfInBounds_toArray, List.set_cons_zero, List.set_cons_succ, i64_w, i32_w]
  rfl
 refine take_ (i := 0) (N := some 10) (v := ?_) (a' := ?_) #[true, true, false, false, false, false] rfl rfl (by kernel_rfl) (fun _ _ _ h => h) (Or.inl ⟨by rfl, ?_⟩) hHeld ?_ ?_
 rotate_left
 ·rintro w' ⟨s0, s1⟩
  go_simp
  with_reducible rfl
 rotate_left
 ·simp only [Act.put, List.setIfInBounds_toArray, List.set_cons_zero, List.set_cons_succ, i64_w, i32_w]
  rfl
 refine take_ (i := 2) (N := some 12) (v := ?_) (a' := ?_) #[true, true, true, false, false, false] rfl rfl (by kernel_rfl) (fun _ _ _ h => h) (Or.inl ⟨by rfl, ?_⟩) hHeld ?_ ?_
 rotate_left
 ·rintro w' ⟨s0, s1⟩
  go_simp
  with_reducible rfl
 rotate_left
 ·simp only [Act.put, List.setIfInBounds_toArray, List.set_cons_zero, List.set_cons_succ, i64_w, i32_w]
  rfl
 refine one_ (i := 3) (N := some 13) #[true, true, true, true, false, false] rfl rfl (by kernel_rfl) (by decide) (fun K hK => ?_)
 refine goes_ Try.func126 (by kernel_rfl) rfl #[.pointer (some ⟨g996, 0, none⟩), .agg #[.int .i64 t997, .slice Ao12 t998.length co12]] (by rfl) rfl rfl (by (try simp only [List.map_toArray, List.map_cons, List.map_nil]); first | done | rfl) ?_
 with_reducible refine (spec_l91Plain.calls k g996 t994 t1001 t997 _ _ t998 t1003 t1004 w _ ?side1 ?side2 ?side3 ?side4 A4.out).mono ?_
 (case side1 => exact viaI2 HI996.out NB996_993.out NB996_1002.out)
 (case side2 => repeat (first | (with_reducible first | exact HB.out | apply below_alloc | apply pw_below_drewN | apply below_drew1 | refine below_set ?_ (IsS84.ge HI996.out) | refine below_set ?_ GE993.out | refine below_set ?_ GE1002.out) | exact HB.out))
 (case side3 => exact Kd.C_foot_own (IsS84.apart (show IsS84 w _ g996 t994 t1001 from by exact viaI2 HI996.out NB996_993.out NB996_1002.out) (viaR HO1000.out) (by decide)) (fun _ h_ => h_.2))
 (case side4 => exact (Kd.R_reads' HO1000.out).2.1)
 rintro e w15 ⟨rfl, hi, hb, hk⟩
 refine ⟨_, rfl, ?_⟩
 have n0_ := Aside0.mk (KeepBut.blk hk (g' := gb993) (o := .cells #[.int .i64 0, .slice none 0 0] 30 (0, 0)) (viaB BK993.out) NB993_996.out (by simp)); have n1_ := Aside0.mk (Kd.R_mono (Kd.R_keep (IsS84.apart (show IsS84 w _ g996 t994 t1001 from by exact viaI2 HI996.out NB996_993.out NB996_1002.out) (viaR HO1000.out) (by decide)) hk (fun _ h => h.2)) (fun _ h => h.1)); have n2_ := Aside0.mk (KeepBut.blk hk (g' := gb1002) (o := .cells #[.int .i64 t997, .slice Ao12 t998.length co12] 30 (0, 0)) (viaB BK1002.out) NB1002_996.out (by simp)); have n3_ := Aside0.mk (hb); have n4_ := Aside0.mk (hi); clear BK993; clear HO1000; clear BK1002; clear HB; clear HI996; have BK993 := n0_; have HO1000 := n1_; have BK1002 := n2_; have HB := n3_; have HI996 := n4_; clear n0_ n1_ n2_ n3_ n4_
 (try clear hb)
 (try clear hb2)
 (try clear hk)
 (try clear hi)
 refine hK.out _ _ ⟨(blk_cell BK1002.out 0).trans rfl, (blk_cell BK1002.out 1).trans rfl⟩ (fun hHeld => ?_)
 clear hK K
 refine norm_ (a' := ?_) ?_ ?_
 rotate_left
 ·show Act.put _ (some 13) _ = _
  simp only [Act.put, List.setIfInBounds_toArray, List.set_cons_zero, List.set_cons_succ, i64_w, i32_w]
  rfl
 refine one_ (i := 4) (N := none) #[true, true, true, true, true, false] rfl rfl (by kernel_rfl) (by decide) (fun K hK => ?_)
 have hs16 : w15.cell? ⟨gb993, 0, none⟩ = some (.int .i64 0) := (blk_cell BK993.out 0).trans rfl; have hfs16 := blk_frozen BK993.out 0; have hns16_1 := NB1002_993.out; have hms16_1 := NB993_1002.out; have hs17 : w15.cell? ⟨gb993, 1, none⟩ = some (.slice none 0 0) := (blk_cell BK993.out 1).trans rfl; have hfs17 := blk_frozen BK993.out 1; have hns17_1 := NB1002_993.out; have hms17_1 := NB993_1002.out
 refine skip_ (w1 := ?_) (by rfl) rfl ?_ ?_
 rotate_left
 ·go_simp
  rfl
 refine hK.out _ _ ⟨((cell_far (p := ⟨gb993, _, none⟩) NB1002_993.out _).trans (((cell_far (p := ⟨gb993, _, none⟩) NB1002_993.out _).trans (hHeld.1)))), ((cell_far (p := ⟨gb993, _, none⟩) NB1002_993.out _).trans (((cell_far (p := ⟨gb993, _, none⟩) NB1002_993.out _).trans (hHeld.2))))⟩ (fun hHeld => ?_)
 clear hK K
 refine pure_ (i := 5) (N := some 3) (v := ?_) (a' := ?_) #[true, true, true, true, true, true] rfl rfl (by kernel_rfl) (fun _ _ _ h => h) (Or.inl ⟨by rfl, ?_⟩) ?_ ?_
 rotate_left
 ·intro w'
  go_simp
  with_reducible rfl
 rotate_left
 ·simp only [Act.put, List.setIfInBounds_toArray, List.set_cons_zero, List.set_cons_succ, i64_w, i32_w]
  rfl
 refine done_ (by kernel_rfl) ?_
 try go_wp2
 refine bodyPost_ret (results_ct rfl _ _ gb993 30 #[.int .i64 t997, .slice Ao12 t998.length co12] (0, 0) _ rfl (by (with_reducible repeat (first | refine blk_drewN ?_ _ | refine blk_drew ?_ | refine blk_alloc ?_ _)); refine blk_put (cs := #[.int .i64 t997, .slice none 0 0]) ?_ 1 _ rfl; (with_reducible repeat (first | refine blk_drewN ?_ _ | refine blk_drew ?_ | refine blk_alloc ?_ _)); refine blk_put (cs := #[.int .i64 0, .slice none 0 0]) ?_ 0 _ rfl; (with_reducible repeat (first | refine blk_drewN ?_ _ | refine blk_drew ?_ | refine blk_alloc ?_ _)); exact BK993.out) Try.underlying30 rfl (by kernel_rfl)) rfl ?_
 exact ⟨_, by first | rfl | (simp [errW_none, errW_some] <;> rfl) | (simp [*, errW_none, errW_some] <;> rfl), by (with_reducible repeat (first | apply Kd.R_alloc | apply Kd.R_drewN | apply Kd.R_drew)); exact Kd.R_mono (Kd.R_far (p := ⟨gb993, 1, none⟩) (Kd.R_far (p := ⟨gb993, 0, none⟩) (Kd.R_types HO1000.out BK993.out (by decide)) (fun _ hk => hk.2) (.int .i64 t997)) (fun _ hk => hk.2) (.slice Ao12 t998.length co12)) (fun _ hk => trivial), viaX3 HB.out (IsS84.ge HI996.out) GE993.out GE1002.out⟩
/-! ### spec_DrawKernelGame: function 61 -/
def spec_DrawKernelGame.f (k : Nat) (l0 : List Int) : Option (Int × (List (S44)) × Int) := (spec_l91Two.f k l0).bind fun bt1006 => (some (bt1006.1, bt1006.2.1, bt1006.2.2))
theorem spec_DrawKernelGame.mono : ∀ a0 k, LeO (spec_DrawKernelGame.f k a0) (spec_DrawKernelGame.f (k + 1) a0) := by
 intro a0 k
 unfold spec_DrawKernelGame.f
 repeat' first
   | (with_reducible exact spec_l91Two.mono _ _)
   | (with_reducible exact LeO.refl _)
   | (with_reducible exact LeO.none _)
   | (with_reducible refine LeO.ite ?_ ?_)
   | (with_reducible refine LeO.bind ?_ (fun _ => ?_))
   | exact spec_l91Two.mono _ _
   | exact LeO.none _
   | refine LeO.ite ?_ ?_
   | refine LeO.bind ?_ (fun _ => ?_)
set_option maxHeartbeats 8000000 in
set_option maxRecDepth 100000 in
theorem spec_DrawKernelGame.calls (k : Nat) (A0 : Option Addr) (c0 : Nat) (l0 : List Int) (r1 : Int) (r2 : List (S44)) (r3 : Int) (w : World) (hr0 : Kd.C (Kd.int .u8) w A0 l0.length l0) (hc0 : l0.length ≤ c0) (h : spec_DrawKernelGame.f k l0 = some (r1, r2, r3)) :
  Calls Try.prog 61 #[.slice A0 l0.length c0] w fun e w' => ∃ v1_ : Value, e = .returned (.tuple #[.agg #[.int .i64 r1, v1_], .int .i64 r3]) ∧ Kd.R k44 44 w' w.heap.size (fun _ => True) v1_ r2 ∧ Below w.heap.size w w' := by
 have hu30 := Try.underlying30; have HR0 := Aside0.mk hr0; have HC0 := Aside0.mk hc0; clear hr0 hc0; have HB := Aside0.mk (Below.refl w.heap.size w); have H : ((spec_l91Two.f k l0).bind fun bt1006 => (some (bt1006.1, bt1006.2.1, bt1006.2.2))) = some (r1, r2, r3) := h; clear h; replace H := Option.bind_eq_some_iff.mp H; obtain ⟨⟨t1006, t1007, t1010⟩, A20, H⟩ := H; replace H : (some (t1006, t1007, t1010)) = some (r1, r2, r3) := H; have A2 := Aside0.mk A20; clear A20
 simp only [Option.some.injEq, Prod.mk.injEq] at H
 obtain ⟨rfl, rfl, rfl⟩ := H
 go_enter Try.func61, Try.ntmps61
 go_wp2_with (first | ((with_reducible refine gate_dst (N := 2) rfl ?_); refine box_event ?hg (N := 2) ?hd (cs := #[.int .i64 0, .slice none 0 0]) (t := 30) ?hr ?_; (case hd => rfl); (case hg => rfl); (case hr => first | (go_simp; done) | (go_simp; rfl)); intro gb1005 hg w3 hbox hb; have n0_ := Aside0.mk (below_step (viaW HB.out) hb); have n1_ := Aside0.mk (hbox); have n2_ := Aside0.mk ((by rw [hg]; exact (below_size (viaW HB.out)) : w.heap.size ≤ gb1005)); have n3_ := Aside0.mk ((by rw [hg]; exact (below_size (viaW HB.out)) : w.heap.size ≤ gb1005)); clear HB; have HB := n0_; have BK1005 := n1_; have GW1005 := n2_; have GE1005 := n3_; clear n0_ n1_ n2_ n3_; clear hb hbox hg) | ((with_reducible refine gate_callee (f := 108) rfl ?_); refine goesL_ (some 5) rfl rfl Try.func108 (by kernel_rfl) rfl #[.slice A0 l0.length c0] rfl (by (try simp only [List.map_toArray, List.map_cons, List.map_nil]); first | done | rfl) ?_; (with_reducible refine (spec_l91Two.calls k _ _ l0 t1006 t1007 t1010 _ ?side1 ?side2 A2.out).mono ?_); (case side1 => exact viaC (Kd.C_below HR0.out HB.out)); (case side2 => exact HC0.out); rintro e w4 ⟨v1008, rfl, ho0, hb⟩; refine ⟨_, rfl, ?_⟩; have n0_ := Aside0.mk (Kd.R_lower ho0 (below_size (viaX HB.out GE1005.out))); have n1_ := Aside0.mk (blk_below (g := gb1005) (o := .cells #[.int .i64 0, .slice none 0 0] 30 (0, 0)) (viaB BK1005.out) hb); have n2_ := Aside0.mk (below_step (viaX HB.out GE1005.out) hb); clear BK1005; clear HB; have HO1009 := n0_; have BK1005 := n1_; have HB := n2_; clear n0_ n1_ n2_; (try clear hb); (try clear hb2); (try clear hk); (try clear hi); (try clear ho0); have hcz5_0 : w4.cell? ⟨gb1005, 0, none⟩ = some (.int .i64 0) := (blk_cell BK1005.out 0).trans rfl; have hcz5_1 : w4.cell? ⟨gb1005, 1, none⟩ = some (.slice none 0 0) := (blk_cell BK1005.out 1).trans rfl; have hfz5_0 := blk_frozen BK1005.out 0; have hfz5_1 := blk_frozen BK1005.out 1; obtain ⟨Ao6, co6, eo6⟩ := Kd.R_slice HO1009.out; subst eo6))
 refine bodyPost_ret (results_ct rfl _ _ gb1005 30 #[.int .i64 t1006, .slice Ao6 t1007.length co6] (0, 0) _ rfl (by (with_reducible repeat (first | refine blk_drewN ?_ _ | refine blk_drew ?_ | refine blk_alloc ?_ _)); refine blk_put (cs := #[.int .i64 t1006, .slice none 0 0]) ?_ 1 _ rfl; (with_reducible repeat (first | refine blk_drewN ?_ _ | refine blk_drew ?_ | refine blk_alloc ?_ _)); refine blk_put (cs := #[.int .i64 0, .slice none 0 0]) ?_ 0 _ rfl; (with_reducible repeat (first | refine blk_drewN ?_ _ | refine blk_drew ?_ | refine blk_alloc ?_ _)); exact BK1005.out) Try.underlying30 rfl (by kernel_rfl)) rfl ?_
 exact ⟨_, by first | rfl | (simp [errW_none, errW_some] <;> rfl) | (simp [*, errW_none, errW_some] <;> rfl), by (with_reducible repeat (first | apply Kd.R_alloc | apply Kd.R_drewN | apply Kd.R_drew)); exact Kd.R_mono (Kd.R_far (p := ⟨gb1005, 1, none⟩) (Kd.R_far (p := ⟨gb1005, 0, none⟩) (Kd.R_types HO1009.out BK1005.out (by decide)) (fun _ hk => hk.2) (.int .i64 t1006)) (fun _ hk => hk.2) (.slice Ao6 t1007.length co6)) (fun _ hk => trivial), viaX HB.out GE1005.out⟩
/-! ### impl_WayOut: function 62 -/
def impl_WayOut.f (k : Nat) (a0_0 : Int) (l0_1 : List (S44)) (a1 : Int) : Option (List Int × Bool) := (impl_WayIn.f k a0_0 l0_1 a1).bind fun t1012 => (if t1012 = true then ((impl_outOf.f k a0_0 l0_1 a1).bind fun t1013 => (some (t1013, true))) else (some (([] : List Int), false)))
theorem impl_WayOut.mono : ∀ a0 a1 a2 k, LeO (impl_WayOut.f k a0 a1 a2) (impl_WayOut.f (k + 1) a0 a1 a2) := by
 intro a0 a1 a2 k
 unfold impl_WayOut.f
 repeat' first
   | (with_reducible exact impl_WayIn.mono _ _ _ _)
   | (with_reducible exact impl_outOf.mono _ _ _ _)
   | (with_reducible exact LeO.refl _)
   | (with_reducible exact LeO.none _)
   | (with_reducible refine LeO.ite ?_ ?_)
   | (with_reducible refine LeO.bind ?_ (fun _ => ?_))
   | exact impl_WayIn.mono _ _ _ _
   | exact impl_outOf.mono _ _ _ _
   | exact LeO.none _
   | refine LeO.ite ?_ ?_
   | refine LeO.bind ?_ (fun _ => ?_)
set_option maxHeartbeats 8000000 in
set_option maxRecDepth 100000 in
theorem impl_WayOut.calls (k : Nat) (a0_0 : Int) (A0_1 : Option Addr) (c0_1 : Nat) (l0_1 : List (S44)) (a1 : Int) (r1 : List Int) (r2 : Bool) (w : World) (hr0_1 : Kd.C k44 w A0_1 l0_1.length l0_1) (hc0_1 : l0_1.length ≤ c0_1) (h : impl_WayOut.f k a0_0 l0_1 a1 = some (r1, r2)) :
  Calls Try.prog 62 #[.agg #[.int .i64 a0_0, .slice A0_1 l0_1.length c0_1], .int .i64 a1] w fun e w' => ∃ v0_ : Value, e = .returned (.tuple #[v0_, .bool r2]) ∧ Kd.R (Kd.int .i64) 3 w' w.heap.size (fun _ => True) v0_ r1 ∧ Below w.heap.size w w' := by
 have hu30 := Try.underlying30; have HR0_1 := Aside0.mk hr0_1; have HC0_1 := Aside0.mk hc0_1; clear hr0_1 hc0_1; have HB := Aside0.mk (Below.refl w.heap.size w); have H : ((impl_WayIn.f k a0_0 l0_1 a1).bind fun t1012 => (if t1012 = true then ((impl_outOf.f k a0_0 l0_1 a1).bind fun t1013 => (some (t1013, true))) else (some (([] : List Int), false)))) = some (r1, r2) := h; clear h; replace H := Option.bind_eq_some_iff.mp H; obtain ⟨t1012, A30, H⟩ := H; replace H : (if t1012 = true then ((impl_outOf.f k a0_0 l0_1 a1).bind fun t1013 => (some (t1013, true))) else (some (([] : List Int), false))) = some (r1, r2) := H; have A3 := Aside0.mk A30; clear A30
 by_cases c4 : t1012 = true
 ·subst c4
  have H1 : ((impl_outOf.f k a0_0 l0_1 a1).bind fun t1013 => (some (t1013, true))) = some (r1, r2) := by rw [if_pos rfl] at H; exact H
  clear H; have H := H1; clear H1; replace H := Option.bind_eq_some_iff.mp H; obtain ⟨t1013, A50, H⟩ := H; replace H : (some (t1013, true)) = some (r1, r2) := H; have A5 := Aside0.mk A50; clear A50
  simp only [Option.some.injEq, Prod.mk.injEq] at H
  obtain ⟨rfl, rfl⟩ := H
  go_enter Try.func62, Try.ntmps62
  go_wp2_with (first | ((with_reducible refine gate_dst (N := 2) rfl ?_); refine box_event ?hg (N := 2) ?hd (cs := #[.int .i64 a0_0, .slice A0_1 l0_1.length c0_1]) (t := 30) ?hr ?_; (case hd => rfl); (case hg => rfl); (case hr => first | (go_simp; done) | (go_simp; rfl)); intro gb1011 hg w6 hbox hb; have n0_ := Aside0.mk (below_step (viaW HB.out) hb); have n1_ := Aside0.mk (hbox); have n2_ := Aside0.mk ((by rw [hg]; exact (below_size (viaW HB.out)) : w.heap.size ≤ gb1011)); have n3_ := Aside0.mk ((by rw [hg]; exact (below_size (viaW HB.out)) : w.heap.size ≤ gb1011)); clear HB; have HB := n0_; have BK1011 := n1_; have GW1011 := n2_; have GE1011 := n3_; clear n0_ n1_ n2_ n3_; clear hb hbox hg; have hcz7_0 : w6.cell? ⟨gb1011, 0, none⟩ = some (.int .i64 a0_0) := (blk_cell BK1011.out 0).trans rfl; have hcz7_1 : w6.cell? ⟨gb1011, 1, none⟩ = some (.slice A0_1 l0_1.length c0_1) := (blk_cell BK1011.out 1).trans rfl; have hfz7_0 := blk_frozen BK1011.out 0; have hfz7_1 := blk_frozen BK1011.out 1) | ((with_reducible refine gate_callee (f := 68) rfl ?_); refine goesL_ (some 8) rfl rfl Try.func68 (by kernel_rfl) rfl #[.agg #[.int .i64 a0_0, .slice A0_1 l0_1.length c0_1], .int .i64 a1] rfl (by (try simp only [List.map_toArray, List.map_cons, List.map_nil]); first | done | rfl) ?_; (with_reducible refine (impl_WayIn.calls k a0_0 _ _ l0_1 a1 true _ ?side1 ?side2 A3.out).mono ?_); (case side1 => exact viaC (Kd.C_below HR0_1.out HB.out)); (case side2 => exact HC0_1.out); rintro e w8 ⟨rfl, hb⟩; refine ⟨_, rfl, ?_⟩; have n0_ := Aside0.mk (blk_below (g := gb1011) (o := .cells #[.int .i64 a0_0, .slice A0_1 l0_1.length c0_1] 30 (0, 0)) (viaB BK1011.out) hb); have n1_ := Aside0.mk (below_step (viaX HB.out GE1011.out) hb); clear BK1011; clear HB; have BK1011 := n0_; have HB := n1_; clear n0_ n1_; (try clear hb); (try clear hb2); (try clear hk); (try clear hi); have hcz9_0 : w8.cell? ⟨gb1011, 0, none⟩ = some (.int .i64 a0_0) := (blk_cell BK1011.out 0).trans rfl; have hcz9_1 : w8.cell? ⟨gb1011, 1, none⟩ = some (.slice A0_1 l0_1.length c0_1) := (blk_cell BK1011.out 1).trans rfl; have hfz9_0 := blk_frozen BK1011.out 0; have hfz9_1 := blk_frozen BK1011.out 1) | ((with_reducible refine gate_callee (f := 95) rfl ?_); refine goesL_ (some 12) rfl rfl Try.func95 (by kernel_rfl) rfl #[.agg #[.int .i64 a0_0, .slice A0_1 l0_1.length c0_1], .int .i64 a1] rfl (by (try simp only [List.map_toArray, List.map_cons, List.map_nil]); first | done | rfl) ?_; (with_reducible refine (impl_outOf.calls k a0_0 _ _ l0_1 a1 t1013 _ ?side1 ?side2 A5.out).mono ?_); (case side1 => exact viaC (Kd.C_below HR0_1.out HB.out)); (case side2 => exact HC0_1.out); rintro e w10 ⟨v1014, rfl, ho0, hb⟩; refine ⟨_, rfl, ?_⟩; have n0_ := Aside0.mk (Kd.R_lower ho0 (below_size (viaX HB.out GE1011.out))); have n1_ := Aside0.mk (blk_below (g := gb1011) (o := .cells #[.int .i64 a0_0, .slice A0_1 l0_1.length c0_1] 30 (0, 0)) (viaB BK1011.out) hb); have n2_ := Aside0.mk (below_step (viaX HB.out GE1011.out) hb); clear BK1011; clear HB; have HO1015 := n0_; have BK1011 := n1_; have HB := n2_; clear n0_ n1_ n2_; (try clear hb); (try clear hb2); (try clear hk); (try clear hi); (try clear ho0)))
  go_ret2
  exact ⟨_, by first | rfl | (simp [errW_none, errW_some] <;> rfl) | (simp [*, errW_none, errW_some] <;> rfl), viaR HO1015.out, viaX HB.out GE1011.out⟩
 ·replace c4 := Bool.eq_false_iff.mpr c4
  subst c4; have H1 : (some (([] : List Int), false)) = some (r1, r2) := by rw [if_neg (show ¬ (false = true) by decide)] at H; exact H
  clear H; have H := H1; clear H1
  simp only [Option.some.injEq, Prod.mk.injEq] at H
  obtain ⟨rfl, rfl⟩ := H
  go_enter Try.func62, Try.ntmps62
  go_wp2_with (first | ((with_reducible refine gate_dst (N := 2) rfl ?_); refine box_event ?hg (N := 2) ?hd (cs := #[.int .i64 a0_0, .slice A0_1 l0_1.length c0_1]) (t := 30) ?hr ?_; (case hd => rfl); (case hg => rfl); (case hr => first | (go_simp; done) | (go_simp; rfl)); intro gb1011 hg w11 hbox hb; have n0_ := Aside0.mk (below_step (viaW HB.out) hb); have n1_ := Aside0.mk (hbox); have n2_ := Aside0.mk ((by rw [hg]; exact (below_size (viaW HB.out)) : w.heap.size ≤ gb1011)); have n3_ := Aside0.mk ((by rw [hg]; exact (below_size (viaW HB.out)) : w.heap.size ≤ gb1011)); clear HB; have HB := n0_; have BK1011 := n1_; have GW1011 := n2_; have GE1011 := n3_; clear n0_ n1_ n2_ n3_; clear hb hbox hg; have hcz12_0 : w11.cell? ⟨gb1011, 0, none⟩ = some (.int .i64 a0_0) := (blk_cell BK1011.out 0).trans rfl; have hcz12_1 : w11.cell? ⟨gb1011, 1, none⟩ = some (.slice A0_1 l0_1.length c0_1) := (blk_cell BK1011.out 1).trans rfl; have hfz12_0 := blk_frozen BK1011.out 0; have hfz12_1 := blk_frozen BK1011.out 1) | ((with_reducible refine gate_callee (f := 68) rfl ?_); refine goesL_ (some 8) rfl rfl Try.func68 (by kernel_rfl) rfl #[.agg #[.int .i64 a0_0, .slice A0_1 l0_1.length c0_1], .int .i64 a1] rfl (by (try simp only [List.map_toArray, List.map_cons, List.map_nil]); first | done | rfl) ?_; (with_reducible refine (impl_WayIn.calls k a0_0 _ _ l0_1 a1 false _ ?side1 ?side2 A3.out).mono ?_); (case side1 => exact viaC (Kd.C_below HR0_1.out HB.out)); (case side2 => exact HC0_1.out); rintro e w13 ⟨rfl, hb⟩; refine ⟨_, rfl, ?_⟩; have n0_ := Aside0.mk (blk_below (g := gb1011) (o := .cells #[.int .i64 a0_0, .slice A0_1 l0_1.length c0_1] 30 (0, 0)) (viaB BK1011.out) hb); have n1_ := Aside0.mk (below_step (viaX HB.out GE1011.out) hb); clear BK1011; clear HB; have BK1011 := n0_; have HB := n1_; clear n0_ n1_; (try clear hb); (try clear hb2); (try clear hk); (try clear hi)))
  go_ret2
  exact ⟨_, by first | rfl | (simp [errW_none, errW_some] <;> rfl) | (simp [*, errW_none, errW_some] <;> rfl), by first | exact Kd.R_nil _ _ _ _ _ | exact Kd.N_nil _ _ _ _ _ | exact Kd.V_nil _ _ _ _ _ | exact Kd.Q_nil _ _ _ _ _ | exact Kd.S_nil _ _ _ _ _, viaX HB.out GE1011.out⟩
/-! ### impl_KernelAll: function 63 -/
def impl_KernelAll.l0 : Nat → Int → List Int → Int → Int → Int → List (S44) → Option (List Int × Bool)
 | 0, _, _, _, _, _, _ => none
 | k + 1, x1, x6, x15, x16, x1017000, x1017001 => if x16 < x15 then ((impl_isKernel.f k x1017000 x1017001 x1 x16).bind fun t1021 => (if t1021 = true then (if x6.length < 17592186044416 then (impl_KernelAll.l0 k x1 (x6 ++ [x16]) x15 (wrap64 (x16 + 1)) x1017000 x1017001) else (none)) else (impl_KernelAll.l0 k x1 x6 x15 (wrap64 (x16 + 1)) x1017000 x1017001))) else (some (x6, true))
def impl_KernelAll.f (k : Nat) (a0_0 : Int) (l0_1 : List (S44)) (a1 : Int) : Option (List Int × Bool) := (impl_WayIn.f k a0_0 l0_1 a1).bind fun t1017 => (if t1017 = true then (if 0 ≤ a0_0 then (impl_KernelAll.l0 k a1 (([] : List Int)) (shl .i64 1 a0_0) 0 a0_0 l0_1) else (none)) else (some (([] : List Int), false)))
theorem impl_KernelAll.mono_l : ∀ k, (∀ y0 y1 y2 y3 y4 y5, LeO (impl_KernelAll.l0 k y0 y1 y2 y3 y4 y5) (impl_KernelAll.l0 (k + 1) y0 y1 y2 y3 y4 y5))
 | 0 => fun _ _ _ _ _ _ r h => by simp [impl_KernelAll.l0] at h
 | k + 1 => by
  have ih0 := impl_KernelAll.mono_l k
  ·intro y0 y1 y2 y3 y4 y5
   unfold impl_KernelAll.l0
   repeat' first
   | (with_reducible exact ih0 _ _ _ _ _ _)
   | (with_reducible exact impl_WayIn.mono _ _ _ _)
   | (with_reducible exact impl_isKernel.mono _ _ _ _ _)
   | (with_reducible exact LeO.refl _)
   | (with_reducible exact LeO.none _)
   | (with_reducible refine LeO.ite ?_ ?_)
   | (with_reducible refine LeO.bind ?_ (fun _ => ?_))
   | exact ih0 _ _ _ _ _ _
   | exact impl_WayIn.mono _ _ _ _
   | exact impl_isKernel.mono _ _ _ _ _
   | exact LeO.none _
   | refine LeO.ite ?_ ?_
   | refine LeO.bind ?_ (fun _ => ?_)
theorem impl_KernelAll.mono : ∀ a0 a1 a2 k, LeO (impl_KernelAll.f k a0 a1 a2) (impl_KernelAll.f (k + 1) a0 a1 a2) := by
 intro a0 a1 a2 k; have ih0 := impl_KernelAll.mono_l k
 unfold impl_KernelAll.f
 repeat' first
   | (with_reducible exact ih0 _ _ _ _ _ _)
   | (with_reducible exact impl_WayIn.mono _ _ _ _)
   | (with_reducible exact impl_isKernel.mono _ _ _ _ _)
   | (with_reducible exact LeO.refl _)
   | (with_reducible exact LeO.none _)
   | (with_reducible refine LeO.ite ?_ ?_)
   | (with_reducible refine LeO.bind ?_ (fun _ => ?_))
   | exact ih0 _ _ _ _ _ _
   | exact impl_WayIn.mono _ _ _ _
   | exact impl_isKernel.mono _ _ _ _ _
   | exact LeO.none _
   | refine LeO.ite ?_ ?_
   | refine LeO.bind ?_ (fun _ => ?_)
set_option maxHeartbeats 8000000 in
set_option maxRecDepth 100000 in
theorem impl_KernelAll.calls (k : Nat) (a0_0 : Int) (A0_1 : Option Addr) (c0_1 : Nat) (l0_1 : List (S44)) (a1 : Int) (r1 : List Int) (r2 : Bool) (w : World) (hr0_1 : Kd.C k44 w A0_1 l0_1.length l0_1) (hc0_1 : l0_1.length ≤ c0_1) (h : impl_KernelAll.f k a0_0 l0_1 a1 = some (r1, r2)) :
  Calls Try.prog 63 #[.agg #[.int .i64 a0_0, .slice A0_1 l0_1.length c0_1], .int .i64 a1] w fun e w' => ∃ v0_ : Value, e = .returned (.tuple #[v0_, .bool r2]) ∧ Kd.R (Kd.int .i64) 3 w' w.heap.size (fun _ => True) v0_ r1 ∧ Below w.heap.size w w' := by
 have hu30 := Try.underlying30; have HR0_1 := Aside0.mk hr0_1; have HC0_1 := Aside0.mk hc0_1; clear hr0_1 hc0_1; have HB := Aside0.mk (Below.refl w.heap.size w); have H : ((impl_WayIn.f k a0_0 l0_1 a1).bind fun t1017 => (if t1017 = true then (if 0 ≤ a0_0 then (impl_KernelAll.l0 k a1 (([] : List Int)) (shl .i64 1 a0_0) 0 a0_0 l0_1) else (none)) else (some (([] : List Int), false)))) = some (r1, r2) := h; clear h; replace H := Option.bind_eq_some_iff.mp H; obtain ⟨t1017, A30, H⟩ := H; replace H : (if t1017 = true then (if 0 ≤ a0_0 then (impl_KernelAll.l0 k a1 (([] : List Int)) (shl .i64 1 a0_0) 0 a0_0 l0_1) else (none)) else (some (([] : List Int), false))) = some (r1, r2) := H; have A3 := Aside0.mk A30; clear A30
 by_cases c4 : t1017 = true
 ·subst c4
  have H1 : (if 0 ≤ a0_0 then (impl_KernelAll.l0 k a1 (([] : List Int)) (shl .i64 1 a0_0) 0 a0_0 l0_1) else (none)) = some (r1, r2) := by rw [if_pos rfl] at H; exact H
  clear H; have H := H1; clear H1; obtain ⟨y1018, hy1018⟩ : ∃ y_ : List Int, y_ = (([] : List Int)) := ⟨_, rfl⟩; replace H : (if 0 ≤ a0_0 then (impl_KernelAll.l0 k a1 y1018 (shl .i64 1 a0_0) 0 a0_0 l0_1) else (none)) = some (r1, r2) := by first | (rw [hy1018]; with_reducible exact H) | (have H2_ := (Option.bind_some _ _).symm.trans H; rw [hy1018]; with_reducible exact H2_) | (have H2_ := (Option.bind_some _ _).symm.trans H; with_reducible exact H2_) | with_reducible exact H | (rw [hy1018]; exact H) | exact H
  have Ny1018 := Aside0.mk hy1018; clear hy1018
  by_cases c5 : 0 ≤ a0_0
  ·rw [if_pos c5] at H
   have c5b0 := eq_true c5; have c5b1 : decide (0 ≤ a0_0) = true := decide_eq_true c5; clear c5; obtain ⟨ji6, hji6⟩ : ∃ j_ : Int, (shl .i64 1 a0_0) = j_ := ⟨_, rfl⟩; replace H : (impl_KernelAll.l0 k a1 y1018 ji6 0 a0_0 l0_1) = some (r1, r2) := by first | (rw [hji6] at H; exact H) | (simp only [hji6] at H ⊢; exact H)
   (try rw [hji6] at A3)
   have hji6_ : (IntKind.i64.wrap (1 * 2 ^ min a0_0.toNat 64)) = ji6 := hji6; have hji6z : a0_0 ≤ 64 → (IntKind.i64.wrap (1 * 2 ^ a0_0.toNat)) = ji6 := shl_small hji6; have hji6u : (IntKind.i64.wrap (2 ^ min a0_0.toNat 64)) = ji6 := by have h_ := hji6_; rw [Int.one_mul] at h_; exact h_
   have hji6v : a0_0 ≤ 64 → (IntKind.i64.wrap (2 ^ a0_0.toNat)) = ji6 := fun hle_ => by have h_ := hji6z hle_; rw [Int.one_mul] at h_; exact h_
   have hji6y : (wrap64 (1 * 2 ^ min a0_0.toNat 64)) = ji6 := (i64_w _).symm.trans hji6_; have hji6x : a0_0 ≤ 64 → (wrap64 (1 * 2 ^ a0_0.toNat)) = ji6 := fun h_ => (i64_w _).symm.trans (hji6z h_); have H' := Aside0.mk H; clear H
   go_enter Try.func63, Try.ntmps63
   go_wp2_with (first | ((with_reducible refine gate_dst (N := 2) rfl ?_); refine box_event ?hg (N := 2) ?hd (cs := #[.int .i64 a0_0, .slice A0_1 l0_1.length c0_1]) (t := 30) ?hr ?_; (case hd => rfl); (case hg => rfl); (case hr => first | (go_simp; done) | (go_simp; rfl)); intro gb1016 hg w7 hbox hb; have n0_ := Aside0.mk (below_step (viaW HB.out) hb); have n1_ := Aside0.mk (hbox); have n2_ := Aside0.mk ((by rw [hg]; exact (below_size (viaW HB.out)) : w.heap.size ≤ gb1016)); have n3_ := Aside0.mk ((by rw [hg]; exact (below_size (viaW HB.out)) : w.heap.size ≤ gb1016)); clear HB; have HB := n0_; have BK1016 := n1_; have GW1016 := n2_; have GE1016 := n3_; clear n0_ n1_ n2_ n3_; clear hb hbox hg; have hcz8_0 : w7.cell? ⟨gb1016, 0, none⟩ = some (.int .i64 a0_0) := (blk_cell BK1016.out 0).trans rfl; have hcz8_1 : w7.cell? ⟨gb1016, 1, none⟩ = some (.slice A0_1 l0_1.length c0_1) := (blk_cell BK1016.out 1).trans rfl; have hfz8_0 := blk_frozen BK1016.out 0; have hfz8_1 := blk_frozen BK1016.out 1) | ((with_reducible refine gate_callee (f := 68) rfl ?_); refine goesL_ (some 10) rfl rfl Try.func68 (by kernel_rfl) rfl #[.agg #[.int .i64 a0_0, .slice A0_1 l0_1.length c0_1], .int .i64 a1] rfl (by (try simp only [List.map_toArray, List.map_cons, List.map_nil]); first | done | rfl) ?_; (with_reducible refine (impl_WayIn.calls k a0_0 _ _ l0_1 a1 true _ ?side1 ?side2 A3.out).mono ?_); (case side1 => exact viaC (Kd.C_below HR0_1.out HB.out)); (case side2 => exact HC0_1.out); rintro e w9 ⟨rfl, hb⟩; refine ⟨_, rfl, ?_⟩; have n0_ := Aside0.mk (blk_below (g := gb1016) (o := .cells #[.int .i64 a0_0, .slice A0_1 l0_1.length c0_1] 30 (0, 0)) (viaB BK1016.out) hb); have n1_ := Aside0.mk (below_step (viaX HB.out GE1016.out) hb); clear BK1016; clear HB; have BK1016 := n0_; have HB := n1_; clear n0_ n1_; (try clear hb); (try clear hb2); (try clear hk); (try clear hi)) | ((with_reducible refine gate_dst (N := 12) rfl ?_); refine Kd.R_lit (Kd.int .i64) _ 3 ?hg (N := 12) ?hd (xs := ([] : List Int)) (inner := []) (ok := fun _ => True) (okp := fun _ => True) ?hr ?hp (fun _ hk => hk) trivial (Below.refl _ _) (Nat.le_refl _) (by simp) ?_; (case hd => rfl); (case hg => rfl); (case hr => first | (go_simp; done) | (go_simp; rfl)); (case hp => exact (Reps.none _ _)); intro v1019 w10 ho11 hb hg_ hnew_; clear hg_ hnew_; (first | rw [← Ny1018.out] at ho11 | (simp only [Int.reduceToNat] at ho11; rw [← Ny1018.out] at ho11)); have n0_ := Aside0.mk (Kd.R_lower ho11 (below_size (viaX HB.out GE1016.out))); have n1_ := Aside0.mk (blk_below (g := gb1016) (o := .cells #[.int .i64 a0_0, .slice A0_1 l0_1.length c0_1] 30 (0, 0)) (viaB BK1016.out) hb); have n2_ := Aside0.mk (below_step (viaX HB.out GE1016.out) hb); clear BK1016; clear HB; have HO1020 := n0_; have BK1016 := n1_; have HB := n2_; clear n0_ n1_ n2_; clear hb ho11; have hcz12_0 : w10.cell? ⟨gb1016, 0, none⟩ = some (.int .i64 a0_0) := (blk_cell BK1016.out 0).trans rfl; have hcz12_1 : w10.cell? ⟨gb1016, 1, none⟩ = some (.slice A0_1 l0_1.length c0_1) := (blk_cell BK1016.out 1).trans rfl; have hfz12_0 := blk_frozen BK1016.out 0; have hfz12_1 := blk_frozen BK1016.out 1))
   go_loopg [6, 16] k (fun kq v6 v16 w' => ∃ (x6_1 : List Int) (x16_1 : Int), v16 = .int .i64 x16_1 ∧ Aside0 (impl_KernelAll.l0 kq a1 x6_1 ji6 x16_1 a0_0 l0_1 = some (r1, r2)) ∧ Aside0 (kq ≤ k) ∧ Aside0 (Kd.R (Kd.int .i64) 3 w' w.heap.size (fun _ => True) v6 x6_1) ∧ Aside0 (w'.heap[gb1016]? = some (.cells #[.int .i64 a0_0, (.slice A0_1 l0_1.length c0_1)] 30 (0, 0))) ∧ Aside0 (Below w.heap.size w w'))
   case atStart => exact ⟨(y1018), (0), (by first | rfl | (simp; done) | (simp [*]; done)), H', ⟨Nat.le_refl _⟩, ⟨viaR HO1020.out⟩, ⟨viaB BK1016.out⟩, ⟨viaX HB.out GE1016.out⟩⟩
   case round =>
    clear H'
    try clear p2
    try clear c4
    try clear c5
    try clear c5b0
    try clear c5b1
    try clear c6
    try clear p6
    try clear hcz12_0
    try clear hcz12_1
    try clear hcz8_0
    try clear hcz8_1
    try clear hfz12_0
    try clear hfz12_1
    try clear hfz8_0
    try clear hfz8_1
    obtain ⟨x6_1, x16_1, rfl, HA, HK1, HO_6, BK1016, HB⟩ := hrel
    cases gk with
    | zero => exact absurd HA.out (by simp [impl_KernelAll.l0])
    | succ k1 =>
     have H := HA.out; clear HA
     simp only [impl_KernelAll.l0] at H
     by_cases c13 : x16_1 < ji6
     ·rw [if_pos c13] at H
      have c13b0 : decide (x16_1 < ji6) = true := decide_eq_true c13; clear c13; replace H := Option.bind_eq_some_iff.mp H; obtain ⟨t1021, A140, H⟩ := H; replace H : (if t1021 = true then (if x6_1.length < 17592186044416 then (impl_KernelAll.l0 k1 a1 (x6_1 ++ [x16_1]) ji6 (wrap64 (x16_1 + 1)) a0_0 l0_1) else (none)) else (impl_KernelAll.l0 k1 a1 x6_1 ji6 (wrap64 (x16_1 + 1)) a0_0 l0_1)) = some (r1, r2) := H; have A14 := Aside0.mk A140; clear A140
      by_cases c15 : t1021 = true
      ·subst c15
       have H1 : (if x6_1.length < 17592186044416 then (impl_KernelAll.l0 k1 a1 (x6_1 ++ [x16_1]) ji6 (wrap64 (x16_1 + 1)) a0_0 l0_1) else (none)) = some (r1, r2) := by rw [if_pos rfl] at H; exact H
       clear H; have H := H1; clear H1
       by_cases c16 : x6_1.length < 17592186044416
       ·rw [if_pos c16] at H
        have LMc16 := Aside0.mk c16; clear c16; obtain ⟨y1022, hy1022⟩ : ∃ y_ : List Int, y_ = (x6_1 ++ [x16_1]) := ⟨_, rfl⟩; replace H : (impl_KernelAll.l0 k1 a1 y1022 ji6 (wrap64 (x16_1 + 1)) a0_0 l0_1) = some (r1, r2) := by first | (rw [hy1022]; with_reducible exact H) | (have H2_ := (Option.bind_some _ _).symm.trans H; rw [hy1022]; with_reducible exact H2_) | (have H2_ := (Option.bind_some _ _).symm.trans H; with_reducible exact H2_) | with_reducible exact H | (rw [hy1022]; exact H) | exact H
        have Ny1022 := Aside0.mk hy1022; clear hy1022; have H' := Aside0.mk H; clear H; have hcz17_0 : wr.cell? ⟨gb1016, 0, none⟩ = some (.int .i64 a0_0) := (blk_cell BK1016.out 0).trans rfl; have hcz17_1 : wr.cell? ⟨gb1016, 1, none⟩ = some (.slice A0_1 l0_1.length c0_1) := (blk_cell BK1016.out 1).trans rfl; have hfz17_0 := blk_frozen BK1016.out 0; have hfz17_1 := blk_frozen BK1016.out 1
        go_wp2_with (first | ((with_reducible refine gate_callee (f := 105) rfl ?_); refine goesL_ (some 22) rfl rfl Try.func105 (by kernel_rfl) rfl #[.agg #[.int .i64 a0_0, .slice A0_1 l0_1.length c0_1], .int .i64 a1, .int .i64 x16_1] rfl (by (try simp only [List.map_toArray, List.map_cons, List.map_nil]); first | done | rfl) ?_; (with_reducible refine (impl_isKernel.calls k1 a0_0 _ _ l0_1 a1 x16_1 true _ ?side1 ?side2 A14.out).mono ?_); (case side1 => exact viaC (Kd.C_below HR0_1.out HB.out)); (case side2 => exact HC0_1.out); rintro e w18 ⟨rfl, hb⟩; refine ⟨_, rfl, ?_⟩; have n0_ := Aside0.mk (Kd.R_below (viaR HO_6.out) hb); have n1_ := Aside0.mk (blk_below (g := gb1016) (o := .cells #[.int .i64 a0_0, .slice A0_1 l0_1.length c0_1] 30 (0, 0)) (viaB BK1016.out) hb); have n2_ := Aside0.mk (below_step (viaX HB.out GE1016.out) hb); clear HO_6; clear BK1016; clear HB; have HO_6 := n0_; have BK1016 := n1_; have HB := n2_; clear n0_ n1_ n2_; (try clear hb); (try clear hb2); (try clear hk); (try clear hi)) | ((with_reducible refine gate_builtin (b := .append) (xs := #[.tmp 23, .tmp 25]) rfl ?_); at_builtin; refine Kd.R_append (Kd.int .i64) (w0 := w) w.heap.size rfl (.tmp 23) (.tmp 25) 39 3 (.int .i64 0) 8 rfl Try.underlying39 info3 rfl (by decide) (by omega) u6 x6_1 x16_1 [.int .i64 x16_1] (fun _ => True) (fun _ => False) rfl rfl ?aP (fun _ hk => hk.elim) ?aF ?aO ?aB ?aS ?aL ?_; (case aP => exact rfl); (case aB => exact (viaX HB.out GE1016.out)); (case aF => exact (fun _ _ => trivial)); (case aO => exact (viaR HO_6.out)); (case aS => exact (below_size (viaX HB.out GE1016.out))); (case aL => have := LMc16.out; omega); intro v1023 w19 ho hb hg hat; rw [← Ny1022.out] at ho; have n0_ := Aside0.mk (blk_grown (g := gb1016) (o := .cells #[.int .i64 a0_0, .slice A0_1 l0_1.length c0_1] 30 (0, 0)) (viaB BK1016.out) hg (Kd.R_ne HO_6.out BK1016.out (by decide))); have n1_ := Aside0.mk (hb); have n2_ := Aside0.mk (ho); clear BK1016; clear HB; clear HO_6; have BK1016 := n0_; have HB := n1_; have HO1024 := n2_; clear n0_ n1_ n2_; clear ho hb hg hat))
        go_roundg k1
        case measure => have := HK1.out; omega
        case rel => exact ⟨(y1022), (wrap64 (x16_1 + 1)), (by first | rfl | (simp; done) | (simp [*]; done)), H', ⟨by have := HK1.out; omega⟩, ⟨viaR HO1024.out⟩, ⟨viaB BK1016.out⟩, ⟨viaX HB.out GE1016.out⟩⟩
       ·rw [if_neg c16] at H
        exact absurd H (by simp)
      ·replace c15 := Bool.eq_false_iff.mpr c15
       subst c15; have H1 : (impl_KernelAll.l0 k1 a1 x6_1 ji6 (wrap64 (x16_1 + 1)) a0_0 l0_1) = some (r1, r2) := by rw [if_neg (show ¬ (false = true) by decide)] at H; exact H
       clear H; have H := H1; clear H1; have H' := Aside0.mk H; clear H; have hcz20_0 : wr.cell? ⟨gb1016, 0, none⟩ = some (.int .i64 a0_0) := (blk_cell BK1016.out 0).trans rfl; have hcz20_1 : wr.cell? ⟨gb1016, 1, none⟩ = some (.slice A0_1 l0_1.length c0_1) := (blk_cell BK1016.out 1).trans rfl; have hfz20_0 := blk_frozen BK1016.out 0; have hfz20_1 := blk_frozen BK1016.out 1
       go_wp2_with (first | ((with_reducible refine gate_callee (f := 105) rfl ?_); refine goesL_ (some 22) rfl rfl Try.func105 (by kernel_rfl) rfl #[.agg #[.int .i64 a0_0, .slice A0_1 l0_1.length c0_1], .int .i64 a1, .int .i64 x16_1] rfl (by (try simp only [List.map_toArray, List.map_cons, List.map_nil]); first | done | rfl) ?_; (with_reducible refine (impl_isKernel.calls k1 a0_0 _ _ l0_1 a1 x16_1 false _ ?side1 ?side2 A14.out).mono ?_); (case side1 => exact viaC (Kd.C_below HR0_1.out HB.out)); (case side2 => exact HC0_1.out); rintro e w21 ⟨rfl, hb⟩; refine ⟨_, rfl, ?_⟩; have n0_ := Aside0.mk (Kd.R_below (viaR HO_6.out) hb); have n1_ := Aside0.mk (blk_below (g := gb1016) (o := .cells #[.int .i64 a0_0, .slice A0_1 l0_1.length c0_1] 30 (0, 0)) (viaB BK1016.out) hb); have n2_ := Aside0.mk (below_step (viaX HB.out GE1016.out) hb); clear HO_6; clear BK1016; clear HB; have HO_6 := n0_; have BK1016 := n1_; have HB := n2_; clear n0_ n1_ n2_; (try clear hb); (try clear hb2); (try clear hk); (try clear hi)))
       go_roundg k1
       case measure => have := HK1.out; omega
       case rel => exact ⟨(x6_1), (wrap64 (x16_1 + 1)), (by first | rfl | (simp; done) | (simp [*]; done)), H', ⟨by have := HK1.out; omega⟩, ⟨viaR HO_6.out⟩, ⟨viaB BK1016.out⟩, ⟨viaX HB.out GE1016.out⟩⟩
     ·rw [if_neg c13] at H
      have c13b0 : decide (x16_1 < ji6) = false := decide_eq_false c13; clear c13
      simp only [Option.some.injEq, Prod.mk.injEq] at H
      obtain ⟨rfl, rfl⟩ := H
      go_wp2
      go_ret2
      exact ⟨_, by first | rfl | (simp [errW_none, errW_some] <;> rfl) | (simp only [← hji6]; first | rfl | (simp [errW_none, errW_some] <;> rfl)) | (simp [*, errW_none, errW_some] <;> rfl), viaR HO_6.out, viaX HB.out GE1016.out⟩
  ·rw [if_neg c5] at H
   exact absurd H (by simp)
 ·replace c4 := Bool.eq_false_iff.mpr c4
  subst c4; have H1 : (some (([] : List Int), false)) = some (r1, r2) := by rw [if_neg (show ¬ (false = true) by decide)] at H; exact H
  clear H; have H := H1; clear H1
  simp only [Option.some.injEq, Prod.mk.injEq] at H
  obtain ⟨rfl, rfl⟩ := H
  go_enter Try.func63, Try.ntmps63
  go_wp2_with (first | ((with_reducible refine gate_dst (N := 2) rfl ?_); refine box_event ?hg (N := 2) ?hd (cs := #[.int .i64 a0_0, .slice A0_1 l0_1.length c0_1]) (t := 30) ?hr ?_; (case hd => rfl); (case hg => rfl); (case hr => first | (go_simp; done) | (go_simp; rfl)); intro gb1016 hg w22 hbox hb; have n0_ := Aside0.mk (below_step (viaW HB.out) hb); have n1_ := Aside0.mk (hbox); have n2_ := Aside0.mk ((by rw [hg]; exact (below_size (viaW HB.out)) : w.heap.size ≤ gb1016)); have n3_ := Aside0.mk ((by rw [hg]; exact (below_size (viaW HB.out)) : w.heap.size ≤ gb1016)); clear HB; have HB := n0_; have BK1016 := n1_; have GW1016 := n2_; have GE1016 := n3_; clear n0_ n1_ n2_ n3_; clear hb hbox hg; have hcz23_0 : w22.cell? ⟨gb1016, 0, none⟩ = some (.int .i64 a0_0) := (blk_cell BK1016.out 0).trans rfl; have hcz23_1 : w22.cell? ⟨gb1016, 1, none⟩ = some (.slice A0_1 l0_1.length c0_1) := (blk_cell BK1016.out 1).trans rfl; have hfz23_0 := blk_frozen BK1016.out 0; have hfz23_1 := blk_frozen BK1016.out 1) | ((with_reducible refine gate_callee (f := 68) rfl ?_); refine goesL_ (some 10) rfl rfl Try.func68 (by kernel_rfl) rfl #[.agg #[.int .i64 a0_0, .slice A0_1 l0_1.length c0_1], .int .i64 a1] rfl (by (try simp only [List.map_toArray, List.map_cons, List.map_nil]); first | done | rfl) ?_; (with_reducible refine (impl_WayIn.calls k a0_0 _ _ l0_1 a1 false _ ?side1 ?side2 A3.out).mono ?_); (case side1 => exact viaC (Kd.C_below HR0_1.out HB.out)); (case side2 => exact HC0_1.out); rintro e w24 ⟨rfl, hb⟩; refine ⟨_, rfl, ?_⟩; have n0_ := Aside0.mk (blk_below (g := gb1016) (o := .cells #[.int .i64 a0_0, .slice A0_1 l0_1.length c0_1] 30 (0, 0)) (viaB BK1016.out) hb); have n1_ := Aside0.mk (below_step (viaX HB.out GE1016.out) hb); clear BK1016; clear HB; have BK1016 := n0_; have HB := n1_; clear n0_ n1_; (try clear hb); (try clear hb2); (try clear hk); (try clear hi)))
  go_ret2
  exact ⟨_, by first | rfl | (simp [errW_none, errW_some] <;> rfl) | (simp [*, errW_none, errW_some] <;> rfl), by first | exact Kd.R_nil _ _ _ _ _ | exact Kd.N_nil _ _ _ _ _ | exact Kd.V_nil _ _ _ _ _ | exact Kd.Q_nil _ _ _ _ _ | exact Kd.S_nil _ _ _ _ _, viaX HB.out GE1016.out⟩
/-! ### laws_FnGame: function 17 -/
mutual
def laws_FnGame.j0 : Nat → Int → List Int → Bool → List Int → Bool → Bool → Int → List (S44) → Option (Bool)
 | 0, _, _, _, _, _, _, _, _ => none
 | k + 1, x4, x5, x6, x7, x8, x47, x1031000, x1031001 => if x47 = true then (if (x6 == x8) = true then ((laws_sameInts.f k x5 x7).bind fun t1040 => (some t1040)) else (some false)) else ((impl_WayOut.f k x1031000 x1031001 x4).bind fun bt1041 => (laws_FnGame.l0 k x4 x5 0 bt1041.1 bt1041.2 0 x1031000 x1031001))
def laws_FnGame.l0 : Nat → Int → List Int → Int → List Int → Bool → Int → Int → List (S44) → Option (Bool)
 | 0, _, _, _, _, _, _, _, _ => none
 | k + 1, x4, x5, x9, x10, x11, x12, x1031000, x1031001 => if x12 < (x5.length : Int) then (if 0 ≤ x12 then (if (rd x5 x12) = 0 then (if x12 < (x10.length : Int) then (if (rd x5 x12) > (rd x10 x12) then (some false) else (if (rd x5 x12) < 0 then (some false) else (laws_FnGame.l0 k x4 x5 (Go.bits .or .i64 x9 (shl .i64 1 x12)) x10 x11 (wrap64 (x12 + 1)) x1031000 x1031001))) else (none)) else (if x12 < (x10.length : Int) then (if (rd x5 x12) > (rd x10 x12) then (some false) else (if (rd x5 x12) < 0 then (some false) else (laws_FnGame.l0 k x4 x5 x9 x10 x11 (wrap64 (x12 + 1)) x1031000 x1031001))) else (none))) else (none)) else ((impl_KernelAll.f k x1031000 x1031001 x4).bind fun bt1045 => (if x11 = true then (if bt1045.2 = true then (if (bt1045.1.length : Int) = 1 then (if 0 < (bt1045.1.length : Int) then (some ((rd bt1045.1 0) == x9)) else (none)) else (some false)) else (some false)) else (some false)))
end
def laws_FnGame.f (k : Nat) (l0 : List Int) : Option (Bool) := if (l0.length : Int) > 1048576 then (some true) else ((spec_DrawKernelGame.f k l0).bind fun bt1025 => ((impl_KernelGame.f k bt1025.1 bt1025.2.1 bt1025.2.2).bind fun bt1031 => ((spec_KernelGame.f k bt1025.1 bt1025.2.1 bt1025.2.2).bind fun bt1035 => (if (bt1031.2 != bt1035.2) = true then (laws_FnGame.j0 k bt1025.2.2 bt1031.1 bt1031.2 bt1035.1 bt1035.2 true bt1025.1 bt1025.2.1) else ((laws_sameInts.f k bt1031.1 bt1035.1).bind fun t1039 => (if t1039 = true then (laws_FnGame.j0 k bt1025.2.2 bt1031.1 bt1031.2 bt1035.1 bt1035.2 (!bt1031.2) bt1025.1 bt1025.2.1) else (laws_FnGame.j0 k bt1025.2.2 bt1031.1 bt1031.2 bt1035.1 bt1035.2 true bt1025.1 bt1025.2.1)))))))
theorem laws_FnGame.mono_l : ∀ k, (∀ y0 y1 y2 y3 y4 y5 y6 y7, LeO (laws_FnGame.j0 k y0 y1 y2 y3 y4 y5 y6 y7) (laws_FnGame.j0 (k + 1) y0 y1 y2 y3 y4 y5 y6 y7)) ∧ (∀ y0 y1 y2 y3 y4 y5 y6 y7, LeO (laws_FnGame.l0 k y0 y1 y2 y3 y4 y5 y6 y7) (laws_FnGame.l0 (k + 1) y0 y1 y2 y3 y4 y5 y6 y7))
 | 0 => ⟨fun _ _ _ _ _ _ _ _ r h => by simp [laws_FnGame.j0] at h, fun _ _ _ _ _ _ _ _ r h => by simp [laws_FnGame.l0] at h⟩
 | k + 1 => by
  obtain ⟨ih0, ih1⟩ := laws_FnGame.mono_l k
  refine ⟨?_, ?_⟩
  ·intro y0 y1 y2 y3 y4 y5 y6 y7
   unfold laws_FnGame.j0
   repeat' first
   | (with_reducible exact ih0 _ _ _ _ _ _ _ _)
   | (with_reducible exact ih1 _ _ _ _ _ _ _ _)
   | (with_reducible exact impl_KernelAll.mono _ _ _ _)
   | (with_reducible exact impl_KernelGame.mono _ _ _ _)
   | (with_reducible exact impl_WayOut.mono _ _ _ _)
   | (with_reducible exact laws_sameInts.mono _ _ _)
   | (with_reducible exact spec_DrawKernelGame.mono _ _)
   | (with_reducible exact spec_KernelGame.mono _ _ _ _)
   | (with_reducible exact LeO.refl _)
   | (with_reducible exact LeO.none _)
   | (with_reducible refine LeO.ite ?_ ?_)
   | (with_reducible refine LeO.bind ?_ (fun _ => ?_))
   | exact ih0 _ _ _ _ _ _ _ _
   | exact ih1 _ _ _ _ _ _ _ _
   | exact impl_KernelAll.mono _ _ _ _
   | exact impl_KernelGame.mono _ _ _ _
   | exact impl_WayOut.mono _ _ _ _
   | exact laws_sameInts.mono _ _ _
   | exact spec_DrawKernelGame.mono _ _
   | exact spec_KernelGame.mono _ _ _ _
   | exact LeO.none _
   | refine LeO.ite ?_ ?_
   | refine LeO.bind ?_ (fun _ => ?_)
  ·intro y0 y1 y2 y3 y4 y5 y6 y7
   unfold laws_FnGame.l0
   repeat' first
   | (with_reducible exact ih0 _ _ _ _ _ _ _ _)
   | (with_reducible exact ih1 _ _ _ _ _ _ _ _)
   | (with_reducible exact impl_KernelAll.mono _ _ _ _)
   | (with_reducible exact impl_KernelGame.mono _ _ _ _)
   | (with_reducible exact impl_WayOut.mono _ _ _ _)
   | (with_reducible exact laws_sameInts.mono _ _ _)
   | (with_reducible exact spec_DrawKernelGame.mono _ _)
   | (with_reducible exact spec_KernelGame.mono _ _ _ _)
   | (with_reducible exact LeO.refl _)
   | (with_reducible exact LeO.none _)
   | (with_reducible refine LeO.ite ?_ ?_)
   | (with_reducible refine LeO.bind ?_ (fun _ => ?_))
   | exact ih0 _ _ _ _ _ _ _ _
   | exact ih1 _ _ _ _ _ _ _ _
   | exact impl_KernelAll.mono _ _ _ _
   | exact impl_KernelGame.mono _ _ _ _
   | exact impl_WayOut.mono _ _ _ _
   | exact laws_sameInts.mono _ _ _
   | exact spec_DrawKernelGame.mono _ _
   | exact spec_KernelGame.mono _ _ _ _
   | exact LeO.none _
   | refine LeO.ite ?_ ?_
   | refine LeO.bind ?_ (fun _ => ?_)
theorem laws_FnGame.mono : ∀ a0 k, LeO (laws_FnGame.f k a0) (laws_FnGame.f (k + 1) a0) := by
 intro a0 k; obtain ⟨ih0, ih1⟩ := laws_FnGame.mono_l k
 unfold laws_FnGame.f
 repeat' first
   | (with_reducible exact ih0 _ _ _ _ _ _ _ _)
   | (with_reducible exact ih1 _ _ _ _ _ _ _ _)
   | (with_reducible exact impl_KernelAll.mono _ _ _ _)
   | (with_reducible exact impl_KernelGame.mono _ _ _ _)
   | (with_reducible exact impl_WayOut.mono _ _ _ _)
   | (with_reducible exact laws_sameInts.mono _ _ _)
   | (with_reducible exact spec_DrawKernelGame.mono _ _)
   | (with_reducible exact spec_KernelGame.mono _ _ _ _)
   | (with_reducible exact LeO.refl _)
   | (with_reducible exact LeO.none _)
   | (with_reducible refine LeO.ite ?_ ?_)
   | (with_reducible refine LeO.bind ?_ (fun _ => ?_))
   | exact ih0 _ _ _ _ _ _ _ _
   | exact ih1 _ _ _ _ _ _ _ _
   | exact impl_KernelAll.mono _ _ _ _
   | exact impl_KernelGame.mono _ _ _ _
   | exact impl_WayOut.mono _ _ _ _
   | exact laws_sameInts.mono _ _ _
   | exact spec_DrawKernelGame.mono _ _
   | exact spec_KernelGame.mono _ _ _ _
   | exact LeO.none _
   | refine LeO.ite ?_ ?_
   | refine LeO.bind ?_ (fun _ => ?_)
set_option maxHeartbeats 8000000 in
set_option maxRecDepth 100000 in
theorem laws_FnGame.calls (k : Nat) (A0 : Option Addr) (c0 : Nat) (l0 : List Int) (r : Bool) (w : World) (hr0 : Kd.C (Kd.int .u8) w A0 l0.length l0) (hc0 : l0.length ≤ c0) (h : laws_FnGame.f k l0 = some r) :
  Calls Try.prog 17 #[.slice A0 l0.length c0] w fun e w' => e = .returned (.bool r) ∧ Below w.heap.size w w' := by
 have hu30 := Try.underlying30; have HR0 := Aside0.mk hr0; have HC0 := Aside0.mk hc0; clear hr0 hc0; have HB := Aside0.mk (Below.refl w.heap.size w); have H : (if (l0.length : Int) > 1048576 then (some true) else ((spec_DrawKernelGame.f k l0).bind fun bt1025 => ((impl_KernelGame.f k bt1025.1 bt1025.2.1 bt1025.2.2).bind fun bt1031 => ((spec_KernelGame.f k bt1025.1 bt1025.2.1 bt1025.2.2).bind fun bt1035 => (if (bt1031.2 != bt1035.2) = true then (laws_FnGame.j0 k bt1025.2.2 bt1031.1 bt1031.2 bt1035.1 bt1035.2 true bt1025.1 bt1025.2.1) else ((laws_sameInts.f k bt1031.1 bt1035.1).bind fun t1039 => (if t1039 = true then (laws_FnGame.j0 k bt1025.2.2 bt1031.1 bt1031.2 bt1035.1 bt1035.2 (!bt1031.2) bt1025.1 bt1025.2.1) else (laws_FnGame.j0 k bt1025.2.2 bt1031.1 bt1031.2 bt1035.1 bt1035.2 true bt1025.1 bt1025.2.1)))))))) = some r := h; clear h
 by_cases c2 : (l0.length : Int) > 1048576
 ·rw [if_pos c2] at H
  have c2b0 : decide (1048576 < (l0.length : Int)) = true := decide_eq_true c2; have c2b1 : decide (1048576 < l0.length) = true := decide_eq_true (by omega); clear c2; obtain rfl := Option.some.inj H
  go_enter Try.func17, Try.ntmps17
  go_wp2
  repeat (go_quiet (fail); try go_wp2)
  go_ret
  exact ⟨by first | rfl | (simp [errW_none, errW_some] <;> rfl) | (simp [*, errW_none, errW_some] <;> rfl), viaW HB.out⟩
 ·rw [if_neg c2] at H
  have c2b0 : decide (1048576 < (l0.length : Int)) = false := decide_eq_false c2; have c2b1 : decide (1048576 < l0.length) = false := decide_eq_false (by omega); clear c2; replace H := Option.bind_eq_some_iff.mp H; obtain ⟨⟨t1025, t1026, t1029⟩, A30, H⟩ := H; replace H : ((impl_KernelGame.f k t1025 t1026 t1029).bind fun bt1031 => ((spec_KernelGame.f k t1025 t1026 t1029).bind fun bt1035 => (if (bt1031.2 != bt1035.2) = true then (laws_FnGame.j0 k t1029 bt1031.1 bt1031.2 bt1035.1 bt1035.2 true t1025 t1026) else ((laws_sameInts.f k bt1031.1 bt1035.1).bind fun t1039 => (if t1039 = true then (laws_FnGame.j0 k t1029 bt1031.1 bt1031.2 bt1035.1 bt1035.2 (!bt1031.2) t1025 t1026) else (laws_FnGame.j0 k t1029 bt1031.1 bt1031.2 bt1035.1 bt1035.2 true t1025 t1026)))))) = some r := H; have A3 := Aside0.mk A30; clear A30; replace H := Option.bind_eq_some_iff.mp H; obtain ⟨⟨t1031, t1034⟩, A40, H⟩ := H; replace H : ((spec_KernelGame.f k t1025 t1026 t1029).bind fun bt1035 => (if (t1034 != bt1035.2) = true then (laws_FnGame.j0 k t1029 t1031 t1034 bt1035.1 bt1035.2 true t1025 t1026) else ((laws_sameInts.f k t1031 bt1035.1).bind fun t1039 => (if t1039 = true then (laws_FnGame.j0 k t1029 t1031 t1034 bt1035.1 bt1035.2 (!t1034) t1025 t1026) else (laws_FnGame.j0 k t1029 t1031 t1034 bt1035.1 bt1035.2 true t1025 t1026))))) = some r := H; have A4 := Aside0.mk A40; clear A40; replace H := Option.bind_eq_some_iff.mp H; obtain ⟨⟨t1035, t1038⟩, A50, H⟩ := H; replace H : (if (t1034 != t1038) = true then (laws_FnGame.j0 k t1029 t1031 t1034 t1035 t1038 true t1025 t1026) else ((laws_sameInts.f k t1031 t1035).bind fun t1039 => (if t1039 = true then (laws_FnGame.j0 k t1029 t1031 t1034 t1035 t1038 (!t1034) t1025 t1026) else (laws_FnGame.j0 k t1029 t1031 t1034 t1035 t1038 true t1025 t1026)))) = some r := H; have A5 := Aside0.mk A50; clear A50; have HC6 := Aside0.mk H; clear H
  go_enter Try.func17, Try.ntmps17
  go_upto_region 6 with (first | (go_at_call 61; (with_reducible refine (spec_DrawKernelGame.calls k _ _ l0 t1025 t1026 t1029 _ ?side1 ?side2 A3.out).mono ?_); (case side1 => exact viaC HR0.out); (case side2 => exact HC0.out); rintro e w7 ⟨v1027, rfl, ho0, hb⟩; have n0_ := Aside0.mk (Kd.R_lower ho0 (below_size (viaW HB.out))); have n1_ := Aside0.mk (below_step (viaW HB.out) hb); clear HB; have HO1028 := n0_; have HB := n1_; clear n0_ n1_; (try clear hb); (try clear hb2); (try clear hk); (try clear hi); (try clear ho0)) | ((with_reducible refine gate_dst (N := 3) rfl ?_); (try (refine gate_guard (by rfl) ?_; dsimp only)); refine box_event ?hg (N := 3) ?hd (cs := #[.int .i64 0, .slice none 0 0]) (t := 30) ?hr ?_; (case hd => rfl); (case hg => rfl); (case hr => first | (go_simp; done) | (go_simp; rfl)); intro gb1030 hg w8 hbox hb; have n0_ := Aside0.mk (Kd.R_below (viaR HO1028.out) hb); have n1_ := Aside0.mk (below_step (viaW HB.out) hb); have n2_ := Aside0.mk (hbox); have n3_ := Aside0.mk ((by rw [hg]; exact (below_size (viaW HB.out)) : w.heap.size ≤ gb1030)); have n4_ := Aside0.mk ((by rw [hg]; exact (below_size (viaW HB.out)) : w.heap.size ≤ gb1030)); clear HO1028; clear HB; have HO1028 := n0_; have HB := n1_; have BK1030 := n2_; have GW1030 := n3_; have GE1030 := n4_; clear n0_ n1_ n2_ n3_ n4_; clear hb hbox hg; have hcz9_0 : w8.cell? ⟨gb1030, 0, none⟩ = some (.int .i64 0) := (blk_cell BK1030.out 0).trans rfl; have hcz9_1 : w8.cell? ⟨gb1030, 1, none⟩ = some (.slice none 0 0) := (blk_cell BK1030.out 1).trans rfl; have hfz9_0 := blk_frozen BK1030.out 0; have hfz9_1 := blk_frozen BK1030.out 1; obtain ⟨Ao10, co10, eo10⟩ := Kd.R_slice HO1028.out; subst eo10) | (go_at_call 42; (with_reducible refine (impl_KernelGame.calls k t1025 _ _ t1026 t1029 t1031 t1034 _ ?side1 ?side2 A4.out).mono ?_); (case side1 => refine (Kd.R_reads' (e := 44) (base := w.heap.size) (ok := fun k_ => True) (n := t1026.length) (c := co10) ?_).2.2; exact (by (with_reducible repeat (first | apply Kd.R_alloc | apply Kd.R_drewN | apply Kd.R_drew)); exact (Kd.R_mono (Kd.R_far (p := ⟨gb1030, 1, none⟩) (Kd.R_far (p := ⟨gb1030, 0, none⟩) (Kd.R_types HO1028.out BK1030.out (by decide)) (fun _ hk => hk.2) (.int .i64 t1025)) (fun _ hk => hk.2) (.slice Ao10 t1026.length co10)) (fun _ h_ => h_.1)))); (case side2 => exact (Kd.R_reads' HO1028.out).2.1); rintro e w11 ⟨v1032, rfl, ho0, hb⟩; have n0_ := Aside0.mk (Kd.R_below (by (with_reducible repeat (first | apply Kd.R_alloc | apply Kd.R_drewN | apply Kd.R_drew)); exact (Kd.R_mono (Kd.R_far (p := ⟨gb1030, 1, none⟩) (Kd.R_far (p := ⟨gb1030, 0, none⟩) (Kd.R_types HO1028.out BK1030.out (by decide)) (fun _ hk => hk.2) (.int .i64 t1025)) (fun _ hk => hk.2) (.slice Ao10 t1026.length co10)) (fun _ h_ => h_.1))) hb); have n1_ := Aside0.mk (Kd.R_lower ho0 (below_size (viaX HB.out GE1030.out))); have n2_ := Aside0.mk (blk_below (g := gb1030) (o := .cells #[.int .i64 t1025, .slice Ao10 t1026.length co10] 30 (0, 0)) (by (with_reducible repeat (first | refine blk_drewN ?_ _ | refine blk_drew ?_ | refine blk_alloc ?_ _)); refine blk_put (cs := #[.int .i64 t1025, .slice none 0 0]) ?_ 1 _ rfl; (with_reducible repeat (first | refine blk_drewN ?_ _ | refine blk_drew ?_ | refine blk_alloc ?_ _)); refine blk_put (cs := #[.int .i64 0, .slice none 0 0]) ?_ 0 _ rfl; (with_reducible repeat (first | refine blk_drewN ?_ _ | refine blk_drew ?_ | refine blk_alloc ?_ _)); exact BK1030.out) hb); have n3_ := Aside0.mk (below_step (viaX HB.out GE1030.out) hb); clear HO1028; clear BK1030; clear HB; have HO1028 := n0_; have HO1033 := n1_; have BK1030 := n2_; have HB := n3_; clear n0_ n1_ n2_ n3_; (try clear hb); (try clear hb2); (try clear hk); (try clear hi); (try clear ho0); have hcz12_0 : w11.cell? ⟨gb1030, 0, none⟩ = some (.int .i64 t1025) := (blk_cell BK1030.out 0).trans rfl; have hcz12_1 : w11.cell? ⟨gb1030, 1, none⟩ = some (.slice Ao10 t1026.length co10) := (blk_cell BK1030.out 1).trans rfl; have hfz12_0 := blk_frozen BK1030.out 0; have hfz12_1 := blk_frozen BK1030.out 1) | (go_at_call 41; (with_reducible refine (spec_KernelGame.calls k t1025 _ _ t1026 t1029 t1035 t1038 _ ?side1 ?side2 A5.out).mono ?_); (case side1 => exact viaC (Kd.R_reads' HO1028.out).2.2); (case side2 => exact (Kd.R_reads' HO1028.out).2.1); rintro e w13 ⟨v1036, rfl, ho0, hb⟩; have n0_ := Aside0.mk (Kd.R_below (viaR HO1028.out) hb); have n1_ := Aside0.mk (Kd.R_elder' (viaR HO1033.out) (Kd.R_base ho0) hb); have n2_ := Aside0.mk (Kd.R_lower (Kd.R_new' ho0 (Kd.R_lt (viaR HO1033.out))) (below_size (viaX HB.out GE1030.out))); have n3_ := Aside0.mk (blk_below (g := gb1030) (o := .cells #[.int .i64 t1025, .slice Ao10 t1026.length co10] 30 (0, 0)) (viaB BK1030.out) hb); have n4_ := Aside0.mk (below_step (viaX HB.out GE1030.out) hb); clear HO1028; clear HO1033; clear BK1030; clear HB; have HO1028 := n0_; have HO1033 := n1_; have HO1037 := n2_; have BK1030 := n3_; have HB := n4_; clear n0_ n1_ n2_ n3_ n4_; (try clear hb); (try clear hb2); (try clear hk); (try clear hi); (try clear ho0)))
  repeat (go_quiet (first | (go_at_call 61; (with_reducible refine (spec_DrawKernelGame.calls k _ _ l0 t1025 t1026 t1029 _ ?side1 ?side2 A3.out).mono ?_); (case side1 => exact viaC HR0.out); (case side2 => exact HC0.out); rintro e w7 ⟨v1027, rfl, ho0, hb⟩; have n0_ := Aside0.mk (Kd.R_lower ho0 (below_size (viaW HB.out))); have n1_ := Aside0.mk (below_step (viaW HB.out) hb); clear HB; have HO1028 := n0_; have HB := n1_; clear n0_ n1_; (try clear hb); (try clear hb2); (try clear hk); (try clear hi); (try clear ho0)) | ((with_reducible refine gate_dst (N := 3) rfl ?_); (try (refine gate_guard (by rfl) ?_; dsimp only)); refine box_event ?hg (N := 3) ?hd (cs := #[.int .i64 0, .slice none 0 0]) (t := 30) ?hr ?_; (case hd => rfl); (case hg => rfl); (case hr => first | (go_simp; done) | (go_simp; rfl)); intro gb1030 hg w8 hbox hb; have n0_ := Aside0.mk (Kd.R_below (viaR HO1028.out) hb); have n1_ := Aside0.mk (below_step (viaW HB.out) hb); have n2_ := Aside0.mk (hbox); have n3_ := Aside0.mk ((by rw [hg]; exact (below_size (viaW HB.out)) : w.heap.size ≤ gb1030)); have n4_ := Aside0.mk ((by rw [hg]; exact (below_size (viaW HB.out)) : w.heap.size ≤ gb1030)); clear HO1028; clear HB; have HO1028 := n0_; have HB := n1_; have BK1030 := n2_; have GW1030 := n3_; have GE1030 := n4_; clear n0_ n1_ n2_ n3_ n4_; clear hb hbox hg; have hcz9_0 : w8.cell? ⟨gb1030, 0, none⟩ = some (.int .i64 0) := (blk_cell BK1030.out 0).trans rfl; have hcz9_1 : w8.cell? ⟨gb1030, 1, none⟩ = some (.slice none 0 0) := (blk_cell BK1030.out 1).trans rfl; have hfz9_0 := blk_frozen BK1030.out 0; have hfz9_1 := blk_frozen BK1030.out 1; obtain ⟨Ao10, co10, eo10⟩ := Kd.R_slice HO1028.out; subst eo10) | (go_at_call 42; (with_reducible refine (impl_KernelGame.calls k t1025 _ _ t1026 t1029 t1031 t1034 _ ?side1 ?side2 A4.out).mono ?_); (case side1 => refine (Kd.R_reads' (e := 44) (base := w.heap.size) (ok := fun k_ => True) (n := t1026.length) (c := co10) ?_).2.2; exact (by (with_reducible repeat (first | apply Kd.R_alloc | apply Kd.R_drewN | apply Kd.R_drew)); exact (Kd.R_mono (Kd.R_far (p := ⟨gb1030, 1, none⟩) (Kd.R_far (p := ⟨gb1030, 0, none⟩) (Kd.R_types HO1028.out BK1030.out (by decide)) (fun _ hk => hk.2) (.int .i64 t1025)) (fun _ hk => hk.2) (.slice Ao10 t1026.length co10)) (fun _ h_ => h_.1)))); (case side2 => exact (Kd.R_reads' HO1028.out).2.1); rintro e w11 ⟨v1032, rfl, ho0, hb⟩; have n0_ := Aside0.mk (Kd.R_below (by (with_reducible repeat (first | apply Kd.R_alloc | apply Kd.R_drewN | apply Kd.R_drew)); exact (Kd.R_mono (Kd.R_far (p := ⟨gb1030, 1, none⟩) (Kd.R_far (p := ⟨gb1030, 0, none⟩) (Kd.R_types HO1028.out BK1030.out (by decide)) (fun _ hk => hk.2) (.int .i64 t1025)) (fun _ hk => hk.2) (.slice Ao10 t1026.length co10)) (fun _ h_ => h_.1))) hb); have n1_ := Aside0.mk (Kd.R_lower ho0 (below_size (viaX HB.out GE1030.out))); have n2_ := Aside0.mk (blk_below (g := gb1030) (o := .cells #[.int .i64 t1025, .slice Ao10 t1026.length co10] 30 (0, 0)) (by (with_reducible repeat (first | refine blk_drewN ?_ _ | refine blk_drew ?_ | refine blk_alloc ?_ _)); refine blk_put (cs := #[.int .i64 t1025, .slice none 0 0]) ?_ 1 _ rfl; (with_reducible repeat (first | refine blk_drewN ?_ _ | refine blk_drew ?_ | refine blk_alloc ?_ _)); refine blk_put (cs := #[.int .i64 0, .slice none 0 0]) ?_ 0 _ rfl; (with_reducible repeat (first | refine blk_drewN ?_ _ | refine blk_drew ?_ | refine blk_alloc ?_ _)); exact BK1030.out) hb); have n3_ := Aside0.mk (below_step (viaX HB.out GE1030.out) hb); clear HO1028; clear BK1030; clear HB; have HO1028 := n0_; have HO1033 := n1_; have BK1030 := n2_; have HB := n3_; clear n0_ n1_ n2_ n3_; (try clear hb); (try clear hb2); (try clear hk); (try clear hi); (try clear ho0); have hcz12_0 : w11.cell? ⟨gb1030, 0, none⟩ = some (.int .i64 t1025) := (blk_cell BK1030.out 0).trans rfl; have hcz12_1 : w11.cell? ⟨gb1030, 1, none⟩ = some (.slice Ao10 t1026.length co10) := (blk_cell BK1030.out 1).trans rfl; have hfz12_0 := blk_frozen BK1030.out 0; have hfz12_1 := blk_frozen BK1030.out 1) | (go_at_call 41; (with_reducible refine (spec_KernelGame.calls k t1025 _ _ t1026 t1029 t1035 t1038 _ ?side1 ?side2 A5.out).mono ?_); (case side1 => exact viaC (Kd.R_reads' HO1028.out).2.2); (case side2 => exact (Kd.R_reads' HO1028.out).2.1); rintro e w13 ⟨v1036, rfl, ho0, hb⟩; have n0_ := Aside0.mk (Kd.R_below (viaR HO1028.out) hb); have n1_ := Aside0.mk (Kd.R_elder' (viaR HO1033.out) (Kd.R_base ho0) hb); have n2_ := Aside0.mk (Kd.R_lower (Kd.R_new' ho0 (Kd.R_lt (viaR HO1033.out))) (below_size (viaX HB.out GE1030.out))); have n3_ := Aside0.mk (blk_below (g := gb1030) (o := .cells #[.int .i64 t1025, .slice Ao10 t1026.length co10] 30 (0, 0)) (viaB BK1030.out) hb); have n4_ := Aside0.mk (below_step (viaX HB.out GE1030.out) hb); clear HO1028; clear HO1033; clear BK1030; clear HB; have HO1028 := n0_; have HO1033 := n1_; have HO1037 := n2_; have BK1030 := n3_; have HB := n4_; clear n0_ n1_ n2_ n3_ n4_; (try clear hb); (try clear hb2); (try clear hk); (try clear hi); (try clear ho0))); go_upto_region 6 with (first | (go_at_call 61; (with_reducible refine (spec_DrawKernelGame.calls k _ _ l0 t1025 t1026 t1029 _ ?side1 ?side2 A3.out).mono ?_); (case side1 => exact viaC HR0.out); (case side2 => exact HC0.out); rintro e w7 ⟨v1027, rfl, ho0, hb⟩; have n0_ := Aside0.mk (Kd.R_lower ho0 (below_size (viaW HB.out))); have n1_ := Aside0.mk (below_step (viaW HB.out) hb); clear HB; have HO1028 := n0_; have HB := n1_; clear n0_ n1_; (try clear hb); (try clear hb2); (try clear hk); (try clear hi); (try clear ho0)) | ((with_reducible refine gate_dst (N := 3) rfl ?_); (try (refine gate_guard (by rfl) ?_; dsimp only)); refine box_event ?hg (N := 3) ?hd (cs := #[.int .i64 0, .slice none 0 0]) (t := 30) ?hr ?_; (case hd => rfl); (case hg => rfl); (case hr => first | (go_simp; done) | (go_simp; rfl)); intro gb1030 hg w8 hbox hb; have n0_ := Aside0.mk (Kd.R_below (viaR HO1028.out) hb); have n1_ := Aside0.mk (below_step (viaW HB.out) hb); have n2_ := Aside0.mk (hbox); have n3_ := Aside0.mk ((by rw [hg]; exact (below_size (viaW HB.out)) : w.heap.size ≤ gb1030)); have n4_ := Aside0.mk ((by rw [hg]; exact (below_size (viaW HB.out)) : w.heap.size ≤ gb1030)); clear HO1028; clear HB; have HO1028 := n0_; have HB := n1_; have BK1030 := n2_; have GW1030 := n3_; have GE1030 := n4_; clear n0_ n1_ n2_ n3_ n4_; clear hb hbox hg; have hcz9_0 : w8.cell? ⟨gb1030, 0, none⟩ = some (.int .i64 0) := (blk_cell BK1030.out 0).trans rfl; have hcz9_1 : w8.cell? ⟨gb1030, 1, none⟩ = some (.slice none 0 0) := (blk_cell BK1030.out 1).trans rfl; have hfz9_0 := blk_frozen BK1030.out 0; have hfz9_1 := blk_frozen BK1030.out 1; obtain ⟨Ao10, co10, eo10⟩ := Kd.R_slice HO1028.out; subst eo10) | (go_at_call 42; (with_reducible refine (impl_KernelGame.calls k t1025 _ _ t1026 t1029 t1031 t1034 _ ?side1 ?side2 A4.out).mono ?_); (case side1 => refine (Kd.R_reads' (e := 44) (base := w.heap.size) (ok := fun k_ => True) (n := t1026.length) (c := co10) ?_).2.2; exact (by (with_reducible repeat (first | apply Kd.R_alloc | apply Kd.R_drewN | apply Kd.R_drew)); exact (Kd.R_mono (Kd.R_far (p := ⟨gb1030, 1, none⟩) (Kd.R_far (p := ⟨gb1030, 0, none⟩) (Kd.R_types HO1028.out BK1030.out (by decide)) (fun _ hk => hk.2) (.int .i64 t1025)) (fun _ hk => hk.2) (.slice Ao10 t1026.length co10)) (fun _ h_ => h_.1)))); (case side2 => exact (Kd.R_reads' HO1028.out).2.1); rintro e w11 ⟨v1032, rfl, ho0, hb⟩; have n0_ := Aside0.mk (Kd.R_below (by (with_reducible repeat (first | apply Kd.R_alloc | apply Kd.R_drewN | apply Kd.R_drew)); exact (Kd.R_mono (Kd.R_far (p := ⟨gb1030, 1, none⟩) (Kd.R_far (p := ⟨gb1030, 0, none⟩) (Kd.R_types HO1028.out BK1030.out (by decide)) (fun _ hk => hk.2) (.int .i64 t1025)) (fun _ hk => hk.2) (.slice Ao10 t1026.length co10)) (fun _ h_ => h_.1))) hb); have n1_ := Aside0.mk (Kd.R_lower ho0 (below_size (viaX HB.out GE1030.out))); have n2_ := Aside0.mk (blk_below (g := gb1030) (o := .cells #[.int .i64 t1025, .slice Ao10 t1026.length co10] 30 (0, 0)) (by (with_reducible repeat (first | refine blk_drewN ?_ _ | refine blk_drew ?_ | refine blk_alloc ?_ _)); refine blk_put (cs := #[.int .i64 t1025, .slice none 0 0]) ?_ 1 _ rfl; (with_reducible repeat (first | refine blk_drewN ?_ _ | refine blk_drew ?_ | refine blk_alloc ?_ _)); refine blk_put (cs := #[.int .i64 0, .slice none 0 0]) ?_ 0 _ rfl; (with_reducible repeat (first | refine blk_drewN ?_ _ | refine blk_drew ?_ | refine blk_alloc ?_ _)); exact BK1030.out) hb); have n3_ := Aside0.mk (below_step (viaX HB.out GE1030.out) hb); clear HO1028; clear BK1030; clear HB; have HO1028 := n0_; have HO1033 := n1_; have BK1030 := n2_; have HB := n3_; clear n0_ n1_ n2_ n3_; (try clear hb); (try clear hb2); (try clear hk); (try clear hi); (try clear ho0); have hcz12_0 : w11.cell? ⟨gb1030, 0, none⟩ = some (.int .i64 t1025) := (blk_cell BK1030.out 0).trans rfl; have hcz12_1 : w11.cell? ⟨gb1030, 1, none⟩ = some (.slice Ao10 t1026.length co10) := (blk_cell BK1030.out 1).trans rfl; have hfz12_0 := blk_frozen BK1030.out 0; have hfz12_1 := blk_frozen BK1030.out 1) | (go_at_call 41; (with_reducible refine (spec_KernelGame.calls k t1025 _ _ t1026 t1029 t1035 t1038 _ ?side1 ?side2 A5.out).mono ?_); (case side1 => exact viaC (Kd.R_reads' HO1028.out).2.2); (case side2 => exact (Kd.R_reads' HO1028.out).2.1); rintro e w13 ⟨v1036, rfl, ho0, hb⟩; have n0_ := Aside0.mk (Kd.R_below (viaR HO1028.out) hb); have n1_ := Aside0.mk (Kd.R_elder' (viaR HO1033.out) (Kd.R_base ho0) hb); have n2_ := Aside0.mk (Kd.R_lower (Kd.R_new' ho0 (Kd.R_lt (viaR HO1033.out))) (below_size (viaX HB.out GE1030.out))); have n3_ := Aside0.mk (blk_below (g := gb1030) (o := .cells #[.int .i64 t1025, .slice Ao10 t1026.length co10] 30 (0, 0)) (viaB BK1030.out) hb); have n4_ := Aside0.mk (below_step (viaX HB.out GE1030.out) hb); clear HO1028; clear HO1033; clear BK1030; clear HB; have HO1028 := n0_; have HO1033 := n1_; have HO1037 := n2_; have BK1030 := n3_; have HB := n4_; clear n0_ n1_ n2_ n3_ n4_; (try clear hb); (try clear hb2); (try clear hk); (try clear hi); (try clear ho0))))
  (try simp only [Act.put, List.setIfInBounds_toArray, List.set_cons_zero, List.set_cons_succ])
  go_cut [47] (fun v47 wc => ∃ (kq : Nat) (x47_5 : Bool), v47 = .bool x47_5 ∧ Aside0 (laws_FnGame.j0 kq t1029 t1031 t1034 t1035 t1038 x47_5 t1025 t1026 = some r) ∧ Aside0 (kq ≤ k) ∧ Aside0 (Kd.R (Kd.int .i64) 3 wc w.heap.size (fun k_ => some k_ ≠ (v1036 : Value).ownBlock) v1032 t1031) ∧ Aside0 (Kd.R (Kd.int .i64) 3 wc w.heap.size (fun k_ => some k_ ≠ (v1032 : Value).ownBlock) v1036 t1035) ∧ Aside0 (Kd.R k44 44 wc w.heap.size (fun _ => True) (.slice Ao10 t1026.length co10) t1026) ∧ Aside0 (wc.heap[gb1030]? = some (.cells #[.int .i64 t1025, (.slice Ao10 t1026.length co10)] 30 (0, 0))) ∧ Aside0 (Below w.heap.size w wc))
  case first =>
   have H := HC6.out; clear HC6
   by_cases c14 : (t1034 != t1038) = true
   ·rw [if_pos c14] at H
    have c14b0 : (t1034 != t1038) = true := c14
    (try (have c14b1 : decide (t1034 = t1038) = false := by simpa using c14))
    (try (have c14b2 : (t1034 == t1038) = false := by simpa using c14))
    (try (have c14b3 : ¬ (t1034 = t1038) := by simpa using c14))
    clear c14
    (first | rw [c14b0] | (simp only [i64_w, i32_w]; rw [c14b0]) | skip)
    have H' := Aside0.mk H; clear H
    go_wp2
    repeat (go_quiet (fail); try go_wp2)
    go_meet
    case rel => exact ⟨_, (true), (by first | rfl | (simp; done) | (simp [*]; done)), H', ⟨by first | omega | exact Nat.le_refl _⟩, ⟨by (with_reducible repeat (first | apply Kd.R_alloc | apply Kd.R_drewN | apply Kd.R_drew)); exact Kd.R_mono HO1033.out (fun _ hk => hk.2)⟩, ⟨by (with_reducible repeat (first | apply Kd.R_alloc | apply Kd.R_drewN | apply Kd.R_drew)); exact Kd.R_mono HO1037.out (fun _ hk => hk.2)⟩, ⟨viaR HO1028.out⟩, ⟨viaB BK1030.out⟩, ⟨viaX HB.out GE1030.out⟩⟩
   ·rw [if_neg c14] at H
    have c14b0 : (t1034 != t1038) = false := by simpa using c14
    (try (have c14b1 : decide (t1034 = t1038) = true := by simpa using c14))
    (try (have c14b2 : (t1034 == t1038) = true := by simpa using c14))
    clear c14
    (first | rw [c14b0] | (simp only [i64_w, i32_w]; rw [c14b0]) | skip)
    replace H := Option.bind_eq_some_iff.mp H; obtain ⟨t1039, A150, H⟩ := H; replace H : (if t1039 = true then (laws_FnGame.j0 k t1029 t1031 t1034 t1035 t1038 (!t1034) t1025 t1026) else (laws_FnGame.j0 k t1029 t1031 t1034 t1035 t1038 true t1025 t1026)) = some r := H; have A15 := Aside0.mk A150; clear A150
    by_cases c16 : t1039 = true
    ·subst c16
     have H1 : (laws_FnGame.j0 k t1029 t1031 t1034 t1035 t1038 (!t1034) t1025 t1026) = some r := by rw [if_pos rfl] at H; exact H
     clear H; have H := H1; clear H1; have H' := Aside0.mk H; clear H; obtain ⟨Ao17, co17, eo17⟩ := Kd.R_slice HO1033.out; subst eo17; obtain ⟨Ao18, co18, eo18⟩ := Kd.R_slice HO1037.out; subst eo18
     go_wp2_with (first | (go_at_call 30; (with_reducible refine (laws_sameInts.calls k _ _ t1031 _ _ t1035 true _ ?side1 ?side2 ?side3 ?side4 A15.out).mono ?_); (case side1 => exact viaC (Kd.R_reads' HO1033.out).2.2); (case side2 => exact (Kd.R_reads' HO1033.out).2.1); (case side3 => exact viaC (Kd.R_reads' HO1037.out).2.2); (case side4 => exact (Kd.R_reads' HO1037.out).2.1); rintro e w' ⟨rfl, ⟨nd, rfl⟩⟩; (try first | exact ⟨rfl, _, World.drewN_drewN _ _ _⟩ | exact ⟨rfl, _, Eq.trans (World.drewN_drewN _ _ _) (congrArg (World.drewN _) (Nat.add_assoc _ _ _))⟩)))
     repeat (go_quiet (first | (go_at_call 30; (with_reducible refine (laws_sameInts.calls k _ _ t1031 _ _ t1035 true _ ?side1 ?side2 ?side3 ?side4 A15.out).mono ?_); (case side1 => exact viaC (Kd.R_reads' HO1033.out).2.2); (case side2 => exact (Kd.R_reads' HO1033.out).2.1); (case side3 => exact viaC (Kd.R_reads' HO1037.out).2.2); (case side4 => exact (Kd.R_reads' HO1037.out).2.1); rintro e w' ⟨rfl, ⟨nd, rfl⟩⟩; (try first | exact ⟨rfl, _, World.drewN_drewN _ _ _⟩ | exact ⟨rfl, _, Eq.trans (World.drewN_drewN _ _ _) (congrArg (World.drewN _) (Nat.add_assoc _ _ _))⟩))); try go_wp2_with (first | (go_at_call 30; (with_reducible refine (laws_sameInts.calls k _ _ t1031 _ _ t1035 true _ ?side1 ?side2 ?side3 ?side4 A15.out).mono ?_); (case side1 => exact viaC (Kd.R_reads' HO1033.out).2.2); (case side2 => exact (Kd.R_reads' HO1033.out).2.1); (case side3 => exact viaC (Kd.R_reads' HO1037.out).2.2); (case side4 => exact (Kd.R_reads' HO1037.out).2.1); rintro e w' ⟨rfl, ⟨nd, rfl⟩⟩; (try first | exact ⟨rfl, _, World.drewN_drewN _ _ _⟩ | exact ⟨rfl, _, Eq.trans (World.drewN_drewN _ _ _) (congrArg (World.drewN _) (Nat.add_assoc _ _ _))⟩))))
     go_meet
     case rel => exact ⟨_, (!t1034), (by first | rfl | (simp; done) | (simp [*]; done)), H', ⟨by first | omega | exact Nat.le_refl _⟩, ⟨by (with_reducible repeat (first | apply Kd.R_alloc | apply Kd.R_drewN | apply Kd.R_drew)); exact Kd.R_mono HO1033.out (fun _ hk => hk.2)⟩, ⟨by (with_reducible repeat (first | apply Kd.R_alloc | apply Kd.R_drewN | apply Kd.R_drew)); exact Kd.R_mono HO1037.out (fun _ hk => hk.2)⟩, ⟨viaR HO1028.out⟩, ⟨viaB BK1030.out⟩, ⟨viaX HB.out GE1030.out⟩⟩
    ·replace c16 := Bool.eq_false_iff.mpr c16
     subst c16; have H1 : (laws_FnGame.j0 k t1029 t1031 t1034 t1035 t1038 true t1025 t1026) = some r := by rw [if_neg (show ¬ (false = true) by decide)] at H; exact H
     clear H; have H := H1; clear H1; have H' := Aside0.mk H; clear H; obtain ⟨Ao19, co19, eo19⟩ := Kd.R_slice HO1033.out; subst eo19; obtain ⟨Ao20, co20, eo20⟩ := Kd.R_slice HO1037.out; subst eo20
     go_wp2_with (first | (go_at_call 30; (with_reducible refine (laws_sameInts.calls k _ _ t1031 _ _ t1035 false _ ?side1 ?side2 ?side3 ?side4 A15.out).mono ?_); (case side1 => exact viaC (Kd.R_reads' HO1033.out).2.2); (case side2 => exact (Kd.R_reads' HO1033.out).2.1); (case side3 => exact viaC (Kd.R_reads' HO1037.out).2.2); (case side4 => exact (Kd.R_reads' HO1037.out).2.1); rintro e w' ⟨rfl, ⟨nd, rfl⟩⟩; (try first | exact ⟨rfl, _, World.drewN_drewN _ _ _⟩ | exact ⟨rfl, _, Eq.trans (World.drewN_drewN _ _ _) (congrArg (World.drewN _) (Nat.add_assoc _ _ _))⟩)))
     repeat (go_quiet (first | (go_at_call 30; (with_reducible refine (laws_sameInts.calls k _ _ t1031 _ _ t1035 false _ ?side1 ?side2 ?side3 ?side4 A15.out).mono ?_); (case side1 => exact viaC (Kd.R_reads' HO1033.out).2.2); (case side2 => exact (Kd.R_reads' HO1033.out).2.1); (case side3 => exact viaC (Kd.R_reads' HO1037.out).2.2); (case side4 => exact (Kd.R_reads' HO1037.out).2.1); rintro e w' ⟨rfl, ⟨nd, rfl⟩⟩; (try first | exact ⟨rfl, _, World.drewN_drewN _ _ _⟩ | exact ⟨rfl, _, Eq.trans (World.drewN_drewN _ _ _) (congrArg (World.drewN _) (Nat.add_assoc _ _ _))⟩))); try go_wp2_with (first | (go_at_call 30; (with_reducible refine (laws_sameInts.calls k _ _ t1031 _ _ t1035 false _ ?side1 ?side2 ?side3 ?side4 A15.out).mono ?_); (case side1 => exact viaC (Kd.R_reads' HO1033.out).2.2); (case side2 => exact (Kd.R_reads' HO1033.out).2.1); (case side3 => exact viaC (Kd.R_reads' HO1037.out).2.2); (case side4 => exact (Kd.R_reads' HO1037.out).2.1); rintro e w' ⟨rfl, ⟨nd, rfl⟩⟩; (try first | exact ⟨rfl, _, World.drewN_drewN _ _ _⟩ | exact ⟨rfl, _, Eq.trans (World.drewN_drewN _ _ _) (congrArg (World.drewN _) (Nat.add_assoc _ _ _))⟩))))
     go_meet
     case rel => exact ⟨_, (true), (by first | rfl | (simp; done) | (simp [*]; done)), H', ⟨by first | omega | exact Nat.le_refl _⟩, ⟨by (with_reducible repeat (first | apply Kd.R_alloc | apply Kd.R_drewN | apply Kd.R_drew)); exact Kd.R_mono HO1033.out (fun _ hk => hk.2)⟩, ⟨by (with_reducible repeat (first | apply Kd.R_alloc | apply Kd.R_drewN | apply Kd.R_drew)); exact Kd.R_mono HO1037.out (fun _ hk => hk.2)⟩, ⟨viaR HO1028.out⟩, ⟨viaB BK1030.out⟩, ⟨viaX HB.out GE1030.out⟩⟩
  case rest =>
   clear HC6
   try clear c1
   try clear c2
   try clear c2b0
   try clear c2b1
   try clear p2
   try clear c14
   try clear c14b0
   try clear c14b1
   try clear c14b2
   try clear c16
   try clear c17
   try clear hcz12_0
   try clear hcz12_1
   try clear hcz9_0
   try clear hcz9_1
   try clear hfz12_0
   try clear hfz12_1
   try clear hfz9_0
   try clear hfz9_1
   obtain ⟨kq, x47_5, rfl, HA, HJ5, HO_5, HO_7, HO_1031001, BK1030, HB⟩ := hcut
   cases kq with
   | zero => exact absurd HA.out (by simp [laws_FnGame.j0])
   | succ kj5 =>
    have H := HA.out; clear HA
    simp only [laws_FnGame.j0] at H
    by_cases c21 : x47_5 = true
    ·subst c21
     have H1 : (if (t1034 == t1038) = true then ((laws_sameInts.f kj5 t1031 t1035).bind fun t1040 => (some t1040)) else (some false)) = some r := by rw [if_pos rfl] at H; exact H
     clear H; have H := H1; clear H1
     by_cases c22 : (t1034 == t1038) = true
     ·rw [if_pos c22] at H
      have c22b0 : (t1034 == t1038) = true := c22
      (try (have c22b1 : decide (t1034 = t1038) = true := by simpa using c22))
      (try (have c22b2 : (t1034 == t1038) = true := by simpa using c22))
      clear c22; replace H := Option.bind_eq_some_iff.mp H; obtain ⟨t1040, A230, H⟩ := H; replace H : (some t1040) = some r := H; have A23 := Aside0.mk A230; clear A230; obtain rfl := Option.some.inj H; obtain ⟨Ao24, co24, eo24⟩ := Kd.R_slice HO_5.out; subst eo24; obtain ⟨Ao25, co25, eo25⟩ := Kd.R_slice HO_7.out; subst eo25
      go_wp2_with (first | (go_at_call 30; (with_reducible refine (laws_sameInts.calls kj5 _ _ t1031 _ _ t1035 t1040 _ ?side1 ?side2 ?side3 ?side4 A23.out).mono ?_); (case side1 => exact viaC (Kd.R_reads' HO_5.out).2.2); (case side2 => exact (Kd.R_reads' HO_5.out).2.1); (case side3 => exact viaC (Kd.R_reads' HO_7.out).2.2); (case side4 => exact (Kd.R_reads' HO_7.out).2.1); rintro e w' ⟨rfl, ⟨nd, rfl⟩⟩; (try first | exact ⟨rfl, _, World.drewN_drewN _ _ _⟩ | exact ⟨rfl, _, Eq.trans (World.drewN_drewN _ _ _) (congrArg (World.drewN _) (Nat.add_assoc _ _ _))⟩)))
      repeat (go_quiet (first | (go_at_call 30; (with_reducible refine (laws_sameInts.calls kj5 _ _ t1031 _ _ t1035 t1040 _ ?side1 ?side2 ?side3 ?side4 A23.out).mono ?_); (case side1 => exact viaC (Kd.R_reads' HO_5.out).2.2); (case side2 => exact (Kd.R_reads' HO_5.out).2.1); (case side3 => exact viaC (Kd.R_reads' HO_7.out).2.2); (case side4 => exact (Kd.R_reads' HO_7.out).2.1); rintro e w' ⟨rfl, ⟨nd, rfl⟩⟩; (try first | exact ⟨rfl, _, World.drewN_drewN _ _ _⟩ | exact ⟨rfl, _, Eq.trans (World.drewN_drewN _ _ _) (congrArg (World.drewN _) (Nat.add_assoc _ _ _))⟩))); try go_wp2_with (first | (go_at_call 30; (with_reducible refine (laws_sameInts.calls kj5 _ _ t1031 _ _ t1035 t1040 _ ?side1 ?side2 ?side3 ?side4 A23.out).mono ?_); (case side1 => exact viaC (Kd.R_reads' HO_5.out).2.2); (case side2 => exact (Kd.R_reads' HO_5.out).2.1); (case side3 => exact viaC (Kd.R_reads' HO_7.out).2.2); (case side4 => exact (Kd.R_reads' HO_7.out).2.1); rintro e w' ⟨rfl, ⟨nd, rfl⟩⟩; (try first | exact ⟨rfl, _, World.drewN_drewN _ _ _⟩ | exact ⟨rfl, _, Eq.trans (World.drewN_drewN _ _ _) (congrArg (World.drewN _) (Nat.add_assoc _ _ _))⟩))))
      go_ret
      exact ⟨by first | rfl | (simp [errW_none, errW_some] <;> rfl) | (simp [*, errW_none, errW_some] <;> rfl), viaX HB.out GE1030.out⟩
     ·rw [if_neg c22] at H
      have c22b0 : (t1034 == t1038) = false := by simpa using c22
      (try (have c22b1 : decide (t1034 = t1038) = false := by simpa using c22))
      (try (have c22b2 : (t1034 == t1038) = false := by simpa using c22))
      (try (have c22b3 : ¬ (t1034 = t1038) := by simpa using c22))
      clear c22; obtain rfl := Option.some.inj H
      go_wp2
      repeat (go_quiet (fail); try go_wp2)
      go_ret
      exact ⟨by first | rfl | (simp [errW_none, errW_some] <;> rfl) | (simp [*, errW_none, errW_some] <;> rfl), viaX HB.out GE1030.out⟩
    ·replace c21 := Bool.eq_false_iff.mpr c21
     subst c21; have H1 : ((impl_WayOut.f kj5 t1025 t1026 t1029).bind fun bt1041 => (laws_FnGame.l0 kj5 t1029 t1031 0 bt1041.1 bt1041.2 0 t1025 t1026)) = some r := by rw [if_neg (show ¬ (false = true) by decide)] at H; exact H
     clear H; have H := H1; clear H1; replace H := Option.bind_eq_some_iff.mp H; obtain ⟨⟨t1041, t1044⟩, A260, H⟩ := H; replace H : (laws_FnGame.l0 kj5 t1029 t1031 0 t1041 t1044 0 t1025 t1026) = some r := H; have A26 := Aside0.mk A260; clear A260; have H' := Aside0.mk H; clear H; have hcz27_0 : wc.cell? ⟨gb1030, 0, none⟩ = some (.int .i64 t1025) := (blk_cell BK1030.out 0).trans rfl; have hcz27_1 : wc.cell? ⟨gb1030, 1, none⟩ = some (.slice Ao10 t1026.length co10) := (blk_cell BK1030.out 1).trans rfl; have hfz27_0 := blk_frozen BK1030.out 0; have hfz27_1 := blk_frozen BK1030.out 1
     go_wp2_with (first | (go_at_call 62; (with_reducible refine (impl_WayOut.calls kj5 t1025 _ _ t1026 t1029 t1041 t1044 _ ?side1 ?side2 A26.out).mono ?_); (case side1 => exact viaC (Kd.R_reads' HO_1031001.out).2.2); (case side2 => exact (Kd.R_reads' HO_1031001.out).2.1); rintro e w28 ⟨v1042, rfl, ho0, hb⟩; have n0_ := Aside0.mk (Kd.R_elder' (viaR HO_5.out) (Kd.R_base ho0) hb); have n1_ := Aside0.mk (Kd.R_elder' (viaR HO_7.out) (Kd.R_base ho0) hb); have n2_ := Aside0.mk (Kd.R_below (viaR HO_1031001.out) hb); have n3_ := Aside0.mk (Kd.R_lower (Kd.R_new' (Kd.R_new' ho0 (Kd.R_lt (viaR HO_5.out))) (Kd.R_lt (viaR HO_7.out))) (below_size (viaX HB.out GE1030.out))); have n4_ := Aside0.mk (blk_below (g := gb1030) (o := .cells #[.int .i64 t1025, .slice Ao10 t1026.length co10] 30 (0, 0)) (viaB BK1030.out) hb); have n5_ := Aside0.mk (below_step (viaX HB.out GE1030.out) hb); clear HO_5; clear HO_7; clear HO_1031001; clear BK1030; clear HB; have HO_5 := n0_; have HO_7 := n1_; have HO_1031001 := n2_; have HO1043 := n3_; have BK1030 := n4_; have HB := n5_; clear n0_ n1_ n2_ n3_ n4_ n5_; (try clear hb); (try clear hb2); (try clear hk); (try clear hi); (try clear ho0)))
     repeat (go_quiet (first | (go_at_call 62; (with_reducible refine (impl_WayOut.calls kj5 t1025 _ _ t1026 t1029 t1041 t1044 _ ?side1 ?side2 A26.out).mono ?_); (case side1 => exact viaC (Kd.R_reads' HO_1031001.out).2.2); (case side2 => exact (Kd.R_reads' HO_1031001.out).2.1); rintro e w28 ⟨v1042, rfl, ho0, hb⟩; have n0_ := Aside0.mk (Kd.R_elder' (viaR HO_5.out) (Kd.R_base ho0) hb); have n1_ := Aside0.mk (Kd.R_elder' (viaR HO_7.out) (Kd.R_base ho0) hb); have n2_ := Aside0.mk (Kd.R_below (viaR HO_1031001.out) hb); have n3_ := Aside0.mk (Kd.R_lower (Kd.R_new' (Kd.R_new' ho0 (Kd.R_lt (viaR HO_5.out))) (Kd.R_lt (viaR HO_7.out))) (below_size (viaX HB.out GE1030.out))); have n4_ := Aside0.mk (blk_below (g := gb1030) (o := .cells #[.int .i64 t1025, .slice Ao10 t1026.length co10] 30 (0, 0)) (viaB BK1030.out) hb); have n5_ := Aside0.mk (below_step (viaX HB.out GE1030.out) hb); clear HO_5; clear HO_7; clear HO_1031001; clear BK1030; clear HB; have HO_5 := n0_; have HO_7 := n1_; have HO_1031001 := n2_; have HO1043 := n3_; have BK1030 := n4_; have HB := n5_; clear n0_ n1_ n2_ n3_ n4_ n5_; (try clear hb); (try clear hb2); (try clear hk); (try clear hi); (try clear ho0))); try go_wp2_with (first | (go_at_call 62; (with_reducible refine (impl_WayOut.calls kj5 t1025 _ _ t1026 t1029 t1041 t1044 _ ?side1 ?side2 A26.out).mono ?_); (case side1 => exact viaC (Kd.R_reads' HO_1031001.out).2.2); (case side2 => exact (Kd.R_reads' HO_1031001.out).2.1); rintro e w28 ⟨v1042, rfl, ho0, hb⟩; have n0_ := Aside0.mk (Kd.R_elder' (viaR HO_5.out) (Kd.R_base ho0) hb); have n1_ := Aside0.mk (Kd.R_elder' (viaR HO_7.out) (Kd.R_base ho0) hb); have n2_ := Aside0.mk (Kd.R_below (viaR HO_1031001.out) hb); have n3_ := Aside0.mk (Kd.R_lower (Kd.R_new' (Kd.R_new' ho0 (Kd.R_lt (viaR HO_5.out))) (Kd.R_lt (viaR HO_7.out))) (below_size (viaX HB.out GE1030.out))); have n4_ := Aside0.mk (blk_below (g := gb1030) (o := .cells #[.int .i64 t1025, .slice Ao10 t1026.length co10] 30 (0, 0)) (viaB BK1030.out) hb); have n5_ := Aside0.mk (below_step (viaX HB.out GE1030.out) hb); clear HO_5; clear HO_7; clear HO_1031001; clear BK1030; clear HB; have HO_5 := n0_; have HO_7 := n1_; have HO_1031001 := n2_; have HO1043 := n3_; have BK1030 := n4_; have HB := n5_; clear n0_ n1_ n2_ n3_ n4_ n5_; (try clear hb); (try clear hb2); (try clear hk); (try clear hi); (try clear ho0))))
     go_loopg [9, 12] kj5 (fun kq v9 v12 w' => ∃ (x9_2 : Int) (x12_2 : Int), v9 = .int .i64 x9_2 ∧ v12 = .int .i64 x12_2 ∧ Aside0 (laws_FnGame.l0 kq t1029 t1031 x9_2 t1041 t1044 x12_2 t1025 t1026 = some r) ∧ Aside0 (kq ≤ kj5) ∧ Aside0 (Kd.R (Kd.int .i64) 3 w' w.heap.size (fun k_ => some k_ ≠ (v1042 : Value).ownBlock) v1032 t1031) ∧ Aside0 (Kd.R (Kd.int .i64) 3 w' w.heap.size (fun k_ => some k_ ≠ (v1032 : Value).ownBlock) v1042 t1041) ∧ Aside0 (Kd.R k44 44 w' w.heap.size (fun _ => True) (.slice Ao10 t1026.length co10) t1026) ∧ Aside0 (w'.heap[gb1030]? = some (.cells #[.int .i64 t1025, (.slice Ao10 t1026.length co10)] 30 (0, 0))) ∧ Aside0 (Below w.heap.size w w'))
     case atStart => exact ⟨(0), (0), (by first | rfl | (simp; done) | (simp [*]; done)), (by first | rfl | (simp; done) | (simp [*]; done)), H', ⟨Nat.le_refl _⟩, ⟨by (with_reducible repeat (first | apply Kd.R_alloc | apply Kd.R_drewN | apply Kd.R_drew)); exact Kd.R_mono HO_5.out (fun _ hk => hk.2)⟩, ⟨by (with_reducible repeat (first | apply Kd.R_alloc | apply Kd.R_drewN | apply Kd.R_drew)); exact Kd.R_mono HO1043.out (fun _ hk => hk.1.2)⟩, ⟨viaR HO_1031001.out⟩, ⟨viaB BK1030.out⟩, ⟨viaX HB.out GE1030.out⟩⟩
     case round =>
      clear H'
      try clear c1
      try clear c2
      try clear c2b0
      try clear c2b1
      try clear p2
      try clear c14
      try clear c14b0
      try clear c14b1
      try clear c14b2
      try clear c16
      try clear c17
      try clear c21
      try clear c22
      try clear c22b0
      try clear c22b1
      try clear c22b2
      try clear hcz12_0
      try clear hcz12_1
      try clear hcz27_0
      try clear hcz27_1
      try clear hcz9_0
      try clear hcz9_1
      try clear hfz12_0
      try clear hfz12_1
      try clear hfz27_0
      try clear hfz27_1
      try clear hfz9_0
      try clear hfz9_1
      try clear p2
      obtain ⟨x9_2, x12_2, rfl, rfl, HA, HK2, HO_5, HO_10, HO_1031001, BK1030, HB⟩ := hrel
      cases gk with
      | zero => exact absurd HA.out (by simp [laws_FnGame.l0])
      | succ k2 =>
       have H := HA.out; clear HA
       simp only [laws_FnGame.l0] at H
       by_cases c29 : x12_2 < (t1031.length : Int)
       ·rw [if_pos c29] at H
        have c29b0 : decide (x12_2 < (t1031.length : Int)) = true := decide_eq_true c29; clear c29
        by_cases c30 : 0 ≤ x12_2
        ·rw [if_pos c30] at H
         have c30b0 : decide (0 ≤ x12_2) = true := decide_eq_true c30; clear c30
         by_cases c31 : (rd t1031 x12_2) = 0
         ·rw [if_pos c31] at H
          have c31b0 : ((rd t1031 x12_2) == 0) = true := beq_iff_eq.mpr c31; have c31b1 : ((rd t1031 x12_2) != 0) = false := bne_eq_false_iff_eq.mpr c31; clear c31; have c32b0 := eq_true (of_decide_eq_true (by first | (with_reducible assumption) | assumption) : 0 ≤ x12_2); obtain ⟨ji33, hji33⟩ : ∃ j_ : Int, (shl .i64 1 x12_2) = j_ := ⟨_, rfl⟩; replace H : (if x12_2 < (t1041.length : Int) then (if (rd t1031 x12_2) > (rd t1041 x12_2) then (some false) else (if (rd t1031 x12_2) < 0 then (some false) else (laws_FnGame.l0 k2 t1029 t1031 (Go.bits .or .i64 x9_2 (ji33)) t1041 t1044 (wrap64 (x12_2 + 1)) t1025 t1026))) else (none)) = some r := by first | (rw [hji33] at H; exact H) | (simp only [hji33] at H ⊢; exact H)
          have hji33_ : (IntKind.i64.wrap (1 * 2 ^ min x12_2.toNat 64)) = ji33 := hji33; have hji33z : x12_2 ≤ 64 → (IntKind.i64.wrap (1 * 2 ^ x12_2.toNat)) = ji33 := shl_small hji33; have hji33u : (IntKind.i64.wrap (2 ^ min x12_2.toNat 64)) = ji33 := by have h_ := hji33_; rw [Int.one_mul] at h_; exact h_
          have hji33v : x12_2 ≤ 64 → (IntKind.i64.wrap (2 ^ x12_2.toNat)) = ji33 := fun hle_ => by have h_ := hji33z hle_; rw [Int.one_mul] at h_; exact h_
          have hji33y : (wrap64 (1 * 2 ^ min x12_2.toNat 64)) = ji33 := (i64_w _).symm.trans hji33_; have hji33x : x12_2 ≤ 64 → (wrap64 (1 * 2 ^ x12_2.toNat)) = ji33 := fun h_ => (i64_w _).symm.trans (hji33z h_)
          by_cases c34 : x12_2 < (t1041.length : Int)
          ·rw [if_pos c34] at H
           have c34b0 : decide (x12_2 < (t1041.length : Int)) = true := decide_eq_true c34; clear c34
           by_cases c35 : (rd t1031 x12_2) > (rd t1041 x12_2)
           ·rw [if_pos c35] at H
            have c35b0 : decide ((rd t1041 x12_2) < (rd t1031 x12_2)) = true := decide_eq_true c35; clear c35; obtain rfl := Option.some.inj H; obtain ⟨Ao36, co36, eo36⟩ := Kd.R_slice HO_5.out; subst eo36; have p1050 : 0 ≤ (x12_2 : Int) := of_decide_eq_true (by first | (with_reducible assumption) | assumption); have q1050 : x12_2 < (t1031.length : Int) := of_decide_eq_true (by first | (with_reducible assumption) | assumption); obtain ⟨ad1050, e1050, hx1050_0⟩ := Kd.at_int (Kd.R_reads' HO_5.out).2.2 x12_2 p1050 q1050
            cases e1050
            replace p1050 := eq_true p1050; replace q1050 := eq_true q1050; have p1051 : 0 ≤ (x12_2 : Int) := of_decide_eq_true (by first | (with_reducible assumption) | assumption); have q1051 : x12_2 < (t1031.length : Int) := of_decide_eq_true (by first | (with_reducible assumption) | assumption); obtain ⟨ad1051, e1051, hx1051_0⟩ := Kd.at_int (Kd.R_reads' HO_5.out).2.2 x12_2 p1051 q1051; obtain rfl : ad1050 = ad1051 := (by injection e1051); replace p1051 := eq_true p1051; replace q1051 := eq_true q1051; obtain ⟨Ao37, co37, eo37⟩ := Kd.R_slice HO_10.out; subst eo37; have p1052 : 0 ≤ (x12_2 : Int) := of_decide_eq_true (by first | (with_reducible assumption) | assumption); have q1052 : x12_2 < (t1041.length : Int) := of_decide_eq_true (by first | (with_reducible assumption) | assumption); obtain ⟨ad1052, e1052, hx1052_0⟩ := Kd.at_int (Kd.R_reads' HO_10.out).2.2 x12_2 p1052 q1052
            cases e1052
            replace p1052 := eq_true p1052; replace q1052 := eq_true q1052
            go_wp2
            repeat (go_quiet (fail); try go_wp2)
            go_ret
            exact ⟨by first | rfl | (simp [errW_none, errW_some] <;> rfl) | (simp only [← hji33]; first | rfl | (simp [errW_none, errW_some] <;> rfl)) | (simp [*, errW_none, errW_some] <;> rfl), viaX HB.out GE1030.out⟩
           ·rw [if_neg c35] at H
            have c35b0 : decide ((rd t1041 x12_2) < (rd t1031 x12_2)) = false := decide_eq_false c35; clear c35
            by_cases c38 : (rd t1031 x12_2) < 0
            ·rw [if_pos c38] at H
             have c38b0 : decide ((rd t1031 x12_2) < 0) = true := decide_eq_true c38; clear c38; obtain rfl := Option.some.inj H; obtain ⟨Ao39, co39, eo39⟩ := Kd.R_slice HO_5.out; subst eo39; have p1050 : 0 ≤ (x12_2 : Int) := of_decide_eq_true (by first | (with_reducible assumption) | assumption); have q1050 : x12_2 < (t1031.length : Int) := of_decide_eq_true (by first | (with_reducible assumption) | assumption); obtain ⟨ad1050, e1050, hx1050_0⟩ := Kd.at_int (Kd.R_reads' HO_5.out).2.2 x12_2 p1050 q1050
             cases e1050
             replace p1050 := eq_true p1050; replace q1050 := eq_true q1050; have p1051 : 0 ≤ (x12_2 : Int) := of_decide_eq_true (by first | (with_reducible assumption) | assumption); have q1051 : x12_2 < (t1031.length : Int) := of_decide_eq_true (by first | (with_reducible assumption) | assumption); obtain ⟨ad1051, e1051, hx1051_0⟩ := Kd.at_int (Kd.R_reads' HO_5.out).2.2 x12_2 p1051 q1051; obtain rfl : ad1050 = ad1051 := (by injection e1051); replace p1051 := eq_true p1051; replace q1051 := eq_true q1051; obtain ⟨Ao40, co40, eo40⟩ := Kd.R_slice HO_10.out; subst eo40; have p1052 : 0 ≤ (x12_2 : Int) := of_decide_eq_true (by first | (with_reducible assumption) | assumption); have q1052 : x12_2 < (t1041.length : Int) := of_decide_eq_true (by first | (with_reducible assumption) | assumption); obtain ⟨ad1052, e1052, hx1052_0⟩ := Kd.at_int (Kd.R_reads' HO_10.out).2.2 x12_2 p1052 q1052
             cases e1052
             replace p1052 := eq_true p1052; replace q1052 := eq_true q1052; have p1053 : 0 ≤ (x12_2 : Int) := of_decide_eq_true (by first | (with_reducible assumption) | assumption); have q1053 : x12_2 < (t1031.length : Int) := of_decide_eq_true (by first | (with_reducible assumption) | assumption); obtain ⟨ad1053, e1053, hx1053_0⟩ := Kd.at_int (Kd.R_reads' HO_5.out).2.2 x12_2 p1053 q1053; obtain rfl : ad1050 = ad1053 := (by injection e1053); replace p1053 := eq_true p1053; replace q1053 := eq_true q1053
             go_wp2
             repeat (go_quiet (fail); try go_wp2)
             go_ret
             exact ⟨by first | rfl | (simp [errW_none, errW_some] <;> rfl) | (simp only [← hji33]; first | rfl | (simp [errW_none, errW_some] <;> rfl)) | (simp [*, errW_none, errW_some] <;> rfl), viaX HB.out GE1030.out⟩
            ·rw [if_neg c38] at H
             have c38b0 : decide ((rd t1031 x12_2) < 0) = false := decide_eq_false c38; clear c38; have H' := Aside0.mk H; clear H; obtain ⟨Ao41, co41, eo41⟩ := Kd.R_slice HO_5.out; subst eo41; have p1050 : 0 ≤ (x12_2 : Int) := of_decide_eq_true (by first | (with_reducible assumption) | assumption); have q1050 : x12_2 < (t1031.length : Int) := of_decide_eq_true (by first | (with_reducible assumption) | assumption); obtain ⟨ad1050, e1050, hx1050_0⟩ := Kd.at_int (Kd.R_reads' HO_5.out).2.2 x12_2 p1050 q1050
             cases e1050
             replace p1050 := eq_true p1050; replace q1050 := eq_true q1050; have p1051 : 0 ≤ (x12_2 : Int) := of_decide_eq_true (by first | (with_reducible assumption) | assumption); have q1051 : x12_2 < (t1031.length : Int) := of_decide_eq_true (by first | (with_reducible assumption) | assumption); obtain ⟨ad1051, e1051, hx1051_0⟩ := Kd.at_int (Kd.R_reads' HO_5.out).2.2 x12_2 p1051 q1051; obtain rfl : ad1050 = ad1051 := (by injection e1051); replace p1051 := eq_true p1051; replace q1051 := eq_true q1051; obtain ⟨Ao42, co42, eo42⟩ := Kd.R_slice HO_10.out; subst eo42; have p1052 : 0 ≤ (x12_2 : Int) := of_decide_eq_true (by first | (with_reducible assumption) | assumption); have q1052 : x12_2 < (t1041.length : Int) := of_decide_eq_true (by first | (with_reducible assumption) | assumption); obtain ⟨ad1052, e1052, hx1052_0⟩ := Kd.at_int (Kd.R_reads' HO_10.out).2.2 x12_2 p1052 q1052
             cases e1052
             replace p1052 := eq_true p1052; replace q1052 := eq_true q1052; have p1053 : 0 ≤ (x12_2 : Int) := of_decide_eq_true (by first | (with_reducible assumption) | assumption); have q1053 : x12_2 < (t1031.length : Int) := of_decide_eq_true (by first | (with_reducible assumption) | assumption); obtain ⟨ad1053, e1053, hx1053_0⟩ := Kd.at_int (Kd.R_reads' HO_5.out).2.2 x12_2 p1053 q1053; obtain rfl : ad1050 = ad1053 := (by injection e1053); replace p1053 := eq_true p1053; replace q1053 := eq_true q1053
             go_wp2
             repeat (go_quiet (fail); try go_wp2)
             go_roundg k2
             case measure => have := HJ5.out; have := HK2.out; omega
             case rel => exact ⟨(Go.bits .or .i64 x9_2 (ji33)), (wrap64 (x12_2 + 1)), (by first | rfl | (simp; done) | (simp only [← hji33] <;> (first | rfl | simp)) | (simp [*]; done)), (by first | rfl | (simp; done) | (simp [*]; done)), H', ⟨by have := HJ5.out; have := HK2.out; omega⟩, ⟨viaR HO_5.out⟩, ⟨viaR HO_10.out⟩, ⟨viaR HO_1031001.out⟩, ⟨viaB BK1030.out⟩, ⟨viaX HB.out GE1030.out⟩⟩
          ·rw [if_neg c34] at H
           exact absurd H (by simp)
         ·rw [if_neg c31] at H
          have c31b0 : ((rd t1031 x12_2) == 0) = false := beq_eq_false_iff_ne.mpr c31; have c31b1 : ((rd t1031 x12_2) != 0) = true := bne_iff_ne.mpr c31
          by_cases c43 : x12_2 < (t1041.length : Int)
          ·rw [if_pos c43] at H
           have c43b0 : decide (x12_2 < (t1041.length : Int)) = true := decide_eq_true c43; clear c43
           by_cases c44 : (rd t1031 x12_2) > (rd t1041 x12_2)
           ·rw [if_pos c44] at H
            have c44b0 : decide ((rd t1041 x12_2) < (rd t1031 x12_2)) = true := decide_eq_true c44; clear c44; obtain rfl := Option.some.inj H; obtain ⟨Ao45, co45, eo45⟩ := Kd.R_slice HO_5.out; subst eo45; have p1050 : 0 ≤ (x12_2 : Int) := of_decide_eq_true (by first | (with_reducible assumption) | assumption); have q1050 : x12_2 < (t1031.length : Int) := of_decide_eq_true (by first | (with_reducible assumption) | assumption); obtain ⟨ad1050, e1050, hx1050_0⟩ := Kd.at_int (Kd.R_reads' HO_5.out).2.2 x12_2 p1050 q1050
            cases e1050
            replace p1050 := eq_true p1050; replace q1050 := eq_true q1050; have p1054 : 0 ≤ (x12_2 : Int) := of_decide_eq_true (by first | (with_reducible assumption) | assumption); have q1054 : x12_2 < (t1031.length : Int) := of_decide_eq_true (by first | (with_reducible assumption) | assumption); obtain ⟨ad1054, e1054, hx1054_0⟩ := Kd.at_int (Kd.R_reads' HO_5.out).2.2 x12_2 p1054 q1054; obtain rfl : ad1050 = ad1054 := (by injection e1054); replace p1054 := eq_true p1054; replace q1054 := eq_true q1054; obtain ⟨Ao46, co46, eo46⟩ := Kd.R_slice HO_10.out; subst eo46; have p1055 : 0 ≤ (x12_2 : Int) := of_decide_eq_true (by first | (with_reducible assumption) | assumption); have q1055 : x12_2 < (t1041.length : Int) := of_decide_eq_true (by first | (with_reducible assumption) | assumption); obtain ⟨ad1055, e1055, hx1055_0⟩ := Kd.at_int (Kd.R_reads' HO_10.out).2.2 x12_2 p1055 q1055
            cases e1055
            replace p1055 := eq_true p1055; replace q1055 := eq_true q1055
            go_wp2
            repeat (go_quiet (fail); try go_wp2)
            go_ret
            exact ⟨by first | rfl | (simp [errW_none, errW_some] <;> rfl) | (simp [*, errW_none, errW_some] <;> rfl), viaX HB.out GE1030.out⟩
           ·rw [if_neg c44] at H
            have c44b0 : decide ((rd t1041 x12_2) < (rd t1031 x12_2)) = false := decide_eq_false c44; clear c44
            by_cases c47 : (rd t1031 x12_2) < 0
            ·rw [if_pos c47] at H
             have c47b0 : decide ((rd t1031 x12_2) < 0) = true := decide_eq_true c47; clear c47; obtain rfl := Option.some.inj H; obtain ⟨Ao48, co48, eo48⟩ := Kd.R_slice HO_5.out; subst eo48; have p1050 : 0 ≤ (x12_2 : Int) := of_decide_eq_true (by first | (with_reducible assumption) | assumption); have q1050 : x12_2 < (t1031.length : Int) := of_decide_eq_true (by first | (with_reducible assumption) | assumption); obtain ⟨ad1050, e1050, hx1050_0⟩ := Kd.at_int (Kd.R_reads' HO_5.out).2.2 x12_2 p1050 q1050
             cases e1050
             replace p1050 := eq_true p1050; replace q1050 := eq_true q1050; have p1054 : 0 ≤ (x12_2 : Int) := of_decide_eq_true (by first | (with_reducible assumption) | assumption); have q1054 : x12_2 < (t1031.length : Int) := of_decide_eq_true (by first | (with_reducible assumption) | assumption); obtain ⟨ad1054, e1054, hx1054_0⟩ := Kd.at_int (Kd.R_reads' HO_5.out).2.2 x12_2 p1054 q1054; obtain rfl : ad1050 = ad1054 := (by injection e1054); replace p1054 := eq_true p1054; replace q1054 := eq_true q1054; obtain ⟨Ao49, co49, eo49⟩ := Kd.R_slice HO_10.out; subst eo49; have p1055 : 0 ≤ (x12_2 : Int) := of_decide_eq_true (by first | (with_reducible assumption) | assumption); have q1055 : x12_2 < (t1041.length : Int) := of_decide_eq_true (by first | (with_reducible assumption) | assumption); obtain ⟨ad1055, e1055, hx1055_0⟩ := Kd.at_int (Kd.R_reads' HO_10.out).2.2 x12_2 p1055 q1055
             cases e1055
             replace p1055 := eq_true p1055; replace q1055 := eq_true q1055; have p1056 : 0 ≤ (x12_2 : Int) := of_decide_eq_true (by first | (with_reducible assumption) | assumption); have q1056 : x12_2 < (t1031.length : Int) := of_decide_eq_true (by first | (with_reducible assumption) | assumption); obtain ⟨ad1056, e1056, hx1056_0⟩ := Kd.at_int (Kd.R_reads' HO_5.out).2.2 x12_2 p1056 q1056; obtain rfl : ad1050 = ad1056 := (by injection e1056); replace p1056 := eq_true p1056; replace q1056 := eq_true q1056
             go_wp2
             repeat (go_quiet (fail); try go_wp2)
             go_ret
             exact ⟨by first | rfl | (simp [errW_none, errW_some] <;> rfl) | (simp [*, errW_none, errW_some] <;> rfl), viaX HB.out GE1030.out⟩
            ·rw [if_neg c47] at H
             have c47b0 : decide ((rd t1031 x12_2) < 0) = false := decide_eq_false c47; clear c47; have H' := Aside0.mk H; clear H; obtain ⟨Ao50, co50, eo50⟩ := Kd.R_slice HO_5.out; subst eo50; have p1050 : 0 ≤ (x12_2 : Int) := of_decide_eq_true (by first | (with_reducible assumption) | assumption); have q1050 : x12_2 < (t1031.length : Int) := of_decide_eq_true (by first | (with_reducible assumption) | assumption); obtain ⟨ad1050, e1050, hx1050_0⟩ := Kd.at_int (Kd.R_reads' HO_5.out).2.2 x12_2 p1050 q1050
             cases e1050
             replace p1050 := eq_true p1050; replace q1050 := eq_true q1050; have p1054 : 0 ≤ (x12_2 : Int) := of_decide_eq_true (by first | (with_reducible assumption) | assumption); have q1054 : x12_2 < (t1031.length : Int) := of_decide_eq_true (by first | (with_reducible assumption) | assumption); obtain ⟨ad1054, e1054, hx1054_0⟩ := Kd.at_int (Kd.R_reads' HO_5.out).2.2 x12_2 p1054 q1054; obtain rfl : ad1050 = ad1054 := (by injection e1054); replace p1054 := eq_true p1054; replace q1054 := eq_true q1054; obtain ⟨Ao51, co51, eo51⟩ := Kd.R_slice HO_10.out; subst eo51; have p1055 : 0 ≤ (x12_2 : Int) := of_decide_eq_true (by first | (with_reducible assumption) | assumption); have q1055 : x12_2 < (t1041.length : Int) := of_decide_eq_true (by first | (with_reducible assumption) | assumption); obtain ⟨ad1055, e1055, hx1055_0⟩ := Kd.at_int (Kd.R_reads' HO_10.out).2.2 x12_2 p1055 q1055
             cases e1055
             replace p1055 := eq_true p1055; replace q1055 := eq_true q1055; have p1056 : 0 ≤ (x12_2 : Int) := of_decide_eq_true (by first | (with_reducible assumption) | assumption); have q1056 : x12_2 < (t1031.length : Int) := of_decide_eq_true (by first | (with_reducible assumption) | assumption); obtain ⟨ad1056, e1056, hx1056_0⟩ := Kd.at_int (Kd.R_reads' HO_5.out).2.2 x12_2 p1056 q1056; obtain rfl : ad1050 = ad1056 := (by injection e1056); replace p1056 := eq_true p1056; replace q1056 := eq_true q1056
             go_wp2
             repeat (go_quiet (fail); try go_wp2)
             go_roundg k2
             case measure => have := HJ5.out; have := HK2.out; omega
             case rel => exact ⟨(x9_2), (wrap64 (x12_2 + 1)), (by first | rfl | (simp; done) | (simp [*]; done)), (by first | rfl | (simp; done) | (simp [*]; done)), H', ⟨by have := HJ5.out; have := HK2.out; omega⟩, ⟨viaR HO_5.out⟩, ⟨viaR HO_10.out⟩, ⟨viaR HO_1031001.out⟩, ⟨viaB BK1030.out⟩, ⟨viaX HB.out GE1030.out⟩⟩
          ·rw [if_neg c43] at H
           exact absurd H (by simp)
        ·rw [if_neg c30] at H
         exact absurd H (by simp)
       ·rw [if_neg c29] at H
        have c29b0 : decide (x12_2 < (t1031.length : Int)) = false := decide_eq_false c29; clear c29; replace H := Option.bind_eq_some_iff.mp H; obtain ⟨⟨t1045, t1048⟩, A520, H⟩ := H; replace H : (if t1044 = true then (if t1048 = true then (if (t1045.length : Int) = 1 then (if 0 < (t1045.length : Int) then (some ((rd t1045 0) == x9_2)) else (none)) else (some false)) else (some false)) else (some false)) = some r := H; have A52 := Aside0.mk A520; clear A520
        by_cases c53 : t1044 = true
        ·subst c53
         have H1 : (if t1048 = true then (if (t1045.length : Int) = 1 then (if 0 < (t1045.length : Int) then (some ((rd t1045 0) == x9_2)) else (none)) else (some false)) else (some false)) = some r := by rw [if_pos rfl] at H; exact H
         clear H; have H := H1; clear H1
         by_cases c54 : t1048 = true
         ·subst c54
          have H1 : (if (t1045.length : Int) = 1 then (if 0 < (t1045.length : Int) then (some ((rd t1045 0) == x9_2)) else (none)) else (some false)) = some r := by rw [if_pos rfl] at H; exact H
          clear H; have H := H1; clear H1
          by_cases c55 : (t1045.length : Int) = 1
          ·rw [if_pos c55] at H
           have c55b0 : ((t1045.length : Int) == 1) = true := beq_iff_eq.mpr c55; have c55b1 : ((t1045.length : Int) != 1) = false := bne_eq_false_iff_eq.mpr c55; clear c55
           by_cases c56 : 0 < (t1045.length : Int)
           ·rw [if_pos c56] at H
            have c56b0 : decide (0 < (t1045.length : Int)) = true := decide_eq_true c56; have c56b1 : decide (0 < t1045.length) = true := decide_eq_true (by omega); clear c56; obtain rfl := Option.some.inj H; obtain ⟨Ao57, co57, eo57⟩ := Kd.R_slice HO_5.out; subst eo57; have hcz58_0 : wr.cell? ⟨gb1030, 0, none⟩ = some (.int .i64 t1025) := (blk_cell BK1030.out 0).trans rfl; have hcz58_1 : wr.cell? ⟨gb1030, 1, none⟩ = some (.slice Ao10 t1026.length co10) := (blk_cell BK1030.out 1).trans rfl; have hfz58_0 := blk_frozen BK1030.out 0; have hfz58_1 := blk_frozen BK1030.out 1
            go_wp2_with (first | (go_at_call 63; (with_reducible refine (impl_KernelAll.calls k2 t1025 _ _ t1026 t1029 t1045 true _ ?side1 ?side2 A52.out).mono ?_); (case side1 => exact viaC (Kd.R_reads' HO_1031001.out).2.2); (case side2 => exact (Kd.R_reads' HO_1031001.out).2.1); rintro e w59 ⟨v1046, rfl, ho0, hb⟩; have n0_ := Aside0.mk (Kd.R_elder' (viaR HO_5.out) (Kd.R_base ho0) hb); have n1_ := Aside0.mk (Kd.R_elder' (viaR HO_10.out) (Kd.R_base ho0) hb); have n2_ := Aside0.mk (Kd.R_below (viaR HO_1031001.out) hb); have n3_ := Aside0.mk (Kd.R_lower (Kd.R_new' (Kd.R_new' ho0 (Kd.R_lt (viaR HO_5.out))) (Kd.R_lt (viaR HO_10.out))) (below_size (viaX HB.out GE1030.out))); have n4_ := Aside0.mk (blk_below (g := gb1030) (o := .cells #[.int .i64 t1025, .slice Ao10 t1026.length co10] 30 (0, 0)) (viaB BK1030.out) hb); have n5_ := Aside0.mk (below_step (viaX HB.out GE1030.out) hb); clear HO_5; clear HO_10; clear HO_1031001; clear BK1030; clear HB; have HO_5 := n0_; have HO_10 := n1_; have HO_1031001 := n2_; have HO1047 := n3_; have BK1030 := n4_; have HB := n5_; clear n0_ n1_ n2_ n3_ n4_ n5_; (try clear hb); (try clear hb2); (try clear hk); (try clear hi); (try clear ho0); obtain ⟨Ao60, co60, eo60⟩ := Kd.R_slice HO1047.out; subst eo60; have p1049 : 0 ≤ (0 : Int) := (by omega); have q1049 : 0 < (t1045.length : Int) := of_decide_eq_true (by first | (with_reducible assumption) | assumption); obtain ⟨ad1049, e1049, hx1049_0⟩ := Kd.at_int (Kd.R_reads' HO1047.out).2.2 0 p1049 q1049; cases e1049; have qi1049 : (0 < t1045.length) = True := eq_true (by omega); (try rw [show ((0 : Int)).toNat = 0 from rfl] at hx1049_0); (try rw [Addr.add_zero'] at hx1049_0); replace p1049 := eq_true p1049; replace q1049 := eq_true q1049))
            repeat (go_quiet (first | (go_at_call 63; (with_reducible refine (impl_KernelAll.calls k2 t1025 _ _ t1026 t1029 t1045 true _ ?side1 ?side2 A52.out).mono ?_); (case side1 => exact viaC (Kd.R_reads' HO_1031001.out).2.2); (case side2 => exact (Kd.R_reads' HO_1031001.out).2.1); rintro e w59 ⟨v1046, rfl, ho0, hb⟩; have n0_ := Aside0.mk (Kd.R_elder' (viaR HO_5.out) (Kd.R_base ho0) hb); have n1_ := Aside0.mk (Kd.R_elder' (viaR HO_10.out) (Kd.R_base ho0) hb); have n2_ := Aside0.mk (Kd.R_below (viaR HO_1031001.out) hb); have n3_ := Aside0.mk (Kd.R_lower (Kd.R_new' (Kd.R_new' ho0 (Kd.R_lt (viaR HO_5.out))) (Kd.R_lt (viaR HO_10.out))) (below_size (viaX HB.out GE1030.out))); have n4_ := Aside0.mk (blk_below (g := gb1030) (o := .cells #[.int .i64 t1025, .slice Ao10 t1026.length co10] 30 (0, 0)) (viaB BK1030.out) hb); have n5_ := Aside0.mk (below_step (viaX HB.out GE1030.out) hb); clear HO_5; clear HO_10; clear HO_1031001; clear BK1030; clear HB; have HO_5 := n0_; have HO_10 := n1_; have HO_1031001 := n2_; have HO1047 := n3_; have BK1030 := n4_; have HB := n5_; clear n0_ n1_ n2_ n3_ n4_ n5_; (try clear hb); (try clear hb2); (try clear hk); (try clear hi); (try clear ho0); obtain ⟨Ao60, co60, eo60⟩ := Kd.R_slice HO1047.out; subst eo60; have p1049 : 0 ≤ (0 : Int) := (by omega); have q1049 : 0 < (t1045.length : Int) := of_decide_eq_true (by first | (with_reducible assumption) | assumption); obtain ⟨ad1049, e1049, hx1049_0⟩ := Kd.at_int (Kd.R_reads' HO1047.out).2.2 0 p1049 q1049; cases e1049; have qi1049 : (0 < t1045.length) = True := eq_true (by omega); (try rw [show ((0 : Int)).toNat = 0 from rfl] at hx1049_0); (try rw [Addr.add_zero'] at hx1049_0); replace p1049 := eq_true p1049; replace q1049 := eq_true q1049)); try go_wp2_with (first | (go_at_call 63; (with_reducible refine (impl_KernelAll.calls k2 t1025 _ _ t1026 t1029 t1045 true _ ?side1 ?side2 A52.out).mono ?_); (case side1 => exact viaC (Kd.R_reads' HO_1031001.out).2.2); (case side2 => exact (Kd.R_reads' HO_1031001.out).2.1); rintro e w59 ⟨v1046, rfl, ho0, hb⟩; have n0_ := Aside0.mk (Kd.R_elder' (viaR HO_5.out) (Kd.R_base ho0) hb); have n1_ := Aside0.mk (Kd.R_elder' (viaR HO_10.out) (Kd.R_base ho0) hb); have n2_ := Aside0.mk (Kd.R_below (viaR HO_1031001.out) hb); have n3_ := Aside0.mk (Kd.R_lower (Kd.R_new' (Kd.R_new' ho0 (Kd.R_lt (viaR HO_5.out))) (Kd.R_lt (viaR HO_10.out))) (below_size (viaX HB.out GE1030.out))); have n4_ := Aside0.mk (blk_below (g := gb1030) (o := .cells #[.int .i64 t1025, .slice Ao10 t1026.length co10] 30 (0, 0)) (viaB BK1030.out) hb); have n5_ := Aside0.mk (below_step (viaX HB.out GE1030.out) hb); clear HO_5; clear HO_10; clear HO_1031001; clear BK1030; clear HB; have HO_5 := n0_; have HO_10 := n1_; have HO_1031001 := n2_; have HO1047 := n3_; have BK1030 := n4_; have HB := n5_; clear n0_ n1_ n2_ n3_ n4_ n5_; (try clear hb); (try clear hb2); (try clear hk); (try clear hi); (try clear ho0); obtain ⟨Ao60, co60, eo60⟩ := Kd.R_slice HO1047.out; subst eo60; have p1049 : 0 ≤ (0 : Int) := (by omega); have q1049 : 0 < (t1045.length : Int) := of_decide_eq_true (by first | (with_reducible assumption) | assumption); obtain ⟨ad1049, e1049, hx1049_0⟩ := Kd.at_int (Kd.R_reads' HO1047.out).2.2 0 p1049 q1049; cases e1049; have qi1049 : (0 < t1045.length) = True := eq_true (by omega); (try rw [show ((0 : Int)).toNat = 0 from rfl] at hx1049_0); (try rw [Addr.add_zero'] at hx1049_0); replace p1049 := eq_true p1049; replace q1049 := eq_true q1049)))
            go_ret
            exact ⟨by first | rfl | (simp [errW_none, errW_some] <;> rfl) | (simp [*, errW_none, errW_some] <;> rfl), viaX HB.out GE1030.out⟩
           ·rw [if_neg c56] at H
            exact absurd H (by simp)
          ·rw [if_neg c55] at H
           have c55b0 : ((t1045.length : Int) == 1) = false := beq_eq_false_iff_ne.mpr c55; have c55b1 : ((t1045.length : Int) != 1) = true := bne_iff_ne.mpr c55; obtain rfl := Option.some.inj H; obtain ⟨Ao61, co61, eo61⟩ := Kd.R_slice HO_5.out; subst eo61; have hcz62_0 : wr.cell? ⟨gb1030, 0, none⟩ = some (.int .i64 t1025) := (blk_cell BK1030.out 0).trans rfl; have hcz62_1 : wr.cell? ⟨gb1030, 1, none⟩ = some (.slice Ao10 t1026.length co10) := (blk_cell BK1030.out 1).trans rfl; have hfz62_0 := blk_frozen BK1030.out 0; have hfz62_1 := blk_frozen BK1030.out 1
           go_wp2_with (first | (go_at_call 63; (with_reducible refine (impl_KernelAll.calls k2 t1025 _ _ t1026 t1029 t1045 true _ ?side1 ?side2 A52.out).mono ?_); (case side1 => exact viaC (Kd.R_reads' HO_1031001.out).2.2); (case side2 => exact (Kd.R_reads' HO_1031001.out).2.1); rintro e w63 ⟨v1046, rfl, ho0, hb⟩; have n0_ := Aside0.mk (Kd.R_elder' (viaR HO_5.out) (Kd.R_base ho0) hb); have n1_ := Aside0.mk (Kd.R_elder' (viaR HO_10.out) (Kd.R_base ho0) hb); have n2_ := Aside0.mk (Kd.R_below (viaR HO_1031001.out) hb); have n3_ := Aside0.mk (Kd.R_lower (Kd.R_new' (Kd.R_new' ho0 (Kd.R_lt (viaR HO_5.out))) (Kd.R_lt (viaR HO_10.out))) (below_size (viaX HB.out GE1030.out))); have n4_ := Aside0.mk (blk_below (g := gb1030) (o := .cells #[.int .i64 t1025, .slice Ao10 t1026.length co10] 30 (0, 0)) (viaB BK1030.out) hb); have n5_ := Aside0.mk (below_step (viaX HB.out GE1030.out) hb); clear HO_5; clear HO_10; clear HO_1031001; clear BK1030; clear HB; have HO_5 := n0_; have HO_10 := n1_; have HO_1031001 := n2_; have HO1047 := n3_; have BK1030 := n4_; have HB := n5_; clear n0_ n1_ n2_ n3_ n4_ n5_; (try clear hb); (try clear hb2); (try clear hk); (try clear hi); (try clear ho0); obtain ⟨Ao64, co64, eo64⟩ := Kd.R_slice HO1047.out; subst eo64))
           repeat (go_quiet (first | (go_at_call 63; (with_reducible refine (impl_KernelAll.calls k2 t1025 _ _ t1026 t1029 t1045 true _ ?side1 ?side2 A52.out).mono ?_); (case side1 => exact viaC (Kd.R_reads' HO_1031001.out).2.2); (case side2 => exact (Kd.R_reads' HO_1031001.out).2.1); rintro e w63 ⟨v1046, rfl, ho0, hb⟩; have n0_ := Aside0.mk (Kd.R_elder' (viaR HO_5.out) (Kd.R_base ho0) hb); have n1_ := Aside0.mk (Kd.R_elder' (viaR HO_10.out) (Kd.R_base ho0) hb); have n2_ := Aside0.mk (Kd.R_below (viaR HO_1031001.out) hb); have n3_ := Aside0.mk (Kd.R_lower (Kd.R_new' (Kd.R_new' ho0 (Kd.R_lt (viaR HO_5.out))) (Kd.R_lt (viaR HO_10.out))) (below_size (viaX HB.out GE1030.out))); have n4_ := Aside0.mk (blk_below (g := gb1030) (o := .cells #[.int .i64 t1025, .slice Ao10 t1026.length co10] 30 (0, 0)) (viaB BK1030.out) hb); have n5_ := Aside0.mk (below_step (viaX HB.out GE1030.out) hb); clear HO_5; clear HO_10; clear HO_1031001; clear BK1030; clear HB; have HO_5 := n0_; have HO_10 := n1_; have HO_1031001 := n2_; have HO1047 := n3_; have BK1030 := n4_; have HB := n5_; clear n0_ n1_ n2_ n3_ n4_ n5_; (try clear hb); (try clear hb2); (try clear hk); (try clear hi); (try clear ho0); obtain ⟨Ao64, co64, eo64⟩ := Kd.R_slice HO1047.out; subst eo64)); try go_wp2_with (first | (go_at_call 63; (with_reducible refine (impl_KernelAll.calls k2 t1025 _ _ t1026 t1029 t1045 true _ ?side1 ?side2 A52.out).mono ?_); (case side1 => exact viaC (Kd.R_reads' HO_1031001.out).2.2); (case side2 => exact (Kd.R_reads' HO_1031001.out).2.1); rintro e w63 ⟨v1046, rfl, ho0, hb⟩; have n0_ := Aside0.mk (Kd.R_elder' (viaR HO_5.out) (Kd.R_base ho0) hb); have n1_ := Aside0.mk (Kd.R_elder' (viaR HO_10.out) (Kd.R_base ho0) hb); have n2_ := Aside0.mk (Kd.R_below (viaR HO_1031001.out) hb); have n3_ := Aside0.mk (Kd.R_lower (Kd.R_new' (Kd.R_new' ho0 (Kd.R_lt (viaR HO_5.out))) (Kd.R_lt (viaR HO_10.out))) (below_size (viaX HB.out GE1030.out))); have n4_ := Aside0.mk (blk_below (g := gb1030) (o := .cells #[.int .i64 t1025, .slice Ao10 t1026.length co10] 30 (0, 0)) (viaB BK1030.out) hb); have n5_ := Aside0.mk (below_step (viaX HB.out GE1030.out) hb); clear HO_5; clear HO_10; clear HO_1031001; clear BK1030; clear HB; have HO_5 := n0_; have HO_10 := n1_; have HO_1031001 := n2_; have HO1047 := n3_; have BK1030 := n4_; have HB := n5_; clear n0_ n1_ n2_ n3_ n4_ n5_; (try clear hb); (try clear hb2); (try clear hk); (try clear hi); (try clear ho0); obtain ⟨Ao64, co64, eo64⟩ := Kd.R_slice HO1047.out; subst eo64)))
           go_ret
           exact ⟨by first | rfl | (simp [errW_none, errW_some] <;> rfl) | (simp [*, errW_none, errW_some] <;> rfl), viaX HB.out GE1030.out⟩
         ·replace c54 := Bool.eq_false_iff.mpr c54
          subst c54; have H1 : (some false) = some r := by rw [if_neg (show ¬ (false = true) by decide)] at H; exact H
          clear H; have H := H1; clear H1; obtain rfl := Option.some.inj H; obtain ⟨Ao65, co65, eo65⟩ := Kd.R_slice HO_5.out; subst eo65; have hcz66_0 : wr.cell? ⟨gb1030, 0, none⟩ = some (.int .i64 t1025) := (blk_cell BK1030.out 0).trans rfl; have hcz66_1 : wr.cell? ⟨gb1030, 1, none⟩ = some (.slice Ao10 t1026.length co10) := (blk_cell BK1030.out 1).trans rfl; have hfz66_0 := blk_frozen BK1030.out 0; have hfz66_1 := blk_frozen BK1030.out 1
          go_wp2_with (first | (go_at_call 63; (with_reducible refine (impl_KernelAll.calls k2 t1025 _ _ t1026 t1029 t1045 false _ ?side1 ?side2 A52.out).mono ?_); (case side1 => exact viaC (Kd.R_reads' HO_1031001.out).2.2); (case side2 => exact (Kd.R_reads' HO_1031001.out).2.1); rintro e w67 ⟨v1046, rfl, ho0, hb⟩; have n0_ := Aside0.mk (Kd.R_elder' (viaR HO_5.out) (Kd.R_base ho0) hb); have n1_ := Aside0.mk (Kd.R_elder' (viaR HO_10.out) (Kd.R_base ho0) hb); have n2_ := Aside0.mk (Kd.R_below (viaR HO_1031001.out) hb); have n3_ := Aside0.mk (Kd.R_lower (Kd.R_new' (Kd.R_new' ho0 (Kd.R_lt (viaR HO_5.out))) (Kd.R_lt (viaR HO_10.out))) (below_size (viaX HB.out GE1030.out))); have n4_ := Aside0.mk (blk_below (g := gb1030) (o := .cells #[.int .i64 t1025, .slice Ao10 t1026.length co10] 30 (0, 0)) (viaB BK1030.out) hb); have n5_ := Aside0.mk (below_step (viaX HB.out GE1030.out) hb); clear HO_5; clear HO_10; clear HO_1031001; clear BK1030; clear HB; have HO_5 := n0_; have HO_10 := n1_; have HO_1031001 := n2_; have HO1047 := n3_; have BK1030 := n4_; have HB := n5_; clear n0_ n1_ n2_ n3_ n4_ n5_; (try clear hb); (try clear hb2); (try clear hk); (try clear hi); (try clear ho0)))
          repeat (go_quiet (first | (go_at_call 63; (with_reducible refine (impl_KernelAll.calls k2 t1025 _ _ t1026 t1029 t1045 false _ ?side1 ?side2 A52.out).mono ?_); (case side1 => exact viaC (Kd.R_reads' HO_1031001.out).2.2); (case side2 => exact (Kd.R_reads' HO_1031001.out).2.1); rintro e w67 ⟨v1046, rfl, ho0, hb⟩; have n0_ := Aside0.mk (Kd.R_elder' (viaR HO_5.out) (Kd.R_base ho0) hb); have n1_ := Aside0.mk (Kd.R_elder' (viaR HO_10.out) (Kd.R_base ho0) hb); have n2_ := Aside0.mk (Kd.R_below (viaR HO_1031001.out) hb); have n3_ := Aside0.mk (Kd.R_lower (Kd.R_new' (Kd.R_new' ho0 (Kd.R_lt (viaR HO_5.out))) (Kd.R_lt (viaR HO_10.out))) (below_size (viaX HB.out GE1030.out))); have n4_ := Aside0.mk (blk_below (g := gb1030) (o := .cells #[.int .i64 t1025, .slice Ao10 t1026.length co10] 30 (0, 0)) (viaB BK1030.out) hb); have n5_ := Aside0.mk (below_step (viaX HB.out GE1030.out) hb); clear HO_5; clear HO_10; clear HO_1031001; clear BK1030; clear HB; have HO_5 := n0_; have HO_10 := n1_; have HO_1031001 := n2_; have HO1047 := n3_; have BK1030 := n4_; have HB := n5_; clear n0_ n1_ n2_ n3_ n4_ n5_; (try clear hb); (try clear hb2); (try clear hk); (try clear hi); (try clear ho0))); try go_wp2_with (first | (go_at_call 63; (with_reducible refine (impl_KernelAll.calls k2 t1025 _ _ t1026 t1029 t1045 false _ ?side1 ?side2 A52.out).mono ?_); (case side1 => exact viaC (Kd.R_reads' HO_1031001.out).2.2); (case side2 => exact (Kd.R_reads' HO_1031001.out).2.1); rintro e w67 ⟨v1046, rfl, ho0, hb⟩; have n0_ := Aside0.mk (Kd.R_elder' (viaR HO_5.out) (Kd.R_base ho0) hb); have n1_ := Aside0.mk (Kd.R_elder' (viaR HO_10.out) (Kd.R_base ho0) hb); have n2_ := Aside0.mk (Kd.R_below (viaR HO_1031001.out) hb); have n3_ := Aside0.mk (Kd.R_lower (Kd.R_new' (Kd.R_new' ho0 (Kd.R_lt (viaR HO_5.out))) (Kd.R_lt (viaR HO_10.out))) (below_size (viaX HB.out GE1030.out))); have n4_ := Aside0.mk (blk_below (g := gb1030) (o := .cells #[.int .i64 t1025, .slice Ao10 t1026.length co10] 30 (0, 0)) (viaB BK1030.out) hb); have n5_ := Aside0.mk (below_step (viaX HB.out GE1030.out) hb); clear HO_5; clear HO_10; clear HO_1031001; clear BK1030; clear HB; have HO_5 := n0_; have HO_10 := n1_; have HO_1031001 := n2_; have HO1047 := n3_; have BK1030 := n4_; have HB := n5_; clear n0_ n1_ n2_ n3_ n4_ n5_; (try clear hb); (try clear hb2); (try clear hk); (try clear hi); (try clear ho0))))
          go_ret
          exact ⟨by first | rfl | (simp [errW_none, errW_some] <;> rfl) | (simp [*, errW_none, errW_some] <;> rfl), viaX HB.out GE1030.out⟩
        ·replace c53 := Bool.eq_false_iff.mpr c53
         subst c53; have H1 : (some false) = some r := by rw [if_neg (show ¬ (false = true) by decide)] at H; exact H
         clear H; have H := H1; clear H1; obtain rfl := Option.some.inj H; obtain ⟨Ao68, co68, eo68⟩ := Kd.R_slice HO_5.out; subst eo68; have hcz69_0 : wr.cell? ⟨gb1030, 0, none⟩ = some (.int .i64 t1025) := (blk_cell BK1030.out 0).trans rfl; have hcz69_1 : wr.cell? ⟨gb1030, 1, none⟩ = some (.slice Ao10 t1026.length co10) := (blk_cell BK1030.out 1).trans rfl; have hfz69_0 := blk_frozen BK1030.out 0; have hfz69_1 := blk_frozen BK1030.out 1
         go_wp2_with (first | (go_at_call 63; (with_reducible refine (impl_KernelAll.calls k2 t1025 _ _ t1026 t1029 t1045 t1048 _ ?side1 ?side2 A52.out).mono ?_); (case side1 => exact viaC (Kd.R_reads' HO_1031001.out).2.2); (case side2 => exact (Kd.R_reads' HO_1031001.out).2.1); rintro e w70 ⟨v1046, rfl, ho0, hb⟩; have n0_ := Aside0.mk (Kd.R_elder' (viaR HO_5.out) (Kd.R_base ho0) hb); have n1_ := Aside0.mk (Kd.R_elder' (viaR HO_10.out) (Kd.R_base ho0) hb); have n2_ := Aside0.mk (Kd.R_below (viaR HO_1031001.out) hb); have n3_ := Aside0.mk (Kd.R_lower (Kd.R_new' (Kd.R_new' ho0 (Kd.R_lt (viaR HO_5.out))) (Kd.R_lt (viaR HO_10.out))) (below_size (viaX HB.out GE1030.out))); have n4_ := Aside0.mk (blk_below (g := gb1030) (o := .cells #[.int .i64 t1025, .slice Ao10 t1026.length co10] 30 (0, 0)) (viaB BK1030.out) hb); have n5_ := Aside0.mk (below_step (viaX HB.out GE1030.out) hb); clear HO_5; clear HO_10; clear HO_1031001; clear BK1030; clear HB; have HO_5 := n0_; have HO_10 := n1_; have HO_1031001 := n2_; have HO1047 := n3_; have BK1030 := n4_; have HB := n5_; clear n0_ n1_ n2_ n3_ n4_ n5_; (try clear hb); (try clear hb2); (try clear hk); (try clear hi); (try clear ho0)))
         repeat (go_quiet (first | (go_at_call 63; (with_reducible refine (impl_KernelAll.calls k2 t1025 _ _ t1026 t1029 t1045 t1048 _ ?side1 ?side2 A52.out).mono ?_); (case side1 => exact viaC (Kd.R_reads' HO_1031001.out).2.2); (case side2 => exact (Kd.R_reads' HO_1031001.out).2.1); rintro e w70 ⟨v1046, rfl, ho0, hb⟩; have n0_ := Aside0.mk (Kd.R_elder' (viaR HO_5.out) (Kd.R_base ho0) hb); have n1_ := Aside0.mk (Kd.R_elder' (viaR HO_10.out) (Kd.R_base ho0) hb); have n2_ := Aside0.mk (Kd.R_below (viaR HO_1031001.out) hb); have n3_ := Aside0.mk (Kd.R_lower (Kd.R_new' (Kd.R_new' ho0 (Kd.R_lt (viaR HO_5.out))) (Kd.R_lt (viaR HO_10.out))) (below_size (viaX HB.out GE1030.out))); have n4_ := Aside0.mk (blk_below (g := gb1030) (o := .cells #[.int .i64 t1025, .slice Ao10 t1026.length co10] 30 (0, 0)) (viaB BK1030.out) hb); have n5_ := Aside0.mk (below_step (viaX HB.out GE1030.out) hb); clear HO_5; clear HO_10; clear HO_1031001; clear BK1030; clear HB; have HO_5 := n0_; have HO_10 := n1_; have HO_1031001 := n2_; have HO1047 := n3_; have BK1030 := n4_; have HB := n5_; clear n0_ n1_ n2_ n3_ n4_ n5_; (try clear hb); (try clear hb2); (try clear hk); (try clear hi); (try clear ho0))); try go_wp2_with (first | (go_at_call 63; (with_reducible refine (impl_KernelAll.calls k2 t1025 _ _ t1026 t1029 t1045 t1048 _ ?side1 ?side2 A52.out).mono ?_); (case side1 => exact viaC (Kd.R_reads' HO_1031001.out).2.2); (case side2 => exact (Kd.R_reads' HO_1031001.out).2.1); rintro e w70 ⟨v1046, rfl, ho0, hb⟩; have n0_ := Aside0.mk (Kd.R_elder' (viaR HO_5.out) (Kd.R_base ho0) hb); have n1_ := Aside0.mk (Kd.R_elder' (viaR HO_10.out) (Kd.R_base ho0) hb); have n2_ := Aside0.mk (Kd.R_below (viaR HO_1031001.out) hb); have n3_ := Aside0.mk (Kd.R_lower (Kd.R_new' (Kd.R_new' ho0 (Kd.R_lt (viaR HO_5.out))) (Kd.R_lt (viaR HO_10.out))) (below_size (viaX HB.out GE1030.out))); have n4_ := Aside0.mk (blk_below (g := gb1030) (o := .cells #[.int .i64 t1025, .slice Ao10 t1026.length co10] 30 (0, 0)) (viaB BK1030.out) hb); have n5_ := Aside0.mk (below_step (viaX HB.out GE1030.out) hb); clear HO_5; clear HO_10; clear HO_1031001; clear BK1030; clear HB; have HO_5 := n0_; have HO_10 := n1_; have HO_1031001 := n2_; have HO1047 := n3_; have BK1030 := n4_; have HB := n5_; clear n0_ n1_ n2_ n3_ n4_ n5_; (try clear hb); (try clear hb2); (try clear hk); (try clear hi); (try clear ho0))))
         go_ret
         exact ⟨by first | rfl | (simp [errW_none, errW_some] <;> rfl) | (simp [*, errW_none, errW_some] <;> rfl), viaX HB.out GE1030.out⟩
/-- THE ONE PURE STATEMENT of laws_FnGame: yours. -/
def laws_FnGame.Pure : Prop := ∀ (l0 : List Int), l0.length ≤ maxLen → l0.length * 1 ≤ 140737488351232 → (∀ x ∈ l0, (Lit.int .u8 x).wf = true) → ∃ k, laws_FnGame.f k l0 = some true
theorem laws_FnGame.walk (P : laws_FnGame.Pure) (a0 : Option Addr) (len0 cap0 : Nat) (z0 : List Int) (w : World) (w0 : (a0 = none ∧ len0 = 0 ∧ cap0 = 0 ∧ z0 = []) ∨ ∃ x, a0 = some x ∧ len0 ≤ cap0 ∧ cap0 ≤ maxLen ∧ z0.length = cap0 ∧ (∀ i, i < z0.length → w.cell? (x.add i) = some (.int .u8 (z0.getD i 0))) ∧ ∀ n ∈ z0, (Lit.int .u8 n).wf = true) (y0 : len0 * 1 ≤ 140737488351232) :
  Calls Try.prog 17 #[.slice a0 len0 cap0] w fun e w' => e = .returned (.bool true) ∧ Below w.heap.size w w' := by
 obtain ⟨l0, rfl, hr0, hm0, hw0, hc0⟩ := ReadsInt.ofRowC w0; obtain ⟨k, h⟩ := P l0 hm0 y0 hw0
 refine (laws_FnGame.calls k _ _ l0 true w (Kd.C_of_reads (d := (0 : Int)) (h1 := fun _ => rfl) hr0) hc0 h).mono ?_
 rintro e w' ⟨rfl, hd⟩
 exact ⟨rfl, hd⟩
end Go.Proofs.Ytfijegfjpagjoaa.G
