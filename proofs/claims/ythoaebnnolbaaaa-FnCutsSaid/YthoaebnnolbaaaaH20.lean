/- For each Go function named below: a plain Lean function of the same name, and the proof that a call of the Go function returns just what the plain function tells, where it tells something. Written by a program of this session with the printer of the kit. -/
import Derived.Test.YthoaebnnolbaaaaH0
import Derived.Test.YthoaebnnolbaaaaH1
import Derived.Test.YthoaebnnolbaaaaH3
import Derived.Test.YthoaebnnolbaaaaH4
import Derived.Test.YthoaebnnolbaaaaH10
import Derived.Test.YthoaebnnolbaaaaH13
import Derived.Test.YthoaebnnolbaaaaH14
import Derived.Test.YthoaebnnolbaaaaH18
import Derived.Test.YthoaebnnolbaaaaH27
import Derived.Test.YthoaebnnolbaaaaH30
namespace Go.Proofs.Ythoaebnnolbaaaa.G
open Go.RowKit Go.Proofs.YthoaebnnolbaaaaW.PrintWords Go.Proofs.YthoaebnnolbaaaaW.PrintLast Go.Proofs.YthoaebnnolbaaaaW.PrintMore
attribute [local go_sem] max2_int min2_int max_two min_two max_three min_three max_four min_four   -- for this text's walks alone
set_option linter.unusedVariables false
set_option linter.unusedSimpArgs false
/-! ### spec_l91Plain: function 98 -/
mutual
def spec_l91Plain.j0 : Nat → Int → Bool → List Int → Int → Int → List (S69) → Option (Int × Int)
 | 0, _, _, _, _, _, _ => none
 | k + 1, x5, x20, x1000, x1001, x339000, x339001 => if x20 = true then (some (x5, x1001)) else (spec_l91Plain.l0 k (([] : List Int)) 0 x1000 x1001 x339000 x339001)
def spec_l91Plain.l0 : Nat → List Int → Int → List Int → Int → Int → List (S69) → Option (Int × Int)
 | 0, _, _, _, _, _, _ => none
 | k + 1, x6, x7, x1000, x1001, x339000, x339001 => if x7 < x339000 then ((spec_l6Rd_pick.f k x1000 x1001 8).bind fun bt347 => (if x6.length < 17592186044416 then (spec_l91Plain.l0 k (x6 ++ [bt347.1]) (wrap64 (x7 + 1)) x1000 bt347.2 x339000 x339001) else (none))) else (spec_l91Plain.l1 k 0 x6 0 x1000 x1001 x339000 x339001)
def spec_l91Plain.l1 : Nat → Int → List Int → Int → List Int → Int → Int → List (S69) → Option (Int × Int)
 | 0, _, _, _, _, _, _, _ => none
 | k + 1, x5, x6, x8, x1000, x1001, x339000, x339001 => if x8 < (x339001.length : Int) then (if 0 ≤ x8 then (if 0 ≤ ((rd_T69 x339001 x8).f0) then (if ((rd_T69 x339001 x8).f0) < (x6.length : Int) then (if 0 ≤ ((rd_T69 x339001 x8).f1) then (if ((rd_T69 x339001 x8).f1) < (x6.length : Int) then (if (rd x6 ((rd_T69 x339001 x8).f0)) > (rd x6 ((rd_T69 x339001 x8).f1)) then (spec_l91Plain.l1 k (Go.bits .or .i64 x5 (shl .i64 1 x8)) x6 (wrap64 (x8 + 1)) x1000 x1001 x339000 x339001) else (spec_l91Plain.l1 k x5 x6 (wrap64 (x8 + 1)) x1000 x1001 x339000 x339001)) else (none)) else (none)) else (none)) else (none)) else (none)) else (some (x5, x1001))
end
def spec_l91Plain.f (k : Nat) (s0_0 : List Int) (s0_1 : Int) (a1_0 : Int) (l1_1 : List (S69)) : Option (Int × Int) := (spec_l91Way.f k s0_0 s0_1 a1_0 l1_1).bind fun bt339 => ((spec_WayIn.f k a1_0 l1_1 bt339.1).bind fun t341 => (if t341 = true then ((spec_l6Rd_pick.f k s0_0 bt339.2 5).bind fun bt342 => (spec_l91Plain.j0 k bt339.1 (bt342.1 == 0) s0_0 bt342.2 a1_0 l1_1)) else (spec_l91Plain.j0 k bt339.1 true s0_0 bt339.2 a1_0 l1_1)))
theorem spec_l91Plain.mono_l : ∀ k, (∀ y0 y1 y2 y3 y4 y5, LeO (spec_l91Plain.j0 k y0 y1 y2 y3 y4 y5) (spec_l91Plain.j0 (k + 1) y0 y1 y2 y3 y4 y5)) ∧ (∀ y0 y1 y2 y3 y4 y5, LeO (spec_l91Plain.l0 k y0 y1 y2 y3 y4 y5) (spec_l91Plain.l0 (k + 1) y0 y1 y2 y3 y4 y5)) ∧ (∀ y0 y1 y2 y3 y4 y5 y6, LeO (spec_l91Plain.l1 k y0 y1 y2 y3 y4 y5 y6) (spec_l91Plain.l1 (k + 1) y0 y1 y2 y3 y4 y5 y6))
 | 0 => ⟨fun _ _ _ _ _ _ r h => by simp [spec_l91Plain.j0] at h, fun _ _ _ _ _ _ r h => by simp [spec_l91Plain.l0] at h, fun _ _ _ _ _ _ _ r h => by simp [spec_l91Plain.l1] at h⟩
 | k + 1 => by
  obtain ⟨ih0, ih1, ih2⟩ := spec_l91Plain.mono_l k
  refine ⟨?_, ?_, ?_⟩
  ·intro y0 y1 y2 y3 y4 y5
   unfold spec_l91Plain.j0
   repeat' first
   | (with_reducible exact ih0 _ _ _ _ _ _)
   | (with_reducible exact ih1 _ _ _ _ _ _)
   | (with_reducible exact ih2 _ _ _ _ _ _ _)
   | (with_reducible exact spec_WayIn.mono _ _ _ _)
   | (with_reducible exact spec_l6Rd_pick.mono _ _ _ _)
   | (with_reducible exact spec_l91Way.mono _ _ _ _ _)
   | (with_reducible exact LeO.refl _)
   | (with_reducible exact LeO.none _)
   | (with_reducible refine LeO.ite ?_ ?_)
   | (with_reducible refine LeO.bind ?_ (fun _ => ?_))
   | exact ih0 _ _ _ _ _ _
   | exact ih1 _ _ _ _ _ _
   | exact ih2 _ _ _ _ _ _ _
   | exact spec_WayIn.mono _ _ _ _
   | exact spec_l6Rd_pick.mono _ _ _ _
   | exact spec_l91Way.mono _ _ _ _ _
   | exact LeO.none _
   | refine LeO.ite ?_ ?_
   | refine LeO.bind ?_ (fun _ => ?_)
  ·intro y0 y1 y2 y3 y4 y5
   unfold spec_l91Plain.l0
   repeat' first
   | (with_reducible exact ih0 _ _ _ _ _ _)
   | (with_reducible exact ih1 _ _ _ _ _ _)
   | (with_reducible exact ih2 _ _ _ _ _ _ _)
   | (with_reducible exact spec_WayIn.mono _ _ _ _)
   | (with_reducible exact spec_l6Rd_pick.mono _ _ _ _)
   | (with_reducible exact spec_l91Way.mono _ _ _ _ _)
   | (with_reducible exact LeO.refl _)
   | (with_reducible exact LeO.none _)
   | (with_reducible refine LeO.ite ?_ ?_)
   | (with_reducible refine LeO.bind ?_ (fun _ => ?_))
   | exact ih0 _ _ _ _ _ _
   | exact ih1 _ _ _ _ _ _
   | exact ih2 _ _ _ _ _ _ _
   | exact spec_WayIn.mono _ _ _ _
   | exact spec_l6Rd_pick.mono _ _ _ _
   | exact spec_l91Way.mono _ _ _ _ _
   | exact LeO.none _
   | refine LeO.ite ?_ ?_
   | refine LeO.bind ?_ (fun _ => ?_)
  ·intro y0 y1 y2 y3 y4 y5 y6
   unfold spec_l91Plain.l1
   repeat' first
   | (with_reducible exact ih0 _ _ _ _ _ _)
   | (with_reducible exact ih1 _ _ _ _ _ _)
   | (with_reducible exact ih2 _ _ _ _ _ _ _)
   | (with_reducible exact spec_WayIn.mono _ _ _ _)
   | (with_reducible exact spec_l6Rd_pick.mono _ _ _ _)
   | (with_reducible exact spec_l91Way.mono _ _ _ _ _)
   | (with_reducible exact LeO.refl _)
   | (with_reducible exact LeO.none _)
   | (with_reducible refine LeO.ite ?_ ?_)
   | (with_reducible refine LeO.bind ?_ (fun _ => ?_))
   | exact ih0 _ _ _ _ _ _
   | exact ih1 _ _ _ _ _ _
   | exact ih2 _ _ _ _ _ _ _
   | exact spec_WayIn.mono _ _ _ _
   | exact spec_l6Rd_pick.mono _ _ _ _
   | exact spec_l91Way.mono _ _ _ _ _
   | exact LeO.none _
   | refine LeO.ite ?_ ?_
   | refine LeO.bind ?_ (fun _ => ?_)
theorem spec_l91Plain.mono : ∀ a0 a1 a2 a3 k, LeO (spec_l91Plain.f k a0 a1 a2 a3) (spec_l91Plain.f (k + 1) a0 a1 a2 a3) := by
 intro a0 a1 a2 a3 k; obtain ⟨ih0, ih1, ih2⟩ := spec_l91Plain.mono_l k
 unfold spec_l91Plain.f
 repeat' first
   | (with_reducible exact ih0 _ _ _ _ _ _)
   | (with_reducible exact ih1 _ _ _ _ _ _)
   | (with_reducible exact ih2 _ _ _ _ _ _ _)
   | (with_reducible exact spec_WayIn.mono _ _ _ _)
   | (with_reducible exact spec_l6Rd_pick.mono _ _ _ _)
   | (with_reducible exact spec_l91Way.mono _ _ _ _ _)
   | (with_reducible exact LeO.refl _)
   | (with_reducible exact LeO.none _)
   | (with_reducible refine LeO.ite ?_ ?_)
   | (with_reducible refine LeO.bind ?_ (fun _ => ?_))
   | exact ih0 _ _ _ _ _ _
   | exact ih1 _ _ _ _ _ _
   | exact ih2 _ _ _ _ _ _ _
   | exact spec_WayIn.mono _ _ _ _
   | exact spec_l6Rd_pick.mono _ _ _ _
   | exact spec_l91Way.mono _ _ _ _ _
   | exact LeO.none _
   | refine LeO.ite ?_ ?_
   | refine LeO.bind ?_ (fun _ => ?_)
set_option maxHeartbeats 8000000 in
set_option maxRecDepth 100000 in
theorem spec_l91Plain.calls (k : Nat) (g : Nat) (s0_0 : List Int) (s0_1 : Int) (a1_0 : Int) (A1_1 : Option Addr) (c1_1 : Nat) (l1_1 : List (S69)) (r1 : Int) (r2 : Int) (w0 w : World) (hI : IsS99 w0 w g s0_0 s0_1) (hB : Below w0.heap.size w0 w) (hr1_1 : ∀ W_, KeepBut w W_ g none → Kd.C k69 W_ A1_1 l1_1.length l1_1) (hc1_1 : l1_1.length ≤ c1_1) (h : spec_l91Plain.f k s0_0 s0_1 a1_0 l1_1 = some (r1, r2)) :
  Calls Try.prog 98 #[.pointer (some ⟨g, 0, none⟩), .agg #[.int .i64 a1_0, .slice A1_1 l1_1.length c1_1]] w fun e w' => e = .returned (.int .i64 r1) ∧ IsS99 w0 w' g s0_0 r2 ∧ Below w0.heap.size w0 w' ∧ KeepBut w w' g none := by
 have hu25 := Try.underlying25; have HR1_1 := Aside0.mk hr1_1; have HC1_1 := Aside0.mk hc1_1; clear hr1_1 hc1_1; have HI0 := Aside0.mk hI; have HK := Aside0.mk (KeepBut.refl w g none); have HL := Aside0.mk hB.size; clear hI; have HW0 := Aside0.mk hB.size; have HB := Aside0.mk hB; clear hB; have H : ((spec_l91Way.f k s0_0 s0_1 a1_0 l1_1).bind fun bt339 => ((spec_WayIn.f k a1_0 l1_1 bt339.1).bind fun t341 => (if t341 = true then ((spec_l6Rd_pick.f k s0_0 bt339.2 5).bind fun bt342 => (spec_l91Plain.j0 k bt339.1 (bt342.1 == 0) s0_0 bt342.2 a1_0 l1_1)) else (spec_l91Plain.j0 k bt339.1 true s0_0 bt339.2 a1_0 l1_1)))) = some (r1, r2) := h; clear h; replace H := Option.bind_eq_some_iff.mp H; obtain ⟨⟨t339, t340⟩, A30, H⟩ := H; replace H : ((spec_WayIn.f k a1_0 l1_1 t339).bind fun t341 => (if t341 = true then ((spec_l6Rd_pick.f k s0_0 t340 5).bind fun bt342 => (spec_l91Plain.j0 k t339 (bt342.1 == 0) s0_0 bt342.2 a1_0 l1_1)) else (spec_l91Plain.j0 k t339 true s0_0 t340 a1_0 l1_1))) = some (r1, r2) := H; have A3 := Aside0.mk A30; clear A30; have HC4 := Aside0.mk H; clear H
 go_enter Try.func98, Try.ntmps98
 go_upto_region 2 with (first | ((with_reducible refine gate_dst (N := 3) rfl ?_); refine box_event ?hg (N := 3) ?hd (cs := #[.int .i64 a1_0, .slice A1_1 l1_1.length c1_1]) (t := 25) ?hr ?_; (case hd => rfl); (case hg => rfl); (case hr => first | (go_simp; done) | (go_simp; rfl)); intro gb338 hg w5 hbox hb; have n0_ := Aside0.mk (IsS99.below (by exact viaI HI0.out) hb); have n1_ := Aside0.mk (KeepBut.trans (viaK HK.out) (KeepBut.of_below hb g none) (.inl rfl)); have n2_ := Aside0.mk (below_step (viaX HB.out (IsS99.ge HI0.out)) hb); have n3_ := Aside0.mk (hbox); have n4_ := Aside0.mk ((by rw [hg]; exact (keep_size (w := w) (g := g) (row := none) (viaK HK.out)) : w.heap.size ≤ gb338)); have n5_ := Aside0.mk ((Nat.le_trans HW0.out (by rw [hg]; exact (keep_size (w := w) (g := g) (row := none) (viaK HK.out)) : w.heap.size ≤ gb338) : w0.heap.size ≤ gb338)); have n6_ := Aside0.mk ((by rw [hg]; exact Nat.ne_of_lt (IsS99.lt (show IsS99 w0 _ g s0_0 s0_1 from by exact viaI HI0.out)) : g ≠ gb338)); have n7_ := Aside0.mk ((by rw [hg]; exact Nat.ne_of_gt (IsS99.lt (show IsS99 w0 _ g s0_0 s0_1 from by exact viaI HI0.out)) : gb338 ≠ g)); clear HI0; clear HK; clear HB; have HI0 := n0_; have HK := n1_; have HB := n2_; have BK338 := n3_; have GW338 := n4_; have GE338 := n5_; have NB0_338 := n6_; have NB338_0 := n7_; clear n0_ n1_ n2_ n3_ n4_ n5_ n6_ n7_; clear hb hbox hg; have hnb6 := NB338_0.out; have hnc6 := NB0_338.out; have hcz7_0 : w5.cell? ⟨gb338, 0, none⟩ = some (.int .i64 a1_0) := (blk_cell BK338.out 0).trans rfl; have hcz7_1 : w5.cell? ⟨gb338, 1, none⟩ = some (.slice A1_1 l1_1.length c1_1) := (blk_cell BK338.out 1).trans rfl; have hfz7_0 := blk_frozen BK338.out 0; have hfz7_1 := blk_frozen BK338.out 1) | (go_at_call 84; (with_reducible refine (spec_l91Way.calls k g s0_0 s0_1 a1_0 _ _ l1_1 t339 t340 w0 _ ?side1 ?side2 ?side3 ?side4 A3.out).mono ?_); (case side1 => exact viaI1 HI0.out NB0_338.out); (case side2 => repeat (first | (with_reducible first | exact HB.out | apply below_alloc | apply pw_below_drewN | apply below_drew1 | refine below_set ?_ (IsS99.ge HI0.out) | refine below_set ?_ GE338.out) | exact HB.out)); (case side3 => exact Kd.C_foot_step HR1_1.out (viaK1 HK.out GW338.out)); (case side4 => exact HC1_1.out); rintro e w8 ⟨rfl, hi, hb, hk⟩; have n0_ := Aside0.mk (KeepBut.blk hk (g' := gb338) (o := .cells #[.int .i64 a1_0, .slice A1_1 l1_1.length c1_1] 25 (0, 0)) (viaB BK338.out) NB338_0.out (by simp)); have n1_ := Aside0.mk (KeepBut.trans (viaK1 HK.out GW338.out) hk (.inl rfl)); have n2_ := Aside0.mk (hb); have n3_ := Aside0.mk (hi); clear BK338; clear HK; clear HB; clear HI0; have BK338 := n0_; have HK := n1_; have HB := n2_; have HI0 := n3_; clear n0_ n1_ n2_ n3_; (try clear hb); (try clear hb2); (try clear hk); (try clear hi)))
 repeat (go_quiet (first | ((with_reducible refine gate_dst (N := 3) rfl ?_); refine box_event ?hg (N := 3) ?hd (cs := #[.int .i64 a1_0, .slice A1_1 l1_1.length c1_1]) (t := 25) ?hr ?_; (case hd => rfl); (case hg => rfl); (case hr => first | (go_simp; done) | (go_simp; rfl)); intro gb338 hg w5 hbox hb; have n0_ := Aside0.mk (IsS99.below (by exact viaI HI0.out) hb); have n1_ := Aside0.mk (KeepBut.trans (viaK HK.out) (KeepBut.of_below hb g none) (.inl rfl)); have n2_ := Aside0.mk (below_step (viaX HB.out (IsS99.ge HI0.out)) hb); have n3_ := Aside0.mk (hbox); have n4_ := Aside0.mk ((by rw [hg]; exact (keep_size (w := w) (g := g) (row := none) (viaK HK.out)) : w.heap.size ≤ gb338)); have n5_ := Aside0.mk ((Nat.le_trans HW0.out (by rw [hg]; exact (keep_size (w := w) (g := g) (row := none) (viaK HK.out)) : w.heap.size ≤ gb338) : w0.heap.size ≤ gb338)); have n6_ := Aside0.mk ((by rw [hg]; exact Nat.ne_of_lt (IsS99.lt (show IsS99 w0 _ g s0_0 s0_1 from by exact viaI HI0.out)) : g ≠ gb338)); have n7_ := Aside0.mk ((by rw [hg]; exact Nat.ne_of_gt (IsS99.lt (show IsS99 w0 _ g s0_0 s0_1 from by exact viaI HI0.out)) : gb338 ≠ g)); clear HI0; clear HK; clear HB; have HI0 := n0_; have HK := n1_; have HB := n2_; have BK338 := n3_; have GW338 := n4_; have GE338 := n5_; have NB0_338 := n6_; have NB338_0 := n7_; clear n0_ n1_ n2_ n3_ n4_ n5_ n6_ n7_; clear hb hbox hg; have hnb6 := NB338_0.out; have hnc6 := NB0_338.out; have hcz7_0 : w5.cell? ⟨gb338, 0, none⟩ = some (.int .i64 a1_0) := (blk_cell BK338.out 0).trans rfl; have hcz7_1 : w5.cell? ⟨gb338, 1, none⟩ = some (.slice A1_1 l1_1.length c1_1) := (blk_cell BK338.out 1).trans rfl; have hfz7_0 := blk_frozen BK338.out 0; have hfz7_1 := blk_frozen BK338.out 1) | (go_at_call 84; (with_reducible refine (spec_l91Way.calls k g s0_0 s0_1 a1_0 _ _ l1_1 t339 t340 w0 _ ?side1 ?side2 ?side3 ?side4 A3.out).mono ?_); (case side1 => exact viaI1 HI0.out NB0_338.out); (case side2 => repeat (first | (with_reducible first | exact HB.out | apply below_alloc | apply pw_below_drewN | apply below_drew1 | refine below_set ?_ (IsS99.ge HI0.out) | refine below_set ?_ GE338.out) | exact HB.out)); (case side3 => exact Kd.C_foot_step HR1_1.out (viaK1 HK.out GW338.out)); (case side4 => exact HC1_1.out); rintro e w8 ⟨rfl, hi, hb, hk⟩; have n0_ := Aside0.mk (KeepBut.blk hk (g' := gb338) (o := .cells #[.int .i64 a1_0, .slice A1_1 l1_1.length c1_1] 25 (0, 0)) (viaB BK338.out) NB338_0.out (by simp)); have n1_ := Aside0.mk (KeepBut.trans (viaK1 HK.out GW338.out) hk (.inl rfl)); have n2_ := Aside0.mk (hb); have n3_ := Aside0.mk (hi); clear BK338; clear HK; clear HB; clear HI0; have BK338 := n0_; have HK := n1_; have HB := n2_; have HI0 := n3_; clear n0_ n1_ n2_ n3_; (try clear hb); (try clear hb2); (try clear hk); (try clear hi))); go_upto_region 2 with (first | ((with_reducible refine gate_dst (N := 3) rfl ?_); refine box_event ?hg (N := 3) ?hd (cs := #[.int .i64 a1_0, .slice A1_1 l1_1.length c1_1]) (t := 25) ?hr ?_; (case hd => rfl); (case hg => rfl); (case hr => first | (go_simp; done) | (go_simp; rfl)); intro gb338 hg w5 hbox hb; have n0_ := Aside0.mk (IsS99.below (by exact viaI HI0.out) hb); have n1_ := Aside0.mk (KeepBut.trans (viaK HK.out) (KeepBut.of_below hb g none) (.inl rfl)); have n2_ := Aside0.mk (below_step (viaX HB.out (IsS99.ge HI0.out)) hb); have n3_ := Aside0.mk (hbox); have n4_ := Aside0.mk ((by rw [hg]; exact (keep_size (w := w) (g := g) (row := none) (viaK HK.out)) : w.heap.size ≤ gb338)); have n5_ := Aside0.mk ((Nat.le_trans HW0.out (by rw [hg]; exact (keep_size (w := w) (g := g) (row := none) (viaK HK.out)) : w.heap.size ≤ gb338) : w0.heap.size ≤ gb338)); have n6_ := Aside0.mk ((by rw [hg]; exact Nat.ne_of_lt (IsS99.lt (show IsS99 w0 _ g s0_0 s0_1 from by exact viaI HI0.out)) : g ≠ gb338)); have n7_ := Aside0.mk ((by rw [hg]; exact Nat.ne_of_gt (IsS99.lt (show IsS99 w0 _ g s0_0 s0_1 from by exact viaI HI0.out)) : gb338 ≠ g)); clear HI0; clear HK; clear HB; have HI0 := n0_; have HK := n1_; have HB := n2_; have BK338 := n3_; have GW338 := n4_; have GE338 := n5_; have NB0_338 := n6_; have NB338_0 := n7_; clear n0_ n1_ n2_ n3_ n4_ n5_ n6_ n7_; clear hb hbox hg; have hnb6 := NB338_0.out; have hnc6 := NB0_338.out; have hcz7_0 : w5.cell? ⟨gb338, 0, none⟩ = some (.int .i64 a1_0) := (blk_cell BK338.out 0).trans rfl; have hcz7_1 : w5.cell? ⟨gb338, 1, none⟩ = some (.slice A1_1 l1_1.length c1_1) := (blk_cell BK338.out 1).trans rfl; have hfz7_0 := blk_frozen BK338.out 0; have hfz7_1 := blk_frozen BK338.out 1) | (go_at_call 84; (with_reducible refine (spec_l91Way.calls k g s0_0 s0_1 a1_0 _ _ l1_1 t339 t340 w0 _ ?side1 ?side2 ?side3 ?side4 A3.out).mono ?_); (case side1 => exact viaI1 HI0.out NB0_338.out); (case side2 => repeat (first | (with_reducible first | exact HB.out | apply below_alloc | apply pw_below_drewN | apply below_drew1 | refine below_set ?_ (IsS99.ge HI0.out) | refine below_set ?_ GE338.out) | exact HB.out)); (case side3 => exact Kd.C_foot_step HR1_1.out (viaK1 HK.out GW338.out)); (case side4 => exact HC1_1.out); rintro e w8 ⟨rfl, hi, hb, hk⟩; have n0_ := Aside0.mk (KeepBut.blk hk (g' := gb338) (o := .cells #[.int .i64 a1_0, .slice A1_1 l1_1.length c1_1] 25 (0, 0)) (viaB BK338.out) NB338_0.out (by simp)); have n1_ := Aside0.mk (KeepBut.trans (viaK1 HK.out GW338.out) hk (.inl rfl)); have n2_ := Aside0.mk (hb); have n3_ := Aside0.mk (hi); clear BK338; clear HK; clear HB; clear HI0; have BK338 := n0_; have HK := n1_; have HB := n2_; have HI0 := n3_; clear n0_ n1_ n2_ n3_; (try clear hb); (try clear hb2); (try clear hk); (try clear hi))))
 (try simp only [Act.put, List.setIfInBounds_toArray, List.set_cons_zero, List.set_cons_succ])
 go_cut [20] (fun v20 wc => ∃ (kq : Nat) (x20_3 : Bool) (x1001_3 : Int), v20 = .bool x20_3 ∧ Aside0 (spec_l91Plain.j0 kq t339 x20_3 s0_0 x1001_3 a1_0 l1_1 = some (r1, r2)) ∧ Aside0 (kq ≤ k) ∧ Aside0 (wc.heap[gb338]? = some (.cells #[.int .i64 a1_0, (.slice A1_1 l1_1.length c1_1)] 25 (0, 0))) ∧ Aside0 (IsS99 w0 wc g s0_0 x1001_3) ∧ Aside0 (KeepBut w wc g none) ∧ Aside0 (Below w0.heap.size w0 wc))
 case first =>
  have H := HC4.out; clear HC4; replace H := Option.bind_eq_some_iff.mp H; obtain ⟨t341, A90, H⟩ := H; replace H : (if t341 = true then ((spec_l6Rd_pick.f k s0_0 t340 5).bind fun bt342 => (spec_l91Plain.j0 k t339 (bt342.1 == 0) s0_0 bt342.2 a1_0 l1_1)) else (spec_l91Plain.j0 k t339 true s0_0 t340 a1_0 l1_1)) = some (r1, r2) := H; have A9 := Aside0.mk A90; clear A90
  by_cases c10 : t341 = true
  ·subst c10
   have H1 : ((spec_l6Rd_pick.f k s0_0 t340 5).bind fun bt342 => (spec_l91Plain.j0 k t339 (bt342.1 == 0) s0_0 bt342.2 a1_0 l1_1)) = some (r1, r2) := by rw [if_pos rfl] at H; exact H
   clear H; have H := H1; clear H1; replace H := Option.bind_eq_some_iff.mp H; obtain ⟨⟨t342, t343⟩, A110, H⟩ := H; replace H : (spec_l91Plain.j0 k t339 (t342 == 0) s0_0 t343 a1_0 l1_1) = some (r1, r2) := H; have A11 := Aside0.mk A110; clear A110; have H' := Aside0.mk H; clear H; have hnb12 := NB338_0.out; have hnc12 := NB0_338.out; have hcz13_0 : w8.cell? ⟨gb338, 0, none⟩ = some (.int .i64 a1_0) := (blk_cell BK338.out 0).trans rfl; have hcz13_1 : w8.cell? ⟨gb338, 1, none⟩ = some (.slice A1_1 l1_1.length c1_1) := (blk_cell BK338.out 1).trans rfl; have hfz13_0 := blk_frozen BK338.out 0; have hfz13_1 := blk_frozen BK338.out 1
   go_wp2_with (first | (go_at_call 63; (with_reducible refine (spec_WayIn.calls k a1_0 _ _ l1_1 t339 true _ ?side1 ?side2 A9.out).mono ?_); (case side1 => exact Kd.C_foot_now HR1_1.out (viaK1 HK.out GW338.out)); (case side2 => exact HC1_1.out); rintro e w14 ⟨rfl, hb⟩; have n0_ := Aside0.mk (IsS99.below (by exact viaI1 HI0.out NB0_338.out) hb); have n1_ := Aside0.mk (blk_below (g := gb338) (o := .cells #[.int .i64 a1_0, .slice A1_1 l1_1.length c1_1] 25 (0, 0)) (viaB BK338.out) hb); have n2_ := Aside0.mk (KeepBut.trans (viaK1 HK.out GW338.out) (KeepBut.of_below hb g none) (.inl rfl)); have n3_ := Aside0.mk (below_step (viaX2 HB.out (IsS99.ge HI0.out) GE338.out) hb); clear HI0; clear BK338; clear HK; clear HB; have HI0 := n0_; have BK338 := n1_; have HK := n2_; have HB := n3_; clear n0_ n1_ n2_ n3_; (try clear hb); (try clear hb2); (try clear hk); (try clear hi)) | (go_at_call 85; (with_reducible refine (spec_l6Rd_pick.calls k g s0_0 t340 5 t342 t343 w0 _ ?side1 ?side2 A11.out).mono ?_); (case side1 => exact viaI1 HI0.out NB0_338.out); (case side2 => repeat (first | (with_reducible first | exact HB.out | apply below_alloc | apply pw_below_drewN | apply below_drew1 | refine below_set ?_ (IsS99.ge HI0.out) | refine below_set ?_ GE338.out) | exact HB.out)); rintro e w15 ⟨rfl, hi, hb, hk⟩; have n0_ := Aside0.mk (KeepBut.blk hk (g' := gb338) (o := .cells #[.int .i64 a1_0, .slice A1_1 l1_1.length c1_1] 25 (0, 0)) (viaB BK338.out) NB338_0.out (by simp)); have n1_ := Aside0.mk (KeepBut.trans (viaK1 HK.out GW338.out) hk (.inl rfl)); have n2_ := Aside0.mk (hb); have n3_ := Aside0.mk (hi); clear BK338; clear HK; clear HB; clear HI0; have BK338 := n0_; have HK := n1_; have HB := n2_; have HI0 := n3_; clear n0_ n1_ n2_ n3_; (try clear hb); (try clear hb2); (try clear hk); (try clear hi)))
   repeat (go_quiet (first | (go_at_call 63; (with_reducible refine (spec_WayIn.calls k a1_0 _ _ l1_1 t339 true _ ?side1 ?side2 A9.out).mono ?_); (case side1 => exact Kd.C_foot_now HR1_1.out (viaK1 HK.out GW338.out)); (case side2 => exact HC1_1.out); rintro e w14 ⟨rfl, hb⟩; have n0_ := Aside0.mk (IsS99.below (by exact viaI1 HI0.out NB0_338.out) hb); have n1_ := Aside0.mk (blk_below (g := gb338) (o := .cells #[.int .i64 a1_0, .slice A1_1 l1_1.length c1_1] 25 (0, 0)) (viaB BK338.out) hb); have n2_ := Aside0.mk (KeepBut.trans (viaK1 HK.out GW338.out) (KeepBut.of_below hb g none) (.inl rfl)); have n3_ := Aside0.mk (below_step (viaX2 HB.out (IsS99.ge HI0.out) GE338.out) hb); clear HI0; clear BK338; clear HK; clear HB; have HI0 := n0_; have BK338 := n1_; have HK := n2_; have HB := n3_; clear n0_ n1_ n2_ n3_; (try clear hb); (try clear hb2); (try clear hk); (try clear hi)) | (go_at_call 85; (with_reducible refine (spec_l6Rd_pick.calls k g s0_0 t340 5 t342 t343 w0 _ ?side1 ?side2 A11.out).mono ?_); (case side1 => exact viaI1 HI0.out NB0_338.out); (case side2 => repeat (first | (with_reducible first | exact HB.out | apply below_alloc | apply pw_below_drewN | apply below_drew1 | refine below_set ?_ (IsS99.ge HI0.out) | refine below_set ?_ GE338.out) | exact HB.out)); rintro e w15 ⟨rfl, hi, hb, hk⟩; have n0_ := Aside0.mk (KeepBut.blk hk (g' := gb338) (o := .cells #[.int .i64 a1_0, .slice A1_1 l1_1.length c1_1] 25 (0, 0)) (viaB BK338.out) NB338_0.out (by simp)); have n1_ := Aside0.mk (KeepBut.trans (viaK1 HK.out GW338.out) hk (.inl rfl)); have n2_ := Aside0.mk (hb); have n3_ := Aside0.mk (hi); clear BK338; clear HK; clear HB; clear HI0; have BK338 := n0_; have HK := n1_; have HB := n2_; have HI0 := n3_; clear n0_ n1_ n2_ n3_; (try clear hb); (try clear hb2); (try clear hk); (try clear hi))); try go_wp2_with (first | (go_at_call 63; (with_reducible refine (spec_WayIn.calls k a1_0 _ _ l1_1 t339 true _ ?side1 ?side2 A9.out).mono ?_); (case side1 => exact Kd.C_foot_now HR1_1.out (viaK1 HK.out GW338.out)); (case side2 => exact HC1_1.out); rintro e w14 ⟨rfl, hb⟩; have n0_ := Aside0.mk (IsS99.below (by exact viaI1 HI0.out NB0_338.out) hb); have n1_ := Aside0.mk (blk_below (g := gb338) (o := .cells #[.int .i64 a1_0, .slice A1_1 l1_1.length c1_1] 25 (0, 0)) (viaB BK338.out) hb); have n2_ := Aside0.mk (KeepBut.trans (viaK1 HK.out GW338.out) (KeepBut.of_below hb g none) (.inl rfl)); have n3_ := Aside0.mk (below_step (viaX2 HB.out (IsS99.ge HI0.out) GE338.out) hb); clear HI0; clear BK338; clear HK; clear HB; have HI0 := n0_; have BK338 := n1_; have HK := n2_; have HB := n3_; clear n0_ n1_ n2_ n3_; (try clear hb); (try clear hb2); (try clear hk); (try clear hi)) | (go_at_call 85; (with_reducible refine (spec_l6Rd_pick.calls k g s0_0 t340 5 t342 t343 w0 _ ?side1 ?side2 A11.out).mono ?_); (case side1 => exact viaI1 HI0.out NB0_338.out); (case side2 => repeat (first | (with_reducible first | exact HB.out | apply below_alloc | apply pw_below_drewN | apply below_drew1 | refine below_set ?_ (IsS99.ge HI0.out) | refine below_set ?_ GE338.out) | exact HB.out)); rintro e w15 ⟨rfl, hi, hb, hk⟩; have n0_ := Aside0.mk (KeepBut.blk hk (g' := gb338) (o := .cells #[.int .i64 a1_0, .slice A1_1 l1_1.length c1_1] 25 (0, 0)) (viaB BK338.out) NB338_0.out (by simp)); have n1_ := Aside0.mk (KeepBut.trans (viaK1 HK.out GW338.out) hk (.inl rfl)); have n2_ := Aside0.mk (hb); have n3_ := Aside0.mk (hi); clear BK338; clear HK; clear HB; clear HI0; have BK338 := n0_; have HK := n1_; have HB := n2_; have HI0 := n3_; clear n0_ n1_ n2_ n3_; (try clear hb); (try clear hb2); (try clear hk); (try clear hi))))
   go_meet
   case rel => exact ⟨_, ((t342 == 0)), (t343), (by first | rfl | (simp; done) | (simp [*]; done)), H', ⟨by first | omega | exact Nat.le_refl _⟩, ⟨viaB BK338.out⟩, ⟨by exact viaI1 HI0.out NB0_338.out⟩, ⟨viaK1 HK.out GW338.out⟩, ⟨viaX2 HB.out (IsS99.ge HI0.out) GE338.out⟩⟩
  ·replace c10 := Bool.eq_false_iff.mpr c10
   subst c10; have H1 : (spec_l91Plain.j0 k t339 true s0_0 t340 a1_0 l1_1) = some (r1, r2) := by rw [if_neg (show ¬ (false = true) by decide)] at H; exact H
   clear H; have H := H1; clear H1; have H' := Aside0.mk H; clear H; have hnb16 := NB338_0.out; have hnc16 := NB0_338.out; have hcz17_0 : w8.cell? ⟨gb338, 0, none⟩ = some (.int .i64 a1_0) := (blk_cell BK338.out 0).trans rfl; have hcz17_1 : w8.cell? ⟨gb338, 1, none⟩ = some (.slice A1_1 l1_1.length c1_1) := (blk_cell BK338.out 1).trans rfl; have hfz17_0 := blk_frozen BK338.out 0; have hfz17_1 := blk_frozen BK338.out 1
   go_wp2_with (first | (go_at_call 63; (with_reducible refine (spec_WayIn.calls k a1_0 _ _ l1_1 t339 false _ ?side1 ?side2 A9.out).mono ?_); (case side1 => exact Kd.C_foot_now HR1_1.out (viaK1 HK.out GW338.out)); (case side2 => exact HC1_1.out); rintro e w18 ⟨rfl, hb⟩; have n0_ := Aside0.mk (IsS99.below (by exact viaI1 HI0.out NB0_338.out) hb); have n1_ := Aside0.mk (blk_below (g := gb338) (o := .cells #[.int .i64 a1_0, .slice A1_1 l1_1.length c1_1] 25 (0, 0)) (viaB BK338.out) hb); have n2_ := Aside0.mk (KeepBut.trans (viaK1 HK.out GW338.out) (KeepBut.of_below hb g none) (.inl rfl)); have n3_ := Aside0.mk (below_step (viaX2 HB.out (IsS99.ge HI0.out) GE338.out) hb); clear HI0; clear BK338; clear HK; clear HB; have HI0 := n0_; have BK338 := n1_; have HK := n2_; have HB := n3_; clear n0_ n1_ n2_ n3_; (try clear hb); (try clear hb2); (try clear hk); (try clear hi)))
   repeat (go_quiet (first | (go_at_call 63; (with_reducible refine (spec_WayIn.calls k a1_0 _ _ l1_1 t339 false _ ?side1 ?side2 A9.out).mono ?_); (case side1 => exact Kd.C_foot_now HR1_1.out (viaK1 HK.out GW338.out)); (case side2 => exact HC1_1.out); rintro e w18 ⟨rfl, hb⟩; have n0_ := Aside0.mk (IsS99.below (by exact viaI1 HI0.out NB0_338.out) hb); have n1_ := Aside0.mk (blk_below (g := gb338) (o := .cells #[.int .i64 a1_0, .slice A1_1 l1_1.length c1_1] 25 (0, 0)) (viaB BK338.out) hb); have n2_ := Aside0.mk (KeepBut.trans (viaK1 HK.out GW338.out) (KeepBut.of_below hb g none) (.inl rfl)); have n3_ := Aside0.mk (below_step (viaX2 HB.out (IsS99.ge HI0.out) GE338.out) hb); clear HI0; clear BK338; clear HK; clear HB; have HI0 := n0_; have BK338 := n1_; have HK := n2_; have HB := n3_; clear n0_ n1_ n2_ n3_; (try clear hb); (try clear hb2); (try clear hk); (try clear hi))); try go_wp2_with (first | (go_at_call 63; (with_reducible refine (spec_WayIn.calls k a1_0 _ _ l1_1 t339 false _ ?side1 ?side2 A9.out).mono ?_); (case side1 => exact Kd.C_foot_now HR1_1.out (viaK1 HK.out GW338.out)); (case side2 => exact HC1_1.out); rintro e w18 ⟨rfl, hb⟩; have n0_ := Aside0.mk (IsS99.below (by exact viaI1 HI0.out NB0_338.out) hb); have n1_ := Aside0.mk (blk_below (g := gb338) (o := .cells #[.int .i64 a1_0, .slice A1_1 l1_1.length c1_1] 25 (0, 0)) (viaB BK338.out) hb); have n2_ := Aside0.mk (KeepBut.trans (viaK1 HK.out GW338.out) (KeepBut.of_below hb g none) (.inl rfl)); have n3_ := Aside0.mk (below_step (viaX2 HB.out (IsS99.ge HI0.out) GE338.out) hb); clear HI0; clear BK338; clear HK; clear HB; have HI0 := n0_; have BK338 := n1_; have HK := n2_; have HB := n3_; clear n0_ n1_ n2_ n3_; (try clear hb); (try clear hb2); (try clear hk); (try clear hi))))
   go_meet
   case rel => exact ⟨_, (true), (t340), (by first | rfl | (simp; done) | (simp [*]; done)), H', ⟨by first | omega | exact Nat.le_refl _⟩, ⟨viaB BK338.out⟩, ⟨by exact viaI1 HI0.out NB0_338.out⟩, ⟨viaK1 HK.out GW338.out⟩, ⟨viaX2 HB.out (IsS99.ge HI0.out) GE338.out⟩⟩
 case rest =>
  clear HC4
  try clear c1
  try clear p2
  try clear c6
  try clear c9
  try clear c10
  try clear c12
  try clear c16
  try clear hcz13_0
  try clear hcz13_1
  try clear hcz17_0
  try clear hcz17_1
  try clear hcz7_0
  try clear hcz7_1
  try clear hfz13_0
  try clear hfz13_1
  try clear hfz17_0
  try clear hfz17_1
  try clear hfz7_0
  try clear hfz7_1
  obtain ⟨kq, x20_3, x1001_3, rfl, HA, HJ3, BK338, HI0, HK, HB⟩ := hcut
  cases kq with
  | zero => exact absurd HA.out (by simp [spec_l91Plain.j0])
  | succ kj3 =>
   have H := HA.out; clear HA
   simp only [spec_l91Plain.j0] at H
   by_cases c19 : x20_3 = true
   ·subst c19
    have H1 : (some (t339, x1001_3)) = some (r1, r2) := by rw [if_pos rfl] at H; exact H
    clear H; have H := H1; clear H1
    simp only [Option.some.injEq, Prod.mk.injEq] at H
    obtain ⟨rfl, rfl⟩ := H
    go_wp2
    repeat (go_quiet (fail); try go_wp2)
    go_ret
    exact ⟨by first | rfl | (simp [errW_none, errW_some] <;> rfl) | (simp [*, errW_none, errW_some] <;> rfl), by exact viaI1 HI0.out NB0_338.out, viaX2 HB.out (IsS99.ge HI0.out) GE338.out, viaK1 HK.out GW338.out⟩
   ·replace c19 := Bool.eq_false_iff.mpr c19
    subst c19; have H1 : (spec_l91Plain.l0 kj3 (([] : List Int)) 0 s0_0 x1001_3 a1_0 l1_1) = some (r1, r2) := by rw [if_neg (show ¬ (false = true) by decide)] at H; exact H
    clear H; have H := H1; clear H1; obtain ⟨y344, hy344⟩ : ∃ y_ : List Int, y_ = (([] : List Int)) := ⟨_, rfl⟩; replace H : (spec_l91Plain.l0 kj3 y344 0 s0_0 x1001_3 a1_0 l1_1) = some (r1, r2) := by first | (rw [hy344]; with_reducible exact H) | (have H2_ := (Option.bind_some _ _).symm.trans H; rw [hy344]; with_reducible exact H2_) | (have H2_ := (Option.bind_some _ _).symm.trans H; with_reducible exact H2_) | with_reducible exact H | (rw [hy344]; exact H) | exact H
    have Ny344 := Aside0.mk hy344; clear hy344; have H' := Aside0.mk H; clear H
    go_wp2_with (first | ((with_reducible refine gate_dst (N := 22) rfl ?_); refine Kd.R_lit (Kd.int .i64) _ 3 ?hg (N := 22) ?hd (xs := ([] : List Int)) (inner := []) (ok := fun _ => True) (okp := fun _ => True) ?hr ?hp (fun _ hk => hk) trivial (Below.refl _ _) (Nat.le_refl _) (by simp) ?_; (case hd => rfl); (case hg => rfl); (case hr => first | (go_simp; done) | (go_simp; rfl)); (case hp => exact (Reps.none _ _)); intro v345 w20 ho21 hb hg_ hnew_; clear hg_ hnew_; (first | rw [← Ny344.out] at ho21 | (simp only [Int.reduceToNat] at ho21; rw [← Ny344.out] at ho21)); have n0_ := Aside0.mk (Kd.R_lower ho21 (keep_size (w := w) (g := g) (row := none) (viaK1 HK.out GW338.out))); have n1_ := Aside0.mk (blk_below (g := gb338) (o := .cells #[.int .i64 a1_0, .slice A1_1 l1_1.length c1_1] 25 (0, 0)) (viaB BK338.out) hb); have n2_ := Aside0.mk (IsS99.below (by exact viaI1 HI0.out NB0_338.out) hb); have n3_ := Aside0.mk (KeepBut.trans (viaK1 HK.out GW338.out) (KeepBut.of_below hb g none) (.inl rfl)); have n4_ := Aside0.mk (below_step (viaX2 HB.out (IsS99.ge HI0.out) GE338.out) hb); clear BK338; clear HI0; clear HK; clear HB; have HO346 := n0_; have BK338 := n1_; have HI0 := n2_; have HK := n3_; have HB := n4_; clear n0_ n1_ n2_ n3_ n4_; clear hb ho21))
    repeat (go_quiet (first | ((with_reducible refine gate_dst (N := 22) rfl ?_); refine Kd.R_lit (Kd.int .i64) _ 3 ?hg (N := 22) ?hd (xs := ([] : List Int)) (inner := []) (ok := fun _ => True) (okp := fun _ => True) ?hr ?hp (fun _ hk => hk) trivial (Below.refl _ _) (Nat.le_refl _) (by simp) ?_; (case hd => rfl); (case hg => rfl); (case hr => first | (go_simp; done) | (go_simp; rfl)); (case hp => exact (Reps.none _ _)); intro v345 w20 ho21 hb hg_ hnew_; clear hg_ hnew_; (first | rw [← Ny344.out] at ho21 | (simp only [Int.reduceToNat] at ho21; rw [← Ny344.out] at ho21)); have n0_ := Aside0.mk (Kd.R_lower ho21 (keep_size (w := w) (g := g) (row := none) (viaK1 HK.out GW338.out))); have n1_ := Aside0.mk (blk_below (g := gb338) (o := .cells #[.int .i64 a1_0, .slice A1_1 l1_1.length c1_1] 25 (0, 0)) (viaB BK338.out) hb); have n2_ := Aside0.mk (IsS99.below (by exact viaI1 HI0.out NB0_338.out) hb); have n3_ := Aside0.mk (KeepBut.trans (viaK1 HK.out GW338.out) (KeepBut.of_below hb g none) (.inl rfl)); have n4_ := Aside0.mk (below_step (viaX2 HB.out (IsS99.ge HI0.out) GE338.out) hb); clear BK338; clear HI0; clear HK; clear HB; have HO346 := n0_; have BK338 := n1_; have HI0 := n2_; have HK := n3_; have HB := n4_; clear n0_ n1_ n2_ n3_ n4_; clear hb ho21)); try go_wp2_with (first | ((with_reducible refine gate_dst (N := 22) rfl ?_); refine Kd.R_lit (Kd.int .i64) _ 3 ?hg (N := 22) ?hd (xs := ([] : List Int)) (inner := []) (ok := fun _ => True) (okp := fun _ => True) ?hr ?hp (fun _ hk => hk) trivial (Below.refl _ _) (Nat.le_refl _) (by simp) ?_; (case hd => rfl); (case hg => rfl); (case hr => first | (go_simp; done) | (go_simp; rfl)); (case hp => exact (Reps.none _ _)); intro v345 w20 ho21 hb hg_ hnew_; clear hg_ hnew_; (first | rw [← Ny344.out] at ho21 | (simp only [Int.reduceToNat] at ho21; rw [← Ny344.out] at ho21)); have n0_ := Aside0.mk (Kd.R_lower ho21 (keep_size (w := w) (g := g) (row := none) (viaK1 HK.out GW338.out))); have n1_ := Aside0.mk (blk_below (g := gb338) (o := .cells #[.int .i64 a1_0, .slice A1_1 l1_1.length c1_1] 25 (0, 0)) (viaB BK338.out) hb); have n2_ := Aside0.mk (IsS99.below (by exact viaI1 HI0.out NB0_338.out) hb); have n3_ := Aside0.mk (KeepBut.trans (viaK1 HK.out GW338.out) (KeepBut.of_below hb g none) (.inl rfl)); have n4_ := Aside0.mk (below_step (viaX2 HB.out (IsS99.ge HI0.out) GE338.out) hb); clear BK338; clear HI0; clear HK; clear HB; have HO346 := n0_; have BK338 := n1_; have HI0 := n2_; have HK := n3_; have HB := n4_; clear n0_ n1_ n2_ n3_ n4_; clear hb ho21)))
    go_loopg [6, 7] kj3 (fun kq v6 v7 w' => ∃ (x6_2 : List Int) (x7_2 : Int) (x1001_2 : Int), v7 = .int .i64 x7_2 ∧ Aside0 (spec_l91Plain.l0 kq x6_2 x7_2 s0_0 x1001_2 a1_0 l1_1 = some (r1, r2)) ∧ Aside0 (kq ≤ kj3) ∧ Aside0 (Kd.R (Kd.int .i64) 3 w' w.heap.size (fun _ => True) v6 x6_2) ∧ Aside0 (w'.heap[gb338]? = some (.cells #[.int .i64 a1_0, (.slice A1_1 l1_1.length c1_1)] 25 (0, 0))) ∧ Aside0 (IsS99 w0 w' g s0_0 x1001_2) ∧ Aside0 (KeepBut w w' g none) ∧ Aside0 (Below w0.heap.size w0 w'))
    case atStart => exact ⟨(y344), (0), (x1001_3), (by first | rfl | (simp; done) | (simp [*]; done)), H', ⟨Nat.le_refl _⟩, ⟨viaR HO346.out⟩, ⟨viaB BK338.out⟩, ⟨by exact viaI1 HI0.out NB0_338.out⟩, ⟨viaK1 HK.out GW338.out⟩, ⟨viaX2 HB.out (IsS99.ge HI0.out) GE338.out⟩⟩
    case round =>
     clear H'
     try clear c1
     try clear p2
     try clear c6
     try clear c9
     try clear c10
     try clear c12
     try clear c16
     try clear c19
     try clear hcz13_0
     try clear hcz13_1
     try clear hcz17_0
     try clear hcz17_1
     try clear hcz7_0
     try clear hcz7_1
     try clear hfz13_0
     try clear hfz13_1
     try clear hfz17_0
     try clear hfz17_1
     try clear hfz7_0
     try clear hfz7_1
     try clear p2
     obtain ⟨x6_2, x7_2, x1001_2, rfl, HA, HK2, HO_6, BK338, HI0, HK, HB⟩ := hrel
     cases gk with
     | zero => exact absurd HA.out (by simp [spec_l91Plain.l0])
     | succ k2 =>
      have H := HA.out; clear HA
      simp only [spec_l91Plain.l0] at H
      by_cases c22 : x7_2 < a1_0
      ·rw [if_pos c22] at H
       have c22b0 : decide (x7_2 < a1_0) = true := decide_eq_true c22; clear c22; replace H := Option.bind_eq_some_iff.mp H; obtain ⟨⟨t347, t348⟩, A230, H⟩ := H; replace H : (if x6_2.length < 17592186044416 then (spec_l91Plain.l0 k2 (x6_2 ++ [t347]) (wrap64 (x7_2 + 1)) s0_0 t348 a1_0 l1_1) else (none)) = some (r1, r2) := H; have A23 := Aside0.mk A230; clear A230
       by_cases c24 : x6_2.length < 17592186044416
       ·rw [if_pos c24] at H
        have LMc24 := Aside0.mk c24; clear c24; obtain ⟨y349, hy349⟩ : ∃ y_ : List Int, y_ = (x6_2 ++ [t347]) := ⟨_, rfl⟩; replace H : (spec_l91Plain.l0 k2 y349 (wrap64 (x7_2 + 1)) s0_0 t348 a1_0 l1_1) = some (r1, r2) := by first | (rw [hy349]; with_reducible exact H) | (have H2_ := (Option.bind_some _ _).symm.trans H; rw [hy349]; with_reducible exact H2_) | (have H2_ := (Option.bind_some _ _).symm.trans H; with_reducible exact H2_) | with_reducible exact H | (rw [hy349]; exact H) | exact H
        have Ny349 := Aside0.mk hy349; clear hy349; have H' := Aside0.mk H; clear H; have hnb25 := NB338_0.out; have hnc25 := NB0_338.out; have hcz26_0 : wr.cell? ⟨gb338, 0, none⟩ = some (.int .i64 a1_0) := (blk_cell BK338.out 0).trans rfl; have hcz26_1 : wr.cell? ⟨gb338, 1, none⟩ = some (.slice A1_1 l1_1.length c1_1) := (blk_cell BK338.out 1).trans rfl; have hfz26_0 := blk_frozen BK338.out 0; have hfz26_1 := blk_frozen BK338.out 1
        go_wp2_with (first | (go_at_call 85; (with_reducible refine (spec_l6Rd_pick.calls k2 g s0_0 x1001_2 8 t347 t348 w0 _ ?side1 ?side2 A23.out).mono ?_); (case side1 => exact viaI1 HI0.out NB0_338.out); (case side2 => repeat (first | (with_reducible first | exact HB.out | apply below_alloc | apply pw_below_drewN | apply below_drew1 | refine below_set ?_ (IsS99.ge HI0.out) | refine below_set ?_ GE338.out) | exact HB.out)); rintro e w27 ⟨rfl, hi, hb, hk⟩; have n0_ := Aside0.mk (Kd.R_mono (Kd.R_keep (IsS99.apart (show IsS99 w0 _ g s0_0 x1001_2 from by exact viaI1 HI0.out NB0_338.out) (viaR HO_6.out) (by decide)) hk (fun _ h => h.2)) (fun _ h => h.1)); have n1_ := Aside0.mk (KeepBut.blk hk (g' := gb338) (o := .cells #[.int .i64 a1_0, .slice A1_1 l1_1.length c1_1] 25 (0, 0)) (viaB BK338.out) NB338_0.out (by simp)); have n2_ := Aside0.mk (KeepBut.trans (viaK1 HK.out GW338.out) hk (.inl rfl)); have n3_ := Aside0.mk (hb); have n4_ := Aside0.mk (hi); clear HO_6; clear BK338; clear HK; clear HB; clear HI0; have HO_6 := n0_; have BK338 := n1_; have HK := n2_; have HB := n3_; have HI0 := n4_; clear n0_ n1_ n2_ n3_ n4_; (try clear hb); (try clear hb2); (try clear hk); (try clear hi)) | ((with_reducible refine gate_builtin (b := .append) (xs := #[.tmp 29, .tmp 32]) rfl ?_); at_builtin; refine Kd.R_append (Kd.int .i64) w.heap.size rfl (.tmp 29) (.tmp 32) 30 3 (.int .i64 0) 8 rfl Try.underlying30 info3 rfl (by decide) (by omega) u6 x6_2 t347 [.int .i64 t347] (fun _ => True) (fun _ => False) rfl rfl ?aP (fun _ hk => hk.elim) ?aF ?aO (Below.refl _ _) ?aS ?aL ?_; (case aP => exact rfl); (case aF => exact (fun _ _ => trivial)); (case aO => exact (viaR HO_6.out)); (case aS => exact (keep_size (w := w) (g := g) (row := none) (viaK1 HK.out GW338.out))); (case aL => have := LMc24.out; omega); intro v350 w28 ho hb hg hat; rw [← Ny349.out] at ho; have n0_ := Aside0.mk (blk_grown (g := gb338) (o := .cells #[.int .i64 a1_0, .slice A1_1 l1_1.length c1_1] 25 (0, 0)) (viaB BK338.out) hg (Kd.R_ne HO_6.out BK338.out (by decide))); have n1_ := Aside0.mk (IsS99.grown (by exact viaI1 HI0.out NB0_338.out) hg (IsS99.own_ne HI0.out HO_6.out (by decide))); have n2_ := Aside0.mk (below_weaken (viaX2 HB.out (IsS99.ge HI0.out) GE338.out) HL.out hb); have n3_ := Aside0.mk (KeepBut.trans (viaK1 HK.out GW338.out) (KeepBut.of_grown hg g) (Kd.R_base2 HO_6.out)); have n4_ := Aside0.mk (ho); clear BK338; clear HI0; clear HB; clear HK; clear HO_6; have BK338 := n0_; have HI0 := n1_; have HB := n2_; have HK := n3_; have HO351 := n4_; clear n0_ n1_ n2_ n3_ n4_; clear ho hb hg hat))
        repeat (go_quiet (first | (go_at_call 85; (with_reducible refine (spec_l6Rd_pick.calls k2 g s0_0 x1001_2 8 t347 t348 w0 _ ?side1 ?side2 A23.out).mono ?_); (case side1 => exact viaI1 HI0.out NB0_338.out); (case side2 => repeat (first | (with_reducible first | exact HB.out | apply below_alloc | apply pw_below_drewN | apply below_drew1 | refine below_set ?_ (IsS99.ge HI0.out) | refine below_set ?_ GE338.out) | exact HB.out)); rintro e w27 ⟨rfl, hi, hb, hk⟩; have n0_ := Aside0.mk (Kd.R_mono (Kd.R_keep (IsS99.apart (show IsS99 w0 _ g s0_0 x1001_2 from by exact viaI1 HI0.out NB0_338.out) (viaR HO_6.out) (by decide)) hk (fun _ h => h.2)) (fun _ h => h.1)); have n1_ := Aside0.mk (KeepBut.blk hk (g' := gb338) (o := .cells #[.int .i64 a1_0, .slice A1_1 l1_1.length c1_1] 25 (0, 0)) (viaB BK338.out) NB338_0.out (by simp)); have n2_ := Aside0.mk (KeepBut.trans (viaK1 HK.out GW338.out) hk (.inl rfl)); have n3_ := Aside0.mk (hb); have n4_ := Aside0.mk (hi); clear HO_6; clear BK338; clear HK; clear HB; clear HI0; have HO_6 := n0_; have BK338 := n1_; have HK := n2_; have HB := n3_; have HI0 := n4_; clear n0_ n1_ n2_ n3_ n4_; (try clear hb); (try clear hb2); (try clear hk); (try clear hi)) | ((with_reducible refine gate_builtin (b := .append) (xs := #[.tmp 29, .tmp 32]) rfl ?_); at_builtin; refine Kd.R_append (Kd.int .i64) w.heap.size rfl (.tmp 29) (.tmp 32) 30 3 (.int .i64 0) 8 rfl Try.underlying30 info3 rfl (by decide) (by omega) u6 x6_2 t347 [.int .i64 t347] (fun _ => True) (fun _ => False) rfl rfl ?aP (fun _ hk => hk.elim) ?aF ?aO (Below.refl _ _) ?aS ?aL ?_; (case aP => exact rfl); (case aF => exact (fun _ _ => trivial)); (case aO => exact (viaR HO_6.out)); (case aS => exact (keep_size (w := w) (g := g) (row := none) (viaK1 HK.out GW338.out))); (case aL => have := LMc24.out; omega); intro v350 w28 ho hb hg hat; rw [← Ny349.out] at ho; have n0_ := Aside0.mk (blk_grown (g := gb338) (o := .cells #[.int .i64 a1_0, .slice A1_1 l1_1.length c1_1] 25 (0, 0)) (viaB BK338.out) hg (Kd.R_ne HO_6.out BK338.out (by decide))); have n1_ := Aside0.mk (IsS99.grown (by exact viaI1 HI0.out NB0_338.out) hg (IsS99.own_ne HI0.out HO_6.out (by decide))); have n2_ := Aside0.mk (below_weaken (viaX2 HB.out (IsS99.ge HI0.out) GE338.out) HL.out hb); have n3_ := Aside0.mk (KeepBut.trans (viaK1 HK.out GW338.out) (KeepBut.of_grown hg g) (Kd.R_base2 HO_6.out)); have n4_ := Aside0.mk (ho); clear BK338; clear HI0; clear HB; clear HK; clear HO_6; have BK338 := n0_; have HI0 := n1_; have HB := n2_; have HK := n3_; have HO351 := n4_; clear n0_ n1_ n2_ n3_ n4_; clear ho hb hg hat)); try go_wp2_with (first | (go_at_call 85; (with_reducible refine (spec_l6Rd_pick.calls k2 g s0_0 x1001_2 8 t347 t348 w0 _ ?side1 ?side2 A23.out).mono ?_); (case side1 => exact viaI1 HI0.out NB0_338.out); (case side2 => repeat (first | (with_reducible first | exact HB.out | apply below_alloc | apply pw_below_drewN | apply below_drew1 | refine below_set ?_ (IsS99.ge HI0.out) | refine below_set ?_ GE338.out) | exact HB.out)); rintro e w27 ⟨rfl, hi, hb, hk⟩; have n0_ := Aside0.mk (Kd.R_mono (Kd.R_keep (IsS99.apart (show IsS99 w0 _ g s0_0 x1001_2 from by exact viaI1 HI0.out NB0_338.out) (viaR HO_6.out) (by decide)) hk (fun _ h => h.2)) (fun _ h => h.1)); have n1_ := Aside0.mk (KeepBut.blk hk (g' := gb338) (o := .cells #[.int .i64 a1_0, .slice A1_1 l1_1.length c1_1] 25 (0, 0)) (viaB BK338.out) NB338_0.out (by simp)); have n2_ := Aside0.mk (KeepBut.trans (viaK1 HK.out GW338.out) hk (.inl rfl)); have n3_ := Aside0.mk (hb); have n4_ := Aside0.mk (hi); clear HO_6; clear BK338; clear HK; clear HB; clear HI0; have HO_6 := n0_; have BK338 := n1_; have HK := n2_; have HB := n3_; have HI0 := n4_; clear n0_ n1_ n2_ n3_ n4_; (try clear hb); (try clear hb2); (try clear hk); (try clear hi)) | ((with_reducible refine gate_builtin (b := .append) (xs := #[.tmp 29, .tmp 32]) rfl ?_); at_builtin; refine Kd.R_append (Kd.int .i64) w.heap.size rfl (.tmp 29) (.tmp 32) 30 3 (.int .i64 0) 8 rfl Try.underlying30 info3 rfl (by decide) (by omega) u6 x6_2 t347 [.int .i64 t347] (fun _ => True) (fun _ => False) rfl rfl ?aP (fun _ hk => hk.elim) ?aF ?aO (Below.refl _ _) ?aS ?aL ?_; (case aP => exact rfl); (case aF => exact (fun _ _ => trivial)); (case aO => exact (viaR HO_6.out)); (case aS => exact (keep_size (w := w) (g := g) (row := none) (viaK1 HK.out GW338.out))); (case aL => have := LMc24.out; omega); intro v350 w28 ho hb hg hat; rw [← Ny349.out] at ho; have n0_ := Aside0.mk (blk_grown (g := gb338) (o := .cells #[.int .i64 a1_0, .slice A1_1 l1_1.length c1_1] 25 (0, 0)) (viaB BK338.out) hg (Kd.R_ne HO_6.out BK338.out (by decide))); have n1_ := Aside0.mk (IsS99.grown (by exact viaI1 HI0.out NB0_338.out) hg (IsS99.own_ne HI0.out HO_6.out (by decide))); have n2_ := Aside0.mk (below_weaken (viaX2 HB.out (IsS99.ge HI0.out) GE338.out) HL.out hb); have n3_ := Aside0.mk (KeepBut.trans (viaK1 HK.out GW338.out) (KeepBut.of_grown hg g) (Kd.R_base2 HO_6.out)); have n4_ := Aside0.mk (ho); clear BK338; clear HI0; clear HB; clear HK; clear HO_6; have BK338 := n0_; have HI0 := n1_; have HB := n2_; have HK := n3_; have HO351 := n4_; clear n0_ n1_ n2_ n3_ n4_; clear ho hb hg hat)))
        go_roundg k2
        case measure => have := HJ3.out; have := HK2.out; omega
        case rel => exact ⟨(y349), (wrap64 (x7_2 + 1)), (t348), (by first | rfl | (simp; done) | (simp [*]; done)), H', ⟨by have := HJ3.out; have := HK2.out; omega⟩, ⟨viaR HO351.out⟩, ⟨viaB BK338.out⟩, ⟨by exact viaI1 HI0.out NB0_338.out⟩, ⟨viaK1 HK.out GW338.out⟩, ⟨viaX2 HB.out (IsS99.ge HI0.out) GE338.out⟩⟩
       ·rw [if_neg c24] at H
        exact absurd H (by simp)
      ·rw [if_neg c22] at H
       have c22b0 : decide (x7_2 < a1_0) = false := decide_eq_false c22; clear c22; have H' := Aside0.mk H; clear H; have hnb29 := NB338_0.out; have hnc29 := NB0_338.out; have hcz30_0 : wr.cell? ⟨gb338, 0, none⟩ = some (.int .i64 a1_0) := (blk_cell BK338.out 0).trans rfl; have hcz30_1 : wr.cell? ⟨gb338, 1, none⟩ = some (.slice A1_1 l1_1.length c1_1) := (blk_cell BK338.out 1).trans rfl; have hfz30_0 := blk_frozen BK338.out 0; have hfz30_1 := blk_frozen BK338.out 1
       go_wp2
       repeat (go_quiet (fail); try go_wp2)
       go_loopg [5, 8] k2 (fun kq v5 v8 w' => ∃ (x5_3 : Int) (x8_3 : Int), v5 = .int .i64 x5_3 ∧ v8 = .int .i64 x8_3 ∧ Aside0 (spec_l91Plain.l1 kq x5_3 x6_2 x8_3 s0_0 x1001_2 a1_0 l1_1 = some (r1, r2)) ∧ Aside0 (kq ≤ k2) ∧ Aside0 (Kd.R (Kd.int .i64) 3 w' w.heap.size (fun _ => True) u6 x6_2) ∧ Aside0 (w'.heap[gb338]? = some (.cells #[.int .i64 a1_0, (.slice A1_1 l1_1.length c1_1)] 25 (0, 0))) ∧ Aside0 (IsS99 w0 w' g s0_0 x1001_2) ∧ Aside0 (KeepBut w w' g none) ∧ Aside0 (Below w0.heap.size w0 w'))
       case atStart => exact ⟨(0), (0), (by first | rfl | (simp; done) | (simp [*]; done)), (by first | rfl | (simp; done) | (simp [*]; done)), H', ⟨Nat.le_refl _⟩, ⟨viaR HO_6.out⟩, ⟨viaB BK338.out⟩, ⟨by exact viaI1 HI0.out NB0_338.out⟩, ⟨viaK1 HK.out GW338.out⟩, ⟨viaX2 HB.out (IsS99.ge HI0.out) GE338.out⟩⟩
       case round =>
        clear H'
        try clear c1
        try clear c2
        try clear p2
        try clear c6
        try clear p6
        try clear c9
        try clear c10
        try clear c12
        try clear c16
        try clear c19
        try clear c22
        try clear c22b0
        try clear c24
        try clear c25
        try clear c29
        try clear hcz13_0
        try clear hcz13_1
        try clear hcz17_0
        try clear hcz17_1
        try clear hcz26_0
        try clear hcz26_1
        try clear hcz30_0
        try clear hcz30_1
        try clear hcz7_0
        try clear hcz7_1
        try clear hfz13_0
        try clear hfz13_1
        try clear hfz17_0
        try clear hfz17_1
        try clear hfz26_0
        try clear hfz26_1
        try clear hfz30_0
        try clear hfz30_1
        try clear hfz7_0
        try clear hfz7_1
        try clear p2
        obtain ⟨x5_3, x8_3, rfl, rfl, HA, HK3, HO_6, BK338, HI0, HK, HB⟩ := hrel
        cases gk with
        | zero => exact absurd HA.out (by simp [spec_l91Plain.l1])
        | succ k3 =>
         have H := HA.out; clear HA
         simp only [spec_l91Plain.l1] at H
         by_cases c31 : x8_3 < (l1_1.length : Int)
         ·rw [if_pos c31] at H
          have c31b0 : decide (x8_3 < (l1_1.length : Int)) = true := decide_eq_true c31; clear c31
          by_cases c32 : 0 ≤ x8_3
          ·rw [if_pos c32] at H
           have c32b0 : decide (0 ≤ x8_3) = true := decide_eq_true c32; clear c32
           by_cases c33 : 0 ≤ ((rd_T69 l1_1 x8_3).f0)
           ·rw [if_pos c33] at H
            have c33b0 : decide (0 ≤ ((rd_T69 l1_1 x8_3).f0)) = true := decide_eq_true c33; clear c33
            by_cases c34 : ((rd_T69 l1_1 x8_3).f0) < (x6_2.length : Int)
            ·rw [if_pos c34] at H
             have c34b0 : decide (((rd_T69 l1_1 x8_3).f0) < (x6_2.length : Int)) = true := decide_eq_true c34; clear c34
             by_cases c35 : 0 ≤ ((rd_T69 l1_1 x8_3).f1)
             ·rw [if_pos c35] at H
              have c35b0 : decide (0 ≤ ((rd_T69 l1_1 x8_3).f1)) = true := decide_eq_true c35; clear c35
              by_cases c36 : ((rd_T69 l1_1 x8_3).f1) < (x6_2.length : Int)
              ·rw [if_pos c36] at H
               have c36b0 : decide (((rd_T69 l1_1 x8_3).f1) < (x6_2.length : Int)) = true := decide_eq_true c36; clear c36
               by_cases c37 : (rd x6_2 ((rd_T69 l1_1 x8_3).f0)) > (rd x6_2 ((rd_T69 l1_1 x8_3).f1))
               ·rw [if_pos c37] at H
                have c37b0 : decide ((rd x6_2 ((rd_T69 l1_1 x8_3).f1)) < (rd x6_2 ((rd_T69 l1_1 x8_3).f0))) = true := decide_eq_true c37; clear c37; have c38b0 := eq_true (of_decide_eq_true (by first | (with_reducible assumption) | assumption) : 0 ≤ x8_3); obtain ⟨ji39, hji39⟩ : ∃ j_ : Int, (shl .i64 1 x8_3) = j_ := ⟨_, rfl⟩; replace H : (spec_l91Plain.l1 k3 (Go.bits .or .i64 x5_3 (ji39)) x6_2 (wrap64 (x8_3 + 1)) s0_0 x1001_2 a1_0 l1_1) = some (r1, r2) := by first | (rw [hji39] at H; exact H) | (simp only [hji39] at H ⊢; exact H)
                have hji39_ : (IntKind.i64.wrap (1 * 2 ^ min x8_3.toNat 64)) = ji39 := hji39; have hji39z : x8_3 ≤ 64 → (IntKind.i64.wrap (1 * 2 ^ x8_3.toNat)) = ji39 := shl_small hji39; have hji39u : (IntKind.i64.wrap (2 ^ min x8_3.toNat 64)) = ji39 := by have h_ := hji39_; rw [Int.one_mul] at h_; exact h_
                have hji39v : x8_3 ≤ 64 → (IntKind.i64.wrap (2 ^ x8_3.toNat)) = ji39 := fun hle_ => by have h_ := hji39z hle_; rw [Int.one_mul] at h_; exact h_
                have hji39y : (wrap64 (1 * 2 ^ min x8_3.toNat 64)) = ji39 := (i64_w _).symm.trans hji39_; have hji39x : x8_3 ≤ 64 → (wrap64 (1 * 2 ^ x8_3.toNat)) = ji39 := fun h_ => (i64_w _).symm.trans (hji39z h_); have H' := Aside0.mk H; clear H; have hnb40 := NB338_0.out; have hnc40 := NB0_338.out; have hcz41_0 : wr.cell? ⟨gb338, 0, none⟩ = some (.int .i64 a1_0) := (blk_cell BK338.out 0).trans rfl; have hcz41_1 : wr.cell? ⟨gb338, 1, none⟩ = some (.slice A1_1 l1_1.length c1_1) := (blk_cell BK338.out 1).trans rfl; have hfz41_0 := blk_frozen BK338.out 0; have hfz41_1 := blk_frozen BK338.out 1; have p352 : 0 ≤ (x8_3 : Int) := of_decide_eq_true (by first | (with_reducible assumption) | assumption); have q352 : x8_3 < (l1_1.length : Int) := of_decide_eq_true (by first | (with_reducible assumption) | assumption); obtain ⟨ad352, e352, hx352_0, hx352_1⟩ := at_T69 (Kd.C_foot_now HR1_1.out HK.out) x8_3 p352 q352
                cases e352
                replace p352 := eq_true p352; replace q352 := eq_true q352; obtain ⟨Ao42, co42, eo42⟩ := Kd.R_slice HO_6.out; subst eo42; have p353 : 0 ≤ (((rd_T69 l1_1 x8_3).f0) : Int) := of_decide_eq_true (by first | (with_reducible assumption) | assumption); have q353 : ((rd_T69 l1_1 x8_3).f0) < (x6_2.length : Int) := of_decide_eq_true (by first | (with_reducible assumption) | assumption); obtain ⟨ad353, e353, hx353_0⟩ := Kd.at_int (Kd.R_reads' HO_6.out).2.2 ((rd_T69 l1_1 x8_3).f0) p353 q353
                cases e353
                replace p353 := eq_true p353; replace q353 := eq_true q353; have p354 : 0 ≤ (x8_3 : Int) := of_decide_eq_true (by first | (with_reducible assumption) | assumption); have q354 : x8_3 < (l1_1.length : Int) := of_decide_eq_true (by first | (with_reducible assumption) | assumption); obtain ⟨ad354, e354, hx354_0, hx354_1⟩ := at_T69 (Kd.C_foot_now HR1_1.out HK.out) x8_3 p354 q354; obtain rfl : ad352 = ad354 := (by injection e354); replace p354 := eq_true p354; replace q354 := eq_true q354; have p355 : 0 ≤ (((rd_T69 l1_1 x8_3).f1) : Int) := of_decide_eq_true (by first | (with_reducible assumption) | assumption); have q355 : ((rd_T69 l1_1 x8_3).f1) < (x6_2.length : Int) := of_decide_eq_true (by first | (with_reducible assumption) | assumption); obtain ⟨ad355, e355, hx355_0⟩ := Kd.at_int (Kd.R_reads' HO_6.out).2.2 ((rd_T69 l1_1 x8_3).f1) p355 q355; obtain rfl : ad353 = ad355 := (by injection e355); replace p355 := eq_true p355; replace q355 := eq_true q355
                go_wp2
                repeat (go_quiet (fail); try go_wp2)
                go_roundg k3
                case measure => have := HJ3.out; have := HK2.out; have := HK3.out; omega
                case rel => exact ⟨(Go.bits .or .i64 x5_3 (ji39)), (wrap64 (x8_3 + 1)), (by first | rfl | (simp; done) | (simp only [← hji39] <;> (first | rfl | simp)) | (simp [*]; done)), (by first | rfl | (simp; done) | (simp [*]; done)), H', ⟨by have := HJ3.out; have := HK2.out; have := HK3.out; omega⟩, ⟨viaR HO_6.out⟩, ⟨viaB BK338.out⟩, ⟨by exact viaI1 HI0.out NB0_338.out⟩, ⟨viaK1 HK.out GW338.out⟩, ⟨viaX2 HB.out (IsS99.ge HI0.out) GE338.out⟩⟩
               ·rw [if_neg c37] at H
                have c37b0 : decide ((rd x6_2 ((rd_T69 l1_1 x8_3).f1)) < (rd x6_2 ((rd_T69 l1_1 x8_3).f0))) = false := decide_eq_false c37; clear c37; have H' := Aside0.mk H; clear H; have hnb43 := NB338_0.out; have hnc43 := NB0_338.out; have hcz44_0 : wr.cell? ⟨gb338, 0, none⟩ = some (.int .i64 a1_0) := (blk_cell BK338.out 0).trans rfl; have hcz44_1 : wr.cell? ⟨gb338, 1, none⟩ = some (.slice A1_1 l1_1.length c1_1) := (blk_cell BK338.out 1).trans rfl; have hfz44_0 := blk_frozen BK338.out 0; have hfz44_1 := blk_frozen BK338.out 1; have p352 : 0 ≤ (x8_3 : Int) := of_decide_eq_true (by first | (with_reducible assumption) | assumption); have q352 : x8_3 < (l1_1.length : Int) := of_decide_eq_true (by first | (with_reducible assumption) | assumption); obtain ⟨ad352, e352, hx352_0, hx352_1⟩ := at_T69 (Kd.C_foot_now HR1_1.out HK.out) x8_3 p352 q352
                cases e352
                replace p352 := eq_true p352; replace q352 := eq_true q352; obtain ⟨Ao45, co45, eo45⟩ := Kd.R_slice HO_6.out; subst eo45; have p353 : 0 ≤ (((rd_T69 l1_1 x8_3).f0) : Int) := of_decide_eq_true (by first | (with_reducible assumption) | assumption); have q353 : ((rd_T69 l1_1 x8_3).f0) < (x6_2.length : Int) := of_decide_eq_true (by first | (with_reducible assumption) | assumption); obtain ⟨ad353, e353, hx353_0⟩ := Kd.at_int (Kd.R_reads' HO_6.out).2.2 ((rd_T69 l1_1 x8_3).f0) p353 q353
                cases e353
                replace p353 := eq_true p353; replace q353 := eq_true q353; have p354 : 0 ≤ (x8_3 : Int) := of_decide_eq_true (by first | (with_reducible assumption) | assumption); have q354 : x8_3 < (l1_1.length : Int) := of_decide_eq_true (by first | (with_reducible assumption) | assumption); obtain ⟨ad354, e354, hx354_0, hx354_1⟩ := at_T69 (Kd.C_foot_now HR1_1.out HK.out) x8_3 p354 q354; obtain rfl : ad352 = ad354 := (by injection e354); replace p354 := eq_true p354; replace q354 := eq_true q354; have p355 : 0 ≤ (((rd_T69 l1_1 x8_3).f1) : Int) := of_decide_eq_true (by first | (with_reducible assumption) | assumption); have q355 : ((rd_T69 l1_1 x8_3).f1) < (x6_2.length : Int) := of_decide_eq_true (by first | (with_reducible assumption) | assumption); obtain ⟨ad355, e355, hx355_0⟩ := Kd.at_int (Kd.R_reads' HO_6.out).2.2 ((rd_T69 l1_1 x8_3).f1) p355 q355; obtain rfl : ad353 = ad355 := (by injection e355); replace p355 := eq_true p355; replace q355 := eq_true q355
                go_wp2
                repeat (go_quiet (fail); try go_wp2)
                go_roundg k3
                case measure => have := HJ3.out; have := HK2.out; have := HK3.out; omega
                case rel => exact ⟨(x5_3), (wrap64 (x8_3 + 1)), (by first | rfl | (simp; done) | (simp [*]; done)), (by first | rfl | (simp; done) | (simp [*]; done)), H', ⟨by have := HJ3.out; have := HK2.out; have := HK3.out; omega⟩, ⟨viaR HO_6.out⟩, ⟨viaB BK338.out⟩, ⟨by exact viaI1 HI0.out NB0_338.out⟩, ⟨viaK1 HK.out GW338.out⟩, ⟨viaX2 HB.out (IsS99.ge HI0.out) GE338.out⟩⟩
              ·rw [if_neg c36] at H
               exact absurd H (by simp)
             ·rw [if_neg c35] at H
              exact absurd H (by simp)
            ·rw [if_neg c34] at H
             exact absurd H (by simp)
           ·rw [if_neg c33] at H
            exact absurd H (by simp)
          ·rw [if_neg c32] at H
           exact absurd H (by simp)
         ·rw [if_neg c31] at H
          have c31b0 : decide (x8_3 < (l1_1.length : Int)) = false := decide_eq_false c31; clear c31
          simp only [Option.some.injEq, Prod.mk.injEq] at H
          obtain ⟨rfl, rfl⟩ := H; have hnb46 := NB338_0.out; have hnc46 := NB0_338.out; have hcz47_0 : wr.cell? ⟨gb338, 0, none⟩ = some (.int .i64 a1_0) := (blk_cell BK338.out 0).trans rfl; have hcz47_1 : wr.cell? ⟨gb338, 1, none⟩ = some (.slice A1_1 l1_1.length c1_1) := (blk_cell BK338.out 1).trans rfl; have hfz47_0 := blk_frozen BK338.out 0; have hfz47_1 := blk_frozen BK338.out 1
          go_wp2
          repeat (go_quiet (fail); try go_wp2)
          go_ret
          exact ⟨by first | rfl | (simp [errW_none, errW_some] <;> rfl) | (simp [*, errW_none, errW_some] <;> rfl), by exact viaI1 HI0.out NB0_338.out, viaX2 HB.out (IsS99.ge HI0.out) GE338.out, viaK1 HK.out GW338.out⟩
/-! ### spec_l91Two: function 61 -/
def spec_l91Two.f (k : Nat) (l0 : List Int) : Option (Int × (List (S69)) × Int) := (spec_l6Open.f l0).bind fun bt357 => ((spec_l91Graph.f k bt357.1 bt357.2).bind fun bt360 => ((spec_l91Plain.f k bt357.1 bt360.2.2 bt360.1 bt360.2.1).bind fun bt366 => (some (bt360.1, bt360.2.1, bt366.1))))
theorem spec_l91Two.mono : ∀ a0 k, LeO (spec_l91Two.f k a0) (spec_l91Two.f (k + 1) a0) := by
 intro a0 k
 unfold spec_l91Two.f
 repeat' first
   | (with_reducible exact spec_l91Graph.mono _ _ _)
   | (with_reducible exact spec_l91Plain.mono _ _ _ _ _)
   | (with_reducible exact LeO.refl _)
   | (with_reducible exact LeO.none _)
   | (with_reducible refine LeO.ite ?_ ?_)
   | (with_reducible refine LeO.bind ?_ (fun _ => ?_))
   | exact spec_l91Graph.mono _ _ _
   | exact spec_l91Plain.mono _ _ _ _ _
   | exact LeO.none _
   | refine LeO.ite ?_ ?_
   | refine LeO.bind ?_ (fun _ => ?_)
set_option maxHeartbeats 8000000 in
set_option maxRecDepth 100000 in
theorem spec_l91Two.calls (k : Nat) (A0 : Option Addr) (c0 : Nat) (l0 : List Int) (r1 : Int) (r2 : List (S69)) (r3 : Int) (w : World) (hr0 : Kd.C (Kd.int .u8) w A0 l0.length l0) (hc0 : l0.length ≤ c0) (h : spec_l91Two.f k l0 = some (r1, r2, r3)) :
  Calls Try.prog 61 #[.slice A0 l0.length c0] w fun e w' => ∃ v1_ : Value, e = .returned (.tuple #[.agg #[.int .i64 r1, v1_], .int .i64 r3]) ∧ Kd.R k69 69 w' w.heap.size (fun _ => True) v1_ r2 ∧ Below w.heap.size w w' := by
 have hu25 := Try.underlying25; have HR0 := Aside0.mk hr0; have HC0 := Aside0.mk hc0; clear hr0 hc0; have HB := Aside0.mk (Below.refl w.heap.size w); have H : ((spec_l6Open.f l0).bind fun bt357 => ((spec_l91Graph.f k bt357.1 bt357.2).bind fun bt360 => ((spec_l91Plain.f k bt357.1 bt360.2.2 bt360.1 bt360.2.1).bind fun bt366 => (some (bt360.1, bt360.2.1, bt366.1))))) = some (r1, r2, r3) := h; clear h; replace H := Option.bind_eq_some_iff.mp H; obtain ⟨⟨t357, t358⟩, A20, H⟩ := H; replace H : ((spec_l91Graph.f k t357 t358).bind fun bt360 => ((spec_l91Plain.f k t357 bt360.2.2 bt360.1 bt360.2.1).bind fun bt366 => (some (bt360.1, bt360.2.1, bt366.1)))) = some (r1, r2, r3) := H; have A2 := Aside0.mk A20; clear A20; replace H := Option.bind_eq_some_iff.mp H; obtain ⟨⟨t360, t361, t364⟩, A30, H⟩ := H; replace H : ((spec_l91Plain.f k t357 t364 t360 t361).bind fun bt366 => (some (t360, t361, bt366.1))) = some (r1, r2, r3) := H; have A3 := Aside0.mk A30; clear A30; replace H := Option.bind_eq_some_iff.mp H; obtain ⟨⟨t366, t367⟩, A40, H⟩ := H; replace H : (some (t360, t361, t366)) = some (r1, r2, r3) := H; have A4 := Aside0.mk A40; clear A40
 simp only [Option.some.injEq, Prod.mk.injEq] at H
 obtain ⟨rfl, rfl, rfl⟩ := H
 go_enter Try.func61, Try.ntmps61
 try go_wp2_with (first | ((with_reducible refine gate_dst (N := 2) rfl ?_); refine box_event ?hg (N := 2) ?hd (cs := #[.int .i64 0, .slice none 0 0]) (t := 25) ?hr ?_; (case hd => rfl); (case hg => rfl); (case hr => first | (go_simp; done) | (go_simp; rfl)); intro gb356 hg w5 hbox hb; have n0_ := Aside0.mk (below_step (viaW HB.out) hb); have n1_ := Aside0.mk (hbox); have n2_ := Aside0.mk ((by rw [hg]; exact (below_size (viaW HB.out)) : w.heap.size ≤ gb356)); have n3_ := Aside0.mk ((by rw [hg]; exact (below_size (viaW HB.out)) : w.heap.size ≤ gb356)); clear HB; have HB := n0_; have BK356 := n1_; have GW356 := n2_; have GE356 := n3_; clear n0_ n1_ n2_ n3_; clear hb hbox hg) | ((with_reducible refine gate_callee (f := 81) rfl ?_); refine goesL_ (some 7) rfl rfl Try.func81 (by kernel_rfl) rfl #[.slice A0 l0.length c0] rfl (by (try simp only [List.map_toArray, List.map_cons, List.map_nil]); first | done | rfl) ?_; (with_reducible refine (spec_l6Open.calls _ _ l0 t357 t358 w _ ?side1 ?side2 ?side3 A2.out).mono ?_); (case side1 => repeat (first | (with_reducible first | exact HB.out | apply below_alloc | apply pw_below_drewN | apply below_drew1 | refine below_set ?_ GE356.out) | exact HB.out)); (case side2 => exact HR0.out); (case side3 => exact HC0.out); rintro e w6 ⟨g359, rfl, hi, hb, hb2⟩; refine ⟨_, rfl, ?_⟩; have n0_ := Aside0.mk (blk_below (g := gb356) (o := .cells #[.int .i64 0, .slice none 0 0] 25 (0, 0)) (viaB BK356.out) hb2); have n1_ := Aside0.mk (hb); have n2_ := Aside0.mk (hi); have n3_ := Aside0.mk (IsS99.ne_blk hi (blk_below (g := gb356) (o := .cells #[.int .i64 0, .slice none 0 0] 25 (0, 0)) (viaB BK356.out) hb2) (by decide)); have n4_ := Aside0.mk (Ne.symm (IsS99.ne_blk hi (blk_below (g := gb356) (o := .cells #[.int .i64 0, .slice none 0 0] 25 (0, 0)) (viaB BK356.out) hb2) (by decide))); clear BK356; clear HB; have BK356 := n0_; have HB := n1_; have HI359 := n2_; have NB359_356 := n3_; have NB356_359 := n4_; clear n0_ n1_ n2_ n3_ n4_; (try clear hb); (try clear hb2); (try clear hk); (try clear hi)) | ((with_reducible refine gate_callee (f := 93) rfl ?_); refine goesL_ (some 9) rfl rfl Try.func93 (by kernel_rfl) rfl #[.pointer (some ⟨g359, 0, none⟩)] rfl (by (try simp only [List.map_toArray, List.map_cons, List.map_nil]); first | done | rfl) ?_; (with_reducible refine (spec_l91Graph.calls k g359 t357 t358 t360 t361 t364 w _ ?side1 ?side2 A3.out).mono ?_); (case side1 => exact viaI1 HI359.out NB359_356.out); (case side2 => repeat (first | (with_reducible first | exact HB.out | apply below_alloc | apply pw_below_drewN | apply below_drew1 | refine below_set ?_ (IsS99.ge HI359.out) | refine below_set ?_ GE356.out) | exact HB.out)); rintro e w7 ⟨v362, rfl, ho0, hi, hb, hk⟩; refine ⟨_, rfl, ?_⟩; have n0_ := Aside0.mk (KeepBut.blk hk (g' := gb356) (o := .cells #[.int .i64 0, .slice none 0 0] 25 (0, 0)) (viaB BK356.out) NB356_359.out (by simp)); have n1_ := Aside0.mk (Kd.R_lower ho0 (below_size (viaX2 HB.out (IsS99.ge HI359.out) GE356.out))); have n2_ := Aside0.mk (hb); have n3_ := Aside0.mk (hi); clear BK356; clear HB; clear HI359; have BK356 := n0_; have HO363 := n1_; have HB := n2_; have HI359 := n3_; clear n0_ n1_ n2_ n3_; (try clear hb); (try clear hb2); (try clear hk); (try clear hi); (try clear ho0)) | ((with_reducible refine gate_dst (N := 5) rfl ?_); refine box_event ?hg (N := 5) ?hd (cs := #[.int .i64 0, .slice none 0 0]) (t := 25) ?hr ?_; (case hd => rfl); (case hg => rfl); (case hr => first | (go_simp; done) | (go_simp; rfl)); intro gb365 hg w8 hbox hb; have n0_ := Aside0.mk (Kd.R_below (viaR HO363.out) hb); have n1_ := Aside0.mk (blk_below (g := gb356) (o := .cells #[.int .i64 0, .slice none 0 0] 25 (0, 0)) (viaB BK356.out) hb); have n2_ := Aside0.mk (IsS99.below (by exact viaI1 HI359.out NB359_356.out) hb); have n3_ := Aside0.mk (below_step (viaX2 HB.out (IsS99.ge HI359.out) GE356.out) hb); have n4_ := Aside0.mk (hbox); have n5_ := Aside0.mk ((by rw [hg]; exact (below_size (viaX2 HB.out (IsS99.ge HI359.out) GE356.out)) : w.heap.size ≤ gb365)); have n6_ := Aside0.mk ((by rw [hg]; exact (below_size (viaX2 HB.out (IsS99.ge HI359.out) GE356.out)) : w.heap.size ≤ gb365)); have n7_ := Aside0.mk ((by rw [hg]; exact Nat.ne_of_lt (blk_lt (g := gb356) (o := .cells #[.int .i64 0, .slice none 0 0] 25 (0, 0)) (viaB BK356.out)) : gb356 ≠ gb365)); have n8_ := Aside0.mk ((by rw [hg]; exact Nat.ne_of_gt (blk_lt (g := gb356) (o := .cells #[.int .i64 0, .slice none 0 0] 25 (0, 0)) (viaB BK356.out)) : gb365 ≠ gb356)); have n9_ := Aside0.mk ((by rw [hg]; exact Nat.ne_of_lt (IsS99.lt (show IsS99 w _ g359 t357 t364 from by exact viaI1 HI359.out NB359_356.out)) : g359 ≠ gb365)); have n10_ := Aside0.mk ((by rw [hg]; exact Nat.ne_of_gt (IsS99.lt (show IsS99 w _ g359 t357 t364 from by exact viaI1 HI359.out NB359_356.out)) : gb365 ≠ g359)); clear HO363; clear BK356; clear HI359; clear HB; have HO363 := n0_; have BK356 := n1_; have HI359 := n2_; have HB := n3_; have BK365 := n4_; have GW365 := n5_; have GE365 := n6_; have NB356_365 := n7_; have NB365_356 := n8_; have NB359_365 := n9_; have NB365_359 := n10_; clear n0_ n1_ n2_ n3_ n4_ n5_ n6_ n7_ n8_ n9_ n10_; clear hb hbox hg; have hnb9 := NB365_356.out; have hnc9 := NB356_365.out; have hnb10 := NB365_359.out; have hnc10 := NB359_365.out; have hcz11_0 : w8.cell? ⟨gb365, 0, none⟩ = some (.int .i64 0) := (blk_cell BK365.out 0).trans rfl; have hcz11_1 : w8.cell? ⟨gb365, 1, none⟩ = some (.slice none 0 0) := (blk_cell BK365.out 1).trans rfl; have hfz11_0 := blk_frozen BK365.out 0; have hfz11_1 := blk_frozen BK365.out 1; obtain ⟨Ao12, co12, eo12⟩ := Kd.R_slice HO363.out; subst eo12))
 have n0_ : Aside0 (Kd.R k69 69 ((w8.setCell ⟨gb365, 0, none⟩ (.int .i64 t360)).setCell ⟨gb365, 1, none⟩ (.slice Ao12 t361.length co12)) w.heap.size (fun _ => True) (.slice Ao12 t361.length co12) t361) := ⟨by (with_reducible repeat (first | apply Kd.R_alloc | apply Kd.R_drewN | apply Kd.R_drew)); exact Kd.R_mono (Kd.R_far (p := ⟨gb365, 1, none⟩) (Kd.R_far (p := ⟨gb365, 0, none⟩) (Kd.R_types HO363.out BK365.out (by decide)) (fun _ hk => hk.2) (.int .i64 t360)) (fun _ hk => hk.2) (.slice Ao12 t361.length co12)) (fun _ hk => trivial)⟩; have n1_ : Aside0 (((w8.setCell ⟨gb365, 0, none⟩ (.int .i64 t360)).setCell ⟨gb365, 1, none⟩ (.slice Ao12 t361.length co12)).heap[gb356]? = some (.cells #[.int .i64 0, .slice none 0 0] 25 (0, 0))) := ⟨by (with_reducible repeat (first | refine blk_drewN ?_ _ | refine blk_drew ?_ | refine blk_alloc ?_ _)); refine blk_far ?_ NB356_365.out _; (with_reducible repeat (first | refine blk_drewN ?_ _ | refine blk_drew ?_ | refine blk_alloc ?_ _)); refine blk_far ?_ NB356_365.out _; (with_reducible repeat (first | refine blk_drewN ?_ _ | refine blk_drew ?_ | refine blk_alloc ?_ _)); exact BK356.out⟩; have n2_ : Aside0 (((w8.setCell ⟨gb365, 0, none⟩ (.int .i64 t360)).setCell ⟨gb365, 1, none⟩ (.slice Ao12 t361.length co12)).heap[gb365]? = some (.cells #[.int .i64 t360, .slice Ao12 t361.length co12] 25 (0, 0))) := ⟨by (with_reducible repeat (first | refine blk_drewN ?_ _ | refine blk_drew ?_ | refine blk_alloc ?_ _)); refine blk_put (cs := #[.int .i64 t360, .slice none 0 0]) ?_ 1 _ rfl; (with_reducible repeat (first | refine blk_drewN ?_ _ | refine blk_drew ?_ | refine blk_alloc ?_ _)); refine blk_put (cs := #[.int .i64 0, .slice none 0 0]) ?_ 0 _ rfl; (with_reducible repeat (first | refine blk_drewN ?_ _ | refine blk_drew ?_ | refine blk_alloc ?_ _)); exact BK365.out⟩; have n3_ : Aside0 (IsS99 w ((w8.setCell ⟨gb365, 0, none⟩ (.int .i64 t360)).setCell ⟨gb365, 1, none⟩ (.slice Ao12 t361.length co12)) g359 t357 t364) := ⟨by exact viaI2 HI359.out NB359_356.out NB359_365.out⟩; have n4_ : Aside0 (Below w.heap.size w ((w8.setCell ⟨gb365, 0, none⟩ (.int .i64 t360)).setCell ⟨gb365, 1, none⟩ (.slice Ao12 t361.length co12))) := ⟨viaX3 HB.out (IsS99.ge HI359.out) GE356.out GE365.out⟩
 (try clear HO363)
 (try clear BK356)
 (try clear BK365)
 (try clear HI359)
 (try clear HB)
 generalize ((w8.setCell ⟨gb365, 0, none⟩ (.int .i64 t360)).setCell ⟨gb365, 1, none⟩ (.slice Ao12 t361.length co12)) = w13 at n0_ n1_ n2_ n3_ n4_ ⊢
 have HO363 := n0_; have BK356 := n1_; have BK365 := n2_; have HI359 := n3_; have HB := n4_; clear n0_ n1_ n2_ n3_ n4_; have n0_ := Aside0.mk (Kd.R_drew HO363.out); have n1_ := Aside0.mk (blk_drew BK356.out); have n2_ := Aside0.mk (blk_drew BK365.out); have n3_ := Aside0.mk (IsS99.drew HI359.out); have n4_ := Aside0.mk (below_drew1 HB.out); clear HO363; clear BK356; clear BK365; clear HI359; clear HB; have HO363 := n0_; have BK356 := n1_; have BK365 := n2_; have HI359 := n3_; have HB := n4_; clear n0_ n1_ n2_ n3_ n4_
 refine start_ (n := 6) (S := fun w' => w'.cell? ⟨gb365, 0, none⟩ = some (.int .i64 t360) ∧ w'.cell? ⟨gb365, 1, none⟩ = some (.slice Ao12 t361.length co12)) (ds := []) #[false, false, false, false, false, false] (by kernel_rfl) rfl rfl ⟨(blk_cell BK365.out 0).trans rfl, (blk_cell BK365.out 1).trans rfl⟩ (fun hHeld => ?_)
 generalize w13.drew = w14 at HO363 BK356 BK365 HI359 HB hHeld ⊢
 refine pure_ (i := 1) (N := some 11) (v := ?_) (a' := ?_) #[false, true, false, false, false, false] rfl rfl (by kernel_rfl) (fun _ _ _ h => h) (Or.inl ⟨by rfl, ?_⟩) ?_ ?_
 rotate_left
 ·intro w'
  go_simp
  with_reducible rfl
 rotate_left
 ·simp only [Act.put, List.setIfInBounds_toArray, List.set_cons_zero, List.set_cons_succ, i64_w, i32_w]
  rfl
 refine take_ (i := 0) (N := some 10) (v := ?_) (a' := ?_) #[true, true, false, false, false, false] rfl rfl (by kernel_rfl) (fun _ _ _ h => h) (Or.inl ⟨by rfl, ?_⟩) hHeld ?_ ?_
 rotate_left
 ·rintro w' ⟨s0, s1⟩
  go_simp
  with_reducible rfl
 rotate_left
 ·simp only [Act.put, List.setIfInBounds_toArray, List.set_cons_zero, List.set_cons_succ, i64_w, i32_w]
  rfl
 refine take_ (i := 2) (N := some 12) (v := ?_) (a' := ?_) #[true, true, true, false, false, false] rfl rfl (by kernel_rfl) (fun _ _ _ h => h) (Or.inl ⟨by rfl, ?_⟩) hHeld ?_ ?_
 rotate_left
 ·rintro w' ⟨s0, s1⟩
  go_simp
  with_reducible rfl
 rotate_left
 ·simp only [Act.put, List.setIfInBounds_toArray, List.set_cons_zero, List.set_cons_succ, i64_w, i32_w]
  rfl
 refine one_ (i := 3) (N := some 13) #[true, true, true, true, false, false] rfl rfl (by kernel_rfl) (by decide) (fun K hK => ?_)
 refine goes_ Try.func98 (by kernel_rfl) rfl #[.pointer (some ⟨g359, 0, none⟩), .agg #[.int .i64 t360, .slice Ao12 t361.length co12]] (by rfl) rfl rfl (by (try simp only [List.map_toArray, List.map_cons, List.map_nil]); first | done | rfl) ?_
 with_reducible refine (spec_l91Plain.calls k g359 t357 t364 t360 _ _ t361 t366 t367 w _ ?side1 ?side2 ?side3 ?side4 A4.out).mono ?_
 (case side1 => exact viaI2 HI359.out NB359_356.out NB359_365.out)
 (case side2 => repeat (first | (with_reducible first | exact HB.out | apply below_alloc | apply pw_below_drewN | apply below_drew1 | refine below_set ?_ (IsS99.ge HI359.out) | refine below_set ?_ GE356.out | refine below_set ?_ GE365.out) | exact HB.out))
 (case side3 => exact Kd.C_foot_own (IsS99.apart (show IsS99 w _ g359 t357 t364 from by exact viaI2 HI359.out NB359_356.out NB359_365.out) (viaR HO363.out) (by decide)) (fun _ h_ => h_.2))
 (case side4 => exact (Kd.R_reads' HO363.out).2.1)
 rintro e w15 ⟨rfl, hi, hb, hk⟩
 refine ⟨_, rfl, ?_⟩
 have n0_ := Aside0.mk (KeepBut.blk hk (g' := gb356) (o := .cells #[.int .i64 0, .slice none 0 0] 25 (0, 0)) (viaB BK356.out) NB356_359.out (by simp)); have n1_ := Aside0.mk (Kd.R_mono (Kd.R_keep (IsS99.apart (show IsS99 w _ g359 t357 t364 from by exact viaI2 HI359.out NB359_356.out NB359_365.out) (viaR HO363.out) (by decide)) hk (fun _ h => h.2)) (fun _ h => h.1)); have n2_ := Aside0.mk (KeepBut.blk hk (g' := gb365) (o := .cells #[.int .i64 t360, .slice Ao12 t361.length co12] 25 (0, 0)) (viaB BK365.out) NB365_359.out (by simp)); have n3_ := Aside0.mk (hb); have n4_ := Aside0.mk (hi); clear BK356; clear HO363; clear BK365; clear HB; clear HI359; have BK356 := n0_; have HO363 := n1_; have BK365 := n2_; have HB := n3_; have HI359 := n4_; clear n0_ n1_ n2_ n3_ n4_
 (try clear hb)
 (try clear hb2)
 (try clear hk)
 (try clear hi)
 refine hK.out _ _ ⟨(blk_cell BK365.out 0).trans rfl, (blk_cell BK365.out 1).trans rfl⟩ (fun hHeld => ?_)
 clear hK K
 refine norm_ (a' := ?_) ?_ ?_
 rotate_left
 ·show Act.put _ (some 13) _ = _
  simp only [Act.put, List.setIfInBounds_toArray, List.set_cons_zero, List.set_cons_succ, i64_w, i32_w]
  rfl
 refine one_ (i := 4) (N := none) #[true, true, true, true, true, false] rfl rfl (by kernel_rfl) (by decide) (fun K hK => ?_)
 have hs16 : w15.cell? ⟨gb356, 0, none⟩ = some (.int .i64 0) := (blk_cell BK356.out 0).trans rfl; have hfs16 := blk_frozen BK356.out 0; have hns16_1 := NB365_356.out; have hms16_1 := NB356_365.out; have hs17 : w15.cell? ⟨gb356, 1, none⟩ = some (.slice none 0 0) := (blk_cell BK356.out 1).trans rfl; have hfs17 := blk_frozen BK356.out 1; have hns17_1 := NB365_356.out; have hms17_1 := NB356_365.out
 refine skip_ (w1 := ?_) (by rfl) rfl ?_ ?_
 rotate_left
 ·go_simp
  rfl
 refine hK.out _ _ ⟨((cell_far (p := ⟨gb356, _, none⟩) NB365_356.out _).trans (((cell_far (p := ⟨gb356, _, none⟩) NB365_356.out _).trans (hHeld.1)))), ((cell_far (p := ⟨gb356, _, none⟩) NB365_356.out _).trans (((cell_far (p := ⟨gb356, _, none⟩) NB365_356.out _).trans (hHeld.2))))⟩ (fun hHeld => ?_)
 clear hK K
 refine pure_ (i := 5) (N := some 3) (v := ?_) (a' := ?_) #[true, true, true, true, true, true] rfl rfl (by kernel_rfl) (fun _ _ _ h => h) (Or.inl ⟨by rfl, ?_⟩) ?_ ?_
 rotate_left
 ·intro w'
  go_simp
  with_reducible rfl
 rotate_left
 ·simp only [Act.put, List.setIfInBounds_toArray, List.set_cons_zero, List.set_cons_succ, i64_w, i32_w]
  rfl
 refine done_ (by kernel_rfl) ?_
 try go_wp2
 refine bodyPost_ret (results_ct rfl _ _ gb356 25 #[.int .i64 t360, .slice Ao12 t361.length co12] (0, 0) _ rfl (by (with_reducible repeat (first | refine blk_drewN ?_ _ | refine blk_drew ?_ | refine blk_alloc ?_ _)); refine blk_put (cs := #[.int .i64 t360, .slice none 0 0]) ?_ 1 _ rfl; (with_reducible repeat (first | refine blk_drewN ?_ _ | refine blk_drew ?_ | refine blk_alloc ?_ _)); refine blk_put (cs := #[.int .i64 0, .slice none 0 0]) ?_ 0 _ rfl; (with_reducible repeat (first | refine blk_drewN ?_ _ | refine blk_drew ?_ | refine blk_alloc ?_ _)); exact BK356.out) Try.underlying25 rfl (by kernel_rfl)) rfl ?_
 exact ⟨_, by first | rfl | (simp [errW_none, errW_some] <;> rfl) | (simp [*, errW_none, errW_some] <;> rfl), by (with_reducible repeat (first | apply Kd.R_alloc | apply Kd.R_drewN | apply Kd.R_drew)); exact Kd.R_mono (Kd.R_far (p := ⟨gb356, 1, none⟩) (Kd.R_far (p := ⟨gb356, 0, none⟩) (Kd.R_types HO363.out BK356.out (by decide)) (fun _ hk => hk.2) (.int .i64 t360)) (fun _ hk => hk.2) (.slice Ao12 t361.length co12)) (fun _ hk => trivial), viaX3 HB.out (IsS99.ge HI359.out) GE356.out GE365.out⟩
/-! ### spec_DrawFlipCuts: function 23 -/
def spec_DrawFlipCuts.f (k : Nat) (l0 : List Int) : Option (Int × (List (S69)) × Int) := (spec_l91Two.f k l0).bind fun bt369 => (some (bt369.1, bt369.2.1, bt369.2.2))
theorem spec_DrawFlipCuts.mono : ∀ a0 k, LeO (spec_DrawFlipCuts.f k a0) (spec_DrawFlipCuts.f (k + 1) a0) := by
 intro a0 k
 unfold spec_DrawFlipCuts.f
 repeat' first
   | (with_reducible exact spec_l91Two.mono _ _)
   | (with_reducible exact LeO.refl _)
   | (with_reducible exact LeO.none _)
   | (with_reducible refine LeO.ite ?_ ?_)
   | (with_reducible refine LeO.bind ?_ (fun _ => ?_))
   | exact spec_l91Two.mono _ _
   | exact LeO.none _
   | refine LeO.ite ?_ ?_
   | refine LeO.bind ?_ (fun _ => ?_)
set_option maxHeartbeats 8000000 in
set_option maxRecDepth 100000 in
theorem spec_DrawFlipCuts.calls (k : Nat) (A0 : Option Addr) (c0 : Nat) (l0 : List Int) (r1 : Int) (r2 : List (S69)) (r3 : Int) (w : World) (hr0 : Kd.C (Kd.int .u8) w A0 l0.length l0) (hc0 : l0.length ≤ c0) (h : spec_DrawFlipCuts.f k l0 = some (r1, r2, r3)) :
  Calls Try.prog 23 #[.slice A0 l0.length c0] w fun e w' => ∃ v1_ : Value, e = .returned (.tuple #[.agg #[.int .i64 r1, v1_], .int .i64 r3]) ∧ Kd.R k69 69 w' w.heap.size (fun _ => True) v1_ r2 ∧ Below w.heap.size w w' := by
 have hu25 := Try.underlying25; have HR0 := Aside0.mk hr0; have HC0 := Aside0.mk hc0; clear hr0 hc0; have HB := Aside0.mk (Below.refl w.heap.size w); have H : ((spec_l91Two.f k l0).bind fun bt369 => (some (bt369.1, bt369.2.1, bt369.2.2))) = some (r1, r2, r3) := h; clear h; replace H := Option.bind_eq_some_iff.mp H; obtain ⟨⟨t369, t370, t373⟩, A20, H⟩ := H; replace H : (some (t369, t370, t373)) = some (r1, r2, r3) := H; have A2 := Aside0.mk A20; clear A20
 simp only [Option.some.injEq, Prod.mk.injEq] at H
 obtain ⟨rfl, rfl, rfl⟩ := H
 go_enter Try.func23, Try.ntmps23
 go_wp2_with (first | ((with_reducible refine gate_dst (N := 2) rfl ?_); refine box_event ?hg (N := 2) ?hd (cs := #[.int .i64 0, .slice none 0 0]) (t := 25) ?hr ?_; (case hd => rfl); (case hg => rfl); (case hr => first | (go_simp; done) | (go_simp; rfl)); intro gb368 hg w3 hbox hb; have n0_ := Aside0.mk (below_step (viaW HB.out) hb); have n1_ := Aside0.mk (hbox); have n2_ := Aside0.mk ((by rw [hg]; exact (below_size (viaW HB.out)) : w.heap.size ≤ gb368)); have n3_ := Aside0.mk ((by rw [hg]; exact (below_size (viaW HB.out)) : w.heap.size ≤ gb368)); clear HB; have HB := n0_; have BK368 := n1_; have GW368 := n2_; have GE368 := n3_; clear n0_ n1_ n2_ n3_; clear hb hbox hg) | ((with_reducible refine gate_callee (f := 61) rfl ?_); refine goesL_ (some 5) rfl rfl Try.func61 (by kernel_rfl) rfl #[.slice A0 l0.length c0] rfl (by (try simp only [List.map_toArray, List.map_cons, List.map_nil]); first | done | rfl) ?_; (with_reducible refine (spec_l91Two.calls k _ _ l0 t369 t370 t373 _ ?side1 ?side2 A2.out).mono ?_); (case side1 => exact viaC (Kd.C_below HR0.out HB.out)); (case side2 => exact HC0.out); rintro e w4 ⟨v371, rfl, ho0, hb⟩; refine ⟨_, rfl, ?_⟩; have n0_ := Aside0.mk (Kd.R_lower ho0 (below_size (viaX HB.out GE368.out))); have n1_ := Aside0.mk (blk_below (g := gb368) (o := .cells #[.int .i64 0, .slice none 0 0] 25 (0, 0)) (viaB BK368.out) hb); have n2_ := Aside0.mk (below_step (viaX HB.out GE368.out) hb); clear BK368; clear HB; have HO372 := n0_; have BK368 := n1_; have HB := n2_; clear n0_ n1_ n2_; (try clear hb); (try clear hb2); (try clear hk); (try clear hi); (try clear ho0); have hcz5_0 : w4.cell? ⟨gb368, 0, none⟩ = some (.int .i64 0) := (blk_cell BK368.out 0).trans rfl; have hcz5_1 : w4.cell? ⟨gb368, 1, none⟩ = some (.slice none 0 0) := (blk_cell BK368.out 1).trans rfl; have hfz5_0 := blk_frozen BK368.out 0; have hfz5_1 := blk_frozen BK368.out 1; obtain ⟨Ao6, co6, eo6⟩ := Kd.R_slice HO372.out; subst eo6))
 refine bodyPost_ret (results_ct rfl _ _ gb368 25 #[.int .i64 t369, .slice Ao6 t370.length co6] (0, 0) _ rfl (by (with_reducible repeat (first | refine blk_drewN ?_ _ | refine blk_drew ?_ | refine blk_alloc ?_ _)); refine blk_put (cs := #[.int .i64 t369, .slice none 0 0]) ?_ 1 _ rfl; (with_reducible repeat (first | refine blk_drewN ?_ _ | refine blk_drew ?_ | refine blk_alloc ?_ _)); refine blk_put (cs := #[.int .i64 0, .slice none 0 0]) ?_ 0 _ rfl; (with_reducible repeat (first | refine blk_drewN ?_ _ | refine blk_drew ?_ | refine blk_alloc ?_ _)); exact BK368.out) Try.underlying25 rfl (by kernel_rfl)) rfl ?_
 exact ⟨_, by first | rfl | (simp [errW_none, errW_some] <;> rfl) | (simp [*, errW_none, errW_some] <;> rfl), by (with_reducible repeat (first | apply Kd.R_alloc | apply Kd.R_drewN | apply Kd.R_drew)); exact Kd.R_mono (Kd.R_far (p := ⟨gb368, 1, none⟩) (Kd.R_far (p := ⟨gb368, 0, none⟩) (Kd.R_types HO372.out BK368.out (by decide)) (fun _ hk => hk.2) (.int .i64 t369)) (fun _ hk => hk.2) (.slice Ao6 t370.length co6)) (fun _ hk => trivial), viaX HB.out GE368.out⟩
/-! ### impl_FlipCuts: function 24 -/
def impl_FlipCuts.f (k : Nat) (a0_0 : Int) (l0_1 : List (S69)) (a1 : Int) : Option (List Int × Bool) := (impl_WayIn.f k a0_0 l0_1 a1).bind fun t521 => (if t521 = true then ((impl_byCuts.f k a0_0 l0_1 a1).bind fun t522 => (some (t522, true))) else (some (([] : List Int), false)))
theorem impl_FlipCuts.mono : ∀ a0 a1 a2 k, LeO (impl_FlipCuts.f k a0 a1 a2) (impl_FlipCuts.f (k + 1) a0 a1 a2) := by
 intro a0 a1 a2 k
 unfold impl_FlipCuts.f
 repeat' first
   | (with_reducible exact impl_WayIn.mono _ _ _ _)
   | (with_reducible exact impl_byCuts.mono _ _ _ _)
   | (with_reducible exact LeO.refl _)
   | (with_reducible exact LeO.none _)
   | (with_reducible refine LeO.ite ?_ ?_)
   | (with_reducible refine LeO.bind ?_ (fun _ => ?_))
   | exact impl_WayIn.mono _ _ _ _
   | exact impl_byCuts.mono _ _ _ _
   | exact LeO.none _
   | refine LeO.ite ?_ ?_
   | refine LeO.bind ?_ (fun _ => ?_)
set_option maxHeartbeats 8000000 in
set_option maxRecDepth 100000 in
theorem impl_FlipCuts.calls (k : Nat) (a0_0 : Int) (A0_1 : Option Addr) (c0_1 : Nat) (l0_1 : List (S69)) (a1 : Int) (r1 : List Int) (r2 : Bool) (w : World) (hr0_1 : Kd.C k69 w A0_1 l0_1.length l0_1) (hc0_1 : l0_1.length ≤ c0_1) (h : impl_FlipCuts.f k a0_0 l0_1 a1 = some (r1, r2)) :
  Calls Try.prog 24 #[.agg #[.int .i64 a0_0, .slice A0_1 l0_1.length c0_1], .int .i64 a1] w fun e w' => ∃ v0_ : Value, e = .returned (.tuple #[v0_, .bool r2]) ∧ Kd.R (Kd.int .i64) 3 w' w.heap.size (fun _ => True) v0_ r1 ∧ Below w.heap.size w w' := by
 have hu25 := Try.underlying25; have HR0_1 := Aside0.mk hr0_1; have HC0_1 := Aside0.mk hc0_1; clear hr0_1 hc0_1; have HB := Aside0.mk (Below.refl w.heap.size w); have H : ((impl_WayIn.f k a0_0 l0_1 a1).bind fun t521 => (if t521 = true then ((impl_byCuts.f k a0_0 l0_1 a1).bind fun t522 => (some (t522, true))) else (some (([] : List Int), false)))) = some (r1, r2) := h; clear h; replace H := Option.bind_eq_some_iff.mp H; obtain ⟨t521, A30, H⟩ := H; replace H : (if t521 = true then ((impl_byCuts.f k a0_0 l0_1 a1).bind fun t522 => (some (t522, true))) else (some (([] : List Int), false))) = some (r1, r2) := H; have A3 := Aside0.mk A30; clear A30
 by_cases c4 : t521 = true
 ·subst c4
  have H1 : ((impl_byCuts.f k a0_0 l0_1 a1).bind fun t522 => (some (t522, true))) = some (r1, r2) := by rw [if_pos rfl] at H; exact H
  clear H; have H := H1; clear H1; replace H := Option.bind_eq_some_iff.mp H; obtain ⟨t522, A50, H⟩ := H; replace H : (some (t522, true)) = some (r1, r2) := H; have A5 := Aside0.mk A50; clear A50
  simp only [Option.some.injEq, Prod.mk.injEq] at H
  obtain ⟨rfl, rfl⟩ := H
  go_enter Try.func24, Try.ntmps24
  go_wp2_with (first | ((with_reducible refine gate_dst (N := 2) rfl ?_); refine box_event ?hg (N := 2) ?hd (cs := #[.int .i64 a0_0, .slice A0_1 l0_1.length c0_1]) (t := 25) ?hr ?_; (case hd => rfl); (case hg => rfl); (case hr => first | (go_simp; done) | (go_simp; rfl)); intro gb520 hg w6 hbox hb; have n0_ := Aside0.mk (below_step (viaW HB.out) hb); have n1_ := Aside0.mk (hbox); have n2_ := Aside0.mk ((by rw [hg]; exact (below_size (viaW HB.out)) : w.heap.size ≤ gb520)); have n3_ := Aside0.mk ((by rw [hg]; exact (below_size (viaW HB.out)) : w.heap.size ≤ gb520)); clear HB; have HB := n0_; have BK520 := n1_; have GW520 := n2_; have GE520 := n3_; clear n0_ n1_ n2_ n3_; clear hb hbox hg; have hcz7_0 : w6.cell? ⟨gb520, 0, none⟩ = some (.int .i64 a0_0) := (blk_cell BK520.out 0).trans rfl; have hcz7_1 : w6.cell? ⟨gb520, 1, none⟩ = some (.slice A0_1 l0_1.length c0_1) := (blk_cell BK520.out 1).trans rfl; have hfz7_0 := blk_frozen BK520.out 0; have hfz7_1 := blk_frozen BK520.out 1) | ((with_reducible refine gate_callee (f := 60) rfl ?_); refine goesL_ (some 8) rfl rfl Try.func60 (by kernel_rfl) rfl #[.agg #[.int .i64 a0_0, .slice A0_1 l0_1.length c0_1], .int .i64 a1] rfl (by (try simp only [List.map_toArray, List.map_cons, List.map_nil]); first | done | rfl) ?_; (with_reducible refine (impl_WayIn.calls k a0_0 _ _ l0_1 a1 true _ ?side1 ?side2 A3.out).mono ?_); (case side1 => exact viaC (Kd.C_below HR0_1.out HB.out)); (case side2 => exact HC0_1.out); rintro e w8 ⟨rfl, hb⟩; refine ⟨_, rfl, ?_⟩; have n0_ := Aside0.mk (blk_below (g := gb520) (o := .cells #[.int .i64 a0_0, .slice A0_1 l0_1.length c0_1] 25 (0, 0)) (viaB BK520.out) hb); have n1_ := Aside0.mk (below_step (viaX HB.out GE520.out) hb); clear BK520; clear HB; have BK520 := n0_; have HB := n1_; clear n0_ n1_; (try clear hb); (try clear hb2); (try clear hk); (try clear hi); have hcz9_0 : w8.cell? ⟨gb520, 0, none⟩ = some (.int .i64 a0_0) := (blk_cell BK520.out 0).trans rfl; have hcz9_1 : w8.cell? ⟨gb520, 1, none⟩ = some (.slice A0_1 l0_1.length c0_1) := (blk_cell BK520.out 1).trans rfl; have hfz9_0 := blk_frozen BK520.out 0; have hfz9_1 := blk_frozen BK520.out 1) | ((with_reducible refine gate_callee (f := 62) rfl ?_); refine goesL_ (some 12) rfl rfl Try.func62 (by kernel_rfl) rfl #[.agg #[.int .i64 a0_0, .slice A0_1 l0_1.length c0_1], .int .i64 a1] rfl (by (try simp only [List.map_toArray, List.map_cons, List.map_nil]); first | done | rfl) ?_; (with_reducible refine (impl_byCuts.calls k a0_0 _ _ l0_1 a1 t522 _ ?side1 ?side2 A5.out).mono ?_); (case side1 => exact viaC (Kd.C_below HR0_1.out HB.out)); (case side2 => exact HC0_1.out); rintro e w10 ⟨v523, rfl, ho0, hb⟩; refine ⟨_, rfl, ?_⟩; have n0_ := Aside0.mk (Kd.R_lower ho0 (below_size (viaX HB.out GE520.out))); have n1_ := Aside0.mk (blk_below (g := gb520) (o := .cells #[.int .i64 a0_0, .slice A0_1 l0_1.length c0_1] 25 (0, 0)) (viaB BK520.out) hb); have n2_ := Aside0.mk (below_step (viaX HB.out GE520.out) hb); clear BK520; clear HB; have HO524 := n0_; have BK520 := n1_; have HB := n2_; clear n0_ n1_ n2_; (try clear hb); (try clear hb2); (try clear hk); (try clear hi); (try clear ho0)))
  go_ret2
  exact ⟨_, by first | rfl | (simp [errW_none, errW_some] <;> rfl) | (simp [*, errW_none, errW_some] <;> rfl), viaR HO524.out, viaX HB.out GE520.out⟩
 ·replace c4 := Bool.eq_false_iff.mpr c4
  subst c4; have H1 : (some (([] : List Int), false)) = some (r1, r2) := by rw [if_neg (show ¬ (false = true) by decide)] at H; exact H
  clear H; have H := H1; clear H1
  simp only [Option.some.injEq, Prod.mk.injEq] at H
  obtain ⟨rfl, rfl⟩ := H
  go_enter Try.func24, Try.ntmps24
  go_wp2_with (first | ((with_reducible refine gate_dst (N := 2) rfl ?_); refine box_event ?hg (N := 2) ?hd (cs := #[.int .i64 a0_0, .slice A0_1 l0_1.length c0_1]) (t := 25) ?hr ?_; (case hd => rfl); (case hg => rfl); (case hr => first | (go_simp; done) | (go_simp; rfl)); intro gb520 hg w11 hbox hb; have n0_ := Aside0.mk (below_step (viaW HB.out) hb); have n1_ := Aside0.mk (hbox); have n2_ := Aside0.mk ((by rw [hg]; exact (below_size (viaW HB.out)) : w.heap.size ≤ gb520)); have n3_ := Aside0.mk ((by rw [hg]; exact (below_size (viaW HB.out)) : w.heap.size ≤ gb520)); clear HB; have HB := n0_; have BK520 := n1_; have GW520 := n2_; have GE520 := n3_; clear n0_ n1_ n2_ n3_; clear hb hbox hg; have hcz12_0 : w11.cell? ⟨gb520, 0, none⟩ = some (.int .i64 a0_0) := (blk_cell BK520.out 0).trans rfl; have hcz12_1 : w11.cell? ⟨gb520, 1, none⟩ = some (.slice A0_1 l0_1.length c0_1) := (blk_cell BK520.out 1).trans rfl; have hfz12_0 := blk_frozen BK520.out 0; have hfz12_1 := blk_frozen BK520.out 1) | ((with_reducible refine gate_callee (f := 60) rfl ?_); refine goesL_ (some 8) rfl rfl Try.func60 (by kernel_rfl) rfl #[.agg #[.int .i64 a0_0, .slice A0_1 l0_1.length c0_1], .int .i64 a1] rfl (by (try simp only [List.map_toArray, List.map_cons, List.map_nil]); first | done | rfl) ?_; (with_reducible refine (impl_WayIn.calls k a0_0 _ _ l0_1 a1 false _ ?side1 ?side2 A3.out).mono ?_); (case side1 => exact viaC (Kd.C_below HR0_1.out HB.out)); (case side2 => exact HC0_1.out); rintro e w13 ⟨rfl, hb⟩; refine ⟨_, rfl, ?_⟩; have n0_ := Aside0.mk (blk_below (g := gb520) (o := .cells #[.int .i64 a0_0, .slice A0_1 l0_1.length c0_1] 25 (0, 0)) (viaB BK520.out) hb); have n1_ := Aside0.mk (below_step (viaX HB.out GE520.out) hb); clear BK520; clear HB; have BK520 := n0_; have HB := n1_; clear n0_ n1_; (try clear hb); (try clear hb2); (try clear hk); (try clear hi)))
  go_ret2
  exact ⟨_, by first | rfl | (simp [errW_none, errW_some] <;> rfl) | (simp [*, errW_none, errW_some] <;> rfl), by first | exact Kd.R_nil _ _ _ _ _ | exact Kd.N_nil _ _ _ _ _ | exact Kd.V_nil _ _ _ _ _ | exact Kd.Q_nil _ _ _ _ _ | exact Kd.S_nil _ _ _ _ _, viaX HB.out GE520.out⟩
/-! ### spec_FlipCuts: function 25 -/
def spec_FlipCuts.f (k : Nat) (a0_0 : Int) (l0_1 : List (S69)) (a1 : Int) : Option (List Int × Bool) := (spec_WayIn.f k a0_0 l0_1 a1).bind fun t583 => (if t583 = true then ((spec_l5Cuts.f k a0_0 l0_1 a1).bind fun t584 => (some (t584, true))) else (some ((([] : List Int)), false)))
theorem spec_FlipCuts.mono : ∀ a0 a1 a2 k, LeO (spec_FlipCuts.f k a0 a1 a2) (spec_FlipCuts.f (k + 1) a0 a1 a2) := by
 intro a0 a1 a2 k
 unfold spec_FlipCuts.f
 repeat' first
   | (with_reducible exact spec_WayIn.mono _ _ _ _)
   | (with_reducible exact spec_l5Cuts.mono _ _ _ _)
   | (with_reducible exact LeO.refl _)
   | (with_reducible exact LeO.none _)
   | (with_reducible refine LeO.ite ?_ ?_)
   | (with_reducible refine LeO.bind ?_ (fun _ => ?_))
   | exact spec_WayIn.mono _ _ _ _
   | exact spec_l5Cuts.mono _ _ _ _
   | exact LeO.none _
   | refine LeO.ite ?_ ?_
   | refine LeO.bind ?_ (fun _ => ?_)
set_option maxHeartbeats 8000000 in
set_option maxRecDepth 100000 in
theorem spec_FlipCuts.calls (k : Nat) (a0_0 : Int) (A0_1 : Option Addr) (c0_1 : Nat) (l0_1 : List (S69)) (a1 : Int) (r1 : List Int) (r2 : Bool) (w : World) (hr0_1 : Kd.C k69 w A0_1 l0_1.length l0_1) (hc0_1 : l0_1.length ≤ c0_1) (h : spec_FlipCuts.f k a0_0 l0_1 a1 = some (r1, r2)) :
  Calls Try.prog 25 #[.agg #[.int .i64 a0_0, .slice A0_1 l0_1.length c0_1], .int .i64 a1] w fun e w' => ∃ v0_ : Value, e = .returned (.tuple #[v0_, .bool r2]) ∧ Kd.R (Kd.int .i64) 3 w' w.heap.size (fun _ => True) v0_ r1 ∧ Below w.heap.size w w' := by
 have hu25 := Try.underlying25; have HR0_1 := Aside0.mk hr0_1; have HC0_1 := Aside0.mk hc0_1; clear hr0_1 hc0_1; have HB := Aside0.mk (Below.refl w.heap.size w); have H : ((spec_WayIn.f k a0_0 l0_1 a1).bind fun t583 => (if t583 = true then ((spec_l5Cuts.f k a0_0 l0_1 a1).bind fun t584 => (some (t584, true))) else (some ((([] : List Int)), false)))) = some (r1, r2) := h; clear h; replace H := Option.bind_eq_some_iff.mp H; obtain ⟨t583, A30, H⟩ := H; replace H : (if t583 = true then ((spec_l5Cuts.f k a0_0 l0_1 a1).bind fun t584 => (some (t584, true))) else (some ((([] : List Int)), false))) = some (r1, r2) := H; have A3 := Aside0.mk A30; clear A30
 by_cases c4 : t583 = true
 ·subst c4
  have H1 : ((spec_l5Cuts.f k a0_0 l0_1 a1).bind fun t584 => (some (t584, true))) = some (r1, r2) := by rw [if_pos rfl] at H; exact H
  clear H; have H := H1; clear H1; replace H := Option.bind_eq_some_iff.mp H; obtain ⟨t584, A50, H⟩ := H; replace H : (some (t584, true)) = some (r1, r2) := H; have A5 := Aside0.mk A50; clear A50
  simp only [Option.some.injEq, Prod.mk.injEq] at H
  obtain ⟨rfl, rfl⟩ := H
  go_enter Try.func25, Try.ntmps25
  go_wp2_with (first | ((with_reducible refine gate_dst (N := 2) rfl ?_); refine box_event ?hg (N := 2) ?hd (cs := #[.int .i64 a0_0, .slice A0_1 l0_1.length c0_1]) (t := 25) ?hr ?_; (case hd => rfl); (case hg => rfl); (case hr => first | (go_simp; done) | (go_simp; rfl)); intro gb582 hg w6 hbox hb; have n0_ := Aside0.mk (below_step (viaW HB.out) hb); have n1_ := Aside0.mk (hbox); have n2_ := Aside0.mk ((by rw [hg]; exact (below_size (viaW HB.out)) : w.heap.size ≤ gb582)); have n3_ := Aside0.mk ((by rw [hg]; exact (below_size (viaW HB.out)) : w.heap.size ≤ gb582)); clear HB; have HB := n0_; have BK582 := n1_; have GW582 := n2_; have GE582 := n3_; clear n0_ n1_ n2_ n3_; clear hb hbox hg; have hcz7_0 : w6.cell? ⟨gb582, 0, none⟩ = some (.int .i64 a0_0) := (blk_cell BK582.out 0).trans rfl; have hcz7_1 : w6.cell? ⟨gb582, 1, none⟩ = some (.slice A0_1 l0_1.length c0_1) := (blk_cell BK582.out 1).trans rfl; have hfz7_0 := blk_frozen BK582.out 0; have hfz7_1 := blk_frozen BK582.out 1) | ((with_reducible refine gate_callee (f := 63) rfl ?_); refine goesL_ (some 8) rfl rfl Try.func63 (by kernel_rfl) rfl #[.agg #[.int .i64 a0_0, .slice A0_1 l0_1.length c0_1], .int .i64 a1] rfl (by (try simp only [List.map_toArray, List.map_cons, List.map_nil]); first | done | rfl) ?_; (with_reducible refine (spec_WayIn.calls k a0_0 _ _ l0_1 a1 true _ ?side1 ?side2 A3.out).mono ?_); (case side1 => exact viaC (Kd.C_below HR0_1.out HB.out)); (case side2 => exact HC0_1.out); rintro e w8 ⟨rfl, hb⟩; refine ⟨_, rfl, ?_⟩; have n0_ := Aside0.mk (blk_below (g := gb582) (o := .cells #[.int .i64 a0_0, .slice A0_1 l0_1.length c0_1] 25 (0, 0)) (viaB BK582.out) hb); have n1_ := Aside0.mk (below_step (viaX HB.out GE582.out) hb); clear BK582; clear HB; have BK582 := n0_; have HB := n1_; clear n0_ n1_; (try clear hb); (try clear hb2); (try clear hk); (try clear hi); have hcz9_0 : w8.cell? ⟨gb582, 0, none⟩ = some (.int .i64 a0_0) := (blk_cell BK582.out 0).trans rfl; have hcz9_1 : w8.cell? ⟨gb582, 1, none⟩ = some (.slice A0_1 l0_1.length c0_1) := (blk_cell BK582.out 1).trans rfl; have hfz9_0 := blk_frozen BK582.out 0; have hfz9_1 := blk_frozen BK582.out 1) | ((with_reducible refine gate_callee (f := 64) rfl ?_); refine goesL_ (some 13) rfl rfl Try.func64 (by kernel_rfl) rfl #[.agg #[.int .i64 a0_0, .slice A0_1 l0_1.length c0_1], .int .i64 a1] rfl (by (try simp only [List.map_toArray, List.map_cons, List.map_nil]); first | done | rfl) ?_; (with_reducible refine (spec_l5Cuts.calls k a0_0 _ _ l0_1 a1 t584 _ ?side1 ?side2 A5.out).mono ?_); (case side1 => exact viaC (Kd.C_below HR0_1.out HB.out)); (case side2 => exact HC0_1.out); rintro e w10 ⟨v585, rfl, ho0, hb⟩; refine ⟨_, rfl, ?_⟩; have n0_ := Aside0.mk (Kd.R_lower ho0 (below_size (viaX HB.out GE582.out))); have n1_ := Aside0.mk (blk_below (g := gb582) (o := .cells #[.int .i64 a0_0, .slice A0_1 l0_1.length c0_1] 25 (0, 0)) (viaB BK582.out) hb); have n2_ := Aside0.mk (below_step (viaX HB.out GE582.out) hb); clear BK582; clear HB; have HO586 := n0_; have BK582 := n1_; have HB := n2_; clear n0_ n1_ n2_; (try clear hb); (try clear hb2); (try clear hk); (try clear hi); (try clear ho0)))
  go_ret2
  exact ⟨_, by first | rfl | (simp [errW_none, errW_some] <;> rfl) | (simp [*, errW_none, errW_some] <;> rfl), viaR HO586.out, viaX HB.out GE582.out⟩
 ·replace c4 := Bool.eq_false_iff.mpr c4
  subst c4; have H1 : (some ((([] : List Int)), false)) = some (r1, r2) := by rw [if_neg (show ¬ (false = true) by decide)] at H; exact H
  clear H; have H := H1; clear H1; obtain ⟨y587, hy587⟩ : ∃ y_ : List Int, y_ = (([] : List Int)) := ⟨_, rfl⟩; replace H : (some (y587, false)) = some (r1, r2) := by first | (rw [hy587]; with_reducible exact H) | (have H2_ := (Option.bind_some _ _).symm.trans H; rw [hy587]; with_reducible exact H2_) | (have H2_ := (Option.bind_some _ _).symm.trans H; with_reducible exact H2_) | with_reducible exact H | (rw [hy587]; exact H) | exact H
  have Ny587 := Aside0.mk hy587; clear hy587
  simp only [Option.some.injEq, Prod.mk.injEq] at H
  obtain ⟨rfl, rfl⟩ := H
  go_enter Try.func25, Try.ntmps25
  go_wp2_with (first | ((with_reducible refine gate_dst (N := 2) rfl ?_); refine box_event ?hg (N := 2) ?hd (cs := #[.int .i64 a0_0, .slice A0_1 l0_1.length c0_1]) (t := 25) ?hr ?_; (case hd => rfl); (case hg => rfl); (case hr => first | (go_simp; done) | (go_simp; rfl)); intro gb582 hg w11 hbox hb; have n0_ := Aside0.mk (below_step (viaW HB.out) hb); have n1_ := Aside0.mk (hbox); have n2_ := Aside0.mk ((by rw [hg]; exact (below_size (viaW HB.out)) : w.heap.size ≤ gb582)); have n3_ := Aside0.mk ((by rw [hg]; exact (below_size (viaW HB.out)) : w.heap.size ≤ gb582)); clear HB; have HB := n0_; have BK582 := n1_; have GW582 := n2_; have GE582 := n3_; clear n0_ n1_ n2_ n3_; clear hb hbox hg; have hcz12_0 : w11.cell? ⟨gb582, 0, none⟩ = some (.int .i64 a0_0) := (blk_cell BK582.out 0).trans rfl; have hcz12_1 : w11.cell? ⟨gb582, 1, none⟩ = some (.slice A0_1 l0_1.length c0_1) := (blk_cell BK582.out 1).trans rfl; have hfz12_0 := blk_frozen BK582.out 0; have hfz12_1 := blk_frozen BK582.out 1) | ((with_reducible refine gate_callee (f := 63) rfl ?_); refine goesL_ (some 8) rfl rfl Try.func63 (by kernel_rfl) rfl #[.agg #[.int .i64 a0_0, .slice A0_1 l0_1.length c0_1], .int .i64 a1] rfl (by (try simp only [List.map_toArray, List.map_cons, List.map_nil]); first | done | rfl) ?_; (with_reducible refine (spec_WayIn.calls k a0_0 _ _ l0_1 a1 false _ ?side1 ?side2 A3.out).mono ?_); (case side1 => exact viaC (Kd.C_below HR0_1.out HB.out)); (case side2 => exact HC0_1.out); rintro e w13 ⟨rfl, hb⟩; refine ⟨_, rfl, ?_⟩; have n0_ := Aside0.mk (blk_below (g := gb582) (o := .cells #[.int .i64 a0_0, .slice A0_1 l0_1.length c0_1] 25 (0, 0)) (viaB BK582.out) hb); have n1_ := Aside0.mk (below_step (viaX HB.out GE582.out) hb); clear BK582; clear HB; have BK582 := n0_; have HB := n1_; clear n0_ n1_; (try clear hb); (try clear hb2); (try clear hk); (try clear hi)) | ((with_reducible refine gate_dst (N := 10) rfl ?_); refine Kd.R_lit (Kd.int .i64) _ 3 ?hg (N := 10) ?hd (xs := ([] : List Int)) (inner := []) (ok := fun _ => True) (okp := fun _ => True) ?hr ?hp (fun _ hk => hk) trivial (Below.refl _ _) (Nat.le_refl _) (by simp) ?_; (case hd => rfl); (case hg => rfl); (case hr => first | (go_simp; done) | (go_simp; rfl)); (case hp => exact (Reps.none _ _)); intro v588 w14 ho15 hb hg_ hnew_; clear hg_ hnew_; (first | rw [← Ny587.out] at ho15 | (simp only [Int.reduceToNat] at ho15; rw [← Ny587.out] at ho15)); have n0_ := Aside0.mk (Kd.R_lower ho15 (below_size (viaX HB.out GE582.out))); have n1_ := Aside0.mk (blk_below (g := gb582) (o := .cells #[.int .i64 a0_0, .slice A0_1 l0_1.length c0_1] 25 (0, 0)) (viaB BK582.out) hb); have n2_ := Aside0.mk (below_step (viaX HB.out GE582.out) hb); clear BK582; clear HB; have HO589 := n0_; have BK582 := n1_; have HB := n2_; clear n0_ n1_ n2_; clear hb ho15))
  go_ret2
  exact ⟨_, by first | rfl | (simp [errW_none, errW_some] <;> rfl) | (simp [*, errW_none, errW_some] <;> rfl), viaR HO589.out, viaX HB.out GE582.out⟩
/-! ### impl_isFull: function 66 -/
def impl_isFull.l0 : Nat → Int → List Int → Int → Int → Int → List (S69) → Option (Bool)
 | 0, _, _, _, _, _, _ => none
 | k + 1, x1, x5, x14, x15, x596000, x596001 => if x15 < x14 then ((impl_ends.f x596000 x596001 x1 x15).bind fun bt599 => ((impl_reachOf.f k x5 bt599.2).bind fun t601 => (if 0 ≤ bt599.1 then (if (Go.bits .and .i64 (shr .i64 t601 bt599.1) 1) = 0 then (some false) else (impl_isFull.l0 k x1 x5 x14 (wrap64 (x15 + 1)) x596000 x596001)) else (none)))) else (some true)
def impl_isFull.f (k : Nat) (a0_0 : Int) (l0_1 : List (S69)) (a1 : Int) : Option (Bool) := (impl_nextOf.f k a0_0 l0_1 a1).bind fun t596 => (impl_isFull.l0 k a1 t596 (l0_1.length : Int) 0 a0_0 l0_1)
theorem impl_isFull.mono_l : ∀ k, (∀ y0 y1 y2 y3 y4 y5, LeO (impl_isFull.l0 k y0 y1 y2 y3 y4 y5) (impl_isFull.l0 (k + 1) y0 y1 y2 y3 y4 y5))
 | 0 => fun _ _ _ _ _ _ r h => by simp [impl_isFull.l0] at h
 | k + 1 => by
  have ih0 := impl_isFull.mono_l k
  ·intro y0 y1 y2 y3 y4 y5
   unfold impl_isFull.l0
   repeat' first
   | (with_reducible exact ih0 _ _ _ _ _ _)
   | (with_reducible exact impl_nextOf.mono _ _ _ _)
   | (with_reducible exact impl_reachOf.mono _ _ _)
   | (with_reducible exact LeO.refl _)
   | (with_reducible exact LeO.none _)
   | (with_reducible refine LeO.ite ?_ ?_)
   | (with_reducible refine LeO.bind ?_ (fun _ => ?_))
   | exact ih0 _ _ _ _ _ _
   | exact impl_nextOf.mono _ _ _ _
   | exact impl_reachOf.mono _ _ _
   | exact LeO.none _
   | refine LeO.ite ?_ ?_
   | refine LeO.bind ?_ (fun _ => ?_)
theorem impl_isFull.mono : ∀ a0 a1 a2 k, LeO (impl_isFull.f k a0 a1 a2) (impl_isFull.f (k + 1) a0 a1 a2) := by
 intro a0 a1 a2 k; have ih0 := impl_isFull.mono_l k
 unfold impl_isFull.f
 repeat' first
   | (with_reducible exact ih0 _ _ _ _ _ _)
   | (with_reducible exact impl_nextOf.mono _ _ _ _)
   | (with_reducible exact impl_reachOf.mono _ _ _)
   | (with_reducible exact LeO.refl _)
   | (with_reducible exact LeO.none _)
   | (with_reducible refine LeO.ite ?_ ?_)
   | (with_reducible refine LeO.bind ?_ (fun _ => ?_))
   | exact ih0 _ _ _ _ _ _
   | exact impl_nextOf.mono _ _ _ _
   | exact impl_reachOf.mono _ _ _
   | exact LeO.none _
   | refine LeO.ite ?_ ?_
   | refine LeO.bind ?_ (fun _ => ?_)
set_option maxHeartbeats 8000000 in
set_option maxRecDepth 100000 in
theorem impl_isFull.calls (k : Nat) (a0_0 : Int) (A0_1 : Option Addr) (c0_1 : Nat) (l0_1 : List (S69)) (a1 : Int) (r : Bool) (w : World) (hr0_1 : Kd.C k69 w A0_1 l0_1.length l0_1) (hc0_1 : l0_1.length ≤ c0_1) (h : impl_isFull.f k a0_0 l0_1 a1 = some r) :
  Calls Try.prog 66 #[.agg #[.int .i64 a0_0, .slice A0_1 l0_1.length c0_1], .int .i64 a1] w fun e w' => e = .returned (.bool r) ∧ Below w.heap.size w w' := by
 have hu25 := Try.underlying25; have HR0_1 := Aside0.mk hr0_1; have HC0_1 := Aside0.mk hc0_1; clear hr0_1 hc0_1; have HB := Aside0.mk (Below.refl w.heap.size w); have H : ((impl_nextOf.f k a0_0 l0_1 a1).bind fun t596 => (impl_isFull.l0 k a1 t596 (l0_1.length : Int) 0 a0_0 l0_1)) = some r := h; clear h; replace H := Option.bind_eq_some_iff.mp H; obtain ⟨t596, A30, H⟩ := H; replace H : (impl_isFull.l0 k a1 t596 (l0_1.length : Int) 0 a0_0 l0_1) = some r := H; have A3 := Aside0.mk A30; clear A30; have H' := Aside0.mk H; clear H
 go_enter Try.func66, Try.ntmps66
 go_wp2_with (first | ((with_reducible refine gate_dst (N := 2) rfl ?_); refine box_event ?hg (N := 2) ?hd (cs := #[.int .i64 a0_0, .slice A0_1 l0_1.length c0_1]) (t := 25) ?hr ?_; (case hd => rfl); (case hg => rfl); (case hr => first | (go_simp; done) | (go_simp; rfl)); intro gb595 hg w4 hbox hb; have n0_ := Aside0.mk (below_step (viaW HB.out) hb); have n1_ := Aside0.mk (hbox); have n2_ := Aside0.mk ((by rw [hg]; exact (below_size (viaW HB.out)) : w.heap.size ≤ gb595)); have n3_ := Aside0.mk ((by rw [hg]; exact (below_size (viaW HB.out)) : w.heap.size ≤ gb595)); clear HB; have HB := n0_; have BK595 := n1_; have GW595 := n2_; have GE595 := n3_; clear n0_ n1_ n2_ n3_; clear hb hbox hg; have hcz5_0 : w4.cell? ⟨gb595, 0, none⟩ = some (.int .i64 a0_0) := (blk_cell BK595.out 0).trans rfl; have hcz5_1 : w4.cell? ⟨gb595, 1, none⟩ = some (.slice A0_1 l0_1.length c0_1) := (blk_cell BK595.out 1).trans rfl; have hfz5_0 := blk_frozen BK595.out 0; have hfz5_1 := blk_frozen BK595.out 1) | ((with_reducible refine gate_callee (f := 94) rfl ?_); refine goesL_ (some 11) rfl rfl Try.func94 (by kernel_rfl) rfl #[.agg #[.int .i64 a0_0, .slice A0_1 l0_1.length c0_1], .int .i64 a1] rfl (by (try simp only [List.map_toArray, List.map_cons, List.map_nil]); first | done | rfl) ?_; (with_reducible refine (impl_nextOf.calls k a0_0 _ _ l0_1 a1 t596 _ ?side1 ?side2 A3.out).mono ?_); (case side1 => exact viaC (Kd.C_below HR0_1.out HB.out)); (case side2 => exact HC0_1.out); rintro e w6 ⟨v597, rfl, ho0, hb⟩; refine ⟨_, rfl, ?_⟩; have n0_ := Aside0.mk (Kd.R_lower ho0 (below_size (viaX HB.out GE595.out))); have n1_ := Aside0.mk (blk_below (g := gb595) (o := .cells #[.int .i64 a0_0, .slice A0_1 l0_1.length c0_1] 25 (0, 0)) (viaB BK595.out) hb); have n2_ := Aside0.mk (below_step (viaX HB.out GE595.out) hb); clear BK595; clear HB; have HO598 := n0_; have BK595 := n1_; have HB := n2_; clear n0_ n1_ n2_; (try clear hb); (try clear hb2); (try clear hk); (try clear hi); (try clear ho0); have hcz7_0 : w6.cell? ⟨gb595, 0, none⟩ = some (.int .i64 a0_0) := (blk_cell BK595.out 0).trans rfl; have hcz7_1 : w6.cell? ⟨gb595, 1, none⟩ = some (.slice A0_1 l0_1.length c0_1) := (blk_cell BK595.out 1).trans rfl; have hfz7_0 := blk_frozen BK595.out 0; have hfz7_1 := blk_frozen BK595.out 1))
 go_loopg [15] k (fun kq v15 w' => ∃ (x15_1 : Int), v15 = .int .i64 x15_1 ∧ Aside0 (impl_isFull.l0 kq a1 t596 (l0_1.length : Int) x15_1 a0_0 l0_1 = some r) ∧ Aside0 (kq ≤ k) ∧ Aside0 (Kd.R (Kd.int .i64) 3 w' w.heap.size (fun _ => True) v597 t596) ∧ Aside0 (w'.heap[gb595]? = some (.cells #[.int .i64 a0_0, (.slice A0_1 l0_1.length c0_1)] 25 (0, 0))) ∧ Aside0 (Below w.heap.size w w'))
 case atStart => exact ⟨(0), (by first | rfl | (simp; done) | (simp [*]; done)), H', ⟨Nat.le_refl _⟩, ⟨viaR HO598.out⟩, ⟨viaB BK595.out⟩, ⟨viaX HB.out GE595.out⟩⟩
 case round =>
  clear H'
  try clear p2
  try clear c6
  try clear hcz5_0
  try clear hcz5_1
  try clear hcz7_0
  try clear hcz7_1
  try clear hfz5_0
  try clear hfz5_1
  try clear hfz7_0
  try clear hfz7_1
  obtain ⟨x15_1, rfl, HA, HK1, HO_5, BK595, HB⟩ := hrel
  cases gk with
  | zero => exact absurd HA.out (by simp [impl_isFull.l0])
  | succ k1 =>
   have H := HA.out; clear HA
   simp only [impl_isFull.l0] at H
   by_cases c8 : x15_1 < (l0_1.length : Int)
   ·rw [if_pos c8] at H
    have c8b0 : decide (x15_1 < (l0_1.length : Int)) = true := decide_eq_true c8; clear c8; replace H := Option.bind_eq_some_iff.mp H; obtain ⟨⟨t599, t600⟩, A90, H⟩ := H; replace H : ((impl_reachOf.f k1 t596 t600).bind fun t601 => (if 0 ≤ t599 then (if (Go.bits .and .i64 (shr .i64 t601 t599) 1) = 0 then (some false) else (impl_isFull.l0 k1 a1 t596 (l0_1.length : Int) (wrap64 (x15_1 + 1)) a0_0 l0_1)) else (none))) = some r := H; have A9 := Aside0.mk A90; clear A90; replace H := Option.bind_eq_some_iff.mp H; obtain ⟨t601, A100, H⟩ := H; replace H : (if 0 ≤ t599 then (if (Go.bits .and .i64 (shr .i64 t601 t599) 1) = 0 then (some false) else (impl_isFull.l0 k1 a1 t596 (l0_1.length : Int) (wrap64 (x15_1 + 1)) a0_0 l0_1)) else (none)) = some r := H; have A10 := Aside0.mk A100; clear A100
    by_cases c11 : 0 ≤ t599
    ·rw [if_pos c11] at H
     have c11b0 := eq_true c11; have c11b1 : decide (0 ≤ t599) = true := decide_eq_true c11; clear c11; obtain ⟨ji12, hji12⟩ : ∃ j_ : Int, (shr .i64 t601 t599) = j_ := ⟨_, rfl⟩; replace H : (if (Go.bits .and .i64 (ji12) 1) = 0 then (some false) else (impl_isFull.l0 k1 a1 t596 (l0_1.length : Int) (wrap64 (x15_1 + 1)) a0_0 l0_1)) = some r := by first | (rw [hji12] at H; exact H) | (simp only [hji12] at H ⊢; exact H)
     (try rw [hji12] at A9)
     (try rw [hji12] at A10)
     have hji12_ : (t601 / 2 ^ min t599.toNat 64) = ji12 := hji12; have hji12z : t599 ≤ 64 → (t601 / 2 ^ t599.toNat) = ji12 := shr_small hji12
     by_cases c13 : (Go.bits .and .i64 (ji12) 1) = 0
     ·rw [if_pos c13] at H
      have c13b0 : ((Go.bits .and .i64 (ji12) 1) == 0) = true := beq_iff_eq.mpr c13; have c13b1 : ((Go.bits .and .i64 (ji12) 1) != 0) = false := bne_eq_false_iff_eq.mpr c13; clear c13; obtain rfl := Option.some.inj H; have hcz14_0 : wr.cell? ⟨gb595, 0, none⟩ = some (.int .i64 a0_0) := (blk_cell BK595.out 0).trans rfl; have hcz14_1 : wr.cell? ⟨gb595, 1, none⟩ = some (.slice A0_1 l0_1.length c0_1) := (blk_cell BK595.out 1).trans rfl; have hfz14_0 := blk_frozen BK595.out 0; have hfz14_1 := blk_frozen BK595.out 1
      go_wp2_with (first | ((with_reducible refine gate_callee (f := 99) rfl ?_); refine goesL_ (some 22) rfl rfl Try.func99 (by kernel_rfl) rfl #[.agg #[.int .i64 a0_0, .slice A0_1 l0_1.length c0_1], .int .i64 a1, .int .i64 x15_1] rfl (by (try simp only [List.map_toArray, List.map_cons, List.map_nil]); first | done | rfl) ?_; (with_reducible refine (impl_ends.calls a0_0 _ _ l0_1 a1 x15_1 t599 t600 _ ?side1 ?side2 A9.out).mono ?_); (case side1 => exact viaC (Kd.C_below HR0_1.out HB.out)); (case side2 => exact HC0_1.out); rintro e w15 ⟨rfl, hb⟩; refine ⟨_, rfl, ?_⟩; have n0_ := Aside0.mk (Kd.R_below (viaR HO_5.out) hb); have n1_ := Aside0.mk (blk_below (g := gb595) (o := .cells #[.int .i64 a0_0, .slice A0_1 l0_1.length c0_1] 25 (0, 0)) (viaB BK595.out) hb); have n2_ := Aside0.mk (below_step (viaX HB.out GE595.out) hb); clear HO_5; clear BK595; clear HB; have HO_5 := n0_; have BK595 := n1_; have HB := n2_; clear n0_ n1_ n2_; (try clear hb); (try clear hb2); (try clear hk); (try clear hi); obtain ⟨Ao16, co16, eo16⟩ := Kd.R_slice HO_5.out; subst eo16) | ((with_reducible refine gate_callee (f := 104) rfl ?_); refine goesL_ (some 27) rfl rfl Try.func104 (by kernel_rfl) rfl #[.slice Ao16 t596.length co16, .int .i64 t600] rfl (by (try simp only [List.map_toArray, List.map_cons, List.map_nil]); first | done | rfl) ?_; (with_reducible refine (impl_reachOf.calls k1 _ _ t596 t600 t601 _ ?side1 ?side2 A10.out).mono ?_); (case side1 => exact viaC (Kd.R_reads' HO_5.out).2.2); (case side2 => exact (Kd.R_reads' HO_5.out).2.1); rintro e w' ⟨rfl, ⟨nd, rfl⟩⟩; refine ⟨_, rfl, ?_⟩))
      go_ret
      exact ⟨by first | rfl | (simp [errW_none, errW_some] <;> rfl) | (simp only [← hji12]; first | rfl | (simp [errW_none, errW_some] <;> rfl)) | (simp [*, errW_none, errW_some] <;> rfl), viaX HB.out GE595.out⟩
     ·rw [if_neg c13] at H
      have c13b0 : ((Go.bits .and .i64 (ji12) 1) == 0) = false := beq_eq_false_iff_ne.mpr c13; have c13b1 : ((Go.bits .and .i64 (ji12) 1) != 0) = true := bne_iff_ne.mpr c13; have H' := Aside0.mk H; clear H; have hcz17_0 : wr.cell? ⟨gb595, 0, none⟩ = some (.int .i64 a0_0) := (blk_cell BK595.out 0).trans rfl; have hcz17_1 : wr.cell? ⟨gb595, 1, none⟩ = some (.slice A0_1 l0_1.length c0_1) := (blk_cell BK595.out 1).trans rfl; have hfz17_0 := blk_frozen BK595.out 0; have hfz17_1 := blk_frozen BK595.out 1
      go_wp2_with (first | ((with_reducible refine gate_callee (f := 99) rfl ?_); refine goesL_ (some 22) rfl rfl Try.func99 (by kernel_rfl) rfl #[.agg #[.int .i64 a0_0, .slice A0_1 l0_1.length c0_1], .int .i64 a1, .int .i64 x15_1] rfl (by (try simp only [List.map_toArray, List.map_cons, List.map_nil]); first | done | rfl) ?_; (with_reducible refine (impl_ends.calls a0_0 _ _ l0_1 a1 x15_1 t599 t600 _ ?side1 ?side2 A9.out).mono ?_); (case side1 => exact viaC (Kd.C_below HR0_1.out HB.out)); (case side2 => exact HC0_1.out); rintro e w18 ⟨rfl, hb⟩; refine ⟨_, rfl, ?_⟩; have n0_ := Aside0.mk (Kd.R_below (viaR HO_5.out) hb); have n1_ := Aside0.mk (blk_below (g := gb595) (o := .cells #[.int .i64 a0_0, .slice A0_1 l0_1.length c0_1] 25 (0, 0)) (viaB BK595.out) hb); have n2_ := Aside0.mk (below_step (viaX HB.out GE595.out) hb); clear HO_5; clear BK595; clear HB; have HO_5 := n0_; have BK595 := n1_; have HB := n2_; clear n0_ n1_ n2_; (try clear hb); (try clear hb2); (try clear hk); (try clear hi); obtain ⟨Ao19, co19, eo19⟩ := Kd.R_slice HO_5.out; subst eo19) | ((with_reducible refine gate_callee (f := 104) rfl ?_); refine goesL_ (some 27) rfl rfl Try.func104 (by kernel_rfl) rfl #[.slice Ao19 t596.length co19, .int .i64 t600] rfl (by (try simp only [List.map_toArray, List.map_cons, List.map_nil]); first | done | rfl) ?_; (with_reducible refine (impl_reachOf.calls k1 _ _ t596 t600 t601 _ ?side1 ?side2 A10.out).mono ?_); (case side1 => exact viaC (Kd.R_reads' HO_5.out).2.2); (case side2 => exact (Kd.R_reads' HO_5.out).2.1); rintro e w' ⟨rfl, ⟨nd, rfl⟩⟩; refine ⟨_, rfl, ?_⟩))
      go_roundg k1
      case measure => have := HK1.out; omega
      case rel => exact ⟨(wrap64 (x15_1 + 1)), (by first | rfl | (simp; done) | (simp [*]; done)), H', ⟨by have := HK1.out; omega⟩, ⟨viaR HO_5.out⟩, ⟨viaB BK595.out⟩, ⟨viaX HB.out GE595.out⟩⟩
    ·rw [if_neg c11] at H
     exact absurd H (by simp)
   ·rw [if_neg c8] at H
    have c8b0 : decide (x15_1 < (l0_1.length : Int)) = false := decide_eq_false c8; clear c8; obtain rfl := Option.some.inj H
    go_wp2
    go_ret
    exact ⟨by first | rfl | (simp [errW_none, errW_some] <;> rfl) | (simp [*, errW_none, errW_some] <;> rfl), viaX HB.out GE595.out⟩
/-! ### impl_StrongFull: function 27 -/
def impl_StrongFull.f (k : Nat) (a0_0 : Int) (l0_1 : List (S69)) (a1 : Int) : Option (Bool) := (impl_WayIn.f k a0_0 l0_1 a1).bind fun t603 => (if t603 = true then ((impl_isFull.f k a0_0 l0_1 a1).bind fun t604 => (some t604)) else (some false))
theorem impl_StrongFull.mono : ∀ a0 a1 a2 k, LeO (impl_StrongFull.f k a0 a1 a2) (impl_StrongFull.f (k + 1) a0 a1 a2) := by
 intro a0 a1 a2 k
 unfold impl_StrongFull.f
 repeat' first
   | (with_reducible exact impl_WayIn.mono _ _ _ _)
   | (with_reducible exact impl_isFull.mono _ _ _ _)
   | (with_reducible exact LeO.refl _)
   | (with_reducible exact LeO.none _)
   | (with_reducible refine LeO.ite ?_ ?_)
   | (with_reducible refine LeO.bind ?_ (fun _ => ?_))
   | exact impl_WayIn.mono _ _ _ _
   | exact impl_isFull.mono _ _ _ _
   | exact LeO.none _
   | refine LeO.ite ?_ ?_
   | refine LeO.bind ?_ (fun _ => ?_)
set_option maxHeartbeats 8000000 in
set_option maxRecDepth 100000 in
theorem impl_StrongFull.calls (k : Nat) (a0_0 : Int) (A0_1 : Option Addr) (c0_1 : Nat) (l0_1 : List (S69)) (a1 : Int) (r : Bool) (w : World) (hr0_1 : Kd.C k69 w A0_1 l0_1.length l0_1) (hc0_1 : l0_1.length ≤ c0_1) (h : impl_StrongFull.f k a0_0 l0_1 a1 = some r) :
  Calls Try.prog 27 #[.agg #[.int .i64 a0_0, .slice A0_1 l0_1.length c0_1], .int .i64 a1] w fun e w' => e = .returned (.bool r) ∧ Below w.heap.size w w' := by
 have hu25 := Try.underlying25; have HR0_1 := Aside0.mk hr0_1; have HC0_1 := Aside0.mk hc0_1; clear hr0_1 hc0_1; have HB := Aside0.mk (Below.refl w.heap.size w); have H : ((impl_WayIn.f k a0_0 l0_1 a1).bind fun t603 => (if t603 = true then ((impl_isFull.f k a0_0 l0_1 a1).bind fun t604 => (some t604)) else (some false))) = some r := h; clear h; replace H := Option.bind_eq_some_iff.mp H; obtain ⟨t603, A30, H⟩ := H; replace H : (if t603 = true then ((impl_isFull.f k a0_0 l0_1 a1).bind fun t604 => (some t604)) else (some false)) = some r := H; have A3 := Aside0.mk A30; clear A30
 by_cases c4 : t603 = true
 ·subst c4
  have H1 : ((impl_isFull.f k a0_0 l0_1 a1).bind fun t604 => (some t604)) = some r := by rw [if_pos rfl] at H; exact H
  clear H; have H := H1; clear H1; replace H := Option.bind_eq_some_iff.mp H; obtain ⟨t604, A50, H⟩ := H; replace H : (some t604) = some r := H; have A5 := Aside0.mk A50; clear A50; obtain rfl := Option.some.inj H
  go_enter Try.func27, Try.ntmps27
  go_wp2_with (first | ((with_reducible refine gate_dst (N := 2) rfl ?_); refine box_event ?hg (N := 2) ?hd (cs := #[.int .i64 a0_0, .slice A0_1 l0_1.length c0_1]) (t := 25) ?hr ?_; (case hd => rfl); (case hg => rfl); (case hr => first | (go_simp; done) | (go_simp; rfl)); intro gb602 hg w6 hbox hb; have n0_ := Aside0.mk (below_step (viaW HB.out) hb); have n1_ := Aside0.mk (hbox); have n2_ := Aside0.mk ((by rw [hg]; exact (below_size (viaW HB.out)) : w.heap.size ≤ gb602)); have n3_ := Aside0.mk ((by rw [hg]; exact (below_size (viaW HB.out)) : w.heap.size ≤ gb602)); clear HB; have HB := n0_; have BK602 := n1_; have GW602 := n2_; have GE602 := n3_; clear n0_ n1_ n2_ n3_; clear hb hbox hg; have hcz7_0 : w6.cell? ⟨gb602, 0, none⟩ = some (.int .i64 a0_0) := (blk_cell BK602.out 0).trans rfl; have hcz7_1 : w6.cell? ⟨gb602, 1, none⟩ = some (.slice A0_1 l0_1.length c0_1) := (blk_cell BK602.out 1).trans rfl; have hfz7_0 := blk_frozen BK602.out 0; have hfz7_1 := blk_frozen BK602.out 1) | ((with_reducible refine gate_callee (f := 60) rfl ?_); refine goesL_ (some 7) rfl rfl Try.func60 (by kernel_rfl) rfl #[.agg #[.int .i64 a0_0, .slice A0_1 l0_1.length c0_1], .int .i64 a1] rfl (by (try simp only [List.map_toArray, List.map_cons, List.map_nil]); first | done | rfl) ?_; (with_reducible refine (impl_WayIn.calls k a0_0 _ _ l0_1 a1 true _ ?side1 ?side2 A3.out).mono ?_); (case side1 => exact viaC (Kd.C_below HR0_1.out HB.out)); (case side2 => exact HC0_1.out); rintro e w8 ⟨rfl, hb⟩; refine ⟨_, rfl, ?_⟩; have n0_ := Aside0.mk (blk_below (g := gb602) (o := .cells #[.int .i64 a0_0, .slice A0_1 l0_1.length c0_1] 25 (0, 0)) (viaB BK602.out) hb); have n1_ := Aside0.mk (below_step (viaX HB.out GE602.out) hb); clear BK602; clear HB; have BK602 := n0_; have HB := n1_; clear n0_ n1_; (try clear hb); (try clear hb2); (try clear hk); (try clear hi); have hcz9_0 : w8.cell? ⟨gb602, 0, none⟩ = some (.int .i64 a0_0) := (blk_cell BK602.out 0).trans rfl; have hcz9_1 : w8.cell? ⟨gb602, 1, none⟩ = some (.slice A0_1 l0_1.length c0_1) := (blk_cell BK602.out 1).trans rfl; have hfz9_0 := blk_frozen BK602.out 0; have hfz9_1 := blk_frozen BK602.out 1) | (go_at_call 66; (with_reducible refine (impl_isFull.calls k a0_0 _ _ l0_1 a1 t604 _ ?side1 ?side2 A5.out).mono ?_); (case side1 => exact viaC (Kd.C_below HR0_1.out HB.out)); (case side2 => exact HC0_1.out); rintro e w10 ⟨rfl, hb⟩; have n0_ := Aside0.mk (blk_below (g := gb602) (o := .cells #[.int .i64 a0_0, .slice A0_1 l0_1.length c0_1] 25 (0, 0)) (viaB BK602.out) hb); have n1_ := Aside0.mk (below_step (viaX HB.out GE602.out) hb); clear BK602; clear HB; have BK602 := n0_; have HB := n1_; clear n0_ n1_; (try clear hb); (try clear hb2); (try clear hk); (try clear hi)))
  go_ret
  exact ⟨by first | rfl | (simp [errW_none, errW_some] <;> rfl) | (simp [*, errW_none, errW_some] <;> rfl), viaX HB.out GE602.out⟩
 ·replace c4 := Bool.eq_false_iff.mpr c4
  subst c4; have H1 : (some false) = some r := by rw [if_neg (show ¬ (false = true) by decide)] at H; exact H
  clear H; have H := H1; clear H1; obtain rfl := Option.some.inj H
  go_enter Try.func27, Try.ntmps27
  go_wp2_with (first | ((with_reducible refine gate_dst (N := 2) rfl ?_); refine box_event ?hg (N := 2) ?hd (cs := #[.int .i64 a0_0, .slice A0_1 l0_1.length c0_1]) (t := 25) ?hr ?_; (case hd => rfl); (case hg => rfl); (case hr => first | (go_simp; done) | (go_simp; rfl)); intro gb602 hg w11 hbox hb; have n0_ := Aside0.mk (below_step (viaW HB.out) hb); have n1_ := Aside0.mk (hbox); have n2_ := Aside0.mk ((by rw [hg]; exact (below_size (viaW HB.out)) : w.heap.size ≤ gb602)); have n3_ := Aside0.mk ((by rw [hg]; exact (below_size (viaW HB.out)) : w.heap.size ≤ gb602)); clear HB; have HB := n0_; have BK602 := n1_; have GW602 := n2_; have GE602 := n3_; clear n0_ n1_ n2_ n3_; clear hb hbox hg; have hcz12_0 : w11.cell? ⟨gb602, 0, none⟩ = some (.int .i64 a0_0) := (blk_cell BK602.out 0).trans rfl; have hcz12_1 : w11.cell? ⟨gb602, 1, none⟩ = some (.slice A0_1 l0_1.length c0_1) := (blk_cell BK602.out 1).trans rfl; have hfz12_0 := blk_frozen BK602.out 0; have hfz12_1 := blk_frozen BK602.out 1) | ((with_reducible refine gate_callee (f := 60) rfl ?_); refine goesL_ (some 7) rfl rfl Try.func60 (by kernel_rfl) rfl #[.agg #[.int .i64 a0_0, .slice A0_1 l0_1.length c0_1], .int .i64 a1] rfl (by (try simp only [List.map_toArray, List.map_cons, List.map_nil]); first | done | rfl) ?_; (with_reducible refine (impl_WayIn.calls k a0_0 _ _ l0_1 a1 false _ ?side1 ?side2 A3.out).mono ?_); (case side1 => exact viaC (Kd.C_below HR0_1.out HB.out)); (case side2 => exact HC0_1.out); rintro e w13 ⟨rfl, hb⟩; refine ⟨_, rfl, ?_⟩; have n0_ := Aside0.mk (blk_below (g := gb602) (o := .cells #[.int .i64 a0_0, .slice A0_1 l0_1.length c0_1] 25 (0, 0)) (viaB BK602.out) hb); have n1_ := Aside0.mk (below_step (viaX HB.out GE602.out) hb); clear BK602; clear HB; have BK602 := n0_; have HB := n1_; clear n0_ n1_; (try clear hb); (try clear hb2); (try clear hk); (try clear hi)))
  go_ret
  exact ⟨by first | rfl | (simp [errW_none, errW_some] <;> rfl) | (simp [*, errW_none, errW_some] <;> rfl), viaX HB.out GE602.out⟩
/-! ### laws_FnCuts: function 5 -/
mutual
def laws_FnCuts.j0 : Nat → Int → List Int → Bool → List Int → Bool → Bool → Int → List (S69) → Option (Bool)
 | 0, _, _, _, _, _, _, _, _ => none
 | k + 1, x4, x5, x6, x7, x8, x46, x611000, x611001 => if x46 = true then (if (x6 == x8) = true then ((laws_sameInts.f k x5 x7).bind fun t620 => (some t620)) else (some false)) else ((impl_FlipRounds.f k x611000 x611001 x4).bind fun bt621 => (laws_FnCuts.l0 k x4 x5 bt621.1 bt621.2 0 x611000 x611001))
def laws_FnCuts.l0 : Nat → Int → List Int → List Int → Bool → Int → Int → List (S69) → Option (Bool)
 | 0, _, _, _, _, _, _, _ => none
 | k + 1, x4, x5, x9, x10, x11, x611000, x611001 => if x11 < (x5.length : Int) then (if 0 ≤ x11 then ((impl_FlipRounds.f k x611000 x611001 (rd x5 x11)).bind fun bt626 => (if bt626.2 = true then (if (x9.length : Int) = (bt626.1.length : Int) then (laws_FnCuts.l0 k x4 x5 x9 x10 (wrap64 (x11 + 1)) x611000 x611001) else (some false)) else (some false))) else (none)) else (if x10 = true then ((impl_StrongFull.f k x611000 x611001 x4).bind fun t630 => (some (((x5.length : Int) == 0) == t630))) else (some false))
end
def laws_FnCuts.f (k : Nat) (l0 : List Int) : Option (Bool) := if (l0.length : Int) > 1048576 then (some true) else ((spec_DrawFlipCuts.f k l0).bind fun bt605 => ((impl_FlipCuts.f k bt605.1 bt605.2.1 bt605.2.2).bind fun bt611 => ((spec_FlipCuts.f k bt605.1 bt605.2.1 bt605.2.2).bind fun bt615 => (if (bt611.2 != bt615.2) = true then (laws_FnCuts.j0 k bt605.2.2 bt611.1 bt611.2 bt615.1 bt615.2 true bt605.1 bt605.2.1) else ((laws_sameInts.f k bt611.1 bt615.1).bind fun t619 => (if t619 = true then (laws_FnCuts.j0 k bt605.2.2 bt611.1 bt611.2 bt615.1 bt615.2 (!bt611.2) bt605.1 bt605.2.1) else (laws_FnCuts.j0 k bt605.2.2 bt611.1 bt611.2 bt615.1 bt615.2 true bt605.1 bt605.2.1)))))))
theorem laws_FnCuts.mono_l : ∀ k, (∀ y0 y1 y2 y3 y4 y5 y6 y7, LeO (laws_FnCuts.j0 k y0 y1 y2 y3 y4 y5 y6 y7) (laws_FnCuts.j0 (k + 1) y0 y1 y2 y3 y4 y5 y6 y7)) ∧ (∀ y0 y1 y2 y3 y4 y5 y6, LeO (laws_FnCuts.l0 k y0 y1 y2 y3 y4 y5 y6) (laws_FnCuts.l0 (k + 1) y0 y1 y2 y3 y4 y5 y6))
 | 0 => ⟨fun _ _ _ _ _ _ _ _ r h => by simp [laws_FnCuts.j0] at h, fun _ _ _ _ _ _ _ r h => by simp [laws_FnCuts.l0] at h⟩
 | k + 1 => by
  obtain ⟨ih0, ih1⟩ := laws_FnCuts.mono_l k
  refine ⟨?_, ?_⟩
  ·intro y0 y1 y2 y3 y4 y5 y6 y7
   unfold laws_FnCuts.j0
   repeat' first
   | (with_reducible exact ih0 _ _ _ _ _ _ _ _)
   | (with_reducible exact ih1 _ _ _ _ _ _ _)
   | (with_reducible exact impl_FlipCuts.mono _ _ _ _)
   | (with_reducible exact impl_FlipRounds.mono _ _ _ _)
   | (with_reducible exact impl_StrongFull.mono _ _ _ _)
   | (with_reducible exact laws_sameInts.mono _ _ _)
   | (with_reducible exact spec_DrawFlipCuts.mono _ _)
   | (with_reducible exact spec_FlipCuts.mono _ _ _ _)
   | (with_reducible exact LeO.refl _)
   | (with_reducible exact LeO.none _)
   | (with_reducible refine LeO.ite ?_ ?_)
   | (with_reducible refine LeO.bind ?_ (fun _ => ?_))
   | exact ih0 _ _ _ _ _ _ _ _
   | exact ih1 _ _ _ _ _ _ _
   | exact impl_FlipCuts.mono _ _ _ _
   | exact impl_FlipRounds.mono _ _ _ _
   | exact impl_StrongFull.mono _ _ _ _
   | exact laws_sameInts.mono _ _ _
   | exact spec_DrawFlipCuts.mono _ _
   | exact spec_FlipCuts.mono _ _ _ _
   | exact LeO.none _
   | refine LeO.ite ?_ ?_
   | refine LeO.bind ?_ (fun _ => ?_)
  ·intro y0 y1 y2 y3 y4 y5 y6
   unfold laws_FnCuts.l0
   repeat' first
   | (with_reducible exact ih0 _ _ _ _ _ _ _ _)
   | (with_reducible exact ih1 _ _ _ _ _ _ _)
   | (with_reducible exact impl_FlipCuts.mono _ _ _ _)
   | (with_reducible exact impl_FlipRounds.mono _ _ _ _)
   | (with_reducible exact impl_StrongFull.mono _ _ _ _)
   | (with_reducible exact laws_sameInts.mono _ _ _)
   | (with_reducible exact spec_DrawFlipCuts.mono _ _)
   | (with_reducible exact spec_FlipCuts.mono _ _ _ _)
   | (with_reducible exact LeO.refl _)
   | (with_reducible exact LeO.none _)
   | (with_reducible refine LeO.ite ?_ ?_)
   | (with_reducible refine LeO.bind ?_ (fun _ => ?_))
   | exact ih0 _ _ _ _ _ _ _ _
   | exact ih1 _ _ _ _ _ _ _
   | exact impl_FlipCuts.mono _ _ _ _
   | exact impl_FlipRounds.mono _ _ _ _
   | exact impl_StrongFull.mono _ _ _ _
   | exact laws_sameInts.mono _ _ _
   | exact spec_DrawFlipCuts.mono _ _
   | exact spec_FlipCuts.mono _ _ _ _
   | exact LeO.none _
   | refine LeO.ite ?_ ?_
   | refine LeO.bind ?_ (fun _ => ?_)
theorem laws_FnCuts.mono : ∀ a0 k, LeO (laws_FnCuts.f k a0) (laws_FnCuts.f (k + 1) a0) := by
 intro a0 k; obtain ⟨ih0, ih1⟩ := laws_FnCuts.mono_l k
 unfold laws_FnCuts.f
 repeat' first
   | (with_reducible exact ih0 _ _ _ _ _ _ _ _)
   | (with_reducible exact ih1 _ _ _ _ _ _ _)
   | (with_reducible exact impl_FlipCuts.mono _ _ _ _)
   | (with_reducible exact impl_FlipRounds.mono _ _ _ _)
   | (with_reducible exact impl_StrongFull.mono _ _ _ _)
   | (with_reducible exact laws_sameInts.mono _ _ _)
   | (with_reducible exact spec_DrawFlipCuts.mono _ _)
   | (with_reducible exact spec_FlipCuts.mono _ _ _ _)
   | (with_reducible exact LeO.refl _)
   | (with_reducible exact LeO.none _)
   | (with_reducible refine LeO.ite ?_ ?_)
   | (with_reducible refine LeO.bind ?_ (fun _ => ?_))
   | exact ih0 _ _ _ _ _ _ _ _
   | exact ih1 _ _ _ _ _ _ _
   | exact impl_FlipCuts.mono _ _ _ _
   | exact impl_FlipRounds.mono _ _ _ _
   | exact impl_StrongFull.mono _ _ _ _
   | exact laws_sameInts.mono _ _ _
   | exact spec_DrawFlipCuts.mono _ _
   | exact spec_FlipCuts.mono _ _ _ _
   | exact LeO.none _
   | refine LeO.ite ?_ ?_
   | refine LeO.bind ?_ (fun _ => ?_)
def laws_FnCuts.T12 : Bool × List (List Nat × List Nat) := (true, [([], []), ([], []), ([], []), ([1, 2], [1, 2]), ([3], [3]), ([0, 4], [0, 4]), ([5], [5]), ([6], [6]), ([6], [6]), ([7, 5, 0, 1, 2, 3, 4, 5, 6, 7], [7]), ([8, 9, 0, 1, 2, 3, 4, 5, 6, 7, 8, 9], [8])])
def laws_FnCuts.B12 : List Nat := [0, 0, 0, 6, 14, 31, 63, 127, 127, 255, 1023]
theorem laws_FnCuts.tab12 : rtab .any (opsOf Try.f5 12) = laws_FnCuts.T12 := by kernel_rfl
theorem laws_FnCuts.bits12 : waitsOk laws_FnCuts.T12.2 laws_FnCuts.B12 = true := by kernel_rfl
set_option maxHeartbeats 8000000 in
set_option maxRecDepth 100000 in
theorem laws_FnCuts.calls (k : Nat) (A0 : Option Addr) (c0 : Nat) (l0 : List Int) (r : Bool) (w : World) (hr0 : Kd.C (Kd.int .u8) w A0 l0.length l0) (hc0 : l0.length ≤ c0) (h : laws_FnCuts.f k l0 = some r) :
  Calls Try.prog 5 #[.slice A0 l0.length c0] w fun e w' => e = .returned (.bool r) ∧ Below w.heap.size w w' := by
 have hu25 := Try.underlying25; have HR0 := Aside0.mk hr0; have HC0 := Aside0.mk hc0; clear hr0 hc0; have HB := Aside0.mk (Below.refl w.heap.size w); have H : (if (l0.length : Int) > 1048576 then (some true) else ((spec_DrawFlipCuts.f k l0).bind fun bt605 => ((impl_FlipCuts.f k bt605.1 bt605.2.1 bt605.2.2).bind fun bt611 => ((spec_FlipCuts.f k bt605.1 bt605.2.1 bt605.2.2).bind fun bt615 => (if (bt611.2 != bt615.2) = true then (laws_FnCuts.j0 k bt605.2.2 bt611.1 bt611.2 bt615.1 bt615.2 true bt605.1 bt605.2.1) else ((laws_sameInts.f k bt611.1 bt615.1).bind fun t619 => (if t619 = true then (laws_FnCuts.j0 k bt605.2.2 bt611.1 bt611.2 bt615.1 bt615.2 (!bt611.2) bt605.1 bt605.2.1) else (laws_FnCuts.j0 k bt605.2.2 bt611.1 bt611.2 bt615.1 bt615.2 true bt605.1 bt605.2.1)))))))) = some r := h; clear h
 by_cases c2 : (l0.length : Int) > 1048576
 ·rw [if_pos c2] at H
  have c2b0 : decide (1048576 < (l0.length : Int)) = true := decide_eq_true c2; have c2b1 : decide (1048576 < l0.length) = true := decide_eq_true (by omega); clear c2; obtain rfl := Option.some.inj H
  go_enter Try.func5, Try.ntmps5
  go_wp2
  go_ret
  exact ⟨by first | rfl | (simp [errW_none, errW_some] <;> rfl) | (simp [*, errW_none, errW_some] <;> rfl), viaW HB.out⟩
 ·rw [if_neg c2] at H
  have c2b0 : decide (1048576 < (l0.length : Int)) = false := decide_eq_false c2; have c2b1 : decide (1048576 < l0.length) = false := decide_eq_false (by omega); clear c2; replace H := Option.bind_eq_some_iff.mp H; obtain ⟨⟨t605, t606, t609⟩, A30, H⟩ := H; replace H : ((impl_FlipCuts.f k t605 t606 t609).bind fun bt611 => ((spec_FlipCuts.f k t605 t606 t609).bind fun bt615 => (if (bt611.2 != bt615.2) = true then (laws_FnCuts.j0 k t609 bt611.1 bt611.2 bt615.1 bt615.2 true t605 t606) else ((laws_sameInts.f k bt611.1 bt615.1).bind fun t619 => (if t619 = true then (laws_FnCuts.j0 k t609 bt611.1 bt611.2 bt615.1 bt615.2 (!bt611.2) t605 t606) else (laws_FnCuts.j0 k t609 bt611.1 bt611.2 bt615.1 bt615.2 true t605 t606)))))) = some r := H; have A3 := Aside0.mk A30; clear A30; replace H := Option.bind_eq_some_iff.mp H; obtain ⟨⟨t611, t614⟩, A40, H⟩ := H; replace H : ((spec_FlipCuts.f k t605 t606 t609).bind fun bt615 => (if (t614 != bt615.2) = true then (laws_FnCuts.j0 k t609 t611 t614 bt615.1 bt615.2 true t605 t606) else ((laws_sameInts.f k t611 bt615.1).bind fun t619 => (if t619 = true then (laws_FnCuts.j0 k t609 t611 t614 bt615.1 bt615.2 (!t614) t605 t606) else (laws_FnCuts.j0 k t609 t611 t614 bt615.1 bt615.2 true t605 t606))))) = some r := H; have A4 := Aside0.mk A40; clear A40; replace H := Option.bind_eq_some_iff.mp H; obtain ⟨⟨t615, t618⟩, A50, H⟩ := H; replace H : (if (t614 != t618) = true then (laws_FnCuts.j0 k t609 t611 t614 t615 t618 true t605 t606) else ((laws_sameInts.f k t611 t615).bind fun t619 => (if t619 = true then (laws_FnCuts.j0 k t609 t611 t614 t615 t618 (!t614) t605 t606) else (laws_FnCuts.j0 k t609 t611 t614 t615 t618 true t605 t606)))) = some r := H; have A5 := Aside0.mk A50; clear A50; have HC6 := Aside0.mk H; clear H
  go_enter Try.func5, Try.ntmps5
  go_upto_region 6 with (first | ((with_reducible refine gate_callee (f := 23) rfl ?_); refine goesL_ (some 19) rfl rfl Try.func23 (by kernel_rfl) rfl #[.slice A0 l0.length c0] rfl (by (try simp only [List.map_toArray, List.map_cons, List.map_nil]); first | done | rfl) ?_; (with_reducible refine (spec_DrawFlipCuts.calls k _ _ l0 t605 t606 t609 _ ?side1 ?side2 A3.out).mono ?_); (case side1 => exact viaC HR0.out); (case side2 => exact HC0.out); rintro e w7 ⟨v607, rfl, ho0, hb⟩; refine ⟨_, rfl, ?_⟩; have n0_ := Aside0.mk (Kd.R_lower ho0 (below_size (viaW HB.out))); have n1_ := Aside0.mk (below_step (viaW HB.out) hb); clear HB; have HO608 := n0_; have HB := n1_; clear n0_ n1_; (try clear hb); (try clear hb2); (try clear hk); (try clear hi); (try clear ho0)) | ((with_reducible refine gate_dst (N := 3) rfl ?_); (try (refine gate_guard (by rfl) ?_; dsimp only)); refine box_event ?hg (N := 3) ?hd (cs := #[.int .i64 0, .slice none 0 0]) (t := 25) ?hr ?_; (case hd => rfl); (case hg => rfl); (case hr => first | (go_simp; done) | (go_simp; rfl)); intro gb610 hg w8 hbox hb; have n0_ := Aside0.mk (Kd.R_below (viaR HO608.out) hb); have n1_ := Aside0.mk (below_step (viaW HB.out) hb); have n2_ := Aside0.mk (hbox); have n3_ := Aside0.mk ((by rw [hg]; exact (below_size (viaW HB.out)) : w.heap.size ≤ gb610)); have n4_ := Aside0.mk ((by rw [hg]; exact (below_size (viaW HB.out)) : w.heap.size ≤ gb610)); clear HO608; clear HB; have HO608 := n0_; have HB := n1_; have BK610 := n2_; have GW610 := n3_; have GE610 := n4_; clear n0_ n1_ n2_ n3_ n4_; clear hb hbox hg; have hcz9_0 : w8.cell? ⟨gb610, 0, none⟩ = some (.int .i64 0) := (blk_cell BK610.out 0).trans rfl; have hcz9_1 : w8.cell? ⟨gb610, 1, none⟩ = some (.slice none 0 0) := (blk_cell BK610.out 1).trans rfl; have hfz9_0 := blk_frozen BK610.out 0; have hfz9_1 := blk_frozen BK610.out 1; obtain ⟨Ao10, co10, eo10⟩ := Kd.R_slice HO608.out; subst eo10) | ((with_reducible refine gate_callee (f := 24) rfl ?_); refine goesL_ (some 25) rfl rfl Try.func24 (by kernel_rfl) rfl #[.agg #[.int .i64 t605, .slice Ao10 t606.length co10], .int .i64 t609] rfl (by (try simp only [List.map_toArray, List.map_cons, List.map_nil]); first | done | rfl) ?_; (with_reducible refine (impl_FlipCuts.calls k t605 _ _ t606 t609 t611 t614 _ ?side1 ?side2 A4.out).mono ?_); (case side1 => refine (Kd.R_reads' (e := 69) (base := w.heap.size) (ok := fun k_ => True) (n := t606.length) (c := co10) ?_).2.2; exact (by (with_reducible repeat (first | apply Kd.R_alloc | apply Kd.R_drewN | apply Kd.R_drew)); exact (Kd.R_mono (Kd.R_far (p := ⟨gb610, 1, none⟩) (Kd.R_far (p := ⟨gb610, 0, none⟩) (Kd.R_types HO608.out BK610.out (by decide)) (fun _ hk => hk.2) (.int .i64 t605)) (fun _ hk => hk.2) (.slice Ao10 t606.length co10)) (fun _ h_ => h_.1)))); (case side2 => exact (Kd.R_reads' HO608.out).2.1); rintro e w11 ⟨v612, rfl, ho0, hb⟩; refine ⟨_, rfl, ?_⟩; have n0_ := Aside0.mk (Kd.R_below (by (with_reducible repeat (first | apply Kd.R_alloc | apply Kd.R_drewN | apply Kd.R_drew)); exact (Kd.R_mono (Kd.R_far (p := ⟨gb610, 1, none⟩) (Kd.R_far (p := ⟨gb610, 0, none⟩) (Kd.R_types HO608.out BK610.out (by decide)) (fun _ hk => hk.2) (.int .i64 t605)) (fun _ hk => hk.2) (.slice Ao10 t606.length co10)) (fun _ h_ => h_.1))) hb); have n1_ := Aside0.mk (Kd.R_lower ho0 (below_size (viaX HB.out GE610.out))); have n2_ := Aside0.mk (blk_below (g := gb610) (o := .cells #[.int .i64 t605, .slice Ao10 t606.length co10] 25 (0, 0)) (by (with_reducible repeat (first | refine blk_drewN ?_ _ | refine blk_drew ?_ | refine blk_alloc ?_ _)); refine blk_put (cs := #[.int .i64 t605, .slice none 0 0]) ?_ 1 _ rfl; (with_reducible repeat (first | refine blk_drewN ?_ _ | refine blk_drew ?_ | refine blk_alloc ?_ _)); refine blk_put (cs := #[.int .i64 0, .slice none 0 0]) ?_ 0 _ rfl; (with_reducible repeat (first | refine blk_drewN ?_ _ | refine blk_drew ?_ | refine blk_alloc ?_ _)); exact BK610.out) hb); have n3_ := Aside0.mk (below_step (viaX HB.out GE610.out) hb); clear HO608; clear BK610; clear HB; have HO608 := n0_; have HO613 := n1_; have BK610 := n2_; have HB := n3_; clear n0_ n1_ n2_ n3_; (try clear hb); (try clear hb2); (try clear hk); (try clear hi); (try clear ho0); have hcz12_0 : w11.cell? ⟨gb610, 0, none⟩ = some (.int .i64 t605) := (blk_cell BK610.out 0).trans rfl; have hcz12_1 : w11.cell? ⟨gb610, 1, none⟩ = some (.slice Ao10 t606.length co10) := (blk_cell BK610.out 1).trans rfl; have hfz12_0 := blk_frozen BK610.out 0; have hfz12_1 := blk_frozen BK610.out 1) | ((with_reducible refine gate_callee (f := 25) rfl ?_); refine goesL_ (some 31) rfl rfl Try.func25 (by kernel_rfl) rfl #[.agg #[.int .i64 t605, .slice Ao10 t606.length co10], .int .i64 t609] rfl (by (try simp only [List.map_toArray, List.map_cons, List.map_nil]); first | done | rfl) ?_; (with_reducible refine (spec_FlipCuts.calls k t605 _ _ t606 t609 t615 t618 _ ?side1 ?side2 A5.out).mono ?_); (case side1 => exact viaC (Kd.R_reads' HO608.out).2.2); (case side2 => exact (Kd.R_reads' HO608.out).2.1); rintro e w13 ⟨v616, rfl, ho0, hb⟩; refine ⟨_, rfl, ?_⟩; have n0_ := Aside0.mk (Kd.R_below (viaR HO608.out) hb); have n1_ := Aside0.mk (Kd.R_elder' (viaR HO613.out) (Kd.R_base ho0) hb); have n2_ := Aside0.mk (Kd.R_lower (Kd.R_new' ho0 (Kd.R_lt (viaR HO613.out))) (below_size (viaX HB.out GE610.out))); have n3_ := Aside0.mk (blk_below (g := gb610) (o := .cells #[.int .i64 t605, .slice Ao10 t606.length co10] 25 (0, 0)) (viaB BK610.out) hb); have n4_ := Aside0.mk (below_step (viaX HB.out GE610.out) hb); clear HO608; clear HO613; clear BK610; clear HB; have HO608 := n0_; have HO613 := n1_; have HO617 := n2_; have BK610 := n3_; have HB := n4_; clear n0_ n1_ n2_ n3_ n4_; (try clear hb); (try clear hb2); (try clear hk); (try clear hi); (try clear ho0)))
  (try simp only [Act.put, List.setIfInBounds_toArray, List.set_cons_zero, List.set_cons_succ])
  go_cut [46] (fun v46 wc => ∃ (kq : Nat) (x46_5 : Bool), v46 = .bool x46_5 ∧ Aside0 (laws_FnCuts.j0 kq t609 t611 t614 t615 t618 x46_5 t605 t606 = some r) ∧ Aside0 (kq ≤ k) ∧ Aside0 (Kd.R (Kd.int .i64) 3 wc w.heap.size (fun k_ => some k_ ≠ (v616 : Value).ownBlock) v612 t611) ∧ Aside0 (Kd.R (Kd.int .i64) 3 wc w.heap.size (fun k_ => some k_ ≠ (v612 : Value).ownBlock) v616 t615) ∧ Aside0 (Kd.R k69 69 wc w.heap.size (fun _ => True) (.slice Ao10 t606.length co10) t606) ∧ Aside0 (wc.heap[gb610]? = some (.cells #[.int .i64 t605, (.slice Ao10 t606.length co10)] 25 (0, 0))) ∧ Aside0 (Below w.heap.size w wc))
  case first =>
   have H := HC6.out; clear HC6
   by_cases c14 : (t614 != t618) = true
   ·rw [if_pos c14] at H
    have c14b0 : (t614 != t618) = true := c14
    (try (have c14b1 : decide (t614 = t618) = false := by simpa using c14))
    (try (have c14b2 : (t614 == t618) = false := by simpa using c14))
    (try (have c14b3 : ¬ (t614 = t618) := by simpa using c14))
    clear c14
    (first | rw [c14b0] | (simp only [i64_w, i32_w]; rw [c14b0]) | skip)
    have H' := Aside0.mk H; clear H
    go_wp2
    go_meet
    case rel => exact ⟨_, (true), (by first | rfl | (simp; done) | (simp [*]; done)), H', ⟨by first | omega | exact Nat.le_refl _⟩, ⟨by (with_reducible repeat (first | apply Kd.R_alloc | apply Kd.R_drewN | apply Kd.R_drew)); exact Kd.R_mono HO613.out (fun _ hk => hk.2)⟩, ⟨by (with_reducible repeat (first | apply Kd.R_alloc | apply Kd.R_drewN | apply Kd.R_drew)); exact Kd.R_mono HO617.out (fun _ hk => hk.2)⟩, ⟨viaR HO608.out⟩, ⟨viaB BK610.out⟩, ⟨viaX HB.out GE610.out⟩⟩
   ·rw [if_neg c14] at H
    have c14b0 : (t614 != t618) = false := by simpa using c14
    (try (have c14b1 : decide (t614 = t618) = true := by simpa using c14))
    (try (have c14b2 : (t614 == t618) = true := by simpa using c14))
    clear c14
    (first | rw [c14b0] | (simp only [i64_w, i32_w]; rw [c14b0]) | skip)
    replace H := Option.bind_eq_some_iff.mp H; obtain ⟨t619, A150, H⟩ := H; replace H : (if t619 = true then (laws_FnCuts.j0 k t609 t611 t614 t615 t618 (!t614) t605 t606) else (laws_FnCuts.j0 k t609 t611 t614 t615 t618 true t605 t606)) = some r := H; have A15 := Aside0.mk A150; clear A150
    by_cases c16 : t619 = true
    ·subst c16
     have H1 : (laws_FnCuts.j0 k t609 t611 t614 t615 t618 (!t614) t605 t606) = some r := by rw [if_pos rfl] at H; exact H
     clear H; have H := H1; clear H1; have H' := Aside0.mk H; clear H; obtain ⟨Ao17, co17, eo17⟩ := Kd.R_slice HO613.out; subst eo17; obtain ⟨Ao18, co18, eo18⟩ := Kd.R_slice HO617.out; subst eo18
     go_wp2_with (first | (go_at_call 22; (with_reducible refine (laws_sameInts.calls k _ _ t611 _ _ t615 true _ ?side1 ?side2 ?side3 ?side4 A15.out).mono ?_); (case side1 => exact viaC (Kd.R_reads' HO613.out).2.2); (case side2 => exact (Kd.R_reads' HO613.out).2.1); (case side3 => exact viaC (Kd.R_reads' HO617.out).2.2); (case side4 => exact (Kd.R_reads' HO617.out).2.1); rintro e w' ⟨rfl, ⟨nd, rfl⟩⟩))
     go_meet
     case rel => exact ⟨_, (!t614), (by first | rfl | (simp; done) | (simp [*]; done)), H', ⟨by first | omega | exact Nat.le_refl _⟩, ⟨by (with_reducible repeat (first | apply Kd.R_alloc | apply Kd.R_drewN | apply Kd.R_drew)); exact Kd.R_mono HO613.out (fun _ hk => hk.2)⟩, ⟨by (with_reducible repeat (first | apply Kd.R_alloc | apply Kd.R_drewN | apply Kd.R_drew)); exact Kd.R_mono HO617.out (fun _ hk => hk.2)⟩, ⟨viaR HO608.out⟩, ⟨viaB BK610.out⟩, ⟨viaX HB.out GE610.out⟩⟩
    ·replace c16 := Bool.eq_false_iff.mpr c16
     subst c16; have H1 : (laws_FnCuts.j0 k t609 t611 t614 t615 t618 true t605 t606) = some r := by rw [if_neg (show ¬ (false = true) by decide)] at H; exact H
     clear H; have H := H1; clear H1; have H' := Aside0.mk H; clear H; obtain ⟨Ao19, co19, eo19⟩ := Kd.R_slice HO613.out; subst eo19; obtain ⟨Ao20, co20, eo20⟩ := Kd.R_slice HO617.out; subst eo20
     go_wp2_with (first | (go_at_call 22; (with_reducible refine (laws_sameInts.calls k _ _ t611 _ _ t615 false _ ?side1 ?side2 ?side3 ?side4 A15.out).mono ?_); (case side1 => exact viaC (Kd.R_reads' HO613.out).2.2); (case side2 => exact (Kd.R_reads' HO613.out).2.1); (case side3 => exact viaC (Kd.R_reads' HO617.out).2.2); (case side4 => exact (Kd.R_reads' HO617.out).2.1); rintro e w' ⟨rfl, ⟨nd, rfl⟩⟩))
     go_meet
     case rel => exact ⟨_, (true), (by first | rfl | (simp; done) | (simp [*]; done)), H', ⟨by first | omega | exact Nat.le_refl _⟩, ⟨by (with_reducible repeat (first | apply Kd.R_alloc | apply Kd.R_drewN | apply Kd.R_drew)); exact Kd.R_mono HO613.out (fun _ hk => hk.2)⟩, ⟨by (with_reducible repeat (first | apply Kd.R_alloc | apply Kd.R_drewN | apply Kd.R_drew)); exact Kd.R_mono HO617.out (fun _ hk => hk.2)⟩, ⟨viaR HO608.out⟩, ⟨viaB BK610.out⟩, ⟨viaX HB.out GE610.out⟩⟩
  case rest =>
   clear HC6
   try clear c1
   try clear c2
   try clear c2b0
   try clear c2b1
   try clear p2
   try clear c5
   try clear c14
   try clear c14b0
   try clear c14b1
   try clear c14b2
   try clear c16
   try clear hcz12_0
   try clear hcz12_1
   try clear hcz9_0
   try clear hcz9_1
   try clear hfz12_0
   try clear hfz12_1
   try clear hfz9_0
   try clear hfz9_1
   obtain ⟨kq, x46_5, rfl, HA, HJ5, HO_5, HO_7, HO_611001, BK610, HB⟩ := hcut
   cases kq with
   | zero => exact absurd HA.out (by simp [laws_FnCuts.j0])
   | succ kj5 =>
    have H := HA.out; clear HA
    simp only [laws_FnCuts.j0] at H
    by_cases c21 : x46_5 = true
    ·subst c21
     have H1 : (if (t614 == t618) = true then ((laws_sameInts.f kj5 t611 t615).bind fun t620 => (some t620)) else (some false)) = some r := by rw [if_pos rfl] at H; exact H
     clear H; have H := H1; clear H1
     by_cases c22 : (t614 == t618) = true
     ·rw [if_pos c22] at H
      have c22b0 : (t614 == t618) = true := c22
      (try (have c22b1 : decide (t614 = t618) = true := by simpa using c22))
      (try (have c22b2 : (t614 == t618) = true := by simpa using c22))
      clear c22; replace H := Option.bind_eq_some_iff.mp H; obtain ⟨t620, A230, H⟩ := H; replace H : (some t620) = some r := H; have A23 := Aside0.mk A230; clear A230; obtain rfl := Option.some.inj H; obtain ⟨Ao24, co24, eo24⟩ := Kd.R_slice HO_5.out; subst eo24; obtain ⟨Ao25, co25, eo25⟩ := Kd.R_slice HO_7.out; subst eo25
      go_wp2_with (first | (go_at_call 22; (with_reducible refine (laws_sameInts.calls kj5 _ _ t611 _ _ t615 t620 _ ?side1 ?side2 ?side3 ?side4 A23.out).mono ?_); (case side1 => exact viaC (Kd.R_reads' HO_5.out).2.2); (case side2 => exact (Kd.R_reads' HO_5.out).2.1); (case side3 => exact viaC (Kd.R_reads' HO_7.out).2.2); (case side4 => exact (Kd.R_reads' HO_7.out).2.1); rintro e w' ⟨rfl, ⟨nd, rfl⟩⟩))
      go_ret
      exact ⟨by first | rfl | (simp [errW_none, errW_some] <;> rfl) | (simp [*, errW_none, errW_some] <;> rfl), viaX HB.out GE610.out⟩
     ·rw [if_neg c22] at H
      have c22b0 : (t614 == t618) = false := by simpa using c22
      (try (have c22b1 : decide (t614 = t618) = false := by simpa using c22))
      (try (have c22b2 : (t614 == t618) = false := by simpa using c22))
      (try (have c22b3 : ¬ (t614 = t618) := by simpa using c22))
      clear c22; obtain rfl := Option.some.inj H
      go_wp2
      go_ret
      exact ⟨by first | rfl | (simp [errW_none, errW_some] <;> rfl) | (simp [*, errW_none, errW_some] <;> rfl), viaX HB.out GE610.out⟩
    ·replace c21 := Bool.eq_false_iff.mpr c21
     subst c21; have H1 : ((impl_FlipRounds.f kj5 t605 t606 t609).bind fun bt621 => (laws_FnCuts.l0 kj5 t609 t611 bt621.1 bt621.2 0 t605 t606)) = some r := by rw [if_neg (show ¬ (false = true) by decide)] at H; exact H
     clear H; have H := H1; clear H1; replace H := Option.bind_eq_some_iff.mp H; obtain ⟨⟨t621, t624⟩, A260, H⟩ := H; replace H : (laws_FnCuts.l0 kj5 t609 t611 t621 t624 0 t605 t606) = some r := H; have A26 := Aside0.mk A260; clear A260; have H' := Aside0.mk H; clear H; have hcz27_0 : wc.cell? ⟨gb610, 0, none⟩ = some (.int .i64 t605) := (blk_cell BK610.out 0).trans rfl; have hcz27_1 : wc.cell? ⟨gb610, 1, none⟩ = some (.slice Ao10 t606.length co10) := (blk_cell BK610.out 1).trans rfl; have hfz27_0 := blk_frozen BK610.out 0; have hfz27_1 := blk_frozen BK610.out 1
     go_wp2_with (first | ((with_reducible refine gate_callee (f := 26) rfl ?_); refine goesL_ (some 58) rfl rfl Try.func26 (by kernel_rfl) rfl #[.agg #[.int .i64 t605, .slice Ao10 t606.length co10], .int .i64 t609] rfl (by (try simp only [List.map_toArray, List.map_cons, List.map_nil]); first | done | rfl) ?_; (with_reducible refine (impl_FlipRounds.calls kj5 t605 _ _ t606 t609 t621 t624 _ ?side1 ?side2 A26.out).mono ?_); (case side1 => exact viaC (Kd.R_reads' HO_611001.out).2.2); (case side2 => exact (Kd.R_reads' HO_611001.out).2.1); rintro e w28 ⟨v622, rfl, ho0, hb⟩; refine ⟨_, rfl, ?_⟩; have n0_ := Aside0.mk (Kd.R_elder' (viaR HO_5.out) (Kd.R_base ho0) hb); have n1_ := Aside0.mk (Kd.R_elder' (viaR HO_7.out) (Kd.R_base ho0) hb); have n2_ := Aside0.mk (Kd.R_below (viaR HO_611001.out) hb); have n3_ := Aside0.mk (Kd.R_lower (Kd.R_new' (Kd.R_new' ho0 (Kd.R_lt (viaR HO_5.out))) (Kd.R_lt (viaR HO_7.out))) (below_size (viaX HB.out GE610.out))); have n4_ := Aside0.mk (blk_below (g := gb610) (o := .cells #[.int .i64 t605, .slice Ao10 t606.length co10] 25 (0, 0)) (viaB BK610.out) hb); have n5_ := Aside0.mk (below_step (viaX HB.out GE610.out) hb); clear HO_5; clear HO_7; clear HO_611001; clear BK610; clear HB; have HO_5 := n0_; have HO_7 := n1_; have HO_611001 := n2_; have HO623 := n3_; have BK610 := n4_; have HB := n5_; clear n0_ n1_ n2_ n3_ n4_ n5_; (try clear hb); (try clear hb2); (try clear hk); (try clear hi); (try clear ho0)))
     go_loopg [11] kj5 (fun kq v11 w' => ∃ (x11_2 : Int), v11 = .int .i64 x11_2 ∧ Aside0 (laws_FnCuts.l0 kq t609 t611 t621 t624 x11_2 t605 t606 = some r) ∧ Aside0 (kq ≤ kj5) ∧ Aside0 (Kd.R (Kd.int .i64) 3 w' w.heap.size (fun k_ => some k_ ≠ (v622 : Value).ownBlock) v612 t611) ∧ Aside0 (Kd.R (Kd.int .i64) 3 w' w.heap.size (fun k_ => some k_ ≠ (v612 : Value).ownBlock) v622 t621) ∧ Aside0 (Kd.R k69 69 w' w.heap.size (fun _ => True) (.slice Ao10 t606.length co10) t606) ∧ Aside0 (w'.heap[gb610]? = some (.cells #[.int .i64 t605, (.slice Ao10 t606.length co10)] 25 (0, 0))) ∧ Aside0 (Below w.heap.size w w'))
     case atStart => exact ⟨(0), (by first | rfl | (simp; done) | (simp [*]; done)), H', ⟨Nat.le_refl _⟩, ⟨by (with_reducible repeat (first | apply Kd.R_alloc | apply Kd.R_drewN | apply Kd.R_drew)); exact Kd.R_mono HO_5.out (fun _ hk => hk.2)⟩, ⟨by (with_reducible repeat (first | apply Kd.R_alloc | apply Kd.R_drewN | apply Kd.R_drew)); exact Kd.R_mono HO623.out (fun _ hk => hk.1.2)⟩, ⟨viaR HO_611001.out⟩, ⟨viaB BK610.out⟩, ⟨viaX HB.out GE610.out⟩⟩
     case round =>
      clear H'
      try clear c1
      try clear c2
      try clear c2b0
      try clear c2b1
      try clear p2
      try clear c5
      try clear c14
      try clear c14b0
      try clear c14b1
      try clear c14b2
      try clear c16
      try clear c21
      try clear c22
      try clear c22b0
      try clear c22b1
      try clear c22b2
      try clear c23
      try clear c24
      try clear c25
      try clear c26
      try clear hcz12_0
      try clear hcz12_1
      try clear hcz27_0
      try clear hcz27_1
      try clear hcz9_0
      try clear hcz9_1
      try clear hfz12_0
      try clear hfz12_1
      try clear hfz27_0
      try clear hfz27_1
      try clear hfz9_0
      try clear hfz9_1
      try clear p2
      obtain ⟨x11_2, rfl, HA, HK2, HO_5, HO_9, HO_611001, BK610, HB⟩ := hrel
      cases gk with
      | zero => exact absurd HA.out (by simp [laws_FnCuts.l0])
      | succ k2 =>
       have H := HA.out; clear HA
       simp only [laws_FnCuts.l0] at H
       by_cases c29 : x11_2 < (t611.length : Int)
       ·rw [if_pos c29] at H
        have c29b0 : decide (x11_2 < (t611.length : Int)) = true := decide_eq_true c29; clear c29
        by_cases c30 : 0 ≤ x11_2
        ·rw [if_pos c30] at H
         have c30b0 : decide (0 ≤ x11_2) = true := decide_eq_true c30; clear c30; replace H := Option.bind_eq_some_iff.mp H; obtain ⟨⟨t626, t629⟩, A310, H⟩ := H; replace H : (if t629 = true then (if (t621.length : Int) = (t626.length : Int) then (laws_FnCuts.l0 k2 t609 t611 t621 t624 (wrap64 (x11_2 + 1)) t605 t606) else (some false)) else (some false)) = some r := H; have A31 := Aside0.mk A310; clear A310
         by_cases c32 : t629 = true
         ·subst c32
          have H1 : (if (t621.length : Int) = (t626.length : Int) then (laws_FnCuts.l0 k2 t609 t611 t621 t624 (wrap64 (x11_2 + 1)) t605 t606) else (some false)) = some r := by rw [if_pos rfl] at H; exact H
          clear H; have H := H1; clear H1
          by_cases c33 : (t621.length : Int) = (t626.length : Int)
          ·rw [if_pos c33] at H
           have c33b0 : ((t621.length : Int) == (t626.length : Int)) = true := beq_iff_eq.mpr c33; have c33b1 : ((t621.length : Int) != (t626.length : Int)) = false := bne_eq_false_iff_eq.mpr c33; have c33b2 : (t621.length == t626.length) = true := by first | simpa using c33 | (simp at c33 ⊢; omega)
           clear c33; have H' := Aside0.mk H; clear H; obtain ⟨Ao34, co34, eo34⟩ := Kd.R_slice HO_5.out; subst eo34
           try go_wp2
           have n0_ := Aside0.mk (Kd.R_drew HO_5.out); have n1_ := Aside0.mk (Kd.R_drew HO_9.out); have n2_ := Aside0.mk (Kd.R_drew HO_611001.out); have n3_ := Aside0.mk (blk_drew BK610.out); have n4_ := Aside0.mk (below_drew1 HB.out); clear HO_5; clear HO_9; clear HO_611001; clear BK610; clear HB; have HO_5 := n0_; have HO_9 := n1_; have HO_611001 := n2_; have BK610 := n3_; have HB := n4_; clear n0_ n1_ n2_ n3_ n4_; have p625 : 0 ≤ (x11_2 : Int) := of_decide_eq_true (by first | (with_reducible assumption) | assumption); have q625 : x11_2 < (t611.length : Int) := of_decide_eq_true (by first | (with_reducible assumption) | assumption); obtain ⟨ad625, e625, hx625_0⟩ := Kd.at_int (Kd.R_reads' HO_5.out).2.2 x11_2 p625 q625
           cases e625
           replace p625 := eq_true p625; replace q625 := eq_true q625
           refine start_ (n := 11) (S := fun w' => w'.cell? ⟨gb610, 0, none⟩ = some (.int .i64 t605) ∧ w'.cell? ⟨gb610, 1, none⟩ = some (.slice Ao10 t606.length co10) ∧ w'.cell? (ad625.add (x11_2).toNat) = some (.int .i64 (rd t611 x11_2))) (ds := []) #[false, false, false, false, false, false, false, false, false, false, false] (by kernel_rfl) rfl rfl ⟨(blk_cell BK610.out 0).trans rfl, (blk_cell BK610.out 1).trans rfl, hx625_0⟩ (fun hHeld => ?_); refine with_tabW laws_FnCuts.tab12 laws_FnCuts.bits12 (fun HT_ HW_ => ?_)
           generalize wr.drew = w35 at HO_5 HO_9 HO_611001 BK610 HB hx625_0 hHeld ⊢
           refine pure_ (i := 1) (N := some 69) (v := ?_) (a' := ?_) #[false, true, false, false, false, false, false, false, false, false, false] rfl rfl (any_of HT_.out (by kernel_rfl)) (fun _ _ _ h => h) (Or.inl ⟨by rfl, ?_⟩) ?_ ?_
           rotate_left
           ·intro w'
            go_simp
            with_reducible rfl
           rotate_left
           ·simp only [Act.put, List.setIfInBounds_toArray, List.set_cons_zero, List.set_cons_succ, i64_w, i32_w]
            rfl
           refine pure_ (i := 2) (N := some 70) (v := ?_) (a' := ?_) #[false, true, true, false, false, false, false, false, false, false, false] rfl rfl (any_of HT_.out (by kernel_rfl)) (fun _ _ _ h => h) (Or.inl ⟨by rfl, ?_⟩) ?_ ?_
           rotate_left
           ·intro w'
            go_simp
            with_reducible rfl
           rotate_left
           ·simp only [Act.put, List.setIfInBounds_toArray, List.set_cons_zero, List.set_cons_succ, i64_w, i32_w]
            rfl
           refine pure_ (i := 3) (N := some 71) (v := ?_) (a' := ?_) #[false, true, true, true, false, false, false, false, false, false, false] rfl rfl (any_of HT_.out (by kernel_rfl)) (fun _ _ _ h => h) (Or.inl ⟨by rfl, ?_⟩) ?_ ?_
           rotate_left
           ·intro w'
            go_simp
            with_reducible rfl
           rotate_left
           ·simp only [Act.put, List.setIfInBounds_toArray, List.set_cons_zero, List.set_cons_succ, i64_w, i32_w]
            rfl
           refine take_ (i := 0) (N := some 68) (v := ?_) (a' := ?_) #[true, true, true, true, false, false, false, false, false, false, false] rfl rfl (take_ofW HT_.out HW_.out (by kernel_rfl)) (fun _ _ _ h => h) (Or.inl ⟨by rfl, ?_⟩) hHeld ?_ ?_
           rotate_left
           ·rintro w' ⟨s0, s1, s2⟩
            go_simp
            with_reducible rfl
           rotate_left
           ·simp only [Act.put, List.setIfInBounds_toArray, List.set_cons_zero, List.set_cons_succ, i64_w, i32_w]
            rfl
           refine take_ (i := 4) (N := some 72) (v := ?_) (a' := ?_) #[true, true, true, true, true, false, false, false, false, false, false] rfl rfl (take_ofW HT_.out HW_.out (by kernel_rfl)) (fun _ _ _ h => h) (Or.inl ⟨by rfl, ?_⟩) hHeld ?_ ?_
           rotate_left
           ·rintro w' ⟨s0, s1, s2⟩
            go_simp
            with_reducible rfl
           rotate_left
           ·simp only [Act.put, List.setIfInBounds_toArray, List.set_cons_zero, List.set_cons_succ, i64_w, i32_w]
            rfl
           refine one_ (i := 5) (N := some 73) #[true, true, true, true, true, true, false, false, false, false, false] rfl rfl (one_of HT_.out (by kernel_rfl)) (by decide) (fun K hK => ?_)
           refine goes_ Try.func26 (by kernel_rfl) rfl #[.agg #[.int .i64 t605, .slice Ao10 t606.length co10], .int .i64 (rd t611 x11_2)] (by rfl) rfl rfl (by (try simp only [List.map_toArray, List.map_cons, List.map_nil]); first | done | rfl) ?_
           with_reducible refine (impl_FlipRounds.calls k2 t605 _ _ t606 (rd t611 x11_2) t626 true _ ?side1 ?side2 A31.out).mono ?_
           (case side1 => exact viaC (Kd.R_reads' HO_611001.out).2.2)
           (case side2 => exact (Kd.R_reads' HO_611001.out).2.1)
           rintro e w36 ⟨v627, rfl, ho0, hb⟩
           have HS2_ := (hb.cell (World.block_lt_of_cell? _ _ (hHeld.2.2))).trans (hHeld.2.2)
           refine ⟨_, rfl, ?_⟩
           have n0_ := Aside0.mk (Kd.R_elder' (viaR HO_5.out) (Kd.R_base ho0) hb); have n1_ := Aside0.mk (Kd.R_elder' (viaR HO_9.out) (Kd.R_base ho0) hb); have n2_ := Aside0.mk (Kd.R_below (viaR HO_611001.out) hb); have n3_ := Aside0.mk (Kd.R_lower (Kd.R_new' (Kd.R_new' ho0 (Kd.R_lt (viaR HO_5.out))) (Kd.R_lt (viaR HO_9.out))) (below_size (viaX HB.out GE610.out))); have n4_ := Aside0.mk (blk_below (g := gb610) (o := .cells #[.int .i64 t605, .slice Ao10 t606.length co10] 25 (0, 0)) (viaB BK610.out) hb); have n5_ := Aside0.mk (below_step (viaX HB.out GE610.out) hb); clear HO_5; clear HO_9; clear HO_611001; clear BK610; clear HB; have HO_5 := n0_; have HO_9 := n1_; have HO_611001 := n2_; have HO628 := n3_; have BK610 := n4_; have HB := n5_; clear n0_ n1_ n2_ n3_ n4_ n5_
           (try clear hb)
           (try clear hb2)
           (try clear hk)
           (try clear hi)
           (try clear ho0)
           refine hK.out _ _ ⟨(blk_cell BK610.out 0).trans rfl, (blk_cell BK610.out 1).trans rfl, HS2_⟩ (fun hHeld => ?_)
           clear hK K
           refine norm_ (a' := ?_) ?_ ?_
           rotate_left
           ·show Act.put _ (some 73) _ = _
            simp only [Act.put, List.setIfInBounds_toArray, List.set_cons_zero, List.set_cons_succ, i64_w, i32_w]
            rfl
           refine pure_ (i := 6) (N := some 67) (v := ?_) (a' := ?_) #[true, true, true, true, true, true, true, false, false, false, false] rfl rfl (any_of HT_.out (by kernel_rfl)) (fun _ _ _ h => h) (Or.inl ⟨by rfl, ?_⟩) ?_ ?_
           rotate_left
           ·intro w'
            go_simp
            with_reducible rfl
           rotate_left
           ·simp only [Act.put, List.setIfInBounds_toArray, List.set_cons_zero, List.set_cons_succ, i64_w, i32_w]
            rfl
           refine pure_ (i := 7) (N := some 74) (v := ?_) (a' := ?_) #[true, true, true, true, true, true, true, true, false, false, false] rfl rfl (any_of HT_.out (by kernel_rfl)) (fun _ _ _ h => h) (Or.inl ⟨by rfl, ?_⟩) ?_ ?_
           rotate_left
           ·intro w'
            go_simp
            with_reducible rfl
           rotate_left
           ·simp only [Act.put, List.setIfInBounds_toArray, List.set_cons_zero, List.set_cons_succ, i64_w, i32_w]
            rfl
           refine pure_ (i := 8) (N := some 75) (v := ?_) (a' := ?_) #[true, true, true, true, true, true, true, true, true, false, false] rfl rfl (any_of HT_.out (by kernel_rfl)) (fun _ _ _ h => h) (Or.inl ⟨by rfl, ?_⟩) ?_ ?_
           rotate_left
           ·intro w'
            go_simp
            with_reducible rfl
           rotate_left
           ·simp only [Act.put, List.setIfInBounds_toArray, List.set_cons_zero, List.set_cons_succ, i64_w, i32_w]
            rfl
           refine pure_ (i := 9) (N := some 12) (v := ?_) (a' := ?_) #[true, true, true, true, true, true, true, true, true, true, false] rfl rfl (any_of HT_.out (by kernel_rfl)) (fun _ _ _ h => h) (Or.inl ⟨by rfl, ?_⟩) ?_ ?_
           rotate_left
           ·intro w'
            go_simp
            with_reducible rfl
           rotate_left
           ·simp only [Act.put, List.setIfInBounds_toArray, List.set_cons_zero, List.set_cons_succ, i64_w, i32_w]
            rfl
           refine pure_ (i := 10) (N := some 13) (v := ?_) (a' := ?_) #[true, true, true, true, true, true, true, true, true, true, true] rfl rfl (any_of HT_.out (by kernel_rfl)) (fun _ _ _ h => h) (Or.inl ⟨by rfl, ?_⟩) ?_ ?_
           rotate_left
           ·intro w'
            go_simp
            with_reducible rfl
           rotate_left
           ·simp only [Act.put, List.setIfInBounds_toArray, List.set_cons_zero, List.set_cons_succ, i64_w, i32_w]
            rfl
           refine done_ (done_of HT_.out (by kernel_rfl)) ?_
           obtain ⟨Ao37, co37, eo37⟩ := Kd.R_slice HO_9.out; subst eo37; obtain ⟨Ao38, co38, eo38⟩ := Kd.R_slice HO628.out; subst eo38
           try go_wp2
           go_roundg k2
           case measure => have := HJ5.out; have := HK2.out; omega
           case rel => exact ⟨(wrap64 (x11_2 + 1)), (by first | rfl | (simp; done) | (simp [*]; done)), H', ⟨by have := HJ5.out; have := HK2.out; omega⟩, ⟨by (with_reducible repeat (first | apply Kd.R_alloc | apply Kd.R_drewN | apply Kd.R_drew)); exact Kd.R_mono HO_5.out (fun _ hk => hk.1)⟩, ⟨by (with_reducible repeat (first | apply Kd.R_alloc | apply Kd.R_drewN | apply Kd.R_drew)); exact Kd.R_mono HO_9.out (fun _ hk => hk.1)⟩, ⟨viaR HO_611001.out⟩, ⟨viaB BK610.out⟩, ⟨viaX HB.out GE610.out⟩⟩
          ·rw [if_neg c33] at H
           have c33b0 : ((t621.length : Int) == (t626.length : Int)) = false := beq_eq_false_iff_ne.mpr c33; have c33b1 : ((t621.length : Int) != (t626.length : Int)) = true := bne_iff_ne.mpr c33; have c33b2 : (t621.length == t626.length) = false := by first | simpa using c33 | (simp at c33 ⊢; omega)
           obtain rfl := Option.some.inj H; obtain ⟨Ao39, co39, eo39⟩ := Kd.R_slice HO_5.out; subst eo39
           try go_wp2
           have n0_ := Aside0.mk (Kd.R_drew HO_5.out); have n1_ := Aside0.mk (Kd.R_drew HO_9.out); have n2_ := Aside0.mk (Kd.R_drew HO_611001.out); have n3_ := Aside0.mk (blk_drew BK610.out); have n4_ := Aside0.mk (below_drew1 HB.out); clear HO_5; clear HO_9; clear HO_611001; clear BK610; clear HB; have HO_5 := n0_; have HO_9 := n1_; have HO_611001 := n2_; have BK610 := n3_; have HB := n4_; clear n0_ n1_ n2_ n3_ n4_; have p625 : 0 ≤ (x11_2 : Int) := of_decide_eq_true (by first | (with_reducible assumption) | assumption); have q625 : x11_2 < (t611.length : Int) := of_decide_eq_true (by first | (with_reducible assumption) | assumption); obtain ⟨ad625, e625, hx625_0⟩ := Kd.at_int (Kd.R_reads' HO_5.out).2.2 x11_2 p625 q625
           cases e625
           replace p625 := eq_true p625; replace q625 := eq_true q625
           refine start_ (n := 11) (S := fun w' => w'.cell? ⟨gb610, 0, none⟩ = some (.int .i64 t605) ∧ w'.cell? ⟨gb610, 1, none⟩ = some (.slice Ao10 t606.length co10) ∧ w'.cell? (ad625.add (x11_2).toNat) = some (.int .i64 (rd t611 x11_2))) (ds := []) #[false, false, false, false, false, false, false, false, false, false, false] (by kernel_rfl) rfl rfl ⟨(blk_cell BK610.out 0).trans rfl, (blk_cell BK610.out 1).trans rfl, hx625_0⟩ (fun hHeld => ?_); refine with_tabW laws_FnCuts.tab12 laws_FnCuts.bits12 (fun HT_ HW_ => ?_)
           generalize wr.drew = w40 at HO_5 HO_9 HO_611001 BK610 HB hx625_0 hHeld ⊢
           refine pure_ (i := 1) (N := some 69) (v := ?_) (a' := ?_) #[false, true, false, false, false, false, false, false, false, false, false] rfl rfl (any_of HT_.out (by kernel_rfl)) (fun _ _ _ h => h) (Or.inl ⟨by rfl, ?_⟩) ?_ ?_
           rotate_left
           ·intro w'
            go_simp
            with_reducible rfl
           rotate_left
           ·simp only [Act.put, List.setIfInBounds_toArray, List.set_cons_zero, List.set_cons_succ, i64_w, i32_w]
            rfl
           refine pure_ (i := 2) (N := some 70) (v := ?_) (a' := ?_) #[false, true, true, false, false, false, false, false, false, false, false] rfl rfl (any_of HT_.out (by kernel_rfl)) (fun _ _ _ h => h) (Or.inl ⟨by rfl, ?_⟩) ?_ ?_
           rotate_left
           ·intro w'
            go_simp
            with_reducible rfl
           rotate_left
           ·simp only [Act.put, List.setIfInBounds_toArray, List.set_cons_zero, List.set_cons_succ, i64_w, i32_w]
            rfl
           refine pure_ (i := 3) (N := some 71) (v := ?_) (a' := ?_) #[false, true, true, true, false, false, false, false, false, false, false] rfl rfl (any_of HT_.out (by kernel_rfl)) (fun _ _ _ h => h) (Or.inl ⟨by rfl, ?_⟩) ?_ ?_
           rotate_left
           ·intro w'
            go_simp
            with_reducible rfl
           rotate_left
           ·simp only [Act.put, List.setIfInBounds_toArray, List.set_cons_zero, List.set_cons_succ, i64_w, i32_w]
            rfl
           refine take_ (i := 0) (N := some 68) (v := ?_) (a' := ?_) #[true, true, true, true, false, false, false, false, false, false, false] rfl rfl (take_ofW HT_.out HW_.out (by kernel_rfl)) (fun _ _ _ h => h) (Or.inl ⟨by rfl, ?_⟩) hHeld ?_ ?_
           rotate_left
           ·rintro w' ⟨s0, s1, s2⟩
            go_simp
            with_reducible rfl
           rotate_left
           ·simp only [Act.put, List.setIfInBounds_toArray, List.set_cons_zero, List.set_cons_succ, i64_w, i32_w]
            rfl
           refine take_ (i := 4) (N := some 72) (v := ?_) (a' := ?_) #[true, true, true, true, true, false, false, false, false, false, false] rfl rfl (take_ofW HT_.out HW_.out (by kernel_rfl)) (fun _ _ _ h => h) (Or.inl ⟨by rfl, ?_⟩) hHeld ?_ ?_
           rotate_left
           ·rintro w' ⟨s0, s1, s2⟩
            go_simp
            with_reducible rfl
           rotate_left
           ·simp only [Act.put, List.setIfInBounds_toArray, List.set_cons_zero, List.set_cons_succ, i64_w, i32_w]
            rfl
           refine one_ (i := 5) (N := some 73) #[true, true, true, true, true, true, false, false, false, false, false] rfl rfl (one_of HT_.out (by kernel_rfl)) (by decide) (fun K hK => ?_)
           refine goes_ Try.func26 (by kernel_rfl) rfl #[.agg #[.int .i64 t605, .slice Ao10 t606.length co10], .int .i64 (rd t611 x11_2)] (by rfl) rfl rfl (by (try simp only [List.map_toArray, List.map_cons, List.map_nil]); first | done | rfl) ?_
           with_reducible refine (impl_FlipRounds.calls k2 t605 _ _ t606 (rd t611 x11_2) t626 true _ ?side1 ?side2 A31.out).mono ?_
           (case side1 => exact viaC (Kd.R_reads' HO_611001.out).2.2)
           (case side2 => exact (Kd.R_reads' HO_611001.out).2.1)
           rintro e w41 ⟨v627, rfl, ho0, hb⟩
           have HS2_ := (hb.cell (World.block_lt_of_cell? _ _ (hHeld.2.2))).trans (hHeld.2.2)
           refine ⟨_, rfl, ?_⟩
           have n0_ := Aside0.mk (Kd.R_elder' (viaR HO_5.out) (Kd.R_base ho0) hb); have n1_ := Aside0.mk (Kd.R_elder' (viaR HO_9.out) (Kd.R_base ho0) hb); have n2_ := Aside0.mk (Kd.R_below (viaR HO_611001.out) hb); have n3_ := Aside0.mk (Kd.R_lower (Kd.R_new' (Kd.R_new' ho0 (Kd.R_lt (viaR HO_5.out))) (Kd.R_lt (viaR HO_9.out))) (below_size (viaX HB.out GE610.out))); have n4_ := Aside0.mk (blk_below (g := gb610) (o := .cells #[.int .i64 t605, .slice Ao10 t606.length co10] 25 (0, 0)) (viaB BK610.out) hb); have n5_ := Aside0.mk (below_step (viaX HB.out GE610.out) hb); clear HO_5; clear HO_9; clear HO_611001; clear BK610; clear HB; have HO_5 := n0_; have HO_9 := n1_; have HO_611001 := n2_; have HO628 := n3_; have BK610 := n4_; have HB := n5_; clear n0_ n1_ n2_ n3_ n4_ n5_
           (try clear hb)
           (try clear hb2)
           (try clear hk)
           (try clear hi)
           (try clear ho0)
           refine hK.out _ _ ⟨(blk_cell BK610.out 0).trans rfl, (blk_cell BK610.out 1).trans rfl, HS2_⟩ (fun hHeld => ?_)
           clear hK K
           refine norm_ (a' := ?_) ?_ ?_
           rotate_left
           ·show Act.put _ (some 73) _ = _
            simp only [Act.put, List.setIfInBounds_toArray, List.set_cons_zero, List.set_cons_succ, i64_w, i32_w]
            rfl
           refine pure_ (i := 6) (N := some 67) (v := ?_) (a' := ?_) #[true, true, true, true, true, true, true, false, false, false, false] rfl rfl (any_of HT_.out (by kernel_rfl)) (fun _ _ _ h => h) (Or.inl ⟨by rfl, ?_⟩) ?_ ?_
           rotate_left
           ·intro w'
            go_simp
            with_reducible rfl
           rotate_left
           ·simp only [Act.put, List.setIfInBounds_toArray, List.set_cons_zero, List.set_cons_succ, i64_w, i32_w]
            rfl
           refine pure_ (i := 7) (N := some 74) (v := ?_) (a' := ?_) #[true, true, true, true, true, true, true, true, false, false, false] rfl rfl (any_of HT_.out (by kernel_rfl)) (fun _ _ _ h => h) (Or.inl ⟨by rfl, ?_⟩) ?_ ?_
           rotate_left
           ·intro w'
            go_simp
            with_reducible rfl
           rotate_left
           ·simp only [Act.put, List.setIfInBounds_toArray, List.set_cons_zero, List.set_cons_succ, i64_w, i32_w]
            rfl
           refine pure_ (i := 8) (N := some 75) (v := ?_) (a' := ?_) #[true, true, true, true, true, true, true, true, true, false, false] rfl rfl (any_of HT_.out (by kernel_rfl)) (fun _ _ _ h => h) (Or.inl ⟨by rfl, ?_⟩) ?_ ?_
           rotate_left
           ·intro w'
            go_simp
            with_reducible rfl
           rotate_left
           ·simp only [Act.put, List.setIfInBounds_toArray, List.set_cons_zero, List.set_cons_succ, i64_w, i32_w]
            rfl
           refine pure_ (i := 9) (N := some 12) (v := ?_) (a' := ?_) #[true, true, true, true, true, true, true, true, true, true, false] rfl rfl (any_of HT_.out (by kernel_rfl)) (fun _ _ _ h => h) (Or.inl ⟨by rfl, ?_⟩) ?_ ?_
           rotate_left
           ·intro w'
            go_simp
            with_reducible rfl
           rotate_left
           ·simp only [Act.put, List.setIfInBounds_toArray, List.set_cons_zero, List.set_cons_succ, i64_w, i32_w]
            rfl
           refine pure_ (i := 10) (N := some 13) (v := ?_) (a' := ?_) #[true, true, true, true, true, true, true, true, true, true, true] rfl rfl (any_of HT_.out (by kernel_rfl)) (fun _ _ _ h => h) (Or.inl ⟨by rfl, ?_⟩) ?_ ?_
           rotate_left
           ·intro w'
            go_simp
            with_reducible rfl
           rotate_left
           ·simp only [Act.put, List.setIfInBounds_toArray, List.set_cons_zero, List.set_cons_succ, i64_w, i32_w]
            rfl
           refine done_ (done_of HT_.out (by kernel_rfl)) ?_
           obtain ⟨Ao42, co42, eo42⟩ := Kd.R_slice HO_9.out; subst eo42; obtain ⟨Ao43, co43, eo43⟩ := Kd.R_slice HO628.out; subst eo43
           try go_wp2
           go_ret
           exact ⟨by first | rfl | (simp [errW_none, errW_some] <;> rfl) | (simp [*, errW_none, errW_some] <;> rfl), viaX HB.out GE610.out⟩
         ·replace c32 := Bool.eq_false_iff.mpr c32
          subst c32; have H1 : (some false) = some r := by rw [if_neg (show ¬ (false = true) by decide)] at H; exact H
          clear H; have H := H1; clear H1; obtain rfl := Option.some.inj H; obtain ⟨Ao44, co44, eo44⟩ := Kd.R_slice HO_5.out; subst eo44
          try go_wp2
          have n0_ := Aside0.mk (Kd.R_drew HO_5.out); have n1_ := Aside0.mk (Kd.R_drew HO_9.out); have n2_ := Aside0.mk (Kd.R_drew HO_611001.out); have n3_ := Aside0.mk (blk_drew BK610.out); have n4_ := Aside0.mk (below_drew1 HB.out); clear HO_5; clear HO_9; clear HO_611001; clear BK610; clear HB; have HO_5 := n0_; have HO_9 := n1_; have HO_611001 := n2_; have BK610 := n3_; have HB := n4_; clear n0_ n1_ n2_ n3_ n4_; have p625 : 0 ≤ (x11_2 : Int) := of_decide_eq_true (by first | (with_reducible assumption) | assumption); have q625 : x11_2 < (t611.length : Int) := of_decide_eq_true (by first | (with_reducible assumption) | assumption); obtain ⟨ad625, e625, hx625_0⟩ := Kd.at_int (Kd.R_reads' HO_5.out).2.2 x11_2 p625 q625
          cases e625
          replace p625 := eq_true p625; replace q625 := eq_true q625
          refine start_ (n := 11) (S := fun w' => w'.cell? ⟨gb610, 0, none⟩ = some (.int .i64 t605) ∧ w'.cell? ⟨gb610, 1, none⟩ = some (.slice Ao10 t606.length co10) ∧ w'.cell? (ad625.add (x11_2).toNat) = some (.int .i64 (rd t611 x11_2))) (ds := []) #[false, false, false, false, false, false, false, false, false, false, false] (by kernel_rfl) rfl rfl ⟨(blk_cell BK610.out 0).trans rfl, (blk_cell BK610.out 1).trans rfl, hx625_0⟩ (fun hHeld => ?_); refine with_tabW laws_FnCuts.tab12 laws_FnCuts.bits12 (fun HT_ HW_ => ?_)
          generalize wr.drew = w45 at HO_5 HO_9 HO_611001 BK610 HB hx625_0 hHeld ⊢
          refine pure_ (i := 1) (N := some 69) (v := ?_) (a' := ?_) #[false, true, false, false, false, false, false, false, false, false, false] rfl rfl (any_of HT_.out (by kernel_rfl)) (fun _ _ _ h => h) (Or.inl ⟨by rfl, ?_⟩) ?_ ?_
          rotate_left
          ·intro w'
           go_simp
           with_reducible rfl
          rotate_left
          ·simp only [Act.put, List.setIfInBounds_toArray, List.set_cons_zero, List.set_cons_succ, i64_w, i32_w]
           rfl
          refine pure_ (i := 2) (N := some 70) (v := ?_) (a' := ?_) #[false, true, true, false, false, false, false, false, false, false, false] rfl rfl (any_of HT_.out (by kernel_rfl)) (fun _ _ _ h => h) (Or.inl ⟨by rfl, ?_⟩) ?_ ?_
          rotate_left
          ·intro w'
           go_simp
           with_reducible rfl
          rotate_left
          ·simp only [Act.put, List.setIfInBounds_toArray, List.set_cons_zero, List.set_cons_succ, i64_w, i32_w]
           rfl
          refine pure_ (i := 3) (N := some 71) (v := ?_) (a' := ?_) #[false, true, true, true, false, false, false, false, false, false, false] rfl rfl (any_of HT_.out (by kernel_rfl)) (fun _ _ _ h => h) (Or.inl ⟨by rfl, ?_⟩) ?_ ?_
          rotate_left
          ·intro w'
           go_simp
           with_reducible rfl
          rotate_left
          ·simp only [Act.put, List.setIfInBounds_toArray, List.set_cons_zero, List.set_cons_succ, i64_w, i32_w]
           rfl
          refine take_ (i := 0) (N := some 68) (v := ?_) (a' := ?_) #[true, true, true, true, false, false, false, false, false, false, false] rfl rfl (take_ofW HT_.out HW_.out (by kernel_rfl)) (fun _ _ _ h => h) (Or.inl ⟨by rfl, ?_⟩) hHeld ?_ ?_
          rotate_left
          ·rintro w' ⟨s0, s1, s2⟩
           go_simp
           with_reducible rfl
          rotate_left
          ·simp only [Act.put, List.setIfInBounds_toArray, List.set_cons_zero, List.set_cons_succ, i64_w, i32_w]
           rfl
          refine take_ (i := 4) (N := some 72) (v := ?_) (a' := ?_) #[true, true, true, true, true, false, false, false, false, false, false] rfl rfl (take_ofW HT_.out HW_.out (by kernel_rfl)) (fun _ _ _ h => h) (Or.inl ⟨by rfl, ?_⟩) hHeld ?_ ?_
          rotate_left
          ·rintro w' ⟨s0, s1, s2⟩
           go_simp
           with_reducible rfl
          rotate_left
          ·simp only [Act.put, List.setIfInBounds_toArray, List.set_cons_zero, List.set_cons_succ, i64_w, i32_w]
           rfl
          refine one_ (i := 5) (N := some 73) #[true, true, true, true, true, true, false, false, false, false, false] rfl rfl (one_of HT_.out (by kernel_rfl)) (by decide) (fun K hK => ?_)
          refine goes_ Try.func26 (by kernel_rfl) rfl #[.agg #[.int .i64 t605, .slice Ao10 t606.length co10], .int .i64 (rd t611 x11_2)] (by rfl) rfl rfl (by (try simp only [List.map_toArray, List.map_cons, List.map_nil]); first | done | rfl) ?_
          with_reducible refine (impl_FlipRounds.calls k2 t605 _ _ t606 (rd t611 x11_2) t626 false _ ?side1 ?side2 A31.out).mono ?_
          (case side1 => exact viaC (Kd.R_reads' HO_611001.out).2.2)
          (case side2 => exact (Kd.R_reads' HO_611001.out).2.1)
          rintro e w46 ⟨v627, rfl, ho0, hb⟩
          have HS2_ := (hb.cell (World.block_lt_of_cell? _ _ (hHeld.2.2))).trans (hHeld.2.2)
          refine ⟨_, rfl, ?_⟩
          have n0_ := Aside0.mk (Kd.R_elder' (viaR HO_5.out) (Kd.R_base ho0) hb); have n1_ := Aside0.mk (Kd.R_elder' (viaR HO_9.out) (Kd.R_base ho0) hb); have n2_ := Aside0.mk (Kd.R_below (viaR HO_611001.out) hb); have n3_ := Aside0.mk (Kd.R_lower (Kd.R_new' (Kd.R_new' ho0 (Kd.R_lt (viaR HO_5.out))) (Kd.R_lt (viaR HO_9.out))) (below_size (viaX HB.out GE610.out))); have n4_ := Aside0.mk (blk_below (g := gb610) (o := .cells #[.int .i64 t605, .slice Ao10 t606.length co10] 25 (0, 0)) (viaB BK610.out) hb); have n5_ := Aside0.mk (below_step (viaX HB.out GE610.out) hb); clear HO_5; clear HO_9; clear HO_611001; clear BK610; clear HB; have HO_5 := n0_; have HO_9 := n1_; have HO_611001 := n2_; have HO628 := n3_; have BK610 := n4_; have HB := n5_; clear n0_ n1_ n2_ n3_ n4_ n5_
          (try clear hb)
          (try clear hb2)
          (try clear hk)
          (try clear hi)
          (try clear ho0)
          refine hK.out _ _ ⟨(blk_cell BK610.out 0).trans rfl, (blk_cell BK610.out 1).trans rfl, HS2_⟩ (fun hHeld => ?_)
          clear hK K
          refine norm_ (a' := ?_) ?_ ?_
          rotate_left
          ·show Act.put _ (some 73) _ = _
           simp only [Act.put, List.setIfInBounds_toArray, List.set_cons_zero, List.set_cons_succ, i64_w, i32_w]
           rfl
          refine pure_ (i := 6) (N := some 67) (v := ?_) (a' := ?_) #[true, true, true, true, true, true, true, false, false, false, false] rfl rfl (any_of HT_.out (by kernel_rfl)) (fun _ _ _ h => h) (Or.inl ⟨by rfl, ?_⟩) ?_ ?_
          rotate_left
          ·intro w'
           go_simp
           with_reducible rfl
          rotate_left
          ·simp only [Act.put, List.setIfInBounds_toArray, List.set_cons_zero, List.set_cons_succ, i64_w, i32_w]
           rfl
          refine pure_ (i := 7) (N := some 74) (v := ?_) (a' := ?_) #[true, true, true, true, true, true, true, true, false, false, false] rfl rfl (any_of HT_.out (by kernel_rfl)) (fun _ _ _ h => h) (Or.inl ⟨by rfl, ?_⟩) ?_ ?_
          rotate_left
          ·intro w'
           go_simp
           with_reducible rfl
          rotate_left
          ·simp only [Act.put, List.setIfInBounds_toArray, List.set_cons_zero, List.set_cons_succ, i64_w, i32_w]
           rfl
          refine pure_ (i := 8) (N := some 75) (v := ?_) (a' := ?_) #[true, true, true, true, true, true, true, true, true, false, false] rfl rfl (any_of HT_.out (by kernel_rfl)) (fun _ _ _ h => h) (Or.inl ⟨by rfl, ?_⟩) ?_ ?_
          rotate_left
          ·intro w'
           go_simp
           with_reducible rfl
          rotate_left
          ·simp only [Act.put, List.setIfInBounds_toArray, List.set_cons_zero, List.set_cons_succ, i64_w, i32_w]
           rfl
          refine pure_ (i := 9) (N := some 12) (v := ?_) (a' := ?_) #[true, true, true, true, true, true, true, true, true, true, false] rfl rfl (any_of HT_.out (by kernel_rfl)) (fun _ _ _ h => h) (Or.inl ⟨by rfl, ?_⟩) ?_ ?_
          rotate_left
          ·intro w'
           go_simp
           with_reducible rfl
          rotate_left
          ·simp only [Act.put, List.setIfInBounds_toArray, List.set_cons_zero, List.set_cons_succ, i64_w, i32_w]
           rfl
          refine pure_ (i := 10) (N := some 13) (v := ?_) (a' := ?_) #[true, true, true, true, true, true, true, true, true, true, true] rfl rfl (any_of HT_.out (by kernel_rfl)) (fun _ _ _ h => h) (Or.inl ⟨by rfl, ?_⟩) ?_ ?_
          rotate_left
          ·intro w'
           go_simp
           with_reducible rfl
          rotate_left
          ·simp only [Act.put, List.setIfInBounds_toArray, List.set_cons_zero, List.set_cons_succ, i64_w, i32_w]
           rfl
          refine done_ (done_of HT_.out (by kernel_rfl)) ?_
          try go_wp2
          go_ret
          exact ⟨by first | rfl | (simp [errW_none, errW_some] <;> rfl) | (simp [*, errW_none, errW_some] <;> rfl), viaX HB.out GE610.out⟩
        ·rw [if_neg c30] at H
         exact absurd H (by simp)
       ·rw [if_neg c29] at H
        have c29b0 : decide (x11_2 < (t611.length : Int)) = false := decide_eq_false c29; clear c29
        by_cases c47 : t624 = true
        ·subst c47
         have H1 : ((impl_StrongFull.f k2 t605 t606 t609).bind fun t630 => (some (((t611.length : Int) == 0) == t630))) = some r := by rw [if_pos rfl] at H; exact H
         clear H; have H := H1; clear H1; replace H := Option.bind_eq_some_iff.mp H; obtain ⟨t630, A480, H⟩ := H; replace H : (some (((t611.length : Int) == 0) == t630)) = some r := H; have A48 := Aside0.mk A480; clear A480; obtain rfl := Option.some.inj H; obtain ⟨Ao49, co49, eo49⟩ := Kd.R_slice HO_5.out; subst eo49; have hcz50_0 : wr.cell? ⟨gb610, 0, none⟩ = some (.int .i64 t605) := (blk_cell BK610.out 0).trans rfl; have hcz50_1 : wr.cell? ⟨gb610, 1, none⟩ = some (.slice Ao10 t606.length co10) := (blk_cell BK610.out 1).trans rfl; have hfz50_0 := blk_frozen BK610.out 0; have hfz50_1 := blk_frozen BK610.out 1
         go_wp2_with (first | (go_at_call 27; (with_reducible refine (impl_StrongFull.calls k2 t605 _ _ t606 t609 t630 _ ?side1 ?side2 A48.out).mono ?_); (case side1 => exact viaC (Kd.R_reads' HO_611001.out).2.2); (case side2 => exact (Kd.R_reads' HO_611001.out).2.1); rintro e w51 ⟨rfl, hb⟩; have n0_ := Aside0.mk (Kd.R_below (viaR HO_5.out) hb); have n1_ := Aside0.mk (Kd.R_below (viaR HO_9.out) hb); have n2_ := Aside0.mk (Kd.R_below (viaR HO_611001.out) hb); have n3_ := Aside0.mk (blk_below (g := gb610) (o := .cells #[.int .i64 t605, .slice Ao10 t606.length co10] 25 (0, 0)) (viaB BK610.out) hb); have n4_ := Aside0.mk (below_step (viaX HB.out GE610.out) hb); clear HO_5; clear HO_9; clear HO_611001; clear BK610; clear HB; have HO_5 := n0_; have HO_9 := n1_; have HO_611001 := n2_; have BK610 := n3_; have HB := n4_; clear n0_ n1_ n2_ n3_ n4_; (try clear hb); (try clear hb2); (try clear hk); (try clear hi)))
         go_ret
         exact ⟨by first | rfl | (simp [errW_none, errW_some] <;> rfl) | (simp [*, errW_none, errW_some] <;> rfl), viaX HB.out GE610.out⟩
        ·replace c47 := Bool.eq_false_iff.mpr c47
         subst c47; have H1 : (some false) = some r := by rw [if_neg (show ¬ (false = true) by decide)] at H; exact H
         clear H; have H := H1; clear H1; obtain rfl := Option.some.inj H; obtain ⟨Ao52, co52, eo52⟩ := Kd.R_slice HO_5.out; subst eo52
         go_wp2
         go_ret
         exact ⟨by first | rfl | (simp [errW_none, errW_some] <;> rfl) | (simp [*, errW_none, errW_some] <;> rfl), viaX HB.out GE610.out⟩
/-- THE ONE PURE STATEMENT of laws_FnCuts: yours. -/
def laws_FnCuts.Pure : Prop := ∀ (l0 : List Int), l0.length ≤ maxLen → l0.length * 1 ≤ 140737488351232 → (∀ x ∈ l0, (Lit.int .u8 x).wf = true) → ∃ k, laws_FnCuts.f k l0 = some true
theorem laws_FnCuts.walk (P : laws_FnCuts.Pure) (a0 : Option Addr) (len0 cap0 : Nat) (z0 : List Int) (w : World) (w0 : (a0 = none ∧ len0 = 0 ∧ cap0 = 0 ∧ z0 = []) ∨ ∃ x, a0 = some x ∧ len0 ≤ cap0 ∧ cap0 ≤ maxLen ∧ z0.length = cap0 ∧ (∀ i, i < z0.length → w.cell? (x.add i) = some (.int .u8 (z0.getD i 0))) ∧ ∀ n ∈ z0, (Lit.int .u8 n).wf = true) (y0 : len0 * 1 ≤ 140737488351232) :
  Calls Try.prog 5 #[.slice a0 len0 cap0] w fun e w' => e = .returned (.bool true) ∧ Below w.heap.size w w' := by
 obtain ⟨l0, rfl, hr0, hm0, hw0, hc0⟩ := ReadsInt.ofRowC w0; obtain ⟨k, h⟩ := P l0 hm0 y0 hw0
 refine (laws_FnCuts.calls k _ _ l0 true w (Kd.C_of_reads (d := (0 : Int)) (h1 := fun _ => rfl) hr0) hc0 h).mono ?_
 rintro e w' ⟨rfl, hd⟩
 exact ⟨rfl, hd⟩
end Go.Proofs.Ythoaebnnolbaaaa.G
