/- For each Go function named below: a plain Lean function of the same name, and the proof that a call of the Go function returns just what the plain function tells, where it tells something. Written by a program of this session with the printer of the kit. -/
import Derived.Test.YtapdleaemdlgnaaGreatDoorVG0
import Derived.Test.YtapdleaemdlgnaaGreatDoorVG1
namespace Go.Proofs.YtapdleaemdlgnaaGreatDoor.G
open Go.RowKit Go.Proofs.YtapdleaemdlgnaaGreatDoorW.PrintWords Go.Proofs.YtapdleaemdlgnaaGreatDoorW.PrintLast Go.Proofs.YtapdleaemdlgnaaGreatDoorW.PrintMore
attribute [local go_sem] max2_int min2_int max_two min_two max_three min_three max_four min_four   -- for this text's walks alone
set_option linter.unusedVariables false
set_option linter.unusedSimpArgs false

/-! ### spec_l91Graph: function 66 -/
mutual
def spec_l91Graph.l0 : Nat → Int → Int → Int → List Int → Int → Int → List (S44) → Option (Int × (List (S44)) × Int)
 | 0, _, _, _, _, _, _, _ => none
 | k + 1, x3, x5, x6, x1000, x1001, x1292000, x1292001 => if x6 < x3 then (spec_l91Graph.l1 k x3 x5 x6 (wrap64 (x6 + 1)) x1000 x1001 x1292000 x1292001) else ((spec_l6Rd_pick.f k x1000 x1001 40).bind fun bt1294 => (if bt1294.1 = 0 then (if x1292001.length < 8796093022208 then (some (x1292000, (x1292001 ++ [(⟨wrap64 (x3 - 1), 0⟩ : S44)]), bt1294.2)) else (none)) else (some (x1292000, x1292001, bt1294.2))))
def spec_l91Graph.l1 : Nat → Int → Int → Int → Int → List Int → Int → Int → List (S44) → Option (Int × (List (S44)) × Int)
 | 0, _, _, _, _, _, _, _, _ => none
 | k + 1, x3, x5, x6, x7, x1000, x1001, x1292000, x1292001 => if x7 < x3 then (if x5 = 0 then (if x1292001.length < 8796093022208 then (spec_l91Graph.l1 k x3 x5 x6 (wrap64 (x7 + 1)) x1000 x1001 x1292000 (x1292001 ++ [(⟨x6, x7⟩ : S44)])) else (none)) else (if x5 = 1 then (if x7 = (wrap64 (x6 + 1)) then (if x1292001.length < 8796093022208 then (spec_l91Graph.l1 k x3 x5 x6 (wrap64 (x7 + 1)) x1000 x1001 x1292000 (x1292001 ++ [(⟨x6, x7⟩ : S44)])) else (none)) else (if x6 = 0 then (if x7 = (wrap64 (x3 - 1)) then (if x1292001.length < 8796093022208 then (spec_l91Graph.l1 k x3 x5 x6 (wrap64 (x7 + 1)) x1000 x1001 x1292000 (x1292001 ++ [(⟨x6, x7⟩ : S44)])) else (none)) else (if x5 > 1 then ((spec_l6Rd_pick.f k x1000 x1001 5).bind fun bt1308 => (if bt1308.1 > 1 then (if x1292001.length < 8796093022208 then (spec_l91Graph.l1 k x3 x5 x6 (wrap64 (x7 + 1)) x1000 bt1308.2 x1292000 (x1292001 ++ [(⟨x6, x7⟩ : S44)])) else (none)) else (spec_l91Graph.l1 k x3 x5 x6 (wrap64 (x7 + 1)) x1000 bt1308.2 x1292000 x1292001))) else (spec_l91Graph.l1 k x3 x5 x6 (wrap64 (x7 + 1)) x1000 x1001 x1292000 x1292001))) else (if x5 > 1 then ((spec_l6Rd_pick.f k x1000 x1001 5).bind fun bt1313 => (if bt1313.1 > 1 then (if x1292001.length < 8796093022208 then (spec_l91Graph.l1 k x3 x5 x6 (wrap64 (x7 + 1)) x1000 bt1313.2 x1292000 (x1292001 ++ [(⟨x6, x7⟩ : S44)])) else (none)) else (spec_l91Graph.l1 k x3 x5 x6 (wrap64 (x7 + 1)) x1000 bt1313.2 x1292000 x1292001))) else (spec_l91Graph.l1 k x3 x5 x6 (wrap64 (x7 + 1)) x1000 x1001 x1292000 x1292001)))) else (if x5 > 1 then ((spec_l6Rd_pick.f k x1000 x1001 5).bind fun bt1318 => (if bt1318.1 > 1 then (if x1292001.length < 8796093022208 then (spec_l91Graph.l1 k x3 x5 x6 (wrap64 (x7 + 1)) x1000 bt1318.2 x1292000 (x1292001 ++ [(⟨x6, x7⟩ : S44)])) else (none)) else (spec_l91Graph.l1 k x3 x5 x6 (wrap64 (x7 + 1)) x1000 bt1318.2 x1292000 x1292001))) else (spec_l91Graph.l1 k x3 x5 x6 (wrap64 (x7 + 1)) x1000 x1001 x1292000 x1292001)))) else (spec_l91Graph.l0 k x3 x5 (wrap64 (x6 + 1)) x1000 x1001 x1292000 x1292001)
end
def spec_l91Graph.f (k : Nat) (s0_0 : List Int) (s0_1 : Int) : Option (Int × (List (S44)) × Int) := (spec_l6Rd_pick.f k s0_0 s0_1 5).bind fun bt1286 => ((spec_l6Rd_pick.f k s0_0 bt1286.2 4).bind fun bt1292 => (spec_l91Graph.l0 k (wrap64 (1 + bt1286.1)) bt1292.1 0 s0_0 bt1292.2 (wrap64 (1 + bt1286.1)) (([] : List (S44)))))
set_option maxHeartbeats 8000000 in
set_option maxRecDepth 100000 in
theorem spec_l91Graph.calls (k : Nat) (g : Nat) (s0_0 : List Int) (s0_1 : Int) (r1 : Int) (r2 : List (S44)) (r3 : Int) (w0 w : World) (hI : IsS67 w0 w g s0_0 s0_1) (hB : Below w0.heap.size w0 w) (h : spec_l91Graph.f k s0_0 s0_1 = some (r1, r2, r3)) :
  Calls Tryz.prog 66 #[.pointer (some ⟨g, 0, none⟩)] w fun e w' => ∃ v1_ : Value, e = .returned (.agg #[.int .i64 r1, v1_]) ∧ Kd.R k44 44 w' w.heap.size (fun _ => True) v1_ r2 ∧ IsS67 w0 w' g s0_0 r3 ∧ Below w0.heap.size w0 w' ∧ KeepBut w w' g none := by
 have hu28 := Tryz.underlying28; have hu44 := Tryz.underlying44; have HI0 := Aside0.mk hI; have HK := Aside0.mk (KeepBut.refl w g none); have HL := Aside0.mk hB.size; clear hI; have HW0 := Aside0.mk hB.size; have HB := Aside0.mk hB; clear hB; have H : ((spec_l6Rd_pick.f k s0_0 s0_1 5).bind fun bt1286 => ((spec_l6Rd_pick.f k s0_0 bt1286.2 4).bind fun bt1292 => (spec_l91Graph.l0 k (wrap64 (1 + bt1286.1)) bt1292.1 0 s0_0 bt1292.2 (wrap64 (1 + bt1286.1)) (([] : List (S44)))))) = some (r1, r2, r3) := h; clear h; replace H := Option.bind_eq_some_iff.mp H; obtain ⟨⟨t1286, t1287⟩, A20, H⟩ := H; replace H : ((spec_l6Rd_pick.f k s0_0 t1287 4).bind fun bt1292 => (spec_l91Graph.l0 k (wrap64 (1 + t1286)) bt1292.1 0 s0_0 bt1292.2 (wrap64 (1 + t1286)) (([] : List (S44))))) = some (r1, r2, r3) := H; have A2 := Aside0.mk A20; clear A20; obtain ⟨y1288, hy1288⟩ : ∃ y_ : List (S44), y_ = (([] : List (S44))) := ⟨_, rfl⟩; replace H : ((spec_l6Rd_pick.f k s0_0 t1287 4).bind fun bt1292 => (spec_l91Graph.l0 k (wrap64 (1 + t1286)) bt1292.1 0 s0_0 bt1292.2 (wrap64 (1 + t1286)) y1288)) = some (r1, r2, r3) := by first | (rw [hy1288]; with_reducible exact H) | (have H2_ := (Option.bind_some _ _).symm.trans H; rw [hy1288]; with_reducible exact H2_) | (have H2_ := (Option.bind_some _ _).symm.trans H; with_reducible exact H2_) | with_reducible exact H | (rw [hy1288]; exact H) | exact H
 have Ny1288 := Aside0.mk hy1288; clear hy1288; replace H := Option.bind_eq_some_iff.mp H; obtain ⟨⟨t1292, t1293⟩, A30, H⟩ := H; replace H : (spec_l91Graph.l0 k (wrap64 (1 + t1286)) t1292 0 s0_0 t1293 (wrap64 (1 + t1286)) y1288) = some (r1, r2, r3) := H; have A3 := Aside0.mk A30; clear A30; have H' := Aside0.mk H; clear H
 go_enter Tryz.func66, Tryz.ntmps66
 go_wp2_with (first | ((with_reducible refine gate_dst (N := 2) rfl ?_); refine box_event ?hg (N := 2) ?hd (cs := #[.int .i64 0, .slice none 0 0]) (t := 28) ?hr ?_; (case hd => rfl); (case hg => rfl); (case hr => first | (go_simp; done) | (go_simp; rfl)); intro gb1285 hg w4 hbox hb; have n0_ := Aside0.mk (IsS67.below (by repeat (first | (with_reducible first | exact HI0.out | apply IsS67.alloc | apply IsS67.drewN | apply IsS67.drew | apply IsS67.set_1) | exact HI0.out)) hb); have n1_ := Aside0.mk (KeepBut.trans (by repeat (first | (with_reducible first | exact HK.out | apply KeepBut.set_ | apply keep_drewN | apply keep_drew | apply keep_alloc) | exact HK.out)) (KeepBut.of_below hb g none) (.inl rfl)); have n2_ := Aside0.mk (below_step (by repeat (first | (with_reducible first | exact HB.out | apply below_alloc | apply pw_below_drewN | apply below_drew1 | refine below_set ?_ (IsS67.ge HI0.out)) | exact HB.out)) hb); have n3_ := Aside0.mk (hbox); have n4_ := Aside0.mk ((by rw [hg]; exact (keep_size (w := w) (g := g) (row := none) (by repeat (first | (with_reducible first | exact HK.out | apply KeepBut.set_ | apply keep_drewN | apply keep_drew | apply keep_alloc) | exact HK.out))) : w.heap.size ≤ gb1285)); have n5_ := Aside0.mk ((Nat.le_trans HW0.out (by rw [hg]; exact (keep_size (w := w) (g := g) (row := none) (by repeat (first | (with_reducible first | exact HK.out | apply KeepBut.set_ | apply keep_drewN | apply keep_drew | apply keep_alloc) | exact HK.out))) : w.heap.size ≤ gb1285) : w0.heap.size ≤ gb1285)); have n6_ := Aside0.mk ((by rw [hg]; exact Nat.ne_of_lt (IsS67.lt (show IsS67 w0 _ g s0_0 s0_1 from by repeat (first | (with_reducible first | exact HI0.out | apply IsS67.alloc | apply IsS67.drewN | apply IsS67.drew | apply IsS67.set_1) | exact HI0.out))) : g ≠ gb1285)); have n7_ := Aside0.mk ((by rw [hg]; exact Nat.ne_of_gt (IsS67.lt (show IsS67 w0 _ g s0_0 s0_1 from by repeat (first | (with_reducible first | exact HI0.out | apply IsS67.alloc | apply IsS67.drewN | apply IsS67.drew | apply IsS67.set_1) | exact HI0.out))) : gb1285 ≠ g)); clear HI0; clear HK; clear HB; have HI0 := n0_; have HK := n1_; have HB := n2_; have BK1285 := n3_; have GW1285 := n4_; have GE1285 := n5_; have NB0_1285 := n6_; have NB1285_0 := n7_; clear n0_ n1_ n2_ n3_ n4_ n5_ n6_ n7_; clear hb hbox hg) | ((with_reducible refine gate_callee (f := 23) rfl ?_); refine goesL_ (some 9) rfl rfl Tryz.func23 (by kernel_rfl) rfl #[.pointer (some ⟨g, 0, none⟩), .int .i64 5] rfl (by (try simp only [List.map_toArray, List.map_cons, List.map_nil]); first | done | rfl | (simp only [List.length_drop, List.length_take]; rfl)) ?_; (with_reducible refine (spec_l6Rd_pick.calls k g s0_0 s0_1 5 t1286 t1287 w0 _ ?side1 ?side2 A2.out).mono ?_); (case side1 => repeat (first | (with_reducible first | exact HI0.out | apply IsS67.alloc | apply IsS67.drewN | apply IsS67.drew | apply IsS67.set_1 | refine IsS67.far ?_ NB0_1285.out _) | exact HI0.out)); (case side2 => repeat (first | (with_reducible first | exact HB.out | apply below_alloc | apply pw_below_drewN | apply below_drew1 | refine below_set ?_ (IsS67.ge HI0.out) | refine below_set ?_ GE1285.out) | exact HB.out)); rintro e w5 ⟨rfl, hi, hb, hk⟩; refine ⟨_, rfl, ?_⟩; have n0_ := Aside0.mk (KeepBut.blk hk (g' := gb1285) (o := .cells #[.int .i64 0, .slice none 0 0] 28 (0, 0)) (viaB BK1285.out) NB1285_0.out (by simp)); have n1_ := Aside0.mk (KeepBut.trans (by repeat (first | (with_reducible first | exact HK.out | apply KeepBut.set_ | apply keep_drewN | apply keep_drew | apply keep_alloc | refine keep_far ?_ GW1285.out _) | exact HK.out)) hk (.inl rfl)); have n2_ := Aside0.mk (hb); have n3_ := Aside0.mk (hi); clear BK1285; clear HK; clear HB; clear HI0; have BK1285 := n0_; have HK := n1_; have HB := n2_; have HI0 := n3_; clear n0_ n1_ n2_ n3_; (try clear hb); (try clear hb2); (try clear hk); (try clear hi)) | ((with_reducible refine gate_dst (N := 12) rfl ?_); refine Kd.R_lit k44 _ 44 ?hg (N := 12) ?hd (xs := ([] : List (S44))) (inner := []) (ok := fun _ => True) (okp := fun _ => True) ?hr ?hp (fun _ hk => hk) trivial (Below.refl _ _) (Nat.le_refl _) (by simp) ?_; (case hd => rfl); (case hg => rfl); (case hr => first | (go_simp; done) | (go_simp; rfl)); (case hp => exact (Reps.none _ _)); intro v1289 w6 ho7 hb hg_ hnew_; clear hg_ hnew_; (first | rw [← Ny1288.out] at ho7 | (simp only [Int.reduceToNat] at ho7; rw [← Ny1288.out] at ho7)); have n0_ := Aside0.mk (Kd.R_lower ho7 (keep_size (w := w) (g := g) (row := none) (by repeat (first | (with_reducible first | exact HK.out | apply KeepBut.set_ | apply keep_drewN | apply keep_drew | apply keep_alloc | refine keep_far ?_ GW1285.out _) | exact HK.out)))); have n1_ := Aside0.mk (IsS67.below (by repeat (first | (with_reducible first | exact HI0.out | apply IsS67.alloc | apply IsS67.drewN | apply IsS67.drew | apply IsS67.set_1 | refine IsS67.far ?_ NB0_1285.out _) | exact HI0.out)) hb); have n2_ := Aside0.mk (blk_below (g := gb1285) (o := .cells #[.int .i64 0, .slice none 0 0] 28 (0, 0)) (viaB BK1285.out) hb); have n3_ := Aside0.mk (KeepBut.trans (by repeat (first | (with_reducible first | exact HK.out | apply KeepBut.set_ | apply keep_drewN | apply keep_drew | apply keep_alloc | refine keep_far ?_ GW1285.out _) | exact HK.out)) (KeepBut.of_below hb g none) (.inl rfl)); have n4_ := Aside0.mk (below_step (by repeat (first | (with_reducible first | exact HB.out | apply below_alloc | apply pw_below_drewN | apply below_drew1 | refine below_set ?_ (IsS67.ge HI0.out) | refine below_set ?_ GE1285.out) | exact HB.out)) hb); clear HI0; clear BK1285; clear HK; clear HB; have HO1290 := n0_; have HI0 := n1_; have BK1285 := n2_; have HK := n3_; have HB := n4_; clear n0_ n1_ n2_ n3_ n4_; clear hb ho7; obtain ⟨Ao8, co8, eo8⟩ := Kd.R_slice HO1290.out; subst eo8) | ((with_reducible refine gate_dst (N := 4) rfl ?_); refine box_event ?hg (N := 4) ?hd (cs := #[.int .i64 0, .slice none 0 0]) (t := 28) ?hr ?_; (case hd => rfl); (case hg => rfl); (case hr => first | (go_simp; done) | (go_simp; rfl)); intro gb1291 hg w9 hbox hb; have n0_ := Aside0.mk (Kd.R_below (viaR HO1290.out) hb); have n1_ := Aside0.mk (IsS67.below (by repeat (first | (with_reducible first | exact HI0.out | apply IsS67.alloc | apply IsS67.drewN | apply IsS67.drew | apply IsS67.set_1 | refine IsS67.far ?_ NB0_1285.out _) | exact HI0.out)) hb); have n2_ := Aside0.mk (blk_below (g := gb1285) (o := .cells #[.int .i64 0, .slice none 0 0] 28 (0, 0)) (viaB BK1285.out) hb); have n3_ := Aside0.mk (KeepBut.trans (by repeat (first | (with_reducible first | exact HK.out | apply KeepBut.set_ | apply keep_drewN | apply keep_drew | apply keep_alloc | refine keep_far ?_ GW1285.out _) | exact HK.out)) (KeepBut.of_below hb g none) (.inl rfl)); have n4_ := Aside0.mk (below_step (by repeat (first | (with_reducible first | exact HB.out | apply below_alloc | apply pw_below_drewN | apply below_drew1 | refine below_set ?_ (IsS67.ge HI0.out) | refine below_set ?_ GE1285.out) | exact HB.out)) hb); have n5_ := Aside0.mk (hbox); have n6_ := Aside0.mk ((by rw [hg]; exact (keep_size (w := w) (g := g) (row := none) (by repeat (first | (with_reducible first | exact HK.out | apply KeepBut.set_ | apply keep_drewN | apply keep_drew | apply keep_alloc | refine keep_far ?_ GW1285.out _) | exact HK.out))) : w.heap.size ≤ gb1291)); have n7_ := Aside0.mk ((Nat.le_trans HW0.out (by rw [hg]; exact (keep_size (w := w) (g := g) (row := none) (by repeat (first | (with_reducible first | exact HK.out | apply KeepBut.set_ | apply keep_drewN | apply keep_drew | apply keep_alloc | refine keep_far ?_ GW1285.out _) | exact HK.out))) : w.heap.size ≤ gb1291) : w0.heap.size ≤ gb1291)); have n8_ := Aside0.mk ((by rw [hg]; exact Nat.ne_of_lt (blk_lt (g := gb1285) (o := .cells #[.int .i64 0, .slice none 0 0] 28 (0, 0)) (viaB BK1285.out)) : gb1285 ≠ gb1291)); have n9_ := Aside0.mk ((by rw [hg]; exact Nat.ne_of_gt (blk_lt (g := gb1285) (o := .cells #[.int .i64 0, .slice none 0 0] 28 (0, 0)) (viaB BK1285.out)) : gb1291 ≠ gb1285)); have n10_ := Aside0.mk ((by rw [hg]; exact Nat.ne_of_lt (IsS67.lt (show IsS67 w0 _ g s0_0 t1287 from by repeat (first | (with_reducible first | exact HI0.out | apply IsS67.alloc | apply IsS67.drewN | apply IsS67.drew | apply IsS67.set_1 | refine IsS67.far ?_ NB0_1285.out _) | exact HI0.out))) : g ≠ gb1291)); have n11_ := Aside0.mk ((by rw [hg]; exact Nat.ne_of_gt (IsS67.lt (show IsS67 w0 _ g s0_0 t1287 from by repeat (first | (with_reducible first | exact HI0.out | apply IsS67.alloc | apply IsS67.drewN | apply IsS67.drew | apply IsS67.set_1 | refine IsS67.far ?_ NB0_1285.out _) | exact HI0.out))) : gb1291 ≠ g)); clear HO1290; clear HI0; clear BK1285; clear HK; clear HB; have HO1290 := n0_; have HI0 := n1_; have BK1285 := n2_; have HK := n3_; have HB := n4_; have BK1291 := n5_; have GW1291 := n6_; have GE1291 := n7_; have NB1285_1291 := n8_; have NB1291_1285 := n9_; have NB0_1291 := n10_; have NB1291_0 := n11_; clear n0_ n1_ n2_ n3_ n4_ n5_ n6_ n7_ n8_ n9_ n10_ n11_; clear hb hbox hg; have hnb10 := NB1291_1285.out; have hnc10 := NB1285_1291.out; have hnb11 := NB1291_0.out; have hnc11 := NB0_1291.out; have hcz12_0 : w9.cell? ⟨gb1291, 0, none⟩ = some (.int .i64 0) := (blk_cell BK1291.out 0).trans rfl; have hcz12_1 : w9.cell? ⟨gb1291, 1, none⟩ = some (.slice none 0 0) := (blk_cell BK1291.out 1).trans rfl; have hfz12_0 := blk_frozen BK1291.out 0; have hfz12_1 := blk_frozen BK1291.out 1) | ((with_reducible refine gate_callee (f := 23) rfl ?_); refine goesL_ (some 15) rfl rfl Tryz.func23 (by kernel_rfl) rfl #[.pointer (some ⟨g, 0, none⟩), .int .i64 4] rfl (by (try simp only [List.map_toArray, List.map_cons, List.map_nil]); first | done | rfl | (simp only [List.length_drop, List.length_take]; rfl)) ?_; (with_reducible refine (spec_l6Rd_pick.calls k g s0_0 t1287 4 t1292 t1293 w0 _ ?side1 ?side2 A3.out).mono ?_); (case side1 => repeat (first | (with_reducible first | exact HI0.out | apply IsS67.alloc | apply IsS67.drewN | apply IsS67.drew | apply IsS67.set_1 | refine IsS67.far ?_ NB0_1285.out _ | refine IsS67.far ?_ NB0_1291.out _) | exact HI0.out)); (case side2 => repeat (first | (with_reducible first | exact HB.out | apply below_alloc | apply pw_below_drewN | apply below_drew1 | refine below_set ?_ (IsS67.ge HI0.out) | refine below_set ?_ GE1285.out | refine below_set ?_ GE1291.out) | exact HB.out)); rintro e w13 ⟨rfl, hi, hb, hk⟩; refine ⟨_, rfl, ?_⟩; have n0_ := Aside0.mk (KeepBut.blk hk (g' := gb1285) (o := .cells #[.int .i64 0, .slice none 0 0] 28 (0, 0)) (by (with_reducible repeat (first | refine blk_drewN ?_ _ | refine blk_drew ?_ | refine blk_alloc ?_ _)); refine blk_far ?_ NB1285_1291.out _; (with_reducible repeat (first | refine blk_drewN ?_ _ | refine blk_drew ?_ | refine blk_alloc ?_ _)); refine blk_far ?_ NB1285_1291.out _; (with_reducible repeat (first | refine blk_drewN ?_ _ | refine blk_drew ?_ | refine blk_alloc ?_ _)); exact BK1285.out) NB1285_0.out (by simp)); have n1_ := Aside0.mk (Kd.R_mono (Kd.R_keep (IsS67.apart (show IsS67 w0 _ g s0_0 t1287 from by repeat (first | (with_reducible first | exact HI0.out | apply IsS67.alloc | apply IsS67.drewN | apply IsS67.drew | apply IsS67.set_1 | refine IsS67.far ?_ NB0_1285.out _ | refine IsS67.far ?_ NB0_1291.out _) | exact HI0.out)) (by (with_reducible repeat (first | apply Kd.R_alloc | apply Kd.R_drewN | apply Kd.R_drew)); exact (Kd.R_mono (Kd.R_far (p := ⟨gb1291, 1, none⟩) (Kd.R_far (p := ⟨gb1291, 0, none⟩) (Kd.R_types HO1290.out BK1291.out (by decide)) (fun _ hk => hk.2) (.int .i64 (wrap64 (1 + t1286)))) (fun _ hk => hk.2) (.slice Ao8 y1288.length co8)) (fun _ h_ => h_.1))) (by decide)) hk (fun _ h => h.2)) (fun _ h => h.1)); have n2_ := Aside0.mk (KeepBut.blk hk (g' := gb1291) (o := .cells #[.int .i64 (wrap64 (1 + t1286)), .slice Ao8 y1288.length co8] 28 (0, 0)) (by (with_reducible repeat (first | refine blk_drewN ?_ _ | refine blk_drew ?_ | refine blk_alloc ?_ _)); refine blk_put (cs := #[.int .i64 (wrap64 (1 + t1286)), .slice none 0 0]) ?_ 1 _ rfl; (with_reducible repeat (first | refine blk_drewN ?_ _ | refine blk_drew ?_ | refine blk_alloc ?_ _)); refine blk_put (cs := #[.int .i64 0, .slice none 0 0]) ?_ 0 _ rfl; (with_reducible repeat (first | refine blk_drewN ?_ _ | refine blk_drew ?_ | refine blk_alloc ?_ _)); exact BK1291.out) NB1291_0.out (by simp)); have n3_ := Aside0.mk (KeepBut.trans (by repeat (first | (with_reducible first | exact HK.out | apply KeepBut.set_ | apply keep_drewN | apply keep_drew | apply keep_alloc | refine keep_far ?_ GW1285.out _ | refine keep_far ?_ GW1291.out _) | exact HK.out)) hk (.inl rfl)); have n4_ := Aside0.mk (hb); have n5_ := Aside0.mk (hi); clear BK1285; clear HO1290; clear BK1291; clear HK; clear HB; clear HI0; have BK1285 := n0_; have HO1290 := n1_; have BK1291 := n2_; have HK := n3_; have HB := n4_; have HI0 := n5_; clear n0_ n1_ n2_ n3_ n4_ n5_; (try clear hb); (try clear hb2); (try clear hk); (try clear hi)))
 go_loopg [6] k (fun kq v6 w' => ∃ (x6_1 : Int) (x1001_1 : Int) (x1292001_1 : List (S44)) (u1292001 : Value), v6 = .int .i64 x6_1 ∧ Aside0 (spec_l91Graph.l0 kq (wrap64 (1 + t1286)) t1292 x6_1 s0_0 x1001_1 (wrap64 (1 + t1286)) x1292001_1 = some (r1, r2, r3)) ∧ Aside0 (kq ≤ k) ∧ Aside0 (Kd.R k44 44 w' w.heap.size (fun _ => True) u1292001 x1292001_1) ∧ Aside0 (w'.heap[gb1285]? = some (.cells #[.int .i64 0, (.slice none 0 0)] 28 (0, 0))) ∧ Aside0 (w'.heap[gb1291]? = some (.cells #[.int .i64 (wrap64 (1 + t1286)), u1292001] 28 (0, 0))) ∧ Aside0 (IsS67 w0 w' g s0_0 x1001_1) ∧ Aside0 (KeepBut w w' g none) ∧ Aside0 (Below w0.heap.size w0 w'))
 case atStart => exact ⟨(0), (t1293), (y1288), (.slice Ao8 y1288.length co8), (by first | rfl | (simp; done) | (simp [*]; done)), H', ⟨Nat.le_refl _⟩, ⟨viaR HO1290.out⟩, ⟨viaB BK1285.out⟩, ⟨viaB BK1291.out⟩, ⟨by repeat (first | (with_reducible first | exact HI0.out | apply IsS67.alloc | apply IsS67.drewN | apply IsS67.drew | apply IsS67.set_1 | refine IsS67.far ?_ NB0_1285.out _ | refine IsS67.far ?_ NB0_1291.out _) | exact HI0.out)⟩, ⟨by repeat (first | (with_reducible first | exact HK.out | apply KeepBut.set_ | apply keep_drewN | apply keep_drew | apply keep_alloc | refine keep_far ?_ GW1285.out _ | refine keep_far ?_ GW1291.out _) | exact HK.out)⟩, ⟨by repeat (first | (with_reducible first | exact HB.out | apply below_alloc | apply pw_below_drewN | apply below_drew1 | refine below_set ?_ (IsS67.ge HI0.out) | refine below_set ?_ GE1285.out | refine below_set ?_ GE1291.out) | exact HB.out)⟩⟩
 case round =>
  clear H'
  try clear c1
  try clear c2
  try clear p2
  try clear c6
  try clear p6
  try clear c10
  try clear c11
  try clear hcz12_0
  try clear hcz12_1
  try clear hfz12_0
  try clear hfz12_1
  obtain ⟨x6_1, x1001_1, x1292001_1, u1292001, rfl, HA, HK1, HO_1292001, BK1285, BK1291, HI0, HK, HB⟩ := hrel
  cases gk with
  | zero => exact absurd HA.out (by simp [spec_l91Graph.l0])
  | succ k1 =>
   have H := HA.out; clear HA
   simp only [spec_l91Graph.l0] at H
   by_cases c14 : x6_1 < (wrap64 (1 + t1286))
   ·rw [if_pos c14] at H
    have c14b0 : decide (x6_1 < (wrap64 (1 + t1286))) = true := decide_eq_true c14; clear c14; have H' := Aside0.mk H; clear H
    go_wp2
    go_loopg [7] k1 (fun kq v7 w' => ∃ (x7_2 : Int) (x1001_2 : Int) (x1292001_2 : List (S44)) (u1292001 : Value), v7 = .int .i64 x7_2 ∧ Aside0 (spec_l91Graph.l1 kq (wrap64 (1 + t1286)) t1292 x6_1 x7_2 s0_0 x1001_2 (wrap64 (1 + t1286)) x1292001_2 = some (r1, r2, r3)) ∧ Aside0 (kq ≤ k1) ∧ Aside0 (Kd.R k44 44 w' w.heap.size (fun _ => True) u1292001 x1292001_2) ∧ Aside0 (w'.heap[gb1285]? = some (.cells #[.int .i64 0, (.slice none 0 0)] 28 (0, 0))) ∧ Aside0 (w'.heap[gb1291]? = some (.cells #[.int .i64 (wrap64 (1 + t1286)), u1292001] 28 (0, 0))) ∧ Aside0 (IsS67 w0 w' g s0_0 x1001_2) ∧ Aside0 (KeepBut w w' g none) ∧ Aside0 (Below w0.heap.size w0 w'))
    case atStart => exact ⟨(wrap64 (x6_1 + 1)), (x1001_1), (x1292001_1), (u1292001), (by first | rfl | (simp; done) | (simp [*]; done)), H', ⟨Nat.le_refl _⟩, ⟨viaR HO_1292001.out⟩, ⟨viaB BK1285.out⟩, ⟨viaB BK1291.out⟩, ⟨by repeat (first | (with_reducible first | exact HI0.out | apply IsS67.alloc | apply IsS67.drewN | apply IsS67.drew | apply IsS67.set_1 | refine IsS67.far ?_ NB0_1285.out _ | refine IsS67.far ?_ NB0_1291.out _) | exact HI0.out)⟩, ⟨by repeat (first | (with_reducible first | exact HK.out | apply KeepBut.set_ | apply keep_drewN | apply keep_drew | apply keep_alloc | refine keep_far ?_ GW1285.out _ | refine keep_far ?_ GW1291.out _) | exact HK.out)⟩, ⟨by repeat (first | (with_reducible first | exact HB.out | apply below_alloc | apply pw_below_drewN | apply below_drew1 | refine below_set ?_ (IsS67.ge HI0.out) | refine below_set ?_ GE1285.out | refine below_set ?_ GE1291.out) | exact HB.out)⟩⟩
    case round =>
     clear H'
     try clear c1
     try clear c2
     try clear p2
     try clear c6
     try clear p6
     try clear c10
     try clear c11
     try clear c14
     try clear c14b0
     try clear hcz12_0
     try clear hcz12_1
     try clear hfz12_0
     try clear hfz12_1
     try clear p2
     try clear p6
     obtain ⟨x7_2, x1001_2, x1292001_2, u1292001, rfl, HA, HK2, HO_1292001, BK1285, BK1291, HI0, HK, HB⟩ := hrel
     cases gk with
     | zero => exact absurd HA.out (by simp [spec_l91Graph.l1])
     | succ k2 =>
      have H := HA.out; clear HA
      simp only [spec_l91Graph.l1] at H
      by_cases c15 : x7_2 < (wrap64 (1 + t1286))
      ·rw [if_pos c15] at H
       have c15b0 : decide (x7_2 < (wrap64 (1 + t1286))) = true := decide_eq_true c15; clear c15
       by_cases c16 : t1292 = 0
       ·rw [if_pos c16] at H
        have c16b0 : (t1292 == 0) = true := beq_iff_eq.mpr c16; have c16b1 : (t1292 != 0) = false := bne_eq_false_iff_eq.mpr c16; clear c16
        by_cases c17 : x1292001_2.length < 8796093022208
        ·rw [if_pos c17] at H
         have LMc17 := Aside0.mk c17; clear c17; obtain ⟨y1299, hy1299⟩ : ∃ y_ : List (S44), y_ = (x1292001_2 ++ [(⟨x6_1, x7_2⟩ : S44)]) := ⟨_, rfl⟩; replace H : (spec_l91Graph.l1 k2 (wrap64 (1 + t1286)) t1292 x6_1 (wrap64 (x7_2 + 1)) s0_0 x1001_2 (wrap64 (1 + t1286)) y1299) = some (r1, r2, r3) := by first | (rw [hy1299]; with_reducible exact H) | (have H2_ := (Option.bind_some _ _).symm.trans H; rw [hy1299]; with_reducible exact H2_) | (have H2_ := (Option.bind_some _ _).symm.trans H; with_reducible exact H2_) | with_reducible exact H | (rw [hy1299]; exact H) | exact H
         have Ny1299 := Aside0.mk hy1299; clear hy1299; have H' := Aside0.mk H; clear H; have hnb18 := NB1291_1285.out; have hnc18 := NB1285_1291.out; have hnb19 := NB1291_0.out; have hnc19 := NB0_1291.out; have hcz20_0 : wr.cell? ⟨gb1291, 0, none⟩ = some (.int .i64 (wrap64 (1 + t1286))) := (blk_cell BK1291.out 0).trans rfl; have hcz20_1 : wr.cell? ⟨gb1291, 1, none⟩ = some (u1292001) := (blk_cell BK1291.out 1).trans rfl; have hfz20_0 := blk_frozen BK1291.out 0; have hfz20_1 := blk_frozen BK1291.out 1
         go_wp2_with (first | ((with_reducible refine gate_builtin (b := .append) (xs := #[.tmp 60, .tmp 64]) rfl ?_); at_builtin; refine Kd.R_append k44 w.heap.size rfl (.tmp 60) (.tmp 64) 26 44 (.agg #[(.int .i64 0), (.int .i64 0)]) 16 rfl Tryz.underlying26 info44 rfl (by decide) (by omega) u1292001 x1292001_2 (⟨x6_1, x7_2⟩ : S44) [.int .i64 x6_1, .int .i64 x7_2] (fun _ => True) (fun _ => False) rfl rfl ?aP (fun _ hk => hk.elim) ?aF ?aO (Below.refl _ _) ?aS ?aL ?_; (case aP => exact k44_mkM _ _ _ (⟨x6_1, x7_2⟩ : S44)); (case aF => exact (fun _ _ => trivial)); (case aO => exact (viaR HO_1292001.out)); (case aS => exact (keep_size (w := w) (g := g) (row := none) (by repeat (first | (with_reducible first | exact HK.out | apply KeepBut.set_ | apply keep_drewN | apply keep_drew | apply keep_alloc | refine keep_far ?_ GW1285.out _ | refine keep_far ?_ GW1291.out _) | exact HK.out)))); (case aL => have := LMc17.out; omega); intro v1300 w21 ho hb hg hat; rw [← Ny1299.out] at ho; have n0_ := Aside0.mk (blk_grown (g := gb1285) (o := .cells #[.int .i64 0, .slice none 0 0] 28 (0, 0)) (viaB BK1285.out) hg (Kd.R_ne HO_1292001.out BK1285.out (by decide))); have n1_ := Aside0.mk (blk_grown (g := gb1291) (o := .cells #[.int .i64 (wrap64 (1 + t1286)), u1292001] 28 (0, 0)) (viaB BK1291.out) hg (Kd.R_ne HO_1292001.out BK1291.out (by decide))); have n2_ := Aside0.mk (IsS67.grown (by repeat (first | (with_reducible first | exact HI0.out | apply IsS67.alloc | apply IsS67.drewN | apply IsS67.drew | apply IsS67.set_1 | refine IsS67.far ?_ NB0_1285.out _ | refine IsS67.far ?_ NB0_1291.out _) | exact HI0.out)) hg (IsS67.own_ne HI0.out HO_1292001.out (by decide))); have n3_ := Aside0.mk (below_weaken (by repeat (first | (with_reducible first | exact HB.out | apply below_alloc | apply pw_below_drewN | apply below_drew1 | refine below_set ?_ (IsS67.ge HI0.out) | refine below_set ?_ GE1285.out | refine below_set ?_ GE1291.out) | exact HB.out)) HL.out hb); have n4_ := Aside0.mk (KeepBut.trans (by repeat (first | (with_reducible first | exact HK.out | apply KeepBut.set_ | apply keep_drewN | apply keep_drew | apply keep_alloc | refine keep_far ?_ GW1285.out _ | refine keep_far ?_ GW1291.out _) | exact HK.out)) (KeepBut.of_grown hg g) (Kd.R_base2 HO_1292001.out)); have n5_ := Aside0.mk (ho); clear BK1285; clear BK1291; clear HI0; clear HB; clear HK; clear HO_1292001; have BK1285 := n0_; have BK1291 := n1_; have HI0 := n2_; have HB := n3_; have HK := n4_; have HO1301 := n5_; clear n0_ n1_ n2_ n3_ n4_ n5_; clear ho hb hg hat; obtain ⟨Ao22, co22, eo22⟩ := Kd.R_slice HO1301.out; subst eo22; have hcz23_0 : w21.cell? ⟨gb1291, 0, none⟩ = some (.int .i64 (wrap64 (1 + t1286))) := (blk_cell BK1291.out 0).trans rfl; have hcz23_1 : w21.cell? ⟨gb1291, 1, none⟩ = some (u1292001) := (blk_cell BK1291.out 1).trans rfl; have hfz23_0 := blk_frozen BK1291.out 0; have hfz23_1 := blk_frozen BK1291.out 1))
         go_roundg k2
         case measure => have := HK1.out; have := HK2.out; omega
         case rel => exact ⟨(wrap64 (x7_2 + 1)), (x1001_2), (y1299), (.slice Ao22 y1299.length co22), (by first | rfl | (simp; done) | (simp [*]; done)), H', ⟨by have := HK1.out; have := HK2.out; omega⟩, ⟨by (with_reducible repeat (first | apply Kd.R_alloc | apply Kd.R_drewN | apply Kd.R_drew)); exact Kd.R_mono (Kd.R_far (p := ⟨gb1291, 1, none⟩) (Kd.R_types HO1301.out BK1291.out (by decide)) (fun _ hk => hk.2) (.slice Ao22 y1299.length co22)) (fun _ hk => trivial)⟩, ⟨by (with_reducible repeat (first | refine blk_drewN ?_ _ | refine blk_drew ?_ | refine blk_alloc ?_ _)); refine blk_far ?_ NB1285_1291.out _; (with_reducible repeat (first | refine blk_drewN ?_ _ | refine blk_drew ?_ | refine blk_alloc ?_ _)); exact BK1285.out⟩, ⟨by (with_reducible repeat (first | refine blk_drewN ?_ _ | refine blk_drew ?_ | refine blk_alloc ?_ _)); refine blk_put (cs := #[.int .i64 (wrap64 (1 + t1286)), u1292001]) ?_ 1 _ rfl; (with_reducible repeat (first | refine blk_drewN ?_ _ | refine blk_drew ?_ | refine blk_alloc ?_ _)); exact BK1291.out⟩, ⟨by repeat (first | (with_reducible first | exact HI0.out | apply IsS67.alloc | apply IsS67.drewN | apply IsS67.drew | apply IsS67.set_1 | refine IsS67.far ?_ NB0_1285.out _ | refine IsS67.far ?_ NB0_1291.out _) | exact HI0.out)⟩, ⟨by repeat (first | (with_reducible first | exact HK.out | apply KeepBut.set_ | apply keep_drewN | apply keep_drew | apply keep_alloc | refine keep_far ?_ GW1285.out _ | refine keep_far ?_ GW1291.out _) | exact HK.out)⟩, ⟨by repeat (first | (with_reducible first | exact HB.out | apply below_alloc | apply pw_below_drewN | apply below_drew1 | refine below_set ?_ (IsS67.ge HI0.out) | refine below_set ?_ GE1285.out | refine below_set ?_ GE1291.out) | exact HB.out)⟩⟩
        ·rw [if_neg c17] at H
         exact absurd H (by simp)
       ·rw [if_neg c16] at H
        have c16b0 : (t1292 == 0) = false := beq_eq_false_iff_ne.mpr c16; have c16b1 : (t1292 != 0) = true := bne_iff_ne.mpr c16
        by_cases c24 : t1292 = 1
        ·rw [if_pos c24] at H
         have c24b0 : (t1292 == 1) = true := beq_iff_eq.mpr c24; have c24b1 : (t1292 != 1) = false := bne_eq_false_iff_eq.mpr c24; clear c24
         by_cases c25 : x7_2 = (wrap64 (x6_1 + 1))
         ·rw [if_pos c25] at H
          have c25b0 : (x7_2 == (wrap64 (x6_1 + 1))) = true := beq_iff_eq.mpr c25; have c25b1 : (x7_2 != (wrap64 (x6_1 + 1))) = false := bne_eq_false_iff_eq.mpr c25; clear c25
          by_cases c26 : x1292001_2.length < 8796093022208
          ·rw [if_pos c26] at H
           have LMc26 := Aside0.mk c26; clear c26; obtain ⟨y1302, hy1302⟩ : ∃ y_ : List (S44), y_ = (x1292001_2 ++ [(⟨x6_1, x7_2⟩ : S44)]) := ⟨_, rfl⟩; replace H : (spec_l91Graph.l1 k2 (wrap64 (1 + t1286)) t1292 x6_1 (wrap64 (x7_2 + 1)) s0_0 x1001_2 (wrap64 (1 + t1286)) y1302) = some (r1, r2, r3) := by first | (rw [hy1302]; with_reducible exact H) | (have H2_ := (Option.bind_some _ _).symm.trans H; rw [hy1302]; with_reducible exact H2_) | (have H2_ := (Option.bind_some _ _).symm.trans H; with_reducible exact H2_) | with_reducible exact H | (rw [hy1302]; exact H) | exact H
           have Ny1302 := Aside0.mk hy1302; clear hy1302; have H' := Aside0.mk H; clear H; have hnb27 := NB1291_1285.out; have hnc27 := NB1285_1291.out; have hnb28 := NB1291_0.out; have hnc28 := NB0_1291.out; have hcz29_0 : wr.cell? ⟨gb1291, 0, none⟩ = some (.int .i64 (wrap64 (1 + t1286))) := (blk_cell BK1291.out 0).trans rfl; have hcz29_1 : wr.cell? ⟨gb1291, 1, none⟩ = some (u1292001) := (blk_cell BK1291.out 1).trans rfl; have hfz29_0 := blk_frozen BK1291.out 0; have hfz29_1 := blk_frozen BK1291.out 1
           go_wp2_with (first | ((with_reducible refine gate_builtin (b := .append) (xs := #[.tmp 60, .tmp 64]) rfl ?_); at_builtin; refine Kd.R_append k44 w.heap.size rfl (.tmp 60) (.tmp 64) 26 44 (.agg #[(.int .i64 0), (.int .i64 0)]) 16 rfl Tryz.underlying26 info44 rfl (by decide) (by omega) u1292001 x1292001_2 (⟨x6_1, x7_2⟩ : S44) [.int .i64 x6_1, .int .i64 x7_2] (fun _ => True) (fun _ => False) rfl rfl ?aP (fun _ hk => hk.elim) ?aF ?aO (Below.refl _ _) ?aS ?aL ?_; (case aP => exact k44_mkM _ _ _ (⟨x6_1, x7_2⟩ : S44)); (case aF => exact (fun _ _ => trivial)); (case aO => exact (viaR HO_1292001.out)); (case aS => exact (keep_size (w := w) (g := g) (row := none) (by repeat (first | (with_reducible first | exact HK.out | apply KeepBut.set_ | apply keep_drewN | apply keep_drew | apply keep_alloc | refine keep_far ?_ GW1285.out _ | refine keep_far ?_ GW1291.out _) | exact HK.out)))); (case aL => have := LMc26.out; omega); intro v1303 w30 ho hb hg hat; rw [← Ny1302.out] at ho; have n0_ := Aside0.mk (blk_grown (g := gb1285) (o := .cells #[.int .i64 0, .slice none 0 0] 28 (0, 0)) (viaB BK1285.out) hg (Kd.R_ne HO_1292001.out BK1285.out (by decide))); have n1_ := Aside0.mk (blk_grown (g := gb1291) (o := .cells #[.int .i64 (wrap64 (1 + t1286)), u1292001] 28 (0, 0)) (viaB BK1291.out) hg (Kd.R_ne HO_1292001.out BK1291.out (by decide))); have n2_ := Aside0.mk (IsS67.grown (by repeat (first | (with_reducible first | exact HI0.out | apply IsS67.alloc | apply IsS67.drewN | apply IsS67.drew | apply IsS67.set_1 | refine IsS67.far ?_ NB0_1285.out _ | refine IsS67.far ?_ NB0_1291.out _) | exact HI0.out)) hg (IsS67.own_ne HI0.out HO_1292001.out (by decide))); have n3_ := Aside0.mk (below_weaken (by repeat (first | (with_reducible first | exact HB.out | apply below_alloc | apply pw_below_drewN | apply below_drew1 | refine below_set ?_ (IsS67.ge HI0.out) | refine below_set ?_ GE1285.out | refine below_set ?_ GE1291.out) | exact HB.out)) HL.out hb); have n4_ := Aside0.mk (KeepBut.trans (by repeat (first | (with_reducible first | exact HK.out | apply KeepBut.set_ | apply keep_drewN | apply keep_drew | apply keep_alloc | refine keep_far ?_ GW1285.out _ | refine keep_far ?_ GW1291.out _) | exact HK.out)) (KeepBut.of_grown hg g) (Kd.R_base2 HO_1292001.out)); have n5_ := Aside0.mk (ho); clear BK1285; clear BK1291; clear HI0; clear HB; clear HK; clear HO_1292001; have BK1285 := n0_; have BK1291 := n1_; have HI0 := n2_; have HB := n3_; have HK := n4_; have HO1304 := n5_; clear n0_ n1_ n2_ n3_ n4_ n5_; clear ho hb hg hat; obtain ⟨Ao31, co31, eo31⟩ := Kd.R_slice HO1304.out; subst eo31; have hcz32_0 : w30.cell? ⟨gb1291, 0, none⟩ = some (.int .i64 (wrap64 (1 + t1286))) := (blk_cell BK1291.out 0).trans rfl; have hcz32_1 : w30.cell? ⟨gb1291, 1, none⟩ = some (u1292001) := (blk_cell BK1291.out 1).trans rfl; have hfz32_0 := blk_frozen BK1291.out 0; have hfz32_1 := blk_frozen BK1291.out 1))
           go_roundg k2
           case measure => have := HK1.out; have := HK2.out; omega
           case rel => exact ⟨(wrap64 (x7_2 + 1)), (x1001_2), (y1302), (.slice Ao31 y1302.length co31), (by first | rfl | (simp; done) | (simp [*]; done)), H', ⟨by have := HK1.out; have := HK2.out; omega⟩, ⟨by (with_reducible repeat (first | apply Kd.R_alloc | apply Kd.R_drewN | apply Kd.R_drew)); exact Kd.R_mono (Kd.R_far (p := ⟨gb1291, 1, none⟩) (Kd.R_types HO1304.out BK1291.out (by decide)) (fun _ hk => hk.2) (.slice Ao31 y1302.length co31)) (fun _ hk => trivial)⟩, ⟨by (with_reducible repeat (first | refine blk_drewN ?_ _ | refine blk_drew ?_ | refine blk_alloc ?_ _)); refine blk_far ?_ NB1285_1291.out _; (with_reducible repeat (first | refine blk_drewN ?_ _ | refine blk_drew ?_ | refine blk_alloc ?_ _)); exact BK1285.out⟩, ⟨by (with_reducible repeat (first | refine blk_drewN ?_ _ | refine blk_drew ?_ | refine blk_alloc ?_ _)); refine blk_put (cs := #[.int .i64 (wrap64 (1 + t1286)), u1292001]) ?_ 1 _ rfl; (with_reducible repeat (first | refine blk_drewN ?_ _ | refine blk_drew ?_ | refine blk_alloc ?_ _)); exact BK1291.out⟩, ⟨by repeat (first | (with_reducible first | exact HI0.out | apply IsS67.alloc | apply IsS67.drewN | apply IsS67.drew | apply IsS67.set_1 | refine IsS67.far ?_ NB0_1285.out _ | refine IsS67.far ?_ NB0_1291.out _) | exact HI0.out)⟩, ⟨by repeat (first | (with_reducible first | exact HK.out | apply KeepBut.set_ | apply keep_drewN | apply keep_drew | apply keep_alloc | refine keep_far ?_ GW1285.out _ | refine keep_far ?_ GW1291.out _) | exact HK.out)⟩, ⟨by repeat (first | (with_reducible first | exact HB.out | apply below_alloc | apply pw_below_drewN | apply below_drew1 | refine below_set ?_ (IsS67.ge HI0.out) | refine below_set ?_ GE1285.out | refine below_set ?_ GE1291.out) | exact HB.out)⟩⟩
          ·rw [if_neg c26] at H
           exact absurd H (by simp)
         ·rw [if_neg c25] at H
          have c25b0 : (x7_2 == (wrap64 (x6_1 + 1))) = false := beq_eq_false_iff_ne.mpr c25; have c25b1 : (x7_2 != (wrap64 (x6_1 + 1))) = true := bne_iff_ne.mpr c25
          by_cases c33 : x6_1 = 0
          ·rw [if_pos c33] at H
           have c33b0 : (x6_1 == 0) = true := beq_iff_eq.mpr c33; have c33b1 : (x6_1 != 0) = false := bne_eq_false_iff_eq.mpr c33; clear c33
           by_cases c34 : x7_2 = (wrap64 ((wrap64 (1 + t1286)) - 1))
           ·rw [if_pos c34] at H
            have c34b0 : (x7_2 == (wrap64 ((wrap64 (1 + t1286)) - 1))) = true := beq_iff_eq.mpr c34; have c34b1 : (x7_2 != (wrap64 ((wrap64 (1 + t1286)) - 1))) = false := bne_eq_false_iff_eq.mpr c34; clear c34
            by_cases c35 : x1292001_2.length < 8796093022208
            ·rw [if_pos c35] at H
             have LMc35 := Aside0.mk c35; clear c35; obtain ⟨y1305, hy1305⟩ : ∃ y_ : List (S44), y_ = (x1292001_2 ++ [(⟨x6_1, x7_2⟩ : S44)]) := ⟨_, rfl⟩; replace H : (spec_l91Graph.l1 k2 (wrap64 (1 + t1286)) t1292 x6_1 (wrap64 (x7_2 + 1)) s0_0 x1001_2 (wrap64 (1 + t1286)) y1305) = some (r1, r2, r3) := by first | (rw [hy1305]; with_reducible exact H) | (have H2_ := (Option.bind_some _ _).symm.trans H; rw [hy1305]; with_reducible exact H2_) | (have H2_ := (Option.bind_some _ _).symm.trans H; with_reducible exact H2_) | with_reducible exact H | (rw [hy1305]; exact H) | exact H
             have Ny1305 := Aside0.mk hy1305; clear hy1305; have H' := Aside0.mk H; clear H; have hnb36 := NB1291_1285.out; have hnc36 := NB1285_1291.out; have hnb37 := NB1291_0.out; have hnc37 := NB0_1291.out; have hcz38_0 : wr.cell? ⟨gb1291, 0, none⟩ = some (.int .i64 (wrap64 (1 + t1286))) := (blk_cell BK1291.out 0).trans rfl; have hcz38_1 : wr.cell? ⟨gb1291, 1, none⟩ = some (u1292001) := (blk_cell BK1291.out 1).trans rfl; have hfz38_0 := blk_frozen BK1291.out 0; have hfz38_1 := blk_frozen BK1291.out 1
             go_wp2_with (first | ((with_reducible refine gate_builtin (b := .append) (xs := #[.tmp 60, .tmp 64]) rfl ?_); at_builtin; refine Kd.R_append k44 w.heap.size rfl (.tmp 60) (.tmp 64) 26 44 (.agg #[(.int .i64 0), (.int .i64 0)]) 16 rfl Tryz.underlying26 info44 rfl (by decide) (by omega) u1292001 x1292001_2 (⟨x6_1, x7_2⟩ : S44) [.int .i64 x6_1, .int .i64 x7_2] (fun _ => True) (fun _ => False) rfl rfl ?aP (fun _ hk => hk.elim) ?aF ?aO (Below.refl _ _) ?aS ?aL ?_; (case aP => exact k44_mkM _ _ _ (⟨x6_1, x7_2⟩ : S44)); (case aF => exact (fun _ _ => trivial)); (case aO => exact (viaR HO_1292001.out)); (case aS => exact (keep_size (w := w) (g := g) (row := none) (by repeat (first | (with_reducible first | exact HK.out | apply KeepBut.set_ | apply keep_drewN | apply keep_drew | apply keep_alloc | refine keep_far ?_ GW1285.out _ | refine keep_far ?_ GW1291.out _) | exact HK.out)))); (case aL => have := LMc35.out; omega); intro v1306 w39 ho hb hg hat; rw [← Ny1305.out] at ho; have n0_ := Aside0.mk (blk_grown (g := gb1285) (o := .cells #[.int .i64 0, .slice none 0 0] 28 (0, 0)) (viaB BK1285.out) hg (Kd.R_ne HO_1292001.out BK1285.out (by decide))); have n1_ := Aside0.mk (blk_grown (g := gb1291) (o := .cells #[.int .i64 (wrap64 (1 + t1286)), u1292001] 28 (0, 0)) (viaB BK1291.out) hg (Kd.R_ne HO_1292001.out BK1291.out (by decide))); have n2_ := Aside0.mk (IsS67.grown (by repeat (first | (with_reducible first | exact HI0.out | apply IsS67.alloc | apply IsS67.drewN | apply IsS67.drew | apply IsS67.set_1 | refine IsS67.far ?_ NB0_1285.out _ | refine IsS67.far ?_ NB0_1291.out _) | exact HI0.out)) hg (IsS67.own_ne HI0.out HO_1292001.out (by decide))); have n3_ := Aside0.mk (below_weaken (by repeat (first | (with_reducible first | exact HB.out | apply below_alloc | apply pw_below_drewN | apply below_drew1 | refine below_set ?_ (IsS67.ge HI0.out) | refine below_set ?_ GE1285.out | refine below_set ?_ GE1291.out) | exact HB.out)) HL.out hb); have n4_ := Aside0.mk (KeepBut.trans (by repeat (first | (with_reducible first | exact HK.out | apply KeepBut.set_ | apply keep_drewN | apply keep_drew | apply keep_alloc | refine keep_far ?_ GW1285.out _ | refine keep_far ?_ GW1291.out _) | exact HK.out)) (KeepBut.of_grown hg g) (Kd.R_base2 HO_1292001.out)); have n5_ := Aside0.mk (ho); clear BK1285; clear BK1291; clear HI0; clear HB; clear HK; clear HO_1292001; have BK1285 := n0_; have BK1291 := n1_; have HI0 := n2_; have HB := n3_; have HK := n4_; have HO1307 := n5_; clear n0_ n1_ n2_ n3_ n4_ n5_; clear ho hb hg hat; obtain ⟨Ao40, co40, eo40⟩ := Kd.R_slice HO1307.out; subst eo40; have hcz41_0 : w39.cell? ⟨gb1291, 0, none⟩ = some (.int .i64 (wrap64 (1 + t1286))) := (blk_cell BK1291.out 0).trans rfl; have hcz41_1 : w39.cell? ⟨gb1291, 1, none⟩ = some (u1292001) := (blk_cell BK1291.out 1).trans rfl; have hfz41_0 := blk_frozen BK1291.out 0; have hfz41_1 := blk_frozen BK1291.out 1))
             go_roundg k2
             case measure => have := HK1.out; have := HK2.out; omega
             case rel => exact ⟨(wrap64 (x7_2 + 1)), (x1001_2), (y1305), (.slice Ao40 y1305.length co40), (by first | rfl | (simp; done) | (simp [*]; done)), H', ⟨by have := HK1.out; have := HK2.out; omega⟩, ⟨by (with_reducible repeat (first | apply Kd.R_alloc | apply Kd.R_drewN | apply Kd.R_drew)); exact Kd.R_mono (Kd.R_far (p := ⟨gb1291, 1, none⟩) (Kd.R_types HO1307.out BK1291.out (by decide)) (fun _ hk => hk.2) (.slice Ao40 y1305.length co40)) (fun _ hk => trivial)⟩, ⟨by (with_reducible repeat (first | refine blk_drewN ?_ _ | refine blk_drew ?_ | refine blk_alloc ?_ _)); refine blk_far ?_ NB1285_1291.out _; (with_reducible repeat (first | refine blk_drewN ?_ _ | refine blk_drew ?_ | refine blk_alloc ?_ _)); exact BK1285.out⟩, ⟨by (with_reducible repeat (first | refine blk_drewN ?_ _ | refine blk_drew ?_ | refine blk_alloc ?_ _)); refine blk_put (cs := #[.int .i64 (wrap64 (1 + t1286)), u1292001]) ?_ 1 _ rfl; (with_reducible repeat (first | refine blk_drewN ?_ _ | refine blk_drew ?_ | refine blk_alloc ?_ _)); exact BK1291.out⟩, ⟨by repeat (first | (with_reducible first | exact HI0.out | apply IsS67.alloc | apply IsS67.drewN | apply IsS67.drew | apply IsS67.set_1 | refine IsS67.far ?_ NB0_1285.out _ | refine IsS67.far ?_ NB0_1291.out _) | exact HI0.out)⟩, ⟨by repeat (first | (with_reducible first | exact HK.out | apply KeepBut.set_ | apply keep_drewN | apply keep_drew | apply keep_alloc | refine keep_far ?_ GW1285.out _ | refine keep_far ?_ GW1291.out _) | exact HK.out)⟩, ⟨by repeat (first | (with_reducible first | exact HB.out | apply below_alloc | apply pw_below_drewN | apply below_drew1 | refine below_set ?_ (IsS67.ge HI0.out) | refine below_set ?_ GE1285.out | refine below_set ?_ GE1291.out) | exact HB.out)⟩⟩
            ·rw [if_neg c35] at H
             exact absurd H (by simp)
           ·rw [if_neg c34] at H
            have c34b0 : (x7_2 == (wrap64 ((wrap64 (1 + t1286)) - 1))) = false := beq_eq_false_iff_ne.mpr c34; have c34b1 : (x7_2 != (wrap64 ((wrap64 (1 + t1286)) - 1))) = true := bne_iff_ne.mpr c34
            by_cases c42 : t1292 > 1
            ·rw [if_pos c42] at H
             have c42b0 : decide (1 < t1292) = true := decide_eq_true c42; clear c42; replace H := Option.bind_eq_some_iff.mp H; obtain ⟨⟨t1308, t1309⟩, A430, H⟩ := H; replace H : (if t1308 > 1 then (if x1292001_2.length < 8796093022208 then (spec_l91Graph.l1 k2 (wrap64 (1 + t1286)) t1292 x6_1 (wrap64 (x7_2 + 1)) s0_0 t1309 (wrap64 (1 + t1286)) (x1292001_2 ++ [(⟨x6_1, x7_2⟩ : S44)])) else (none)) else (spec_l91Graph.l1 k2 (wrap64 (1 + t1286)) t1292 x6_1 (wrap64 (x7_2 + 1)) s0_0 t1309 (wrap64 (1 + t1286)) x1292001_2)) = some (r1, r2, r3) := H; have A43 := Aside0.mk A430; clear A430
             by_cases c44 : t1308 > 1
             ·rw [if_pos c44] at H
              have c44b0 : decide (1 < t1308) = true := decide_eq_true c44; clear c44
              by_cases c45 : x1292001_2.length < 8796093022208
              ·rw [if_pos c45] at H
               have LMc45 := Aside0.mk c45; clear c45; obtain ⟨y1310, hy1310⟩ : ∃ y_ : List (S44), y_ = (x1292001_2 ++ [(⟨x6_1, x7_2⟩ : S44)]) := ⟨_, rfl⟩; replace H : (spec_l91Graph.l1 k2 (wrap64 (1 + t1286)) t1292 x6_1 (wrap64 (x7_2 + 1)) s0_0 t1309 (wrap64 (1 + t1286)) y1310) = some (r1, r2, r3) := by first | (rw [hy1310]; with_reducible exact H) | (have H2_ := (Option.bind_some _ _).symm.trans H; rw [hy1310]; with_reducible exact H2_) | (have H2_ := (Option.bind_some _ _).symm.trans H; with_reducible exact H2_) | with_reducible exact H | (rw [hy1310]; exact H) | exact H
               have Ny1310 := Aside0.mk hy1310; clear hy1310; have H' := Aside0.mk H; clear H
               go_wp2_with (first | (go_at_call 23; (with_reducible refine (spec_l6Rd_pick.calls k2 g s0_0 x1001_2 5 t1308 t1309 w0 _ ?side1 ?side2 A43.out).mono ?_); (case side1 => repeat (first | (with_reducible first | exact HI0.out | apply IsS67.alloc | apply IsS67.drewN | apply IsS67.drew | apply IsS67.set_1 | refine IsS67.far ?_ NB0_1285.out _ | refine IsS67.far ?_ NB0_1291.out _) | exact HI0.out)); (case side2 => repeat (first | (with_reducible first | exact HB.out | apply below_alloc | apply pw_below_drewN | apply below_drew1 | refine below_set ?_ (IsS67.ge HI0.out) | refine below_set ?_ GE1285.out | refine below_set ?_ GE1291.out) | exact HB.out)); rintro e w46 ⟨rfl, hi, hb, hk⟩; have n0_ := Aside0.mk (Kd.R_mono (Kd.R_keep (IsS67.apart (show IsS67 w0 _ g s0_0 x1001_2 from by repeat (first | (with_reducible first | exact HI0.out | apply IsS67.alloc | apply IsS67.drewN | apply IsS67.drew | apply IsS67.set_1 | refine IsS67.far ?_ NB0_1285.out _ | refine IsS67.far ?_ NB0_1291.out _) | exact HI0.out)) (viaR HO_1292001.out) (by decide)) hk (fun _ h => h.2)) (fun _ h => h.1)); have n1_ := Aside0.mk (KeepBut.blk hk (g' := gb1285) (o := .cells #[.int .i64 0, .slice none 0 0] 28 (0, 0)) (viaB BK1285.out) NB1285_0.out (by simp)); have n2_ := Aside0.mk (KeepBut.blk hk (g' := gb1291) (o := .cells #[.int .i64 (wrap64 (1 + t1286)), u1292001] 28 (0, 0)) (viaB BK1291.out) NB1291_0.out (by simp)); have n3_ := Aside0.mk (KeepBut.trans (by repeat (first | (with_reducible first | exact HK.out | apply KeepBut.set_ | apply keep_drewN | apply keep_drew | apply keep_alloc | refine keep_far ?_ GW1285.out _ | refine keep_far ?_ GW1291.out _) | exact HK.out)) hk (.inl rfl)); have n4_ := Aside0.mk (hb); have n5_ := Aside0.mk (hi); clear HO_1292001; clear BK1285; clear BK1291; clear HK; clear HB; clear HI0; have HO_1292001 := n0_; have BK1285 := n1_; have BK1291 := n2_; have HK := n3_; have HB := n4_; have HI0 := n5_; clear n0_ n1_ n2_ n3_ n4_ n5_; (try clear hb); (try clear hb2); (try clear hk); (try clear hi); have hnb47 := NB1291_1285.out; have hnc47 := NB1285_1291.out; have hnb48 := NB1291_0.out; have hnc48 := NB0_1291.out; have hcz49_0 : w46.cell? ⟨gb1291, 0, none⟩ = some (.int .i64 (wrap64 (1 + t1286))) := (blk_cell BK1291.out 0).trans rfl; have hcz49_1 : w46.cell? ⟨gb1291, 1, none⟩ = some (u1292001) := (blk_cell BK1291.out 1).trans rfl; have hfz49_0 := blk_frozen BK1291.out 0; have hfz49_1 := blk_frozen BK1291.out 1) | ((with_reducible refine gate_builtin (b := .append) (xs := #[.tmp 60, .tmp 64]) rfl ?_); at_builtin; refine Kd.R_append k44 w.heap.size rfl (.tmp 60) (.tmp 64) 26 44 (.agg #[(.int .i64 0), (.int .i64 0)]) 16 rfl Tryz.underlying26 info44 rfl (by decide) (by omega) u1292001 x1292001_2 (⟨x6_1, x7_2⟩ : S44) [.int .i64 x6_1, .int .i64 x7_2] (fun _ => True) (fun _ => False) rfl rfl ?aP (fun _ hk => hk.elim) ?aF ?aO (Below.refl _ _) ?aS ?aL ?_; (case aP => exact k44_mkM _ _ _ (⟨x6_1, x7_2⟩ : S44)); (case aF => exact (fun _ _ => trivial)); (case aO => exact (viaR HO_1292001.out)); (case aS => exact (keep_size (w := w) (g := g) (row := none) (by repeat (first | (with_reducible first | exact HK.out | apply KeepBut.set_ | apply keep_drewN | apply keep_drew | apply keep_alloc | refine keep_far ?_ GW1285.out _ | refine keep_far ?_ GW1291.out _) | exact HK.out)))); (case aL => have := LMc45.out; omega); intro v1311 w50 ho hb hg hat; rw [← Ny1310.out] at ho; have n0_ := Aside0.mk (blk_grown (g := gb1285) (o := .cells #[.int .i64 0, .slice none 0 0] 28 (0, 0)) (viaB BK1285.out) hg (Kd.R_ne HO_1292001.out BK1285.out (by decide))); have n1_ := Aside0.mk (blk_grown (g := gb1291) (o := .cells #[.int .i64 (wrap64 (1 + t1286)), u1292001] 28 (0, 0)) (viaB BK1291.out) hg (Kd.R_ne HO_1292001.out BK1291.out (by decide))); have n2_ := Aside0.mk (IsS67.grown (by repeat (first | (with_reducible first | exact HI0.out | apply IsS67.alloc | apply IsS67.drewN | apply IsS67.drew | apply IsS67.set_1 | refine IsS67.far ?_ NB0_1285.out _ | refine IsS67.far ?_ NB0_1291.out _) | exact HI0.out)) hg (IsS67.own_ne HI0.out HO_1292001.out (by decide))); have n3_ := Aside0.mk (below_weaken (by repeat (first | (with_reducible first | exact HB.out | apply below_alloc | apply pw_below_drewN | apply below_drew1 | refine below_set ?_ (IsS67.ge HI0.out) | refine below_set ?_ GE1285.out | refine below_set ?_ GE1291.out) | exact HB.out)) HL.out hb); have n4_ := Aside0.mk (KeepBut.trans (by repeat (first | (with_reducible first | exact HK.out | apply KeepBut.set_ | apply keep_drewN | apply keep_drew | apply keep_alloc | refine keep_far ?_ GW1285.out _ | refine keep_far ?_ GW1291.out _) | exact HK.out)) (KeepBut.of_grown hg g) (Kd.R_base2 HO_1292001.out)); have n5_ := Aside0.mk (ho); clear BK1285; clear BK1291; clear HI0; clear HB; clear HK; clear HO_1292001; have BK1285 := n0_; have BK1291 := n1_; have HI0 := n2_; have HB := n3_; have HK := n4_; have HO1312 := n5_; clear n0_ n1_ n2_ n3_ n4_ n5_; clear ho hb hg hat; obtain ⟨Ao51, co51, eo51⟩ := Kd.R_slice HO1312.out; subst eo51; have hcz52_0 : w50.cell? ⟨gb1291, 0, none⟩ = some (.int .i64 (wrap64 (1 + t1286))) := (blk_cell BK1291.out 0).trans rfl; have hcz52_1 : w50.cell? ⟨gb1291, 1, none⟩ = some (u1292001) := (blk_cell BK1291.out 1).trans rfl; have hfz52_0 := blk_frozen BK1291.out 0; have hfz52_1 := blk_frozen BK1291.out 1))
               go_roundg k2
               case measure => have := HK1.out; have := HK2.out; omega
               case rel => exact ⟨(wrap64 (x7_2 + 1)), (t1309), (y1310), (.slice Ao51 y1310.length co51), (by first | rfl | (simp; done) | (simp [*]; done)), H', ⟨by have := HK1.out; have := HK2.out; omega⟩, ⟨by (with_reducible repeat (first | apply Kd.R_alloc | apply Kd.R_drewN | apply Kd.R_drew)); exact Kd.R_mono (Kd.R_far (p := ⟨gb1291, 1, none⟩) (Kd.R_types HO1312.out BK1291.out (by decide)) (fun _ hk => hk.2) (.slice Ao51 y1310.length co51)) (fun _ hk => trivial)⟩, ⟨by (with_reducible repeat (first | refine blk_drewN ?_ _ | refine blk_drew ?_ | refine blk_alloc ?_ _)); refine blk_far ?_ NB1285_1291.out _; (with_reducible repeat (first | refine blk_drewN ?_ _ | refine blk_drew ?_ | refine blk_alloc ?_ _)); exact BK1285.out⟩, ⟨by (with_reducible repeat (first | refine blk_drewN ?_ _ | refine blk_drew ?_ | refine blk_alloc ?_ _)); refine blk_put (cs := #[.int .i64 (wrap64 (1 + t1286)), u1292001]) ?_ 1 _ rfl; (with_reducible repeat (first | refine blk_drewN ?_ _ | refine blk_drew ?_ | refine blk_alloc ?_ _)); exact BK1291.out⟩, ⟨by repeat (first | (with_reducible first | exact HI0.out | apply IsS67.alloc | apply IsS67.drewN | apply IsS67.drew | apply IsS67.set_1 | refine IsS67.far ?_ NB0_1285.out _ | refine IsS67.far ?_ NB0_1291.out _) | exact HI0.out)⟩, ⟨by repeat (first | (with_reducible first | exact HK.out | apply KeepBut.set_ | apply keep_drewN | apply keep_drew | apply keep_alloc | refine keep_far ?_ GW1285.out _ | refine keep_far ?_ GW1291.out _) | exact HK.out)⟩, ⟨by repeat (first | (with_reducible first | exact HB.out | apply below_alloc | apply pw_below_drewN | apply below_drew1 | refine below_set ?_ (IsS67.ge HI0.out) | refine below_set ?_ GE1285.out | refine below_set ?_ GE1291.out) | exact HB.out)⟩⟩
              ·rw [if_neg c45] at H
               exact absurd H (by simp)
             ·rw [if_neg c44] at H
              have c44b0 : decide (1 < t1308) = false := decide_eq_false c44; clear c44; have H' := Aside0.mk H; clear H
              go_wp2_with (first | (go_at_call 23; (with_reducible refine (spec_l6Rd_pick.calls k2 g s0_0 x1001_2 5 t1308 t1309 w0 _ ?side1 ?side2 A43.out).mono ?_); (case side1 => repeat (first | (with_reducible first | exact HI0.out | apply IsS67.alloc | apply IsS67.drewN | apply IsS67.drew | apply IsS67.set_1 | refine IsS67.far ?_ NB0_1285.out _ | refine IsS67.far ?_ NB0_1291.out _) | exact HI0.out)); (case side2 => repeat (first | (with_reducible first | exact HB.out | apply below_alloc | apply pw_below_drewN | apply below_drew1 | refine below_set ?_ (IsS67.ge HI0.out) | refine below_set ?_ GE1285.out | refine below_set ?_ GE1291.out) | exact HB.out)); rintro e w53 ⟨rfl, hi, hb, hk⟩; have n0_ := Aside0.mk (Kd.R_mono (Kd.R_keep (IsS67.apart (show IsS67 w0 _ g s0_0 x1001_2 from by repeat (first | (with_reducible first | exact HI0.out | apply IsS67.alloc | apply IsS67.drewN | apply IsS67.drew | apply IsS67.set_1 | refine IsS67.far ?_ NB0_1285.out _ | refine IsS67.far ?_ NB0_1291.out _) | exact HI0.out)) (viaR HO_1292001.out) (by decide)) hk (fun _ h => h.2)) (fun _ h => h.1)); have n1_ := Aside0.mk (KeepBut.blk hk (g' := gb1285) (o := .cells #[.int .i64 0, .slice none 0 0] 28 (0, 0)) (viaB BK1285.out) NB1285_0.out (by simp)); have n2_ := Aside0.mk (KeepBut.blk hk (g' := gb1291) (o := .cells #[.int .i64 (wrap64 (1 + t1286)), u1292001] 28 (0, 0)) (viaB BK1291.out) NB1291_0.out (by simp)); have n3_ := Aside0.mk (KeepBut.trans (by repeat (first | (with_reducible first | exact HK.out | apply KeepBut.set_ | apply keep_drewN | apply keep_drew | apply keep_alloc | refine keep_far ?_ GW1285.out _ | refine keep_far ?_ GW1291.out _) | exact HK.out)) hk (.inl rfl)); have n4_ := Aside0.mk (hb); have n5_ := Aside0.mk (hi); clear HO_1292001; clear BK1285; clear BK1291; clear HK; clear HB; clear HI0; have HO_1292001 := n0_; have BK1285 := n1_; have BK1291 := n2_; have HK := n3_; have HB := n4_; have HI0 := n5_; clear n0_ n1_ n2_ n3_ n4_ n5_; (try clear hb); (try clear hb2); (try clear hk); (try clear hi)))
              go_roundg k2
              case measure => have := HK1.out; have := HK2.out; omega
              case rel => exact ⟨(wrap64 (x7_2 + 1)), (t1309), (x1292001_2), (u1292001), (by first | rfl | (simp; done) | (simp [*]; done)), H', ⟨by have := HK1.out; have := HK2.out; omega⟩, ⟨viaR HO_1292001.out⟩, ⟨viaB BK1285.out⟩, ⟨viaB BK1291.out⟩, ⟨by repeat (first | (with_reducible first | exact HI0.out | apply IsS67.alloc | apply IsS67.drewN | apply IsS67.drew | apply IsS67.set_1 | refine IsS67.far ?_ NB0_1285.out _ | refine IsS67.far ?_ NB0_1291.out _) | exact HI0.out)⟩, ⟨by repeat (first | (with_reducible first | exact HK.out | apply KeepBut.set_ | apply keep_drewN | apply keep_drew | apply keep_alloc | refine keep_far ?_ GW1285.out _ | refine keep_far ?_ GW1291.out _) | exact HK.out)⟩, ⟨by repeat (first | (with_reducible first | exact HB.out | apply below_alloc | apply pw_below_drewN | apply below_drew1 | refine below_set ?_ (IsS67.ge HI0.out) | refine below_set ?_ GE1285.out | refine below_set ?_ GE1291.out) | exact HB.out)⟩⟩
            ·rw [if_neg c42] at H
             have c42b0 : decide (1 < t1292) = false := decide_eq_false c42; clear c42; have H' := Aside0.mk H; clear H
             go_wp2
             go_roundg k2
             case measure => have := HK1.out; have := HK2.out; omega
             case rel => exact ⟨(wrap64 (x7_2 + 1)), (x1001_2), (x1292001_2), (u1292001), (by first | rfl | (simp; done) | (simp [*]; done)), H', ⟨by have := HK1.out; have := HK2.out; omega⟩, ⟨viaR HO_1292001.out⟩, ⟨viaB BK1285.out⟩, ⟨viaB BK1291.out⟩, ⟨by repeat (first | (with_reducible first | exact HI0.out | apply IsS67.alloc | apply IsS67.drewN | apply IsS67.drew | apply IsS67.set_1 | refine IsS67.far ?_ NB0_1285.out _ | refine IsS67.far ?_ NB0_1291.out _) | exact HI0.out)⟩, ⟨by repeat (first | (with_reducible first | exact HK.out | apply KeepBut.set_ | apply keep_drewN | apply keep_drew | apply keep_alloc | refine keep_far ?_ GW1285.out _ | refine keep_far ?_ GW1291.out _) | exact HK.out)⟩, ⟨by repeat (first | (with_reducible first | exact HB.out | apply below_alloc | apply pw_below_drewN | apply below_drew1 | refine below_set ?_ (IsS67.ge HI0.out) | refine below_set ?_ GE1285.out | refine below_set ?_ GE1291.out) | exact HB.out)⟩⟩
          ·rw [if_neg c33] at H
           have c33b0 : (x6_1 == 0) = false := beq_eq_false_iff_ne.mpr c33; have c33b1 : (x6_1 != 0) = true := bne_iff_ne.mpr c33
           by_cases c54 : t1292 > 1
           ·rw [if_pos c54] at H
            have c54b0 : decide (1 < t1292) = true := decide_eq_true c54; clear c54; replace H := Option.bind_eq_some_iff.mp H; obtain ⟨⟨t1313, t1314⟩, A550, H⟩ := H; replace H : (if t1313 > 1 then (if x1292001_2.length < 8796093022208 then (spec_l91Graph.l1 k2 (wrap64 (1 + t1286)) t1292 x6_1 (wrap64 (x7_2 + 1)) s0_0 t1314 (wrap64 (1 + t1286)) (x1292001_2 ++ [(⟨x6_1, x7_2⟩ : S44)])) else (none)) else (spec_l91Graph.l1 k2 (wrap64 (1 + t1286)) t1292 x6_1 (wrap64 (x7_2 + 1)) s0_0 t1314 (wrap64 (1 + t1286)) x1292001_2)) = some (r1, r2, r3) := H; have A55 := Aside0.mk A550; clear A550
            by_cases c56 : t1313 > 1
            ·rw [if_pos c56] at H
             have c56b0 : decide (1 < t1313) = true := decide_eq_true c56; clear c56
             by_cases c57 : x1292001_2.length < 8796093022208
             ·rw [if_pos c57] at H
              have LMc57 := Aside0.mk c57; clear c57; obtain ⟨y1315, hy1315⟩ : ∃ y_ : List (S44), y_ = (x1292001_2 ++ [(⟨x6_1, x7_2⟩ : S44)]) := ⟨_, rfl⟩; replace H : (spec_l91Graph.l1 k2 (wrap64 (1 + t1286)) t1292 x6_1 (wrap64 (x7_2 + 1)) s0_0 t1314 (wrap64 (1 + t1286)) y1315) = some (r1, r2, r3) := by first | (rw [hy1315]; with_reducible exact H) | (have H2_ := (Option.bind_some _ _).symm.trans H; rw [hy1315]; with_reducible exact H2_) | (have H2_ := (Option.bind_some _ _).symm.trans H; with_reducible exact H2_) | with_reducible exact H | (rw [hy1315]; exact H) | exact H
              have Ny1315 := Aside0.mk hy1315; clear hy1315; have H' := Aside0.mk H; clear H
              go_wp2_with (first | (go_at_call 23; (with_reducible refine (spec_l6Rd_pick.calls k2 g s0_0 x1001_2 5 t1313 t1314 w0 _ ?side1 ?side2 A55.out).mono ?_); (case side1 => repeat (first | (with_reducible first | exact HI0.out | apply IsS67.alloc | apply IsS67.drewN | apply IsS67.drew | apply IsS67.set_1 | refine IsS67.far ?_ NB0_1285.out _ | refine IsS67.far ?_ NB0_1291.out _) | exact HI0.out)); (case side2 => repeat (first | (with_reducible first | exact HB.out | apply below_alloc | apply pw_below_drewN | apply below_drew1 | refine below_set ?_ (IsS67.ge HI0.out) | refine below_set ?_ GE1285.out | refine below_set ?_ GE1291.out) | exact HB.out)); rintro e w58 ⟨rfl, hi, hb, hk⟩; have n0_ := Aside0.mk (Kd.R_mono (Kd.R_keep (IsS67.apart (show IsS67 w0 _ g s0_0 x1001_2 from by repeat (first | (with_reducible first | exact HI0.out | apply IsS67.alloc | apply IsS67.drewN | apply IsS67.drew | apply IsS67.set_1 | refine IsS67.far ?_ NB0_1285.out _ | refine IsS67.far ?_ NB0_1291.out _) | exact HI0.out)) (viaR HO_1292001.out) (by decide)) hk (fun _ h => h.2)) (fun _ h => h.1)); have n1_ := Aside0.mk (KeepBut.blk hk (g' := gb1285) (o := .cells #[.int .i64 0, .slice none 0 0] 28 (0, 0)) (viaB BK1285.out) NB1285_0.out (by simp)); have n2_ := Aside0.mk (KeepBut.blk hk (g' := gb1291) (o := .cells #[.int .i64 (wrap64 (1 + t1286)), u1292001] 28 (0, 0)) (viaB BK1291.out) NB1291_0.out (by simp)); have n3_ := Aside0.mk (KeepBut.trans (by repeat (first | (with_reducible first | exact HK.out | apply KeepBut.set_ | apply keep_drewN | apply keep_drew | apply keep_alloc | refine keep_far ?_ GW1285.out _ | refine keep_far ?_ GW1291.out _) | exact HK.out)) hk (.inl rfl)); have n4_ := Aside0.mk (hb); have n5_ := Aside0.mk (hi); clear HO_1292001; clear BK1285; clear BK1291; clear HK; clear HB; clear HI0; have HO_1292001 := n0_; have BK1285 := n1_; have BK1291 := n2_; have HK := n3_; have HB := n4_; have HI0 := n5_; clear n0_ n1_ n2_ n3_ n4_ n5_; (try clear hb); (try clear hb2); (try clear hk); (try clear hi); have hnb59 := NB1291_1285.out; have hnc59 := NB1285_1291.out; have hnb60 := NB1291_0.out; have hnc60 := NB0_1291.out; have hcz61_0 : w58.cell? ⟨gb1291, 0, none⟩ = some (.int .i64 (wrap64 (1 + t1286))) := (blk_cell BK1291.out 0).trans rfl; have hcz61_1 : w58.cell? ⟨gb1291, 1, none⟩ = some (u1292001) := (blk_cell BK1291.out 1).trans rfl; have hfz61_0 := blk_frozen BK1291.out 0; have hfz61_1 := blk_frozen BK1291.out 1) | ((with_reducible refine gate_builtin (b := .append) (xs := #[.tmp 60, .tmp 64]) rfl ?_); at_builtin; refine Kd.R_append k44 w.heap.size rfl (.tmp 60) (.tmp 64) 26 44 (.agg #[(.int .i64 0), (.int .i64 0)]) 16 rfl Tryz.underlying26 info44 rfl (by decide) (by omega) u1292001 x1292001_2 (⟨x6_1, x7_2⟩ : S44) [.int .i64 x6_1, .int .i64 x7_2] (fun _ => True) (fun _ => False) rfl rfl ?aP (fun _ hk => hk.elim) ?aF ?aO (Below.refl _ _) ?aS ?aL ?_; (case aP => exact k44_mkM _ _ _ (⟨x6_1, x7_2⟩ : S44)); (case aF => exact (fun _ _ => trivial)); (case aO => exact (viaR HO_1292001.out)); (case aS => exact (keep_size (w := w) (g := g) (row := none) (by repeat (first | (with_reducible first | exact HK.out | apply KeepBut.set_ | apply keep_drewN | apply keep_drew | apply keep_alloc | refine keep_far ?_ GW1285.out _ | refine keep_far ?_ GW1291.out _) | exact HK.out)))); (case aL => have := LMc57.out; omega); intro v1316 w62 ho hb hg hat; rw [← Ny1315.out] at ho; have n0_ := Aside0.mk (blk_grown (g := gb1285) (o := .cells #[.int .i64 0, .slice none 0 0] 28 (0, 0)) (viaB BK1285.out) hg (Kd.R_ne HO_1292001.out BK1285.out (by decide))); have n1_ := Aside0.mk (blk_grown (g := gb1291) (o := .cells #[.int .i64 (wrap64 (1 + t1286)), u1292001] 28 (0, 0)) (viaB BK1291.out) hg (Kd.R_ne HO_1292001.out BK1291.out (by decide))); have n2_ := Aside0.mk (IsS67.grown (by repeat (first | (with_reducible first | exact HI0.out | apply IsS67.alloc | apply IsS67.drewN | apply IsS67.drew | apply IsS67.set_1 | refine IsS67.far ?_ NB0_1285.out _ | refine IsS67.far ?_ NB0_1291.out _) | exact HI0.out)) hg (IsS67.own_ne HI0.out HO_1292001.out (by decide))); have n3_ := Aside0.mk (below_weaken (by repeat (first | (with_reducible first | exact HB.out | apply below_alloc | apply pw_below_drewN | apply below_drew1 | refine below_set ?_ (IsS67.ge HI0.out) | refine below_set ?_ GE1285.out | refine below_set ?_ GE1291.out) | exact HB.out)) HL.out hb); have n4_ := Aside0.mk (KeepBut.trans (by repeat (first | (with_reducible first | exact HK.out | apply KeepBut.set_ | apply keep_drewN | apply keep_drew | apply keep_alloc | refine keep_far ?_ GW1285.out _ | refine keep_far ?_ GW1291.out _) | exact HK.out)) (KeepBut.of_grown hg g) (Kd.R_base2 HO_1292001.out)); have n5_ := Aside0.mk (ho); clear BK1285; clear BK1291; clear HI0; clear HB; clear HK; clear HO_1292001; have BK1285 := n0_; have BK1291 := n1_; have HI0 := n2_; have HB := n3_; have HK := n4_; have HO1317 := n5_; clear n0_ n1_ n2_ n3_ n4_ n5_; clear ho hb hg hat; obtain ⟨Ao63, co63, eo63⟩ := Kd.R_slice HO1317.out; subst eo63; have hcz64_0 : w62.cell? ⟨gb1291, 0, none⟩ = some (.int .i64 (wrap64 (1 + t1286))) := (blk_cell BK1291.out 0).trans rfl; have hcz64_1 : w62.cell? ⟨gb1291, 1, none⟩ = some (u1292001) := (blk_cell BK1291.out 1).trans rfl; have hfz64_0 := blk_frozen BK1291.out 0; have hfz64_1 := blk_frozen BK1291.out 1))
              go_roundg k2
              case measure => have := HK1.out; have := HK2.out; omega
              case rel => exact ⟨(wrap64 (x7_2 + 1)), (t1314), (y1315), (.slice Ao63 y1315.length co63), (by first | rfl | (simp; done) | (simp [*]; done)), H', ⟨by have := HK1.out; have := HK2.out; omega⟩, ⟨by (with_reducible repeat (first | apply Kd.R_alloc | apply Kd.R_drewN | apply Kd.R_drew)); exact Kd.R_mono (Kd.R_far (p := ⟨gb1291, 1, none⟩) (Kd.R_types HO1317.out BK1291.out (by decide)) (fun _ hk => hk.2) (.slice Ao63 y1315.length co63)) (fun _ hk => trivial)⟩, ⟨by (with_reducible repeat (first | refine blk_drewN ?_ _ | refine blk_drew ?_ | refine blk_alloc ?_ _)); refine blk_far ?_ NB1285_1291.out _; (with_reducible repeat (first | refine blk_drewN ?_ _ | refine blk_drew ?_ | refine blk_alloc ?_ _)); exact BK1285.out⟩, ⟨by (with_reducible repeat (first | refine blk_drewN ?_ _ | refine blk_drew ?_ | refine blk_alloc ?_ _)); refine blk_put (cs := #[.int .i64 (wrap64 (1 + t1286)), u1292001]) ?_ 1 _ rfl; (with_reducible repeat (first | refine blk_drewN ?_ _ | refine blk_drew ?_ | refine blk_alloc ?_ _)); exact BK1291.out⟩, ⟨by repeat (first | (with_reducible first | exact HI0.out | apply IsS67.alloc | apply IsS67.drewN | apply IsS67.drew | apply IsS67.set_1 | refine IsS67.far ?_ NB0_1285.out _ | refine IsS67.far ?_ NB0_1291.out _) | exact HI0.out)⟩, ⟨by repeat (first | (with_reducible first | exact HK.out | apply KeepBut.set_ | apply keep_drewN | apply keep_drew | apply keep_alloc | refine keep_far ?_ GW1285.out _ | refine keep_far ?_ GW1291.out _) | exact HK.out)⟩, ⟨by repeat (first | (with_reducible first | exact HB.out | apply below_alloc | apply pw_below_drewN | apply below_drew1 | refine below_set ?_ (IsS67.ge HI0.out) | refine below_set ?_ GE1285.out | refine below_set ?_ GE1291.out) | exact HB.out)⟩⟩
             ·rw [if_neg c57] at H
              exact absurd H (by simp)
            ·rw [if_neg c56] at H
             have c56b0 : decide (1 < t1313) = false := decide_eq_false c56; clear c56; have H' := Aside0.mk H; clear H
             go_wp2_with (first | (go_at_call 23; (with_reducible refine (spec_l6Rd_pick.calls k2 g s0_0 x1001_2 5 t1313 t1314 w0 _ ?side1 ?side2 A55.out).mono ?_); (case side1 => repeat (first | (with_reducible first | exact HI0.out | apply IsS67.alloc | apply IsS67.drewN | apply IsS67.drew | apply IsS67.set_1 | refine IsS67.far ?_ NB0_1285.out _ | refine IsS67.far ?_ NB0_1291.out _) | exact HI0.out)); (case side2 => repeat (first | (with_reducible first | exact HB.out | apply below_alloc | apply pw_below_drewN | apply below_drew1 | refine below_set ?_ (IsS67.ge HI0.out) | refine below_set ?_ GE1285.out | refine below_set ?_ GE1291.out) | exact HB.out)); rintro e w65 ⟨rfl, hi, hb, hk⟩; have n0_ := Aside0.mk (Kd.R_mono (Kd.R_keep (IsS67.apart (show IsS67 w0 _ g s0_0 x1001_2 from by repeat (first | (with_reducible first | exact HI0.out | apply IsS67.alloc | apply IsS67.drewN | apply IsS67.drew | apply IsS67.set_1 | refine IsS67.far ?_ NB0_1285.out _ | refine IsS67.far ?_ NB0_1291.out _) | exact HI0.out)) (viaR HO_1292001.out) (by decide)) hk (fun _ h => h.2)) (fun _ h => h.1)); have n1_ := Aside0.mk (KeepBut.blk hk (g' := gb1285) (o := .cells #[.int .i64 0, .slice none 0 0] 28 (0, 0)) (viaB BK1285.out) NB1285_0.out (by simp)); have n2_ := Aside0.mk (KeepBut.blk hk (g' := gb1291) (o := .cells #[.int .i64 (wrap64 (1 + t1286)), u1292001] 28 (0, 0)) (viaB BK1291.out) NB1291_0.out (by simp)); have n3_ := Aside0.mk (KeepBut.trans (by repeat (first | (with_reducible first | exact HK.out | apply KeepBut.set_ | apply keep_drewN | apply keep_drew | apply keep_alloc | refine keep_far ?_ GW1285.out _ | refine keep_far ?_ GW1291.out _) | exact HK.out)) hk (.inl rfl)); have n4_ := Aside0.mk (hb); have n5_ := Aside0.mk (hi); clear HO_1292001; clear BK1285; clear BK1291; clear HK; clear HB; clear HI0; have HO_1292001 := n0_; have BK1285 := n1_; have BK1291 := n2_; have HK := n3_; have HB := n4_; have HI0 := n5_; clear n0_ n1_ n2_ n3_ n4_ n5_; (try clear hb); (try clear hb2); (try clear hk); (try clear hi)))
             go_roundg k2
             case measure => have := HK1.out; have := HK2.out; omega
             case rel => exact ⟨(wrap64 (x7_2 + 1)), (t1314), (x1292001_2), (u1292001), (by first | rfl | (simp; done) | (simp [*]; done)), H', ⟨by have := HK1.out; have := HK2.out; omega⟩, ⟨viaR HO_1292001.out⟩, ⟨viaB BK1285.out⟩, ⟨viaB BK1291.out⟩, ⟨by repeat (first | (with_reducible first | exact HI0.out | apply IsS67.alloc | apply IsS67.drewN | apply IsS67.drew | apply IsS67.set_1 | refine IsS67.far ?_ NB0_1285.out _ | refine IsS67.far ?_ NB0_1291.out _) | exact HI0.out)⟩, ⟨by repeat (first | (with_reducible first | exact HK.out | apply KeepBut.set_ | apply keep_drewN | apply keep_drew | apply keep_alloc | refine keep_far ?_ GW1285.out _ | refine keep_far ?_ GW1291.out _) | exact HK.out)⟩, ⟨by repeat (first | (with_reducible first | exact HB.out | apply below_alloc | apply pw_below_drewN | apply below_drew1 | refine below_set ?_ (IsS67.ge HI0.out) | refine below_set ?_ GE1285.out | refine below_set ?_ GE1291.out) | exact HB.out)⟩⟩
           ·rw [if_neg c54] at H
            have c54b0 : decide (1 < t1292) = false := decide_eq_false c54; clear c54; have H' := Aside0.mk H; clear H
            go_wp2
            go_roundg k2
            case measure => have := HK1.out; have := HK2.out; omega
            case rel => exact ⟨(wrap64 (x7_2 + 1)), (x1001_2), (x1292001_2), (u1292001), (by first | rfl | (simp; done) | (simp [*]; done)), H', ⟨by have := HK1.out; have := HK2.out; omega⟩, ⟨viaR HO_1292001.out⟩, ⟨viaB BK1285.out⟩, ⟨viaB BK1291.out⟩, ⟨by repeat (first | (with_reducible first | exact HI0.out | apply IsS67.alloc | apply IsS67.drewN | apply IsS67.drew | apply IsS67.set_1 | refine IsS67.far ?_ NB0_1285.out _ | refine IsS67.far ?_ NB0_1291.out _) | exact HI0.out)⟩, ⟨by repeat (first | (with_reducible first | exact HK.out | apply KeepBut.set_ | apply keep_drewN | apply keep_drew | apply keep_alloc | refine keep_far ?_ GW1285.out _ | refine keep_far ?_ GW1291.out _) | exact HK.out)⟩, ⟨by repeat (first | (with_reducible first | exact HB.out | apply below_alloc | apply pw_below_drewN | apply below_drew1 | refine below_set ?_ (IsS67.ge HI0.out) | refine below_set ?_ GE1285.out | refine below_set ?_ GE1291.out) | exact HB.out)⟩⟩
        ·rw [if_neg c24] at H
         have c24b0 : (t1292 == 1) = false := beq_eq_false_iff_ne.mpr c24; have c24b1 : (t1292 != 1) = true := bne_iff_ne.mpr c24
         by_cases c66 : t1292 > 1
         ·rw [if_pos c66] at H
          have c66b0 : decide (1 < t1292) = true := decide_eq_true c66; clear c66; replace H := Option.bind_eq_some_iff.mp H; obtain ⟨⟨t1318, t1319⟩, A670, H⟩ := H; replace H : (if t1318 > 1 then (if x1292001_2.length < 8796093022208 then (spec_l91Graph.l1 k2 (wrap64 (1 + t1286)) t1292 x6_1 (wrap64 (x7_2 + 1)) s0_0 t1319 (wrap64 (1 + t1286)) (x1292001_2 ++ [(⟨x6_1, x7_2⟩ : S44)])) else (none)) else (spec_l91Graph.l1 k2 (wrap64 (1 + t1286)) t1292 x6_1 (wrap64 (x7_2 + 1)) s0_0 t1319 (wrap64 (1 + t1286)) x1292001_2)) = some (r1, r2, r3) := H; have A67 := Aside0.mk A670; clear A670
          by_cases c68 : t1318 > 1
          ·rw [if_pos c68] at H
           have c68b0 : decide (1 < t1318) = true := decide_eq_true c68; clear c68
           by_cases c69 : x1292001_2.length < 8796093022208
           ·rw [if_pos c69] at H
            have LMc69 := Aside0.mk c69; clear c69; obtain ⟨y1320, hy1320⟩ : ∃ y_ : List (S44), y_ = (x1292001_2 ++ [(⟨x6_1, x7_2⟩ : S44)]) := ⟨_, rfl⟩; replace H : (spec_l91Graph.l1 k2 (wrap64 (1 + t1286)) t1292 x6_1 (wrap64 (x7_2 + 1)) s0_0 t1319 (wrap64 (1 + t1286)) y1320) = some (r1, r2, r3) := by first | (rw [hy1320]; with_reducible exact H) | (have H2_ := (Option.bind_some _ _).symm.trans H; rw [hy1320]; with_reducible exact H2_) | (have H2_ := (Option.bind_some _ _).symm.trans H; with_reducible exact H2_) | with_reducible exact H | (rw [hy1320]; exact H) | exact H
            have Ny1320 := Aside0.mk hy1320; clear hy1320; have H' := Aside0.mk H; clear H
            go_wp2_with (first | (go_at_call 23; (with_reducible refine (spec_l6Rd_pick.calls k2 g s0_0 x1001_2 5 t1318 t1319 w0 _ ?side1 ?side2 A67.out).mono ?_); (case side1 => repeat (first | (with_reducible first | exact HI0.out | apply IsS67.alloc | apply IsS67.drewN | apply IsS67.drew | apply IsS67.set_1 | refine IsS67.far ?_ NB0_1285.out _ | refine IsS67.far ?_ NB0_1291.out _) | exact HI0.out)); (case side2 => repeat (first | (with_reducible first | exact HB.out | apply below_alloc | apply pw_below_drewN | apply below_drew1 | refine below_set ?_ (IsS67.ge HI0.out) | refine below_set ?_ GE1285.out | refine below_set ?_ GE1291.out) | exact HB.out)); rintro e w70 ⟨rfl, hi, hb, hk⟩; have n0_ := Aside0.mk (Kd.R_mono (Kd.R_keep (IsS67.apart (show IsS67 w0 _ g s0_0 x1001_2 from by repeat (first | (with_reducible first | exact HI0.out | apply IsS67.alloc | apply IsS67.drewN | apply IsS67.drew | apply IsS67.set_1 | refine IsS67.far ?_ NB0_1285.out _ | refine IsS67.far ?_ NB0_1291.out _) | exact HI0.out)) (viaR HO_1292001.out) (by decide)) hk (fun _ h => h.2)) (fun _ h => h.1)); have n1_ := Aside0.mk (KeepBut.blk hk (g' := gb1285) (o := .cells #[.int .i64 0, .slice none 0 0] 28 (0, 0)) (viaB BK1285.out) NB1285_0.out (by simp)); have n2_ := Aside0.mk (KeepBut.blk hk (g' := gb1291) (o := .cells #[.int .i64 (wrap64 (1 + t1286)), u1292001] 28 (0, 0)) (viaB BK1291.out) NB1291_0.out (by simp)); have n3_ := Aside0.mk (KeepBut.trans (by repeat (first | (with_reducible first | exact HK.out | apply KeepBut.set_ | apply keep_drewN | apply keep_drew | apply keep_alloc | refine keep_far ?_ GW1285.out _ | refine keep_far ?_ GW1291.out _) | exact HK.out)) hk (.inl rfl)); have n4_ := Aside0.mk (hb); have n5_ := Aside0.mk (hi); clear HO_1292001; clear BK1285; clear BK1291; clear HK; clear HB; clear HI0; have HO_1292001 := n0_; have BK1285 := n1_; have BK1291 := n2_; have HK := n3_; have HB := n4_; have HI0 := n5_; clear n0_ n1_ n2_ n3_ n4_ n5_; (try clear hb); (try clear hb2); (try clear hk); (try clear hi); have hnb71 := NB1291_1285.out; have hnc71 := NB1285_1291.out; have hnb72 := NB1291_0.out; have hnc72 := NB0_1291.out; have hcz73_0 : w70.cell? ⟨gb1291, 0, none⟩ = some (.int .i64 (wrap64 (1 + t1286))) := (blk_cell BK1291.out 0).trans rfl; have hcz73_1 : w70.cell? ⟨gb1291, 1, none⟩ = some (u1292001) := (blk_cell BK1291.out 1).trans rfl; have hfz73_0 := blk_frozen BK1291.out 0; have hfz73_1 := blk_frozen BK1291.out 1) | ((with_reducible refine gate_builtin (b := .append) (xs := #[.tmp 60, .tmp 64]) rfl ?_); at_builtin; refine Kd.R_append k44 w.heap.size rfl (.tmp 60) (.tmp 64) 26 44 (.agg #[(.int .i64 0), (.int .i64 0)]) 16 rfl Tryz.underlying26 info44 rfl (by decide) (by omega) u1292001 x1292001_2 (⟨x6_1, x7_2⟩ : S44) [.int .i64 x6_1, .int .i64 x7_2] (fun _ => True) (fun _ => False) rfl rfl ?aP (fun _ hk => hk.elim) ?aF ?aO (Below.refl _ _) ?aS ?aL ?_; (case aP => exact k44_mkM _ _ _ (⟨x6_1, x7_2⟩ : S44)); (case aF => exact (fun _ _ => trivial)); (case aO => exact (viaR HO_1292001.out)); (case aS => exact (keep_size (w := w) (g := g) (row := none) (by repeat (first | (with_reducible first | exact HK.out | apply KeepBut.set_ | apply keep_drewN | apply keep_drew | apply keep_alloc | refine keep_far ?_ GW1285.out _ | refine keep_far ?_ GW1291.out _) | exact HK.out)))); (case aL => have := LMc69.out; omega); intro v1321 w74 ho hb hg hat; rw [← Ny1320.out] at ho; have n0_ := Aside0.mk (blk_grown (g := gb1285) (o := .cells #[.int .i64 0, .slice none 0 0] 28 (0, 0)) (viaB BK1285.out) hg (Kd.R_ne HO_1292001.out BK1285.out (by decide))); have n1_ := Aside0.mk (blk_grown (g := gb1291) (o := .cells #[.int .i64 (wrap64 (1 + t1286)), u1292001] 28 (0, 0)) (viaB BK1291.out) hg (Kd.R_ne HO_1292001.out BK1291.out (by decide))); have n2_ := Aside0.mk (IsS67.grown (by repeat (first | (with_reducible first | exact HI0.out | apply IsS67.alloc | apply IsS67.drewN | apply IsS67.drew | apply IsS67.set_1 | refine IsS67.far ?_ NB0_1285.out _ | refine IsS67.far ?_ NB0_1291.out _) | exact HI0.out)) hg (IsS67.own_ne HI0.out HO_1292001.out (by decide))); have n3_ := Aside0.mk (below_weaken (by repeat (first | (with_reducible first | exact HB.out | apply below_alloc | apply pw_below_drewN | apply below_drew1 | refine below_set ?_ (IsS67.ge HI0.out) | refine below_set ?_ GE1285.out | refine below_set ?_ GE1291.out) | exact HB.out)) HL.out hb); have n4_ := Aside0.mk (KeepBut.trans (by repeat (first | (with_reducible first | exact HK.out | apply KeepBut.set_ | apply keep_drewN | apply keep_drew | apply keep_alloc | refine keep_far ?_ GW1285.out _ | refine keep_far ?_ GW1291.out _) | exact HK.out)) (KeepBut.of_grown hg g) (Kd.R_base2 HO_1292001.out)); have n5_ := Aside0.mk (ho); clear BK1285; clear BK1291; clear HI0; clear HB; clear HK; clear HO_1292001; have BK1285 := n0_; have BK1291 := n1_; have HI0 := n2_; have HB := n3_; have HK := n4_; have HO1322 := n5_; clear n0_ n1_ n2_ n3_ n4_ n5_; clear ho hb hg hat; obtain ⟨Ao75, co75, eo75⟩ := Kd.R_slice HO1322.out; subst eo75; have hcz76_0 : w74.cell? ⟨gb1291, 0, none⟩ = some (.int .i64 (wrap64 (1 + t1286))) := (blk_cell BK1291.out 0).trans rfl; have hcz76_1 : w74.cell? ⟨gb1291, 1, none⟩ = some (u1292001) := (blk_cell BK1291.out 1).trans rfl; have hfz76_0 := blk_frozen BK1291.out 0; have hfz76_1 := blk_frozen BK1291.out 1))
            go_roundg k2
            case measure => have := HK1.out; have := HK2.out; omega
            case rel => exact ⟨(wrap64 (x7_2 + 1)), (t1319), (y1320), (.slice Ao75 y1320.length co75), (by first | rfl | (simp; done) | (simp [*]; done)), H', ⟨by have := HK1.out; have := HK2.out; omega⟩, ⟨by (with_reducible repeat (first | apply Kd.R_alloc | apply Kd.R_drewN | apply Kd.R_drew)); exact Kd.R_mono (Kd.R_far (p := ⟨gb1291, 1, none⟩) (Kd.R_types HO1322.out BK1291.out (by decide)) (fun _ hk => hk.2) (.slice Ao75 y1320.length co75)) (fun _ hk => trivial)⟩, ⟨by (with_reducible repeat (first | refine blk_drewN ?_ _ | refine blk_drew ?_ | refine blk_alloc ?_ _)); refine blk_far ?_ NB1285_1291.out _; (with_reducible repeat (first | refine blk_drewN ?_ _ | refine blk_drew ?_ | refine blk_alloc ?_ _)); exact BK1285.out⟩, ⟨by (with_reducible repeat (first | refine blk_drewN ?_ _ | refine blk_drew ?_ | refine blk_alloc ?_ _)); refine blk_put (cs := #[.int .i64 (wrap64 (1 + t1286)), u1292001]) ?_ 1 _ rfl; (with_reducible repeat (first | refine blk_drewN ?_ _ | refine blk_drew ?_ | refine blk_alloc ?_ _)); exact BK1291.out⟩, ⟨by repeat (first | (with_reducible first | exact HI0.out | apply IsS67.alloc | apply IsS67.drewN | apply IsS67.drew | apply IsS67.set_1 | refine IsS67.far ?_ NB0_1285.out _ | refine IsS67.far ?_ NB0_1291.out _) | exact HI0.out)⟩, ⟨by repeat (first | (with_reducible first | exact HK.out | apply KeepBut.set_ | apply keep_drewN | apply keep_drew | apply keep_alloc | refine keep_far ?_ GW1285.out _ | refine keep_far ?_ GW1291.out _) | exact HK.out)⟩, ⟨by repeat (first | (with_reducible first | exact HB.out | apply below_alloc | apply pw_below_drewN | apply below_drew1 | refine below_set ?_ (IsS67.ge HI0.out) | refine below_set ?_ GE1285.out | refine below_set ?_ GE1291.out) | exact HB.out)⟩⟩
           ·rw [if_neg c69] at H
            exact absurd H (by simp)
          ·rw [if_neg c68] at H
           have c68b0 : decide (1 < t1318) = false := decide_eq_false c68; clear c68; have H' := Aside0.mk H; clear H
           go_wp2_with (first | (go_at_call 23; (with_reducible refine (spec_l6Rd_pick.calls k2 g s0_0 x1001_2 5 t1318 t1319 w0 _ ?side1 ?side2 A67.out).mono ?_); (case side1 => repeat (first | (with_reducible first | exact HI0.out | apply IsS67.alloc | apply IsS67.drewN | apply IsS67.drew | apply IsS67.set_1 | refine IsS67.far ?_ NB0_1285.out _ | refine IsS67.far ?_ NB0_1291.out _) | exact HI0.out)); (case side2 => repeat (first | (with_reducible first | exact HB.out | apply below_alloc | apply pw_below_drewN | apply below_drew1 | refine below_set ?_ (IsS67.ge HI0.out) | refine below_set ?_ GE1285.out | refine below_set ?_ GE1291.out) | exact HB.out)); rintro e w77 ⟨rfl, hi, hb, hk⟩; have n0_ := Aside0.mk (Kd.R_mono (Kd.R_keep (IsS67.apart (show IsS67 w0 _ g s0_0 x1001_2 from by repeat (first | (with_reducible first | exact HI0.out | apply IsS67.alloc | apply IsS67.drewN | apply IsS67.drew | apply IsS67.set_1 | refine IsS67.far ?_ NB0_1285.out _ | refine IsS67.far ?_ NB0_1291.out _) | exact HI0.out)) (viaR HO_1292001.out) (by decide)) hk (fun _ h => h.2)) (fun _ h => h.1)); have n1_ := Aside0.mk (KeepBut.blk hk (g' := gb1285) (o := .cells #[.int .i64 0, .slice none 0 0] 28 (0, 0)) (viaB BK1285.out) NB1285_0.out (by simp)); have n2_ := Aside0.mk (KeepBut.blk hk (g' := gb1291) (o := .cells #[.int .i64 (wrap64 (1 + t1286)), u1292001] 28 (0, 0)) (viaB BK1291.out) NB1291_0.out (by simp)); have n3_ := Aside0.mk (KeepBut.trans (by repeat (first | (with_reducible first | exact HK.out | apply KeepBut.set_ | apply keep_drewN | apply keep_drew | apply keep_alloc | refine keep_far ?_ GW1285.out _ | refine keep_far ?_ GW1291.out _) | exact HK.out)) hk (.inl rfl)); have n4_ := Aside0.mk (hb); have n5_ := Aside0.mk (hi); clear HO_1292001; clear BK1285; clear BK1291; clear HK; clear HB; clear HI0; have HO_1292001 := n0_; have BK1285 := n1_; have BK1291 := n2_; have HK := n3_; have HB := n4_; have HI0 := n5_; clear n0_ n1_ n2_ n3_ n4_ n5_; (try clear hb); (try clear hb2); (try clear hk); (try clear hi)))
           go_roundg k2
           case measure => have := HK1.out; have := HK2.out; omega
           case rel => exact ⟨(wrap64 (x7_2 + 1)), (t1319), (x1292001_2), (u1292001), (by first | rfl | (simp; done) | (simp [*]; done)), H', ⟨by have := HK1.out; have := HK2.out; omega⟩, ⟨viaR HO_1292001.out⟩, ⟨viaB BK1285.out⟩, ⟨viaB BK1291.out⟩, ⟨by repeat (first | (with_reducible first | exact HI0.out | apply IsS67.alloc | apply IsS67.drewN | apply IsS67.drew | apply IsS67.set_1 | refine IsS67.far ?_ NB0_1285.out _ | refine IsS67.far ?_ NB0_1291.out _) | exact HI0.out)⟩, ⟨by repeat (first | (with_reducible first | exact HK.out | apply KeepBut.set_ | apply keep_drewN | apply keep_drew | apply keep_alloc | refine keep_far ?_ GW1285.out _ | refine keep_far ?_ GW1291.out _) | exact HK.out)⟩, ⟨by repeat (first | (with_reducible first | exact HB.out | apply below_alloc | apply pw_below_drewN | apply below_drew1 | refine below_set ?_ (IsS67.ge HI0.out) | refine below_set ?_ GE1285.out | refine below_set ?_ GE1291.out) | exact HB.out)⟩⟩
         ·rw [if_neg c66] at H
          have c66b0 : decide (1 < t1292) = false := decide_eq_false c66; clear c66; have H' := Aside0.mk H; clear H
          go_wp2
          go_roundg k2
          case measure => have := HK1.out; have := HK2.out; omega
          case rel => exact ⟨(wrap64 (x7_2 + 1)), (x1001_2), (x1292001_2), (u1292001), (by first | rfl | (simp; done) | (simp [*]; done)), H', ⟨by have := HK1.out; have := HK2.out; omega⟩, ⟨viaR HO_1292001.out⟩, ⟨viaB BK1285.out⟩, ⟨viaB BK1291.out⟩, ⟨by repeat (first | (with_reducible first | exact HI0.out | apply IsS67.alloc | apply IsS67.drewN | apply IsS67.drew | apply IsS67.set_1 | refine IsS67.far ?_ NB0_1285.out _ | refine IsS67.far ?_ NB0_1291.out _) | exact HI0.out)⟩, ⟨by repeat (first | (with_reducible first | exact HK.out | apply KeepBut.set_ | apply keep_drewN | apply keep_drew | apply keep_alloc | refine keep_far ?_ GW1285.out _ | refine keep_far ?_ GW1291.out _) | exact HK.out)⟩, ⟨by repeat (first | (with_reducible first | exact HB.out | apply below_alloc | apply pw_below_drewN | apply below_drew1 | refine below_set ?_ (IsS67.ge HI0.out) | refine below_set ?_ GE1285.out | refine below_set ?_ GE1291.out) | exact HB.out)⟩⟩
      ·rw [if_neg c15] at H
       have c15b0 : decide (x7_2 < (wrap64 (1 + t1286))) = false := decide_eq_false c15; clear c15; have H' := Aside0.mk H; clear H
       go_wp2
       go_roundg k2
       case measure => have := HK1.out; have := HK2.out; omega
       case rel => exact ⟨(wrap64 (x6_1 + 1)), (x1001_2), (x1292001_2), (u1292001), (by first | rfl | (simp; done) | (simp [*]; done)), H', ⟨by have := HK1.out; have := HK2.out; omega⟩, ⟨viaR HO_1292001.out⟩, ⟨viaB BK1285.out⟩, ⟨viaB BK1291.out⟩, ⟨by repeat (first | (with_reducible first | exact HI0.out | apply IsS67.alloc | apply IsS67.drewN | apply IsS67.drew | apply IsS67.set_1 | refine IsS67.far ?_ NB0_1285.out _ | refine IsS67.far ?_ NB0_1291.out _) | exact HI0.out)⟩, ⟨by repeat (first | (with_reducible first | exact HK.out | apply KeepBut.set_ | apply keep_drewN | apply keep_drew | apply keep_alloc | refine keep_far ?_ GW1285.out _ | refine keep_far ?_ GW1291.out _) | exact HK.out)⟩, ⟨by repeat (first | (with_reducible first | exact HB.out | apply below_alloc | apply pw_below_drewN | apply below_drew1 | refine below_set ?_ (IsS67.ge HI0.out) | refine below_set ?_ GE1285.out | refine below_set ?_ GE1291.out) | exact HB.out)⟩⟩
   ·rw [if_neg c14] at H
    have c14b0 : decide (x6_1 < (wrap64 (1 + t1286))) = false := decide_eq_false c14; clear c14; replace H := Option.bind_eq_some_iff.mp H; obtain ⟨⟨t1294, t1295⟩, A780, H⟩ := H; replace H : (if t1294 = 0 then (if x1292001_1.length < 8796093022208 then (some ((wrap64 (1 + t1286)), (x1292001_1 ++ [(⟨wrap64 ((wrap64 (1 + t1286)) - 1), 0⟩ : S44)]), t1295)) else (none)) else (some ((wrap64 (1 + t1286)), x1292001_1, t1295))) = some (r1, r2, r3) := H; have A78 := Aside0.mk A780; clear A780
    by_cases c79 : t1294 = 0
    ·rw [if_pos c79] at H
     have c79b0 : (t1294 == 0) = true := beq_iff_eq.mpr c79; have c79b1 : (t1294 != 0) = false := bne_eq_false_iff_eq.mpr c79; clear c79
     by_cases c80 : x1292001_1.length < 8796093022208
     ·rw [if_pos c80] at H
      have LMc80 := Aside0.mk c80; clear c80; obtain ⟨y1296, hy1296⟩ : ∃ y_ : List (S44), y_ = (x1292001_1 ++ [(⟨wrap64 ((wrap64 (1 + t1286)) - 1), 0⟩ : S44)]) := ⟨_, rfl⟩; replace H : (some ((wrap64 (1 + t1286)), y1296, t1295)) = some (r1, r2, r3) := by first | (rw [hy1296]; with_reducible exact H) | (have H2_ := (Option.bind_some _ _).symm.trans H; rw [hy1296]; with_reducible exact H2_) | (have H2_ := (Option.bind_some _ _).symm.trans H; with_reducible exact H2_) | with_reducible exact H | (rw [hy1296]; exact H) | exact H
      have Ny1296 := Aside0.mk hy1296; clear hy1296
      simp only [Option.some.injEq, Prod.mk.injEq] at H
      obtain ⟨rfl, rfl, rfl⟩ := H
      go_wp2_with (first | ((with_reducible refine gate_callee (f := 23) rfl ?_); refine goesL_ (some 68) rfl rfl Tryz.func23 (by kernel_rfl) rfl #[.pointer (some ⟨g, 0, none⟩), .int .i64 40] rfl (by (try simp only [List.map_toArray, List.map_cons, List.map_nil]); first | done | rfl | (simp only [List.length_drop, List.length_take]; rfl)) ?_; (with_reducible refine (spec_l6Rd_pick.calls k1 g s0_0 x1001_1 40 t1294 t1295 w0 _ ?side1 ?side2 A78.out).mono ?_); (case side1 => repeat (first | (with_reducible first | exact HI0.out | apply IsS67.alloc | apply IsS67.drewN | apply IsS67.drew | apply IsS67.set_1 | refine IsS67.far ?_ NB0_1285.out _ | refine IsS67.far ?_ NB0_1291.out _) | exact HI0.out)); (case side2 => repeat (first | (with_reducible first | exact HB.out | apply below_alloc | apply pw_below_drewN | apply below_drew1 | refine below_set ?_ (IsS67.ge HI0.out) | refine below_set ?_ GE1285.out | refine below_set ?_ GE1291.out) | exact HB.out)); rintro e w81 ⟨rfl, hi, hb, hk⟩; refine ⟨_, rfl, ?_⟩; have n0_ := Aside0.mk (Kd.R_mono (Kd.R_keep (IsS67.apart (show IsS67 w0 _ g s0_0 x1001_1 from by repeat (first | (with_reducible first | exact HI0.out | apply IsS67.alloc | apply IsS67.drewN | apply IsS67.drew | apply IsS67.set_1 | refine IsS67.far ?_ NB0_1285.out _ | refine IsS67.far ?_ NB0_1291.out _) | exact HI0.out)) (viaR HO_1292001.out) (by decide)) hk (fun _ h => h.2)) (fun _ h => h.1)); have n1_ := Aside0.mk (KeepBut.blk hk (g' := gb1285) (o := .cells #[.int .i64 0, .slice none 0 0] 28 (0, 0)) (viaB BK1285.out) NB1285_0.out (by simp)); have n2_ := Aside0.mk (KeepBut.blk hk (g' := gb1291) (o := .cells #[.int .i64 (wrap64 (1 + t1286)), u1292001] 28 (0, 0)) (viaB BK1291.out) NB1291_0.out (by simp)); have n3_ := Aside0.mk (KeepBut.trans (by repeat (first | (with_reducible first | exact HK.out | apply KeepBut.set_ | apply keep_drewN | apply keep_drew | apply keep_alloc | refine keep_far ?_ GW1285.out _ | refine keep_far ?_ GW1291.out _) | exact HK.out)) hk (.inl rfl)); have n4_ := Aside0.mk (hb); have n5_ := Aside0.mk (hi); clear HO_1292001; clear BK1285; clear BK1291; clear HK; clear HB; clear HI0; have HO_1292001 := n0_; have BK1285 := n1_; have BK1291 := n2_; have HK := n3_; have HB := n4_; have HI0 := n5_; clear n0_ n1_ n2_ n3_ n4_ n5_; (try clear hb); (try clear hb2); (try clear hk); (try clear hi); have hnb82 := NB1291_1285.out; have hnc82 := NB1285_1291.out; have hnb83 := NB1291_0.out; have hnc83 := NB0_1291.out; have hcz84_0 : w81.cell? ⟨gb1291, 0, none⟩ = some (.int .i64 (wrap64 (1 + t1286))) := (blk_cell BK1291.out 0).trans rfl; have hcz84_1 : w81.cell? ⟨gb1291, 1, none⟩ = some (u1292001) := (blk_cell BK1291.out 1).trans rfl; have hfz84_0 := blk_frozen BK1291.out 0; have hfz84_1 := blk_frozen BK1291.out 1) | ((with_reducible refine gate_builtin (b := .append) (xs := #[.tmp 71, .tmp 75]) rfl ?_); at_builtin; refine Kd.R_append k44 w.heap.size rfl (.tmp 71) (.tmp 75) 26 44 (.agg #[(.int .i64 0), (.int .i64 0)]) 16 rfl Tryz.underlying26 info44 rfl (by decide) (by omega) u1292001 x1292001_1 (⟨wrap64 ((wrap64 (1 + t1286)) - 1), 0⟩ : S44) [.int .i64 (wrap64 ((wrap64 (1 + t1286)) - 1)), .int .i64 0] (fun _ => True) (fun _ => False) rfl rfl ?aP (fun _ hk => hk.elim) ?aF ?aO (Below.refl _ _) ?aS ?aL ?_; (case aP => exact k44_mkM _ _ _ (⟨wrap64 ((wrap64 (1 + t1286)) - 1), 0⟩ : S44)); (case aF => exact (fun _ _ => trivial)); (case aO => exact (viaR HO_1292001.out)); (case aS => exact (keep_size (w := w) (g := g) (row := none) (by repeat (first | (with_reducible first | exact HK.out | apply KeepBut.set_ | apply keep_drewN | apply keep_drew | apply keep_alloc | refine keep_far ?_ GW1285.out _ | refine keep_far ?_ GW1291.out _) | exact HK.out)))); (case aL => have := LMc80.out; omega); intro v1297 w85 ho hb hg hat; rw [← Ny1296.out] at ho; have n0_ := Aside0.mk (blk_grown (g := gb1285) (o := .cells #[.int .i64 0, .slice none 0 0] 28 (0, 0)) (viaB BK1285.out) hg (Kd.R_ne HO_1292001.out BK1285.out (by decide))); have n1_ := Aside0.mk (blk_grown (g := gb1291) (o := .cells #[.int .i64 (wrap64 (1 + t1286)), u1292001] 28 (0, 0)) (viaB BK1291.out) hg (Kd.R_ne HO_1292001.out BK1291.out (by decide))); have n2_ := Aside0.mk (IsS67.grown (by repeat (first | (with_reducible first | exact HI0.out | apply IsS67.alloc | apply IsS67.drewN | apply IsS67.drew | apply IsS67.set_1 | refine IsS67.far ?_ NB0_1285.out _ | refine IsS67.far ?_ NB0_1291.out _) | exact HI0.out)) hg (IsS67.own_ne HI0.out HO_1292001.out (by decide))); have n3_ := Aside0.mk (below_weaken (by repeat (first | (with_reducible first | exact HB.out | apply below_alloc | apply pw_below_drewN | apply below_drew1 | refine below_set ?_ (IsS67.ge HI0.out) | refine below_set ?_ GE1285.out | refine below_set ?_ GE1291.out) | exact HB.out)) HL.out hb); have n4_ := Aside0.mk (KeepBut.trans (by repeat (first | (with_reducible first | exact HK.out | apply KeepBut.set_ | apply keep_drewN | apply keep_drew | apply keep_alloc | refine keep_far ?_ GW1285.out _ | refine keep_far ?_ GW1291.out _) | exact HK.out)) (KeepBut.of_grown hg g) (Kd.R_base2 HO_1292001.out)); have n5_ := Aside0.mk (ho); clear BK1285; clear BK1291; clear HI0; clear HB; clear HK; clear HO_1292001; have BK1285 := n0_; have BK1291 := n1_; have HI0 := n2_; have HB := n3_; have HK := n4_; have HO1298 := n5_; clear n0_ n1_ n2_ n3_ n4_ n5_; clear ho hb hg hat; obtain ⟨Ao86, co86, eo86⟩ := Kd.R_slice HO1298.out; subst eo86; have hcz87_0 : w85.cell? ⟨gb1291, 0, none⟩ = some (.int .i64 (wrap64 (1 + t1286))) := (blk_cell BK1291.out 0).trans rfl; have hcz87_1 : w85.cell? ⟨gb1291, 1, none⟩ = some (u1292001) := (blk_cell BK1291.out 1).trans rfl; have hfz87_0 := blk_frozen BK1291.out 0; have hfz87_1 := blk_frozen BK1291.out 1; have hnb88 := NB1285_0.out; have hnc88 := NB0_1285.out; have hcz89_0 : w85.cell? ⟨gb1285, 0, none⟩ = some (.int .i64 0) := (blk_cell BK1285.out 0).trans rfl; have hcz89_1 : w85.cell? ⟨gb1285, 1, none⟩ = some (.slice none 0 0) := (blk_cell BK1285.out 1).trans rfl; have hfz89_0 := blk_frozen BK1285.out 0; have hfz89_1 := blk_frozen BK1285.out 1))
      refine bodyPost_ret (results_cell_row rfl _ _ gb1285 28 #[.int .i64 (wrap64 (1 + t1286)), .slice Ao86 y1296.length co86] (0, 0) _ rfl (by (with_reducible repeat (first | refine blk_drewN ?_ _ | refine blk_drew ?_ | refine blk_alloc ?_ _)); refine blk_put (cs := #[.int .i64 (wrap64 (1 + t1286)), .slice none 0 0]) ?_ 1 _ rfl; (with_reducible repeat (first | refine blk_drewN ?_ _ | refine blk_drew ?_ | refine blk_alloc ?_ _)); refine blk_put (cs := #[.int .i64 0, .slice none 0 0]) ?_ 0 _ rfl; (with_reducible repeat (first | refine blk_drewN ?_ _ | refine blk_drew ?_ | refine blk_alloc ?_ _)); refine blk_far ?_ NB1285_1291.out _; (with_reducible repeat (first | refine blk_drewN ?_ _ | refine blk_drew ?_ | refine blk_alloc ?_ _)); exact BK1285.out) Tryz.underlying28 rfl (by kernel_rfl)) rfl ?_
      exact ⟨_, by first | rfl | (simp [errW_none, errW_some] <;> rfl) | (simp [*, errW_none, errW_some] <;> rfl), by (with_reducible repeat (first | apply Kd.R_alloc | apply Kd.R_drewN | apply Kd.R_drew)); exact Kd.R_mono (Kd.R_far (p := ⟨gb1285, 1, none⟩) (Kd.R_far (p := ⟨gb1285, 0, none⟩) (Kd.R_far (p := ⟨gb1291, 1, none⟩) (Kd.R_types (Kd.R_types HO1298.out BK1291.out (by decide)) BK1285.out (by decide)) (fun _ hk => hk.1.2) (.slice Ao86 y1296.length co86)) (fun _ hk => hk.2) (.int .i64 (wrap64 (1 + t1286)))) (fun _ hk => hk.2) (.slice Ao86 y1296.length co86)) (fun _ hk => trivial), by repeat (first | (with_reducible first | exact HI0.out | apply IsS67.alloc | apply IsS67.drewN | apply IsS67.drew | apply IsS67.set_1 | refine IsS67.far ?_ NB0_1285.out _ | refine IsS67.far ?_ NB0_1291.out _) | exact HI0.out), by repeat (first | (with_reducible first | exact HB.out | apply below_alloc | apply pw_below_drewN | apply below_drew1 | refine below_set ?_ (IsS67.ge HI0.out) | refine below_set ?_ GE1285.out | refine below_set ?_ GE1291.out) | exact HB.out), by repeat (first | (with_reducible first | exact HK.out | apply KeepBut.set_ | apply keep_drewN | apply keep_drew | apply keep_alloc | refine keep_far ?_ GW1285.out _ | refine keep_far ?_ GW1291.out _) | exact HK.out)⟩
     ·rw [if_neg c80] at H
      exact absurd H (by simp)
    ·rw [if_neg c79] at H
     have c79b0 : (t1294 == 0) = false := beq_eq_false_iff_ne.mpr c79; have c79b1 : (t1294 != 0) = true := bne_iff_ne.mpr c79
     simp only [Option.some.injEq, Prod.mk.injEq] at H
     obtain ⟨rfl, rfl, rfl⟩ := H
     go_wp2_with (first | ((with_reducible refine gate_callee (f := 23) rfl ?_); refine goesL_ (some 68) rfl rfl Tryz.func23 (by kernel_rfl) rfl #[.pointer (some ⟨g, 0, none⟩), .int .i64 40] rfl (by (try simp only [List.map_toArray, List.map_cons, List.map_nil]); first | done | rfl | (simp only [List.length_drop, List.length_take]; rfl)) ?_; (with_reducible refine (spec_l6Rd_pick.calls k1 g s0_0 x1001_1 40 t1294 t1295 w0 _ ?side1 ?side2 A78.out).mono ?_); (case side1 => repeat (first | (with_reducible first | exact HI0.out | apply IsS67.alloc | apply IsS67.drewN | apply IsS67.drew | apply IsS67.set_1 | refine IsS67.far ?_ NB0_1285.out _ | refine IsS67.far ?_ NB0_1291.out _) | exact HI0.out)); (case side2 => repeat (first | (with_reducible first | exact HB.out | apply below_alloc | apply pw_below_drewN | apply below_drew1 | refine below_set ?_ (IsS67.ge HI0.out) | refine below_set ?_ GE1285.out | refine below_set ?_ GE1291.out) | exact HB.out)); rintro e w90 ⟨rfl, hi, hb, hk⟩; refine ⟨_, rfl, ?_⟩; have n0_ := Aside0.mk (Kd.R_mono (Kd.R_keep (IsS67.apart (show IsS67 w0 _ g s0_0 x1001_1 from by repeat (first | (with_reducible first | exact HI0.out | apply IsS67.alloc | apply IsS67.drewN | apply IsS67.drew | apply IsS67.set_1 | refine IsS67.far ?_ NB0_1285.out _ | refine IsS67.far ?_ NB0_1291.out _) | exact HI0.out)) (viaR HO_1292001.out) (by decide)) hk (fun _ h => h.2)) (fun _ h => h.1)); have n1_ := Aside0.mk (KeepBut.blk hk (g' := gb1285) (o := .cells #[.int .i64 0, .slice none 0 0] 28 (0, 0)) (viaB BK1285.out) NB1285_0.out (by simp)); have n2_ := Aside0.mk (KeepBut.blk hk (g' := gb1291) (o := .cells #[.int .i64 (wrap64 (1 + t1286)), u1292001] 28 (0, 0)) (viaB BK1291.out) NB1291_0.out (by simp)); have n3_ := Aside0.mk (KeepBut.trans (by repeat (first | (with_reducible first | exact HK.out | apply KeepBut.set_ | apply keep_drewN | apply keep_drew | apply keep_alloc | refine keep_far ?_ GW1285.out _ | refine keep_far ?_ GW1291.out _) | exact HK.out)) hk (.inl rfl)); have n4_ := Aside0.mk (hb); have n5_ := Aside0.mk (hi); clear HO_1292001; clear BK1285; clear BK1291; clear HK; clear HB; clear HI0; have HO_1292001 := n0_; have BK1285 := n1_; have BK1291 := n2_; have HK := n3_; have HB := n4_; have HI0 := n5_; clear n0_ n1_ n2_ n3_ n4_ n5_; (try clear hb); (try clear hb2); (try clear hk); (try clear hi); have hnb91 := NB1291_1285.out; have hnc91 := NB1285_1291.out; have hnb92 := NB1291_0.out; have hnc92 := NB0_1291.out; have hcz93_0 : w90.cell? ⟨gb1291, 0, none⟩ = some (.int .i64 (wrap64 (1 + t1286))) := (blk_cell BK1291.out 0).trans rfl; have hcz93_1 : w90.cell? ⟨gb1291, 1, none⟩ = some (u1292001) := (blk_cell BK1291.out 1).trans rfl; have hfz93_0 := blk_frozen BK1291.out 0; have hfz93_1 := blk_frozen BK1291.out 1; have hnb94 := NB1285_0.out; have hnc94 := NB0_1285.out; have hcz95_0 : w90.cell? ⟨gb1285, 0, none⟩ = some (.int .i64 0) := (blk_cell BK1285.out 0).trans rfl; have hcz95_1 : w90.cell? ⟨gb1285, 1, none⟩ = some (.slice none 0 0) := (blk_cell BK1285.out 1).trans rfl; have hfz95_0 := blk_frozen BK1285.out 0; have hfz95_1 := blk_frozen BK1285.out 1; obtain ⟨Ao96, co96, eo96⟩ := Kd.R_slice HO_1292001.out; subst eo96))
     refine bodyPost_ret (results_cell_row rfl _ _ gb1285 28 #[.int .i64 (wrap64 (1 + t1286)), .slice Ao96 x1292001_1.length co96] (0, 0) _ rfl (by (with_reducible repeat (first | refine blk_drewN ?_ _ | refine blk_drew ?_ | refine blk_alloc ?_ _)); refine blk_put (cs := #[.int .i64 (wrap64 (1 + t1286)), .slice none 0 0]) ?_ 1 _ rfl; (with_reducible repeat (first | refine blk_drewN ?_ _ | refine blk_drew ?_ | refine blk_alloc ?_ _)); refine blk_put (cs := #[.int .i64 0, .slice none 0 0]) ?_ 0 _ rfl; (with_reducible repeat (first | refine blk_drewN ?_ _ | refine blk_drew ?_ | refine blk_alloc ?_ _)); exact BK1285.out) Tryz.underlying28 rfl (by kernel_rfl)) rfl ?_
     exact ⟨_, by first | rfl | (simp [errW_none, errW_some] <;> rfl) | (simp [*, errW_none, errW_some] <;> rfl), by (with_reducible repeat (first | apply Kd.R_alloc | apply Kd.R_drewN | apply Kd.R_drew)); exact Kd.R_mono (Kd.R_far (p := ⟨gb1285, 1, none⟩) (Kd.R_far (p := ⟨gb1285, 0, none⟩) (Kd.R_types HO_1292001.out BK1285.out (by decide)) (fun _ hk => hk.2) (.int .i64 (wrap64 (1 + t1286)))) (fun _ hk => hk.2) (.slice Ao96 x1292001_1.length co96)) (fun _ hk => trivial), by repeat (first | (with_reducible first | exact HI0.out | apply IsS67.alloc | apply IsS67.drewN | apply IsS67.drew | apply IsS67.set_1 | refine IsS67.far ?_ NB0_1285.out _ | refine IsS67.far ?_ NB0_1291.out _) | exact HI0.out), by repeat (first | (with_reducible first | exact HB.out | apply below_alloc | apply pw_below_drewN | apply below_drew1 | refine below_set ?_ (IsS67.ge HI0.out) | refine below_set ?_ GE1285.out | refine below_set ?_ GE1291.out) | exact HB.out), by repeat (first | (with_reducible first | exact HK.out | apply KeepBut.set_ | apply keep_drewN | apply keep_drew | apply keep_alloc | refine keep_far ?_ GW1285.out _ | refine keep_far ?_ GW1291.out _) | exact HK.out)⟩

/-! ### laws_digits: function 18 -/
def laws_digits.f : Nat → Int → Option (ByteArray)
 | 0, _ => none
 | k + 1, a0 => if a0 < 10 then (some (strOfNums (([(wrap64 (48 + (mx 0 a0))) % 256] : List Int)))) else ((laws_digits.f k (wrap64 (Int.tdiv a0 10))).bind fun t1340 => ((some (([(wrap64 (48 + (Int.tmod a0 10))) % 256] : List Int) : List Int)).bind fun y1341 => (if t1340.size + (strOfNums y1341).size ≤ 9223372036854775807 then (some (t1340 ++ (strOfNums y1341))) else (none))))
def laws_digits.T3 : Bool × List (List Nat × List Nat) := (true, [([], []), ([0], [0]), ([1], [1]), ([], []), ([3], [3]), ([4], [4]), ([5], [5]), ([6], [6]), ([7], [7]), ([2, 8], [2, 8]), ([9, 2, 0, 1, 2, 3, 4, 5, 6, 7, 8, 9], [9])])
def laws_digits.B3 : List Nat := [0, 1, 3, 0, 8, 24, 56, 120, 248, 511, 1023]
theorem laws_digits.tab3 : rtab .any (opsOf Tryz.f18 3) = laws_digits.T3 := by kernel_rfl
theorem laws_digits.bits3 : waitsOk laws_digits.T3.2 laws_digits.B3 = true := by kernel_rfl
set_option maxHeartbeats 8000000 in
set_option maxRecDepth 100000 in
theorem laws_digits.calls (k : Nat) : ∀ (a0 : Int) (r : ByteArray) (w : World) (h : laws_digits.f k a0 = some r),
  Calls Tryz.prog 18 #[.int .i64 a0] w fun e w' => e = .returned (.string r) ∧ Below w.heap.size w w' := by
 induction k using Nat.strongRecOn with
 | _ k ih =>
 intro a0 r w h
 cases k with
 | zero => exact absurd h (by simp [laws_digits.f])
 | succ k =>
 simp only [laws_digits.f] at h
 have HB := Aside0.mk (Below.refl w.heap.size w); have H : (if a0 < 10 then (some (strOfNums (([(wrap64 (48 + (mx 0 a0))) % 256] : List Int)))) else ((laws_digits.f k (wrap64 (Int.tdiv a0 10))).bind fun t1340 => ((some (([(wrap64 (48 + (Int.tmod a0 10))) % 256] : List Int) : List Int)).bind fun y1341 => (if t1340.size + (strOfNums y1341).size ≤ 9223372036854775807 then (some (t1340 ++ (strOfNums y1341))) else (none))))) = some r := h; clear h
 by_cases c2 : a0 < 10
 ·rw [if_pos c2] at H
  have c2b0 : decide (a0 < 10) = true := decide_eq_true c2; clear c2; obtain ⟨ji3, hji3⟩ : ∃ j_ : Int, (mx 0 a0) = j_ := ⟨_, rfl⟩; replace H : (some (strOfNums (([(wrap64 (48 + (ji3))) % 256] : List Int)))) = some r := by first | (rw [hji3] at H; exact H) | (simp only [hji3] at H ⊢; exact H)
  (try (have hji3l : 0 ≤ ji3 := by (rw [← hji3]; unfold mx; (repeat' split) <;> omega)))
  (try (have hji3m : 0 ≤ ji3 := by omega))
  have hji3_ : (if 0 < a0 then a0 else 0) = ji3 := hji3; obtain ⟨y1337, hy1337⟩ : ∃ y_ : List Int, y_ = (([(wrap64 (48 + (ji3))) % 256] : List Int)) := ⟨_, rfl⟩; replace H : (some (strOfNums y1337)) = some r := by first | (rw [hy1337]; with_reducible exact H) | (have H2_ := (Option.bind_some _ _).symm.trans H; rw [hy1337]; with_reducible exact H2_) | (have H2_ := (Option.bind_some _ _).symm.trans H; with_reducible exact H2_) | with_reducible exact H | (rw [hy1337]; exact H) | exact H
  have Ny1337 := Aside0.mk hy1337; clear hy1337; obtain rfl := Option.some.inj H
  go_enter Tryz.func18, Tryz.ntmps18
  go_wp2_with (first | ((with_reducible refine gate_dst (N := 9) rfl ?_); refine Kd.R_lit (Kd.int .u8) _ 5 ?hg (N := 9) ?hd (xs := ([(wrap64 (48 + (ji3))) % 256] : List Int)) (inner := [.int .u8 ((wrap64 (48 + (ji3))) % 256)]) (ok := fun _ => True) (okp := fun _ => True) ?hr ?hp (fun _ hk => hk) trivial (Below.refl _ _) (Nat.le_refl _) (by simp) ?_; (case hd => rfl); (case hg => rfl); (case hr => first | (go_simp; done) | (go_simp; rfl)); (case hp => exact (Reps.one (show Kd.M (Kd.int .u8) _ _ _ ((wrap64 (48 + (ji3))) % 256) [.int .u8 ((wrap64 (48 + (ji3))) % 256)] from rfl) (Reps.none _ _))); intro v1338 w4 ho5 hb hg_ hnew_; clear hg_ hnew_; (first | rw [← Ny1337.out] at ho5 | (simp only [Int.reduceToNat] at ho5; rw [← Ny1337.out] at ho5)); have n0_ := Aside0.mk (Kd.R_lower ho5 (below_size (viaW HB.out))); have n1_ := Aside0.mk (below_step (viaW HB.out) hb); clear HB; have HO1339 := n0_; have HB := n1_; clear n0_ n1_; clear hb ho5; have hcv6 := own_string (P := Tryz.prog) Tryz.underlying22 Tryz.underlying5 Tryz.underlying9 (Kd.own_of_R HO1339.out)))
  go_ret
  exact ⟨by first | rfl | (simp [errW_none, errW_some] <;> rfl) | (simp only [← hji3]; first | rfl | (simp [errW_none, errW_some] <;> rfl)) | (simp [*, errW_none, errW_some] <;> rfl), viaW HB.out⟩
 ·rw [if_neg c2] at H
  have c2b0 : decide (a0 < 10) = false := decide_eq_false c2; clear c2; replace H := Option.bind_eq_some_iff.mp H; obtain ⟨t1340, A70, H⟩ := H; replace H : ((some (([(wrap64 (48 + (Int.tmod a0 10))) % 256] : List Int) : List Int)).bind fun y1341 => (if t1340.size + (strOfNums y1341).size ≤ 9223372036854775807 then (some (t1340 ++ (strOfNums y1341))) else (none))) = some r := H; have A7 := Aside0.mk A70; clear A70; obtain ⟨y1341, hy1341⟩ : ∃ y_ : List Int, y_ = (([(wrap64 (48 + (Int.tmod a0 10))) % 256] : List Int)) := ⟨_, rfl⟩; replace H : (if t1340.size + (strOfNums y1341).size ≤ 9223372036854775807 then (some (t1340 ++ (strOfNums y1341))) else (none)) = some r := by first | (rw [hy1341]; with_reducible exact H) | (have H2_ := (Option.bind_some _ _).symm.trans H; rw [hy1341]; with_reducible exact H2_) | (have H2_ := (Option.bind_some _ _).symm.trans H; with_reducible exact H2_) | with_reducible exact H | (rw [hy1341]; exact H) | exact H
  have Ny1341 := Aside0.mk hy1341; clear hy1341
  by_cases c8 : t1340.size + (strOfNums y1341).size ≤ 9223372036854775807
  ·rw [if_pos c8] at H
   have c8b0 := eq_true c8; have c8b1 : decide (t1340.size + (strOfNums y1341).size ≤ 9223372036854775807) = true := decide_eq_true c8
   try have c8b2 : (9223372036854775807 < t1340.size + (strOfNums y1341).size) = False := eq_false (Nat.not_lt.2 c8)
   obtain rfl := Option.some.inj H
   go_enter Tryz.func18, Tryz.ntmps18
   try go_wp2
   have n0_ := Aside0.mk (below_drew1 HB.out); clear HB; have HB := n0_; clear n0_
   refine start_ (n := 11) (S := fun w' => True) (ds := []) #[false, false, false, false, false, false, false, false, false, false, false] (by kernel_rfl) rfl rfl trivial (fun hHeld => ?_); refine with_tabW laws_digits.tab3 laws_digits.bits3 (fun HT_ HW_ => ?_)
   generalize w.drew = w9 at HB hHeld ⊢
   refine pure_ (i := 0) (N := some 11) (v := ?_) (a' := ?_) #[true, false, false, false, false, false, false, false, false, false, false] rfl rfl (any_of HT_.out (by kernel_rfl)) (fun _ _ _ h => h) (Or.inl ⟨by rfl, ?_⟩) ?_ ?_
   rotate_left
   ·intro w'
    go_simp
    with_reducible rfl
   rotate_left
   ·simp only [Act.put, List.setIfInBounds_toArray, List.set_cons_zero, List.set_cons_succ, i64_w, i32_w]
    rfl
   refine pure_ (i := 1) (N := some 12) (v := ?_) (a' := ?_) #[true, true, false, false, false, false, false, false, false, false, false] rfl rfl (any_of HT_.out (by kernel_rfl)) (fun _ _ _ h => h) (Or.inl ⟨by rfl, ?_⟩) ?_ ?_
   rotate_left
   ·intro w'
    go_simp
    with_reducible rfl
   rotate_left
   ·simp only [Act.put, List.setIfInBounds_toArray, List.set_cons_zero, List.set_cons_succ, i64_w, i32_w]
    rfl
   refine pure_ (i := 3) (N := some 14) (v := ?_) (a' := ?_) #[true, true, false, true, false, false, false, false, false, false, false] rfl rfl (any_of HT_.out (by kernel_rfl)) (fun _ _ _ h => h) (Or.inl ⟨by rfl, ?_⟩) ?_ ?_
   rotate_left
   ·intro w'
    go_simp
    with_reducible rfl
   rotate_left
   ·simp only [Act.put, List.setIfInBounds_toArray, List.set_cons_zero, List.set_cons_succ, i64_w, i32_w]
    rfl
   refine pure_ (i := 4) (N := some 15) (v := ?_) (a' := ?_) #[true, true, false, true, true, false, false, false, false, false, false] rfl rfl (any_of HT_.out (by kernel_rfl)) (fun _ _ _ h => h) (Or.inl ⟨by rfl, ?_⟩) ?_ ?_
   rotate_left
   ·intro w'
    go_simp
    with_reducible rfl
   rotate_left
   ·simp only [Act.put, List.setIfInBounds_toArray, List.set_cons_zero, List.set_cons_succ, i64_w, i32_w]
    rfl
   refine pure_ (i := 5) (N := some 16) (v := ?_) (a' := ?_) #[true, true, false, true, true, true, false, false, false, false, false] rfl rfl (any_of HT_.out (by kernel_rfl)) (fun _ _ _ h => h) (Or.inl ⟨by rfl, ?_⟩) ?_ ?_
   rotate_left
   ·intro w'
    go_simp
    with_reducible rfl
   rotate_left
   ·simp only [Act.put, List.setIfInBounds_toArray, List.set_cons_zero, List.set_cons_succ, i64_w, i32_w]
    rfl
   refine pure_ (i := 6) (N := some 17) (v := ?_) (a' := ?_) #[true, true, false, true, true, true, true, false, false, false, false] rfl rfl (any_of HT_.out (by kernel_rfl)) (fun _ _ _ h => h) (Or.inl ⟨by rfl, ?_⟩) ?_ ?_
   rotate_left
   ·intro w'
    go_simp
    with_reducible rfl
   rotate_left
   ·simp only [Act.put, List.setIfInBounds_toArray, List.set_cons_zero, List.set_cons_succ, i64_w, i32_w]
    rfl
   refine join_ (σ := Value) 2 #[true, true, true, true, true, true, true, true, true, false, false] (fun s_ => [(13, .string t1340), (18, s_), (19, .string (strOfNums y1341))]) (fun s_ w' => (Kd.R (Kd.int .u8) 5 w' w.heap.size (fun _ => True) s_ y1341) ∧ (Below w.heap.size w w')) ?_ ?_
   rotate_left
   ·intro hCont
    refine two_ (i := 2) (j := 7) (Ni := some 13) (Nj := some 18) #[true, true, true, true, true, true, true, false, false, false, false] #[true, true, false, true, true, true, true, true, false, false, false] rfl rfl rfl rfl (two_of HT_.out (by kernel_rfl)) (by decide) (by decide) (fun K hK => ?_) (fun K hK => ?_)
    ·skip
     refine goes_ Tryz.func18 (by kernel_rfl) rfl #[.int .i64 (wrap64 (Int.tdiv a0 10))] (by rfl) rfl rfl (by (try simp only [List.map_toArray, List.map_cons, List.map_nil]); first | done | rfl | (simp only [List.length_drop, List.length_take]; rfl)) ?_
     with_reducible refine (ih k (by omega) (wrap64 (Int.tdiv a0 10)) t1340 _ A7.out).mono ?_
     rintro e w10 ⟨rfl, hb⟩
     refine ⟨_, rfl, ?_⟩
     have n0_ := Aside0.mk (below_step (viaW HB.out) hb); clear HB; have HB := n0_; clear n0_
     (try clear hb)
     (try clear hb2)
     (try clear hk)
     (try clear hi)
     refine hK.out _ _ trivial (fun hHeld => ?_)
     clear hK K
     refine norm_ (a' := ?_) ?_ ?_
     rotate_left
     ·show Act.put _ (some 13) _ = _
      simp only [Act.put, List.setIfInBounds_toArray, List.set_cons_zero, List.set_cons_succ, i64_w, i32_w]
      rfl
     refine one_ (i := 7) (N := some 18) #[true, true, true, true, true, true, true, true, false, false, false] rfl rfl (one_of HT_.out (by kernel_rfl)) (by decide) (fun K hK => ?_)
     refine Kd.R_lit_step (Kd.int .u8) _ 5 ?hg (N := 18) ?hd (xs := ([(wrap64 (48 + (Int.tmod a0 10))) % 256] : List Int)) (inner := [.int .u8 ((wrap64 (48 + (Int.tmod a0 10))) % 256)]) (ok := fun _ => True) (okp := fun _ => True) ?hr ?hp (fun _ hk => hk) trivial (Below.refl _ _) (Nat.le_refl _) (by simp) ?_; (case hd => rfl); (case hg => rfl); (case hr => first | (go_simp; done) | (go_simp; rfl)); (case hp => exact (Reps.one (show Kd.M (Kd.int .u8) _ _ _ ((wrap64 (48 + (Int.tmod a0 10))) % 256) [.int .u8 ((wrap64 (48 + (Int.tmod a0 10))) % 256)] from rfl) (Reps.none _ _)))
     intro v1342 w11 ho12 hb hg_ hnew_; clear hg_ hnew_
     (first | rw [← Ny1341.out] at ho12 | (simp only [Int.reduceToNat] at ho12; rw [← Ny1341.out] at ho12))
     have n0_ := Aside0.mk (Kd.R_lower ho12 (below_size (viaW HB.out))); have n1_ := Aside0.mk (below_step (viaW HB.out) hb); clear HB; have HO1343 := n0_; have HB := n1_; clear n0_ n1_; clear hb ho12
     refine hK.out _ _ trivial (fun hHeld => ?_)
     clear hK K
     refine norm_ (a' := ?_) ?_ ?_
     rotate_left
     ·show Act.put _ (some 18) _ = _
      simp only [Act.put, List.setIfInBounds_toArray, List.set_cons_zero, List.set_cons_succ, i64_w, i32_w]
      rfl
     refine one_ (i := 8) (N := some 19) #[true, true, true, true, true, true, true, true, true, false, false] rfl rfl (one_of HT_.out (by kernel_rfl)) (by decide) (fun K hK => ?_)
     have hcv13 := own_string (P := Tryz.prog) Tryz.underlying22 Tryz.underlying5 Tryz.underlying9 (Kd.own_of_R HO1343.out)
     refine value_ (w1 := ?_) (v := ?_) (by rfl) rfl ?_ ?_
     rotate_left 2
     ·go_simp
      constructor
      ·rfl
      ·rfl
     clear hcv13
     refine hK.out _ _ trivial (fun hHeld => ?_)
     clear hK K
     refine norm_ (a' := ?_) ?_ ?_
     rotate_left
     ·show Act.put _ (some 19) _ = _
      simp only [Act.put, List.setIfInBounds_toArray, List.set_cons_zero, List.set_cons_succ, i64_w, i32_w]
      rfl
     exact norm_ (by simp only [putAll, Act.put, List.setIfInBounds_toArray, List.set_cons_zero, List.set_cons_succ]) (hCont (v1342) _ ⟨(viaR HO1343.out), (viaW HB.out)⟩)
    ·skip
     refine Kd.R_lit_step (Kd.int .u8) _ 5 ?hg (N := 18) ?hd (xs := ([(wrap64 (48 + (Int.tmod a0 10))) % 256] : List Int)) (inner := [.int .u8 ((wrap64 (48 + (Int.tmod a0 10))) % 256)]) (ok := fun _ => True) (okp := fun _ => True) ?hr ?hp (fun _ hk => hk) trivial (Below.refl _ _) (Nat.le_refl _) (by simp) ?_; (case hd => rfl); (case hg => rfl); (case hr => first | (go_simp; done) | (go_simp; rfl)); (case hp => exact (Reps.one (show Kd.M (Kd.int .u8) _ _ _ ((wrap64 (48 + (Int.tmod a0 10))) % 256) [.int .u8 ((wrap64 (48 + (Int.tmod a0 10))) % 256)] from rfl) (Reps.none _ _)))
     intro v1342 w10 ho11 hb hg_ hnew_; clear hg_ hnew_
     (first | rw [← Ny1341.out] at ho11 | (simp only [Int.reduceToNat] at ho11; rw [← Ny1341.out] at ho11))
     have n0_ := Aside0.mk (Kd.R_lower ho11 (below_size (viaW HB.out))); have n1_ := Aside0.mk (below_step (viaW HB.out) hb); clear HB; have HO1343 := n0_; have HB := n1_; clear n0_ n1_; clear hb ho11
     refine hK.out _ _ trivial (fun hHeld => ?_)
     clear hK K
     refine norm_ (a' := ?_) ?_ ?_
     rotate_left
     ·show Act.put _ (some 18) _ = _
      simp only [Act.put, List.setIfInBounds_toArray, List.set_cons_zero, List.set_cons_succ, i64_w, i32_w]
      rfl
     refine two_ (i := 2) (j := 8) (Ni := some 13) (Nj := some 19) #[true, true, true, true, true, true, true, true, false, false, false] #[true, true, false, true, true, true, true, true, true, false, false] rfl rfl rfl rfl (two_of HT_.out (by kernel_rfl)) (by decide) (by decide) (fun K hK => ?_) (fun K hK => ?_)
     ·skip
      refine goes_ Tryz.func18 (by kernel_rfl) rfl #[.int .i64 (wrap64 (Int.tdiv a0 10))] (by rfl) rfl rfl (by (try simp only [List.map_toArray, List.map_cons, List.map_nil]); first | done | rfl | (simp only [List.length_drop, List.length_take]; rfl)) ?_
      with_reducible refine (ih k (by omega) (wrap64 (Int.tdiv a0 10)) t1340 _ A7.out).mono ?_
      rintro e w12 ⟨rfl, hb⟩
      refine ⟨_, rfl, ?_⟩
      have n0_ := Aside0.mk (Kd.R_below (viaR HO1343.out) hb); have n1_ := Aside0.mk (below_step (viaW HB.out) hb); clear HO1343; clear HB; have HO1343 := n0_; have HB := n1_; clear n0_ n1_
      (try clear hb)
      (try clear hb2)
      (try clear hk)
      (try clear hi)
      refine hK.out _ _ trivial (fun hHeld => ?_)
      clear hK K
      refine norm_ (a' := ?_) ?_ ?_
      rotate_left
      ·show Act.put _ (some 13) _ = _
       simp only [Act.put, List.setIfInBounds_toArray, List.set_cons_zero, List.set_cons_succ, i64_w, i32_w]
       rfl
      refine one_ (i := 8) (N := some 19) #[true, true, true, true, true, true, true, true, true, false, false] rfl rfl (one_of HT_.out (by kernel_rfl)) (by decide) (fun K hK => ?_)
      have hcv13 := own_string (P := Tryz.prog) Tryz.underlying22 Tryz.underlying5 Tryz.underlying9 (Kd.own_of_R HO1343.out)
      refine value_ (w1 := ?_) (v := ?_) (by rfl) rfl ?_ ?_
      rotate_left 2
      ·go_simp
       constructor
       ·rfl
       ·rfl
      clear hcv13
      refine hK.out _ _ trivial (fun hHeld => ?_)
      clear hK K
      refine norm_ (a' := ?_) ?_ ?_
      rotate_left
      ·show Act.put _ (some 19) _ = _
       simp only [Act.put, List.setIfInBounds_toArray, List.set_cons_zero, List.set_cons_succ, i64_w, i32_w]
       rfl
      exact norm_ (by simp only [putAll, Act.put, List.setIfInBounds_toArray, List.set_cons_zero, List.set_cons_succ]) (hCont (v1342) _ ⟨(viaR HO1343.out), (viaW HB.out)⟩)
     ·skip
      have hcv12 := own_string (P := Tryz.prog) Tryz.underlying22 Tryz.underlying5 Tryz.underlying9 (Kd.own_of_R HO1343.out)
      refine value_ (w1 := ?_) (v := ?_) (by rfl) rfl ?_ ?_
      rotate_left 2
      ·go_simp
       constructor
       ·rfl
       ·rfl
      clear hcv12
      refine hK.out _ _ trivial (fun hHeld => ?_)
      clear hK K
      refine norm_ (a' := ?_) ?_ ?_
      rotate_left
      ·show Act.put _ (some 19) _ = _
       simp only [Act.put, List.setIfInBounds_toArray, List.set_cons_zero, List.set_cons_succ, i64_w, i32_w]
       rfl
      refine one_ (i := 2) (N := some 13) #[true, true, true, true, true, true, true, true, true, false, false] rfl rfl (one_of HT_.out (by kernel_rfl)) (by decide) (fun K hK => ?_)
      refine goes_ Tryz.func18 (by kernel_rfl) rfl #[.int .i64 (wrap64 (Int.tdiv a0 10))] (by rfl) rfl rfl (by (try simp only [List.map_toArray, List.map_cons, List.map_nil]); first | done | rfl | (simp only [List.length_drop, List.length_take]; rfl)) ?_
      with_reducible refine (ih k (by omega) (wrap64 (Int.tdiv a0 10)) t1340 _ A7.out).mono ?_
      rintro e w13 ⟨rfl, hb⟩
      refine ⟨_, rfl, ?_⟩
      have n0_ := Aside0.mk (Kd.R_below (viaR HO1343.out) hb); have n1_ := Aside0.mk (below_step (viaW HB.out) hb); clear HO1343; clear HB; have HO1343 := n0_; have HB := n1_; clear n0_ n1_
      (try clear hb)
      (try clear hb2)
      (try clear hk)
      (try clear hi)
      refine hK.out _ _ trivial (fun hHeld => ?_)
      clear hK K
      refine norm_ (a' := ?_) ?_ ?_
      rotate_left
      ·show Act.put _ (some 13) _ = _
       simp only [Act.put, List.setIfInBounds_toArray, List.set_cons_zero, List.set_cons_succ, i64_w, i32_w]
       rfl
      exact norm_ (by simp only [putAll, Act.put, List.setIfInBounds_toArray, List.set_cons_zero, List.set_cons_succ]) (hCont (v1342) _ ⟨(viaR HO1343.out), (viaW HB.out)⟩)
   rintro v1342 w14 ⟨h0_, h1_⟩
   have n0_ : Aside0 (Kd.R (Kd.int .u8) 5 w14 w.heap.size (fun _ => True) v1342 y1341) := ⟨h0_⟩; have n1_ : Aside0 (Below w.heap.size w w14) := ⟨h1_⟩; clear HB; clear h0_ h1_; have HO1343 := n0_; have HB := n1_; clear n0_ n1_; have hHeld := trivial
   refine norm_ (a' := ?_) ?_ ?_
   rotate_left
   ·simp only [putAll, Act.put, List.setIfInBounds_toArray, List.set_cons_zero, List.set_cons_succ]
    rfl
   refine pure_ (i := 9) (N := some 20) (v := ?_) (a' := ?_) #[true, true, true, true, true, true, true, true, true, true, false] rfl rfl (any_of HT_.out (by kernel_rfl)) (fun _ _ _ h => h) (Or.inl ⟨by rfl, ?_⟩) ?_ ?_
   rotate_left
   ·intro w'
    go_simp
    with_reducible rfl
   rotate_left
   ·simp only [Act.put, List.setIfInBounds_toArray, List.set_cons_zero, List.set_cons_succ, i64_w, i32_w]
    rfl
   refine pure_ (i := 10) (N := some 2) (v := ?_) (a' := ?_) #[true, true, true, true, true, true, true, true, true, true, true] rfl rfl (any_of HT_.out (by kernel_rfl)) (fun _ _ _ h => h) (Or.inl ⟨by rfl, ?_⟩) ?_ ?_
   rotate_left
   ·intro w'
    go_simp
    with_reducible rfl
   rotate_left
   ·simp only [Act.put, List.setIfInBounds_toArray, List.set_cons_zero, List.set_cons_succ, i64_w, i32_w]
    rfl
   refine done_ (done_of HT_.out (by kernel_rfl)) ?_
   try go_wp2
   go_ret
   exact ⟨by first | rfl | (simp [errW_none, errW_some] <;> rfl) | (simp [*, errW_none, errW_some] <;> rfl), viaW HB.out⟩
  ·rw [if_neg c8] at H
   exact absurd H (by simp)

/-! ### laws_drawn: function 17 -/
def laws_drawn.l0 : Nat → ByteArray → Int → Int → List (S44) → Option (ByteArray)
 | 0, _, _, _, _ => none
 | k + 1, x3, x4, x1345000, x1345001 => if x4 < (x1345001.length : Int) then (if x3.size + 1 ≤ 9223372036854775807 then (if 0 ≤ x4 then ((laws_digits.f k ((rd_T44 x1345001 x4).f0)).bind fun t1347 => (if (x3 ++ (⟨#[32]⟩ : ByteArray)).size + t1347.size ≤ 9223372036854775807 then (if ((x3 ++ (⟨#[32]⟩ : ByteArray)) ++ t1347).size + 1 ≤ 9223372036854775807 then ((laws_digits.f k ((rd_T44 x1345001 x4).f1)).bind fun t1349 => (if (((x3 ++ (⟨#[32]⟩ : ByteArray)) ++ t1347) ++ (⟨#[32]⟩ : ByteArray)).size + t1349.size ≤ 9223372036854775807 then (laws_drawn.l0 k ((((x3 ++ (⟨#[32]⟩ : ByteArray)) ++ t1347) ++ (⟨#[32]⟩ : ByteArray)) ++ t1349) (wrap64 (x4 + 1)) x1345000 x1345001) else (none))) else (none)) else (none))) else (none)) else (none)) else (if x3.size + 1 ≤ 9223372036854775807 then (some (x3 ++ (⟨#[10]⟩ : ByteArray))) else (none))
def laws_drawn.f (k : Nat) (a0_0 : Int) (l0_1 : List (S44)) : Option (ByteArray) := (laws_digits.f k a0_0).bind fun t1345 => (if 6 + t1345.size ≤ 9223372036854775807 then (laws_drawn.l0 k ((⟨#[103, 114, 97, 112, 104, 32]⟩ : ByteArray) ++ t1345) 0 a0_0 l0_1) else (none))
def laws_drawn.T5 : Bool × List (List Nat × List Nat) := (true, [([], []), ([0], [0]), ([], []), ([2], [2]), ([], []), ([3, 4], [3, 4]), ([5], [5]), ([6], [6]), ([7], [7]), ([1, 8], [1, 8]), ([9], [9]), ([], []), ([11], [11]), ([], []), ([12, 13], [12, 13]), ([14], [14]), ([15], [15]), ([16, 8], [16]), ([10, 17], [10, 17]), ([18, 17, 0, 1, 2, 3, 4, 5, 6, 7, 8, 9, 10, 11, 12, 13, 14, 15, 16, 17, 18], [0, 18])])
def laws_drawn.B5 : List Nat := [0, 1, 0, 4, 0, 28, 60, 124, 252, 511, 1023, 0, 2048, 0, 14336, 30720, 63488, 129532, 262143, 524287]
theorem laws_drawn.tab5 : rtab .any (opsOf Tryz.f17 5) = laws_drawn.T5 := by kernel_rfl
theorem laws_drawn.bits5 : waitsOk laws_drawn.T5.2 laws_drawn.B5 = true := by kernel_rfl
set_option maxHeartbeats 8000000 in
set_option maxRecDepth 100000 in
theorem laws_drawn.calls (k : Nat) (a0_0 : Int) (A0_1 : Option Addr) (c0_1 : Nat) (l0_1 : List (S44)) (r : ByteArray) (w : World) (hr0_1 : Kd.C k44 w A0_1 l0_1.length l0_1) (hc0_1 : l0_1.length ≤ c0_1) (h : laws_drawn.f k a0_0 l0_1 = some r) :
  Calls Tryz.prog 17 #[.agg #[.int .i64 a0_0, .slice A0_1 l0_1.length c0_1]] w fun e w' => e = .returned (.string r) ∧ Below w.heap.size w w' := by
 have hu28 := Tryz.underlying28; have HR0_1 := Aside0.mk hr0_1; have HC0_1 := Aside0.mk hc0_1; clear hr0_1 hc0_1; have HB := Aside0.mk (Below.refl w.heap.size w); have H : ((laws_digits.f k a0_0).bind fun t1345 => (if 6 + t1345.size ≤ 9223372036854775807 then (laws_drawn.l0 k ((⟨#[103, 114, 97, 112, 104, 32]⟩ : ByteArray) ++ t1345) 0 a0_0 l0_1) else (none))) = some r := h; clear h; replace H := Option.bind_eq_some_iff.mp H; obtain ⟨t1345, A20, H⟩ := H; replace H : (if 6 + t1345.size ≤ 9223372036854775807 then (laws_drawn.l0 k ((⟨#[103, 114, 97, 112, 104, 32]⟩ : ByteArray) ++ t1345) 0 a0_0 l0_1) else (none)) = some r := H; have A2 := Aside0.mk A20; clear A20
 by_cases c3 : 6 + t1345.size ≤ 9223372036854775807
 ·rw [if_pos c3] at H
  have c3b0 := eq_true c3; have c3b1 : decide (6 + t1345.size ≤ 9223372036854775807) = true := decide_eq_true c3
  try have c3b2 : (9223372036854775807 < 6 + t1345.size) = False := eq_false (Nat.not_lt.2 c3)
  have H' := Aside0.mk H; clear H
  go_enter Tryz.func17, Tryz.ntmps17
  go_wp2_with (first | ((with_reducible refine gate_dst (N := 1) rfl ?_); refine box_event ?hg (N := 1) ?hd (cs := #[.int .i64 a0_0, .slice A0_1 l0_1.length c0_1]) (t := 28) ?hr ?_; (case hd => rfl); (case hg => rfl); (case hr => first | (go_simp; done) | (go_simp; rfl)); intro gb1344 hg w4 hbox hb; have n0_ := Aside0.mk (below_step (viaW HB.out) hb); have n1_ := Aside0.mk (hbox); have n2_ := Aside0.mk ((by rw [hg]; exact (below_size (viaW HB.out)) : w.heap.size ≤ gb1344)); have n3_ := Aside0.mk ((by rw [hg]; exact (below_size (viaW HB.out)) : w.heap.size ≤ gb1344)); clear HB; have HB := n0_; have BK1344 := n1_; have GW1344 := n2_; have GE1344 := n3_; clear n0_ n1_ n2_ n3_; clear hb hbox hg; have hcz5_0 : w4.cell? ⟨gb1344, 0, none⟩ = some (.int .i64 a0_0) := (blk_cell BK1344.out 0).trans rfl; have hcz5_1 : w4.cell? ⟨gb1344, 1, none⟩ = some (.slice A0_1 l0_1.length c0_1) := (blk_cell BK1344.out 1).trans rfl; have hfz5_0 := blk_frozen BK1344.out 0; have hfz5_1 := blk_frozen BK1344.out 1) | ((with_reducible refine gate_callee (f := 18) rfl ?_); refine goesL_ (some 7) rfl rfl Tryz.func18 (by kernel_rfl) rfl #[.int .i64 a0_0] rfl (by (try simp only [List.map_toArray, List.map_cons, List.map_nil]); first | done | rfl | (simp only [List.length_drop, List.length_take]; rfl)) ?_; (with_reducible refine (laws_digits.calls k a0_0 t1345 _ A2.out).mono ?_); rintro e w6 ⟨rfl, hb⟩; refine ⟨_, rfl, ?_⟩; have n0_ := Aside0.mk (blk_below (g := gb1344) (o := .cells #[.int .i64 a0_0, .slice A0_1 l0_1.length c0_1] 28 (0, 0)) (viaB BK1344.out) hb); have n1_ := Aside0.mk (below_step (viaX HB.out GE1344.out) hb); clear BK1344; clear HB; have BK1344 := n0_; have HB := n1_; clear n0_ n1_; (try clear hb); (try clear hb2); (try clear hk); (try clear hi)))
  go_loopg [3, 4] k (fun kq v3 v4 w' => ∃ (x3_1 : ByteArray) (x4_1 : Int), v3 = .string x3_1 ∧ v4 = .int .i64 x4_1 ∧ Aside0 (laws_drawn.l0 kq x3_1 x4_1 a0_0 l0_1 = some r) ∧ Aside0 (kq ≤ k) ∧ Aside0 (w'.heap[gb1344]? = some (.cells #[.int .i64 a0_0, (.slice A0_1 l0_1.length c0_1)] 28 (0, 0))) ∧ Aside0 (Below w.heap.size w w'))
  case atStart => exact ⟨((⟨#[103, 114, 97, 112, 104, 32]⟩ : ByteArray) ++ t1345), (0), (by first | rfl | (simp; done) | (simp [*]; done)), (by first | rfl | (simp; done) | (simp [*]; done)), H', ⟨Nat.le_refl _⟩, ⟨viaB BK1344.out⟩, ⟨viaX HB.out GE1344.out⟩⟩
  case round =>
   clear H'
   try clear c1
   try clear p2
   try clear c3
   try clear c3b0
   try clear c3b1
   try clear c3b2
   try clear hcz5_0
   try clear hcz5_1
   try clear hfz5_0
   try clear hfz5_1
   obtain ⟨x3_1, x4_1, rfl, rfl, HA, HK1, BK1344, HB⟩ := hrel
   cases gk with
   | zero => exact absurd HA.out (by simp [laws_drawn.l0])
   | succ k1 =>
    have H := HA.out; clear HA
    simp only [laws_drawn.l0] at H
    by_cases c7 : x4_1 < (l0_1.length : Int)
    ·rw [if_pos c7] at H
     have c7b0 : decide (x4_1 < (l0_1.length : Int)) = true := decide_eq_true c7; clear c7
     by_cases c8 : x3_1.size + 1 ≤ 9223372036854775807
     ·rw [if_pos c8] at H
      have c8b0 := eq_true c8; have c8b1 : decide (x3_1.size + 1 ≤ 9223372036854775807) = true := decide_eq_true c8
      try have c8b2 : (9223372036854775807 < x3_1.size + 1) = False := eq_false (Nat.not_lt.2 c8)
      by_cases c9 : 0 ≤ x4_1
      ·rw [if_pos c9] at H
       have c9b0 : decide (0 ≤ x4_1) = true := decide_eq_true c9; clear c9; replace H := Option.bind_eq_some_iff.mp H; obtain ⟨t1347, A100, H⟩ := H; replace H : (if (x3_1 ++ (⟨#[32]⟩ : ByteArray)).size + t1347.size ≤ 9223372036854775807 then (if ((x3_1 ++ (⟨#[32]⟩ : ByteArray)) ++ t1347).size + 1 ≤ 9223372036854775807 then ((laws_digits.f k1 ((rd_T44 l0_1 x4_1).f1)).bind fun t1349 => (if (((x3_1 ++ (⟨#[32]⟩ : ByteArray)) ++ t1347) ++ (⟨#[32]⟩ : ByteArray)).size + t1349.size ≤ 9223372036854775807 then (laws_drawn.l0 k1 ((((x3_1 ++ (⟨#[32]⟩ : ByteArray)) ++ t1347) ++ (⟨#[32]⟩ : ByteArray)) ++ t1349) (wrap64 (x4_1 + 1)) a0_0 l0_1) else (none))) else (none)) else (none)) = some r := H; have A10 := Aside0.mk A100; clear A100
       by_cases c11 : (x3_1 ++ (⟨#[32]⟩ : ByteArray)).size + t1347.size ≤ 9223372036854775807
       ·rw [if_pos c11] at H
        have c11b0 := eq_true c11; have c11b1 : decide ((x3_1 ++ (⟨#[32]⟩ : ByteArray)).size + t1347.size ≤ 9223372036854775807) = true := decide_eq_true c11
        try have c11b2 : (9223372036854775807 < (x3_1 ++ (⟨#[32]⟩ : ByteArray)).size + t1347.size) = False := eq_false (Nat.not_lt.2 c11)
        try have c11b3 : (9223372036854775807 < x3_1.size + 1 + t1347.size) = False := by have hs_ := c11b2; simp only [ByteArray.size_append] at hs_; exact hs_
        by_cases c12 : ((x3_1 ++ (⟨#[32]⟩ : ByteArray)) ++ t1347).size + 1 ≤ 9223372036854775807
        ·rw [if_pos c12] at H
         have c12b0 := eq_true c12; have c12b1 : decide (((x3_1 ++ (⟨#[32]⟩ : ByteArray)) ++ t1347).size + 1 ≤ 9223372036854775807) = true := decide_eq_true c12
         try have c12b2 : (9223372036854775807 < ((x3_1 ++ (⟨#[32]⟩ : ByteArray)) ++ t1347).size + 1) = False := eq_false (Nat.not_lt.2 c12)
         try have c12b3 : (9223372036854775807 < x3_1.size + 1 + t1347.size + 1) = False := by have hs_ := c12b2; simp only [ByteArray.size_append] at hs_; exact hs_
         replace H := Option.bind_eq_some_iff.mp H; obtain ⟨t1349, A130, H⟩ := H; replace H : (if (((x3_1 ++ (⟨#[32]⟩ : ByteArray)) ++ t1347) ++ (⟨#[32]⟩ : ByteArray)).size + t1349.size ≤ 9223372036854775807 then (laws_drawn.l0 k1 ((((x3_1 ++ (⟨#[32]⟩ : ByteArray)) ++ t1347) ++ (⟨#[32]⟩ : ByteArray)) ++ t1349) (wrap64 (x4_1 + 1)) a0_0 l0_1) else (none)) = some r := H; have A13 := Aside0.mk A130; clear A130
         by_cases c14 : (((x3_1 ++ (⟨#[32]⟩ : ByteArray)) ++ t1347) ++ (⟨#[32]⟩ : ByteArray)).size + t1349.size ≤ 9223372036854775807
         ·rw [if_pos c14] at H
          have c14b0 := eq_true c14; have c14b1 : decide ((((x3_1 ++ (⟨#[32]⟩ : ByteArray)) ++ t1347) ++ (⟨#[32]⟩ : ByteArray)).size + t1349.size ≤ 9223372036854775807) = true := decide_eq_true c14
          try have c14b2 : (9223372036854775807 < (((x3_1 ++ (⟨#[32]⟩ : ByteArray)) ++ t1347) ++ (⟨#[32]⟩ : ByteArray)).size + t1349.size) = False := eq_false (Nat.not_lt.2 c14)
          try have c14b3 : (9223372036854775807 < x3_1.size + 1 + t1347.size + 1 + t1349.size) = False := by have hs_ := c14b2; simp only [ByteArray.size_append] at hs_; exact hs_
          have H' := Aside0.mk H; clear H; have hcz15_0 : wr.cell? ⟨gb1344, 0, none⟩ = some (.int .i64 a0_0) := (blk_cell BK1344.out 0).trans rfl; have hcz15_1 : wr.cell? ⟨gb1344, 1, none⟩ = some (.slice A0_1 l0_1.length c0_1) := (blk_cell BK1344.out 1).trans rfl; have hfz15_0 := blk_frozen BK1344.out 0; have hfz15_1 := blk_frozen BK1344.out 1
          try go_wp2
          have n0_ := Aside0.mk (blk_drew BK1344.out); have n1_ := Aside0.mk (below_drew1 HB.out); clear BK1344; clear HB; have BK1344 := n0_; have HB := n1_; clear n0_ n1_; have p1346 : 0 ≤ (x4_1 : Int) := of_decide_eq_true (by first | (with_reducible assumption) | assumption); have q1346 : x4_1 < (l0_1.length : Int) := of_decide_eq_true (by first | (with_reducible assumption) | assumption); obtain ⟨ad1346, e1346, hx1346_0, hx1346_1⟩ := at_T44 HR0_1.out x4_1 p1346 q1346; have hw1346_1 := hx1346_1; have hw1346_0 := hx1346_0
          cases e1346
          replace hx1346_0 := (HB.out.cell (World.block_lt_of_cell? w _ hx1346_0)).trans hx1346_0; replace hx1346_1 := (HB.out.cell (World.block_lt_of_cell? w _ hx1346_1)).trans hx1346_1; replace p1346 := eq_true p1346; replace q1346 := eq_true q1346; have p1348 : 0 ≤ (x4_1 : Int) := of_decide_eq_true (by first | (with_reducible assumption) | assumption); have q1348 : x4_1 < (l0_1.length : Int) := of_decide_eq_true (by first | (with_reducible assumption) | assumption); obtain ⟨ad1348, e1348, hx1348_0, hx1348_1⟩ := at_T44 HR0_1.out x4_1 p1348 q1348; have hw1348_1 := hx1348_1; have hw1348_0 := hx1348_0; obtain rfl : ad1346 = ad1348 := (by injection e1348); replace hx1348_0 := (HB.out.cell (World.block_lt_of_cell? w _ hx1348_0)).trans hx1348_0; replace hx1348_1 := (HB.out.cell (World.block_lt_of_cell? w _ hx1348_1)).trans hx1348_1; replace p1348 := eq_true p1348; replace q1348 := eq_true q1348
          refine start_ (n := 20) (S := fun w' => w'.cell? ⟨gb1344, 0, none⟩ = some (.int .i64 a0_0) ∧ w'.cell? ⟨gb1344, 1, none⟩ = some (.slice (some ad1346) l0_1.length c0_1) ∧ w'.cell? (ad1346.add ((x4_1).toNat * 2)) = some (.int .i64 ((rd_T44 l0_1 x4_1).f0)) ∧ w'.cell? ⟨(ad1346.add ((x4_1).toNat * 2)).block, (ad1346.add ((x4_1).toNat * 2)).off + 1, none⟩ = some (.int .i64 ((rd_T44 l0_1 x4_1).f1)) ∧ w'.cell? (ad1346.add ((x4_1).toNat * 2)) = some (.int .i64 ((rd_T44 l0_1 x4_1).f0)) ∧ w'.cell? ⟨(ad1346.add ((x4_1).toNat * 2)).block, (ad1346.add ((x4_1).toNat * 2)).off + 1, none⟩ = some (.int .i64 ((rd_T44 l0_1 x4_1).f1))) (ds := []) #[false, false, false, false, false, false, false, false, false, false, false, false, false, false, false, false, false, false, false, false] (by kernel_rfl) rfl rfl ⟨(blk_cell BK1344.out 0).trans rfl, (blk_cell BK1344.out 1).trans rfl, ((HB.out.cell (World.block_lt_of_cell? w _ hw1346_0)).trans hw1346_0), ((HB.out.cell (World.block_lt_of_cell? w _ hw1346_1)).trans hw1346_1), ((HB.out.cell (World.block_lt_of_cell? w _ hw1348_0)).trans hw1348_0), ((HB.out.cell (World.block_lt_of_cell? w _ hw1348_1)).trans hw1348_1)⟩ (fun hHeld => ?_); refine with_tabW laws_drawn.tab5 laws_drawn.bits5 (fun HT_ HW_ => ?_)
          generalize wr.drew = w16 at BK1344 HB hx1346_0 hx1346_1 hx1348_0 hx1348_1 hHeld ⊢
          refine pure_ (i := 0) (N := some 16) (v := ?_) (a' := ?_) #[true, false, false, false, false, false, false, false, false, false, false, false, false, false, false, false, false, false, false, false] rfl rfl (any_of HT_.out (by kernel_rfl)) (fun _ _ _ h => h) (Or.inl ⟨by rfl, ?_⟩) ?_ ?_
          rotate_left
          ·intro w'
           go_simp
           with_reducible rfl
          rotate_left
          ·simp only [Act.put, List.setIfInBounds_toArray, List.set_cons_zero, List.set_cons_succ, i64_w, i32_w]
           rfl
          refine pure_ (i := 1) (N := some 17) (v := ?_) (a' := ?_) #[true, true, false, false, false, false, false, false, false, false, false, false, false, false, false, false, false, false, false, false] rfl rfl (any_of HT_.out (by kernel_rfl)) (fun _ _ _ h => h) (Or.inl ⟨by rfl, ?_⟩) ?_ ?_
          rotate_left
          ·intro w'
           go_simp
           with_reducible rfl
          rotate_left
          ·simp only [Act.put, List.setIfInBounds_toArray, List.set_cons_zero, List.set_cons_succ, i64_w, i32_w]
           rfl
          refine pure_ (i := 2) (N := some 18) (v := ?_) (a' := ?_) #[true, true, true, false, false, false, false, false, false, false, false, false, false, false, false, false, false, false, false, false] rfl rfl (any_of HT_.out (by kernel_rfl)) (fun _ _ _ h => h) (Or.inl ⟨by rfl, ?_⟩) ?_ ?_
          rotate_left
          ·intro w'
           go_simp
           with_reducible rfl
          rotate_left
          ·simp only [Act.put, List.setIfInBounds_toArray, List.set_cons_zero, List.set_cons_succ, i64_w, i32_w]
           rfl
          refine pure_ (i := 4) (N := some 20) (v := ?_) (a' := ?_) #[true, true, true, false, true, false, false, false, false, false, false, false, false, false, false, false, false, false, false, false] rfl rfl (any_of HT_.out (by kernel_rfl)) (fun _ _ _ h => h) (Or.inl ⟨by rfl, ?_⟩) ?_ ?_
          rotate_left
          ·intro w'
           go_simp
           with_reducible rfl
          rotate_left
          ·simp only [Act.put, List.setIfInBounds_toArray, List.set_cons_zero, List.set_cons_succ, i64_w, i32_w]
           rfl
          refine pure_ (i := 11) (N := some 27) (v := ?_) (a' := ?_) #[true, true, true, false, true, false, false, false, false, false, false, true, false, false, false, false, false, false, false, false] rfl rfl (any_of HT_.out (by kernel_rfl)) (fun _ _ _ h => h) (Or.inl ⟨by rfl, ?_⟩) ?_ ?_
          rotate_left
          ·intro w'
           go_simp
           with_reducible rfl
          rotate_left
          ·simp only [Act.put, List.setIfInBounds_toArray, List.set_cons_zero, List.set_cons_succ, i64_w, i32_w]
           rfl
          refine pure_ (i := 13) (N := some 29) (v := ?_) (a' := ?_) #[true, true, true, false, true, false, false, false, false, false, false, true, false, true, false, false, false, false, false, false] rfl rfl (any_of HT_.out (by kernel_rfl)) (fun _ _ _ h => h) (Or.inl ⟨by rfl, ?_⟩) ?_ ?_
          rotate_left
          ·intro w'
           go_simp
           with_reducible rfl
          rotate_left
          ·simp only [Act.put, List.setIfInBounds_toArray, List.set_cons_zero, List.set_cons_succ, i64_w, i32_w]
           rfl
          refine take_ (i := 3) (N := some 19) (v := ?_) (a' := ?_) #[true, true, true, true, true, false, false, false, false, false, false, true, false, true, false, false, false, false, false, false] rfl rfl (take_ofW HT_.out HW_.out (by kernel_rfl)) (fun _ _ _ h => h) (Or.inl ⟨by rfl, ?_⟩) hHeld ?_ ?_
          rotate_left
          ·rintro w' ⟨s0, s1, s2, s3, s4, s5⟩
           go_simp
           with_reducible rfl
          rotate_left
          ·simp only [Act.put, List.setIfInBounds_toArray, List.set_cons_zero, List.set_cons_succ, i64_w, i32_w]
           rfl
          refine pure_ (i := 5) (N := some 21) (v := ?_) (a' := ?_) #[true, true, true, true, true, true, false, false, false, false, false, true, false, true, false, false, false, false, false, false] rfl rfl (any_of HT_.out (by kernel_rfl)) (fun _ _ _ h => h) (Or.inl ⟨by rfl, ?_⟩) ?_ ?_
          rotate_left
          ·intro w'
           go_simp
           with_reducible rfl
          rotate_left
          ·simp only [Act.put, List.setIfInBounds_toArray, List.set_cons_zero, List.set_cons_succ, i64_w, i32_w]
           rfl
          refine pure_ (i := 6) (N := some 22) (v := ?_) (a' := ?_) #[true, true, true, true, true, true, true, false, false, false, false, true, false, true, false, false, false, false, false, false] rfl rfl (any_of HT_.out (by kernel_rfl)) (fun _ _ _ h => h) (Or.inl ⟨by rfl, ?_⟩) ?_ ?_
          rotate_left
          ·intro w'
           go_simp
           with_reducible rfl
          rotate_left
          ·simp only [Act.put, List.setIfInBounds_toArray, List.set_cons_zero, List.set_cons_succ, i64_w, i32_w]
           rfl
          refine take_ (i := 7) (N := some 23) (v := ?_) (a' := ?_) #[true, true, true, true, true, true, true, true, false, false, false, true, false, true, false, false, false, false, false, false] rfl rfl (take_ofW HT_.out HW_.out (by kernel_rfl)) (fun _ _ _ h => h) (Or.inl ⟨by rfl, ?_⟩) hHeld ?_ ?_
          rotate_left
          ·rintro w' ⟨s0, s1, s2, s3, s4, s5⟩
           go_simp
           with_reducible rfl
          rotate_left
          ·simp only [Act.put, List.setIfInBounds_toArray, List.set_cons_zero, List.set_cons_succ, i64_w, i32_w]
           rfl
          refine take_ (i := 12) (N := some 28) (v := ?_) (a' := ?_) #[true, true, true, true, true, true, true, true, false, false, false, true, true, true, false, false, false, false, false, false] rfl rfl (take_ofW HT_.out HW_.out (by kernel_rfl)) (fun _ _ _ h => h) (Or.inl ⟨by rfl, ?_⟩) hHeld ?_ ?_
          rotate_left
          ·rintro w' ⟨s0, s1, s2, s3, s4, s5⟩
           go_simp
           with_reducible rfl
          rotate_left
          ·simp only [Act.put, List.setIfInBounds_toArray, List.set_cons_zero, List.set_cons_succ, i64_w, i32_w]
           rfl
          refine pure_ (i := 14) (N := some 30) (v := ?_) (a' := ?_) #[true, true, true, true, true, true, true, true, false, false, false, true, true, true, true, false, false, false, false, false] rfl rfl (any_of HT_.out (by kernel_rfl)) (fun _ _ _ h => h) (Or.inl ⟨by rfl, ?_⟩) ?_ ?_
          rotate_left
          ·intro w'
           go_simp
           with_reducible rfl
          rotate_left
          ·simp only [Act.put, List.setIfInBounds_toArray, List.set_cons_zero, List.set_cons_succ, i64_w, i32_w]
           rfl
          refine pure_ (i := 15) (N := some 31) (v := ?_) (a' := ?_) #[true, true, true, true, true, true, true, true, false, false, false, true, true, true, true, true, false, false, false, false] rfl rfl (any_of HT_.out (by kernel_rfl)) (fun _ _ _ h => h) (Or.inl ⟨by rfl, ?_⟩) ?_ ?_
          rotate_left
          ·intro w'
           go_simp
           with_reducible rfl
          rotate_left
          ·simp only [Act.put, List.setIfInBounds_toArray, List.set_cons_zero, List.set_cons_succ, i64_w, i32_w]
           rfl
          refine take_ (i := 16) (N := some 32) (v := ?_) (a' := ?_) #[true, true, true, true, true, true, true, true, false, false, false, true, true, true, true, true, true, false, false, false] rfl rfl (take_ofW HT_.out HW_.out (by kernel_rfl)) (fun _ _ _ h => h) (Or.inl ⟨by rfl, ?_⟩) hHeld ?_ ?_
          rotate_left
          ·rintro w' ⟨s0, s1, s2, s3, s4, s5⟩
           go_simp
           with_reducible rfl
          rotate_left
          ·simp only [Act.put, List.setIfInBounds_toArray, List.set_cons_zero, List.set_cons_succ, i64_w, i32_w]
           rfl
          refine one_ (i := 8) (N := some 24) #[true, true, true, true, true, true, true, true, true, false, false, true, true, true, true, true, true, false, false, false] rfl rfl (one_of HT_.out (by kernel_rfl)) (by decide) (fun K hK => ?_)
          refine goes_ Tryz.func18 (by kernel_rfl) rfl #[.int .i64 ((rd_T44 l0_1 x4_1).f0)] (by rfl) rfl rfl (by (try simp only [List.map_toArray, List.map_cons, List.map_nil]); first | done | rfl | (simp only [List.length_drop, List.length_take]; rfl)) ?_
          with_reducible refine (laws_digits.calls k1 ((rd_T44 l0_1 x4_1).f0) t1347 _ A10.out).mono ?_
          rintro e w17 ⟨rfl, hb⟩
          refine ⟨_, rfl, ?_⟩
          have n0_ := Aside0.mk (blk_below (g := gb1344) (o := .cells #[.int .i64 a0_0, .slice (some ad1346) l0_1.length c0_1] 28 (0, 0)) (viaB BK1344.out) hb); have n1_ := Aside0.mk (below_step (viaX HB.out GE1344.out) hb); clear BK1344; clear HB; have BK1344 := n0_; have HB := n1_; clear n0_ n1_
          (try clear hb)
          (try clear hb2)
          (try clear hk)
          (try clear hi)
          refine hK.out _ _ ⟨(blk_cell BK1344.out 0).trans rfl, (blk_cell BK1344.out 1).trans rfl, ((HB.out.cell (World.block_lt_of_cell? w _ hw1346_0)).trans hw1346_0), ((HB.out.cell (World.block_lt_of_cell? w _ hw1346_1)).trans hw1346_1), ((HB.out.cell (World.block_lt_of_cell? w _ hw1348_0)).trans hw1348_0), ((HB.out.cell (World.block_lt_of_cell? w _ hw1348_1)).trans hw1348_1)⟩ (fun hHeld => ?_)
          clear hK K
          refine norm_ (a' := ?_) ?_ ?_
          rotate_left
          ·show Act.put _ (some 24) _ = _
           simp only [Act.put, List.setIfInBounds_toArray, List.set_cons_zero, List.set_cons_succ, i64_w, i32_w]
           rfl
          refine pure_ (i := 9) (N := some 25) (v := ?_) (a' := ?_) #[true, true, true, true, true, true, true, true, true, true, false, true, true, true, true, true, true, false, false, false] rfl rfl (any_of HT_.out (by kernel_rfl)) (fun _ _ _ h => h) (Or.inl ⟨by rfl, ?_⟩) ?_ ?_
          rotate_left
          ·intro w'
           go_simp
           with_reducible rfl
          rotate_left
          ·simp only [Act.put, List.setIfInBounds_toArray, List.set_cons_zero, List.set_cons_succ, i64_w, i32_w]
           rfl
          refine pure_ (i := 10) (N := some 26) (v := ?_) (a' := ?_) #[true, true, true, true, true, true, true, true, true, true, true, true, true, true, true, true, true, false, false, false] rfl rfl (any_of HT_.out (by kernel_rfl)) (fun _ _ _ h => h) (Or.inl ⟨by rfl, ?_⟩) ?_ ?_
          rotate_left
          ·intro w'
           go_simp
           with_reducible rfl
          rotate_left
          ·simp only [Act.put, List.setIfInBounds_toArray, List.set_cons_zero, List.set_cons_succ, i64_w, i32_w]
           rfl
          refine one_ (i := 17) (N := some 33) #[true, true, true, true, true, true, true, true, true, true, true, true, true, true, true, true, true, true, false, false] rfl rfl (one_of HT_.out (by kernel_rfl)) (by decide) (fun K hK => ?_)
          refine goes_ Tryz.func18 (by kernel_rfl) rfl #[.int .i64 ((rd_T44 l0_1 x4_1).f1)] (by rfl) rfl rfl (by (try simp only [List.map_toArray, List.map_cons, List.map_nil]); first | done | rfl | (simp only [List.length_drop, List.length_take]; rfl)) ?_
          with_reducible refine (laws_digits.calls k1 ((rd_T44 l0_1 x4_1).f1) t1349 _ A13.out).mono ?_
          rintro e w18 ⟨rfl, hb⟩
          refine ⟨_, rfl, ?_⟩
          have n0_ := Aside0.mk (blk_below (g := gb1344) (o := .cells #[.int .i64 a0_0, .slice (some ad1346) l0_1.length c0_1] 28 (0, 0)) (viaB BK1344.out) hb); have n1_ := Aside0.mk (below_step (viaX HB.out GE1344.out) hb); clear BK1344; clear HB; have BK1344 := n0_; have HB := n1_; clear n0_ n1_
          (try clear hb)
          (try clear hb2)
          (try clear hk)
          (try clear hi)
          refine hK.out _ _ ⟨(blk_cell BK1344.out 0).trans rfl, (blk_cell BK1344.out 1).trans rfl, ((HB.out.cell (World.block_lt_of_cell? w _ hw1346_0)).trans hw1346_0), ((HB.out.cell (World.block_lt_of_cell? w _ hw1346_1)).trans hw1346_1), ((HB.out.cell (World.block_lt_of_cell? w _ hw1348_0)).trans hw1348_0), ((HB.out.cell (World.block_lt_of_cell? w _ hw1348_1)).trans hw1348_1)⟩ (fun hHeld => ?_)
          clear hK K
          refine norm_ (a' := ?_) ?_ ?_
          rotate_left
          ·show Act.put _ (some 33) _ = _
           simp only [Act.put, List.setIfInBounds_toArray, List.set_cons_zero, List.set_cons_succ, i64_w, i32_w]
           rfl
          refine pure_ (i := 18) (N := some 34) (v := ?_) (a' := ?_) #[true, true, true, true, true, true, true, true, true, true, true, true, true, true, true, true, true, true, true, false] rfl rfl (any_of HT_.out (by kernel_rfl)) (fun _ _ _ h => h) (Or.inl ⟨by rfl, ?_⟩) ?_ ?_
          rotate_left
          ·intro w'
           go_simp
           with_reducible rfl
          rotate_left
          ·simp only [Act.put, List.setIfInBounds_toArray, List.set_cons_zero, List.set_cons_succ, i64_w, i32_w]
           rfl
          refine pure_ (i := 19) (N := some 3) (v := ?_) (a' := ?_) #[true, true, true, true, true, true, true, true, true, true, true, true, true, true, true, true, true, true, true, true] rfl rfl (any_of HT_.out (by kernel_rfl)) (fun _ _ _ h => h) (Or.inl ⟨by rfl, ?_⟩) ?_ ?_
          rotate_left
          ·intro w'
           go_simp
           with_reducible rfl
          rotate_left
          ·simp only [Act.put, List.setIfInBounds_toArray, List.set_cons_zero, List.set_cons_succ, i64_w, i32_w]
           rfl
          refine done_ (done_of HT_.out (by kernel_rfl)) ?_
          try go_wp2
          go_roundg k1
          case measure => have := HK1.out; omega
          case rel => exact ⟨((((x3_1 ++ (⟨#[32]⟩ : ByteArray)) ++ t1347) ++ (⟨#[32]⟩ : ByteArray)) ++ t1349), (wrap64 (x4_1 + 1)), (by first | rfl | (simp; done) | (simp [*]; done)), (by first | rfl | (simp; done) | (simp [*]; done)), H', ⟨by have := HK1.out; omega⟩, ⟨viaB BK1344.out⟩, ⟨viaX HB.out GE1344.out⟩⟩
         ·rw [if_neg c14] at H
          exact absurd H (by simp)
        ·rw [if_neg c12] at H
         exact absurd H (by simp)
       ·rw [if_neg c11] at H
        exact absurd H (by simp)
      ·rw [if_neg c9] at H
       exact absurd H (by simp)
     ·rw [if_neg c8] at H
      exact absurd H (by simp)
    ·rw [if_neg c7] at H
     have c7b0 : decide (x4_1 < (l0_1.length : Int)) = false := decide_eq_false c7; clear c7
     by_cases c19 : x3_1.size + 1 ≤ 9223372036854775807
     ·rw [if_pos c19] at H
      have c19b0 := eq_true c19; have c19b1 : decide (x3_1.size + 1 ≤ 9223372036854775807) = true := decide_eq_true c19
      try have c19b2 : (9223372036854775807 < x3_1.size + 1) = False := eq_false (Nat.not_lt.2 c19)
      obtain rfl := Option.some.inj H; have hcz20_0 : wr.cell? ⟨gb1344, 0, none⟩ = some (.int .i64 a0_0) := (blk_cell BK1344.out 0).trans rfl; have hcz20_1 : wr.cell? ⟨gb1344, 1, none⟩ = some (.slice A0_1 l0_1.length c0_1) := (blk_cell BK1344.out 1).trans rfl; have hfz20_0 := blk_frozen BK1344.out 0; have hfz20_1 := blk_frozen BK1344.out 1
      go_wp2
      go_ret
      exact ⟨by first | rfl | (simp [errW_none, errW_some] <;> rfl) | (simp [*, errW_none, errW_some] <;> rfl), viaX HB.out GE1344.out⟩
     ·rw [if_neg c19] at H
      exact absurd H (by simp)
 ·rw [if_neg c3] at H
  exact absurd H (by simp)

end Go.Proofs.YtapdleaemdlgnaaGreatDoor.G
