/- For each Go function named below: a plain Lean function of the same name, and the proof that a call of the Go function returns just what the plain function tells, where it tells something. Written by a program of this session with the printer of the kit. -/
import Derived.Test.YtapdleaemdlgnaaGreatDoorVG0
import Derived.Test.YtapdleaemdlgnaaGreatDoorVG1
import Derived.Test.YtapdleaemdlgnaaGreatDoorVG8
import Derived.Test.YtapdleaemdlgnaaGreatDoorVG10
import Derived.Test.YtapdleaemdlgnaaGreatDoorVG40
import Derived.Test.YtapdleaemdlgnaaGreatDoorVG45
import Derived.Test.YtapdleaemdlgnaaGreatDoorVG58
namespace Go.Proofs.YtapdleaemdlgnaaGreatDoor.G
open Go.RowKit Go.Proofs.YtapdleaemdlgnaaGreatDoorW.PrintWords Go.Proofs.YtapdleaemdlgnaaGreatDoorW.PrintLast Go.Proofs.YtapdleaemdlgnaaGreatDoorW.PrintMore
attribute [local go_sem] max2_int min2_int max_two min_two max_three min_three max_four min_four   -- for this text's walks alone
set_option linter.unusedVariables false
set_option linter.unusedSimpArgs false

/-! ### spec_l91Some: function 33 -/
def spec_l91Some.f (k : Nat) (l0 : List Int) : Option (Int × (List (S44))) := (spec_l6Open.f l0).bind fun bt1324 => ((spec_l91Graph.f k bt1324.1 bt1324.2).bind fun bt1327 => (some (bt1327.1, bt1327.2.1)))
set_option maxHeartbeats 8000000 in
set_option maxRecDepth 100000 in
theorem spec_l91Some.calls (k : Nat) (A0 : Option Addr) (c0 : Nat) (l0 : List Int) (r1 : Int) (r2 : List (S44)) (w : World) (hr0 : Kd.C (Kd.int .u8) w A0 l0.length l0) (hc0 : l0.length ≤ c0) (h : spec_l91Some.f k l0 = some (r1, r2)) :
  Calls Tryz.prog 33 #[.slice A0 l0.length c0] w fun e w' => ∃ v1_ : Value, e = .returned (.agg #[.int .i64 r1, v1_]) ∧ Kd.R k44 44 w' w.heap.size (fun _ => True) v1_ r2 ∧ Below w.heap.size w w' := by
 have hu28 := Tryz.underlying28; have HR0 := Aside0.mk hr0; have HC0 := Aside0.mk hc0; clear hr0 hc0; have HB := Aside0.mk (Below.refl w.heap.size w); have H : ((spec_l6Open.f l0).bind fun bt1324 => ((spec_l91Graph.f k bt1324.1 bt1324.2).bind fun bt1327 => (some (bt1327.1, bt1327.2.1)))) = some (r1, r2) := h; clear h; replace H := Option.bind_eq_some_iff.mp H; obtain ⟨⟨t1324, t1325⟩, A20, H⟩ := H; replace H : ((spec_l91Graph.f k t1324 t1325).bind fun bt1327 => (some (bt1327.1, bt1327.2.1))) = some (r1, r2) := H; have A2 := Aside0.mk A20; clear A20; replace H := Option.bind_eq_some_iff.mp H; obtain ⟨⟨t1327, t1328, t1331⟩, A30, H⟩ := H; replace H : (some (t1327, t1328)) = some (r1, r2) := H; have A3 := Aside0.mk A30; clear A30
 simp only [Option.some.injEq, Prod.mk.injEq] at H
 obtain ⟨rfl, rfl⟩ := H
 go_enter Tryz.func33, Tryz.ntmps33
 go_wp2_with (first | ((with_reducible refine gate_dst (N := 2) rfl ?_); refine box_event ?hg (N := 2) ?hd (cs := #[.int .i64 0, .slice none 0 0]) (t := 28) ?hr ?_; (case hd => rfl); (case hg => rfl); (case hr => first | (go_simp; done) | (go_simp; rfl)); intro gb1323 hg w4 hbox hb; have n0_ := Aside0.mk (below_step (viaW HB.out) hb); have n1_ := Aside0.mk (hbox); have n2_ := Aside0.mk ((by rw [hg]; exact (below_size (viaW HB.out)) : w.heap.size ≤ gb1323)); have n3_ := Aside0.mk ((by rw [hg]; exact (below_size (viaW HB.out)) : w.heap.size ≤ gb1323)); clear HB; have HB := n0_; have BK1323 := n1_; have GW1323 := n2_; have GE1323 := n3_; clear n0_ n1_ n2_ n3_; clear hb hbox hg) | ((with_reducible refine gate_callee (f := 22) rfl ?_); refine goesL_ (some 4) rfl rfl Tryz.func22 (by kernel_rfl) rfl #[.slice A0 l0.length c0] rfl (by (try simp only [List.map_toArray, List.map_cons, List.map_nil]); first | done | rfl | (simp only [List.length_drop, List.length_take]; rfl)) ?_; (with_reducible refine (spec_l6Open.calls _ _ l0 t1324 t1325 w _ ?side1 ?side2 ?side3 A2.out).mono ?_); (case side1 => repeat (first | (with_reducible first | exact HB.out | apply below_alloc | apply pw_below_drewN | apply below_drew1 | refine below_set ?_ GE1323.out) | exact HB.out)); (case side2 => exact HR0.out); (case side3 => exact HC0.out); rintro e w5 ⟨g1326, rfl, hi, hb, hb2⟩; refine ⟨_, rfl, ?_⟩; have n0_ := Aside0.mk (blk_below (g := gb1323) (o := .cells #[.int .i64 0, .slice none 0 0] 28 (0, 0)) (viaB BK1323.out) hb2); have n1_ := Aside0.mk (hb); have n2_ := Aside0.mk (hi); have n3_ := Aside0.mk (IsS67.ne_blk hi (blk_below (g := gb1323) (o := .cells #[.int .i64 0, .slice none 0 0] 28 (0, 0)) (viaB BK1323.out) hb2) (by decide)); have n4_ := Aside0.mk (Ne.symm (IsS67.ne_blk hi (blk_below (g := gb1323) (o := .cells #[.int .i64 0, .slice none 0 0] 28 (0, 0)) (viaB BK1323.out) hb2) (by decide))); clear BK1323; clear HB; have BK1323 := n0_; have HB := n1_; have HI1326 := n2_; have NB1326_1323 := n3_; have NB1323_1326 := n4_; clear n0_ n1_ n2_ n3_ n4_; (try clear hb); (try clear hb2); (try clear hk); (try clear hi)) | ((with_reducible refine gate_callee (f := 66) rfl ?_); refine goesL_ (some 5) rfl rfl Tryz.func66 (by kernel_rfl) rfl #[.pointer (some ⟨g1326, 0, none⟩)] rfl (by (try simp only [List.map_toArray, List.map_cons, List.map_nil]); first | done | rfl | (simp only [List.length_drop, List.length_take]; rfl)) ?_; (with_reducible refine (spec_l91Graph.calls k g1326 t1324 t1325 t1327 t1328 t1331 w _ ?side1 ?side2 A3.out).mono ?_); (case side1 => repeat (first | (with_reducible first | exact HI1326.out | apply IsS67.alloc | apply IsS67.drewN | apply IsS67.drew | apply IsS67.set_1 | refine IsS67.far ?_ NB1326_1323.out _) | exact HI1326.out)); (case side2 => repeat (first | (with_reducible first | exact HB.out | apply below_alloc | apply pw_below_drewN | apply below_drew1 | refine below_set ?_ (IsS67.ge HI1326.out) | refine below_set ?_ GE1323.out) | exact HB.out)); rintro e w6 ⟨v1329, rfl, ho0, hi, hb, hk⟩; refine ⟨_, rfl, ?_⟩; have n0_ := Aside0.mk (KeepBut.blk hk (g' := gb1323) (o := .cells #[.int .i64 0, .slice none 0 0] 28 (0, 0)) (viaB BK1323.out) NB1323_1326.out (by simp)); have n1_ := Aside0.mk (Kd.R_lower ho0 (below_size (by repeat (first | (with_reducible first | exact HB.out | apply below_alloc | apply pw_below_drewN | apply below_drew1 | refine below_set ?_ (IsS67.ge HI1326.out) | refine below_set ?_ GE1323.out) | exact HB.out)))); have n2_ := Aside0.mk (hb); have n3_ := Aside0.mk (hi); clear BK1323; clear HB; clear HI1326; have BK1323 := n0_; have HO1330 := n1_; have HB := n2_; have HI1326 := n3_; clear n0_ n1_ n2_ n3_; (try clear hb); (try clear hb2); (try clear hk); (try clear hi); (try clear ho0); have hnb7 := NB1323_1326.out; have hnc7 := NB1326_1323.out; have hcz8_0 : w6.cell? ⟨gb1323, 0, none⟩ = some (.int .i64 0) := (blk_cell BK1323.out 0).trans rfl; have hcz8_1 : w6.cell? ⟨gb1323, 1, none⟩ = some (.slice none 0 0) := (blk_cell BK1323.out 1).trans rfl; have hfz8_0 := blk_frozen BK1323.out 0; have hfz8_1 := blk_frozen BK1323.out 1; obtain ⟨Ao9, co9, eo9⟩ := Kd.R_slice HO1330.out; subst eo9))
 refine bodyPost_ret (results_cell_row rfl _ _ gb1323 28 #[.int .i64 t1327, .slice Ao9 t1328.length co9] (0, 0) _ rfl (by (with_reducible repeat (first | refine blk_drewN ?_ _ | refine blk_drew ?_ | refine blk_alloc ?_ _)); refine blk_put (cs := #[.int .i64 t1327, .slice none 0 0]) ?_ 1 _ rfl; (with_reducible repeat (first | refine blk_drewN ?_ _ | refine blk_drew ?_ | refine blk_alloc ?_ _)); refine blk_put (cs := #[.int .i64 0, .slice none 0 0]) ?_ 0 _ rfl; (with_reducible repeat (first | refine blk_drewN ?_ _ | refine blk_drew ?_ | refine blk_alloc ?_ _)); exact BK1323.out) Tryz.underlying28 rfl (by kernel_rfl)) rfl ?_
 exact ⟨_, by first | rfl | (simp [errW_none, errW_some] <;> rfl) | (simp [*, errW_none, errW_some] <;> rfl), by (with_reducible repeat (first | apply Kd.R_alloc | apply Kd.R_drewN | apply Kd.R_drew)); exact Kd.R_mono (Kd.R_far (p := ⟨gb1323, 1, none⟩) (Kd.R_far (p := ⟨gb1323, 0, none⟩) (Kd.R_types HO1330.out BK1323.out (by decide)) (fun _ hk => hk.2) (.int .i64 t1327)) (fun _ hk => hk.2) (.slice Ao9 t1328.length co9)) (fun _ hk => trivial), by repeat (first | (with_reducible first | exact HB.out | apply below_alloc | apply pw_below_drewN | apply below_drew1 | refine below_set ?_ (IsS67.ge HI1326.out) | refine below_set ?_ GE1323.out) | exact HB.out)⟩

/-! ### spec_DrawPlainCount: function 14 -/
def spec_DrawPlainCount.f (k : Nat) (l0 : List Int) : Option (Int × (List (S44))) := (spec_l91Some.f k l0).bind fun bt1333 => (some (bt1333.1, bt1333.2))
set_option maxHeartbeats 8000000 in
set_option maxRecDepth 100000 in
theorem spec_DrawPlainCount.calls (k : Nat) (A0 : Option Addr) (c0 : Nat) (l0 : List Int) (r1 : Int) (r2 : List (S44)) (w : World) (hr0 : Kd.C (Kd.int .u8) w A0 l0.length l0) (hc0 : l0.length ≤ c0) (h : spec_DrawPlainCount.f k l0 = some (r1, r2)) :
  Calls Tryz.prog 14 #[.slice A0 l0.length c0] w fun e w' => ∃ v1_ : Value, e = .returned (.agg #[.int .i64 r1, v1_]) ∧ Kd.R k44 44 w' w.heap.size (fun _ => True) v1_ r2 ∧ Below w.heap.size w w' := by
 have hu28 := Tryz.underlying28; have HR0 := Aside0.mk hr0; have HC0 := Aside0.mk hc0; clear hr0 hc0; have HB := Aside0.mk (Below.refl w.heap.size w); have H : ((spec_l91Some.f k l0).bind fun bt1333 => (some (bt1333.1, bt1333.2))) = some (r1, r2) := h; clear h; replace H := Option.bind_eq_some_iff.mp H; obtain ⟨⟨t1333, t1334⟩, A20, H⟩ := H; replace H : (some (t1333, t1334)) = some (r1, r2) := H; have A2 := Aside0.mk A20; clear A20
 simp only [Option.some.injEq, Prod.mk.injEq] at H
 obtain ⟨rfl, rfl⟩ := H
 go_enter Tryz.func14, Tryz.ntmps14
 go_wp2_with (first | ((with_reducible refine gate_dst (N := 2) rfl ?_); refine box_event ?hg (N := 2) ?hd (cs := #[.int .i64 0, .slice none 0 0]) (t := 28) ?hr ?_; (case hd => rfl); (case hg => rfl); (case hr => first | (go_simp; done) | (go_simp; rfl)); intro gb1332 hg w3 hbox hb; have n0_ := Aside0.mk (below_step (viaW HB.out) hb); have n1_ := Aside0.mk (hbox); have n2_ := Aside0.mk ((by rw [hg]; exact (below_size (viaW HB.out)) : w.heap.size ≤ gb1332)); have n3_ := Aside0.mk ((by rw [hg]; exact (below_size (viaW HB.out)) : w.heap.size ≤ gb1332)); clear HB; have HB := n0_; have BK1332 := n1_; have GW1332 := n2_; have GE1332 := n3_; clear n0_ n1_ n2_ n3_; clear hb hbox hg) | ((with_reducible refine gate_callee (f := 33) rfl ?_); refine goesL_ (some 4) rfl rfl Tryz.func33 (by kernel_rfl) rfl #[.slice A0 l0.length c0] rfl (by (try simp only [List.map_toArray, List.map_cons, List.map_nil]); first | done | rfl | (simp only [List.length_drop, List.length_take]; rfl)) ?_; (with_reducible refine (spec_l91Some.calls k _ _ l0 t1333 t1334 _ ?side1 ?side2 A2.out).mono ?_); (case side1 => repeat (first | exact (Kd.C_below HR0.out HB.out) | (with_reducible refine Kd.C_alloc ?_ _) | (with_reducible refine Kd.C_drewN ?_ _) | (with_reducible refine Kd.C_drew ?_))); (case side2 => exact HC0.out); rintro e w4 ⟨v1335, rfl, ho0, hb⟩; refine ⟨_, rfl, ?_⟩; have n0_ := Aside0.mk (Kd.R_lower ho0 (below_size (viaX HB.out GE1332.out))); have n1_ := Aside0.mk (blk_below (g := gb1332) (o := .cells #[.int .i64 0, .slice none 0 0] 28 (0, 0)) (viaB BK1332.out) hb); have n2_ := Aside0.mk (below_step (viaX HB.out GE1332.out) hb); clear BK1332; clear HB; have HO1336 := n0_; have BK1332 := n1_; have HB := n2_; clear n0_ n1_ n2_; (try clear hb); (try clear hb2); (try clear hk); (try clear hi); (try clear ho0); have hcz5_0 : w4.cell? ⟨gb1332, 0, none⟩ = some (.int .i64 0) := (blk_cell BK1332.out 0).trans rfl; have hcz5_1 : w4.cell? ⟨gb1332, 1, none⟩ = some (.slice none 0 0) := (blk_cell BK1332.out 1).trans rfl; have hfz5_0 := blk_frozen BK1332.out 0; have hfz5_1 := blk_frozen BK1332.out 1; obtain ⟨Ao6, co6, eo6⟩ := Kd.R_slice HO1336.out; subst eo6))
 refine bodyPost_ret (results_cell_row rfl _ _ gb1332 28 #[.int .i64 t1333, .slice Ao6 t1334.length co6] (0, 0) _ rfl (by (with_reducible repeat (first | refine blk_drewN ?_ _ | refine blk_drew ?_ | refine blk_alloc ?_ _)); refine blk_put (cs := #[.int .i64 t1333, .slice none 0 0]) ?_ 1 _ rfl; (with_reducible repeat (first | refine blk_drewN ?_ _ | refine blk_drew ?_ | refine blk_alloc ?_ _)); refine blk_put (cs := #[.int .i64 0, .slice none 0 0]) ?_ 0 _ rfl; (with_reducible repeat (first | refine blk_drewN ?_ _ | refine blk_drew ?_ | refine blk_alloc ?_ _)); exact BK1332.out) Tryz.underlying28 rfl (by kernel_rfl)) rfl ?_
 exact ⟨_, by first | rfl | (simp [errW_none, errW_some] <;> rfl) | (simp [*, errW_none, errW_some] <;> rfl), by (with_reducible repeat (first | apply Kd.R_alloc | apply Kd.R_drewN | apply Kd.R_drew)); exact Kd.R_mono (Kd.R_far (p := ⟨gb1332, 1, none⟩) (Kd.R_far (p := ⟨gb1332, 0, none⟩) (Kd.R_types HO1336.out BK1332.out (by decide)) (fun _ hk => hk.2) (.int .i64 t1333)) (fun _ hk => hk.2) (.slice Ao6 t1334.length co6)) (fun _ hk => trivial), viaX HB.out GE1332.out⟩

/-! ### laws_FnExecuteCount: function 6 -/
def laws_FnExecuteCount.j0 : Nat → Int → Bool → Int → Bool → Bool → Int → List (S44) → Option (Bool)
 | 0, _, _, _, _, _, _, _ => none
 | k + 1, x4, x5, x6, x7, x34, x1355000, x1355001 => if x34 = true then (if (x5 == x7) = true then (some (x4 == x6)) else (some false)) else ((laws_drawn.f k x1355000 x1355001).bind fun t1359 => (if t1359.size + 6 ≤ 9223372036854775807 then ((impl_Execute.f k (t1359 ++ (⟨#[99, 111, 117, 110, 116, 10]⟩ : ByteArray))).bind fun t1360 => ((laws_digits.f k x4).bind fun t1361 => (if 3 + t1361.size ≤ 9223372036854775807 then (if ((⟨#[111, 107, 10]⟩ : ByteArray) ++ t1361).size + 7 ≤ 9223372036854775807 then ((laws_digits.f k (x1355001.length : Int)).bind fun t1362 => (if (((⟨#[111, 107, 10]⟩ : ByteArray) ++ t1361) ++ (⟨#[10, 101, 100, 103, 101, 115, 32]⟩ : ByteArray)).size + t1362.size ≤ 9223372036854775807 then (if ((((⟨#[111, 107, 10]⟩ : ByteArray) ++ t1361) ++ (⟨#[10, 101, 100, 103, 101, 115, 32]⟩ : ByteArray)) ++ t1362).size + 1 ≤ 9223372036854775807 then (some (t1360.toList == (((((⟨#[111, 107, 10]⟩ : ByteArray) ++ t1361) ++ (⟨#[10, 101, 100, 103, 101, 115, 32]⟩ : ByteArray)) ++ t1362) ++ (⟨#[10]⟩ : ByteArray)).toList)) else (none)) else (none))) else (none)) else (none)))) else (none)))
def laws_FnExecuteCount.f (k : Nat) (l0 : List Int) : Option (Bool) := if (l0.length : Int) > 1048576 then (some true) else ((spec_DrawPlainCount.f k l0).bind fun bt1350 => ((impl_PlainCount.f k bt1350.1 bt1350.2).bind fun bt1355 => ((spec_PlainCount.f k bt1350.1 bt1350.2).bind fun bt1357 => (if (bt1355.2 != bt1357.2) = true then (laws_FnExecuteCount.j0 k bt1355.1 bt1355.2 bt1357.1 bt1357.2 true bt1350.1 bt1350.2) else (if bt1355.1 = bt1357.1 then (laws_FnExecuteCount.j0 k bt1355.1 bt1355.2 bt1357.1 bt1357.2 (!bt1355.2) bt1350.1 bt1350.2) else (laws_FnExecuteCount.j0 k bt1355.1 bt1355.2 bt1357.1 bt1357.2 true bt1350.1 bt1350.2))))))
def laws_FnExecuteCount.T8 : Bool × List (List Nat × List Nat) := (true, [([], []), ([0], [0]), ([1], [1]), ([2, 1], [2]), ([], []), ([4, 3], [4]), ([5], [5]), ([6], [6]), ([], []), ([8], [8]), ([9], [9]), ([10, 5], [10]), ([7, 11], [7, 11]), ([12], [12]), ([3, 13], [3, 13]), ([14, 11, 0, 1, 2, 3, 4, 5, 6, 7, 8, 9, 10, 11, 12, 13, 14], [14])])
def laws_FnExecuteCount.B8 : List Nat := [0, 1, 3, 7, 0, 31, 63, 127, 0, 256, 768, 1855, 4095, 8191, 16383, 32767]
theorem laws_FnExecuteCount.tab8 : rtab .any (opsOf Tryz.f6 8) = laws_FnExecuteCount.T8 := by kernel_rfl
theorem laws_FnExecuteCount.bits8 : waitsOk laws_FnExecuteCount.T8.2 laws_FnExecuteCount.B8 = true := by kernel_rfl
set_option maxHeartbeats 8000000 in
set_option maxRecDepth 100000 in
theorem laws_FnExecuteCount.calls (k : Nat) (A0 : Option Addr) (c0 : Nat) (l0 : List Int) (r : Bool) (w : World) (gl : GL w) (hr0 : Kd.C (Kd.int .u8) w A0 l0.length l0) (hc0 : l0.length ≤ c0) (h : laws_FnExecuteCount.f k l0 = some r) :
  Calls Tryz.prog 6 #[.slice A0 l0.length c0] w fun e w' => e = .returned (.bool r) ∧ Below w.heap.size w w' := by
 have GLW := Aside0.mk gl; clear gl; have hu28 := Tryz.underlying28; have HR0 := Aside0.mk hr0; have HC0 := Aside0.mk hc0; clear hr0 hc0; have HB := Aside0.mk (Below.refl w.heap.size w); have H : (if (l0.length : Int) > 1048576 then (some true) else ((spec_DrawPlainCount.f k l0).bind fun bt1350 => ((impl_PlainCount.f k bt1350.1 bt1350.2).bind fun bt1355 => ((spec_PlainCount.f k bt1350.1 bt1350.2).bind fun bt1357 => (if (bt1355.2 != bt1357.2) = true then (laws_FnExecuteCount.j0 k bt1355.1 bt1355.2 bt1357.1 bt1357.2 true bt1350.1 bt1350.2) else (if bt1355.1 = bt1357.1 then (laws_FnExecuteCount.j0 k bt1355.1 bt1355.2 bt1357.1 bt1357.2 (!bt1355.2) bt1350.1 bt1350.2) else (laws_FnExecuteCount.j0 k bt1355.1 bt1355.2 bt1357.1 bt1357.2 true bt1350.1 bt1350.2))))))) = some r := h; clear h
 by_cases c2 : (l0.length : Int) > 1048576
 ·rw [if_pos c2] at H
  have c2b0 : decide (1048576 < (l0.length : Int)) = true := decide_eq_true c2; have c2b1 : decide (1048576 < l0.length) = true := decide_eq_true (by omega); clear c2; obtain rfl := Option.some.inj H
  go_enter Tryz.func6, Tryz.ntmps6
  go_wp2
  go_ret
  exact ⟨by first | rfl | (simp [errW_none, errW_some] <;> rfl) | (simp [*, errW_none, errW_some] <;> rfl), viaW HB.out⟩
 ·rw [if_neg c2] at H
  have c2b0 : decide (1048576 < (l0.length : Int)) = false := decide_eq_false c2; have c2b1 : decide (1048576 < l0.length) = false := decide_eq_false (by omega); clear c2; replace H := Option.bind_eq_some_iff.mp H; obtain ⟨⟨t1350, t1351⟩, A30, H⟩ := H; replace H : ((impl_PlainCount.f k t1350 t1351).bind fun bt1355 => ((spec_PlainCount.f k t1350 t1351).bind fun bt1357 => (if (bt1355.2 != bt1357.2) = true then (laws_FnExecuteCount.j0 k bt1355.1 bt1355.2 bt1357.1 bt1357.2 true t1350 t1351) else (if bt1355.1 = bt1357.1 then (laws_FnExecuteCount.j0 k bt1355.1 bt1355.2 bt1357.1 bt1357.2 (!bt1355.2) t1350 t1351) else (laws_FnExecuteCount.j0 k bt1355.1 bt1355.2 bt1357.1 bt1357.2 true t1350 t1351))))) = some r := H; have A3 := Aside0.mk A30; clear A30; replace H := Option.bind_eq_some_iff.mp H; obtain ⟨⟨t1355, t1356⟩, A40, H⟩ := H; replace H : ((spec_PlainCount.f k t1350 t1351).bind fun bt1357 => (if (t1356 != bt1357.2) = true then (laws_FnExecuteCount.j0 k t1355 t1356 bt1357.1 bt1357.2 true t1350 t1351) else (if t1355 = bt1357.1 then (laws_FnExecuteCount.j0 k t1355 t1356 bt1357.1 bt1357.2 (!t1356) t1350 t1351) else (laws_FnExecuteCount.j0 k t1355 t1356 bt1357.1 bt1357.2 true t1350 t1351)))) = some r := H; have A4 := Aside0.mk A40; clear A40; replace H := Option.bind_eq_some_iff.mp H; obtain ⟨⟨t1357, t1358⟩, A50, H⟩ := H; replace H : (if (t1356 != t1358) = true then (laws_FnExecuteCount.j0 k t1355 t1356 t1357 t1358 true t1350 t1351) else (if t1355 = t1357 then (laws_FnExecuteCount.j0 k t1355 t1356 t1357 t1358 (!t1356) t1350 t1351) else (laws_FnExecuteCount.j0 k t1355 t1356 t1357 t1358 true t1350 t1351))) = some r := H; have A5 := Aside0.mk A50; clear A50; have HC6 := Aside0.mk H; clear H
  go_enter Tryz.func6, Tryz.ntmps6
  go_upto_region 6 with (first | ((with_reducible refine gate_callee (f := 14) rfl ?_); refine goesL_ (some 12) rfl rfl Tryz.func14 (by kernel_rfl) rfl #[.slice A0 l0.length c0] rfl (by (try simp only [List.map_toArray, List.map_cons, List.map_nil]); first | done | rfl | (simp only [List.length_drop, List.length_take]; rfl)) ?_; (with_reducible refine (spec_DrawPlainCount.calls k _ _ l0 t1350 t1351 _ ?side1 ?side2 A3.out).mono ?_); (case side1 => repeat (first | exact HR0.out | (with_reducible refine Kd.C_alloc ?_ _) | (with_reducible refine Kd.C_drewN ?_ _) | (with_reducible refine Kd.C_drew ?_))); (case side2 => exact HC0.out); rintro e w7 ⟨v1352, rfl, ho0, hb⟩; refine ⟨_, rfl, ?_⟩; have n0_ := Aside0.mk (Kd.R_lower ho0 (below_size (viaW HB.out))); have n1_ := Aside0.mk (below_step (viaW HB.out) hb); clear HB; have HO1353 := n0_; have HB := n1_; clear n0_ n1_; (try clear hb); (try clear hb2); (try clear hk); (try clear hi); (try clear ho0)) | ((with_reducible refine gate_dst (N := 3) rfl ?_); refine box_event ?hg (N := 3) ?hd (cs := #[.int .i64 0, .slice none 0 0]) (t := 28) ?hr ?_; (case hd => rfl); (case hg => rfl); (case hr => first | (go_simp; done) | (go_simp; rfl)); intro gb1354 hg w8 hbox hb; have n0_ := Aside0.mk (Kd.R_below (viaR HO1353.out) hb); have n1_ := Aside0.mk (below_step (viaW HB.out) hb); have n2_ := Aside0.mk (hbox); have n3_ := Aside0.mk ((by rw [hg]; exact (below_size (viaW HB.out)) : w.heap.size ≤ gb1354)); have n4_ := Aside0.mk ((by rw [hg]; exact (below_size (viaW HB.out)) : w.heap.size ≤ gb1354)); clear HO1353; clear HB; have HO1353 := n0_; have HB := n1_; have BK1354 := n2_; have GW1354 := n3_; have GE1354 := n4_; clear n0_ n1_ n2_ n3_ n4_; clear hb hbox hg; have hcz9_0 : w8.cell? ⟨gb1354, 0, none⟩ = some (.int .i64 0) := (blk_cell BK1354.out 0).trans rfl; have hcz9_1 : w8.cell? ⟨gb1354, 1, none⟩ = some (.slice none 0 0) := (blk_cell BK1354.out 1).trans rfl; have hfz9_0 := blk_frozen BK1354.out 0; have hfz9_1 := blk_frozen BK1354.out 1; obtain ⟨Ao10, co10, eo10⟩ := Kd.R_slice HO1353.out; subst eo10) | ((with_reducible refine gate_callee (f := 15) rfl ?_); refine goesL_ (some 15) rfl rfl Tryz.func15 (by kernel_rfl) rfl #[.agg #[.int .i64 t1350, .slice Ao10 t1351.length co10]] rfl (by (try simp only [List.map_toArray, List.map_cons, List.map_nil]); first | done | rfl | (simp only [List.length_drop, List.length_take]; rfl)) ?_; (with_reducible refine (impl_PlainCount.calls k t1350 _ _ t1351 t1355 t1356 _ ?side1 ?side2 A4.out).mono ?_); (case side1 => refine (Kd.R_reads' (e := 44) (base := w.heap.size) (ok := fun k_ => True) (n := t1351.length) (c := co10) ?_).2.2; exact (by (with_reducible repeat (first | apply Kd.R_alloc | apply Kd.R_drewN | apply Kd.R_drew)); exact (Kd.R_mono (Kd.R_far (p := ⟨gb1354, 1, none⟩) (Kd.R_far (p := ⟨gb1354, 0, none⟩) (Kd.R_types HO1353.out BK1354.out (by decide)) (fun _ hk => hk.2) (.int .i64 t1350)) (fun _ hk => hk.2) (.slice Ao10 t1351.length co10)) (fun _ h_ => h_.1)))); (case side2 => exact (Kd.R_reads' HO1353.out).2.1); rintro e w11 ⟨rfl, hb⟩; refine ⟨_, rfl, ?_⟩; have n0_ := Aside0.mk (Kd.R_below (by (with_reducible repeat (first | apply Kd.R_alloc | apply Kd.R_drewN | apply Kd.R_drew)); exact (Kd.R_mono (Kd.R_far (p := ⟨gb1354, 1, none⟩) (Kd.R_far (p := ⟨gb1354, 0, none⟩) (Kd.R_types HO1353.out BK1354.out (by decide)) (fun _ hk => hk.2) (.int .i64 t1350)) (fun _ hk => hk.2) (.slice Ao10 t1351.length co10)) (fun _ h_ => h_.1))) hb); have n1_ := Aside0.mk (blk_below (g := gb1354) (o := .cells #[.int .i64 t1350, .slice Ao10 t1351.length co10] 28 (0, 0)) (by (with_reducible repeat (first | refine blk_drewN ?_ _ | refine blk_drew ?_ | refine blk_alloc ?_ _)); refine blk_put (cs := #[.int .i64 t1350, .slice none 0 0]) ?_ 1 _ rfl; (with_reducible repeat (first | refine blk_drewN ?_ _ | refine blk_drew ?_ | refine blk_alloc ?_ _)); refine blk_put (cs := #[.int .i64 0, .slice none 0 0]) ?_ 0 _ rfl; (with_reducible repeat (first | refine blk_drewN ?_ _ | refine blk_drew ?_ | refine blk_alloc ?_ _)); exact BK1354.out) hb); have n2_ := Aside0.mk (below_step (viaX HB.out GE1354.out) hb); clear HO1353; clear BK1354; clear HB; have HO1353 := n0_; have BK1354 := n1_; have HB := n2_; clear n0_ n1_ n2_; (try clear hb); (try clear hb2); (try clear hk); (try clear hi); have hcz12_0 : w11.cell? ⟨gb1354, 0, none⟩ = some (.int .i64 t1350) := (blk_cell BK1354.out 0).trans rfl; have hcz12_1 : w11.cell? ⟨gb1354, 1, none⟩ = some (.slice Ao10 t1351.length co10) := (blk_cell BK1354.out 1).trans rfl; have hfz12_0 := blk_frozen BK1354.out 0; have hfz12_1 := blk_frozen BK1354.out 1) | ((with_reducible refine gate_callee (f := 16) rfl ?_); refine goesL_ (some 20) rfl rfl Tryz.func16 (by kernel_rfl) rfl #[.agg #[.int .i64 t1350, .slice Ao10 t1351.length co10]] rfl (by (try simp only [List.map_toArray, List.map_cons, List.map_nil]); first | done | rfl | (simp only [List.length_drop, List.length_take]; rfl)) ?_; (with_reducible refine (spec_PlainCount.calls k t1350 _ _ t1351 t1357 t1358 _ ?side1 ?side2 A5.out).mono ?_); (case side1 => repeat (first | exact (Kd.R_reads' HO1353.out).2.2 | (with_reducible refine Kd.C_alloc ?_ _) | (with_reducible refine Kd.C_drewN ?_ _) | (with_reducible refine Kd.C_drew ?_))); (case side2 => exact (Kd.R_reads' HO1353.out).2.1); rintro e w13 ⟨rfl, hb⟩; refine ⟨_, rfl, ?_⟩; have n0_ := Aside0.mk (Kd.R_below (viaR HO1353.out) hb); have n1_ := Aside0.mk (blk_below (g := gb1354) (o := .cells #[.int .i64 t1350, .slice Ao10 t1351.length co10] 28 (0, 0)) (viaB BK1354.out) hb); have n2_ := Aside0.mk (below_step (viaX HB.out GE1354.out) hb); clear HO1353; clear BK1354; clear HB; have HO1353 := n0_; have BK1354 := n1_; have HB := n2_; clear n0_ n1_ n2_; (try clear hb); (try clear hb2); (try clear hk); (try clear hi)))
  (try simp only [Act.put, List.setIfInBounds_toArray, List.set_cons_zero, List.set_cons_succ])
  go_cut [34] (fun v34 wc => ∃ (kq : Nat) (x34_5 : Bool), v34 = .bool x34_5 ∧ Aside0 (laws_FnExecuteCount.j0 kq t1355 t1356 t1357 t1358 x34_5 t1350 t1351 = some r) ∧ Aside0 (kq ≤ k) ∧ Aside0 (Kd.R k44 44 wc w.heap.size (fun _ => True) (.slice Ao10 t1351.length co10) t1351) ∧ Aside0 (wc.heap[gb1354]? = some (.cells #[.int .i64 t1350, (.slice Ao10 t1351.length co10)] 28 (0, 0))) ∧ Aside0 (Below w.heap.size w wc))
  case first =>
   have H := HC6.out; clear HC6
   by_cases c14 : (t1356 != t1358) = true
   ·rw [if_pos c14] at H
    have c14b0 : (t1356 != t1358) = true := c14
    (try (have c14b1 : decide (t1356 = t1358) = false := by simpa using c14))
    (try (have c14b2 : (t1356 == t1358) = false := by simpa using c14))
    (try (have c14b3 : ¬ (t1356 = t1358) := by simpa using c14))
    clear c14
    (first | rw [c14b0] | (simp only [i64_w, i32_w]; rw [c14b0]) | skip)
    have H' := Aside0.mk H; clear H
    go_wp2
    go_meet
    case rel => exact ⟨_, (true), (by first | rfl | (simp; done) | (simp [*]; done)), H', ⟨by first | omega | exact Nat.le_refl _⟩, ⟨viaR HO1353.out⟩, ⟨viaB BK1354.out⟩, ⟨viaX HB.out GE1354.out⟩⟩
   ·rw [if_neg c14] at H
    have c14b0 : (t1356 != t1358) = false := by simpa using c14
    (try (have c14b1 : decide (t1356 = t1358) = true := by simpa using c14))
    (try (have c14b2 : (t1356 == t1358) = true := by simpa using c14))
    clear c14
    (first | rw [c14b0] | (simp only [i64_w, i32_w]; rw [c14b0]) | skip)
    by_cases c15 : t1355 = t1357
    ·rw [if_pos c15] at H
     have c15b0 : (t1355 == t1357) = true := beq_iff_eq.mpr c15; have c15b1 : (t1355 != t1357) = false := bne_eq_false_iff_eq.mpr c15; clear c15; have H' := Aside0.mk H; clear H
     go_wp2
     go_meet
     case rel => exact ⟨_, (!t1356), (by first | rfl | (simp; done) | (simp [*]; done)), H', ⟨by first | omega | exact Nat.le_refl _⟩, ⟨viaR HO1353.out⟩, ⟨viaB BK1354.out⟩, ⟨viaX HB.out GE1354.out⟩⟩
    ·rw [if_neg c15] at H
     have c15b0 : (t1355 == t1357) = false := beq_eq_false_iff_ne.mpr c15; have c15b1 : (t1355 != t1357) = true := bne_iff_ne.mpr c15; have H' := Aside0.mk H; clear H
     go_wp2
     go_meet
     case rel => exact ⟨_, (true), (by first | rfl | (simp; done) | (simp [*]; done)), H', ⟨by first | omega | exact Nat.le_refl _⟩, ⟨viaR HO1353.out⟩, ⟨viaB BK1354.out⟩, ⟨viaX HB.out GE1354.out⟩⟩
  case rest =>
   clear HC6
   try clear c1
   try clear c2
   try clear c2b0
   try clear c2b1
   try clear p2
   try clear c6
   try clear c14
   try clear c14b0
   try clear c14b1
   try clear c14b2
   try clear c15
   try clear c15b0
   try clear c15b1
   try clear hcz12_0
   try clear hcz12_1
   try clear hcz9_0
   try clear hcz9_1
   try clear hfz12_0
   try clear hfz12_1
   try clear hfz9_0
   try clear hfz9_1
   obtain ⟨kq, x34_5, rfl, HA, HJ5, HO_1355001, BK1354, HB⟩ := hcut
   cases kq with
   | zero => exact absurd HA.out (by simp [laws_FnExecuteCount.j0])
   | succ kj5 =>
    have H := HA.out; clear HA
    simp only [laws_FnExecuteCount.j0] at H
    by_cases c16 : x34_5 = true
    ·subst c16
     have H1 : (if (t1356 == t1358) = true then (some (t1355 == t1357)) else (some false)) = some r := by rw [if_pos rfl] at H; exact H
     clear H; have H := H1; clear H1
     by_cases c17 : (t1356 == t1358) = true
     ·rw [if_pos c17] at H
      have c17b0 : (t1356 == t1358) = true := c17
      (try (have c17b1 : decide (t1356 = t1358) = true := by simpa using c17))
      (try (have c17b2 : (t1356 == t1358) = true := by simpa using c17))
      clear c17; obtain rfl := Option.some.inj H
      go_wp2
      go_ret
      exact ⟨by first | rfl | (simp [errW_none, errW_some] <;> rfl) | (simp [*, errW_none, errW_some] <;> rfl), viaX HB.out GE1354.out⟩
     ·rw [if_neg c17] at H
      have c17b0 : (t1356 == t1358) = false := by simpa using c17
      (try (have c17b1 : decide (t1356 = t1358) = false := by simpa using c17))
      (try (have c17b2 : (t1356 == t1358) = false := by simpa using c17))
      (try (have c17b3 : ¬ (t1356 = t1358) := by simpa using c17))
      clear c17; obtain rfl := Option.some.inj H
      go_wp2
      go_ret
      exact ⟨by first | rfl | (simp [errW_none, errW_some] <;> rfl) | (simp [*, errW_none, errW_some] <;> rfl), viaX HB.out GE1354.out⟩
    ·replace c16 := Bool.eq_false_iff.mpr c16
     subst c16; have H1 : ((laws_drawn.f kj5 t1350 t1351).bind fun t1359 => (if t1359.size + 6 ≤ 9223372036854775807 then ((impl_Execute.f kj5 (t1359 ++ (⟨#[99, 111, 117, 110, 116, 10]⟩ : ByteArray))).bind fun t1360 => ((laws_digits.f kj5 t1355).bind fun t1361 => (if 3 + t1361.size ≤ 9223372036854775807 then (if ((⟨#[111, 107, 10]⟩ : ByteArray) ++ t1361).size + 7 ≤ 9223372036854775807 then ((laws_digits.f kj5 (t1351.length : Int)).bind fun t1362 => (if (((⟨#[111, 107, 10]⟩ : ByteArray) ++ t1361) ++ (⟨#[10, 101, 100, 103, 101, 115, 32]⟩ : ByteArray)).size + t1362.size ≤ 9223372036854775807 then (if ((((⟨#[111, 107, 10]⟩ : ByteArray) ++ t1361) ++ (⟨#[10, 101, 100, 103, 101, 115, 32]⟩ : ByteArray)) ++ t1362).size + 1 ≤ 9223372036854775807 then (some (t1360.toList == (((((⟨#[111, 107, 10]⟩ : ByteArray) ++ t1361) ++ (⟨#[10, 101, 100, 103, 101, 115, 32]⟩ : ByteArray)) ++ t1362) ++ (⟨#[10]⟩ : ByteArray)).toList)) else (none)) else (none))) else (none)) else (none)))) else (none))) = some r := by rw [if_neg (show ¬ (false = true) by decide)] at H; exact H
     clear H; have H := H1; clear H1; replace H := Option.bind_eq_some_iff.mp H; obtain ⟨t1359, A180, H⟩ := H; replace H : (if t1359.size + 6 ≤ 9223372036854775807 then ((impl_Execute.f kj5 (t1359 ++ (⟨#[99, 111, 117, 110, 116, 10]⟩ : ByteArray))).bind fun t1360 => ((laws_digits.f kj5 t1355).bind fun t1361 => (if 3 + t1361.size ≤ 9223372036854775807 then (if ((⟨#[111, 107, 10]⟩ : ByteArray) ++ t1361).size + 7 ≤ 9223372036854775807 then ((laws_digits.f kj5 (t1351.length : Int)).bind fun t1362 => (if (((⟨#[111, 107, 10]⟩ : ByteArray) ++ t1361) ++ (⟨#[10, 101, 100, 103, 101, 115, 32]⟩ : ByteArray)).size + t1362.size ≤ 9223372036854775807 then (if ((((⟨#[111, 107, 10]⟩ : ByteArray) ++ t1361) ++ (⟨#[10, 101, 100, 103, 101, 115, 32]⟩ : ByteArray)) ++ t1362).size + 1 ≤ 9223372036854775807 then (some (t1360.toList == (((((⟨#[111, 107, 10]⟩ : ByteArray) ++ t1361) ++ (⟨#[10, 101, 100, 103, 101, 115, 32]⟩ : ByteArray)) ++ t1362) ++ (⟨#[10]⟩ : ByteArray)).toList)) else (none)) else (none))) else (none)) else (none)))) else (none)) = some r := H; have A18 := Aside0.mk A180; clear A180
     by_cases c19 : t1359.size + 6 ≤ 9223372036854775807
     ·rw [if_pos c19] at H
      have c19b0 := eq_true c19; have c19b1 : decide (t1359.size + 6 ≤ 9223372036854775807) = true := decide_eq_true c19
      try have c19b2 : (9223372036854775807 < t1359.size + 6) = False := eq_false (Nat.not_lt.2 c19)
      replace H := Option.bind_eq_some_iff.mp H; obtain ⟨t1360, A200, H⟩ := H; replace H : ((laws_digits.f kj5 t1355).bind fun t1361 => (if 3 + t1361.size ≤ 9223372036854775807 then (if ((⟨#[111, 107, 10]⟩ : ByteArray) ++ t1361).size + 7 ≤ 9223372036854775807 then ((laws_digits.f kj5 (t1351.length : Int)).bind fun t1362 => (if (((⟨#[111, 107, 10]⟩ : ByteArray) ++ t1361) ++ (⟨#[10, 101, 100, 103, 101, 115, 32]⟩ : ByteArray)).size + t1362.size ≤ 9223372036854775807 then (if ((((⟨#[111, 107, 10]⟩ : ByteArray) ++ t1361) ++ (⟨#[10, 101, 100, 103, 101, 115, 32]⟩ : ByteArray)) ++ t1362).size + 1 ≤ 9223372036854775807 then (some (t1360.toList == (((((⟨#[111, 107, 10]⟩ : ByteArray) ++ t1361) ++ (⟨#[10, 101, 100, 103, 101, 115, 32]⟩ : ByteArray)) ++ t1362) ++ (⟨#[10]⟩ : ByteArray)).toList)) else (none)) else (none))) else (none)) else (none))) = some r := H; have A20 := Aside0.mk A200; clear A200; replace H := Option.bind_eq_some_iff.mp H; obtain ⟨t1361, A210, H⟩ := H; replace H : (if 3 + t1361.size ≤ 9223372036854775807 then (if ((⟨#[111, 107, 10]⟩ : ByteArray) ++ t1361).size + 7 ≤ 9223372036854775807 then ((laws_digits.f kj5 (t1351.length : Int)).bind fun t1362 => (if (((⟨#[111, 107, 10]⟩ : ByteArray) ++ t1361) ++ (⟨#[10, 101, 100, 103, 101, 115, 32]⟩ : ByteArray)).size + t1362.size ≤ 9223372036854775807 then (if ((((⟨#[111, 107, 10]⟩ : ByteArray) ++ t1361) ++ (⟨#[10, 101, 100, 103, 101, 115, 32]⟩ : ByteArray)) ++ t1362).size + 1 ≤ 9223372036854775807 then (some (t1360.toList == (((((⟨#[111, 107, 10]⟩ : ByteArray) ++ t1361) ++ (⟨#[10, 101, 100, 103, 101, 115, 32]⟩ : ByteArray)) ++ t1362) ++ (⟨#[10]⟩ : ByteArray)).toList)) else (none)) else (none))) else (none)) else (none)) = some r := H; have A21 := Aside0.mk A210; clear A210
      by_cases c22 : 3 + t1361.size ≤ 9223372036854775807
      ·rw [if_pos c22] at H
       have c22b0 := eq_true c22; have c22b1 : decide (3 + t1361.size ≤ 9223372036854775807) = true := decide_eq_true c22
       try have c22b2 : (9223372036854775807 < 3 + t1361.size) = False := eq_false (Nat.not_lt.2 c22)
       by_cases c23 : ((⟨#[111, 107, 10]⟩ : ByteArray) ++ t1361).size + 7 ≤ 9223372036854775807
       ·rw [if_pos c23] at H
        have c23b0 := eq_true c23; have c23b1 : decide (((⟨#[111, 107, 10]⟩ : ByteArray) ++ t1361).size + 7 ≤ 9223372036854775807) = true := decide_eq_true c23
        try have c23b2 : (9223372036854775807 < ((⟨#[111, 107, 10]⟩ : ByteArray) ++ t1361).size + 7) = False := eq_false (Nat.not_lt.2 c23)
        try have c23b3 : (9223372036854775807 < 3 + t1361.size + 7) = False := by have hs_ := c23b2; simp only [ByteArray.size_append] at hs_; exact hs_
        replace H := Option.bind_eq_some_iff.mp H; obtain ⟨t1362, A240, H⟩ := H; replace H : (if (((⟨#[111, 107, 10]⟩ : ByteArray) ++ t1361) ++ (⟨#[10, 101, 100, 103, 101, 115, 32]⟩ : ByteArray)).size + t1362.size ≤ 9223372036854775807 then (if ((((⟨#[111, 107, 10]⟩ : ByteArray) ++ t1361) ++ (⟨#[10, 101, 100, 103, 101, 115, 32]⟩ : ByteArray)) ++ t1362).size + 1 ≤ 9223372036854775807 then (some (t1360.toList == (((((⟨#[111, 107, 10]⟩ : ByteArray) ++ t1361) ++ (⟨#[10, 101, 100, 103, 101, 115, 32]⟩ : ByteArray)) ++ t1362) ++ (⟨#[10]⟩ : ByteArray)).toList)) else (none)) else (none)) = some r := H; have A24 := Aside0.mk A240; clear A240
        by_cases c25 : (((⟨#[111, 107, 10]⟩ : ByteArray) ++ t1361) ++ (⟨#[10, 101, 100, 103, 101, 115, 32]⟩ : ByteArray)).size + t1362.size ≤ 9223372036854775807
        ·rw [if_pos c25] at H
         have c25b0 := eq_true c25; have c25b1 : decide ((((⟨#[111, 107, 10]⟩ : ByteArray) ++ t1361) ++ (⟨#[10, 101, 100, 103, 101, 115, 32]⟩ : ByteArray)).size + t1362.size ≤ 9223372036854775807) = true := decide_eq_true c25
         try have c25b2 : (9223372036854775807 < (((⟨#[111, 107, 10]⟩ : ByteArray) ++ t1361) ++ (⟨#[10, 101, 100, 103, 101, 115, 32]⟩ : ByteArray)).size + t1362.size) = False := eq_false (Nat.not_lt.2 c25)
         try have c25b3 : (9223372036854775807 < 3 + t1361.size + 7 + t1362.size) = False := by have hs_ := c25b2; simp only [ByteArray.size_append] at hs_; exact hs_
         by_cases c26 : ((((⟨#[111, 107, 10]⟩ : ByteArray) ++ t1361) ++ (⟨#[10, 101, 100, 103, 101, 115, 32]⟩ : ByteArray)) ++ t1362).size + 1 ≤ 9223372036854775807
         ·rw [if_pos c26] at H
          have c26b0 := eq_true c26; have c26b1 : decide (((((⟨#[111, 107, 10]⟩ : ByteArray) ++ t1361) ++ (⟨#[10, 101, 100, 103, 101, 115, 32]⟩ : ByteArray)) ++ t1362).size + 1 ≤ 9223372036854775807) = true := decide_eq_true c26
          try have c26b2 : (9223372036854775807 < ((((⟨#[111, 107, 10]⟩ : ByteArray) ++ t1361) ++ (⟨#[10, 101, 100, 103, 101, 115, 32]⟩ : ByteArray)) ++ t1362).size + 1) = False := eq_false (Nat.not_lt.2 c26)
          try have c26b3 : (9223372036854775807 < 3 + t1361.size + 7 + t1362.size + 1) = False := by have hs_ := c26b2; simp only [ByteArray.size_append] at hs_; exact hs_
          obtain rfl := Option.some.inj H
          try go_wp2
          have n0_ := Aside0.mk (Kd.R_drew HO_1355001.out); have n1_ := Aside0.mk (blk_drew BK1354.out); have n2_ := Aside0.mk (below_drew1 HB.out); clear HO_1355001; clear BK1354; clear HB; have HO_1355001 := n0_; have BK1354 := n1_; have HB := n2_; clear n0_ n1_ n2_
          refine start_ (n := 16) (S := fun w' => w'.cell? ⟨gb1354, 0, none⟩ = some (.int .i64 t1350) ∧ w'.cell? ⟨gb1354, 1, none⟩ = some (.slice Ao10 t1351.length co10)) (ds := []) #[false, false, false, false, false, false, false, false, false, false, false, false, false, false, false, false] (by kernel_rfl) rfl rfl ⟨(blk_cell BK1354.out 0).trans rfl, (blk_cell BK1354.out 1).trans rfl⟩ (fun hHeld => ?_); refine with_tabW laws_FnExecuteCount.tab8 laws_FnExecuteCount.bits8 (fun HT_ HW_ => ?_)
          generalize wc.drew = w27 at HO_1355001 BK1354 HB hHeld ⊢
          refine pure_ (i := 4) (N := some 47) (v := ?_) (a' := ?_) #[false, false, false, false, true, false, false, false, false, false, false, false, false, false, false, false] rfl rfl (any_of HT_.out (by kernel_rfl)) (fun _ _ _ h => h) (Or.inl ⟨by rfl, ?_⟩) ?_ ?_
          rotate_left
          ·intro w'
           go_simp
           with_reducible rfl
          rotate_left
          ·simp only [Act.put, List.setIfInBounds_toArray, List.set_cons_zero, List.set_cons_succ, i64_w, i32_w]
           rfl
          refine pure_ (i := 8) (N := some 51) (v := ?_) (a' := ?_) #[false, false, false, false, true, false, false, false, true, false, false, false, false, false, false, false] rfl rfl (any_of HT_.out (by kernel_rfl)) (fun _ _ _ h => h) (Or.inl ⟨by rfl, ?_⟩) ?_ ?_
          rotate_left
          ·intro w'
           go_simp
           with_reducible rfl
          rotate_left
          ·simp only [Act.put, List.setIfInBounds_toArray, List.set_cons_zero, List.set_cons_succ, i64_w, i32_w]
           rfl
          refine take_ (i := 0) (N := some 43) (v := ?_) (a' := ?_) #[true, false, false, false, true, false, false, false, true, false, false, false, false, false, false, false] rfl rfl (take_ofW HT_.out HW_.out (by kernel_rfl)) (fun _ _ _ h => h) (Or.inl ⟨by rfl, ?_⟩) hHeld ?_ ?_
          rotate_left
          ·rintro w' ⟨s0, s1⟩
           go_simp
           with_reducible rfl
          rotate_left
          ·simp only [Act.put, List.setIfInBounds_toArray, List.set_cons_zero, List.set_cons_succ, i64_w, i32_w]
           rfl
          refine take_ (i := 9) (N := some 52) (v := ?_) (a' := ?_) #[true, false, false, false, true, false, false, false, true, true, false, false, false, false, false, false] rfl rfl (take_ofW HT_.out HW_.out (by kernel_rfl)) (fun _ _ _ h => h) (Or.inl ⟨by rfl, ?_⟩) hHeld ?_ ?_
          rotate_left
          ·rintro w' ⟨s0, s1⟩
           go_simp
           with_reducible rfl
          rotate_left
          ·simp only [Act.put, List.setIfInBounds_toArray, List.set_cons_zero, List.set_cons_succ, i64_w, i32_w]
           rfl
          refine pure_ (i := 10) (N := some 53) (v := ?_) (a' := ?_) #[true, false, false, false, true, false, false, false, true, true, true, false, false, false, false, false] rfl rfl (any_of HT_.out (by kernel_rfl)) (fun _ _ _ h => h) (Or.inl ⟨by rfl, ?_⟩) ?_ ?_
          rotate_left
          ·intro w'
           go_simp
           with_reducible rfl
          rotate_left
          ·simp only [Act.put, List.setIfInBounds_toArray, List.set_cons_zero, List.set_cons_succ, i64_w, i32_w]
           rfl
          refine one_ (i := 1) (N := some 44) #[true, true, false, false, true, false, false, false, true, true, true, false, false, false, false, false] rfl rfl (one_of HT_.out (by kernel_rfl)) (by decide) (fun K hK => ?_)
          refine goes_ Tryz.func17 (by kernel_rfl) rfl #[.agg #[.int .i64 t1350, .slice Ao10 t1351.length co10]] (by rfl) rfl rfl (by (try simp only [List.map_toArray, List.map_cons, List.map_nil]); first | done | rfl | (simp only [List.length_drop, List.length_take]; rfl)) ?_
          with_reducible refine (laws_drawn.calls kj5 t1350 _ _ t1351 t1359 _ ?side1 ?side2 A18.out).mono ?_
          (case side1 => repeat (first | exact (Kd.R_reads' HO_1355001.out).2.2 | (with_reducible refine Kd.C_alloc ?_ _) | (with_reducible refine Kd.C_drewN ?_ _) | (with_reducible refine Kd.C_drew ?_)))
          (case side2 => exact (Kd.R_reads' HO_1355001.out).2.1)
          rintro e w28 ⟨rfl, hb⟩
          refine ⟨_, rfl, ?_⟩
          have n0_ := Aside0.mk (Kd.R_below (viaR HO_1355001.out) hb); have n1_ := Aside0.mk (blk_below (g := gb1354) (o := .cells #[.int .i64 t1350, .slice Ao10 t1351.length co10] 28 (0, 0)) (viaB BK1354.out) hb); have n2_ := Aside0.mk (below_step (viaX HB.out GE1354.out) hb); clear HO_1355001; clear BK1354; clear HB; have HO_1355001 := n0_; have BK1354 := n1_; have HB := n2_; clear n0_ n1_ n2_
          (try clear hb)
          (try clear hb2)
          (try clear hk)
          (try clear hi)
          refine hK.out _ _ ⟨(blk_cell BK1354.out 0).trans rfl, (blk_cell BK1354.out 1).trans rfl⟩ (fun hHeld => ?_)
          clear hK K
          refine norm_ (a' := ?_) ?_ ?_
          rotate_left
          ·show Act.put _ (some 44) _ = _
           simp only [Act.put, List.setIfInBounds_toArray, List.set_cons_zero, List.set_cons_succ, i64_w, i32_w]
           rfl
          refine pure_ (i := 2) (N := some 45) (v := ?_) (a' := ?_) #[true, true, true, false, true, false, false, false, true, true, true, false, false, false, false, false] rfl rfl (any_of HT_.out (by kernel_rfl)) (fun _ _ _ h => h) (Or.inl ⟨by rfl, ?_⟩) ?_ ?_
          rotate_left
          ·intro w'
           go_simp
           with_reducible rfl
          rotate_left
          ·simp only [Act.put, List.setIfInBounds_toArray, List.set_cons_zero, List.set_cons_succ, i64_w, i32_w]
           rfl
          refine one_ (i := 3) (N := some 46) #[true, true, true, true, true, false, false, false, true, true, true, false, false, false, false, false] rfl rfl (one_of HT_.out (by kernel_rfl)) (by decide) (fun K hK => ?_)
          refine goes_ Tryz.func10 (by kernel_rfl) rfl #[.string (t1359 ++ (⟨#[99, 111, 117, 110, 116, 10]⟩ : ByteArray))] (by rfl) rfl rfl (by (try simp only [List.map_toArray, List.map_cons, List.map_nil]); first | done | rfl | (simp only [List.length_drop, List.length_take]; rfl)) ?_
          with_reducible refine (impl_Execute.calls kj5 (t1359 ++ (⟨#[99, 111, 117, 110, 116, 10]⟩ : ByteArray)) t1360 _ (GL.below GLW.out (viaX HB.out GE1354.out)) A20.out).mono ?_
          rintro e w29 ⟨rfl, hb⟩
          refine ⟨_, rfl, ?_⟩
          have n0_ := Aside0.mk (Kd.R_below (viaR HO_1355001.out) hb); have n1_ := Aside0.mk (blk_below (g := gb1354) (o := .cells #[.int .i64 t1350, .slice Ao10 t1351.length co10] 28 (0, 0)) (viaB BK1354.out) hb); have n2_ := Aside0.mk (below_step (viaX HB.out GE1354.out) hb); clear HO_1355001; clear BK1354; clear HB; have HO_1355001 := n0_; have BK1354 := n1_; have HB := n2_; clear n0_ n1_ n2_
          (try clear hb)
          (try clear hb2)
          (try clear hk)
          (try clear hi)
          refine hK.out _ _ ⟨(blk_cell BK1354.out 0).trans rfl, (blk_cell BK1354.out 1).trans rfl⟩ (fun hHeld => ?_)
          clear hK K
          refine norm_ (a' := ?_) ?_ ?_
          rotate_left
          ·show Act.put _ (some 46) _ = _
           simp only [Act.put, List.setIfInBounds_toArray, List.set_cons_zero, List.set_cons_succ, i64_w, i32_w]
           rfl
          refine one_ (i := 5) (N := some 48) #[true, true, true, true, true, true, false, false, true, true, true, false, false, false, false, false] rfl rfl (one_of HT_.out (by kernel_rfl)) (by decide) (fun K hK => ?_)
          refine goes_ Tryz.func18 (by kernel_rfl) rfl #[.int .i64 t1355] (by rfl) rfl rfl (by (try simp only [List.map_toArray, List.map_cons, List.map_nil]); first | done | rfl | (simp only [List.length_drop, List.length_take]; rfl)) ?_
          with_reducible refine (laws_digits.calls kj5 t1355 t1361 _ A21.out).mono ?_
          rintro e w30 ⟨rfl, hb⟩
          refine ⟨_, rfl, ?_⟩
          have n0_ := Aside0.mk (Kd.R_below (viaR HO_1355001.out) hb); have n1_ := Aside0.mk (blk_below (g := gb1354) (o := .cells #[.int .i64 t1350, .slice Ao10 t1351.length co10] 28 (0, 0)) (viaB BK1354.out) hb); have n2_ := Aside0.mk (below_step (viaX HB.out GE1354.out) hb); clear HO_1355001; clear BK1354; clear HB; have HO_1355001 := n0_; have BK1354 := n1_; have HB := n2_; clear n0_ n1_ n2_
          (try clear hb)
          (try clear hb2)
          (try clear hk)
          (try clear hi)
          refine hK.out _ _ ⟨(blk_cell BK1354.out 0).trans rfl, (blk_cell BK1354.out 1).trans rfl⟩ (fun hHeld => ?_)
          clear hK K
          refine norm_ (a' := ?_) ?_ ?_
          rotate_left
          ·show Act.put _ (some 48) _ = _
           simp only [Act.put, List.setIfInBounds_toArray, List.set_cons_zero, List.set_cons_succ, i64_w, i32_w]
           rfl
          refine pure_ (i := 6) (N := some 49) (v := ?_) (a' := ?_) #[true, true, true, true, true, true, true, false, true, true, true, false, false, false, false, false] rfl rfl (any_of HT_.out (by kernel_rfl)) (fun _ _ _ h => h) (Or.inl ⟨by rfl, ?_⟩) ?_ ?_
          rotate_left
          ·intro w'
           go_simp
           with_reducible rfl
          rotate_left
          ·simp only [Act.put, List.setIfInBounds_toArray, List.set_cons_zero, List.set_cons_succ, i64_w, i32_w]
           rfl
          refine pure_ (i := 7) (N := some 50) (v := ?_) (a' := ?_) #[true, true, true, true, true, true, true, true, true, true, true, false, false, false, false, false] rfl rfl (any_of HT_.out (by kernel_rfl)) (fun _ _ _ h => h) (Or.inl ⟨by rfl, ?_⟩) ?_ ?_
          rotate_left
          ·intro w'
           go_simp
           with_reducible rfl
          rotate_left
          ·simp only [Act.put, List.setIfInBounds_toArray, List.set_cons_zero, List.set_cons_succ, i64_w, i32_w]
           rfl
          refine one_ (i := 11) (N := some 54) #[true, true, true, true, true, true, true, true, true, true, true, true, false, false, false, false] rfl rfl (one_of HT_.out (by kernel_rfl)) (by decide) (fun K hK => ?_)
          refine goes_ Tryz.func18 (by kernel_rfl) rfl #[.int .i64 (t1351.length : Int)] (by rfl) rfl rfl (by (try simp only [List.map_toArray, List.map_cons, List.map_nil]); first | done | rfl | (simp only [List.length_drop, List.length_take]; rfl)) ?_
          with_reducible refine (laws_digits.calls kj5 (t1351.length : Int) t1362 _ A24.out).mono ?_
          rintro e w31 ⟨rfl, hb⟩
          refine ⟨_, rfl, ?_⟩
          have n0_ := Aside0.mk (Kd.R_below (viaR HO_1355001.out) hb); have n1_ := Aside0.mk (blk_below (g := gb1354) (o := .cells #[.int .i64 t1350, .slice Ao10 t1351.length co10] 28 (0, 0)) (viaB BK1354.out) hb); have n2_ := Aside0.mk (below_step (viaX HB.out GE1354.out) hb); clear HO_1355001; clear BK1354; clear HB; have HO_1355001 := n0_; have BK1354 := n1_; have HB := n2_; clear n0_ n1_ n2_
          (try clear hb)
          (try clear hb2)
          (try clear hk)
          (try clear hi)
          refine hK.out _ _ ⟨(blk_cell BK1354.out 0).trans rfl, (blk_cell BK1354.out 1).trans rfl⟩ (fun hHeld => ?_)
          clear hK K
          refine norm_ (a' := ?_) ?_ ?_
          rotate_left
          ·show Act.put _ (some 54) _ = _
           simp only [Act.put, List.setIfInBounds_toArray, List.set_cons_zero, List.set_cons_succ, i64_w, i32_w]
           rfl
          refine pure_ (i := 12) (N := some 55) (v := ?_) (a' := ?_) #[true, true, true, true, true, true, true, true, true, true, true, true, true, false, false, false] rfl rfl (any_of HT_.out (by kernel_rfl)) (fun _ _ _ h => h) (Or.inl ⟨by rfl, ?_⟩) ?_ ?_
          rotate_left
          ·intro w'
           go_simp
           with_reducible rfl
          rotate_left
          ·simp only [Act.put, List.setIfInBounds_toArray, List.set_cons_zero, List.set_cons_succ, i64_w, i32_w]
           rfl
          refine pure_ (i := 13) (N := some 56) (v := ?_) (a' := ?_) #[true, true, true, true, true, true, true, true, true, true, true, true, true, true, false, false] rfl rfl (any_of HT_.out (by kernel_rfl)) (fun _ _ _ h => h) (Or.inl ⟨by rfl, ?_⟩) ?_ ?_
          rotate_left
          ·intro w'
           go_simp
           with_reducible rfl
          rotate_left
          ·simp only [Act.put, List.setIfInBounds_toArray, List.set_cons_zero, List.set_cons_succ, i64_w, i32_w]
           rfl
          refine pure_ (i := 14) (N := some 57) (v := ?_) (a' := ?_) #[true, true, true, true, true, true, true, true, true, true, true, true, true, true, true, false] rfl rfl (any_of HT_.out (by kernel_rfl)) (fun _ _ _ h => h) (Or.inl ⟨by rfl, ?_⟩) ?_ ?_
          rotate_left
          ·intro w'
           go_simp
           with_reducible rfl
          rotate_left
          ·simp only [Act.put, List.setIfInBounds_toArray, List.set_cons_zero, List.set_cons_succ, i64_w, i32_w]
           rfl
          refine pure_ (i := 15) (N := some 2) (v := ?_) (a' := ?_) #[true, true, true, true, true, true, true, true, true, true, true, true, true, true, true, true] rfl rfl (any_of HT_.out (by kernel_rfl)) (fun _ _ _ h => h) (Or.inl ⟨by rfl, ?_⟩) ?_ ?_
          rotate_left
          ·intro w'
           go_simp
           with_reducible rfl
          rotate_left
          ·simp only [Act.put, List.setIfInBounds_toArray, List.set_cons_zero, List.set_cons_succ, i64_w, i32_w]
           rfl
          refine done_ (done_of HT_.out (by kernel_rfl)) ?_
          try go_wp2
          go_ret
          exact ⟨by first | rfl | (simp [errW_none, errW_some] <;> rfl) | (simp [*, errW_none, errW_some] <;> rfl), viaX HB.out GE1354.out⟩
         ·rw [if_neg c26] at H
          exact absurd H (by simp)
        ·rw [if_neg c25] at H
         exact absurd H (by simp)
       ·rw [if_neg c23] at H
        exact absurd H (by simp)
      ·rw [if_neg c22] at H
       exact absurd H (by simp)
     ·rw [if_neg c19] at H
      exact absurd H (by simp)

/-- THE ONE PURE STATEMENT of laws_FnExecuteCount: yours. -/
def laws_FnExecuteCount.Pure : Prop := ∀ (l0 : List Int), l0.length ≤ maxLen → l0.length * 1 ≤ 140737488351232 → (∀ x ∈ l0, (Lit.int .u8 x).wf = true) → ∃ k, laws_FnExecuteCount.f k l0 = some true
theorem laws_FnExecuteCount.walk (P : laws_FnExecuteCount.Pure) (a0 : Option Addr) (len0 cap0 : Nat) (z0 : List Int) (w : World) (gl : GL w) (w0 : (a0 = none ∧ len0 = 0 ∧ cap0 = 0 ∧ z0 = []) ∨ ∃ x, a0 = some x ∧ len0 ≤ cap0 ∧ cap0 ≤ maxLen ∧ z0.length = cap0 ∧ (∀ i, i < z0.length → w.cell? (x.add i) = some (.int .u8 (z0.getD i 0))) ∧ ∀ n ∈ z0, (Lit.int .u8 n).wf = true) (y0 : len0 * 1 ≤ 140737488351232) :
  Calls Tryz.prog 6 #[.slice a0 len0 cap0] w fun e w' => e = .returned (.bool true) ∧ Below w.heap.size w w' := by
 obtain ⟨l0, rfl, hr0, hm0, hw0, hc0⟩ := ReadsInt.ofRowC w0; obtain ⟨k, h⟩ := P l0 hm0 y0 hw0
 refine (laws_FnExecuteCount.calls k _ _ l0 true w gl (Kd.C_of_reads (d := (0 : Int)) (h1 := fun _ => rfl) hr0) hc0 h).mono ?_
 rintro e w' ⟨rfl, hd⟩
 exact ⟨rfl, hd⟩

end Go.Proofs.YtapdleaemdlgnaaGreatDoor.G
