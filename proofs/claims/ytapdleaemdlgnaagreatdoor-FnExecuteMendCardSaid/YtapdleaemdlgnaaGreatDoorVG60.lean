/- For each Go function named below: a plain Lean function of the same name, and the proof that a call of the Go function returns just what the plain function tells, where it tells something. Written by a program of this session with the printer of the kit. -/
import Derived.Test.YtapdleaemdlgnaaGreatDoorVG0
import Derived.Test.YtapdleaemdlgnaaGreatDoorVG1
import Derived.Test.YtapdleaemdlgnaaGreatDoorVG9
import Derived.Test.YtapdleaemdlgnaaGreatDoorVG10
import Derived.Test.YtapdleaemdlgnaaGreatDoorVG40
import Derived.Test.YtapdleaemdlgnaaGreatDoorVG42
import Derived.Test.YtapdleaemdlgnaaGreatDoorVG58
namespace Go.Proofs.YtapdleaemdlgnaaGreatDoor.G
open Go.RowKit Go.Proofs.YtapdleaemdlgnaaGreatDoorW.PrintWords Go.Proofs.YtapdleaemdlgnaaGreatDoorW.PrintLast Go.Proofs.YtapdleaemdlgnaaGreatDoorW.PrintMore
attribute [local go_sem] max2_int min2_int max_two min_two max_three min_three max_four min_four   -- for this text's walks alone
set_option linter.unusedVariables false
set_option linter.unusedSimpArgs false

/-! ### spec_l91Way: function 70 -/
def spec_l91Way.l0 : Nat → Int → Int → List Int → Int → Int → List (S44) → Option (Int × Int)
 | 0, _, _, _, _, _, _ => none
 | k + 1, x5, x6, x1000, x1001, x1364000, x1364001 => if x6 < (x1364001.length : Int) then ((spec_l6Rd_pick.f k x1000 x1001 2).bind fun bt1364 => (spec_l91Way.l0 k (wrap64 ((wrap64 (2 * x5)) + bt1364.1)) (wrap64 (x6 + 1)) x1000 bt1364.2 x1364000 x1364001)) else ((spec_l6Rd_pick.f k x1000 x1001 40).bind fun bt1366 => (if bt1366.1 = 0 then ((spec_l6Rd_pick.f k x1000 bt1366.2 2).bind fun bt1368 => (some (wrap64 ((shl .i64 1 (x1364001.length : Int)) - (wrap64 (bt1368.1 * (wrap64 (1 + (shl .i64 1 (x1364001.length : Int))))))), bt1368.2))) else (some (x5, bt1366.2))))
def spec_l91Way.f (k : Nat) (s0_0 : List Int) (s0_1 : Int) (a1_0 : Int) (l1_1 : List (S44)) : Option (Int × Int) := spec_l91Way.l0 k 0 0 s0_0 s0_1 a1_0 l1_1
def spec_l91Way.T7 : Bool × List (List Nat × List Nat) := (true, [([], []), ([0], [0]), ([1], [1]), ([2], [2]), ([], []), ([4], [4]), ([], []), ([6], [6]), ([7], [7]), ([8], [8]), ([9], [9]), ([5, 10], [5, 10]), ([3, 11], [3, 11]), ([12, 5, 0, 1, 2, 3, 4, 5, 6, 7, 8, 9, 10, 11, 12], [12])])
def spec_l91Way.B7 : List Nat := [0, 1, 3, 7, 0, 16, 0, 64, 192, 448, 960, 2032, 4095, 8191]
theorem spec_l91Way.tab7 : rtab .any (opsOf Tryz.f70 7) = spec_l91Way.T7 := by kernel_rfl
theorem spec_l91Way.bits7 : waitsOk spec_l91Way.T7.2 spec_l91Way.B7 = true := by kernel_rfl
set_option maxHeartbeats 8000000 in
set_option maxRecDepth 100000 in
theorem spec_l91Way.calls (k : Nat) (g : Nat) (s0_0 : List Int) (s0_1 : Int) (a1_0 : Int) (A1_1 : Option Addr) (c1_1 : Nat) (l1_1 : List (S44)) (r1 : Int) (r2 : Int) (w0 w : World) (hI : IsS67 w0 w g s0_0 s0_1) (hB : Below w0.heap.size w0 w) (hr1_1 : ∀ W_, KeepBut w W_ g none → Kd.C k44 W_ A1_1 l1_1.length l1_1) (hc1_1 : l1_1.length ≤ c1_1) (h : spec_l91Way.f k s0_0 s0_1 a1_0 l1_1 = some (r1, r2)) :
  Calls Tryz.prog 70 #[.pointer (some ⟨g, 0, none⟩), .agg #[.int .i64 a1_0, .slice A1_1 l1_1.length c1_1]] w fun e w' => e = .returned (.int .i64 r1) ∧ IsS67 w0 w' g s0_0 r2 ∧ Below w0.heap.size w0 w' ∧ KeepBut w w' g none := by
 have hu28 := Tryz.underlying28; have HR1_1 := Aside0.mk hr1_1; have HC1_1 := Aside0.mk hc1_1; clear hr1_1 hc1_1; have HI0 := Aside0.mk hI; have HK := Aside0.mk (KeepBut.refl w g none); have HL := Aside0.mk hB.size; clear hI; have HW0 := Aside0.mk hB.size; have HB := Aside0.mk hB; clear hB; have H : (spec_l91Way.l0 k 0 0 s0_0 s0_1 a1_0 l1_1) = some (r1, r2) := h; clear h; have H' := Aside0.mk H; clear H
 go_enter Tryz.func70, Tryz.ntmps70
 go_wp2_with (first | ((with_reducible refine gate_dst (N := 3) rfl ?_); refine box_event ?hg (N := 3) ?hd (cs := #[.int .i64 a1_0, .slice A1_1 l1_1.length c1_1]) (t := 28) ?hr ?_; (case hd => rfl); (case hg => rfl); (case hr => first | (go_simp; done) | (go_simp; rfl)); intro gb1363 hg w3 hbox hb; have n0_ := Aside0.mk (IsS67.below (by repeat (first | (with_reducible first | exact HI0.out | apply IsS67.alloc | apply IsS67.drewN | apply IsS67.drew | apply IsS67.set_1) | exact HI0.out)) hb); have n1_ := Aside0.mk (KeepBut.trans (by repeat (first | (with_reducible first | exact HK.out | apply KeepBut.set_ | apply keep_drewN | apply keep_drew | apply keep_alloc) | exact HK.out)) (KeepBut.of_below hb g none) (.inl rfl)); have n2_ := Aside0.mk (below_step (by repeat (first | (with_reducible first | exact HB.out | apply below_alloc | apply pw_below_drewN | apply below_drew1 | refine below_set ?_ (IsS67.ge HI0.out)) | exact HB.out)) hb); have n3_ := Aside0.mk (hbox); have n4_ := Aside0.mk ((by rw [hg]; exact (keep_size (w := w) (g := g) (row := none) (by repeat (first | (with_reducible first | exact HK.out | apply KeepBut.set_ | apply keep_drewN | apply keep_drew | apply keep_alloc) | exact HK.out))) : w.heap.size ≤ gb1363)); have n5_ := Aside0.mk ((Nat.le_trans HW0.out (by rw [hg]; exact (keep_size (w := w) (g := g) (row := none) (by repeat (first | (with_reducible first | exact HK.out | apply KeepBut.set_ | apply keep_drewN | apply keep_drew | apply keep_alloc) | exact HK.out))) : w.heap.size ≤ gb1363) : w0.heap.size ≤ gb1363)); have n6_ := Aside0.mk ((by rw [hg]; exact Nat.ne_of_lt (IsS67.lt (show IsS67 w0 _ g s0_0 s0_1 from by repeat (first | (with_reducible first | exact HI0.out | apply IsS67.alloc | apply IsS67.drewN | apply IsS67.drew | apply IsS67.set_1) | exact HI0.out))) : g ≠ gb1363)); have n7_ := Aside0.mk ((by rw [hg]; exact Nat.ne_of_gt (IsS67.lt (show IsS67 w0 _ g s0_0 s0_1 from by repeat (first | (with_reducible first | exact HI0.out | apply IsS67.alloc | apply IsS67.drewN | apply IsS67.drew | apply IsS67.set_1) | exact HI0.out))) : gb1363 ≠ g)); clear HI0; clear HK; clear HB; have HI0 := n0_; have HK := n1_; have HB := n2_; have BK1363 := n3_; have GW1363 := n4_; have GE1363 := n5_; have NB0_1363 := n6_; have NB1363_0 := n7_; clear n0_ n1_ n2_ n3_ n4_ n5_ n6_ n7_; clear hb hbox hg))
 go_loopg [5, 6] k (fun kq v5 v6 w' => ∃ (x5_1 : Int) (x6_1 : Int) (x1001_1 : Int), v5 = .int .i64 x5_1 ∧ v6 = .int .i64 x6_1 ∧ Aside0 (spec_l91Way.l0 kq x5_1 x6_1 s0_0 x1001_1 a1_0 l1_1 = some (r1, r2)) ∧ Aside0 (kq ≤ k) ∧ Aside0 (w'.heap[gb1363]? = some (.cells #[.int .i64 a1_0, (.slice A1_1 l1_1.length c1_1)] 28 (0, 0))) ∧ Aside0 (IsS67 w0 w' g s0_0 x1001_1) ∧ Aside0 (KeepBut w w' g none) ∧ Aside0 (Below w0.heap.size w0 w'))
 case atStart => exact ⟨(0), (0), (s0_1), (by first | rfl | (simp; done) | (simp [*]; done)), (by first | rfl | (simp; done) | (simp [*]; done)), H', ⟨Nat.le_refl _⟩, ⟨viaB BK1363.out⟩, ⟨by repeat (first | (with_reducible first | exact HI0.out | apply IsS67.alloc | apply IsS67.drewN | apply IsS67.drew | apply IsS67.set_1 | refine IsS67.far ?_ NB0_1363.out _) | exact HI0.out)⟩, ⟨by repeat (first | (with_reducible first | exact HK.out | apply KeepBut.set_ | apply keep_drewN | apply keep_drew | apply keep_alloc | refine keep_far ?_ GW1363.out _) | exact HK.out)⟩, ⟨by repeat (first | (with_reducible first | exact HB.out | apply below_alloc | apply pw_below_drewN | apply below_drew1 | refine below_set ?_ (IsS67.ge HI0.out) | refine below_set ?_ GE1363.out) | exact HB.out)⟩⟩
 case round =>
  clear H'
  try clear c1
  try clear p2
  obtain ⟨x5_1, x6_1, x1001_1, rfl, rfl, HA, HK1, BK1363, HI0, HK, HB⟩ := hrel
  cases gk with
  | zero => exact absurd HA.out (by simp [spec_l91Way.l0])
  | succ k1 =>
   have H := HA.out; clear HA
   simp only [spec_l91Way.l0] at H
   by_cases c4 : x6_1 < (l1_1.length : Int)
   ·rw [if_pos c4] at H
    have c4b0 : decide (x6_1 < (l1_1.length : Int)) = true := decide_eq_true c4; clear c4; replace H := Option.bind_eq_some_iff.mp H; obtain ⟨⟨t1364, t1365⟩, A50, H⟩ := H; replace H : (spec_l91Way.l0 k1 (wrap64 ((wrap64 (2 * x5_1)) + t1364)) (wrap64 (x6_1 + 1)) s0_0 t1365 a1_0 l1_1) = some (r1, r2) := H; have A5 := Aside0.mk A50; clear A50; have H' := Aside0.mk H; clear H; have hnb6 := NB1363_0.out; have hnc6 := NB0_1363.out; have hcz7_0 : wr.cell? ⟨gb1363, 0, none⟩ = some (.int .i64 a1_0) := (blk_cell BK1363.out 0).trans rfl; have hcz7_1 : wr.cell? ⟨gb1363, 1, none⟩ = some (.slice A1_1 l1_1.length c1_1) := (blk_cell BK1363.out 1).trans rfl; have hfz7_0 := blk_frozen BK1363.out 0; have hfz7_1 := blk_frozen BK1363.out 1
    go_wp2_with (first | ((with_reducible refine gate_callee (f := 23) rfl ?_); refine goesL_ (some 17) rfl rfl Tryz.func23 (by kernel_rfl) rfl #[.pointer (some ⟨g, 0, none⟩), .int .i64 2] rfl (by (try simp only [List.map_toArray, List.map_cons, List.map_nil]); first | done | rfl | (simp only [List.length_drop, List.length_take]; rfl)) ?_; (with_reducible refine (spec_l6Rd_pick.calls k1 g s0_0 x1001_1 2 t1364 t1365 w0 _ ?side1 ?side2 A5.out).mono ?_); (case side1 => repeat (first | (with_reducible first | exact HI0.out | apply IsS67.alloc | apply IsS67.drewN | apply IsS67.drew | apply IsS67.set_1 | refine IsS67.far ?_ NB0_1363.out _) | exact HI0.out)); (case side2 => repeat (first | (with_reducible first | exact HB.out | apply below_alloc | apply pw_below_drewN | apply below_drew1 | refine below_set ?_ (IsS67.ge HI0.out) | refine below_set ?_ GE1363.out) | exact HB.out)); rintro e w8 ⟨rfl, hi, hb, hk⟩; refine ⟨_, rfl, ?_⟩; have n0_ := Aside0.mk (KeepBut.blk hk (g' := gb1363) (o := .cells #[.int .i64 a1_0, .slice A1_1 l1_1.length c1_1] 28 (0, 0)) (viaB BK1363.out) NB1363_0.out (by simp)); have n1_ := Aside0.mk (KeepBut.trans (by repeat (first | (with_reducible first | exact HK.out | apply KeepBut.set_ | apply keep_drewN | apply keep_drew | apply keep_alloc | refine keep_far ?_ GW1363.out _) | exact HK.out)) hk (.inl rfl)); have n2_ := Aside0.mk (hb); have n3_ := Aside0.mk (hi); clear BK1363; clear HK; clear HB; clear HI0; have BK1363 := n0_; have HK := n1_; have HB := n2_; have HI0 := n3_; clear n0_ n1_ n2_ n3_; (try clear hb); (try clear hb2); (try clear hk); (try clear hi)))
    go_roundg k1
    case measure => have := HK1.out; omega
    case rel => exact ⟨(wrap64 ((wrap64 (2 * x5_1)) + t1364)), (wrap64 (x6_1 + 1)), (t1365), (by first | rfl | (simp; done) | (simp [*]; done)), (by first | rfl | (simp; done) | (simp [*]; done)), H', ⟨by have := HK1.out; omega⟩, ⟨viaB BK1363.out⟩, ⟨by repeat (first | (with_reducible first | exact HI0.out | apply IsS67.alloc | apply IsS67.drewN | apply IsS67.drew | apply IsS67.set_1 | refine IsS67.far ?_ NB0_1363.out _) | exact HI0.out)⟩, ⟨by repeat (first | (with_reducible first | exact HK.out | apply KeepBut.set_ | apply keep_drewN | apply keep_drew | apply keep_alloc | refine keep_far ?_ GW1363.out _) | exact HK.out)⟩, ⟨by repeat (first | (with_reducible first | exact HB.out | apply below_alloc | apply pw_below_drewN | apply below_drew1 | refine below_set ?_ (IsS67.ge HI0.out) | refine below_set ?_ GE1363.out) | exact HB.out)⟩⟩
   ·rw [if_neg c4] at H
    have c4b0 : decide (x6_1 < (l1_1.length : Int)) = false := decide_eq_false c4; clear c4; replace H := Option.bind_eq_some_iff.mp H; obtain ⟨⟨t1366, t1367⟩, A90, H⟩ := H; replace H : (if t1366 = 0 then ((spec_l6Rd_pick.f k1 s0_0 t1367 2).bind fun bt1368 => (some (wrap64 ((shl .i64 1 (l1_1.length : Int)) - (wrap64 (bt1368.1 * (wrap64 (1 + (shl .i64 1 (l1_1.length : Int))))))), bt1368.2))) else (some (x5_1, t1367))) = some (r1, r2) := H; have A9 := Aside0.mk A90; clear A90
    by_cases c10 : t1366 = 0
    ·rw [if_pos c10] at H
     have c10b0 : (t1366 == 0) = true := beq_iff_eq.mpr c10; have c10b1 : (t1366 != 0) = false := bne_eq_false_iff_eq.mpr c10; clear c10; obtain ⟨ji11, hji11⟩ : ∃ j_ : Int, (shl .i64 1 (l1_1.length : Int)) = j_ := ⟨_, rfl⟩; replace H : ((spec_l6Rd_pick.f k1 s0_0 t1367 2).bind fun bt1368 => (some (wrap64 ((ji11) - (wrap64 (bt1368.1 * (wrap64 (1 + (ji11)))))), bt1368.2))) = some (r1, r2) := by first | (rw [hji11] at H; exact H) | (simp only [hji11] at H ⊢; exact H)
     (try rw [hji11] at A9)
     have hji11_ : (IntKind.i64.wrap (1 * 2 ^ min (l1_1.length : Int).toNat 64)) = ji11 := hji11; have hji11z : (l1_1.length : Int) ≤ 64 → (IntKind.i64.wrap (1 * 2 ^ (l1_1.length : Int).toNat)) = ji11 := shl_small hji11; have hji11p : (IntKind.i64.wrap (1 * 2 ^ min l1_1.length 64)) = ji11 := hji11_; have hji11q : (l1_1.length : Int) ≤ 64 → (IntKind.i64.wrap (1 * 2 ^ l1_1.length)) = ji11 := hji11z; have hji11r : (IntKind.i64.wrap (2 ^ min l1_1.length 64)) = ji11 := by have h_ := hji11p; rw [Int.one_mul] at h_; exact h_
     have hji11s : (l1_1.length : Int) ≤ 64 → (IntKind.i64.wrap (2 ^ l1_1.length)) = ji11 := fun hle_ => by have h_ := hji11q hle_; rw [Int.one_mul] at h_; exact h_
     have hji11u : (IntKind.i64.wrap (2 ^ min (l1_1.length : Int).toNat 64)) = ji11 := by have h_ := hji11_; rw [Int.one_mul] at h_; exact h_
     have hji11v : (l1_1.length : Int) ≤ 64 → (IntKind.i64.wrap (2 ^ (l1_1.length : Int).toNat)) = ji11 := fun hle_ => by have h_ := hji11z hle_; rw [Int.one_mul] at h_; exact h_
     have hji11y : (wrap64 (1 * 2 ^ min (l1_1.length : Int).toNat 64)) = ji11 := (i64_w _).symm.trans hji11_; have hji11x : (l1_1.length : Int) ≤ 64 → (wrap64 (1 * 2 ^ (l1_1.length : Int).toNat)) = ji11 := fun h_ => (i64_w _).symm.trans (hji11z h_); replace H := Option.bind_eq_some_iff.mp H; obtain ⟨⟨t1368, t1369⟩, A120, H⟩ := H; replace H : (some (wrap64 ((ji11) - (wrap64 (t1368 * (wrap64 (1 + (ji11)))))), t1369)) = some (r1, r2) := H; have A12 := Aside0.mk A120; clear A120
     simp only [Option.some.injEq, Prod.mk.injEq] at H
     obtain ⟨rfl, rfl⟩ := H; have hnb13 := NB1363_0.out; have hnc13 := NB0_1363.out; have hcz14_0 : wr.cell? ⟨gb1363, 0, none⟩ = some (.int .i64 a1_0) := (blk_cell BK1363.out 0).trans rfl; have hcz14_1 : wr.cell? ⟨gb1363, 1, none⟩ = some (.slice A1_1 l1_1.length c1_1) := (blk_cell BK1363.out 1).trans rfl; have hfz14_0 := blk_frozen BK1363.out 0; have hfz14_1 := blk_frozen BK1363.out 1
     try go_wp2_with (first | ((with_reducible refine gate_callee (f := 23) rfl ?_); refine goesL_ (some 20) rfl rfl Tryz.func23 (by kernel_rfl) rfl #[.pointer (some ⟨g, 0, none⟩), .int .i64 40] rfl (by (try simp only [List.map_toArray, List.map_cons, List.map_nil]); first | done | rfl | (simp only [List.length_drop, List.length_take]; rfl)) ?_; (with_reducible refine (spec_l6Rd_pick.calls k1 g s0_0 x1001_1 40 t1366 t1367 w0 _ ?side1 ?side2 A9.out).mono ?_); (case side1 => repeat (first | (with_reducible first | exact HI0.out | apply IsS67.alloc | apply IsS67.drewN | apply IsS67.drew | apply IsS67.set_1 | refine IsS67.far ?_ NB0_1363.out _) | exact HI0.out)); (case side2 => repeat (first | (with_reducible first | exact HB.out | apply below_alloc | apply pw_below_drewN | apply below_drew1 | refine below_set ?_ (IsS67.ge HI0.out) | refine below_set ?_ GE1363.out) | exact HB.out)); rintro e w15 ⟨rfl, hi, hb, hk⟩; refine ⟨_, rfl, ?_⟩; have n0_ := Aside0.mk (KeepBut.blk hk (g' := gb1363) (o := .cells #[.int .i64 a1_0, .slice A1_1 l1_1.length c1_1] 28 (0, 0)) (viaB BK1363.out) NB1363_0.out (by simp)); have n1_ := Aside0.mk (KeepBut.trans (by repeat (first | (with_reducible first | exact HK.out | apply KeepBut.set_ | apply keep_drewN | apply keep_drew | apply keep_alloc | refine keep_far ?_ GW1363.out _) | exact HK.out)) hk (.inl rfl)); have n2_ := Aside0.mk (hb); have n3_ := Aside0.mk (hi); clear BK1363; clear HK; clear HB; clear HI0; have BK1363 := n0_; have HK := n1_; have HB := n2_; have HI0 := n3_; clear n0_ n1_ n2_ n3_; (try clear hb); (try clear hb2); (try clear hk); (try clear hi)))
     have n0_ := Aside0.mk (blk_drew BK1363.out); have n1_ := Aside0.mk (IsS67.drew HI0.out); have n2_ := Aside0.mk (keep_drew HK.out); have n3_ := Aside0.mk (below_drew1 HB.out); clear BK1363; clear HI0; clear HK; clear HB; have BK1363 := n0_; have HI0 := n1_; have HK := n2_; have HB := n3_; clear n0_ n1_ n2_ n3_
     refine start_ (n := 14) (S := fun w' => w'.cell? ⟨gb1363, 0, none⟩ = some (.int .i64 a1_0) ∧ w'.cell? ⟨gb1363, 1, none⟩ = some (.slice A1_1 l1_1.length c1_1)) (ds := []) #[false, false, false, false, false, false, false, false, false, false, false, false, false, false] (by kernel_rfl) rfl rfl ⟨(blk_cell BK1363.out 0).trans rfl, (blk_cell BK1363.out 1).trans rfl⟩ (fun hHeld => ?_); refine with_tabW spec_l91Way.tab7 spec_l91Way.bits7 (fun HT_ HW_ => ?_)
     generalize w15.drew = w16 at BK1363 HI0 HK HB hHeld ⊢
     refine pure_ (i := 0) (N := some 22) (v := ?_) (a' := ?_) #[true, false, false, false, false, false, false, false, false, false, false, false, false, false] rfl rfl (any_of HT_.out (by kernel_rfl)) (fun _ _ _ h => h) (Or.inl ⟨by rfl, ?_⟩) ?_ ?_
     rotate_left
     ·intro w'
      go_simp
      with_reducible rfl
     rotate_left
     ·simp only [Act.put, List.setIfInBounds_toArray, List.set_cons_zero, List.set_cons_succ, i64_w, i32_w]
      rfl
     refine pure_ (i := 4) (N := some 26) (v := ?_) (a' := ?_) #[true, false, false, false, true, false, false, false, false, false, false, false, false, false] rfl rfl (any_of HT_.out (by kernel_rfl)) (fun _ _ _ h => h) (Or.inl ⟨by rfl, ?_⟩) ?_ ?_
     rotate_left
     ·intro w'
      go_simp
      with_reducible rfl
     rotate_left
     ·simp only [Act.put, List.setIfInBounds_toArray, List.set_cons_zero, List.set_cons_succ, i64_w, i32_w]
      rfl
     refine pure_ (i := 6) (N := some 28) (v := ?_) (a' := ?_) #[true, false, false, false, true, false, true, false, false, false, false, false, false, false] rfl rfl (any_of HT_.out (by kernel_rfl)) (fun _ _ _ h => h) (Or.inl ⟨by rfl, ?_⟩) ?_ ?_
     rotate_left
     ·intro w'
      go_simp
      with_reducible rfl
     rotate_left
     ·simp only [Act.put, List.setIfInBounds_toArray, List.set_cons_zero, List.set_cons_succ, i64_w, i32_w]
      rfl
     refine take_ (i := 1) (N := some 23) (v := ?_) (a' := ?_) #[true, true, false, false, true, false, true, false, false, false, false, false, false, false] rfl rfl (take_ofW HT_.out HW_.out (by kernel_rfl)) (fun _ _ _ h => h) (Or.inl ⟨by rfl, ?_⟩) hHeld ?_ ?_
     rotate_left
     ·rintro w' ⟨s0, s1⟩
      go_simp
      with_reducible rfl
     rotate_left
     ·simp only [Act.put, List.setIfInBounds_toArray, List.set_cons_zero, List.set_cons_succ, i64_w, i32_w]
      rfl
     refine pure_ (i := 2) (N := some 24) (v := ?_) (a' := ?_) #[true, true, true, false, true, false, true, false, false, false, false, false, false, false] rfl rfl (any_of HT_.out (by kernel_rfl)) (fun _ _ _ h => h) (Or.inl ⟨by rfl, ?_⟩) ?_ ?_
     rotate_left
     ·intro w'
      go_simp
      with_reducible rfl
     rotate_left
     ·simp only [Act.put, List.setIfInBounds_toArray, List.set_cons_zero, List.set_cons_succ, i64_w, i32_w]
      rfl
     refine pure_ (i := 3) (N := some 25) (v := ?_) (a' := ?_) #[true, true, true, true, true, false, true, false, false, false, false, false, false, false] rfl rfl (any_of HT_.out (by kernel_rfl)) (fun _ _ _ h => h) (Or.inl ⟨by rfl, ?_⟩) ?_ ?_
     rotate_left
     ·intro w'
      go_simp
      with_reducible rfl
     rotate_left
     ·simp only [Act.put, List.setIfInBounds_toArray, List.set_cons_zero, List.set_cons_succ, i64_w, i32_w]
      rfl
     refine take_ (i := 7) (N := some 29) (v := ?_) (a' := ?_) #[true, true, true, true, true, false, true, true, false, false, false, false, false, false] rfl rfl (take_ofW HT_.out HW_.out (by kernel_rfl)) (fun _ _ _ h => h) (Or.inl ⟨by rfl, ?_⟩) hHeld ?_ ?_
     rotate_left
     ·rintro w' ⟨s0, s1⟩
      go_simp
      with_reducible rfl
     rotate_left
     ·simp only [Act.put, List.setIfInBounds_toArray, List.set_cons_zero, List.set_cons_succ, i64_w, i32_w]
      rfl
     refine pure_ (i := 8) (N := some 30) (v := ?_) (a' := ?_) #[true, true, true, true, true, false, true, true, true, false, false, false, false, false] rfl rfl (any_of HT_.out (by kernel_rfl)) (fun _ _ _ h => h) (Or.inl ⟨by rfl, ?_⟩) ?_ ?_
     rotate_left
     ·intro w'
      go_simp
      with_reducible rfl
     rotate_left
     ·simp only [Act.put, List.setIfInBounds_toArray, List.set_cons_zero, List.set_cons_succ, i64_w, i32_w]
      rfl
     refine pure_ (i := 9) (N := some 31) (v := ?_) (a' := ?_) #[true, true, true, true, true, false, true, true, true, true, false, false, false, false] rfl rfl (any_of HT_.out (by kernel_rfl)) (fun _ _ _ h => h) (Or.inl ⟨by rfl, ?_⟩) ?_ ?_
     rotate_left
     ·intro w'
      go_simp
      with_reducible rfl
     rotate_left
     ·simp only [Act.put, List.setIfInBounds_toArray, List.set_cons_zero, List.set_cons_succ, i64_w, i32_w]
      rfl
     refine pure_ (i := 10) (N := some 32) (v := ?_) (a' := ?_) #[true, true, true, true, true, false, true, true, true, true, true, false, false, false] rfl rfl (any_of HT_.out (by kernel_rfl)) (fun _ _ _ h => h) (Or.inl ⟨by rfl, ?_⟩) ?_ ?_
     rotate_left
     ·intro w'
      go_simp
      with_reducible rfl
     rotate_left
     ·simp only [Act.put, List.setIfInBounds_toArray, List.set_cons_zero, List.set_cons_succ, i64_w, i32_w]
      rfl
     refine one_ (i := 5) (N := some 27) #[true, true, true, true, true, true, true, true, true, true, true, false, false, false] rfl rfl (one_of HT_.out (by kernel_rfl)) (by decide) (fun K hK => ?_)
     refine goes_ Tryz.func23 (by kernel_rfl) rfl #[.pointer (some ⟨g, 0, none⟩), .int .i64 2] (by rfl) rfl rfl (by (try simp only [List.map_toArray, List.map_cons, List.map_nil]); first | done | rfl | (simp only [List.length_drop, List.length_take]; rfl)) ?_
     with_reducible refine (spec_l6Rd_pick.calls k1 g s0_0 t1367 2 t1368 t1369 w0 _ ?side1 ?side2 A12.out).mono ?_
     (case side1 => repeat (first | (with_reducible first | exact HI0.out | apply IsS67.alloc | apply IsS67.drewN | apply IsS67.drew | apply IsS67.set_1 | refine IsS67.far ?_ NB0_1363.out _) | exact HI0.out))
     (case side2 => repeat (first | (with_reducible first | exact HB.out | apply below_alloc | apply pw_below_drewN | apply below_drew1 | refine below_set ?_ (IsS67.ge HI0.out) | refine below_set ?_ GE1363.out) | exact HB.out))
     rintro e w17 ⟨rfl, hi, hb, hk⟩
     refine ⟨_, rfl, ?_⟩
     have n0_ := Aside0.mk (KeepBut.blk hk (g' := gb1363) (o := .cells #[.int .i64 a1_0, .slice A1_1 l1_1.length c1_1] 28 (0, 0)) (viaB BK1363.out) NB1363_0.out (by simp)); have n1_ := Aside0.mk (KeepBut.trans (by repeat (first | (with_reducible first | exact HK.out | apply KeepBut.set_ | apply keep_drewN | apply keep_drew | apply keep_alloc | refine keep_far ?_ GW1363.out _) | exact HK.out)) hk (.inl rfl)); have n2_ := Aside0.mk (hb); have n3_ := Aside0.mk (hi); clear BK1363; clear HK; clear HB; clear HI0; have BK1363 := n0_; have HK := n1_; have HB := n2_; have HI0 := n3_; clear n0_ n1_ n2_ n3_
     (try clear hb)
     (try clear hb2)
     (try clear hk)
     (try clear hi)
     refine hK.out _ _ ⟨(blk_cell BK1363.out 0).trans rfl, (blk_cell BK1363.out 1).trans rfl⟩ (fun hHeld => ?_)
     clear hK K
     refine norm_ (a' := ?_) ?_ ?_
     rotate_left
     ·show Act.put _ (some 27) _ = _
      simp only [Act.put, List.setIfInBounds_toArray, List.set_cons_zero, List.set_cons_succ, i64_w, i32_w]
      rfl
     refine pure_ (i := 11) (N := some 33) (v := ?_) (a' := ?_) #[true, true, true, true, true, true, true, true, true, true, true, true, false, false] rfl rfl (any_of HT_.out (by kernel_rfl)) (fun _ _ _ h => h) (Or.inl ⟨by rfl, ?_⟩) ?_ ?_
     rotate_left
     ·intro w'
      go_simp
      with_reducible rfl
     rotate_left
     ·simp only [Act.put, List.setIfInBounds_toArray, List.set_cons_zero, List.set_cons_succ, i64_w, i32_w]
      rfl
     refine pure_ (i := 12) (N := some 34) (v := ?_) (a' := ?_) #[true, true, true, true, true, true, true, true, true, true, true, true, true, false] rfl rfl (any_of HT_.out (by kernel_rfl)) (fun _ _ _ h => h) (Or.inl ⟨by rfl, ?_⟩) ?_ ?_
     rotate_left
     ·intro w'
      go_simp
      with_reducible rfl
     rotate_left
     ·simp only [Act.put, List.setIfInBounds_toArray, List.set_cons_zero, List.set_cons_succ, i64_w, i32_w]
      rfl
     refine pure_ (i := 13) (N := some 4) (v := ?_) (a' := ?_) #[true, true, true, true, true, true, true, true, true, true, true, true, true, true] rfl rfl (any_of HT_.out (by kernel_rfl)) (fun _ _ _ h => h) (Or.inl ⟨by rfl, ?_⟩) ?_ ?_
     rotate_left
     ·intro w'
      go_simp
      with_reducible rfl
     rotate_left
     ·simp only [Act.put, List.setIfInBounds_toArray, List.set_cons_zero, List.set_cons_succ, i64_w, i32_w]
      rfl
     refine done_ (done_of HT_.out (by kernel_rfl)) ?_
     try go_wp2
     go_ret
     exact ⟨by first | rfl | (simp [errW_none, errW_some] <;> rfl) | (simp only [← hji11]; first | rfl | (simp [errW_none, errW_some] <;> rfl)) | (simp [*, errW_none, errW_some] <;> rfl), by repeat (first | (with_reducible first | exact HI0.out | apply IsS67.alloc | apply IsS67.drewN | apply IsS67.drew | apply IsS67.set_1 | refine IsS67.far ?_ NB0_1363.out _) | exact HI0.out), by repeat (first | (with_reducible first | exact HB.out | apply below_alloc | apply pw_below_drewN | apply below_drew1 | refine below_set ?_ (IsS67.ge HI0.out) | refine below_set ?_ GE1363.out) | exact HB.out), by repeat (first | (with_reducible first | exact HK.out | apply KeepBut.set_ | apply keep_drewN | apply keep_drew | apply keep_alloc | refine keep_far ?_ GW1363.out _) | exact HK.out)⟩
    ·rw [if_neg c10] at H
     have c10b0 : (t1366 == 0) = false := beq_eq_false_iff_ne.mpr c10; have c10b1 : (t1366 != 0) = true := bne_iff_ne.mpr c10
     simp only [Option.some.injEq, Prod.mk.injEq] at H
     obtain ⟨rfl, rfl⟩ := H; have hnb18 := NB1363_0.out; have hnc18 := NB0_1363.out; have hcz19_0 : wr.cell? ⟨gb1363, 0, none⟩ = some (.int .i64 a1_0) := (blk_cell BK1363.out 0).trans rfl; have hcz19_1 : wr.cell? ⟨gb1363, 1, none⟩ = some (.slice A1_1 l1_1.length c1_1) := (blk_cell BK1363.out 1).trans rfl; have hfz19_0 := blk_frozen BK1363.out 0; have hfz19_1 := blk_frozen BK1363.out 1
     go_wp2_with (first | ((with_reducible refine gate_callee (f := 23) rfl ?_); refine goesL_ (some 20) rfl rfl Tryz.func23 (by kernel_rfl) rfl #[.pointer (some ⟨g, 0, none⟩), .int .i64 40] rfl (by (try simp only [List.map_toArray, List.map_cons, List.map_nil]); first | done | rfl | (simp only [List.length_drop, List.length_take]; rfl)) ?_; (with_reducible refine (spec_l6Rd_pick.calls k1 g s0_0 x1001_1 40 t1366 t1367 w0 _ ?side1 ?side2 A9.out).mono ?_); (case side1 => repeat (first | (with_reducible first | exact HI0.out | apply IsS67.alloc | apply IsS67.drewN | apply IsS67.drew | apply IsS67.set_1 | refine IsS67.far ?_ NB0_1363.out _) | exact HI0.out)); (case side2 => repeat (first | (with_reducible first | exact HB.out | apply below_alloc | apply pw_below_drewN | apply below_drew1 | refine below_set ?_ (IsS67.ge HI0.out) | refine below_set ?_ GE1363.out) | exact HB.out)); rintro e w20 ⟨rfl, hi, hb, hk⟩; refine ⟨_, rfl, ?_⟩; have n0_ := Aside0.mk (KeepBut.blk hk (g' := gb1363) (o := .cells #[.int .i64 a1_0, .slice A1_1 l1_1.length c1_1] 28 (0, 0)) (viaB BK1363.out) NB1363_0.out (by simp)); have n1_ := Aside0.mk (KeepBut.trans (by repeat (first | (with_reducible first | exact HK.out | apply KeepBut.set_ | apply keep_drewN | apply keep_drew | apply keep_alloc | refine keep_far ?_ GW1363.out _) | exact HK.out)) hk (.inl rfl)); have n2_ := Aside0.mk (hb); have n3_ := Aside0.mk (hi); clear BK1363; clear HK; clear HB; clear HI0; have BK1363 := n0_; have HK := n1_; have HB := n2_; have HI0 := n3_; clear n0_ n1_ n2_ n3_; (try clear hb); (try clear hb2); (try clear hk); (try clear hi)))
     go_ret
     exact ⟨by first | rfl | (simp [errW_none, errW_some] <;> rfl) | (simp [*, errW_none, errW_some] <;> rfl), by repeat (first | (with_reducible first | exact HI0.out | apply IsS67.alloc | apply IsS67.drewN | apply IsS67.drew | apply IsS67.set_1 | refine IsS67.far ?_ NB0_1363.out _) | exact HI0.out), by repeat (first | (with_reducible first | exact HB.out | apply below_alloc | apply pw_below_drewN | apply below_drew1 | refine below_set ?_ (IsS67.ge HI0.out) | refine below_set ?_ GE1363.out) | exact HB.out), by repeat (first | (with_reducible first | exact HK.out | apply KeepBut.set_ | apply keep_drewN | apply keep_drew | apply keep_alloc | refine keep_far ?_ GW1363.out _) | exact HK.out)⟩

/-! ### spec_l91One: function 41 -/
def spec_l91One.f (k : Nat) (l0 : List Int) : Option (Int × (List (S44)) × Int) := (spec_l6Open.f l0).bind fun bt1371 => ((spec_l91Graph.f k bt1371.1 bt1371.2).bind fun bt1374 => ((spec_l91Way.f k bt1371.1 bt1374.2.2 bt1374.1 bt1374.2.1).bind fun bt1380 => (some (bt1374.1, bt1374.2.1, bt1380.1))))
set_option maxHeartbeats 8000000 in
set_option maxRecDepth 100000 in
theorem spec_l91One.calls (k : Nat) (A0 : Option Addr) (c0 : Nat) (l0 : List Int) (r1 : Int) (r2 : List (S44)) (r3 : Int) (w : World) (hr0 : Kd.C (Kd.int .u8) w A0 l0.length l0) (hc0 : l0.length ≤ c0) (h : spec_l91One.f k l0 = some (r1, r2, r3)) :
  Calls Tryz.prog 41 #[.slice A0 l0.length c0] w fun e w' => ∃ v1_ : Value, e = .returned (.tuple #[.agg #[.int .i64 r1, v1_], .int .i64 r3]) ∧ Kd.R k44 44 w' w.heap.size (fun _ => True) v1_ r2 ∧ Below w.heap.size w w' := by
 have hu28 := Tryz.underlying28; have HR0 := Aside0.mk hr0; have HC0 := Aside0.mk hc0; clear hr0 hc0; have HB := Aside0.mk (Below.refl w.heap.size w); have H : ((spec_l6Open.f l0).bind fun bt1371 => ((spec_l91Graph.f k bt1371.1 bt1371.2).bind fun bt1374 => ((spec_l91Way.f k bt1371.1 bt1374.2.2 bt1374.1 bt1374.2.1).bind fun bt1380 => (some (bt1374.1, bt1374.2.1, bt1380.1))))) = some (r1, r2, r3) := h; clear h; replace H := Option.bind_eq_some_iff.mp H; obtain ⟨⟨t1371, t1372⟩, A20, H⟩ := H; replace H : ((spec_l91Graph.f k t1371 t1372).bind fun bt1374 => ((spec_l91Way.f k t1371 bt1374.2.2 bt1374.1 bt1374.2.1).bind fun bt1380 => (some (bt1374.1, bt1374.2.1, bt1380.1)))) = some (r1, r2, r3) := H; have A2 := Aside0.mk A20; clear A20; replace H := Option.bind_eq_some_iff.mp H; obtain ⟨⟨t1374, t1375, t1378⟩, A30, H⟩ := H; replace H : ((spec_l91Way.f k t1371 t1378 t1374 t1375).bind fun bt1380 => (some (t1374, t1375, bt1380.1))) = some (r1, r2, r3) := H; have A3 := Aside0.mk A30; clear A30; replace H := Option.bind_eq_some_iff.mp H; obtain ⟨⟨t1380, t1381⟩, A40, H⟩ := H; replace H : (some (t1374, t1375, t1380)) = some (r1, r2, r3) := H; have A4 := Aside0.mk A40; clear A40
 simp only [Option.some.injEq, Prod.mk.injEq] at H
 obtain ⟨rfl, rfl, rfl⟩ := H
 go_enter Tryz.func41, Tryz.ntmps41
 try go_wp2_with (first | ((with_reducible refine gate_dst (N := 2) rfl ?_); refine box_event ?hg (N := 2) ?hd (cs := #[.int .i64 0, .slice none 0 0]) (t := 28) ?hr ?_; (case hd => rfl); (case hg => rfl); (case hr => first | (go_simp; done) | (go_simp; rfl)); intro gb1370 hg w5 hbox hb; have n0_ := Aside0.mk (below_step (viaW HB.out) hb); have n1_ := Aside0.mk (hbox); have n2_ := Aside0.mk ((by rw [hg]; exact (below_size (viaW HB.out)) : w.heap.size ≤ gb1370)); have n3_ := Aside0.mk ((by rw [hg]; exact (below_size (viaW HB.out)) : w.heap.size ≤ gb1370)); clear HB; have HB := n0_; have BK1370 := n1_; have GW1370 := n2_; have GE1370 := n3_; clear n0_ n1_ n2_ n3_; clear hb hbox hg) | ((with_reducible refine gate_callee (f := 22) rfl ?_); refine goesL_ (some 7) rfl rfl Tryz.func22 (by kernel_rfl) rfl #[.slice A0 l0.length c0] rfl (by (try simp only [List.map_toArray, List.map_cons, List.map_nil]); first | done | rfl | (simp only [List.length_drop, List.length_take]; rfl)) ?_; (with_reducible refine (spec_l6Open.calls _ _ l0 t1371 t1372 w _ ?side1 ?side2 ?side3 A2.out).mono ?_); (case side1 => repeat (first | (with_reducible first | exact HB.out | apply below_alloc | apply pw_below_drewN | apply below_drew1 | refine below_set ?_ GE1370.out) | exact HB.out)); (case side2 => exact HR0.out); (case side3 => exact HC0.out); rintro e w6 ⟨g1373, rfl, hi, hb, hb2⟩; refine ⟨_, rfl, ?_⟩; have n0_ := Aside0.mk (blk_below (g := gb1370) (o := .cells #[.int .i64 0, .slice none 0 0] 28 (0, 0)) (viaB BK1370.out) hb2); have n1_ := Aside0.mk (hb); have n2_ := Aside0.mk (hi); have n3_ := Aside0.mk (IsS67.ne_blk hi (blk_below (g := gb1370) (o := .cells #[.int .i64 0, .slice none 0 0] 28 (0, 0)) (viaB BK1370.out) hb2) (by decide)); have n4_ := Aside0.mk (Ne.symm (IsS67.ne_blk hi (blk_below (g := gb1370) (o := .cells #[.int .i64 0, .slice none 0 0] 28 (0, 0)) (viaB BK1370.out) hb2) (by decide))); clear BK1370; clear HB; have BK1370 := n0_; have HB := n1_; have HI1373 := n2_; have NB1373_1370 := n3_; have NB1370_1373 := n4_; clear n0_ n1_ n2_ n3_ n4_; (try clear hb); (try clear hb2); (try clear hk); (try clear hi)) | ((with_reducible refine gate_callee (f := 66) rfl ?_); refine goesL_ (some 9) rfl rfl Tryz.func66 (by kernel_rfl) rfl #[.pointer (some ⟨g1373, 0, none⟩)] rfl (by (try simp only [List.map_toArray, List.map_cons, List.map_nil]); first | done | rfl | (simp only [List.length_drop, List.length_take]; rfl)) ?_; (with_reducible refine (spec_l91Graph.calls k g1373 t1371 t1372 t1374 t1375 t1378 w _ ?side1 ?side2 A3.out).mono ?_); (case side1 => repeat (first | (with_reducible first | exact HI1373.out | apply IsS67.alloc | apply IsS67.drewN | apply IsS67.drew | apply IsS67.set_1 | refine IsS67.far ?_ NB1373_1370.out _) | exact HI1373.out)); (case side2 => repeat (first | (with_reducible first | exact HB.out | apply below_alloc | apply pw_below_drewN | apply below_drew1 | refine below_set ?_ (IsS67.ge HI1373.out) | refine below_set ?_ GE1370.out) | exact HB.out)); rintro e w7 ⟨v1376, rfl, ho0, hi, hb, hk⟩; refine ⟨_, rfl, ?_⟩; have n0_ := Aside0.mk (KeepBut.blk hk (g' := gb1370) (o := .cells #[.int .i64 0, .slice none 0 0] 28 (0, 0)) (viaB BK1370.out) NB1370_1373.out (by simp)); have n1_ := Aside0.mk (Kd.R_lower ho0 (below_size (by repeat (first | (with_reducible first | exact HB.out | apply below_alloc | apply pw_below_drewN | apply below_drew1 | refine below_set ?_ (IsS67.ge HI1373.out) | refine below_set ?_ GE1370.out) | exact HB.out)))); have n2_ := Aside0.mk (hb); have n3_ := Aside0.mk (hi); clear BK1370; clear HB; clear HI1373; have BK1370 := n0_; have HO1377 := n1_; have HB := n2_; have HI1373 := n3_; clear n0_ n1_ n2_ n3_; (try clear hb); (try clear hb2); (try clear hk); (try clear hi); (try clear ho0)) | ((with_reducible refine gate_dst (N := 5) rfl ?_); refine box_event ?hg (N := 5) ?hd (cs := #[.int .i64 0, .slice none 0 0]) (t := 28) ?hr ?_; (case hd => rfl); (case hg => rfl); (case hr => first | (go_simp; done) | (go_simp; rfl)); intro gb1379 hg w8 hbox hb; have n0_ := Aside0.mk (Kd.R_below (viaR HO1377.out) hb); have n1_ := Aside0.mk (blk_below (g := gb1370) (o := .cells #[.int .i64 0, .slice none 0 0] 28 (0, 0)) (viaB BK1370.out) hb); have n2_ := Aside0.mk (IsS67.below (by repeat (first | (with_reducible first | exact HI1373.out | apply IsS67.alloc | apply IsS67.drewN | apply IsS67.drew | apply IsS67.set_1 | refine IsS67.far ?_ NB1373_1370.out _) | exact HI1373.out)) hb); have n3_ := Aside0.mk (below_step (by repeat (first | (with_reducible first | exact HB.out | apply below_alloc | apply pw_below_drewN | apply below_drew1 | refine below_set ?_ (IsS67.ge HI1373.out) | refine below_set ?_ GE1370.out) | exact HB.out)) hb); have n4_ := Aside0.mk (hbox); have n5_ := Aside0.mk ((by rw [hg]; exact (below_size (by repeat (first | (with_reducible first | exact HB.out | apply below_alloc | apply pw_below_drewN | apply below_drew1 | refine below_set ?_ (IsS67.ge HI1373.out) | refine below_set ?_ GE1370.out) | exact HB.out))) : w.heap.size ≤ gb1379)); have n6_ := Aside0.mk ((by rw [hg]; exact (below_size (by repeat (first | (with_reducible first | exact HB.out | apply below_alloc | apply pw_below_drewN | apply below_drew1 | refine below_set ?_ (IsS67.ge HI1373.out) | refine below_set ?_ GE1370.out) | exact HB.out))) : w.heap.size ≤ gb1379)); have n7_ := Aside0.mk ((by rw [hg]; exact Nat.ne_of_lt (blk_lt (g := gb1370) (o := .cells #[.int .i64 0, .slice none 0 0] 28 (0, 0)) (viaB BK1370.out)) : gb1370 ≠ gb1379)); have n8_ := Aside0.mk ((by rw [hg]; exact Nat.ne_of_gt (blk_lt (g := gb1370) (o := .cells #[.int .i64 0, .slice none 0 0] 28 (0, 0)) (viaB BK1370.out)) : gb1379 ≠ gb1370)); have n9_ := Aside0.mk ((by rw [hg]; exact Nat.ne_of_lt (IsS67.lt (show IsS67 w _ g1373 t1371 t1378 from by repeat (first | (with_reducible first | exact HI1373.out | apply IsS67.alloc | apply IsS67.drewN | apply IsS67.drew | apply IsS67.set_1 | refine IsS67.far ?_ NB1373_1370.out _) | exact HI1373.out))) : g1373 ≠ gb1379)); have n10_ := Aside0.mk ((by rw [hg]; exact Nat.ne_of_gt (IsS67.lt (show IsS67 w _ g1373 t1371 t1378 from by repeat (first | (with_reducible first | exact HI1373.out | apply IsS67.alloc | apply IsS67.drewN | apply IsS67.drew | apply IsS67.set_1 | refine IsS67.far ?_ NB1373_1370.out _) | exact HI1373.out))) : gb1379 ≠ g1373)); clear HO1377; clear BK1370; clear HI1373; clear HB; have HO1377 := n0_; have BK1370 := n1_; have HI1373 := n2_; have HB := n3_; have BK1379 := n4_; have GW1379 := n5_; have GE1379 := n6_; have NB1370_1379 := n7_; have NB1379_1370 := n8_; have NB1373_1379 := n9_; have NB1379_1373 := n10_; clear n0_ n1_ n2_ n3_ n4_ n5_ n6_ n7_ n8_ n9_ n10_; clear hb hbox hg; have hnb9 := NB1379_1370.out; have hnc9 := NB1370_1379.out; have hnb10 := NB1379_1373.out; have hnc10 := NB1373_1379.out; have hcz11_0 : w8.cell? ⟨gb1379, 0, none⟩ = some (.int .i64 0) := (blk_cell BK1379.out 0).trans rfl; have hcz11_1 : w8.cell? ⟨gb1379, 1, none⟩ = some (.slice none 0 0) := (blk_cell BK1379.out 1).trans rfl; have hfz11_0 := blk_frozen BK1379.out 0; have hfz11_1 := blk_frozen BK1379.out 1; obtain ⟨Ao12, co12, eo12⟩ := Kd.R_slice HO1377.out; subst eo12))
 have n0_ : Aside0 (Kd.R k44 44 ((w8.setCell ⟨gb1379, 0, none⟩ (.int .i64 t1374)).setCell ⟨gb1379, 1, none⟩ (.slice Ao12 t1375.length co12)) w.heap.size (fun _ => True) (.slice Ao12 t1375.length co12) t1375) := ⟨by (with_reducible repeat (first | apply Kd.R_alloc | apply Kd.R_drewN | apply Kd.R_drew)); exact Kd.R_mono (Kd.R_far (p := ⟨gb1379, 1, none⟩) (Kd.R_far (p := ⟨gb1379, 0, none⟩) (Kd.R_types HO1377.out BK1379.out (by decide)) (fun _ hk => hk.2) (.int .i64 t1374)) (fun _ hk => hk.2) (.slice Ao12 t1375.length co12)) (fun _ hk => trivial)⟩; have n1_ : Aside0 (((w8.setCell ⟨gb1379, 0, none⟩ (.int .i64 t1374)).setCell ⟨gb1379, 1, none⟩ (.slice Ao12 t1375.length co12)).heap[gb1370]? = some (.cells #[.int .i64 0, .slice none 0 0] 28 (0, 0))) := ⟨by (with_reducible repeat (first | refine blk_drewN ?_ _ | refine blk_drew ?_ | refine blk_alloc ?_ _)); refine blk_far ?_ NB1370_1379.out _; (with_reducible repeat (first | refine blk_drewN ?_ _ | refine blk_drew ?_ | refine blk_alloc ?_ _)); refine blk_far ?_ NB1370_1379.out _; (with_reducible repeat (first | refine blk_drewN ?_ _ | refine blk_drew ?_ | refine blk_alloc ?_ _)); exact BK1370.out⟩; have n2_ : Aside0 (((w8.setCell ⟨gb1379, 0, none⟩ (.int .i64 t1374)).setCell ⟨gb1379, 1, none⟩ (.slice Ao12 t1375.length co12)).heap[gb1379]? = some (.cells #[.int .i64 t1374, .slice Ao12 t1375.length co12] 28 (0, 0))) := ⟨by (with_reducible repeat (first | refine blk_drewN ?_ _ | refine blk_drew ?_ | refine blk_alloc ?_ _)); refine blk_put (cs := #[.int .i64 t1374, .slice none 0 0]) ?_ 1 _ rfl; (with_reducible repeat (first | refine blk_drewN ?_ _ | refine blk_drew ?_ | refine blk_alloc ?_ _)); refine blk_put (cs := #[.int .i64 0, .slice none 0 0]) ?_ 0 _ rfl; (with_reducible repeat (first | refine blk_drewN ?_ _ | refine blk_drew ?_ | refine blk_alloc ?_ _)); exact BK1379.out⟩; have n3_ : Aside0 (IsS67 w ((w8.setCell ⟨gb1379, 0, none⟩ (.int .i64 t1374)).setCell ⟨gb1379, 1, none⟩ (.slice Ao12 t1375.length co12)) g1373 t1371 t1378) := ⟨by repeat (first | (with_reducible first | exact HI1373.out | apply IsS67.alloc | apply IsS67.drewN | apply IsS67.drew | apply IsS67.set_1 | refine IsS67.far ?_ NB1373_1370.out _ | refine IsS67.far ?_ NB1373_1379.out _) | exact HI1373.out)⟩; have n4_ : Aside0 (Below w.heap.size w ((w8.setCell ⟨gb1379, 0, none⟩ (.int .i64 t1374)).setCell ⟨gb1379, 1, none⟩ (.slice Ao12 t1375.length co12))) := ⟨by repeat (first | (with_reducible first | exact HB.out | apply below_alloc | apply pw_below_drewN | apply below_drew1 | refine below_set ?_ (IsS67.ge HI1373.out) | refine below_set ?_ GE1370.out | refine below_set ?_ GE1379.out) | exact HB.out)⟩
 (try clear HO1377)
 (try clear BK1370)
 (try clear BK1379)
 (try clear HI1373)
 (try clear HB)
 generalize ((w8.setCell ⟨gb1379, 0, none⟩ (.int .i64 t1374)).setCell ⟨gb1379, 1, none⟩ (.slice Ao12 t1375.length co12)) = w13 at n0_ n1_ n2_ n3_ n4_ ⊢
 have HO1377 := n0_; have BK1370 := n1_; have BK1379 := n2_; have HI1373 := n3_; have HB := n4_; clear n0_ n1_ n2_ n3_ n4_; have n0_ := Aside0.mk (Kd.R_drew HO1377.out); have n1_ := Aside0.mk (blk_drew BK1370.out); have n2_ := Aside0.mk (blk_drew BK1379.out); have n3_ := Aside0.mk (IsS67.drew HI1373.out); have n4_ := Aside0.mk (below_drew1 HB.out); clear HO1377; clear BK1370; clear BK1379; clear HI1373; clear HB; have HO1377 := n0_; have BK1370 := n1_; have BK1379 := n2_; have HI1373 := n3_; have HB := n4_; clear n0_ n1_ n2_ n3_ n4_
 refine start_ (n := 6) (S := fun w' => w'.cell? ⟨gb1379, 0, none⟩ = some (.int .i64 t1374) ∧ w'.cell? ⟨gb1379, 1, none⟩ = some (.slice Ao12 t1375.length co12)) (ds := []) #[false, false, false, false, false, false] (by kernel_rfl) rfl rfl ⟨(blk_cell BK1379.out 0).trans rfl, (blk_cell BK1379.out 1).trans rfl⟩ (fun hHeld => ?_)
 generalize w13.drew = w14 at HO1377 BK1370 BK1379 HI1373 HB hHeld ⊢
 refine pure_ (i := 1) (N := some 11) (v := ?_) (a' := ?_) #[false, true, false, false, false, false] rfl rfl (by kernel_rfl) (fun _ _ _ h => h) (Or.inl ⟨by rfl, ?_⟩) ?_ ?_
 rotate_left
 ·intro w'
  go_simp
  with_reducible rfl
 rotate_left
 ·simp only [Act.put, List.setIfInBounds_toArray, List.set_cons_zero, List.set_cons_succ, i64_w, i32_w]
  rfl
 refine take_ (i := 0) (N := some 10) (v := ?_) (a' := ?_) #[true, true, false, false, false, false] rfl rfl (by kernel_rfl) (fun _ _ _ h => h) (Or.inl ⟨by rfl, ?_⟩) hHeld ?_ ?_
 rotate_left
 ·rintro w' ⟨s0, s1⟩
  go_simp
  with_reducible rfl
 rotate_left
 ·simp only [Act.put, List.setIfInBounds_toArray, List.set_cons_zero, List.set_cons_succ, i64_w, i32_w]
  rfl
 refine take_ (i := 2) (N := some 12) (v := ?_) (a' := ?_) #[true, true, true, false, false, false] rfl rfl (by kernel_rfl) (fun _ _ _ h => h) (Or.inl ⟨by rfl, ?_⟩) hHeld ?_ ?_
 rotate_left
 ·rintro w' ⟨s0, s1⟩
  go_simp
  with_reducible rfl
 rotate_left
 ·simp only [Act.put, List.setIfInBounds_toArray, List.set_cons_zero, List.set_cons_succ, i64_w, i32_w]
  rfl
 refine one_ (i := 3) (N := some 13) #[true, true, true, true, false, false] rfl rfl (by kernel_rfl) (by decide) (fun K hK => ?_)
 refine goes_ Tryz.func70 (by kernel_rfl) rfl #[.pointer (some ⟨g1373, 0, none⟩), .agg #[.int .i64 t1374, .slice Ao12 t1375.length co12]] (by rfl) rfl rfl (by (try simp only [List.map_toArray, List.map_cons, List.map_nil]); first | done | rfl | (simp only [List.length_drop, List.length_take]; rfl)) ?_
 with_reducible refine (spec_l91Way.calls k g1373 t1371 t1378 t1374 _ _ t1375 t1380 t1381 w _ ?side1 ?side2 ?side3 ?side4 A4.out).mono ?_
 (case side1 => repeat (first | (with_reducible first | exact HI1373.out | apply IsS67.alloc | apply IsS67.drewN | apply IsS67.drew | apply IsS67.set_1 | refine IsS67.far ?_ NB1373_1370.out _ | refine IsS67.far ?_ NB1373_1379.out _) | exact HI1373.out))
 (case side2 => repeat (first | (with_reducible first | exact HB.out | apply below_alloc | apply pw_below_drewN | apply below_drew1 | refine below_set ?_ (IsS67.ge HI1373.out) | refine below_set ?_ GE1370.out | refine below_set ?_ GE1379.out) | exact HB.out))
 (case side3 => exact Kd.C_foot_own (IsS67.apart (show IsS67 w _ g1373 t1371 t1378 from by repeat (first | (with_reducible first | exact HI1373.out | apply IsS67.alloc | apply IsS67.drewN | apply IsS67.drew | apply IsS67.set_1 | refine IsS67.far ?_ NB1373_1370.out _ | refine IsS67.far ?_ NB1373_1379.out _) | exact HI1373.out)) (viaR HO1377.out) (by decide)) (fun _ h_ => h_.2))
 (case side4 => exact (Kd.R_reads' HO1377.out).2.1)
 rintro e w15 ⟨rfl, hi, hb, hk⟩
 refine ⟨_, rfl, ?_⟩
 have n0_ := Aside0.mk (KeepBut.blk hk (g' := gb1370) (o := .cells #[.int .i64 0, .slice none 0 0] 28 (0, 0)) (viaB BK1370.out) NB1370_1373.out (by simp)); have n1_ := Aside0.mk (Kd.R_mono (Kd.R_keep (IsS67.apart (show IsS67 w _ g1373 t1371 t1378 from by repeat (first | (with_reducible first | exact HI1373.out | apply IsS67.alloc | apply IsS67.drewN | apply IsS67.drew | apply IsS67.set_1 | refine IsS67.far ?_ NB1373_1370.out _ | refine IsS67.far ?_ NB1373_1379.out _) | exact HI1373.out)) (viaR HO1377.out) (by decide)) hk (fun _ h => h.2)) (fun _ h => h.1)); have n2_ := Aside0.mk (KeepBut.blk hk (g' := gb1379) (o := .cells #[.int .i64 t1374, .slice Ao12 t1375.length co12] 28 (0, 0)) (viaB BK1379.out) NB1379_1373.out (by simp)); have n3_ := Aside0.mk (hb); have n4_ := Aside0.mk (hi); clear BK1370; clear HO1377; clear BK1379; clear HB; clear HI1373; have BK1370 := n0_; have HO1377 := n1_; have BK1379 := n2_; have HB := n3_; have HI1373 := n4_; clear n0_ n1_ n2_ n3_ n4_
 (try clear hb)
 (try clear hb2)
 (try clear hk)
 (try clear hi)
 refine hK.out _ _ ⟨(blk_cell BK1379.out 0).trans rfl, (blk_cell BK1379.out 1).trans rfl⟩ (fun hHeld => ?_)
 clear hK K
 refine norm_ (a' := ?_) ?_ ?_
 rotate_left
 ·show Act.put _ (some 13) _ = _
  simp only [Act.put, List.setIfInBounds_toArray, List.set_cons_zero, List.set_cons_succ, i64_w, i32_w]
  rfl
 refine one_ (i := 4) (N := none) #[true, true, true, true, true, false] rfl rfl (by kernel_rfl) (by decide) (fun K hK => ?_)
 have hs16 : w15.cell? ⟨gb1370, 0, none⟩ = some (.int .i64 0) := (blk_cell BK1370.out 0).trans rfl; have hfs16 := blk_frozen BK1370.out 0; have hns16_1 := NB1379_1370.out; have hms16_1 := NB1370_1379.out; have hs17 : w15.cell? ⟨gb1370, 1, none⟩ = some (.slice none 0 0) := (blk_cell BK1370.out 1).trans rfl; have hfs17 := blk_frozen BK1370.out 1; have hns17_1 := NB1379_1370.out; have hms17_1 := NB1370_1379.out
 refine skip_ (w1 := ?_) (by rfl) rfl ?_ ?_
 rotate_left
 ·go_simp
  rfl
 refine hK.out _ _ ⟨((cell_far (p := ⟨gb1370, _, none⟩) NB1379_1370.out _).trans (((cell_far (p := ⟨gb1370, _, none⟩) NB1379_1370.out _).trans (hHeld.1)))), ((cell_far (p := ⟨gb1370, _, none⟩) NB1379_1370.out _).trans (((cell_far (p := ⟨gb1370, _, none⟩) NB1379_1370.out _).trans (hHeld.2))))⟩ (fun hHeld => ?_)
 clear hK K
 refine pure_ (i := 5) (N := some 3) (v := ?_) (a' := ?_) #[true, true, true, true, true, true] rfl rfl (by kernel_rfl) (fun _ _ _ h => h) (Or.inl ⟨by rfl, ?_⟩) ?_ ?_
 rotate_left
 ·intro w'
  go_simp
  with_reducible rfl
 rotate_left
 ·simp only [Act.put, List.setIfInBounds_toArray, List.set_cons_zero, List.set_cons_succ, i64_w, i32_w]
  rfl
 refine done_ (by kernel_rfl) ?_
 try go_wp2
 refine bodyPost_ret (results_ct rfl _ _ gb1370 28 #[.int .i64 t1374, .slice Ao12 t1375.length co12] (0, 0) _ rfl (by (with_reducible repeat (first | refine blk_drewN ?_ _ | refine blk_drew ?_ | refine blk_alloc ?_ _)); refine blk_put (cs := #[.int .i64 t1374, .slice none 0 0]) ?_ 1 _ rfl; (with_reducible repeat (first | refine blk_drewN ?_ _ | refine blk_drew ?_ | refine blk_alloc ?_ _)); refine blk_put (cs := #[.int .i64 0, .slice none 0 0]) ?_ 0 _ rfl; (with_reducible repeat (first | refine blk_drewN ?_ _ | refine blk_drew ?_ | refine blk_alloc ?_ _)); exact BK1370.out) Tryz.underlying28 rfl (by kernel_rfl)) rfl ?_
 exact ⟨_, by first | rfl | (simp [errW_none, errW_some] <;> rfl) | (simp [*, errW_none, errW_some] <;> rfl), by (with_reducible repeat (first | apply Kd.R_alloc | apply Kd.R_drewN | apply Kd.R_drew)); exact Kd.R_mono (Kd.R_far (p := ⟨gb1370, 1, none⟩) (Kd.R_far (p := ⟨gb1370, 0, none⟩) (Kd.R_types HO1377.out BK1370.out (by decide)) (fun _ hk => hk.2) (.int .i64 t1374)) (fun _ hk => hk.2) (.slice Ao12 t1375.length co12)) (fun _ hk => trivial), by repeat (first | (with_reducible first | exact HB.out | apply below_alloc | apply pw_below_drewN | apply below_drew1 | refine below_set ?_ (IsS67.ge HI1373.out) | refine below_set ?_ GE1370.out | refine below_set ?_ GE1379.out) | exact HB.out)⟩

/-! ### spec_DrawPathMend: function 19 -/
def spec_DrawPathMend.f (k : Nat) (l0 : List Int) : Option (Int × (List (S44)) × Int) := (spec_l91One.f k l0).bind fun bt1383 => (some (bt1383.1, bt1383.2.1, bt1383.2.2))
set_option maxHeartbeats 8000000 in
set_option maxRecDepth 100000 in
theorem spec_DrawPathMend.calls (k : Nat) (A0 : Option Addr) (c0 : Nat) (l0 : List Int) (r1 : Int) (r2 : List (S44)) (r3 : Int) (w : World) (hr0 : Kd.C (Kd.int .u8) w A0 l0.length l0) (hc0 : l0.length ≤ c0) (h : spec_DrawPathMend.f k l0 = some (r1, r2, r3)) :
  Calls Tryz.prog 19 #[.slice A0 l0.length c0] w fun e w' => ∃ v1_ : Value, e = .returned (.tuple #[.agg #[.int .i64 r1, v1_], .int .i64 r3]) ∧ Kd.R k44 44 w' w.heap.size (fun _ => True) v1_ r2 ∧ Below w.heap.size w w' := by
 have hu28 := Tryz.underlying28; have HR0 := Aside0.mk hr0; have HC0 := Aside0.mk hc0; clear hr0 hc0; have HB := Aside0.mk (Below.refl w.heap.size w); have H : ((spec_l91One.f k l0).bind fun bt1383 => (some (bt1383.1, bt1383.2.1, bt1383.2.2))) = some (r1, r2, r3) := h; clear h; replace H := Option.bind_eq_some_iff.mp H; obtain ⟨⟨t1383, t1384, t1387⟩, A20, H⟩ := H; replace H : (some (t1383, t1384, t1387)) = some (r1, r2, r3) := H; have A2 := Aside0.mk A20; clear A20
 simp only [Option.some.injEq, Prod.mk.injEq] at H
 obtain ⟨rfl, rfl, rfl⟩ := H
 go_enter Tryz.func19, Tryz.ntmps19
 go_wp2_with (first | ((with_reducible refine gate_dst (N := 2) rfl ?_); refine box_event ?hg (N := 2) ?hd (cs := #[.int .i64 0, .slice none 0 0]) (t := 28) ?hr ?_; (case hd => rfl); (case hg => rfl); (case hr => first | (go_simp; done) | (go_simp; rfl)); intro gb1382 hg w3 hbox hb; have n0_ := Aside0.mk (below_step (viaW HB.out) hb); have n1_ := Aside0.mk (hbox); have n2_ := Aside0.mk ((by rw [hg]; exact (below_size (viaW HB.out)) : w.heap.size ≤ gb1382)); have n3_ := Aside0.mk ((by rw [hg]; exact (below_size (viaW HB.out)) : w.heap.size ≤ gb1382)); clear HB; have HB := n0_; have BK1382 := n1_; have GW1382 := n2_; have GE1382 := n3_; clear n0_ n1_ n2_ n3_; clear hb hbox hg) | ((with_reducible refine gate_callee (f := 41) rfl ?_); refine goesL_ (some 5) rfl rfl Tryz.func41 (by kernel_rfl) rfl #[.slice A0 l0.length c0] rfl (by (try simp only [List.map_toArray, List.map_cons, List.map_nil]); first | done | rfl | (simp only [List.length_drop, List.length_take]; rfl)) ?_; (with_reducible refine (spec_l91One.calls k _ _ l0 t1383 t1384 t1387 _ ?side1 ?side2 A2.out).mono ?_); (case side1 => repeat (first | exact (Kd.C_below HR0.out HB.out) | (with_reducible refine Kd.C_alloc ?_ _) | (with_reducible refine Kd.C_drewN ?_ _) | (with_reducible refine Kd.C_drew ?_))); (case side2 => exact HC0.out); rintro e w4 ⟨v1385, rfl, ho0, hb⟩; refine ⟨_, rfl, ?_⟩; have n0_ := Aside0.mk (Kd.R_lower ho0 (below_size (viaX HB.out GE1382.out))); have n1_ := Aside0.mk (blk_below (g := gb1382) (o := .cells #[.int .i64 0, .slice none 0 0] 28 (0, 0)) (viaB BK1382.out) hb); have n2_ := Aside0.mk (below_step (viaX HB.out GE1382.out) hb); clear BK1382; clear HB; have HO1386 := n0_; have BK1382 := n1_; have HB := n2_; clear n0_ n1_ n2_; (try clear hb); (try clear hb2); (try clear hk); (try clear hi); (try clear ho0); have hcz5_0 : w4.cell? ⟨gb1382, 0, none⟩ = some (.int .i64 0) := (blk_cell BK1382.out 0).trans rfl; have hcz5_1 : w4.cell? ⟨gb1382, 1, none⟩ = some (.slice none 0 0) := (blk_cell BK1382.out 1).trans rfl; have hfz5_0 := blk_frozen BK1382.out 0; have hfz5_1 := blk_frozen BK1382.out 1; obtain ⟨Ao6, co6, eo6⟩ := Kd.R_slice HO1386.out; subst eo6))
 refine bodyPost_ret (results_ct rfl _ _ gb1382 28 #[.int .i64 t1383, .slice Ao6 t1384.length co6] (0, 0) _ rfl (by (with_reducible repeat (first | refine blk_drewN ?_ _ | refine blk_drew ?_ | refine blk_alloc ?_ _)); refine blk_put (cs := #[.int .i64 t1383, .slice none 0 0]) ?_ 1 _ rfl; (with_reducible repeat (first | refine blk_drewN ?_ _ | refine blk_drew ?_ | refine blk_alloc ?_ _)); refine blk_put (cs := #[.int .i64 0, .slice none 0 0]) ?_ 0 _ rfl; (with_reducible repeat (first | refine blk_drewN ?_ _ | refine blk_drew ?_ | refine blk_alloc ?_ _)); exact BK1382.out) Tryz.underlying28 rfl (by kernel_rfl)) rfl ?_
 exact ⟨_, by first | rfl | (simp [errW_none, errW_some] <;> rfl) | (simp [*, errW_none, errW_some] <;> rfl), by (with_reducible repeat (first | apply Kd.R_alloc | apply Kd.R_drewN | apply Kd.R_drew)); exact Kd.R_mono (Kd.R_far (p := ⟨gb1382, 1, none⟩) (Kd.R_far (p := ⟨gb1382, 0, none⟩) (Kd.R_types HO1386.out BK1382.out (by decide)) (fun _ hk => hk.2) (.int .i64 t1383)) (fun _ hk => hk.2) (.slice Ao6 t1384.length co6)) (fun _ hk => trivial), viaX HB.out GE1382.out⟩

/-! ### laws_FnExecuteMend: function 7 -/
def laws_FnExecuteMend.j0 : Nat → Int → Int → Bool → Int → Bool → Bool → Int → List (S44) → Option (Bool)
 | 0, _, _, _, _, _, _, _, _ => none
 | k + 1, x4, x5, x6, x7, x8, x40, x1394000, x1394001 => if x40 = true then (if (x6 == x8) = true then (some (x5 == x7)) else (some false)) else ((laws_drawn.f k x1394000 x1394001).bind fun t1398 => (if t1398.size + 4 ≤ 9223372036854775807 then ((laws_digits.f k x4).bind fun t1399 => (if (t1398 ++ (⟨#[119, 97, 121, 32]⟩ : ByteArray)).size + t1399.size ≤ 9223372036854775807 then (if ((t1398 ++ (⟨#[119, 97, 121, 32]⟩ : ByteArray)) ++ t1399).size + 6 ≤ 9223372036854775807 then ((impl_Execute.f k (((t1398 ++ (⟨#[119, 97, 121, 32]⟩ : ByteArray)) ++ t1399) ++ (⟨#[10, 109, 101, 110, 100, 10]⟩ : ByteArray))).bind fun t1400 => ((laws_digits.f k x5).bind fun t1401 => (if 6 + t1401.size ≤ 9223372036854775807 then (if ((⟨#[111, 107, 10, 111, 107, 10]⟩ : ByteArray) ++ t1401).size + 7 ≤ 9223372036854775807 then ((laws_digits.f k (x1394001.length : Int)).bind fun t1402 => (if (((⟨#[111, 107, 10, 111, 107, 10]⟩ : ByteArray) ++ t1401) ++ (⟨#[10, 101, 100, 103, 101, 115, 32]⟩ : ByteArray)).size + t1402.size ≤ 9223372036854775807 then (if ((((⟨#[111, 107, 10, 111, 107, 10]⟩ : ByteArray) ++ t1401) ++ (⟨#[10, 101, 100, 103, 101, 115, 32]⟩ : ByteArray)) ++ t1402).size + 1 ≤ 9223372036854775807 then (some (t1400.toList == (((((⟨#[111, 107, 10, 111, 107, 10]⟩ : ByteArray) ++ t1401) ++ (⟨#[10, 101, 100, 103, 101, 115, 32]⟩ : ByteArray)) ++ t1402) ++ (⟨#[10]⟩ : ByteArray)).toList)) else (none)) else (none))) else (none)) else (none)))) else (none)) else (none))) else (none)))
def laws_FnExecuteMend.f (k : Nat) (l0 : List Int) : Option (Bool) := if (l0.length : Int) > 1048576 then (some true) else ((spec_DrawPathMend.f k l0).bind fun bt1388 => ((impl_PathMend.f k bt1388.1 bt1388.2.1 bt1388.2.2).bind fun bt1394 => ((spec_PathMend.f k bt1388.1 bt1388.2.1 bt1388.2.2).bind fun bt1396 => (if (bt1394.2 != bt1396.2) = true then (laws_FnExecuteMend.j0 k bt1388.2.2 bt1394.1 bt1394.2 bt1396.1 bt1396.2 true bt1388.1 bt1388.2.1) else (if bt1394.1 = bt1396.1 then (laws_FnExecuteMend.j0 k bt1388.2.2 bt1394.1 bt1394.2 bt1396.1 bt1396.2 (!bt1394.2) bt1388.1 bt1388.2.1) else (laws_FnExecuteMend.j0 k bt1388.2.2 bt1394.1 bt1394.2 bt1396.1 bt1396.2 true bt1388.1 bt1388.2.1))))))
def laws_FnExecuteMend.T8 : Bool × List (List Nat × List Nat) := (true, [([], []), ([0], [0]), ([1], [1]), ([], []), ([3, 1], [3]), ([2, 4], [2, 4]), ([5], [5]), ([6, 4], [6]), ([], []), ([8, 7], [8]), ([9], [9]), ([10], [10]), ([], []), ([12], [12]), ([13], [13]), ([14, 9], [14]), ([11, 15], [11, 15]), ([16], [16]), ([7, 17], [7, 17]), ([18, 15, 0, 1, 2, 3, 4, 5, 6, 7, 8, 9, 10, 11, 12, 13, 14, 15, 16, 17, 18], [18])])
def laws_FnExecuteMend.B8 : List Nat := [0, 1, 3, 0, 11, 31, 63, 127, 0, 511, 1023, 2047, 0, 4096, 12288, 29695, 65535, 131071, 262143, 524287]
theorem laws_FnExecuteMend.tab8 : rtab .any (opsOf Tryz.f7 8) = laws_FnExecuteMend.T8 := by kernel_rfl
theorem laws_FnExecuteMend.bits8 : waitsOk laws_FnExecuteMend.T8.2 laws_FnExecuteMend.B8 = true := by kernel_rfl
set_option maxHeartbeats 8000000 in
set_option maxRecDepth 100000 in
theorem laws_FnExecuteMend.calls (k : Nat) (A0 : Option Addr) (c0 : Nat) (l0 : List Int) (r : Bool) (w : World) (gl : GL w) (hr0 : Kd.C (Kd.int .u8) w A0 l0.length l0) (hc0 : l0.length ≤ c0) (h : laws_FnExecuteMend.f k l0 = some r) :
  Calls Tryz.prog 7 #[.slice A0 l0.length c0] w fun e w' => e = .returned (.bool r) ∧ Below w.heap.size w w' := by
 have GLW := Aside0.mk gl; clear gl; have hu28 := Tryz.underlying28; have HR0 := Aside0.mk hr0; have HC0 := Aside0.mk hc0; clear hr0 hc0; have HB := Aside0.mk (Below.refl w.heap.size w); have H : (if (l0.length : Int) > 1048576 then (some true) else ((spec_DrawPathMend.f k l0).bind fun bt1388 => ((impl_PathMend.f k bt1388.1 bt1388.2.1 bt1388.2.2).bind fun bt1394 => ((spec_PathMend.f k bt1388.1 bt1388.2.1 bt1388.2.2).bind fun bt1396 => (if (bt1394.2 != bt1396.2) = true then (laws_FnExecuteMend.j0 k bt1388.2.2 bt1394.1 bt1394.2 bt1396.1 bt1396.2 true bt1388.1 bt1388.2.1) else (if bt1394.1 = bt1396.1 then (laws_FnExecuteMend.j0 k bt1388.2.2 bt1394.1 bt1394.2 bt1396.1 bt1396.2 (!bt1394.2) bt1388.1 bt1388.2.1) else (laws_FnExecuteMend.j0 k bt1388.2.2 bt1394.1 bt1394.2 bt1396.1 bt1396.2 true bt1388.1 bt1388.2.1))))))) = some r := h; clear h
 by_cases c2 : (l0.length : Int) > 1048576
 ·rw [if_pos c2] at H
  have c2b0 : decide (1048576 < (l0.length : Int)) = true := decide_eq_true c2; have c2b1 : decide (1048576 < l0.length) = true := decide_eq_true (by omega); clear c2; obtain rfl := Option.some.inj H
  go_enter Tryz.func7, Tryz.ntmps7
  go_wp2
  go_ret
  exact ⟨by first | rfl | (simp [errW_none, errW_some] <;> rfl) | (simp [*, errW_none, errW_some] <;> rfl), viaW HB.out⟩
 ·rw [if_neg c2] at H
  have c2b0 : decide (1048576 < (l0.length : Int)) = false := decide_eq_false c2; have c2b1 : decide (1048576 < l0.length) = false := decide_eq_false (by omega); clear c2; replace H := Option.bind_eq_some_iff.mp H; obtain ⟨⟨t1388, t1389, t1392⟩, A30, H⟩ := H; replace H : ((impl_PathMend.f k t1388 t1389 t1392).bind fun bt1394 => ((spec_PathMend.f k t1388 t1389 t1392).bind fun bt1396 => (if (bt1394.2 != bt1396.2) = true then (laws_FnExecuteMend.j0 k t1392 bt1394.1 bt1394.2 bt1396.1 bt1396.2 true t1388 t1389) else (if bt1394.1 = bt1396.1 then (laws_FnExecuteMend.j0 k t1392 bt1394.1 bt1394.2 bt1396.1 bt1396.2 (!bt1394.2) t1388 t1389) else (laws_FnExecuteMend.j0 k t1392 bt1394.1 bt1394.2 bt1396.1 bt1396.2 true t1388 t1389))))) = some r := H; have A3 := Aside0.mk A30; clear A30; replace H := Option.bind_eq_some_iff.mp H; obtain ⟨⟨t1394, t1395⟩, A40, H⟩ := H; replace H : ((spec_PathMend.f k t1388 t1389 t1392).bind fun bt1396 => (if (t1395 != bt1396.2) = true then (laws_FnExecuteMend.j0 k t1392 t1394 t1395 bt1396.1 bt1396.2 true t1388 t1389) else (if t1394 = bt1396.1 then (laws_FnExecuteMend.j0 k t1392 t1394 t1395 bt1396.1 bt1396.2 (!t1395) t1388 t1389) else (laws_FnExecuteMend.j0 k t1392 t1394 t1395 bt1396.1 bt1396.2 true t1388 t1389)))) = some r := H; have A4 := Aside0.mk A40; clear A40; replace H := Option.bind_eq_some_iff.mp H; obtain ⟨⟨t1396, t1397⟩, A50, H⟩ := H; replace H : (if (t1395 != t1397) = true then (laws_FnExecuteMend.j0 k t1392 t1394 t1395 t1396 t1397 true t1388 t1389) else (if t1394 = t1396 then (laws_FnExecuteMend.j0 k t1392 t1394 t1395 t1396 t1397 (!t1395) t1388 t1389) else (laws_FnExecuteMend.j0 k t1392 t1394 t1395 t1396 t1397 true t1388 t1389))) = some r := H; have A5 := Aside0.mk A50; clear A50; have HC6 := Aside0.mk H; clear H
  go_enter Tryz.func7, Tryz.ntmps7
  go_upto_region 6 with (first | ((with_reducible refine gate_callee (f := 19) rfl ?_); refine goesL_ (some 14) rfl rfl Tryz.func19 (by kernel_rfl) rfl #[.slice A0 l0.length c0] rfl (by (try simp only [List.map_toArray, List.map_cons, List.map_nil]); first | done | rfl | (simp only [List.length_drop, List.length_take]; rfl)) ?_; (with_reducible refine (spec_DrawPathMend.calls k _ _ l0 t1388 t1389 t1392 _ ?side1 ?side2 A3.out).mono ?_); (case side1 => repeat (first | exact HR0.out | (with_reducible refine Kd.C_alloc ?_ _) | (with_reducible refine Kd.C_drewN ?_ _) | (with_reducible refine Kd.C_drew ?_))); (case side2 => exact HC0.out); rintro e w7 ⟨v1390, rfl, ho0, hb⟩; refine ⟨_, rfl, ?_⟩; have n0_ := Aside0.mk (Kd.R_lower ho0 (below_size (viaW HB.out))); have n1_ := Aside0.mk (below_step (viaW HB.out) hb); clear HB; have HO1391 := n0_; have HB := n1_; clear n0_ n1_; (try clear hb); (try clear hb2); (try clear hk); (try clear hi); (try clear ho0)) | ((with_reducible refine gate_dst (N := 3) rfl ?_); refine box_event ?hg (N := 3) ?hd (cs := #[.int .i64 0, .slice none 0 0]) (t := 28) ?hr ?_; (case hd => rfl); (case hg => rfl); (case hr => first | (go_simp; done) | (go_simp; rfl)); intro gb1393 hg w8 hbox hb; have n0_ := Aside0.mk (Kd.R_below (viaR HO1391.out) hb); have n1_ := Aside0.mk (below_step (viaW HB.out) hb); have n2_ := Aside0.mk (hbox); have n3_ := Aside0.mk ((by rw [hg]; exact (below_size (viaW HB.out)) : w.heap.size ≤ gb1393)); have n4_ := Aside0.mk ((by rw [hg]; exact (below_size (viaW HB.out)) : w.heap.size ≤ gb1393)); clear HO1391; clear HB; have HO1391 := n0_; have HB := n1_; have BK1393 := n2_; have GW1393 := n3_; have GE1393 := n4_; clear n0_ n1_ n2_ n3_ n4_; clear hb hbox hg; have hcz9_0 : w8.cell? ⟨gb1393, 0, none⟩ = some (.int .i64 0) := (blk_cell BK1393.out 0).trans rfl; have hcz9_1 : w8.cell? ⟨gb1393, 1, none⟩ = some (.slice none 0 0) := (blk_cell BK1393.out 1).trans rfl; have hfz9_0 := blk_frozen BK1393.out 0; have hfz9_1 := blk_frozen BK1393.out 1; obtain ⟨Ao10, co10, eo10⟩ := Kd.R_slice HO1391.out; subst eo10) | ((with_reducible refine gate_callee (f := 20) rfl ?_); refine goesL_ (some 20) rfl rfl Tryz.func20 (by kernel_rfl) rfl #[.agg #[.int .i64 t1388, .slice Ao10 t1389.length co10], .int .i64 t1392] rfl (by (try simp only [List.map_toArray, List.map_cons, List.map_nil]); first | done | rfl | (simp only [List.length_drop, List.length_take]; rfl)) ?_; (with_reducible refine (impl_PathMend.calls k t1388 _ _ t1389 t1392 t1394 t1395 _ ?side1 ?side2 A4.out).mono ?_); (case side1 => refine (Kd.R_reads' (e := 44) (base := w.heap.size) (ok := fun k_ => True) (n := t1389.length) (c := co10) ?_).2.2; exact (by (with_reducible repeat (first | apply Kd.R_alloc | apply Kd.R_drewN | apply Kd.R_drew)); exact (Kd.R_mono (Kd.R_far (p := ⟨gb1393, 1, none⟩) (Kd.R_far (p := ⟨gb1393, 0, none⟩) (Kd.R_types HO1391.out BK1393.out (by decide)) (fun _ hk => hk.2) (.int .i64 t1388)) (fun _ hk => hk.2) (.slice Ao10 t1389.length co10)) (fun _ h_ => h_.1)))); (case side2 => exact (Kd.R_reads' HO1391.out).2.1); rintro e w11 ⟨rfl, hb⟩; refine ⟨_, rfl, ?_⟩; have n0_ := Aside0.mk (Kd.R_below (by (with_reducible repeat (first | apply Kd.R_alloc | apply Kd.R_drewN | apply Kd.R_drew)); exact (Kd.R_mono (Kd.R_far (p := ⟨gb1393, 1, none⟩) (Kd.R_far (p := ⟨gb1393, 0, none⟩) (Kd.R_types HO1391.out BK1393.out (by decide)) (fun _ hk => hk.2) (.int .i64 t1388)) (fun _ hk => hk.2) (.slice Ao10 t1389.length co10)) (fun _ h_ => h_.1))) hb); have n1_ := Aside0.mk (blk_below (g := gb1393) (o := .cells #[.int .i64 t1388, .slice Ao10 t1389.length co10] 28 (0, 0)) (by (with_reducible repeat (first | refine blk_drewN ?_ _ | refine blk_drew ?_ | refine blk_alloc ?_ _)); refine blk_put (cs := #[.int .i64 t1388, .slice none 0 0]) ?_ 1 _ rfl; (with_reducible repeat (first | refine blk_drewN ?_ _ | refine blk_drew ?_ | refine blk_alloc ?_ _)); refine blk_put (cs := #[.int .i64 0, .slice none 0 0]) ?_ 0 _ rfl; (with_reducible repeat (first | refine blk_drewN ?_ _ | refine blk_drew ?_ | refine blk_alloc ?_ _)); exact BK1393.out) hb); have n2_ := Aside0.mk (below_step (viaX HB.out GE1393.out) hb); clear HO1391; clear BK1393; clear HB; have HO1391 := n0_; have BK1393 := n1_; have HB := n2_; clear n0_ n1_ n2_; (try clear hb); (try clear hb2); (try clear hk); (try clear hi); have hcz12_0 : w11.cell? ⟨gb1393, 0, none⟩ = some (.int .i64 t1388) := (blk_cell BK1393.out 0).trans rfl; have hcz12_1 : w11.cell? ⟨gb1393, 1, none⟩ = some (.slice Ao10 t1389.length co10) := (blk_cell BK1393.out 1).trans rfl; have hfz12_0 := blk_frozen BK1393.out 0; have hfz12_1 := blk_frozen BK1393.out 1) | ((with_reducible refine gate_callee (f := 21) rfl ?_); refine goesL_ (some 26) rfl rfl Tryz.func21 (by kernel_rfl) rfl #[.agg #[.int .i64 t1388, .slice Ao10 t1389.length co10], .int .i64 t1392] rfl (by (try simp only [List.map_toArray, List.map_cons, List.map_nil]); first | done | rfl | (simp only [List.length_drop, List.length_take]; rfl)) ?_; (with_reducible refine (spec_PathMend.calls k t1388 _ _ t1389 t1392 t1396 t1397 _ ?side1 ?side2 A5.out).mono ?_); (case side1 => repeat (first | exact (Kd.R_reads' HO1391.out).2.2 | (with_reducible refine Kd.C_alloc ?_ _) | (with_reducible refine Kd.C_drewN ?_ _) | (with_reducible refine Kd.C_drew ?_))); (case side2 => exact (Kd.R_reads' HO1391.out).2.1); rintro e w13 ⟨rfl, hb⟩; refine ⟨_, rfl, ?_⟩; have n0_ := Aside0.mk (Kd.R_below (viaR HO1391.out) hb); have n1_ := Aside0.mk (blk_below (g := gb1393) (o := .cells #[.int .i64 t1388, .slice Ao10 t1389.length co10] 28 (0, 0)) (viaB BK1393.out) hb); have n2_ := Aside0.mk (below_step (viaX HB.out GE1393.out) hb); clear HO1391; clear BK1393; clear HB; have HO1391 := n0_; have BK1393 := n1_; have HB := n2_; clear n0_ n1_ n2_; (try clear hb); (try clear hb2); (try clear hk); (try clear hi)))
  (try simp only [Act.put, List.setIfInBounds_toArray, List.set_cons_zero, List.set_cons_succ])
  go_cut [40] (fun v40 wc => ∃ (kq : Nat) (x40_5 : Bool), v40 = .bool x40_5 ∧ Aside0 (laws_FnExecuteMend.j0 kq t1392 t1394 t1395 t1396 t1397 x40_5 t1388 t1389 = some r) ∧ Aside0 (kq ≤ k) ∧ Aside0 (Kd.R k44 44 wc w.heap.size (fun _ => True) (.slice Ao10 t1389.length co10) t1389) ∧ Aside0 (wc.heap[gb1393]? = some (.cells #[.int .i64 t1388, (.slice Ao10 t1389.length co10)] 28 (0, 0))) ∧ Aside0 (Below w.heap.size w wc))
  case first =>
   have H := HC6.out; clear HC6
   by_cases c14 : (t1395 != t1397) = true
   ·rw [if_pos c14] at H
    have c14b0 : (t1395 != t1397) = true := c14
    (try (have c14b1 : decide (t1395 = t1397) = false := by simpa using c14))
    (try (have c14b2 : (t1395 == t1397) = false := by simpa using c14))
    (try (have c14b3 : ¬ (t1395 = t1397) := by simpa using c14))
    clear c14
    (first | rw [c14b0] | (simp only [i64_w, i32_w]; rw [c14b0]) | skip)
    have H' := Aside0.mk H; clear H
    go_wp2
    go_meet
    case rel => exact ⟨_, (true), (by first | rfl | (simp; done) | (simp [*]; done)), H', ⟨by first | omega | exact Nat.le_refl _⟩, ⟨viaR HO1391.out⟩, ⟨viaB BK1393.out⟩, ⟨viaX HB.out GE1393.out⟩⟩
   ·rw [if_neg c14] at H
    have c14b0 : (t1395 != t1397) = false := by simpa using c14
    (try (have c14b1 : decide (t1395 = t1397) = true := by simpa using c14))
    (try (have c14b2 : (t1395 == t1397) = true := by simpa using c14))
    clear c14
    (first | rw [c14b0] | (simp only [i64_w, i32_w]; rw [c14b0]) | skip)
    by_cases c15 : t1394 = t1396
    ·rw [if_pos c15] at H
     have c15b0 : (t1394 == t1396) = true := beq_iff_eq.mpr c15; have c15b1 : (t1394 != t1396) = false := bne_eq_false_iff_eq.mpr c15; clear c15; have H' := Aside0.mk H; clear H
     go_wp2
     go_meet
     case rel => exact ⟨_, (!t1395), (by first | rfl | (simp; done) | (simp [*]; done)), H', ⟨by first | omega | exact Nat.le_refl _⟩, ⟨viaR HO1391.out⟩, ⟨viaB BK1393.out⟩, ⟨viaX HB.out GE1393.out⟩⟩
    ·rw [if_neg c15] at H
     have c15b0 : (t1394 == t1396) = false := beq_eq_false_iff_ne.mpr c15; have c15b1 : (t1394 != t1396) = true := bne_iff_ne.mpr c15; have H' := Aside0.mk H; clear H
     go_wp2
     go_meet
     case rel => exact ⟨_, (true), (by first | rfl | (simp; done) | (simp [*]; done)), H', ⟨by first | omega | exact Nat.le_refl _⟩, ⟨viaR HO1391.out⟩, ⟨viaB BK1393.out⟩, ⟨viaX HB.out GE1393.out⟩⟩
  case rest =>
   clear HC6
   try clear c1
   try clear c2
   try clear c2b0
   try clear c2b1
   try clear p2
   try clear c7
   try clear c14
   try clear c14b0
   try clear c14b1
   try clear c14b2
   try clear c15
   try clear c15b0
   try clear c15b1
   try clear hcz12_0
   try clear hcz12_1
   try clear hcz9_0
   try clear hcz9_1
   try clear hfz12_0
   try clear hfz12_1
   try clear hfz9_0
   try clear hfz9_1
   obtain ⟨kq, x40_5, rfl, HA, HJ5, HO_1394001, BK1393, HB⟩ := hcut
   cases kq with
   | zero => exact absurd HA.out (by simp [laws_FnExecuteMend.j0])
   | succ kj5 =>
    have H := HA.out; clear HA
    simp only [laws_FnExecuteMend.j0] at H
    by_cases c16 : x40_5 = true
    ·subst c16
     have H1 : (if (t1395 == t1397) = true then (some (t1394 == t1396)) else (some false)) = some r := by rw [if_pos rfl] at H; exact H
     clear H; have H := H1; clear H1
     by_cases c17 : (t1395 == t1397) = true
     ·rw [if_pos c17] at H
      have c17b0 : (t1395 == t1397) = true := c17
      (try (have c17b1 : decide (t1395 = t1397) = true := by simpa using c17))
      (try (have c17b2 : (t1395 == t1397) = true := by simpa using c17))
      clear c17; obtain rfl := Option.some.inj H
      go_wp2
      go_ret
      exact ⟨by first | rfl | (simp [errW_none, errW_some] <;> rfl) | (simp [*, errW_none, errW_some] <;> rfl), viaX HB.out GE1393.out⟩
     ·rw [if_neg c17] at H
      have c17b0 : (t1395 == t1397) = false := by simpa using c17
      (try (have c17b1 : decide (t1395 = t1397) = false := by simpa using c17))
      (try (have c17b2 : (t1395 == t1397) = false := by simpa using c17))
      (try (have c17b3 : ¬ (t1395 = t1397) := by simpa using c17))
      clear c17; obtain rfl := Option.some.inj H
      go_wp2
      go_ret
      exact ⟨by first | rfl | (simp [errW_none, errW_some] <;> rfl) | (simp [*, errW_none, errW_some] <;> rfl), viaX HB.out GE1393.out⟩
    ·replace c16 := Bool.eq_false_iff.mpr c16
     subst c16; have H1 : ((laws_drawn.f kj5 t1388 t1389).bind fun t1398 => (if t1398.size + 4 ≤ 9223372036854775807 then ((laws_digits.f kj5 t1392).bind fun t1399 => (if (t1398 ++ (⟨#[119, 97, 121, 32]⟩ : ByteArray)).size + t1399.size ≤ 9223372036854775807 then (if ((t1398 ++ (⟨#[119, 97, 121, 32]⟩ : ByteArray)) ++ t1399).size + 6 ≤ 9223372036854775807 then ((impl_Execute.f kj5 (((t1398 ++ (⟨#[119, 97, 121, 32]⟩ : ByteArray)) ++ t1399) ++ (⟨#[10, 109, 101, 110, 100, 10]⟩ : ByteArray))).bind fun t1400 => ((laws_digits.f kj5 t1394).bind fun t1401 => (if 6 + t1401.size ≤ 9223372036854775807 then (if ((⟨#[111, 107, 10, 111, 107, 10]⟩ : ByteArray) ++ t1401).size + 7 ≤ 9223372036854775807 then ((laws_digits.f kj5 (t1389.length : Int)).bind fun t1402 => (if (((⟨#[111, 107, 10, 111, 107, 10]⟩ : ByteArray) ++ t1401) ++ (⟨#[10, 101, 100, 103, 101, 115, 32]⟩ : ByteArray)).size + t1402.size ≤ 9223372036854775807 then (if ((((⟨#[111, 107, 10, 111, 107, 10]⟩ : ByteArray) ++ t1401) ++ (⟨#[10, 101, 100, 103, 101, 115, 32]⟩ : ByteArray)) ++ t1402).size + 1 ≤ 9223372036854775807 then (some (t1400.toList == (((((⟨#[111, 107, 10, 111, 107, 10]⟩ : ByteArray) ++ t1401) ++ (⟨#[10, 101, 100, 103, 101, 115, 32]⟩ : ByteArray)) ++ t1402) ++ (⟨#[10]⟩ : ByteArray)).toList)) else (none)) else (none))) else (none)) else (none)))) else (none)) else (none))) else (none))) = some r := by rw [if_neg (show ¬ (false = true) by decide)] at H; exact H
     clear H; have H := H1; clear H1; replace H := Option.bind_eq_some_iff.mp H; obtain ⟨t1398, A180, H⟩ := H; replace H : (if t1398.size + 4 ≤ 9223372036854775807 then ((laws_digits.f kj5 t1392).bind fun t1399 => (if (t1398 ++ (⟨#[119, 97, 121, 32]⟩ : ByteArray)).size + t1399.size ≤ 9223372036854775807 then (if ((t1398 ++ (⟨#[119, 97, 121, 32]⟩ : ByteArray)) ++ t1399).size + 6 ≤ 9223372036854775807 then ((impl_Execute.f kj5 (((t1398 ++ (⟨#[119, 97, 121, 32]⟩ : ByteArray)) ++ t1399) ++ (⟨#[10, 109, 101, 110, 100, 10]⟩ : ByteArray))).bind fun t1400 => ((laws_digits.f kj5 t1394).bind fun t1401 => (if 6 + t1401.size ≤ 9223372036854775807 then (if ((⟨#[111, 107, 10, 111, 107, 10]⟩ : ByteArray) ++ t1401).size + 7 ≤ 9223372036854775807 then ((laws_digits.f kj5 (t1389.length : Int)).bind fun t1402 => (if (((⟨#[111, 107, 10, 111, 107, 10]⟩ : ByteArray) ++ t1401) ++ (⟨#[10, 101, 100, 103, 101, 115, 32]⟩ : ByteArray)).size + t1402.size ≤ 9223372036854775807 then (if ((((⟨#[111, 107, 10, 111, 107, 10]⟩ : ByteArray) ++ t1401) ++ (⟨#[10, 101, 100, 103, 101, 115, 32]⟩ : ByteArray)) ++ t1402).size + 1 ≤ 9223372036854775807 then (some (t1400.toList == (((((⟨#[111, 107, 10, 111, 107, 10]⟩ : ByteArray) ++ t1401) ++ (⟨#[10, 101, 100, 103, 101, 115, 32]⟩ : ByteArray)) ++ t1402) ++ (⟨#[10]⟩ : ByteArray)).toList)) else (none)) else (none))) else (none)) else (none)))) else (none)) else (none))) else (none)) = some r := H; have A18 := Aside0.mk A180; clear A180
     by_cases c19 : t1398.size + 4 ≤ 9223372036854775807
     ·rw [if_pos c19] at H
      have c19b0 := eq_true c19; have c19b1 : decide (t1398.size + 4 ≤ 9223372036854775807) = true := decide_eq_true c19
      try have c19b2 : (9223372036854775807 < t1398.size + 4) = False := eq_false (Nat.not_lt.2 c19)
      replace H := Option.bind_eq_some_iff.mp H; obtain ⟨t1399, A200, H⟩ := H; replace H : (if (t1398 ++ (⟨#[119, 97, 121, 32]⟩ : ByteArray)).size + t1399.size ≤ 9223372036854775807 then (if ((t1398 ++ (⟨#[119, 97, 121, 32]⟩ : ByteArray)) ++ t1399).size + 6 ≤ 9223372036854775807 then ((impl_Execute.f kj5 (((t1398 ++ (⟨#[119, 97, 121, 32]⟩ : ByteArray)) ++ t1399) ++ (⟨#[10, 109, 101, 110, 100, 10]⟩ : ByteArray))).bind fun t1400 => ((laws_digits.f kj5 t1394).bind fun t1401 => (if 6 + t1401.size ≤ 9223372036854775807 then (if ((⟨#[111, 107, 10, 111, 107, 10]⟩ : ByteArray) ++ t1401).size + 7 ≤ 9223372036854775807 then ((laws_digits.f kj5 (t1389.length : Int)).bind fun t1402 => (if (((⟨#[111, 107, 10, 111, 107, 10]⟩ : ByteArray) ++ t1401) ++ (⟨#[10, 101, 100, 103, 101, 115, 32]⟩ : ByteArray)).size + t1402.size ≤ 9223372036854775807 then (if ((((⟨#[111, 107, 10, 111, 107, 10]⟩ : ByteArray) ++ t1401) ++ (⟨#[10, 101, 100, 103, 101, 115, 32]⟩ : ByteArray)) ++ t1402).size + 1 ≤ 9223372036854775807 then (some (t1400.toList == (((((⟨#[111, 107, 10, 111, 107, 10]⟩ : ByteArray) ++ t1401) ++ (⟨#[10, 101, 100, 103, 101, 115, 32]⟩ : ByteArray)) ++ t1402) ++ (⟨#[10]⟩ : ByteArray)).toList)) else (none)) else (none))) else (none)) else (none)))) else (none)) else (none)) = some r := H; have A20 := Aside0.mk A200; clear A200
      by_cases c21 : (t1398 ++ (⟨#[119, 97, 121, 32]⟩ : ByteArray)).size + t1399.size ≤ 9223372036854775807
      ·rw [if_pos c21] at H
       have c21b0 := eq_true c21; have c21b1 : decide ((t1398 ++ (⟨#[119, 97, 121, 32]⟩ : ByteArray)).size + t1399.size ≤ 9223372036854775807) = true := decide_eq_true c21
       try have c21b2 : (9223372036854775807 < (t1398 ++ (⟨#[119, 97, 121, 32]⟩ : ByteArray)).size + t1399.size) = False := eq_false (Nat.not_lt.2 c21)
       try have c21b3 : (9223372036854775807 < t1398.size + 4 + t1399.size) = False := by have hs_ := c21b2; simp only [ByteArray.size_append] at hs_; exact hs_
       by_cases c22 : ((t1398 ++ (⟨#[119, 97, 121, 32]⟩ : ByteArray)) ++ t1399).size + 6 ≤ 9223372036854775807
       ·rw [if_pos c22] at H
        have c22b0 := eq_true c22; have c22b1 : decide (((t1398 ++ (⟨#[119, 97, 121, 32]⟩ : ByteArray)) ++ t1399).size + 6 ≤ 9223372036854775807) = true := decide_eq_true c22
        try have c22b2 : (9223372036854775807 < ((t1398 ++ (⟨#[119, 97, 121, 32]⟩ : ByteArray)) ++ t1399).size + 6) = False := eq_false (Nat.not_lt.2 c22)
        try have c22b3 : (9223372036854775807 < t1398.size + 4 + t1399.size + 6) = False := by have hs_ := c22b2; simp only [ByteArray.size_append] at hs_; exact hs_
        replace H := Option.bind_eq_some_iff.mp H; obtain ⟨t1400, A230, H⟩ := H; replace H : ((laws_digits.f kj5 t1394).bind fun t1401 => (if 6 + t1401.size ≤ 9223372036854775807 then (if ((⟨#[111, 107, 10, 111, 107, 10]⟩ : ByteArray) ++ t1401).size + 7 ≤ 9223372036854775807 then ((laws_digits.f kj5 (t1389.length : Int)).bind fun t1402 => (if (((⟨#[111, 107, 10, 111, 107, 10]⟩ : ByteArray) ++ t1401) ++ (⟨#[10, 101, 100, 103, 101, 115, 32]⟩ : ByteArray)).size + t1402.size ≤ 9223372036854775807 then (if ((((⟨#[111, 107, 10, 111, 107, 10]⟩ : ByteArray) ++ t1401) ++ (⟨#[10, 101, 100, 103, 101, 115, 32]⟩ : ByteArray)) ++ t1402).size + 1 ≤ 9223372036854775807 then (some (t1400.toList == (((((⟨#[111, 107, 10, 111, 107, 10]⟩ : ByteArray) ++ t1401) ++ (⟨#[10, 101, 100, 103, 101, 115, 32]⟩ : ByteArray)) ++ t1402) ++ (⟨#[10]⟩ : ByteArray)).toList)) else (none)) else (none))) else (none)) else (none))) = some r := H; have A23 := Aside0.mk A230; clear A230; replace H := Option.bind_eq_some_iff.mp H; obtain ⟨t1401, A240, H⟩ := H; replace H : (if 6 + t1401.size ≤ 9223372036854775807 then (if ((⟨#[111, 107, 10, 111, 107, 10]⟩ : ByteArray) ++ t1401).size + 7 ≤ 9223372036854775807 then ((laws_digits.f kj5 (t1389.length : Int)).bind fun t1402 => (if (((⟨#[111, 107, 10, 111, 107, 10]⟩ : ByteArray) ++ t1401) ++ (⟨#[10, 101, 100, 103, 101, 115, 32]⟩ : ByteArray)).size + t1402.size ≤ 9223372036854775807 then (if ((((⟨#[111, 107, 10, 111, 107, 10]⟩ : ByteArray) ++ t1401) ++ (⟨#[10, 101, 100, 103, 101, 115, 32]⟩ : ByteArray)) ++ t1402).size + 1 ≤ 9223372036854775807 then (some (t1400.toList == (((((⟨#[111, 107, 10, 111, 107, 10]⟩ : ByteArray) ++ t1401) ++ (⟨#[10, 101, 100, 103, 101, 115, 32]⟩ : ByteArray)) ++ t1402) ++ (⟨#[10]⟩ : ByteArray)).toList)) else (none)) else (none))) else (none)) else (none)) = some r := H; have A24 := Aside0.mk A240; clear A240
        by_cases c25 : 6 + t1401.size ≤ 9223372036854775807
        ·rw [if_pos c25] at H
         have c25b0 := eq_true c25; have c25b1 : decide (6 + t1401.size ≤ 9223372036854775807) = true := decide_eq_true c25
         try have c25b2 : (9223372036854775807 < 6 + t1401.size) = False := eq_false (Nat.not_lt.2 c25)
         by_cases c26 : ((⟨#[111, 107, 10, 111, 107, 10]⟩ : ByteArray) ++ t1401).size + 7 ≤ 9223372036854775807
         ·rw [if_pos c26] at H
          have c26b0 := eq_true c26; have c26b1 : decide (((⟨#[111, 107, 10, 111, 107, 10]⟩ : ByteArray) ++ t1401).size + 7 ≤ 9223372036854775807) = true := decide_eq_true c26
          try have c26b2 : (9223372036854775807 < ((⟨#[111, 107, 10, 111, 107, 10]⟩ : ByteArray) ++ t1401).size + 7) = False := eq_false (Nat.not_lt.2 c26)
          try have c26b3 : (9223372036854775807 < 6 + t1401.size + 7) = False := by have hs_ := c26b2; simp only [ByteArray.size_append] at hs_; exact hs_
          replace H := Option.bind_eq_some_iff.mp H; obtain ⟨t1402, A270, H⟩ := H; replace H : (if (((⟨#[111, 107, 10, 111, 107, 10]⟩ : ByteArray) ++ t1401) ++ (⟨#[10, 101, 100, 103, 101, 115, 32]⟩ : ByteArray)).size + t1402.size ≤ 9223372036854775807 then (if ((((⟨#[111, 107, 10, 111, 107, 10]⟩ : ByteArray) ++ t1401) ++ (⟨#[10, 101, 100, 103, 101, 115, 32]⟩ : ByteArray)) ++ t1402).size + 1 ≤ 9223372036854775807 then (some (t1400.toList == (((((⟨#[111, 107, 10, 111, 107, 10]⟩ : ByteArray) ++ t1401) ++ (⟨#[10, 101, 100, 103, 101, 115, 32]⟩ : ByteArray)) ++ t1402) ++ (⟨#[10]⟩ : ByteArray)).toList)) else (none)) else (none)) = some r := H; have A27 := Aside0.mk A270; clear A270
          by_cases c28 : (((⟨#[111, 107, 10, 111, 107, 10]⟩ : ByteArray) ++ t1401) ++ (⟨#[10, 101, 100, 103, 101, 115, 32]⟩ : ByteArray)).size + t1402.size ≤ 9223372036854775807
          ·rw [if_pos c28] at H
           have c28b0 := eq_true c28; have c28b1 : decide ((((⟨#[111, 107, 10, 111, 107, 10]⟩ : ByteArray) ++ t1401) ++ (⟨#[10, 101, 100, 103, 101, 115, 32]⟩ : ByteArray)).size + t1402.size ≤ 9223372036854775807) = true := decide_eq_true c28
           try have c28b2 : (9223372036854775807 < (((⟨#[111, 107, 10, 111, 107, 10]⟩ : ByteArray) ++ t1401) ++ (⟨#[10, 101, 100, 103, 101, 115, 32]⟩ : ByteArray)).size + t1402.size) = False := eq_false (Nat.not_lt.2 c28)
           try have c28b3 : (9223372036854775807 < 6 + t1401.size + 7 + t1402.size) = False := by have hs_ := c28b2; simp only [ByteArray.size_append] at hs_; exact hs_
           by_cases c29 : ((((⟨#[111, 107, 10, 111, 107, 10]⟩ : ByteArray) ++ t1401) ++ (⟨#[10, 101, 100, 103, 101, 115, 32]⟩ : ByteArray)) ++ t1402).size + 1 ≤ 9223372036854775807
           ·rw [if_pos c29] at H
            have c29b0 := eq_true c29; have c29b1 : decide (((((⟨#[111, 107, 10, 111, 107, 10]⟩ : ByteArray) ++ t1401) ++ (⟨#[10, 101, 100, 103, 101, 115, 32]⟩ : ByteArray)) ++ t1402).size + 1 ≤ 9223372036854775807) = true := decide_eq_true c29
            try have c29b2 : (9223372036854775807 < ((((⟨#[111, 107, 10, 111, 107, 10]⟩ : ByteArray) ++ t1401) ++ (⟨#[10, 101, 100, 103, 101, 115, 32]⟩ : ByteArray)) ++ t1402).size + 1) = False := eq_false (Nat.not_lt.2 c29)
            try have c29b3 : (9223372036854775807 < 6 + t1401.size + 7 + t1402.size + 1) = False := by have hs_ := c29b2; simp only [ByteArray.size_append] at hs_; exact hs_
            obtain rfl := Option.some.inj H
            try go_wp2
            have n0_ := Aside0.mk (Kd.R_drew HO_1394001.out); have n1_ := Aside0.mk (blk_drew BK1393.out); have n2_ := Aside0.mk (below_drew1 HB.out); clear HO_1394001; clear BK1393; clear HB; have HO_1394001 := n0_; have BK1393 := n1_; have HB := n2_; clear n0_ n1_ n2_
            refine start_ (n := 20) (S := fun w' => w'.cell? ⟨gb1393, 0, none⟩ = some (.int .i64 t1388) ∧ w'.cell? ⟨gb1393, 1, none⟩ = some (.slice Ao10 t1389.length co10)) (ds := []) #[false, false, false, false, false, false, false, false, false, false, false, false, false, false, false, false, false, false, false, false] (by kernel_rfl) rfl rfl ⟨(blk_cell BK1393.out 0).trans rfl, (blk_cell BK1393.out 1).trans rfl⟩ (fun hHeld => ?_); refine with_tabW laws_FnExecuteMend.tab8 laws_FnExecuteMend.bits8 (fun HT_ HW_ => ?_)
            generalize wc.drew = w30 at HO_1394001 BK1393 HB hHeld ⊢
            refine pure_ (i := 3) (N := some 52) (v := ?_) (a' := ?_) #[false, false, false, true, false, false, false, false, false, false, false, false, false, false, false, false, false, false, false, false] rfl rfl (any_of HT_.out (by kernel_rfl)) (fun _ _ _ h => h) (Or.inl ⟨by rfl, ?_⟩) ?_ ?_
            rotate_left
            ·intro w'
             go_simp
             with_reducible rfl
            rotate_left
            ·simp only [Act.put, List.setIfInBounds_toArray, List.set_cons_zero, List.set_cons_succ, i64_w, i32_w]
             rfl
            refine pure_ (i := 8) (N := some 57) (v := ?_) (a' := ?_) #[false, false, false, true, false, false, false, false, true, false, false, false, false, false, false, false, false, false, false, false] rfl rfl (any_of HT_.out (by kernel_rfl)) (fun _ _ _ h => h) (Or.inl ⟨by rfl, ?_⟩) ?_ ?_
            rotate_left
            ·intro w'
             go_simp
             with_reducible rfl
            rotate_left
            ·simp only [Act.put, List.setIfInBounds_toArray, List.set_cons_zero, List.set_cons_succ, i64_w, i32_w]
             rfl
            refine pure_ (i := 12) (N := some 61) (v := ?_) (a' := ?_) #[false, false, false, true, false, false, false, false, true, false, false, false, true, false, false, false, false, false, false, false] rfl rfl (any_of HT_.out (by kernel_rfl)) (fun _ _ _ h => h) (Or.inl ⟨by rfl, ?_⟩) ?_ ?_
            rotate_left
            ·intro w'
             go_simp
             with_reducible rfl
            rotate_left
            ·simp only [Act.put, List.setIfInBounds_toArray, List.set_cons_zero, List.set_cons_succ, i64_w, i32_w]
             rfl
            refine take_ (i := 0) (N := some 49) (v := ?_) (a' := ?_) #[true, false, false, true, false, false, false, false, true, false, false, false, true, false, false, false, false, false, false, false] rfl rfl (take_ofW HT_.out HW_.out (by kernel_rfl)) (fun _ _ _ h => h) (Or.inl ⟨by rfl, ?_⟩) hHeld ?_ ?_
            rotate_left
            ·rintro w' ⟨s0, s1⟩
             go_simp
             with_reducible rfl
            rotate_left
            ·simp only [Act.put, List.setIfInBounds_toArray, List.set_cons_zero, List.set_cons_succ, i64_w, i32_w]
             rfl
            refine take_ (i := 13) (N := some 62) (v := ?_) (a' := ?_) #[true, false, false, true, false, false, false, false, true, false, false, false, true, true, false, false, false, false, false, false] rfl rfl (take_ofW HT_.out HW_.out (by kernel_rfl)) (fun _ _ _ h => h) (Or.inl ⟨by rfl, ?_⟩) hHeld ?_ ?_
            rotate_left
            ·rintro w' ⟨s0, s1⟩
             go_simp
             with_reducible rfl
            rotate_left
            ·simp only [Act.put, List.setIfInBounds_toArray, List.set_cons_zero, List.set_cons_succ, i64_w, i32_w]
             rfl
            refine pure_ (i := 14) (N := some 63) (v := ?_) (a' := ?_) #[true, false, false, true, false, false, false, false, true, false, false, false, true, true, true, false, false, false, false, false] rfl rfl (any_of HT_.out (by kernel_rfl)) (fun _ _ _ h => h) (Or.inl ⟨by rfl, ?_⟩) ?_ ?_
            rotate_left
            ·intro w'
             go_simp
             with_reducible rfl
            rotate_left
            ·simp only [Act.put, List.setIfInBounds_toArray, List.set_cons_zero, List.set_cons_succ, i64_w, i32_w]
             rfl
            refine one_ (i := 1) (N := some 50) #[true, true, false, true, false, false, false, false, true, false, false, false, true, true, true, false, false, false, false, false] rfl rfl (one_of HT_.out (by kernel_rfl)) (by decide) (fun K hK => ?_)
            refine goes_ Tryz.func17 (by kernel_rfl) rfl #[.agg #[.int .i64 t1388, .slice Ao10 t1389.length co10]] (by rfl) rfl rfl (by (try simp only [List.map_toArray, List.map_cons, List.map_nil]); first | done | rfl | (simp only [List.length_drop, List.length_take]; rfl)) ?_
            with_reducible refine (laws_drawn.calls kj5 t1388 _ _ t1389 t1398 _ ?side1 ?side2 A18.out).mono ?_
            (case side1 => repeat (first | exact (Kd.R_reads' HO_1394001.out).2.2 | (with_reducible refine Kd.C_alloc ?_ _) | (with_reducible refine Kd.C_drewN ?_ _) | (with_reducible refine Kd.C_drew ?_)))
            (case side2 => exact (Kd.R_reads' HO_1394001.out).2.1)
            rintro e w31 ⟨rfl, hb⟩
            refine ⟨_, rfl, ?_⟩
            have n0_ := Aside0.mk (Kd.R_below (viaR HO_1394001.out) hb); have n1_ := Aside0.mk (blk_below (g := gb1393) (o := .cells #[.int .i64 t1388, .slice Ao10 t1389.length co10] 28 (0, 0)) (viaB BK1393.out) hb); have n2_ := Aside0.mk (below_step (viaX HB.out GE1393.out) hb); clear HO_1394001; clear BK1393; clear HB; have HO_1394001 := n0_; have BK1393 := n1_; have HB := n2_; clear n0_ n1_ n2_
            (try clear hb)
            (try clear hb2)
            (try clear hk)
            (try clear hi)
            refine hK.out _ _ ⟨(blk_cell BK1393.out 0).trans rfl, (blk_cell BK1393.out 1).trans rfl⟩ (fun hHeld => ?_)
            clear hK K
            refine norm_ (a' := ?_) ?_ ?_
            rotate_left
            ·show Act.put _ (some 50) _ = _
             simp only [Act.put, List.setIfInBounds_toArray, List.set_cons_zero, List.set_cons_succ, i64_w, i32_w]
             rfl
            refine pure_ (i := 2) (N := some 51) (v := ?_) (a' := ?_) #[true, true, true, true, false, false, false, false, true, false, false, false, true, true, true, false, false, false, false, false] rfl rfl (any_of HT_.out (by kernel_rfl)) (fun _ _ _ h => h) (Or.inl ⟨by rfl, ?_⟩) ?_ ?_
            rotate_left
            ·intro w'
             go_simp
             with_reducible rfl
            rotate_left
            ·simp only [Act.put, List.setIfInBounds_toArray, List.set_cons_zero, List.set_cons_succ, i64_w, i32_w]
             rfl
            refine one_ (i := 4) (N := some 53) #[true, true, true, true, true, false, false, false, true, false, false, false, true, true, true, false, false, false, false, false] rfl rfl (one_of HT_.out (by kernel_rfl)) (by decide) (fun K hK => ?_)
            refine goes_ Tryz.func18 (by kernel_rfl) rfl #[.int .i64 t1392] (by rfl) rfl rfl (by (try simp only [List.map_toArray, List.map_cons, List.map_nil]); first | done | rfl | (simp only [List.length_drop, List.length_take]; rfl)) ?_
            with_reducible refine (laws_digits.calls kj5 t1392 t1399 _ A20.out).mono ?_
            rintro e w32 ⟨rfl, hb⟩
            refine ⟨_, rfl, ?_⟩
            have n0_ := Aside0.mk (Kd.R_below (viaR HO_1394001.out) hb); have n1_ := Aside0.mk (blk_below (g := gb1393) (o := .cells #[.int .i64 t1388, .slice Ao10 t1389.length co10] 28 (0, 0)) (viaB BK1393.out) hb); have n2_ := Aside0.mk (below_step (viaX HB.out GE1393.out) hb); clear HO_1394001; clear BK1393; clear HB; have HO_1394001 := n0_; have BK1393 := n1_; have HB := n2_; clear n0_ n1_ n2_
            (try clear hb)
            (try clear hb2)
            (try clear hk)
            (try clear hi)
            refine hK.out _ _ ⟨(blk_cell BK1393.out 0).trans rfl, (blk_cell BK1393.out 1).trans rfl⟩ (fun hHeld => ?_)
            clear hK K
            refine norm_ (a' := ?_) ?_ ?_
            rotate_left
            ·show Act.put _ (some 53) _ = _
             simp only [Act.put, List.setIfInBounds_toArray, List.set_cons_zero, List.set_cons_succ, i64_w, i32_w]
             rfl
            refine pure_ (i := 5) (N := some 54) (v := ?_) (a' := ?_) #[true, true, true, true, true, true, false, false, true, false, false, false, true, true, true, false, false, false, false, false] rfl rfl (any_of HT_.out (by kernel_rfl)) (fun _ _ _ h => h) (Or.inl ⟨by rfl, ?_⟩) ?_ ?_
            rotate_left
            ·intro w'
             go_simp
             with_reducible rfl
            rotate_left
            ·simp only [Act.put, List.setIfInBounds_toArray, List.set_cons_zero, List.set_cons_succ, i64_w, i32_w]
             rfl
            refine pure_ (i := 6) (N := some 55) (v := ?_) (a' := ?_) #[true, true, true, true, true, true, true, false, true, false, false, false, true, true, true, false, false, false, false, false] rfl rfl (any_of HT_.out (by kernel_rfl)) (fun _ _ _ h => h) (Or.inl ⟨by rfl, ?_⟩) ?_ ?_
            rotate_left
            ·intro w'
             go_simp
             with_reducible rfl
            rotate_left
            ·simp only [Act.put, List.setIfInBounds_toArray, List.set_cons_zero, List.set_cons_succ, i64_w, i32_w]
             rfl
            refine one_ (i := 7) (N := some 56) #[true, true, true, true, true, true, true, true, true, false, false, false, true, true, true, false, false, false, false, false] rfl rfl (one_of HT_.out (by kernel_rfl)) (by decide) (fun K hK => ?_)
            refine goes_ Tryz.func10 (by kernel_rfl) rfl #[.string (((t1398 ++ (⟨#[119, 97, 121, 32]⟩ : ByteArray)) ++ t1399) ++ (⟨#[10, 109, 101, 110, 100, 10]⟩ : ByteArray))] (by rfl) rfl rfl (by (try simp only [List.map_toArray, List.map_cons, List.map_nil]); first | done | rfl | (simp only [List.length_drop, List.length_take]; rfl)) ?_
            with_reducible refine (impl_Execute.calls kj5 (((t1398 ++ (⟨#[119, 97, 121, 32]⟩ : ByteArray)) ++ t1399) ++ (⟨#[10, 109, 101, 110, 100, 10]⟩ : ByteArray)) t1400 _ (GL.below GLW.out (viaX HB.out GE1393.out)) A23.out).mono ?_
            rintro e w33 ⟨rfl, hb⟩
            refine ⟨_, rfl, ?_⟩
            have n0_ := Aside0.mk (Kd.R_below (viaR HO_1394001.out) hb); have n1_ := Aside0.mk (blk_below (g := gb1393) (o := .cells #[.int .i64 t1388, .slice Ao10 t1389.length co10] 28 (0, 0)) (viaB BK1393.out) hb); have n2_ := Aside0.mk (below_step (viaX HB.out GE1393.out) hb); clear HO_1394001; clear BK1393; clear HB; have HO_1394001 := n0_; have BK1393 := n1_; have HB := n2_; clear n0_ n1_ n2_
            (try clear hb)
            (try clear hb2)
            (try clear hk)
            (try clear hi)
            refine hK.out _ _ ⟨(blk_cell BK1393.out 0).trans rfl, (blk_cell BK1393.out 1).trans rfl⟩ (fun hHeld => ?_)
            clear hK K
            refine norm_ (a' := ?_) ?_ ?_
            rotate_left
            ·show Act.put _ (some 56) _ = _
             simp only [Act.put, List.setIfInBounds_toArray, List.set_cons_zero, List.set_cons_succ, i64_w, i32_w]
             rfl
            refine one_ (i := 9) (N := some 58) #[true, true, true, true, true, true, true, true, true, true, false, false, true, true, true, false, false, false, false, false] rfl rfl (one_of HT_.out (by kernel_rfl)) (by decide) (fun K hK => ?_)
            refine goes_ Tryz.func18 (by kernel_rfl) rfl #[.int .i64 t1394] (by rfl) rfl rfl (by (try simp only [List.map_toArray, List.map_cons, List.map_nil]); first | done | rfl | (simp only [List.length_drop, List.length_take]; rfl)) ?_
            with_reducible refine (laws_digits.calls kj5 t1394 t1401 _ A24.out).mono ?_
            rintro e w34 ⟨rfl, hb⟩
            refine ⟨_, rfl, ?_⟩
            have n0_ := Aside0.mk (Kd.R_below (viaR HO_1394001.out) hb); have n1_ := Aside0.mk (blk_below (g := gb1393) (o := .cells #[.int .i64 t1388, .slice Ao10 t1389.length co10] 28 (0, 0)) (viaB BK1393.out) hb); have n2_ := Aside0.mk (below_step (viaX HB.out GE1393.out) hb); clear HO_1394001; clear BK1393; clear HB; have HO_1394001 := n0_; have BK1393 := n1_; have HB := n2_; clear n0_ n1_ n2_
            (try clear hb)
            (try clear hb2)
            (try clear hk)
            (try clear hi)
            refine hK.out _ _ ⟨(blk_cell BK1393.out 0).trans rfl, (blk_cell BK1393.out 1).trans rfl⟩ (fun hHeld => ?_)
            clear hK K
            refine norm_ (a' := ?_) ?_ ?_
            rotate_left
            ·show Act.put _ (some 58) _ = _
             simp only [Act.put, List.setIfInBounds_toArray, List.set_cons_zero, List.set_cons_succ, i64_w, i32_w]
             rfl
            refine pure_ (i := 10) (N := some 59) (v := ?_) (a' := ?_) #[true, true, true, true, true, true, true, true, true, true, true, false, true, true, true, false, false, false, false, false] rfl rfl (any_of HT_.out (by kernel_rfl)) (fun _ _ _ h => h) (Or.inl ⟨by rfl, ?_⟩) ?_ ?_
            rotate_left
            ·intro w'
             go_simp
             with_reducible rfl
            rotate_left
            ·simp only [Act.put, List.setIfInBounds_toArray, List.set_cons_zero, List.set_cons_succ, i64_w, i32_w]
             rfl
            refine pure_ (i := 11) (N := some 60) (v := ?_) (a' := ?_) #[true, true, true, true, true, true, true, true, true, true, true, true, true, true, true, false, false, false, false, false] rfl rfl (any_of HT_.out (by kernel_rfl)) (fun _ _ _ h => h) (Or.inl ⟨by rfl, ?_⟩) ?_ ?_
            rotate_left
            ·intro w'
             go_simp
             with_reducible rfl
            rotate_left
            ·simp only [Act.put, List.setIfInBounds_toArray, List.set_cons_zero, List.set_cons_succ, i64_w, i32_w]
             rfl
            refine one_ (i := 15) (N := some 64) #[true, true, true, true, true, true, true, true, true, true, true, true, true, true, true, true, false, false, false, false] rfl rfl (one_of HT_.out (by kernel_rfl)) (by decide) (fun K hK => ?_)
            refine goes_ Tryz.func18 (by kernel_rfl) rfl #[.int .i64 (t1389.length : Int)] (by rfl) rfl rfl (by (try simp only [List.map_toArray, List.map_cons, List.map_nil]); first | done | rfl | (simp only [List.length_drop, List.length_take]; rfl)) ?_
            with_reducible refine (laws_digits.calls kj5 (t1389.length : Int) t1402 _ A27.out).mono ?_
            rintro e w35 ⟨rfl, hb⟩
            refine ⟨_, rfl, ?_⟩
            have n0_ := Aside0.mk (Kd.R_below (viaR HO_1394001.out) hb); have n1_ := Aside0.mk (blk_below (g := gb1393) (o := .cells #[.int .i64 t1388, .slice Ao10 t1389.length co10] 28 (0, 0)) (viaB BK1393.out) hb); have n2_ := Aside0.mk (below_step (viaX HB.out GE1393.out) hb); clear HO_1394001; clear BK1393; clear HB; have HO_1394001 := n0_; have BK1393 := n1_; have HB := n2_; clear n0_ n1_ n2_
            (try clear hb)
            (try clear hb2)
            (try clear hk)
            (try clear hi)
            refine hK.out _ _ ⟨(blk_cell BK1393.out 0).trans rfl, (blk_cell BK1393.out 1).trans rfl⟩ (fun hHeld => ?_)
            clear hK K
            refine norm_ (a' := ?_) ?_ ?_
            rotate_left
            ·show Act.put _ (some 64) _ = _
             simp only [Act.put, List.setIfInBounds_toArray, List.set_cons_zero, List.set_cons_succ, i64_w, i32_w]
             rfl
            refine pure_ (i := 16) (N := some 65) (v := ?_) (a' := ?_) #[true, true, true, true, true, true, true, true, true, true, true, true, true, true, true, true, true, false, false, false] rfl rfl (any_of HT_.out (by kernel_rfl)) (fun _ _ _ h => h) (Or.inl ⟨by rfl, ?_⟩) ?_ ?_
            rotate_left
            ·intro w'
             go_simp
             with_reducible rfl
            rotate_left
            ·simp only [Act.put, List.setIfInBounds_toArray, List.set_cons_zero, List.set_cons_succ, i64_w, i32_w]
             rfl
            refine pure_ (i := 17) (N := some 66) (v := ?_) (a' := ?_) #[true, true, true, true, true, true, true, true, true, true, true, true, true, true, true, true, true, true, false, false] rfl rfl (any_of HT_.out (by kernel_rfl)) (fun _ _ _ h => h) (Or.inl ⟨by rfl, ?_⟩) ?_ ?_
            rotate_left
            ·intro w'
             go_simp
             with_reducible rfl
            rotate_left
            ·simp only [Act.put, List.setIfInBounds_toArray, List.set_cons_zero, List.set_cons_succ, i64_w, i32_w]
             rfl
            refine pure_ (i := 18) (N := some 67) (v := ?_) (a' := ?_) #[true, true, true, true, true, true, true, true, true, true, true, true, true, true, true, true, true, true, true, false] rfl rfl (any_of HT_.out (by kernel_rfl)) (fun _ _ _ h => h) (Or.inl ⟨by rfl, ?_⟩) ?_ ?_
            rotate_left
            ·intro w'
             go_simp
             with_reducible rfl
            rotate_left
            ·simp only [Act.put, List.setIfInBounds_toArray, List.set_cons_zero, List.set_cons_succ, i64_w, i32_w]
             rfl
            refine pure_ (i := 19) (N := some 2) (v := ?_) (a' := ?_) #[true, true, true, true, true, true, true, true, true, true, true, true, true, true, true, true, true, true, true, true] rfl rfl (any_of HT_.out (by kernel_rfl)) (fun _ _ _ h => h) (Or.inl ⟨by rfl, ?_⟩) ?_ ?_
            rotate_left
            ·intro w'
             go_simp
             with_reducible rfl
            rotate_left
            ·simp only [Act.put, List.setIfInBounds_toArray, List.set_cons_zero, List.set_cons_succ, i64_w, i32_w]
             rfl
            refine done_ (done_of HT_.out (by kernel_rfl)) ?_
            try go_wp2
            go_ret
            exact ⟨by first | rfl | (simp [errW_none, errW_some] <;> rfl) | (simp [*, errW_none, errW_some] <;> rfl), viaX HB.out GE1393.out⟩
           ·rw [if_neg c29] at H
            exact absurd H (by simp)
          ·rw [if_neg c28] at H
           exact absurd H (by simp)
         ·rw [if_neg c26] at H
          exact absurd H (by simp)
        ·rw [if_neg c25] at H
         exact absurd H (by simp)
       ·rw [if_neg c22] at H
        exact absurd H (by simp)
      ·rw [if_neg c21] at H
       exact absurd H (by simp)
     ·rw [if_neg c19] at H
      exact absurd H (by simp)

/-- THE ONE PURE STATEMENT of laws_FnExecuteMend: yours. -/
def laws_FnExecuteMend.Pure : Prop := ∀ (l0 : List Int), l0.length ≤ maxLen → l0.length * 1 ≤ 140737488351232 → (∀ x ∈ l0, (Lit.int .u8 x).wf = true) → ∃ k, laws_FnExecuteMend.f k l0 = some true
theorem laws_FnExecuteMend.walk (P : laws_FnExecuteMend.Pure) (a0 : Option Addr) (len0 cap0 : Nat) (z0 : List Int) (w : World) (gl : GL w) (w0 : (a0 = none ∧ len0 = 0 ∧ cap0 = 0 ∧ z0 = []) ∨ ∃ x, a0 = some x ∧ len0 ≤ cap0 ∧ cap0 ≤ maxLen ∧ z0.length = cap0 ∧ (∀ i, i < z0.length → w.cell? (x.add i) = some (.int .u8 (z0.getD i 0))) ∧ ∀ n ∈ z0, (Lit.int .u8 n).wf = true) (y0 : len0 * 1 ≤ 140737488351232) :
  Calls Tryz.prog 7 #[.slice a0 len0 cap0] w fun e w' => e = .returned (.bool true) ∧ Below w.heap.size w w' := by
 obtain ⟨l0, rfl, hr0, hm0, hw0, hc0⟩ := ReadsInt.ofRowC w0; obtain ⟨k, h⟩ := P l0 hm0 y0 hw0
 refine (laws_FnExecuteMend.calls k _ _ l0 true w gl (Kd.C_of_reads (d := (0 : Int)) (h1 := fun _ => rfl) hr0) hc0 h).mono ?_
 rintro e w' ⟨rfl, hd⟩
 exact ⟨rfl, hd⟩

end Go.Proofs.YtapdleaemdlgnaaGreatDoor.G
