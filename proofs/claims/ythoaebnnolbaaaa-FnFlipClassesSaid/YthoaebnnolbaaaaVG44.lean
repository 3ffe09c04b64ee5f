/- A part of this claim; what it does not use is left out. -/
import Derived.Test.YthoaebnnolbaaaaVG0
import Derived.Test.YthoaebnnolbaaaaVG3
import Derived.Test.YthoaebnnolbaaaaVG7
import Derived.Test.YthoaebnnolbaaaaVG35
namespace Go.Proofs.Ythoaebnnolbaaaa.G
open Go.RowKit Go.Proofs.YthoaebnnolbaaaaW.PrintWords Go.Proofs.YthoaebnnolbaaaaW.PrintLast Go.Proofs.YthoaebnnolbaaaaW.PrintMore
set_option linter.unusedVariables false
set_option linter.unusedSimpArgs false
mutual
def spec_FlipClasses.j0 : Nat → ByteArray → Bool → Int → List (S69) → Option (Int × Bool)
 | 0, _, _, _, _ => none
 | k + 1, x1, x16, x867000, x867001 => if x16 = true then (some (0, false)) else ((spec_l1All.f x867000 x867001).bind fun t869 => (if 0 ≤ (wrap64 (t869 + 1)) then (if (wrap64 (t869 + 1) : Int).toNat ≤ 281474976710656 then (spec_FlipClasses.l0 k x1 (List.replicate (wrap64 (t869 + 1) : Int).toNat false) 0 0 x867000 x867001) else (none)) else (none)))
def spec_FlipClasses.l0 : Nat → ByteArray → List Bool → Int → Int → Int → List (S69) → Option (Int × Bool)
 | 0, _, _, _, _, _, _ => none
 | k + 1, x1, x6, x7, x8, x867000, x867001 => (spec_l1All.f x867000 x867001).bind fun t873 => (if x8 ≤ t873 then (if 0 ≤ x8 then (if x8 < (x6.length : Int) then (if rdOf false x6 x8 = true then (spec_FlipClasses.l0 k x1 x6 x7 (wrap64 (x8 + 1)) x867000 x867001) else ((spec_l5Class.f k x867000 x867001 x1 x8 x6).bind fun bt875 => (spec_FlipClasses.l0 k x1 bt875.2 (wrap64 (x7 + 1)) (wrap64 (x8 + 1)) x867000 x867001))) else (none)) else (none)) else (some (x7, true)))
end
def spec_FlipClasses.f (k : Nat) (a0_0 : Int) (l0_1 : List (S69)) (a1 : ByteArray) : Option (Int × Bool) := (spec_WayGraph.f k a0_0 l0_1).bind fun t867 => (if t867 = true then ((spec_l5Kind.f a1).bind fun t868 => (spec_FlipClasses.j0 k a1 (!t868) a0_0 l0_1)) else (spec_FlipClasses.j0 k a1 true a0_0 l0_1))
set_option maxHeartbeats 8000000 in
set_option maxRecDepth 100000 in
theorem spec_FlipClasses.calls (k : Nat) (a0_0 : Int) (A0_1 : Option Addr) (c0_1 : Nat) (l0_1 : List (S69)) (a1 : ByteArray) (r1 : Int) (r2 : Bool) (w : World) (hr0_1 : Kd.C k69 w A0_1 l0_1.length l0_1) (hc0_1 : l0_1.length ≤ c0_1) (h : spec_FlipClasses.f k a0_0 l0_1 a1 = some (r1, r2)) :
  Calls Try.prog 38 #[.agg #[.int .i64 a0_0, .slice A0_1 l0_1.length c0_1], .string a1] w fun e w' => e = .returned (.tuple #[.int .i64 r1, .bool r2]) ∧ Below w.heap.size w w' := by
 have hu25 := Try.underlying25; have HR0_1 := aK hr0_1; have HC0_1 := aK hc0_1; clear hr0_1 hc0_1; have HB := aK (Below.refl w.heap.size w); have H : ((spec_WayGraph.f k a0_0 l0_1).bind fun t867 => (if t867 = true then ((spec_l5Kind.f a1).bind fun t868 => (spec_FlipClasses.j0 k a1 (!t868) a0_0 l0_1)) else (spec_FlipClasses.j0 k a1 true a0_0 l0_1))) = some (r1, r2) := h; clear h; have HC3 := aK H; clear H
 go_enter Try.func38, Try.ntmps38
 go_upto_region 1 with (first | ((with_reducible refine gate_dst (N := 2) rfl ?_); refine box_event ?hg (N := 2) ?hd (cs := #[.int .i64 a0_0, .slice A0_1 l0_1.length c0_1]) (t := 25) ?hr ?_; (case hd => rfl); (case hg => rfl); (case hr => first | (go_simp; done) | (go_simp; rfl)); intro gb866 hg w4 hbox hb; have n0_ := aK (below_step (viaW HB.out) hb); have n1_ := aK (hbox); have n2_ := aK ((by rw [hg]; exact (below_size (viaW HB.out)) : w.heap.size ≤ gb866)); have n3_ := aK ((by rw [hg]; exact (below_size (viaW HB.out)) : w.heap.size ≤ gb866)); clear HB; have HB := n0_; have BK866 := n1_; have GW866 := n2_; have GE866 := n3_; clear n0_ n1_ n2_ n3_; clear hb hbox hg))
 (try simp only [Act.put, lA, lB, lC])
 go_cut [16] (fun v16 wc => ∃ (kq : Nat) (x16_2 : Bool), v16 = .bool x16_2 ∧ Aside0 (spec_FlipClasses.j0 kq a1 x16_2 a0_0 l0_1 = some (r1, r2)) ∧ Aside0 (kq ≤ k) ∧ Aside0 (wc.heap[gb866]? = some (.cells #[.int .i64 a0_0, (.slice A0_1 l0_1.length c0_1)] 25 (0, 0))) ∧ Aside0 (Below w.heap.size w wc))
 case first =>
  have H := HC3.out; clear HC3; replace H := Option.bind_eq_some_iff.mp H; obtain ⟨t867, A50, H⟩ := H; replace H : (if t867 = true then ((spec_l5Kind.f a1).bind fun t868 => (spec_FlipClasses.j0 k a1 (!t868) a0_0 l0_1)) else (spec_FlipClasses.j0 k a1 true a0_0 l0_1)) = some (r1, r2) := H; have A5 := aK A50; clear A50
  by_cases c6 : t867 = true
  ·subst c6
   have H1 : ((spec_l5Kind.f a1).bind fun t868 => (spec_FlipClasses.j0 k a1 (!t868) a0_0 l0_1)) = some (r1, r2) := by rw [if_pos rfl] at H; exact H
   clear H; have H := H1; clear H1; replace H := Option.bind_eq_some_iff.mp H; obtain ⟨t868, A70, H⟩ := H; replace H : (spec_FlipClasses.j0 k a1 (!t868) a0_0 l0_1) = some (r1, r2) := H; have A7 := aK A70; clear A70; have H' := aK H; clear H; have hcz8_0 : w4.cell? ⟨gb866, 0, none⟩ = some (.int .i64 a0_0) := (blk_cell BK866.out 0).trans rfl; have hcz8_1 : w4.cell? ⟨gb866, 1, none⟩ = some (.slice A0_1 l0_1.length c0_1) := (blk_cell BK866.out 1).trans rfl; have hfz8_0 := blk_frozen BK866.out 0; have hfz8_1 := blk_frozen BK866.out 1
   go_wp2_with (first | ((with_reducible refine gate_callee (f := 50) rfl ?_); refine goesL_ (some 10) rfl rfl Try.func50 (by kernel_rfl) rfl #[.agg #[.int .i64 a0_0, .slice A0_1 l0_1.length c0_1]] rfl (by (try simp only [List.map_toArray, List.map_cons, List.map_nil]); first | done | rfl | (simp only [List.length_drop, List.length_take]; rfl)) ?_; (with_reducible refine (spec_WayGraph.calls k a0_0 _ _ l0_1 true _ ?side1 ?side2 A5.out).mono ?_); (case side1 => repeat (first | exact (Kd.C_below HR0_1.out HB.out) | (with_reducible refine Kd.C_alloc ?_ _) | (with_reducible refine Kd.C_drewN ?_ _) | (with_reducible refine Kd.C_drew ?_))); (case side2 => exact HC0_1.out); rintro e w9 ⟨rfl, hb⟩; refine ⟨_, rfl, ?_⟩; have n0_ := aK (blk_below (g := gb866) (o := .cells #[.int .i64 a0_0, .slice A0_1 l0_1.length c0_1] 25 (0, 0)) (viaB BK866.out) hb); have n1_ := aK (below_step (viaX HB.out GE866.out) hb); clear BK866; clear HB; have BK866 := n0_; have HB := n1_; clear n0_ n1_; (try clear hb); (try clear hb2); (try clear hk); (try clear hi)) | (go_at_call 71; (with_reducible refine (spec_l5Kind.calls a1 t868 _ A7.out).mono ?_); rintro e w' ⟨rfl, ⟨nd, rfl⟩⟩))
   go_meet
   case rel => exact ⟨_, (!t868), (by first | rfl | (simp; done) | (simp [*]; done)), H', ⟨by first | omega | exact Nat.le_refl _⟩, ⟨viaB BK866.out⟩, ⟨viaX HB.out GE866.out⟩⟩
  ·replace c6 := Bool.eq_false_iff.mpr c6
   subst c6; have H1 : (spec_FlipClasses.j0 k a1 true a0_0 l0_1) = some (r1, r2) := by rw [if_neg (show ¬ (false = true) by decide)] at H; exact H
   clear H; have H := H1; clear H1; have H' := aK H; clear H; have hcz10_0 : w4.cell? ⟨gb866, 0, none⟩ = some (.int .i64 a0_0) := (blk_cell BK866.out 0).trans rfl; have hcz10_1 : w4.cell? ⟨gb866, 1, none⟩ = some (.slice A0_1 l0_1.length c0_1) := (blk_cell BK866.out 1).trans rfl; have hfz10_0 := blk_frozen BK866.out 0; have hfz10_1 := blk_frozen BK866.out 1
   go_wp2_with (first | ((with_reducible refine gate_callee (f := 50) rfl ?_); refine goesL_ (some 10) rfl rfl Try.func50 (by kernel_rfl) rfl #[.agg #[.int .i64 a0_0, .slice A0_1 l0_1.length c0_1]] rfl (by (try simp only [List.map_toArray, List.map_cons, List.map_nil]); first | done | rfl | (simp only [List.length_drop, List.length_take]; rfl)) ?_; (with_reducible refine (spec_WayGraph.calls k a0_0 _ _ l0_1 false _ ?side1 ?side2 A5.out).mono ?_); (case side1 => repeat (first | exact (Kd.C_below HR0_1.out HB.out) | (with_reducible refine Kd.C_alloc ?_ _) | (with_reducible refine Kd.C_drewN ?_ _) | (with_reducible refine Kd.C_drew ?_))); (case side2 => exact HC0_1.out); rintro e w11 ⟨rfl, hb⟩; refine ⟨_, rfl, ?_⟩; have n0_ := aK (blk_below (g := gb866) (o := .cells #[.int .i64 a0_0, .slice A0_1 l0_1.length c0_1] 25 (0, 0)) (viaB BK866.out) hb); have n1_ := aK (below_step (viaX HB.out GE866.out) hb); clear BK866; clear HB; have BK866 := n0_; have HB := n1_; clear n0_ n1_; (try clear hb); (try clear hb2); (try clear hk); (try clear hi)))
   go_meet
   case rel => exact ⟨_, (true), (by first | rfl | (simp; done) | (simp [*]; done)), H', ⟨by first | omega | exact Nat.le_refl _⟩, ⟨viaB BK866.out⟩, ⟨viaX HB.out GE866.out⟩⟩
 case rest =>
  clear HC3
  try clear p2
  try clear c3
  try clear c5
  try clear c6
  try clear hcz10_0
  try clear hcz10_1
  try clear hcz8_0
  try clear hcz8_1
  try clear hfz10_0
  try clear hfz10_1
  try clear hfz8_0
  try clear hfz8_1
  obtain ⟨kq, x16_2, rfl, HA, HJ2, BK866, HB⟩ := hcut
  cases kq with
  | zero => exact absurd HA.out (by simp [spec_FlipClasses.j0])
  | succ kj2 =>
   have H := HA.out; clear HA
   simp only [spec_FlipClasses.j0] at H
   by_cases c12 : x16_2 = true
   ·subst c12
    have H1 : (some (0, false)) = some (r1, r2) := by rw [if_pos rfl] at H; exact H
    clear H; have H := H1; clear H1
    simp only [Option.some.injEq, Prod.mk.injEq] at H
    obtain ⟨rfl, rfl⟩ := H
    go_wp2
    go_ret2
    exact ⟨by first | rfl | (simp [errW_none, errW_some] <;> rfl) | (simp [*, errW_none, errW_some] <;> rfl), viaX HB.out GE866.out⟩
   ·replace c12 := Bool.eq_false_iff.mpr c12
    subst c12; have H1 : ((spec_l1All.f a0_0 l0_1).bind fun t869 => (if 0 ≤ (wrap64 (t869 + 1)) then (if (wrap64 (t869 + 1) : Int).toNat ≤ 281474976710656 then (spec_FlipClasses.l0 kj2 a1 (List.replicate (wrap64 (t869 + 1) : Int).toNat false) 0 0 a0_0 l0_1) else (none)) else (none))) = some (r1, r2) := by rw [if_neg (show ¬ (false = true) by decide)] at H; exact H
    clear H; have H := H1; clear H1; replace H := Option.bind_eq_some_iff.mp H; obtain ⟨t869, A130, H⟩ := H; replace H : (if 0 ≤ (wrap64 (t869 + 1)) then (if (wrap64 (t869 + 1) : Int).toNat ≤ 281474976710656 then (spec_FlipClasses.l0 kj2 a1 (List.replicate (wrap64 (t869 + 1) : Int).toNat false) 0 0 a0_0 l0_1) else (none)) else (none)) = some (r1, r2) := H; have A13 := aK A130; clear A130; obtain ⟨ji14, hji14⟩ : ∃ j_ : Int, (wrap64 (t869 + 1)) = j_ := ⟨_, rfl⟩; replace H : (if 0 ≤ (ji14) then (if (ji14 : Int).toNat ≤ 281474976710656 then (spec_FlipClasses.l0 kj2 a1 (List.replicate (ji14 : Int).toNat false) 0 0 a0_0 l0_1) else (none)) else (none)) = some (r1, r2) := by first | (rw [hji14] at H; exact H) | (simp only [hji14] at H ⊢; exact H)
    (try rw [hji14] at A13)
    have hji14w : (IntKind.i64.wrap (t869 + 1)) = ji14 := (i64_w _).trans hji14
    by_cases c15 : 0 ≤ (ji14)
    ·rw [if_pos c15] at H
     have c15b0 := eq_true c15; have c15b1 : decide (0 ≤ (ji14)) = true := decide_eq_true c15; clear c15
     by_cases c16 : (ji14 : Int).toNat ≤ 281474976710656
     ·rw [if_pos c16] at H
      have c16b0 := eq_true c16; have c16b1 : decide ((ji14 : Int).toNat ≤ 281474976710656) = true := decide_eq_true c16; clear c16; obtain ⟨y870, hy870⟩ : ∃ y_ : List Bool, y_ = (List.replicate (ji14 : Int).toNat false) := ⟨_, rfl⟩; replace H : (spec_FlipClasses.l0 kj2 a1 y870 0 0 a0_0 l0_1) = some (r1, r2) := by first | (rw [hy870]; with_reducible exact H) | (have H2_ := (Option.bind_some _ _).symm.trans H; rw [hy870]; with_reducible exact H2_) | (have H2_ := (Option.bind_some _ _).symm.trans H; with_reducible exact H2_) | with_reducible exact H | (rw [hy870]; exact H) | exact H
      have Ny870 := aK hy870; clear hy870; have H' := aK H; clear H; have hcz17_0 : wc.cell? ⟨gb866, 0, none⟩ = some (.int .i64 a0_0) := (blk_cell BK866.out 0).trans rfl; have hcz17_1 : wc.cell? ⟨gb866, 1, none⟩ = some (.slice A0_1 l0_1.length c0_1) := (blk_cell BK866.out 1).trans rfl; have hfz17_0 := blk_frozen BK866.out 0; have hfz17_1 := blk_frozen BK866.out 1
      go_wp2_with (first | ((with_reducible refine gate_callee (f := 51) rfl ?_); refine goesL_ (some 18) rfl rfl Try.func51 (by kernel_rfl) rfl #[.agg #[.int .i64 a0_0, .slice A0_1 l0_1.length c0_1]] rfl (by (try simp only [List.map_toArray, List.map_cons, List.map_nil]); first | done | rfl | (simp only [List.length_drop, List.length_take]; rfl)) ?_; (with_reducible refine (spec_l1All.calls a0_0 _ _ l0_1 t869 _ ?side1 ?side2 A13.out).mono ?_); (case side1 => repeat (first | exact (Kd.C_below HR0_1.out HB.out) | (with_reducible refine Kd.C_alloc ?_ _) | (with_reducible refine Kd.C_drewN ?_ _) | (with_reducible refine Kd.C_drew ?_))); (case side2 => exact HC0_1.out); rintro e w18 ⟨rfl, hb⟩; refine ⟨_, rfl, ?_⟩; have n0_ := aK (blk_below (g := gb866) (o := .cells #[.int .i64 a0_0, .slice A0_1 l0_1.length c0_1] 25 (0, 0)) (viaB BK866.out) hb); have n1_ := aK (below_step (viaX HB.out GE866.out) hb); clear BK866; clear HB; have BK866 := n0_; have HB := n1_; clear n0_ n1_; (try clear hb); (try clear hb2); (try clear hk); (try clear hi)) | ((with_reducible refine gate_dst (N := 20) rfl ?_); refine Kd.R_make Kd.bool _ 4 rfl (N := 20) rfl 74 _ _ rfl ji14 rfl rfl Try.underlying74 (.bool false) 1 info4 rfl (by decide) (by omega) false (ok := fun _ => True) (okp := fun _ => True) rfl (fun _ hk => hk) trivial (of_decide_eq_true (by first | (with_reducible assumption) | assumption)) (Nat.le_trans (Nat.mul_le_mul_right _ (of_decide_eq_true (by first | (with_reducible assumption) | assumption) : ji14.toNat ≤ 281474976710656)) (by omega)) (Below.refl _ _) (Nat.le_refl _) ?_; intro v871 w19 ho20 hb hg_ hnew_; clear hg_ hnew_; (first | rw [← Ny870.out] at ho20 | (simp only [Int.reduceToNat] at ho20; rw [← Ny870.out] at ho20)); have n0_ := aK (Kd.R_lower ho20 (below_size (viaX HB.out GE866.out))); have n1_ := aK (blk_below (g := gb866) (o := .cells #[.int .i64 a0_0, .slice A0_1 l0_1.length c0_1] 25 (0, 0)) (viaB BK866.out) hb); have n2_ := aK (below_step (viaX HB.out GE866.out) hb); clear BK866; clear HB; have HO872 := n0_; have BK866 := n1_; have HB := n2_; clear n0_ n1_ n2_; clear hb ho20))
      go_loopg [7, 8] kj2 (fun kq v7 v8 w' => ∃ (x6_2 : List Bool) (x7_2 : Int) (x8_2 : Int), v7 = .int .i64 x7_2 ∧ v8 = .int .i64 x8_2 ∧ Aside0 (spec_FlipClasses.l0 kq a1 x6_2 x7_2 x8_2 a0_0 l0_1 = some (r1, r2)) ∧ Aside0 (kq ≤ kj2) ∧ Aside0 (Kd.R Kd.bool 4 w' w.heap.size (fun _ => True) v871 x6_2) ∧ Aside0 (w'.heap[gb866]? = some (.cells #[.int .i64 a0_0, (.slice A0_1 l0_1.length c0_1)] 25 (0, 0))) ∧ Aside0 (Below w.heap.size w w'))
      case atStart => exact ⟨(y870), (0), (0), (by first | rfl | (simp; done) | (simp [*]; done)), (by first | rfl | (simp; done) | (simp [*]; done)), H', ⟨Nat.le_refl _⟩, ⟨viaR HO872.out⟩, ⟨viaB BK866.out⟩, ⟨viaX HB.out GE866.out⟩⟩
      case round =>
       clear H'
       try clear c1
       try clear p2
       try clear c3
       try clear c5
       try clear c6
       try clear p6
       try clear c12
       try clear c15
       try clear c15b0
       try clear c15b1
       try clear c16
       try clear c16b0
       try clear c16b1
       try clear hcz10_0
       try clear hcz10_1
       try clear hcz17_0
       try clear hcz17_1
       try clear hcz8_0
       try clear hcz8_1
       try clear hfz10_0
       try clear hfz10_1
       try clear hfz17_0
       try clear hfz17_1
       try clear hfz8_0
       try clear hfz8_1
       try clear p2
       obtain ⟨x6_2, x7_2, x8_2, rfl, rfl, HA, HK2, HO_6, BK866, HB⟩ := hrel
       cases gk with
       | zero => exact absurd HA.out (by simp [spec_FlipClasses.l0])
       | succ k2 =>
        have H := HA.out; clear HA
        simp only [spec_FlipClasses.l0] at H
        replace H := Option.bind_eq_some_iff.mp H; obtain ⟨t873, A210, H⟩ := H; replace H : (if x8_2 ≤ t873 then (if 0 ≤ x8_2 then (if x8_2 < (x6_2.length : Int) then (if rdOf false x6_2 x8_2 = true then (spec_FlipClasses.l0 k2 a1 x6_2 x7_2 (wrap64 (x8_2 + 1)) a0_0 l0_1) else ((spec_l5Class.f k2 a0_0 l0_1 a1 x8_2 x6_2).bind fun bt875 => (spec_FlipClasses.l0 k2 a1 bt875.2 (wrap64 (x7_2 + 1)) (wrap64 (x8_2 + 1)) a0_0 l0_1))) else (none)) else (none)) else (some (x7_2, true))) = some (r1, r2) := H; have A21 := aK A210; clear A210
        by_cases c22 : x8_2 ≤ t873
        ·rw [if_pos c22] at H
         have c22b0 : decide (x8_2 ≤ t873) = true := decide_eq_true c22; clear c22
         by_cases c23 : 0 ≤ x8_2
         ·rw [if_pos c23] at H
          have c23b0 : decide (0 ≤ x8_2) = true := decide_eq_true c23; clear c23
          by_cases c24 : x8_2 < (x6_2.length : Int)
          ·rw [if_pos c24] at H
           have c24b0 : decide (x8_2 < (x6_2.length : Int)) = true := decide_eq_true c24; clear c24; obtain ⟨bq25, hbq25⟩ : ∃ b_ : Bool, b_ = (rdOf false x6_2 x8_2) := ⟨_, rfl⟩; replace H : (if bq25 = true then (spec_FlipClasses.l0 k2 a1 x6_2 x7_2 (wrap64 (x8_2 + 1)) a0_0 l0_1) else ((spec_l5Class.f k2 a0_0 l0_1 a1 x8_2 x6_2).bind fun bt875 => (spec_FlipClasses.l0 k2 a1 bt875.2 (wrap64 (x7_2 + 1)) (wrap64 (x8_2 + 1)) a0_0 l0_1))) = some (r1, r2) := by rw [← hbq25] at H; exact H
           have Nbq25 := aK hbq25; clear hbq25
           by_cases c26 : bq25 = true
           ·subst c26
            have H1 : (spec_FlipClasses.l0 k2 a1 x6_2 x7_2 (wrap64 (x8_2 + 1)) a0_0 l0_1) = some (r1, r2) := by rw [if_pos rfl] at H; exact H
            clear H; have H := H1; clear H1; have H' := aK H; clear H; have hcz27_0 : wr.cell? ⟨gb866, 0, none⟩ = some (.int .i64 a0_0) := (blk_cell BK866.out 0).trans rfl; have hcz27_1 : wr.cell? ⟨gb866, 1, none⟩ = some (.slice A0_1 l0_1.length c0_1) := (blk_cell BK866.out 1).trans rfl; have hfz27_0 := blk_frozen BK866.out 0; have hfz27_1 := blk_frozen BK866.out 1
            go_wp2_with (first | ((with_reducible refine gate_callee (f := 51) rfl ?_); refine goesL_ (some 23) rfl rfl Try.func51 (by kernel_rfl) rfl #[.agg #[.int .i64 a0_0, .slice A0_1 l0_1.length c0_1]] rfl (by (try simp only [List.map_toArray, List.map_cons, List.map_nil]); first | done | rfl | (simp only [List.length_drop, List.length_take]; rfl)) ?_; (with_reducible refine (spec_l1All.calls a0_0 _ _ l0_1 t873 _ ?side1 ?side2 A21.out).mono ?_); (case side1 => repeat (first | exact (Kd.C_below HR0_1.out HB.out) | (with_reducible refine Kd.C_alloc ?_ _) | (with_reducible refine Kd.C_drewN ?_ _) | (with_reducible refine Kd.C_drew ?_))); (case side2 => exact HC0_1.out); rintro e w28 ⟨rfl, hb⟩; refine ⟨_, rfl, ?_⟩; have n0_ := aK (Kd.R_below (viaR HO_6.out) hb); have n1_ := aK (blk_below (g := gb866) (o := .cells #[.int .i64 a0_0, .slice A0_1 l0_1.length c0_1] 25 (0, 0)) (viaB BK866.out) hb); have n2_ := aK (below_step (viaX HB.out GE866.out) hb); clear HO_6; clear BK866; clear HB; have HO_6 := n0_; have BK866 := n1_; have HB := n2_; clear n0_ n1_ n2_; (try clear hb); (try clear hb2); (try clear hk); (try clear hi); obtain ⟨Ao29, co29, eo29⟩ := Kd.R_slice HO_6.out; subst eo29; have p874 : 0 ≤ (x8_2 : Int) := of_decide_eq_true (by first | (with_reducible assumption) | assumption); have q874 : x8_2 < (x6_2.length : Int) := of_decide_eq_true (by first | (with_reducible assumption) | assumption); obtain ⟨ad874, e874, hx874_0⟩ := Kd.at_bool (Kd.R_reads' HO_6.out).2.2 x8_2 p874 q874; (try rw [← Nbq25.out] at hx874_0); cases e874; replace p874 := eq_true p874; replace q874 := eq_true q874))
            go_roundg k2
            case measure => have := HJ2.out; have := HK2.out; omega
            case rel => exact ⟨(x6_2), (x7_2), (wrap64 (x8_2 + 1)), (by first | rfl | (simp; done) | (simp [*]; done)), (by first | rfl | (simp; done) | (simp [*]; done)), H', ⟨by have := HJ2.out; have := HK2.out; omega⟩, ⟨viaR HO_6.out⟩, ⟨viaB BK866.out⟩, ⟨viaX HB.out GE866.out⟩⟩
           ·replace c26 := Bool.eq_false_iff.mpr c26
            subst c26; have H1 : ((spec_l5Class.f k2 a0_0 l0_1 a1 x8_2 x6_2).bind fun bt875 => (spec_FlipClasses.l0 k2 a1 bt875.2 (wrap64 (x7_2 + 1)) (wrap64 (x8_2 + 1)) a0_0 l0_1)) = some (r1, r2) := by rw [if_neg (show ¬ (false = true) by decide)] at H; exact H
            clear H; have H := H1; clear H1; replace H := Option.bind_eq_some_iff.mp H; obtain ⟨⟨t875, t876⟩, A300, H⟩ := H; replace H : (spec_FlipClasses.l0 k2 a1 t876 (wrap64 (x7_2 + 1)) (wrap64 (x8_2 + 1)) a0_0 l0_1) = some (r1, r2) := H; have A30 := aK A300; clear A300; have H' := aK H; clear H; have hcz31_0 : wr.cell? ⟨gb866, 0, none⟩ = some (.int .i64 a0_0) := (blk_cell BK866.out 0).trans rfl; have hcz31_1 : wr.cell? ⟨gb866, 1, none⟩ = some (.slice A0_1 l0_1.length c0_1) := (blk_cell BK866.out 1).trans rfl; have hfz31_0 := blk_frozen BK866.out 0; have hfz31_1 := blk_frozen BK866.out 1
            go_wp2_with (first | ((with_reducible refine gate_callee (f := 51) rfl ?_); refine goesL_ (some 23) rfl rfl Try.func51 (by kernel_rfl) rfl #[.agg #[.int .i64 a0_0, .slice A0_1 l0_1.length c0_1]] rfl (by (try simp only [List.map_toArray, List.map_cons, List.map_nil]); first | done | rfl | (simp only [List.length_drop, List.length_take]; rfl)) ?_; (with_reducible refine (spec_l1All.calls a0_0 _ _ l0_1 t873 _ ?side1 ?side2 A21.out).mono ?_); (case side1 => repeat (first | exact (Kd.C_below HR0_1.out HB.out) | (with_reducible refine Kd.C_alloc ?_ _) | (with_reducible refine Kd.C_drewN ?_ _) | (with_reducible refine Kd.C_drew ?_))); (case side2 => exact HC0_1.out); rintro e w32 ⟨rfl, hb⟩; refine ⟨_, rfl, ?_⟩; have n0_ := aK (Kd.R_below (viaR HO_6.out) hb); have n1_ := aK (blk_below (g := gb866) (o := .cells #[.int .i64 a0_0, .slice A0_1 l0_1.length c0_1] 25 (0, 0)) (viaB BK866.out) hb); have n2_ := aK (below_step (viaX HB.out GE866.out) hb); clear HO_6; clear BK866; clear HB; have HO_6 := n0_; have BK866 := n1_; have HB := n2_; clear n0_ n1_ n2_; (try clear hb); (try clear hb2); (try clear hk); (try clear hi); obtain ⟨Ao33, co33, eo33⟩ := Kd.R_slice HO_6.out; subst eo33; have p874 : 0 ≤ (x8_2 : Int) := of_decide_eq_true (by first | (with_reducible assumption) | assumption); have q874 : x8_2 < (x6_2.length : Int) := of_decide_eq_true (by first | (with_reducible assumption) | assumption); obtain ⟨ad874, e874, hx874_0⟩ := Kd.at_bool (Kd.R_reads' HO_6.out).2.2 x8_2 p874 q874; (try rw [← Nbq25.out] at hx874_0); cases e874; replace p874 := eq_true p874; replace q874 := eq_true q874; have hcz34_0 : w32.cell? ⟨gb866, 0, none⟩ = some (.int .i64 a0_0) := (blk_cell BK866.out 0).trans rfl; have hcz34_1 : w32.cell? ⟨gb866, 1, none⟩ = some (.slice A0_1 l0_1.length c0_1) := (blk_cell BK866.out 1).trans rfl; have hfz34_0 := blk_frozen BK866.out 0; have hfz34_1 := blk_frozen BK866.out 1) | ((with_reducible refine gate_callee (f := 72) rfl ?_); refine goesL_ (some 36) rfl rfl Try.func72 (by kernel_rfl) rfl #[.agg #[.int .i64 a0_0, .slice A0_1 l0_1.length c0_1], .string a1, .int .i64 x8_2, .slice (some ad874) x6_2.length co33] rfl (by (try simp only [List.map_toArray, List.map_cons, List.map_nil]); first | done | rfl | (simp only [List.length_drop, List.length_take]; rfl)) ?_; (with_reducible refine (spec_l5Class.calls k2 a0_0 _ _ l0_1 a1 x8_2 (fun k_ => some k_ = (.slice (some ad874) x6_2.length co33 : Value).ownBlock) (.slice (some ad874) x6_2.length co33) x6_2 t875 t876 w _ ?side1 ?side2 ?side3 ?side4 A30.out).mono ?_); (case side1 => repeat (first | (with_reducible first | exact HB.out | apply below_alloc | apply pw_below_drewN | apply below_drew1 | refine below_set ?_ GE866.out) | exact HB.out)); (case side2 => exact Kd.C_kept_came k69_heap HR0_1.out (viaX HB.out GE866.out) (fun k_ hs_ => (fun e_ => Kd.R_base HO_6.out k_ e_.symm) hs_)); (case side3 => exact HC0_1.out); (case side4 => exact Kd.R_tight rfl HO_6.out); rintro e w35 ⟨rfl, hy0, hb, hkp⟩; refine ⟨_, rfl, ?_⟩; have n0_ := aK (Kd.R_reok rfl hy0 (fun k_ e_ => HO_6.out.1 k_ e_)); have n1_ := aK (blk_kept (viaB BK866.out) hkp (fun hs_ => (fun e_ => (Kd.R_ne HO_6.out BK866.out (by decide)) e_) hs_)); have n2_ := aK (hb); clear HO_6; clear BK866; clear HB; have HO_6 := n0_; have BK866 := n1_; have HB := n2_; clear n0_ n1_ n2_; (try clear hb); (try clear hkp); (try clear hy0)))
            go_roundg k2
            case measure => have := HJ2.out; have := HK2.out; omega
            case rel => exact ⟨(t876), (wrap64 (x7_2 + 1)), (wrap64 (x8_2 + 1)), (by first | rfl | (simp; done) | (simp [*]; done)), (by first | rfl | (simp; done) | (simp [*]; done)), H', ⟨by have := HJ2.out; have := HK2.out; omega⟩, ⟨viaR HO_6.out⟩, ⟨viaB BK866.out⟩, ⟨viaX HB.out GE866.out⟩⟩
          ·rw [if_neg c24] at H
           exact absurd H (by simp)
         ·rw [if_neg c23] at H
          exact absurd H (by simp)
        ·rw [if_neg c22] at H
         have c22b0 : decide (x8_2 ≤ t873) = false := decide_eq_false c22; clear c22
         simp only [Option.some.injEq, Prod.mk.injEq] at H
         obtain ⟨rfl, rfl⟩ := H; have hcz36_0 : wr.cell? ⟨gb866, 0, none⟩ = some (.int .i64 a0_0) := (blk_cell BK866.out 0).trans rfl; have hcz36_1 : wr.cell? ⟨gb866, 1, none⟩ = some (.slice A0_1 l0_1.length c0_1) := (blk_cell BK866.out 1).trans rfl; have hfz36_0 := blk_frozen BK866.out 0; have hfz36_1 := blk_frozen BK866.out 1
         go_wp2_with (first | ((with_reducible refine gate_callee (f := 51) rfl ?_); refine goesL_ (some 23) rfl rfl Try.func51 (by kernel_rfl) rfl #[.agg #[.int .i64 a0_0, .slice A0_1 l0_1.length c0_1]] rfl (by (try simp only [List.map_toArray, List.map_cons, List.map_nil]); first | done | rfl | (simp only [List.length_drop, List.length_take]; rfl)) ?_; (with_reducible refine (spec_l1All.calls a0_0 _ _ l0_1 t873 _ ?side1 ?side2 A21.out).mono ?_); (case side1 => repeat (first | exact (Kd.C_below HR0_1.out HB.out) | (with_reducible refine Kd.C_alloc ?_ _) | (with_reducible refine Kd.C_drewN ?_ _) | (with_reducible refine Kd.C_drew ?_))); (case side2 => exact HC0_1.out); rintro e w37 ⟨rfl, hb⟩; refine ⟨_, rfl, ?_⟩; have n0_ := aK (Kd.R_below (viaR HO_6.out) hb); have n1_ := aK (blk_below (g := gb866) (o := .cells #[.int .i64 a0_0, .slice A0_1 l0_1.length c0_1] 25 (0, 0)) (viaB BK866.out) hb); have n2_ := aK (below_step (viaX HB.out GE866.out) hb); clear HO_6; clear BK866; clear HB; have HO_6 := n0_; have BK866 := n1_; have HB := n2_; clear n0_ n1_ n2_; (try clear hb); (try clear hb2); (try clear hk); (try clear hi)))
         go_ret2
         exact ⟨by first | rfl | (simp [errW_none, errW_some] <;> rfl) | (simp only [← hji14]; first | rfl | (simp [errW_none, errW_some] <;> rfl)) | (simp [*, errW_none, errW_some] <;> rfl), viaX HB.out GE866.out⟩
     ·rw [if_neg c16] at H
      exact absurd H (by simp)
    ·rw [if_neg c15] at H
     exact absurd H (by simp)
end Go.Proofs.Ythoaebnnolbaaaa.G
