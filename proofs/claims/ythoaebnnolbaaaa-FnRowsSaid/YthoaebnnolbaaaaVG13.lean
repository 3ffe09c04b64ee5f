/- For each Go function named below: a plain Lean function of the same name, and the proof that a call of the Go function returns just what the plain function tells, where it tells something. Written by a program of this session with the printer of the kit. -/
import Derived.Test.YthoaebnnolbaaaaVG0
import Derived.Test.YthoaebnnolbaaaaVG5
import Derived.Test.YthoaebnnolbaaaaVG12
namespace Go.Proofs.Ythoaebnnolbaaaa.G
open Go.RowKit Go.Proofs.YthoaebnnolbaaaaW.PrintWords Go.Proofs.YthoaebnnolbaaaaW.PrintLast Go.Proofs.YthoaebnnolbaaaaW.PrintMore
attribute [local go_sem] max2_int min2_int max_two min_two max_three min_three max_four min_four   -- for this text's walks alone
set_option linter.unusedVariables false
set_option linter.unusedSimpArgs false

/-! ### impl_partsBy: function 91 -/
mutual
def impl_partsBy.l0 : Nat → Int → List Int → List (S69) → Int → Int → Option (Int)
 | 0, _, _, _, _, _ => none
 | k + 1, x1, x5, x15, x16, x17 => if x17 < x16 then (if 0 ≤ x17 then (if x17 < (x15.length : Int) then (if (Go.bits .and .i64 (shr .i64 x1 x17) 1) = 1 then (if 0 ≤ ((rd_T69 x15 x17).f0) then (if ((rd_T69 x15 x17).f0) < (x5.length : Int) then (if 0 ≤ ((rd_T69 x15 x17).f1) then ((some (x5.set (((rd_T69 x15 x17).f0) : Int).toNat (Go.bits .or .i64 (rd x5 ((rd_T69 x15 x17).f0)) (shl .i64 1 ((rd_T69 x15 x17).f1))) : List Int)).bind fun y222 => (if ((rd_T69 x15 x17).f1) < (x5.length : Int) then (impl_partsBy.l0 k x1 (y222.set (((rd_T69 x15 x17).f1) : Int).toNat (Go.bits .or .i64 (rd y222 ((rd_T69 x15 x17).f1)) (shl .i64 1 ((rd_T69 x15 x17).f0)))) x15 x16 (wrap64 (x17 + 1))) else (none))) else (none)) else (none)) else (none)) else (impl_partsBy.l0 k x1 x5 x15 x16 (wrap64 (x17 + 1)))) else (none)) else (none)) else (impl_partsBy.l1 k x5 0 0 (x5.length : Int) 0)
def impl_partsBy.l1 : Nat → List Int → Int → Int → Int → Int → Option (Int)
 | 0, _, _, _, _, _ => none
 | k + 1, x5, x8, x9, x49, x50 => if x50 < x49 then (if 0 ≤ x50 then (if (Go.bits .and .i64 (shr .i64 x9 x50) 1) = 0 then ((impl_reachOf.f k x5 x50).bind fun t225 => (impl_partsBy.l1 k x5 (wrap64 (x8 + 1)) (Go.bits .or .i64 x9 t225) x49 (wrap64 (x50 + 1)))) else (impl_partsBy.l1 k x5 x8 x9 x49 (wrap64 (x50 + 1)))) else (none)) else (some x8)
end
def impl_partsBy.f (k : Nat) (a0_0 : Int) (l0_1 : List (S69)) (a1 : Int) : Option (Int) := if 0 ≤ a0_0 then (if (a0_0 : Int).toNat ≤ 35184372088832 then (impl_partsBy.l0 k a1 (List.replicate (a0_0 : Int).toNat 0) l0_1 (l0_1.length : Int) 0) else (none)) else (none)
theorem impl_partsBy.mono_l : ∀ k, (∀ y0 y1 y2 y3 y4, LeO (impl_partsBy.l0 k y0 y1 y2 y3 y4) (impl_partsBy.l0 (k + 1) y0 y1 y2 y3 y4)) ∧ (∀ y0 y1 y2 y3 y4, LeO (impl_partsBy.l1 k y0 y1 y2 y3 y4) (impl_partsBy.l1 (k + 1) y0 y1 y2 y3 y4))
 | 0 => ⟨fun _ _ _ _ _ r h => by simp [impl_partsBy.l0] at h, fun _ _ _ _ _ r h => by simp [impl_partsBy.l1] at h⟩
 | k + 1 => by
  obtain ⟨ih0, ih1⟩ := impl_partsBy.mono_l k
  refine ⟨?_, ?_⟩
  ·intro y0 y1 y2 y3 y4
   unfold impl_partsBy.l0
   repeat' first
   | (with_reducible exact ih0 _ _ _ _ _)
   | (with_reducible exact ih1 _ _ _ _ _)
   | (with_reducible exact impl_reachOf.mono _ _ _)
   | (with_reducible exact LeO.refl _)
   | (with_reducible exact LeO.none _)
   | (with_reducible refine LeO.ite ?_ ?_)
   | (with_reducible refine LeO.bind ?_ (fun _ => ?_))
   | exact ih0 _ _ _ _ _
   | exact ih1 _ _ _ _ _
   | exact impl_reachOf.mono _ _ _
   | exact LeO.none _
   | refine LeO.ite ?_ ?_
   | refine LeO.bind ?_ (fun _ => ?_)
  ·intro y0 y1 y2 y3 y4
   unfold impl_partsBy.l1
   repeat' first
   | (with_reducible exact ih0 _ _ _ _ _)
   | (with_reducible exact ih1 _ _ _ _ _)
   | (with_reducible exact impl_reachOf.mono _ _ _)
   | (with_reducible exact LeO.refl _)
   | (with_reducible exact LeO.none _)
   | (with_reducible refine LeO.ite ?_ ?_)
   | (with_reducible refine LeO.bind ?_ (fun _ => ?_))
   | exact ih0 _ _ _ _ _
   | exact ih1 _ _ _ _ _
   | exact impl_reachOf.mono _ _ _
   | exact LeO.none _
   | refine LeO.ite ?_ ?_
   | refine LeO.bind ?_ (fun _ => ?_)
theorem impl_partsBy.mono : ∀ a0 a1 a2 k, LeO (impl_partsBy.f k a0 a1 a2) (impl_partsBy.f (k + 1) a0 a1 a2) := by
 intro a0 a1 a2 k; obtain ⟨ih0, ih1⟩ := impl_partsBy.mono_l k
 unfold impl_partsBy.f
 repeat' first
   | (with_reducible exact ih0 _ _ _ _ _)
   | (with_reducible exact ih1 _ _ _ _ _)
   | (with_reducible exact impl_reachOf.mono _ _ _)
   | (with_reducible exact LeO.refl _)
   | (with_reducible exact LeO.none _)
   | (with_reducible refine LeO.ite ?_ ?_)
   | (with_reducible refine LeO.bind ?_ (fun _ => ?_))
   | exact ih0 _ _ _ _ _
   | exact ih1 _ _ _ _ _
   | exact impl_reachOf.mono _ _ _
   | exact LeO.none _
   | refine LeO.ite ?_ ?_
   | refine LeO.bind ?_ (fun _ => ?_)
def impl_partsBy.T6 : Bool × List (List Nat × List Nat) := (true, [([], []), ([], []), ([1], [1]), ([0, 2], [0, 2]), ([3], [3]), ([], []), ([5], [5]), ([6], [6]), ([4, 7], [4, 7]), ([0, 2, 0, 1, 2, 3, 4, 5, 6, 7, 8], [0, 2]), ([9, 8, 0, 1, 2, 3, 4, 5, 6, 7, 8], [8, 9])])
def impl_partsBy.B6 : List Nat := [0, 0, 2, 7, 15, 0, 32, 96, 255, 511, 1023]
theorem impl_partsBy.tab6 : rtab .any (opsOf Try.f91 6) = impl_partsBy.T6 := by kernel_rfl
theorem impl_partsBy.bits6 : waitsOk impl_partsBy.T6.2 impl_partsBy.B6 = true := by kernel_rfl
def impl_partsBy.T7 : Bool × List (List Nat × List Nat) := (true, [([], []), ([], []), ([1], [1]), ([0, 2], [0, 2]), ([3], [3]), ([], []), ([5], [5]), ([6], [6]), ([4, 7], [4, 7]), ([0, 2, 0, 1, 2, 3, 4, 5, 6, 7, 8], [0, 2]), ([9, 8, 0, 1, 2, 3, 4, 5, 6, 7, 8], [8, 9])])
def impl_partsBy.B7 : List Nat := [0, 0, 2, 7, 15, 0, 32, 96, 255, 511, 1023]
theorem impl_partsBy.tab7 : rtab .any (opsOf Try.f91 7) = impl_partsBy.T7 := by kernel_rfl
theorem impl_partsBy.bits7 : waitsOk impl_partsBy.T7.2 impl_partsBy.B7 = true := by kernel_rfl
set_option maxHeartbeats 8000000 in
set_option maxRecDepth 100000 in
theorem impl_partsBy.calls (k : Nat) (a0_0 : Int) (A0_1 : Option Addr) (c0_1 : Nat) (l0_1 : List (S69)) (a1 : Int) (r : Int) (w : World) (hr0_1 : Kd.C k69 w A0_1 l0_1.length l0_1) (hc0_1 : l0_1.length ≤ c0_1) (h : impl_partsBy.f k a0_0 l0_1 a1 = some r) :
  Calls Try.prog 91 #[.agg #[.int .i64 a0_0, .slice A0_1 l0_1.length c0_1], .int .i64 a1] w fun e w' => e = .returned (.int .i64 r) ∧ Below w.heap.size w w' := by
 have hu25 := Try.underlying25; have hu69 := Try.underlying69; have HR0_1 := Aside0.mk hr0_1; have HC0_1 := Aside0.mk hc0_1; clear hr0_1 hc0_1; have HB := Aside0.mk (Below.refl w.heap.size w); have H : (if 0 ≤ a0_0 then (if (a0_0 : Int).toNat ≤ 35184372088832 then (impl_partsBy.l0 k a1 (List.replicate (a0_0 : Int).toNat 0) l0_1 (l0_1.length : Int) 0) else (none)) else (none)) = some r := h; clear h
 by_cases c3 : 0 ≤ a0_0
 ·rw [if_pos c3] at H
  have c3b0 := eq_true c3; have c3b1 : decide (0 ≤ a0_0) = true := decide_eq_true c3; clear c3
  by_cases c4 : (a0_0 : Int).toNat ≤ 35184372088832
  ·rw [if_pos c4] at H
   have c4b0 := eq_true c4; have c4b1 : decide ((a0_0 : Int).toNat ≤ 35184372088832) = true := decide_eq_true c4; clear c4; obtain ⟨y216, hy216⟩ : ∃ y_ : List Int, y_ = (List.replicate (a0_0 : Int).toNat 0) := ⟨_, rfl⟩; replace H : (impl_partsBy.l0 k a1 y216 l0_1 (l0_1.length : Int) 0) = some r := by first | (rw [hy216]; with_reducible exact H) | (have H2_ := (Option.bind_some _ _).symm.trans H; rw [hy216]; with_reducible exact H2_) | (have H2_ := (Option.bind_some _ _).symm.trans H; with_reducible exact H2_) | with_reducible exact H | (rw [hy216]; exact H) | exact H
   have Ny216 := Aside0.mk hy216; clear hy216; have H' := Aside0.mk H; clear H
   go_enter Try.func91, Try.ntmps91
   go_wp2_with (first | ((with_reducible refine gate_dst (N := 2) rfl ?_); refine box_event ?hg (N := 2) ?hd (cs := #[.int .i64 a0_0, .slice A0_1 l0_1.length c0_1]) (t := 25) ?hr ?_; (case hd => rfl); (case hg => rfl); (case hr => first | (go_simp; done) | (go_simp; rfl)); intro gb215 hg w5 hbox hb; have n0_ := Aside0.mk (below_step (viaW HB.out) hb); have n1_ := Aside0.mk (hbox); have n2_ := Aside0.mk ((by rw [hg]; exact (below_size (viaW HB.out)) : w.heap.size ≤ gb215)); have n3_ := Aside0.mk ((by rw [hg]; exact (below_size (viaW HB.out)) : w.heap.size ≤ gb215)); clear HB; have HB := n0_; have BK215 := n1_; have GW215 := n2_; have GE215 := n3_; clear n0_ n1_ n2_ n3_; clear hb hbox hg; have hcz6_0 : w5.cell? ⟨gb215, 0, none⟩ = some (.int .i64 a0_0) := (blk_cell BK215.out 0).trans rfl; have hcz6_1 : w5.cell? ⟨gb215, 1, none⟩ = some (.slice A0_1 l0_1.length c0_1) := (blk_cell BK215.out 1).trans rfl; have hfz6_0 := blk_frozen BK215.out 0; have hfz6_1 := blk_frozen BK215.out 1) | ((with_reducible refine gate_dst (N := 13) rfl ?_); refine Kd.R_make (Kd.int .i64) _ 3 rfl (N := 13) rfl 30 _ _ rfl a0_0 rfl rfl Try.underlying30 (.int .i64 0) 8 info3 rfl (by decide) (by omega) 0 (ok := fun _ => True) (okp := fun _ => True) rfl (fun _ hk => hk) trivial (of_decide_eq_true (by first | (with_reducible assumption) | assumption)) (Nat.le_trans (Nat.mul_le_mul_right _ (of_decide_eq_true (by first | (with_reducible assumption) | assumption) : a0_0.toNat ≤ 35184372088832)) (by omega)) (Below.refl _ _) (Nat.le_refl _) ?_; intro v217 w7 ho8 hb hg_ hnew_; clear hg_ hnew_; (first | rw [← Ny216.out] at ho8 | (simp only [Int.reduceToNat] at ho8; rw [← Ny216.out] at ho8)); have n0_ := Aside0.mk (Kd.R_lower ho8 (below_size (viaX HB.out GE215.out))); have n1_ := Aside0.mk (blk_below (g := gb215) (o := .cells #[.int .i64 a0_0, .slice A0_1 l0_1.length c0_1] 25 (0, 0)) (viaB BK215.out) hb); have n2_ := Aside0.mk (below_step (viaX HB.out GE215.out) hb); clear BK215; clear HB; have HO218 := n0_; have BK215 := n1_; have HB := n2_; clear n0_ n1_ n2_; clear hb ho8; have hcz9_0 : w7.cell? ⟨gb215, 0, none⟩ = some (.int .i64 a0_0) := (blk_cell BK215.out 0).trans rfl; have hcz9_1 : w7.cell? ⟨gb215, 1, none⟩ = some (.slice A0_1 l0_1.length c0_1) := (blk_cell BK215.out 1).trans rfl; have hfz9_0 := blk_frozen BK215.out 0; have hfz9_1 := blk_frozen BK215.out 1))
   go_loopg [17] k (fun kq v17 w' => ∃ (x5_1 : List Int) (x17_1 : Int), v17 = .int .i64 x17_1 ∧ Aside0 (impl_partsBy.l0 kq a1 x5_1 l0_1 (l0_1.length : Int) x17_1 = some r) ∧ Aside0 (kq ≤ k) ∧ Aside0 (Kd.R (Kd.int .i64) 3 w' w.heap.size (fun _ => True) v217 x5_1) ∧ Aside0 (w'.heap[gb215]? = some (.cells #[.int .i64 a0_0, (.slice A0_1 l0_1.length c0_1)] 25 (0, 0))) ∧ Aside0 (Below w.heap.size w w'))
   case atStart => exact ⟨(y216), (0), (by first | rfl | (simp; done) | (simp [*]; done)), H', ⟨Nat.le_refl _⟩, ⟨viaR HO218.out⟩, ⟨viaB BK215.out⟩, ⟨viaX HB.out GE215.out⟩⟩
   case round =>
    clear H'
    try clear p2
    try clear c3
    try clear c3b0
    try clear c3b1
    try clear c4
    try clear c4b0
    try clear c4b1
    try clear c9
    try clear hcz6_0
    try clear hcz6_1
    try clear hcz9_0
    try clear hcz9_1
    try clear hfz6_0
    try clear hfz6_1
    try clear hfz9_0
    try clear hfz9_1
    obtain ⟨x5_1, x17_1, rfl, HA, HK1, HO_5, BK215, HB⟩ := hrel
    cases gk with
    | zero => exact absurd HA.out (by simp [impl_partsBy.l0])
    | succ k1 =>
     have H := HA.out; clear HA
     simp only [impl_partsBy.l0] at H
     by_cases c10 : x17_1 < (l0_1.length : Int)
     ·rw [if_pos c10] at H
      have c10b0 : decide (x17_1 < (l0_1.length : Int)) = true := decide_eq_true c10; clear c10
      by_cases c11 : 0 ≤ x17_1
      ·rw [if_pos c11] at H
       have c11b0 : decide (0 ≤ x17_1) = true := decide_eq_true c11; clear c11
       by_cases c12 : x17_1 < (l0_1.length : Int)
       ·rw [if_pos c12] at H
        have c12b0 : decide (x17_1 < (l0_1.length : Int)) = true := decide_eq_true c12; clear c12; have c13b0 := eq_true (of_decide_eq_true (by first | (with_reducible assumption) | assumption) : 0 ≤ x17_1); obtain ⟨ji14, hji14⟩ : ∃ j_ : Int, (shr .i64 a1 x17_1) = j_ := ⟨_, rfl⟩; replace H : (if (Go.bits .and .i64 (ji14) 1) = 1 then (if 0 ≤ ((rd_T69 l0_1 x17_1).f0) then (if ((rd_T69 l0_1 x17_1).f0) < (x5_1.length : Int) then (if 0 ≤ ((rd_T69 l0_1 x17_1).f1) then ((some (x5_1.set (((rd_T69 l0_1 x17_1).f0) : Int).toNat (Go.bits .or .i64 (rd x5_1 ((rd_T69 l0_1 x17_1).f0)) (shl .i64 1 ((rd_T69 l0_1 x17_1).f1))) : List Int)).bind fun y222 => (if ((rd_T69 l0_1 x17_1).f1) < (x5_1.length : Int) then (impl_partsBy.l0 k1 a1 (y222.set (((rd_T69 l0_1 x17_1).f1) : Int).toNat (Go.bits .or .i64 (rd y222 ((rd_T69 l0_1 x17_1).f1)) (shl .i64 1 ((rd_T69 l0_1 x17_1).f0)))) l0_1 (l0_1.length : Int) (wrap64 (x17_1 + 1))) else (none))) else (none)) else (none)) else (none)) else (impl_partsBy.l0 k1 a1 x5_1 l0_1 (l0_1.length : Int) (wrap64 (x17_1 + 1)))) = some r := by first | (rw [hji14] at H; exact H) | (simp only [hji14] at H ⊢; exact H)
        have hji14_ : (a1 / 2 ^ min x17_1.toNat 64) = ji14 := hji14; have hji14z : x17_1 ≤ 64 → (a1 / 2 ^ x17_1.toNat) = ji14 := shr_small hji14
        by_cases c15 : (Go.bits .and .i64 (ji14) 1) = 1
        ·rw [if_pos c15] at H
         have c15b0 : ((Go.bits .and .i64 (ji14) 1) == 1) = true := beq_iff_eq.mpr c15; have c15b1 : ((Go.bits .and .i64 (ji14) 1) != 1) = false := bne_eq_false_iff_eq.mpr c15; clear c15
         by_cases c16 : 0 ≤ ((rd_T69 l0_1 x17_1).f0)
         ·rw [if_pos c16] at H
          have c16b0 : decide (0 ≤ ((rd_T69 l0_1 x17_1).f0)) = true := decide_eq_true c16; clear c16
          by_cases c17 : ((rd_T69 l0_1 x17_1).f0) < (x5_1.length : Int)
          ·rw [if_pos c17] at H
           have c17b0 : decide (((rd_T69 l0_1 x17_1).f0) < (x5_1.length : Int)) = true := decide_eq_true c17; clear c17
           by_cases c18 : 0 ≤ ((rd_T69 l0_1 x17_1).f1)
           ·rw [if_pos c18] at H
            have c18b0 := eq_true c18; have c18b1 : decide (0 ≤ ((rd_T69 l0_1 x17_1).f1)) = true := decide_eq_true c18; clear c18; obtain ⟨ji19, hji19⟩ : ∃ j_ : Int, (shl .i64 1 ((rd_T69 l0_1 x17_1).f1)) = j_ := ⟨_, rfl⟩; replace H : ((some (x5_1.set (((rd_T69 l0_1 x17_1).f0) : Int).toNat (Go.bits .or .i64 (rd x5_1 ((rd_T69 l0_1 x17_1).f0)) (ji19)) : List Int)).bind fun y222 => (if ((rd_T69 l0_1 x17_1).f1) < (x5_1.length : Int) then (impl_partsBy.l0 k1 a1 (y222.set (((rd_T69 l0_1 x17_1).f1) : Int).toNat (Go.bits .or .i64 (rd y222 ((rd_T69 l0_1 x17_1).f1)) (shl .i64 1 ((rd_T69 l0_1 x17_1).f0)))) l0_1 (l0_1.length : Int) (wrap64 (x17_1 + 1))) else (none))) = some r := by first | (rw [hji19] at H; exact H) | (simp only [hji19] at H ⊢; exact H)
            have hji19_ : (IntKind.i64.wrap (1 * 2 ^ min ((rd_T69 l0_1 x17_1).f1).toNat 64)) = ji19 := hji19; have hji19z : ((rd_T69 l0_1 x17_1).f1) ≤ 64 → (IntKind.i64.wrap (1 * 2 ^ ((rd_T69 l0_1 x17_1).f1).toNat)) = ji19 := shl_small hji19; have hji19u : (IntKind.i64.wrap (2 ^ min ((rd_T69 l0_1 x17_1).f1).toNat 64)) = ji19 := by have h_ := hji19_; rw [Int.one_mul] at h_; exact h_
            have hji19v : ((rd_T69 l0_1 x17_1).f1) ≤ 64 → (IntKind.i64.wrap (2 ^ ((rd_T69 l0_1 x17_1).f1).toNat)) = ji19 := fun hle_ => by have h_ := hji19z hle_; rw [Int.one_mul] at h_; exact h_
            have hji19y : (wrap64 (1 * 2 ^ min ((rd_T69 l0_1 x17_1).f1).toNat 64)) = ji19 := (i64_w _).symm.trans hji19_; have hji19x : ((rd_T69 l0_1 x17_1).f1) ≤ 64 → (wrap64 (1 * 2 ^ ((rd_T69 l0_1 x17_1).f1).toNat)) = ji19 := fun h_ => (i64_w _).symm.trans (hji19z h_); obtain ⟨y222, hy222⟩ : ∃ y_ : List Int, y_ = (x5_1.set (((rd_T69 l0_1 x17_1).f0) : Int).toNat (Go.bits .or .i64 (rd x5_1 ((rd_T69 l0_1 x17_1).f0)) (ji19))) := ⟨_, rfl⟩; replace H : (if ((rd_T69 l0_1 x17_1).f1) < (x5_1.length : Int) then (impl_partsBy.l0 k1 a1 (y222.set (((rd_T69 l0_1 x17_1).f1) : Int).toNat (Go.bits .or .i64 (rd y222 ((rd_T69 l0_1 x17_1).f1)) (shl .i64 1 ((rd_T69 l0_1 x17_1).f0)))) l0_1 (l0_1.length : Int) (wrap64 (x17_1 + 1))) else (none)) = some r := by first | (rw [hy222]; with_reducible exact H) | (have H2_ := (Option.bind_some _ _).symm.trans H; rw [hy222]; with_reducible exact H2_) | (have H2_ := (Option.bind_some _ _).symm.trans H; with_reducible exact H2_) | with_reducible exact H | (rw [hy222]; exact H) | exact H
            have Ny222 := Aside0.mk hy222; clear hy222
            by_cases c21 : ((rd_T69 l0_1 x17_1).f1) < (x5_1.length : Int)
            ·rw [if_pos c21] at H
             have c21b0 : decide (((rd_T69 l0_1 x17_1).f1) < (x5_1.length : Int)) = true := decide_eq_true c21; clear c21; have c22b0 := eq_true (of_decide_eq_true (by first | (with_reducible assumption) | assumption) : 0 ≤ ((rd_T69 l0_1 x17_1).f0)); obtain ⟨ji23, hji23⟩ : ∃ j_ : Int, (shl .i64 1 ((rd_T69 l0_1 x17_1).f0)) = j_ := ⟨_, rfl⟩; replace H : (impl_partsBy.l0 k1 a1 (y222.set (((rd_T69 l0_1 x17_1).f1) : Int).toNat (Go.bits .or .i64 (rd y222 ((rd_T69 l0_1 x17_1).f1)) (ji23))) l0_1 (l0_1.length : Int) (wrap64 (x17_1 + 1))) = some r := by first | (rw [hji23] at H; exact H) | (simp only [hji23] at H ⊢; exact H)
             have hji23_ : (IntKind.i64.wrap (1 * 2 ^ min ((rd_T69 l0_1 x17_1).f0).toNat 64)) = ji23 := hji23; have hji23z : ((rd_T69 l0_1 x17_1).f0) ≤ 64 → (IntKind.i64.wrap (1 * 2 ^ ((rd_T69 l0_1 x17_1).f0).toNat)) = ji23 := shl_small hji23; have hji23u : (IntKind.i64.wrap (2 ^ min ((rd_T69 l0_1 x17_1).f0).toNat 64)) = ji23 := by have h_ := hji23_; rw [Int.one_mul] at h_; exact h_
             have hji23v : ((rd_T69 l0_1 x17_1).f0) ≤ 64 → (IntKind.i64.wrap (2 ^ ((rd_T69 l0_1 x17_1).f0).toNat)) = ji23 := fun hle_ => by have h_ := hji23z hle_; rw [Int.one_mul] at h_; exact h_
             have hji23y : (wrap64 (1 * 2 ^ min ((rd_T69 l0_1 x17_1).f0).toNat 64)) = ji23 := (i64_w _).symm.trans hji23_; have hji23x : ((rd_T69 l0_1 x17_1).f0) ≤ 64 → (wrap64 (1 * 2 ^ ((rd_T69 l0_1 x17_1).f0).toNat)) = ji23 := fun h_ => (i64_w _).symm.trans (hji23z h_); obtain ⟨y224, hy224⟩ : ∃ y_ : List Int, y_ = (y222.set (((rd_T69 l0_1 x17_1).f1) : Int).toNat (Go.bits .or .i64 (rd y222 ((rd_T69 l0_1 x17_1).f1)) (ji23))) := ⟨_, rfl⟩; replace H : (impl_partsBy.l0 k1 a1 y224 l0_1 (l0_1.length : Int) (wrap64 (x17_1 + 1))) = some r := by first | (rw [hy224]; with_reducible exact H) | (have H2_ := (Option.bind_some _ _).symm.trans H; rw [hy224]; with_reducible exact H2_) | (have H2_ := (Option.bind_some _ _).symm.trans H; with_reducible exact H2_) | with_reducible exact H | (rw [hy224]; exact H) | exact H
             have Ny224 := Aside0.mk hy224; clear hy224; have H' := Aside0.mk H; clear H; have p219 : 0 ≤ (x17_1 : Int) := of_decide_eq_true (by first | (with_reducible assumption) | assumption); have q219 : x17_1 < (l0_1.length : Int) := of_decide_eq_true (by first | (with_reducible assumption) | assumption); obtain ⟨ad219, e219, hx219_0, hx219_1⟩ := at_T69 HR0_1.out x17_1 p219 q219
             cases e219
             replace hx219_0 := (HB.out.cell (World.block_lt_of_cell? w _ hx219_0)).trans hx219_0; replace hx219_1 := (HB.out.cell (World.block_lt_of_cell? w _ hx219_1)).trans hx219_1; replace p219 := eq_true p219; replace q219 := eq_true q219
             try go_wp2_with (first | ((with_reducible refine gate_dst (N := 7) rfl ?_); refine box_event ?hg (N := 7) ?hd (cs := #[.int .i64 0, .int .i64 0]) (t := 69) ?hr ?_; (case hd => rfl); (case hg => rfl); (case hr => first | (go_simp; done) | (go_simp; rfl)); intro gb220 hg w25 hbox hb; have n0_ := Aside0.mk (Kd.R_below (viaR HO_5.out) hb); have n1_ := Aside0.mk (blk_below (g := gb215) (o := .cells #[.int .i64 a0_0, .slice (some ad219) l0_1.length c0_1] 25 (0, 0)) (viaB BK215.out) hb); have n2_ := Aside0.mk (below_step (viaX HB.out GE215.out) hb); have n3_ := Aside0.mk (hbox); have n4_ := Aside0.mk ((by rw [hg]; exact (below_size (viaX HB.out GE215.out)) : w.heap.size ≤ gb220)); have n5_ := Aside0.mk ((by rw [hg]; exact (below_size (viaX HB.out GE215.out)) : w.heap.size ≤ gb220)); have n6_ := Aside0.mk ((by rw [hg]; exact Nat.ne_of_lt (blk_lt (g := gb215) (o := .cells #[.int .i64 a0_0, .slice (some ad219) l0_1.length c0_1] 25 (0, 0)) (viaB BK215.out)) : gb215 ≠ gb220)); have n7_ := Aside0.mk ((by rw [hg]; exact Nat.ne_of_gt (blk_lt (g := gb215) (o := .cells #[.int .i64 a0_0, .slice (some ad219) l0_1.length c0_1] 25 (0, 0)) (viaB BK215.out)) : gb220 ≠ gb215)); clear HO_5; clear BK215; clear HB; have HO_5 := n0_; have BK215 := n1_; have HB := n2_; have BK220 := n3_; have GW220 := n4_; have GE220 := n5_; have NB215_220 := n6_; have NB220_215 := n7_; clear n0_ n1_ n2_ n3_ n4_ n5_ n6_ n7_; clear hb hbox hg; have hnb26 := NB220_215.out; have hnc26 := NB215_220.out; have hcz27_0 : w25.cell? ⟨gb220, 0, none⟩ = some (.int .i64 0) := (blk_cell BK220.out 0).trans rfl; have hcz27_1 : w25.cell? ⟨gb220, 1, none⟩ = some (.int .i64 0) := (blk_cell BK220.out 1).trans rfl; have hfz27_0 := blk_frozen BK220.out 0; have hfz27_1 := blk_frozen BK220.out 1))
             have n0_ : Aside0 (Kd.R (Kd.int .i64) 3 ((w25.setCell ⟨gb220, 0, none⟩ (.int .i64 ((rd_T69 l0_1 x17_1).f0))).setCell ⟨gb220, 1, none⟩ (.int .i64 ((rd_T69 l0_1 x17_1).f1))) w.heap.size (fun _ => True) v217 x5_1) := ⟨by (with_reducible repeat (first | apply Kd.R_alloc | apply Kd.R_drewN | apply Kd.R_drew)); exact Kd.R_mono (Kd.R_far (p := ⟨gb220, 1, none⟩) (Kd.R_far (p := ⟨gb220, 0, none⟩) (Kd.R_types HO_5.out BK220.out (by decide)) (fun _ hk => hk.2) (.int .i64 ((rd_T69 l0_1 x17_1).f0))) (fun _ hk => hk.2) (.int .i64 ((rd_T69 l0_1 x17_1).f1))) (fun _ hk => trivial)⟩; have n1_ : Aside0 (((w25.setCell ⟨gb220, 0, none⟩ (.int .i64 ((rd_T69 l0_1 x17_1).f0))).setCell ⟨gb220, 1, none⟩ (.int .i64 ((rd_T69 l0_1 x17_1).f1))).heap[gb215]? = some (.cells #[.int .i64 a0_0, .slice (some ad219) l0_1.length c0_1] 25 (0, 0))) := ⟨by (with_reducible repeat (first | refine blk_drewN ?_ _ | refine blk_drew ?_ | refine blk_alloc ?_ _)); refine blk_far ?_ NB215_220.out _; (with_reducible repeat (first | refine blk_drewN ?_ _ | refine blk_drew ?_ | refine blk_alloc ?_ _)); refine blk_far ?_ NB215_220.out _; (with_reducible repeat (first | refine blk_drewN ?_ _ | refine blk_drew ?_ | refine blk_alloc ?_ _)); exact BK215.out⟩; have n2_ : Aside0 (((w25.setCell ⟨gb220, 0, none⟩ (.int .i64 ((rd_T69 l0_1 x17_1).f0))).setCell ⟨gb220, 1, none⟩ (.int .i64 ((rd_T69 l0_1 x17_1).f1))).heap[gb220]? = some (.cells #[.int .i64 ((rd_T69 l0_1 x17_1).f0), .int .i64 ((rd_T69 l0_1 x17_1).f1)] 69 (0, 0))) := ⟨by (with_reducible repeat (first | refine blk_drewN ?_ _ | refine blk_drew ?_ | refine blk_alloc ?_ _)); refine blk_put (cs := #[.int .i64 ((rd_T69 l0_1 x17_1).f0), .int .i64 0]) ?_ 1 _ rfl; (with_reducible repeat (first | refine blk_drewN ?_ _ | refine blk_drew ?_ | refine blk_alloc ?_ _)); refine blk_put (cs := #[.int .i64 0, .int .i64 0]) ?_ 0 _ rfl; (with_reducible repeat (first | refine blk_drewN ?_ _ | refine blk_drew ?_ | refine blk_alloc ?_ _)); exact BK220.out⟩; have n3_ : Aside0 (Below w.heap.size w ((w25.setCell ⟨gb220, 0, none⟩ (.int .i64 ((rd_T69 l0_1 x17_1).f0))).setCell ⟨gb220, 1, none⟩ (.int .i64 ((rd_T69 l0_1 x17_1).f1)))) := ⟨by repeat (first | (with_reducible first | exact HB.out | apply below_alloc | apply pw_below_drewN | apply below_drew1 | refine below_set ?_ GE215.out | refine below_set ?_ GE220.out) | exact HB.out)⟩
             (try clear HO_5)
             (try clear BK215)
             (try clear BK220)
             (try clear HB)
             generalize ((w25.setCell ⟨gb220, 0, none⟩ (.int .i64 ((rd_T69 l0_1 x17_1).f0))).setCell ⟨gb220, 1, none⟩ (.int .i64 ((rd_T69 l0_1 x17_1).f1))) = w28 at n0_ n1_ n2_ n3_ ⊢
             have HO_5 := n0_; have BK215 := n1_; have BK220 := n2_; have HB := n3_; clear n0_ n1_ n2_ n3_; have n0_ := Aside0.mk (Kd.R_drew HO_5.out); have n1_ := Aside0.mk (blk_drew BK215.out); have n2_ := Aside0.mk (blk_drew BK220.out); have n3_ := Aside0.mk (below_drew1 HB.out); clear HO_5; clear BK215; clear BK220; clear HB; have HO_5 := n0_; have BK215 := n1_; have BK220 := n2_; have HB := n3_; clear n0_ n1_ n2_ n3_; obtain ⟨Ao30, co30, eo30⟩ := Kd.R_slice HO_5.out
             (first | subst eo30 | (injection eo30 with f1_ f2_ f3_; have f4_ := f1_.symm; have f5_ := f3_.symm; clear f1_ f2_ f3_; subst f4_; subst f5_))
             have p221 : 0 ≤ (((rd_T69 l0_1 x17_1).f0) : Int) := of_decide_eq_true (by first | (with_reducible assumption) | assumption); have q221 : ((rd_T69 l0_1 x17_1).f0) < (x5_1.length : Int) := of_decide_eq_true (by first | (with_reducible assumption) | assumption); obtain ⟨ad221, e221, hx221_0⟩ := Kd.at_int (Kd.R_reads' HO_5.out).2.2 ((rd_T69 l0_1 x17_1).f0) p221 q221
             cases e221
             replace p221 := eq_true p221; replace q221 := eq_true q221; have p20 : 0 ≤ (((rd_T69 l0_1 x17_1).f0) : Int) := of_decide_eq_true (by first | (with_reducible assumption) | assumption); have q20 : (((rd_T69 l0_1 x17_1).f0) : Int) < ((x5_1.length : Int) : Int) := of_decide_eq_true (by first | (with_reducible assumption) | assumption); obtain ⟨go20, co20, eo20, gb20, gl20, cl20, HG20⟩ := Kd.R_form HO_5.out (by omega)
             (first | cases eo20 | (injection eo20 with ea_ en_ ec_; (first | subst ea_ | (injection ea_ with ea_; subst ea_)); subst ec_; clear en_))
             have GB20 := Aside0.mk gb20; have GG20 := Aside0.mk HG20; clear gb20 gl20 HG20
             (first | simp only [add_plain] at hx221_0 | skip)
             obtain ⟨hx20_0, hf20_0⟩ := Kd.R_celln 0 HO_5.out (((rd_T69 l0_1 x17_1).f0) : Int) p20 q20; replace p20 := eq_true p20; replace q20 := eq_true q20; have HP31 := Kd.R_putn HO_5.out (((rd_T69 l0_1 x17_1).f0) : Int) (Go.bits .or .i64 (rd x5_1 ((rd_T69 l0_1 x17_1).f0)) (ji19))
             rw [← Ny222.out] at HP31
             have HQ31 := Aside0.mk HP31; clear HP31
             refine start_ (n := 11) (S := fun w' => w'.cell? ⟨gb220, 0, none⟩ = some (.int .i64 ((rd_T69 l0_1 x17_1).f0)) ∧ w'.cell? ⟨gb220, 1, none⟩ = some (.int .i64 ((rd_T69 l0_1 x17_1).f1)) ∧ w'.cell? ⟨go20, (((rd_T69 l0_1 x17_1).f0)).toNat, none⟩ = some (.int .i64 (rd x5_1 ((rd_T69 l0_1 x17_1).f0)))) (ds := [10]) #[false, false, false, false, false, false, false, false, false, false, false] (by kernel_rfl) rfl rfl ⟨(blk_cell BK220.out 0).trans rfl, (blk_cell BK220.out 1).trans rfl, hx221_0⟩ (fun hHeld => ?_); refine with_tabW impl_partsBy.tab6 impl_partsBy.bits6 (fun HT_ HW_ => ?_)
             generalize w28.drew = w29 at HO_5 BK215 BK220 HB GG20 HQ31 hf20_0 hx20_0 hx221_0 hHeld ⊢
             refine pure_ (i := 0) (N := some 27) (v := ?_) (a' := ?_) #[true, false, false, false, false, false, false, false, false, false, false] rfl rfl (any_of HT_.out (by kernel_rfl)) (fun _ _ _ h => h) (Or.inl ⟨by rfl, ?_⟩) ?_ ?_
             rotate_left
             ·intro w'
              go_simp
              with_reducible rfl
             rotate_left
             ·simp only [Act.put, List.setIfInBounds_toArray, List.set_cons_zero, List.set_cons_succ, i64_w, i32_w]
              rfl
             refine pure_ (i := 1) (N := some 28) (v := ?_) (a' := ?_) #[true, true, false, false, false, false, false, false, false, false, false] rfl rfl (any_of HT_.out (by kernel_rfl)) (fun _ _ _ h => h) (Or.inl ⟨by rfl, ?_⟩) ?_ ?_
             rotate_left
             ·intro w'
              go_simp
              with_reducible rfl
             rotate_left
             ·simp only [Act.put, List.setIfInBounds_toArray, List.set_cons_zero, List.set_cons_succ, i64_w, i32_w]
              rfl
             refine pure_ (i := 5) (N := some 32) (v := ?_) (a' := ?_) #[true, true, false, false, false, true, false, false, false, false, false] rfl rfl (any_of HT_.out (by kernel_rfl)) (fun _ _ _ h => h) (Or.inl ⟨by rfl, ?_⟩) ?_ ?_
             rotate_left
             ·intro w'
              go_simp
              with_reducible rfl
             rotate_left
             ·simp only [Act.put, List.setIfInBounds_toArray, List.set_cons_zero, List.set_cons_succ, i64_w, i32_w]
              rfl
             refine take_ (i := 2) (N := some 29) (v := ?_) (a' := ?_) #[true, true, true, false, false, true, false, false, false, false, false] rfl rfl (take_ofW HT_.out HW_.out (by kernel_rfl)) (fun _ _ _ h => h) (Or.inl ⟨by rfl, ?_⟩) hHeld ?_ ?_
             rotate_left
             ·rintro w' ⟨s0, s1, s2⟩
              go_simp
              with_reducible rfl
             rotate_left
             ·simp only [Act.put, List.setIfInBounds_toArray, List.set_cons_zero, List.set_cons_succ, i64_w, i32_w]
              rfl
             refine pure_ (i := 3) (N := some 30) (v := ?_) (a' := ?_) #[true, true, true, true, false, true, false, false, false, false, false] rfl rfl (any_of HT_.out (by kernel_rfl)) (fun _ _ _ h => h) (Or.inl ⟨by rfl, ?_⟩) ?_ ?_
             rotate_left
             ·intro w'
              go_simp
              with_reducible rfl
             rotate_left
             ·simp only [Act.put, List.setIfInBounds_toArray, List.set_cons_zero, List.set_cons_succ, i64_w, i32_w]
              rfl
             refine take_ (i := 4) (N := some 31) (v := ?_) (a' := ?_) #[true, true, true, true, true, true, false, false, false, false, false] rfl rfl (take_ofW HT_.out HW_.out (by kernel_rfl)) (fun _ _ _ h => h) (Or.inl ⟨by rfl, ?_⟩) hHeld ?_ ?_
             rotate_left
             ·rintro w' ⟨s0, s1, s2⟩
              go_simp
              with_reducible rfl
             rotate_left
             ·simp only [Act.put, List.setIfInBounds_toArray, List.set_cons_zero, List.set_cons_succ, i64_w, i32_w]
              rfl
             refine take_ (i := 6) (N := some 33) (v := ?_) (a' := ?_) #[true, true, true, true, true, true, true, false, false, false, false] rfl rfl (take_ofW HT_.out HW_.out (by kernel_rfl)) (fun _ _ _ h => h) (Or.inl ⟨by rfl, ?_⟩) hHeld ?_ ?_
             rotate_left
             ·rintro w' ⟨s0, s1, s2⟩
              go_simp
              with_reducible rfl
             rotate_left
             ·simp only [Act.put, List.setIfInBounds_toArray, List.set_cons_zero, List.set_cons_succ, i64_w, i32_w]
              rfl
             refine pure_ (i := 7) (N := some 34) (v := ?_) (a' := ?_) #[true, true, true, true, true, true, true, true, false, false, false] rfl rfl (any_of HT_.out (by kernel_rfl)) (fun _ _ _ h => h) (Or.inl ⟨by rfl, ?_⟩) ?_ ?_
             rotate_left
             ·intro w'
              go_simp
              with_reducible rfl
             rotate_left
             ·simp only [Act.put, List.setIfInBounds_toArray, List.set_cons_zero, List.set_cons_succ, i64_w, i32_w]
              rfl
             refine pure_ (i := 8) (N := some 35) (v := ?_) (a' := ?_) #[true, true, true, true, true, true, true, true, true, false, false] rfl rfl (any_of HT_.out (by kernel_rfl)) (fun _ _ _ h => h) (Or.inl ⟨by rfl, ?_⟩) ?_ ?_
             rotate_left
             ·intro w'
              go_simp
              with_reducible rfl
             rotate_left
             ·simp only [Act.put, List.setIfInBounds_toArray, List.set_cons_zero, List.set_cons_succ, i64_w, i32_w]
              rfl
             refine pure_ (i := 9) (N := some 36) (v := ?_) (a' := ?_) #[true, true, true, true, true, true, true, true, true, true, false] rfl rfl (any_of HT_.out (by kernel_rfl)) (fun _ _ _ h => h) (Or.inl ⟨by rfl, ?_⟩) ?_ ?_
             rotate_left
             ·intro w'
              go_simp
              with_reducible rfl
             rotate_left
             ·simp only [Act.put, List.setIfInBounds_toArray, List.set_cons_zero, List.set_cons_succ, i64_w, i32_w]
              rfl
             refine last_ (i := 10) (N := none) #[true, true, true, true, true, true, true, true, true, true, true] rfl rfl (one_of HT_.out (by kernel_rfl)) (by decide) (fun K hK => ?_)
             refine skip_ (w1 := ?_) (by rfl) rfl ?_ ?_
             rotate_left
             ·go_simp
              rfl
             refine hK.out _ _ ?_
             clear hK K
             refine done_ (done_of HT_.out (by kernel_rfl)) ?_
             try go_wp2
             have n0_ : Aside0 (Kd.R (Kd.int .i64) 3 (w29.setCell ⟨go20, (((rd_T69 l0_1 x17_1).f0) : Int).toNat, none⟩ (.int .i64 (Go.bits .or .i64 (rd x5_1 ((rd_T69 l0_1 x17_1).f0)) (ji19)))) w.heap.size (fun _ => True) (.slice (some ⟨go20, 0, none⟩) x5_1.length co30) y222) := ⟨viaR HQ31.out⟩; have n1_ : Aside0 ((w29.setCell ⟨go20, (((rd_T69 l0_1 x17_1).f0) : Int).toNat, none⟩ (.int .i64 (Go.bits .or .i64 (rd x5_1 ((rd_T69 l0_1 x17_1).f0)) (ji19)))).heap[gb215]? = some (.cells #[.int .i64 a0_0, .slice (some ad219) l0_1.length c0_1] 25 (0, 0))) := ⟨by (with_reducible repeat (first | refine blk_drewN ?_ _ | refine blk_drew ?_ | refine blk_alloc ?_ _)); refine blk_far ?_ (by have h_ := Kd.R_ne HO_5.out BK215.out (by decide); intro e_; exact h_ (by rw [e_]; rfl)) _; (with_reducible repeat (first | refine blk_drewN ?_ _ | refine blk_drew ?_ | refine blk_alloc ?_ _)); exact BK215.out⟩; have n2_ : Aside0 ((w29.setCell ⟨go20, (((rd_T69 l0_1 x17_1).f0) : Int).toNat, none⟩ (.int .i64 (Go.bits .or .i64 (rd x5_1 ((rd_T69 l0_1 x17_1).f0)) (ji19)))).heap[gb220]? = some (.cells #[.int .i64 ((rd_T69 l0_1 x17_1).f0), .int .i64 ((rd_T69 l0_1 x17_1).f1)] 69 (0, 0))) := ⟨by (with_reducible repeat (first | refine blk_drewN ?_ _ | refine blk_drew ?_ | refine blk_alloc ?_ _)); refine blk_far ?_ (by have h_ := Kd.R_ne HO_5.out BK220.out (by decide); intro e_; exact h_ (by rw [e_]; rfl)) _; (with_reducible repeat (first | refine blk_drewN ?_ _ | refine blk_drew ?_ | refine blk_alloc ?_ _)); exact BK220.out⟩; have n3_ : Aside0 (Below w.heap.size w (w29.setCell ⟨go20, (((rd_T69 l0_1 x17_1).f0) : Int).toNat, none⟩ (.int .i64 (Go.bits .or .i64 (rd x5_1 ((rd_T69 l0_1 x17_1).f0)) (ji19))))) := ⟨by repeat (first | (with_reducible first | exact HB.out | apply below_alloc | apply pw_below_drewN | apply below_drew1 | refine below_set ?_ GB20.out | refine below_set ?_ GE215.out | refine below_set ?_ GE220.out) | exact HB.out)⟩
             (try clear HO_5)
             (try clear BK215)
             (try clear BK220)
             (try clear HB)
             generalize (w29.setCell ⟨go20, (((rd_T69 l0_1 x17_1).f0) : Int).toNat, none⟩ (.int .i64 (Go.bits .or .i64 (rd x5_1 ((rd_T69 l0_1 x17_1).f0)) (ji19)))) = w32 at n0_ n1_ n2_ n3_ ⊢
             have HO_5 := n0_; have BK215 := n1_; have BK220 := n2_; have HB := n3_; clear n0_ n1_ n2_ n3_; have n0_ := Aside0.mk (Kd.R_drew HO_5.out); have n1_ := Aside0.mk (blk_drew BK215.out); have n2_ := Aside0.mk (blk_drew BK220.out); have n3_ := Aside0.mk (below_drew1 HB.out); clear HO_5; clear BK215; clear BK220; clear HB; have HO_5 := n0_; have BK215 := n1_; have BK220 := n2_; have HB := n3_; clear n0_ n1_ n2_ n3_; have p223 : 0 ≤ (((rd_T69 l0_1 x17_1).f1) : Int) := of_decide_eq_true (by first | (with_reducible assumption) | assumption); have q223 : ((rd_T69 l0_1 x17_1).f1) < (y222.length : Int) := (by have h_ : (((rd_T69 l0_1 x17_1).f1) : Int) < ((x5_1.length : Int) : Int) := of_decide_eq_true (by first | (with_reducible assumption) | assumption); first | (have e_ := (Kd.R_reads' HO_5.out).1; omega) | simpa only [Ny222.out, List.length_set] using h_); have ql223 : ((((rd_T69 l0_1 x17_1).f1) : Int) < ((x5_1.length : Int) : Int)) = True := eq_true (of_decide_eq_true (by first | (with_reducible assumption) | assumption)); obtain ⟨ad223, e223, hx223_0⟩ := Kd.at_int (Kd.R_reads' HO_5.out).2.2 ((rd_T69 l0_1 x17_1).f1) p223 q223; obtain rfl : (⟨go20, 0, none⟩ : Addr) = ad223 := (by injection e223)
             (first | simp only [add_plain] at hx223_0 | simp only [add_at] at hx223_0 | simp only [Addr.add, Nat.zero_add] at hx223_0 | skip)
             replace p223 := eq_true p223; replace q223 := eq_true q223; have p24 : 0 ≤ (((rd_T69 l0_1 x17_1).f1) : Int) := of_decide_eq_true (by first | (with_reducible assumption) | assumption); have q24 : (((rd_T69 l0_1 x17_1).f1) : Int) < ((x5_1.length : Int) : Int) := of_decide_eq_true (by first | (with_reducible assumption) | assumption); obtain ⟨hx24_0, hf24_0⟩ := Kd.R_celln 0 HO_5.out (((rd_T69 l0_1 x17_1).f1) : Int) p24 q24; replace p24 := eq_true p24; replace q24 := eq_true q24; have HP34 := Kd.R_putn HO_5.out (((rd_T69 l0_1 x17_1).f1) : Int) (Go.bits .or .i64 (rd y222 ((rd_T69 l0_1 x17_1).f1)) (ji23))
             rw [← Ny224.out] at HP34
             have HQ34 := Aside0.mk HP34; clear HP34
             refine start_ (n := 11) (S := fun w' => w'.cell? ⟨gb220, 0, none⟩ = some (.int .i64 ((rd_T69 l0_1 x17_1).f0)) ∧ w'.cell? ⟨gb220, 1, none⟩ = some (.int .i64 ((rd_T69 l0_1 x17_1).f1)) ∧ w'.cell? ⟨go20, (((rd_T69 l0_1 x17_1).f1)).toNat, none⟩ = some (.int .i64 (rd y222 ((rd_T69 l0_1 x17_1).f1)))) (ds := [10]) #[false, false, false, false, false, false, false, false, false, false, false] (by kernel_rfl) rfl rfl ⟨(blk_cell BK220.out 0).trans rfl, (blk_cell BK220.out 1).trans rfl, hx223_0⟩ (fun hHeld => ?_); refine with_tabW impl_partsBy.tab7 impl_partsBy.bits7 (fun HT_ HW_ => ?_)
             generalize w32.drew = w33 at HO_5 BK215 BK220 HB HQ31 HQ34 hf24_0 hx223_0 hx24_0 hHeld ⊢
             refine pure_ (i := 0) (N := some 37) (v := ?_) (a' := ?_) #[true, false, false, false, false, false, false, false, false, false, false] rfl rfl (any_of HT_.out (by kernel_rfl)) (fun _ _ _ h => h) (Or.inl ⟨by rfl, ?_⟩) ?_ ?_
             rotate_left
             ·intro w'
              go_simp
              with_reducible rfl
             rotate_left
             ·simp only [Act.put, List.setIfInBounds_toArray, List.set_cons_zero, List.set_cons_succ, i64_w, i32_w]
              rfl
             refine pure_ (i := 1) (N := some 38) (v := ?_) (a' := ?_) #[true, true, false, false, false, false, false, false, false, false, false] rfl rfl (any_of HT_.out (by kernel_rfl)) (fun _ _ _ h => h) (Or.inl ⟨by rfl, ?_⟩) ?_ ?_
             rotate_left
             ·intro w'
              go_simp
              with_reducible rfl
             rotate_left
             ·simp only [Act.put, List.setIfInBounds_toArray, List.set_cons_zero, List.set_cons_succ, i64_w, i32_w]
              rfl
             refine pure_ (i := 5) (N := some 42) (v := ?_) (a' := ?_) #[true, true, false, false, false, true, false, false, false, false, false] rfl rfl (any_of HT_.out (by kernel_rfl)) (fun _ _ _ h => h) (Or.inl ⟨by rfl, ?_⟩) ?_ ?_
             rotate_left
             ·intro w'
              go_simp
              with_reducible rfl
             rotate_left
             ·simp only [Act.put, List.setIfInBounds_toArray, List.set_cons_zero, List.set_cons_succ, i64_w, i32_w]
              rfl
             refine take_ (i := 2) (N := some 39) (v := ?_) (a' := ?_) #[true, true, true, false, false, true, false, false, false, false, false] rfl rfl (take_ofW HT_.out HW_.out (by kernel_rfl)) (fun _ _ _ h => h) (Or.inl ⟨by rfl, ?_⟩) hHeld ?_ ?_
             rotate_left
             ·rintro w' ⟨s0, s1, s2⟩
              go_simp
              with_reducible rfl
             rotate_left
             ·simp only [Act.put, List.setIfInBounds_toArray, List.set_cons_zero, List.set_cons_succ, i64_w, i32_w]
              rfl
             refine pure_ (i := 3) (N := some 40) (v := ?_) (a' := ?_) #[true, true, true, true, false, true, false, false, false, false, false] rfl rfl (any_of HT_.out (by kernel_rfl)) (fun _ _ _ h => h) (Or.inl ⟨by rfl, ?_⟩) ?_ ?_
             rotate_left
             ·intro w'
              go_simp
              with_reducible rfl
             rotate_left
             ·simp only [Act.put, List.setIfInBounds_toArray, List.set_cons_zero, List.set_cons_succ, i64_w, i32_w]
              rfl
             refine take_ (i := 4) (N := some 41) (v := ?_) (a' := ?_) #[true, true, true, true, true, true, false, false, false, false, false] rfl rfl (take_ofW HT_.out HW_.out (by kernel_rfl)) (fun _ _ _ h => h) (Or.inl ⟨by rfl, ?_⟩) hHeld ?_ ?_
             rotate_left
             ·rintro w' ⟨s0, s1, s2⟩
              go_simp
              with_reducible rfl
             rotate_left
             ·simp only [Act.put, List.setIfInBounds_toArray, List.set_cons_zero, List.set_cons_succ, i64_w, i32_w]
              rfl
             refine take_ (i := 6) (N := some 43) (v := ?_) (a' := ?_) #[true, true, true, true, true, true, true, false, false, false, false] rfl rfl (take_ofW HT_.out HW_.out (by kernel_rfl)) (fun _ _ _ h => h) (Or.inl ⟨by rfl, ?_⟩) hHeld ?_ ?_
             rotate_left
             ·rintro w' ⟨s0, s1, s2⟩
              go_simp
              with_reducible rfl
             rotate_left
             ·simp only [Act.put, List.setIfInBounds_toArray, List.set_cons_zero, List.set_cons_succ, i64_w, i32_w]
              rfl
             refine pure_ (i := 7) (N := some 44) (v := ?_) (a' := ?_) #[true, true, true, true, true, true, true, true, false, false, false] rfl rfl (any_of HT_.out (by kernel_rfl)) (fun _ _ _ h => h) (Or.inl ⟨by rfl, ?_⟩) ?_ ?_
             rotate_left
             ·intro w'
              go_simp
              with_reducible rfl
             rotate_left
             ·simp only [Act.put, List.setIfInBounds_toArray, List.set_cons_zero, List.set_cons_succ, i64_w, i32_w]
              rfl
             refine pure_ (i := 8) (N := some 45) (v := ?_) (a' := ?_) #[true, true, true, true, true, true, true, true, true, false, false] rfl rfl (any_of HT_.out (by kernel_rfl)) (fun _ _ _ h => h) (Or.inl ⟨by rfl, ?_⟩) ?_ ?_
             rotate_left
             ·intro w'
              go_simp
              with_reducible rfl
             rotate_left
             ·simp only [Act.put, List.setIfInBounds_toArray, List.set_cons_zero, List.set_cons_succ, i64_w, i32_w]
              rfl
             refine pure_ (i := 9) (N := some 46) (v := ?_) (a' := ?_) #[true, true, true, true, true, true, true, true, true, true, false] rfl rfl (any_of HT_.out (by kernel_rfl)) (fun _ _ _ h => h) (Or.inl ⟨by rfl, ?_⟩) ?_ ?_
             rotate_left
             ·intro w'
              go_simp
              with_reducible rfl
             rotate_left
             ·simp only [Act.put, List.setIfInBounds_toArray, List.set_cons_zero, List.set_cons_succ, i64_w, i32_w]
              rfl
             refine last_ (i := 10) (N := none) #[true, true, true, true, true, true, true, true, true, true, true] rfl rfl (one_of HT_.out (by kernel_rfl)) (by decide) (fun K hK => ?_)
             refine skip_ (w1 := ?_) (by rfl) rfl ?_ ?_
             rotate_left
             ·go_simp
              rfl
             refine hK.out _ _ ?_
             clear hK K
             refine done_ (done_of HT_.out (by kernel_rfl)) ?_
             try go_wp2
             go_roundg k1
             case measure => have := HK1.out; omega
             case rel => exact ⟨(y224), (wrap64 (x17_1 + 1)), (by first | rfl | (simp; done) | (simp [*]; done)), H', ⟨by have := HK1.out; omega⟩, ⟨viaR HQ34.out⟩, ⟨by (with_reducible repeat (first | refine blk_drewN ?_ _ | refine blk_drew ?_ | refine blk_alloc ?_ _)); refine blk_far ?_ (by have h_ := Kd.R_ne HO_5.out BK215.out (by decide); intro e_; exact h_ (by rw [e_]; rfl)) _; (with_reducible repeat (first | refine blk_drewN ?_ _ | refine blk_drew ?_ | refine blk_alloc ?_ _)); exact BK215.out⟩, ⟨by repeat (first | (with_reducible first | exact HB.out | apply below_alloc | apply pw_below_drewN | apply below_drew1 | refine below_set ?_ GB20.out | refine below_set ?_ GE215.out | refine below_set ?_ GE220.out) | exact HB.out)⟩⟩
            ·rw [if_neg c21] at H
             exact absurd H (by simp)
           ·rw [if_neg c18] at H
            exact absurd H (by simp)
          ·rw [if_neg c17] at H
           exact absurd H (by simp)
         ·rw [if_neg c16] at H
          exact absurd H (by simp)
        ·rw [if_neg c15] at H
         have c15b0 : ((Go.bits .and .i64 (ji14) 1) == 1) = false := beq_eq_false_iff_ne.mpr c15; have c15b1 : ((Go.bits .and .i64 (ji14) 1) != 1) = true := bne_iff_ne.mpr c15; have H' := Aside0.mk H; clear H; have p219 : 0 ≤ (x17_1 : Int) := of_decide_eq_true (by first | (with_reducible assumption) | assumption); have q219 : x17_1 < (l0_1.length : Int) := of_decide_eq_true (by first | (with_reducible assumption) | assumption); obtain ⟨ad219, e219, hx219_0, hx219_1⟩ := at_T69 HR0_1.out x17_1 p219 q219
         cases e219
         replace hx219_0 := (HB.out.cell (World.block_lt_of_cell? w _ hx219_0)).trans hx219_0; replace hx219_1 := (HB.out.cell (World.block_lt_of_cell? w _ hx219_1)).trans hx219_1; replace p219 := eq_true p219; replace q219 := eq_true q219
         go_wp2_with (first | ((with_reducible refine gate_dst (N := 7) rfl ?_); refine box_event ?hg (N := 7) ?hd (cs := #[.int .i64 0, .int .i64 0]) (t := 69) ?hr ?_; (case hd => rfl); (case hg => rfl); (case hr => first | (go_simp; done) | (go_simp; rfl)); intro gb220 hg w35 hbox hb; have n0_ := Aside0.mk (Kd.R_below (viaR HO_5.out) hb); have n1_ := Aside0.mk (blk_below (g := gb215) (o := .cells #[.int .i64 a0_0, .slice (some ad219) l0_1.length c0_1] 25 (0, 0)) (viaB BK215.out) hb); have n2_ := Aside0.mk (below_step (viaX HB.out GE215.out) hb); have n3_ := Aside0.mk (hbox); have n4_ := Aside0.mk ((by rw [hg]; exact (below_size (viaX HB.out GE215.out)) : w.heap.size ≤ gb220)); have n5_ := Aside0.mk ((by rw [hg]; exact (below_size (viaX HB.out GE215.out)) : w.heap.size ≤ gb220)); have n6_ := Aside0.mk ((by rw [hg]; exact Nat.ne_of_lt (blk_lt (g := gb215) (o := .cells #[.int .i64 a0_0, .slice (some ad219) l0_1.length c0_1] 25 (0, 0)) (viaB BK215.out)) : gb215 ≠ gb220)); have n7_ := Aside0.mk ((by rw [hg]; exact Nat.ne_of_gt (blk_lt (g := gb215) (o := .cells #[.int .i64 a0_0, .slice (some ad219) l0_1.length c0_1] 25 (0, 0)) (viaB BK215.out)) : gb220 ≠ gb215)); clear HO_5; clear BK215; clear HB; have HO_5 := n0_; have BK215 := n1_; have HB := n2_; have BK220 := n3_; have GW220 := n4_; have GE220 := n5_; have NB215_220 := n6_; have NB220_215 := n7_; clear n0_ n1_ n2_ n3_ n4_ n5_ n6_ n7_; clear hb hbox hg; have hnb36 := NB220_215.out; have hnc36 := NB215_220.out; have hcz37_0 : w35.cell? ⟨gb220, 0, none⟩ = some (.int .i64 0) := (blk_cell BK220.out 0).trans rfl; have hcz37_1 : w35.cell? ⟨gb220, 1, none⟩ = some (.int .i64 0) := (blk_cell BK220.out 1).trans rfl; have hfz37_0 := blk_frozen BK220.out 0; have hfz37_1 := blk_frozen BK220.out 1))
         go_roundg k1
         case measure => have := HK1.out; omega
         case rel => exact ⟨(x5_1), (wrap64 (x17_1 + 1)), (by first | rfl | (simp; done) | (simp [*]; done)), H', ⟨by have := HK1.out; omega⟩, ⟨by (with_reducible repeat (first | apply Kd.R_alloc | apply Kd.R_drewN | apply Kd.R_drew)); exact Kd.R_mono (Kd.R_far (p := ⟨gb220, 1, none⟩) (Kd.R_far (p := ⟨gb220, 0, none⟩) (Kd.R_types HO_5.out BK220.out (by decide)) (fun _ hk => hk.2) (.int .i64 ((rd_T69 l0_1 x17_1).f0))) (fun _ hk => hk.2) (.int .i64 ((rd_T69 l0_1 x17_1).f1))) (fun _ hk => trivial)⟩, ⟨by (with_reducible repeat (first | refine blk_drewN ?_ _ | refine blk_drew ?_ | refine blk_alloc ?_ _)); refine blk_far ?_ NB215_220.out _; (with_reducible repeat (first | refine blk_drewN ?_ _ | refine blk_drew ?_ | refine blk_alloc ?_ _)); refine blk_far ?_ NB215_220.out _; (with_reducible repeat (first | refine blk_drewN ?_ _ | refine blk_drew ?_ | refine blk_alloc ?_ _)); exact BK215.out⟩, ⟨by repeat (first | (with_reducible first | exact HB.out | apply below_alloc | apply pw_below_drewN | apply below_drew1 | refine below_set ?_ GE215.out | refine below_set ?_ GE220.out) | exact HB.out)⟩⟩
       ·rw [if_neg c12] at H
        exact absurd H (by simp)
      ·rw [if_neg c11] at H
       exact absurd H (by simp)
     ·rw [if_neg c10] at H
      have c10b0 : decide (x17_1 < (l0_1.length : Int)) = false := decide_eq_false c10; clear c10; have H' := Aside0.mk H; clear H; obtain ⟨Ao38, co38, eo38⟩ := Kd.R_slice HO_5.out; subst eo38
      go_wp2
      go_loopg [8, 9, 50] k1 (fun kq v8 v9 v50 w' => ∃ (x8_2 : Int) (x9_2 : Int) (x50_2 : Int), v8 = .int .i64 x8_2 ∧ v9 = .int .i64 x9_2 ∧ v50 = .int .i64 x50_2 ∧ Aside0 (impl_partsBy.l1 kq x5_1 x8_2 x9_2 (x5_1.length : Int) x50_2 = some r) ∧ Aside0 (kq ≤ k1) ∧ Aside0 (Kd.R (Kd.int .i64) 3 w' w.heap.size (fun _ => True) (.slice Ao38 x5_1.length co38) x5_1) ∧ Aside0 (w'.heap[gb215]? = some (.cells #[.int .i64 a0_0, (.slice A0_1 l0_1.length c0_1)] 25 (0, 0))) ∧ Aside0 (Below w.heap.size w w'))
      case atStart => exact ⟨(0), (0), (0), (by first | rfl | (simp; done) | (simp [*]; done)), (by first | rfl | (simp; done) | (simp [*]; done)), (by first | rfl | (simp; done) | (simp [*]; done)), H', ⟨Nat.le_refl _⟩, ⟨viaR HO_5.out⟩, ⟨viaB BK215.out⟩, ⟨viaX HB.out GE215.out⟩⟩
      case round =>
       clear H'
       try clear c1
       try clear c2
       try clear p2
       try clear q2
       try clear hx2
       try clear hf2
       try clear c3
       try clear c3b0
       try clear c3b1
       try clear c4
       try clear c4b0
       try clear c4b1
       try clear p6
       try clear c9
       try clear c10
       try clear c10b0
       try clear c11
       try clear c11b0
       try clear c12
       try clear c12b0
       try clear c13
       try clear c13b0
       try clear c15
       try clear c15b0
       try clear c15b1
       try clear c16
       try clear c16b0
       try clear c17
       try clear c17b0
       try clear c18
       try clear c18b0
       try clear c18b1
       try clear p20
       try clear q20
       try clear hx20
       try clear hf20
       try clear c21
       try clear c21b0
       try clear p21
       try clear q21
       try clear hx21
       try clear c22
       try clear c22b0
       try clear p22
       try clear q22
       try clear hx22
       try clear p24
       try clear q24
       try clear hx24
       try clear hf24
       try clear c26
       try clear c36
       try clear hcz27_0
       try clear hcz27_1
       try clear hcz37_0
       try clear hcz37_1
       try clear hcz6_0
       try clear hcz6_1
       try clear hcz9_0
       try clear hcz9_1
       try clear hfz27_0
       try clear hfz27_1
       try clear hfz37_0
       try clear hfz37_1
       try clear hfz6_0
       try clear hfz6_1
       try clear hfz9_0
       try clear hfz9_1
       try clear hx20_0
       try clear hx219_0
       try clear hx219_1
       try clear hx221_0
       try clear hx223_0
       try clear hx24_0
       try clear p2
       try clear p20
       try clear p219
       try clear p221
       try clear p223
       try clear p24
       try clear q20
       try clear q219
       try clear q221
       try clear q223
       try clear q24
       obtain ⟨x8_2, x9_2, x50_2, rfl, rfl, rfl, HA, HK2, HO_5, BK215, HB⟩ := hrel
       cases gk with
       | zero => exact absurd HA.out (by simp [impl_partsBy.l1])
       | succ k2 =>
        have H := HA.out; clear HA
        simp only [impl_partsBy.l1] at H
        by_cases c39 : x50_2 < (x5_1.length : Int)
        ·rw [if_pos c39] at H
         have c39b0 : decide (x50_2 < (x5_1.length : Int)) = true := decide_eq_true c39; clear c39
         by_cases c40 : 0 ≤ x50_2
         ·rw [if_pos c40] at H
          have c40b0 := eq_true c40; have c40b1 : decide (0 ≤ x50_2) = true := decide_eq_true c40; clear c40; obtain ⟨ji41, hji41⟩ : ∃ j_ : Int, (shr .i64 x9_2 x50_2) = j_ := ⟨_, rfl⟩; replace H : (if (Go.bits .and .i64 (ji41) 1) = 0 then ((impl_reachOf.f k2 x5_1 x50_2).bind fun t225 => (impl_partsBy.l1 k2 x5_1 (wrap64 (x8_2 + 1)) (Go.bits .or .i64 x9_2 t225) (x5_1.length : Int) (wrap64 (x50_2 + 1)))) else (impl_partsBy.l1 k2 x5_1 x8_2 x9_2 (x5_1.length : Int) (wrap64 (x50_2 + 1)))) = some r := by first | (rw [hji41] at H; exact H) | (simp only [hji41] at H ⊢; exact H)
          have hji41_ : (x9_2 / 2 ^ min x50_2.toNat 64) = ji41 := hji41; have hji41z : x50_2 ≤ 64 → (x9_2 / 2 ^ x50_2.toNat) = ji41 := shr_small hji41
          by_cases c42 : (Go.bits .and .i64 (ji41) 1) = 0
          ·rw [if_pos c42] at H
           have c42b0 : ((Go.bits .and .i64 (ji41) 1) == 0) = true := beq_iff_eq.mpr c42; have c42b1 : ((Go.bits .and .i64 (ji41) 1) != 0) = false := bne_eq_false_iff_eq.mpr c42; clear c42; replace H := Option.bind_eq_some_iff.mp H; obtain ⟨t225, A430, H⟩ := H; replace H : (impl_partsBy.l1 k2 x5_1 (wrap64 (x8_2 + 1)) (Go.bits .or .i64 x9_2 t225) (x5_1.length : Int) (wrap64 (x50_2 + 1))) = some r := H; have A43 := Aside0.mk A430; clear A430; have H' := Aside0.mk H; clear H
           go_wp2_with (first | ((with_reducible refine gate_callee (f := 104) rfl ?_); refine goesL_ (some 63) rfl rfl Try.func104 (by kernel_rfl) rfl #[.slice Ao38 x5_1.length co38, .int .i64 x50_2] rfl (by (try simp only [List.map_toArray, List.map_cons, List.map_nil]); first | done | rfl | (simp only [List.length_drop, List.length_take]; rfl)) ?_; (with_reducible refine (impl_reachOf.calls k2 _ _ x5_1 x50_2 t225 _ ?side1 ?side2 A43.out).mono ?_); (case side1 => repeat (first | exact (Kd.R_reads' HO_5.out).2.2 | (with_reducible refine Kd.C_alloc ?_ _) | (with_reducible refine Kd.C_drewN ?_ _) | (with_reducible refine Kd.C_drew ?_))); (case side2 => exact (Kd.R_reads' HO_5.out).2.1); rintro e w' ⟨rfl, ⟨nd, rfl⟩⟩; refine ⟨_, rfl, ?_⟩))
           go_roundg k2
           case measure => have := HK1.out; have := HK2.out; omega
           case rel => exact ⟨(wrap64 (x8_2 + 1)), (Go.bits .or .i64 x9_2 t225), (wrap64 (x50_2 + 1)), (by first | rfl | (simp; done) | (simp [*]; done)), (by first | rfl | (simp; done) | (simp [*]; done)), (by first | rfl | (simp; done) | (simp [*]; done)), H', ⟨by have := HK1.out; have := HK2.out; omega⟩, ⟨viaR HO_5.out⟩, ⟨viaB BK215.out⟩, ⟨viaX HB.out GE215.out⟩⟩
          ·rw [if_neg c42] at H
           have c42b0 : ((Go.bits .and .i64 (ji41) 1) == 0) = false := beq_eq_false_iff_ne.mpr c42; have c42b1 : ((Go.bits .and .i64 (ji41) 1) != 0) = true := bne_iff_ne.mpr c42; have H' := Aside0.mk H; clear H
           go_wp2
           go_roundg k2
           case measure => have := HK1.out; have := HK2.out; omega
           case rel => exact ⟨(x8_2), (x9_2), (wrap64 (x50_2 + 1)), (by first | rfl | (simp; done) | (simp [*]; done)), (by first | rfl | (simp; done) | (simp [*]; done)), (by first | rfl | (simp; done) | (simp [*]; done)), H', ⟨by have := HK1.out; have := HK2.out; omega⟩, ⟨viaR HO_5.out⟩, ⟨viaB BK215.out⟩, ⟨viaX HB.out GE215.out⟩⟩
         ·rw [if_neg c40] at H
          exact absurd H (by simp)
        ·rw [if_neg c39] at H
         have c39b0 : decide (x50_2 < (x5_1.length : Int)) = false := decide_eq_false c39; clear c39; obtain rfl := Option.some.inj H
         go_wp2
         go_ret
         exact ⟨by first | rfl | (simp [errW_none, errW_some] <;> rfl) | (simp [*, errW_none, errW_some] <;> rfl), viaX HB.out GE215.out⟩
  ·rw [if_neg c4] at H
   exact absurd H (by simp)
 ·rw [if_neg c3] at H
  exact absurd H (by simp)

/-! ### impl_isForest: function 55 -/
def impl_isForest.f (k : Nat) (a0_0 : Int) (l0_1 : List (S69)) (a1 : Int) : Option (Bool) := (impl_partsBy.f k a0_0 l0_1 a1).bind fun t227 => ((bits_OnesCount.f (IntKind.u64.wrap (a1))).bind fun t228 => (some ((wrap64 (t227 + t228)) == a0_0)))
theorem impl_isForest.mono : ∀ a0 a1 a2 k, LeO (impl_isForest.f k a0 a1 a2) (impl_isForest.f (k + 1) a0 a1 a2) := by
 intro a0 a1 a2 k
 unfold impl_isForest.f
 repeat' first
   | (with_reducible exact impl_partsBy.mono _ _ _ _)
   | (with_reducible exact LeO.refl _)
   | (with_reducible exact LeO.none _)
   | (with_reducible refine LeO.ite ?_ ?_)
   | (with_reducible refine LeO.bind ?_ (fun _ => ?_))
   | exact impl_partsBy.mono _ _ _ _
   | exact LeO.none _
   | refine LeO.ite ?_ ?_
   | refine LeO.bind ?_ (fun _ => ?_)
def impl_isForest.T1 : Bool × List (List Nat × List Nat) := (true, [([], []), ([], []), ([0, 1], [0, 1]), ([], []), ([3], [3]), ([4, 2], [4]), ([2, 5], [2, 5]), ([], []), ([7], [7]), ([6, 8], [6, 8]), ([9, 5, 0, 1, 2, 3, 4, 5, 6, 7, 8, 9], [9])])
def impl_isForest.B1 : List Nat := [0, 0, 3, 0, 8, 31, 63, 0, 128, 511, 1023]
theorem impl_isForest.tab1 : rtab .any (opsOf Try.f55 1) = impl_isForest.T1 := by kernel_rfl
theorem impl_isForest.bits1 : waitsOk impl_isForest.T1.2 impl_isForest.B1 = true := by kernel_rfl
set_option maxHeartbeats 8000000 in
set_option maxRecDepth 100000 in
theorem impl_isForest.calls (k : Nat) (a0_0 : Int) (A0_1 : Option Addr) (c0_1 : Nat) (l0_1 : List (S69)) (a1 : Int) (r : Bool) (w : World) (hr0_1 : Kd.C k69 w A0_1 l0_1.length l0_1) (hc0_1 : l0_1.length ≤ c0_1) (h : impl_isForest.f k a0_0 l0_1 a1 = some r) :
  Calls Try.prog 55 #[.agg #[.int .i64 a0_0, .slice A0_1 l0_1.length c0_1], .int .i64 a1] w fun e w' => e = .returned (.bool r) ∧ Below w.heap.size w w' := by
 have hu25 := Try.underlying25; have HR0_1 := Aside0.mk hr0_1; have HC0_1 := Aside0.mk hc0_1; clear hr0_1 hc0_1; have HB := Aside0.mk (Below.refl w.heap.size w); have H : ((impl_partsBy.f k a0_0 l0_1 a1).bind fun t227 => ((bits_OnesCount.f (IntKind.u64.wrap (a1))).bind fun t228 => (some ((wrap64 (t227 + t228)) == a0_0)))) = some r := h; clear h; replace H := Option.bind_eq_some_iff.mp H; obtain ⟨t227, A30, H⟩ := H; replace H : ((bits_OnesCount.f (IntKind.u64.wrap (a1))).bind fun t228 => (some ((wrap64 (t227 + t228)) == a0_0))) = some r := H; have A3 := Aside0.mk A30; clear A30; replace H := Option.bind_eq_some_iff.mp H; obtain ⟨t228, A40, H⟩ := H; replace H : (some ((wrap64 (t227 + t228)) == a0_0)) = some r := H; have A4 := Aside0.mk A40; clear A40; obtain rfl := Option.some.inj H
 go_enter Try.func55, Try.ntmps55
 try go_wp2_with (first | ((with_reducible refine gate_dst (N := 2) rfl ?_); refine box_event ?hg (N := 2) ?hd (cs := #[.int .i64 a0_0, .slice A0_1 l0_1.length c0_1]) (t := 25) ?hr ?_; (case hd => rfl); (case hg => rfl); (case hr => first | (go_simp; done) | (go_simp; rfl)); intro gb226 hg w5 hbox hb; have n0_ := Aside0.mk (below_step (viaW HB.out) hb); have n1_ := Aside0.mk (hbox); have n2_ := Aside0.mk ((by rw [hg]; exact (below_size (viaW HB.out)) : w.heap.size ≤ gb226)); have n3_ := Aside0.mk ((by rw [hg]; exact (below_size (viaW HB.out)) : w.heap.size ≤ gb226)); clear HB; have HB := n0_; have BK226 := n1_; have GW226 := n2_; have GE226 := n3_; clear n0_ n1_ n2_ n3_; clear hb hbox hg))
 have n0_ := Aside0.mk (blk_drew BK226.out); have n1_ := Aside0.mk (below_drew1 HB.out); clear BK226; clear HB; have BK226 := n0_; have HB := n1_; clear n0_ n1_
 refine start_ (n := 11) (S := fun w' => w'.cell? ⟨gb226, 0, none⟩ = some (.int .i64 a0_0) ∧ w'.cell? ⟨gb226, 1, none⟩ = some (.slice A0_1 l0_1.length c0_1)) (ds := []) #[false, false, false, false, false, false, false, false, false, false, false] (by kernel_rfl) rfl rfl ⟨(blk_cell BK226.out 0).trans rfl, (blk_cell BK226.out 1).trans rfl⟩ (fun hHeld => ?_); refine with_tabW impl_isForest.tab1 impl_isForest.bits1 (fun HT_ HW_ => ?_)
 generalize w5.drew = w6 at BK226 HB hHeld ⊢
 refine pure_ (i := 1) (N := some 6) (v := ?_) (a' := ?_) #[false, true, false, false, false, false, false, false, false, false, false] rfl rfl (any_of HT_.out (by kernel_rfl)) (fun _ _ _ h => h) (Or.inl ⟨by rfl, ?_⟩) ?_ ?_
 rotate_left
 ·intro w'
  go_simp
  with_reducible rfl
 rotate_left
 ·simp only [Act.put, List.setIfInBounds_toArray, List.set_cons_zero, List.set_cons_succ, i64_w, i32_w]
  rfl
 refine pure_ (i := 3) (N := some 8) (v := ?_) (a' := ?_) #[false, true, false, true, false, false, false, false, false, false, false] rfl rfl (any_of HT_.out (by kernel_rfl)) (fun _ _ _ h => h) (Or.inl ⟨by rfl, ?_⟩) ?_ ?_
 rotate_left
 ·intro w'
  go_simp
  with_reducible rfl
 rotate_left
 ·simp only [Act.put, List.setIfInBounds_toArray, List.set_cons_zero, List.set_cons_succ, i64_w, i32_w]
  rfl
 refine pure_ (i := 4) (N := some 9) (v := ?_) (a' := ?_) #[false, true, false, true, true, false, false, false, false, false, false] rfl rfl (any_of HT_.out (by kernel_rfl)) (fun _ _ _ h => h) (Or.inl ⟨by rfl, ?_⟩) ?_ ?_
 rotate_left
 ·intro w'
  go_simp
  with_reducible rfl
 rotate_left
 ·simp only [Act.put, List.setIfInBounds_toArray, List.set_cons_zero, List.set_cons_succ, i64_w, i32_w]
  rfl
 refine pure_ (i := 7) (N := some 12) (v := ?_) (a' := ?_) #[false, true, false, true, true, false, false, true, false, false, false] rfl rfl (any_of HT_.out (by kernel_rfl)) (fun _ _ _ h => h) (Or.inl ⟨by rfl, ?_⟩) ?_ ?_
 rotate_left
 ·intro w'
  go_simp
  with_reducible rfl
 rotate_left
 ·simp only [Act.put, List.setIfInBounds_toArray, List.set_cons_zero, List.set_cons_succ, i64_w, i32_w]
  rfl
 refine take_ (i := 0) (N := some 5) (v := ?_) (a' := ?_) #[true, true, false, true, true, false, false, true, false, false, false] rfl rfl (take_ofW HT_.out HW_.out (by kernel_rfl)) (fun _ _ _ h => h) (Or.inl ⟨by rfl, ?_⟩) hHeld ?_ ?_
 rotate_left
 ·rintro w' ⟨s0, s1⟩
  go_simp
  with_reducible rfl
 rotate_left
 ·simp only [Act.put, List.setIfInBounds_toArray, List.set_cons_zero, List.set_cons_succ, i64_w, i32_w]
  rfl
 refine take_ (i := 8) (N := some 13) (v := ?_) (a' := ?_) #[true, true, false, true, true, false, false, true, true, false, false] rfl rfl (take_ofW HT_.out HW_.out (by kernel_rfl)) (fun _ _ _ h => h) (Or.inl ⟨by rfl, ?_⟩) hHeld ?_ ?_
 rotate_left
 ·rintro w' ⟨s0, s1⟩
  go_simp
  with_reducible rfl
 rotate_left
 ·simp only [Act.put, List.setIfInBounds_toArray, List.set_cons_zero, List.set_cons_succ, i64_w, i32_w]
  rfl
 refine one_ (i := 2) (N := some 7) #[true, true, true, true, true, false, false, true, true, false, false] rfl rfl (one_of HT_.out (by kernel_rfl)) (by decide) (fun K hK => ?_)
 refine goes_ Try.func91 (by kernel_rfl) rfl #[.agg #[.int .i64 a0_0, .slice A0_1 l0_1.length c0_1], .int .i64 a1] (by rfl) rfl rfl (by (try simp only [List.map_toArray, List.map_cons, List.map_nil]); first | done | rfl | (simp only [List.length_drop, List.length_take]; rfl)) ?_
 with_reducible refine (impl_partsBy.calls k a0_0 _ _ l0_1 a1 t227 _ ?side1 ?side2 A3.out).mono ?_
 (case side1 => repeat (first | exact (Kd.C_below HR0_1.out HB.out) | (with_reducible refine Kd.C_alloc ?_ _) | (with_reducible refine Kd.C_drewN ?_ _) | (with_reducible refine Kd.C_drew ?_)))
 (case side2 => exact HC0_1.out)
 rintro e w7 ⟨rfl, hb⟩
 refine ⟨_, rfl, ?_⟩
 have n0_ := Aside0.mk (blk_below (g := gb226) (o := .cells #[.int .i64 a0_0, .slice A0_1 l0_1.length c0_1] 25 (0, 0)) (viaB BK226.out) hb); have n1_ := Aside0.mk (below_step (viaX HB.out GE226.out) hb); clear BK226; clear HB; have BK226 := n0_; have HB := n1_; clear n0_ n1_
 (try clear hb)
 (try clear hb2)
 (try clear hk)
 (try clear hi)
 refine hK.out _ _ ⟨(blk_cell BK226.out 0).trans rfl, (blk_cell BK226.out 1).trans rfl⟩ (fun hHeld => ?_)
 clear hK K
 refine norm_ (a' := ?_) ?_ ?_
 rotate_left
 ·show Act.put _ (some 7) _ = _
  simp only [Act.put, List.setIfInBounds_toArray, List.set_cons_zero, List.set_cons_succ, i64_w, i32_w]
  rfl
 refine one_ (i := 5) (N := some 10) #[true, true, true, true, true, true, false, true, true, false, false] rfl rfl (one_of HT_.out (by kernel_rfl)) (by decide) (fun K hK => ?_)
 refine goes_ Try.func95 (by kernel_rfl) rfl #[.int .u64 (IntKind.u64.wrap (a1))] (by rfl) rfl rfl (by (try simp only [List.map_toArray, List.map_cons, List.map_nil]); first | done | rfl | (simp only [List.length_drop, List.length_take]; rfl)) ?_
 with_reducible refine (bits_OnesCount.calls (IntKind.u64.wrap (a1)) t228 _ A4.out).mono ?_
 rintro e w' ⟨rfl, ⟨nd, rfl⟩⟩
 refine ⟨_, rfl, ?_⟩
 refine hK.out _ _ ⟨(blk_cell BK226.out 0).trans rfl, (blk_cell BK226.out 1).trans rfl⟩ (fun hHeld => ?_)
 clear hK K
 refine norm_ (a' := ?_) ?_ ?_
 rotate_left
 ·show Act.put _ (some 10) _ = _
  simp only [Act.put, List.setIfInBounds_toArray, List.set_cons_zero, List.set_cons_succ, i64_w, i32_w]
  rfl
 refine pure_ (i := 6) (N := some 11) (v := ?_) (a' := ?_) #[true, true, true, true, true, true, true, true, true, false, false] rfl rfl (any_of HT_.out (by kernel_rfl)) (fun _ _ _ h => h) (Or.inl ⟨by rfl, ?_⟩) ?_ ?_
 rotate_left
 ·intro w'
  go_simp
  with_reducible rfl
 rotate_left
 ·simp only [Act.put, List.setIfInBounds_toArray, List.set_cons_zero, List.set_cons_succ, i64_w, i32_w]
  rfl
 refine pure_ (i := 9) (N := some 14) (v := ?_) (a' := ?_) #[true, true, true, true, true, true, true, true, true, true, false] rfl rfl (any_of HT_.out (by kernel_rfl)) (fun _ _ _ h => h) (Or.inl ⟨by rfl, ?_⟩) ?_ ?_
 rotate_left
 ·intro w'
  go_simp
  with_reducible rfl
 rotate_left
 ·simp only [Act.put, List.setIfInBounds_toArray, List.set_cons_zero, List.set_cons_succ, i64_w, i32_w]
  rfl
 refine pure_ (i := 10) (N := some 4) (v := ?_) (a' := ?_) #[true, true, true, true, true, true, true, true, true, true, true] rfl rfl (any_of HT_.out (by kernel_rfl)) (fun _ _ _ h => h) (Or.inl ⟨by rfl, ?_⟩) ?_ ?_
 rotate_left
 ·intro w'
  go_simp
  with_reducible rfl
 rotate_left
 ·simp only [Act.put, List.setIfInBounds_toArray, List.set_cons_zero, List.set_cons_succ, i64_w, i32_w]
  rfl
 refine done_ (done_of HT_.out (by kernel_rfl)) ?_
 try go_wp2
 go_ret
 exact ⟨by first | rfl | (simp [errW_none, errW_some] <;> rfl) | (simp [*, errW_none, errW_some] <;> rfl), viaX HB.out GE226.out⟩

-- NOT PRINTED: function 54 (impl_ScoreForests_1)

end Go.Proofs.Ythoaebnnolbaaaa.G
