/- For each Go function named below: a plain Lean function of the same name, and the proof that a call of the Go function returns just what the plain function tells, where it tells something. Written by a program of this session with the printer of the kit. -/
import Derived.Test.YtfijegfjpagjoaaH0
import Derived.Test.YtfijegfjpagjoaaH2
namespace Go.Proofs.Ytfijegfjpagjoaa.G
open Go.RowKit Go.Proofs.YtfijegfjpagjoaaW.PrintWords Go.Proofs.YtfijegfjpagjoaaW.PrintLast Go.Proofs.YtfijegfjpagjoaaW.PrintMore
attribute [local go_sem] max2_int min2_int max_two min_two max_three min_three max_four min_four   -- for this text's walks alone
set_option linter.unusedVariables false
set_option linter.unusedSimpArgs false
/-! ### impl_isFree: function 124 -/
def impl_isFree.l0 : Nat → Int → List (S44) → Int → Int → Option (Bool)
 | 0, _, _, _, _ => none
 | k + 1, x1, x8, x9, x10 => if x10 < x9 then (if 0 ≤ x10 then (if x10 < (x8.length : Int) then (if 0 ≤ ((rd_T44 x8 x10).f0) then (if (Go.bits .and .i64 (shr .i64 x1 ((rd_T44 x8 x10).f0)) 1) = 1 then (if 0 ≤ ((rd_T44 x8 x10).f1) then (if (Go.bits .and .i64 (shr .i64 x1 ((rd_T44 x8 x10).f1)) 1) = 1 then (some false) else (impl_isFree.l0 k x1 x8 x9 (wrap64 (x10 + 1)))) else (none)) else (impl_isFree.l0 k x1 x8 x9 (wrap64 (x10 + 1)))) else (none)) else (none)) else (none)) else (some true)
def impl_isFree.f (k : Nat) (a0_0 : Int) (l0_1 : List (S44)) (a1 : Int) : Option (Bool) := impl_isFree.l0 k a1 l0_1 (l0_1.length : Int) 0
theorem impl_isFree.mono_l : ∀ k, (∀ y0 y1 y2 y3, LeO (impl_isFree.l0 k y0 y1 y2 y3) (impl_isFree.l0 (k + 1) y0 y1 y2 y3))
 | 0 => fun _ _ _ _ r h => by simp [impl_isFree.l0] at h
 | k + 1 => by
  have ih0 := impl_isFree.mono_l k
  ·intro y0 y1 y2 y3
   unfold impl_isFree.l0
   repeat' first
   | (with_reducible exact ih0 _ _ _ _)
   | (with_reducible exact LeO.refl _)
   | (with_reducible exact LeO.none _)
   | (with_reducible refine LeO.ite ?_ ?_)
   | (with_reducible refine LeO.bind ?_ (fun _ => ?_))
   | exact ih0 _ _ _ _
   | exact LeO.none _
   | refine LeO.ite ?_ ?_
   | refine LeO.bind ?_ (fun _ => ?_)
theorem impl_isFree.mono : ∀ a0 a1 a2 k, LeO (impl_isFree.f k a0 a1 a2) (impl_isFree.f (k + 1) a0 a1 a2) := by
 intro a0 a1 a2 k; have ih0 := impl_isFree.mono_l k
 unfold impl_isFree.f
 repeat' first
   | (with_reducible exact ih0 _ _ _ _)
   | (with_reducible exact LeO.refl _)
   | (with_reducible exact LeO.none _)
   | (with_reducible refine LeO.ite ?_ ?_)
   | (with_reducible refine LeO.bind ?_ (fun _ => ?_))
   | exact ih0 _ _ _ _
   | exact LeO.none _
   | refine LeO.ite ?_ ?_
   | refine LeO.bind ?_ (fun _ => ?_)
set_option maxHeartbeats 8000000 in
set_option maxRecDepth 100000 in
theorem impl_isFree.calls (k : Nat) (a0_0 : Int) (A0_1 : Option Addr) (c0_1 : Nat) (l0_1 : List (S44)) (a1 : Int) (r : Bool) (w : World) (hr0_1 : Kd.C k44 w A0_1 l0_1.length l0_1) (hc0_1 : l0_1.length ≤ c0_1) (h : impl_isFree.f k a0_0 l0_1 a1 = some r) :
  Calls Try.prog 124 #[.agg #[.int .i64 a0_0, .slice A0_1 l0_1.length c0_1], .int .i64 a1] w fun e w' => e = .returned (.bool r) ∧ Below w.heap.size w w' := by
 have hu30 := Try.underlying30; have hu44 := Try.underlying44; have HR0_1 := Aside0.mk hr0_1; have HC0_1 := Aside0.mk hc0_1; clear hr0_1 hc0_1; have HB := Aside0.mk (Below.refl w.heap.size w); have H : (impl_isFree.l0 k a1 l0_1 (l0_1.length : Int) 0) = some r := h; clear h; have H' := Aside0.mk H; clear H
 go_enter Try.func124, Try.ntmps124
 go_wp2_with (first | ((with_reducible refine gate_dst (N := 2) rfl ?_); refine box_event ?hg (N := 2) ?hd (cs := #[.int .i64 a0_0, .slice A0_1 l0_1.length c0_1]) (t := 30) ?hr ?_; (case hd => rfl); (case hg => rfl); (case hr => first | (go_simp; done) | (go_simp; rfl)); intro gb930 hg w3 hbox hb; have n0_ := Aside0.mk (below_step (viaW HB.out) hb); have n1_ := Aside0.mk (hbox); have n2_ := Aside0.mk ((by rw [hg]; exact (below_size (viaW HB.out)) : w.heap.size ≤ gb930)); have n3_ := Aside0.mk ((by rw [hg]; exact (below_size (viaW HB.out)) : w.heap.size ≤ gb930)); clear HB; have HB := n0_; have BK930 := n1_; have GW930 := n2_; have GE930 := n3_; clear n0_ n1_ n2_ n3_; clear hb hbox hg; have hcz4_0 : w3.cell? ⟨gb930, 0, none⟩ = some (.int .i64 a0_0) := (blk_cell BK930.out 0).trans rfl; have hcz4_1 : w3.cell? ⟨gb930, 1, none⟩ = some (.slice A0_1 l0_1.length c0_1) := (blk_cell BK930.out 1).trans rfl; have hfz4_0 := blk_frozen BK930.out 0; have hfz4_1 := blk_frozen BK930.out 1))
 go_loopg [10] k (fun kq v10 w' => ∃ (x10_1 : Int), v10 = .int .i64 x10_1 ∧ Aside0 (impl_isFree.l0 kq a1 l0_1 (l0_1.length : Int) x10_1 = some r) ∧ Aside0 (kq ≤ k) ∧ Aside0 (w'.heap[gb930]? = some (.cells #[.int .i64 a0_0, (.slice A0_1 l0_1.length c0_1)] 30 (0, 0))) ∧ Aside0 (Below w.heap.size w w'))
 case atStart => exact ⟨(0), (by first | rfl | (simp; done) | (simp [*]; done)), H', ⟨Nat.le_refl _⟩, ⟨viaB BK930.out⟩, ⟨viaX HB.out GE930.out⟩⟩
 case round =>
  clear H'
  try clear c1
  try clear p2
  try clear hcz4_0
  try clear hcz4_1
  try clear hfz4_0
  try clear hfz4_1
  obtain ⟨x10_1, rfl, HA, HK1, BK930, HB⟩ := hrel
  cases gk with
  | zero => exact absurd HA.out (by simp [impl_isFree.l0])
  | succ k1 =>
   have H := HA.out; clear HA
   simp only [impl_isFree.l0] at H
   by_cases c5 : x10_1 < (l0_1.length : Int)
   ·rw [if_pos c5] at H
    have c5b0 : decide (x10_1 < (l0_1.length : Int)) = true := decide_eq_true c5; clear c5
    by_cases c6 : 0 ≤ x10_1
    ·rw [if_pos c6] at H
     have c6b0 : decide (0 ≤ x10_1) = true := decide_eq_true c6; clear c6
     by_cases c7 : x10_1 < (l0_1.length : Int)
     ·rw [if_pos c7] at H
      have c7b0 : decide (x10_1 < (l0_1.length : Int)) = true := decide_eq_true c7; clear c7
      by_cases c8 : 0 ≤ ((rd_T44 l0_1 x10_1).f0)
      ·rw [if_pos c8] at H
       have c8b0 := eq_true c8; have c8b1 : decide (0 ≤ ((rd_T44 l0_1 x10_1).f0)) = true := decide_eq_true c8; clear c8; obtain ⟨ji9, hji9⟩ : ∃ j_ : Int, (shr .i64 a1 ((rd_T44 l0_1 x10_1).f0)) = j_ := ⟨_, rfl⟩; replace H : (if (Go.bits .and .i64 (ji9) 1) = 1 then (if 0 ≤ ((rd_T44 l0_1 x10_1).f1) then (if (Go.bits .and .i64 (shr .i64 a1 ((rd_T44 l0_1 x10_1).f1)) 1) = 1 then (some false) else (impl_isFree.l0 k1 a1 l0_1 (l0_1.length : Int) (wrap64 (x10_1 + 1)))) else (none)) else (impl_isFree.l0 k1 a1 l0_1 (l0_1.length : Int) (wrap64 (x10_1 + 1)))) = some r := by first | (rw [hji9] at H; exact H) | (simp only [hji9] at H ⊢; exact H)
       have hji9_ : (a1 / 2 ^ min ((rd_T44 l0_1 x10_1).f0).toNat 64) = ji9 := hji9; have hji9z : ((rd_T44 l0_1 x10_1).f0) ≤ 64 → (a1 / 2 ^ ((rd_T44 l0_1 x10_1).f0).toNat) = ji9 := shr_small hji9
       by_cases c10 : (Go.bits .and .i64 (ji9) 1) = 1
       ·rw [if_pos c10] at H
        have c10b0 : ((Go.bits .and .i64 (ji9) 1) == 1) = true := beq_iff_eq.mpr c10; have c10b1 : ((Go.bits .and .i64 (ji9) 1) != 1) = false := bne_eq_false_iff_eq.mpr c10; clear c10
        by_cases c11 : 0 ≤ ((rd_T44 l0_1 x10_1).f1)
        ·rw [if_pos c11] at H
         have c11b0 := eq_true c11; have c11b1 : decide (0 ≤ ((rd_T44 l0_1 x10_1).f1)) = true := decide_eq_true c11; clear c11; obtain ⟨ji12, hji12⟩ : ∃ j_ : Int, (shr .i64 a1 ((rd_T44 l0_1 x10_1).f1)) = j_ := ⟨_, rfl⟩; replace H : (if (Go.bits .and .i64 (ji12) 1) = 1 then (some false) else (impl_isFree.l0 k1 a1 l0_1 (l0_1.length : Int) (wrap64 (x10_1 + 1)))) = some r := by first | (rw [hji12] at H; exact H) | (simp only [hji12] at H ⊢; exact H)
         have hji12_ : (a1 / 2 ^ min ((rd_T44 l0_1 x10_1).f1).toNat 64) = ji12 := hji12; have hji12z : ((rd_T44 l0_1 x10_1).f1) ≤ 64 → (a1 / 2 ^ ((rd_T44 l0_1 x10_1).f1).toNat) = ji12 := shr_small hji12
         by_cases c13 : (Go.bits .and .i64 (ji12) 1) = 1
         ·rw [if_pos c13] at H
          have c13b0 : ((Go.bits .and .i64 (ji12) 1) == 1) = true := beq_iff_eq.mpr c13; have c13b1 : ((Go.bits .and .i64 (ji12) 1) != 1) = false := bne_eq_false_iff_eq.mpr c13; clear c13; obtain rfl := Option.some.inj H; have p931 : 0 ≤ (x10_1 : Int) := of_decide_eq_true (by first | (with_reducible assumption) | assumption); have q931 : x10_1 < (l0_1.length : Int) := of_decide_eq_true (by first | (with_reducible assumption) | assumption); obtain ⟨ad931, e931, hx931_0, hx931_1⟩ := at_T44 HR0_1.out x10_1 p931 q931
          cases e931
          replace hx931_0 := (HB.out.cell (World.block_lt_of_cell? w _ hx931_0)).trans hx931_0; replace hx931_1 := (HB.out.cell (World.block_lt_of_cell? w _ hx931_1)).trans hx931_1; replace p931 := eq_true p931; replace q931 := eq_true q931
          go_wp2_with (first | ((with_reducible refine gate_dst (N := 6) rfl ?_); refine box_event ?hg (N := 6) ?hd (cs := #[.int .i64 0, .int .i64 0]) (t := 44) ?hr ?_; (case hd => rfl); (case hg => rfl); (case hr => first | (go_simp; done) | (go_simp; rfl)); intro gb932 hg w14 hbox hb; have n0_ := Aside0.mk (blk_below (g := gb930) (o := .cells #[.int .i64 a0_0, .slice (some ad931) l0_1.length c0_1] 30 (0, 0)) (viaB BK930.out) hb); have n1_ := Aside0.mk (below_step (viaX HB.out GE930.out) hb); have n2_ := Aside0.mk (hbox); have n3_ := Aside0.mk ((by rw [hg]; exact (below_size (viaX HB.out GE930.out)) : w.heap.size ≤ gb932)); have n4_ := Aside0.mk ((by rw [hg]; exact (below_size (viaX HB.out GE930.out)) : w.heap.size ≤ gb932)); have n5_ := Aside0.mk ((by rw [hg]; exact Nat.ne_of_lt (blk_lt (g := gb930) (o := .cells #[.int .i64 a0_0, .slice (some ad931) l0_1.length c0_1] 30 (0, 0)) (viaB BK930.out)) : gb930 ≠ gb932)); have n6_ := Aside0.mk ((by rw [hg]; exact Nat.ne_of_gt (blk_lt (g := gb930) (o := .cells #[.int .i64 a0_0, .slice (some ad931) l0_1.length c0_1] 30 (0, 0)) (viaB BK930.out)) : gb932 ≠ gb930)); clear BK930; clear HB; have BK930 := n0_; have HB := n1_; have BK932 := n2_; have GW932 := n3_; have GE932 := n4_; have NB930_932 := n5_; have NB932_930 := n6_; clear n0_ n1_ n2_ n3_ n4_ n5_ n6_; clear hb hbox hg; have hnb15 := NB932_930.out; have hnc15 := NB930_932.out; have hcz16_0 : w14.cell? ⟨gb932, 0, none⟩ = some (.int .i64 0) := (blk_cell BK932.out 0).trans rfl; have hcz16_1 : w14.cell? ⟨gb932, 1, none⟩ = some (.int .i64 0) := (blk_cell BK932.out 1).trans rfl; have hfz16_0 := blk_frozen BK932.out 0; have hfz16_1 := blk_frozen BK932.out 1))
          go_ret
          exact ⟨by first | rfl | (simp [errW_none, errW_some] <;> rfl) | (simp only [← hji9, ← hji12]; first | rfl | (simp [errW_none, errW_some] <;> rfl)) | (simp [*, errW_none, errW_some] <;> rfl), viaX2 HB.out GE930.out GE932.out⟩
         ·rw [if_neg c13] at H
          have c13b0 : ((Go.bits .and .i64 (ji12) 1) == 1) = false := beq_eq_false_iff_ne.mpr c13; have c13b1 : ((Go.bits .and .i64 (ji12) 1) != 1) = true := bne_iff_ne.mpr c13; have H' := Aside0.mk H; clear H; have p931 : 0 ≤ (x10_1 : Int) := of_decide_eq_true (by first | (with_reducible assumption) | assumption); have q931 : x10_1 < (l0_1.length : Int) := of_decide_eq_true (by first | (with_reducible assumption) | assumption); obtain ⟨ad931, e931, hx931_0, hx931_1⟩ := at_T44 HR0_1.out x10_1 p931 q931
          cases e931
          replace hx931_0 := (HB.out.cell (World.block_lt_of_cell? w _ hx931_0)).trans hx931_0; replace hx931_1 := (HB.out.cell (World.block_lt_of_cell? w _ hx931_1)).trans hx931_1; replace p931 := eq_true p931; replace q931 := eq_true q931
          go_wp2_with (first | ((with_reducible refine gate_dst (N := 6) rfl ?_); refine box_event ?hg (N := 6) ?hd (cs := #[.int .i64 0, .int .i64 0]) (t := 44) ?hr ?_; (case hd => rfl); (case hg => rfl); (case hr => first | (go_simp; done) | (go_simp; rfl)); intro gb932 hg w17 hbox hb; have n0_ := Aside0.mk (blk_below (g := gb930) (o := .cells #[.int .i64 a0_0, .slice (some ad931) l0_1.length c0_1] 30 (0, 0)) (viaB BK930.out) hb); have n1_ := Aside0.mk (below_step (viaX HB.out GE930.out) hb); have n2_ := Aside0.mk (hbox); have n3_ := Aside0.mk ((by rw [hg]; exact (below_size (viaX HB.out GE930.out)) : w.heap.size ≤ gb932)); have n4_ := Aside0.mk ((by rw [hg]; exact (below_size (viaX HB.out GE930.out)) : w.heap.size ≤ gb932)); have n5_ := Aside0.mk ((by rw [hg]; exact Nat.ne_of_lt (blk_lt (g := gb930) (o := .cells #[.int .i64 a0_0, .slice (some ad931) l0_1.length c0_1] 30 (0, 0)) (viaB BK930.out)) : gb930 ≠ gb932)); have n6_ := Aside0.mk ((by rw [hg]; exact Nat.ne_of_gt (blk_lt (g := gb930) (o := .cells #[.int .i64 a0_0, .slice (some ad931) l0_1.length c0_1] 30 (0, 0)) (viaB BK930.out)) : gb932 ≠ gb930)); clear BK930; clear HB; have BK930 := n0_; have HB := n1_; have BK932 := n2_; have GW932 := n3_; have GE932 := n4_; have NB930_932 := n5_; have NB932_930 := n6_; clear n0_ n1_ n2_ n3_ n4_ n5_ n6_; clear hb hbox hg; have hnb18 := NB932_930.out; have hnc18 := NB930_932.out; have hcz19_0 : w17.cell? ⟨gb932, 0, none⟩ = some (.int .i64 0) := (blk_cell BK932.out 0).trans rfl; have hcz19_1 : w17.cell? ⟨gb932, 1, none⟩ = some (.int .i64 0) := (blk_cell BK932.out 1).trans rfl; have hfz19_0 := blk_frozen BK932.out 0; have hfz19_1 := blk_frozen BK932.out 1))
          go_roundg k1
          case measure => have := HK1.out; omega
          case rel => exact ⟨(wrap64 (x10_1 + 1)), (by first | rfl | (simp; done) | (simp [*]; done)), H', ⟨by have := HK1.out; omega⟩, ⟨by (with_reducible repeat (first | refine blk_drewN ?_ _ | refine blk_drew ?_ | refine blk_alloc ?_ _)); refine blk_far ?_ NB930_932.out _; (with_reducible repeat (first | refine blk_drewN ?_ _ | refine blk_drew ?_ | refine blk_alloc ?_ _)); refine blk_far ?_ NB930_932.out _; (with_reducible repeat (first | refine blk_drewN ?_ _ | refine blk_drew ?_ | refine blk_alloc ?_ _)); exact BK930.out⟩, ⟨viaX2 HB.out GE930.out GE932.out⟩⟩
        ·rw [if_neg c11] at H
         exact absurd H (by simp)
       ·rw [if_neg c10] at H
        have c10b0 : ((Go.bits .and .i64 (ji9) 1) == 1) = false := beq_eq_false_iff_ne.mpr c10; have c10b1 : ((Go.bits .and .i64 (ji9) 1) != 1) = true := bne_iff_ne.mpr c10; have H' := Aside0.mk H; clear H; have p931 : 0 ≤ (x10_1 : Int) := of_decide_eq_true (by first | (with_reducible assumption) | assumption); have q931 : x10_1 < (l0_1.length : Int) := of_decide_eq_true (by first | (with_reducible assumption) | assumption); obtain ⟨ad931, e931, hx931_0, hx931_1⟩ := at_T44 HR0_1.out x10_1 p931 q931
        cases e931
        replace hx931_0 := (HB.out.cell (World.block_lt_of_cell? w _ hx931_0)).trans hx931_0; replace hx931_1 := (HB.out.cell (World.block_lt_of_cell? w _ hx931_1)).trans hx931_1; replace p931 := eq_true p931; replace q931 := eq_true q931
        go_wp2_with (first | ((with_reducible refine gate_dst (N := 6) rfl ?_); refine box_event ?hg (N := 6) ?hd (cs := #[.int .i64 0, .int .i64 0]) (t := 44) ?hr ?_; (case hd => rfl); (case hg => rfl); (case hr => first | (go_simp; done) | (go_simp; rfl)); intro gb932 hg w20 hbox hb; have n0_ := Aside0.mk (blk_below (g := gb930) (o := .cells #[.int .i64 a0_0, .slice (some ad931) l0_1.length c0_1] 30 (0, 0)) (viaB BK930.out) hb); have n1_ := Aside0.mk (below_step (viaX HB.out GE930.out) hb); have n2_ := Aside0.mk (hbox); have n3_ := Aside0.mk ((by rw [hg]; exact (below_size (viaX HB.out GE930.out)) : w.heap.size ≤ gb932)); have n4_ := Aside0.mk ((by rw [hg]; exact (below_size (viaX HB.out GE930.out)) : w.heap.size ≤ gb932)); have n5_ := Aside0.mk ((by rw [hg]; exact Nat.ne_of_lt (blk_lt (g := gb930) (o := .cells #[.int .i64 a0_0, .slice (some ad931) l0_1.length c0_1] 30 (0, 0)) (viaB BK930.out)) : gb930 ≠ gb932)); have n6_ := Aside0.mk ((by rw [hg]; exact Nat.ne_of_gt (blk_lt (g := gb930) (o := .cells #[.int .i64 a0_0, .slice (some ad931) l0_1.length c0_1] 30 (0, 0)) (viaB BK930.out)) : gb932 ≠ gb930)); clear BK930; clear HB; have BK930 := n0_; have HB := n1_; have BK932 := n2_; have GW932 := n3_; have GE932 := n4_; have NB930_932 := n5_; have NB932_930 := n6_; clear n0_ n1_ n2_ n3_ n4_ n5_ n6_; clear hb hbox hg; have hnb21 := NB932_930.out; have hnc21 := NB930_932.out; have hcz22_0 : w20.cell? ⟨gb932, 0, none⟩ = some (.int .i64 0) := (blk_cell BK932.out 0).trans rfl; have hcz22_1 : w20.cell? ⟨gb932, 1, none⟩ = some (.int .i64 0) := (blk_cell BK932.out 1).trans rfl; have hfz22_0 := blk_frozen BK932.out 0; have hfz22_1 := blk_frozen BK932.out 1))
        go_roundg k1
        case measure => have := HK1.out; omega
        case rel => exact ⟨(wrap64 (x10_1 + 1)), (by first | rfl | (simp; done) | (simp [*]; done)), H', ⟨by have := HK1.out; omega⟩, ⟨by (with_reducible repeat (first | refine blk_drewN ?_ _ | refine blk_drew ?_ | refine blk_alloc ?_ _)); refine blk_far ?_ NB930_932.out _; (with_reducible repeat (first | refine blk_drewN ?_ _ | refine blk_drew ?_ | refine blk_alloc ?_ _)); refine blk_far ?_ NB930_932.out _; (with_reducible repeat (first | refine blk_drewN ?_ _ | refine blk_drew ?_ | refine blk_alloc ?_ _)); exact BK930.out⟩, ⟨viaX2 HB.out GE930.out GE932.out⟩⟩
      ·rw [if_neg c8] at H
       exact absurd H (by simp)
     ·rw [if_neg c7] at H
      exact absurd H (by simp)
    ·rw [if_neg c6] at H
     exact absurd H (by simp)
   ·rw [if_neg c5] at H
    have c5b0 : decide (x10_1 < (l0_1.length : Int)) = false := decide_eq_false c5; clear c5; obtain rfl := Option.some.inj H
    go_wp2
    go_ret
    exact ⟨by first | rfl | (simp [errW_none, errW_some] <;> rfl) | (simp [*, errW_none, errW_some] <;> rfl), viaX HB.out GE930.out⟩
/-! ### impl_isKernel: function 105 -/
def impl_isKernel.l0 : Nat → Int → List Int → Int → Int → Option (Bool)
 | 0, _, _, _, _ => none
 | k + 1, x2, x15, x16, x17 => if x17 < x16 then (if 0 ≤ x17 then (if x17 < (x15.length : Int) then (if (Go.bits .and .i64 (shr .i64 x2 x17) 1) = 0 then (if (Go.bits .and .i64 (rd x15 x17) x2) = 0 then (some false) else (impl_isKernel.l0 k x2 x15 x16 (wrap64 (x17 + 1)))) else (impl_isKernel.l0 k x2 x15 x16 (wrap64 (x17 + 1)))) else (none)) else (none)) else (some true)
def impl_isKernel.f (k : Nat) (a0_0 : Int) (l0_1 : List (S44)) (a1 : Int) (a2 : Int) : Option (Bool) := (impl_isFree.f k a0_0 l0_1 a2).bind fun t934 => (if t934 = true then ((impl_nextOf.f k a0_0 l0_1 a1).bind fun t935 => (impl_isKernel.l0 k a2 t935 (t935.length : Int) 0)) else (some false))
theorem impl_isKernel.mono_l : ∀ k, (∀ y0 y1 y2 y3, LeO (impl_isKernel.l0 k y0 y1 y2 y3) (impl_isKernel.l0 (k + 1) y0 y1 y2 y3))
 | 0 => fun _ _ _ _ r h => by simp [impl_isKernel.l0] at h
 | k + 1 => by
  have ih0 := impl_isKernel.mono_l k
  ·intro y0 y1 y2 y3
   unfold impl_isKernel.l0
   repeat' first
   | (with_reducible exact ih0 _ _ _ _)
   | (with_reducible exact impl_isFree.mono _ _ _ _)
   | (with_reducible exact impl_nextOf.mono _ _ _ _)
   | (with_reducible exact LeO.refl _)
   | (with_reducible exact LeO.none _)
   | (with_reducible refine LeO.ite ?_ ?_)
   | (with_reducible refine LeO.bind ?_ (fun _ => ?_))
   | exact ih0 _ _ _ _
   | exact impl_isFree.mono _ _ _ _
   | exact impl_nextOf.mono _ _ _ _
   | exact LeO.none _
   | refine LeO.ite ?_ ?_
   | refine LeO.bind ?_ (fun _ => ?_)
theorem impl_isKernel.mono : ∀ a0 a1 a2 a3 k, LeO (impl_isKernel.f k a0 a1 a2 a3) (impl_isKernel.f (k + 1) a0 a1 a2 a3) := by
 intro a0 a1 a2 a3 k; have ih0 := impl_isKernel.mono_l k
 unfold impl_isKernel.f
 repeat' first
   | (with_reducible exact ih0 _ _ _ _)
   | (with_reducible exact impl_isFree.mono _ _ _ _)
   | (with_reducible exact impl_nextOf.mono _ _ _ _)
   | (with_reducible exact LeO.refl _)
   | (with_reducible exact LeO.none _)
   | (with_reducible refine LeO.ite ?_ ?_)
   | (with_reducible refine LeO.bind ?_ (fun _ => ?_))
   | exact ih0 _ _ _ _
   | exact impl_isFree.mono _ _ _ _
   | exact impl_nextOf.mono _ _ _ _
   | exact LeO.none _
   | refine LeO.ite ?_ ?_
   | refine LeO.bind ?_ (fun _ => ?_)
set_option maxHeartbeats 8000000 in
set_option maxRecDepth 100000 in
theorem impl_isKernel.calls (k : Nat) (a0_0 : Int) (A0_1 : Option Addr) (c0_1 : Nat) (l0_1 : List (S44)) (a1 : Int) (a2 : Int) (r : Bool) (w : World) (hr0_1 : Kd.C k44 w A0_1 l0_1.length l0_1) (hc0_1 : l0_1.length ≤ c0_1) (h : impl_isKernel.f k a0_0 l0_1 a1 a2 = some r) :
  Calls Try.prog 105 #[.agg #[.int .i64 a0_0, .slice A0_1 l0_1.length c0_1], .int .i64 a1, .int .i64 a2] w fun e w' => e = .returned (.bool r) ∧ Below w.heap.size w w' := by
 have hu30 := Try.underlying30; have HR0_1 := Aside0.mk hr0_1; have HC0_1 := Aside0.mk hc0_1; clear hr0_1 hc0_1; have HB := Aside0.mk (Below.refl w.heap.size w); have H : ((impl_isFree.f k a0_0 l0_1 a2).bind fun t934 => (if t934 = true then ((impl_nextOf.f k a0_0 l0_1 a1).bind fun t935 => (impl_isKernel.l0 k a2 t935 (t935.length : Int) 0)) else (some false))) = some r := h; clear h; replace H := Option.bind_eq_some_iff.mp H; obtain ⟨t934, A40, H⟩ := H; replace H : (if t934 = true then ((impl_nextOf.f k a0_0 l0_1 a1).bind fun t935 => (impl_isKernel.l0 k a2 t935 (t935.length : Int) 0)) else (some false)) = some r := H; have A4 := Aside0.mk A40; clear A40
 by_cases c5 : t934 = true
 ·subst c5
  have H1 : ((impl_nextOf.f k a0_0 l0_1 a1).bind fun t935 => (impl_isKernel.l0 k a2 t935 (t935.length : Int) 0)) = some r := by rw [if_pos rfl] at H; exact H
  clear H; have H := H1; clear H1; replace H := Option.bind_eq_some_iff.mp H; obtain ⟨t935, A60, H⟩ := H; replace H : (impl_isKernel.l0 k a2 t935 (t935.length : Int) 0) = some r := H; have A6 := Aside0.mk A60; clear A60; have H' := Aside0.mk H; clear H
  go_enter Try.func105, Try.ntmps105
  go_wp2_with (first | ((with_reducible refine gate_dst (N := 3) rfl ?_); refine box_event ?hg (N := 3) ?hd (cs := #[.int .i64 a0_0, .slice A0_1 l0_1.length c0_1]) (t := 30) ?hr ?_; (case hd => rfl); (case hg => rfl); (case hr => first | (go_simp; done) | (go_simp; rfl)); intro gb933 hg w7 hbox hb; have n0_ := Aside0.mk (below_step (viaW HB.out) hb); have n1_ := Aside0.mk (hbox); have n2_ := Aside0.mk ((by rw [hg]; exact (below_size (viaW HB.out)) : w.heap.size ≤ gb933)); have n3_ := Aside0.mk ((by rw [hg]; exact (below_size (viaW HB.out)) : w.heap.size ≤ gb933)); clear HB; have HB := n0_; have BK933 := n1_; have GW933 := n2_; have GE933 := n3_; clear n0_ n1_ n2_ n3_; clear hb hbox hg; have hcz8_0 : w7.cell? ⟨gb933, 0, none⟩ = some (.int .i64 a0_0) := (blk_cell BK933.out 0).trans rfl; have hcz8_1 : w7.cell? ⟨gb933, 1, none⟩ = some (.slice A0_1 l0_1.length c0_1) := (blk_cell BK933.out 1).trans rfl; have hfz8_0 := blk_frozen BK933.out 0; have hfz8_1 := blk_frozen BK933.out 1) | ((with_reducible refine gate_callee (f := 124) rfl ?_); refine goesL_ (some 11) rfl rfl Try.func124 (by kernel_rfl) rfl #[.agg #[.int .i64 a0_0, .slice A0_1 l0_1.length c0_1], .int .i64 a2] rfl (by (try simp only [List.map_toArray, List.map_cons, List.map_nil]); first | done | rfl) ?_; (with_reducible refine (impl_isFree.calls k a0_0 _ _ l0_1 a2 true _ ?side1 ?side2 A4.out).mono ?_); (case side1 => exact viaC (Kd.C_below HR0_1.out HB.out)); (case side2 => exact HC0_1.out); rintro e w9 ⟨rfl, hb⟩; refine ⟨_, rfl, ?_⟩; have n0_ := Aside0.mk (blk_below (g := gb933) (o := .cells #[.int .i64 a0_0, .slice A0_1 l0_1.length c0_1] 30 (0, 0)) (viaB BK933.out) hb); have n1_ := Aside0.mk (below_step (viaX HB.out GE933.out) hb); clear BK933; clear HB; have BK933 := n0_; have HB := n1_; clear n0_ n1_; (try clear hb); (try clear hb2); (try clear hk); (try clear hi); have hcz10_0 : w9.cell? ⟨gb933, 0, none⟩ = some (.int .i64 a0_0) := (blk_cell BK933.out 0).trans rfl; have hcz10_1 : w9.cell? ⟨gb933, 1, none⟩ = some (.slice A0_1 l0_1.length c0_1) := (blk_cell BK933.out 1).trans rfl; have hfz10_0 := blk_frozen BK933.out 0; have hfz10_1 := blk_frozen BK933.out 1) | ((with_reducible refine gate_callee (f := 87) rfl ?_); refine goesL_ (some 15) rfl rfl Try.func87 (by kernel_rfl) rfl #[.agg #[.int .i64 a0_0, .slice A0_1 l0_1.length c0_1], .int .i64 a1] rfl (by (try simp only [List.map_toArray, List.map_cons, List.map_nil]); first | done | rfl) ?_; (with_reducible refine (impl_nextOf.calls k a0_0 _ _ l0_1 a1 t935 _ ?side1 ?side2 A6.out).mono ?_); (case side1 => exact viaC (Kd.C_below HR0_1.out HB.out)); (case side2 => exact HC0_1.out); rintro e w11 ⟨v936, rfl, ho0, hb⟩; refine ⟨_, rfl, ?_⟩; have n0_ := Aside0.mk (Kd.R_lower ho0 (below_size (viaX HB.out GE933.out))); have n1_ := Aside0.mk (blk_below (g := gb933) (o := .cells #[.int .i64 a0_0, .slice A0_1 l0_1.length c0_1] 30 (0, 0)) (viaB BK933.out) hb); have n2_ := Aside0.mk (below_step (viaX HB.out GE933.out) hb); clear BK933; clear HB; have HO937 := n0_; have BK933 := n1_; have HB := n2_; clear n0_ n1_ n2_; (try clear hb); (try clear hb2); (try clear hk); (try clear hi); (try clear ho0); obtain ⟨Ao12, co12, eo12⟩ := Kd.R_slice HO937.out; subst eo12))
  go_loopg [17] k (fun kq v17 w' => ∃ (x17_1 : Int), v17 = .int .i64 x17_1 ∧ Aside0 (impl_isKernel.l0 kq a2 t935 (t935.length : Int) x17_1 = some r) ∧ Aside0 (kq ≤ k) ∧ Aside0 (Kd.R (Kd.int .i64) 3 w' w.heap.size (fun _ => True) (.slice Ao12 t935.length co12) t935) ∧ Aside0 (w'.heap[gb933]? = some (.cells #[.int .i64 a0_0, (.slice A0_1 l0_1.length c0_1)] 30 (0, 0))) ∧ Aside0 (Below w.heap.size w w'))
  case atStart => exact ⟨(0), (by first | rfl | (simp; done) | (simp [*]; done)), H', ⟨Nat.le_refl _⟩, ⟨viaR HO937.out⟩, ⟨viaB BK933.out⟩, ⟨viaX HB.out GE933.out⟩⟩
  case round =>
   clear H'
   try clear c1
   try clear p2
   try clear c5
   try clear c8
   try clear c10
   try clear c12
   try clear hcz10_0
   try clear hcz10_1
   try clear hcz8_0
   try clear hcz8_1
   try clear hfz10_0
   try clear hfz10_1
   try clear hfz8_0
   try clear hfz8_1
   obtain ⟨x17_1, rfl, HA, HK1, HO_15, BK933, HB⟩ := hrel
   cases gk with
   | zero => exact absurd HA.out (by simp [impl_isKernel.l0])
   | succ k1 =>
    have H := HA.out; clear HA
    simp only [impl_isKernel.l0] at H
    by_cases c13 : x17_1 < (t935.length : Int)
    ·rw [if_pos c13] at H
     have c13b0 : decide (x17_1 < (t935.length : Int)) = true := decide_eq_true c13; clear c13
     by_cases c14 : 0 ≤ x17_1
     ·rw [if_pos c14] at H
      have c14b0 : decide (0 ≤ x17_1) = true := decide_eq_true c14; clear c14
      by_cases c15 : x17_1 < (t935.length : Int)
      ·rw [if_pos c15] at H
       have c15b0 : decide (x17_1 < (t935.length : Int)) = true := decide_eq_true c15; clear c15; have c16b0 := eq_true (of_decide_eq_true (by first | (with_reducible assumption) | assumption) : 0 ≤ x17_1); obtain ⟨ji17, hji17⟩ : ∃ j_ : Int, (shr .i64 a2 x17_1) = j_ := ⟨_, rfl⟩; replace H : (if (Go.bits .and .i64 (ji17) 1) = 0 then (if (Go.bits .and .i64 (rd t935 x17_1) a2) = 0 then (some false) else (impl_isKernel.l0 k1 a2 t935 (t935.length : Int) (wrap64 (x17_1 + 1)))) else (impl_isKernel.l0 k1 a2 t935 (t935.length : Int) (wrap64 (x17_1 + 1)))) = some r := by first | (rw [hji17] at H; exact H) | (simp only [hji17] at H ⊢; exact H)
       have hji17_ : (a2 / 2 ^ min x17_1.toNat 64) = ji17 := hji17; have hji17z : x17_1 ≤ 64 → (a2 / 2 ^ x17_1.toNat) = ji17 := shr_small hji17
       by_cases c18 : (Go.bits .and .i64 (ji17) 1) = 0
       ·rw [if_pos c18] at H
        have c18b0 : ((Go.bits .and .i64 (ji17) 1) == 0) = true := beq_iff_eq.mpr c18; have c18b1 : ((Go.bits .and .i64 (ji17) 1) != 0) = false := bne_eq_false_iff_eq.mpr c18; clear c18
        by_cases c19 : (Go.bits .and .i64 (rd t935 x17_1) a2) = 0
        ·rw [if_pos c19] at H
         have c19b0 : ((Go.bits .and .i64 (rd t935 x17_1) a2) == 0) = true := beq_iff_eq.mpr c19; have c19b1 : ((Go.bits .and .i64 (rd t935 x17_1) a2) != 0) = false := bne_eq_false_iff_eq.mpr c19; clear c19; obtain rfl := Option.some.inj H; have p938 : 0 ≤ (x17_1 : Int) := of_decide_eq_true (by first | (with_reducible assumption) | assumption); have q938 : x17_1 < (t935.length : Int) := of_decide_eq_true (by first | (with_reducible assumption) | assumption); obtain ⟨ad938, e938, hx938_0⟩ := Kd.at_int (Kd.R_reads' HO_15.out).2.2 x17_1 p938 q938
         cases e938
         replace p938 := eq_true p938; replace q938 := eq_true q938
         go_wp2
         go_ret
         exact ⟨by first | rfl | (simp [errW_none, errW_some] <;> rfl) | (simp only [← hji17]; first | rfl | (simp [errW_none, errW_some] <;> rfl)) | (simp [*, errW_none, errW_some] <;> rfl), viaX HB.out GE933.out⟩
        ·rw [if_neg c19] at H
         have c19b0 : ((Go.bits .and .i64 (rd t935 x17_1) a2) == 0) = false := beq_eq_false_iff_ne.mpr c19; have c19b1 : ((Go.bits .and .i64 (rd t935 x17_1) a2) != 0) = true := bne_iff_ne.mpr c19; have H' := Aside0.mk H; clear H; have p938 : 0 ≤ (x17_1 : Int) := of_decide_eq_true (by first | (with_reducible assumption) | assumption); have q938 : x17_1 < (t935.length : Int) := of_decide_eq_true (by first | (with_reducible assumption) | assumption); obtain ⟨ad938, e938, hx938_0⟩ := Kd.at_int (Kd.R_reads' HO_15.out).2.2 x17_1 p938 q938
         cases e938
         replace p938 := eq_true p938; replace q938 := eq_true q938
         go_wp2
         go_roundg k1
         case measure => have := HK1.out; omega
         case rel => exact ⟨(wrap64 (x17_1 + 1)), (by first | rfl | (simp; done) | (simp [*]; done)), H', ⟨by have := HK1.out; omega⟩, ⟨viaR HO_15.out⟩, ⟨viaB BK933.out⟩, ⟨viaX HB.out GE933.out⟩⟩
       ·rw [if_neg c18] at H
        have c18b0 : ((Go.bits .and .i64 (ji17) 1) == 0) = false := beq_eq_false_iff_ne.mpr c18; have c18b1 : ((Go.bits .and .i64 (ji17) 1) != 0) = true := bne_iff_ne.mpr c18; have H' := Aside0.mk H; clear H; have p938 : 0 ≤ (x17_1 : Int) := of_decide_eq_true (by first | (with_reducible assumption) | assumption); have q938 : x17_1 < (t935.length : Int) := of_decide_eq_true (by first | (with_reducible assumption) | assumption); obtain ⟨ad938, e938, hx938_0⟩ := Kd.at_int (Kd.R_reads' HO_15.out).2.2 x17_1 p938 q938
        cases e938
        replace p938 := eq_true p938; replace q938 := eq_true q938
        go_wp2
        go_roundg k1
        case measure => have := HK1.out; omega
        case rel => exact ⟨(wrap64 (x17_1 + 1)), (by first | rfl | (simp; done) | (simp [*]; done)), H', ⟨by have := HK1.out; omega⟩, ⟨viaR HO_15.out⟩, ⟨viaB BK933.out⟩, ⟨viaX HB.out GE933.out⟩⟩
      ·rw [if_neg c15] at H
       exact absurd H (by simp)
     ·rw [if_neg c14] at H
      exact absurd H (by simp)
    ·rw [if_neg c13] at H
     have c13b0 : decide (x17_1 < (t935.length : Int)) = false := decide_eq_false c13; clear c13; obtain rfl := Option.some.inj H
     go_wp2
     go_ret
     exact ⟨by first | rfl | (simp [errW_none, errW_some] <;> rfl) | (simp [*, errW_none, errW_some] <;> rfl), viaX HB.out GE933.out⟩
 ·replace c5 := Bool.eq_false_iff.mpr c5
  subst c5; have H1 : (some false) = some r := by rw [if_neg (show ¬ (false = true) by decide)] at H; exact H
  clear H; have H := H1; clear H1; obtain rfl := Option.some.inj H
  go_enter Try.func105, Try.ntmps105
  go_wp2_with (first | ((with_reducible refine gate_dst (N := 3) rfl ?_); refine box_event ?hg (N := 3) ?hd (cs := #[.int .i64 a0_0, .slice A0_1 l0_1.length c0_1]) (t := 30) ?hr ?_; (case hd => rfl); (case hg => rfl); (case hr => first | (go_simp; done) | (go_simp; rfl)); intro gb933 hg w20 hbox hb; have n0_ := Aside0.mk (below_step (viaW HB.out) hb); have n1_ := Aside0.mk (hbox); have n2_ := Aside0.mk ((by rw [hg]; exact (below_size (viaW HB.out)) : w.heap.size ≤ gb933)); have n3_ := Aside0.mk ((by rw [hg]; exact (below_size (viaW HB.out)) : w.heap.size ≤ gb933)); clear HB; have HB := n0_; have BK933 := n1_; have GW933 := n2_; have GE933 := n3_; clear n0_ n1_ n2_ n3_; clear hb hbox hg; have hcz21_0 : w20.cell? ⟨gb933, 0, none⟩ = some (.int .i64 a0_0) := (blk_cell BK933.out 0).trans rfl; have hcz21_1 : w20.cell? ⟨gb933, 1, none⟩ = some (.slice A0_1 l0_1.length c0_1) := (blk_cell BK933.out 1).trans rfl; have hfz21_0 := blk_frozen BK933.out 0; have hfz21_1 := blk_frozen BK933.out 1) | ((with_reducible refine gate_callee (f := 124) rfl ?_); refine goesL_ (some 11) rfl rfl Try.func124 (by kernel_rfl) rfl #[.agg #[.int .i64 a0_0, .slice A0_1 l0_1.length c0_1], .int .i64 a2] rfl (by (try simp only [List.map_toArray, List.map_cons, List.map_nil]); first | done | rfl) ?_; (with_reducible refine (impl_isFree.calls k a0_0 _ _ l0_1 a2 false _ ?side1 ?side2 A4.out).mono ?_); (case side1 => exact viaC (Kd.C_below HR0_1.out HB.out)); (case side2 => exact HC0_1.out); rintro e w22 ⟨rfl, hb⟩; refine ⟨_, rfl, ?_⟩; have n0_ := Aside0.mk (blk_below (g := gb933) (o := .cells #[.int .i64 a0_0, .slice A0_1 l0_1.length c0_1] 30 (0, 0)) (viaB BK933.out) hb); have n1_ := Aside0.mk (below_step (viaX HB.out GE933.out) hb); clear BK933; clear HB; have BK933 := n0_; have HB := n1_; clear n0_ n1_; (try clear hb); (try clear hb2); (try clear hk); (try clear hi)))
  go_ret
  exact ⟨by first | rfl | (simp [errW_none, errW_some] <;> rfl) | (simp [*, errW_none, errW_some] <;> rfl), viaX HB.out GE933.out⟩
end Go.Proofs.Ytfijegfjpagjoaa.G
