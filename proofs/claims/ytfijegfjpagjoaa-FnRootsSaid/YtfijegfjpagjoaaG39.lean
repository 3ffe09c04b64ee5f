/- For each Go function named below: a plain Lean function of the same name, and the proof that a call of the Go function returns just what the plain function tells, where it tells something. Written by a program of this session with the printer of the kit. -/
import Derived.Test.YtfijegfjpagjoaaG0
import Derived.Test.YtfijegfjpagjoaaG2
import Derived.Test.YtfijegfjpagjoaaG3
import Derived.Test.YtfijegfjpagjoaaG5
import Derived.Test.YtfijegfjpagjoaaG15
import Derived.Test.YtfijegfjpagjoaaG25
import Derived.Test.YtfijegfjpagjoaaG30
namespace Go.Proofs.Ytfijegfjpagjoaa.G
open Go.RowKit Go.Proofs.YtfijegfjpagjoaaW.PrintWords Go.Proofs.YtfijegfjpagjoaaW.PrintLast Go.Proofs.YtfijegfjpagjoaaW.PrintMore
attribute [local go_sem] max2_int min2_int max_two min_two max_three min_three max_four min_four   -- for this text's walks alone
set_option linter.unusedVariables false
set_option linter.unusedSimpArgs false

/-! ### spec_l1Reach: function 130 -/
mutual
def spec_l1Reach.l0 : Nat → Int → Int → Int → Int → List (S44) → Option (Int)
 | 0, _, _, _, _, _ => none
 | k + 1, x1, x2, x7, x696000, x696001 => if x7 < x696000 then (spec_l1Reach.l1 k x1 x2 x7 0 x696000 x696001) else (some x2)
def spec_l1Reach.l1 : Nat → Int → Int → Int → Int → Int → List (S44) → Option (Int)
 | 0, _, _, _, _, _, _ => none
 | k + 1, x1, x2, x7, x8, x696000, x696001 => if x8 < (x696001.length : Int) then ((spec_l1Ends.f x696000 x696001 x1 x8).bind fun bt696 => (if 0 ≤ bt696.1 then (if (Go.bits .and .i64 (shr .i64 x2 bt696.1) 1) = 1 then (if 0 ≤ bt696.2 then (spec_l1Reach.l1 k x1 (Go.bits .or .i64 x2 (shl .i64 1 bt696.2)) x7 (wrap64 (x8 + 1)) x696000 x696001) else (none)) else (spec_l1Reach.l1 k x1 x2 x7 (wrap64 (x8 + 1)) x696000 x696001)) else (none))) else (spec_l1Reach.l0 k x1 x2 (wrap64 (x7 + 1)) x696000 x696001)
end
def spec_l1Reach.f (k : Nat) (a0_0 : Int) (l0_1 : List (S44)) (a1 : Int) (a2 : Int) : Option (Int) := spec_l1Reach.l0 k a1 a2 0 a0_0 l0_1
theorem spec_l1Reach.mono_l : ∀ k, (∀ y0 y1 y2 y3 y4, LeO (spec_l1Reach.l0 k y0 y1 y2 y3 y4) (spec_l1Reach.l0 (k + 1) y0 y1 y2 y3 y4)) ∧ (∀ y0 y1 y2 y3 y4 y5, LeO (spec_l1Reach.l1 k y0 y1 y2 y3 y4 y5) (spec_l1Reach.l1 (k + 1) y0 y1 y2 y3 y4 y5))
 | 0 => ⟨fun _ _ _ _ _ r h => by simp [spec_l1Reach.l0] at h, fun _ _ _ _ _ _ r h => by simp [spec_l1Reach.l1] at h⟩
 | k + 1 => by
  obtain ⟨ih0, ih1⟩ := spec_l1Reach.mono_l k
  refine ⟨?_, ?_⟩
  ·intro y0 y1 y2 y3 y4
   unfold spec_l1Reach.l0
   repeat' first
   | (with_reducible exact ih0 _ _ _ _ _)
   | (with_reducible exact ih1 _ _ _ _ _ _)
   | (with_reducible exact LeO.refl _)
   | (with_reducible exact LeO.none _)
   | (with_reducible refine LeO.ite ?_ ?_)
   | (with_reducible refine LeO.bind ?_ (fun _ => ?_))
   | exact ih0 _ _ _ _ _
   | exact ih1 _ _ _ _ _ _
   | exact LeO.none _
   | refine LeO.ite ?_ ?_
   | refine LeO.bind ?_ (fun _ => ?_)
  ·intro y0 y1 y2 y3 y4 y5
   unfold spec_l1Reach.l1
   repeat' first
   | (with_reducible exact ih0 _ _ _ _ _)
   | (with_reducible exact ih1 _ _ _ _ _ _)
   | (with_reducible exact LeO.refl _)
   | (with_reducible exact LeO.none _)
   | (with_reducible refine LeO.ite ?_ ?_)
   | (with_reducible refine LeO.bind ?_ (fun _ => ?_))
   | exact ih0 _ _ _ _ _
   | exact ih1 _ _ _ _ _ _
   | exact LeO.none _
   | refine LeO.ite ?_ ?_
   | refine LeO.bind ?_ (fun _ => ?_)
theorem spec_l1Reach.mono : ∀ a0 a1 a2 a3 k, LeO (spec_l1Reach.f k a0 a1 a2 a3) (spec_l1Reach.f (k + 1) a0 a1 a2 a3) := by
 intro a0 a1 a2 a3 k; obtain ⟨ih0, ih1⟩ := spec_l1Reach.mono_l k
 unfold spec_l1Reach.f
 repeat' first
   | (with_reducible exact ih0 _ _ _ _ _)
   | (with_reducible exact ih1 _ _ _ _ _ _)
   | (with_reducible exact LeO.refl _)
   | (with_reducible exact LeO.none _)
   | (with_reducible refine LeO.ite ?_ ?_)
   | (with_reducible refine LeO.bind ?_ (fun _ => ?_))
   | exact ih0 _ _ _ _ _
   | exact ih1 _ _ _ _ _ _
   | exact LeO.none _
   | refine LeO.ite ?_ ?_
   | refine LeO.bind ?_ (fun _ => ?_)
set_option maxHeartbeats 8000000 in
set_option maxRecDepth 100000 in
theorem spec_l1Reach.calls (k : Nat) (a0_0 : Int) (A0_1 : Option Addr) (c0_1 : Nat) (l0_1 : List (S44)) (a1 : Int) (a2 : Int) (r : Int) (w : World) (hr0_1 : Kd.C k44 w A0_1 l0_1.length l0_1) (hc0_1 : l0_1.length ≤ c0_1) (h : spec_l1Reach.f k a0_0 l0_1 a1 a2 = some r) :
  Calls Try.prog 130 #[.agg #[.int .i64 a0_0, .slice A0_1 l0_1.length c0_1], .int .i64 a1, .int .i64 a2] w fun e w' => e = .returned (.int .i64 r) ∧ Below w.heap.size w w' := by
 have hu30 := Try.underlying30; have HR0_1 := Aside0.mk hr0_1; have HC0_1 := Aside0.mk hc0_1; clear hr0_1 hc0_1; have HB := Aside0.mk (Below.refl w.heap.size w); have H : (spec_l1Reach.l0 k a1 a2 0 a0_0 l0_1) = some r := h; clear h; have H' := Aside0.mk H; clear H
 go_enter Try.func130, Try.ntmps130
 go_wp2_with (first | ((with_reducible refine gate_dst (N := 3) rfl ?_); refine box_event ?hg (N := 3) ?hd (cs := #[.int .i64 a0_0, .slice A0_1 l0_1.length c0_1]) (t := 30) ?hr ?_; (case hd => rfl); (case hg => rfl); (case hr => first | (go_simp; done) | (go_simp; rfl)); intro gb695 hg w4 hbox hb; have n0_ := Aside0.mk (below_step (viaW HB.out) hb); have n1_ := Aside0.mk (hbox); have n2_ := Aside0.mk ((by rw [hg]; exact (below_size (viaW HB.out)) : w.heap.size ≤ gb695)); have n3_ := Aside0.mk ((by rw [hg]; exact (below_size (viaW HB.out)) : w.heap.size ≤ gb695)); clear HB; have HB := n0_; have BK695 := n1_; have GW695 := n2_; have GE695 := n3_; clear n0_ n1_ n2_ n3_; clear hb hbox hg))
 go_loopg [2, 7] k (fun kq v2 v7 w' => ∃ (x2_1 : Int) (x7_1 : Int), v2 = .int .i64 x2_1 ∧ v7 = .int .i64 x7_1 ∧ Aside0 (spec_l1Reach.l0 kq a1 x2_1 x7_1 a0_0 l0_1 = some r) ∧ Aside0 (kq ≤ k) ∧ Aside0 (w'.heap[gb695]? = some (.cells #[.int .i64 a0_0, (.slice A0_1 l0_1.length c0_1)] 30 (0, 0))) ∧ Aside0 (Below w.heap.size w w'))
 case atStart => exact ⟨(a2), (0), (by first | rfl | (simp; done) | (simp [*]; done)), (by first | rfl | (simp; done) | (simp [*]; done)), H', ⟨Nat.le_refl _⟩, ⟨viaB BK695.out⟩, ⟨viaX HB.out GE695.out⟩⟩
 case round =>
  clear H'
  try clear c1
  try clear p2
  obtain ⟨x2_1, x7_1, rfl, rfl, HA, HK1, BK695, HB⟩ := hrel
  cases gk with
  | zero => exact absurd HA.out (by simp [spec_l1Reach.l0])
  | succ k1 =>
   have H := HA.out; clear HA
   simp only [spec_l1Reach.l0] at H
   by_cases c5 : x7_1 < a0_0
   ·rw [if_pos c5] at H
    have c5b0 : decide (x7_1 < a0_0) = true := decide_eq_true c5; clear c5; have H' := Aside0.mk H; clear H; have hcz6_0 : wr.cell? ⟨gb695, 0, none⟩ = some (.int .i64 a0_0) := (blk_cell BK695.out 0).trans rfl; have hcz6_1 : wr.cell? ⟨gb695, 1, none⟩ = some (.slice A0_1 l0_1.length c0_1) := (blk_cell BK695.out 1).trans rfl; have hfz6_0 := blk_frozen BK695.out 0; have hfz6_1 := blk_frozen BK695.out 1
    go_wp2
    go_loopg [2, 8] k1 (fun kq v2 v8 w' => ∃ (x2_2 : Int) (x8_2 : Int), v2 = .int .i64 x2_2 ∧ v8 = .int .i64 x8_2 ∧ Aside0 (spec_l1Reach.l1 kq a1 x2_2 x7_1 x8_2 a0_0 l0_1 = some r) ∧ Aside0 (kq ≤ k1) ∧ Aside0 (w'.heap[gb695]? = some (.cells #[.int .i64 a0_0, (.slice A0_1 l0_1.length c0_1)] 30 (0, 0))) ∧ Aside0 (Below w.heap.size w w'))
    case atStart => exact ⟨(x2_1), (0), (by first | rfl | (simp; done) | (simp [*]; done)), (by first | rfl | (simp; done) | (simp [*]; done)), H', ⟨Nat.le_refl _⟩, ⟨viaB BK695.out⟩, ⟨viaX HB.out GE695.out⟩⟩
    case round =>
     clear H'
     try clear c1
     try clear p2
     try clear c5
     try clear c5b0
     try clear hcz6_0
     try clear hcz6_1
     try clear hfz6_0
     try clear hfz6_1
     try clear p2
     obtain ⟨x2_2, x8_2, rfl, rfl, HA, HK2, BK695, HB⟩ := hrel
     cases gk with
     | zero => exact absurd HA.out (by simp [spec_l1Reach.l1])
     | succ k2 =>
      have H := HA.out; clear HA
      simp only [spec_l1Reach.l1] at H
      by_cases c7 : x8_2 < (l0_1.length : Int)
      ·rw [if_pos c7] at H
       have c7b0 : decide (x8_2 < (l0_1.length : Int)) = true := decide_eq_true c7; clear c7; replace H := Option.bind_eq_some_iff.mp H; obtain ⟨⟨t696, t697⟩, A80, H⟩ := H; replace H : (if 0 ≤ t696 then (if (Go.bits .and .i64 (shr .i64 x2_2 t696) 1) = 1 then (if 0 ≤ t697 then (spec_l1Reach.l1 k2 a1 (Go.bits .or .i64 x2_2 (shl .i64 1 t697)) x7_1 (wrap64 (x8_2 + 1)) a0_0 l0_1) else (none)) else (spec_l1Reach.l1 k2 a1 x2_2 x7_1 (wrap64 (x8_2 + 1)) a0_0 l0_1)) else (none)) = some r := H; have A8 := Aside0.mk A80; clear A80
       by_cases c9 : 0 ≤ t696
       ·rw [if_pos c9] at H
        have c9b0 := eq_true c9; have c9b1 : decide (0 ≤ t696) = true := decide_eq_true c9; clear c9; obtain ⟨ji10, hji10⟩ : ∃ j_ : Int, (shr .i64 x2_2 t696) = j_ := ⟨_, rfl⟩; replace H : (if (Go.bits .and .i64 (ji10) 1) = 1 then (if 0 ≤ t697 then (spec_l1Reach.l1 k2 a1 (Go.bits .or .i64 x2_2 (shl .i64 1 t697)) x7_1 (wrap64 (x8_2 + 1)) a0_0 l0_1) else (none)) else (spec_l1Reach.l1 k2 a1 x2_2 x7_1 (wrap64 (x8_2 + 1)) a0_0 l0_1)) = some r := by first | (rw [hji10] at H; exact H) | (simp only [hji10] at H ⊢; exact H)
        (try rw [hji10] at A8)
        have hji10_ : (x2_2 / 2 ^ min t696.toNat 64) = ji10 := hji10; have hji10z : t696 ≤ 64 → (x2_2 / 2 ^ t696.toNat) = ji10 := shr_small hji10
        by_cases c11 : (Go.bits .and .i64 (ji10) 1) = 1
        ·rw [if_pos c11] at H
         have c11b0 : ((Go.bits .and .i64 (ji10) 1) == 1) = true := beq_iff_eq.mpr c11; have c11b1 : ((Go.bits .and .i64 (ji10) 1) != 1) = false := bne_eq_false_iff_eq.mpr c11; clear c11
         by_cases c12 : 0 ≤ t697
         ·rw [if_pos c12] at H
          have c12b0 := eq_true c12; have c12b1 : decide (0 ≤ t697) = true := decide_eq_true c12; clear c12; obtain ⟨ji13, hji13⟩ : ∃ j_ : Int, (shl .i64 1 t697) = j_ := ⟨_, rfl⟩; replace H : (spec_l1Reach.l1 k2 a1 (Go.bits .or .i64 x2_2 (ji13)) x7_1 (wrap64 (x8_2 + 1)) a0_0 l0_1) = some r := by first | (rw [hji13] at H; exact H) | (simp only [hji13] at H ⊢; exact H)
          (try rw [hji13] at A8)
          have hji13_ : (IntKind.i64.wrap (1 * 2 ^ min t697.toNat 64)) = ji13 := hji13; have hji13z : t697 ≤ 64 → (IntKind.i64.wrap (1 * 2 ^ t697.toNat)) = ji13 := shl_small hji13; have hji13u : (IntKind.i64.wrap (2 ^ min t697.toNat 64)) = ji13 := by have h_ := hji13_; rw [Int.one_mul] at h_; exact h_
          have hji13v : t697 ≤ 64 → (IntKind.i64.wrap (2 ^ t697.toNat)) = ji13 := fun hle_ => by have h_ := hji13z hle_; rw [Int.one_mul] at h_; exact h_
          have hji13y : (wrap64 (1 * 2 ^ min t697.toNat 64)) = ji13 := (i64_w _).symm.trans hji13_; have hji13x : t697 ≤ 64 → (wrap64 (1 * 2 ^ t697.toNat)) = ji13 := fun h_ => (i64_w _).symm.trans (hji13z h_); have H' := Aside0.mk H; clear H; have hcz14_0 : wr.cell? ⟨gb695, 0, none⟩ = some (.int .i64 a0_0) := (blk_cell BK695.out 0).trans rfl; have hcz14_1 : wr.cell? ⟨gb695, 1, none⟩ = some (.slice A0_1 l0_1.length c0_1) := (blk_cell BK695.out 1).trans rfl; have hfz14_0 := blk_frozen BK695.out 0; have hfz14_1 := blk_frozen BK695.out 1
          go_wp2_with (first | ((with_reducible refine gate_callee (f := 86) rfl ?_); refine goesL_ (some 28) rfl rfl Try.func86 (by kernel_rfl) rfl #[.agg #[.int .i64 a0_0, .slice A0_1 l0_1.length c0_1], .int .i64 a1, .int .i64 x8_2] rfl (by (try simp only [List.map_toArray, List.map_cons, List.map_nil]); first | done | rfl | (simp only [List.length_drop, List.length_take]; rfl)) ?_; (with_reducible refine (spec_l1Ends.calls a0_0 _ _ l0_1 a1 x8_2 t696 t697 _ ?side1 ?side2 A8.out).mono ?_); (case side1 => repeat (first | exact (Kd.C_below HR0_1.out HB.out) | (with_reducible refine Kd.C_alloc ?_ _) | (with_reducible refine Kd.C_drewN ?_ _) | (with_reducible refine Kd.C_drew ?_))); (case side2 => exact HC0_1.out); rintro e w15 ⟨rfl, hb⟩; refine ⟨_, rfl, ?_⟩; have n0_ := Aside0.mk (blk_below (g := gb695) (o := .cells #[.int .i64 a0_0, .slice A0_1 l0_1.length c0_1] 30 (0, 0)) (viaB BK695.out) hb); have n1_ := Aside0.mk (below_step (viaX HB.out GE695.out) hb); clear BK695; clear HB; have BK695 := n0_; have HB := n1_; clear n0_ n1_; (try clear hb); (try clear hb2); (try clear hk); (try clear hi)))
          go_roundg k2
          case measure => have := HK1.out; have := HK2.out; omega
          case rel => exact ⟨(Go.bits .or .i64 x2_2 (ji13)), (wrap64 (x8_2 + 1)), (by first | rfl | (simp; done) | (simp only [← hji13] <;> (first | rfl | simp)) | (simp [*]; done)), (by first | rfl | (simp; done) | (simp [*]; done)), H', ⟨by have := HK1.out; have := HK2.out; omega⟩, ⟨viaB BK695.out⟩, ⟨viaX HB.out GE695.out⟩⟩
         ·rw [if_neg c12] at H
          exact absurd H (by simp)
        ·rw [if_neg c11] at H
         have c11b0 : ((Go.bits .and .i64 (ji10) 1) == 1) = false := beq_eq_false_iff_ne.mpr c11; have c11b1 : ((Go.bits .and .i64 (ji10) 1) != 1) = true := bne_iff_ne.mpr c11; have H' := Aside0.mk H; clear H; have hcz16_0 : wr.cell? ⟨gb695, 0, none⟩ = some (.int .i64 a0_0) := (blk_cell BK695.out 0).trans rfl; have hcz16_1 : wr.cell? ⟨gb695, 1, none⟩ = some (.slice A0_1 l0_1.length c0_1) := (blk_cell BK695.out 1).trans rfl; have hfz16_0 := blk_frozen BK695.out 0; have hfz16_1 := blk_frozen BK695.out 1
         go_wp2_with (first | ((with_reducible refine gate_callee (f := 86) rfl ?_); refine goesL_ (some 28) rfl rfl Try.func86 (by kernel_rfl) rfl #[.agg #[.int .i64 a0_0, .slice A0_1 l0_1.length c0_1], .int .i64 a1, .int .i64 x8_2] rfl (by (try simp only [List.map_toArray, List.map_cons, List.map_nil]); first | done | rfl | (simp only [List.length_drop, List.length_take]; rfl)) ?_; (with_reducible refine (spec_l1Ends.calls a0_0 _ _ l0_1 a1 x8_2 t696 t697 _ ?side1 ?side2 A8.out).mono ?_); (case side1 => repeat (first | exact (Kd.C_below HR0_1.out HB.out) | (with_reducible refine Kd.C_alloc ?_ _) | (with_reducible refine Kd.C_drewN ?_ _) | (with_reducible refine Kd.C_drew ?_))); (case side2 => exact HC0_1.out); rintro e w17 ⟨rfl, hb⟩; refine ⟨_, rfl, ?_⟩; have n0_ := Aside0.mk (blk_below (g := gb695) (o := .cells #[.int .i64 a0_0, .slice A0_1 l0_1.length c0_1] 30 (0, 0)) (viaB BK695.out) hb); have n1_ := Aside0.mk (below_step (viaX HB.out GE695.out) hb); clear BK695; clear HB; have BK695 := n0_; have HB := n1_; clear n0_ n1_; (try clear hb); (try clear hb2); (try clear hk); (try clear hi)))
         go_roundg k2
         case measure => have := HK1.out; have := HK2.out; omega
         case rel => exact ⟨(x2_2), (wrap64 (x8_2 + 1)), (by first | rfl | (simp; done) | (simp [*]; done)), (by first | rfl | (simp; done) | (simp [*]; done)), H', ⟨by have := HK1.out; have := HK2.out; omega⟩, ⟨viaB BK695.out⟩, ⟨viaX HB.out GE695.out⟩⟩
       ·rw [if_neg c9] at H
        exact absurd H (by simp)
      ·rw [if_neg c7] at H
       have c7b0 : decide (x8_2 < (l0_1.length : Int)) = false := decide_eq_false c7; clear c7; have H' := Aside0.mk H; clear H; have hcz18_0 : wr.cell? ⟨gb695, 0, none⟩ = some (.int .i64 a0_0) := (blk_cell BK695.out 0).trans rfl; have hcz18_1 : wr.cell? ⟨gb695, 1, none⟩ = some (.slice A0_1 l0_1.length c0_1) := (blk_cell BK695.out 1).trans rfl; have hfz18_0 := blk_frozen BK695.out 0; have hfz18_1 := blk_frozen BK695.out 1
       go_wp2
       go_roundg k2
       case measure => have := HK1.out; have := HK2.out; omega
       case rel => exact ⟨(x2_2), (wrap64 (x7_1 + 1)), (by first | rfl | (simp; done) | (simp [*]; done)), (by first | rfl | (simp; done) | (simp [*]; done)), H', ⟨by have := HK1.out; have := HK2.out; omega⟩, ⟨viaB BK695.out⟩, ⟨viaX HB.out GE695.out⟩⟩
   ·rw [if_neg c5] at H
    have c5b0 : decide (x7_1 < a0_0) = false := decide_eq_false c5; clear c5; obtain rfl := Option.some.inj H; have hcz19_0 : wr.cell? ⟨gb695, 0, none⟩ = some (.int .i64 a0_0) := (blk_cell BK695.out 0).trans rfl; have hcz19_1 : wr.cell? ⟨gb695, 1, none⟩ = some (.slice A0_1 l0_1.length c0_1) := (blk_cell BK695.out 1).trans rfl; have hfz19_0 := blk_frozen BK695.out 0; have hfz19_1 := blk_frozen BK695.out 1
    go_wp2
    go_ret
    exact ⟨by first | rfl | (simp [errW_none, errW_some] <;> rfl) | (simp [*, errW_none, errW_some] <;> rfl), viaX HB.out GE695.out⟩

/-! ### spec_l3Block: function 122 -/
def spec_l3Block.f (k : Nat) (a0_0 : Int) (l0_1 : List (S44)) (a1 : Int) (a2 : Int) : Option (Int) := if 0 ≤ a2 then ((spec_l1Reach.f k a0_0 l0_1 a1 (shl .i64 1 a2)).bind fun t699 => ((spec_l1All.f a0_0 l0_1).bind fun t700 => ((spec_l1Reach.f k a0_0 l0_1 (wrap64 (t700 - a1)) (shl .i64 1 a2)).bind fun t701 => (some (Go.bits .and .i64 t699 t701))))) else (none)
theorem spec_l3Block.mono : ∀ a0 a1 a2 a3 k, LeO (spec_l3Block.f k a0 a1 a2 a3) (spec_l3Block.f (k + 1) a0 a1 a2 a3) := by
 intro a0 a1 a2 a3 k
 unfold spec_l3Block.f
 repeat' first
   | (with_reducible exact spec_l1Reach.mono _ _ _ _ _)
   | (with_reducible exact LeO.refl _)
   | (with_reducible exact LeO.none _)
   | (with_reducible refine LeO.ite ?_ ?_)
   | (with_reducible refine LeO.bind ?_ (fun _ => ?_))
   | exact spec_l1Reach.mono _ _ _ _ _
   | exact LeO.none _
   | refine LeO.ite ?_ ?_
   | refine LeO.bind ?_ (fun _ => ?_)
def spec_l3Block.T1 : Bool × List (List Nat × List Nat) := (true, [([], []), ([], []), ([], []), ([2], [2]), ([0, 1, 3], [0, 1, 3]), ([], []), ([], []), ([6, 4], [6]), ([], []), ([7, 8], [7, 8]), ([], []), ([10], [10]), ([5, 9, 11, 7], [5, 9, 11]), ([4, 12], [4, 12]), ([13, 12, 0, 1, 2, 3, 4, 5, 6, 7, 8, 9, 10, 11, 12, 13], [13])])
def spec_l3Block.B1 : List Nat := [0, 0, 0, 4, 15, 0, 0, 95, 0, 479, 0, 1024, 4095, 8191, 16383]
theorem spec_l3Block.tab1 : rtab .any (opsOf Try.f122 1) = spec_l3Block.T1 := by kernel_rfl
theorem spec_l3Block.bits1 : waitsOk spec_l3Block.T1.2 spec_l3Block.B1 = true := by kernel_rfl
set_option maxHeartbeats 8000000 in
set_option maxRecDepth 100000 in
theorem spec_l3Block.calls (k : Nat) (a0_0 : Int) (A0_1 : Option Addr) (c0_1 : Nat) (l0_1 : List (S44)) (a1 : Int) (a2 : Int) (r : Int) (w : World) (hr0_1 : Kd.C k44 w A0_1 l0_1.length l0_1) (hc0_1 : l0_1.length ≤ c0_1) (h : spec_l3Block.f k a0_0 l0_1 a1 a2 = some r) :
  Calls Try.prog 122 #[.agg #[.int .i64 a0_0, .slice A0_1 l0_1.length c0_1], .int .i64 a1, .int .i64 a2] w fun e w' => e = .returned (.int .i64 r) ∧ Below w.heap.size w w' := by
 have hu30 := Try.underlying30; have HR0_1 := Aside0.mk hr0_1; have HC0_1 := Aside0.mk hc0_1; clear hr0_1 hc0_1; have HB := Aside0.mk (Below.refl w.heap.size w); have H : (if 0 ≤ a2 then ((spec_l1Reach.f k a0_0 l0_1 a1 (shl .i64 1 a2)).bind fun t699 => ((spec_l1All.f a0_0 l0_1).bind fun t700 => ((spec_l1Reach.f k a0_0 l0_1 (wrap64 (t700 - a1)) (shl .i64 1 a2)).bind fun t701 => (some (Go.bits .and .i64 t699 t701))))) else (none)) = some r := h; clear h
 by_cases c4 : 0 ≤ a2
 ·rw [if_pos c4] at H
  have c4b0 := eq_true c4; have c4b1 : decide (0 ≤ a2) = true := decide_eq_true c4; clear c4; obtain ⟨ji5, hji5⟩ : ∃ j_ : Int, (shl .i64 1 a2) = j_ := ⟨_, rfl⟩; replace H : ((spec_l1Reach.f k a0_0 l0_1 a1 (ji5)).bind fun t699 => ((spec_l1All.f a0_0 l0_1).bind fun t700 => ((spec_l1Reach.f k a0_0 l0_1 (wrap64 (t700 - a1)) (ji5)).bind fun t701 => (some (Go.bits .and .i64 t699 t701))))) = some r := by first | (rw [hji5] at H; exact H) | (simp only [hji5] at H ⊢; exact H)
  have hji5_ : (IntKind.i64.wrap (1 * 2 ^ min a2.toNat 64)) = ji5 := hji5; have hji5z : a2 ≤ 64 → (IntKind.i64.wrap (1 * 2 ^ a2.toNat)) = ji5 := shl_small hji5; have hji5u : (IntKind.i64.wrap (2 ^ min a2.toNat 64)) = ji5 := by have h_ := hji5_; rw [Int.one_mul] at h_; exact h_
  have hji5v : a2 ≤ 64 → (IntKind.i64.wrap (2 ^ a2.toNat)) = ji5 := fun hle_ => by have h_ := hji5z hle_; rw [Int.one_mul] at h_; exact h_
  have hji5y : (wrap64 (1 * 2 ^ min a2.toNat 64)) = ji5 := (i64_w _).symm.trans hji5_; have hji5x : a2 ≤ 64 → (wrap64 (1 * 2 ^ a2.toNat)) = ji5 := fun h_ => (i64_w _).symm.trans (hji5z h_); replace H := Option.bind_eq_some_iff.mp H; obtain ⟨t699, A60, H⟩ := H; replace H : ((spec_l1All.f a0_0 l0_1).bind fun t700 => ((spec_l1Reach.f k a0_0 l0_1 (wrap64 (t700 - a1)) (ji5)).bind fun t701 => (some (Go.bits .and .i64 t699 t701)))) = some r := H; have A6 := Aside0.mk A60; clear A60; replace H := Option.bind_eq_some_iff.mp H; obtain ⟨t700, A70, H⟩ := H; replace H : ((spec_l1Reach.f k a0_0 l0_1 (wrap64 (t700 - a1)) (ji5)).bind fun t701 => (some (Go.bits .and .i64 t699 t701))) = some r := H; have A7 := Aside0.mk A70; clear A70; have c8b0 := eq_true (of_decide_eq_true (by first | (with_reducible assumption) | assumption) : 0 ≤ a2); replace H := Option.bind_eq_some_iff.mp H; obtain ⟨t701, A90, H⟩ := H; replace H : (some (Go.bits .and .i64 t699 t701)) = some r := H; have A9 := Aside0.mk A90; clear A90; obtain rfl := Option.some.inj H
  go_enter Try.func122, Try.ntmps122
  try go_wp2_with (first | ((with_reducible refine gate_dst (N := 3) rfl ?_); refine box_event ?hg (N := 3) ?hd (cs := #[.int .i64 a0_0, .slice A0_1 l0_1.length c0_1]) (t := 30) ?hr ?_; (case hd => rfl); (case hg => rfl); (case hr => first | (go_simp; done) | (go_simp; rfl)); intro gb698 hg w10 hbox hb; have n0_ := Aside0.mk (below_step (viaW HB.out) hb); have n1_ := Aside0.mk (hbox); have n2_ := Aside0.mk ((by rw [hg]; exact (below_size (viaW HB.out)) : w.heap.size ≤ gb698)); have n3_ := Aside0.mk ((by rw [hg]; exact (below_size (viaW HB.out)) : w.heap.size ≤ gb698)); clear HB; have HB := n0_; have BK698 := n1_; have GW698 := n2_; have GE698 := n3_; clear n0_ n1_ n2_ n3_; clear hb hbox hg))
  have n0_ := Aside0.mk (blk_drew BK698.out); have n1_ := Aside0.mk (below_drew1 HB.out); clear BK698; clear HB; have BK698 := n0_; have HB := n1_; clear n0_ n1_
  refine start_ (n := 15) (S := fun w' => w'.cell? ⟨gb698, 0, none⟩ = some (.int .i64 a0_0) ∧ w'.cell? ⟨gb698, 1, none⟩ = some (.slice A0_1 l0_1.length c0_1)) (ds := []) #[false, false, false, false, false, false, false, false, false, false, false, false, false, false, false] (by kernel_rfl) rfl rfl ⟨(blk_cell BK698.out 0).trans rfl, (blk_cell BK698.out 1).trans rfl⟩ (fun hHeld => ?_); refine with_tabW spec_l3Block.tab1 spec_l3Block.bits1 (fun HT_ HW_ => ?_)
  generalize w10.drew = w11 at BK698 HB hHeld ⊢
  refine pure_ (i := 1) (N := some 8) (v := ?_) (a' := ?_) #[false, true, false, false, false, false, false, false, false, false, false, false, false, false, false] rfl rfl (any_of HT_.out (by kernel_rfl)) (fun _ _ _ h => h) (Or.inl ⟨by rfl, ?_⟩) ?_ ?_
  rotate_left
  ·intro w'
   go_simp
   with_reducible rfl
  rotate_left
  ·simp only [Act.put, List.setIfInBounds_toArray, List.set_cons_zero, List.set_cons_succ, i64_w, i32_w]
   rfl
  refine pure_ (i := 2) (N := some 9) (v := ?_) (a' := ?_) #[false, true, true, false, false, false, false, false, false, false, false, false, false, false, false] rfl rfl (any_of HT_.out (by kernel_rfl)) (fun _ _ _ h => h) (Or.inl ⟨by rfl, ?_⟩) ?_ ?_
  rotate_left
  ·intro w'
   go_simp
   with_reducible rfl
  rotate_left
  ·simp only [Act.put, List.setIfInBounds_toArray, List.set_cons_zero, List.set_cons_succ, i64_w, i32_w]
   rfl
  refine pure_ (i := 3) (N := some 10) (v := ?_) (a' := ?_) #[false, true, true, true, false, false, false, false, false, false, false, false, false, false, false] rfl rfl (any_of HT_.out (by kernel_rfl)) (fun _ _ _ h => h) (Or.inl ⟨by rfl, ?_⟩) ?_ ?_
  rotate_left
  ·intro w'
   go_simp
   with_reducible rfl
  rotate_left
  ·simp only [Act.put, List.setIfInBounds_toArray, List.set_cons_zero, List.set_cons_succ, i64_w, i32_w]
   rfl
  refine pure_ (i := 8) (N := some 15) (v := ?_) (a' := ?_) #[false, true, true, true, false, false, false, false, true, false, false, false, false, false, false] rfl rfl (any_of HT_.out (by kernel_rfl)) (fun _ _ _ h => h) (Or.inl ⟨by rfl, ?_⟩) ?_ ?_
  rotate_left
  ·intro w'
   go_simp
   with_reducible rfl
  rotate_left
  ·simp only [Act.put, List.setIfInBounds_toArray, List.set_cons_zero, List.set_cons_succ, i64_w, i32_w]
   rfl
  refine pure_ (i := 10) (N := some 17) (v := ?_) (a' := ?_) #[false, true, true, true, false, false, false, false, true, false, true, false, false, false, false] rfl rfl (any_of HT_.out (by kernel_rfl)) (fun _ _ _ h => h) (Or.inl ⟨by rfl, ?_⟩) ?_ ?_
  rotate_left
  ·intro w'
   go_simp
   with_reducible rfl
  rotate_left
  ·simp only [Act.put, List.setIfInBounds_toArray, List.set_cons_zero, List.set_cons_succ, i64_w, i32_w]
   rfl
  refine pure_ (i := 11) (N := some 18) (v := ?_) (a' := ?_) #[false, true, true, true, false, false, false, false, true, false, true, true, false, false, false] rfl rfl (any_of HT_.out (by kernel_rfl)) (fun _ _ _ h => h) (Or.inl ⟨by rfl, ?_⟩) ?_ ?_
  rotate_left
  ·intro w'
   go_simp
   with_reducible rfl
  rotate_left
  ·simp only [Act.put, List.setIfInBounds_toArray, List.set_cons_zero, List.set_cons_succ, i64_w, i32_w]
   rfl
  refine take_ (i := 0) (N := some 7) (v := ?_) (a' := ?_) #[true, true, true, true, false, false, false, false, true, false, true, true, false, false, false] rfl rfl (take_ofW HT_.out HW_.out (by kernel_rfl)) (fun _ _ _ h => h) (Or.inl ⟨by rfl, ?_⟩) hHeld ?_ ?_
  rotate_left
  ·rintro w' ⟨s0, s1⟩
   go_simp
   with_reducible rfl
  rotate_left
  ·simp only [Act.put, List.setIfInBounds_toArray, List.set_cons_zero, List.set_cons_succ, i64_w, i32_w]
   rfl
  refine take_ (i := 5) (N := some 12) (v := ?_) (a' := ?_) #[true, true, true, true, false, true, false, false, true, false, true, true, false, false, false] rfl rfl (take_ofW HT_.out HW_.out (by kernel_rfl)) (fun _ _ _ h => h) (Or.inl ⟨by rfl, ?_⟩) hHeld ?_ ?_
  rotate_left
  ·rintro w' ⟨s0, s1⟩
   go_simp
   with_reducible rfl
  rotate_left
  ·simp only [Act.put, List.setIfInBounds_toArray, List.set_cons_zero, List.set_cons_succ, i64_w, i32_w]
   rfl
  refine take_ (i := 6) (N := some 13) (v := ?_) (a' := ?_) #[true, true, true, true, false, true, true, false, true, false, true, true, false, false, false] rfl rfl (take_ofW HT_.out HW_.out (by kernel_rfl)) (fun _ _ _ h => h) (Or.inl ⟨by rfl, ?_⟩) hHeld ?_ ?_
  rotate_left
  ·rintro w' ⟨s0, s1⟩
   go_simp
   with_reducible rfl
  rotate_left
  ·simp only [Act.put, List.setIfInBounds_toArray, List.set_cons_zero, List.set_cons_succ, i64_w, i32_w]
   rfl
  refine one_ (i := 4) (N := some 11) #[true, true, true, true, true, true, true, false, true, false, true, true, false, false, false] rfl rfl (one_of HT_.out (by kernel_rfl)) (by decide) (fun K hK => ?_)
  refine goes_ Try.func130 (by kernel_rfl) rfl #[.agg #[.int .i64 a0_0, .slice A0_1 l0_1.length c0_1], .int .i64 a1, .int .i64 ji5] (by rfl) rfl rfl (by (try simp only [List.map_toArray, List.map_cons, List.map_nil]); first | done | (simp only [hji5]; rfl) | rfl | (simp only [List.length_drop, List.length_take]; rfl)) ?_
  with_reducible refine (spec_l1Reach.calls k a0_0 _ _ l0_1 a1 ji5 t699 _ ?side1 ?side2 A6.out).mono ?_
  (case side1 => repeat (first | exact (Kd.C_below HR0_1.out HB.out) | (with_reducible refine Kd.C_alloc ?_ _) | (with_reducible refine Kd.C_drewN ?_ _) | (with_reducible refine Kd.C_drew ?_)))
  (case side2 => exact HC0_1.out)
  rintro e w12 ⟨rfl, hb⟩
  refine ⟨_, rfl, ?_⟩
  have n0_ := Aside0.mk (blk_below (g := gb698) (o := .cells #[.int .i64 a0_0, .slice A0_1 l0_1.length c0_1] 30 (0, 0)) (viaB BK698.out) hb); have n1_ := Aside0.mk (below_step (viaX HB.out GE698.out) hb); clear BK698; clear HB; have BK698 := n0_; have HB := n1_; clear n0_ n1_
  (try clear hb)
  (try clear hb2)
  (try clear hk)
  (try clear hi)
  refine hK.out _ _ ⟨(blk_cell BK698.out 0).trans rfl, (blk_cell BK698.out 1).trans rfl⟩ (fun hHeld => ?_)
  clear hK K
  refine norm_ (a' := ?_) ?_ ?_
  rotate_left
  ·show Act.put _ (some 11) _ = _
   simp only [Act.put, List.setIfInBounds_toArray, List.set_cons_zero, List.set_cons_succ, i64_w, i32_w]
   rfl
  refine one_ (i := 7) (N := some 14) #[true, true, true, true, true, true, true, true, true, false, true, true, false, false, false] rfl rfl (one_of HT_.out (by kernel_rfl)) (by decide) (fun K hK => ?_)
  refine goes_ Try.func75 (by kernel_rfl) rfl #[.agg #[.int .i64 a0_0, .slice A0_1 l0_1.length c0_1]] (by rfl) rfl rfl (by (try simp only [List.map_toArray, List.map_cons, List.map_nil]); first | done | rfl | (simp only [List.length_drop, List.length_take]; rfl)) ?_
  with_reducible refine (spec_l1All.calls a0_0 _ _ l0_1 t700 _ ?side1 ?side2 A7.out).mono ?_
  (case side1 => repeat (first | exact (Kd.C_below HR0_1.out HB.out) | (with_reducible refine Kd.C_alloc ?_ _) | (with_reducible refine Kd.C_drewN ?_ _) | (with_reducible refine Kd.C_drew ?_)))
  (case side2 => exact HC0_1.out)
  rintro e w13 ⟨rfl, hb⟩
  refine ⟨_, rfl, ?_⟩
  have n0_ := Aside0.mk (blk_below (g := gb698) (o := .cells #[.int .i64 a0_0, .slice A0_1 l0_1.length c0_1] 30 (0, 0)) (viaB BK698.out) hb); have n1_ := Aside0.mk (below_step (viaX HB.out GE698.out) hb); clear BK698; clear HB; have BK698 := n0_; have HB := n1_; clear n0_ n1_
  (try clear hb)
  (try clear hb2)
  (try clear hk)
  (try clear hi)
  refine hK.out _ _ ⟨(blk_cell BK698.out 0).trans rfl, (blk_cell BK698.out 1).trans rfl⟩ (fun hHeld => ?_)
  clear hK K
  refine norm_ (a' := ?_) ?_ ?_
  rotate_left
  ·show Act.put _ (some 14) _ = _
   simp only [Act.put, List.setIfInBounds_toArray, List.set_cons_zero, List.set_cons_succ, i64_w, i32_w]
   rfl
  refine pure_ (i := 9) (N := some 16) (v := ?_) (a' := ?_) #[true, true, true, true, true, true, true, true, true, true, true, true, false, false, false] rfl rfl (any_of HT_.out (by kernel_rfl)) (fun _ _ _ h => h) (Or.inl ⟨by rfl, ?_⟩) ?_ ?_
  rotate_left
  ·intro w'
   go_simp
   with_reducible rfl
  rotate_left
  ·simp only [Act.put, List.setIfInBounds_toArray, List.set_cons_zero, List.set_cons_succ, i64_w, i32_w]
   rfl
  refine one_ (i := 12) (N := some 19) #[true, true, true, true, true, true, true, true, true, true, true, true, true, false, false] rfl rfl (one_of HT_.out (by kernel_rfl)) (by decide) (fun K hK => ?_)
  refine goes_ Try.func130 (by kernel_rfl) rfl #[.agg #[.int .i64 a0_0, .slice A0_1 l0_1.length c0_1], .int .i64 (wrap64 (t700 - a1)), .int .i64 ji5] (by rfl) rfl rfl (by (try simp only [List.map_toArray, List.map_cons, List.map_nil]); first | done | (simp only [hji5]; rfl) | rfl | (simp only [List.length_drop, List.length_take]; rfl)) ?_
  with_reducible refine (spec_l1Reach.calls k a0_0 _ _ l0_1 (wrap64 (t700 - a1)) ji5 t701 _ ?side1 ?side2 A9.out).mono ?_
  (case side1 => repeat (first | exact (Kd.C_below HR0_1.out HB.out) | (with_reducible refine Kd.C_alloc ?_ _) | (with_reducible refine Kd.C_drewN ?_ _) | (with_reducible refine Kd.C_drew ?_)))
  (case side2 => exact HC0_1.out)
  rintro e w14 ⟨rfl, hb⟩
  refine ⟨_, rfl, ?_⟩
  have n0_ := Aside0.mk (blk_below (g := gb698) (o := .cells #[.int .i64 a0_0, .slice A0_1 l0_1.length c0_1] 30 (0, 0)) (viaB BK698.out) hb); have n1_ := Aside0.mk (below_step (viaX HB.out GE698.out) hb); clear BK698; clear HB; have BK698 := n0_; have HB := n1_; clear n0_ n1_
  (try clear hb)
  (try clear hb2)
  (try clear hk)
  (try clear hi)
  refine hK.out _ _ ⟨(blk_cell BK698.out 0).trans rfl, (blk_cell BK698.out 1).trans rfl⟩ (fun hHeld => ?_)
  clear hK K
  refine norm_ (a' := ?_) ?_ ?_
  rotate_left
  ·show Act.put _ (some 19) _ = _
   simp only [Act.put, List.setIfInBounds_toArray, List.set_cons_zero, List.set_cons_succ, i64_w, i32_w]
   rfl
  refine pure_ (i := 13) (N := some 20) (v := ?_) (a' := ?_) #[true, true, true, true, true, true, true, true, true, true, true, true, true, true, false] rfl rfl (any_of HT_.out (by kernel_rfl)) (fun _ _ _ h => h) (Or.inl ⟨by rfl, ?_⟩) ?_ ?_
  rotate_left
  ·intro w'
   go_simp
   with_reducible rfl
  rotate_left
  ·simp only [Act.put, List.setIfInBounds_toArray, List.set_cons_zero, List.set_cons_succ, i64_w, i32_w]
   rfl
  refine pure_ (i := 14) (N := some 6) (v := ?_) (a' := ?_) #[true, true, true, true, true, true, true, true, true, true, true, true, true, true, true] rfl rfl (any_of HT_.out (by kernel_rfl)) (fun _ _ _ h => h) (Or.inl ⟨by rfl, ?_⟩) ?_ ?_
  rotate_left
  ·intro w'
   go_simp
   with_reducible rfl
  rotate_left
  ·simp only [Act.put, List.setIfInBounds_toArray, List.set_cons_zero, List.set_cons_succ, i64_w, i32_w]
   rfl
  refine done_ (done_of HT_.out (by kernel_rfl)) ?_
  try go_wp2
  go_ret
  exact ⟨by first | rfl | (simp [errW_none, errW_some] <;> rfl) | (simp only [← hji5]; first | rfl | (simp [errW_none, errW_some] <;> rfl)) | (simp [*, errW_none, errW_some] <;> rfl), viaX HB.out GE698.out⟩
 ·rw [if_neg c4] at H
  exact absurd H (by simp)

/-! ### spec_StrongBlocks: function 89 -/
def spec_StrongBlocks.l0 : Nat → Int → List Int → Int → Int → List (S44) → Option (List Int × Bool)
 | 0, _, _, _, _, _ => none
 | k + 1, x1, x6, x7, x703000, x703001 => if x7 < x703000 then ((spec_l3Block.f k x703000 x703001 x1 x7).bind fun t707 => (if 0 ≤ x7 then (if (Go.bits .and .i64 t707 (wrap64 ((shl .i64 1 x7) - 1))) = 0 then (if x6.length < 17592186044416 then (spec_StrongBlocks.l0 k x1 (x6 ++ [t707]) (wrap64 (x7 + 1)) x703000 x703001) else (none)) else (spec_StrongBlocks.l0 k x1 x6 (wrap64 (x7 + 1)) x703000 x703001)) else (none))) else (some (x6, true))
def spec_StrongBlocks.f (k : Nat) (a0_0 : Int) (l0_1 : List (S44)) (a1 : Int) : Option (List Int × Bool) := (some (([] : List Int) : List Int)).bind fun y703 => ((spec_WayIn.f k a0_0 l0_1 a1).bind fun t706 => (if t706 = true then (spec_StrongBlocks.l0 k a1 y703 0 a0_0 l0_1) else (some (y703, false))))
theorem spec_StrongBlocks.mono_l : ∀ k, (∀ y0 y1 y2 y3 y4, LeO (spec_StrongBlocks.l0 k y0 y1 y2 y3 y4) (spec_StrongBlocks.l0 (k + 1) y0 y1 y2 y3 y4))
 | 0 => fun _ _ _ _ _ r h => by simp [spec_StrongBlocks.l0] at h
 | k + 1 => by
  have ih0 := spec_StrongBlocks.mono_l k
  ·intro y0 y1 y2 y3 y4
   unfold spec_StrongBlocks.l0
   repeat' first
   | (with_reducible exact ih0 _ _ _ _ _)
   | (with_reducible exact spec_WayIn.mono _ _ _ _)
   | (with_reducible exact spec_l3Block.mono _ _ _ _ _)
   | (with_reducible exact LeO.refl _)
   | (with_reducible exact LeO.none _)
   | (with_reducible refine LeO.ite ?_ ?_)
   | (with_reducible refine LeO.bind ?_ (fun _ => ?_))
   | exact ih0 _ _ _ _ _
   | exact spec_WayIn.mono _ _ _ _
   | exact spec_l3Block.mono _ _ _ _ _
   | exact LeO.none _
   | refine LeO.ite ?_ ?_
   | refine LeO.bind ?_ (fun _ => ?_)
theorem spec_StrongBlocks.mono : ∀ a0 a1 a2 k, LeO (spec_StrongBlocks.f k a0 a1 a2) (spec_StrongBlocks.f (k + 1) a0 a1 a2) := by
 intro a0 a1 a2 k; have ih0 := spec_StrongBlocks.mono_l k
 unfold spec_StrongBlocks.f
 repeat' first
   | (with_reducible exact ih0 _ _ _ _ _)
   | (with_reducible exact spec_WayIn.mono _ _ _ _)
   | (with_reducible exact spec_l3Block.mono _ _ _ _ _)
   | (with_reducible exact LeO.refl _)
   | (with_reducible exact LeO.none _)
   | (with_reducible refine LeO.ite ?_ ?_)
   | (with_reducible refine LeO.bind ?_ (fun _ => ?_))
   | exact ih0 _ _ _ _ _
   | exact spec_WayIn.mono _ _ _ _
   | exact spec_l3Block.mono _ _ _ _ _
   | exact LeO.none _
   | refine LeO.ite ?_ ?_
   | refine LeO.bind ?_ (fun _ => ?_)
set_option maxHeartbeats 8000000 in
set_option maxRecDepth 100000 in
theorem spec_StrongBlocks.calls (k : Nat) (a0_0 : Int) (A0_1 : Option Addr) (c0_1 : Nat) (l0_1 : List (S44)) (a1 : Int) (r1 : List Int) (r2 : Bool) (w : World) (hr0_1 : Kd.C k44 w A0_1 l0_1.length l0_1) (hc0_1 : l0_1.length ≤ c0_1) (h : spec_StrongBlocks.f k a0_0 l0_1 a1 = some (r1, r2)) :
  Calls Try.prog 89 #[.agg #[.int .i64 a0_0, .slice A0_1 l0_1.length c0_1], .int .i64 a1] w fun e w' => ∃ v0_ : Value, e = .returned (.tuple #[v0_, .bool r2]) ∧ Kd.R (Kd.int .i64) 3 w' w.heap.size (fun _ => True) v0_ r1 ∧ Below w.heap.size w w' := by
 have hu30 := Try.underlying30; have HR0_1 := Aside0.mk hr0_1; have HC0_1 := Aside0.mk hc0_1; clear hr0_1 hc0_1; have HB := Aside0.mk (Below.refl w.heap.size w); have H : ((some (([] : List Int) : List Int)).bind fun y703 => ((spec_WayIn.f k a0_0 l0_1 a1).bind fun t706 => (if t706 = true then (spec_StrongBlocks.l0 k a1 y703 0 a0_0 l0_1) else (some (y703, false))))) = some (r1, r2) := h; clear h; obtain ⟨y703, hy703⟩ : ∃ y_ : List Int, y_ = (([] : List Int)) := ⟨_, rfl⟩; replace H : ((spec_WayIn.f k a0_0 l0_1 a1).bind fun t706 => (if t706 = true then (spec_StrongBlocks.l0 k a1 y703 0 a0_0 l0_1) else (some (y703, false)))) = some (r1, r2) := by first | (rw [hy703]; with_reducible exact H) | (have H2_ := (Option.bind_some _ _).symm.trans H; rw [hy703]; with_reducible exact H2_) | (have H2_ := (Option.bind_some _ _).symm.trans H; with_reducible exact H2_) | with_reducible exact H | (rw [hy703]; exact H) | exact H
 have Ny703 := Aside0.mk hy703; clear hy703; replace H := Option.bind_eq_some_iff.mp H; obtain ⟨t706, A30, H⟩ := H; replace H : (if t706 = true then (spec_StrongBlocks.l0 k a1 y703 0 a0_0 l0_1) else (some (y703, false))) = some (r1, r2) := H; have A3 := Aside0.mk A30; clear A30
 by_cases c4 : t706 = true
 ·subst c4
  have H1 : (spec_StrongBlocks.l0 k a1 y703 0 a0_0 l0_1) = some (r1, r2) := by rw [if_pos rfl] at H; exact H
  clear H; have H := H1; clear H1; have H' := Aside0.mk H; clear H
  go_enter Try.func89, Try.ntmps89
  go_wp2_with (first | ((with_reducible refine gate_dst (N := 2) rfl ?_); refine box_event ?hg (N := 2) ?hd (cs := #[.int .i64 a0_0, .slice A0_1 l0_1.length c0_1]) (t := 30) ?hr ?_; (case hd => rfl); (case hg => rfl); (case hr => first | (go_simp; done) | (go_simp; rfl)); intro gb702 hg w5 hbox hb; have n0_ := Aside0.mk (below_step (viaW HB.out) hb); have n1_ := Aside0.mk (hbox); have n2_ := Aside0.mk ((by rw [hg]; exact (below_size (viaW HB.out)) : w.heap.size ≤ gb702)); have n3_ := Aside0.mk ((by rw [hg]; exact (below_size (viaW HB.out)) : w.heap.size ≤ gb702)); clear HB; have HB := n0_; have BK702 := n1_; have GW702 := n2_; have GE702 := n3_; clear n0_ n1_ n2_ n3_; clear hb hbox hg) | ((with_reducible refine gate_dst (N := 9) rfl ?_); refine Kd.R_lit (Kd.int .i64) _ 3 ?hg (N := 9) ?hd (xs := ([] : List Int)) (inner := []) (ok := fun _ => True) (okp := fun _ => True) ?hr ?hp (fun _ hk => hk) trivial (Below.refl _ _) (Nat.le_refl _) (by simp) ?_; (case hd => rfl); (case hg => rfl); (case hr => first | (go_simp; done) | (go_simp; rfl)); (case hp => exact (Reps.none _ _)); intro v704 w6 ho7 hb hg_ hnew_; clear hg_ hnew_; (first | rw [← Ny703.out] at ho7 | (simp only [Int.reduceToNat] at ho7; rw [← Ny703.out] at ho7)); have n0_ := Aside0.mk (Kd.R_lower ho7 (below_size (viaX HB.out GE702.out))); have n1_ := Aside0.mk (blk_below (g := gb702) (o := .cells #[.int .i64 a0_0, .slice A0_1 l0_1.length c0_1] 30 (0, 0)) (viaB BK702.out) hb); have n2_ := Aside0.mk (below_step (viaX HB.out GE702.out) hb); clear BK702; clear HB; have HO705 := n0_; have BK702 := n1_; have HB := n2_; clear n0_ n1_ n2_; clear hb ho7; have hcz8_0 : w6.cell? ⟨gb702, 0, none⟩ = some (.int .i64 a0_0) := (blk_cell BK702.out 0).trans rfl; have hcz8_1 : w6.cell? ⟨gb702, 1, none⟩ = some (.slice A0_1 l0_1.length c0_1) := (blk_cell BK702.out 1).trans rfl; have hfz8_0 := blk_frozen BK702.out 0; have hfz8_1 := blk_frozen BK702.out 1) | ((with_reducible refine gate_callee (f := 65) rfl ?_); refine goesL_ (some 12) rfl rfl Try.func65 (by kernel_rfl) rfl #[.agg #[.int .i64 a0_0, .slice A0_1 l0_1.length c0_1], .int .i64 a1] rfl (by (try simp only [List.map_toArray, List.map_cons, List.map_nil]); first | done | rfl | (simp only [List.length_drop, List.length_take]; rfl)) ?_; (with_reducible refine (spec_WayIn.calls k a0_0 _ _ l0_1 a1 true _ ?side1 ?side2 A3.out).mono ?_); (case side1 => repeat (first | exact (Kd.C_below HR0_1.out HB.out) | (with_reducible refine Kd.C_alloc ?_ _) | (with_reducible refine Kd.C_drewN ?_ _) | (with_reducible refine Kd.C_drew ?_))); (case side2 => exact HC0_1.out); rintro e w9 ⟨rfl, hb⟩; refine ⟨_, rfl, ?_⟩; have n0_ := Aside0.mk (Kd.R_below (viaR HO705.out) hb); have n1_ := Aside0.mk (blk_below (g := gb702) (o := .cells #[.int .i64 a0_0, .slice A0_1 l0_1.length c0_1] 30 (0, 0)) (viaB BK702.out) hb); have n2_ := Aside0.mk (below_step (viaX HB.out GE702.out) hb); clear HO705; clear BK702; clear HB; have HO705 := n0_; have BK702 := n1_; have HB := n2_; clear n0_ n1_ n2_; (try clear hb); (try clear hb2); (try clear hk); (try clear hi)))
  go_loopg [6, 7] k (fun kq v6 v7 w' => ∃ (x6_1 : List Int) (x7_1 : Int), v7 = .int .i64 x7_1 ∧ Aside0 (spec_StrongBlocks.l0 kq a1 x6_1 x7_1 a0_0 l0_1 = some (r1, r2)) ∧ Aside0 (kq ≤ k) ∧ Aside0 (Kd.R (Kd.int .i64) 3 w' w.heap.size (fun _ => True) v6 x6_1) ∧ Aside0 (w'.heap[gb702]? = some (.cells #[.int .i64 a0_0, (.slice A0_1 l0_1.length c0_1)] 30 (0, 0))) ∧ Aside0 (Below w.heap.size w w'))
  case atStart => exact ⟨(y703), (0), (by first | rfl | (simp; done) | (simp [*]; done)), H', ⟨Nat.le_refl _⟩, ⟨viaR HO705.out⟩, ⟨viaB BK702.out⟩, ⟨viaX HB.out GE702.out⟩⟩
  case round =>
   clear H'
   try clear p2
   try clear c4
   try clear c6
   try clear c8
   try clear hcz8_0
   try clear hcz8_1
   try clear hfz8_0
   try clear hfz8_1
   obtain ⟨x6_1, x7_1, rfl, HA, HK1, HO_6, BK702, HB⟩ := hrel
   cases gk with
   | zero => exact absurd HA.out (by simp [spec_StrongBlocks.l0])
   | succ k1 =>
    have H := HA.out; clear HA
    simp only [spec_StrongBlocks.l0] at H
    by_cases c10 : x7_1 < a0_0
    ·rw [if_pos c10] at H
     have c10b0 : decide (x7_1 < a0_0) = true := decide_eq_true c10; clear c10; replace H := Option.bind_eq_some_iff.mp H; obtain ⟨t707, A110, H⟩ := H; replace H : (if 0 ≤ x7_1 then (if (Go.bits .and .i64 t707 (wrap64 ((shl .i64 1 x7_1) - 1))) = 0 then (if x6_1.length < 17592186044416 then (spec_StrongBlocks.l0 k1 a1 (x6_1 ++ [t707]) (wrap64 (x7_1 + 1)) a0_0 l0_1) else (none)) else (spec_StrongBlocks.l0 k1 a1 x6_1 (wrap64 (x7_1 + 1)) a0_0 l0_1)) else (none)) = some (r1, r2) := H; have A11 := Aside0.mk A110; clear A110
     by_cases c12 : 0 ≤ x7_1
     ·rw [if_pos c12] at H
      have c12b0 := eq_true c12; have c12b1 : decide (0 ≤ x7_1) = true := decide_eq_true c12; clear c12; obtain ⟨ji13, hji13⟩ : ∃ j_ : Int, (shl .i64 1 x7_1) = j_ := ⟨_, rfl⟩; replace H : (if (Go.bits .and .i64 t707 (wrap64 ((ji13) - 1))) = 0 then (if x6_1.length < 17592186044416 then (spec_StrongBlocks.l0 k1 a1 (x6_1 ++ [t707]) (wrap64 (x7_1 + 1)) a0_0 l0_1) else (none)) else (spec_StrongBlocks.l0 k1 a1 x6_1 (wrap64 (x7_1 + 1)) a0_0 l0_1)) = some (r1, r2) := by first | (rw [hji13] at H; exact H) | (simp only [hji13] at H ⊢; exact H)
      (try rw [hji13] at A11)
      have hji13_ : (IntKind.i64.wrap (1 * 2 ^ min x7_1.toNat 64)) = ji13 := hji13; have hji13z : x7_1 ≤ 64 → (IntKind.i64.wrap (1 * 2 ^ x7_1.toNat)) = ji13 := shl_small hji13; have hji13u : (IntKind.i64.wrap (2 ^ min x7_1.toNat 64)) = ji13 := by have h_ := hji13_; rw [Int.one_mul] at h_; exact h_
      have hji13v : x7_1 ≤ 64 → (IntKind.i64.wrap (2 ^ x7_1.toNat)) = ji13 := fun hle_ => by have h_ := hji13z hle_; rw [Int.one_mul] at h_; exact h_
      have hji13y : (wrap64 (1 * 2 ^ min x7_1.toNat 64)) = ji13 := (i64_w _).symm.trans hji13_; have hji13x : x7_1 ≤ 64 → (wrap64 (1 * 2 ^ x7_1.toNat)) = ji13 := fun h_ => (i64_w _).symm.trans (hji13z h_)
      by_cases c14 : (Go.bits .and .i64 t707 (wrap64 ((ji13) - 1))) = 0
      ·rw [if_pos c14] at H
       have c14b0 : ((Go.bits .and .i64 t707 (wrap64 ((ji13) - 1))) == 0) = true := beq_iff_eq.mpr c14; have c14b1 : ((Go.bits .and .i64 t707 (wrap64 ((ji13) - 1))) != 0) = false := bne_eq_false_iff_eq.mpr c14; clear c14
       by_cases c15 : x6_1.length < 17592186044416
       ·rw [if_pos c15] at H
        have LMc15 := Aside0.mk c15; clear c15; obtain ⟨y708, hy708⟩ : ∃ y_ : List Int, y_ = (x6_1 ++ [t707]) := ⟨_, rfl⟩; replace H : (spec_StrongBlocks.l0 k1 a1 y708 (wrap64 (x7_1 + 1)) a0_0 l0_1) = some (r1, r2) := by first | (rw [hy708]; with_reducible exact H) | (have H2_ := (Option.bind_some _ _).symm.trans H; rw [hy708]; with_reducible exact H2_) | (have H2_ := (Option.bind_some _ _).symm.trans H; with_reducible exact H2_) | with_reducible exact H | (rw [hy708]; exact H) | exact H
        have Ny708 := Aside0.mk hy708; clear hy708; have H' := Aside0.mk H; clear H; have hcz16_0 : wr.cell? ⟨gb702, 0, none⟩ = some (.int .i64 a0_0) := (blk_cell BK702.out 0).trans rfl; have hcz16_1 : wr.cell? ⟨gb702, 1, none⟩ = some (.slice A0_1 l0_1.length c0_1) := (blk_cell BK702.out 1).trans rfl; have hfz16_0 := blk_frozen BK702.out 0; have hfz16_1 := blk_frozen BK702.out 1
        go_wp2_with (first | ((with_reducible refine gate_callee (f := 122) rfl ?_); refine goesL_ (some 24) rfl rfl Try.func122 (by kernel_rfl) rfl #[.agg #[.int .i64 a0_0, .slice A0_1 l0_1.length c0_1], .int .i64 a1, .int .i64 x7_1] rfl (by (try simp only [List.map_toArray, List.map_cons, List.map_nil]); first | done | rfl | (simp only [List.length_drop, List.length_take]; rfl)) ?_; (with_reducible refine (spec_l3Block.calls k1 a0_0 _ _ l0_1 a1 x7_1 t707 _ ?side1 ?side2 A11.out).mono ?_); (case side1 => repeat (first | exact (Kd.C_below HR0_1.out HB.out) | (with_reducible refine Kd.C_alloc ?_ _) | (with_reducible refine Kd.C_drewN ?_ _) | (with_reducible refine Kd.C_drew ?_))); (case side2 => exact HC0_1.out); rintro e w17 ⟨rfl, hb⟩; refine ⟨_, rfl, ?_⟩; have n0_ := Aside0.mk (Kd.R_below (viaR HO_6.out) hb); have n1_ := Aside0.mk (blk_below (g := gb702) (o := .cells #[.int .i64 a0_0, .slice A0_1 l0_1.length c0_1] 30 (0, 0)) (viaB BK702.out) hb); have n2_ := Aside0.mk (below_step (viaX HB.out GE702.out) hb); clear HO_6; clear BK702; clear HB; have HO_6 := n0_; have BK702 := n1_; have HB := n2_; clear n0_ n1_ n2_; (try clear hb); (try clear hb2); (try clear hk); (try clear hi)) | ((with_reducible refine gate_builtin (b := .append) (xs := #[.tmp 31, .tmp 33]) rfl ?_); at_builtin; refine Kd.R_append (Kd.int .i64) (w0 := w) w.heap.size rfl (.tmp 31) (.tmp 33) 39 3 (.int .i64 0) 8 rfl Try.underlying39 info3 rfl (by decide) (by omega) u6 x6_1 t707 [.int .i64 t707] (fun _ => True) (fun _ => False) rfl rfl ?aP (fun _ hk => hk.elim) ?aF ?aO ?aB ?aS ?aL ?_; (case aP => exact rfl); (case aB => exact (viaX HB.out GE702.out)); (case aF => exact (fun _ _ => trivial)); (case aO => exact (viaR HO_6.out)); (case aS => exact (below_size (viaX HB.out GE702.out))); (case aL => have := LMc15.out; omega); intro v709 w18 ho hb hg hat; rw [← Ny708.out] at ho; have n0_ := Aside0.mk (blk_grown (g := gb702) (o := .cells #[.int .i64 a0_0, .slice A0_1 l0_1.length c0_1] 30 (0, 0)) (viaB BK702.out) hg (Kd.R_ne HO_6.out BK702.out (by decide))); have n1_ := Aside0.mk (hb); have n2_ := Aside0.mk (ho); clear BK702; clear HB; clear HO_6; have BK702 := n0_; have HB := n1_; have HO710 := n2_; clear n0_ n1_ n2_; clear ho hb hg hat))
        go_roundg k1
        case measure => have := HK1.out; omega
        case rel => exact ⟨(y708), (wrap64 (x7_1 + 1)), (by first | rfl | (simp; done) | (simp [*]; done)), H', ⟨by have := HK1.out; omega⟩, ⟨viaR HO710.out⟩, ⟨viaB BK702.out⟩, ⟨viaX HB.out GE702.out⟩⟩
       ·rw [if_neg c15] at H
        exact absurd H (by simp)
      ·rw [if_neg c14] at H
       have c14b0 : ((Go.bits .and .i64 t707 (wrap64 ((ji13) - 1))) == 0) = false := beq_eq_false_iff_ne.mpr c14; have c14b1 : ((Go.bits .and .i64 t707 (wrap64 ((ji13) - 1))) != 0) = true := bne_iff_ne.mpr c14; have H' := Aside0.mk H; clear H; have hcz19_0 : wr.cell? ⟨gb702, 0, none⟩ = some (.int .i64 a0_0) := (blk_cell BK702.out 0).trans rfl; have hcz19_1 : wr.cell? ⟨gb702, 1, none⟩ = some (.slice A0_1 l0_1.length c0_1) := (blk_cell BK702.out 1).trans rfl; have hfz19_0 := blk_frozen BK702.out 0; have hfz19_1 := blk_frozen BK702.out 1
       go_wp2_with (first | ((with_reducible refine gate_callee (f := 122) rfl ?_); refine goesL_ (some 24) rfl rfl Try.func122 (by kernel_rfl) rfl #[.agg #[.int .i64 a0_0, .slice A0_1 l0_1.length c0_1], .int .i64 a1, .int .i64 x7_1] rfl (by (try simp only [List.map_toArray, List.map_cons, List.map_nil]); first | done | rfl | (simp only [List.length_drop, List.length_take]; rfl)) ?_; (with_reducible refine (spec_l3Block.calls k1 a0_0 _ _ l0_1 a1 x7_1 t707 _ ?side1 ?side2 A11.out).mono ?_); (case side1 => repeat (first | exact (Kd.C_below HR0_1.out HB.out) | (with_reducible refine Kd.C_alloc ?_ _) | (with_reducible refine Kd.C_drewN ?_ _) | (with_reducible refine Kd.C_drew ?_))); (case side2 => exact HC0_1.out); rintro e w20 ⟨rfl, hb⟩; refine ⟨_, rfl, ?_⟩; have n0_ := Aside0.mk (Kd.R_below (viaR HO_6.out) hb); have n1_ := Aside0.mk (blk_below (g := gb702) (o := .cells #[.int .i64 a0_0, .slice A0_1 l0_1.length c0_1] 30 (0, 0)) (viaB BK702.out) hb); have n2_ := Aside0.mk (below_step (viaX HB.out GE702.out) hb); clear HO_6; clear BK702; clear HB; have HO_6 := n0_; have BK702 := n1_; have HB := n2_; clear n0_ n1_ n2_; (try clear hb); (try clear hb2); (try clear hk); (try clear hi)))
       go_roundg k1
       case measure => have := HK1.out; omega
       case rel => exact ⟨(x6_1), (wrap64 (x7_1 + 1)), (by first | rfl | (simp; done) | (simp [*]; done)), H', ⟨by have := HK1.out; omega⟩, ⟨viaR HO_6.out⟩, ⟨viaB BK702.out⟩, ⟨viaX HB.out GE702.out⟩⟩
     ·rw [if_neg c12] at H
      exact absurd H (by simp)
    ·rw [if_neg c10] at H
     have c10b0 : decide (x7_1 < a0_0) = false := decide_eq_false c10; clear c10
     simp only [Option.some.injEq, Prod.mk.injEq] at H
     obtain ⟨rfl, rfl⟩ := H; have hcz21_0 : wr.cell? ⟨gb702, 0, none⟩ = some (.int .i64 a0_0) := (blk_cell BK702.out 0).trans rfl; have hcz21_1 : wr.cell? ⟨gb702, 1, none⟩ = some (.slice A0_1 l0_1.length c0_1) := (blk_cell BK702.out 1).trans rfl; have hfz21_0 := blk_frozen BK702.out 0; have hfz21_1 := blk_frozen BK702.out 1
     go_wp2
     go_ret2
     exact ⟨_, by first | rfl | (simp [errW_none, errW_some] <;> rfl) | (simp [*, errW_none, errW_some] <;> rfl), viaR HO_6.out, viaX HB.out GE702.out⟩
 ·replace c4 := Bool.eq_false_iff.mpr c4
  subst c4; have H1 : (some (y703, false)) = some (r1, r2) := by rw [if_neg (show ¬ (false = true) by decide)] at H; exact H
  clear H; have H := H1; clear H1
  simp only [Option.some.injEq, Prod.mk.injEq] at H
  obtain ⟨rfl, rfl⟩ := H
  go_enter Try.func89, Try.ntmps89
  go_wp2_with (first | ((with_reducible refine gate_dst (N := 2) rfl ?_); refine box_event ?hg (N := 2) ?hd (cs := #[.int .i64 a0_0, .slice A0_1 l0_1.length c0_1]) (t := 30) ?hr ?_; (case hd => rfl); (case hg => rfl); (case hr => first | (go_simp; done) | (go_simp; rfl)); intro gb702 hg w22 hbox hb; have n0_ := Aside0.mk (below_step (viaW HB.out) hb); have n1_ := Aside0.mk (hbox); have n2_ := Aside0.mk ((by rw [hg]; exact (below_size (viaW HB.out)) : w.heap.size ≤ gb702)); have n3_ := Aside0.mk ((by rw [hg]; exact (below_size (viaW HB.out)) : w.heap.size ≤ gb702)); clear HB; have HB := n0_; have BK702 := n1_; have GW702 := n2_; have GE702 := n3_; clear n0_ n1_ n2_ n3_; clear hb hbox hg) | ((with_reducible refine gate_dst (N := 9) rfl ?_); refine Kd.R_lit (Kd.int .i64) _ 3 ?hg (N := 9) ?hd (xs := ([] : List Int)) (inner := []) (ok := fun _ => True) (okp := fun _ => True) ?hr ?hp (fun _ hk => hk) trivial (Below.refl _ _) (Nat.le_refl _) (by simp) ?_; (case hd => rfl); (case hg => rfl); (case hr => first | (go_simp; done) | (go_simp; rfl)); (case hp => exact (Reps.none _ _)); intro v704 w23 ho24 hb hg_ hnew_; clear hg_ hnew_; (first | rw [← Ny703.out] at ho24 | (simp only [Int.reduceToNat] at ho24; rw [← Ny703.out] at ho24)); have n0_ := Aside0.mk (Kd.R_lower ho24 (below_size (viaX HB.out GE702.out))); have n1_ := Aside0.mk (blk_below (g := gb702) (o := .cells #[.int .i64 a0_0, .slice A0_1 l0_1.length c0_1] 30 (0, 0)) (viaB BK702.out) hb); have n2_ := Aside0.mk (below_step (viaX HB.out GE702.out) hb); clear BK702; clear HB; have HO705 := n0_; have BK702 := n1_; have HB := n2_; clear n0_ n1_ n2_; clear hb ho24; have hcz25_0 : w23.cell? ⟨gb702, 0, none⟩ = some (.int .i64 a0_0) := (blk_cell BK702.out 0).trans rfl; have hcz25_1 : w23.cell? ⟨gb702, 1, none⟩ = some (.slice A0_1 l0_1.length c0_1) := (blk_cell BK702.out 1).trans rfl; have hfz25_0 := blk_frozen BK702.out 0; have hfz25_1 := blk_frozen BK702.out 1) | ((with_reducible refine gate_callee (f := 65) rfl ?_); refine goesL_ (some 12) rfl rfl Try.func65 (by kernel_rfl) rfl #[.agg #[.int .i64 a0_0, .slice A0_1 l0_1.length c0_1], .int .i64 a1] rfl (by (try simp only [List.map_toArray, List.map_cons, List.map_nil]); first | done | rfl | (simp only [List.length_drop, List.length_take]; rfl)) ?_; (with_reducible refine (spec_WayIn.calls k a0_0 _ _ l0_1 a1 false _ ?side1 ?side2 A3.out).mono ?_); (case side1 => repeat (first | exact (Kd.C_below HR0_1.out HB.out) | (with_reducible refine Kd.C_alloc ?_ _) | (with_reducible refine Kd.C_drewN ?_ _) | (with_reducible refine Kd.C_drew ?_))); (case side2 => exact HC0_1.out); rintro e w26 ⟨rfl, hb⟩; refine ⟨_, rfl, ?_⟩; have n0_ := Aside0.mk (Kd.R_below (viaR HO705.out) hb); have n1_ := Aside0.mk (blk_below (g := gb702) (o := .cells #[.int .i64 a0_0, .slice A0_1 l0_1.length c0_1] 30 (0, 0)) (viaB BK702.out) hb); have n2_ := Aside0.mk (below_step (viaX HB.out GE702.out) hb); clear HO705; clear BK702; clear HB; have HO705 := n0_; have BK702 := n1_; have HB := n2_; clear n0_ n1_ n2_; (try clear hb); (try clear hb2); (try clear hk); (try clear hi)))
  go_ret2
  exact ⟨_, by first | rfl | (simp [errW_none, errW_some] <;> rfl) | (simp [*, errW_none, errW_some] <;> rfl), viaR HO705.out, viaX HB.out GE702.out⟩

/-! ### spec_KernelRoots: function 43 -/
mutual
def spec_KernelRoots.l0 : Nat → Int → List Int → Bool → Int → Int → Int → List (S44) → Option (Int × Bool)
 | 0, _, _, _, _, _, _, _ => none
 | k + 1, x1, x6, x7, x8, x9, x712000, x712001 => if x9 < (x6.length : Int) then (spec_KernelRoots.l1 k x1 x6 x7 x8 x9 true 0 x712000 x712001) else (some (x8, x7))
def spec_KernelRoots.l1 : Nat → Int → List Int → Bool → Int → Int → Bool → Int → Int → List (S44) → Option (Int × Bool)
 | 0, _, _, _, _, _, _, _, _, _ => none
 | k + 1, x1, x6, x7, x8, x9, x10, x11, x712000, x712001 => if x11 < (x712001.length : Int) then ((spec_l1Ends.f x712000 x712001 x1 x11).bind fun bt716 => (if 0 ≤ x9 then (if x9 < (x6.length : Int) then (if 0 ≤ bt716.2 then (if (Go.bits .and .i64 (shr .i64 (rd x6 x9) bt716.2) 1) = 1 then (if 0 ≤ bt716.1 then (if (Go.bits .and .i64 (shr .i64 (rd x6 x9) bt716.1) 1) = 0 then (spec_KernelRoots.l1 k x1 x6 x7 x8 x9 false (wrap64 (x11 + 1)) x712000 x712001) else (spec_KernelRoots.l1 k x1 x6 x7 x8 x9 x10 (wrap64 (x11 + 1)) x712000 x712001)) else (none)) else (spec_KernelRoots.l1 k x1 x6 x7 x8 x9 x10 (wrap64 (x11 + 1)) x712000 x712001)) else (none)) else (none)) else (none))) else (if x10 = true then (spec_KernelRoots.l0 k x1 x6 x7 (wrap64 (x8 + 1)) (wrap64 (x9 + 1)) x712000 x712001) else (spec_KernelRoots.l0 k x1 x6 x7 x8 (wrap64 (x9 + 1)) x712000 x712001))
end
def spec_KernelRoots.f (k : Nat) (a0_0 : Int) (l0_1 : List (S44)) (a1 : Int) : Option (Int × Bool) := (spec_StrongBlocks.f k a0_0 l0_1 a1).bind fun bt712 => (spec_KernelRoots.l0 k a1 bt712.1 bt712.2 0 0 a0_0 l0_1)
theorem spec_KernelRoots.mono_l : ∀ k, (∀ y0 y1 y2 y3 y4 y5 y6, LeO (spec_KernelRoots.l0 k y0 y1 y2 y3 y4 y5 y6) (spec_KernelRoots.l0 (k + 1) y0 y1 y2 y3 y4 y5 y6)) ∧ (∀ y0 y1 y2 y3 y4 y5 y6 y7 y8, LeO (spec_KernelRoots.l1 k y0 y1 y2 y3 y4 y5 y6 y7 y8) (spec_KernelRoots.l1 (k + 1) y0 y1 y2 y3 y4 y5 y6 y7 y8))
 | 0 => ⟨fun _ _ _ _ _ _ _ r h => by simp [spec_KernelRoots.l0] at h, fun _ _ _ _ _ _ _ _ _ r h => by simp [spec_KernelRoots.l1] at h⟩
 | k + 1 => by
  obtain ⟨ih0, ih1⟩ := spec_KernelRoots.mono_l k
  refine ⟨?_, ?_⟩
  ·intro y0 y1 y2 y3 y4 y5 y6
   unfold spec_KernelRoots.l0
   repeat' first
   | (with_reducible exact ih0 _ _ _ _ _ _ _)
   | (with_reducible exact ih1 _ _ _ _ _ _ _ _ _)
   | (with_reducible exact spec_StrongBlocks.mono _ _ _ _)
   | (with_reducible exact LeO.refl _)
   | (with_reducible exact LeO.none _)
   | (with_reducible refine LeO.ite ?_ ?_)
   | (with_reducible refine LeO.bind ?_ (fun _ => ?_))
   | exact ih0 _ _ _ _ _ _ _
   | exact ih1 _ _ _ _ _ _ _ _ _
   | exact spec_StrongBlocks.mono _ _ _ _
   | exact LeO.none _
   | refine LeO.ite ?_ ?_
   | refine LeO.bind ?_ (fun _ => ?_)
  ·intro y0 y1 y2 y3 y4 y5 y6 y7 y8
   unfold spec_KernelRoots.l1
   repeat' first
   | (with_reducible exact ih0 _ _ _ _ _ _ _)
   | (with_reducible exact ih1 _ _ _ _ _ _ _ _ _)
   | (with_reducible exact spec_StrongBlocks.mono _ _ _ _)
   | (with_reducible exact LeO.refl _)
   | (with_reducible exact LeO.none _)
   | (with_reducible refine LeO.ite ?_ ?_)
   | (with_reducible refine LeO.bind ?_ (fun _ => ?_))
   | exact ih0 _ _ _ _ _ _ _
   | exact ih1 _ _ _ _ _ _ _ _ _
   | exact spec_StrongBlocks.mono _ _ _ _
   | exact LeO.none _
   | refine LeO.ite ?_ ?_
   | refine LeO.bind ?_ (fun _ => ?_)
theorem spec_KernelRoots.mono : ∀ a0 a1 a2 k, LeO (spec_KernelRoots.f k a0 a1 a2) (spec_KernelRoots.f (k + 1) a0 a1 a2) := by
 intro a0 a1 a2 k; obtain ⟨ih0, ih1⟩ := spec_KernelRoots.mono_l k
 unfold spec_KernelRoots.f
 repeat' first
   | (with_reducible exact ih0 _ _ _ _ _ _ _)
   | (with_reducible exact ih1 _ _ _ _ _ _ _ _ _)
   | (with_reducible exact spec_StrongBlocks.mono _ _ _ _)
   | (with_reducible exact LeO.refl _)
   | (with_reducible exact LeO.none _)
   | (with_reducible refine LeO.ite ?_ ?_)
   | (with_reducible refine LeO.bind ?_ (fun _ => ?_))
   | exact ih0 _ _ _ _ _ _ _
   | exact ih1 _ _ _ _ _ _ _ _ _
   | exact spec_StrongBlocks.mono _ _ _ _
   | exact LeO.none _
   | refine LeO.ite ?_ ?_
   | refine LeO.bind ?_ (fun _ => ?_)
set_option maxHeartbeats 8000000 in
set_option maxRecDepth 100000 in
theorem spec_KernelRoots.calls (k : Nat) (a0_0 : Int) (A0_1 : Option Addr) (c0_1 : Nat) (l0_1 : List (S44)) (a1 : Int) (r1 : Int) (r2 : Bool) (w : World) (hr0_1 : Kd.C k44 w A0_1 l0_1.length l0_1) (hc0_1 : l0_1.length ≤ c0_1) (h : spec_KernelRoots.f k a0_0 l0_1 a1 = some (r1, r2)) :
  Calls Try.prog 43 #[.agg #[.int .i64 a0_0, .slice A0_1 l0_1.length c0_1], .int .i64 a1] w fun e w' => e = .returned (.tuple #[.int .i64 r1, .bool r2]) ∧ Below w.heap.size w w' := by
 have hu30 := Try.underlying30; have HR0_1 := Aside0.mk hr0_1; have HC0_1 := Aside0.mk hc0_1; clear hr0_1 hc0_1; have HB := Aside0.mk (Below.refl w.heap.size w); have H : ((spec_StrongBlocks.f k a0_0 l0_1 a1).bind fun bt712 => (spec_KernelRoots.l0 k a1 bt712.1 bt712.2 0 0 a0_0 l0_1)) = some (r1, r2) := h; clear h; replace H := Option.bind_eq_some_iff.mp H; obtain ⟨⟨t712, t715⟩, A30, H⟩ := H; replace H : (spec_KernelRoots.l0 k a1 t712 t715 0 0 a0_0 l0_1) = some (r1, r2) := H; have A3 := Aside0.mk A30; clear A30; have H' := Aside0.mk H; clear H
 go_enter Try.func43, Try.ntmps43
 go_wp2_with (first | ((with_reducible refine gate_dst (N := 2) rfl ?_); refine box_event ?hg (N := 2) ?hd (cs := #[.int .i64 a0_0, .slice A0_1 l0_1.length c0_1]) (t := 30) ?hr ?_; (case hd => rfl); (case hg => rfl); (case hr => first | (go_simp; done) | (go_simp; rfl)); intro gb711 hg w4 hbox hb; have n0_ := Aside0.mk (below_step (viaW HB.out) hb); have n1_ := Aside0.mk (hbox); have n2_ := Aside0.mk ((by rw [hg]; exact (below_size (viaW HB.out)) : w.heap.size ≤ gb711)); have n3_ := Aside0.mk ((by rw [hg]; exact (below_size (viaW HB.out)) : w.heap.size ≤ gb711)); clear HB; have HB := n0_; have BK711 := n1_; have GW711 := n2_; have GE711 := n3_; clear n0_ n1_ n2_ n3_; clear hb hbox hg; have hcz5_0 : w4.cell? ⟨gb711, 0, none⟩ = some (.int .i64 a0_0) := (blk_cell BK711.out 0).trans rfl; have hcz5_1 : w4.cell? ⟨gb711, 1, none⟩ = some (.slice A0_1 l0_1.length c0_1) := (blk_cell BK711.out 1).trans rfl; have hfz5_0 := blk_frozen BK711.out 0; have hfz5_1 := blk_frozen BK711.out 1) | ((with_reducible refine gate_callee (f := 89) rfl ?_); refine goesL_ (some 17) rfl rfl Try.func89 (by kernel_rfl) rfl #[.agg #[.int .i64 a0_0, .slice A0_1 l0_1.length c0_1], .int .i64 a1] rfl (by (try simp only [List.map_toArray, List.map_cons, List.map_nil]); first | done | rfl | (simp only [List.length_drop, List.length_take]; rfl)) ?_; (with_reducible refine (spec_StrongBlocks.calls k a0_0 _ _ l0_1 a1 t712 t715 _ ?side1 ?side2 A3.out).mono ?_); (case side1 => repeat (first | exact (Kd.C_below HR0_1.out HB.out) | (with_reducible refine Kd.C_alloc ?_ _) | (with_reducible refine Kd.C_drewN ?_ _) | (with_reducible refine Kd.C_drew ?_))); (case side2 => exact HC0_1.out); rintro e w6 ⟨v713, rfl, ho0, hb⟩; refine ⟨_, rfl, ?_⟩; have n0_ := Aside0.mk (Kd.R_lower ho0 (below_size (viaX HB.out GE711.out))); have n1_ := Aside0.mk (blk_below (g := gb711) (o := .cells #[.int .i64 a0_0, .slice A0_1 l0_1.length c0_1] 30 (0, 0)) (viaB BK711.out) hb); have n2_ := Aside0.mk (below_step (viaX HB.out GE711.out) hb); clear BK711; clear HB; have HO714 := n0_; have BK711 := n1_; have HB := n2_; clear n0_ n1_ n2_; (try clear hb); (try clear hb2); (try clear hk); (try clear hi); (try clear ho0)))
 go_loopg [8, 9] k (fun kq v8 v9 w' => ∃ (x8_1 : Int) (x9_1 : Int), v8 = .int .i64 x8_1 ∧ v9 = .int .i64 x9_1 ∧ Aside0 (spec_KernelRoots.l0 kq a1 t712 t715 x8_1 x9_1 a0_0 l0_1 = some (r1, r2)) ∧ Aside0 (kq ≤ k) ∧ Aside0 (Kd.R (Kd.int .i64) 3 w' w.heap.size (fun _ => True) v713 t712) ∧ Aside0 (w'.heap[gb711]? = some (.cells #[.int .i64 a0_0, (.slice A0_1 l0_1.length c0_1)] 30 (0, 0))) ∧ Aside0 (Below w.heap.size w w'))
 case atStart => exact ⟨(0), (0), (by first | rfl | (simp; done) | (simp [*]; done)), (by first | rfl | (simp; done) | (simp [*]; done)), H', ⟨Nat.le_refl _⟩, ⟨viaR HO714.out⟩, ⟨viaB BK711.out⟩, ⟨viaX HB.out GE711.out⟩⟩
 case round =>
  clear H'
  try clear p2
  try clear c4
  try clear hcz5_0
  try clear hcz5_1
  try clear hfz5_0
  try clear hfz5_1
  obtain ⟨x8_1, x9_1, rfl, rfl, HA, HK1, HO_6, BK711, HB⟩ := hrel
  cases gk with
  | zero => exact absurd HA.out (by simp [spec_KernelRoots.l0])
  | succ k1 =>
   have H := HA.out; clear HA
   simp only [spec_KernelRoots.l0] at H
   by_cases c7 : x9_1 < (t712.length : Int)
   ·rw [if_pos c7] at H
    have c7b0 : decide (x9_1 < (t712.length : Int)) = true := decide_eq_true c7; clear c7; have H' := Aside0.mk H; clear H; obtain ⟨Ao8, co8, eo8⟩ := Kd.R_slice HO_6.out; subst eo8
    go_wp2
    go_loopg [10, 11] k1 (fun kq v10 v11 w' => ∃ (x10_2 : Bool) (x11_2 : Int), v10 = .bool x10_2 ∧ v11 = .int .i64 x11_2 ∧ Aside0 (spec_KernelRoots.l1 kq a1 t712 t715 x8_1 x9_1 x10_2 x11_2 a0_0 l0_1 = some (r1, r2)) ∧ Aside0 (kq ≤ k1) ∧ Aside0 (Kd.R (Kd.int .i64) 3 w' w.heap.size (fun _ => True) (.slice Ao8 t712.length co8) t712) ∧ Aside0 (w'.heap[gb711]? = some (.cells #[.int .i64 a0_0, (.slice A0_1 l0_1.length c0_1)] 30 (0, 0))) ∧ Aside0 (Below w.heap.size w w'))
    case atStart => exact ⟨(true), (0), (by first | rfl | (simp; done) | (simp [*]; done)), (by first | rfl | (simp; done) | (simp [*]; done)), H', ⟨Nat.le_refl _⟩, ⟨viaR HO_6.out⟩, ⟨viaB BK711.out⟩, ⟨viaX HB.out GE711.out⟩⟩
    case round =>
     clear H'
     try clear p2
     try clear c4
     try clear c7
     try clear c7b0
     try clear c8
     try clear hcz5_0
     try clear hcz5_1
     try clear hfz5_0
     try clear hfz5_1
     try clear p2
     obtain ⟨x10_2, x11_2, rfl, rfl, HA, HK2, HO_6, BK711, HB⟩ := hrel
     cases gk with
     | zero => exact absurd HA.out (by simp [spec_KernelRoots.l1])
     | succ k2 =>
      have H := HA.out; clear HA
      simp only [spec_KernelRoots.l1] at H
      by_cases c9 : x11_2 < (l0_1.length : Int)
      ·rw [if_pos c9] at H
       have c9b0 : decide (x11_2 < (l0_1.length : Int)) = true := decide_eq_true c9; clear c9; replace H := Option.bind_eq_some_iff.mp H; obtain ⟨⟨t716, t717⟩, A100, H⟩ := H; replace H : (if 0 ≤ x9_1 then (if x9_1 < (t712.length : Int) then (if 0 ≤ t717 then (if (Go.bits .and .i64 (shr .i64 (rd t712 x9_1) t717) 1) = 1 then (if 0 ≤ t716 then (if (Go.bits .and .i64 (shr .i64 (rd t712 x9_1) t716) 1) = 0 then (spec_KernelRoots.l1 k2 a1 t712 t715 x8_1 x9_1 false (wrap64 (x11_2 + 1)) a0_0 l0_1) else (spec_KernelRoots.l1 k2 a1 t712 t715 x8_1 x9_1 x10_2 (wrap64 (x11_2 + 1)) a0_0 l0_1)) else (none)) else (spec_KernelRoots.l1 k2 a1 t712 t715 x8_1 x9_1 x10_2 (wrap64 (x11_2 + 1)) a0_0 l0_1)) else (none)) else (none)) else (none)) = some (r1, r2) := H; have A10 := Aside0.mk A100; clear A100
       by_cases c11 : 0 ≤ x9_1
       ·rw [if_pos c11] at H
        have c11b0 : decide (0 ≤ x9_1) = true := decide_eq_true c11; clear c11
        by_cases c12 : x9_1 < (t712.length : Int)
        ·rw [if_pos c12] at H
         have c12b0 : decide (x9_1 < (t712.length : Int)) = true := decide_eq_true c12; clear c12
         by_cases c13 : 0 ≤ t717
         ·rw [if_pos c13] at H
          have c13b0 := eq_true c13; have c13b1 : decide (0 ≤ t717) = true := decide_eq_true c13; clear c13; obtain ⟨ji14, hji14⟩ : ∃ j_ : Int, (shr .i64 (rd t712 x9_1) t717) = j_ := ⟨_, rfl⟩; replace H : (if (Go.bits .and .i64 (ji14) 1) = 1 then (if 0 ≤ t716 then (if (Go.bits .and .i64 (shr .i64 (rd t712 x9_1) t716) 1) = 0 then (spec_KernelRoots.l1 k2 a1 t712 t715 x8_1 x9_1 false (wrap64 (x11_2 + 1)) a0_0 l0_1) else (spec_KernelRoots.l1 k2 a1 t712 t715 x8_1 x9_1 x10_2 (wrap64 (x11_2 + 1)) a0_0 l0_1)) else (none)) else (spec_KernelRoots.l1 k2 a1 t712 t715 x8_1 x9_1 x10_2 (wrap64 (x11_2 + 1)) a0_0 l0_1)) = some (r1, r2) := by first | (rw [hji14] at H; exact H) | (simp only [hji14] at H ⊢; exact H)
          (try rw [hji14] at A10)
          have hji14_ : ((rd t712 x9_1) / 2 ^ min t717.toNat 64) = ji14 := hji14; have hji14z : t717 ≤ 64 → ((rd t712 x9_1) / 2 ^ t717.toNat) = ji14 := shr_small hji14
          by_cases c15 : (Go.bits .and .i64 (ji14) 1) = 1
          ·rw [if_pos c15] at H
           have c15b0 : ((Go.bits .and .i64 (ji14) 1) == 1) = true := beq_iff_eq.mpr c15; have c15b1 : ((Go.bits .and .i64 (ji14) 1) != 1) = false := bne_eq_false_iff_eq.mpr c15; clear c15
           by_cases c16 : 0 ≤ t716
           ·rw [if_pos c16] at H
            have c16b0 := eq_true c16; have c16b1 : decide (0 ≤ t716) = true := decide_eq_true c16; clear c16; obtain ⟨ji17, hji17⟩ : ∃ j_ : Int, (shr .i64 (rd t712 x9_1) t716) = j_ := ⟨_, rfl⟩; replace H : (if (Go.bits .and .i64 (ji17) 1) = 0 then (spec_KernelRoots.l1 k2 a1 t712 t715 x8_1 x9_1 false (wrap64 (x11_2 + 1)) a0_0 l0_1) else (spec_KernelRoots.l1 k2 a1 t712 t715 x8_1 x9_1 x10_2 (wrap64 (x11_2 + 1)) a0_0 l0_1)) = some (r1, r2) := by first | (rw [hji17] at H; exact H) | (simp only [hji17] at H ⊢; exact H)
            (try rw [hji17] at A10)
            have hji17_ : ((rd t712 x9_1) / 2 ^ min t716.toNat 64) = ji17 := hji17; have hji17z : t716 ≤ 64 → ((rd t712 x9_1) / 2 ^ t716.toNat) = ji17 := shr_small hji17
            by_cases c18 : (Go.bits .and .i64 (ji17) 1) = 0
            ·rw [if_pos c18] at H
             have c18b0 : ((Go.bits .and .i64 (ji17) 1) == 0) = true := beq_iff_eq.mpr c18; have c18b1 : ((Go.bits .and .i64 (ji17) 1) != 0) = false := bne_eq_false_iff_eq.mpr c18; clear c18; have H' := Aside0.mk H; clear H; have hcz19_0 : wr.cell? ⟨gb711, 0, none⟩ = some (.int .i64 a0_0) := (blk_cell BK711.out 0).trans rfl; have hcz19_1 : wr.cell? ⟨gb711, 1, none⟩ = some (.slice A0_1 l0_1.length c0_1) := (blk_cell BK711.out 1).trans rfl; have hfz19_0 := blk_frozen BK711.out 0; have hfz19_1 := blk_frozen BK711.out 1
             go_wp2_with (first | ((with_reducible refine gate_callee (f := 86) rfl ?_); refine goesL_ (some 37) rfl rfl Try.func86 (by kernel_rfl) rfl #[.agg #[.int .i64 a0_0, .slice A0_1 l0_1.length c0_1], .int .i64 a1, .int .i64 x11_2] rfl (by (try simp only [List.map_toArray, List.map_cons, List.map_nil]); first | done | rfl | (simp only [List.length_drop, List.length_take]; rfl)) ?_; (with_reducible refine (spec_l1Ends.calls a0_0 _ _ l0_1 a1 x11_2 t716 t717 _ ?side1 ?side2 A10.out).mono ?_); (case side1 => repeat (first | exact (Kd.C_below HR0_1.out HB.out) | (with_reducible refine Kd.C_alloc ?_ _) | (with_reducible refine Kd.C_drewN ?_ _) | (with_reducible refine Kd.C_drew ?_))); (case side2 => exact HC0_1.out); rintro e w20 ⟨rfl, hb⟩; refine ⟨_, rfl, ?_⟩; have n0_ := Aside0.mk (Kd.R_below (viaR HO_6.out) hb); have n1_ := Aside0.mk (blk_below (g := gb711) (o := .cells #[.int .i64 a0_0, .slice A0_1 l0_1.length c0_1] 30 (0, 0)) (viaB BK711.out) hb); have n2_ := Aside0.mk (below_step (viaX HB.out GE711.out) hb); clear HO_6; clear BK711; clear HB; have HO_6 := n0_; have BK711 := n1_; have HB := n2_; clear n0_ n1_ n2_; (try clear hb); (try clear hb2); (try clear hk); (try clear hi); have p718 : 0 ≤ (x9_1 : Int) := of_decide_eq_true (by first | (with_reducible assumption) | assumption); have q718 : x9_1 < (t712.length : Int) := of_decide_eq_true (by first | (with_reducible assumption) | assumption); obtain ⟨ad718, e718, hx718_0⟩ := Kd.at_int (Kd.R_reads' HO_6.out).2.2 x9_1 p718 q718; cases e718; replace p718 := eq_true p718; replace q718 := eq_true q718; have p719 : 0 ≤ (x9_1 : Int) := of_decide_eq_true (by first | (with_reducible assumption) | assumption); have q719 : x9_1 < (t712.length : Int) := of_decide_eq_true (by first | (with_reducible assumption) | assumption); obtain ⟨ad719, e719, hx719_0⟩ := Kd.at_int (Kd.R_reads' HO_6.out).2.2 x9_1 p719 q719; obtain rfl : ad718 = ad719 := (by injection e719); replace p719 := eq_true p719; replace q719 := eq_true q719))
             go_roundg k2
             case measure => have := HK1.out; have := HK2.out; omega
             case rel => exact ⟨(false), (wrap64 (x11_2 + 1)), (by first | rfl | (simp; done) | (simp [*]; done)), (by first | rfl | (simp; done) | (simp [*]; done)), H', ⟨by have := HK1.out; have := HK2.out; omega⟩, ⟨viaR HO_6.out⟩, ⟨viaB BK711.out⟩, ⟨viaX HB.out GE711.out⟩⟩
            ·rw [if_neg c18] at H
             have c18b0 : ((Go.bits .and .i64 (ji17) 1) == 0) = false := beq_eq_false_iff_ne.mpr c18; have c18b1 : ((Go.bits .and .i64 (ji17) 1) != 0) = true := bne_iff_ne.mpr c18; have H' := Aside0.mk H; clear H; have hcz21_0 : wr.cell? ⟨gb711, 0, none⟩ = some (.int .i64 a0_0) := (blk_cell BK711.out 0).trans rfl; have hcz21_1 : wr.cell? ⟨gb711, 1, none⟩ = some (.slice A0_1 l0_1.length c0_1) := (blk_cell BK711.out 1).trans rfl; have hfz21_0 := blk_frozen BK711.out 0; have hfz21_1 := blk_frozen BK711.out 1
             go_wp2_with (first | ((with_reducible refine gate_callee (f := 86) rfl ?_); refine goesL_ (some 37) rfl rfl Try.func86 (by kernel_rfl) rfl #[.agg #[.int .i64 a0_0, .slice A0_1 l0_1.length c0_1], .int .i64 a1, .int .i64 x11_2] rfl (by (try simp only [List.map_toArray, List.map_cons, List.map_nil]); first | done | rfl | (simp only [List.length_drop, List.length_take]; rfl)) ?_; (with_reducible refine (spec_l1Ends.calls a0_0 _ _ l0_1 a1 x11_2 t716 t717 _ ?side1 ?side2 A10.out).mono ?_); (case side1 => repeat (first | exact (Kd.C_below HR0_1.out HB.out) | (with_reducible refine Kd.C_alloc ?_ _) | (with_reducible refine Kd.C_drewN ?_ _) | (with_reducible refine Kd.C_drew ?_))); (case side2 => exact HC0_1.out); rintro e w22 ⟨rfl, hb⟩; refine ⟨_, rfl, ?_⟩; have n0_ := Aside0.mk (Kd.R_below (viaR HO_6.out) hb); have n1_ := Aside0.mk (blk_below (g := gb711) (o := .cells #[.int .i64 a0_0, .slice A0_1 l0_1.length c0_1] 30 (0, 0)) (viaB BK711.out) hb); have n2_ := Aside0.mk (below_step (viaX HB.out GE711.out) hb); clear HO_6; clear BK711; clear HB; have HO_6 := n0_; have BK711 := n1_; have HB := n2_; clear n0_ n1_ n2_; (try clear hb); (try clear hb2); (try clear hk); (try clear hi); have p718 : 0 ≤ (x9_1 : Int) := of_decide_eq_true (by first | (with_reducible assumption) | assumption); have q718 : x9_1 < (t712.length : Int) := of_decide_eq_true (by first | (with_reducible assumption) | assumption); obtain ⟨ad718, e718, hx718_0⟩ := Kd.at_int (Kd.R_reads' HO_6.out).2.2 x9_1 p718 q718; cases e718; replace p718 := eq_true p718; replace q718 := eq_true q718; have p719 : 0 ≤ (x9_1 : Int) := of_decide_eq_true (by first | (with_reducible assumption) | assumption); have q719 : x9_1 < (t712.length : Int) := of_decide_eq_true (by first | (with_reducible assumption) | assumption); obtain ⟨ad719, e719, hx719_0⟩ := Kd.at_int (Kd.R_reads' HO_6.out).2.2 x9_1 p719 q719; obtain rfl : ad718 = ad719 := (by injection e719); replace p719 := eq_true p719; replace q719 := eq_true q719))
             go_roundg k2
             case measure => have := HK1.out; have := HK2.out; omega
             case rel => exact ⟨(x10_2), (wrap64 (x11_2 + 1)), (by first | rfl | (simp; done) | (simp [*]; done)), (by first | rfl | (simp; done) | (simp [*]; done)), H', ⟨by have := HK1.out; have := HK2.out; omega⟩, ⟨viaR HO_6.out⟩, ⟨viaB BK711.out⟩, ⟨viaX HB.out GE711.out⟩⟩
           ·rw [if_neg c16] at H
            exact absurd H (by simp)
          ·rw [if_neg c15] at H
           have c15b0 : ((Go.bits .and .i64 (ji14) 1) == 1) = false := beq_eq_false_iff_ne.mpr c15; have c15b1 : ((Go.bits .and .i64 (ji14) 1) != 1) = true := bne_iff_ne.mpr c15; have H' := Aside0.mk H; clear H; have hcz23_0 : wr.cell? ⟨gb711, 0, none⟩ = some (.int .i64 a0_0) := (blk_cell BK711.out 0).trans rfl; have hcz23_1 : wr.cell? ⟨gb711, 1, none⟩ = some (.slice A0_1 l0_1.length c0_1) := (blk_cell BK711.out 1).trans rfl; have hfz23_0 := blk_frozen BK711.out 0; have hfz23_1 := blk_frozen BK711.out 1
           go_wp2_with (first | ((with_reducible refine gate_callee (f := 86) rfl ?_); refine goesL_ (some 37) rfl rfl Try.func86 (by kernel_rfl) rfl #[.agg #[.int .i64 a0_0, .slice A0_1 l0_1.length c0_1], .int .i64 a1, .int .i64 x11_2] rfl (by (try simp only [List.map_toArray, List.map_cons, List.map_nil]); first | done | rfl | (simp only [List.length_drop, List.length_take]; rfl)) ?_; (with_reducible refine (spec_l1Ends.calls a0_0 _ _ l0_1 a1 x11_2 t716 t717 _ ?side1 ?side2 A10.out).mono ?_); (case side1 => repeat (first | exact (Kd.C_below HR0_1.out HB.out) | (with_reducible refine Kd.C_alloc ?_ _) | (with_reducible refine Kd.C_drewN ?_ _) | (with_reducible refine Kd.C_drew ?_))); (case side2 => exact HC0_1.out); rintro e w24 ⟨rfl, hb⟩; refine ⟨_, rfl, ?_⟩; have n0_ := Aside0.mk (Kd.R_below (viaR HO_6.out) hb); have n1_ := Aside0.mk (blk_below (g := gb711) (o := .cells #[.int .i64 a0_0, .slice A0_1 l0_1.length c0_1] 30 (0, 0)) (viaB BK711.out) hb); have n2_ := Aside0.mk (below_step (viaX HB.out GE711.out) hb); clear HO_6; clear BK711; clear HB; have HO_6 := n0_; have BK711 := n1_; have HB := n2_; clear n0_ n1_ n2_; (try clear hb); (try clear hb2); (try clear hk); (try clear hi); have p718 : 0 ≤ (x9_1 : Int) := of_decide_eq_true (by first | (with_reducible assumption) | assumption); have q718 : x9_1 < (t712.length : Int) := of_decide_eq_true (by first | (with_reducible assumption) | assumption); obtain ⟨ad718, e718, hx718_0⟩ := Kd.at_int (Kd.R_reads' HO_6.out).2.2 x9_1 p718 q718; cases e718; replace p718 := eq_true p718; replace q718 := eq_true q718))
           go_roundg k2
           case measure => have := HK1.out; have := HK2.out; omega
           case rel => exact ⟨(x10_2), (wrap64 (x11_2 + 1)), (by first | rfl | (simp; done) | (simp [*]; done)), (by first | rfl | (simp; done) | (simp [*]; done)), H', ⟨by have := HK1.out; have := HK2.out; omega⟩, ⟨viaR HO_6.out⟩, ⟨viaB BK711.out⟩, ⟨viaX HB.out GE711.out⟩⟩
         ·rw [if_neg c13] at H
          exact absurd H (by simp)
        ·rw [if_neg c12] at H
         exact absurd H (by simp)
       ·rw [if_neg c11] at H
        exact absurd H (by simp)
      ·rw [if_neg c9] at H
       have c9b0 : decide (x11_2 < (l0_1.length : Int)) = false := decide_eq_false c9; clear c9
       by_cases c25 : x10_2 = true
       ·subst c25
        have H1 : (spec_KernelRoots.l0 k2 a1 t712 t715 (wrap64 (x8_1 + 1)) (wrap64 (x9_1 + 1)) a0_0 l0_1) = some (r1, r2) := by rw [if_pos rfl] at H; exact H
        clear H; have H := H1; clear H1; have H' := Aside0.mk H; clear H; have hcz26_0 : wr.cell? ⟨gb711, 0, none⟩ = some (.int .i64 a0_0) := (blk_cell BK711.out 0).trans rfl; have hcz26_1 : wr.cell? ⟨gb711, 1, none⟩ = some (.slice A0_1 l0_1.length c0_1) := (blk_cell BK711.out 1).trans rfl; have hfz26_0 := blk_frozen BK711.out 0; have hfz26_1 := blk_frozen BK711.out 1
        go_wp2
        go_roundg k2
        case measure => have := HK1.out; have := HK2.out; omega
        case rel => exact ⟨(wrap64 (x8_1 + 1)), (wrap64 (x9_1 + 1)), (by first | rfl | (simp; done) | (simp [*]; done)), (by first | rfl | (simp; done) | (simp [*]; done)), H', ⟨by have := HK1.out; have := HK2.out; omega⟩, ⟨viaR HO_6.out⟩, ⟨viaB BK711.out⟩, ⟨viaX HB.out GE711.out⟩⟩
       ·replace c25 := Bool.eq_false_iff.mpr c25
        subst c25; have H1 : (spec_KernelRoots.l0 k2 a1 t712 t715 x8_1 (wrap64 (x9_1 + 1)) a0_0 l0_1) = some (r1, r2) := by rw [if_neg (show ¬ (false = true) by decide)] at H; exact H
        clear H; have H := H1; clear H1; have H' := Aside0.mk H; clear H; have hcz27_0 : wr.cell? ⟨gb711, 0, none⟩ = some (.int .i64 a0_0) := (blk_cell BK711.out 0).trans rfl; have hcz27_1 : wr.cell? ⟨gb711, 1, none⟩ = some (.slice A0_1 l0_1.length c0_1) := (blk_cell BK711.out 1).trans rfl; have hfz27_0 := blk_frozen BK711.out 0; have hfz27_1 := blk_frozen BK711.out 1
        go_wp2
        go_roundg k2
        case measure => have := HK1.out; have := HK2.out; omega
        case rel => exact ⟨(x8_1), (wrap64 (x9_1 + 1)), (by first | rfl | (simp; done) | (simp [*]; done)), (by first | rfl | (simp; done) | (simp [*]; done)), H', ⟨by have := HK1.out; have := HK2.out; omega⟩, ⟨viaR HO_6.out⟩, ⟨viaB BK711.out⟩, ⟨viaX HB.out GE711.out⟩⟩
   ·rw [if_neg c7] at H
    have c7b0 : decide (x9_1 < (t712.length : Int)) = false := decide_eq_false c7; clear c7
    simp only [Option.some.injEq, Prod.mk.injEq] at H
    obtain ⟨rfl, rfl⟩ := H; obtain ⟨Ao28, co28, eo28⟩ := Kd.R_slice HO_6.out; subst eo28
    go_wp2
    go_ret2
    exact ⟨by first | rfl | (simp [errW_none, errW_some] <;> rfl) | (simp [*, errW_none, errW_some] <;> rfl), viaX HB.out GE711.out⟩

/-! ### impl_blocksOf: function 90 -/
def impl_blocksOf.l0 : Nat → List Int → List Int → List Int → Int → Int → Int → Option (List Int)
 | 0, _, _, _, _, _, _ => none
 | k + 1, x5, x6, x7, x8, x21, x22 => if x22 < x21 then (if 0 ≤ x22 then (if (Go.bits .and .i64 (shr .i64 x8 x22) 1) = 0 then ((impl_reachOf.f k x5 x22).bind fun t731 => ((impl_reachOf.f k x6 x22).bind fun t732 => (if x7.length < 17592186044416 then (impl_blocksOf.l0 k x5 x6 (x7 ++ [Go.bits .and .i64 t731 t732]) (Go.bits .or .i64 x8 (Go.bits .and .i64 t731 t732)) x21 (wrap64 (x22 + 1))) else (none)))) else (impl_blocksOf.l0 k x5 x6 x7 x8 x21 (wrap64 (x22 + 1)))) else (none)) else (some x7)
def impl_blocksOf.f (k : Nat) (a0_0 : Int) (l0_1 : List (S44)) (a1 : Int) : Option (List Int) := (impl_nextOf.f k a0_0 l0_1 a1).bind fun t721 => ((impl_turned.f a0_0 l0_1 a1).bind fun t724 => ((impl_nextOf.f k a0_0 l0_1 t724).bind fun t725 => (impl_blocksOf.l0 k t721 t725 (([] : List Int)) 0 a0_0 0)))
theorem impl_blocksOf.mono_l : ∀ k, (∀ y0 y1 y2 y3 y4 y5, LeO (impl_blocksOf.l0 k y0 y1 y2 y3 y4 y5) (impl_blocksOf.l0 (k + 1) y0 y1 y2 y3 y4 y5))
 | 0 => fun _ _ _ _ _ _ r h => by simp [impl_blocksOf.l0] at h
 | k + 1 => by
  have ih0 := impl_blocksOf.mono_l k
  ·intro y0 y1 y2 y3 y4 y5
   unfold impl_blocksOf.l0
   repeat' first
   | (with_reducible exact ih0 _ _ _ _ _ _)
   | (with_reducible exact impl_nextOf.mono _ _ _ _)
   | (with_reducible exact impl_reachOf.mono _ _ _)
   | (with_reducible exact LeO.refl _)
   | (with_reducible exact LeO.none _)
   | (with_reducible refine LeO.ite ?_ ?_)
   | (with_reducible refine LeO.bind ?_ (fun _ => ?_))
   | exact ih0 _ _ _ _ _ _
   | exact impl_nextOf.mono _ _ _ _
   | exact impl_reachOf.mono _ _ _
   | exact LeO.none _
   | refine LeO.ite ?_ ?_
   | refine LeO.bind ?_ (fun _ => ?_)
theorem impl_blocksOf.mono : ∀ a0 a1 a2 k, LeO (impl_blocksOf.f k a0 a1 a2) (impl_blocksOf.f (k + 1) a0 a1 a2) := by
 intro a0 a1 a2 k; have ih0 := impl_blocksOf.mono_l k
 unfold impl_blocksOf.f
 repeat' first
   | (with_reducible exact ih0 _ _ _ _ _ _)
   | (with_reducible exact impl_nextOf.mono _ _ _ _)
   | (with_reducible exact impl_reachOf.mono _ _ _)
   | (with_reducible exact LeO.refl _)
   | (with_reducible exact LeO.none _)
   | (with_reducible refine LeO.ite ?_ ?_)
   | (with_reducible refine LeO.bind ?_ (fun _ => ?_))
   | exact ih0 _ _ _ _ _ _
   | exact impl_nextOf.mono _ _ _ _
   | exact impl_reachOf.mono _ _ _
   | exact LeO.none _
   | refine LeO.ite ?_ ?_
   | refine LeO.bind ?_ (fun _ => ?_)
def impl_blocksOf.T1 : Bool × List (List Nat × List Nat) := (true, [([], []), ([], []), ([0, 1], [0, 1]), ([], []), ([], []), ([], []), ([4, 5, 2], [4, 5]), ([3, 6, 6], [3, 6]), ([2, 7, 0, 1, 2], [2]), ([7, 8, 0, 1, 2, 3, 4, 5, 6, 7, 8], [7])])
def impl_blocksOf.B1 : List Nat := [0, 0, 3, 0, 0, 0, 55, 127, 255, 511]
theorem impl_blocksOf.tab1 : rtab .any (opsOf Try.f90 1) = impl_blocksOf.T1 := by kernel_rfl
theorem impl_blocksOf.bits1 : waitsOk impl_blocksOf.T1.2 impl_blocksOf.B1 = true := by kernel_rfl
set_option maxHeartbeats 8000000 in
set_option maxRecDepth 100000 in
theorem impl_blocksOf.calls (k : Nat) (a0_0 : Int) (A0_1 : Option Addr) (c0_1 : Nat) (l0_1 : List (S44)) (a1 : Int) (r : List Int) (w : World) (hr0_1 : Kd.C k44 w A0_1 l0_1.length l0_1) (hc0_1 : l0_1.length ≤ c0_1) (h : impl_blocksOf.f k a0_0 l0_1 a1 = some r) :
  Calls Try.prog 90 #[.agg #[.int .i64 a0_0, .slice A0_1 l0_1.length c0_1], .int .i64 a1] w fun e w' => ∃ v0_ : Value, e = .returned (v0_) ∧ Kd.R (Kd.int .i64) 3 w' w.heap.size (fun _ => True) v0_ r ∧ Below w.heap.size w w' := by
 have hu30 := Try.underlying30; have HR0_1 := Aside0.mk hr0_1; have HC0_1 := Aside0.mk hc0_1; clear hr0_1 hc0_1; have HB := Aside0.mk (Below.refl w.heap.size w); have H : ((impl_nextOf.f k a0_0 l0_1 a1).bind fun t721 => ((impl_turned.f a0_0 l0_1 a1).bind fun t724 => ((impl_nextOf.f k a0_0 l0_1 t724).bind fun t725 => (impl_blocksOf.l0 k t721 t725 (([] : List Int)) 0 a0_0 0)))) = some r := h; clear h; replace H := Option.bind_eq_some_iff.mp H; obtain ⟨t721, A30, H⟩ := H; replace H : ((impl_turned.f a0_0 l0_1 a1).bind fun t724 => ((impl_nextOf.f k a0_0 l0_1 t724).bind fun t725 => (impl_blocksOf.l0 k t721 t725 (([] : List Int)) 0 a0_0 0))) = some r := H; have A3 := Aside0.mk A30; clear A30; replace H := Option.bind_eq_some_iff.mp H; obtain ⟨t724, A40, H⟩ := H; replace H : ((impl_nextOf.f k a0_0 l0_1 t724).bind fun t725 => (impl_blocksOf.l0 k t721 t725 (([] : List Int)) 0 a0_0 0)) = some r := H; have A4 := Aside0.mk A40; clear A40; replace H := Option.bind_eq_some_iff.mp H; obtain ⟨t725, A50, H⟩ := H; replace H : (impl_blocksOf.l0 k t721 t725 (([] : List Int)) 0 a0_0 0) = some r := H; have A5 := Aside0.mk A50; clear A50; obtain ⟨y728, hy728⟩ : ∃ y_ : List Int, y_ = (([] : List Int)) := ⟨_, rfl⟩; replace H : (impl_blocksOf.l0 k t721 t725 y728 0 a0_0 0) = some r := by first | (rw [hy728]; with_reducible exact H) | (have H2_ := (Option.bind_some _ _).symm.trans H; rw [hy728]; with_reducible exact H2_) | (have H2_ := (Option.bind_some _ _).symm.trans H; with_reducible exact H2_) | with_reducible exact H | (rw [hy728]; exact H) | exact H
 have Ny728 := Aside0.mk hy728; clear hy728; have H' := Aside0.mk H; clear H
 go_enter Try.func90, Try.ntmps90
 try go_wp2_with (first | ((with_reducible refine gate_dst (N := 2) rfl ?_); refine box_event ?hg (N := 2) ?hd (cs := #[.int .i64 a0_0, .slice A0_1 l0_1.length c0_1]) (t := 30) ?hr ?_; (case hd => rfl); (case hg => rfl); (case hr => first | (go_simp; done) | (go_simp; rfl)); intro gb720 hg w6 hbox hb; have n0_ := Aside0.mk (below_step (viaW HB.out) hb); have n1_ := Aside0.mk (hbox); have n2_ := Aside0.mk ((by rw [hg]; exact (below_size (viaW HB.out)) : w.heap.size ≤ gb720)); have n3_ := Aside0.mk ((by rw [hg]; exact (below_size (viaW HB.out)) : w.heap.size ≤ gb720)); clear HB; have HB := n0_; have BK720 := n1_; have GW720 := n2_; have GE720 := n3_; clear n0_ n1_ n2_ n3_; clear hb hbox hg))
 have n0_ := Aside0.mk (blk_drew BK720.out); have n1_ := Aside0.mk (below_drew1 HB.out); clear BK720; clear HB; have BK720 := n0_; have HB := n1_; clear n0_ n1_
 refine start_ (n := 10) (S := fun w' => w'.cell? ⟨gb720, 0, none⟩ = some (.int .i64 a0_0) ∧ w'.cell? ⟨gb720, 1, none⟩ = some (.slice A0_1 l0_1.length c0_1)) (ds := []) #[false, false, false, false, false, false, false, false, false, false] (by kernel_rfl) rfl rfl ⟨(blk_cell BK720.out 0).trans rfl, (blk_cell BK720.out 1).trans rfl⟩ (fun hHeld => ?_); refine with_tabW impl_blocksOf.tab1 impl_blocksOf.bits1 (fun HT_ HW_ => ?_)
 generalize w6.drew = w7 at BK720 HB hHeld ⊢
 refine pure_ (i := 1) (N := some 12) (v := ?_) (a' := ?_) #[false, true, false, false, false, false, false, false, false, false] rfl rfl (any_of HT_.out (by kernel_rfl)) (fun _ _ _ h => h) (Or.inl ⟨by rfl, ?_⟩) ?_ ?_
 rotate_left
 ·intro w'
  go_simp
  with_reducible rfl
 rotate_left
 ·simp only [Act.put, List.setIfInBounds_toArray, List.set_cons_zero, List.set_cons_succ, i64_w, i32_w]
  rfl
 refine pure_ (i := 5) (N := some 16) (v := ?_) (a' := ?_) #[false, true, false, false, false, true, false, false, false, false] rfl rfl (any_of HT_.out (by kernel_rfl)) (fun _ _ _ h => h) (Or.inl ⟨by rfl, ?_⟩) ?_ ?_
 rotate_left
 ·intro w'
  go_simp
  with_reducible rfl
 rotate_left
 ·simp only [Act.put, List.setIfInBounds_toArray, List.set_cons_zero, List.set_cons_succ, i64_w, i32_w]
  rfl
 refine take_ (i := 0) (N := some 11) (v := ?_) (a' := ?_) #[true, true, false, false, false, true, false, false, false, false] rfl rfl (take_ofW HT_.out HW_.out (by kernel_rfl)) (fun _ _ _ h => h) (Or.inl ⟨by rfl, ?_⟩) hHeld ?_ ?_
 rotate_left
 ·rintro w' ⟨s0, s1⟩
  go_simp
  with_reducible rfl
 rotate_left
 ·simp only [Act.put, List.setIfInBounds_toArray, List.set_cons_zero, List.set_cons_succ, i64_w, i32_w]
  rfl
 refine take_ (i := 3) (N := some 14) (v := ?_) (a' := ?_) #[true, true, false, true, false, true, false, false, false, false] rfl rfl (take_ofW HT_.out HW_.out (by kernel_rfl)) (fun _ _ _ h => h) (Or.inl ⟨by rfl, ?_⟩) hHeld ?_ ?_
 rotate_left
 ·rintro w' ⟨s0, s1⟩
  go_simp
  with_reducible rfl
 rotate_left
 ·simp only [Act.put, List.setIfInBounds_toArray, List.set_cons_zero, List.set_cons_succ, i64_w, i32_w]
  rfl
 refine take_ (i := 4) (N := some 15) (v := ?_) (a' := ?_) #[true, true, false, true, true, true, false, false, false, false] rfl rfl (take_ofW HT_.out HW_.out (by kernel_rfl)) (fun _ _ _ h => h) (Or.inl ⟨by rfl, ?_⟩) hHeld ?_ ?_
 rotate_left
 ·rintro w' ⟨s0, s1⟩
  go_simp
  with_reducible rfl
 rotate_left
 ·simp only [Act.put, List.setIfInBounds_toArray, List.set_cons_zero, List.set_cons_succ, i64_w, i32_w]
  rfl
 refine one_ (i := 2) (N := some 13) #[true, true, true, true, true, true, false, false, false, false] rfl rfl (one_of HT_.out (by kernel_rfl)) (by decide) (fun K hK => ?_)
 refine goes_ Try.func87 (by kernel_rfl) rfl #[.agg #[.int .i64 a0_0, .slice A0_1 l0_1.length c0_1], .int .i64 a1] (by rfl) rfl rfl (by (try simp only [List.map_toArray, List.map_cons, List.map_nil]); first | done | rfl | (simp only [List.length_drop, List.length_take]; rfl)) ?_
 with_reducible refine (impl_nextOf.calls k a0_0 _ _ l0_1 a1 t721 _ ?side1 ?side2 A3.out).mono ?_
 (case side1 => repeat (first | exact (Kd.C_below HR0_1.out HB.out) | (with_reducible refine Kd.C_alloc ?_ _) | (with_reducible refine Kd.C_drewN ?_ _) | (with_reducible refine Kd.C_drew ?_)))
 (case side2 => exact HC0_1.out)
 rintro e w8 ⟨v722, rfl, ho0, hb⟩
 refine ⟨_, rfl, ?_⟩
 have n0_ := Aside0.mk (Kd.R_lower ho0 (below_size (viaX HB.out GE720.out))); have n1_ := Aside0.mk (blk_below (g := gb720) (o := .cells #[.int .i64 a0_0, .slice A0_1 l0_1.length c0_1] 30 (0, 0)) (viaB BK720.out) hb); have n2_ := Aside0.mk (below_step (viaX HB.out GE720.out) hb); clear BK720; clear HB; have HO723 := n0_; have BK720 := n1_; have HB := n2_; clear n0_ n1_ n2_
 (try clear hb)
 (try clear hb2)
 (try clear hk)
 (try clear hi)
 (try clear ho0)
 refine hK.out _ _ ⟨(blk_cell BK720.out 0).trans rfl, (blk_cell BK720.out 1).trans rfl⟩ (fun hHeld => ?_)
 clear hK K
 refine norm_ (a' := ?_) ?_ ?_
 rotate_left
 ·show Act.put _ (some 13) _ = _
  simp only [Act.put, List.setIfInBounds_toArray, List.set_cons_zero, List.set_cons_succ, i64_w, i32_w]
  rfl
 refine one_ (i := 6) (N := some 17) #[true, true, true, true, true, true, true, false, false, false] rfl rfl (one_of HT_.out (by kernel_rfl)) (by decide) (fun K hK => ?_)
 refine goes_ Try.func79 (by kernel_rfl) rfl #[.agg #[.int .i64 a0_0, .slice A0_1 l0_1.length c0_1], .int .i64 a1] (by rfl) rfl rfl (by (try simp only [List.map_toArray, List.map_cons, List.map_nil]); first | done | rfl | (simp only [List.length_drop, List.length_take]; rfl)) ?_
 with_reducible refine (impl_turned.calls a0_0 _ _ l0_1 a1 t724 _ ?side1 ?side2 A4.out).mono ?_
 (case side1 => repeat (first | exact (Kd.C_below HR0_1.out HB.out) | (with_reducible refine Kd.C_alloc ?_ _) | (with_reducible refine Kd.C_drewN ?_ _) | (with_reducible refine Kd.C_drew ?_)))
 (case side2 => exact HC0_1.out)
 rintro e w9 ⟨rfl, hb⟩
 refine ⟨_, rfl, ?_⟩
 have n0_ := Aside0.mk (Kd.R_below (viaR HO723.out) hb); have n1_ := Aside0.mk (blk_below (g := gb720) (o := .cells #[.int .i64 a0_0, .slice A0_1 l0_1.length c0_1] 30 (0, 0)) (viaB BK720.out) hb); have n2_ := Aside0.mk (below_step (viaX HB.out GE720.out) hb); clear HO723; clear BK720; clear HB; have HO723 := n0_; have BK720 := n1_; have HB := n2_; clear n0_ n1_ n2_
 (try clear hb)
 (try clear hb2)
 (try clear hk)
 (try clear hi)
 refine hK.out _ _ ⟨(blk_cell BK720.out 0).trans rfl, (blk_cell BK720.out 1).trans rfl⟩ (fun hHeld => ?_)
 clear hK K
 refine norm_ (a' := ?_) ?_ ?_
 rotate_left
 ·show Act.put _ (some 17) _ = _
  simp only [Act.put, List.setIfInBounds_toArray, List.set_cons_zero, List.set_cons_succ, i64_w, i32_w]
  rfl
 refine one_ (i := 7) (N := some 18) #[true, true, true, true, true, true, true, true, false, false] rfl rfl (one_of HT_.out (by kernel_rfl)) (by decide) (fun K hK => ?_)
 refine goes_ Try.func87 (by kernel_rfl) rfl #[.agg #[.int .i64 a0_0, .slice A0_1 l0_1.length c0_1], .int .i64 t724] (by rfl) rfl rfl (by (try simp only [List.map_toArray, List.map_cons, List.map_nil]); first | done | rfl | (simp only [List.length_drop, List.length_take]; rfl)) ?_
 with_reducible refine (impl_nextOf.calls k a0_0 _ _ l0_1 t724 t725 _ ?side1 ?side2 A5.out).mono ?_
 (case side1 => repeat (first | exact (Kd.C_below HR0_1.out HB.out) | (with_reducible refine Kd.C_alloc ?_ _) | (with_reducible refine Kd.C_drewN ?_ _) | (with_reducible refine Kd.C_drew ?_)))
 (case side2 => exact HC0_1.out)
 rintro e w10 ⟨v726, rfl, ho0, hb⟩
 refine ⟨_, rfl, ?_⟩
 have n0_ := Aside0.mk (Kd.R_elder' (viaR HO723.out) (Kd.R_base ho0) hb); have n1_ := Aside0.mk (Kd.R_lower (Kd.R_new' ho0 (Kd.R_lt (viaR HO723.out))) (below_size (viaX HB.out GE720.out))); have n2_ := Aside0.mk (blk_below (g := gb720) (o := .cells #[.int .i64 a0_0, .slice A0_1 l0_1.length c0_1] 30 (0, 0)) (viaB BK720.out) hb); have n3_ := Aside0.mk (below_step (viaX HB.out GE720.out) hb); clear HO723; clear BK720; clear HB; have HO723 := n0_; have HO727 := n1_; have BK720 := n2_; have HB := n3_; clear n0_ n1_ n2_ n3_
 (try clear hb)
 (try clear hb2)
 (try clear hk)
 (try clear hi)
 (try clear ho0)
 refine hK.out _ _ ⟨(blk_cell BK720.out 0).trans rfl, (blk_cell BK720.out 1).trans rfl⟩ (fun hHeld => ?_)
 clear hK K
 refine norm_ (a' := ?_) ?_ ?_
 rotate_left
 ·show Act.put _ (some 18) _ = _
  simp only [Act.put, List.setIfInBounds_toArray, List.set_cons_zero, List.set_cons_succ, i64_w, i32_w]
  rfl
 refine pure_ (i := 8) (N := some 5) (v := ?_) (a' := ?_) #[true, true, true, true, true, true, true, true, true, false] rfl rfl (any_of HT_.out (by kernel_rfl)) (fun _ _ _ h => h) (Or.inl ⟨by rfl, ?_⟩) ?_ ?_
 rotate_left
 ·intro w'
  go_simp
  with_reducible rfl
 rotate_left
 ·simp only [Act.put, List.setIfInBounds_toArray, List.set_cons_zero, List.set_cons_succ, i64_w, i32_w]
  rfl
 refine pure_ (i := 9) (N := some 6) (v := ?_) (a' := ?_) #[true, true, true, true, true, true, true, true, true, true] rfl rfl (any_of HT_.out (by kernel_rfl)) (fun _ _ _ h => h) (Or.inl ⟨by rfl, ?_⟩) ?_ ?_
 rotate_left
 ·intro w'
  go_simp
  with_reducible rfl
 rotate_left
 ·simp only [Act.put, List.setIfInBounds_toArray, List.set_cons_zero, List.set_cons_succ, i64_w, i32_w]
  rfl
 refine done_ (done_of HT_.out (by kernel_rfl)) ?_
 try go_wp2_with (first | ((with_reducible refine gate_dst (N := 19) rfl ?_); refine Kd.R_lit (Kd.int .i64) _ 3 ?hg (N := 19) ?hd (xs := ([] : List Int)) (inner := []) (ok := fun _ => True) (okp := fun _ => True) ?hr ?hp (fun _ hk => hk) trivial (Below.refl _ _) (Nat.le_refl _) (by simp) ?_; (case hd => rfl); (case hg => rfl); (case hr => first | (go_simp; done) | (go_simp; rfl)); (case hp => exact (Reps.none _ _)); intro v729 w11 ho12 hb hg_ hnew_; clear hg_ hnew_; (first | rw [← Ny728.out] at ho12 | (simp only [Int.reduceToNat] at ho12; rw [← Ny728.out] at ho12)); have n0_ := Aside0.mk (Kd.R_elder' (viaR HO723.out) (Kd.R_base ho12) hb); have n1_ := Aside0.mk (Kd.R_elder' (viaR HO727.out) (Kd.R_base ho12) hb); have n2_ := Aside0.mk (Kd.R_lower (Kd.R_new' (Kd.R_new' ho12 (Kd.R_lt (viaR HO723.out))) (Kd.R_lt (viaR HO727.out))) (below_size (viaX HB.out GE720.out))); have n3_ := Aside0.mk (blk_below (g := gb720) (o := .cells #[.int .i64 a0_0, .slice A0_1 l0_1.length c0_1] 30 (0, 0)) (viaB BK720.out) hb); have n4_ := Aside0.mk (below_step (viaX HB.out GE720.out) hb); clear HO723; clear HO727; clear BK720; clear HB; have HO723 := n0_; have HO727 := n1_; have HO730 := n2_; have BK720 := n3_; have HB := n4_; clear n0_ n1_ n2_ n3_ n4_; clear hb ho12; have hcz13_0 : w11.cell? ⟨gb720, 0, none⟩ = some (.int .i64 a0_0) := (blk_cell BK720.out 0).trans rfl; have hcz13_1 : w11.cell? ⟨gb720, 1, none⟩ = some (.slice A0_1 l0_1.length c0_1) := (blk_cell BK720.out 1).trans rfl; have hfz13_0 := blk_frozen BK720.out 0; have hfz13_1 := blk_frozen BK720.out 1))
 go_loopg [7, 8, 22] k (fun kq v7 v8 v22 w' => ∃ (x7_1 : List Int) (x8_1 : Int) (x22_1 : Int), v8 = .int .i64 x8_1 ∧ v22 = .int .i64 x22_1 ∧ Aside0 (impl_blocksOf.l0 kq t721 t725 x7_1 x8_1 a0_0 x22_1 = some r) ∧ Aside0 (kq ≤ k) ∧ Aside0 (Kd.R (Kd.int .i64) 3 w' w.heap.size (fun k_ => some k_ ≠ (v726 : Value).ownBlock ∧ some k_ ≠ (v7 : Value).ownBlock) v722 t721) ∧ Aside0 (Kd.R (Kd.int .i64) 3 w' w.heap.size (fun k_ => some k_ ≠ (v722 : Value).ownBlock ∧ some k_ ≠ (v7 : Value).ownBlock) v726 t725) ∧ Aside0 (Kd.R (Kd.int .i64) 3 w' w.heap.size (fun k_ => some k_ ≠ (v722 : Value).ownBlock ∧ some k_ ≠ (v726 : Value).ownBlock) v7 x7_1) ∧ Aside0 (w'.heap[gb720]? = some (.cells #[.int .i64 a0_0, (.slice A0_1 l0_1.length c0_1)] 30 (0, 0))) ∧ Aside0 (Below w.heap.size w w'))
 case atStart => exact ⟨(y728), (0), (0), (by first | rfl | (simp; done) | (simp [*]; done)), (by first | rfl | (simp; done) | (simp [*]; done)), H', ⟨Nat.le_refl _⟩, ⟨by (with_reducible repeat (first | apply Kd.R_alloc | apply Kd.R_drewN | apply Kd.R_drew)); exact Kd.R_mono HO723.out (fun _ hk => ⟨hk.1.2, hk.2⟩)⟩, ⟨by (with_reducible repeat (first | apply Kd.R_alloc | apply Kd.R_drewN | apply Kd.R_drew)); exact Kd.R_mono HO727.out (fun _ hk => ⟨hk.1.2, hk.2⟩)⟩, ⟨by (with_reducible repeat (first | apply Kd.R_alloc | apply Kd.R_drewN | apply Kd.R_drew)); exact Kd.R_mono HO730.out (fun _ hk => ⟨hk.1.2, hk.2⟩)⟩, ⟨viaB BK720.out⟩, ⟨viaX HB.out GE720.out⟩⟩
 case round =>
  clear H'
  try clear p2
  try clear c7
  try clear c8
  try clear c9
  try clear hcz13_0
  try clear hcz13_1
  try clear hfz13_0
  try clear hfz13_1
  obtain ⟨x7_1, x8_1, x22_1, rfl, rfl, HA, HK1, HO_5, HO_6, HO_7, BK720, HB⟩ := hrel
  cases gk with
  | zero => exact absurd HA.out (by simp [impl_blocksOf.l0])
  | succ k1 =>
   have H := HA.out; clear HA
   simp only [impl_blocksOf.l0] at H
   by_cases c14 : x22_1 < a0_0
   ·rw [if_pos c14] at H
    have c14b0 : decide (x22_1 < a0_0) = true := decide_eq_true c14; clear c14
    by_cases c15 : 0 ≤ x22_1
    ·rw [if_pos c15] at H
     have c15b0 := eq_true c15; have c15b1 : decide (0 ≤ x22_1) = true := decide_eq_true c15; clear c15; obtain ⟨ji16, hji16⟩ : ∃ j_ : Int, (shr .i64 x8_1 x22_1) = j_ := ⟨_, rfl⟩; replace H : (if (Go.bits .and .i64 (ji16) 1) = 0 then ((impl_reachOf.f k1 t721 x22_1).bind fun t731 => ((impl_reachOf.f k1 t725 x22_1).bind fun t732 => (if x7_1.length < 17592186044416 then (impl_blocksOf.l0 k1 t721 t725 (x7_1 ++ [Go.bits .and .i64 t731 t732]) (Go.bits .or .i64 x8_1 (Go.bits .and .i64 t731 t732)) a0_0 (wrap64 (x22_1 + 1))) else (none)))) else (impl_blocksOf.l0 k1 t721 t725 x7_1 x8_1 a0_0 (wrap64 (x22_1 + 1)))) = some r := by first | (rw [hji16] at H; exact H) | (simp only [hji16] at H ⊢; exact H)
     have hji16_ : (x8_1 / 2 ^ min x22_1.toNat 64) = ji16 := hji16; have hji16z : x22_1 ≤ 64 → (x8_1 / 2 ^ x22_1.toNat) = ji16 := shr_small hji16
     by_cases c17 : (Go.bits .and .i64 (ji16) 1) = 0
     ·rw [if_pos c17] at H
      have c17b0 : ((Go.bits .and .i64 (ji16) 1) == 0) = true := beq_iff_eq.mpr c17; have c17b1 : ((Go.bits .and .i64 (ji16) 1) != 0) = false := bne_eq_false_iff_eq.mpr c17; clear c17; replace H := Option.bind_eq_some_iff.mp H; obtain ⟨t731, A180, H⟩ := H; replace H : ((impl_reachOf.f k1 t725 x22_1).bind fun t732 => (if x7_1.length < 17592186044416 then (impl_blocksOf.l0 k1 t721 t725 (x7_1 ++ [Go.bits .and .i64 t731 t732]) (Go.bits .or .i64 x8_1 (Go.bits .and .i64 t731 t732)) a0_0 (wrap64 (x22_1 + 1))) else (none))) = some r := H; have A18 := Aside0.mk A180; clear A180; replace H := Option.bind_eq_some_iff.mp H; obtain ⟨t732, A190, H⟩ := H; replace H : (if x7_1.length < 17592186044416 then (impl_blocksOf.l0 k1 t721 t725 (x7_1 ++ [Go.bits .and .i64 t731 t732]) (Go.bits .or .i64 x8_1 (Go.bits .and .i64 t731 t732)) a0_0 (wrap64 (x22_1 + 1))) else (none)) = some r := H; have A19 := Aside0.mk A190; clear A190
      by_cases c20 : x7_1.length < 17592186044416
      ·rw [if_pos c20] at H
       have LMc20 := Aside0.mk c20; clear c20; obtain ⟨y733, hy733⟩ : ∃ y_ : List Int, y_ = (x7_1 ++ [Go.bits .and .i64 t731 t732]) := ⟨_, rfl⟩; replace H : (impl_blocksOf.l0 k1 t721 t725 y733 (Go.bits .or .i64 x8_1 (Go.bits .and .i64 t731 t732)) a0_0 (wrap64 (x22_1 + 1))) = some r := by first | (rw [hy733]; with_reducible exact H) | (have H2_ := (Option.bind_some _ _).symm.trans H; rw [hy733]; with_reducible exact H2_) | (have H2_ := (Option.bind_some _ _).symm.trans H; with_reducible exact H2_) | with_reducible exact H | (rw [hy733]; exact H) | exact H
       have Ny733 := Aside0.mk hy733; clear hy733; have H' := Aside0.mk H; clear H; obtain ⟨Ao21, co21, eo21⟩ := Kd.R_slice HO_5.out; subst eo21
       go_wp2_with (first | ((with_reducible refine gate_callee (f := 91) rfl ?_); refine goesL_ (some 32) rfl rfl Try.func91 (by kernel_rfl) rfl #[.slice Ao21 t721.length co21, .int .i64 x22_1] rfl (by (try simp only [List.map_toArray, List.map_cons, List.map_nil]); first | done | rfl | (simp only [List.length_drop, List.length_take]; rfl)) ?_; (with_reducible refine (impl_reachOf.calls k1 _ _ t721 x22_1 t731 _ ?side1 ?side2 A18.out).mono ?_); (case side1 => repeat (first | exact (Kd.R_reads' HO_5.out).2.2 | (with_reducible refine Kd.C_alloc ?_ _) | (with_reducible refine Kd.C_drewN ?_ _) | (with_reducible refine Kd.C_drew ?_))); (case side2 => exact (Kd.R_reads' HO_5.out).2.1); rintro e w' ⟨rfl, ⟨nd, rfl⟩⟩; refine ⟨_, rfl, ?_⟩; obtain ⟨Ao22, co22, eo22⟩ := Kd.R_slice HO_6.out; subst eo22) | ((with_reducible refine gate_callee (f := 91) rfl ?_); refine goesL_ (some 35) rfl rfl Try.func91 (by kernel_rfl) rfl #[.slice Ao22 t725.length co22, .int .i64 x22_1] rfl (by (try simp only [List.map_toArray, List.map_cons, List.map_nil]); first | done | rfl | (simp only [List.length_drop, List.length_take]; rfl)) ?_; (with_reducible refine (impl_reachOf.calls k1 _ _ t725 x22_1 t732 _ ?side1 ?side2 A19.out).mono ?_); (case side1 => repeat (first | exact (Kd.R_reads' HO_6.out).2.2 | (with_reducible refine Kd.C_alloc ?_ _) | (with_reducible refine Kd.C_drewN ?_ _) | (with_reducible refine Kd.C_drew ?_))); (case side2 => exact (Kd.R_reads' HO_6.out).2.1); rintro e w' ⟨rfl, ⟨nd, rfl⟩⟩; refine ⟨_, rfl, ?_⟩) | ((with_reducible refine gate_builtin (b := .append) (xs := #[.tmp 37, .tmp 39]) rfl ?_); at_builtin; refine Kd.R_append (Kd.int .i64) (w0 := w) w.heap.size rfl (.tmp 37) (.tmp 39) 39 3 (.int .i64 0) 8 rfl Try.underlying39 info3 rfl (by decide) (by omega) u7 x7_1 (Go.bits .and .i64 t731 t732) [.int .i64 (Go.bits .and .i64 t731 t732)] (fun k_ => some k_ ≠ (.slice Ao21 t721.length co21 : Value).ownBlock ∧ some k_ ≠ (.slice Ao22 t725.length co22 : Value).ownBlock) (fun _ => False) rfl rfl ?aP (fun _ hk => hk.elim) ?aF ?aO ?aB ?aS ?aL ?_; (case aP => exact rfl); (case aB => exact (viaX HB.out GE720.out)); (case aF => exact (fun k_ hk => ⟨Kd.fresh' (Kd.R_lt (viaR HO_5.out)) k_ hk, Kd.fresh' (Kd.R_lt (viaR HO_6.out)) k_ hk⟩)); (case aO => exact (viaR HO_7.out)); (case aS => exact (below_size (viaX HB.out GE720.out))); (case aL => have := LMc20.out; omega); intro v734 w23 ho hb hg hat; rw [← Ny733.out] at ho; have n0_ := Aside0.mk (Kd.R_after (ok := (fun k_ => some k_ ≠ (.slice Ao22 t725.length co22 : Value).ownBlock)) (viaR HO_5.out) hg hat); have n1_ := Aside0.mk (Kd.R_after (ok := (fun k_ => some k_ ≠ (.slice Ao21 t721.length co21 : Value).ownBlock)) (viaR HO_6.out) hg hat); have n2_ := Aside0.mk (blk_grown (g := gb720) (o := .cells #[.int .i64 a0_0, .slice A0_1 l0_1.length c0_1] 30 (0, 0)) (viaB BK720.out) hg (Kd.R_ne HO_7.out BK720.out (by decide))); have n3_ := Aside0.mk (hb); have n4_ := Aside0.mk (ho); clear HO_5; clear HO_6; clear BK720; clear HB; clear HO_7; have HO_5 := n0_; have HO_6 := n1_; have BK720 := n2_; have HB := n3_; have HO735 := n4_; clear n0_ n1_ n2_ n3_ n4_; clear ho hb hg hat))
       go_roundg k1
       case measure => have := HK1.out; omega
       case rel => exact ⟨(y733), (Go.bits .or .i64 x8_1 (Go.bits .and .i64 t731 t732)), (wrap64 (x22_1 + 1)), (by first | rfl | (simp; done) | (simp [*]; done)), (by first | rfl | (simp; done) | (simp [*]; done)), H', ⟨by have := HK1.out; omega⟩, ⟨viaR HO_5.out⟩, ⟨viaR HO_6.out⟩, ⟨viaR HO735.out⟩, ⟨viaB BK720.out⟩, ⟨viaX HB.out GE720.out⟩⟩
      ·rw [if_neg c20] at H
       exact absurd H (by simp)
     ·rw [if_neg c17] at H
      have c17b0 : ((Go.bits .and .i64 (ji16) 1) == 0) = false := beq_eq_false_iff_ne.mpr c17; have c17b1 : ((Go.bits .and .i64 (ji16) 1) != 0) = true := bne_iff_ne.mpr c17; have H' := Aside0.mk H; clear H
      go_wp2
      go_roundg k1
      case measure => have := HK1.out; omega
      case rel => exact ⟨(x7_1), (x8_1), (wrap64 (x22_1 + 1)), (by first | rfl | (simp; done) | (simp [*]; done)), (by first | rfl | (simp; done) | (simp [*]; done)), H', ⟨by have := HK1.out; omega⟩, ⟨viaR HO_5.out⟩, ⟨viaR HO_6.out⟩, ⟨viaR HO_7.out⟩, ⟨viaB BK720.out⟩, ⟨viaX HB.out GE720.out⟩⟩
    ·rw [if_neg c15] at H
     exact absurd H (by simp)
   ·rw [if_neg c14] at H
    have c14b0 : decide (x22_1 < a0_0) = false := decide_eq_false c14; clear c14; obtain rfl := Option.some.inj H
    go_wp2
    go_ret
    exact ⟨_, by first | rfl | (simp [errW_none, errW_some] <;> rfl) | (simp [*, errW_none, errW_some] <;> rfl), by (with_reducible repeat (first | apply Kd.R_alloc | apply Kd.R_drewN | apply Kd.R_drew)); exact Kd.R_mono HO_7.out (fun _ hk => trivial), viaX HB.out GE720.out⟩

/-! ### impl_KernelRoots: function 44 -/
mutual
def impl_KernelRoots.l0 : Nat → List Int → Int → List Int → Int → Int → Option (Int × Bool)
 | 0, _, _, _, _, _ => none
 | k + 1, x6, x7, x22, x23, x24 => if x24 < x23 then (if 0 ≤ x24 then (if x24 < (x22.length : Int) then (impl_KernelRoots.l1 k x6 x7 (rd x22 x24) 0 x22 x23 x24) else (none)) else (none)) else (some (x7, true))
def impl_KernelRoots.l1 : Nat → List Int → Int → Int → Int → List Int → Int → Int → Option (Int × Bool)
 | 0, _, _, _, _, _, _, _ => none
 | k + 1, x6, x7, x9, x10, x22, x23, x24 => if 0 ≤ x10 then (if (Go.bits .and .i64 (shr .i64 x9 x10) 1) = 0 then (impl_KernelRoots.l1 k x6 x7 x9 (wrap64 (x10 + 1)) x22 x23 x24) else ((impl_reachOf.f k x6 x10).bind fun t746 => (if t746 = x9 then (impl_KernelRoots.l0 k x6 (wrap64 (x7 + 1)) x22 x23 (wrap64 (x24 + 1))) else (impl_KernelRoots.l0 k x6 x7 x22 x23 (wrap64 (x24 + 1)))))) else (none)
end
def impl_KernelRoots.f (k : Nat) (a0_0 : Int) (l0_1 : List (S44)) (a1 : Int) : Option (Int × Bool) := (impl_WayIn.f k a0_0 l0_1 a1).bind fun t737 => (if t737 = true then ((impl_turned.f a0_0 l0_1 a1).bind fun t738 => ((impl_nextOf.f k a0_0 l0_1 t738).bind fun t739 => ((impl_blocksOf.f k a0_0 l0_1 a1).bind fun t742 => (impl_KernelRoots.l0 k t739 0 t742 (t742.length : Int) 0)))) else (some (0, false)))
theorem impl_KernelRoots.mono_l : ∀ k, (∀ y0 y1 y2 y3 y4, LeO (impl_KernelRoots.l0 k y0 y1 y2 y3 y4) (impl_KernelRoots.l0 (k + 1) y0 y1 y2 y3 y4)) ∧ (∀ y0 y1 y2 y3 y4 y5 y6, LeO (impl_KernelRoots.l1 k y0 y1 y2 y3 y4 y5 y6) (impl_KernelRoots.l1 (k + 1) y0 y1 y2 y3 y4 y5 y6))
 | 0 => ⟨fun _ _ _ _ _ r h => by simp [impl_KernelRoots.l0] at h, fun _ _ _ _ _ _ _ r h => by simp [impl_KernelRoots.l1] at h⟩
 | k + 1 => by
  obtain ⟨ih0, ih1⟩ := impl_KernelRoots.mono_l k
  refine ⟨?_, ?_⟩
  ·intro y0 y1 y2 y3 y4
   unfold impl_KernelRoots.l0
   repeat' first
   | (with_reducible exact ih0 _ _ _ _ _)
   | (with_reducible exact ih1 _ _ _ _ _ _ _)
   | (with_reducible exact impl_WayIn.mono _ _ _ _)
   | (with_reducible exact impl_blocksOf.mono _ _ _ _)
   | (with_reducible exact impl_nextOf.mono _ _ _ _)
   | (with_reducible exact impl_reachOf.mono _ _ _)
   | (with_reducible exact LeO.refl _)
   | (with_reducible exact LeO.none _)
   | (with_reducible refine LeO.ite ?_ ?_)
   | (with_reducible refine LeO.bind ?_ (fun _ => ?_))
   | exact ih0 _ _ _ _ _
   | exact ih1 _ _ _ _ _ _ _
   | exact impl_WayIn.mono _ _ _ _
   | exact impl_blocksOf.mono _ _ _ _
   | exact impl_nextOf.mono _ _ _ _
   | exact impl_reachOf.mono _ _ _
   | exact LeO.none _
   | refine LeO.ite ?_ ?_
   | refine LeO.bind ?_ (fun _ => ?_)
  ·intro y0 y1 y2 y3 y4 y5 y6
   unfold impl_KernelRoots.l1
   repeat' first
   | (with_reducible exact ih0 _ _ _ _ _)
   | (with_reducible exact ih1 _ _ _ _ _ _ _)
   | (with_reducible exact impl_WayIn.mono _ _ _ _)
   | (with_reducible exact impl_blocksOf.mono _ _ _ _)
   | (with_reducible exact impl_nextOf.mono _ _ _ _)
   | (with_reducible exact impl_reachOf.mono _ _ _)
   | (with_reducible exact LeO.refl _)
   | (with_reducible exact LeO.none _)
   | (with_reducible refine LeO.ite ?_ ?_)
   | (with_reducible refine LeO.bind ?_ (fun _ => ?_))
   | exact ih0 _ _ _ _ _
   | exact ih1 _ _ _ _ _ _ _
   | exact impl_WayIn.mono _ _ _ _
   | exact impl_blocksOf.mono _ _ _ _
   | exact impl_nextOf.mono _ _ _ _
   | exact impl_reachOf.mono _ _ _
   | exact LeO.none _
   | refine LeO.ite ?_ ?_
   | refine LeO.bind ?_ (fun _ => ?_)
theorem impl_KernelRoots.mono : ∀ a0 a1 a2 k, LeO (impl_KernelRoots.f k a0 a1 a2) (impl_KernelRoots.f (k + 1) a0 a1 a2) := by
 intro a0 a1 a2 k; obtain ⟨ih0, ih1⟩ := impl_KernelRoots.mono_l k
 unfold impl_KernelRoots.f
 repeat' first
   | (with_reducible exact ih0 _ _ _ _ _)
   | (with_reducible exact ih1 _ _ _ _ _ _ _)
   | (with_reducible exact impl_WayIn.mono _ _ _ _)
   | (with_reducible exact impl_blocksOf.mono _ _ _ _)
   | (with_reducible exact impl_nextOf.mono _ _ _ _)
   | (with_reducible exact impl_reachOf.mono _ _ _)
   | (with_reducible exact LeO.refl _)
   | (with_reducible exact LeO.none _)
   | (with_reducible refine LeO.ite ?_ ?_)
   | (with_reducible refine LeO.bind ?_ (fun _ => ?_))
   | exact ih0 _ _ _ _ _
   | exact ih1 _ _ _ _ _ _ _
   | exact impl_WayIn.mono _ _ _ _
   | exact impl_blocksOf.mono _ _ _ _
   | exact impl_nextOf.mono _ _ _ _
   | exact impl_reachOf.mono _ _ _
   | exact LeO.none _
   | refine LeO.ite ?_ ?_
   | refine LeO.bind ?_ (fun _ => ?_)
set_option maxHeartbeats 8000000 in
set_option maxRecDepth 100000 in
theorem impl_KernelRoots.calls (k : Nat) (a0_0 : Int) (A0_1 : Option Addr) (c0_1 : Nat) (l0_1 : List (S44)) (a1 : Int) (r1 : Int) (r2 : Bool) (w : World) (hr0_1 : Kd.C k44 w A0_1 l0_1.length l0_1) (hc0_1 : l0_1.length ≤ c0_1) (h : impl_KernelRoots.f k a0_0 l0_1 a1 = some (r1, r2)) :
  Calls Try.prog 44 #[.agg #[.int .i64 a0_0, .slice A0_1 l0_1.length c0_1], .int .i64 a1] w fun e w' => e = .returned (.tuple #[.int .i64 r1, .bool r2]) ∧ Below w.heap.size w w' := by
 have hu30 := Try.underlying30; have HR0_1 := Aside0.mk hr0_1; have HC0_1 := Aside0.mk hc0_1; clear hr0_1 hc0_1; have HB := Aside0.mk (Below.refl w.heap.size w); have H : ((impl_WayIn.f k a0_0 l0_1 a1).bind fun t737 => (if t737 = true then ((impl_turned.f a0_0 l0_1 a1).bind fun t738 => ((impl_nextOf.f k a0_0 l0_1 t738).bind fun t739 => ((impl_blocksOf.f k a0_0 l0_1 a1).bind fun t742 => (impl_KernelRoots.l0 k t739 0 t742 (t742.length : Int) 0)))) else (some (0, false)))) = some (r1, r2) := h; clear h; replace H := Option.bind_eq_some_iff.mp H; obtain ⟨t737, A30, H⟩ := H; replace H : (if t737 = true then ((impl_turned.f a0_0 l0_1 a1).bind fun t738 => ((impl_nextOf.f k a0_0 l0_1 t738).bind fun t739 => ((impl_blocksOf.f k a0_0 l0_1 a1).bind fun t742 => (impl_KernelRoots.l0 k t739 0 t742 (t742.length : Int) 0)))) else (some (0, false))) = some (r1, r2) := H; have A3 := Aside0.mk A30; clear A30
 by_cases c4 : t737 = true
 ·subst c4
  have H1 : ((impl_turned.f a0_0 l0_1 a1).bind fun t738 => ((impl_nextOf.f k a0_0 l0_1 t738).bind fun t739 => ((impl_blocksOf.f k a0_0 l0_1 a1).bind fun t742 => (impl_KernelRoots.l0 k t739 0 t742 (t742.length : Int) 0)))) = some (r1, r2) := by rw [if_pos rfl] at H; exact H
  clear H; have H := H1; clear H1; replace H := Option.bind_eq_some_iff.mp H; obtain ⟨t738, A50, H⟩ := H; replace H : ((impl_nextOf.f k a0_0 l0_1 t738).bind fun t739 => ((impl_blocksOf.f k a0_0 l0_1 a1).bind fun t742 => (impl_KernelRoots.l0 k t739 0 t742 (t742.length : Int) 0))) = some (r1, r2) := H; have A5 := Aside0.mk A50; clear A50; replace H := Option.bind_eq_some_iff.mp H; obtain ⟨t739, A60, H⟩ := H; replace H : ((impl_blocksOf.f k a0_0 l0_1 a1).bind fun t742 => (impl_KernelRoots.l0 k t739 0 t742 (t742.length : Int) 0)) = some (r1, r2) := H; have A6 := Aside0.mk A60; clear A60; replace H := Option.bind_eq_some_iff.mp H; obtain ⟨t742, A70, H⟩ := H; replace H : (impl_KernelRoots.l0 k t739 0 t742 (t742.length : Int) 0) = some (r1, r2) := H; have A7 := Aside0.mk A70; clear A70; have H' := Aside0.mk H; clear H
  go_enter Try.func44, Try.ntmps44
  try go_wp2_with (first | ((with_reducible refine gate_dst (N := 2) rfl ?_); refine box_event ?hg (N := 2) ?hd (cs := #[.int .i64 a0_0, .slice A0_1 l0_1.length c0_1]) (t := 30) ?hr ?_; (case hd => rfl); (case hg => rfl); (case hr => first | (go_simp; done) | (go_simp; rfl)); intro gb736 hg w8 hbox hb; have n0_ := Aside0.mk (below_step (viaW HB.out) hb); have n1_ := Aside0.mk (hbox); have n2_ := Aside0.mk ((by rw [hg]; exact (below_size (viaW HB.out)) : w.heap.size ≤ gb736)); have n3_ := Aside0.mk ((by rw [hg]; exact (below_size (viaW HB.out)) : w.heap.size ≤ gb736)); clear HB; have HB := n0_; have BK736 := n1_; have GW736 := n2_; have GE736 := n3_; clear n0_ n1_ n2_ n3_; clear hb hbox hg; have hcz9_0 : w8.cell? ⟨gb736, 0, none⟩ = some (.int .i64 a0_0) := (blk_cell BK736.out 0).trans rfl; have hcz9_1 : w8.cell? ⟨gb736, 1, none⟩ = some (.slice A0_1 l0_1.length c0_1) := (blk_cell BK736.out 1).trans rfl; have hfz9_0 := blk_frozen BK736.out 0; have hfz9_1 := blk_frozen BK736.out 1) | ((with_reducible refine gate_callee (f := 68) rfl ?_); refine goesL_ (some 13) rfl rfl Try.func68 (by kernel_rfl) rfl #[.agg #[.int .i64 a0_0, .slice A0_1 l0_1.length c0_1], .int .i64 a1] rfl (by (try simp only [List.map_toArray, List.map_cons, List.map_nil]); first | done | rfl | (simp only [List.length_drop, List.length_take]; rfl)) ?_; (with_reducible refine (impl_WayIn.calls k a0_0 _ _ l0_1 a1 true _ ?side1 ?side2 A3.out).mono ?_); (case side1 => repeat (first | exact (Kd.C_below HR0_1.out HB.out) | (with_reducible refine Kd.C_alloc ?_ _) | (with_reducible refine Kd.C_drewN ?_ _) | (with_reducible refine Kd.C_drew ?_))); (case side2 => exact HC0_1.out); rintro e w10 ⟨rfl, hb⟩; refine ⟨_, rfl, ?_⟩; have n0_ := Aside0.mk (blk_below (g := gb736) (o := .cells #[.int .i64 a0_0, .slice A0_1 l0_1.length c0_1] 30 (0, 0)) (viaB BK736.out) hb); have n1_ := Aside0.mk (below_step (viaX HB.out GE736.out) hb); clear BK736; clear HB; have BK736 := n0_; have HB := n1_; clear n0_ n1_; (try clear hb); (try clear hb2); (try clear hk); (try clear hi)))
  have n0_ := Aside0.mk (blk_drew BK736.out); have n1_ := Aside0.mk (below_drew1 HB.out); clear BK736; clear HB; have BK736 := n0_; have HB := n1_; clear n0_ n1_
  refine start_ (n := 6) (S := fun w' => w'.cell? ⟨gb736, 0, none⟩ = some (.int .i64 a0_0) ∧ w'.cell? ⟨gb736, 1, none⟩ = some (.slice A0_1 l0_1.length c0_1)) (ds := []) #[false, false, false, false, false, false] (by kernel_rfl) rfl rfl ⟨(blk_cell BK736.out 0).trans rfl, (blk_cell BK736.out 1).trans rfl⟩ (fun hHeld => ?_)
  generalize w10.drew = w11 at BK736 HB hHeld ⊢
  refine pure_ (i := 2) (N := some 17) (v := ?_) (a' := ?_) #[false, false, true, false, false, false] rfl rfl (by kernel_rfl) (fun _ _ _ h => h) (Or.inl ⟨by rfl, ?_⟩) ?_ ?_
  rotate_left
  ·intro w'
   go_simp
   with_reducible rfl
  rotate_left
  ·simp only [Act.put, List.setIfInBounds_toArray, List.set_cons_zero, List.set_cons_succ, i64_w, i32_w]
   rfl
  refine take_ (i := 0) (N := some 15) (v := ?_) (a' := ?_) #[true, false, true, false, false, false] rfl rfl (by kernel_rfl) (fun _ _ _ h => h) (Or.inl ⟨by rfl, ?_⟩) hHeld ?_ ?_
  rotate_left
  ·rintro w' ⟨s0, s1⟩
   go_simp
   with_reducible rfl
  rotate_left
  ·simp only [Act.put, List.setIfInBounds_toArray, List.set_cons_zero, List.set_cons_succ, i64_w, i32_w]
   rfl
  refine take_ (i := 1) (N := some 16) (v := ?_) (a' := ?_) #[true, true, true, false, false, false] rfl rfl (by kernel_rfl) (fun _ _ _ h => h) (Or.inl ⟨by rfl, ?_⟩) hHeld ?_ ?_
  rotate_left
  ·rintro w' ⟨s0, s1⟩
   go_simp
   with_reducible rfl
  rotate_left
  ·simp only [Act.put, List.setIfInBounds_toArray, List.set_cons_zero, List.set_cons_succ, i64_w, i32_w]
   rfl
  refine one_ (i := 3) (N := some 18) #[true, true, true, true, false, false] rfl rfl (by kernel_rfl) (by decide) (fun K hK => ?_)
  refine goes_ Try.func79 (by kernel_rfl) rfl #[.agg #[.int .i64 a0_0, .slice A0_1 l0_1.length c0_1], .int .i64 a1] (by rfl) rfl rfl (by (try simp only [List.map_toArray, List.map_cons, List.map_nil]); first | done | rfl | (simp only [List.length_drop, List.length_take]; rfl)) ?_
  with_reducible refine (impl_turned.calls a0_0 _ _ l0_1 a1 t738 _ ?side1 ?side2 A5.out).mono ?_
  (case side1 => repeat (first | exact (Kd.C_below HR0_1.out HB.out) | (with_reducible refine Kd.C_alloc ?_ _) | (with_reducible refine Kd.C_drewN ?_ _) | (with_reducible refine Kd.C_drew ?_)))
  (case side2 => exact HC0_1.out)
  rintro e w12 ⟨rfl, hb⟩
  refine ⟨_, rfl, ?_⟩
  have n0_ := Aside0.mk (blk_below (g := gb736) (o := .cells #[.int .i64 a0_0, .slice A0_1 l0_1.length c0_1] 30 (0, 0)) (viaB BK736.out) hb); have n1_ := Aside0.mk (below_step (viaX HB.out GE736.out) hb); clear BK736; clear HB; have BK736 := n0_; have HB := n1_; clear n0_ n1_
  (try clear hb)
  (try clear hb2)
  (try clear hk)
  (try clear hi)
  refine hK.out _ _ ⟨(blk_cell BK736.out 0).trans rfl, (blk_cell BK736.out 1).trans rfl⟩ (fun hHeld => ?_)
  clear hK K
  refine norm_ (a' := ?_) ?_ ?_
  rotate_left
  ·show Act.put _ (some 18) _ = _
   simp only [Act.put, List.setIfInBounds_toArray, List.set_cons_zero, List.set_cons_succ, i64_w, i32_w]
   rfl
  refine one_ (i := 4) (N := some 19) #[true, true, true, true, true, false] rfl rfl (by kernel_rfl) (by decide) (fun K hK => ?_)
  refine goes_ Try.func87 (by kernel_rfl) rfl #[.agg #[.int .i64 a0_0, .slice A0_1 l0_1.length c0_1], .int .i64 t738] (by rfl) rfl rfl (by (try simp only [List.map_toArray, List.map_cons, List.map_nil]); first | done | rfl | (simp only [List.length_drop, List.length_take]; rfl)) ?_
  with_reducible refine (impl_nextOf.calls k a0_0 _ _ l0_1 t738 t739 _ ?side1 ?side2 A6.out).mono ?_
  (case side1 => repeat (first | exact (Kd.C_below HR0_1.out HB.out) | (with_reducible refine Kd.C_alloc ?_ _) | (with_reducible refine Kd.C_drewN ?_ _) | (with_reducible refine Kd.C_drew ?_)))
  (case side2 => exact HC0_1.out)
  rintro e w13 ⟨v740, rfl, ho0, hb⟩
  refine ⟨_, rfl, ?_⟩
  have n0_ := Aside0.mk (Kd.R_lower ho0 (below_size (viaX HB.out GE736.out))); have n1_ := Aside0.mk (blk_below (g := gb736) (o := .cells #[.int .i64 a0_0, .slice A0_1 l0_1.length c0_1] 30 (0, 0)) (viaB BK736.out) hb); have n2_ := Aside0.mk (below_step (viaX HB.out GE736.out) hb); clear BK736; clear HB; have HO741 := n0_; have BK736 := n1_; have HB := n2_; clear n0_ n1_ n2_
  (try clear hb)
  (try clear hb2)
  (try clear hk)
  (try clear hi)
  (try clear ho0)
  refine hK.out _ _ ⟨(blk_cell BK736.out 0).trans rfl, (blk_cell BK736.out 1).trans rfl⟩ (fun hHeld => ?_)
  clear hK K
  refine norm_ (a' := ?_) ?_ ?_
  rotate_left
  ·show Act.put _ (some 19) _ = _
   simp only [Act.put, List.setIfInBounds_toArray, List.set_cons_zero, List.set_cons_succ, i64_w, i32_w]
   rfl
  refine pure_ (i := 5) (N := some 6) (v := ?_) (a' := ?_) #[true, true, true, true, true, true] rfl rfl (by kernel_rfl) (fun _ _ _ h => h) (Or.inl ⟨by rfl, ?_⟩) ?_ ?_
  rotate_left
  ·intro w'
   go_simp
   with_reducible rfl
  rotate_left
  ·simp only [Act.put, List.setIfInBounds_toArray, List.set_cons_zero, List.set_cons_succ, i64_w, i32_w]
   rfl
  refine done_ (by kernel_rfl) ?_
  have hcz14_0 : w13.cell? ⟨gb736, 0, none⟩ = some (.int .i64 a0_0) := (blk_cell BK736.out 0).trans rfl; have hcz14_1 : w13.cell? ⟨gb736, 1, none⟩ = some (.slice A0_1 l0_1.length c0_1) := (blk_cell BK736.out 1).trans rfl; have hfz14_0 := blk_frozen BK736.out 0; have hfz14_1 := blk_frozen BK736.out 1
  try go_wp2_with (first | ((with_reducible refine gate_callee (f := 90) rfl ?_); refine goesL_ (some 22) rfl rfl Try.func90 (by kernel_rfl) rfl #[.agg #[.int .i64 a0_0, .slice A0_1 l0_1.length c0_1], .int .i64 a1] rfl (by (try simp only [List.map_toArray, List.map_cons, List.map_nil]); first | done | rfl | (simp only [List.length_drop, List.length_take]; rfl)) ?_; (with_reducible refine (impl_blocksOf.calls k a0_0 _ _ l0_1 a1 t742 _ ?side1 ?side2 A7.out).mono ?_); (case side1 => repeat (first | exact (Kd.C_below HR0_1.out HB.out) | (with_reducible refine Kd.C_alloc ?_ _) | (with_reducible refine Kd.C_drewN ?_ _) | (with_reducible refine Kd.C_drew ?_))); (case side2 => exact HC0_1.out); rintro e w15 ⟨v743, rfl, ho0, hb⟩; refine ⟨_, rfl, ?_⟩; have n0_ := Aside0.mk (Kd.R_elder' (viaR HO741.out) (Kd.R_base ho0) hb); have n1_ := Aside0.mk (Kd.R_lower (Kd.R_new' ho0 (Kd.R_lt (viaR HO741.out))) (below_size (viaX HB.out GE736.out))); have n2_ := Aside0.mk (blk_below (g := gb736) (o := .cells #[.int .i64 a0_0, .slice A0_1 l0_1.length c0_1] 30 (0, 0)) (viaB BK736.out) hb); have n3_ := Aside0.mk (below_step (viaX HB.out GE736.out) hb); clear HO741; clear BK736; clear HB; have HO741 := n0_; have HO744 := n1_; have BK736 := n2_; have HB := n3_; clear n0_ n1_ n2_ n3_; (try clear hb); (try clear hb2); (try clear hk); (try clear hi); (try clear ho0); obtain ⟨Ao16, co16, eo16⟩ := Kd.R_slice HO744.out; subst eo16))
  go_loopg [7, 24] k (fun kq v7 v24 w' => ∃ (x7_1 : Int) (x24_1 : Int), v7 = .int .i64 x7_1 ∧ v24 = .int .i64 x24_1 ∧ Aside0 (impl_KernelRoots.l0 kq t739 x7_1 t742 (t742.length : Int) x24_1 = some (r1, r2)) ∧ Aside0 (kq ≤ k) ∧ Aside0 (Kd.R (Kd.int .i64) 3 w' w.heap.size (fun k_ => some k_ ≠ ((.slice Ao16 t742.length co16) : Value).ownBlock) v740 t739) ∧ Aside0 (Kd.R (Kd.int .i64) 3 w' w.heap.size (fun k_ => some k_ ≠ (v740 : Value).ownBlock) (.slice Ao16 t742.length co16) t742) ∧ Aside0 (w'.heap[gb736]? = some (.cells #[.int .i64 a0_0, (.slice A0_1 l0_1.length c0_1)] 30 (0, 0))) ∧ Aside0 (Below w.heap.size w w'))
  case atStart => exact ⟨(0), (0), (by first | rfl | (simp; done) | (simp [*]; done)), (by first | rfl | (simp; done) | (simp [*]; done)), H', ⟨Nat.le_refl _⟩, ⟨by (with_reducible repeat (first | apply Kd.R_alloc | apply Kd.R_drewN | apply Kd.R_drew)); exact Kd.R_mono HO741.out (fun _ hk => hk.2)⟩, ⟨by (with_reducible repeat (first | apply Kd.R_alloc | apply Kd.R_drewN | apply Kd.R_drew)); exact Kd.R_mono HO744.out (fun _ hk => hk.2)⟩, ⟨viaB BK736.out⟩, ⟨viaX HB.out GE736.out⟩⟩
  case round =>
   clear H'
   try clear p2
   try clear c4
   try clear c6
   try clear c7
   try clear c8
   try clear c9
   try clear hcz14_0
   try clear hcz14_1
   try clear hcz9_0
   try clear hcz9_1
   try clear hfz14_0
   try clear hfz14_1
   try clear hfz9_0
   try clear hfz9_1
   obtain ⟨x7_1, x24_1, rfl, rfl, HA, HK1, HO_6, HO_22, BK736, HB⟩ := hrel
   cases gk with
   | zero => exact absurd HA.out (by simp [impl_KernelRoots.l0])
   | succ k1 =>
    have H := HA.out; clear HA
    simp only [impl_KernelRoots.l0] at H
    by_cases c17 : x24_1 < (t742.length : Int)
    ·rw [if_pos c17] at H
     have c17b0 : decide (x24_1 < (t742.length : Int)) = true := decide_eq_true c17; clear c17
     by_cases c18 : 0 ≤ x24_1
     ·rw [if_pos c18] at H
      have c18b0 : decide (0 ≤ x24_1) = true := decide_eq_true c18; clear c18
      by_cases c19 : x24_1 < (t742.length : Int)
      ·rw [if_pos c19] at H
       have c19b0 : decide (x24_1 < (t742.length : Int)) = true := decide_eq_true c19; clear c19; have H' := Aside0.mk H; clear H; have p745 : 0 ≤ (x24_1 : Int) := of_decide_eq_true (by first | (with_reducible assumption) | assumption); have q745 : x24_1 < (t742.length : Int) := of_decide_eq_true (by first | (with_reducible assumption) | assumption); obtain ⟨ad745, e745, hx745_0⟩ := Kd.at_int (Kd.R_reads' HO_22.out).2.2 x24_1 p745 q745
       cases e745
       replace p745 := eq_true p745; replace q745 := eq_true q745
       go_wp2
       go_loopg [10] k1 (fun kq v10 w' => ∃ (x10_2 : Int), v10 = .int .i64 x10_2 ∧ Aside0 (impl_KernelRoots.l1 kq t739 x7_1 (rd t742 x24_1) x10_2 t742 (t742.length : Int) x24_1 = some (r1, r2)) ∧ Aside0 (kq ≤ k1) ∧ Aside0 (Kd.R (Kd.int .i64) 3 w' w.heap.size (fun k_ => some k_ ≠ ((.slice (some ad745) t742.length co16) : Value).ownBlock) v740 t739) ∧ Aside0 (Kd.R (Kd.int .i64) 3 w' w.heap.size (fun k_ => some k_ ≠ (v740 : Value).ownBlock) (.slice (some ad745) t742.length co16) t742) ∧ Aside0 (w'.heap[gb736]? = some (.cells #[.int .i64 a0_0, (.slice A0_1 l0_1.length c0_1)] 30 (0, 0))) ∧ Aside0 (Below w.heap.size w w'))
       case atStart => exact ⟨(0), (by first | rfl | (simp; done) | (simp [*]; done)), H', ⟨Nat.le_refl _⟩, ⟨viaR HO_6.out⟩, ⟨viaR HO_22.out⟩, ⟨viaB BK736.out⟩, ⟨viaX HB.out GE736.out⟩⟩
       case round =>
        clear H'
        try clear c1
        try clear p2
        try clear c4
        try clear c6
        try clear c7
        try clear p7
        try clear q7
        try clear hx7
        try clear c8
        try clear c9
        try clear c17
        try clear c17b0
        try clear c18
        try clear c18b0
        try clear c19
        try clear c19b0
        try clear hcz14_0
        try clear hcz14_1
        try clear hcz9_0
        try clear hcz9_1
        try clear hfz14_0
        try clear hfz14_1
        try clear hfz9_0
        try clear hfz9_1
        try clear hx745_0
        try clear p2
        try clear p745
        try clear q745
        obtain ⟨x10_2, rfl, HA, HK2, HO_6, HO_22, BK736, HB⟩ := hrel
        cases gk with
        | zero => exact absurd HA.out (by simp [impl_KernelRoots.l1])
        | succ k2 =>
         have H := HA.out; clear HA
         simp only [impl_KernelRoots.l1] at H
         by_cases c20 : 0 ≤ x10_2
         ·rw [if_pos c20] at H
          have c20b0 := eq_true c20; have c20b1 : decide (0 ≤ x10_2) = true := decide_eq_true c20; clear c20; obtain ⟨ji21, hji21⟩ : ∃ j_ : Int, (shr .i64 (rd t742 x24_1) x10_2) = j_ := ⟨_, rfl⟩; replace H : (if (Go.bits .and .i64 (ji21) 1) = 0 then (impl_KernelRoots.l1 k2 t739 x7_1 (rd t742 x24_1) (wrap64 (x10_2 + 1)) t742 (t742.length : Int) x24_1) else ((impl_reachOf.f k2 t739 x10_2).bind fun t746 => (if t746 = (rd t742 x24_1) then (impl_KernelRoots.l0 k2 t739 (wrap64 (x7_1 + 1)) t742 (t742.length : Int) (wrap64 (x24_1 + 1))) else (impl_KernelRoots.l0 k2 t739 x7_1 t742 (t742.length : Int) (wrap64 (x24_1 + 1)))))) = some (r1, r2) := by first | (rw [hji21] at H; exact H) | (simp only [hji21] at H ⊢; exact H)
          have hji21_ : ((rd t742 x24_1) / 2 ^ min x10_2.toNat 64) = ji21 := hji21; have hji21z : x10_2 ≤ 64 → ((rd t742 x24_1) / 2 ^ x10_2.toNat) = ji21 := shr_small hji21
          by_cases c22 : (Go.bits .and .i64 (ji21) 1) = 0
          ·rw [if_pos c22] at H
           have c22b0 : ((Go.bits .and .i64 (ji21) 1) == 0) = true := beq_iff_eq.mpr c22; have c22b1 : ((Go.bits .and .i64 (ji21) 1) != 0) = false := bne_eq_false_iff_eq.mpr c22; clear c22; have H' := Aside0.mk H; clear H
           go_wp2
           go_roundg k2
           case measure => have := HK1.out; have := HK2.out; omega
           case rel => exact ⟨(wrap64 (x10_2 + 1)), (by first | rfl | (simp; done) | (simp [*]; done)), H', ⟨by have := HK1.out; have := HK2.out; omega⟩, ⟨viaR HO_6.out⟩, ⟨viaR HO_22.out⟩, ⟨viaB BK736.out⟩, ⟨viaX HB.out GE736.out⟩⟩
          ·rw [if_neg c22] at H
           have c22b0 : ((Go.bits .and .i64 (ji21) 1) == 0) = false := beq_eq_false_iff_ne.mpr c22; have c22b1 : ((Go.bits .and .i64 (ji21) 1) != 0) = true := bne_iff_ne.mpr c22; replace H := Option.bind_eq_some_iff.mp H; obtain ⟨t746, A230, H⟩ := H; replace H : (if t746 = (rd t742 x24_1) then (impl_KernelRoots.l0 k2 t739 (wrap64 (x7_1 + 1)) t742 (t742.length : Int) (wrap64 (x24_1 + 1))) else (impl_KernelRoots.l0 k2 t739 x7_1 t742 (t742.length : Int) (wrap64 (x24_1 + 1)))) = some (r1, r2) := H; have A23 := Aside0.mk A230; clear A230
           by_cases c24 : t746 = (rd t742 x24_1)
           ·rw [if_pos c24] at H
            have c24b0 : (t746 == (rd t742 x24_1)) = true := beq_iff_eq.mpr c24; have c24b1 : (t746 != (rd t742 x24_1)) = false := bne_eq_false_iff_eq.mpr c24; clear c24; have H' := Aside0.mk H; clear H; obtain ⟨Ao25, co25, eo25⟩ := Kd.R_slice HO_6.out; subst eo25
            go_wp2_with (first | ((with_reducible refine gate_callee (f := 91) rfl ?_); refine goesL_ (some 37) rfl rfl Try.func91 (by kernel_rfl) rfl #[.slice Ao25 t739.length co25, .int .i64 x10_2] rfl (by (try simp only [List.map_toArray, List.map_cons, List.map_nil]); first | done | rfl | (simp only [List.length_drop, List.length_take]; rfl)) ?_; (with_reducible refine (impl_reachOf.calls k2 _ _ t739 x10_2 t746 _ ?side1 ?side2 A23.out).mono ?_); (case side1 => repeat (first | exact (Kd.R_reads' HO_6.out).2.2 | (with_reducible refine Kd.C_alloc ?_ _) | (with_reducible refine Kd.C_drewN ?_ _) | (with_reducible refine Kd.C_drew ?_))); (case side2 => exact (Kd.R_reads' HO_6.out).2.1); rintro e w' ⟨rfl, ⟨nd, rfl⟩⟩; refine ⟨_, rfl, ?_⟩))
            go_roundg k2
            case measure => have := HK1.out; have := HK2.out; omega
            case rel => exact ⟨(wrap64 (x7_1 + 1)), (wrap64 (x24_1 + 1)), (by first | rfl | (simp; done) | (simp [*]; done)), (by first | rfl | (simp; done) | (simp [*]; done)), H', ⟨by have := HK1.out; have := HK2.out; omega⟩, ⟨viaR HO_6.out⟩, ⟨viaR HO_22.out⟩, ⟨viaB BK736.out⟩, ⟨viaX HB.out GE736.out⟩⟩
           ·rw [if_neg c24] at H
            have c24b0 : (t746 == (rd t742 x24_1)) = false := beq_eq_false_iff_ne.mpr c24; have c24b1 : (t746 != (rd t742 x24_1)) = true := bne_iff_ne.mpr c24; have H' := Aside0.mk H; clear H; obtain ⟨Ao26, co26, eo26⟩ := Kd.R_slice HO_6.out; subst eo26
            go_wp2_with (first | ((with_reducible refine gate_callee (f := 91) rfl ?_); refine goesL_ (some 37) rfl rfl Try.func91 (by kernel_rfl) rfl #[.slice Ao26 t739.length co26, .int .i64 x10_2] rfl (by (try simp only [List.map_toArray, List.map_cons, List.map_nil]); first | done | rfl | (simp only [List.length_drop, List.length_take]; rfl)) ?_; (with_reducible refine (impl_reachOf.calls k2 _ _ t739 x10_2 t746 _ ?side1 ?side2 A23.out).mono ?_); (case side1 => repeat (first | exact (Kd.R_reads' HO_6.out).2.2 | (with_reducible refine Kd.C_alloc ?_ _) | (with_reducible refine Kd.C_drewN ?_ _) | (with_reducible refine Kd.C_drew ?_))); (case side2 => exact (Kd.R_reads' HO_6.out).2.1); rintro e w' ⟨rfl, ⟨nd, rfl⟩⟩; refine ⟨_, rfl, ?_⟩))
            go_roundg k2
            case measure => have := HK1.out; have := HK2.out; omega
            case rel => exact ⟨(x7_1), (wrap64 (x24_1 + 1)), (by first | rfl | (simp; done) | (simp [*]; done)), (by first | rfl | (simp; done) | (simp [*]; done)), H', ⟨by have := HK1.out; have := HK2.out; omega⟩, ⟨viaR HO_6.out⟩, ⟨viaR HO_22.out⟩, ⟨viaB BK736.out⟩, ⟨viaX HB.out GE736.out⟩⟩
         ·rw [if_neg c20] at H
          exact absurd H (by simp)
      ·rw [if_neg c19] at H
       exact absurd H (by simp)
     ·rw [if_neg c18] at H
      exact absurd H (by simp)
    ·rw [if_neg c17] at H
     have c17b0 : decide (x24_1 < (t742.length : Int)) = false := decide_eq_false c17; clear c17
     simp only [Option.some.injEq, Prod.mk.injEq] at H
     obtain ⟨rfl, rfl⟩ := H
     go_wp2
     go_ret2
     exact ⟨by first | rfl | (simp [errW_none, errW_some] <;> rfl) | (simp [*, errW_none, errW_some] <;> rfl), viaX HB.out GE736.out⟩
 ·replace c4 := Bool.eq_false_iff.mpr c4
  subst c4; have H1 : (some (0, false)) = some (r1, r2) := by rw [if_neg (show ¬ (false = true) by decide)] at H; exact H
  clear H; have H := H1; clear H1
  simp only [Option.some.injEq, Prod.mk.injEq] at H
  obtain ⟨rfl, rfl⟩ := H
  go_enter Try.func44, Try.ntmps44
  go_wp2_with (first | ((with_reducible refine gate_dst (N := 2) rfl ?_); refine box_event ?hg (N := 2) ?hd (cs := #[.int .i64 a0_0, .slice A0_1 l0_1.length c0_1]) (t := 30) ?hr ?_; (case hd => rfl); (case hg => rfl); (case hr => first | (go_simp; done) | (go_simp; rfl)); intro gb736 hg w27 hbox hb; have n0_ := Aside0.mk (below_step (viaW HB.out) hb); have n1_ := Aside0.mk (hbox); have n2_ := Aside0.mk ((by rw [hg]; exact (below_size (viaW HB.out)) : w.heap.size ≤ gb736)); have n3_ := Aside0.mk ((by rw [hg]; exact (below_size (viaW HB.out)) : w.heap.size ≤ gb736)); clear HB; have HB := n0_; have BK736 := n1_; have GW736 := n2_; have GE736 := n3_; clear n0_ n1_ n2_ n3_; clear hb hbox hg; have hcz28_0 : w27.cell? ⟨gb736, 0, none⟩ = some (.int .i64 a0_0) := (blk_cell BK736.out 0).trans rfl; have hcz28_1 : w27.cell? ⟨gb736, 1, none⟩ = some (.slice A0_1 l0_1.length c0_1) := (blk_cell BK736.out 1).trans rfl; have hfz28_0 := blk_frozen BK736.out 0; have hfz28_1 := blk_frozen BK736.out 1) | ((with_reducible refine gate_callee (f := 68) rfl ?_); refine goesL_ (some 13) rfl rfl Try.func68 (by kernel_rfl) rfl #[.agg #[.int .i64 a0_0, .slice A0_1 l0_1.length c0_1], .int .i64 a1] rfl (by (try simp only [List.map_toArray, List.map_cons, List.map_nil]); first | done | rfl | (simp only [List.length_drop, List.length_take]; rfl)) ?_; (with_reducible refine (impl_WayIn.calls k a0_0 _ _ l0_1 a1 false _ ?side1 ?side2 A3.out).mono ?_); (case side1 => repeat (first | exact (Kd.C_below HR0_1.out HB.out) | (with_reducible refine Kd.C_alloc ?_ _) | (with_reducible refine Kd.C_drewN ?_ _) | (with_reducible refine Kd.C_drew ?_))); (case side2 => exact HC0_1.out); rintro e w29 ⟨rfl, hb⟩; refine ⟨_, rfl, ?_⟩; have n0_ := Aside0.mk (blk_below (g := gb736) (o := .cells #[.int .i64 a0_0, .slice A0_1 l0_1.length c0_1] 30 (0, 0)) (viaB BK736.out) hb); have n1_ := Aside0.mk (below_step (viaX HB.out GE736.out) hb); clear BK736; clear HB; have BK736 := n0_; have HB := n1_; clear n0_ n1_; (try clear hb); (try clear hb2); (try clear hk); (try clear hi)))
  go_ret2
  exact ⟨by first | rfl | (simp [errW_none, errW_some] <;> rfl) | (simp [*, errW_none, errW_some] <;> rfl), viaX HB.out GE736.out⟩

end Go.Proofs.Ytfijegfjpagjoaa.G
