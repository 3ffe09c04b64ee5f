/- For each Go function named below: a plain Lean function of the same name, and the proof that a call of the Go function returns just what the plain function tells, where it tells something. Written by a program of this session with the printer of the kit. -/
import Derived.Test.YtfijegfjpagjoaaH0
import Derived.Test.YtfijegfjpagjoaaH2
import Derived.Test.YtfijegfjpagjoaaH3
import Derived.Test.YtfijegfjpagjoaaH36
import Derived.Test.YtfijegfjpagjoaaH37
namespace Go.Proofs.Ytfijegfjpagjoaa.G
open Go.RowKit Go.Proofs.YtfijegfjpagjoaaW.PrintWords Go.Proofs.YtfijegfjpagjoaaW.PrintLast Go.Proofs.YtfijegfjpagjoaaW.PrintMore
attribute [local go_sem] max2_int min2_int max_two min_two max_three min_three max_four min_four   -- for this text's walks alone
set_option linter.unusedVariables false
set_option linter.unusedSimpArgs false
/-! ### spec_l2Plain: function 129 -/
mutual
def spec_l2Plain.l0 : Nat → Int → Int → Int → Int → List (S44) → Option (Bool)
 | 0, _, _, _, _, _ => none
 | k + 1, x1, x5, x6, x587000, x587001 => if x6 < x587000 then (spec_l2Plain.l1 k x1 x5 x6 0 x587000 x587001) else (some (x5 == 0))
def spec_l2Plain.l1 : Nat → Int → Int → Int → Int → Int → List (S44) → Option (Bool)
 | 0, _, _, _, _, _, _ => none
 | k + 1, x1, x5, x6, x7, x587000, x587001 => if x7 < x587000 then (spec_l2Plain.l2 k x1 x5 x6 x7 true 0 x587000 x587001) else (spec_l2Plain.l0 k x1 x5 (wrap64 (x6 + 1)) x587000 x587001)
def spec_l2Plain.l2 : Nat → Int → Int → Int → Int → Bool → Int → Int → List (S44) → Option (Bool)
 | 0, _, _, _, _, _, _, _, _ => none
 | k + 1, x1, x5, x6, x7, x8, x9, x587000, x587001 => if x9 < (x587001.length : Int) then ((spec_l1Ends.f x587000 x587001 x1 x9).bind fun bt587 => (if bt587.1 = x7 then (if 0 ≤ bt587.2 then (if (Go.bits .and .i64 (shr .i64 x5 bt587.2) 1) = 1 then (spec_l2Plain.l2 k x1 x5 x6 x7 false (wrap64 (x9 + 1)) x587000 x587001) else (spec_l2Plain.l2 k x1 x5 x6 x7 x8 (wrap64 (x9 + 1)) x587000 x587001)) else (none)) else (spec_l2Plain.l2 k x1 x5 x6 x7 x8 (wrap64 (x9 + 1)) x587000 x587001))) else (if x8 = true then (if 0 ≤ x7 then (spec_l2Plain.l1 k x1 (Go.bits .andNot .i64 x5 (shl .i64 1 x7)) x6 (wrap64 (x7 + 1)) x587000 x587001) else (none)) else (spec_l2Plain.l1 k x1 x5 x6 (wrap64 (x7 + 1)) x587000 x587001))
end
def spec_l2Plain.f (k : Nat) (a0_0 : Int) (l0_1 : List (S44)) (a1 : Int) : Option (Bool) := if 0 ≤ a0_0 then (spec_l2Plain.l0 k a1 (wrap64 ((shl .i64 1 a0_0) - 1)) 0 a0_0 l0_1) else (none)
theorem spec_l2Plain.mono_l : ∀ k, (∀ y0 y1 y2 y3 y4, LeO (spec_l2Plain.l0 k y0 y1 y2 y3 y4) (spec_l2Plain.l0 (k + 1) y0 y1 y2 y3 y4)) ∧ (∀ y0 y1 y2 y3 y4 y5, LeO (spec_l2Plain.l1 k y0 y1 y2 y3 y4 y5) (spec_l2Plain.l1 (k + 1) y0 y1 y2 y3 y4 y5)) ∧ (∀ y0 y1 y2 y3 y4 y5 y6 y7, LeO (spec_l2Plain.l2 k y0 y1 y2 y3 y4 y5 y6 y7) (spec_l2Plain.l2 (k + 1) y0 y1 y2 y3 y4 y5 y6 y7))
 | 0 => ⟨fun _ _ _ _ _ r h => by simp [spec_l2Plain.l0] at h, fun _ _ _ _ _ _ r h => by simp [spec_l2Plain.l1] at h, fun _ _ _ _ _ _ _ _ r h => by simp [spec_l2Plain.l2] at h⟩
 | k + 1 => by
  obtain ⟨ih0, ih1, ih2⟩ := spec_l2Plain.mono_l k
  refine ⟨?_, ?_, ?_⟩
  ·intro y0 y1 y2 y3 y4
   unfold spec_l2Plain.l0
   repeat' first
   | (with_reducible exact ih0 _ _ _ _ _)
   | (with_reducible exact ih1 _ _ _ _ _ _)
   | (with_reducible exact ih2 _ _ _ _ _ _ _ _)
   | (with_reducible exact LeO.refl _)
   | (with_reducible exact LeO.none _)
   | (with_reducible refine LeO.ite ?_ ?_)
   | (with_reducible refine LeO.bind ?_ (fun _ => ?_))
   | exact ih0 _ _ _ _ _
   | exact ih1 _ _ _ _ _ _
   | exact ih2 _ _ _ _ _ _ _ _
   | exact LeO.none _
   | refine LeO.ite ?_ ?_
   | refine LeO.bind ?_ (fun _ => ?_)
  ·intro y0 y1 y2 y3 y4 y5
   unfold spec_l2Plain.l1
   repeat' first
   | (with_reducible exact ih0 _ _ _ _ _)
   | (with_reducible exact ih1 _ _ _ _ _ _)
   | (with_reducible exact ih2 _ _ _ _ _ _ _ _)
   | (with_reducible exact LeO.refl _)
   | (with_reducible exact LeO.none _)
   | (with_reducible refine LeO.ite ?_ ?_)
   | (with_reducible refine LeO.bind ?_ (fun _ => ?_))
   | exact ih0 _ _ _ _ _
   | exact ih1 _ _ _ _ _ _
   | exact ih2 _ _ _ _ _ _ _ _
   | exact LeO.none _
   | refine LeO.ite ?_ ?_
   | refine LeO.bind ?_ (fun _ => ?_)
  ·intro y0 y1 y2 y3 y4 y5 y6 y7
   unfold spec_l2Plain.l2
   repeat' first
   | (with_reducible exact ih0 _ _ _ _ _)
   | (with_reducible exact ih1 _ _ _ _ _ _)
   | (with_reducible exact ih2 _ _ _ _ _ _ _ _)
   | (with_reducible exact LeO.refl _)
   | (with_reducible exact LeO.none _)
   | (with_reducible refine LeO.ite ?_ ?_)
   | (with_reducible refine LeO.bind ?_ (fun _ => ?_))
   | exact ih0 _ _ _ _ _
   | exact ih1 _ _ _ _ _ _
   | exact ih2 _ _ _ _ _ _ _ _
   | exact LeO.none _
   | refine LeO.ite ?_ ?_
   | refine LeO.bind ?_ (fun _ => ?_)
theorem spec_l2Plain.mono : ∀ a0 a1 a2 k, LeO (spec_l2Plain.f k a0 a1 a2) (spec_l2Plain.f (k + 1) a0 a1 a2) := by
 intro a0 a1 a2 k; obtain ⟨ih0, ih1, ih2⟩ := spec_l2Plain.mono_l k
 unfold spec_l2Plain.f
 repeat' first
   | (with_reducible exact ih0 _ _ _ _ _)
   | (with_reducible exact ih1 _ _ _ _ _ _)
   | (with_reducible exact ih2 _ _ _ _ _ _ _ _)
   | (with_reducible exact LeO.refl _)
   | (with_reducible exact LeO.none _)
   | (with_reducible refine LeO.ite ?_ ?_)
   | (with_reducible refine LeO.bind ?_ (fun _ => ?_))
   | exact ih0 _ _ _ _ _
   | exact ih1 _ _ _ _ _ _
   | exact ih2 _ _ _ _ _ _ _ _
   | exact LeO.none _
   | refine LeO.ite ?_ ?_
   | refine LeO.bind ?_ (fun _ => ?_)
set_option maxHeartbeats 8000000 in
set_option maxRecDepth 100000 in
theorem spec_l2Plain.calls (k : Nat) (a0_0 : Int) (A0_1 : Option Addr) (c0_1 : Nat) (l0_1 : List (S44)) (a1 : Int) (r : Bool) (w : World) (hr0_1 : Kd.C k44 w A0_1 l0_1.length l0_1) (hc0_1 : l0_1.length ≤ c0_1) (h : spec_l2Plain.f k a0_0 l0_1 a1 = some r) :
  Calls Try.prog 129 #[.agg #[.int .i64 a0_0, .slice A0_1 l0_1.length c0_1], .int .i64 a1] w fun e w' => e = .returned (.bool r) ∧ Below w.heap.size w w' := by
 have hu30 := Try.underlying30; have HR0_1 := Aside0.mk hr0_1; have HC0_1 := Aside0.mk hc0_1; clear hr0_1 hc0_1; have HB := Aside0.mk (Below.refl w.heap.size w); have H : (if 0 ≤ a0_0 then (spec_l2Plain.l0 k a1 (wrap64 ((shl .i64 1 a0_0) - 1)) 0 a0_0 l0_1) else (none)) = some r := h; clear h
 by_cases c3 : 0 ≤ a0_0
 ·rw [if_pos c3] at H
  have c3b0 := eq_true c3; have c3b1 : decide (0 ≤ a0_0) = true := decide_eq_true c3; clear c3; obtain ⟨ji4, hji4⟩ : ∃ j_ : Int, (shl .i64 1 a0_0) = j_ := ⟨_, rfl⟩; replace H : (spec_l2Plain.l0 k a1 (wrap64 ((ji4) - 1)) 0 a0_0 l0_1) = some r := by first | (rw [hji4] at H; exact H) | (simp only [hji4] at H ⊢; exact H)
  have hji4_ : (IntKind.i64.wrap (1 * 2 ^ min a0_0.toNat 64)) = ji4 := hji4; have hji4z : a0_0 ≤ 64 → (IntKind.i64.wrap (1 * 2 ^ a0_0.toNat)) = ji4 := shl_small hji4; have hji4u : (IntKind.i64.wrap (2 ^ min a0_0.toNat 64)) = ji4 := by have h_ := hji4_; rw [Int.one_mul] at h_; exact h_
  have hji4v : a0_0 ≤ 64 → (IntKind.i64.wrap (2 ^ a0_0.toNat)) = ji4 := fun hle_ => by have h_ := hji4z hle_; rw [Int.one_mul] at h_; exact h_
  have hji4y : (wrap64 (1 * 2 ^ min a0_0.toNat 64)) = ji4 := (i64_w _).symm.trans hji4_; have hji4x : a0_0 ≤ 64 → (wrap64 (1 * 2 ^ a0_0.toNat)) = ji4 := fun h_ => (i64_w _).symm.trans (hji4z h_); have H' := Aside0.mk H; clear H
  go_enter Try.func129, Try.ntmps129
  go_wp2_with (first | ((with_reducible refine gate_dst (N := 2) rfl ?_); refine box_event ?hg (N := 2) ?hd (cs := #[.int .i64 a0_0, .slice A0_1 l0_1.length c0_1]) (t := 30) ?hr ?_; (case hd => rfl); (case hg => rfl); (case hr => first | (go_simp; done) | (go_simp; rfl)); intro gb586 hg w5 hbox hb; have n0_ := Aside0.mk (below_step (viaW HB.out) hb); have n1_ := Aside0.mk (hbox); have n2_ := Aside0.mk ((by rw [hg]; exact (below_size (viaW HB.out)) : w.heap.size ≤ gb586)); have n3_ := Aside0.mk ((by rw [hg]; exact (below_size (viaW HB.out)) : w.heap.size ≤ gb586)); clear HB; have HB := n0_; have BK586 := n1_; have GW586 := n2_; have GE586 := n3_; clear n0_ n1_ n2_ n3_; clear hb hbox hg; have hcz6_0 : w5.cell? ⟨gb586, 0, none⟩ = some (.int .i64 a0_0) := (blk_cell BK586.out 0).trans rfl; have hcz6_1 : w5.cell? ⟨gb586, 1, none⟩ = some (.slice A0_1 l0_1.length c0_1) := (blk_cell BK586.out 1).trans rfl; have hfz6_0 := blk_frozen BK586.out 0; have hfz6_1 := blk_frozen BK586.out 1))
  go_loopg [5, 6] k (fun kq v5 v6 w' => ∃ (x5_1 : Int) (x6_1 : Int), v5 = .int .i64 x5_1 ∧ v6 = .int .i64 x6_1 ∧ Aside0 (spec_l2Plain.l0 kq a1 x5_1 x6_1 a0_0 l0_1 = some r) ∧ Aside0 (kq ≤ k) ∧ Aside0 (w'.heap[gb586]? = some (.cells #[.int .i64 a0_0, (.slice A0_1 l0_1.length c0_1)] 30 (0, 0))) ∧ Aside0 (Below w.heap.size w w'))
  case atStart => exact ⟨(wrap64 ((ji4) - 1)), (0), (by first | rfl | (simp; done) | (simp only [← hji4] <;> (first | rfl | simp)) | (simp [*]; done)), (by first | rfl | (simp; done) | (simp [*]; done)), H', ⟨Nat.le_refl _⟩, ⟨viaB BK586.out⟩, ⟨viaX HB.out GE586.out⟩⟩
  case round =>
   clear H'
   try clear c1
   try clear p2
   try clear c3
   try clear c3b0
   try clear c3b1
   try clear p6
   try clear hcz6_0
   try clear hcz6_1
   try clear hfz6_0
   try clear hfz6_1
   obtain ⟨x5_1, x6_1, rfl, rfl, HA, HK1, BK586, HB⟩ := hrel
   cases gk with
   | zero => exact absurd HA.out (by simp [spec_l2Plain.l0])
   | succ k1 =>
    have H := HA.out; clear HA
    simp only [spec_l2Plain.l0] at H
    by_cases c7 : x6_1 < a0_0
    ·rw [if_pos c7] at H
     have c7b0 : decide (x6_1 < a0_0) = true := decide_eq_true c7; clear c7; have H' := Aside0.mk H; clear H; have hcz8_0 : wr.cell? ⟨gb586, 0, none⟩ = some (.int .i64 a0_0) := (blk_cell BK586.out 0).trans rfl; have hcz8_1 : wr.cell? ⟨gb586, 1, none⟩ = some (.slice A0_1 l0_1.length c0_1) := (blk_cell BK586.out 1).trans rfl; have hfz8_0 := blk_frozen BK586.out 0; have hfz8_1 := blk_frozen BK586.out 1
     go_wp2
     go_loopg [5, 7] k1 (fun kq v5 v7 w' => ∃ (x5_2 : Int) (x7_2 : Int), v5 = .int .i64 x5_2 ∧ v7 = .int .i64 x7_2 ∧ Aside0 (spec_l2Plain.l1 kq a1 x5_2 x6_1 x7_2 a0_0 l0_1 = some r) ∧ Aside0 (kq ≤ k1) ∧ Aside0 (w'.heap[gb586]? = some (.cells #[.int .i64 a0_0, (.slice A0_1 l0_1.length c0_1)] 30 (0, 0))) ∧ Aside0 (Below w.heap.size w w'))
     case atStart => exact ⟨(x5_1), (0), (by first | rfl | (simp; done) | (simp [*]; done)), (by first | rfl | (simp; done) | (simp [*]; done)), H', ⟨Nat.le_refl _⟩, ⟨viaB BK586.out⟩, ⟨viaX HB.out GE586.out⟩⟩
     case round =>
      clear H'
      try clear c1
      try clear p2
      try clear c3
      try clear c3b0
      try clear c3b1
      try clear p6
      try clear c7
      try clear c7b0
      try clear hcz6_0
      try clear hcz6_1
      try clear hcz8_0
      try clear hcz8_1
      try clear hfz6_0
      try clear hfz6_1
      try clear hfz8_0
      try clear hfz8_1
      try clear p2
      try clear p6
      obtain ⟨x5_2, x7_2, rfl, rfl, HA, HK2, BK586, HB⟩ := hrel
      cases gk with
      | zero => exact absurd HA.out (by simp [spec_l2Plain.l1])
      | succ k2 =>
       have H := HA.out; clear HA
       simp only [spec_l2Plain.l1] at H
       by_cases c9 : x7_2 < a0_0
       ·rw [if_pos c9] at H
        have c9b0 : decide (x7_2 < a0_0) = true := decide_eq_true c9; clear c9; have H' := Aside0.mk H; clear H; have hcz10_0 : wr.cell? ⟨gb586, 0, none⟩ = some (.int .i64 a0_0) := (blk_cell BK586.out 0).trans rfl; have hcz10_1 : wr.cell? ⟨gb586, 1, none⟩ = some (.slice A0_1 l0_1.length c0_1) := (blk_cell BK586.out 1).trans rfl; have hfz10_0 := blk_frozen BK586.out 0; have hfz10_1 := blk_frozen BK586.out 1
        go_wp2
        go_loopg [8, 9] k2 (fun kq v8 v9 w' => ∃ (x8_3 : Bool) (x9_3 : Int), v8 = .bool x8_3 ∧ v9 = .int .i64 x9_3 ∧ Aside0 (spec_l2Plain.l2 kq a1 x5_2 x6_1 x7_2 x8_3 x9_3 a0_0 l0_1 = some r) ∧ Aside0 (kq ≤ k2) ∧ Aside0 (w'.heap[gb586]? = some (.cells #[.int .i64 a0_0, (.slice A0_1 l0_1.length c0_1)] 30 (0, 0))) ∧ Aside0 (Below w.heap.size w w'))
        case atStart => exact ⟨(true), (0), (by first | rfl | (simp; done) | (simp [*]; done)), (by first | rfl | (simp; done) | (simp [*]; done)), H', ⟨Nat.le_refl _⟩, ⟨viaB BK586.out⟩, ⟨viaX HB.out GE586.out⟩⟩
        case round =>
         clear H'
         try clear c1
         try clear p2
         try clear c3
         try clear c3b0
         try clear c3b1
         try clear p6
         try clear c7
         try clear c7b0
         try clear c9
         try clear c9b0
         try clear hcz10_0
         try clear hcz10_1
         try clear hcz6_0
         try clear hcz6_1
         try clear hcz8_0
         try clear hcz8_1
         try clear hfz10_0
         try clear hfz10_1
         try clear hfz6_0
         try clear hfz6_1
         try clear hfz8_0
         try clear hfz8_1
         try clear p2
         try clear p6
         obtain ⟨x8_3, x9_3, rfl, rfl, HA, HK3, BK586, HB⟩ := hrel
         cases gk with
         | zero => exact absurd HA.out (by simp [spec_l2Plain.l2])
         | succ k3 =>
          have H := HA.out; clear HA
          simp only [spec_l2Plain.l2] at H
          by_cases c11 : x9_3 < (l0_1.length : Int)
          ·rw [if_pos c11] at H
           have c11b0 : decide (x9_3 < (l0_1.length : Int)) = true := decide_eq_true c11; clear c11; replace H := Option.bind_eq_some_iff.mp H; obtain ⟨⟨t587, t588⟩, A120, H⟩ := H; replace H : (if t587 = x7_2 then (if 0 ≤ t588 then (if (Go.bits .and .i64 (shr .i64 x5_2 t588) 1) = 1 then (spec_l2Plain.l2 k3 a1 x5_2 x6_1 x7_2 false (wrap64 (x9_3 + 1)) a0_0 l0_1) else (spec_l2Plain.l2 k3 a1 x5_2 x6_1 x7_2 x8_3 (wrap64 (x9_3 + 1)) a0_0 l0_1)) else (none)) else (spec_l2Plain.l2 k3 a1 x5_2 x6_1 x7_2 x8_3 (wrap64 (x9_3 + 1)) a0_0 l0_1)) = some r := H; have A12 := Aside0.mk A120; clear A120
           by_cases c13 : t587 = x7_2
           ·rw [if_pos c13] at H
            have c13b0 : (t587 == x7_2) = true := beq_iff_eq.mpr c13; have c13b1 : (t587 != x7_2) = false := bne_eq_false_iff_eq.mpr c13; clear c13
            by_cases c14 : 0 ≤ t588
            ·rw [if_pos c14] at H
             have c14b0 := eq_true c14; have c14b1 : decide (0 ≤ t588) = true := decide_eq_true c14; clear c14; obtain ⟨ji15, hji15⟩ : ∃ j_ : Int, (shr .i64 x5_2 t588) = j_ := ⟨_, rfl⟩; replace H : (if (Go.bits .and .i64 (ji15) 1) = 1 then (spec_l2Plain.l2 k3 a1 x5_2 x6_1 x7_2 false (wrap64 (x9_3 + 1)) a0_0 l0_1) else (spec_l2Plain.l2 k3 a1 x5_2 x6_1 x7_2 x8_3 (wrap64 (x9_3 + 1)) a0_0 l0_1)) = some r := by first | (rw [hji15] at H; exact H) | (simp only [hji15] at H ⊢; exact H)
             (try rw [hji15] at A12)
             have hji15_ : (x5_2 / 2 ^ min t588.toNat 64) = ji15 := hji15; have hji15z : t588 ≤ 64 → (x5_2 / 2 ^ t588.toNat) = ji15 := shr_small hji15
             by_cases c16 : (Go.bits .and .i64 (ji15) 1) = 1
             ·rw [if_pos c16] at H
              have c16b0 : ((Go.bits .and .i64 (ji15) 1) == 1) = true := beq_iff_eq.mpr c16; have c16b1 : ((Go.bits .and .i64 (ji15) 1) != 1) = false := bne_eq_false_iff_eq.mpr c16; clear c16; have H' := Aside0.mk H; clear H; have hcz17_0 : wr.cell? ⟨gb586, 0, none⟩ = some (.int .i64 a0_0) := (blk_cell BK586.out 0).trans rfl; have hcz17_1 : wr.cell? ⟨gb586, 1, none⟩ = some (.slice A0_1 l0_1.length c0_1) := (blk_cell BK586.out 1).trans rfl; have hfz17_0 := blk_frozen BK586.out 0; have hfz17_1 := blk_frozen BK586.out 1
              go_wp2_with (first | ((with_reducible refine gate_callee (f := 86) rfl ?_); refine goesL_ (some 39) rfl rfl Try.func86 (by kernel_rfl) rfl #[.agg #[.int .i64 a0_0, .slice A0_1 l0_1.length c0_1], .int .i64 a1, .int .i64 x9_3] rfl (by (try simp only [List.map_toArray, List.map_cons, List.map_nil]); first | done | rfl) ?_; (with_reducible refine (spec_l1Ends.calls a0_0 _ _ l0_1 a1 x9_3 t587 t588 _ ?side1 ?side2 A12.out).mono ?_); (case side1 => exact viaC (Kd.C_below HR0_1.out HB.out)); (case side2 => exact HC0_1.out); rintro e w18 ⟨rfl, hb⟩; refine ⟨_, rfl, ?_⟩; have n0_ := Aside0.mk (blk_below (g := gb586) (o := .cells #[.int .i64 a0_0, .slice A0_1 l0_1.length c0_1] 30 (0, 0)) (viaB BK586.out) hb); have n1_ := Aside0.mk (below_step (viaX HB.out GE586.out) hb); clear BK586; clear HB; have BK586 := n0_; have HB := n1_; clear n0_ n1_; (try clear hb); (try clear hb2); (try clear hk); (try clear hi)))
              go_roundg k3
              case measure => have := HK1.out; have := HK2.out; have := HK3.out; omega
              case rel => exact ⟨(false), (wrap64 (x9_3 + 1)), (by first | rfl | (simp; done) | (simp [*]; done)), (by first | rfl | (simp; done) | (simp [*]; done)), H', ⟨by have := HK1.out; have := HK2.out; have := HK3.out; omega⟩, ⟨viaB BK586.out⟩, ⟨viaX HB.out GE586.out⟩⟩
             ·rw [if_neg c16] at H
              have c16b0 : ((Go.bits .and .i64 (ji15) 1) == 1) = false := beq_eq_false_iff_ne.mpr c16; have c16b1 : ((Go.bits .and .i64 (ji15) 1) != 1) = true := bne_iff_ne.mpr c16; have H' := Aside0.mk H; clear H; have hcz19_0 : wr.cell? ⟨gb586, 0, none⟩ = some (.int .i64 a0_0) := (blk_cell BK586.out 0).trans rfl; have hcz19_1 : wr.cell? ⟨gb586, 1, none⟩ = some (.slice A0_1 l0_1.length c0_1) := (blk_cell BK586.out 1).trans rfl; have hfz19_0 := blk_frozen BK586.out 0; have hfz19_1 := blk_frozen BK586.out 1
              go_wp2_with (first | ((with_reducible refine gate_callee (f := 86) rfl ?_); refine goesL_ (some 39) rfl rfl Try.func86 (by kernel_rfl) rfl #[.agg #[.int .i64 a0_0, .slice A0_1 l0_1.length c0_1], .int .i64 a1, .int .i64 x9_3] rfl (by (try simp only [List.map_toArray, List.map_cons, List.map_nil]); first | done | rfl) ?_; (with_reducible refine (spec_l1Ends.calls a0_0 _ _ l0_1 a1 x9_3 t587 t588 _ ?side1 ?side2 A12.out).mono ?_); (case side1 => exact viaC (Kd.C_below HR0_1.out HB.out)); (case side2 => exact HC0_1.out); rintro e w20 ⟨rfl, hb⟩; refine ⟨_, rfl, ?_⟩; have n0_ := Aside0.mk (blk_below (g := gb586) (o := .cells #[.int .i64 a0_0, .slice A0_1 l0_1.length c0_1] 30 (0, 0)) (viaB BK586.out) hb); have n1_ := Aside0.mk (below_step (viaX HB.out GE586.out) hb); clear BK586; clear HB; have BK586 := n0_; have HB := n1_; clear n0_ n1_; (try clear hb); (try clear hb2); (try clear hk); (try clear hi)))
              go_roundg k3
              case measure => have := HK1.out; have := HK2.out; have := HK3.out; omega
              case rel => exact ⟨(x8_3), (wrap64 (x9_3 + 1)), (by first | rfl | (simp; done) | (simp [*]; done)), (by first | rfl | (simp; done) | (simp [*]; done)), H', ⟨by have := HK1.out; have := HK2.out; have := HK3.out; omega⟩, ⟨viaB BK586.out⟩, ⟨viaX HB.out GE586.out⟩⟩
            ·rw [if_neg c14] at H
             exact absurd H (by simp)
           ·rw [if_neg c13] at H
            have c13b0 : (t587 == x7_2) = false := beq_eq_false_iff_ne.mpr c13; have c13b1 : (t587 != x7_2) = true := bne_iff_ne.mpr c13; have H' := Aside0.mk H; clear H; have hcz21_0 : wr.cell? ⟨gb586, 0, none⟩ = some (.int .i64 a0_0) := (blk_cell BK586.out 0).trans rfl; have hcz21_1 : wr.cell? ⟨gb586, 1, none⟩ = some (.slice A0_1 l0_1.length c0_1) := (blk_cell BK586.out 1).trans rfl; have hfz21_0 := blk_frozen BK586.out 0; have hfz21_1 := blk_frozen BK586.out 1
            go_wp2_with (first | ((with_reducible refine gate_callee (f := 86) rfl ?_); refine goesL_ (some 39) rfl rfl Try.func86 (by kernel_rfl) rfl #[.agg #[.int .i64 a0_0, .slice A0_1 l0_1.length c0_1], .int .i64 a1, .int .i64 x9_3] rfl (by (try simp only [List.map_toArray, List.map_cons, List.map_nil]); first | done | rfl) ?_; (with_reducible refine (spec_l1Ends.calls a0_0 _ _ l0_1 a1 x9_3 t587 t588 _ ?side1 ?side2 A12.out).mono ?_); (case side1 => exact viaC (Kd.C_below HR0_1.out HB.out)); (case side2 => exact HC0_1.out); rintro e w22 ⟨rfl, hb⟩; refine ⟨_, rfl, ?_⟩; have n0_ := Aside0.mk (blk_below (g := gb586) (o := .cells #[.int .i64 a0_0, .slice A0_1 l0_1.length c0_1] 30 (0, 0)) (viaB BK586.out) hb); have n1_ := Aside0.mk (below_step (viaX HB.out GE586.out) hb); clear BK586; clear HB; have BK586 := n0_; have HB := n1_; clear n0_ n1_; (try clear hb); (try clear hb2); (try clear hk); (try clear hi)))
            go_roundg k3
            case measure => have := HK1.out; have := HK2.out; have := HK3.out; omega
            case rel => exact ⟨(x8_3), (wrap64 (x9_3 + 1)), (by first | rfl | (simp; done) | (simp [*]; done)), (by first | rfl | (simp; done) | (simp [*]; done)), H', ⟨by have := HK1.out; have := HK2.out; have := HK3.out; omega⟩, ⟨viaB BK586.out⟩, ⟨viaX HB.out GE586.out⟩⟩
          ·rw [if_neg c11] at H
           have c11b0 : decide (x9_3 < (l0_1.length : Int)) = false := decide_eq_false c11; clear c11
           by_cases c23 : x8_3 = true
           ·subst c23
            have H1 : (if 0 ≤ x7_2 then (spec_l2Plain.l1 k3 a1 (Go.bits .andNot .i64 x5_2 (shl .i64 1 x7_2)) x6_1 (wrap64 (x7_2 + 1)) a0_0 l0_1) else (none)) = some r := by rw [if_pos rfl] at H; exact H
            clear H; have H := H1; clear H1
            by_cases c24 : 0 ≤ x7_2
            ·rw [if_pos c24] at H
             have c24b0 := eq_true c24; have c24b1 : decide (0 ≤ x7_2) = true := decide_eq_true c24; clear c24; obtain ⟨ji25, hji25⟩ : ∃ j_ : Int, (shl .i64 1 x7_2) = j_ := ⟨_, rfl⟩; replace H : (spec_l2Plain.l1 k3 a1 (Go.bits .andNot .i64 x5_2 (ji25)) x6_1 (wrap64 (x7_2 + 1)) a0_0 l0_1) = some r := by first | (rw [hji25] at H; exact H) | (simp only [hji25] at H ⊢; exact H)
             have hji25_ : (IntKind.i64.wrap (1 * 2 ^ min x7_2.toNat 64)) = ji25 := hji25; have hji25z : x7_2 ≤ 64 → (IntKind.i64.wrap (1 * 2 ^ x7_2.toNat)) = ji25 := shl_small hji25; have hji25u : (IntKind.i64.wrap (2 ^ min x7_2.toNat 64)) = ji25 := by have h_ := hji25_; rw [Int.one_mul] at h_; exact h_
             have hji25v : x7_2 ≤ 64 → (IntKind.i64.wrap (2 ^ x7_2.toNat)) = ji25 := fun hle_ => by have h_ := hji25z hle_; rw [Int.one_mul] at h_; exact h_
             have hji25y : (wrap64 (1 * 2 ^ min x7_2.toNat 64)) = ji25 := (i64_w _).symm.trans hji25_; have hji25x : x7_2 ≤ 64 → (wrap64 (1 * 2 ^ x7_2.toNat)) = ji25 := fun h_ => (i64_w _).symm.trans (hji25z h_); have H' := Aside0.mk H; clear H; have hcz26_0 : wr.cell? ⟨gb586, 0, none⟩ = some (.int .i64 a0_0) := (blk_cell BK586.out 0).trans rfl; have hcz26_1 : wr.cell? ⟨gb586, 1, none⟩ = some (.slice A0_1 l0_1.length c0_1) := (blk_cell BK586.out 1).trans rfl; have hfz26_0 := blk_frozen BK586.out 0; have hfz26_1 := blk_frozen BK586.out 1
             go_wp2
             go_roundg k3
             case measure => have := HK1.out; have := HK2.out; have := HK3.out; omega
             case rel => exact ⟨(Go.bits .andNot .i64 x5_2 (ji25)), (wrap64 (x7_2 + 1)), (by first | rfl | (simp; done) | (simp only [← hji25] <;> (first | rfl | simp)) | (simp [*]; done)), (by first | rfl | (simp; done) | (simp [*]; done)), H', ⟨by have := HK1.out; have := HK2.out; have := HK3.out; omega⟩, ⟨viaB BK586.out⟩, ⟨viaX HB.out GE586.out⟩⟩
            ·rw [if_neg c24] at H
             exact absurd H (by simp)
           ·replace c23 := Bool.eq_false_iff.mpr c23
            subst c23; have H1 : (spec_l2Plain.l1 k3 a1 x5_2 x6_1 (wrap64 (x7_2 + 1)) a0_0 l0_1) = some r := by rw [if_neg (show ¬ (false = true) by decide)] at H; exact H
            clear H; have H := H1; clear H1; have H' := Aside0.mk H; clear H; have hcz27_0 : wr.cell? ⟨gb586, 0, none⟩ = some (.int .i64 a0_0) := (blk_cell BK586.out 0).trans rfl; have hcz27_1 : wr.cell? ⟨gb586, 1, none⟩ = some (.slice A0_1 l0_1.length c0_1) := (blk_cell BK586.out 1).trans rfl; have hfz27_0 := blk_frozen BK586.out 0; have hfz27_1 := blk_frozen BK586.out 1
            go_wp2
            go_roundg k3
            case measure => have := HK1.out; have := HK2.out; have := HK3.out; omega
            case rel => exact ⟨(x5_2), (wrap64 (x7_2 + 1)), (by first | rfl | (simp; done) | (simp [*]; done)), (by first | rfl | (simp; done) | (simp [*]; done)), H', ⟨by have := HK1.out; have := HK2.out; have := HK3.out; omega⟩, ⟨viaB BK586.out⟩, ⟨viaX HB.out GE586.out⟩⟩
       ·rw [if_neg c9] at H
        have c9b0 : decide (x7_2 < a0_0) = false := decide_eq_false c9; clear c9; have H' := Aside0.mk H; clear H; have hcz28_0 : wr.cell? ⟨gb586, 0, none⟩ = some (.int .i64 a0_0) := (blk_cell BK586.out 0).trans rfl; have hcz28_1 : wr.cell? ⟨gb586, 1, none⟩ = some (.slice A0_1 l0_1.length c0_1) := (blk_cell BK586.out 1).trans rfl; have hfz28_0 := blk_frozen BK586.out 0; have hfz28_1 := blk_frozen BK586.out 1
        go_wp2
        go_roundg k2
        case measure => have := HK1.out; have := HK2.out; omega
        case rel => exact ⟨(x5_2), (wrap64 (x6_1 + 1)), (by first | rfl | (simp; done) | (simp [*]; done)), (by first | rfl | (simp; done) | (simp [*]; done)), H', ⟨by have := HK1.out; have := HK2.out; omega⟩, ⟨viaB BK586.out⟩, ⟨viaX HB.out GE586.out⟩⟩
    ·rw [if_neg c7] at H
     have c7b0 : decide (x6_1 < a0_0) = false := decide_eq_false c7; clear c7; obtain rfl := Option.some.inj H; have hcz29_0 : wr.cell? ⟨gb586, 0, none⟩ = some (.int .i64 a0_0) := (blk_cell BK586.out 0).trans rfl; have hcz29_1 : wr.cell? ⟨gb586, 1, none⟩ = some (.slice A0_1 l0_1.length c0_1) := (blk_cell BK586.out 1).trans rfl; have hfz29_0 := blk_frozen BK586.out 0; have hfz29_1 := blk_frozen BK586.out 1
     go_wp2
     go_ret
     exact ⟨by first | rfl | (simp [errW_none, errW_some] <;> rfl) | (simp only [← hji4]; first | rfl | (simp [errW_none, errW_some] <;> rfl)) | (simp [*, errW_none, errW_some] <;> rfl), viaX HB.out GE586.out⟩
 ·rw [if_neg c3] at H
  exact absurd H (by simp)
/-! ### spec_PlainIn: function 120 -/
def spec_PlainIn.f (k : Nat) (a0_0 : Int) (l0_1 : List (S44)) (a1 : Int) : Option (Bool) := (spec_WayIn.f k a0_0 l0_1 a1).bind fun t590 => (if t590 = true then ((spec_l2Plain.f k a0_0 l0_1 a1).bind fun t591 => (some t591)) else (some false))
theorem spec_PlainIn.mono : ∀ a0 a1 a2 k, LeO (spec_PlainIn.f k a0 a1 a2) (spec_PlainIn.f (k + 1) a0 a1 a2) := by
 intro a0 a1 a2 k
 unfold spec_PlainIn.f
 repeat' first
   | (with_reducible exact spec_WayIn.mono _ _ _ _)
   | (with_reducible exact spec_l2Plain.mono _ _ _ _)
   | (with_reducible exact LeO.refl _)
   | (with_reducible exact LeO.none _)
   | (with_reducible refine LeO.ite ?_ ?_)
   | (with_reducible refine LeO.bind ?_ (fun _ => ?_))
   | exact spec_WayIn.mono _ _ _ _
   | exact spec_l2Plain.mono _ _ _ _
   | exact LeO.none _
   | refine LeO.ite ?_ ?_
   | refine LeO.bind ?_ (fun _ => ?_)
set_option maxHeartbeats 8000000 in
set_option maxRecDepth 100000 in
theorem spec_PlainIn.calls (k : Nat) (a0_0 : Int) (A0_1 : Option Addr) (c0_1 : Nat) (l0_1 : List (S44)) (a1 : Int) (r : Bool) (w : World) (hr0_1 : Kd.C k44 w A0_1 l0_1.length l0_1) (hc0_1 : l0_1.length ≤ c0_1) (h : spec_PlainIn.f k a0_0 l0_1 a1 = some r) :
  Calls Try.prog 120 #[.agg #[.int .i64 a0_0, .slice A0_1 l0_1.length c0_1], .int .i64 a1] w fun e w' => e = .returned (.bool r) ∧ Below w.heap.size w w' := by
 have hu30 := Try.underlying30; have HR0_1 := Aside0.mk hr0_1; have HC0_1 := Aside0.mk hc0_1; clear hr0_1 hc0_1; have HB := Aside0.mk (Below.refl w.heap.size w); have H : ((spec_WayIn.f k a0_0 l0_1 a1).bind fun t590 => (if t590 = true then ((spec_l2Plain.f k a0_0 l0_1 a1).bind fun t591 => (some t591)) else (some false))) = some r := h; clear h; replace H := Option.bind_eq_some_iff.mp H; obtain ⟨t590, A30, H⟩ := H; replace H : (if t590 = true then ((spec_l2Plain.f k a0_0 l0_1 a1).bind fun t591 => (some t591)) else (some false)) = some r := H; have A3 := Aside0.mk A30; clear A30
 by_cases c4 : t590 = true
 ·subst c4
  have H1 : ((spec_l2Plain.f k a0_0 l0_1 a1).bind fun t591 => (some t591)) = some r := by rw [if_pos rfl] at H; exact H
  clear H; have H := H1; clear H1; replace H := Option.bind_eq_some_iff.mp H; obtain ⟨t591, A50, H⟩ := H; replace H : (some t591) = some r := H; have A5 := Aside0.mk A50; clear A50; obtain rfl := Option.some.inj H
  go_enter Try.func120, Try.ntmps120
  go_wp2_with (first | ((with_reducible refine gate_dst (N := 2) rfl ?_); refine box_event ?hg (N := 2) ?hd (cs := #[.int .i64 a0_0, .slice A0_1 l0_1.length c0_1]) (t := 30) ?hr ?_; (case hd => rfl); (case hg => rfl); (case hr => first | (go_simp; done) | (go_simp; rfl)); intro gb589 hg w6 hbox hb; have n0_ := Aside0.mk (below_step (viaW HB.out) hb); have n1_ := Aside0.mk (hbox); have n2_ := Aside0.mk ((by rw [hg]; exact (below_size (viaW HB.out)) : w.heap.size ≤ gb589)); have n3_ := Aside0.mk ((by rw [hg]; exact (below_size (viaW HB.out)) : w.heap.size ≤ gb589)); clear HB; have HB := n0_; have BK589 := n1_; have GW589 := n2_; have GE589 := n3_; clear n0_ n1_ n2_ n3_; clear hb hbox hg; have hcz7_0 : w6.cell? ⟨gb589, 0, none⟩ = some (.int .i64 a0_0) := (blk_cell BK589.out 0).trans rfl; have hcz7_1 : w6.cell? ⟨gb589, 1, none⟩ = some (.slice A0_1 l0_1.length c0_1) := (blk_cell BK589.out 1).trans rfl; have hfz7_0 := blk_frozen BK589.out 0; have hfz7_1 := blk_frozen BK589.out 1) | ((with_reducible refine gate_callee (f := 65) rfl ?_); refine goesL_ (some 7) rfl rfl Try.func65 (by kernel_rfl) rfl #[.agg #[.int .i64 a0_0, .slice A0_1 l0_1.length c0_1], .int .i64 a1] rfl (by (try simp only [List.map_toArray, List.map_cons, List.map_nil]); first | done | rfl) ?_; (with_reducible refine (spec_WayIn.calls k a0_0 _ _ l0_1 a1 true _ ?side1 ?side2 A3.out).mono ?_); (case side1 => exact viaC (Kd.C_below HR0_1.out HB.out)); (case side2 => exact HC0_1.out); rintro e w8 ⟨rfl, hb⟩; refine ⟨_, rfl, ?_⟩; have n0_ := Aside0.mk (blk_below (g := gb589) (o := .cells #[.int .i64 a0_0, .slice A0_1 l0_1.length c0_1] 30 (0, 0)) (viaB BK589.out) hb); have n1_ := Aside0.mk (below_step (viaX HB.out GE589.out) hb); clear BK589; clear HB; have BK589 := n0_; have HB := n1_; clear n0_ n1_; (try clear hb); (try clear hb2); (try clear hk); (try clear hi); have hcz9_0 : w8.cell? ⟨gb589, 0, none⟩ = some (.int .i64 a0_0) := (blk_cell BK589.out 0).trans rfl; have hcz9_1 : w8.cell? ⟨gb589, 1, none⟩ = some (.slice A0_1 l0_1.length c0_1) := (blk_cell BK589.out 1).trans rfl; have hfz9_0 := blk_frozen BK589.out 0; have hfz9_1 := blk_frozen BK589.out 1) | (go_at_call 129; (with_reducible refine (spec_l2Plain.calls k a0_0 _ _ l0_1 a1 t591 _ ?side1 ?side2 A5.out).mono ?_); (case side1 => exact viaC (Kd.C_below HR0_1.out HB.out)); (case side2 => exact HC0_1.out); rintro e w10 ⟨rfl, hb⟩; have n0_ := Aside0.mk (blk_below (g := gb589) (o := .cells #[.int .i64 a0_0, .slice A0_1 l0_1.length c0_1] 30 (0, 0)) (viaB BK589.out) hb); have n1_ := Aside0.mk (below_step (viaX HB.out GE589.out) hb); clear BK589; clear HB; have BK589 := n0_; have HB := n1_; clear n0_ n1_; (try clear hb); (try clear hb2); (try clear hk); (try clear hi)))
  go_ret
  exact ⟨by first | rfl | (simp [errW_none, errW_some] <;> rfl) | (simp [*, errW_none, errW_some] <;> rfl), viaX HB.out GE589.out⟩
 ·replace c4 := Bool.eq_false_iff.mpr c4
  subst c4; have H1 : (some false) = some r := by rw [if_neg (show ¬ (false = true) by decide)] at H; exact H
  clear H; have H := H1; clear H1; obtain rfl := Option.some.inj H
  go_enter Try.func120, Try.ntmps120
  go_wp2_with (first | ((with_reducible refine gate_dst (N := 2) rfl ?_); refine box_event ?hg (N := 2) ?hd (cs := #[.int .i64 a0_0, .slice A0_1 l0_1.length c0_1]) (t := 30) ?hr ?_; (case hd => rfl); (case hg => rfl); (case hr => first | (go_simp; done) | (go_simp; rfl)); intro gb589 hg w11 hbox hb; have n0_ := Aside0.mk (below_step (viaW HB.out) hb); have n1_ := Aside0.mk (hbox); have n2_ := Aside0.mk ((by rw [hg]; exact (below_size (viaW HB.out)) : w.heap.size ≤ gb589)); have n3_ := Aside0.mk ((by rw [hg]; exact (below_size (viaW HB.out)) : w.heap.size ≤ gb589)); clear HB; have HB := n0_; have BK589 := n1_; have GW589 := n2_; have GE589 := n3_; clear n0_ n1_ n2_ n3_; clear hb hbox hg; have hcz12_0 : w11.cell? ⟨gb589, 0, none⟩ = some (.int .i64 a0_0) := (blk_cell BK589.out 0).trans rfl; have hcz12_1 : w11.cell? ⟨gb589, 1, none⟩ = some (.slice A0_1 l0_1.length c0_1) := (blk_cell BK589.out 1).trans rfl; have hfz12_0 := blk_frozen BK589.out 0; have hfz12_1 := blk_frozen BK589.out 1) | ((with_reducible refine gate_callee (f := 65) rfl ?_); refine goesL_ (some 7) rfl rfl Try.func65 (by kernel_rfl) rfl #[.agg #[.int .i64 a0_0, .slice A0_1 l0_1.length c0_1], .int .i64 a1] rfl (by (try simp only [List.map_toArray, List.map_cons, List.map_nil]); first | done | rfl) ?_; (with_reducible refine (spec_WayIn.calls k a0_0 _ _ l0_1 a1 false _ ?side1 ?side2 A3.out).mono ?_); (case side1 => exact viaC (Kd.C_below HR0_1.out HB.out)); (case side2 => exact HC0_1.out); rintro e w13 ⟨rfl, hb⟩; refine ⟨_, rfl, ?_⟩; have n0_ := Aside0.mk (blk_below (g := gb589) (o := .cells #[.int .i64 a0_0, .slice A0_1 l0_1.length c0_1] 30 (0, 0)) (viaB BK589.out) hb); have n1_ := Aside0.mk (below_step (viaX HB.out GE589.out) hb); clear BK589; clear HB; have BK589 := n0_; have HB := n1_; clear n0_ n1_; (try clear hb); (try clear hb2); (try clear hk); (try clear hi)))
  go_ret
  exact ⟨by first | rfl | (simp [errW_none, errW_some] <;> rfl) | (simp [*, errW_none, errW_some] <;> rfl), viaX HB.out GE589.out⟩
/-! ### spec_PlainOrder: function 85 -/
mutual
def spec_PlainOrder.l0 : Nat → Int → List Int → Int → Int → List (S44) → Option (List Int × Bool)
 | 0, _, _, _, _, _ => none
 | k + 1, x1, x6, x7, x593000, x593001 => if x7 > 0 then (spec_PlainOrder.l1 k x1 x6 x7 (-1) (wrap64 (x593000 - 1)) x593000 x593001) else (some (x6, true))
def spec_PlainOrder.l1 : Nat → Int → List Int → Int → Int → Int → Int → List (S44) → Option (List Int × Bool)
 | 0, _, _, _, _, _, _, _ => none
 | k + 1, x1, x6, x7, x8, x9, x593000, x593001 => if x9 ≥ 0 then (if 0 ≤ x9 then (spec_PlainOrder.l2 k x1 x6 x7 x8 x9 ((Go.bits .and .i64 (shr .i64 x7 x9) 1) == 1) 0 x593000 x593001) else (none)) else (if x6.length < 17592186044416 then (if 0 ≤ x8 then (spec_PlainOrder.l0 k x1 (x6 ++ [x8]) (Go.bits .andNot .i64 x7 (shl .i64 1 x8)) x593000 x593001) else (none)) else (none))
def spec_PlainOrder.l2 : Nat → Int → List Int → Int → Int → Int → Bool → Int → Int → List (S44) → Option (List Int × Bool)
 | 0, _, _, _, _, _, _, _, _, _ => none
 | k + 1, x1, x6, x7, x8, x9, x10, x11, x593000, x593001 => if x11 < (x593001.length : Int) then ((spec_l1Ends.f x593000 x593001 x1 x11).bind fun bt600 => (if bt600.2 = x9 then (if 0 ≤ bt600.1 then (if (Go.bits .and .i64 (shr .i64 x7 bt600.1) 1) = 1 then (spec_PlainOrder.l2 k x1 x6 x7 x8 x9 false (wrap64 (x11 + 1)) x593000 x593001) else (spec_PlainOrder.l2 k x1 x6 x7 x8 x9 x10 (wrap64 (x11 + 1)) x593000 x593001)) else (none)) else (spec_PlainOrder.l2 k x1 x6 x7 x8 x9 x10 (wrap64 (x11 + 1)) x593000 x593001))) else (if x10 = true then (spec_PlainOrder.l1 k x1 x6 x7 x9 (wrap64 (x9 - 1)) x593000 x593001) else (spec_PlainOrder.l1 k x1 x6 x7 x8 (wrap64 (x9 - 1)) x593000 x593001))
end
def spec_PlainOrder.f (k : Nat) (a0_0 : Int) (l0_1 : List (S44)) (a1 : Int) : Option (List Int × Bool) := (some (([] : List Int) : List Int)).bind fun y593 => ((spec_PlainIn.f k a0_0 l0_1 a1).bind fun t596 => (if t596 = true then (if 0 ≤ a0_0 then (spec_PlainOrder.l0 k a1 y593 (wrap64 ((shl .i64 1 a0_0) - 1)) a0_0 l0_1) else (none)) else (some (y593, false))))
theorem spec_PlainOrder.mono_l : ∀ k, (∀ y0 y1 y2 y3 y4, LeO (spec_PlainOrder.l0 k y0 y1 y2 y3 y4) (spec_PlainOrder.l0 (k + 1) y0 y1 y2 y3 y4)) ∧ (∀ y0 y1 y2 y3 y4 y5 y6, LeO (spec_PlainOrder.l1 k y0 y1 y2 y3 y4 y5 y6) (spec_PlainOrder.l1 (k + 1) y0 y1 y2 y3 y4 y5 y6)) ∧ (∀ y0 y1 y2 y3 y4 y5 y6 y7 y8, LeO (spec_PlainOrder.l2 k y0 y1 y2 y3 y4 y5 y6 y7 y8) (spec_PlainOrder.l2 (k + 1) y0 y1 y2 y3 y4 y5 y6 y7 y8))
 | 0 => ⟨fun _ _ _ _ _ r h => by simp [spec_PlainOrder.l0] at h, fun _ _ _ _ _ _ _ r h => by simp [spec_PlainOrder.l1] at h, fun _ _ _ _ _ _ _ _ _ r h => by simp [spec_PlainOrder.l2] at h⟩
 | k + 1 => by
  obtain ⟨ih0, ih1, ih2⟩ := spec_PlainOrder.mono_l k
  refine ⟨?_, ?_, ?_⟩
  ·intro y0 y1 y2 y3 y4
   unfold spec_PlainOrder.l0
   repeat' first
   | (with_reducible exact ih0 _ _ _ _ _)
   | (with_reducible exact ih1 _ _ _ _ _ _ _)
   | (with_reducible exact ih2 _ _ _ _ _ _ _ _ _)
   | (with_reducible exact spec_PlainIn.mono _ _ _ _)
   | (with_reducible exact LeO.refl _)
   | (with_reducible exact LeO.none _)
   | (with_reducible refine LeO.ite ?_ ?_)
   | (with_reducible refine LeO.bind ?_ (fun _ => ?_))
   | exact ih0 _ _ _ _ _
   | exact ih1 _ _ _ _ _ _ _
   | exact ih2 _ _ _ _ _ _ _ _ _
   | exact spec_PlainIn.mono _ _ _ _
   | exact LeO.none _
   | refine LeO.ite ?_ ?_
   | refine LeO.bind ?_ (fun _ => ?_)
  ·intro y0 y1 y2 y3 y4 y5 y6
   unfold spec_PlainOrder.l1
   repeat' first
   | (with_reducible exact ih0 _ _ _ _ _)
   | (with_reducible exact ih1 _ _ _ _ _ _ _)
   | (with_reducible exact ih2 _ _ _ _ _ _ _ _ _)
   | (with_reducible exact spec_PlainIn.mono _ _ _ _)
   | (with_reducible exact LeO.refl _)
   | (with_reducible exact LeO.none _)
   | (with_reducible refine LeO.ite ?_ ?_)
   | (with_reducible refine LeO.bind ?_ (fun _ => ?_))
   | exact ih0 _ _ _ _ _
   | exact ih1 _ _ _ _ _ _ _
   | exact ih2 _ _ _ _ _ _ _ _ _
   | exact spec_PlainIn.mono _ _ _ _
   | exact LeO.none _
   | refine LeO.ite ?_ ?_
   | refine LeO.bind ?_ (fun _ => ?_)
  ·intro y0 y1 y2 y3 y4 y5 y6 y7 y8
   unfold spec_PlainOrder.l2
   repeat' first
   | (with_reducible exact ih0 _ _ _ _ _)
   | (with_reducible exact ih1 _ _ _ _ _ _ _)
   | (with_reducible exact ih2 _ _ _ _ _ _ _ _ _)
   | (with_reducible exact spec_PlainIn.mono _ _ _ _)
   | (with_reducible exact LeO.refl _)
   | (with_reducible exact LeO.none _)
   | (with_reducible refine LeO.ite ?_ ?_)
   | (with_reducible refine LeO.bind ?_ (fun _ => ?_))
   | exact ih0 _ _ _ _ _
   | exact ih1 _ _ _ _ _ _ _
   | exact ih2 _ _ _ _ _ _ _ _ _
   | exact spec_PlainIn.mono _ _ _ _
   | exact LeO.none _
   | refine LeO.ite ?_ ?_
   | refine LeO.bind ?_ (fun _ => ?_)
theorem spec_PlainOrder.mono : ∀ a0 a1 a2 k, LeO (spec_PlainOrder.f k a0 a1 a2) (spec_PlainOrder.f (k + 1) a0 a1 a2) := by
 intro a0 a1 a2 k; obtain ⟨ih0, ih1, ih2⟩ := spec_PlainOrder.mono_l k
 unfold spec_PlainOrder.f
 repeat' first
   | (with_reducible exact ih0 _ _ _ _ _)
   | (with_reducible exact ih1 _ _ _ _ _ _ _)
   | (with_reducible exact ih2 _ _ _ _ _ _ _ _ _)
   | (with_reducible exact spec_PlainIn.mono _ _ _ _)
   | (with_reducible exact LeO.refl _)
   | (with_reducible exact LeO.none _)
   | (with_reducible refine LeO.ite ?_ ?_)
   | (with_reducible refine LeO.bind ?_ (fun _ => ?_))
   | exact ih0 _ _ _ _ _
   | exact ih1 _ _ _ _ _ _ _
   | exact ih2 _ _ _ _ _ _ _ _ _
   | exact spec_PlainIn.mono _ _ _ _
   | exact LeO.none _
   | refine LeO.ite ?_ ?_
   | refine LeO.bind ?_ (fun _ => ?_)
set_option maxHeartbeats 8000000 in
set_option maxRecDepth 100000 in
theorem spec_PlainOrder.calls (k : Nat) (a0_0 : Int) (A0_1 : Option Addr) (c0_1 : Nat) (l0_1 : List (S44)) (a1 : Int) (r1 : List Int) (r2 : Bool) (w : World) (hr0_1 : Kd.C k44 w A0_1 l0_1.length l0_1) (hc0_1 : l0_1.length ≤ c0_1) (h : spec_PlainOrder.f k a0_0 l0_1 a1 = some (r1, r2)) :
  Calls Try.prog 85 #[.agg #[.int .i64 a0_0, .slice A0_1 l0_1.length c0_1], .int .i64 a1] w fun e w' => ∃ v0_ : Value, e = .returned (.tuple #[v0_, .bool r2]) ∧ Kd.R (Kd.int .i64) 3 w' w.heap.size (fun _ => True) v0_ r1 ∧ Below w.heap.size w w' := by
 have hu30 := Try.underlying30; have HR0_1 := Aside0.mk hr0_1; have HC0_1 := Aside0.mk hc0_1; clear hr0_1 hc0_1; have HB := Aside0.mk (Below.refl w.heap.size w); have H : ((some (([] : List Int) : List Int)).bind fun y593 => ((spec_PlainIn.f k a0_0 l0_1 a1).bind fun t596 => (if t596 = true then (if 0 ≤ a0_0 then (spec_PlainOrder.l0 k a1 y593 (wrap64 ((shl .i64 1 a0_0) - 1)) a0_0 l0_1) else (none)) else (some (y593, false))))) = some (r1, r2) := h; clear h; obtain ⟨y593, hy593⟩ : ∃ y_ : List Int, y_ = (([] : List Int)) := ⟨_, rfl⟩; replace H : ((spec_PlainIn.f k a0_0 l0_1 a1).bind fun t596 => (if t596 = true then (if 0 ≤ a0_0 then (spec_PlainOrder.l0 k a1 y593 (wrap64 ((shl .i64 1 a0_0) - 1)) a0_0 l0_1) else (none)) else (some (y593, false)))) = some (r1, r2) := by first | (rw [hy593]; with_reducible exact H) | (have H2_ := (Option.bind_some _ _).symm.trans H; rw [hy593]; with_reducible exact H2_) | (have H2_ := (Option.bind_some _ _).symm.trans H; with_reducible exact H2_) | with_reducible exact H | (rw [hy593]; exact H) | exact H
 have Ny593 := Aside0.mk hy593; clear hy593; replace H := Option.bind_eq_some_iff.mp H; obtain ⟨t596, A30, H⟩ := H; replace H : (if t596 = true then (if 0 ≤ a0_0 then (spec_PlainOrder.l0 k a1 y593 (wrap64 ((shl .i64 1 a0_0) - 1)) a0_0 l0_1) else (none)) else (some (y593, false))) = some (r1, r2) := H; have A3 := Aside0.mk A30; clear A30
 by_cases c4 : t596 = true
 ·subst c4
  have H1 : (if 0 ≤ a0_0 then (spec_PlainOrder.l0 k a1 y593 (wrap64 ((shl .i64 1 a0_0) - 1)) a0_0 l0_1) else (none)) = some (r1, r2) := by rw [if_pos rfl] at H; exact H
  clear H; have H := H1; clear H1
  by_cases c5 : 0 ≤ a0_0
  ·rw [if_pos c5] at H
   have c5b0 := eq_true c5; have c5b1 : decide (0 ≤ a0_0) = true := decide_eq_true c5; clear c5; obtain ⟨ji6, hji6⟩ : ∃ j_ : Int, (shl .i64 1 a0_0) = j_ := ⟨_, rfl⟩; replace H : (spec_PlainOrder.l0 k a1 y593 (wrap64 ((ji6) - 1)) a0_0 l0_1) = some (r1, r2) := by first | (rw [hji6] at H; exact H) | (simp only [hji6] at H ⊢; exact H)
   (try rw [hji6] at A3)
   have hji6_ : (IntKind.i64.wrap (1 * 2 ^ min a0_0.toNat 64)) = ji6 := hji6; have hji6z : a0_0 ≤ 64 → (IntKind.i64.wrap (1 * 2 ^ a0_0.toNat)) = ji6 := shl_small hji6; have hji6u : (IntKind.i64.wrap (2 ^ min a0_0.toNat 64)) = ji6 := by have h_ := hji6_; rw [Int.one_mul] at h_; exact h_
   have hji6v : a0_0 ≤ 64 → (IntKind.i64.wrap (2 ^ a0_0.toNat)) = ji6 := fun hle_ => by have h_ := hji6z hle_; rw [Int.one_mul] at h_; exact h_
   have hji6y : (wrap64 (1 * 2 ^ min a0_0.toNat 64)) = ji6 := (i64_w _).symm.trans hji6_; have hji6x : a0_0 ≤ 64 → (wrap64 (1 * 2 ^ a0_0.toNat)) = ji6 := fun h_ => (i64_w _).symm.trans (hji6z h_); have H' := Aside0.mk H; clear H
   go_enter Try.func85, Try.ntmps85
   go_wp2_with (first | ((with_reducible refine gate_dst (N := 2) rfl ?_); refine box_event ?hg (N := 2) ?hd (cs := #[.int .i64 a0_0, .slice A0_1 l0_1.length c0_1]) (t := 30) ?hr ?_; (case hd => rfl); (case hg => rfl); (case hr => first | (go_simp; done) | (go_simp; rfl)); intro gb592 hg w7 hbox hb; have n0_ := Aside0.mk (below_step (viaW HB.out) hb); have n1_ := Aside0.mk (hbox); have n2_ := Aside0.mk ((by rw [hg]; exact (below_size (viaW HB.out)) : w.heap.size ≤ gb592)); have n3_ := Aside0.mk ((by rw [hg]; exact (below_size (viaW HB.out)) : w.heap.size ≤ gb592)); clear HB; have HB := n0_; have BK592 := n1_; have GW592 := n2_; have GE592 := n3_; clear n0_ n1_ n2_ n3_; clear hb hbox hg) | ((with_reducible refine gate_dst (N := 14) rfl ?_); refine Kd.R_lit (Kd.int .i64) _ 3 ?hg (N := 14) ?hd (xs := ([] : List Int)) (inner := []) (ok := fun _ => True) (okp := fun _ => True) ?hr ?hp (fun _ hk => hk) trivial (Below.refl _ _) (Nat.le_refl _) (by simp) ?_; (case hd => rfl); (case hg => rfl); (case hr => first | (go_simp; done) | (go_simp; rfl)); (case hp => exact (Reps.none _ _)); intro v594 w8 ho9 hb hg_ hnew_; clear hg_ hnew_; (first | rw [← Ny593.out] at ho9 | (simp only [Int.reduceToNat] at ho9; rw [← Ny593.out] at ho9)); have n0_ := Aside0.mk (Kd.R_lower ho9 (below_size (viaX HB.out GE592.out))); have n1_ := Aside0.mk (blk_below (g := gb592) (o := .cells #[.int .i64 a0_0, .slice A0_1 l0_1.length c0_1] 30 (0, 0)) (viaB BK592.out) hb); have n2_ := Aside0.mk (below_step (viaX HB.out GE592.out) hb); clear BK592; clear HB; have HO595 := n0_; have BK592 := n1_; have HB := n2_; clear n0_ n1_ n2_; clear hb ho9; have hcz10_0 : w8.cell? ⟨gb592, 0, none⟩ = some (.int .i64 a0_0) := (blk_cell BK592.out 0).trans rfl; have hcz10_1 : w8.cell? ⟨gb592, 1, none⟩ = some (.slice A0_1 l0_1.length c0_1) := (blk_cell BK592.out 1).trans rfl; have hfz10_0 := blk_frozen BK592.out 0; have hfz10_1 := blk_frozen BK592.out 1) | ((with_reducible refine gate_callee (f := 120) rfl ?_); refine goesL_ (some 17) rfl rfl Try.func120 (by kernel_rfl) rfl #[.agg #[.int .i64 a0_0, .slice A0_1 l0_1.length c0_1], .int .i64 a1] rfl (by (try simp only [List.map_toArray, List.map_cons, List.map_nil]); first | done | rfl) ?_; (with_reducible refine (spec_PlainIn.calls k a0_0 _ _ l0_1 a1 true _ ?side1 ?side2 A3.out).mono ?_); (case side1 => exact viaC (Kd.C_below HR0_1.out HB.out)); (case side2 => exact HC0_1.out); rintro e w11 ⟨rfl, hb⟩; refine ⟨_, rfl, ?_⟩; have n0_ := Aside0.mk (Kd.R_below (viaR HO595.out) hb); have n1_ := Aside0.mk (blk_below (g := gb592) (o := .cells #[.int .i64 a0_0, .slice A0_1 l0_1.length c0_1] 30 (0, 0)) (viaB BK592.out) hb); have n2_ := Aside0.mk (below_step (viaX HB.out GE592.out) hb); clear HO595; clear BK592; clear HB; have HO595 := n0_; have BK592 := n1_; have HB := n2_; clear n0_ n1_ n2_; (try clear hb); (try clear hb2); (try clear hk); (try clear hi); have hcz12_0 : w11.cell? ⟨gb592, 0, none⟩ = some (.int .i64 a0_0) := (blk_cell BK592.out 0).trans rfl; have hcz12_1 : w11.cell? ⟨gb592, 1, none⟩ = some (.slice A0_1 l0_1.length c0_1) := (blk_cell BK592.out 1).trans rfl; have hfz12_0 := blk_frozen BK592.out 0; have hfz12_1 := blk_frozen BK592.out 1))
   go_loopg [6, 7] k (fun kq v6 v7 w' => ∃ (x6_1 : List Int) (x7_1 : Int), v7 = .int .i64 x7_1 ∧ Aside0 (spec_PlainOrder.l0 kq a1 x6_1 x7_1 a0_0 l0_1 = some (r1, r2)) ∧ Aside0 (kq ≤ k) ∧ Aside0 (Kd.R (Kd.int .i64) 3 w' w.heap.size (fun _ => True) v6 x6_1) ∧ Aside0 (w'.heap[gb592]? = some (.cells #[.int .i64 a0_0, (.slice A0_1 l0_1.length c0_1)] 30 (0, 0))) ∧ Aside0 (Below w.heap.size w w'))
   case atStart => exact ⟨(y593), (wrap64 ((ji6) - 1)), (by first | rfl | (simp; done) | (simp only [← hji6] <;> (first | rfl | simp)) | (simp [*]; done)), H', ⟨Nat.le_refl _⟩, ⟨viaR HO595.out⟩, ⟨viaB BK592.out⟩, ⟨viaX HB.out GE592.out⟩⟩
   case round =>
    clear H'
    try clear c1
    try clear p2
    try clear c4
    try clear c5
    try clear c5b0
    try clear c5b1
    try clear p6
    try clear c8
    try clear c12
    try clear hcz10_0
    try clear hcz10_1
    try clear hcz12_0
    try clear hcz12_1
    try clear hfz10_0
    try clear hfz10_1
    try clear hfz12_0
    try clear hfz12_1
    obtain ⟨x6_1, x7_1, rfl, HA, HK1, HO_6, BK592, HB⟩ := hrel
    cases gk with
    | zero => exact absurd HA.out (by simp [spec_PlainOrder.l0])
    | succ k1 =>
     have H := HA.out; clear HA
     simp only [spec_PlainOrder.l0] at H
     by_cases c13 : x7_1 > 0
     ·rw [if_pos c13] at H
      have c13b0 : decide (0 < x7_1) = true := decide_eq_true c13; clear c13; have H' := Aside0.mk H; clear H; have hcz14_0 : wr.cell? ⟨gb592, 0, none⟩ = some (.int .i64 a0_0) := (blk_cell BK592.out 0).trans rfl; have hcz14_1 : wr.cell? ⟨gb592, 1, none⟩ = some (.slice A0_1 l0_1.length c0_1) := (blk_cell BK592.out 1).trans rfl; have hfz14_0 := blk_frozen BK592.out 0; have hfz14_1 := blk_frozen BK592.out 1
      go_wp2
      go_loopg [8, 9] k1 (fun kq v8 v9 w' => ∃ (x8_2 : Int) (x9_2 : Int), v8 = .int .i64 x8_2 ∧ v9 = .int .i64 x9_2 ∧ Aside0 (spec_PlainOrder.l1 kq a1 x6_1 x7_1 x8_2 x9_2 a0_0 l0_1 = some (r1, r2)) ∧ Aside0 (kq ≤ k1) ∧ Aside0 (Kd.R (Kd.int .i64) 3 w' w.heap.size (fun _ => True) u6 x6_1) ∧ Aside0 (w'.heap[gb592]? = some (.cells #[.int .i64 a0_0, (.slice A0_1 l0_1.length c0_1)] 30 (0, 0))) ∧ Aside0 (Below w.heap.size w w'))
      case atStart => exact ⟨((-1)), (wrap64 (a0_0 - 1)), (by first | rfl | (simp; done) | (simp [*]; done)), (by first | rfl | (simp; done) | (simp [*]; done)), H', ⟨Nat.le_refl _⟩, ⟨viaR HO_6.out⟩, ⟨viaB BK592.out⟩, ⟨viaX HB.out GE592.out⟩⟩
      case round =>
       clear H'
       try clear c1
       try clear p2
       try clear c4
       try clear c5
       try clear c5b0
       try clear c5b1
       try clear p6
       try clear c8
       try clear c12
       try clear c13
       try clear c13b0
       try clear hcz10_0
       try clear hcz10_1
       try clear hcz12_0
       try clear hcz12_1
       try clear hcz14_0
       try clear hcz14_1
       try clear hfz10_0
       try clear hfz10_1
       try clear hfz12_0
       try clear hfz12_1
       try clear hfz14_0
       try clear hfz14_1
       try clear p2
       try clear p6
       obtain ⟨x8_2, x9_2, rfl, rfl, HA, HK2, HO_6, BK592, HB⟩ := hrel
       cases gk with
       | zero => exact absurd HA.out (by simp [spec_PlainOrder.l1])
       | succ k2 =>
        have H := HA.out; clear HA
        simp only [spec_PlainOrder.l1] at H
        by_cases c15 : x9_2 ≥ 0
        ·rw [if_pos c15] at H
         have c15b0 : decide (0 ≤ x9_2) = true := decide_eq_true c15; clear c15
         by_cases c16 : 0 ≤ x9_2
         ·rw [if_pos c16] at H
          have c16b0 := eq_true c16; have c16b1 : decide (0 ≤ x9_2) = true := decide_eq_true c16; clear c16; obtain ⟨ji17, hji17⟩ : ∃ j_ : Int, (shr .i64 x7_1 x9_2) = j_ := ⟨_, rfl⟩; replace H : (spec_PlainOrder.l2 k2 a1 x6_1 x7_1 x8_2 x9_2 ((Go.bits .and .i64 (ji17) 1) == 1) 0 a0_0 l0_1) = some (r1, r2) := by first | (rw [hji17] at H; exact H) | (simp only [hji17] at H ⊢; exact H)
          have hji17_ : (x7_1 / 2 ^ min x9_2.toNat 64) = ji17 := hji17; have hji17z : x9_2 ≤ 64 → (x7_1 / 2 ^ x9_2.toNat) = ji17 := shr_small hji17; have H' := Aside0.mk H; clear H
          go_wp2
          go_loopg [10, 11] k2 (fun kq v10 v11 w' => ∃ (x10_3 : Bool) (x11_3 : Int), v10 = .bool x10_3 ∧ v11 = .int .i64 x11_3 ∧ Aside0 (spec_PlainOrder.l2 kq a1 x6_1 x7_1 x8_2 x9_2 x10_3 x11_3 a0_0 l0_1 = some (r1, r2)) ∧ Aside0 (kq ≤ k2) ∧ Aside0 (Kd.R (Kd.int .i64) 3 w' w.heap.size (fun _ => True) u6 x6_1) ∧ Aside0 (w'.heap[gb592]? = some (.cells #[.int .i64 a0_0, (.slice A0_1 l0_1.length c0_1)] 30 (0, 0))) ∧ Aside0 (Below w.heap.size w w'))
          case atStart => exact ⟨(((Go.bits .and .i64 (ji17) 1) == 1)), (0), (by first | rfl | (simp; done) | (simp only [← hji17] <;> (first | rfl | simp)) | (simp [*]; done)), (by first | rfl | (simp; done) | (simp [*]; done)), H', ⟨Nat.le_refl _⟩, ⟨viaR HO_6.out⟩, ⟨viaB BK592.out⟩, ⟨viaX HB.out GE592.out⟩⟩
          case round =>
           clear H'
           try clear c1
           try clear p2
           try clear c4
           try clear c5
           try clear c5b0
           try clear c5b1
           try clear p6
           try clear c8
           try clear c12
           try clear c13
           try clear c13b0
           try clear c15
           try clear c15b0
           try clear c16
           try clear c16b0
           try clear c16b1
           try clear hcz10_0
           try clear hcz10_1
           try clear hcz12_0
           try clear hcz12_1
           try clear hcz14_0
           try clear hcz14_1
           try clear hfz10_0
           try clear hfz10_1
           try clear hfz12_0
           try clear hfz12_1
           try clear hfz14_0
           try clear hfz14_1
           try clear p2
           try clear p6
           obtain ⟨x10_3, x11_3, rfl, rfl, HA, HK3, HO_6, BK592, HB⟩ := hrel
           cases gk with
           | zero => exact absurd HA.out (by simp [spec_PlainOrder.l2])
           | succ k3 =>
            have H := HA.out; clear HA
            simp only [spec_PlainOrder.l2] at H
            by_cases c18 : x11_3 < (l0_1.length : Int)
            ·rw [if_pos c18] at H
             have c18b0 : decide (x11_3 < (l0_1.length : Int)) = true := decide_eq_true c18; clear c18; replace H := Option.bind_eq_some_iff.mp H; obtain ⟨⟨t600, t601⟩, A190, H⟩ := H; replace H : (if t601 = x9_2 then (if 0 ≤ t600 then (if (Go.bits .and .i64 (shr .i64 x7_1 t600) 1) = 1 then (spec_PlainOrder.l2 k3 a1 x6_1 x7_1 x8_2 x9_2 false (wrap64 (x11_3 + 1)) a0_0 l0_1) else (spec_PlainOrder.l2 k3 a1 x6_1 x7_1 x8_2 x9_2 x10_3 (wrap64 (x11_3 + 1)) a0_0 l0_1)) else (none)) else (spec_PlainOrder.l2 k3 a1 x6_1 x7_1 x8_2 x9_2 x10_3 (wrap64 (x11_3 + 1)) a0_0 l0_1)) = some (r1, r2) := H; have A19 := Aside0.mk A190; clear A190
             by_cases c20 : t601 = x9_2
             ·rw [if_pos c20] at H
              have c20b0 : (t601 == x9_2) = true := beq_iff_eq.mpr c20; have c20b1 : (t601 != x9_2) = false := bne_eq_false_iff_eq.mpr c20; clear c20
              by_cases c21 : 0 ≤ t600
              ·rw [if_pos c21] at H
               have c21b0 := eq_true c21; have c21b1 : decide (0 ≤ t600) = true := decide_eq_true c21; clear c21; obtain ⟨ji22, hji22⟩ : ∃ j_ : Int, (shr .i64 x7_1 t600) = j_ := ⟨_, rfl⟩; replace H : (if (Go.bits .and .i64 (ji22) 1) = 1 then (spec_PlainOrder.l2 k3 a1 x6_1 x7_1 x8_2 x9_2 false (wrap64 (x11_3 + 1)) a0_0 l0_1) else (spec_PlainOrder.l2 k3 a1 x6_1 x7_1 x8_2 x9_2 x10_3 (wrap64 (x11_3 + 1)) a0_0 l0_1)) = some (r1, r2) := by first | (rw [hji22] at H; exact H) | (simp only [hji22] at H ⊢; exact H)
               (try rw [hji22] at A19)
               have hji22_ : (x7_1 / 2 ^ min t600.toNat 64) = ji22 := hji22; have hji22z : t600 ≤ 64 → (x7_1 / 2 ^ t600.toNat) = ji22 := shr_small hji22
               by_cases c23 : (Go.bits .and .i64 (ji22) 1) = 1
               ·rw [if_pos c23] at H
                have c23b0 : ((Go.bits .and .i64 (ji22) 1) == 1) = true := beq_iff_eq.mpr c23; have c23b1 : ((Go.bits .and .i64 (ji22) 1) != 1) = false := bne_eq_false_iff_eq.mpr c23; clear c23; have H' := Aside0.mk H; clear H; have hcz24_0 : wr.cell? ⟨gb592, 0, none⟩ = some (.int .i64 a0_0) := (blk_cell BK592.out 0).trans rfl; have hcz24_1 : wr.cell? ⟨gb592, 1, none⟩ = some (.slice A0_1 l0_1.length c0_1) := (blk_cell BK592.out 1).trans rfl; have hfz24_0 := blk_frozen BK592.out 0; have hfz24_1 := blk_frozen BK592.out 1
                go_wp2_with (first | ((with_reducible refine gate_callee (f := 86) rfl ?_); refine goesL_ (some 49) rfl rfl Try.func86 (by kernel_rfl) rfl #[.agg #[.int .i64 a0_0, .slice A0_1 l0_1.length c0_1], .int .i64 a1, .int .i64 x11_3] rfl (by (try simp only [List.map_toArray, List.map_cons, List.map_nil]); first | done | rfl) ?_; (with_reducible refine (spec_l1Ends.calls a0_0 _ _ l0_1 a1 x11_3 t600 t601 _ ?side1 ?side2 A19.out).mono ?_); (case side1 => exact viaC (Kd.C_below HR0_1.out HB.out)); (case side2 => exact HC0_1.out); rintro e w25 ⟨rfl, hb⟩; refine ⟨_, rfl, ?_⟩; have n0_ := Aside0.mk (Kd.R_below (viaR HO_6.out) hb); have n1_ := Aside0.mk (blk_below (g := gb592) (o := .cells #[.int .i64 a0_0, .slice A0_1 l0_1.length c0_1] 30 (0, 0)) (viaB BK592.out) hb); have n2_ := Aside0.mk (below_step (viaX HB.out GE592.out) hb); clear HO_6; clear BK592; clear HB; have HO_6 := n0_; have BK592 := n1_; have HB := n2_; clear n0_ n1_ n2_; (try clear hb); (try clear hb2); (try clear hk); (try clear hi)))
                go_roundg k3
                case measure => have := HK1.out; have := HK2.out; have := HK3.out; omega
                case rel => exact ⟨(false), (wrap64 (x11_3 + 1)), (by first | rfl | (simp; done) | (simp [*]; done)), (by first | rfl | (simp; done) | (simp [*]; done)), H', ⟨by have := HK1.out; have := HK2.out; have := HK3.out; omega⟩, ⟨viaR HO_6.out⟩, ⟨viaB BK592.out⟩, ⟨viaX HB.out GE592.out⟩⟩
               ·rw [if_neg c23] at H
                have c23b0 : ((Go.bits .and .i64 (ji22) 1) == 1) = false := beq_eq_false_iff_ne.mpr c23; have c23b1 : ((Go.bits .and .i64 (ji22) 1) != 1) = true := bne_iff_ne.mpr c23; have H' := Aside0.mk H; clear H; have hcz26_0 : wr.cell? ⟨gb592, 0, none⟩ = some (.int .i64 a0_0) := (blk_cell BK592.out 0).trans rfl; have hcz26_1 : wr.cell? ⟨gb592, 1, none⟩ = some (.slice A0_1 l0_1.length c0_1) := (blk_cell BK592.out 1).trans rfl; have hfz26_0 := blk_frozen BK592.out 0; have hfz26_1 := blk_frozen BK592.out 1
                go_wp2_with (first | ((with_reducible refine gate_callee (f := 86) rfl ?_); refine goesL_ (some 49) rfl rfl Try.func86 (by kernel_rfl) rfl #[.agg #[.int .i64 a0_0, .slice A0_1 l0_1.length c0_1], .int .i64 a1, .int .i64 x11_3] rfl (by (try simp only [List.map_toArray, List.map_cons, List.map_nil]); first | done | rfl) ?_; (with_reducible refine (spec_l1Ends.calls a0_0 _ _ l0_1 a1 x11_3 t600 t601 _ ?side1 ?side2 A19.out).mono ?_); (case side1 => exact viaC (Kd.C_below HR0_1.out HB.out)); (case side2 => exact HC0_1.out); rintro e w27 ⟨rfl, hb⟩; refine ⟨_, rfl, ?_⟩; have n0_ := Aside0.mk (Kd.R_below (viaR HO_6.out) hb); have n1_ := Aside0.mk (blk_below (g := gb592) (o := .cells #[.int .i64 a0_0, .slice A0_1 l0_1.length c0_1] 30 (0, 0)) (viaB BK592.out) hb); have n2_ := Aside0.mk (below_step (viaX HB.out GE592.out) hb); clear HO_6; clear BK592; clear HB; have HO_6 := n0_; have BK592 := n1_; have HB := n2_; clear n0_ n1_ n2_; (try clear hb); (try clear hb2); (try clear hk); (try clear hi)))
                go_roundg k3
                case measure => have := HK1.out; have := HK2.out; have := HK3.out; omega
                case rel => exact ⟨(x10_3), (wrap64 (x11_3 + 1)), (by first | rfl | (simp; done) | (simp [*]; done)), (by first | rfl | (simp; done) | (simp [*]; done)), H', ⟨by have := HK1.out; have := HK2.out; have := HK3.out; omega⟩, ⟨viaR HO_6.out⟩, ⟨viaB BK592.out⟩, ⟨viaX HB.out GE592.out⟩⟩
              ·rw [if_neg c21] at H
               exact absurd H (by simp)
             ·rw [if_neg c20] at H
              have c20b0 : (t601 == x9_2) = false := beq_eq_false_iff_ne.mpr c20; have c20b1 : (t601 != x9_2) = true := bne_iff_ne.mpr c20; have H' := Aside0.mk H; clear H; have hcz28_0 : wr.cell? ⟨gb592, 0, none⟩ = some (.int .i64 a0_0) := (blk_cell BK592.out 0).trans rfl; have hcz28_1 : wr.cell? ⟨gb592, 1, none⟩ = some (.slice A0_1 l0_1.length c0_1) := (blk_cell BK592.out 1).trans rfl; have hfz28_0 := blk_frozen BK592.out 0; have hfz28_1 := blk_frozen BK592.out 1
              go_wp2_with (first | ((with_reducible refine gate_callee (f := 86) rfl ?_); refine goesL_ (some 49) rfl rfl Try.func86 (by kernel_rfl) rfl #[.agg #[.int .i64 a0_0, .slice A0_1 l0_1.length c0_1], .int .i64 a1, .int .i64 x11_3] rfl (by (try simp only [List.map_toArray, List.map_cons, List.map_nil]); first | done | rfl) ?_; (with_reducible refine (spec_l1Ends.calls a0_0 _ _ l0_1 a1 x11_3 t600 t601 _ ?side1 ?side2 A19.out).mono ?_); (case side1 => exact viaC (Kd.C_below HR0_1.out HB.out)); (case side2 => exact HC0_1.out); rintro e w29 ⟨rfl, hb⟩; refine ⟨_, rfl, ?_⟩; have n0_ := Aside0.mk (Kd.R_below (viaR HO_6.out) hb); have n1_ := Aside0.mk (blk_below (g := gb592) (o := .cells #[.int .i64 a0_0, .slice A0_1 l0_1.length c0_1] 30 (0, 0)) (viaB BK592.out) hb); have n2_ := Aside0.mk (below_step (viaX HB.out GE592.out) hb); clear HO_6; clear BK592; clear HB; have HO_6 := n0_; have BK592 := n1_; have HB := n2_; clear n0_ n1_ n2_; (try clear hb); (try clear hb2); (try clear hk); (try clear hi)))
              go_roundg k3
              case measure => have := HK1.out; have := HK2.out; have := HK3.out; omega
              case rel => exact ⟨(x10_3), (wrap64 (x11_3 + 1)), (by first | rfl | (simp; done) | (simp [*]; done)), (by first | rfl | (simp; done) | (simp [*]; done)), H', ⟨by have := HK1.out; have := HK2.out; have := HK3.out; omega⟩, ⟨viaR HO_6.out⟩, ⟨viaB BK592.out⟩, ⟨viaX HB.out GE592.out⟩⟩
            ·rw [if_neg c18] at H
             have c18b0 : decide (x11_3 < (l0_1.length : Int)) = false := decide_eq_false c18; clear c18
             by_cases c30 : x10_3 = true
             ·subst c30
              have H1 : (spec_PlainOrder.l1 k3 a1 x6_1 x7_1 x9_2 (wrap64 (x9_2 - 1)) a0_0 l0_1) = some (r1, r2) := by rw [if_pos rfl] at H; exact H
              clear H; have H := H1; clear H1; have H' := Aside0.mk H; clear H; have hcz31_0 : wr.cell? ⟨gb592, 0, none⟩ = some (.int .i64 a0_0) := (blk_cell BK592.out 0).trans rfl; have hcz31_1 : wr.cell? ⟨gb592, 1, none⟩ = some (.slice A0_1 l0_1.length c0_1) := (blk_cell BK592.out 1).trans rfl; have hfz31_0 := blk_frozen BK592.out 0; have hfz31_1 := blk_frozen BK592.out 1
              go_wp2
              go_roundg k3
              case measure => have := HK1.out; have := HK2.out; have := HK3.out; omega
              case rel => exact ⟨(x9_2), (wrap64 (x9_2 - 1)), (by first | rfl | (simp; done) | (simp [*]; done)), (by first | rfl | (simp; done) | (simp [*]; done)), H', ⟨by have := HK1.out; have := HK2.out; have := HK3.out; omega⟩, ⟨viaR HO_6.out⟩, ⟨viaB BK592.out⟩, ⟨viaX HB.out GE592.out⟩⟩
             ·replace c30 := Bool.eq_false_iff.mpr c30
              subst c30; have H1 : (spec_PlainOrder.l1 k3 a1 x6_1 x7_1 x8_2 (wrap64 (x9_2 - 1)) a0_0 l0_1) = some (r1, r2) := by rw [if_neg (show ¬ (false = true) by decide)] at H; exact H
              clear H; have H := H1; clear H1; have H' := Aside0.mk H; clear H; have hcz32_0 : wr.cell? ⟨gb592, 0, none⟩ = some (.int .i64 a0_0) := (blk_cell BK592.out 0).trans rfl; have hcz32_1 : wr.cell? ⟨gb592, 1, none⟩ = some (.slice A0_1 l0_1.length c0_1) := (blk_cell BK592.out 1).trans rfl; have hfz32_0 := blk_frozen BK592.out 0; have hfz32_1 := blk_frozen BK592.out 1
              go_wp2
              go_roundg k3
              case measure => have := HK1.out; have := HK2.out; have := HK3.out; omega
              case rel => exact ⟨(x8_2), (wrap64 (x9_2 - 1)), (by first | rfl | (simp; done) | (simp [*]; done)), (by first | rfl | (simp; done) | (simp [*]; done)), H', ⟨by have := HK1.out; have := HK2.out; have := HK3.out; omega⟩, ⟨viaR HO_6.out⟩, ⟨viaB BK592.out⟩, ⟨viaX HB.out GE592.out⟩⟩
         ·rw [if_neg c16] at H
          exact absurd H (by simp)
        ·rw [if_neg c15] at H
         have c15b0 : decide (0 ≤ x9_2) = false := decide_eq_false c15; clear c15
         by_cases c33 : x6_1.length < 17592186044416
         ·rw [if_pos c33] at H
          have LMc33 := Aside0.mk c33; clear c33; obtain ⟨y597, hy597⟩ : ∃ y_ : List Int, y_ = (x6_1 ++ [x8_2]) := ⟨_, rfl⟩; replace H : (if 0 ≤ x8_2 then (spec_PlainOrder.l0 k2 a1 y597 (Go.bits .andNot .i64 x7_1 (shl .i64 1 x8_2)) a0_0 l0_1) else (none)) = some (r1, r2) := by first | (rw [hy597]; with_reducible exact H) | (have H2_ := (Option.bind_some _ _).symm.trans H; rw [hy597]; with_reducible exact H2_) | (have H2_ := (Option.bind_some _ _).symm.trans H; with_reducible exact H2_) | with_reducible exact H | (rw [hy597]; exact H) | exact H
          have Ny597 := Aside0.mk hy597; clear hy597
          by_cases c34 : 0 ≤ x8_2
          ·rw [if_pos c34] at H
           have c34b0 := eq_true c34; have c34b1 : decide (0 ≤ x8_2) = true := decide_eq_true c34; clear c34; obtain ⟨ji35, hji35⟩ : ∃ j_ : Int, (shl .i64 1 x8_2) = j_ := ⟨_, rfl⟩; replace H : (spec_PlainOrder.l0 k2 a1 y597 (Go.bits .andNot .i64 x7_1 (ji35)) a0_0 l0_1) = some (r1, r2) := by first | (rw [hji35] at H; exact H) | (simp only [hji35] at H ⊢; exact H)
           have hji35_ : (IntKind.i64.wrap (1 * 2 ^ min x8_2.toNat 64)) = ji35 := hji35; have hji35z : x8_2 ≤ 64 → (IntKind.i64.wrap (1 * 2 ^ x8_2.toNat)) = ji35 := shl_small hji35; have hji35u : (IntKind.i64.wrap (2 ^ min x8_2.toNat 64)) = ji35 := by have h_ := hji35_; rw [Int.one_mul] at h_; exact h_
           have hji35v : x8_2 ≤ 64 → (IntKind.i64.wrap (2 ^ x8_2.toNat)) = ji35 := fun hle_ => by have h_ := hji35z hle_; rw [Int.one_mul] at h_; exact h_
           have hji35y : (wrap64 (1 * 2 ^ min x8_2.toNat 64)) = ji35 := (i64_w _).symm.trans hji35_; have hji35x : x8_2 ≤ 64 → (wrap64 (1 * 2 ^ x8_2.toNat)) = ji35 := fun h_ => (i64_w _).symm.trans (hji35z h_); have H' := Aside0.mk H; clear H
           go_wp2_with (first | ((with_reducible refine gate_builtin (b := .append) (xs := #[.tmp 64, .tmp 66]) rfl ?_); at_builtin; refine Kd.R_append (Kd.int .i64) (w0 := w) w.heap.size rfl (.tmp 64) (.tmp 66) 39 3 (.int .i64 0) 8 rfl Try.underlying39 info3 rfl (by decide) (by omega) u6 x6_1 x8_2 [.int .i64 x8_2] (fun _ => True) (fun _ => False) rfl rfl ?aP (fun _ hk => hk.elim) ?aF ?aO ?aB ?aS ?aL ?_; (case aP => exact rfl); (case aB => exact (viaX HB.out GE592.out)); (case aF => exact (fun _ _ => trivial)); (case aO => exact (viaR HO_6.out)); (case aS => exact (below_size (viaX HB.out GE592.out))); (case aL => have := LMc33.out; omega); intro v598 w36 ho hb hg hat; rw [← Ny597.out] at ho; have n0_ := Aside0.mk (blk_grown (g := gb592) (o := .cells #[.int .i64 a0_0, .slice A0_1 l0_1.length c0_1] 30 (0, 0)) (viaB BK592.out) hg (Kd.R_ne HO_6.out BK592.out (by decide))); have n1_ := Aside0.mk (hb); have n2_ := Aside0.mk (ho); clear BK592; clear HB; clear HO_6; have BK592 := n0_; have HB := n1_; have HO599 := n2_; clear n0_ n1_ n2_; clear ho hb hg hat))
           go_roundg k2
           case measure => have := HK1.out; have := HK2.out; omega
           case rel => exact ⟨(y597), (Go.bits .andNot .i64 x7_1 (ji35)), (by first | rfl | (simp; done) | (simp only [← hji35] <;> (first | rfl | simp)) | (simp [*]; done)), H', ⟨by have := HK1.out; have := HK2.out; omega⟩, ⟨viaR HO599.out⟩, ⟨viaB BK592.out⟩, ⟨viaX HB.out GE592.out⟩⟩
          ·rw [if_neg c34] at H
           exact absurd H (by simp)
         ·rw [if_neg c33] at H
          exact absurd H (by simp)
     ·rw [if_neg c13] at H
      have c13b0 : decide (0 < x7_1) = false := decide_eq_false c13; clear c13
      simp only [Option.some.injEq, Prod.mk.injEq] at H
      obtain ⟨rfl, rfl⟩ := H
      go_wp2
      go_ret2
      exact ⟨_, by first | rfl | (simp [errW_none, errW_some] <;> rfl) | (simp only [← hji6]; first | rfl | (simp [errW_none, errW_some] <;> rfl)) | (simp [*, errW_none, errW_some] <;> rfl), viaR HO_6.out, viaX HB.out GE592.out⟩
  ·rw [if_neg c5] at H
   exact absurd H (by simp)
 ·replace c4 := Bool.eq_false_iff.mpr c4
  subst c4; have H1 : (some (y593, false)) = some (r1, r2) := by rw [if_neg (show ¬ (false = true) by decide)] at H; exact H
  clear H; have H := H1; clear H1
  simp only [Option.some.injEq, Prod.mk.injEq] at H
  obtain ⟨rfl, rfl⟩ := H
  go_enter Try.func85, Try.ntmps85
  go_wp2_with (first | ((with_reducible refine gate_dst (N := 2) rfl ?_); refine box_event ?hg (N := 2) ?hd (cs := #[.int .i64 a0_0, .slice A0_1 l0_1.length c0_1]) (t := 30) ?hr ?_; (case hd => rfl); (case hg => rfl); (case hr => first | (go_simp; done) | (go_simp; rfl)); intro gb592 hg w37 hbox hb; have n0_ := Aside0.mk (below_step (viaW HB.out) hb); have n1_ := Aside0.mk (hbox); have n2_ := Aside0.mk ((by rw [hg]; exact (below_size (viaW HB.out)) : w.heap.size ≤ gb592)); have n3_ := Aside0.mk ((by rw [hg]; exact (below_size (viaW HB.out)) : w.heap.size ≤ gb592)); clear HB; have HB := n0_; have BK592 := n1_; have GW592 := n2_; have GE592 := n3_; clear n0_ n1_ n2_ n3_; clear hb hbox hg) | ((with_reducible refine gate_dst (N := 14) rfl ?_); refine Kd.R_lit (Kd.int .i64) _ 3 ?hg (N := 14) ?hd (xs := ([] : List Int)) (inner := []) (ok := fun _ => True) (okp := fun _ => True) ?hr ?hp (fun _ hk => hk) trivial (Below.refl _ _) (Nat.le_refl _) (by simp) ?_; (case hd => rfl); (case hg => rfl); (case hr => first | (go_simp; done) | (go_simp; rfl)); (case hp => exact (Reps.none _ _)); intro v594 w38 ho39 hb hg_ hnew_; clear hg_ hnew_; (first | rw [← Ny593.out] at ho39 | (simp only [Int.reduceToNat] at ho39; rw [← Ny593.out] at ho39)); have n0_ := Aside0.mk (Kd.R_lower ho39 (below_size (viaX HB.out GE592.out))); have n1_ := Aside0.mk (blk_below (g := gb592) (o := .cells #[.int .i64 a0_0, .slice A0_1 l0_1.length c0_1] 30 (0, 0)) (viaB BK592.out) hb); have n2_ := Aside0.mk (below_step (viaX HB.out GE592.out) hb); clear BK592; clear HB; have HO595 := n0_; have BK592 := n1_; have HB := n2_; clear n0_ n1_ n2_; clear hb ho39; have hcz40_0 : w38.cell? ⟨gb592, 0, none⟩ = some (.int .i64 a0_0) := (blk_cell BK592.out 0).trans rfl; have hcz40_1 : w38.cell? ⟨gb592, 1, none⟩ = some (.slice A0_1 l0_1.length c0_1) := (blk_cell BK592.out 1).trans rfl; have hfz40_0 := blk_frozen BK592.out 0; have hfz40_1 := blk_frozen BK592.out 1) | ((with_reducible refine gate_callee (f := 120) rfl ?_); refine goesL_ (some 17) rfl rfl Try.func120 (by kernel_rfl) rfl #[.agg #[.int .i64 a0_0, .slice A0_1 l0_1.length c0_1], .int .i64 a1] rfl (by (try simp only [List.map_toArray, List.map_cons, List.map_nil]); first | done | rfl) ?_; (with_reducible refine (spec_PlainIn.calls k a0_0 _ _ l0_1 a1 false _ ?side1 ?side2 A3.out).mono ?_); (case side1 => exact viaC (Kd.C_below HR0_1.out HB.out)); (case side2 => exact HC0_1.out); rintro e w41 ⟨rfl, hb⟩; refine ⟨_, rfl, ?_⟩; have n0_ := Aside0.mk (Kd.R_below (viaR HO595.out) hb); have n1_ := Aside0.mk (blk_below (g := gb592) (o := .cells #[.int .i64 a0_0, .slice A0_1 l0_1.length c0_1] 30 (0, 0)) (viaB BK592.out) hb); have n2_ := Aside0.mk (below_step (viaX HB.out GE592.out) hb); clear HO595; clear BK592; clear HB; have HO595 := n0_; have BK592 := n1_; have HB := n2_; clear n0_ n1_ n2_; (try clear hb); (try clear hb2); (try clear hk); (try clear hi)))
  go_ret2
  exact ⟨_, by first | rfl | (simp [errW_none, errW_some] <;> rfl) | (simp [*, errW_none, errW_some] <;> rfl), viaR HO595.out, viaX HB.out GE592.out⟩
/-! ### spec_KernelGame: function 41 -/
mutual
def spec_KernelGame.l0 : Nat → Int → List Int → Bool → List Int → Int → Int → List (S44) → Option (List Int × Bool)
 | 0, _, _, _, _, _, _, _ => none
 | k + 1, x1, x6, x7, x8, x9, x603000, x603001 => if x9 ≥ 0 then (spec_KernelGame.l1 k x1 x6 x7 x8 x9 0 0 x603000 x603001) else (some (x8, x7))
def spec_KernelGame.l1 : Nat → Int → List Int → Bool → List Int → Int → Int → Int → Int → List (S44) → Option (List Int × Bool)
 | 0, _, _, _, _, _, _, _, _, _ => none
 | k + 1, x1, x6, x7, x8, x9, x10, x11, x603000, x603001 => if x11 < (x603001.length : Int) then ((spec_l1Ends.f x603000 x603001 x1 x11).bind fun bt610 => (if 0 ≤ x9 then (if x9 < (x6.length : Int) then (if bt610.1 = (rd x6 x9) then (if 0 ≤ bt610.2 then (if bt610.2 < (x8.length : Int) then (if 0 ≤ (rd x8 bt610.2) then (spec_KernelGame.l1 k x1 x6 x7 x8 x9 (Go.bits .or .i64 x10 (shl .i64 1 (rd x8 bt610.2))) (wrap64 (x11 + 1)) x603000 x603001) else (none)) else (none)) else (none)) else (spec_KernelGame.l1 k x1 x6 x7 x8 x9 x10 (wrap64 (x11 + 1)) x603000 x603001)) else (none)) else (none))) else (spec_KernelGame.l2 k x1 x6 x7 x8 x9 x10 0 x603000 x603001)
def spec_KernelGame.l2 : Nat → Int → List Int → Bool → List Int → Int → Int → Int → Int → List (S44) → Option (List Int × Bool)
 | 0, _, _, _, _, _, _, _, _, _ => none
 | k + 1, x1, x6, x7, x8, x9, x10, x14, x603000, x603001 => if 0 ≤ x14 then (if (Go.bits .and .i64 (shr .i64 x10 x14) 1) = 1 then (spec_KernelGame.l2 k x1 x6 x7 x8 x9 x10 (wrap64 (x14 + 1)) x603000 x603001) else (if 0 ≤ x9 then (if x9 < (x6.length : Int) then (if 0 ≤ (rd x6 x9) then (if (rd x6 x9) < (x8.length : Int) then (spec_KernelGame.l0 k x1 x6 x7 (x8.set ((rd x6 x9) : Int).toNat x14) (wrap64 (x9 - 1)) x603000 x603001) else (none)) else (none)) else (none)) else (none))) else (none)
end
def spec_KernelGame.f (k : Nat) (a0_0 : Int) (l0_1 : List (S44)) (a1 : Int) : Option (List Int × Bool) := (spec_PlainOrder.f k a0_0 l0_1 a1).bind fun bt603 => (if 0 ≤ (bt603.1.length : Int) then (if ((bt603.1.length : Int) : Int).toNat ≤ 35184372088832 then (spec_KernelGame.l0 k a1 bt603.1 bt603.2 (List.replicate ((bt603.1.length : Int) : Int).toNat 0) (wrap64 ((bt603.1.length : Int) - 1)) a0_0 l0_1) else (none)) else (none))
theorem spec_KernelGame.mono_l : ∀ k, (∀ y0 y1 y2 y3 y4 y5 y6, LeO (spec_KernelGame.l0 k y0 y1 y2 y3 y4 y5 y6) (spec_KernelGame.l0 (k + 1) y0 y1 y2 y3 y4 y5 y6)) ∧ (∀ y0 y1 y2 y3 y4 y5 y6 y7 y8, LeO (spec_KernelGame.l1 k y0 y1 y2 y3 y4 y5 y6 y7 y8) (spec_KernelGame.l1 (k + 1) y0 y1 y2 y3 y4 y5 y6 y7 y8)) ∧ (∀ y0 y1 y2 y3 y4 y5 y6 y7 y8, LeO (spec_KernelGame.l2 k y0 y1 y2 y3 y4 y5 y6 y7 y8) (spec_KernelGame.l2 (k + 1) y0 y1 y2 y3 y4 y5 y6 y7 y8))
 | 0 => ⟨fun _ _ _ _ _ _ _ r h => by simp [spec_KernelGame.l0] at h, fun _ _ _ _ _ _ _ _ _ r h => by simp [spec_KernelGame.l1] at h, fun _ _ _ _ _ _ _ _ _ r h => by simp [spec_KernelGame.l2] at h⟩
 | k + 1 => by
  obtain ⟨ih0, ih1, ih2⟩ := spec_KernelGame.mono_l k
  refine ⟨?_, ?_, ?_⟩
  ·intro y0 y1 y2 y3 y4 y5 y6
   unfold spec_KernelGame.l0
   repeat' first
   | (with_reducible exact ih0 _ _ _ _ _ _ _)
   | (with_reducible exact ih1 _ _ _ _ _ _ _ _ _)
   | (with_reducible exact ih2 _ _ _ _ _ _ _ _ _)
   | (with_reducible exact spec_PlainOrder.mono _ _ _ _)
   | (with_reducible exact LeO.refl _)
   | (with_reducible exact LeO.none _)
   | (with_reducible refine LeO.ite ?_ ?_)
   | (with_reducible refine LeO.bind ?_ (fun _ => ?_))
   | exact ih0 _ _ _ _ _ _ _
   | exact ih1 _ _ _ _ _ _ _ _ _
   | exact ih2 _ _ _ _ _ _ _ _ _
   | exact spec_PlainOrder.mono _ _ _ _
   | exact LeO.none _
   | refine LeO.ite ?_ ?_
   | refine LeO.bind ?_ (fun _ => ?_)
  ·intro y0 y1 y2 y3 y4 y5 y6 y7 y8
   unfold spec_KernelGame.l1
   repeat' first
   | (with_reducible exact ih0 _ _ _ _ _ _ _)
   | (with_reducible exact ih1 _ _ _ _ _ _ _ _ _)
   | (with_reducible exact ih2 _ _ _ _ _ _ _ _ _)
   | (with_reducible exact spec_PlainOrder.mono _ _ _ _)
   | (with_reducible exact LeO.refl _)
   | (with_reducible exact LeO.none _)
   | (with_reducible refine LeO.ite ?_ ?_)
   | (with_reducible refine LeO.bind ?_ (fun _ => ?_))
   | exact ih0 _ _ _ _ _ _ _
   | exact ih1 _ _ _ _ _ _ _ _ _
   | exact ih2 _ _ _ _ _ _ _ _ _
   | exact spec_PlainOrder.mono _ _ _ _
   | exact LeO.none _
   | refine LeO.ite ?_ ?_
   | refine LeO.bind ?_ (fun _ => ?_)
  ·intro y0 y1 y2 y3 y4 y5 y6 y7 y8
   unfold spec_KernelGame.l2
   repeat' first
   | (with_reducible exact ih0 _ _ _ _ _ _ _)
   | (with_reducible exact ih1 _ _ _ _ _ _ _ _ _)
   | (with_reducible exact ih2 _ _ _ _ _ _ _ _ _)
   | (with_reducible exact spec_PlainOrder.mono _ _ _ _)
   | (with_reducible exact LeO.refl _)
   | (with_reducible exact LeO.none _)
   | (with_reducible refine LeO.ite ?_ ?_)
   | (with_reducible refine LeO.bind ?_ (fun _ => ?_))
   | exact ih0 _ _ _ _ _ _ _
   | exact ih1 _ _ _ _ _ _ _ _ _
   | exact ih2 _ _ _ _ _ _ _ _ _
   | exact spec_PlainOrder.mono _ _ _ _
   | exact LeO.none _
   | refine LeO.ite ?_ ?_
   | refine LeO.bind ?_ (fun _ => ?_)
theorem spec_KernelGame.mono : ∀ a0 a1 a2 k, LeO (spec_KernelGame.f k a0 a1 a2) (spec_KernelGame.f (k + 1) a0 a1 a2) := by
 intro a0 a1 a2 k; obtain ⟨ih0, ih1, ih2⟩ := spec_KernelGame.mono_l k
 unfold spec_KernelGame.f
 repeat' first
   | (with_reducible exact ih0 _ _ _ _ _ _ _)
   | (with_reducible exact ih1 _ _ _ _ _ _ _ _ _)
   | (with_reducible exact ih2 _ _ _ _ _ _ _ _ _)
   | (with_reducible exact spec_PlainOrder.mono _ _ _ _)
   | (with_reducible exact LeO.refl _)
   | (with_reducible exact LeO.none _)
   | (with_reducible refine LeO.ite ?_ ?_)
   | (with_reducible refine LeO.bind ?_ (fun _ => ?_))
   | exact ih0 _ _ _ _ _ _ _
   | exact ih1 _ _ _ _ _ _ _ _ _
   | exact ih2 _ _ _ _ _ _ _ _ _
   | exact spec_PlainOrder.mono _ _ _ _
   | exact LeO.none _
   | refine LeO.ite ?_ ?_
   | refine LeO.bind ?_ (fun _ => ?_)
set_option maxHeartbeats 8000000 in
set_option maxRecDepth 100000 in
theorem spec_KernelGame.calls (k : Nat) (a0_0 : Int) (A0_1 : Option Addr) (c0_1 : Nat) (l0_1 : List (S44)) (a1 : Int) (r1 : List Int) (r2 : Bool) (w : World) (hr0_1 : Kd.C k44 w A0_1 l0_1.length l0_1) (hc0_1 : l0_1.length ≤ c0_1) (h : spec_KernelGame.f k a0_0 l0_1 a1 = some (r1, r2)) :
  Calls Try.prog 41 #[.agg #[.int .i64 a0_0, .slice A0_1 l0_1.length c0_1], .int .i64 a1] w fun e w' => ∃ v0_ : Value, e = .returned (.tuple #[v0_, .bool r2]) ∧ Kd.R (Kd.int .i64) 3 w' w.heap.size (fun _ => True) v0_ r1 ∧ Below w.heap.size w w' := by
 have hu30 := Try.underlying30; have HR0_1 := Aside0.mk hr0_1; have HC0_1 := Aside0.mk hc0_1; clear hr0_1 hc0_1; have HB := Aside0.mk (Below.refl w.heap.size w); have H : ((spec_PlainOrder.f k a0_0 l0_1 a1).bind fun bt603 => (if 0 ≤ (bt603.1.length : Int) then (if ((bt603.1.length : Int) : Int).toNat ≤ 35184372088832 then (spec_KernelGame.l0 k a1 bt603.1 bt603.2 (List.replicate ((bt603.1.length : Int) : Int).toNat 0) (wrap64 ((bt603.1.length : Int) - 1)) a0_0 l0_1) else (none)) else (none))) = some (r1, r2) := h; clear h; replace H := Option.bind_eq_some_iff.mp H; obtain ⟨⟨t603, t606⟩, A30, H⟩ := H; replace H : (if 0 ≤ (t603.length : Int) then (if ((t603.length : Int) : Int).toNat ≤ 35184372088832 then (spec_KernelGame.l0 k a1 t603 t606 (List.replicate ((t603.length : Int) : Int).toNat 0) (wrap64 ((t603.length : Int) - 1)) a0_0 l0_1) else (none)) else (none)) = some (r1, r2) := H; have A3 := Aside0.mk A30; clear A30
 by_cases c4 : 0 ≤ (t603.length : Int)
 ·rw [if_pos c4] at H
  have c4b0 := eq_true c4; have c4b1 : decide (0 ≤ (t603.length : Int)) = true := decide_eq_true c4; clear c4
  by_cases c5 : ((t603.length : Int) : Int).toNat ≤ 35184372088832
  ·rw [if_pos c5] at H
   have c5b0 := eq_true c5; have c5b1 : decide (((t603.length : Int) : Int).toNat ≤ 35184372088832) = true := decide_eq_true c5; clear c5; obtain ⟨y607, hy607⟩ : ∃ y_ : List Int, y_ = (List.replicate ((t603.length : Int) : Int).toNat 0) := ⟨_, rfl⟩; replace H : (spec_KernelGame.l0 k a1 t603 t606 y607 (wrap64 ((t603.length : Int) - 1)) a0_0 l0_1) = some (r1, r2) := by first | (rw [hy607]; with_reducible exact H) | (have H2_ := (Option.bind_some _ _).symm.trans H; rw [hy607]; with_reducible exact H2_) | (have H2_ := (Option.bind_some _ _).symm.trans H; with_reducible exact H2_) | with_reducible exact H | (rw [hy607]; exact H) | exact H
   have Ny607 := Aside0.mk hy607; clear hy607; have H' := Aside0.mk H; clear H
   go_enter Try.func41, Try.ntmps41
   go_wp2_with (first | ((with_reducible refine gate_dst (N := 2) rfl ?_); refine box_event ?hg (N := 2) ?hd (cs := #[.int .i64 a0_0, .slice A0_1 l0_1.length c0_1]) (t := 30) ?hr ?_; (case hd => rfl); (case hg => rfl); (case hr => first | (go_simp; done) | (go_simp; rfl)); intro gb602 hg w6 hbox hb; have n0_ := Aside0.mk (below_step (viaW HB.out) hb); have n1_ := Aside0.mk (hbox); have n2_ := Aside0.mk ((by rw [hg]; exact (below_size (viaW HB.out)) : w.heap.size ≤ gb602)); have n3_ := Aside0.mk ((by rw [hg]; exact (below_size (viaW HB.out)) : w.heap.size ≤ gb602)); clear HB; have HB := n0_; have BK602 := n1_; have GW602 := n2_; have GE602 := n3_; clear n0_ n1_ n2_ n3_; clear hb hbox hg; have hcz7_0 : w6.cell? ⟨gb602, 0, none⟩ = some (.int .i64 a0_0) := (blk_cell BK602.out 0).trans rfl; have hcz7_1 : w6.cell? ⟨gb602, 1, none⟩ = some (.slice A0_1 l0_1.length c0_1) := (blk_cell BK602.out 1).trans rfl; have hfz7_0 := blk_frozen BK602.out 0; have hfz7_1 := blk_frozen BK602.out 1) | ((with_reducible refine gate_callee (f := 85) rfl ?_); refine goesL_ (some 18) rfl rfl Try.func85 (by kernel_rfl) rfl #[.agg #[.int .i64 a0_0, .slice A0_1 l0_1.length c0_1], .int .i64 a1] rfl (by (try simp only [List.map_toArray, List.map_cons, List.map_nil]); first | done | rfl) ?_; (with_reducible refine (spec_PlainOrder.calls k a0_0 _ _ l0_1 a1 t603 t606 _ ?side1 ?side2 A3.out).mono ?_); (case side1 => exact viaC (Kd.C_below HR0_1.out HB.out)); (case side2 => exact HC0_1.out); rintro e w8 ⟨v604, rfl, ho0, hb⟩; refine ⟨_, rfl, ?_⟩; have n0_ := Aside0.mk (Kd.R_lower ho0 (below_size (viaX HB.out GE602.out))); have n1_ := Aside0.mk (blk_below (g := gb602) (o := .cells #[.int .i64 a0_0, .slice A0_1 l0_1.length c0_1] 30 (0, 0)) (viaB BK602.out) hb); have n2_ := Aside0.mk (below_step (viaX HB.out GE602.out) hb); clear BK602; clear HB; have HO605 := n0_; have BK602 := n1_; have HB := n2_; clear n0_ n1_ n2_; (try clear hb); (try clear hb2); (try clear hk); (try clear hi); (try clear ho0); obtain ⟨Ao9, co9, eo9⟩ := Kd.R_slice HO605.out; subst eo9) | ((with_reducible refine gate_dst (N := 23) rfl ?_); refine Kd.R_make (Kd.int .i64) _ 3 rfl (N := 23) rfl 39 _ _ rfl (t603.length : Int) rfl rfl Try.underlying39 (.int .i64 0) 8 info3 rfl (by decide) (by omega) 0 (ok := fun _ => True) (okp := fun _ => True) rfl (fun _ hk => hk) trivial (of_decide_eq_true (by first | (with_reducible assumption) | assumption)) (Nat.le_trans (Nat.mul_le_mul_right _ (of_decide_eq_true (by first | (with_reducible assumption) | assumption) : (t603.length : Int).toNat ≤ 35184372088832)) (by omega)) (Below.refl _ _) (Nat.le_refl _) ?_; intro v608 w10 ho11 hb hg_ hnew_; clear hg_ hnew_; (first | rw [← Ny607.out] at ho11 | (simp only [Int.reduceToNat] at ho11; rw [← Ny607.out] at ho11)); have n0_ := Aside0.mk (Kd.R_elder' (viaR HO605.out) (Kd.R_base ho11) hb); have n1_ := Aside0.mk (Kd.R_lower (Kd.R_new' ho11 (Kd.R_lt (viaR HO605.out))) (below_size (viaX HB.out GE602.out))); have n2_ := Aside0.mk (blk_below (g := gb602) (o := .cells #[.int .i64 a0_0, .slice A0_1 l0_1.length c0_1] 30 (0, 0)) (viaB BK602.out) hb); have n3_ := Aside0.mk (below_step (viaX HB.out GE602.out) hb); clear HO605; clear BK602; clear HB; have HO605 := n0_; have HO609 := n1_; have BK602 := n2_; have HB := n3_; clear n0_ n1_ n2_ n3_; clear hb ho11))
   go_loopg [9] k (fun kq v9 w' => ∃ (x8_1 : List Int) (x9_1 : Int), v9 = .int .i64 x9_1 ∧ Aside0 (spec_KernelGame.l0 kq a1 t603 t606 x8_1 x9_1 a0_0 l0_1 = some (r1, r2)) ∧ Aside0 (kq ≤ k) ∧ Aside0 (Kd.R (Kd.int .i64) 3 w' w.heap.size (fun k_ => some k_ ≠ (v608 : Value).ownBlock) (.slice Ao9 t603.length co9) t603) ∧ Aside0 (Kd.R (Kd.int .i64) 3 w' w.heap.size (fun k_ => some k_ ≠ ((.slice Ao9 t603.length co9) : Value).ownBlock) v608 x8_1) ∧ Aside0 (w'.heap[gb602]? = some (.cells #[.int .i64 a0_0, (.slice A0_1 l0_1.length c0_1)] 30 (0, 0))) ∧ Aside0 (Below w.heap.size w w'))
   case atStart => exact ⟨(y607), (wrap64 ((t603.length : Int) - 1)), (by first | rfl | (simp; done) | (simp [*]; done)), H', ⟨Nat.le_refl _⟩, ⟨by (with_reducible repeat (first | apply Kd.R_alloc | apply Kd.R_drewN | apply Kd.R_drew)); exact Kd.R_mono HO605.out (fun _ hk => hk.2)⟩, ⟨by (with_reducible repeat (first | apply Kd.R_alloc | apply Kd.R_drewN | apply Kd.R_drew)); exact Kd.R_mono HO609.out (fun _ hk => hk.2)⟩, ⟨viaB BK602.out⟩, ⟨viaX HB.out GE602.out⟩⟩
   case round =>
    clear H'
    try clear p2
    try clear c4
    try clear c4b0
    try clear c4b1
    try clear c5
    try clear c5b0
    try clear c5b1
    try clear p6
    try clear c8
    try clear hcz7_0
    try clear hcz7_1
    try clear hfz7_0
    try clear hfz7_1
    obtain ⟨x8_1, x9_1, rfl, HA, HK1, HO_6, HO_8, BK602, HB⟩ := hrel
    cases gk with
    | zero => exact absurd HA.out (by simp [spec_KernelGame.l0])
    | succ k1 =>
     have H := HA.out; clear HA
     simp only [spec_KernelGame.l0] at H
     by_cases c12 : x9_1 ≥ 0
     ·rw [if_pos c12] at H
      have c12b0 : decide (0 ≤ x9_1) = true := decide_eq_true c12; clear c12; have H' := Aside0.mk H; clear H
      go_wp2
      go_loopg [10, 11] k1 (fun kq v10 v11 w' => ∃ (x10_2 : Int) (x11_2 : Int), v10 = .int .i64 x10_2 ∧ v11 = .int .i64 x11_2 ∧ Aside0 (spec_KernelGame.l1 kq a1 t603 t606 x8_1 x9_1 x10_2 x11_2 a0_0 l0_1 = some (r1, r2)) ∧ Aside0 (kq ≤ k1) ∧ Aside0 (Kd.R (Kd.int .i64) 3 w' w.heap.size (fun k_ => some k_ ≠ (v608 : Value).ownBlock) (.slice Ao9 t603.length co9) t603) ∧ Aside0 (Kd.R (Kd.int .i64) 3 w' w.heap.size (fun k_ => some k_ ≠ ((.slice Ao9 t603.length co9) : Value).ownBlock) v608 x8_1) ∧ Aside0 (w'.heap[gb602]? = some (.cells #[.int .i64 a0_0, (.slice A0_1 l0_1.length c0_1)] 30 (0, 0))) ∧ Aside0 (Below w.heap.size w w'))
      case atStart => exact ⟨(0), (0), (by first | rfl | (simp; done) | (simp [*]; done)), (by first | rfl | (simp; done) | (simp [*]; done)), H', ⟨Nat.le_refl _⟩, ⟨viaR HO_6.out⟩, ⟨viaR HO_8.out⟩, ⟨viaB BK602.out⟩, ⟨viaX HB.out GE602.out⟩⟩
      case round =>
       clear H'
       try clear c1
       try clear p2
       try clear c4
       try clear c4b0
       try clear c4b1
       try clear c5
       try clear c5b0
       try clear c5b1
       try clear p6
       try clear c8
       try clear c12
       try clear c12b0
       try clear hcz7_0
       try clear hcz7_1
       try clear hfz7_0
       try clear hfz7_1
       try clear p2
       try clear p6
       obtain ⟨x10_2, x11_2, rfl, rfl, HA, HK2, HO_6, HO_8, BK602, HB⟩ := hrel
       cases gk with
       | zero => exact absurd HA.out (by simp [spec_KernelGame.l1])
       | succ k2 =>
        have H := HA.out; clear HA
        simp only [spec_KernelGame.l1] at H
        by_cases c13 : x11_2 < (l0_1.length : Int)
        ·rw [if_pos c13] at H
         have c13b0 : decide (x11_2 < (l0_1.length : Int)) = true := decide_eq_true c13; clear c13; replace H := Option.bind_eq_some_iff.mp H; obtain ⟨⟨t610, t611⟩, A140, H⟩ := H; replace H : (if 0 ≤ x9_1 then (if x9_1 < (t603.length : Int) then (if t610 = (rd t603 x9_1) then (if 0 ≤ t611 then (if t611 < (x8_1.length : Int) then (if 0 ≤ (rd x8_1 t611) then (spec_KernelGame.l1 k2 a1 t603 t606 x8_1 x9_1 (Go.bits .or .i64 x10_2 (shl .i64 1 (rd x8_1 t611))) (wrap64 (x11_2 + 1)) a0_0 l0_1) else (none)) else (none)) else (none)) else (spec_KernelGame.l1 k2 a1 t603 t606 x8_1 x9_1 x10_2 (wrap64 (x11_2 + 1)) a0_0 l0_1)) else (none)) else (none)) = some (r1, r2) := H; have A14 := Aside0.mk A140; clear A140
         by_cases c15 : 0 ≤ x9_1
         ·rw [if_pos c15] at H
          have c15b0 : decide (0 ≤ x9_1) = true := decide_eq_true c15; clear c15
          by_cases c16 : x9_1 < (t603.length : Int)
          ·rw [if_pos c16] at H
           have c16b0 : decide (x9_1 < (t603.length : Int)) = true := decide_eq_true c16; clear c16
           by_cases c17 : t610 = (rd t603 x9_1)
           ·rw [if_pos c17] at H
            have c17b0 : (t610 == (rd t603 x9_1)) = true := beq_iff_eq.mpr c17; have c17b1 : (t610 != (rd t603 x9_1)) = false := bne_eq_false_iff_eq.mpr c17; clear c17
            by_cases c18 : 0 ≤ t611
            ·rw [if_pos c18] at H
             have c18b0 : decide (0 ≤ t611) = true := decide_eq_true c18; clear c18
             by_cases c19 : t611 < (x8_1.length : Int)
             ·rw [if_pos c19] at H
              have c19b0 : decide (t611 < (x8_1.length : Int)) = true := decide_eq_true c19; clear c19
              by_cases c20 : 0 ≤ (rd x8_1 t611)
              ·rw [if_pos c20] at H
               have c20b0 := eq_true c20; have c20b1 : decide (0 ≤ (rd x8_1 t611)) = true := decide_eq_true c20; clear c20; obtain ⟨ji21, hji21⟩ : ∃ j_ : Int, (shl .i64 1 (rd x8_1 t611)) = j_ := ⟨_, rfl⟩; replace H : (spec_KernelGame.l1 k2 a1 t603 t606 x8_1 x9_1 (Go.bits .or .i64 x10_2 (ji21)) (wrap64 (x11_2 + 1)) a0_0 l0_1) = some (r1, r2) := by first | (rw [hji21] at H; exact H) | (simp only [hji21] at H ⊢; exact H)
               (try rw [hji21] at A14)
               have hji21_ : (IntKind.i64.wrap (1 * 2 ^ min (rd x8_1 t611).toNat 64)) = ji21 := hji21; have hji21z : (rd x8_1 t611) ≤ 64 → (IntKind.i64.wrap (1 * 2 ^ (rd x8_1 t611).toNat)) = ji21 := shl_small hji21; have hji21u : (IntKind.i64.wrap (2 ^ min (rd x8_1 t611).toNat 64)) = ji21 := by have h_ := hji21_; rw [Int.one_mul] at h_; exact h_
               have hji21v : (rd x8_1 t611) ≤ 64 → (IntKind.i64.wrap (2 ^ (rd x8_1 t611).toNat)) = ji21 := fun hle_ => by have h_ := hji21z hle_; rw [Int.one_mul] at h_; exact h_
               have hji21y : (wrap64 (1 * 2 ^ min (rd x8_1 t611).toNat 64)) = ji21 := (i64_w _).symm.trans hji21_; have hji21x : (rd x8_1 t611) ≤ 64 → (wrap64 (1 * 2 ^ (rd x8_1 t611).toNat)) = ji21 := fun h_ => (i64_w _).symm.trans (hji21z h_); have H' := Aside0.mk H; clear H; have hcz22_0 : wr.cell? ⟨gb602, 0, none⟩ = some (.int .i64 a0_0) := (blk_cell BK602.out 0).trans rfl; have hcz22_1 : wr.cell? ⟨gb602, 1, none⟩ = some (.slice A0_1 l0_1.length c0_1) := (blk_cell BK602.out 1).trans rfl; have hfz22_0 := blk_frozen BK602.out 0; have hfz22_1 := blk_frozen BK602.out 1
               go_wp2_with (first | ((with_reducible refine gate_callee (f := 86) rfl ?_); refine goesL_ (some 42) rfl rfl Try.func86 (by kernel_rfl) rfl #[.agg #[.int .i64 a0_0, .slice A0_1 l0_1.length c0_1], .int .i64 a1, .int .i64 x11_2] rfl (by (try simp only [List.map_toArray, List.map_cons, List.map_nil]); first | done | rfl) ?_; (with_reducible refine (spec_l1Ends.calls a0_0 _ _ l0_1 a1 x11_2 t610 t611 _ ?side1 ?side2 A14.out).mono ?_); (case side1 => exact viaC (Kd.C_below HR0_1.out HB.out)); (case side2 => exact HC0_1.out); rintro e w23 ⟨rfl, hb⟩; refine ⟨_, rfl, ?_⟩; have n0_ := Aside0.mk (Kd.R_below (viaR HO_6.out) hb); have n1_ := Aside0.mk (Kd.R_below (viaR HO_8.out) hb); have n2_ := Aside0.mk (blk_below (g := gb602) (o := .cells #[.int .i64 a0_0, .slice A0_1 l0_1.length c0_1] 30 (0, 0)) (viaB BK602.out) hb); have n3_ := Aside0.mk (below_step (viaX HB.out GE602.out) hb); clear HO_6; clear HO_8; clear BK602; clear HB; have HO_6 := n0_; have HO_8 := n1_; have BK602 := n2_; have HB := n3_; clear n0_ n1_ n2_ n3_; (try clear hb); (try clear hb2); (try clear hk); (try clear hi); have p612 : 0 ≤ (x9_1 : Int) := of_decide_eq_true (by first | (with_reducible assumption) | assumption); have q612 : x9_1 < (t603.length : Int) := of_decide_eq_true (by first | (with_reducible assumption) | assumption); obtain ⟨ad612, e612, hx612_0⟩ := Kd.at_int (Kd.R_reads' HO_6.out).2.2 x9_1 p612 q612; cases e612; replace p612 := eq_true p612; replace q612 := eq_true q612; obtain ⟨Ao24, co24, eo24⟩ := Kd.R_slice HO_8.out; subst eo24; have p613 : 0 ≤ (t611 : Int) := of_decide_eq_true (by first | (with_reducible assumption) | assumption); have q613 : t611 < (x8_1.length : Int) := of_decide_eq_true (by first | (with_reducible assumption) | assumption); obtain ⟨ad613, e613, hx613_0⟩ := Kd.at_int (Kd.R_reads' HO_8.out).2.2 t611 p613 q613; cases e613; replace p613 := eq_true p613; replace q613 := eq_true q613))
               go_roundg k2
               case measure => have := HK1.out; have := HK2.out; omega
               case rel => exact ⟨(Go.bits .or .i64 x10_2 (ji21)), (wrap64 (x11_2 + 1)), (by first | rfl | (simp; done) | (simp only [← hji21] <;> (first | rfl | simp)) | (simp [*]; done)), (by first | rfl | (simp; done) | (simp [*]; done)), H', ⟨by have := HK1.out; have := HK2.out; omega⟩, ⟨viaR HO_6.out⟩, ⟨viaR HO_8.out⟩, ⟨viaB BK602.out⟩, ⟨viaX HB.out GE602.out⟩⟩
              ·rw [if_neg c20] at H
               exact absurd H (by simp)
             ·rw [if_neg c19] at H
              exact absurd H (by simp)
            ·rw [if_neg c18] at H
             exact absurd H (by simp)
           ·rw [if_neg c17] at H
            have c17b0 : (t610 == (rd t603 x9_1)) = false := beq_eq_false_iff_ne.mpr c17; have c17b1 : (t610 != (rd t603 x9_1)) = true := bne_iff_ne.mpr c17; have H' := Aside0.mk H; clear H; have hcz25_0 : wr.cell? ⟨gb602, 0, none⟩ = some (.int .i64 a0_0) := (blk_cell BK602.out 0).trans rfl; have hcz25_1 : wr.cell? ⟨gb602, 1, none⟩ = some (.slice A0_1 l0_1.length c0_1) := (blk_cell BK602.out 1).trans rfl; have hfz25_0 := blk_frozen BK602.out 0; have hfz25_1 := blk_frozen BK602.out 1
            go_wp2_with (first | ((with_reducible refine gate_callee (f := 86) rfl ?_); refine goesL_ (some 42) rfl rfl Try.func86 (by kernel_rfl) rfl #[.agg #[.int .i64 a0_0, .slice A0_1 l0_1.length c0_1], .int .i64 a1, .int .i64 x11_2] rfl (by (try simp only [List.map_toArray, List.map_cons, List.map_nil]); first | done | rfl) ?_; (with_reducible refine (spec_l1Ends.calls a0_0 _ _ l0_1 a1 x11_2 t610 t611 _ ?side1 ?side2 A14.out).mono ?_); (case side1 => exact viaC (Kd.C_below HR0_1.out HB.out)); (case side2 => exact HC0_1.out); rintro e w26 ⟨rfl, hb⟩; refine ⟨_, rfl, ?_⟩; have n0_ := Aside0.mk (Kd.R_below (viaR HO_6.out) hb); have n1_ := Aside0.mk (Kd.R_below (viaR HO_8.out) hb); have n2_ := Aside0.mk (blk_below (g := gb602) (o := .cells #[.int .i64 a0_0, .slice A0_1 l0_1.length c0_1] 30 (0, 0)) (viaB BK602.out) hb); have n3_ := Aside0.mk (below_step (viaX HB.out GE602.out) hb); clear HO_6; clear HO_8; clear BK602; clear HB; have HO_6 := n0_; have HO_8 := n1_; have BK602 := n2_; have HB := n3_; clear n0_ n1_ n2_ n3_; (try clear hb); (try clear hb2); (try clear hk); (try clear hi); have p612 : 0 ≤ (x9_1 : Int) := of_decide_eq_true (by first | (with_reducible assumption) | assumption); have q612 : x9_1 < (t603.length : Int) := of_decide_eq_true (by first | (with_reducible assumption) | assumption); obtain ⟨ad612, e612, hx612_0⟩ := Kd.at_int (Kd.R_reads' HO_6.out).2.2 x9_1 p612 q612; cases e612; replace p612 := eq_true p612; replace q612 := eq_true q612))
            go_roundg k2
            case measure => have := HK1.out; have := HK2.out; omega
            case rel => exact ⟨(x10_2), (wrap64 (x11_2 + 1)), (by first | rfl | (simp; done) | (simp [*]; done)), (by first | rfl | (simp; done) | (simp [*]; done)), H', ⟨by have := HK1.out; have := HK2.out; omega⟩, ⟨viaR HO_6.out⟩, ⟨viaR HO_8.out⟩, ⟨viaB BK602.out⟩, ⟨viaX HB.out GE602.out⟩⟩
          ·rw [if_neg c16] at H
           exact absurd H (by simp)
         ·rw [if_neg c15] at H
          exact absurd H (by simp)
        ·rw [if_neg c13] at H
         have c13b0 : decide (x11_2 < (l0_1.length : Int)) = false := decide_eq_false c13; clear c13; have H' := Aside0.mk H; clear H; have hcz27_0 : wr.cell? ⟨gb602, 0, none⟩ = some (.int .i64 a0_0) := (blk_cell BK602.out 0).trans rfl; have hcz27_1 : wr.cell? ⟨gb602, 1, none⟩ = some (.slice A0_1 l0_1.length c0_1) := (blk_cell BK602.out 1).trans rfl; have hfz27_0 := blk_frozen BK602.out 0; have hfz27_1 := blk_frozen BK602.out 1
         go_wp2
         go_loopg [14] k2 (fun kq v14 w' => ∃ (x14_3 : Int), v14 = .int .i64 x14_3 ∧ Aside0 (spec_KernelGame.l2 kq a1 t603 t606 x8_1 x9_1 x10_2 x14_3 a0_0 l0_1 = some (r1, r2)) ∧ Aside0 (kq ≤ k2) ∧ Aside0 (Kd.R (Kd.int .i64) 3 w' w.heap.size (fun k_ => some k_ ≠ (v608 : Value).ownBlock) (.slice Ao9 t603.length co9) t603) ∧ Aside0 (Kd.R (Kd.int .i64) 3 w' w.heap.size (fun k_ => some k_ ≠ ((.slice Ao9 t603.length co9) : Value).ownBlock) v608 x8_1) ∧ Aside0 (w'.heap[gb602]? = some (.cells #[.int .i64 a0_0, (.slice A0_1 l0_1.length c0_1)] 30 (0, 0))) ∧ Aside0 (Below w.heap.size w w'))
         case atStart => exact ⟨(0), (by first | rfl | (simp; done) | (simp [*]; done)), H', ⟨Nat.le_refl _⟩, ⟨viaR HO_6.out⟩, ⟨viaR HO_8.out⟩, ⟨viaB BK602.out⟩, ⟨viaX HB.out GE602.out⟩⟩
         case round =>
          clear H'
          try clear c1
          try clear c2
          try clear p2
          try clear c4
          try clear c4b0
          try clear c4b1
          try clear c5
          try clear c5b0
          try clear c5b1
          try clear p6
          try clear q6
          try clear hx6
          try clear c8
          try clear c12
          try clear c12b0
          try clear c13
          try clear c13b0
          try clear c15
          try clear c15b0
          try clear c16
          try clear c16b0
          try clear c17
          try clear c17b0
          try clear c17b1
          try clear c18
          try clear c18b0
          try clear c19
          try clear c19b0
          try clear c20
          try clear c20b0
          try clear c20b1
          try clear hcz22_0
          try clear hcz22_1
          try clear hcz25_0
          try clear hcz25_1
          try clear hcz27_0
          try clear hcz27_1
          try clear hcz7_0
          try clear hcz7_1
          try clear hfz22_0
          try clear hfz22_1
          try clear hfz25_0
          try clear hfz25_1
          try clear hfz27_0
          try clear hfz27_1
          try clear hfz7_0
          try clear hfz7_1
          try clear hx612_0
          try clear hx613_0
          try clear p2
          try clear p6
          try clear p612
          try clear p613
          try clear q612
          try clear q613
          obtain ⟨x14_3, rfl, HA, HK3, HO_6, HO_8, BK602, HB⟩ := hrel
          cases gk with
          | zero => exact absurd HA.out (by simp [spec_KernelGame.l2])
          | succ k3 =>
           have H := HA.out; clear HA
           simp only [spec_KernelGame.l2] at H
           by_cases c28 : 0 ≤ x14_3
           ·rw [if_pos c28] at H
            have c28b0 := eq_true c28; have c28b1 : decide (0 ≤ x14_3) = true := decide_eq_true c28; clear c28; obtain ⟨ji29, hji29⟩ : ∃ j_ : Int, (shr .i64 x10_2 x14_3) = j_ := ⟨_, rfl⟩; replace H : (if (Go.bits .and .i64 (ji29) 1) = 1 then (spec_KernelGame.l2 k3 a1 t603 t606 x8_1 x9_1 x10_2 (wrap64 (x14_3 + 1)) a0_0 l0_1) else (if 0 ≤ x9_1 then (if x9_1 < (t603.length : Int) then (if 0 ≤ (rd t603 x9_1) then (if (rd t603 x9_1) < (x8_1.length : Int) then (spec_KernelGame.l0 k3 a1 t603 t606 (x8_1.set ((rd t603 x9_1) : Int).toNat x14_3) (wrap64 (x9_1 - 1)) a0_0 l0_1) else (none)) else (none)) else (none)) else (none))) = some (r1, r2) := by first | (rw [hji29] at H; exact H) | (simp only [hji29] at H ⊢; exact H)
            have hji29_ : (x10_2 / 2 ^ min x14_3.toNat 64) = ji29 := hji29; have hji29z : x14_3 ≤ 64 → (x10_2 / 2 ^ x14_3.toNat) = ji29 := shr_small hji29
            by_cases c30 : (Go.bits .and .i64 (ji29) 1) = 1
            ·rw [if_pos c30] at H
             have c30b0 : ((Go.bits .and .i64 (ji29) 1) == 1) = true := beq_iff_eq.mpr c30; have c30b1 : ((Go.bits .and .i64 (ji29) 1) != 1) = false := bne_eq_false_iff_eq.mpr c30; clear c30; have H' := Aside0.mk H; clear H
             go_wp2
             go_roundg k3
             case measure => have := HK1.out; have := HK2.out; have := HK3.out; omega
             case rel => exact ⟨(wrap64 (x14_3 + 1)), (by first | rfl | (simp; done) | (simp [*]; done)), H', ⟨by have := HK1.out; have := HK2.out; have := HK3.out; omega⟩, ⟨viaR HO_6.out⟩, ⟨viaR HO_8.out⟩, ⟨viaB BK602.out⟩, ⟨viaX HB.out GE602.out⟩⟩
            ·rw [if_neg c30] at H
             have c30b0 : ((Go.bits .and .i64 (ji29) 1) == 1) = false := beq_eq_false_iff_ne.mpr c30; have c30b1 : ((Go.bits .and .i64 (ji29) 1) != 1) = true := bne_iff_ne.mpr c30
             by_cases c31 : 0 ≤ x9_1
             ·rw [if_pos c31] at H
              have c31b0 : decide (0 ≤ x9_1) = true := decide_eq_true c31; clear c31
              by_cases c32 : x9_1 < (t603.length : Int)
              ·rw [if_pos c32] at H
               have c32b0 : decide (x9_1 < (t603.length : Int)) = true := decide_eq_true c32; clear c32
               by_cases c33 : 0 ≤ (rd t603 x9_1)
               ·rw [if_pos c33] at H
                have c33b0 : decide (0 ≤ (rd t603 x9_1)) = true := decide_eq_true c33; clear c33
                by_cases c34 : (rd t603 x9_1) < (x8_1.length : Int)
                ·rw [if_pos c34] at H
                 have c34b0 : decide ((rd t603 x9_1) < (x8_1.length : Int)) = true := decide_eq_true c34; clear c34; obtain ⟨y615, hy615⟩ : ∃ y_ : List Int, y_ = (x8_1.set ((rd t603 x9_1) : Int).toNat x14_3) := ⟨_, rfl⟩; replace H : (spec_KernelGame.l0 k3 a1 t603 t606 y615 (wrap64 (x9_1 - 1)) a0_0 l0_1) = some (r1, r2) := by first | (rw [hy615]; with_reducible exact H) | (have H2_ := (Option.bind_some _ _).symm.trans H; rw [hy615]; with_reducible exact H2_) | (have H2_ := (Option.bind_some _ _).symm.trans H; with_reducible exact H2_) | with_reducible exact H | (rw [hy615]; exact H) | exact H
                 have Ny615 := Aside0.mk hy615; clear hy615; have H' := Aside0.mk H; clear H; have p614 : 0 ≤ (x9_1 : Int) := of_decide_eq_true (by first | (with_reducible assumption) | assumption); have q614 : x9_1 < (t603.length : Int) := of_decide_eq_true (by first | (with_reducible assumption) | assumption); obtain ⟨ad614, e614, hx614_0⟩ := Kd.at_int (Kd.R_reads' HO_6.out).2.2 x9_1 p614 q614
                 cases e614
                 replace p614 := eq_true p614; replace q614 := eq_true q614; have p35 : 0 ≤ ((rd t603 x9_1) : Int) := of_decide_eq_true (by first | (with_reducible assumption) | assumption); have q35 : ((rd t603 x9_1) : Int) < ((x8_1.length : Int) : Int) := of_decide_eq_true (by first | (with_reducible assumption) | assumption); obtain ⟨go35, co35, eo35, gb35, gl35, cl35, HG35⟩ := Kd.R_form HO_8.out (by omega)
                 (first | cases eo35 | (injection eo35 with ea_ en_ ec_; (first | subst ea_ | (injection ea_ with ea_; subst ea_)); subst ec_; clear en_))
                 have GB35 := Aside0.mk gb35; have GG35 := Aside0.mk HG35; clear gb35 gl35 HG35; obtain ⟨hx35_0, hf35_0⟩ := Kd.R_celln 0 HO_8.out ((rd t603 x9_1) : Int) p35 q35; replace p35 := eq_true p35; replace q35 := eq_true q35; have HP36 := Kd.R_putg HO_8.out ((rd t603 x9_1) : Int) x14_3
                 go_wp2_with (first | ((with_reducible refine gate_store (t := 3) (p := 71) rfl ?_); refine store_event (t := 3) (p := 71) (v := ?vo_w37) (w1 := (wr.setCell ⟨go35, ((rd t603 x9_1) : Int).toNat, none⟩ (.int .i64 x14_3))) ?hg ?ho ?hn ?hr ?_; (case ho => rfl); (case hg => rfl); (case hn => rfl); (case hr => first | (go_simp; done) | (go_simp; rfl)); intro w37 hw; have hg : wr.grownBy w37 (some go35) := (by rw [hw]; exact HP36.2); have hp_ : Kd.R (Kd.int .i64) 3 w37 w.heap.size (fun k_ => some k_ ≠ (.slice (some ad614) t603.length co9 : Value).ownBlock) (.slice (some ⟨go35, 0, none⟩) x8_1.length co35) y615 := (by rw [hw, Ny615.out]; exact HP36.1); clear HP36; have n0_ := Aside0.mk (Kd.R_after (v := (.slice (some ⟨go35, 0, none⟩) x8_1.length co35)) (v1 := (.slice (some ⟨go35, 0, none⟩) x8_1.length co35)) (ok := (fun _ => True)) (by (with_reducible repeat (first | apply Kd.R_alloc | apply Kd.R_drewN | apply Kd.R_drew)); exact Kd.R_mono HO_6.out (fun _ hk => ⟨trivial, hk⟩)) hg (.inl rfl)); have n1_ := Aside0.mk (hp_); have n2_ := Aside0.mk (blk_grown (g := gb602) (o := .cells #[.int .i64 a0_0, .slice A0_1 l0_1.length c0_1] 30 (0, 0)) (viaB BK602.out) hg (Kd.R_ne HO_8.out BK602.out (by decide))); have n3_ := Aside0.mk ((by rw [hw]; exact below_set (HB.out) GB35.out : Below w.heap.size w w37)); clear HO_6; clear HO_8; clear BK602; clear HB; have HO_6 := n0_; have HO_8 := n1_; have BK602 := n2_; have HB := n3_; clear n0_ n1_ n2_ n3_; clear hg hw hp_))
                 go_roundg k3
                 case measure => have := HK1.out; have := HK2.out; have := HK3.out; omega
                 case rel => exact ⟨(y615), (wrap64 (x9_1 - 1)), (by first | rfl | (simp; done) | (simp [*]; done)), H', ⟨by have := HK1.out; have := HK2.out; have := HK3.out; omega⟩, ⟨by (with_reducible repeat (first | apply Kd.R_alloc | apply Kd.R_drewN | apply Kd.R_drew)); exact Kd.R_mono HO_6.out (fun _ hk => hk.2)⟩, ⟨viaR HO_8.out⟩, ⟨viaB BK602.out⟩, ⟨viaX HB.out GE602.out⟩⟩
                ·rw [if_neg c34] at H
                 exact absurd H (by simp)
               ·rw [if_neg c33] at H
                exact absurd H (by simp)
              ·rw [if_neg c32] at H
               exact absurd H (by simp)
             ·rw [if_neg c31] at H
              exact absurd H (by simp)
           ·rw [if_neg c28] at H
            exact absurd H (by simp)
     ·rw [if_neg c12] at H
      have c12b0 : decide (0 ≤ x9_1) = false := decide_eq_false c12; clear c12
      simp only [Option.some.injEq, Prod.mk.injEq] at H
      obtain ⟨rfl, rfl⟩ := H
      go_wp2
      go_ret2
      exact ⟨_, by first | rfl | (simp [errW_none, errW_some] <;> rfl) | (simp [*, errW_none, errW_some] <;> rfl), by (with_reducible repeat (first | apply Kd.R_alloc | apply Kd.R_drewN | apply Kd.R_drew)); exact Kd.R_mono HO_8.out (fun _ hk => trivial), viaX HB.out GE602.out⟩
  ·rw [if_neg c5] at H
   exact absurd H (by simp)
 ·rw [if_neg c4] at H
  exact absurd H (by simp)
/-! ### impl_KernelGame: function 42 -/
mutual
def impl_KernelGame.l0 : Nat → List Int → List Int → List Int → Int → Option (List Int × Bool)
 | 0, _, _, _, _ => none
 | k + 1, x6, x7, x8, x9 => if x9 ≥ 0 then (impl_KernelGame.l1 k x6 x7 x8 x9 0 x7 (x7.length : Int) 0) else (some (x7, true))
def impl_KernelGame.l1 : Nat → List Int → List Int → List Int → Int → Int → List Int → Int → Int → Option (List Int × Bool)
 | 0, _, _, _, _, _, _, _, _ => none
 | k + 1, x6, x7, x8, x9, x10, x33, x34, x35 => if x35 < x34 then (if 0 ≤ x35 then (if x35 < (x33.length : Int) then (if 0 ≤ x9 then (if x9 < (x8.length : Int) then (if 0 ≤ (rd x8 x9) then (if (rd x8 x9) < (x6.length : Int) then (if (Go.bits .and .i64 (shr .i64 (rd x6 (rd x8 x9)) x35) 1) = 1 then (if 0 ≤ (rd x33 x35) then (impl_KernelGame.l1 k x6 x7 x8 x9 (Go.bits .or .i64 x10 (shl .i64 1 (rd x33 x35))) x33 x34 (wrap64 (x35 + 1))) else (none)) else (impl_KernelGame.l1 k x6 x7 x8 x9 x10 x33 x34 (wrap64 (x35 + 1)))) else (none)) else (none)) else (none)) else (none)) else (none)) else (none)) else (impl_KernelGame.l2 k x6 x7 x8 x9 x10)
def impl_KernelGame.l2 : Nat → List Int → List Int → List Int → Int → Int → Option (List Int × Bool)
 | 0, _, _, _, _, _ => none
 | k + 1, x6, x7, x8, x9, x10 => if 0 ≤ x9 then (if x9 < (x8.length : Int) then (if 0 ≤ (rd x8 x9) then (if (rd x8 x9) < (x7.length : Int) then (if 0 ≤ (rd x7 (rd x8 x9)) then (if (Go.bits .and .i64 (shr .i64 x10 (rd x7 (rd x8 x9))) 1) = 1 then (impl_KernelGame.l2 k x6 (x7.set ((rd x8 x9) : Int).toNat (wrap64 ((rd x7 (rd x8 x9)) + 1))) x8 x9 x10) else (impl_KernelGame.l0 k x6 x7 x8 (wrap64 (x9 - 1)))) else (none)) else (none)) else (none)) else (none)) else (none)
end
def impl_KernelGame.f (k : Nat) (a0_0 : Int) (l0_1 : List (S44)) (a1 : Int) : Option (List Int × Bool) := (impl_PlainIn.f k a0_0 l0_1 a1).bind fun t636 => (if t636 = true then ((impl_nextOf.f k a0_0 l0_1 a1).bind fun t637 => (if 0 ≤ a0_0 then (if (a0_0 : Int).toNat ≤ 35184372088832 then ((impl_sorted.f k a0_0 l0_1 a1).bind fun t643 => (impl_KernelGame.l0 k t637 (List.replicate (a0_0 : Int).toNat 0) t643 (wrap64 ((t643.length : Int) - 1)))) else (none)) else (none))) else (some (([] : List Int), false)))
theorem impl_KernelGame.mono_l : ∀ k, (∀ y0 y1 y2 y3, LeO (impl_KernelGame.l0 k y0 y1 y2 y3) (impl_KernelGame.l0 (k + 1) y0 y1 y2 y3)) ∧ (∀ y0 y1 y2 y3 y4 y5 y6 y7, LeO (impl_KernelGame.l1 k y0 y1 y2 y3 y4 y5 y6 y7) (impl_KernelGame.l1 (k + 1) y0 y1 y2 y3 y4 y5 y6 y7)) ∧ (∀ y0 y1 y2 y3 y4, LeO (impl_KernelGame.l2 k y0 y1 y2 y3 y4) (impl_KernelGame.l2 (k + 1) y0 y1 y2 y3 y4))
 | 0 => ⟨fun _ _ _ _ r h => by simp [impl_KernelGame.l0] at h, fun _ _ _ _ _ _ _ _ r h => by simp [impl_KernelGame.l1] at h, fun _ _ _ _ _ r h => by simp [impl_KernelGame.l2] at h⟩
 | k + 1 => by
  obtain ⟨ih0, ih1, ih2⟩ := impl_KernelGame.mono_l k
  refine ⟨?_, ?_, ?_⟩
  ·intro y0 y1 y2 y3
   unfold impl_KernelGame.l0
   repeat' first
   | (with_reducible exact ih0 _ _ _ _)
   | (with_reducible exact ih1 _ _ _ _ _ _ _ _)
   | (with_reducible exact ih2 _ _ _ _ _)
   | (with_reducible exact impl_PlainIn.mono _ _ _ _)
   | (with_reducible exact impl_nextOf.mono _ _ _ _)
   | (with_reducible exact impl_sorted.mono _ _ _ _)
   | (with_reducible exact LeO.refl _)
   | (with_reducible exact LeO.none _)
   | (with_reducible refine LeO.ite ?_ ?_)
   | (with_reducible refine LeO.bind ?_ (fun _ => ?_))
   | exact ih0 _ _ _ _
   | exact ih1 _ _ _ _ _ _ _ _
   | exact ih2 _ _ _ _ _
   | exact impl_PlainIn.mono _ _ _ _
   | exact impl_nextOf.mono _ _ _ _
   | exact impl_sorted.mono _ _ _ _
   | exact LeO.none _
   | refine LeO.ite ?_ ?_
   | refine LeO.bind ?_ (fun _ => ?_)
  ·intro y0 y1 y2 y3 y4 y5 y6 y7
   unfold impl_KernelGame.l1
   repeat' first
   | (with_reducible exact ih0 _ _ _ _)
   | (with_reducible exact ih1 _ _ _ _ _ _ _ _)
   | (with_reducible exact ih2 _ _ _ _ _)
   | (with_reducible exact impl_PlainIn.mono _ _ _ _)
   | (with_reducible exact impl_nextOf.mono _ _ _ _)
   | (with_reducible exact impl_sorted.mono _ _ _ _)
   | (with_reducible exact LeO.refl _)
   | (with_reducible exact LeO.none _)
   | (with_reducible refine LeO.ite ?_ ?_)
   | (with_reducible refine LeO.bind ?_ (fun _ => ?_))
   | exact ih0 _ _ _ _
   | exact ih1 _ _ _ _ _ _ _ _
   | exact ih2 _ _ _ _ _
   | exact impl_PlainIn.mono _ _ _ _
   | exact impl_nextOf.mono _ _ _ _
   | exact impl_sorted.mono _ _ _ _
   | exact LeO.none _
   | refine LeO.ite ?_ ?_
   | refine LeO.bind ?_ (fun _ => ?_)
  ·intro y0 y1 y2 y3 y4
   unfold impl_KernelGame.l2
   repeat' first
   | (with_reducible exact ih0 _ _ _ _)
   | (with_reducible exact ih1 _ _ _ _ _ _ _ _)
   | (with_reducible exact ih2 _ _ _ _ _)
   | (with_reducible exact impl_PlainIn.mono _ _ _ _)
   | (with_reducible exact impl_nextOf.mono _ _ _ _)
   | (with_reducible exact impl_sorted.mono _ _ _ _)
   | (with_reducible exact LeO.refl _)
   | (with_reducible exact LeO.none _)
   | (with_reducible refine LeO.ite ?_ ?_)
   | (with_reducible refine LeO.bind ?_ (fun _ => ?_))
   | exact ih0 _ _ _ _
   | exact ih1 _ _ _ _ _ _ _ _
   | exact ih2 _ _ _ _ _
   | exact impl_PlainIn.mono _ _ _ _
   | exact impl_nextOf.mono _ _ _ _
   | exact impl_sorted.mono _ _ _ _
   | exact LeO.none _
   | refine LeO.ite ?_ ?_
   | refine LeO.bind ?_ (fun _ => ?_)
theorem impl_KernelGame.mono : ∀ a0 a1 a2 k, LeO (impl_KernelGame.f k a0 a1 a2) (impl_KernelGame.f (k + 1) a0 a1 a2) := by
 intro a0 a1 a2 k; obtain ⟨ih0, ih1, ih2⟩ := impl_KernelGame.mono_l k
 unfold impl_KernelGame.f
 repeat' first
   | (with_reducible exact ih0 _ _ _ _)
   | (with_reducible exact ih1 _ _ _ _ _ _ _ _)
   | (with_reducible exact ih2 _ _ _ _ _)
   | (with_reducible exact impl_PlainIn.mono _ _ _ _)
   | (with_reducible exact impl_nextOf.mono _ _ _ _)
   | (with_reducible exact impl_sorted.mono _ _ _ _)
   | (with_reducible exact LeO.refl _)
   | (with_reducible exact LeO.none _)
   | (with_reducible refine LeO.ite ?_ ?_)
   | (with_reducible refine LeO.bind ?_ (fun _ => ?_))
   | exact ih0 _ _ _ _
   | exact ih1 _ _ _ _ _ _ _ _
   | exact ih2 _ _ _ _ _
   | exact impl_PlainIn.mono _ _ _ _
   | exact impl_nextOf.mono _ _ _ _
   | exact impl_sorted.mono _ _ _ _
   | exact LeO.none _
   | refine LeO.ite ?_ ?_
   | refine LeO.bind ?_ (fun _ => ?_)
set_option maxHeartbeats 8000000 in
set_option maxRecDepth 100000 in
theorem impl_KernelGame.calls (k : Nat) (a0_0 : Int) (A0_1 : Option Addr) (c0_1 : Nat) (l0_1 : List (S44)) (a1 : Int) (r1 : List Int) (r2 : Bool) (w : World) (hr0_1 : Kd.C k44 w A0_1 l0_1.length l0_1) (hc0_1 : l0_1.length ≤ c0_1) (h : impl_KernelGame.f k a0_0 l0_1 a1 = some (r1, r2)) :
  Calls Try.prog 42 #[.agg #[.int .i64 a0_0, .slice A0_1 l0_1.length c0_1], .int .i64 a1] w fun e w' => ∃ v0_ : Value, e = .returned (.tuple #[v0_, .bool r2]) ∧ Kd.R (Kd.int .i64) 3 w' w.heap.size (fun _ => True) v0_ r1 ∧ Below w.heap.size w w' := by
 have hu30 := Try.underlying30; have HR0_1 := Aside0.mk hr0_1; have HC0_1 := Aside0.mk hc0_1; clear hr0_1 hc0_1; have HB := Aside0.mk (Below.refl w.heap.size w); have H : ((impl_PlainIn.f k a0_0 l0_1 a1).bind fun t636 => (if t636 = true then ((impl_nextOf.f k a0_0 l0_1 a1).bind fun t637 => (if 0 ≤ a0_0 then (if (a0_0 : Int).toNat ≤ 35184372088832 then ((impl_sorted.f k a0_0 l0_1 a1).bind fun t643 => (impl_KernelGame.l0 k t637 (List.replicate (a0_0 : Int).toNat 0) t643 (wrap64 ((t643.length : Int) - 1)))) else (none)) else (none))) else (some (([] : List Int), false)))) = some (r1, r2) := h; clear h; replace H := Option.bind_eq_some_iff.mp H; obtain ⟨t636, A30, H⟩ := H; replace H : (if t636 = true then ((impl_nextOf.f k a0_0 l0_1 a1).bind fun t637 => (if 0 ≤ a0_0 then (if (a0_0 : Int).toNat ≤ 35184372088832 then ((impl_sorted.f k a0_0 l0_1 a1).bind fun t643 => (impl_KernelGame.l0 k t637 (List.replicate (a0_0 : Int).toNat 0) t643 (wrap64 ((t643.length : Int) - 1)))) else (none)) else (none))) else (some (([] : List Int), false))) = some (r1, r2) := H; have A3 := Aside0.mk A30; clear A30
 by_cases c4 : t636 = true
 ·subst c4
  have H1 : ((impl_nextOf.f k a0_0 l0_1 a1).bind fun t637 => (if 0 ≤ a0_0 then (if (a0_0 : Int).toNat ≤ 35184372088832 then ((impl_sorted.f k a0_0 l0_1 a1).bind fun t643 => (impl_KernelGame.l0 k t637 (List.replicate (a0_0 : Int).toNat 0) t643 (wrap64 ((t643.length : Int) - 1)))) else (none)) else (none))) = some (r1, r2) := by rw [if_pos rfl] at H; exact H
  clear H; have H := H1; clear H1; replace H := Option.bind_eq_some_iff.mp H; obtain ⟨t637, A50, H⟩ := H; replace H : (if 0 ≤ a0_0 then (if (a0_0 : Int).toNat ≤ 35184372088832 then ((impl_sorted.f k a0_0 l0_1 a1).bind fun t643 => (impl_KernelGame.l0 k t637 (List.replicate (a0_0 : Int).toNat 0) t643 (wrap64 ((t643.length : Int) - 1)))) else (none)) else (none)) = some (r1, r2) := H; have A5 := Aside0.mk A50; clear A50
  by_cases c6 : 0 ≤ a0_0
  ·rw [if_pos c6] at H
   have c6b0 := eq_true c6; have c6b1 : decide (0 ≤ a0_0) = true := decide_eq_true c6; clear c6
   by_cases c7 : (a0_0 : Int).toNat ≤ 35184372088832
   ·rw [if_pos c7] at H
    have c7b0 := eq_true c7; have c7b1 : decide ((a0_0 : Int).toNat ≤ 35184372088832) = true := decide_eq_true c7; clear c7; obtain ⟨y640, hy640⟩ : ∃ y_ : List Int, y_ = (List.replicate (a0_0 : Int).toNat 0) := ⟨_, rfl⟩; replace H : ((impl_sorted.f k a0_0 l0_1 a1).bind fun t643 => (impl_KernelGame.l0 k t637 y640 t643 (wrap64 ((t643.length : Int) - 1)))) = some (r1, r2) := by first | (rw [hy640]; with_reducible exact H) | (have H2_ := (Option.bind_some _ _).symm.trans H; rw [hy640]; with_reducible exact H2_) | (have H2_ := (Option.bind_some _ _).symm.trans H; with_reducible exact H2_) | with_reducible exact H | (rw [hy640]; exact H) | exact H
    have Ny640 := Aside0.mk hy640; clear hy640; replace H := Option.bind_eq_some_iff.mp H; obtain ⟨t643, A80, H⟩ := H; replace H : (impl_KernelGame.l0 k t637 y640 t643 (wrap64 ((t643.length : Int) - 1))) = some (r1, r2) := H; have A8 := Aside0.mk A80; clear A80; have H' := Aside0.mk H; clear H
    go_enter Try.func42, Try.ntmps42
    go_wp2_with (first | ((with_reducible refine gate_dst (N := 2) rfl ?_); refine box_event ?hg (N := 2) ?hd (cs := #[.int .i64 a0_0, .slice A0_1 l0_1.length c0_1]) (t := 30) ?hr ?_; (case hd => rfl); (case hg => rfl); (case hr => first | (go_simp; done) | (go_simp; rfl)); intro gb635 hg w9 hbox hb; have n0_ := Aside0.mk (below_step (viaW HB.out) hb); have n1_ := Aside0.mk (hbox); have n2_ := Aside0.mk ((by rw [hg]; exact (below_size (viaW HB.out)) : w.heap.size ≤ gb635)); have n3_ := Aside0.mk ((by rw [hg]; exact (below_size (viaW HB.out)) : w.heap.size ≤ gb635)); clear HB; have HB := n0_; have BK635 := n1_; have GW635 := n2_; have GE635 := n3_; clear n0_ n1_ n2_ n3_; clear hb hbox hg; have hcz10_0 : w9.cell? ⟨gb635, 0, none⟩ = some (.int .i64 a0_0) := (blk_cell BK635.out 0).trans rfl; have hcz10_1 : w9.cell? ⟨gb635, 1, none⟩ = some (.slice A0_1 l0_1.length c0_1) := (blk_cell BK635.out 1).trans rfl; have hfz10_0 := blk_frozen BK635.out 0; have hfz10_1 := blk_frozen BK635.out 1) | ((with_reducible refine gate_callee (f := 49) rfl ?_); refine goesL_ (some 15) rfl rfl Try.func49 (by kernel_rfl) rfl #[.agg #[.int .i64 a0_0, .slice A0_1 l0_1.length c0_1], .int .i64 a1] rfl (by (try simp only [List.map_toArray, List.map_cons, List.map_nil]); first | done | rfl) ?_; (with_reducible refine (impl_PlainIn.calls k a0_0 _ _ l0_1 a1 true _ ?side1 ?side2 A3.out).mono ?_); (case side1 => exact viaC (Kd.C_below HR0_1.out HB.out)); (case side2 => exact HC0_1.out); rintro e w11 ⟨rfl, hb⟩; refine ⟨_, rfl, ?_⟩; have n0_ := Aside0.mk (blk_below (g := gb635) (o := .cells #[.int .i64 a0_0, .slice A0_1 l0_1.length c0_1] 30 (0, 0)) (viaB BK635.out) hb); have n1_ := Aside0.mk (below_step (viaX HB.out GE635.out) hb); clear BK635; clear HB; have BK635 := n0_; have HB := n1_; clear n0_ n1_; (try clear hb); (try clear hb2); (try clear hk); (try clear hi); have hcz12_0 : w11.cell? ⟨gb635, 0, none⟩ = some (.int .i64 a0_0) := (blk_cell BK635.out 0).trans rfl; have hcz12_1 : w11.cell? ⟨gb635, 1, none⟩ = some (.slice A0_1 l0_1.length c0_1) := (blk_cell BK635.out 1).trans rfl; have hfz12_0 := blk_frozen BK635.out 0; have hfz12_1 := blk_frozen BK635.out 1) | ((with_reducible refine gate_callee (f := 87) rfl ?_); refine goesL_ (some 19) rfl rfl Try.func87 (by kernel_rfl) rfl #[.agg #[.int .i64 a0_0, .slice A0_1 l0_1.length c0_1], .int .i64 a1] rfl (by (try simp only [List.map_toArray, List.map_cons, List.map_nil]); first | done | rfl) ?_; (with_reducible refine (impl_nextOf.calls k a0_0 _ _ l0_1 a1 t637 _ ?side1 ?side2 A5.out).mono ?_); (case side1 => exact viaC (Kd.C_below HR0_1.out HB.out)); (case side2 => exact HC0_1.out); rintro e w13 ⟨v638, rfl, ho0, hb⟩; refine ⟨_, rfl, ?_⟩; have n0_ := Aside0.mk (Kd.R_lower ho0 (below_size (viaX HB.out GE635.out))); have n1_ := Aside0.mk (blk_below (g := gb635) (o := .cells #[.int .i64 a0_0, .slice A0_1 l0_1.length c0_1] 30 (0, 0)) (viaB BK635.out) hb); have n2_ := Aside0.mk (below_step (viaX HB.out GE635.out) hb); clear BK635; clear HB; have HO639 := n0_; have BK635 := n1_; have HB := n2_; clear n0_ n1_ n2_; (try clear hb); (try clear hb2); (try clear hk); (try clear hi); (try clear ho0); have hcz14_0 : w13.cell? ⟨gb635, 0, none⟩ = some (.int .i64 a0_0) := (blk_cell BK635.out 0).trans rfl; have hcz14_1 : w13.cell? ⟨gb635, 1, none⟩ = some (.slice A0_1 l0_1.length c0_1) := (blk_cell BK635.out 1).trans rfl; have hfz14_0 := blk_frozen BK635.out 0; have hfz14_1 := blk_frozen BK635.out 1) | ((with_reducible refine gate_dst (N := 22) rfl ?_); refine Kd.R_make (Kd.int .i64) _ 3 rfl (N := 22) rfl 39 _ _ rfl a0_0 rfl rfl Try.underlying39 (.int .i64 0) 8 info3 rfl (by decide) (by omega) 0 (ok := fun _ => True) (okp := fun _ => True) rfl (fun _ hk => hk) trivial (of_decide_eq_true (by first | (with_reducible assumption) | assumption)) (Nat.le_trans (Nat.mul_le_mul_right _ (of_decide_eq_true (by first | (with_reducible assumption) | assumption) : a0_0.toNat ≤ 35184372088832)) (by omega)) (Below.refl _ _) (Nat.le_refl _) ?_; intro v641 w15 ho16 hb hg_ hnew_; clear hg_ hnew_; (first | rw [← Ny640.out] at ho16 | (simp only [Int.reduceToNat] at ho16; rw [← Ny640.out] at ho16)); have n0_ := Aside0.mk (Kd.R_elder' (viaR HO639.out) (Kd.R_base ho16) hb); have n1_ := Aside0.mk (Kd.R_lower (Kd.R_new' ho16 (Kd.R_lt (viaR HO639.out))) (below_size (viaX HB.out GE635.out))); have n2_ := Aside0.mk (blk_below (g := gb635) (o := .cells #[.int .i64 a0_0, .slice A0_1 l0_1.length c0_1] 30 (0, 0)) (viaB BK635.out) hb); have n3_ := Aside0.mk (below_step (viaX HB.out GE635.out) hb); clear HO639; clear BK635; clear HB; have HO639 := n0_; have HO642 := n1_; have BK635 := n2_; have HB := n3_; clear n0_ n1_ n2_ n3_; clear hb ho16; have hcz17_0 : w15.cell? ⟨gb635, 0, none⟩ = some (.int .i64 a0_0) := (blk_cell BK635.out 0).trans rfl; have hcz17_1 : w15.cell? ⟨gb635, 1, none⟩ = some (.slice A0_1 l0_1.length c0_1) := (blk_cell BK635.out 1).trans rfl; have hfz17_0 := blk_frozen BK635.out 0; have hfz17_1 := blk_frozen BK635.out 1) | ((with_reducible refine gate_callee (f := 88) rfl ?_); refine goesL_ (some 25) rfl rfl Try.func88 (by kernel_rfl) rfl #[.agg #[.int .i64 a0_0, .slice A0_1 l0_1.length c0_1], .int .i64 a1] rfl (by (try simp only [List.map_toArray, List.map_cons, List.map_nil]); first | done | rfl) ?_; (with_reducible refine (impl_sorted.calls k a0_0 _ _ l0_1 a1 t643 _ ?side1 ?side2 A8.out).mono ?_); (case side1 => exact viaC (Kd.C_below HR0_1.out HB.out)); (case side2 => exact HC0_1.out); rintro e w18 ⟨v644, rfl, ho0, hb⟩; refine ⟨_, rfl, ?_⟩; have n0_ := Aside0.mk (Kd.R_elder' (viaR HO639.out) (Kd.R_base ho0) hb); have n1_ := Aside0.mk (Kd.R_elder' (viaR HO642.out) (Kd.R_base ho0) hb); have n2_ := Aside0.mk (Kd.R_lower (Kd.R_new' (Kd.R_new' ho0 (Kd.R_lt (viaR HO639.out))) (Kd.R_lt (viaR HO642.out))) (below_size (viaX HB.out GE635.out))); have n3_ := Aside0.mk (blk_below (g := gb635) (o := .cells #[.int .i64 a0_0, .slice A0_1 l0_1.length c0_1] 30 (0, 0)) (viaB BK635.out) hb); have n4_ := Aside0.mk (below_step (viaX HB.out GE635.out) hb); clear HO639; clear HO642; clear BK635; clear HB; have HO639 := n0_; have HO642 := n1_; have HO645 := n2_; have BK635 := n3_; have HB := n4_; clear n0_ n1_ n2_ n3_ n4_; (try clear hb); (try clear hb2); (try clear hk); (try clear hi); (try clear ho0); obtain ⟨Ao19, co19, eo19⟩ := Kd.R_slice HO645.out; subst eo19))
    go_loopg [9] k (fun kq v9 w' => ∃ (x7_1 : List Int) (x9_1 : Int), v9 = .int .i64 x9_1 ∧ Aside0 (impl_KernelGame.l0 kq t637 x7_1 t643 x9_1 = some (r1, r2)) ∧ Aside0 (kq ≤ k) ∧ Aside0 (Kd.R (Kd.int .i64) 3 w' w.heap.size (fun k_ => some k_ ≠ (v641 : Value).ownBlock ∧ some k_ ≠ ((.slice Ao19 t643.length co19) : Value).ownBlock) v638 t637) ∧ Aside0 (Kd.R (Kd.int .i64) 3 w' w.heap.size (fun k_ => some k_ ≠ (v638 : Value).ownBlock ∧ some k_ ≠ ((.slice Ao19 t643.length co19) : Value).ownBlock) v641 x7_1) ∧ Aside0 (Kd.R (Kd.int .i64) 3 w' w.heap.size (fun k_ => some k_ ≠ (v638 : Value).ownBlock ∧ some k_ ≠ (v641 : Value).ownBlock) (.slice Ao19 t643.length co19) t643) ∧ Aside0 (w'.heap[gb635]? = some (.cells #[.int .i64 a0_0, (.slice A0_1 l0_1.length c0_1)] 30 (0, 0))) ∧ Aside0 (Below w.heap.size w w'))
    case atStart => exact ⟨(y640), (wrap64 ((t643.length : Int) - 1)), (by first | rfl | (simp; done) | (simp [*]; done)), H', ⟨Nat.le_refl _⟩, ⟨by (with_reducible repeat (first | apply Kd.R_alloc | apply Kd.R_drewN | apply Kd.R_drew)); exact Kd.R_mono HO639.out (fun _ hk => ⟨hk.1.2, hk.2⟩)⟩, ⟨by (with_reducible repeat (first | apply Kd.R_alloc | apply Kd.R_drewN | apply Kd.R_drew)); exact Kd.R_mono HO642.out (fun _ hk => ⟨hk.1.2, hk.2⟩)⟩, ⟨by (with_reducible repeat (first | apply Kd.R_alloc | apply Kd.R_drewN | apply Kd.R_drew)); exact Kd.R_mono HO645.out (fun _ hk => ⟨hk.1.2, hk.2⟩)⟩, ⟨viaB BK635.out⟩, ⟨viaX HB.out GE635.out⟩⟩
    case round =>
     clear H'
     try clear p2
     try clear c4
     try clear c6
     try clear c6b0
     try clear c6b1
     try clear p6
     try clear c7
     try clear c7b0
     try clear c7b1
     try clear c8
     try clear hcz10_0
     try clear hcz10_1
     try clear hcz12_0
     try clear hcz12_1
     try clear hcz14_0
     try clear hcz14_1
     try clear hcz17_0
     try clear hcz17_1
     try clear hfz10_0
     try clear hfz10_1
     try clear hfz12_0
     try clear hfz12_1
     try clear hfz14_0
     try clear hfz14_1
     try clear hfz17_0
     try clear hfz17_1
     obtain ⟨x7_1, x9_1, rfl, HA, HK1, HO_6, HO_7, HO_8, BK635, HB⟩ := hrel
     cases gk with
     | zero => exact absurd HA.out (by simp [impl_KernelGame.l0])
     | succ k1 =>
      have H := HA.out; clear HA
      simp only [impl_KernelGame.l0] at H
      by_cases c20 : x9_1 ≥ 0
      ·rw [if_pos c20] at H
       have c20b0 : decide (0 ≤ x9_1) = true := decide_eq_true c20; clear c20; have H' := Aside0.mk H; clear H; obtain ⟨Ao21, co21, eo21⟩ := Kd.R_slice HO_7.out; subst eo21
       go_wp2
       go_loopg [10, 35] k1 (fun kq v10 v35 w' => ∃ (x10_2 : Int) (x35_2 : Int), v10 = .int .i64 x10_2 ∧ v35 = .int .i64 x35_2 ∧ Aside0 (impl_KernelGame.l1 kq t637 x7_1 t643 x9_1 x10_2 x7_1 (x7_1.length : Int) x35_2 = some (r1, r2)) ∧ Aside0 (kq ≤ k1) ∧ Aside0 (Kd.R (Kd.int .i64) 3 w' w.heap.size (fun k_ => some k_ ≠ ((.slice Ao21 x7_1.length co21) : Value).ownBlock ∧ some k_ ≠ ((.slice Ao19 t643.length co19) : Value).ownBlock ∧ some k_ ≠ ((.slice Ao21 x7_1.length co21) : Value).ownBlock) v638 t637) ∧ Aside0 (Kd.R (Kd.int .i64) 3 w' w.heap.size (fun k_ => some k_ ≠ (v638 : Value).ownBlock ∧ some k_ ≠ ((.slice Ao19 t643.length co19) : Value).ownBlock) (.slice Ao21 x7_1.length co21) x7_1) ∧ Aside0 (Kd.R (Kd.int .i64) 3 w' w.heap.size (fun k_ => some k_ ≠ (v638 : Value).ownBlock ∧ some k_ ≠ ((.slice Ao21 x7_1.length co21) : Value).ownBlock ∧ some k_ ≠ ((.slice Ao21 x7_1.length co21) : Value).ownBlock) (.slice Ao19 t643.length co19) t643) ∧ Aside0 (Kd.R (Kd.int .i64) 3 w' w.heap.size (fun k_ => some k_ ≠ (v638 : Value).ownBlock ∧ some k_ ≠ ((.slice Ao19 t643.length co19) : Value).ownBlock) (.slice Ao21 x7_1.length co21) x7_1) ∧ Aside0 (w'.heap[gb635]? = some (.cells #[.int .i64 a0_0, (.slice A0_1 l0_1.length c0_1)] 30 (0, 0))) ∧ Aside0 (Below w.heap.size w w'))
       case atStart => exact ⟨(0), (0), (by first | rfl | (simp; done) | (simp [*]; done)), (by first | rfl | (simp; done) | (simp [*]; done)), H', ⟨Nat.le_refl _⟩, ⟨by (with_reducible repeat (first | apply Kd.R_alloc | apply Kd.R_drewN | apply Kd.R_drew)); exact Kd.R_mono HO_6.out (fun _ hk => ⟨hk.1, ⟨hk.2, hk.1⟩⟩)⟩, ⟨viaR HO_7.out⟩, ⟨by (with_reducible repeat (first | apply Kd.R_alloc | apply Kd.R_drewN | apply Kd.R_drew)); exact Kd.R_mono HO_8.out (fun _ hk => ⟨hk.1, ⟨hk.2, hk.2⟩⟩)⟩, ⟨viaR HO_7.out⟩, ⟨viaB BK635.out⟩, ⟨viaX HB.out GE635.out⟩⟩
       case round =>
        clear H'
        try clear c2
        try clear p2
        try clear c4
        try clear c6
        try clear c6b0
        try clear c6b1
        try clear p6
        try clear c7
        try clear c7b0
        try clear c7b1
        try clear c8
        try clear c20
        try clear c20b0
        try clear hcz10_0
        try clear hcz10_1
        try clear hcz12_0
        try clear hcz12_1
        try clear hcz14_0
        try clear hcz14_1
        try clear hcz17_0
        try clear hcz17_1
        try clear hfz10_0
        try clear hfz10_1
        try clear hfz12_0
        try clear hfz12_1
        try clear hfz14_0
        try clear hfz14_1
        try clear hfz17_0
        try clear hfz17_1
        try clear p2
        try clear p6
        obtain ⟨x10_2, x35_2, rfl, rfl, HA, HK2, HO_6, HO_7, HO_8, HO_33, BK635, HB⟩ := hrel
        cases gk with
        | zero => exact absurd HA.out (by simp [impl_KernelGame.l1])
        | succ k2 =>
         have H := HA.out; clear HA
         simp only [impl_KernelGame.l1] at H
         by_cases c22 : x35_2 < (x7_1.length : Int)
         ·rw [if_pos c22] at H
          have c22b0 : decide (x35_2 < (x7_1.length : Int)) = true := decide_eq_true c22; clear c22
          by_cases c23 : 0 ≤ x35_2
          ·rw [if_pos c23] at H
           have c23b0 : decide (0 ≤ x35_2) = true := decide_eq_true c23; clear c23
           by_cases c24 : x35_2 < (x7_1.length : Int)
           ·rw [if_pos c24] at H
            have c24b0 : decide (x35_2 < (x7_1.length : Int)) = true := decide_eq_true c24; clear c24
            by_cases c25 : 0 ≤ x9_1
            ·rw [if_pos c25] at H
             have c25b0 : decide (0 ≤ x9_1) = true := decide_eq_true c25; clear c25
             by_cases c26 : x9_1 < (t643.length : Int)
             ·rw [if_pos c26] at H
              have c26b0 : decide (x9_1 < (t643.length : Int)) = true := decide_eq_true c26; clear c26
              by_cases c27 : 0 ≤ (rd t643 x9_1)
              ·rw [if_pos c27] at H
               have c27b0 : decide (0 ≤ (rd t643 x9_1)) = true := decide_eq_true c27; clear c27
               by_cases c28 : (rd t643 x9_1) < (t637.length : Int)
               ·rw [if_pos c28] at H
                have c28b0 : decide ((rd t643 x9_1) < (t637.length : Int)) = true := decide_eq_true c28; clear c28; have c29b0 := eq_true (of_decide_eq_true (by first | (with_reducible assumption) | assumption) : 0 ≤ x35_2); obtain ⟨ji30, hji30⟩ : ∃ j_ : Int, (shr .i64 (rd t637 (rd t643 x9_1)) x35_2) = j_ := ⟨_, rfl⟩; replace H : (if (Go.bits .and .i64 (ji30) 1) = 1 then (if 0 ≤ (rd x7_1 x35_2) then (impl_KernelGame.l1 k2 t637 x7_1 t643 x9_1 (Go.bits .or .i64 x10_2 (shl .i64 1 (rd x7_1 x35_2))) x7_1 (x7_1.length : Int) (wrap64 (x35_2 + 1))) else (none)) else (impl_KernelGame.l1 k2 t637 x7_1 t643 x9_1 x10_2 x7_1 (x7_1.length : Int) (wrap64 (x35_2 + 1)))) = some (r1, r2) := by first | (rw [hji30] at H; exact H) | (simp only [hji30] at H ⊢; exact H)
                have hji30_ : ((rd t637 (rd t643 x9_1)) / 2 ^ min x35_2.toNat 64) = ji30 := hji30; have hji30z : x35_2 ≤ 64 → ((rd t637 (rd t643 x9_1)) / 2 ^ x35_2.toNat) = ji30 := shr_small hji30
                by_cases c31 : (Go.bits .and .i64 (ji30) 1) = 1
                ·rw [if_pos c31] at H
                 have c31b0 : ((Go.bits .and .i64 (ji30) 1) == 1) = true := beq_iff_eq.mpr c31; have c31b1 : ((Go.bits .and .i64 (ji30) 1) != 1) = false := bne_eq_false_iff_eq.mpr c31; clear c31
                 by_cases c32 : 0 ≤ (rd x7_1 x35_2)
                 ·rw [if_pos c32] at H
                  have c32b0 := eq_true c32; have c32b1 : decide (0 ≤ (rd x7_1 x35_2)) = true := decide_eq_true c32; clear c32; obtain ⟨ji33, hji33⟩ : ∃ j_ : Int, (shl .i64 1 (rd x7_1 x35_2)) = j_ := ⟨_, rfl⟩; replace H : (impl_KernelGame.l1 k2 t637 x7_1 t643 x9_1 (Go.bits .or .i64 x10_2 (ji33)) x7_1 (x7_1.length : Int) (wrap64 (x35_2 + 1))) = some (r1, r2) := by first | (rw [hji33] at H; exact H) | (simp only [hji33] at H ⊢; exact H)
                  have hji33_ : (IntKind.i64.wrap (1 * 2 ^ min (rd x7_1 x35_2).toNat 64)) = ji33 := hji33; have hji33z : (rd x7_1 x35_2) ≤ 64 → (IntKind.i64.wrap (1 * 2 ^ (rd x7_1 x35_2).toNat)) = ji33 := shl_small hji33; have hji33u : (IntKind.i64.wrap (2 ^ min (rd x7_1 x35_2).toNat 64)) = ji33 := by have h_ := hji33_; rw [Int.one_mul] at h_; exact h_
                  have hji33v : (rd x7_1 x35_2) ≤ 64 → (IntKind.i64.wrap (2 ^ (rd x7_1 x35_2).toNat)) = ji33 := fun hle_ => by have h_ := hji33z hle_; rw [Int.one_mul] at h_; exact h_
                  have hji33y : (wrap64 (1 * 2 ^ min (rd x7_1 x35_2).toNat 64)) = ji33 := (i64_w _).symm.trans hji33_; have hji33x : (rd x7_1 x35_2) ≤ 64 → (wrap64 (1 * 2 ^ (rd x7_1 x35_2).toNat)) = ji33 := fun h_ => (i64_w _).symm.trans (hji33z h_); have H' := Aside0.mk H; clear H; have p646 : 0 ≤ (x35_2 : Int) := of_decide_eq_true (by first | (with_reducible assumption) | assumption); have q646 : x35_2 < (x7_1.length : Int) := of_decide_eq_true (by first | (with_reducible assumption) | assumption); obtain ⟨ad646, e646, hx646_0⟩ := Kd.at_int (Kd.R_reads' HO_33.out).2.2 x35_2 p646 q646
                  cases e646
                  replace p646 := eq_true p646; replace q646 := eq_true q646; have p647 : 0 ≤ (x9_1 : Int) := of_decide_eq_true (by first | (with_reducible assumption) | assumption); have q647 : x9_1 < (t643.length : Int) := of_decide_eq_true (by first | (with_reducible assumption) | assumption); obtain ⟨ad647, e647, hx647_0⟩ := Kd.at_int (Kd.R_reads' HO_8.out).2.2 x9_1 p647 q647
                  cases e647
                  replace p647 := eq_true p647; replace q647 := eq_true q647; obtain ⟨Ao34, co34, eo34⟩ := Kd.R_slice HO_6.out; subst eo34; have p648 : 0 ≤ ((rd t643 x9_1) : Int) := of_decide_eq_true (by first | (with_reducible assumption) | assumption); have q648 : (rd t643 x9_1) < (t637.length : Int) := of_decide_eq_true (by first | (with_reducible assumption) | assumption); obtain ⟨ad648, e648, hx648_0⟩ := Kd.at_int (Kd.R_reads' HO_6.out).2.2 (rd t643 x9_1) p648 q648
                  cases e648
                  replace p648 := eq_true p648; replace q648 := eq_true q648
                  go_wp2
                  go_roundg k2
                  case measure => have := HK1.out; have := HK2.out; omega
                  case rel => exact ⟨(Go.bits .or .i64 x10_2 (ji33)), (wrap64 (x35_2 + 1)), (by first | rfl | (simp; done) | (simp only [← hji33] <;> (first | rfl | simp)) | (simp [*]; done)), (by first | rfl | (simp; done) | (simp [*]; done)), H', ⟨by have := HK1.out; have := HK2.out; omega⟩, ⟨viaR HO_6.out⟩, ⟨viaR HO_7.out⟩, ⟨viaR HO_8.out⟩, ⟨viaR HO_33.out⟩, ⟨viaB BK635.out⟩, ⟨viaX HB.out GE635.out⟩⟩
                 ·rw [if_neg c32] at H
                  exact absurd H (by simp)
                ·rw [if_neg c31] at H
                 have c31b0 : ((Go.bits .and .i64 (ji30) 1) == 1) = false := beq_eq_false_iff_ne.mpr c31; have c31b1 : ((Go.bits .and .i64 (ji30) 1) != 1) = true := bne_iff_ne.mpr c31; have H' := Aside0.mk H; clear H; have p646 : 0 ≤ (x35_2 : Int) := of_decide_eq_true (by first | (with_reducible assumption) | assumption); have q646 : x35_2 < (x7_1.length : Int) := of_decide_eq_true (by first | (with_reducible assumption) | assumption); obtain ⟨ad646, e646, hx646_0⟩ := Kd.at_int (Kd.R_reads' HO_33.out).2.2 x35_2 p646 q646
                 cases e646
                 replace p646 := eq_true p646; replace q646 := eq_true q646; have p647 : 0 ≤ (x9_1 : Int) := of_decide_eq_true (by first | (with_reducible assumption) | assumption); have q647 : x9_1 < (t643.length : Int) := of_decide_eq_true (by first | (with_reducible assumption) | assumption); obtain ⟨ad647, e647, hx647_0⟩ := Kd.at_int (Kd.R_reads' HO_8.out).2.2 x9_1 p647 q647
                 cases e647
                 replace p647 := eq_true p647; replace q647 := eq_true q647; obtain ⟨Ao35, co35, eo35⟩ := Kd.R_slice HO_6.out; subst eo35; have p648 : 0 ≤ ((rd t643 x9_1) : Int) := of_decide_eq_true (by first | (with_reducible assumption) | assumption); have q648 : (rd t643 x9_1) < (t637.length : Int) := of_decide_eq_true (by first | (with_reducible assumption) | assumption); obtain ⟨ad648, e648, hx648_0⟩ := Kd.at_int (Kd.R_reads' HO_6.out).2.2 (rd t643 x9_1) p648 q648
                 cases e648
                 replace p648 := eq_true p648; replace q648 := eq_true q648
                 go_wp2
                 go_roundg k2
                 case measure => have := HK1.out; have := HK2.out; omega
                 case rel => exact ⟨(x10_2), (wrap64 (x35_2 + 1)), (by first | rfl | (simp; done) | (simp [*]; done)), (by first | rfl | (simp; done) | (simp [*]; done)), H', ⟨by have := HK1.out; have := HK2.out; omega⟩, ⟨viaR HO_6.out⟩, ⟨viaR HO_7.out⟩, ⟨viaR HO_8.out⟩, ⟨viaR HO_33.out⟩, ⟨viaB BK635.out⟩, ⟨viaX HB.out GE635.out⟩⟩
               ·rw [if_neg c28] at H
                exact absurd H (by simp)
              ·rw [if_neg c27] at H
               exact absurd H (by simp)
             ·rw [if_neg c26] at H
              exact absurd H (by simp)
            ·rw [if_neg c25] at H
             exact absurd H (by simp)
           ·rw [if_neg c24] at H
            exact absurd H (by simp)
          ·rw [if_neg c23] at H
           exact absurd H (by simp)
         ·rw [if_neg c22] at H
          have c22b0 : decide (x35_2 < (x7_1.length : Int)) = false := decide_eq_false c22; clear c22; have H' := Aside0.mk H; clear H
          go_wp2
          go_loopg [] k2 (fun kq w' => ∃ (x7_3 : List Int), Aside0 (impl_KernelGame.l2 kq t637 x7_3 t643 x9_1 x10_2 = some (r1, r2)) ∧ Aside0 (kq ≤ k2) ∧ Aside0 (Kd.R (Kd.int .i64) 3 w' w.heap.size (fun k_ => some k_ ≠ ((.slice Ao21 x7_1.length co21) : Value).ownBlock ∧ some k_ ≠ ((.slice Ao19 t643.length co19) : Value).ownBlock) v638 t637) ∧ Aside0 (Kd.R (Kd.int .i64) 3 w' w.heap.size (fun k_ => some k_ ≠ (v638 : Value).ownBlock ∧ some k_ ≠ ((.slice Ao19 t643.length co19) : Value).ownBlock) (.slice Ao21 x7_1.length co21) x7_3) ∧ Aside0 (Kd.R (Kd.int .i64) 3 w' w.heap.size (fun k_ => some k_ ≠ (v638 : Value).ownBlock ∧ some k_ ≠ ((.slice Ao21 x7_1.length co21) : Value).ownBlock) (.slice Ao19 t643.length co19) t643) ∧ Aside0 (w'.heap[gb635]? = some (.cells #[.int .i64 a0_0, (.slice A0_1 l0_1.length c0_1)] 30 (0, 0))) ∧ Aside0 (Below w.heap.size w w'))
          case atStart => exact ⟨(x7_1), H', ⟨Nat.le_refl _⟩, ⟨by (with_reducible repeat (first | apply Kd.R_alloc | apply Kd.R_drewN | apply Kd.R_drew)); exact Kd.R_mono HO_6.out (fun _ hk => ⟨hk.1, hk.2.1⟩)⟩, ⟨viaR HO_7.out⟩, ⟨by (with_reducible repeat (first | apply Kd.R_alloc | apply Kd.R_drewN | apply Kd.R_drew)); exact Kd.R_mono HO_8.out (fun _ hk => ⟨hk.1, hk.2.1⟩)⟩, ⟨viaB BK635.out⟩, ⟨viaX HB.out GE635.out⟩⟩
          case round =>
           clear H'
           try clear c2
           try clear p2
           try clear c3
           try clear c4
           try clear c6
           try clear c6b0
           try clear c6b1
           try clear p6
           try clear q6
           try clear hx6
           try clear c7
           try clear c7b0
           try clear c7b1
           try clear c8
           try clear c20
           try clear c20b0
           try clear c22
           try clear c22b0
           try clear c23
           try clear c23b0
           try clear c24
           try clear c24b0
           try clear c25
           try clear c25b0
           try clear c26
           try clear c26b0
           try clear c27
           try clear c27b0
           try clear c28
           try clear c28b0
           try clear c29
           try clear c29b0
           try clear c31
           try clear c31b0
           try clear c31b1
           try clear c32
           try clear c32b0
           try clear c32b1
           try clear hcz10_0
           try clear hcz10_1
           try clear hcz12_0
           try clear hcz12_1
           try clear hcz14_0
           try clear hcz14_1
           try clear hcz17_0
           try clear hcz17_1
           try clear hfz10_0
           try clear hfz10_1
           try clear hfz12_0
           try clear hfz12_1
           try clear hfz14_0
           try clear hfz14_1
           try clear hfz17_0
           try clear hfz17_1
           try clear hx646_0
           try clear hx647_0
           try clear hx648_0
           try clear p2
           try clear p6
           try clear p646
           try clear p647
           try clear p648
           try clear q646
           try clear q647
           try clear q648
           obtain ⟨x7_3, HA, HK3, HO_6, HO_7, HO_8, BK635, HB⟩ := hrel; have hl7_3 := (Kd.R_reads' HO_7.out).1
           rw [hl7_3] at HO_7
           (try simp only [hl7_3])
           (try simp only [hl7_3] at BK635)
           (try simp only [hl7_3] at HO_6)
           (try simp only [hl7_3] at HO_8)
           cases gk with
           | zero => exact absurd HA.out (by simp [impl_KernelGame.l2])
           | succ k3 =>
            have H := HA.out; clear HA
            simp only [impl_KernelGame.l2] at H
            by_cases c36 : 0 ≤ x9_1
            ·rw [if_pos c36] at H
             have c36b0 : decide (0 ≤ x9_1) = true := decide_eq_true c36; clear c36
             by_cases c37 : x9_1 < (t643.length : Int)
             ·rw [if_pos c37] at H
              have c37b0 : decide (x9_1 < (t643.length : Int)) = true := decide_eq_true c37; clear c37
              by_cases c38 : 0 ≤ (rd t643 x9_1)
              ·rw [if_pos c38] at H
               have c38b0 : decide (0 ≤ (rd t643 x9_1)) = true := decide_eq_true c38; clear c38
               by_cases c39 : (rd t643 x9_1) < (x7_3.length : Int)
               ·rw [if_pos c39] at H
                have c39b0 : decide ((rd t643 x9_1) < (x7_3.length : Int)) = true := decide_eq_true c39; clear c39
                by_cases c40 : 0 ≤ (rd x7_3 (rd t643 x9_1))
                ·rw [if_pos c40] at H
                 have c40b0 := eq_true c40; have c40b1 : decide (0 ≤ (rd x7_3 (rd t643 x9_1))) = true := decide_eq_true c40; clear c40; obtain ⟨ji41, hji41⟩ : ∃ j_ : Int, (shr .i64 x10_2 (rd x7_3 (rd t643 x9_1))) = j_ := ⟨_, rfl⟩; replace H : (if (Go.bits .and .i64 (ji41) 1) = 1 then (impl_KernelGame.l2 k3 t637 (x7_3.set ((rd t643 x9_1) : Int).toNat (wrap64 ((rd x7_3 (rd t643 x9_1)) + 1))) t643 x9_1 x10_2) else (impl_KernelGame.l0 k3 t637 x7_3 t643 (wrap64 (x9_1 - 1)))) = some (r1, r2) := by first | (rw [hji41] at H; exact H) | (simp only [hji41] at H ⊢; exact H)
                 have hji41_ : (x10_2 / 2 ^ min (rd x7_3 (rd t643 x9_1)).toNat 64) = ji41 := hji41; have hji41z : (rd x7_3 (rd t643 x9_1)) ≤ 64 → (x10_2 / 2 ^ (rd x7_3 (rd t643 x9_1)).toNat) = ji41 := shr_small hji41
                 by_cases c42 : (Go.bits .and .i64 (ji41) 1) = 1
                 ·rw [if_pos c42] at H
                  have c42b0 : ((Go.bits .and .i64 (ji41) 1) == 1) = true := beq_iff_eq.mpr c42; have c42b1 : ((Go.bits .and .i64 (ji41) 1) != 1) = false := bne_eq_false_iff_eq.mpr c42; clear c42; obtain ⟨y653, hy653⟩ : ∃ y_ : List Int, y_ = (x7_3.set ((rd t643 x9_1) : Int).toNat (wrap64 ((rd x7_3 (rd t643 x9_1)) + 1))) := ⟨_, rfl⟩; replace H : (impl_KernelGame.l2 k3 t637 y653 t643 x9_1 x10_2) = some (r1, r2) := by first | (rw [hy653]; with_reducible exact H) | (have H2_ := (Option.bind_some _ _).symm.trans H; rw [hy653]; with_reducible exact H2_) | (have H2_ := (Option.bind_some _ _).symm.trans H; with_reducible exact H2_) | with_reducible exact H | (rw [hy653]; exact H) | exact H
                  have Ny653 := Aside0.mk hy653; clear hy653; have H' := Aside0.mk H; clear H; have p649 : 0 ≤ (x9_1 : Int) := of_decide_eq_true (by first | (with_reducible assumption) | assumption); have q649 : x9_1 < (t643.length : Int) := of_decide_eq_true (by first | (with_reducible assumption) | assumption); obtain ⟨ad649, e649, hx649_0⟩ := Kd.at_int (Kd.R_reads' HO_8.out).2.2 x9_1 p649 q649
                  cases e649
                  replace p649 := eq_true p649; replace q649 := eq_true q649; have p650 : 0 ≤ ((rd t643 x9_1) : Int) := of_decide_eq_true (by first | (with_reducible assumption) | assumption); have q650 : (rd t643 x9_1) < (x7_3.length : Int) := of_decide_eq_true (by first | (with_reducible assumption) | assumption); obtain ⟨ad650, e650, hx650_0⟩ := Kd.at_int (Kd.R_reads' HO_7.out).2.2 (rd t643 x9_1) p650 q650
                  cases e650
                  replace p650 := eq_true p650; replace q650 := eq_true q650; have p651 : 0 ≤ (x9_1 : Int) := of_decide_eq_true (by first | (with_reducible assumption) | assumption); have q651 : x9_1 < (t643.length : Int) := of_decide_eq_true (by first | (with_reducible assumption) | assumption); obtain ⟨ad651, e651, hx651_0⟩ := Kd.at_int (Kd.R_reads' HO_8.out).2.2 x9_1 p651 q651; obtain rfl : ad649 = ad651 := (by injection e651); replace p651 := eq_true p651; replace q651 := eq_true q651; have p652 : 0 ≤ ((rd t643 x9_1) : Int) := of_decide_eq_true (by first | (with_reducible assumption) | assumption); have q652 : (rd t643 x9_1) < (x7_3.length : Int) := of_decide_eq_true (by first | (with_reducible assumption) | assumption); obtain ⟨ad652, e652, hx652_0⟩ := Kd.at_int (Kd.R_reads' HO_7.out).2.2 (rd t643 x9_1) p652 q652; obtain rfl : ad650 = ad652 := (by injection e652); replace p652 := eq_true p652; replace q652 := eq_true q652; have p43 : 0 ≤ ((rd t643 x9_1) : Int) := of_decide_eq_true (by first | (with_reducible assumption) | assumption); have q43 : ((rd t643 x9_1) : Int) < ((x7_3.length : Int) : Int) := of_decide_eq_true (by first | (with_reducible assumption) | assumption); obtain ⟨go43, co43, eo43, gb43, gl43, cl43, HG43⟩ := Kd.R_form HO_7.out (by omega)
                  (first | cases eo43 | (injection eo43 with ea_ en_ ec_; (first | subst ea_ | (injection ea_ with ea_; subst ea_)); subst ec_; clear en_))
                  have GB43 := Aside0.mk gb43; have GG43 := Aside0.mk HG43; clear gb43 gl43 HG43
                  (first | simp only [add_plain] at hx650_0 | skip)
                  (first | simp only [add_plain] at hx652_0 | skip)
                  obtain ⟨hx43_0, hf43_0⟩ := Kd.R_celln 0 HO_7.out ((rd t643 x9_1) : Int) p43 q43; replace p43 := eq_true p43; replace q43 := eq_true q43; have HP44 := Kd.R_putg HO_7.out ((rd t643 x9_1) : Int) (wrap64 ((rd x7_3 (rd t643 x9_1)) + 1))
                  go_wp2_with (first | ((with_reducible refine gate_store (t := 3) (p := 75) rfl ?_); refine store_event (t := 3) (p := 75) (v := ?vo_w45) (w1 := (wr.setCell ⟨go43, ((rd t643 x9_1) : Int).toNat, none⟩ (.int .i64 (wrap64 ((rd x7_3 (rd t643 x9_1)) + 1))))) ?hg ?ho ?hn ?hr ?_; (case ho => rfl); (case hg => rfl); (case hn => rfl); (case hr => first | (go_simp; done) | (go_simp; rfl)); intro w45 hw; have hg : wr.grownBy w45 (some go43) := (by rw [hw]; exact HP44.2); have hp_ : Kd.R (Kd.int .i64) 3 w45 w.heap.size (fun k_ => some k_ ≠ (v638 : Value).ownBlock ∧ some k_ ≠ (.slice (some ad649) t643.length co19 : Value).ownBlock) (.slice (some ⟨go43, 0, none⟩) x7_3.length co21) y653 := (by rw [hw, Ny653.out]; exact HP44.1); clear HP44; have n0_ := Aside0.mk (Kd.R_after (v := (.slice (some ⟨go43, 0, none⟩) x7_3.length co21)) (v1 := (.slice (some ⟨go43, 0, none⟩) x7_3.length co21)) (ok := (fun k_ => some k_ ≠ (.slice (some ad649) t643.length co19 : Value).ownBlock)) (by (with_reducible repeat (first | apply Kd.R_alloc | apply Kd.R_drewN | apply Kd.R_drew)); exact Kd.R_mono HO_6.out (fun _ hk => ⟨hk.2, hk.1⟩)) hg (.inl rfl)); have n1_ := Aside0.mk (hp_); have n2_ := Aside0.mk (Kd.R_after (v := (.slice (some ⟨go43, 0, none⟩) x7_3.length co21)) (v1 := (.slice (some ⟨go43, 0, none⟩) x7_3.length co21)) (ok := (fun k_ => some k_ ≠ (v638 : Value).ownBlock)) (viaR HO_8.out) hg (.inl rfl)); have n3_ := Aside0.mk (blk_grown (g := gb635) (o := .cells #[.int .i64 a0_0, .slice A0_1 l0_1.length c0_1] 30 (0, 0)) (viaB BK635.out) hg (Kd.R_ne HO_7.out BK635.out (by decide))); have n4_ := Aside0.mk ((by rw [hw]; exact below_set (HB.out) GB43.out : Below w.heap.size w w45)); clear HO_6; clear HO_7; clear HO_8; clear BK635; clear HB; have HO_6 := n0_; have HO_7 := n1_; have HO_8 := n2_; have BK635 := n3_; have HB := n4_; clear n0_ n1_ n2_ n3_ n4_; clear hg hw hp_))
                  (try simp only [← hl7_3])
                  go_roundg k3
                  case measure => have := HK1.out; have := HK2.out; have := HK3.out; omega
                  case rel => exact ⟨(y653), H', ⟨by have := HK1.out; have := HK2.out; have := HK3.out; omega⟩, ⟨by (try simp only [hl7_3]); (with_reducible repeat (first | apply Kd.R_alloc | apply Kd.R_drewN | apply Kd.R_drew)); exact Kd.R_mono HO_6.out (fun _ hk => ⟨hk.2, hk.1⟩)⟩, ⟨by (try simp only [hl7_3]); (with_reducible repeat (first | apply Kd.R_alloc | apply Kd.R_drewN | apply Kd.R_drew)); exact HO_7.out⟩, ⟨by (try simp only [hl7_3]); (with_reducible repeat (first | apply Kd.R_alloc | apply Kd.R_drewN | apply Kd.R_drew)); exact HO_8.out⟩, ⟨by (try simp only [hl7_3]); (with_reducible repeat (first | refine blk_drewN ?_ _ | refine blk_drew ?_ | refine blk_alloc ?_ _)); exact BK635.out⟩, ⟨viaX HB.out GE635.out⟩⟩
                 ·rw [if_neg c42] at H
                  have c42b0 : ((Go.bits .and .i64 (ji41) 1) == 1) = false := beq_eq_false_iff_ne.mpr c42; have c42b1 : ((Go.bits .and .i64 (ji41) 1) != 1) = true := bne_iff_ne.mpr c42; have H' := Aside0.mk H; clear H; have p649 : 0 ≤ (x9_1 : Int) := of_decide_eq_true (by first | (with_reducible assumption) | assumption); have q649 : x9_1 < (t643.length : Int) := of_decide_eq_true (by first | (with_reducible assumption) | assumption); obtain ⟨ad649, e649, hx649_0⟩ := Kd.at_int (Kd.R_reads' HO_8.out).2.2 x9_1 p649 q649
                  cases e649
                  replace p649 := eq_true p649; replace q649 := eq_true q649; have p650 : 0 ≤ ((rd t643 x9_1) : Int) := of_decide_eq_true (by first | (with_reducible assumption) | assumption); have q650 : (rd t643 x9_1) < (x7_3.length : Int) := of_decide_eq_true (by first | (with_reducible assumption) | assumption); obtain ⟨ad650, e650, hx650_0⟩ := Kd.at_int (Kd.R_reads' HO_7.out).2.2 (rd t643 x9_1) p650 q650
                  cases e650
                  replace p650 := eq_true p650; replace q650 := eq_true q650
                  go_wp2
                  (try simp only [← hl7_3])
                  go_roundg k3
                  case measure => have := HK1.out; have := HK2.out; have := HK3.out; omega
                  case rel => exact ⟨(x7_3), (wrap64 (x9_1 - 1)), (by first | rfl | (simp; done) | (simp [*]; done)), H', ⟨by have := HK1.out; have := HK2.out; have := HK3.out; omega⟩, ⟨by (try simp only [hl7_3]); (with_reducible repeat (first | apply Kd.R_alloc | apply Kd.R_drewN | apply Kd.R_drew)); exact HO_6.out⟩, ⟨by (try simp only [hl7_3]); (with_reducible repeat (first | apply Kd.R_alloc | apply Kd.R_drewN | apply Kd.R_drew)); exact HO_7.out⟩, ⟨by (try simp only [hl7_3]); (with_reducible repeat (first | apply Kd.R_alloc | apply Kd.R_drewN | apply Kd.R_drew)); exact HO_8.out⟩, ⟨by (try simp only [hl7_3]); (with_reducible repeat (first | refine blk_drewN ?_ _ | refine blk_drew ?_ | refine blk_alloc ?_ _)); exact BK635.out⟩, ⟨viaX HB.out GE635.out⟩⟩
                ·rw [if_neg c40] at H
                 exact absurd H (by simp)
               ·rw [if_neg c39] at H
                exact absurd H (by simp)
              ·rw [if_neg c38] at H
               exact absurd H (by simp)
             ·rw [if_neg c37] at H
              exact absurd H (by simp)
            ·rw [if_neg c36] at H
             exact absurd H (by simp)
      ·rw [if_neg c20] at H
       have c20b0 : decide (0 ≤ x9_1) = false := decide_eq_false c20; clear c20
       simp only [Option.some.injEq, Prod.mk.injEq] at H
       obtain ⟨rfl, rfl⟩ := H
       go_wp2
       go_ret2
       exact ⟨_, by first | rfl | (simp [errW_none, errW_some] <;> rfl) | (simp [*, errW_none, errW_some] <;> rfl), by (with_reducible repeat (first | apply Kd.R_alloc | apply Kd.R_drewN | apply Kd.R_drew)); exact Kd.R_mono HO_7.out (fun _ hk => trivial), viaX HB.out GE635.out⟩
   ·rw [if_neg c7] at H
    exact absurd H (by simp)
  ·rw [if_neg c6] at H
   exact absurd H (by simp)
 ·replace c4 := Bool.eq_false_iff.mpr c4
  subst c4; have H1 : (some (([] : List Int), false)) = some (r1, r2) := by rw [if_neg (show ¬ (false = true) by decide)] at H; exact H
  clear H; have H := H1; clear H1
  simp only [Option.some.injEq, Prod.mk.injEq] at H
  obtain ⟨rfl, rfl⟩ := H
  go_enter Try.func42, Try.ntmps42
  go_wp2_with (first | ((with_reducible refine gate_dst (N := 2) rfl ?_); refine box_event ?hg (N := 2) ?hd (cs := #[.int .i64 a0_0, .slice A0_1 l0_1.length c0_1]) (t := 30) ?hr ?_; (case hd => rfl); (case hg => rfl); (case hr => first | (go_simp; done) | (go_simp; rfl)); intro gb635 hg w46 hbox hb; have n0_ := Aside0.mk (below_step (viaW HB.out) hb); have n1_ := Aside0.mk (hbox); have n2_ := Aside0.mk ((by rw [hg]; exact (below_size (viaW HB.out)) : w.heap.size ≤ gb635)); have n3_ := Aside0.mk ((by rw [hg]; exact (below_size (viaW HB.out)) : w.heap.size ≤ gb635)); clear HB; have HB := n0_; have BK635 := n1_; have GW635 := n2_; have GE635 := n3_; clear n0_ n1_ n2_ n3_; clear hb hbox hg; have hcz47_0 : w46.cell? ⟨gb635, 0, none⟩ = some (.int .i64 a0_0) := (blk_cell BK635.out 0).trans rfl; have hcz47_1 : w46.cell? ⟨gb635, 1, none⟩ = some (.slice A0_1 l0_1.length c0_1) := (blk_cell BK635.out 1).trans rfl; have hfz47_0 := blk_frozen BK635.out 0; have hfz47_1 := blk_frozen BK635.out 1) | ((with_reducible refine gate_callee (f := 49) rfl ?_); refine goesL_ (some 15) rfl rfl Try.func49 (by kernel_rfl) rfl #[.agg #[.int .i64 a0_0, .slice A0_1 l0_1.length c0_1], .int .i64 a1] rfl (by (try simp only [List.map_toArray, List.map_cons, List.map_nil]); first | done | rfl) ?_; (with_reducible refine (impl_PlainIn.calls k a0_0 _ _ l0_1 a1 false _ ?side1 ?side2 A3.out).mono ?_); (case side1 => exact viaC (Kd.C_below HR0_1.out HB.out)); (case side2 => exact HC0_1.out); rintro e w48 ⟨rfl, hb⟩; refine ⟨_, rfl, ?_⟩; have n0_ := Aside0.mk (blk_below (g := gb635) (o := .cells #[.int .i64 a0_0, .slice A0_1 l0_1.length c0_1] 30 (0, 0)) (viaB BK635.out) hb); have n1_ := Aside0.mk (below_step (viaX HB.out GE635.out) hb); clear BK635; clear HB; have BK635 := n0_; have HB := n1_; clear n0_ n1_; (try clear hb); (try clear hb2); (try clear hk); (try clear hi)))
  go_ret2
  exact ⟨_, by first | rfl | (simp [errW_none, errW_some] <;> rfl) | (simp [*, errW_none, errW_some] <;> rfl), by first | exact Kd.R_nil _ _ _ _ _ | exact Kd.N_nil _ _ _ _ _ | exact Kd.V_nil _ _ _ _ _ | exact Kd.Q_nil _ _ _ _ _ | exact Kd.S_nil _ _ _ _ _, viaX HB.out GE635.out⟩
end Go.Proofs.Ytfijegfjpagjoaa.G
