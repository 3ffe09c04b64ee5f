/- A part of this claim; what it does not use is left out. -/
import Derived.Test.YthoaebnnolbaaaaVG0
import Derived.Test.YthoaebnnolbaaaaVG3
import Derived.Test.YthoaebnnolbaaaaVG26
import Derived.Test.YthoaebnnolbaaaaVG28
namespace Go.Proofs.Ythoaebnnolbaaaa.G
open Go.RowKit Go.Proofs.YthoaebnnolbaaaaW.PrintWords Go.Proofs.YthoaebnnolbaaaaW.PrintLast Go.Proofs.YthoaebnnolbaaaaW.PrintMore
attribute [local go_sem] max2_int min2_int max_two min_two max_three min_three max_four min_four
set_option linter.unusedVariables false
set_option linter.unusedSimpArgs false
mutual
def impl_byCuts.l0 : Nat → Int → List Int → Int → Int → List (S69) → Option (List Int)
 | 0, _, _, _, _, _ => none
 | k + 1, x1, x5, x6, x509000, x509001 => if 0 ≤ x509000 then (if x6 < (wrap64 ((shl .i64 1 x509000) - 1)) then (impl_byCuts.l1 k x1 x5 x6 0 true (x509001.length : Int) 0 x509000 x509001) else ((impl_distinct.f k x5).bind fun t512 => (some t512))) else (none)
def impl_byCuts.l1 : Nat → Int → List Int → Int → Int → Bool → Int → Int → Int → List (S69) → Option (List Int)
 | 0, _, _, _, _, _, _, _, _, _ => none
 | k + 1, x1, x5, x6, x7, x8, x23, x24, x509000, x509001 => if x24 < x23 then ((impl_ends.f x509000 x509001 x1 x24).bind fun bt518 => (if 0 ≤ bt518.1 then (if 0 ≤ bt518.2 then (if (Go.bits .and .i64 (shr .i64 x6 bt518.1) 1) = (Go.bits .and .i64 (shr .i64 x6 bt518.2) 1) then (impl_byCuts.l1 k x1 x5 x6 x7 x8 x23 (wrap64 (x24 + 1)) x509000 x509001) else (if (Go.bits .and .i64 (shr .i64 x6 bt518.1) 1) = 1 then (if 0 ≤ x24 then (impl_byCuts.l1 k x1 x5 x6 (Go.bits .or .i64 x7 (shl .i64 1 x24)) x8 x23 (wrap64 (x24 + 1)) x509000 x509001) else (none)) else (impl_byCuts.l1 k x1 x5 x6 x7 false x23 (wrap64 (x24 + 1)) x509000 x509001))) else (none)) else (none))) else (if x8 = true then (if x7 = 0 then (impl_byCuts.l0 k x1 x5 (wrap64 (x6 + 1)) x509000 x509001) else (if x5.length < 17592186044416 then (impl_byCuts.l0 k x1 (x5 ++ [Go.bits .xor .i64 x1 x7]) (wrap64 (x6 + 1)) x509000 x509001) else (none))) else (impl_byCuts.l0 k x1 x5 (wrap64 (x6 + 1)) x509000 x509001))
end
def impl_byCuts.f (k : Nat) (a0_0 : Int) (l0_1 : List (S69)) (a1 : Int) : Option (List Int) := impl_byCuts.l0 k a1 (([] : List Int)) 1 a0_0 l0_1
set_option maxHeartbeats 8000000 in
set_option maxRecDepth 100000 in
theorem impl_byCuts.calls (k : Nat) (a0_0 : Int) (A0_1 : Option Addr) (c0_1 : Nat) (l0_1 : List (S69)) (a1 : Int) (r : List Int) (w : World) (hr0_1 : Kd.C k69 w A0_1 l0_1.length l0_1) (hc0_1 : l0_1.length ≤ c0_1) (h : impl_byCuts.f k a0_0 l0_1 a1 = some r) :
  Calls Try.prog 62 #[.agg #[.int .i64 a0_0, .slice A0_1 l0_1.length c0_1], .int .i64 a1] w fun e w' => ∃ v0_ : Value, e = .returned (v0_) ∧ Kd.R (Kd.int .i64) 3 w' w.heap.size (fun _ => True) v0_ r ∧ Below w.heap.size w w' := by
 have hu25 := Try.underlying25; have HR0_1 := aK hr0_1; have HC0_1 := aK hc0_1; clear hr0_1 hc0_1; have HB := aK (Below.refl w.heap.size w); have H : (impl_byCuts.l0 k a1 (([] : List Int)) 1 a0_0 l0_1) = some r := h; clear h; obtain ⟨y509, hy509⟩ : ∃ y_ : List Int, y_ = (([] : List Int)) := ⟨_, rfl⟩; replace H : (impl_byCuts.l0 k a1 y509 1 a0_0 l0_1) = some r := by first | (rw [hy509]; with_reducible exact H) | (have H2_ := (Option.bind_some _ _).symm.trans H; rw [hy509]; with_reducible exact H2_) | (have H2_ := (Option.bind_some _ _).symm.trans H; with_reducible exact H2_) | with_reducible exact H | (rw [hy509]; exact H) | exact H
 have Ny509 := aK hy509; clear hy509; have H' := aK H; clear H
 go_enter Try.func62, Try.ntmps62
 go_wp2_with (first | ((with_reducible refine gate_dst (N := 2) rfl ?_); refine box_event ?hg (N := 2) ?hd (cs := #[.int .i64 a0_0, .slice A0_1 l0_1.length c0_1]) (t := 25) ?hr ?_; (case hd => rfl); (case hg => rfl); (case hr => first | (go_simp; done) | (go_simp; rfl)); intro gb508 hg w3 hbox hb; have n0_ := aK (below_step (viaW HB.out) hb); have n1_ := aK (hbox); have n2_ := aK ((by rw [hg]; exact (below_size (viaW HB.out)) : w.heap.size ≤ gb508)); have n3_ := aK ((by rw [hg]; exact (below_size (viaW HB.out)) : w.heap.size ≤ gb508)); clear HB; have HB := n0_; have BK508 := n1_; have GW508 := n2_; have GE508 := n3_; clear n0_ n1_ n2_ n3_; clear hb hbox hg) | ((with_reducible refine gate_dst (N := 12) rfl ?_); refine Kd.R_lit (Kd.int .i64) _ 3 ?hg (N := 12) ?hd (xs := ([] : List Int)) (inner := []) (ok := fun _ => True) (okp := fun _ => True) ?hr ?hp (fun _ hk => hk) trivial (Below.refl _ _) (Nat.le_refl _) (by simp) ?_; (case hd => rfl); (case hg => rfl); (case hr => first | (go_simp; done) | (go_simp; rfl)); (case hp => exact (Reps.none _ _)); intro v510 w4 ho5 hb hg_ hnew_; clear hg_ hnew_; (first | rw [← Ny509.out] at ho5 | (simp only [Int.reduceToNat] at ho5; rw [← Ny509.out] at ho5)); have n0_ := aK (Kd.R_lower ho5 (below_size (viaX HB.out GE508.out))); have n1_ := aK (blk_below (g := gb508) (o := .cells #[.int .i64 a0_0, .slice A0_1 l0_1.length c0_1] 25 (0, 0)) (viaB BK508.out) hb); have n2_ := aK (below_step (viaX HB.out GE508.out) hb); clear BK508; clear HB; have HO511 := n0_; have BK508 := n1_; have HB := n2_; clear n0_ n1_ n2_; clear hb ho5))
 repeat (go_quiet (first | ((with_reducible refine gate_dst (N := 2) rfl ?_); refine box_event ?hg (N := 2) ?hd (cs := #[.int .i64 a0_0, .slice A0_1 l0_1.length c0_1]) (t := 25) ?hr ?_; (case hd => rfl); (case hg => rfl); (case hr => first | (go_simp; done) | (go_simp; rfl)); intro gb508 hg w3 hbox hb; have n0_ := aK (below_step (viaW HB.out) hb); have n1_ := aK (hbox); have n2_ := aK ((by rw [hg]; exact (below_size (viaW HB.out)) : w.heap.size ≤ gb508)); have n3_ := aK ((by rw [hg]; exact (below_size (viaW HB.out)) : w.heap.size ≤ gb508)); clear HB; have HB := n0_; have BK508 := n1_; have GW508 := n2_; have GE508 := n3_; clear n0_ n1_ n2_ n3_; clear hb hbox hg) | ((with_reducible refine gate_dst (N := 12) rfl ?_); refine Kd.R_lit (Kd.int .i64) _ 3 ?hg (N := 12) ?hd (xs := ([] : List Int)) (inner := []) (ok := fun _ => True) (okp := fun _ => True) ?hr ?hp (fun _ hk => hk) trivial (Below.refl _ _) (Nat.le_refl _) (by simp) ?_; (case hd => rfl); (case hg => rfl); (case hr => first | (go_simp; done) | (go_simp; rfl)); (case hp => exact (Reps.none _ _)); intro v510 w4 ho5 hb hg_ hnew_; clear hg_ hnew_; (first | rw [← Ny509.out] at ho5 | (simp only [Int.reduceToNat] at ho5; rw [← Ny509.out] at ho5)); have n0_ := aK (Kd.R_lower ho5 (below_size (viaX HB.out GE508.out))); have n1_ := aK (blk_below (g := gb508) (o := .cells #[.int .i64 a0_0, .slice A0_1 l0_1.length c0_1] 25 (0, 0)) (viaB BK508.out) hb); have n2_ := aK (below_step (viaX HB.out GE508.out) hb); clear BK508; clear HB; have HO511 := n0_; have BK508 := n1_; have HB := n2_; clear n0_ n1_ n2_; clear hb ho5)); try go_wp2_with (first | ((with_reducible refine gate_dst (N := 2) rfl ?_); refine box_event ?hg (N := 2) ?hd (cs := #[.int .i64 a0_0, .slice A0_1 l0_1.length c0_1]) (t := 25) ?hr ?_; (case hd => rfl); (case hg => rfl); (case hr => first | (go_simp; done) | (go_simp; rfl)); intro gb508 hg w3 hbox hb; have n0_ := aK (below_step (viaW HB.out) hb); have n1_ := aK (hbox); have n2_ := aK ((by rw [hg]; exact (below_size (viaW HB.out)) : w.heap.size ≤ gb508)); have n3_ := aK ((by rw [hg]; exact (below_size (viaW HB.out)) : w.heap.size ≤ gb508)); clear HB; have HB := n0_; have BK508 := n1_; have GW508 := n2_; have GE508 := n3_; clear n0_ n1_ n2_ n3_; clear hb hbox hg) | ((with_reducible refine gate_dst (N := 12) rfl ?_); refine Kd.R_lit (Kd.int .i64) _ 3 ?hg (N := 12) ?hd (xs := ([] : List Int)) (inner := []) (ok := fun _ => True) (okp := fun _ => True) ?hr ?hp (fun _ hk => hk) trivial (Below.refl _ _) (Nat.le_refl _) (by simp) ?_; (case hd => rfl); (case hg => rfl); (case hr => first | (go_simp; done) | (go_simp; rfl)); (case hp => exact (Reps.none _ _)); intro v510 w4 ho5 hb hg_ hnew_; clear hg_ hnew_; (first | rw [← Ny509.out] at ho5 | (simp only [Int.reduceToNat] at ho5; rw [← Ny509.out] at ho5)); have n0_ := aK (Kd.R_lower ho5 (below_size (viaX HB.out GE508.out))); have n1_ := aK (blk_below (g := gb508) (o := .cells #[.int .i64 a0_0, .slice A0_1 l0_1.length c0_1] 25 (0, 0)) (viaB BK508.out) hb); have n2_ := aK (below_step (viaX HB.out GE508.out) hb); clear BK508; clear HB; have HO511 := n0_; have BK508 := n1_; have HB := n2_; clear n0_ n1_ n2_; clear hb ho5)))
 go_loopg [5, 6] k (fun kq v5 v6 w' => ∃ (x5_1 : List Int) (x6_1 : Int), v6 = .int .i64 x6_1 ∧ Aside0 (impl_byCuts.l0 kq a1 x5_1 x6_1 a0_0 l0_1 = some r) ∧ Aside0 (kq ≤ k) ∧ Aside0 (Kd.R (Kd.int .i64) 3 w' w.heap.size (fun _ => True) v5 x5_1) ∧ Aside0 (w'.heap[gb508]? = some (.cells #[.int .i64 a0_0, (.slice A0_1 l0_1.length c0_1)] 25 (0, 0))) ∧ Aside0 (Below w.heap.size w w'))
 case atStart => exact ⟨(y509), (1), (by first | rfl | (simp; done) | (simp [*]; done)), H', ⟨Nat.le_refl _⟩, ⟨viaR HO511.out⟩, ⟨viaB BK508.out⟩, ⟨viaX HB.out GE508.out⟩⟩
 case round =>
  clear H'
  try clear p2
  obtain ⟨x5_1, x6_1, rfl, HA, HK1, HO_5, BK508, HB⟩ := hrel
  cases gk with
  | zero => exact absurd HA.out (by simp [impl_byCuts.l0])
  | succ k1 =>
   have H := HA.out; clear HA
   simp only [impl_byCuts.l0] at H
   by_cases c6 : 0 ≤ a0_0
   ·rw [if_pos c6] at H
    have c6b0 := eq_true c6; have c6b1 : decide (0 ≤ a0_0) = true := decide_eq_true c6; clear c6; obtain ⟨ji7, hji7⟩ : ∃ j_ : Int, (shl .i64 1 a0_0) = j_ := ⟨_, rfl⟩; replace H : (if x6_1 < (wrap64 ((ji7) - 1)) then (impl_byCuts.l1 k1 a1 x5_1 x6_1 0 true (l0_1.length : Int) 0 a0_0 l0_1) else ((impl_distinct.f k1 x5_1).bind fun t512 => (some t512))) = some r := by first | (rw [hji7] at H; exact H) | (simp only [hji7] at H ⊢; exact H)
    have hji7_ : (IntKind.i64.wrap (1 * 2 ^ min a0_0.toNat 64)) = ji7 := hji7; have hji7z : a0_0 ≤ 64 → (IntKind.i64.wrap (1 * 2 ^ a0_0.toNat)) = ji7 := shl_small hji7; have hji7u : (IntKind.i64.wrap (2 ^ min a0_0.toNat 64)) = ji7 := by have h_ := hji7_; rw [Int.one_mul] at h_; exact h_
    have hji7v : a0_0 ≤ 64 → (IntKind.i64.wrap (2 ^ a0_0.toNat)) = ji7 := fun hle_ => by have h_ := hji7z hle_; rw [Int.one_mul] at h_; exact h_
    have hji7y : (wrap64 (1 * 2 ^ min a0_0.toNat 64)) = ji7 := (i64_w _).symm.trans hji7_; have hji7x : a0_0 ≤ 64 → (wrap64 (1 * 2 ^ a0_0.toNat)) = ji7 := fun h_ => (i64_w _).symm.trans (hji7z h_)
    by_cases c8 : x6_1 < (wrap64 ((ji7) - 1))
    ·rw [if_pos c8] at H
     have c8b0 : decide (x6_1 < (wrap64 ((ji7) - 1))) = true := decide_eq_true c8; clear c8; have H' := aK H; clear H; have hcz9_0 : wr.cell? ⟨gb508, 0, none⟩ = some (.int .i64 a0_0) := (blk_cell BK508.out 0).trans rfl; have hcz9_1 : wr.cell? ⟨gb508, 1, none⟩ = some (.slice A0_1 l0_1.length c0_1) := (blk_cell BK508.out 1).trans rfl; have hfz9_0 := blk_frozen BK508.out 0; have hfz9_1 := blk_frozen BK508.out 1
     go_wp2
     repeat (go_quiet (fail); try go_wp2)
     go_loopg [7, 8, 24] k1 (fun kq v7 v8 v24 w' => ∃ (x7_2 : Int) (x8_2 : Bool) (x24_2 : Int), v7 = .int .i64 x7_2 ∧ v8 = .bool x8_2 ∧ v24 = .int .i64 x24_2 ∧ Aside0 (impl_byCuts.l1 kq a1 x5_1 x6_1 x7_2 x8_2 (l0_1.length : Int) x24_2 a0_0 l0_1 = some r) ∧ Aside0 (kq ≤ k1) ∧ Aside0 (Kd.R (Kd.int .i64) 3 w' w.heap.size (fun _ => True) u5 x5_1) ∧ Aside0 (w'.heap[gb508]? = some (.cells #[.int .i64 a0_0, (.slice A0_1 l0_1.length c0_1)] 25 (0, 0))) ∧ Aside0 (Below w.heap.size w w'))
     case atStart => exact ⟨(0), (true), (0), (by first | rfl | (simp; done) | (simp [*]; done)), (by first | rfl | (simp; done) | (simp [*]; done)), (by first | rfl | (simp; done) | (simp [*]; done)), H', ⟨Nat.le_refl _⟩, ⟨viaR HO_5.out⟩, ⟨viaB BK508.out⟩, ⟨viaX HB.out GE508.out⟩⟩
     case round =>
      clear H'
      try clear p2
      try clear c6
      try clear c6b0
      try clear c6b1
      try clear p6
      try clear c8
      try clear c8b0
      try clear hcz9_0
      try clear hcz9_1
      try clear hfz9_0
      try clear hfz9_1
      try clear p2
      obtain ⟨x7_2, x8_2, x24_2, rfl, rfl, rfl, HA, HK2, HO_5, BK508, HB⟩ := hrel
      cases gk with
      | zero => exact absurd HA.out (by simp [impl_byCuts.l1])
      | succ k2 =>
       have H := HA.out; clear HA
       simp only [impl_byCuts.l1] at H
       by_cases c10 : x24_2 < (l0_1.length : Int)
       ·rw [if_pos c10] at H
        have c10b0 : decide (x24_2 < (l0_1.length : Int)) = true := decide_eq_true c10; clear c10; replace H := Option.bind_eq_some_iff.mp H; obtain ⟨⟨t518, t519⟩, A110, H⟩ := H; replace H : (if 0 ≤ t518 then (if 0 ≤ t519 then (if (Go.bits .and .i64 (shr .i64 x6_1 t518) 1) = (Go.bits .and .i64 (shr .i64 x6_1 t519) 1) then (impl_byCuts.l1 k2 a1 x5_1 x6_1 x7_2 x8_2 (l0_1.length : Int) (wrap64 (x24_2 + 1)) a0_0 l0_1) else (if (Go.bits .and .i64 (shr .i64 x6_1 t518) 1) = 1 then (if 0 ≤ x24_2 then (impl_byCuts.l1 k2 a1 x5_1 x6_1 (Go.bits .or .i64 x7_2 (shl .i64 1 x24_2)) x8_2 (l0_1.length : Int) (wrap64 (x24_2 + 1)) a0_0 l0_1) else (none)) else (impl_byCuts.l1 k2 a1 x5_1 x6_1 x7_2 false (l0_1.length : Int) (wrap64 (x24_2 + 1)) a0_0 l0_1))) else (none)) else (none)) = some r := H; have A11 := aK A110; clear A110
        by_cases c12 : 0 ≤ t518
        ·rw [if_pos c12] at H
         have c12b0 := eq_true c12; have c12b1 : decide (0 ≤ t518) = true := decide_eq_true c12; clear c12; obtain ⟨ji13, hji13⟩ : ∃ j_ : Int, (shr .i64 x6_1 t518) = j_ := ⟨_, rfl⟩; replace H : (if 0 ≤ t519 then (if (Go.bits .and .i64 (ji13) 1) = (Go.bits .and .i64 (shr .i64 x6_1 t519) 1) then (impl_byCuts.l1 k2 a1 x5_1 x6_1 x7_2 x8_2 (l0_1.length : Int) (wrap64 (x24_2 + 1)) a0_0 l0_1) else (if (Go.bits .and .i64 (ji13) 1) = 1 then (if 0 ≤ x24_2 then (impl_byCuts.l1 k2 a1 x5_1 x6_1 (Go.bits .or .i64 x7_2 (shl .i64 1 x24_2)) x8_2 (l0_1.length : Int) (wrap64 (x24_2 + 1)) a0_0 l0_1) else (none)) else (impl_byCuts.l1 k2 a1 x5_1 x6_1 x7_2 false (l0_1.length : Int) (wrap64 (x24_2 + 1)) a0_0 l0_1))) else (none)) = some r := by first | (rw [hji13] at H; exact H) | (simp only [hji13] at H ⊢; exact H)
         (try rw [hji13] at A11)
         have hji13_ : (x6_1 / 2 ^ min t518.toNat 64) = ji13 := hji13; have hji13z : t518 ≤ 64 → (x6_1 / 2 ^ t518.toNat) = ji13 := shr_small hji13
         by_cases c14 : 0 ≤ t519
         ·rw [if_pos c14] at H
          have c14b0 := eq_true c14; have c14b1 : decide (0 ≤ t519) = true := decide_eq_true c14; clear c14; obtain ⟨ji15, hji15⟩ : ∃ j_ : Int, (shr .i64 x6_1 t519) = j_ := ⟨_, rfl⟩; replace H : (if (Go.bits .and .i64 (ji13) 1) = (Go.bits .and .i64 (ji15) 1) then (impl_byCuts.l1 k2 a1 x5_1 x6_1 x7_2 x8_2 (l0_1.length : Int) (wrap64 (x24_2 + 1)) a0_0 l0_1) else (if (Go.bits .and .i64 (ji13) 1) = 1 then (if 0 ≤ x24_2 then (impl_byCuts.l1 k2 a1 x5_1 x6_1 (Go.bits .or .i64 x7_2 (shl .i64 1 x24_2)) x8_2 (l0_1.length : Int) (wrap64 (x24_2 + 1)) a0_0 l0_1) else (none)) else (impl_byCuts.l1 k2 a1 x5_1 x6_1 x7_2 false (l0_1.length : Int) (wrap64 (x24_2 + 1)) a0_0 l0_1))) = some r := by first | (rw [hji15] at H; exact H) | (simp only [hji15] at H ⊢; exact H)
          (try rw [hji15] at A11)
          have hji15_ : (x6_1 / 2 ^ min t519.toNat 64) = ji15 := hji15; have hji15z : t519 ≤ 64 → (x6_1 / 2 ^ t519.toNat) = ji15 := shr_small hji15
          by_cases c16 : (Go.bits .and .i64 (ji13) 1) = (Go.bits .and .i64 (ji15) 1)
          ·rw [if_pos c16] at H
           have c16b0 : ((Go.bits .and .i64 (ji13) 1) == (Go.bits .and .i64 (ji15) 1)) = true := beq_iff_eq.mpr c16; have c16b1 : ((Go.bits .and .i64 (ji13) 1) != (Go.bits .and .i64 (ji15) 1)) = false := bne_eq_false_iff_eq.mpr c16; clear c16; have H' := aK H; clear H; have hcz17_0 : wr.cell? ⟨gb508, 0, none⟩ = some (.int .i64 a0_0) := (blk_cell BK508.out 0).trans rfl; have hcz17_1 : wr.cell? ⟨gb508, 1, none⟩ = some (.slice A0_1 l0_1.length c0_1) := (blk_cell BK508.out 1).trans rfl; have hfz17_0 := blk_frozen BK508.out 0; have hfz17_1 := blk_frozen BK508.out 1
           go_wp2_with (first | (go_at_call 99; (with_reducible refine (impl_ends.calls a0_0 _ _ l0_1 a1 x24_2 t518 t519 _ ?side1 ?side2 A11.out).mono ?_); (case side1 => repeat (first | exact (Kd.C_below HR0_1.out HB.out) | (with_reducible refine Kd.C_alloc ?_ _) | (with_reducible refine Kd.C_drewN ?_ _) | (with_reducible refine Kd.C_drew ?_))); (case side2 => exact HC0_1.out); rintro e w18 ⟨rfl, hb⟩; have n0_ := aK (Kd.R_below (viaR HO_5.out) hb); have n1_ := aK (blk_below (g := gb508) (o := .cells #[.int .i64 a0_0, .slice A0_1 l0_1.length c0_1] 25 (0, 0)) (viaB BK508.out) hb); have n2_ := aK (below_step (viaX HB.out GE508.out) hb); clear HO_5; clear BK508; clear HB; have HO_5 := n0_; have BK508 := n1_; have HB := n2_; clear n0_ n1_ n2_; (try clear hb); (try clear hb2); (try clear hk); (try clear hi)))
           repeat (go_quiet (first | (go_at_call 99; (with_reducible refine (impl_ends.calls a0_0 _ _ l0_1 a1 x24_2 t518 t519 _ ?side1 ?side2 A11.out).mono ?_); (case side1 => repeat (first | exact (Kd.C_below HR0_1.out HB.out) | (with_reducible refine Kd.C_alloc ?_ _) | (with_reducible refine Kd.C_drewN ?_ _) | (with_reducible refine Kd.C_drew ?_))); (case side2 => exact HC0_1.out); rintro e w18 ⟨rfl, hb⟩; have n0_ := aK (Kd.R_below (viaR HO_5.out) hb); have n1_ := aK (blk_below (g := gb508) (o := .cells #[.int .i64 a0_0, .slice A0_1 l0_1.length c0_1] 25 (0, 0)) (viaB BK508.out) hb); have n2_ := aK (below_step (viaX HB.out GE508.out) hb); clear HO_5; clear BK508; clear HB; have HO_5 := n0_; have BK508 := n1_; have HB := n2_; clear n0_ n1_ n2_; (try clear hb); (try clear hb2); (try clear hk); (try clear hi))); try go_wp2_with (first | (go_at_call 99; (with_reducible refine (impl_ends.calls a0_0 _ _ l0_1 a1 x24_2 t518 t519 _ ?side1 ?side2 A11.out).mono ?_); (case side1 => repeat (first | exact (Kd.C_below HR0_1.out HB.out) | (with_reducible refine Kd.C_alloc ?_ _) | (with_reducible refine Kd.C_drewN ?_ _) | (with_reducible refine Kd.C_drew ?_))); (case side2 => exact HC0_1.out); rintro e w18 ⟨rfl, hb⟩; have n0_ := aK (Kd.R_below (viaR HO_5.out) hb); have n1_ := aK (blk_below (g := gb508) (o := .cells #[.int .i64 a0_0, .slice A0_1 l0_1.length c0_1] 25 (0, 0)) (viaB BK508.out) hb); have n2_ := aK (below_step (viaX HB.out GE508.out) hb); clear HO_5; clear BK508; clear HB; have HO_5 := n0_; have BK508 := n1_; have HB := n2_; clear n0_ n1_ n2_; (try clear hb); (try clear hb2); (try clear hk); (try clear hi))))
           go_roundg k2
           case measure => have := HK1.out; have := HK2.out; omega
           case rel => exact ⟨(x7_2), (x8_2), (wrap64 (x24_2 + 1)), (by first | rfl | (simp; done) | (simp [*]; done)), (by first | rfl | (simp; done) | (simp [*]; done)), (by first | rfl | (simp; done) | (simp [*]; done)), H', ⟨by have := HK1.out; have := HK2.out; omega⟩, ⟨viaR HO_5.out⟩, ⟨viaB BK508.out⟩, ⟨viaX HB.out GE508.out⟩⟩
          ·rw [if_neg c16] at H
           have c16b0 : ((Go.bits .and .i64 (ji13) 1) == (Go.bits .and .i64 (ji15) 1)) = false := beq_eq_false_iff_ne.mpr c16; have c16b1 : ((Go.bits .and .i64 (ji13) 1) != (Go.bits .and .i64 (ji15) 1)) = true := bne_iff_ne.mpr c16; have c19b0 := eq_true (of_decide_eq_true (by first | (with_reducible assumption) | assumption) : 0 ≤ t518)
           by_cases c20 : (Go.bits .and .i64 (ji13) 1) = 1
           ·rw [if_pos c20] at H
            have c20b0 : ((Go.bits .and .i64 (ji13) 1) == 1) = true := beq_iff_eq.mpr c20; have c20b1 : ((Go.bits .and .i64 (ji13) 1) != 1) = false := bne_eq_false_iff_eq.mpr c20; clear c20
            by_cases c21 : 0 ≤ x24_2
            ·rw [if_pos c21] at H
             have c21b0 := eq_true c21; have c21b1 : decide (0 ≤ x24_2) = true := decide_eq_true c21; clear c21; obtain ⟨ji22, hji22⟩ : ∃ j_ : Int, (shl .i64 1 x24_2) = j_ := ⟨_, rfl⟩; replace H : (impl_byCuts.l1 k2 a1 x5_1 x6_1 (Go.bits .or .i64 x7_2 (ji22)) x8_2 (l0_1.length : Int) (wrap64 (x24_2 + 1)) a0_0 l0_1) = some r := by first | (rw [hji22] at H; exact H) | (simp only [hji22] at H ⊢; exact H)
             (try rw [hji22] at A11)
             have hji22_ : (IntKind.i64.wrap (1 * 2 ^ min x24_2.toNat 64)) = ji22 := hji22; have hji22z : x24_2 ≤ 64 → (IntKind.i64.wrap (1 * 2 ^ x24_2.toNat)) = ji22 := shl_small hji22; have hji22u : (IntKind.i64.wrap (2 ^ min x24_2.toNat 64)) = ji22 := by have h_ := hji22_; rw [Int.one_mul] at h_; exact h_
             have hji22v : x24_2 ≤ 64 → (IntKind.i64.wrap (2 ^ x24_2.toNat)) = ji22 := fun hle_ => by have h_ := hji22z hle_; rw [Int.one_mul] at h_; exact h_
             have hji22y : (wrap64 (1 * 2 ^ min x24_2.toNat 64)) = ji22 := (i64_w _).symm.trans hji22_; have hji22x : x24_2 ≤ 64 → (wrap64 (1 * 2 ^ x24_2.toNat)) = ji22 := fun h_ => (i64_w _).symm.trans (hji22z h_); have H' := aK H; clear H; have hcz23_0 : wr.cell? ⟨gb508, 0, none⟩ = some (.int .i64 a0_0) := (blk_cell BK508.out 0).trans rfl; have hcz23_1 : wr.cell? ⟨gb508, 1, none⟩ = some (.slice A0_1 l0_1.length c0_1) := (blk_cell BK508.out 1).trans rfl; have hfz23_0 := blk_frozen BK508.out 0; have hfz23_1 := blk_frozen BK508.out 1
             go_wp2_with (first | (go_at_call 99; (with_reducible refine (impl_ends.calls a0_0 _ _ l0_1 a1 x24_2 t518 t519 _ ?side1 ?side2 A11.out).mono ?_); (case side1 => repeat (first | exact (Kd.C_below HR0_1.out HB.out) | (with_reducible refine Kd.C_alloc ?_ _) | (with_reducible refine Kd.C_drewN ?_ _) | (with_reducible refine Kd.C_drew ?_))); (case side2 => exact HC0_1.out); rintro e w24 ⟨rfl, hb⟩; have n0_ := aK (Kd.R_below (viaR HO_5.out) hb); have n1_ := aK (blk_below (g := gb508) (o := .cells #[.int .i64 a0_0, .slice A0_1 l0_1.length c0_1] 25 (0, 0)) (viaB BK508.out) hb); have n2_ := aK (below_step (viaX HB.out GE508.out) hb); clear HO_5; clear BK508; clear HB; have HO_5 := n0_; have BK508 := n1_; have HB := n2_; clear n0_ n1_ n2_; (try clear hb); (try clear hb2); (try clear hk); (try clear hi)))
             repeat (go_quiet (first | (go_at_call 99; (with_reducible refine (impl_ends.calls a0_0 _ _ l0_1 a1 x24_2 t518 t519 _ ?side1 ?side2 A11.out).mono ?_); (case side1 => repeat (first | exact (Kd.C_below HR0_1.out HB.out) | (with_reducible refine Kd.C_alloc ?_ _) | (with_reducible refine Kd.C_drewN ?_ _) | (with_reducible refine Kd.C_drew ?_))); (case side2 => exact HC0_1.out); rintro e w24 ⟨rfl, hb⟩; have n0_ := aK (Kd.R_below (viaR HO_5.out) hb); have n1_ := aK (blk_below (g := gb508) (o := .cells #[.int .i64 a0_0, .slice A0_1 l0_1.length c0_1] 25 (0, 0)) (viaB BK508.out) hb); have n2_ := aK (below_step (viaX HB.out GE508.out) hb); clear HO_5; clear BK508; clear HB; have HO_5 := n0_; have BK508 := n1_; have HB := n2_; clear n0_ n1_ n2_; (try clear hb); (try clear hb2); (try clear hk); (try clear hi))); try go_wp2_with (first | (go_at_call 99; (with_reducible refine (impl_ends.calls a0_0 _ _ l0_1 a1 x24_2 t518 t519 _ ?side1 ?side2 A11.out).mono ?_); (case side1 => repeat (first | exact (Kd.C_below HR0_1.out HB.out) | (with_reducible refine Kd.C_alloc ?_ _) | (with_reducible refine Kd.C_drewN ?_ _) | (with_reducible refine Kd.C_drew ?_))); (case side2 => exact HC0_1.out); rintro e w24 ⟨rfl, hb⟩; have n0_ := aK (Kd.R_below (viaR HO_5.out) hb); have n1_ := aK (blk_below (g := gb508) (o := .cells #[.int .i64 a0_0, .slice A0_1 l0_1.length c0_1] 25 (0, 0)) (viaB BK508.out) hb); have n2_ := aK (below_step (viaX HB.out GE508.out) hb); clear HO_5; clear BK508; clear HB; have HO_5 := n0_; have BK508 := n1_; have HB := n2_; clear n0_ n1_ n2_; (try clear hb); (try clear hb2); (try clear hk); (try clear hi))))
             go_roundg k2
             case measure => have := HK1.out; have := HK2.out; omega
             case rel => exact ⟨(Go.bits .or .i64 x7_2 (ji22)), (x8_2), (wrap64 (x24_2 + 1)), (by first | rfl | (simp; done) | (simp only [← hji22] <;> (first | rfl | simp)) | (simp [*]; done)), (by first | rfl | (simp; done) | (simp [*]; done)), (by first | rfl | (simp; done) | (simp [*]; done)), H', ⟨by have := HK1.out; have := HK2.out; omega⟩, ⟨viaR HO_5.out⟩, ⟨viaB BK508.out⟩, ⟨viaX HB.out GE508.out⟩⟩
            ·rw [if_neg c21] at H
             exact absurd H (by simp)
           ·rw [if_neg c20] at H
            have c20b0 : ((Go.bits .and .i64 (ji13) 1) == 1) = false := beq_eq_false_iff_ne.mpr c20; have c20b1 : ((Go.bits .and .i64 (ji13) 1) != 1) = true := bne_iff_ne.mpr c20; have H' := aK H; clear H; have hcz25_0 : wr.cell? ⟨gb508, 0, none⟩ = some (.int .i64 a0_0) := (blk_cell BK508.out 0).trans rfl; have hcz25_1 : wr.cell? ⟨gb508, 1, none⟩ = some (.slice A0_1 l0_1.length c0_1) := (blk_cell BK508.out 1).trans rfl; have hfz25_0 := blk_frozen BK508.out 0; have hfz25_1 := blk_frozen BK508.out 1
            go_wp2_with (first | (go_at_call 99; (with_reducible refine (impl_ends.calls a0_0 _ _ l0_1 a1 x24_2 t518 t519 _ ?side1 ?side2 A11.out).mono ?_); (case side1 => repeat (first | exact (Kd.C_below HR0_1.out HB.out) | (with_reducible refine Kd.C_alloc ?_ _) | (with_reducible refine Kd.C_drewN ?_ _) | (with_reducible refine Kd.C_drew ?_))); (case side2 => exact HC0_1.out); rintro e w26 ⟨rfl, hb⟩; have n0_ := aK (Kd.R_below (viaR HO_5.out) hb); have n1_ := aK (blk_below (g := gb508) (o := .cells #[.int .i64 a0_0, .slice A0_1 l0_1.length c0_1] 25 (0, 0)) (viaB BK508.out) hb); have n2_ := aK (below_step (viaX HB.out GE508.out) hb); clear HO_5; clear BK508; clear HB; have HO_5 := n0_; have BK508 := n1_; have HB := n2_; clear n0_ n1_ n2_; (try clear hb); (try clear hb2); (try clear hk); (try clear hi)))
            repeat (go_quiet (first | (go_at_call 99; (with_reducible refine (impl_ends.calls a0_0 _ _ l0_1 a1 x24_2 t518 t519 _ ?side1 ?side2 A11.out).mono ?_); (case side1 => repeat (first | exact (Kd.C_below HR0_1.out HB.out) | (with_reducible refine Kd.C_alloc ?_ _) | (with_reducible refine Kd.C_drewN ?_ _) | (with_reducible refine Kd.C_drew ?_))); (case side2 => exact HC0_1.out); rintro e w26 ⟨rfl, hb⟩; have n0_ := aK (Kd.R_below (viaR HO_5.out) hb); have n1_ := aK (blk_below (g := gb508) (o := .cells #[.int .i64 a0_0, .slice A0_1 l0_1.length c0_1] 25 (0, 0)) (viaB BK508.out) hb); have n2_ := aK (below_step (viaX HB.out GE508.out) hb); clear HO_5; clear BK508; clear HB; have HO_5 := n0_; have BK508 := n1_; have HB := n2_; clear n0_ n1_ n2_; (try clear hb); (try clear hb2); (try clear hk); (try clear hi))); try go_wp2_with (first | (go_at_call 99; (with_reducible refine (impl_ends.calls a0_0 _ _ l0_1 a1 x24_2 t518 t519 _ ?side1 ?side2 A11.out).mono ?_); (case side1 => repeat (first | exact (Kd.C_below HR0_1.out HB.out) | (with_reducible refine Kd.C_alloc ?_ _) | (with_reducible refine Kd.C_drewN ?_ _) | (with_reducible refine Kd.C_drew ?_))); (case side2 => exact HC0_1.out); rintro e w26 ⟨rfl, hb⟩; have n0_ := aK (Kd.R_below (viaR HO_5.out) hb); have n1_ := aK (blk_below (g := gb508) (o := .cells #[.int .i64 a0_0, .slice A0_1 l0_1.length c0_1] 25 (0, 0)) (viaB BK508.out) hb); have n2_ := aK (below_step (viaX HB.out GE508.out) hb); clear HO_5; clear BK508; clear HB; have HO_5 := n0_; have BK508 := n1_; have HB := n2_; clear n0_ n1_ n2_; (try clear hb); (try clear hb2); (try clear hk); (try clear hi))))
            go_roundg k2
            case measure => have := HK1.out; have := HK2.out; omega
            case rel => exact ⟨(x7_2), (false), (wrap64 (x24_2 + 1)), (by first | rfl | (simp; done) | (simp [*]; done)), (by first | rfl | (simp; done) | (simp [*]; done)), (by first | rfl | (simp; done) | (simp [*]; done)), H', ⟨by have := HK1.out; have := HK2.out; omega⟩, ⟨viaR HO_5.out⟩, ⟨viaB BK508.out⟩, ⟨viaX HB.out GE508.out⟩⟩
         ·rw [if_neg c14] at H
          exact absurd H (by simp)
        ·rw [if_neg c12] at H
         exact absurd H (by simp)
       ·rw [if_neg c10] at H
        have c10b0 : decide (x24_2 < (l0_1.length : Int)) = false := decide_eq_false c10; clear c10
        by_cases c27 : x8_2 = true
        ·subst c27
         have H1 : (if x7_2 = 0 then (impl_byCuts.l0 k2 a1 x5_1 (wrap64 (x6_1 + 1)) a0_0 l0_1) else (if x5_1.length < 17592186044416 then (impl_byCuts.l0 k2 a1 (x5_1 ++ [Go.bits .xor .i64 a1 x7_2]) (wrap64 (x6_1 + 1)) a0_0 l0_1) else (none))) = some r := by rw [if_pos rfl] at H; exact H
         clear H; have H := H1; clear H1
         by_cases c28 : x7_2 = 0
         ·rw [if_pos c28] at H
          have c28b0 : (x7_2 == 0) = true := beq_iff_eq.mpr c28; have c28b1 : (x7_2 != 0) = false := bne_eq_false_iff_eq.mpr c28; clear c28; have H' := aK H; clear H
          go_wp2
          repeat (go_quiet (fail); try go_wp2)
          go_roundg k2
          case measure => have := HK1.out; have := HK2.out; omega
          case rel => exact ⟨(x5_1), (wrap64 (x6_1 + 1)), (by first | rfl | (simp; done) | (simp [*]; done)), H', ⟨by have := HK1.out; have := HK2.out; omega⟩, ⟨viaR HO_5.out⟩, ⟨viaB BK508.out⟩, ⟨viaX HB.out GE508.out⟩⟩
         ·rw [if_neg c28] at H
          have c28b0 : (x7_2 == 0) = false := beq_eq_false_iff_ne.mpr c28; have c28b1 : (x7_2 != 0) = true := bne_iff_ne.mpr c28
          by_cases c29 : x5_1.length < 17592186044416
          ·rw [if_pos c29] at H
           have LMc29 := aK c29; clear c29; obtain ⟨y515, hy515⟩ : ∃ y_ : List Int, y_ = (x5_1 ++ [Go.bits .xor .i64 a1 x7_2]) := ⟨_, rfl⟩; replace H : (impl_byCuts.l0 k2 a1 y515 (wrap64 (x6_1 + 1)) a0_0 l0_1) = some r := by first | (rw [hy515]; with_reducible exact H) | (have H2_ := (Option.bind_some _ _).symm.trans H; rw [hy515]; with_reducible exact H2_) | (have H2_ := (Option.bind_some _ _).symm.trans H; with_reducible exact H2_) | with_reducible exact H | (rw [hy515]; exact H) | exact H
           have Ny515 := aK hy515; clear hy515; have H' := aK H; clear H
           go_wp2_with (first | ((with_reducible refine gate_builtin (b := .append) (xs := #[.tmp 60, .tmp 64]) rfl ?_); at_builtin; refine Kd.R_append (Kd.int .i64) (w0 := w) w.heap.size rfl (.tmp 60) (.tmp 64) 30 3 (.int .i64 0) 8 rfl Try.underlying30 info3 rfl (by decide) (by omega) u5 x5_1 (Go.bits .xor .i64 a1 x7_2) [.int .i64 (Go.bits .xor .i64 a1 x7_2)] (fun _ => True) (fun _ => False) rfl rfl ?aP (fun _ hk => hk.elim) ?aF ?aO ?aB ?aS ?aL ?_; (case aP => exact rfl); (case aB => exact (viaX HB.out GE508.out)); (case aF => exact (fun _ _ => trivial)); (case aO => exact (viaR HO_5.out)); (case aS => exact (below_size (viaX HB.out GE508.out))); (case aL => have := LMc29.out; omega); intro v516 w30 ho hb hg hat; rw [← Ny515.out] at ho; have n0_ := aK (blk_grown (g := gb508) (o := .cells #[.int .i64 a0_0, .slice A0_1 l0_1.length c0_1] 25 (0, 0)) (viaB BK508.out) hg (Kd.R_ne HO_5.out BK508.out (by decide))); have n1_ := aK (hb); have n2_ := aK (ho); clear BK508; clear HB; clear HO_5; have BK508 := n0_; have HB := n1_; have HO517 := n2_; clear n0_ n1_ n2_; clear ho hb hg hat))
           repeat (go_quiet (first | ((with_reducible refine gate_builtin (b := .append) (xs := #[.tmp 60, .tmp 64]) rfl ?_); at_builtin; refine Kd.R_append (Kd.int .i64) (w0 := w) w.heap.size rfl (.tmp 60) (.tmp 64) 30 3 (.int .i64 0) 8 rfl Try.underlying30 info3 rfl (by decide) (by omega) u5 x5_1 (Go.bits .xor .i64 a1 x7_2) [.int .i64 (Go.bits .xor .i64 a1 x7_2)] (fun _ => True) (fun _ => False) rfl rfl ?aP (fun _ hk => hk.elim) ?aF ?aO ?aB ?aS ?aL ?_; (case aP => exact rfl); (case aB => exact (viaX HB.out GE508.out)); (case aF => exact (fun _ _ => trivial)); (case aO => exact (viaR HO_5.out)); (case aS => exact (below_size (viaX HB.out GE508.out))); (case aL => have := LMc29.out; omega); intro v516 w30 ho hb hg hat; rw [← Ny515.out] at ho; have n0_ := aK (blk_grown (g := gb508) (o := .cells #[.int .i64 a0_0, .slice A0_1 l0_1.length c0_1] 25 (0, 0)) (viaB BK508.out) hg (Kd.R_ne HO_5.out BK508.out (by decide))); have n1_ := aK (hb); have n2_ := aK (ho); clear BK508; clear HB; clear HO_5; have BK508 := n0_; have HB := n1_; have HO517 := n2_; clear n0_ n1_ n2_; clear ho hb hg hat)); try go_wp2_with (first | ((with_reducible refine gate_builtin (b := .append) (xs := #[.tmp 60, .tmp 64]) rfl ?_); at_builtin; refine Kd.R_append (Kd.int .i64) (w0 := w) w.heap.size rfl (.tmp 60) (.tmp 64) 30 3 (.int .i64 0) 8 rfl Try.underlying30 info3 rfl (by decide) (by omega) u5 x5_1 (Go.bits .xor .i64 a1 x7_2) [.int .i64 (Go.bits .xor .i64 a1 x7_2)] (fun _ => True) (fun _ => False) rfl rfl ?aP (fun _ hk => hk.elim) ?aF ?aO ?aB ?aS ?aL ?_; (case aP => exact rfl); (case aB => exact (viaX HB.out GE508.out)); (case aF => exact (fun _ _ => trivial)); (case aO => exact (viaR HO_5.out)); (case aS => exact (below_size (viaX HB.out GE508.out))); (case aL => have := LMc29.out; omega); intro v516 w30 ho hb hg hat; rw [← Ny515.out] at ho; have n0_ := aK (blk_grown (g := gb508) (o := .cells #[.int .i64 a0_0, .slice A0_1 l0_1.length c0_1] 25 (0, 0)) (viaB BK508.out) hg (Kd.R_ne HO_5.out BK508.out (by decide))); have n1_ := aK (hb); have n2_ := aK (ho); clear BK508; clear HB; clear HO_5; have BK508 := n0_; have HB := n1_; have HO517 := n2_; clear n0_ n1_ n2_; clear ho hb hg hat)))
           go_roundg k2
           case measure => have := HK1.out; have := HK2.out; omega
           case rel => exact ⟨(y515), (wrap64 (x6_1 + 1)), (by first | rfl | (simp; done) | (simp [*]; done)), H', ⟨by have := HK1.out; have := HK2.out; omega⟩, ⟨viaR HO517.out⟩, ⟨viaB BK508.out⟩, ⟨viaX HB.out GE508.out⟩⟩
          ·rw [if_neg c29] at H
           exact absurd H (by simp)
        ·replace c27 := Bool.eq_false_iff.mpr c27
         subst c27; have H1 : (impl_byCuts.l0 k2 a1 x5_1 (wrap64 (x6_1 + 1)) a0_0 l0_1) = some r := by rw [if_neg (show ¬ (false = true) by decide)] at H; exact H
         clear H; have H := H1; clear H1; have H' := aK H; clear H
         go_wp2
         repeat (go_quiet (fail); try go_wp2)
         go_roundg k2
         case measure => have := HK1.out; have := HK2.out; omega
         case rel => exact ⟨(x5_1), (wrap64 (x6_1 + 1)), (by first | rfl | (simp; done) | (simp [*]; done)), H', ⟨by have := HK1.out; have := HK2.out; omega⟩, ⟨viaR HO_5.out⟩, ⟨viaB BK508.out⟩, ⟨viaX HB.out GE508.out⟩⟩
    ·rw [if_neg c8] at H
     have c8b0 : decide (x6_1 < (wrap64 ((ji7) - 1))) = false := decide_eq_false c8; clear c8; replace H := Option.bind_eq_some_iff.mp H; obtain ⟨t512, A310, H⟩ := H; replace H : (some t512) = some r := H; have A31 := aK A310; clear A310; obtain rfl := Option.some.inj H; have hcz32_0 : wr.cell? ⟨gb508, 0, none⟩ = some (.int .i64 a0_0) := (blk_cell BK508.out 0).trans rfl; have hcz32_1 : wr.cell? ⟨gb508, 1, none⟩ = some (.slice A0_1 l0_1.length c0_1) := (blk_cell BK508.out 1).trans rfl; have hfz32_0 := blk_frozen BK508.out 0; have hfz32_1 := blk_frozen BK508.out 1; obtain ⟨Ao33, co33, eo33⟩ := Kd.R_slice HO_5.out; subst eo33
     go_wp2_with (first | (go_at_call 100; (with_reducible refine (impl_distinct.calls k1 (fun k_ => some k_ = (.slice Ao33 x5_1.length co33 : Value).ownBlock) (.slice Ao33 x5_1.length co33) x5_1 t512 w _ ?side1 ?side2 A31.out).mono ?_); (case side1 => repeat (first | (with_reducible first | exact HB.out | apply below_alloc | apply pw_below_drewN | apply below_drew1 | refine below_set ?_ GE508.out) | exact HB.out)); (case side2 => exact Kd.R_tight rfl HO_5.out); rintro e w34 ⟨v513, rfl, ho0, hb, hkp⟩; have n0_ := aK (blk_kept (viaB BK508.out) hkp (fun hs_ => (fun e_ => (Kd.R_ne HO_5.out BK508.out (by decide)) e_) hs_)); have n1_ := aK (Kd.R_mono (ok' := fun k_ => True) ho0 (fun k_ hk_ => trivial)); have n2_ := aK (hb); clear BK508; clear HB; clear HO_5; have BK508 := n0_; have HO514 := n1_; have HB := n2_; clear n0_ n1_ n2_; (try clear hb); (try clear hkp); (try clear ho0)))
     repeat (go_quiet (first | (go_at_call 100; (with_reducible refine (impl_distinct.calls k1 (fun k_ => some k_ = (.slice Ao33 x5_1.length co33 : Value).ownBlock) (.slice Ao33 x5_1.length co33) x5_1 t512 w _ ?side1 ?side2 A31.out).mono ?_); (case side1 => repeat (first | (with_reducible first | exact HB.out | apply below_alloc | apply pw_below_drewN | apply below_drew1 | refine below_set ?_ GE508.out) | exact HB.out)); (case side2 => exact Kd.R_tight rfl HO_5.out); rintro e w34 ⟨v513, rfl, ho0, hb, hkp⟩; have n0_ := aK (blk_kept (viaB BK508.out) hkp (fun hs_ => (fun e_ => (Kd.R_ne HO_5.out BK508.out (by decide)) e_) hs_)); have n1_ := aK (Kd.R_mono (ok' := fun k_ => True) ho0 (fun k_ hk_ => trivial)); have n2_ := aK (hb); clear BK508; clear HB; clear HO_5; have BK508 := n0_; have HO514 := n1_; have HB := n2_; clear n0_ n1_ n2_; (try clear hb); (try clear hkp); (try clear ho0))); try go_wp2_with (first | (go_at_call 100; (with_reducible refine (impl_distinct.calls k1 (fun k_ => some k_ = (.slice Ao33 x5_1.length co33 : Value).ownBlock) (.slice Ao33 x5_1.length co33) x5_1 t512 w _ ?side1 ?side2 A31.out).mono ?_); (case side1 => repeat (first | (with_reducible first | exact HB.out | apply below_alloc | apply pw_below_drewN | apply below_drew1 | refine below_set ?_ GE508.out) | exact HB.out)); (case side2 => exact Kd.R_tight rfl HO_5.out); rintro e w34 ⟨v513, rfl, ho0, hb, hkp⟩; have n0_ := aK (blk_kept (viaB BK508.out) hkp (fun hs_ => (fun e_ => (Kd.R_ne HO_5.out BK508.out (by decide)) e_) hs_)); have n1_ := aK (Kd.R_mono (ok' := fun k_ => True) ho0 (fun k_ hk_ => trivial)); have n2_ := aK (hb); clear BK508; clear HB; clear HO_5; have BK508 := n0_; have HO514 := n1_; have HB := n2_; clear n0_ n1_ n2_; (try clear hb); (try clear hkp); (try clear ho0))))
     go_ret
     exact ⟨_, by first | rfl | (simp [errW_none, errW_some] <;> rfl) | (simp only [← hji7]; first | rfl | (simp [errW_none, errW_some] <;> rfl)) | (simp [*, errW_none, errW_some] <;> rfl), viaR HO514.out, viaX HB.out GE508.out⟩
   ·rw [if_neg c6] at H
    exact absurd H (by simp)
mutual
def spec_l5Cuts.l0 : Nat → Int → List Int → Int → Int → List (S69) → Option (List Int)
 | 0, _, _, _, _, _ => none
 | k + 1, x1, x5, x6, x574000, x574001 => if 0 ≤ x574000 then (if x6 < (wrap64 ((shl .i64 1 x574000) - 1)) then (spec_l5Cuts.l1 k x1 x5 x6 0 true 0 x574000 x574001) else (some x5)) else (none)
def spec_l5Cuts.l1 : Nat → Int → List Int → Int → Int → Bool → Int → Int → List (S69) → Option (List Int)
 | 0, _, _, _, _, _, _, _, _ => none
 | k + 1, x1, x5, x6, x7, x8, x9, x574000, x574001 => if x9 < (x574001.length : Int) then ((spec_l1Ends.f x574000 x574001 x1 x9).bind fun bt580 => (if 0 ≤ bt580.1 then (if (Go.bits .and .i64 (shr .i64 x6 bt580.1) 1) = 1 then (if 0 ≤ bt580.2 then (spec_l5Cuts.j2 k x1 x5 x6 x7 x8 x9 bt580.1 bt580.2 ((Go.bits .and .i64 (shr .i64 x6 bt580.2) 1) == 0) x574000 x574001) else (none)) else (spec_l5Cuts.j2 k x1 x5 x6 x7 x8 x9 bt580.1 bt580.2 false x574000 x574001)) else (none))) else (if x8 = true then (if x7 > 0 then ((spec_l5Put.f k x5 (Go.bits .xor .i64 x1 x7)).bind fun t577 => (spec_l5Cuts.l0 k x1 t577 (wrap64 (x6 + 1)) x574000 x574001)) else (spec_l5Cuts.l0 k x1 x5 (wrap64 (x6 + 1)) x574000 x574001)) else (spec_l5Cuts.l0 k x1 x5 (wrap64 (x6 + 1)) x574000 x574001))
def spec_l5Cuts.j2 : Nat → Int → List Int → Int → Int → Bool → Int → Int → Int → Bool → Int → List (S69) → Option (List Int)
 | 0, _, _, _, _, _, _, _, _, _, _, _ => none
 | k + 1, x1, x5, x6, x7, x8, x9, x10, x11, x46, x574000, x574001 => if x46 = true then (if 0 ≤ x9 then (if 0 ≤ x10 then (if (Go.bits .and .i64 (shr .i64 x6 x10) 1) = 0 then (if 0 ≤ x11 then (if (Go.bits .and .i64 (shr .i64 x6 x11) 1) = 1 then (spec_l5Cuts.l1 k x1 x5 x6 (Go.bits .or .i64 x7 (shl .i64 1 x9)) false (wrap64 (x9 + 1)) x574000 x574001) else (spec_l5Cuts.l1 k x1 x5 x6 (Go.bits .or .i64 x7 (shl .i64 1 x9)) x8 (wrap64 (x9 + 1)) x574000 x574001)) else (none)) else (spec_l5Cuts.l1 k x1 x5 x6 (Go.bits .or .i64 x7 (shl .i64 1 x9)) x8 (wrap64 (x9 + 1)) x574000 x574001)) else (none)) else (none)) else (if 0 ≤ x10 then (if (Go.bits .and .i64 (shr .i64 x6 x10) 1) = 0 then (if 0 ≤ x11 then (if (Go.bits .and .i64 (shr .i64 x6 x11) 1) = 1 then (spec_l5Cuts.l1 k x1 x5 x6 x7 false (wrap64 (x9 + 1)) x574000 x574001) else (spec_l5Cuts.l1 k x1 x5 x6 x7 x8 (wrap64 (x9 + 1)) x574000 x574001)) else (none)) else (spec_l5Cuts.l1 k x1 x5 x6 x7 x8 (wrap64 (x9 + 1)) x574000 x574001)) else (none))
end
def spec_l5Cuts.f (k : Nat) (a0_0 : Int) (l0_1 : List (S69)) (a1 : Int) : Option (List Int) := spec_l5Cuts.l0 k a1 (([] : List Int)) 1 a0_0 l0_1
set_option maxHeartbeats 8000000 in
set_option maxRecDepth 100000 in
theorem spec_l5Cuts.calls (k : Nat) (a0_0 : Int) (A0_1 : Option Addr) (c0_1 : Nat) (l0_1 : List (S69)) (a1 : Int) (r : List Int) (w : World) (hr0_1 : Kd.C k69 w A0_1 l0_1.length l0_1) (hc0_1 : l0_1.length ≤ c0_1) (h : spec_l5Cuts.f k a0_0 l0_1 a1 = some r) :
  Calls Try.prog 64 #[.agg #[.int .i64 a0_0, .slice A0_1 l0_1.length c0_1], .int .i64 a1] w fun e w' => ∃ v0_ : Value, e = .returned (v0_) ∧ Kd.R (Kd.int .i64) 3 w' w.heap.size (fun _ => True) v0_ r ∧ Below w.heap.size w w' := by
 have hu25 := Try.underlying25; have HR0_1 := aK hr0_1; have HC0_1 := aK hc0_1; clear hr0_1 hc0_1; have HB := aK (Below.refl w.heap.size w); have H : (spec_l5Cuts.l0 k a1 (([] : List Int)) 1 a0_0 l0_1) = some r := h; clear h; obtain ⟨y574, hy574⟩ : ∃ y_ : List Int, y_ = (([] : List Int)) := ⟨_, rfl⟩; replace H : (spec_l5Cuts.l0 k a1 y574 1 a0_0 l0_1) = some r := by first | (rw [hy574]; with_reducible exact H) | (have H2_ := (Option.bind_some _ _).symm.trans H; rw [hy574]; with_reducible exact H2_) | (have H2_ := (Option.bind_some _ _).symm.trans H; with_reducible exact H2_) | with_reducible exact H | (rw [hy574]; exact H) | exact H
 have Ny574 := aK hy574; clear hy574; have H' := aK H; clear H
 go_enter Try.func64, Try.ntmps64
 go_wp2_with (first | ((with_reducible refine gate_dst (N := 2) rfl ?_); refine box_event ?hg (N := 2) ?hd (cs := #[.int .i64 a0_0, .slice A0_1 l0_1.length c0_1]) (t := 25) ?hr ?_; (case hd => rfl); (case hg => rfl); (case hr => first | (go_simp; done) | (go_simp; rfl)); intro gb573 hg w3 hbox hb; have n0_ := aK (below_step (viaW HB.out) hb); have n1_ := aK (hbox); have n2_ := aK ((by rw [hg]; exact (below_size (viaW HB.out)) : w.heap.size ≤ gb573)); have n3_ := aK ((by rw [hg]; exact (below_size (viaW HB.out)) : w.heap.size ≤ gb573)); clear HB; have HB := n0_; have BK573 := n1_; have GW573 := n2_; have GE573 := n3_; clear n0_ n1_ n2_ n3_; clear hb hbox hg) | ((with_reducible refine gate_dst (N := 12) rfl ?_); refine Kd.R_lit (Kd.int .i64) _ 3 ?hg (N := 12) ?hd (xs := ([] : List Int)) (inner := []) (ok := fun _ => True) (okp := fun _ => True) ?hr ?hp (fun _ hk => hk) trivial (Below.refl _ _) (Nat.le_refl _) (by simp) ?_; (case hd => rfl); (case hg => rfl); (case hr => first | (go_simp; done) | (go_simp; rfl)); (case hp => exact (Reps.none _ _)); intro v575 w4 ho5 hb hg_ hnew_; clear hg_ hnew_; (first | rw [← Ny574.out] at ho5 | (simp only [Int.reduceToNat] at ho5; rw [← Ny574.out] at ho5)); have n0_ := aK (Kd.R_lower ho5 (below_size (viaX HB.out GE573.out))); have n1_ := aK (blk_below (g := gb573) (o := .cells #[.int .i64 a0_0, .slice A0_1 l0_1.length c0_1] 25 (0, 0)) (viaB BK573.out) hb); have n2_ := aK (below_step (viaX HB.out GE573.out) hb); clear BK573; clear HB; have HO576 := n0_; have BK573 := n1_; have HB := n2_; clear n0_ n1_ n2_; clear hb ho5))
 go_loopg [5, 6] k (fun kq v5 v6 w' => ∃ (x5_1 : List Int) (x6_1 : Int), v6 = .int .i64 x6_1 ∧ Aside0 (spec_l5Cuts.l0 kq a1 x5_1 x6_1 a0_0 l0_1 = some r) ∧ Aside0 (kq ≤ k) ∧ Aside0 (Kd.R (Kd.int .i64) 3 w' w.heap.size (fun _ => True) v5 x5_1) ∧ Aside0 (w'.heap[gb573]? = some (.cells #[.int .i64 a0_0, (.slice A0_1 l0_1.length c0_1)] 25 (0, 0))) ∧ Aside0 (Below w.heap.size w w'))
 case atStart => exact ⟨(y574), (1), (by first | rfl | (simp; done) | (simp [*]; done)), H', ⟨Nat.le_refl _⟩, ⟨viaR HO576.out⟩, ⟨viaB BK573.out⟩, ⟨viaX HB.out GE573.out⟩⟩
 case round =>
  clear H'
  try clear p2
  obtain ⟨x5_1, x6_1, rfl, HA, HK1, HO_5, BK573, HB⟩ := hrel
  cases gk with
  | zero => exact absurd HA.out (by simp [spec_l5Cuts.l0])
  | succ k1 =>
   have H := HA.out; clear HA
   simp only [spec_l5Cuts.l0] at H
   by_cases c6 : 0 ≤ a0_0
   ·rw [if_pos c6] at H
    have c6b0 := eq_true c6; have c6b1 : decide (0 ≤ a0_0) = true := decide_eq_true c6; clear c6; obtain ⟨ji7, hji7⟩ : ∃ j_ : Int, (shl .i64 1 a0_0) = j_ := ⟨_, rfl⟩; replace H : (if x6_1 < (wrap64 ((ji7) - 1)) then (spec_l5Cuts.l1 k1 a1 x5_1 x6_1 0 true 0 a0_0 l0_1) else (some x5_1)) = some r := by first | (rw [hji7] at H; exact H) | (simp only [hji7] at H ⊢; exact H)
    have hji7_ : (IntKind.i64.wrap (1 * 2 ^ min a0_0.toNat 64)) = ji7 := hji7; have hji7z : a0_0 ≤ 64 → (IntKind.i64.wrap (1 * 2 ^ a0_0.toNat)) = ji7 := shl_small hji7; have hji7u : (IntKind.i64.wrap (2 ^ min a0_0.toNat 64)) = ji7 := by have h_ := hji7_; rw [Int.one_mul] at h_; exact h_
    have hji7v : a0_0 ≤ 64 → (IntKind.i64.wrap (2 ^ a0_0.toNat)) = ji7 := fun hle_ => by have h_ := hji7z hle_; rw [Int.one_mul] at h_; exact h_
    have hji7y : (wrap64 (1 * 2 ^ min a0_0.toNat 64)) = ji7 := (i64_w _).symm.trans hji7_; have hji7x : a0_0 ≤ 64 → (wrap64 (1 * 2 ^ a0_0.toNat)) = ji7 := fun h_ => (i64_w _).symm.trans (hji7z h_)
    by_cases c8 : x6_1 < (wrap64 ((ji7) - 1))
    ·rw [if_pos c8] at H
     have c8b0 : decide (x6_1 < (wrap64 ((ji7) - 1))) = true := decide_eq_true c8; clear c8; have H' := aK H; clear H; have hcz9_0 : wr.cell? ⟨gb573, 0, none⟩ = some (.int .i64 a0_0) := (blk_cell BK573.out 0).trans rfl; have hcz9_1 : wr.cell? ⟨gb573, 1, none⟩ = some (.slice A0_1 l0_1.length c0_1) := (blk_cell BK573.out 1).trans rfl; have hfz9_0 := blk_frozen BK573.out 0; have hfz9_1 := blk_frozen BK573.out 1
     go_wp2
     go_loopg [7, 8, 9] k1 (fun kq v7 v8 v9 w' => ∃ (x7_2 : Int) (x8_2 : Bool) (x9_2 : Int), v7 = .int .i64 x7_2 ∧ v8 = .bool x8_2 ∧ v9 = .int .i64 x9_2 ∧ Aside0 (spec_l5Cuts.l1 kq a1 x5_1 x6_1 x7_2 x8_2 x9_2 a0_0 l0_1 = some r) ∧ Aside0 (kq ≤ k1) ∧ Aside0 (Kd.R (Kd.int .i64) 3 w' w.heap.size (fun _ => True) u5 x5_1) ∧ Aside0 (w'.heap[gb573]? = some (.cells #[.int .i64 a0_0, (.slice A0_1 l0_1.length c0_1)] 25 (0, 0))) ∧ Aside0 (Below w.heap.size w w'))
     case atStart => exact ⟨(0), (true), (0), (by first | rfl | (simp; done) | (simp [*]; done)), (by first | rfl | (simp; done) | (simp [*]; done)), (by first | rfl | (simp; done) | (simp [*]; done)), H', ⟨Nat.le_refl _⟩, ⟨viaR HO_5.out⟩, ⟨viaB BK573.out⟩, ⟨viaX HB.out GE573.out⟩⟩
     case round =>
      clear H'
      try clear p2
      try clear c6
      try clear c6b0
      try clear c6b1
      try clear p6
      try clear c8
      try clear c8b0
      try clear hcz9_0
      try clear hcz9_1
      try clear hfz9_0
      try clear hfz9_1
      try clear p2
      obtain ⟨x7_2, x8_2, x9_2, rfl, rfl, rfl, HA, HK2, HO_5, BK573, HB⟩ := hrel
      cases gk with
      | zero => exact absurd HA.out (by simp [spec_l5Cuts.l1])
      | succ k2 =>
       have H := HA.out; clear HA
       simp only [spec_l5Cuts.l1] at H
       by_cases c10 : x9_2 < (l0_1.length : Int)
       ·rw [if_pos c10] at H
        have c10b0 : decide (x9_2 < (l0_1.length : Int)) = true := decide_eq_true c10; clear c10; replace H := Option.bind_eq_some_iff.mp H; obtain ⟨⟨t580, t581⟩, A110, H⟩ := H; replace H : (if 0 ≤ t580 then (if (Go.bits .and .i64 (shr .i64 x6_1 t580) 1) = 1 then (if 0 ≤ t581 then (spec_l5Cuts.j2 k2 a1 x5_1 x6_1 x7_2 x8_2 x9_2 t580 t581 ((Go.bits .and .i64 (shr .i64 x6_1 t581) 1) == 0) a0_0 l0_1) else (none)) else (spec_l5Cuts.j2 k2 a1 x5_1 x6_1 x7_2 x8_2 x9_2 t580 t581 false a0_0 l0_1)) else (none)) = some r := H; have A11 := aK A110; clear A110; have HC12 := aK H; clear H; have hcz13_0 : wr.cell? ⟨gb573, 0, none⟩ = some (.int .i64 a0_0) := (blk_cell BK573.out 0).trans rfl; have hcz13_1 : wr.cell? ⟨gb573, 1, none⟩ = some (.slice A0_1 l0_1.length c0_1) := (blk_cell BK573.out 1).trans rfl; have hfz13_0 := blk_frozen BK573.out 0; have hfz13_1 := blk_frozen BK573.out 1
        go_upto_region 11 with (first | ((with_reducible refine gate_callee (f := 101) rfl ?_); refine goesL_ (some 32) rfl rfl Try.func101 (by kernel_rfl) rfl #[.agg #[.int .i64 a0_0, .slice A0_1 l0_1.length c0_1], .int .i64 a1, .int .i64 x9_2] rfl (by (try simp only [List.map_toArray, List.map_cons, List.map_nil]); first | done | rfl | (simp only [List.length_drop, List.length_take]; rfl)) ?_; (with_reducible refine (spec_l1Ends.calls a0_0 _ _ l0_1 a1 x9_2 t580 t581 _ ?side1 ?side2 A11.out).mono ?_); (case side1 => repeat (first | exact (Kd.C_below HR0_1.out HB.out) | (with_reducible refine Kd.C_alloc ?_ _) | (with_reducible refine Kd.C_drewN ?_ _) | (with_reducible refine Kd.C_drew ?_))); (case side2 => exact HC0_1.out); rintro e w14 ⟨rfl, hb⟩; refine ⟨_, rfl, ?_⟩; have n0_ := aK (Kd.R_below (viaR HO_5.out) hb); have n1_ := aK (blk_below (g := gb573) (o := .cells #[.int .i64 a0_0, .slice A0_1 l0_1.length c0_1] 25 (0, 0)) (viaB BK573.out) hb); have n2_ := aK (below_step (viaX HB.out GE573.out) hb); clear HO_5; clear BK573; clear HB; have HO_5 := n0_; have BK573 := n1_; have HB := n2_; clear n0_ n1_ n2_; (try clear hb); (try clear hb2); (try clear hk); (try clear hi)))
        (try simp only [Act.put, lA, lB, lC])
        go_cut [46] (fun v46 wc => ∃ (kq : Nat) (x46_11 : Bool), v46 = .bool x46_11 ∧ Aside0 (spec_l5Cuts.j2 kq a1 x5_1 x6_1 x7_2 x8_2 x9_2 t580 t581 x46_11 a0_0 l0_1 = some r) ∧ Aside0 (kq ≤ k2) ∧ Aside0 (Kd.R (Kd.int .i64) 3 wc w.heap.size (fun _ => True) u5 x5_1) ∧ Aside0 (wc.heap[gb573]? = some (.cells #[.int .i64 a0_0, (.slice A0_1 l0_1.length c0_1)] 25 (0, 0))) ∧ Aside0 (Below w.heap.size w wc))
        case first =>
         have H := HC12.out; clear HC12
         by_cases c15 : 0 ≤ t580
         ·rw [if_pos c15] at H
          have c15b0 := eq_true c15; have c15b1 : decide (0 ≤ t580) = true := decide_eq_true c15; clear c15; obtain ⟨ji16, hji16⟩ : ∃ j_ : Int, (shr .i64 x6_1 t580) = j_ := ⟨_, rfl⟩; replace H : (if (Go.bits .and .i64 (ji16) 1) = 1 then (if 0 ≤ t581 then (spec_l5Cuts.j2 k2 a1 x5_1 x6_1 x7_2 x8_2 x9_2 t580 t581 ((Go.bits .and .i64 (shr .i64 x6_1 t581) 1) == 0) a0_0 l0_1) else (none)) else (spec_l5Cuts.j2 k2 a1 x5_1 x6_1 x7_2 x8_2 x9_2 t580 t581 false a0_0 l0_1)) = some r := by first | (rw [hji16] at H; exact H) | (simp only [hji16] at H ⊢; exact H)
          have hji16_ : (x6_1 / 2 ^ min t580.toNat 64) = ji16 := hji16; have hji16z : t580 ≤ 64 → (x6_1 / 2 ^ t580.toNat) = ji16 := shr_small hji16
          by_cases c17 : (Go.bits .and .i64 (ji16) 1) = 1
          ·rw [if_pos c17] at H
           have c17b0 : ((Go.bits .and .i64 (ji16) 1) == 1) = true := beq_iff_eq.mpr c17; have c17b1 : ((Go.bits .and .i64 (ji16) 1) != 1) = false := bne_eq_false_iff_eq.mpr c17; clear c17
           (first | rw [c17b0] | (simp only [i64_w, i32_w]; rw [c17b0]) | skip)
           by_cases c18 : 0 ≤ t581
           ·rw [if_pos c18] at H
            have c18b0 := eq_true c18; have c18b1 : decide (0 ≤ t581) = true := decide_eq_true c18; clear c18; obtain ⟨ji19, hji19⟩ : ∃ j_ : Int, (shr .i64 x6_1 t581) = j_ := ⟨_, rfl⟩; replace H : (spec_l5Cuts.j2 k2 a1 x5_1 x6_1 x7_2 x8_2 x9_2 t580 t581 ((Go.bits .and .i64 (ji19) 1) == 0) a0_0 l0_1) = some r := by first | (rw [hji19] at H; exact H) | (simp only [hji19] at H ⊢; exact H)
            have hji19_ : (x6_1 / 2 ^ min t581.toNat 64) = ji19 := hji19; have hji19z : t581 ≤ 64 → (x6_1 / 2 ^ t581.toNat) = ji19 := shr_small hji19; have H' := aK H; clear H
            go_wp2
            go_meet
            case rel => exact ⟨_, (((Go.bits .and .i64 (ji19) 1) == 0)), (by first | rfl | (simp; done) | (simp only [← hji19] <;> (first | rfl | simp)) | (simp [*]; done)), H', ⟨by have := HK1.out; have := HK2.out; first | omega | exact Nat.le_refl _⟩, ⟨viaR HO_5.out⟩, ⟨viaB BK573.out⟩, ⟨viaX HB.out GE573.out⟩⟩
           ·rw [if_neg c18] at H
            exact absurd H (by simp)
          ·rw [if_neg c17] at H
           have c17b0 : ((Go.bits .and .i64 (ji16) 1) == 1) = false := beq_eq_false_iff_ne.mpr c17; have c17b1 : ((Go.bits .and .i64 (ji16) 1) != 1) = true := bne_iff_ne.mpr c17
           (first | rw [c17b0] | (simp only [i64_w, i32_w]; rw [c17b0]) | skip)
           have H' := aK H; clear H
           go_wp2
           go_meet
           case rel => exact ⟨_, (false), (by first | rfl | (simp; done) | (simp [*]; done)), H', ⟨by have := HK1.out; have := HK2.out; first | omega | exact Nat.le_refl _⟩, ⟨viaR HO_5.out⟩, ⟨viaB BK573.out⟩, ⟨viaX HB.out GE573.out⟩⟩
         ·rw [if_neg c15] at H
          exact absurd H (by simp)
        case rest =>
         clear HC12
         try clear c1
         try clear p2
         try clear c6
         try clear c6b0
         try clear c6b1
         try clear p6
         try clear c8
         try clear c8b0
         try clear c10
         try clear c10b0
         try clear c15
         try clear c15b0
         try clear c15b1
         try clear c17
         try clear c17b0
         try clear c17b1
         try clear c18
         try clear c18b0
         try clear c18b1
         try clear hcz13_0
         try clear hcz13_1
         try clear hcz9_0
         try clear hcz9_1
         try clear hfz13_0
         try clear hfz13_1
         try clear hfz9_0
         try clear hfz9_1
         try clear p2
         try clear p6
         obtain ⟨kq, x46_11, rfl, HA, HJ11, HO_5, BK573, HB⟩ := hcut
         cases kq with
         | zero => exact absurd HA.out (by simp [spec_l5Cuts.j2])
         | succ kj11 =>
          have H := HA.out; clear HA
          simp only [spec_l5Cuts.j2] at H
          by_cases c20 : x46_11 = true
          ·subst c20
           have H1 : (if 0 ≤ x9_2 then (if 0 ≤ t580 then (if (Go.bits .and .i64 (shr .i64 x6_1 t580) 1) = 0 then (if 0 ≤ t581 then (if (Go.bits .and .i64 (shr .i64 x6_1 t581) 1) = 1 then (spec_l5Cuts.l1 kj11 a1 x5_1 x6_1 (Go.bits .or .i64 x7_2 (shl .i64 1 x9_2)) false (wrap64 (x9_2 + 1)) a0_0 l0_1) else (spec_l5Cuts.l1 kj11 a1 x5_1 x6_1 (Go.bits .or .i64 x7_2 (shl .i64 1 x9_2)) x8_2 (wrap64 (x9_2 + 1)) a0_0 l0_1)) else (none)) else (spec_l5Cuts.l1 kj11 a1 x5_1 x6_1 (Go.bits .or .i64 x7_2 (shl .i64 1 x9_2)) x8_2 (wrap64 (x9_2 + 1)) a0_0 l0_1)) else (none)) else (none)) = some r := by rw [if_pos rfl] at H; exact H
           clear H; have H := H1; clear H1
           by_cases c21 : 0 ≤ x9_2
           ·rw [if_pos c21] at H
            have c21b0 := eq_true c21; have c21b1 : decide (0 ≤ x9_2) = true := decide_eq_true c21; clear c21; obtain ⟨ji22, hji22⟩ : ∃ j_ : Int, (shl .i64 1 x9_2) = j_ := ⟨_, rfl⟩; replace H : (if 0 ≤ t580 then (if (Go.bits .and .i64 (shr .i64 x6_1 t580) 1) = 0 then (if 0 ≤ t581 then (if (Go.bits .and .i64 (shr .i64 x6_1 t581) 1) = 1 then (spec_l5Cuts.l1 kj11 a1 x5_1 x6_1 (Go.bits .or .i64 x7_2 (ji22)) false (wrap64 (x9_2 + 1)) a0_0 l0_1) else (spec_l5Cuts.l1 kj11 a1 x5_1 x6_1 (Go.bits .or .i64 x7_2 (ji22)) x8_2 (wrap64 (x9_2 + 1)) a0_0 l0_1)) else (none)) else (spec_l5Cuts.l1 kj11 a1 x5_1 x6_1 (Go.bits .or .i64 x7_2 (ji22)) x8_2 (wrap64 (x9_2 + 1)) a0_0 l0_1)) else (none)) = some r := by first | (rw [hji22] at H; exact H) | (simp only [hji22] at H ⊢; exact H)
            have hji22_ : (IntKind.i64.wrap (1 * 2 ^ min x9_2.toNat 64)) = ji22 := hji22; have hji22z : x9_2 ≤ 64 → (IntKind.i64.wrap (1 * 2 ^ x9_2.toNat)) = ji22 := shl_small hji22; have hji22u : (IntKind.i64.wrap (2 ^ min x9_2.toNat 64)) = ji22 := by have h_ := hji22_; rw [Int.one_mul] at h_; exact h_
            have hji22v : x9_2 ≤ 64 → (IntKind.i64.wrap (2 ^ x9_2.toNat)) = ji22 := fun hle_ => by have h_ := hji22z hle_; rw [Int.one_mul] at h_; exact h_
            have hji22y : (wrap64 (1 * 2 ^ min x9_2.toNat 64)) = ji22 := (i64_w _).symm.trans hji22_; have hji22x : x9_2 ≤ 64 → (wrap64 (1 * 2 ^ x9_2.toNat)) = ji22 := fun h_ => (i64_w _).symm.trans (hji22z h_)
            by_cases c23 : 0 ≤ t580
            ·rw [if_pos c23] at H
             have c23b0 := eq_true c23; have c23b1 : decide (0 ≤ t580) = true := decide_eq_true c23; clear c23; obtain ⟨ji24, hji24⟩ : ∃ j_ : Int, (shr .i64 x6_1 t580) = j_ := ⟨_, rfl⟩; replace H : (if (Go.bits .and .i64 (ji24) 1) = 0 then (if 0 ≤ t581 then (if (Go.bits .and .i64 (shr .i64 x6_1 t581) 1) = 1 then (spec_l5Cuts.l1 kj11 a1 x5_1 x6_1 (Go.bits .or .i64 x7_2 (ji22)) false (wrap64 (x9_2 + 1)) a0_0 l0_1) else (spec_l5Cuts.l1 kj11 a1 x5_1 x6_1 (Go.bits .or .i64 x7_2 (ji22)) x8_2 (wrap64 (x9_2 + 1)) a0_0 l0_1)) else (none)) else (spec_l5Cuts.l1 kj11 a1 x5_1 x6_1 (Go.bits .or .i64 x7_2 (ji22)) x8_2 (wrap64 (x9_2 + 1)) a0_0 l0_1)) = some r := by first | (rw [hji24] at H; exact H) | (simp only [hji24] at H ⊢; exact H)
             have hji24_ : (x6_1 / 2 ^ min t580.toNat 64) = ji24 := hji24; have hji24z : t580 ≤ 64 → (x6_1 / 2 ^ t580.toNat) = ji24 := shr_small hji24
             by_cases c25 : (Go.bits .and .i64 (ji24) 1) = 0
             ·rw [if_pos c25] at H
              have c25b0 : ((Go.bits .and .i64 (ji24) 1) == 0) = true := beq_iff_eq.mpr c25; have c25b1 : ((Go.bits .and .i64 (ji24) 1) != 0) = false := bne_eq_false_iff_eq.mpr c25; clear c25
              by_cases c26 : 0 ≤ t581
              ·rw [if_pos c26] at H
               have c26b0 := eq_true c26; have c26b1 : decide (0 ≤ t581) = true := decide_eq_true c26; clear c26; obtain ⟨ji27, hji27⟩ : ∃ j_ : Int, (shr .i64 x6_1 t581) = j_ := ⟨_, rfl⟩; replace H : (if (Go.bits .and .i64 (ji27) 1) = 1 then (spec_l5Cuts.l1 kj11 a1 x5_1 x6_1 (Go.bits .or .i64 x7_2 (ji22)) false (wrap64 (x9_2 + 1)) a0_0 l0_1) else (spec_l5Cuts.l1 kj11 a1 x5_1 x6_1 (Go.bits .or .i64 x7_2 (ji22)) x8_2 (wrap64 (x9_2 + 1)) a0_0 l0_1)) = some r := by first | (rw [hji27] at H; exact H) | (simp only [hji27] at H ⊢; exact H)
               have hji27_ : (x6_1 / 2 ^ min t581.toNat 64) = ji27 := hji27; have hji27z : t581 ≤ 64 → (x6_1 / 2 ^ t581.toNat) = ji27 := shr_small hji27
               by_cases c28 : (Go.bits .and .i64 (ji27) 1) = 1
               ·rw [if_pos c28] at H
                have c28b0 : ((Go.bits .and .i64 (ji27) 1) == 1) = true := beq_iff_eq.mpr c28; have c28b1 : ((Go.bits .and .i64 (ji27) 1) != 1) = false := bne_eq_false_iff_eq.mpr c28; clear c28; have H' := aK H; clear H
                go_wp2
                go_roundg kj11
                case measure => have := HK1.out; have := HK2.out; have := HJ11.out; omega
                case rel => exact ⟨(Go.bits .or .i64 x7_2 (ji22)), (false), (wrap64 (x9_2 + 1)), (by first | rfl | (simp; done) | (simp only [← hji22] <;> (first | rfl | simp)) | (simp [*]; done)), (by first | rfl | (simp; done) | (simp [*]; done)), (by first | rfl | (simp; done) | (simp [*]; done)), H', ⟨by have := HK1.out; have := HK2.out; have := HJ11.out; omega⟩, ⟨viaR HO_5.out⟩, ⟨viaB BK573.out⟩, ⟨viaX HB.out GE573.out⟩⟩
               ·rw [if_neg c28] at H
                have c28b0 : ((Go.bits .and .i64 (ji27) 1) == 1) = false := beq_eq_false_iff_ne.mpr c28; have c28b1 : ((Go.bits .and .i64 (ji27) 1) != 1) = true := bne_iff_ne.mpr c28; have H' := aK H; clear H
                go_wp2
                go_roundg kj11
                case measure => have := HK1.out; have := HK2.out; have := HJ11.out; omega
                case rel => exact ⟨(Go.bits .or .i64 x7_2 (ji22)), (x8_2), (wrap64 (x9_2 + 1)), (by first | rfl | (simp; done) | (simp only [← hji22] <;> (first | rfl | simp)) | (simp [*]; done)), (by first | rfl | (simp; done) | (simp [*]; done)), (by first | rfl | (simp; done) | (simp [*]; done)), H', ⟨by have := HK1.out; have := HK2.out; have := HJ11.out; omega⟩, ⟨viaR HO_5.out⟩, ⟨viaB BK573.out⟩, ⟨viaX HB.out GE573.out⟩⟩
              ·rw [if_neg c26] at H
               exact absurd H (by simp)
             ·rw [if_neg c25] at H
              have c25b0 : ((Go.bits .and .i64 (ji24) 1) == 0) = false := beq_eq_false_iff_ne.mpr c25; have c25b1 : ((Go.bits .and .i64 (ji24) 1) != 0) = true := bne_iff_ne.mpr c25; have H' := aK H; clear H
              go_wp2
              go_roundg kj11
              case measure => have := HK1.out; have := HK2.out; have := HJ11.out; omega
              case rel => exact ⟨(Go.bits .or .i64 x7_2 (ji22)), (x8_2), (wrap64 (x9_2 + 1)), (by first | rfl | (simp; done) | (simp only [← hji22] <;> (first | rfl | simp)) | (simp [*]; done)), (by first | rfl | (simp; done) | (simp [*]; done)), (by first | rfl | (simp; done) | (simp [*]; done)), H', ⟨by have := HK1.out; have := HK2.out; have := HJ11.out; omega⟩, ⟨viaR HO_5.out⟩, ⟨viaB BK573.out⟩, ⟨viaX HB.out GE573.out⟩⟩
            ·rw [if_neg c23] at H
             exact absurd H (by simp)
           ·rw [if_neg c21] at H
            exact absurd H (by simp)
          ·replace c20 := Bool.eq_false_iff.mpr c20
           subst c20; have H1 : (if 0 ≤ t580 then (if (Go.bits .and .i64 (shr .i64 x6_1 t580) 1) = 0 then (if 0 ≤ t581 then (if (Go.bits .and .i64 (shr .i64 x6_1 t581) 1) = 1 then (spec_l5Cuts.l1 kj11 a1 x5_1 x6_1 x7_2 false (wrap64 (x9_2 + 1)) a0_0 l0_1) else (spec_l5Cuts.l1 kj11 a1 x5_1 x6_1 x7_2 x8_2 (wrap64 (x9_2 + 1)) a0_0 l0_1)) else (none)) else (spec_l5Cuts.l1 kj11 a1 x5_1 x6_1 x7_2 x8_2 (wrap64 (x9_2 + 1)) a0_0 l0_1)) else (none)) = some r := by rw [if_neg (show ¬ (false = true) by decide)] at H; exact H
           clear H; have H := H1; clear H1
           by_cases c29 : 0 ≤ t580
           ·rw [if_pos c29] at H
            have c29b0 := eq_true c29; have c29b1 : decide (0 ≤ t580) = true := decide_eq_true c29; clear c29; obtain ⟨ji30, hji30⟩ : ∃ j_ : Int, (shr .i64 x6_1 t580) = j_ := ⟨_, rfl⟩; replace H : (if (Go.bits .and .i64 (ji30) 1) = 0 then (if 0 ≤ t581 then (if (Go.bits .and .i64 (shr .i64 x6_1 t581) 1) = 1 then (spec_l5Cuts.l1 kj11 a1 x5_1 x6_1 x7_2 false (wrap64 (x9_2 + 1)) a0_0 l0_1) else (spec_l5Cuts.l1 kj11 a1 x5_1 x6_1 x7_2 x8_2 (wrap64 (x9_2 + 1)) a0_0 l0_1)) else (none)) else (spec_l5Cuts.l1 kj11 a1 x5_1 x6_1 x7_2 x8_2 (wrap64 (x9_2 + 1)) a0_0 l0_1)) = some r := by first | (rw [hji30] at H; exact H) | (simp only [hji30] at H ⊢; exact H)
            have hji30_ : (x6_1 / 2 ^ min t580.toNat 64) = ji30 := hji30; have hji30z : t580 ≤ 64 → (x6_1 / 2 ^ t580.toNat) = ji30 := shr_small hji30
            by_cases c31 : (Go.bits .and .i64 (ji30) 1) = 0
            ·rw [if_pos c31] at H
             have c31b0 : ((Go.bits .and .i64 (ji30) 1) == 0) = true := beq_iff_eq.mpr c31; have c31b1 : ((Go.bits .and .i64 (ji30) 1) != 0) = false := bne_eq_false_iff_eq.mpr c31; clear c31
             by_cases c32 : 0 ≤ t581
             ·rw [if_pos c32] at H
              have c32b0 := eq_true c32; have c32b1 : decide (0 ≤ t581) = true := decide_eq_true c32; clear c32; obtain ⟨ji33, hji33⟩ : ∃ j_ : Int, (shr .i64 x6_1 t581) = j_ := ⟨_, rfl⟩; replace H : (if (Go.bits .and .i64 (ji33) 1) = 1 then (spec_l5Cuts.l1 kj11 a1 x5_1 x6_1 x7_2 false (wrap64 (x9_2 + 1)) a0_0 l0_1) else (spec_l5Cuts.l1 kj11 a1 x5_1 x6_1 x7_2 x8_2 (wrap64 (x9_2 + 1)) a0_0 l0_1)) = some r := by first | (rw [hji33] at H; exact H) | (simp only [hji33] at H ⊢; exact H)
              have hji33_ : (x6_1 / 2 ^ min t581.toNat 64) = ji33 := hji33; have hji33z : t581 ≤ 64 → (x6_1 / 2 ^ t581.toNat) = ji33 := shr_small hji33
              by_cases c34 : (Go.bits .and .i64 (ji33) 1) = 1
              ·rw [if_pos c34] at H
               have c34b0 : ((Go.bits .and .i64 (ji33) 1) == 1) = true := beq_iff_eq.mpr c34; have c34b1 : ((Go.bits .and .i64 (ji33) 1) != 1) = false := bne_eq_false_iff_eq.mpr c34; clear c34; have H' := aK H; clear H
               go_wp2
               go_roundg kj11
               case measure => have := HK1.out; have := HK2.out; have := HJ11.out; omega
               case rel => exact ⟨(x7_2), (false), (wrap64 (x9_2 + 1)), (by first | rfl | (simp; done) | (simp [*]; done)), (by first | rfl | (simp; done) | (simp [*]; done)), (by first | rfl | (simp; done) | (simp [*]; done)), H', ⟨by have := HK1.out; have := HK2.out; have := HJ11.out; omega⟩, ⟨viaR HO_5.out⟩, ⟨viaB BK573.out⟩, ⟨viaX HB.out GE573.out⟩⟩
              ·rw [if_neg c34] at H
               have c34b0 : ((Go.bits .and .i64 (ji33) 1) == 1) = false := beq_eq_false_iff_ne.mpr c34; have c34b1 : ((Go.bits .and .i64 (ji33) 1) != 1) = true := bne_iff_ne.mpr c34; have H' := aK H; clear H
               go_wp2
               go_roundg kj11
               case measure => have := HK1.out; have := HK2.out; have := HJ11.out; omega
               case rel => exact ⟨(x7_2), (x8_2), (wrap64 (x9_2 + 1)), (by first | rfl | (simp; done) | (simp [*]; done)), (by first | rfl | (simp; done) | (simp [*]; done)), (by first | rfl | (simp; done) | (simp [*]; done)), H', ⟨by have := HK1.out; have := HK2.out; have := HJ11.out; omega⟩, ⟨viaR HO_5.out⟩, ⟨viaB BK573.out⟩, ⟨viaX HB.out GE573.out⟩⟩
             ·rw [if_neg c32] at H
              exact absurd H (by simp)
            ·rw [if_neg c31] at H
             have c31b0 : ((Go.bits .and .i64 (ji30) 1) == 0) = false := beq_eq_false_iff_ne.mpr c31; have c31b1 : ((Go.bits .and .i64 (ji30) 1) != 0) = true := bne_iff_ne.mpr c31; have H' := aK H; clear H
             go_wp2
             go_roundg kj11
             case measure => have := HK1.out; have := HK2.out; have := HJ11.out; omega
             case rel => exact ⟨(x7_2), (x8_2), (wrap64 (x9_2 + 1)), (by first | rfl | (simp; done) | (simp [*]; done)), (by first | rfl | (simp; done) | (simp [*]; done)), (by first | rfl | (simp; done) | (simp [*]; done)), H', ⟨by have := HK1.out; have := HK2.out; have := HJ11.out; omega⟩, ⟨viaR HO_5.out⟩, ⟨viaB BK573.out⟩, ⟨viaX HB.out GE573.out⟩⟩
           ·rw [if_neg c29] at H
            exact absurd H (by simp)
       ·rw [if_neg c10] at H
        have c10b0 : decide (x9_2 < (l0_1.length : Int)) = false := decide_eq_false c10; clear c10
        by_cases c35 : x8_2 = true
        ·subst c35
         have H1 : (if x7_2 > 0 then ((spec_l5Put.f k2 x5_1 (Go.bits .xor .i64 a1 x7_2)).bind fun t577 => (spec_l5Cuts.l0 k2 a1 t577 (wrap64 (x6_1 + 1)) a0_0 l0_1)) else (spec_l5Cuts.l0 k2 a1 x5_1 (wrap64 (x6_1 + 1)) a0_0 l0_1)) = some r := by rw [if_pos rfl] at H; exact H
         clear H; have H := H1; clear H1
         by_cases c36 : x7_2 > 0
         ·rw [if_pos c36] at H
          have c36b0 : decide (0 < x7_2) = true := decide_eq_true c36; clear c36; replace H := Option.bind_eq_some_iff.mp H; obtain ⟨t577, A370, H⟩ := H; replace H : (spec_l5Cuts.l0 k2 a1 t577 (wrap64 (x6_1 + 1)) a0_0 l0_1) = some r := H; have A37 := aK A370; clear A370; have H' := aK H; clear H; have hcz38_0 : wr.cell? ⟨gb573, 0, none⟩ = some (.int .i64 a0_0) := (blk_cell BK573.out 0).trans rfl; have hcz38_1 : wr.cell? ⟨gb573, 1, none⟩ = some (.slice A0_1 l0_1.length c0_1) := (blk_cell BK573.out 1).trans rfl; have hfz38_0 := blk_frozen BK573.out 0; have hfz38_1 := blk_frozen BK573.out 1; obtain ⟨Ao39, co39, eo39⟩ := Kd.R_slice HO_5.out; subst eo39
          go_wp2_with (first | ((with_reducible refine gate_callee (f := 102) rfl ?_); refine goesL_ (some 72) rfl rfl Try.func102 (by kernel_rfl) rfl #[.slice Ao39 x5_1.length co39, .int .i64 (Go.bits .xor .i64 a1 x7_2)] rfl (by (try simp only [List.map_toArray, List.map_cons, List.map_nil]); first | done | rfl | (simp only [List.length_drop, List.length_take]; rfl)) ?_; (with_reducible refine (spec_l5Put.calls k2 (fun k_ => some k_ = (.slice Ao39 x5_1.length co39 : Value).ownBlock) (.slice Ao39 x5_1.length co39) x5_1 (Go.bits .xor .i64 a1 x7_2) t577 w _ ?side1 ?side2 A37.out).mono ?_); (case side1 => repeat (first | (with_reducible first | exact HB.out | apply below_alloc | apply pw_below_drewN | apply below_drew1 | refine below_set ?_ GE573.out) | exact HB.out)); (case side2 => exact Kd.R_tight rfl HO_5.out); rintro e w40 ⟨v578, rfl, ho0, hb, hkp⟩; refine ⟨_, rfl, ?_⟩; have n0_ := aK (blk_kept (viaB BK573.out) hkp (fun hs_ => (fun e_ => (Kd.R_ne HO_5.out BK573.out (by decide)) e_) hs_)); have n1_ := aK (Kd.R_mono (ok' := fun k_ => True) ho0 (fun k_ hk_ => trivial)); have n2_ := aK (hb); clear BK573; clear HB; clear HO_5; have BK573 := n0_; have HO579 := n1_; have HB := n2_; clear n0_ n1_ n2_; (try clear hb); (try clear hkp); (try clear ho0)))
          go_roundg k2
          case measure => have := HK1.out; have := HK2.out; omega
          case rel => exact ⟨(t577), (wrap64 (x6_1 + 1)), (by first | rfl | (simp; done) | (simp [*]; done)), H', ⟨by have := HK1.out; have := HK2.out; omega⟩, ⟨viaR HO579.out⟩, ⟨viaB BK573.out⟩, ⟨viaX HB.out GE573.out⟩⟩
         ·rw [if_neg c36] at H
          have c36b0 : decide (0 < x7_2) = false := decide_eq_false c36; clear c36; have H' := aK H; clear H; have hcz41_0 : wr.cell? ⟨gb573, 0, none⟩ = some (.int .i64 a0_0) := (blk_cell BK573.out 0).trans rfl; have hcz41_1 : wr.cell? ⟨gb573, 1, none⟩ = some (.slice A0_1 l0_1.length c0_1) := (blk_cell BK573.out 1).trans rfl; have hfz41_0 := blk_frozen BK573.out 0; have hfz41_1 := blk_frozen BK573.out 1
          go_wp2
          go_roundg k2
          case measure => have := HK1.out; have := HK2.out; omega
          case rel => exact ⟨(x5_1), (wrap64 (x6_1 + 1)), (by first | rfl | (simp; done) | (simp [*]; done)), H', ⟨by have := HK1.out; have := HK2.out; omega⟩, ⟨viaR HO_5.out⟩, ⟨viaB BK573.out⟩, ⟨viaX HB.out GE573.out⟩⟩
        ·replace c35 := Bool.eq_false_iff.mpr c35
         subst c35; have H1 : (spec_l5Cuts.l0 k2 a1 x5_1 (wrap64 (x6_1 + 1)) a0_0 l0_1) = some r := by rw [if_neg (show ¬ (false = true) by decide)] at H; exact H
         clear H; have H := H1; clear H1; have H' := aK H; clear H; have hcz42_0 : wr.cell? ⟨gb573, 0, none⟩ = some (.int .i64 a0_0) := (blk_cell BK573.out 0).trans rfl; have hcz42_1 : wr.cell? ⟨gb573, 1, none⟩ = some (.slice A0_1 l0_1.length c0_1) := (blk_cell BK573.out 1).trans rfl; have hfz42_0 := blk_frozen BK573.out 0; have hfz42_1 := blk_frozen BK573.out 1
         go_wp2
         go_roundg k2
         case measure => have := HK1.out; have := HK2.out; omega
         case rel => exact ⟨(x5_1), (wrap64 (x6_1 + 1)), (by first | rfl | (simp; done) | (simp [*]; done)), H', ⟨by have := HK1.out; have := HK2.out; omega⟩, ⟨viaR HO_5.out⟩, ⟨viaB BK573.out⟩, ⟨viaX HB.out GE573.out⟩⟩
    ·rw [if_neg c8] at H
     have c8b0 : decide (x6_1 < (wrap64 ((ji7) - 1))) = false := decide_eq_false c8; clear c8; obtain rfl := Option.some.inj H; have hcz43_0 : wr.cell? ⟨gb573, 0, none⟩ = some (.int .i64 a0_0) := (blk_cell BK573.out 0).trans rfl; have hcz43_1 : wr.cell? ⟨gb573, 1, none⟩ = some (.slice A0_1 l0_1.length c0_1) := (blk_cell BK573.out 1).trans rfl; have hfz43_0 := blk_frozen BK573.out 0; have hfz43_1 := blk_frozen BK573.out 1
     go_wp2
     go_ret
     exact ⟨_, by first | rfl | (simp [errW_none, errW_some] <;> rfl) | (simp only [← hji7]; first | rfl | (simp [errW_none, errW_some] <;> rfl)) | (simp [*, errW_none, errW_some] <;> rfl), viaR HO_5.out, viaX HB.out GE573.out⟩
   ·rw [if_neg c6] at H
    exact absurd H (by simp)
end Go.Proofs.Ythoaebnnolbaaaa.G
