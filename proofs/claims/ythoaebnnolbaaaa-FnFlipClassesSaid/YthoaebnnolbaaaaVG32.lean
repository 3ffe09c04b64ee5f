/- A part of this claim; what it does not use is left out. -/
import Derived.Test.YthoaebnnolbaaaaVG0
import Derived.Test.YthoaebnnolbaaaaVG3
import Derived.Test.YthoaebnnolbaaaaVG28
namespace Go.Proofs.Ythoaebnnolbaaaa.G
open Go.RowKit Go.Proofs.YthoaebnnolbaaaaW.PrintWords Go.Proofs.YthoaebnnolbaaaaW.PrintLast Go.Proofs.YthoaebnnolbaaaaW.PrintMore
attribute [local go_sem] max2_int min2_int max_two min_two max_three min_three max_four min_four
set_option linter.unusedVariables false
set_option linter.unusedSimpArgs false
mutual
def spec_l5Walk.l0 : Nat → Int → Int → Int → Int → Int → List Int → Int → Int → List (S69) → Option (List Int)
 | 0, _, _, _, _, _, _, _, _, _ => none
 | k + 1, x1, x2, x3, x4, x5, x6, x15, x650000, x650001 => if x15 < (x650001.length : Int) then ((spec_l1Ends.f x650000 x650001 x1 x15).bind fun bt650 => (if bt650.1 = x3 then (if bt650.2 = x2 then (if 0 ≤ x15 then ((spec_l5Put.f k x6 (Go.bits .xor .i64 x1 (Go.bits .or .i64 x5 (shl .i64 1 x15)))).bind fun t652 => (if bt650.2 > x2 then (if 0 ≤ bt650.2 then (if (Go.bits .and .i64 (shr .i64 x4 bt650.2) 1) = 0 then ((spec_l5Walk.f k x650000 x650001 x1 x2 bt650.2 (Go.bits .or .i64 x4 (shl .i64 1 bt650.2)) (Go.bits .or .i64 x5 (shl .i64 1 x15)) t652).bind fun t655 => (spec_l5Walk.l0 k x1 x2 x3 x4 x5 t655 (wrap64 (x15 + 1)) x650000 x650001)) else (spec_l5Walk.l0 k x1 x2 x3 x4 x5 t652 (wrap64 (x15 + 1)) x650000 x650001)) else (none)) else (spec_l5Walk.l0 k x1 x2 x3 x4 x5 t652 (wrap64 (x15 + 1)) x650000 x650001))) else (none)) else (if bt650.2 > x2 then (if 0 ≤ bt650.2 then (if (Go.bits .and .i64 (shr .i64 x4 bt650.2) 1) = 0 then (if 0 ≤ x15 then ((spec_l5Walk.f k x650000 x650001 x1 x2 bt650.2 (Go.bits .or .i64 x4 (shl .i64 1 bt650.2)) (Go.bits .or .i64 x5 (shl .i64 1 x15)) x6).bind fun t658 => (spec_l5Walk.l0 k x1 x2 x3 x4 x5 t658 (wrap64 (x15 + 1)) x650000 x650001)) else (none)) else (spec_l5Walk.l0 k x1 x2 x3 x4 x5 x6 (wrap64 (x15 + 1)) x650000 x650001)) else (none)) else (spec_l5Walk.l0 k x1 x2 x3 x4 x5 x6 (wrap64 (x15 + 1)) x650000 x650001))) else (spec_l5Walk.l0 k x1 x2 x3 x4 x5 x6 (wrap64 (x15 + 1)) x650000 x650001))) else (some x6)
def spec_l5Walk.f : Nat → Int → List (S69) → Int → Int → Int → Int → Int → List Int → Option (List Int)
 | 0, _, _, _, _, _, _, _, _ => none
 | k + 1, a0_0, l0_1, a1, a2, a3, a4, a5, l6 => spec_l5Walk.l0 k a1 a2 a3 a4 a5 l6 0 a0_0 l0_1
end
def spec_l5Walk.T9 : Bool × List (List Nat × List Nat) := (true, [([], []), ([], []), ([], []), ([], []), ([], []), ([], []), ([5], [5]), ([4, 6], [4, 6]), ([], []), ([], []), ([9], [9]), ([8, 10], [8, 10]), ([], []), ([0, 1, 2, 3, 7, 11, 12], [0, 1, 2, 3, 7, 11, 12]), ([13, 13, 0, 1, 2, 3, 4, 5, 6, 7, 8, 9, 10, 11, 12, 13], [12, 13])])
def spec_l5Walk.B9 : List Nat := [0, 0, 0, 0, 0, 0, 32, 112, 0, 0, 512, 1792, 0, 8191, 16383]
theorem spec_l5Walk.tab9 : rtab .any (opsOf Try.f105 9) = spec_l5Walk.T9 := by kernel_rfl
theorem spec_l5Walk.bits9 : waitsOk spec_l5Walk.T9.2 spec_l5Walk.B9 = true := by kernel_rfl
set_option maxHeartbeats 8000000 in
set_option maxRecDepth 100000 in
theorem spec_l5Walk.calls (k : Nat) : ∀ (a0_0 : Int) (A0_1 : Option Addr) (c0_1 : Nat) (l0_1 : List (S69)) (a1 : Int) (a2 : Int) (a3 : Int) (a4 : Int) (a5 : Int) (P6_ : Nat → Prop) (u9000_ : Value) (l6 : List Int) (r : List Int) (w0 w : World) (hB : Below w0.heap.size w0 w) (hr0_1 : ∀ W_, Kept w W_ (fun k_ => P6_ k_) → Kd.C k69 W_ A0_1 l0_1.length l0_1) (hc0_1 : l0_1.length ≤ c0_1) (ho6 : Kd.R (Kd.int .i64) 3 w w0.heap.size P6_ u9000_ l6) (h : spec_l5Walk.f k a0_0 l0_1 a1 a2 a3 a4 a5 l6 = some r),
  Calls Try.prog 105 #[.agg #[.int .i64 a0_0, .slice A0_1 l0_1.length c0_1], .int .i64 a1, .int .i64 a2, .int .i64 a3, .int .i64 a4, .int .i64 a5, u9000_] w fun e w' => ∃ v0_ : Value, e = .returned (v0_) ∧ Kd.R (Kd.int .i64) 3 w' w0.heap.size (fun k_ => (P6_ k_ ∨ w.heap.size ≤ k_)) v0_ r ∧ Below w0.heap.size w0 w' ∧ Kept w w' (fun k_ => P6_ k_) := by
 induction k using Nat.strongRecOn with
 | _ k ih =>
 intro a0_0 A0_1 c0_1 l0_1 a1 a2 a3 a4 a5 P6_ u9000_ l6 r w0 w hB hr0_1 hc0_1 ho6 h
 cases k with
 | zero => exact absurd h (by simp [spec_l5Walk.f])
 | succ k =>
 simp only [spec_l5Walk.f] at h
 have hu25 := Try.underlying25; have HR0_1 := aK hr0_1; have HC0_1 := aK hc0_1; clear hr0_1 hc0_1; have HO6 := aK (show Kd.R (Kd.int .i64) 3 w w0.heap.size (fun k_ => (P6_ k_ ∨ w.heap.size ≤ k_)) u9000_ l6 from Kd.R_mono ho6 (fun k_ hk => (.inl hk))); have HK := aK (Kept.refl w (fun k_ => P6_ k_)); have HW0 := aK hB.size; have HB := aK hB; clear hB; have H : (spec_l5Walk.l0 k a1 a2 a3 a4 a5 l6 0 a0_0 l0_1) = some r := h; clear h; have H' := aK H; clear H
 go_enter Try.func105, Try.ntmps105
 go_wp2_with (first | ((with_reducible refine gate_dst (N := 7) rfl ?_); refine box_event ?hg (N := 7) ?hd (cs := #[.int .i64 a0_0, .slice A0_1 l0_1.length c0_1]) (t := 25) ?hr ?_; (case hd => rfl); (case hg => rfl); (case hr => first | (go_simp; done) | (go_simp; rfl)); intro gb649 hg w8 hbox hb; have n0_ := aK (Kd.R_below (viaR HO6.out) hb); have n1_ := aK (Kept.below (S := (fun k_ => P6_ k_)) (by repeat (first | (with_reducible first | exact HK.out | apply Kept.alloc | apply Kept.drewN | apply Kept.drew) | exact HK.out)) hb); have n2_ := aK (below_step (viaW HB.out) hb); have n3_ := aK (hbox); have n4_ := aK ((by rw [hg]; exact (by first | exact HK.out.1 | exact (show Kept w _ (fun k_ => P6_ k_) from by repeat (first | (with_reducible first | exact HK.out | apply Kept.alloc | apply Kept.drewN | apply Kept.drew) | exact HK.out)).1) : w.heap.size ≤ gb649)); have n5_ := aK ((by rw [hg]; exact (below_size (viaW HB.out)) : w0.heap.size ≤ gb649)); clear HO6; clear HK; clear HB; have HO6 := n0_; have HK := n1_; have HB := n2_; have BK649 := n3_; have GW649 := n4_; have GE649 := n5_; clear n0_ n1_ n2_ n3_ n4_ n5_; clear hb hbox hg))
 go_loopg [6, 15] k (fun kq v6 v15 w' => ∃ (x6_1 : List Int) (x15_1 : Int), v15 = .int .i64 x15_1 ∧ Aside0 (spec_l5Walk.l0 kq a1 a2 a3 a4 a5 x6_1 x15_1 a0_0 l0_1 = some r) ∧ Aside0 (kq ≤ k) ∧ Aside0 (Kd.R (Kd.int .i64) 3 w' w0.heap.size (fun k_ => (P6_ k_ ∨ w.heap.size ≤ k_)) v6 x6_1) ∧ Aside0 (w'.heap[gb649]? = some (.cells #[.int .i64 a0_0, (.slice A0_1 l0_1.length c0_1)] 25 (0, 0))) ∧ Aside0 (Kept w w' (fun k_ => P6_ k_)) ∧ Aside0 (Below w0.heap.size w0 w'))
 case atStart => exact ⟨(l6), (0), (by first | rfl | (simp; done) | (simp [*]; done)), H', ⟨Nat.le_refl _⟩, ⟨viaR HO6.out⟩, ⟨viaB BK649.out⟩, ⟨by repeat (first | (with_reducible first | exact HK.out | apply Kept.alloc | apply Kept.drewN | apply Kept.drew | refine Kept.setCell ?_ (.inr GW649.out) _) | exact HK.out)⟩, ⟨viaX HB.out GE649.out⟩⟩
 case round =>
  clear H'
  try clear c1
  try clear p2
  obtain ⟨x6_1, x15_1, rfl, HA, HK1, HO_6, BK649, HK, HB⟩ := hrel
  cases gk with
  | zero => exact absurd HA.out (by simp [spec_l5Walk.l0])
  | succ k1 =>
   have H := HA.out; clear HA
   simp only [spec_l5Walk.l0] at H
   by_cases c9 : x15_1 < (l0_1.length : Int)
   ·rw [if_pos c9] at H
    have c9b0 : decide (x15_1 < (l0_1.length : Int)) = true := decide_eq_true c9; clear c9; replace H := Option.bind_eq_some_iff.mp H; obtain ⟨⟨t650, t651⟩, A100, H⟩ := H; replace H : (if t650 = a3 then (if t651 = a2 then (if 0 ≤ x15_1 then ((spec_l5Put.f k1 x6_1 (Go.bits .xor .i64 a1 (Go.bits .or .i64 a5 (shl .i64 1 x15_1)))).bind fun t652 => (if t651 > a2 then (if 0 ≤ t651 then (if (Go.bits .and .i64 (shr .i64 a4 t651) 1) = 0 then ((spec_l5Walk.f k1 a0_0 l0_1 a1 a2 t651 (Go.bits .or .i64 a4 (shl .i64 1 t651)) (Go.bits .or .i64 a5 (shl .i64 1 x15_1)) t652).bind fun t655 => (spec_l5Walk.l0 k1 a1 a2 a3 a4 a5 t655 (wrap64 (x15_1 + 1)) a0_0 l0_1)) else (spec_l5Walk.l0 k1 a1 a2 a3 a4 a5 t652 (wrap64 (x15_1 + 1)) a0_0 l0_1)) else (none)) else (spec_l5Walk.l0 k1 a1 a2 a3 a4 a5 t652 (wrap64 (x15_1 + 1)) a0_0 l0_1))) else (none)) else (if t651 > a2 then (if 0 ≤ t651 then (if (Go.bits .and .i64 (shr .i64 a4 t651) 1) = 0 then (if 0 ≤ x15_1 then ((spec_l5Walk.f k1 a0_0 l0_1 a1 a2 t651 (Go.bits .or .i64 a4 (shl .i64 1 t651)) (Go.bits .or .i64 a5 (shl .i64 1 x15_1)) x6_1).bind fun t658 => (spec_l5Walk.l0 k1 a1 a2 a3 a4 a5 t658 (wrap64 (x15_1 + 1)) a0_0 l0_1)) else (none)) else (spec_l5Walk.l0 k1 a1 a2 a3 a4 a5 x6_1 (wrap64 (x15_1 + 1)) a0_0 l0_1)) else (none)) else (spec_l5Walk.l0 k1 a1 a2 a3 a4 a5 x6_1 (wrap64 (x15_1 + 1)) a0_0 l0_1))) else (spec_l5Walk.l0 k1 a1 a2 a3 a4 a5 x6_1 (wrap64 (x15_1 + 1)) a0_0 l0_1)) = some r := H; have A10 := aK A100; clear A100
    by_cases c11 : t650 = a3
    ·rw [if_pos c11] at H
     have c11b0 : (t650 == a3) = true := beq_iff_eq.mpr c11; have c11b1 : (t650 != a3) = false := bne_eq_false_iff_eq.mpr c11; clear c11
     by_cases c12 : t651 = a2
     ·rw [if_pos c12] at H
      have c12b0 : (t651 == a2) = true := beq_iff_eq.mpr c12; have c12b1 : (t651 != a2) = false := bne_eq_false_iff_eq.mpr c12; clear c12
      by_cases c13 : 0 ≤ x15_1
      ·rw [if_pos c13] at H
       have c13b0 := eq_true c13; have c13b1 : decide (0 ≤ x15_1) = true := decide_eq_true c13; clear c13; obtain ⟨ji14, hji14⟩ : ∃ j_ : Int, (shl .i64 1 x15_1) = j_ := ⟨_, rfl⟩; replace H : ((spec_l5Put.f k1 x6_1 (Go.bits .xor .i64 a1 (Go.bits .or .i64 a5 (ji14)))).bind fun t652 => (if t651 > a2 then (if 0 ≤ t651 then (if (Go.bits .and .i64 (shr .i64 a4 t651) 1) = 0 then ((spec_l5Walk.f k1 a0_0 l0_1 a1 a2 t651 (Go.bits .or .i64 a4 (shl .i64 1 t651)) (Go.bits .or .i64 a5 (ji14)) t652).bind fun t655 => (spec_l5Walk.l0 k1 a1 a2 a3 a4 a5 t655 (wrap64 (x15_1 + 1)) a0_0 l0_1)) else (spec_l5Walk.l0 k1 a1 a2 a3 a4 a5 t652 (wrap64 (x15_1 + 1)) a0_0 l0_1)) else (none)) else (spec_l5Walk.l0 k1 a1 a2 a3 a4 a5 t652 (wrap64 (x15_1 + 1)) a0_0 l0_1))) = some r := by first | (rw [hji14] at H; exact H) | (simp only [hji14] at H ⊢; exact H)
       (try rw [hji14] at A10)
       have hji14_ : (IntKind.i64.wrap (1 * 2 ^ min x15_1.toNat 64)) = ji14 := hji14; have hji14z : x15_1 ≤ 64 → (IntKind.i64.wrap (1 * 2 ^ x15_1.toNat)) = ji14 := shl_small hji14; have hji14u : (IntKind.i64.wrap (2 ^ min x15_1.toNat 64)) = ji14 := by have h_ := hji14_; rw [Int.one_mul] at h_; exact h_
       have hji14v : x15_1 ≤ 64 → (IntKind.i64.wrap (2 ^ x15_1.toNat)) = ji14 := fun hle_ => by have h_ := hji14z hle_; rw [Int.one_mul] at h_; exact h_
       have hji14y : (wrap64 (1 * 2 ^ min x15_1.toNat 64)) = ji14 := (i64_w _).symm.trans hji14_; have hji14x : x15_1 ≤ 64 → (wrap64 (1 * 2 ^ x15_1.toNat)) = ji14 := fun h_ => (i64_w _).symm.trans (hji14z h_); replace H := Option.bind_eq_some_iff.mp H; obtain ⟨t652, A150, H⟩ := H; replace H : (if t651 > a2 then (if 0 ≤ t651 then (if (Go.bits .and .i64 (shr .i64 a4 t651) 1) = 0 then ((spec_l5Walk.f k1 a0_0 l0_1 a1 a2 t651 (Go.bits .or .i64 a4 (shl .i64 1 t651)) (Go.bits .or .i64 a5 (ji14)) t652).bind fun t655 => (spec_l5Walk.l0 k1 a1 a2 a3 a4 a5 t655 (wrap64 (x15_1 + 1)) a0_0 l0_1)) else (spec_l5Walk.l0 k1 a1 a2 a3 a4 a5 t652 (wrap64 (x15_1 + 1)) a0_0 l0_1)) else (none)) else (spec_l5Walk.l0 k1 a1 a2 a3 a4 a5 t652 (wrap64 (x15_1 + 1)) a0_0 l0_1)) = some r := H; have A15 := aK A150; clear A150
       by_cases c16 : t651 > a2
       ·rw [if_pos c16] at H
        have c16b0 : decide (a2 < t651) = true := decide_eq_true c16; clear c16
        by_cases c17 : 0 ≤ t651
        ·rw [if_pos c17] at H
         have c17b0 := eq_true c17; have c17b1 : decide (0 ≤ t651) = true := decide_eq_true c17; clear c17; obtain ⟨ji18, hji18⟩ : ∃ j_ : Int, (shr .i64 a4 t651) = j_ := ⟨_, rfl⟩; replace H : (if (Go.bits .and .i64 (ji18) 1) = 0 then ((spec_l5Walk.f k1 a0_0 l0_1 a1 a2 t651 (Go.bits .or .i64 a4 (shl .i64 1 t651)) (Go.bits .or .i64 a5 (ji14)) t652).bind fun t655 => (spec_l5Walk.l0 k1 a1 a2 a3 a4 a5 t655 (wrap64 (x15_1 + 1)) a0_0 l0_1)) else (spec_l5Walk.l0 k1 a1 a2 a3 a4 a5 t652 (wrap64 (x15_1 + 1)) a0_0 l0_1)) = some r := by first | (rw [hji18] at H; exact H) | (simp only [hji18] at H ⊢; exact H)
         (try rw [hji18] at A10)
         (try rw [hji18] at A15)
         have hji18_ : (a4 / 2 ^ min t651.toNat 64) = ji18 := hji18; have hji18z : t651 ≤ 64 → (a4 / 2 ^ t651.toNat) = ji18 := shr_small hji18
         by_cases c19 : (Go.bits .and .i64 (ji18) 1) = 0
         ·rw [if_pos c19] at H
          have c19b0 : ((Go.bits .and .i64 (ji18) 1) == 0) = true := beq_iff_eq.mpr c19; have c19b1 : ((Go.bits .and .i64 (ji18) 1) != 0) = false := bne_eq_false_iff_eq.mpr c19; clear c19; have c20b0 := eq_true (of_decide_eq_true (by first | (with_reducible assumption) | assumption) : 0 ≤ t651); obtain ⟨ji21, hji21⟩ : ∃ j_ : Int, (shl .i64 1 t651) = j_ := ⟨_, rfl⟩; replace H : ((spec_l5Walk.f k1 a0_0 l0_1 a1 a2 t651 (Go.bits .or .i64 a4 (ji21)) (Go.bits .or .i64 a5 (ji14)) t652).bind fun t655 => (spec_l5Walk.l0 k1 a1 a2 a3 a4 a5 t655 (wrap64 (x15_1 + 1)) a0_0 l0_1)) = some r := by first | (rw [hji21] at H; exact H) | (simp only [hji21] at H ⊢; exact H)
          (try rw [hji21] at A10)
          (try rw [hji21] at A15)
          have hji21_ : (IntKind.i64.wrap (1 * 2 ^ min t651.toNat 64)) = ji21 := hji21; have hji21z : t651 ≤ 64 → (IntKind.i64.wrap (1 * 2 ^ t651.toNat)) = ji21 := shl_small hji21; have hji21u : (IntKind.i64.wrap (2 ^ min t651.toNat 64)) = ji21 := by have h_ := hji21_; rw [Int.one_mul] at h_; exact h_
          have hji21v : t651 ≤ 64 → (IntKind.i64.wrap (2 ^ t651.toNat)) = ji21 := fun hle_ => by have h_ := hji21z hle_; rw [Int.one_mul] at h_; exact h_
          have hji21y : (wrap64 (1 * 2 ^ min t651.toNat 64)) = ji21 := (i64_w _).symm.trans hji21_; have hji21x : t651 ≤ 64 → (wrap64 (1 * 2 ^ t651.toNat)) = ji21 := fun h_ => (i64_w _).symm.trans (hji21z h_); have c22b0 := eq_true (of_decide_eq_true (by first | (with_reducible assumption) | assumption) : 0 ≤ x15_1); replace H := Option.bind_eq_some_iff.mp H; obtain ⟨t655, A230, H⟩ := H; replace H : (spec_l5Walk.l0 k1 a1 a2 a3 a4 a5 t655 (wrap64 (x15_1 + 1)) a0_0 l0_1) = some r := H; have A23 := aK A230; clear A230; have H' := aK H; clear H; have hcz24_0 : wr.cell? ⟨gb649, 0, none⟩ = some (.int .i64 a0_0) := (blk_cell BK649.out 0).trans rfl; have hcz24_1 : wr.cell? ⟨gb649, 1, none⟩ = some (.slice A0_1 l0_1.length c0_1) := (blk_cell BK649.out 1).trans rfl; have hfz24_0 := blk_frozen BK649.out 0; have hfz24_1 := blk_frozen BK649.out 1
          try go_wp2_with (first | ((with_reducible refine gate_callee (f := 101) rfl ?_); refine goesL_ (some 29) rfl rfl Try.func101 (by kernel_rfl) rfl #[.agg #[.int .i64 a0_0, .slice A0_1 l0_1.length c0_1], .int .i64 a1, .int .i64 x15_1] rfl (by (try simp only [List.map_toArray, List.map_cons, List.map_nil]); first | done | rfl | (simp only [List.length_drop, List.length_take]; rfl)) ?_; (with_reducible refine (spec_l1Ends.calls a0_0 _ _ l0_1 a1 x15_1 t650 t651 _ ?side1 ?side2 A10.out).mono ?_); (case side1 => exact Kd.C_kept_now HR0_1.out (by repeat (first | (with_reducible first | exact HK.out | apply Kept.alloc | apply Kept.drewN | apply Kept.drew | refine Kept.setCell ?_ (.inr GW649.out) _) | exact HK.out))); (case side2 => exact HC0_1.out); rintro e w25 ⟨rfl, hb⟩; refine ⟨_, rfl, ?_⟩; have n0_ := aK (Kd.R_below (viaR HO_6.out) hb); have n1_ := aK (blk_below (g := gb649) (o := .cells #[.int .i64 a0_0, .slice A0_1 l0_1.length c0_1] 25 (0, 0)) (viaB BK649.out) hb); have n2_ := aK (Kept.below (S := (fun k_ => P6_ k_)) (by repeat (first | (with_reducible first | exact HK.out | apply Kept.alloc | apply Kept.drewN | apply Kept.drew | refine Kept.setCell ?_ (.inr GW649.out) _) | exact HK.out)) hb); have n3_ := aK (below_step (viaX HB.out GE649.out) hb); clear HO_6; clear BK649; clear HK; clear HB; have HO_6 := n0_; have BK649 := n1_; have HK := n2_; have HB := n3_; clear n0_ n1_ n2_ n3_; (try clear hb); (try clear hb2); (try clear hk); (try clear hi); obtain ⟨Ao26, co26, eo26⟩ := Kd.R_slice HO_6.out; subst eo26) | ((with_reducible refine gate_callee (f := 102) rfl ?_); refine goesL_ (some 45) rfl rfl Try.func102 (by kernel_rfl) rfl #[.slice Ao26 x6_1.length co26, .int .i64 (Go.bits .xor .i64 a1 (Go.bits .or .i64 a5 (ji14)))] rfl (by (try simp only [List.map_toArray, List.map_cons, List.map_nil]); first | done | (simp only [hji14]; rfl) | rfl | (simp only [List.length_drop, List.length_take]; rfl)) ?_; (with_reducible refine (spec_l5Put.calls k1 (fun k_ => some k_ = (.slice Ao26 x6_1.length co26 : Value).ownBlock) (.slice Ao26 x6_1.length co26) x6_1 (Go.bits .xor .i64 a1 (Go.bits .or .i64 a5 (ji14))) t652 w0 _ ?side1 ?side2 A15.out).mono ?_); (case side1 => repeat (first | (with_reducible first | exact HB.out | apply below_alloc | apply pw_below_drewN | apply below_drew1 | refine below_set ?_ GE649.out) | exact HB.out)); (case side2 => exact Kd.R_tight rfl HO_6.out); rintro e w27 ⟨v653, rfl, ho0, hb, hkp⟩; refine ⟨_, rfl, ?_⟩; have n0_ := aK (blk_kept (viaB BK649.out) hkp (fun hs_ => (fun e_ => (Kd.R_ne HO_6.out BK649.out (by decide)) e_) hs_)); have n1_ := aK (Kd.R_mono (ok' := fun k_ => (P6_ k_ ∨ w.heap.size ≤ k_)) ho0 (fun k_ hk_ => Or.elim hk_ (fun hs_ => (HO_6.out.1 k_ (hs_).symm)) (fun hn_ => (.inr (Nat.le_trans (by first | exact HK.out.1 | exact (show Kept w _ (fun k_ => P6_ k_) from by repeat (first | (with_reducible first | exact HK.out | apply Kept.alloc | apply Kept.drewN | apply Kept.drew | refine Kept.setCell ?_ (.inr GW649.out) _) | exact HK.out)).1) hn_))))); have n2_ := aK (Kept.then_ (S := (fun k_ => P6_ k_)) (by repeat (first | (with_reducible first | exact HK.out | apply Kept.alloc | apply Kept.drewN | apply Kept.drew | refine Kept.setCell ?_ (.inr GW649.out) _) | exact HK.out)) hkp (fun k_ hs_ => (fun e_ => (HO_6.out.1 k_ e_.symm)) hs_)); have n3_ := aK (hb); clear BK649; clear HK; clear HB; clear HO_6; have BK649 := n0_; have HO654 := n1_; have HK := n2_; have HB := n3_; clear n0_ n1_ n2_ n3_; (try clear hb); (try clear hkp); (try clear ho0)))
          have n0_ := aK (Kd.R_drew HO654.out); have n1_ := aK (blk_drew BK649.out); have n2_ := aK (Kept.drew HK.out); have n3_ := aK (below_drew1 HB.out); clear HO654; clear BK649; clear HK; clear HB; have HO654 := n0_; have BK649 := n1_; have HK := n2_; have HB := n3_; clear n0_ n1_ n2_ n3_; obtain ⟨Ao29, co29, eo29⟩ := Kd.R_slice HO654.out
          (first | subst eo29 | (injection eo29 with f1_ f2_ f3_; have f4_ := f1_.symm; have f5_ := f3_.symm; clear f1_ f2_ f3_; subst f4_; subst f5_))
          refine start_ (n := 15) (S := fun w' => w'.cell? ⟨gb649, 0, none⟩ = some (.int .i64 a0_0) ∧ w'.cell? ⟨gb649, 1, none⟩ = some (.slice A0_1 l0_1.length c0_1)) (ds := []) #[false, false, false, false, false, false, false, false, false, false, false, false, false, false, false] (by kernel_rfl) rfl rfl ⟨(blk_cell BK649.out 0).trans rfl, (blk_cell BK649.out 1).trans rfl⟩ (fun hHeld => ?_); refine with_tabW spec_l5Walk.tab9 spec_l5Walk.bits9 (fun HT_ HW_ => ?_)
          generalize w27.drew = w28 at HO654 BK649 HK HB hHeld ⊢
          refine pure_ (i := 1) (N := some 57) (v := ?_) (a' := ?_) #[false, true, false, false, false, false, false, false, false, false, false, false, false, false, false] rfl rfl (any_of HT_.out (by kernel_rfl)) (fun _ _ _ h => h) (Or.inl ⟨by rfl, ?_⟩) ?_ ?_
          rotate_left
          ·intro w'
           go_simp
           with_reducible rfl
          rotate_left
          ·simp only [Act.put, lA, lB, lC, i64_w, i32_w]
           rfl
          refine pure_ (i := 2) (N := some 58) (v := ?_) (a' := ?_) #[false, true, true, false, false, false, false, false, false, false, false, false, false, false, false] rfl rfl (any_of HT_.out (by kernel_rfl)) (fun _ _ _ h => h) (Or.inl ⟨by rfl, ?_⟩) ?_ ?_
          rotate_left
          ·intro w'
           go_simp
           with_reducible rfl
          rotate_left
          ·simp only [Act.put, lA, lB, lC, i64_w, i32_w]
           rfl
          refine pure_ (i := 3) (N := some 59) (v := ?_) (a' := ?_) #[false, true, true, true, false, false, false, false, false, false, false, false, false, false, false] rfl rfl (any_of HT_.out (by kernel_rfl)) (fun _ _ _ h => h) (Or.inl ⟨by rfl, ?_⟩) ?_ ?_
          rotate_left
          ·intro w'
           go_simp
           with_reducible rfl
          rotate_left
          ·simp only [Act.put, lA, lB, lC, i64_w, i32_w]
           rfl
          refine pure_ (i := 4) (N := some 60) (v := ?_) (a' := ?_) #[false, true, true, true, true, false, false, false, false, false, false, false, false, false, false] rfl rfl (any_of HT_.out (by kernel_rfl)) (fun _ _ _ h => h) (Or.inl ⟨by rfl, ?_⟩) ?_ ?_
          rotate_left
          ·intro w'
           go_simp
           with_reducible rfl
          rotate_left
          ·simp only [Act.put, lA, lB, lC, i64_w, i32_w]
           rfl
          refine pure_ (i := 5) (N := some 61) (v := ?_) (a' := ?_) #[false, true, true, true, true, true, false, false, false, false, false, false, false, false, false] rfl rfl (any_of HT_.out (by kernel_rfl)) (fun _ _ _ h => h) (Or.inl ⟨by rfl, ?_⟩) ?_ ?_
          rotate_left
          ·intro w'
           go_simp
           with_reducible rfl
          rotate_left
          ·simp only [Act.put, lA, lB, lC, i64_w, i32_w]
           rfl
          refine pure_ (i := 6) (N := some 62) (v := ?_) (a' := ?_) #[false, true, true, true, true, true, true, false, false, false, false, false, false, false, false] rfl rfl (any_of HT_.out (by kernel_rfl)) (fun _ _ _ h => h) (Or.inl ⟨by rfl, ?_⟩) ?_ ?_
          rotate_left
          ·intro w'
           go_simp
           with_reducible rfl
          rotate_left
          ·simp only [Act.put, lA, lB, lC, i64_w, i32_w]
           rfl
          refine pure_ (i := 7) (N := some 63) (v := ?_) (a' := ?_) #[false, true, true, true, true, true, true, true, false, false, false, false, false, false, false] rfl rfl (any_of HT_.out (by kernel_rfl)) (fun _ _ _ h => h) (Or.inl ⟨by rfl, ?_⟩) ?_ ?_
          rotate_left
          ·intro w'
           go_simp
           with_reducible rfl
          rotate_left
          ·simp only [Act.put, lA, lB, lC, i64_w, i32_w]
           rfl
          refine pure_ (i := 8) (N := some 64) (v := ?_) (a' := ?_) #[false, true, true, true, true, true, true, true, true, false, false, false, false, false, false] rfl rfl (any_of HT_.out (by kernel_rfl)) (fun _ _ _ h => h) (Or.inl ⟨by rfl, ?_⟩) ?_ ?_
          rotate_left
          ·intro w'
           go_simp
           with_reducible rfl
          rotate_left
          ·simp only [Act.put, lA, lB, lC, i64_w, i32_w]
           rfl
          refine pure_ (i := 9) (N := some 65) (v := ?_) (a' := ?_) #[false, true, true, true, true, true, true, true, true, true, false, false, false, false, false] rfl rfl (any_of HT_.out (by kernel_rfl)) (fun _ _ _ h => h) (Or.inl ⟨by rfl, ?_⟩) ?_ ?_
          rotate_left
          ·intro w'
           go_simp
           with_reducible rfl
          rotate_left
          ·simp only [Act.put, lA, lB, lC, i64_w, i32_w]
           rfl
          refine pure_ (i := 10) (N := some 66) (v := ?_) (a' := ?_) #[false, true, true, true, true, true, true, true, true, true, true, false, false, false, false] rfl rfl (any_of HT_.out (by kernel_rfl)) (fun _ _ _ h => h) (Or.inl ⟨by rfl, ?_⟩) ?_ ?_
          rotate_left
          ·intro w'
           go_simp
           with_reducible rfl
          rotate_left
          ·simp only [Act.put, lA, lB, lC, i64_w, i32_w]
           rfl
          refine pure_ (i := 11) (N := some 67) (v := ?_) (a' := ?_) #[false, true, true, true, true, true, true, true, true, true, true, true, false, false, false] rfl rfl (any_of HT_.out (by kernel_rfl)) (fun _ _ _ h => h) (Or.inl ⟨by rfl, ?_⟩) ?_ ?_
          rotate_left
          ·intro w'
           go_simp
           with_reducible rfl
          rotate_left
          ·simp only [Act.put, lA, lB, lC, i64_w, i32_w]
           rfl
          refine pure_ (i := 12) (N := some 68) (v := ?_) (a' := ?_) #[false, true, true, true, true, true, true, true, true, true, true, true, true, false, false] rfl rfl (any_of HT_.out (by kernel_rfl)) (fun _ _ _ h => h) (Or.inl ⟨by rfl, ?_⟩) ?_ ?_
          rotate_left
          ·intro w'
           go_simp
           with_reducible rfl
          rotate_left
          ·simp only [Act.put, lA, lB, lC, i64_w, i32_w]
           rfl
          refine take_ (i := 0) (N := some 56) (v := ?_) (a' := ?_) #[true, true, true, true, true, true, true, true, true, true, true, true, true, false, false] rfl rfl (take_ofW HT_.out HW_.out (by kernel_rfl)) (fun _ _ _ h => h) (Or.inl ⟨by rfl, ?_⟩) hHeld ?_ ?_
          rotate_left
          ·rintro w' ⟨s0, s1⟩
           go_simp
           with_reducible rfl
          rotate_left
          ·simp only [Act.put, lA, lB, lC, i64_w, i32_w]
           rfl
          refine one_ (i := 13) (N := some 69) #[true, true, true, true, true, true, true, true, true, true, true, true, true, true, false] rfl rfl (one_of HT_.out (by kernel_rfl)) (by decide) (fun K hK => ?_)
          refine goes_ Try.func105 (by kernel_rfl) rfl #[.agg #[.int .i64 a0_0, .slice A0_1 l0_1.length c0_1], .int .i64 a1, .int .i64 a2, .int .i64 t651, .int .i64 (Go.bits .or .i64 a4 (ji21)), .int .i64 (Go.bits .or .i64 a5 (ji14)), .slice Ao29 t652.length co29] (by rfl) rfl rfl (by (try simp only [List.map_toArray, List.map_cons, List.map_nil]); first | done | (simp only [hji14, hji21]; rfl) | rfl | (simp only [List.length_drop, List.length_take]; rfl)) ?_
          with_reducible refine (ih k1 (by have := HK1.out; omega) a0_0 _ _ l0_1 a1 a2 t651 (Go.bits .or .i64 a4 (ji21)) (Go.bits .or .i64 a5 (ji14)) (fun k_ => some k_ = (.slice Ao29 t652.length co29 : Value).ownBlock) (.slice Ao29 t652.length co29) t652 t655 w0 _ ?side1 ?side2 ?side3 ?side4 A23.out).mono ?_
          (case side1 => repeat (first | (with_reducible first | exact HB.out | apply below_alloc | apply pw_below_drewN | apply below_drew1 | refine below_set ?_ GE649.out) | exact HB.out))
          (case side2 => exact Kd.C_kept_call HR0_1.out (by repeat (first | (with_reducible first | exact HK.out | apply Kept.alloc | apply Kept.drewN | apply Kept.drew | refine Kept.setCell ?_ (.inr GW649.out) _) | exact HK.out)) (fun k_ hs_ => (fun e_ => (HO654.out.1 k_ e_.symm)) hs_))
          (case side3 => exact HC0_1.out)
          (case side4 => exact Kd.R_tight rfl HO654.out)
          rintro e w30 ⟨v656, rfl, ho0, hb, hkp⟩
          refine ⟨_, rfl, ?_⟩
          have n0_ := aK (blk_kept (viaB BK649.out) hkp (fun hs_ => (fun e_ => (Kd.R_ne HO654.out BK649.out (by decide)) e_) hs_)); have n1_ := aK (Kd.R_mono (ok' := fun k_ => (P6_ k_ ∨ w.heap.size ≤ k_)) ho0 (fun k_ hk_ => Or.elim hk_ (fun hs_ => (HO654.out.1 k_ (hs_).symm)) (fun hn_ => (.inr (Nat.le_trans (by first | exact HK.out.1 | exact (show Kept w _ (fun k_ => P6_ k_) from by repeat (first | (with_reducible first | exact HK.out | apply Kept.alloc | apply Kept.drewN | apply Kept.drew | refine Kept.setCell ?_ (.inr GW649.out) _) | exact HK.out)).1) hn_))))); have n2_ := aK (Kept.then_ (S := (fun k_ => P6_ k_)) (by repeat (first | (with_reducible first | exact HK.out | apply Kept.alloc | apply Kept.drewN | apply Kept.drew | refine Kept.setCell ?_ (.inr GW649.out) _) | exact HK.out)) hkp (fun k_ hs_ => (fun e_ => (HO654.out.1 k_ e_.symm)) hs_)); have n3_ := aK (hb); clear BK649; clear HK; clear HB; clear HO654; have BK649 := n0_; have HO657 := n1_; have HK := n2_; have HB := n3_; clear n0_ n1_ n2_ n3_
          (try clear hb)
          (try clear hkp)
          (try clear ho0)
          refine hK.out _ _ ⟨(blk_cell BK649.out 0).trans rfl, (blk_cell BK649.out 1).trans rfl⟩ (fun hHeld => ?_)
          clear hK K
          refine norm_ (a' := ?_) ?_ ?_
          rotate_left
          ·show Act.put _ (some 69) _ = _
           simp only [Act.put, lA, lB, lC, i64_w, i32_w]
           rfl
          refine pure_ (i := 14) (N := some 6) (v := ?_) (a' := ?_) #[true, true, true, true, true, true, true, true, true, true, true, true, true, true, true] rfl rfl (any_of HT_.out (by kernel_rfl)) (fun _ _ _ h => h) (Or.inl ⟨by rfl, ?_⟩) ?_ ?_
          rotate_left
          ·intro w'
           go_simp
           with_reducible rfl
          rotate_left
          ·simp only [Act.put, lA, lB, lC, i64_w, i32_w]
           rfl
          refine done_ (done_of HT_.out (by kernel_rfl)) ?_
          try go_wp2
          go_roundg k1
          case measure => have := HK1.out; omega
          case rel => exact ⟨(t655), (wrap64 (x15_1 + 1)), (by first | rfl | (simp; done) | (simp [*]; done)), H', ⟨by have := HK1.out; omega⟩, ⟨viaR HO657.out⟩, ⟨viaB BK649.out⟩, ⟨by repeat (first | (with_reducible first | exact HK.out | apply Kept.alloc | apply Kept.drewN | apply Kept.drew | refine Kept.setCell ?_ (.inr GW649.out) _) | exact HK.out)⟩, ⟨viaX HB.out GE649.out⟩⟩
         ·rw [if_neg c19] at H
          have c19b0 : ((Go.bits .and .i64 (ji18) 1) == 0) = false := beq_eq_false_iff_ne.mpr c19; have c19b1 : ((Go.bits .and .i64 (ji18) 1) != 0) = true := bne_iff_ne.mpr c19; have H' := aK H; clear H; have hcz31_0 : wr.cell? ⟨gb649, 0, none⟩ = some (.int .i64 a0_0) := (blk_cell BK649.out 0).trans rfl; have hcz31_1 : wr.cell? ⟨gb649, 1, none⟩ = some (.slice A0_1 l0_1.length c0_1) := (blk_cell BK649.out 1).trans rfl; have hfz31_0 := blk_frozen BK649.out 0; have hfz31_1 := blk_frozen BK649.out 1
          go_wp2_with (first | ((with_reducible refine gate_callee (f := 101) rfl ?_); refine goesL_ (some 29) rfl rfl Try.func101 (by kernel_rfl) rfl #[.agg #[.int .i64 a0_0, .slice A0_1 l0_1.length c0_1], .int .i64 a1, .int .i64 x15_1] rfl (by (try simp only [List.map_toArray, List.map_cons, List.map_nil]); first | done | rfl | (simp only [List.length_drop, List.length_take]; rfl)) ?_; (with_reducible refine (spec_l1Ends.calls a0_0 _ _ l0_1 a1 x15_1 t650 t651 _ ?side1 ?side2 A10.out).mono ?_); (case side1 => exact Kd.C_kept_now HR0_1.out (by repeat (first | (with_reducible first | exact HK.out | apply Kept.alloc | apply Kept.drewN | apply Kept.drew | refine Kept.setCell ?_ (.inr GW649.out) _) | exact HK.out))); (case side2 => exact HC0_1.out); rintro e w32 ⟨rfl, hb⟩; refine ⟨_, rfl, ?_⟩; have n0_ := aK (Kd.R_below (viaR HO_6.out) hb); have n1_ := aK (blk_below (g := gb649) (o := .cells #[.int .i64 a0_0, .slice A0_1 l0_1.length c0_1] 25 (0, 0)) (viaB BK649.out) hb); have n2_ := aK (Kept.below (S := (fun k_ => P6_ k_)) (by repeat (first | (with_reducible first | exact HK.out | apply Kept.alloc | apply Kept.drewN | apply Kept.drew | refine Kept.setCell ?_ (.inr GW649.out) _) | exact HK.out)) hb); have n3_ := aK (below_step (viaX HB.out GE649.out) hb); clear HO_6; clear BK649; clear HK; clear HB; have HO_6 := n0_; have BK649 := n1_; have HK := n2_; have HB := n3_; clear n0_ n1_ n2_ n3_; (try clear hb); (try clear hb2); (try clear hk); (try clear hi); obtain ⟨Ao33, co33, eo33⟩ := Kd.R_slice HO_6.out; subst eo33) | ((with_reducible refine gate_callee (f := 102) rfl ?_); refine goesL_ (some 45) rfl rfl Try.func102 (by kernel_rfl) rfl #[.slice Ao33 x6_1.length co33, .int .i64 (Go.bits .xor .i64 a1 (Go.bits .or .i64 a5 (ji14)))] rfl (by (try simp only [List.map_toArray, List.map_cons, List.map_nil]); first | done | (simp only [hji14]; rfl) | rfl | (simp only [List.length_drop, List.length_take]; rfl)) ?_; (with_reducible refine (spec_l5Put.calls k1 (fun k_ => some k_ = (.slice Ao33 x6_1.length co33 : Value).ownBlock) (.slice Ao33 x6_1.length co33) x6_1 (Go.bits .xor .i64 a1 (Go.bits .or .i64 a5 (ji14))) t652 w0 _ ?side1 ?side2 A15.out).mono ?_); (case side1 => repeat (first | (with_reducible first | exact HB.out | apply below_alloc | apply pw_below_drewN | apply below_drew1 | refine below_set ?_ GE649.out) | exact HB.out)); (case side2 => exact Kd.R_tight rfl HO_6.out); rintro e w34 ⟨v653, rfl, ho0, hb, hkp⟩; refine ⟨_, rfl, ?_⟩; have n0_ := aK (blk_kept (viaB BK649.out) hkp (fun hs_ => (fun e_ => (Kd.R_ne HO_6.out BK649.out (by decide)) e_) hs_)); have n1_ := aK (Kd.R_mono (ok' := fun k_ => (P6_ k_ ∨ w.heap.size ≤ k_)) ho0 (fun k_ hk_ => Or.elim hk_ (fun hs_ => (HO_6.out.1 k_ (hs_).symm)) (fun hn_ => (.inr (Nat.le_trans (by first | exact HK.out.1 | exact (show Kept w _ (fun k_ => P6_ k_) from by repeat (first | (with_reducible first | exact HK.out | apply Kept.alloc | apply Kept.drewN | apply Kept.drew | refine Kept.setCell ?_ (.inr GW649.out) _) | exact HK.out)).1) hn_))))); have n2_ := aK (Kept.then_ (S := (fun k_ => P6_ k_)) (by repeat (first | (with_reducible first | exact HK.out | apply Kept.alloc | apply Kept.drewN | apply Kept.drew | refine Kept.setCell ?_ (.inr GW649.out) _) | exact HK.out)) hkp (fun k_ hs_ => (fun e_ => (HO_6.out.1 k_ e_.symm)) hs_)); have n3_ := aK (hb); clear BK649; clear HK; clear HB; clear HO_6; have BK649 := n0_; have HO654 := n1_; have HK := n2_; have HB := n3_; clear n0_ n1_ n2_ n3_; (try clear hb); (try clear hkp); (try clear ho0)))
          go_roundg k1
          case measure => have := HK1.out; omega
          case rel => exact ⟨(t652), (wrap64 (x15_1 + 1)), (by first | rfl | (simp; done) | (simp [*]; done)), H', ⟨by have := HK1.out; omega⟩, ⟨viaR HO654.out⟩, ⟨viaB BK649.out⟩, ⟨by repeat (first | (with_reducible first | exact HK.out | apply Kept.alloc | apply Kept.drewN | apply Kept.drew | refine Kept.setCell ?_ (.inr GW649.out) _) | exact HK.out)⟩, ⟨viaX HB.out GE649.out⟩⟩
        ·rw [if_neg c17] at H
         exact absurd H (by simp)
       ·rw [if_neg c16] at H
        have c16b0 : decide (a2 < t651) = false := decide_eq_false c16; clear c16; have H' := aK H; clear H; have hcz35_0 : wr.cell? ⟨gb649, 0, none⟩ = some (.int .i64 a0_0) := (blk_cell BK649.out 0).trans rfl; have hcz35_1 : wr.cell? ⟨gb649, 1, none⟩ = some (.slice A0_1 l0_1.length c0_1) := (blk_cell BK649.out 1).trans rfl; have hfz35_0 := blk_frozen BK649.out 0; have hfz35_1 := blk_frozen BK649.out 1
        go_wp2_with (first | ((with_reducible refine gate_callee (f := 101) rfl ?_); refine goesL_ (some 29) rfl rfl Try.func101 (by kernel_rfl) rfl #[.agg #[.int .i64 a0_0, .slice A0_1 l0_1.length c0_1], .int .i64 a1, .int .i64 x15_1] rfl (by (try simp only [List.map_toArray, List.map_cons, List.map_nil]); first | done | rfl | (simp only [List.length_drop, List.length_take]; rfl)) ?_; (with_reducible refine (spec_l1Ends.calls a0_0 _ _ l0_1 a1 x15_1 t650 t651 _ ?side1 ?side2 A10.out).mono ?_); (case side1 => exact Kd.C_kept_now HR0_1.out (by repeat (first | (with_reducible first | exact HK.out | apply Kept.alloc | apply Kept.drewN | apply Kept.drew | refine Kept.setCell ?_ (.inr GW649.out) _) | exact HK.out))); (case side2 => exact HC0_1.out); rintro e w36 ⟨rfl, hb⟩; refine ⟨_, rfl, ?_⟩; have n0_ := aK (Kd.R_below (viaR HO_6.out) hb); have n1_ := aK (blk_below (g := gb649) (o := .cells #[.int .i64 a0_0, .slice A0_1 l0_1.length c0_1] 25 (0, 0)) (viaB BK649.out) hb); have n2_ := aK (Kept.below (S := (fun k_ => P6_ k_)) (by repeat (first | (with_reducible first | exact HK.out | apply Kept.alloc | apply Kept.drewN | apply Kept.drew | refine Kept.setCell ?_ (.inr GW649.out) _) | exact HK.out)) hb); have n3_ := aK (below_step (viaX HB.out GE649.out) hb); clear HO_6; clear BK649; clear HK; clear HB; have HO_6 := n0_; have BK649 := n1_; have HK := n2_; have HB := n3_; clear n0_ n1_ n2_ n3_; (try clear hb); (try clear hb2); (try clear hk); (try clear hi); obtain ⟨Ao37, co37, eo37⟩ := Kd.R_slice HO_6.out; subst eo37) | ((with_reducible refine gate_callee (f := 102) rfl ?_); refine goesL_ (some 45) rfl rfl Try.func102 (by kernel_rfl) rfl #[.slice Ao37 x6_1.length co37, .int .i64 (Go.bits .xor .i64 a1 (Go.bits .or .i64 a5 (ji14)))] rfl (by (try simp only [List.map_toArray, List.map_cons, List.map_nil]); first | done | (simp only [hji14]; rfl) | rfl | (simp only [List.length_drop, List.length_take]; rfl)) ?_; (with_reducible refine (spec_l5Put.calls k1 (fun k_ => some k_ = (.slice Ao37 x6_1.length co37 : Value).ownBlock) (.slice Ao37 x6_1.length co37) x6_1 (Go.bits .xor .i64 a1 (Go.bits .or .i64 a5 (ji14))) t652 w0 _ ?side1 ?side2 A15.out).mono ?_); (case side1 => repeat (first | (with_reducible first | exact HB.out | apply below_alloc | apply pw_below_drewN | apply below_drew1 | refine below_set ?_ GE649.out) | exact HB.out)); (case side2 => exact Kd.R_tight rfl HO_6.out); rintro e w38 ⟨v653, rfl, ho0, hb, hkp⟩; refine ⟨_, rfl, ?_⟩; have n0_ := aK (blk_kept (viaB BK649.out) hkp (fun hs_ => (fun e_ => (Kd.R_ne HO_6.out BK649.out (by decide)) e_) hs_)); have n1_ := aK (Kd.R_mono (ok' := fun k_ => (P6_ k_ ∨ w.heap.size ≤ k_)) ho0 (fun k_ hk_ => Or.elim hk_ (fun hs_ => (HO_6.out.1 k_ (hs_).symm)) (fun hn_ => (.inr (Nat.le_trans (by first | exact HK.out.1 | exact (show Kept w _ (fun k_ => P6_ k_) from by repeat (first | (with_reducible first | exact HK.out | apply Kept.alloc | apply Kept.drewN | apply Kept.drew | refine Kept.setCell ?_ (.inr GW649.out) _) | exact HK.out)).1) hn_))))); have n2_ := aK (Kept.then_ (S := (fun k_ => P6_ k_)) (by repeat (first | (with_reducible first | exact HK.out | apply Kept.alloc | apply Kept.drewN | apply Kept.drew | refine Kept.setCell ?_ (.inr GW649.out) _) | exact HK.out)) hkp (fun k_ hs_ => (fun e_ => (HO_6.out.1 k_ e_.symm)) hs_)); have n3_ := aK (hb); clear BK649; clear HK; clear HB; clear HO_6; have BK649 := n0_; have HO654 := n1_; have HK := n2_; have HB := n3_; clear n0_ n1_ n2_ n3_; (try clear hb); (try clear hkp); (try clear ho0)))
        go_roundg k1
        case measure => have := HK1.out; omega
        case rel => exact ⟨(t652), (wrap64 (x15_1 + 1)), (by first | rfl | (simp; done) | (simp [*]; done)), H', ⟨by have := HK1.out; omega⟩, ⟨viaR HO654.out⟩, ⟨viaB BK649.out⟩, ⟨by repeat (first | (with_reducible first | exact HK.out | apply Kept.alloc | apply Kept.drewN | apply Kept.drew | refine Kept.setCell ?_ (.inr GW649.out) _) | exact HK.out)⟩, ⟨viaX HB.out GE649.out⟩⟩
      ·rw [if_neg c13] at H
       exact absurd H (by simp)
     ·rw [if_neg c12] at H
      have c12b0 : (t651 == a2) = false := beq_eq_false_iff_ne.mpr c12; have c12b1 : (t651 != a2) = true := bne_iff_ne.mpr c12
      by_cases c39 : t651 > a2
      ·rw [if_pos c39] at H
       have c39b0 : decide (a2 < t651) = true := decide_eq_true c39; clear c39
       by_cases c40 : 0 ≤ t651
       ·rw [if_pos c40] at H
        have c40b0 := eq_true c40; have c40b1 : decide (0 ≤ t651) = true := decide_eq_true c40; clear c40; obtain ⟨ji41, hji41⟩ : ∃ j_ : Int, (shr .i64 a4 t651) = j_ := ⟨_, rfl⟩; replace H : (if (Go.bits .and .i64 (ji41) 1) = 0 then (if 0 ≤ x15_1 then ((spec_l5Walk.f k1 a0_0 l0_1 a1 a2 t651 (Go.bits .or .i64 a4 (shl .i64 1 t651)) (Go.bits .or .i64 a5 (shl .i64 1 x15_1)) x6_1).bind fun t658 => (spec_l5Walk.l0 k1 a1 a2 a3 a4 a5 t658 (wrap64 (x15_1 + 1)) a0_0 l0_1)) else (none)) else (spec_l5Walk.l0 k1 a1 a2 a3 a4 a5 x6_1 (wrap64 (x15_1 + 1)) a0_0 l0_1)) = some r := by first | (rw [hji41] at H; exact H) | (simp only [hji41] at H ⊢; exact H)
        (try rw [hji41] at A10)
        have hji41_ : (a4 / 2 ^ min t651.toNat 64) = ji41 := hji41; have hji41z : t651 ≤ 64 → (a4 / 2 ^ t651.toNat) = ji41 := shr_small hji41
        by_cases c42 : (Go.bits .and .i64 (ji41) 1) = 0
        ·rw [if_pos c42] at H
         have c42b0 : ((Go.bits .and .i64 (ji41) 1) == 0) = true := beq_iff_eq.mpr c42; have c42b1 : ((Go.bits .and .i64 (ji41) 1) != 0) = false := bne_eq_false_iff_eq.mpr c42; clear c42; have c43b0 := eq_true (of_decide_eq_true (by first | (with_reducible assumption) | assumption) : 0 ≤ t651); obtain ⟨ji44, hji44⟩ : ∃ j_ : Int, (shl .i64 1 t651) = j_ := ⟨_, rfl⟩; replace H : (if 0 ≤ x15_1 then ((spec_l5Walk.f k1 a0_0 l0_1 a1 a2 t651 (Go.bits .or .i64 a4 (ji44)) (Go.bits .or .i64 a5 (shl .i64 1 x15_1)) x6_1).bind fun t658 => (spec_l5Walk.l0 k1 a1 a2 a3 a4 a5 t658 (wrap64 (x15_1 + 1)) a0_0 l0_1)) else (none)) = some r := by first | (rw [hji44] at H; exact H) | (simp only [hji44] at H ⊢; exact H)
         (try rw [hji44] at A10)
         have hji44_ : (IntKind.i64.wrap (1 * 2 ^ min t651.toNat 64)) = ji44 := hji44; have hji44z : t651 ≤ 64 → (IntKind.i64.wrap (1 * 2 ^ t651.toNat)) = ji44 := shl_small hji44; have hji44u : (IntKind.i64.wrap (2 ^ min t651.toNat 64)) = ji44 := by have h_ := hji44_; rw [Int.one_mul] at h_; exact h_
         have hji44v : t651 ≤ 64 → (IntKind.i64.wrap (2 ^ t651.toNat)) = ji44 := fun hle_ => by have h_ := hji44z hle_; rw [Int.one_mul] at h_; exact h_
         have hji44y : (wrap64 (1 * 2 ^ min t651.toNat 64)) = ji44 := (i64_w _).symm.trans hji44_; have hji44x : t651 ≤ 64 → (wrap64 (1 * 2 ^ t651.toNat)) = ji44 := fun h_ => (i64_w _).symm.trans (hji44z h_)
         by_cases c45 : 0 ≤ x15_1
         ·rw [if_pos c45] at H
          have c45b0 := eq_true c45; have c45b1 : decide (0 ≤ x15_1) = true := decide_eq_true c45; clear c45; obtain ⟨ji46, hji46⟩ : ∃ j_ : Int, (shl .i64 1 x15_1) = j_ := ⟨_, rfl⟩; replace H : ((spec_l5Walk.f k1 a0_0 l0_1 a1 a2 t651 (Go.bits .or .i64 a4 (ji44)) (Go.bits .or .i64 a5 (ji46)) x6_1).bind fun t658 => (spec_l5Walk.l0 k1 a1 a2 a3 a4 a5 t658 (wrap64 (x15_1 + 1)) a0_0 l0_1)) = some r := by first | (rw [hji46] at H; exact H) | (simp only [hji46] at H ⊢; exact H)
          (try rw [hji46] at A10)
          have hji46_ : (IntKind.i64.wrap (1 * 2 ^ min x15_1.toNat 64)) = ji46 := hji46; have hji46z : x15_1 ≤ 64 → (IntKind.i64.wrap (1 * 2 ^ x15_1.toNat)) = ji46 := shl_small hji46; have hji46u : (IntKind.i64.wrap (2 ^ min x15_1.toNat 64)) = ji46 := by have h_ := hji46_; rw [Int.one_mul] at h_; exact h_
          have hji46v : x15_1 ≤ 64 → (IntKind.i64.wrap (2 ^ x15_1.toNat)) = ji46 := fun hle_ => by have h_ := hji46z hle_; rw [Int.one_mul] at h_; exact h_
          have hji46y : (wrap64 (1 * 2 ^ min x15_1.toNat 64)) = ji46 := (i64_w _).symm.trans hji46_; have hji46x : x15_1 ≤ 64 → (wrap64 (1 * 2 ^ x15_1.toNat)) = ji46 := fun h_ => (i64_w _).symm.trans (hji46z h_); replace H := Option.bind_eq_some_iff.mp H; obtain ⟨t658, A470, H⟩ := H; replace H : (spec_l5Walk.l0 k1 a1 a2 a3 a4 a5 t658 (wrap64 (x15_1 + 1)) a0_0 l0_1) = some r := H; have A47 := aK A470; clear A470; have H' := aK H; clear H; have hcz48_0 : wr.cell? ⟨gb649, 0, none⟩ = some (.int .i64 a0_0) := (blk_cell BK649.out 0).trans rfl; have hcz48_1 : wr.cell? ⟨gb649, 1, none⟩ = some (.slice A0_1 l0_1.length c0_1) := (blk_cell BK649.out 1).trans rfl; have hfz48_0 := blk_frozen BK649.out 0; have hfz48_1 := blk_frozen BK649.out 1
          try go_wp2_with (first | ((with_reducible refine gate_callee (f := 101) rfl ?_); refine goesL_ (some 29) rfl rfl Try.func101 (by kernel_rfl) rfl #[.agg #[.int .i64 a0_0, .slice A0_1 l0_1.length c0_1], .int .i64 a1, .int .i64 x15_1] rfl (by (try simp only [List.map_toArray, List.map_cons, List.map_nil]); first | done | rfl | (simp only [List.length_drop, List.length_take]; rfl)) ?_; (with_reducible refine (spec_l1Ends.calls a0_0 _ _ l0_1 a1 x15_1 t650 t651 _ ?side1 ?side2 A10.out).mono ?_); (case side1 => exact Kd.C_kept_now HR0_1.out (by repeat (first | (with_reducible first | exact HK.out | apply Kept.alloc | apply Kept.drewN | apply Kept.drew | refine Kept.setCell ?_ (.inr GW649.out) _) | exact HK.out))); (case side2 => exact HC0_1.out); rintro e w49 ⟨rfl, hb⟩; refine ⟨_, rfl, ?_⟩; have n0_ := aK (Kd.R_below (viaR HO_6.out) hb); have n1_ := aK (blk_below (g := gb649) (o := .cells #[.int .i64 a0_0, .slice A0_1 l0_1.length c0_1] 25 (0, 0)) (viaB BK649.out) hb); have n2_ := aK (Kept.below (S := (fun k_ => P6_ k_)) (by repeat (first | (with_reducible first | exact HK.out | apply Kept.alloc | apply Kept.drewN | apply Kept.drew | refine Kept.setCell ?_ (.inr GW649.out) _) | exact HK.out)) hb); have n3_ := aK (below_step (viaX HB.out GE649.out) hb); clear HO_6; clear BK649; clear HK; clear HB; have HO_6 := n0_; have BK649 := n1_; have HK := n2_; have HB := n3_; clear n0_ n1_ n2_ n3_; (try clear hb); (try clear hb2); (try clear hk); (try clear hi)))
          have n0_ := aK (Kd.R_drew HO_6.out); have n1_ := aK (blk_drew BK649.out); have n2_ := aK (Kept.drew HK.out); have n3_ := aK (below_drew1 HB.out); clear HO_6; clear BK649; clear HK; clear HB; have HO_6 := n0_; have BK649 := n1_; have HK := n2_; have HB := n3_; clear n0_ n1_ n2_ n3_; obtain ⟨Ao51, co51, eo51⟩ := Kd.R_slice HO_6.out
          (first | subst eo51 | (injection eo51 with f1_ f2_ f3_; have f4_ := f1_.symm; have f5_ := f3_.symm; clear f1_ f2_ f3_; subst f4_; subst f5_))
          refine start_ (n := 15) (S := fun w' => w'.cell? ⟨gb649, 0, none⟩ = some (.int .i64 a0_0) ∧ w'.cell? ⟨gb649, 1, none⟩ = some (.slice A0_1 l0_1.length c0_1)) (ds := []) #[false, false, false, false, false, false, false, false, false, false, false, false, false, false, false] (by kernel_rfl) rfl rfl ⟨(blk_cell BK649.out 0).trans rfl, (blk_cell BK649.out 1).trans rfl⟩ (fun hHeld => ?_); refine with_tabW spec_l5Walk.tab9 spec_l5Walk.bits9 (fun HT_ HW_ => ?_)
          generalize w49.drew = w50 at HO_6 BK649 HK HB hHeld ⊢
          refine pure_ (i := 1) (N := some 57) (v := ?_) (a' := ?_) #[false, true, false, false, false, false, false, false, false, false, false, false, false, false, false] rfl rfl (any_of HT_.out (by kernel_rfl)) (fun _ _ _ h => h) (Or.inl ⟨by rfl, ?_⟩) ?_ ?_
          rotate_left
          ·intro w'
           go_simp
           with_reducible rfl
          rotate_left
          ·simp only [Act.put, lA, lB, lC, i64_w, i32_w]
           rfl
          refine pure_ (i := 2) (N := some 58) (v := ?_) (a' := ?_) #[false, true, true, false, false, false, false, false, false, false, false, false, false, false, false] rfl rfl (any_of HT_.out (by kernel_rfl)) (fun _ _ _ h => h) (Or.inl ⟨by rfl, ?_⟩) ?_ ?_
          rotate_left
          ·intro w'
           go_simp
           with_reducible rfl
          rotate_left
          ·simp only [Act.put, lA, lB, lC, i64_w, i32_w]
           rfl
          refine pure_ (i := 3) (N := some 59) (v := ?_) (a' := ?_) #[false, true, true, true, false, false, false, false, false, false, false, false, false, false, false] rfl rfl (any_of HT_.out (by kernel_rfl)) (fun _ _ _ h => h) (Or.inl ⟨by rfl, ?_⟩) ?_ ?_
          rotate_left
          ·intro w'
           go_simp
           with_reducible rfl
          rotate_left
          ·simp only [Act.put, lA, lB, lC, i64_w, i32_w]
           rfl
          refine pure_ (i := 4) (N := some 60) (v := ?_) (a' := ?_) #[false, true, true, true, true, false, false, false, false, false, false, false, false, false, false] rfl rfl (any_of HT_.out (by kernel_rfl)) (fun _ _ _ h => h) (Or.inl ⟨by rfl, ?_⟩) ?_ ?_
          rotate_left
          ·intro w'
           go_simp
           with_reducible rfl
          rotate_left
          ·simp only [Act.put, lA, lB, lC, i64_w, i32_w]
           rfl
          refine pure_ (i := 5) (N := some 61) (v := ?_) (a' := ?_) #[false, true, true, true, true, true, false, false, false, false, false, false, false, false, false] rfl rfl (any_of HT_.out (by kernel_rfl)) (fun _ _ _ h => h) (Or.inl ⟨by rfl, ?_⟩) ?_ ?_
          rotate_left
          ·intro w'
           go_simp
           with_reducible rfl
          rotate_left
          ·simp only [Act.put, lA, lB, lC, i64_w, i32_w]
           rfl
          refine pure_ (i := 6) (N := some 62) (v := ?_) (a' := ?_) #[false, true, true, true, true, true, true, false, false, false, false, false, false, false, false] rfl rfl (any_of HT_.out (by kernel_rfl)) (fun _ _ _ h => h) (Or.inl ⟨by rfl, ?_⟩) ?_ ?_
          rotate_left
          ·intro w'
           go_simp
           with_reducible rfl
          rotate_left
          ·simp only [Act.put, lA, lB, lC, i64_w, i32_w]
           rfl
          refine pure_ (i := 7) (N := some 63) (v := ?_) (a' := ?_) #[false, true, true, true, true, true, true, true, false, false, false, false, false, false, false] rfl rfl (any_of HT_.out (by kernel_rfl)) (fun _ _ _ h => h) (Or.inl ⟨by rfl, ?_⟩) ?_ ?_
          rotate_left
          ·intro w'
           go_simp
           with_reducible rfl
          rotate_left
          ·simp only [Act.put, lA, lB, lC, i64_w, i32_w]
           rfl
          refine pure_ (i := 8) (N := some 64) (v := ?_) (a' := ?_) #[false, true, true, true, true, true, true, true, true, false, false, false, false, false, false] rfl rfl (any_of HT_.out (by kernel_rfl)) (fun _ _ _ h => h) (Or.inl ⟨by rfl, ?_⟩) ?_ ?_
          rotate_left
          ·intro w'
           go_simp
           with_reducible rfl
          rotate_left
          ·simp only [Act.put, lA, lB, lC, i64_w, i32_w]
           rfl
          refine pure_ (i := 9) (N := some 65) (v := ?_) (a' := ?_) #[false, true, true, true, true, true, true, true, true, true, false, false, false, false, false] rfl rfl (any_of HT_.out (by kernel_rfl)) (fun _ _ _ h => h) (Or.inl ⟨by rfl, ?_⟩) ?_ ?_
          rotate_left
          ·intro w'
           go_simp
           with_reducible rfl
          rotate_left
          ·simp only [Act.put, lA, lB, lC, i64_w, i32_w]
           rfl
          refine pure_ (i := 10) (N := some 66) (v := ?_) (a' := ?_) #[false, true, true, true, true, true, true, true, true, true, true, false, false, false, false] rfl rfl (any_of HT_.out (by kernel_rfl)) (fun _ _ _ h => h) (Or.inl ⟨by rfl, ?_⟩) ?_ ?_
          rotate_left
          ·intro w'
           go_simp
           with_reducible rfl
          rotate_left
          ·simp only [Act.put, lA, lB, lC, i64_w, i32_w]
           rfl
          refine pure_ (i := 11) (N := some 67) (v := ?_) (a' := ?_) #[false, true, true, true, true, true, true, true, true, true, true, true, false, false, false] rfl rfl (any_of HT_.out (by kernel_rfl)) (fun _ _ _ h => h) (Or.inl ⟨by rfl, ?_⟩) ?_ ?_
          rotate_left
          ·intro w'
           go_simp
           with_reducible rfl
          rotate_left
          ·simp only [Act.put, lA, lB, lC, i64_w, i32_w]
           rfl
          refine pure_ (i := 12) (N := some 68) (v := ?_) (a' := ?_) #[false, true, true, true, true, true, true, true, true, true, true, true, true, false, false] rfl rfl (any_of HT_.out (by kernel_rfl)) (fun _ _ _ h => h) (Or.inl ⟨by rfl, ?_⟩) ?_ ?_
          rotate_left
          ·intro w'
           go_simp
           with_reducible rfl
          rotate_left
          ·simp only [Act.put, lA, lB, lC, i64_w, i32_w]
           rfl
          refine take_ (i := 0) (N := some 56) (v := ?_) (a' := ?_) #[true, true, true, true, true, true, true, true, true, true, true, true, true, false, false] rfl rfl (take_ofW HT_.out HW_.out (by kernel_rfl)) (fun _ _ _ h => h) (Or.inl ⟨by rfl, ?_⟩) hHeld ?_ ?_
          rotate_left
          ·rintro w' ⟨s0, s1⟩
           go_simp
           with_reducible rfl
          rotate_left
          ·simp only [Act.put, lA, lB, lC, i64_w, i32_w]
           rfl
          refine one_ (i := 13) (N := some 69) #[true, true, true, true, true, true, true, true, true, true, true, true, true, true, false] rfl rfl (one_of HT_.out (by kernel_rfl)) (by decide) (fun K hK => ?_)
          refine goes_ Try.func105 (by kernel_rfl) rfl #[.agg #[.int .i64 a0_0, .slice A0_1 l0_1.length c0_1], .int .i64 a1, .int .i64 a2, .int .i64 t651, .int .i64 (Go.bits .or .i64 a4 (ji44)), .int .i64 (Go.bits .or .i64 a5 (ji46)), .slice Ao51 x6_1.length co51] (by rfl) rfl rfl (by (try simp only [List.map_toArray, List.map_cons, List.map_nil]); first | done | (simp only [hji44, hji46]; rfl) | rfl | (simp only [List.length_drop, List.length_take]; rfl)) ?_
          with_reducible refine (ih k1 (by have := HK1.out; omega) a0_0 _ _ l0_1 a1 a2 t651 (Go.bits .or .i64 a4 (ji44)) (Go.bits .or .i64 a5 (ji46)) (fun k_ => some k_ = (.slice Ao51 x6_1.length co51 : Value).ownBlock) (.slice Ao51 x6_1.length co51) x6_1 t658 w0 _ ?side1 ?side2 ?side3 ?side4 A47.out).mono ?_
          (case side1 => repeat (first | (with_reducible first | exact HB.out | apply below_alloc | apply pw_below_drewN | apply below_drew1 | refine below_set ?_ GE649.out) | exact HB.out))
          (case side2 => exact Kd.C_kept_call HR0_1.out (by repeat (first | (with_reducible first | exact HK.out | apply Kept.alloc | apply Kept.drewN | apply Kept.drew | refine Kept.setCell ?_ (.inr GW649.out) _) | exact HK.out)) (fun k_ hs_ => (fun e_ => (HO_6.out.1 k_ e_.symm)) hs_))
          (case side3 => exact HC0_1.out)
          (case side4 => exact Kd.R_tight rfl HO_6.out)
          rintro e w52 ⟨v659, rfl, ho0, hb, hkp⟩
          refine ⟨_, rfl, ?_⟩
          have n0_ := aK (blk_kept (viaB BK649.out) hkp (fun hs_ => (fun e_ => (Kd.R_ne HO_6.out BK649.out (by decide)) e_) hs_)); have n1_ := aK (Kd.R_mono (ok' := fun k_ => (P6_ k_ ∨ w.heap.size ≤ k_)) ho0 (fun k_ hk_ => Or.elim hk_ (fun hs_ => (HO_6.out.1 k_ (hs_).symm)) (fun hn_ => (.inr (Nat.le_trans (by first | exact HK.out.1 | exact (show Kept w _ (fun k_ => P6_ k_) from by repeat (first | (with_reducible first | exact HK.out | apply Kept.alloc | apply Kept.drewN | apply Kept.drew | refine Kept.setCell ?_ (.inr GW649.out) _) | exact HK.out)).1) hn_))))); have n2_ := aK (Kept.then_ (S := (fun k_ => P6_ k_)) (by repeat (first | (with_reducible first | exact HK.out | apply Kept.alloc | apply Kept.drewN | apply Kept.drew | refine Kept.setCell ?_ (.inr GW649.out) _) | exact HK.out)) hkp (fun k_ hs_ => (fun e_ => (HO_6.out.1 k_ e_.symm)) hs_)); have n3_ := aK (hb); clear BK649; clear HK; clear HB; clear HO_6; have BK649 := n0_; have HO660 := n1_; have HK := n2_; have HB := n3_; clear n0_ n1_ n2_ n3_
          (try clear hb)
          (try clear hkp)
          (try clear ho0)
          refine hK.out _ _ ⟨(blk_cell BK649.out 0).trans rfl, (blk_cell BK649.out 1).trans rfl⟩ (fun hHeld => ?_)
          clear hK K
          refine norm_ (a' := ?_) ?_ ?_
          rotate_left
          ·show Act.put _ (some 69) _ = _
           simp only [Act.put, lA, lB, lC, i64_w, i32_w]
           rfl
          refine pure_ (i := 14) (N := some 6) (v := ?_) (a' := ?_) #[true, true, true, true, true, true, true, true, true, true, true, true, true, true, true] rfl rfl (any_of HT_.out (by kernel_rfl)) (fun _ _ _ h => h) (Or.inl ⟨by rfl, ?_⟩) ?_ ?_
          rotate_left
          ·intro w'
           go_simp
           with_reducible rfl
          rotate_left
          ·simp only [Act.put, lA, lB, lC, i64_w, i32_w]
           rfl
          refine done_ (done_of HT_.out (by kernel_rfl)) ?_
          try go_wp2
          go_roundg k1
          case measure => have := HK1.out; omega
          case rel => exact ⟨(t658), (wrap64 (x15_1 + 1)), (by first | rfl | (simp; done) | (simp [*]; done)), H', ⟨by have := HK1.out; omega⟩, ⟨viaR HO660.out⟩, ⟨viaB BK649.out⟩, ⟨by repeat (first | (with_reducible first | exact HK.out | apply Kept.alloc | apply Kept.drewN | apply Kept.drew | refine Kept.setCell ?_ (.inr GW649.out) _) | exact HK.out)⟩, ⟨viaX HB.out GE649.out⟩⟩
         ·rw [if_neg c45] at H
          exact absurd H (by simp)
        ·rw [if_neg c42] at H
         have c42b0 : ((Go.bits .and .i64 (ji41) 1) == 0) = false := beq_eq_false_iff_ne.mpr c42; have c42b1 : ((Go.bits .and .i64 (ji41) 1) != 0) = true := bne_iff_ne.mpr c42; have H' := aK H; clear H; have hcz53_0 : wr.cell? ⟨gb649, 0, none⟩ = some (.int .i64 a0_0) := (blk_cell BK649.out 0).trans rfl; have hcz53_1 : wr.cell? ⟨gb649, 1, none⟩ = some (.slice A0_1 l0_1.length c0_1) := (blk_cell BK649.out 1).trans rfl; have hfz53_0 := blk_frozen BK649.out 0; have hfz53_1 := blk_frozen BK649.out 1
         go_wp2_with (first | ((with_reducible refine gate_callee (f := 101) rfl ?_); refine goesL_ (some 29) rfl rfl Try.func101 (by kernel_rfl) rfl #[.agg #[.int .i64 a0_0, .slice A0_1 l0_1.length c0_1], .int .i64 a1, .int .i64 x15_1] rfl (by (try simp only [List.map_toArray, List.map_cons, List.map_nil]); first | done | rfl | (simp only [List.length_drop, List.length_take]; rfl)) ?_; (with_reducible refine (spec_l1Ends.calls a0_0 _ _ l0_1 a1 x15_1 t650 t651 _ ?side1 ?side2 A10.out).mono ?_); (case side1 => exact Kd.C_kept_now HR0_1.out (by repeat (first | (with_reducible first | exact HK.out | apply Kept.alloc | apply Kept.drewN | apply Kept.drew | refine Kept.setCell ?_ (.inr GW649.out) _) | exact HK.out))); (case side2 => exact HC0_1.out); rintro e w54 ⟨rfl, hb⟩; refine ⟨_, rfl, ?_⟩; have n0_ := aK (Kd.R_below (viaR HO_6.out) hb); have n1_ := aK (blk_below (g := gb649) (o := .cells #[.int .i64 a0_0, .slice A0_1 l0_1.length c0_1] 25 (0, 0)) (viaB BK649.out) hb); have n2_ := aK (Kept.below (S := (fun k_ => P6_ k_)) (by repeat (first | (with_reducible first | exact HK.out | apply Kept.alloc | apply Kept.drewN | apply Kept.drew | refine Kept.setCell ?_ (.inr GW649.out) _) | exact HK.out)) hb); have n3_ := aK (below_step (viaX HB.out GE649.out) hb); clear HO_6; clear BK649; clear HK; clear HB; have HO_6 := n0_; have BK649 := n1_; have HK := n2_; have HB := n3_; clear n0_ n1_ n2_ n3_; (try clear hb); (try clear hb2); (try clear hk); (try clear hi)))
         go_roundg k1
         case measure => have := HK1.out; omega
         case rel => exact ⟨(x6_1), (wrap64 (x15_1 + 1)), (by first | rfl | (simp; done) | (simp [*]; done)), H', ⟨by have := HK1.out; omega⟩, ⟨viaR HO_6.out⟩, ⟨viaB BK649.out⟩, ⟨by repeat (first | (with_reducible first | exact HK.out | apply Kept.alloc | apply Kept.drewN | apply Kept.drew | refine Kept.setCell ?_ (.inr GW649.out) _) | exact HK.out)⟩, ⟨viaX HB.out GE649.out⟩⟩
       ·rw [if_neg c40] at H
        exact absurd H (by simp)
      ·rw [if_neg c39] at H
       have c39b0 : decide (a2 < t651) = false := decide_eq_false c39; clear c39; have H' := aK H; clear H; have hcz55_0 : wr.cell? ⟨gb649, 0, none⟩ = some (.int .i64 a0_0) := (blk_cell BK649.out 0).trans rfl; have hcz55_1 : wr.cell? ⟨gb649, 1, none⟩ = some (.slice A0_1 l0_1.length c0_1) := (blk_cell BK649.out 1).trans rfl; have hfz55_0 := blk_frozen BK649.out 0; have hfz55_1 := blk_frozen BK649.out 1
       go_wp2_with (first | ((with_reducible refine gate_callee (f := 101) rfl ?_); refine goesL_ (some 29) rfl rfl Try.func101 (by kernel_rfl) rfl #[.agg #[.int .i64 a0_0, .slice A0_1 l0_1.length c0_1], .int .i64 a1, .int .i64 x15_1] rfl (by (try simp only [List.map_toArray, List.map_cons, List.map_nil]); first | done | rfl | (simp only [List.length_drop, List.length_take]; rfl)) ?_; (with_reducible refine (spec_l1Ends.calls a0_0 _ _ l0_1 a1 x15_1 t650 t651 _ ?side1 ?side2 A10.out).mono ?_); (case side1 => exact Kd.C_kept_now HR0_1.out (by repeat (first | (with_reducible first | exact HK.out | apply Kept.alloc | apply Kept.drewN | apply Kept.drew | refine Kept.setCell ?_ (.inr GW649.out) _) | exact HK.out))); (case side2 => exact HC0_1.out); rintro e w56 ⟨rfl, hb⟩; refine ⟨_, rfl, ?_⟩; have n0_ := aK (Kd.R_below (viaR HO_6.out) hb); have n1_ := aK (blk_below (g := gb649) (o := .cells #[.int .i64 a0_0, .slice A0_1 l0_1.length c0_1] 25 (0, 0)) (viaB BK649.out) hb); have n2_ := aK (Kept.below (S := (fun k_ => P6_ k_)) (by repeat (first | (with_reducible first | exact HK.out | apply Kept.alloc | apply Kept.drewN | apply Kept.drew | refine Kept.setCell ?_ (.inr GW649.out) _) | exact HK.out)) hb); have n3_ := aK (below_step (viaX HB.out GE649.out) hb); clear HO_6; clear BK649; clear HK; clear HB; have HO_6 := n0_; have BK649 := n1_; have HK := n2_; have HB := n3_; clear n0_ n1_ n2_ n3_; (try clear hb); (try clear hb2); (try clear hk); (try clear hi)))
       go_roundg k1
       case measure => have := HK1.out; omega
       case rel => exact ⟨(x6_1), (wrap64 (x15_1 + 1)), (by first | rfl | (simp; done) | (simp [*]; done)), H', ⟨by have := HK1.out; omega⟩, ⟨viaR HO_6.out⟩, ⟨viaB BK649.out⟩, ⟨by repeat (first | (with_reducible first | exact HK.out | apply Kept.alloc | apply Kept.drewN | apply Kept.drew | refine Kept.setCell ?_ (.inr GW649.out) _) | exact HK.out)⟩, ⟨viaX HB.out GE649.out⟩⟩
    ·rw [if_neg c11] at H
     have c11b0 : (t650 == a3) = false := beq_eq_false_iff_ne.mpr c11; have c11b1 : (t650 != a3) = true := bne_iff_ne.mpr c11; have H' := aK H; clear H; have hcz57_0 : wr.cell? ⟨gb649, 0, none⟩ = some (.int .i64 a0_0) := (blk_cell BK649.out 0).trans rfl; have hcz57_1 : wr.cell? ⟨gb649, 1, none⟩ = some (.slice A0_1 l0_1.length c0_1) := (blk_cell BK649.out 1).trans rfl; have hfz57_0 := blk_frozen BK649.out 0; have hfz57_1 := blk_frozen BK649.out 1
     go_wp2_with (first | ((with_reducible refine gate_callee (f := 101) rfl ?_); refine goesL_ (some 29) rfl rfl Try.func101 (by kernel_rfl) rfl #[.agg #[.int .i64 a0_0, .slice A0_1 l0_1.length c0_1], .int .i64 a1, .int .i64 x15_1] rfl (by (try simp only [List.map_toArray, List.map_cons, List.map_nil]); first | done | rfl | (simp only [List.length_drop, List.length_take]; rfl)) ?_; (with_reducible refine (spec_l1Ends.calls a0_0 _ _ l0_1 a1 x15_1 t650 t651 _ ?side1 ?side2 A10.out).mono ?_); (case side1 => exact Kd.C_kept_now HR0_1.out (by repeat (first | (with_reducible first | exact HK.out | apply Kept.alloc | apply Kept.drewN | apply Kept.drew | refine Kept.setCell ?_ (.inr GW649.out) _) | exact HK.out))); (case side2 => exact HC0_1.out); rintro e w58 ⟨rfl, hb⟩; refine ⟨_, rfl, ?_⟩; have n0_ := aK (Kd.R_below (viaR HO_6.out) hb); have n1_ := aK (blk_below (g := gb649) (o := .cells #[.int .i64 a0_0, .slice A0_1 l0_1.length c0_1] 25 (0, 0)) (viaB BK649.out) hb); have n2_ := aK (Kept.below (S := (fun k_ => P6_ k_)) (by repeat (first | (with_reducible first | exact HK.out | apply Kept.alloc | apply Kept.drewN | apply Kept.drew | refine Kept.setCell ?_ (.inr GW649.out) _) | exact HK.out)) hb); have n3_ := aK (below_step (viaX HB.out GE649.out) hb); clear HO_6; clear BK649; clear HK; clear HB; have HO_6 := n0_; have BK649 := n1_; have HK := n2_; have HB := n3_; clear n0_ n1_ n2_ n3_; (try clear hb); (try clear hb2); (try clear hk); (try clear hi)))
     go_roundg k1
     case measure => have := HK1.out; omega
     case rel => exact ⟨(x6_1), (wrap64 (x15_1 + 1)), (by first | rfl | (simp; done) | (simp [*]; done)), H', ⟨by have := HK1.out; omega⟩, ⟨viaR HO_6.out⟩, ⟨viaB BK649.out⟩, ⟨by repeat (first | (with_reducible first | exact HK.out | apply Kept.alloc | apply Kept.drewN | apply Kept.drew | refine Kept.setCell ?_ (.inr GW649.out) _) | exact HK.out)⟩, ⟨viaX HB.out GE649.out⟩⟩
   ·rw [if_neg c9] at H
    have c9b0 : decide (x15_1 < (l0_1.length : Int)) = false := decide_eq_false c9; clear c9; obtain rfl := Option.some.inj H; have hcz59_0 : wr.cell? ⟨gb649, 0, none⟩ = some (.int .i64 a0_0) := (blk_cell BK649.out 0).trans rfl; have hcz59_1 : wr.cell? ⟨gb649, 1, none⟩ = some (.slice A0_1 l0_1.length c0_1) := (blk_cell BK649.out 1).trans rfl; have hfz59_0 := blk_frozen BK649.out 0; have hfz59_1 := blk_frozen BK649.out 1
    go_wp2
    go_ret
    exact ⟨_, by first | rfl | (simp [errW_none, errW_some] <;> rfl) | (simp [*, errW_none, errW_some] <;> rfl), viaR HO_6.out, viaX HB.out GE649.out, by repeat (first | (with_reducible first | exact HK.out | apply Kept.alloc | apply Kept.drewN | apply Kept.drew | refine Kept.setCell ?_ (.inr GW649.out) _) | exact HK.out)⟩
def spec_l5Rounds.l0 : Nat → Int → List Int → Int → Int → List (S69) → Option (List Int)
 | 0, _, _, _, _, _ => none
 | k + 1, x1, x5, x6, x662000, x662001 => if x6 < x662000 then (if 0 ≤ x6 then ((spec_l5Walk.f k x662000 x662001 x1 x6 x6 (shl .i64 1 x6) 0 x5).bind fun t665 => (spec_l5Rounds.l0 k x1 t665 (wrap64 (x6 + 1)) x662000 x662001)) else (none)) else (some x5)
def spec_l5Rounds.f (k : Nat) (a0_0 : Int) (l0_1 : List (S69)) (a1 : Int) : Option (List Int) := spec_l5Rounds.l0 k a1 (([] : List Int)) 0 a0_0 l0_1
def spec_l5Rounds.T5 : Bool × List (List Nat × List Nat) := (true, [([], []), ([], []), ([], []), ([], []), ([], []), ([4], [4]), ([], []), ([0, 1, 2, 3, 5, 6], [0, 1, 2, 3, 5, 6]), ([7, 7, 0, 1, 2, 3, 4, 5, 6, 7], [6, 7])])
def spec_l5Rounds.B5 : List Nat := [0, 0, 0, 0, 0, 16, 0, 127, 255]
theorem spec_l5Rounds.tab5 : rtab .any (opsOf Try.f68 5) = spec_l5Rounds.T5 := by kernel_rfl
theorem spec_l5Rounds.bits5 : waitsOk spec_l5Rounds.T5.2 spec_l5Rounds.B5 = true := by kernel_rfl
set_option maxHeartbeats 8000000 in
set_option maxRecDepth 100000 in
theorem spec_l5Rounds.calls (k : Nat) (a0_0 : Int) (A0_1 : Option Addr) (c0_1 : Nat) (l0_1 : List (S69)) (a1 : Int) (r : List Int) (w : World) (hr0_1 : Kd.C k69 w A0_1 l0_1.length l0_1) (hc0_1 : l0_1.length ≤ c0_1) (h : spec_l5Rounds.f k a0_0 l0_1 a1 = some r) :
  Calls Try.prog 68 #[.agg #[.int .i64 a0_0, .slice A0_1 l0_1.length c0_1], .int .i64 a1] w fun e w' => ∃ v0_ : Value, e = .returned (v0_) ∧ Kd.R (Kd.int .i64) 3 w' w.heap.size (fun _ => True) v0_ r ∧ Below w.heap.size w w' := by
 have hu25 := Try.underlying25; have HR0_1 := aK hr0_1; have HC0_1 := aK hc0_1; clear hr0_1 hc0_1; have HB := aK (Below.refl w.heap.size w); have H : (spec_l5Rounds.l0 k a1 (([] : List Int)) 0 a0_0 l0_1) = some r := h; clear h; obtain ⟨y662, hy662⟩ : ∃ y_ : List Int, y_ = (([] : List Int)) := ⟨_, rfl⟩; replace H : (spec_l5Rounds.l0 k a1 y662 0 a0_0 l0_1) = some r := by first | (rw [hy662]; with_reducible exact H) | (have H2_ := (Option.bind_some _ _).symm.trans H; rw [hy662]; with_reducible exact H2_) | (have H2_ := (Option.bind_some _ _).symm.trans H; with_reducible exact H2_) | with_reducible exact H | (rw [hy662]; exact H) | exact H
 have Ny662 := aK hy662; clear hy662; have H' := aK H; clear H
 go_enter Try.func68, Try.ntmps68
 go_wp2_with (first | ((with_reducible refine gate_dst (N := 2) rfl ?_); refine box_event ?hg (N := 2) ?hd (cs := #[.int .i64 a0_0, .slice A0_1 l0_1.length c0_1]) (t := 25) ?hr ?_; (case hd => rfl); (case hg => rfl); (case hr => first | (go_simp; done) | (go_simp; rfl)); intro gb661 hg w3 hbox hb; have n0_ := aK (below_step (viaW HB.out) hb); have n1_ := aK (hbox); have n2_ := aK ((by rw [hg]; exact (below_size (viaW HB.out)) : w.heap.size ≤ gb661)); have n3_ := aK ((by rw [hg]; exact (below_size (viaW HB.out)) : w.heap.size ≤ gb661)); clear HB; have HB := n0_; have BK661 := n1_; have GW661 := n2_; have GE661 := n3_; clear n0_ n1_ n2_ n3_; clear hb hbox hg) | ((with_reducible refine gate_dst (N := 7) rfl ?_); refine Kd.R_lit (Kd.int .i64) _ 3 ?hg (N := 7) ?hd (xs := ([] : List Int)) (inner := []) (ok := fun _ => True) (okp := fun _ => True) ?hr ?hp (fun _ hk => hk) trivial (Below.refl _ _) (Nat.le_refl _) (by simp) ?_; (case hd => rfl); (case hg => rfl); (case hr => first | (go_simp; done) | (go_simp; rfl)); (case hp => exact (Reps.none _ _)); intro v663 w4 ho5 hb hg_ hnew_; clear hg_ hnew_; (first | rw [← Ny662.out] at ho5 | (simp only [Int.reduceToNat] at ho5; rw [← Ny662.out] at ho5)); have n0_ := aK (Kd.R_lower ho5 (below_size (viaX HB.out GE661.out))); have n1_ := aK (blk_below (g := gb661) (o := .cells #[.int .i64 a0_0, .slice A0_1 l0_1.length c0_1] 25 (0, 0)) (viaB BK661.out) hb); have n2_ := aK (below_step (viaX HB.out GE661.out) hb); clear BK661; clear HB; have HO664 := n0_; have BK661 := n1_; have HB := n2_; clear n0_ n1_ n2_; clear hb ho5))
 go_loopg [5, 6] k (fun kq v5 v6 w' => ∃ (x5_1 : List Int) (x6_1 : Int), v6 = .int .i64 x6_1 ∧ Aside0 (spec_l5Rounds.l0 kq a1 x5_1 x6_1 a0_0 l0_1 = some r) ∧ Aside0 (kq ≤ k) ∧ Aside0 (Kd.R (Kd.int .i64) 3 w' w.heap.size (fun _ => True) v5 x5_1) ∧ Aside0 (w'.heap[gb661]? = some (.cells #[.int .i64 a0_0, (.slice A0_1 l0_1.length c0_1)] 25 (0, 0))) ∧ Aside0 (Below w.heap.size w w'))
 case atStart => exact ⟨(y662), (0), (by first | rfl | (simp; done) | (simp [*]; done)), H', ⟨Nat.le_refl _⟩, ⟨viaR HO664.out⟩, ⟨viaB BK661.out⟩, ⟨viaX HB.out GE661.out⟩⟩
 case round =>
  clear H'
  try clear p2
  obtain ⟨x5_1, x6_1, rfl, HA, HK1, HO_5, BK661, HB⟩ := hrel
  cases gk with
  | zero => exact absurd HA.out (by simp [spec_l5Rounds.l0])
  | succ k1 =>
   have H := HA.out; clear HA
   simp only [spec_l5Rounds.l0] at H
   by_cases c6 : x6_1 < a0_0
   ·rw [if_pos c6] at H
    have c6b0 : decide (x6_1 < a0_0) = true := decide_eq_true c6; clear c6
    by_cases c7 : 0 ≤ x6_1
    ·rw [if_pos c7] at H
     have c7b0 := eq_true c7; have c7b1 : decide (0 ≤ x6_1) = true := decide_eq_true c7; clear c7; obtain ⟨ji8, hji8⟩ : ∃ j_ : Int, (shl .i64 1 x6_1) = j_ := ⟨_, rfl⟩; replace H : ((spec_l5Walk.f k1 a0_0 l0_1 a1 x6_1 x6_1 (ji8) 0 x5_1).bind fun t665 => (spec_l5Rounds.l0 k1 a1 t665 (wrap64 (x6_1 + 1)) a0_0 l0_1)) = some r := by first | (rw [hji8] at H; exact H) | (simp only [hji8] at H ⊢; exact H)
     have hji8_ : (IntKind.i64.wrap (1 * 2 ^ min x6_1.toNat 64)) = ji8 := hji8; have hji8z : x6_1 ≤ 64 → (IntKind.i64.wrap (1 * 2 ^ x6_1.toNat)) = ji8 := shl_small hji8; have hji8u : (IntKind.i64.wrap (2 ^ min x6_1.toNat 64)) = ji8 := by have h_ := hji8_; rw [Int.one_mul] at h_; exact h_
     have hji8v : x6_1 ≤ 64 → (IntKind.i64.wrap (2 ^ x6_1.toNat)) = ji8 := fun hle_ => by have h_ := hji8z hle_; rw [Int.one_mul] at h_; exact h_
     have hji8y : (wrap64 (1 * 2 ^ min x6_1.toNat 64)) = ji8 := (i64_w _).symm.trans hji8_; have hji8x : x6_1 ≤ 64 → (wrap64 (1 * 2 ^ x6_1.toNat)) = ji8 := fun h_ => (i64_w _).symm.trans (hji8z h_); replace H := Option.bind_eq_some_iff.mp H; obtain ⟨t665, A90, H⟩ := H; replace H : (spec_l5Rounds.l0 k1 a1 t665 (wrap64 (x6_1 + 1)) a0_0 l0_1) = some r := H; have A9 := aK A90; clear A90; have H' := aK H; clear H; have hcz10_0 : wr.cell? ⟨gb661, 0, none⟩ = some (.int .i64 a0_0) := (blk_cell BK661.out 0).trans rfl; have hcz10_1 : wr.cell? ⟨gb661, 1, none⟩ = some (.slice A0_1 l0_1.length c0_1) := (blk_cell BK661.out 1).trans rfl; have hfz10_0 := blk_frozen BK661.out 0; have hfz10_1 := blk_frozen BK661.out 1
     try go_wp2
     have n0_ := aK (Kd.R_drew HO_5.out); have n1_ := aK (blk_drew BK661.out); have n2_ := aK (below_drew1 HB.out); clear HO_5; clear BK661; clear HB; have HO_5 := n0_; have BK661 := n1_; have HB := n2_; clear n0_ n1_ n2_; obtain ⟨Ao12, co12, eo12⟩ := Kd.R_slice HO_5.out
     (first | subst eo12 | (injection eo12 with f1_ f2_ f3_; have f4_ := f1_.symm; have f5_ := f3_.symm; clear f1_ f2_ f3_; subst f4_; subst f5_))
     refine start_ (n := 9) (S := fun w' => w'.cell? ⟨gb661, 0, none⟩ = some (.int .i64 a0_0) ∧ w'.cell? ⟨gb661, 1, none⟩ = some (.slice A0_1 l0_1.length c0_1)) (ds := []) #[false, false, false, false, false, false, false, false, false] (by kernel_rfl) rfl rfl ⟨(blk_cell BK661.out 0).trans rfl, (blk_cell BK661.out 1).trans rfl⟩ (fun hHeld => ?_); refine with_tabW spec_l5Rounds.tab5 spec_l5Rounds.bits5 (fun HT_ HW_ => ?_)
     generalize wr.drew = w11 at HO_5 BK661 HB hHeld ⊢
     refine pure_ (i := 1) (N := some 15) (v := ?_) (a' := ?_) #[false, true, false, false, false, false, false, false, false] rfl rfl (any_of HT_.out (by kernel_rfl)) (fun _ _ _ h => h) (Or.inl ⟨by rfl, ?_⟩) ?_ ?_
     rotate_left
     ·intro w'
      go_simp
      with_reducible rfl
     rotate_left
     ·simp only [Act.put, lA, lB, lC, i64_w, i32_w]
      rfl
     refine pure_ (i := 2) (N := some 16) (v := ?_) (a' := ?_) #[false, true, true, false, false, false, false, false, false] rfl rfl (any_of HT_.out (by kernel_rfl)) (fun _ _ _ h => h) (Or.inl ⟨by rfl, ?_⟩) ?_ ?_
     rotate_left
     ·intro w'
      go_simp
      with_reducible rfl
     rotate_left
     ·simp only [Act.put, lA, lB, lC, i64_w, i32_w]
      rfl
     refine pure_ (i := 3) (N := some 17) (v := ?_) (a' := ?_) #[false, true, true, true, false, false, false, false, false] rfl rfl (any_of HT_.out (by kernel_rfl)) (fun _ _ _ h => h) (Or.inl ⟨by rfl, ?_⟩) ?_ ?_
     rotate_left
     ·intro w'
      go_simp
      with_reducible rfl
     rotate_left
     ·simp only [Act.put, lA, lB, lC, i64_w, i32_w]
      rfl
     refine pure_ (i := 4) (N := some 18) (v := ?_) (a' := ?_) #[false, true, true, true, true, false, false, false, false] rfl rfl (any_of HT_.out (by kernel_rfl)) (fun _ _ _ h => h) (Or.inl ⟨by rfl, ?_⟩) ?_ ?_
     rotate_left
     ·intro w'
      go_simp
      with_reducible rfl
     rotate_left
     ·simp only [Act.put, lA, lB, lC, i64_w, i32_w]
      rfl
     refine pure_ (i := 5) (N := some 19) (v := ?_) (a' := ?_) #[false, true, true, true, true, true, false, false, false] rfl rfl (any_of HT_.out (by kernel_rfl)) (fun _ _ _ h => h) (Or.inl ⟨by rfl, ?_⟩) ?_ ?_
     rotate_left
     ·intro w'
      go_simp
      with_reducible rfl
     rotate_left
     ·simp only [Act.put, lA, lB, lC, i64_w, i32_w]
      rfl
     refine pure_ (i := 6) (N := some 20) (v := ?_) (a' := ?_) #[false, true, true, true, true, true, true, false, false] rfl rfl (any_of HT_.out (by kernel_rfl)) (fun _ _ _ h => h) (Or.inl ⟨by rfl, ?_⟩) ?_ ?_
     rotate_left
     ·intro w'
      go_simp
      with_reducible rfl
     rotate_left
     ·simp only [Act.put, lA, lB, lC, i64_w, i32_w]
      rfl
     refine take_ (i := 0) (N := some 14) (v := ?_) (a' := ?_) #[true, true, true, true, true, true, true, false, false] rfl rfl (take_ofW HT_.out HW_.out (by kernel_rfl)) (fun _ _ _ h => h) (Or.inl ⟨by rfl, ?_⟩) hHeld ?_ ?_
     rotate_left
     ·rintro w' ⟨s0, s1⟩
      go_simp
      with_reducible rfl
     rotate_left
     ·simp only [Act.put, lA, lB, lC, i64_w, i32_w]
      rfl
     refine one_ (i := 7) (N := some 21) #[true, true, true, true, true, true, true, true, false] rfl rfl (one_of HT_.out (by kernel_rfl)) (by decide) (fun K hK => ?_)
     refine goes_ Try.func105 (by kernel_rfl) rfl #[.agg #[.int .i64 a0_0, .slice A0_1 l0_1.length c0_1], .int .i64 a1, .int .i64 x6_1, .int .i64 x6_1, .int .i64 ji8, .int .i64 0, .slice Ao12 x5_1.length co12] (by rfl) rfl rfl (by (try simp only [List.map_toArray, List.map_cons, List.map_nil]); first | done | (simp only [hji8]; rfl) | rfl | (simp only [List.length_drop, List.length_take]; rfl)) ?_
     with_reducible refine (spec_l5Walk.calls k1 a0_0 _ _ l0_1 a1 x6_1 x6_1 ji8 0 (fun k_ => some k_ = (.slice Ao12 x5_1.length co12 : Value).ownBlock) (.slice Ao12 x5_1.length co12) x5_1 t665 w _ ?side1 ?side2 ?side3 ?side4 A9.out).mono ?_
     (case side1 => repeat (first | (with_reducible first | exact HB.out | apply below_alloc | apply pw_below_drewN | apply below_drew1 | refine below_set ?_ GE661.out) | exact HB.out))
     (case side2 => exact Kd.C_kept_came k69_heap HR0_1.out (viaX HB.out GE661.out) (fun k_ hs_ => (fun e_ => Kd.R_base HO_5.out k_ e_.symm) hs_))
     (case side3 => exact HC0_1.out)
     (case side4 => exact Kd.R_tight rfl HO_5.out)
     rintro e w13 ⟨v666, rfl, ho0, hb, hkp⟩
     refine ⟨_, rfl, ?_⟩
     have n0_ := aK (blk_kept (viaB BK661.out) hkp (fun hs_ => (fun e_ => (Kd.R_ne HO_5.out BK661.out (by decide)) e_) hs_)); have n1_ := aK (Kd.R_mono (ok' := fun k_ => True) ho0 (fun k_ hk_ => trivial)); have n2_ := aK (hb); clear BK661; clear HB; clear HO_5; have BK661 := n0_; have HO667 := n1_; have HB := n2_; clear n0_ n1_ n2_
     (try clear hb)
     (try clear hkp)
     (try clear ho0)
     refine hK.out _ _ ⟨(blk_cell BK661.out 0).trans rfl, (blk_cell BK661.out 1).trans rfl⟩ (fun hHeld => ?_)
     clear hK K
     refine norm_ (a' := ?_) ?_ ?_
     rotate_left
     ·show Act.put _ (some 21) _ = _
      simp only [Act.put, lA, lB, lC, i64_w, i32_w]
      rfl
     refine pure_ (i := 8) (N := some 5) (v := ?_) (a' := ?_) #[true, true, true, true, true, true, true, true, true] rfl rfl (any_of HT_.out (by kernel_rfl)) (fun _ _ _ h => h) (Or.inl ⟨by rfl, ?_⟩) ?_ ?_
     rotate_left
     ·intro w'
      go_simp
      with_reducible rfl
     rotate_left
     ·simp only [Act.put, lA, lB, lC, i64_w, i32_w]
      rfl
     refine done_ (done_of HT_.out (by kernel_rfl)) ?_
     try go_wp2
     go_roundg k1
     case measure => have := HK1.out; omega
     case rel => exact ⟨(t665), (wrap64 (x6_1 + 1)), (by first | rfl | (simp; done) | (simp [*]; done)), H', ⟨by have := HK1.out; omega⟩, ⟨viaR HO667.out⟩, ⟨viaB BK661.out⟩, ⟨viaX HB.out GE661.out⟩⟩
    ·rw [if_neg c7] at H
     exact absurd H (by simp)
   ·rw [if_neg c6] at H
    have c6b0 : decide (x6_1 < a0_0) = false := decide_eq_false c6; clear c6; obtain rfl := Option.some.inj H; have hcz14_0 : wr.cell? ⟨gb661, 0, none⟩ = some (.int .i64 a0_0) := (blk_cell BK661.out 0).trans rfl; have hcz14_1 : wr.cell? ⟨gb661, 1, none⟩ = some (.slice A0_1 l0_1.length c0_1) := (blk_cell BK661.out 1).trans rfl; have hfz14_0 := blk_frozen BK661.out 0; have hfz14_1 := blk_frozen BK661.out 1
    go_wp2
    go_ret
    exact ⟨_, by first | rfl | (simp [errW_none, errW_some] <;> rfl) | (simp [*, errW_none, errW_some] <;> rfl), viaR HO_5.out, viaX HB.out GE661.out⟩
end Go.Proofs.Ythoaebnnolbaaaa.G
