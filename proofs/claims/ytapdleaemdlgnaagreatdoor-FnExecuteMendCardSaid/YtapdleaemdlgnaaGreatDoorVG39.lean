/- For each Go function named below: a plain Lean function of the same name, and the proof that a call of the Go function returns just what the plain function tells, where it tells something. Written by a program of this session with the printer of the kit. -/
import Derived.Test.YtapdleaemdlgnaaGreatDoorVG0
import Derived.Test.YtapdleaemdlgnaaGreatDoorVG4
import Derived.Test.YtapdleaemdlgnaaGreatDoorVG5
import Derived.Test.YtapdleaemdlgnaaGreatDoorVG7
import Derived.Test.YtapdleaemdlgnaaGreatDoorVG13
import Derived.Test.YtapdleaemdlgnaaGreatDoorVG9
namespace Go.Proofs.YtapdleaemdlgnaaGreatDoor.G
open Go.RowKit Go.Proofs.YtapdleaemdlgnaaGreatDoorW.PrintWords Go.Proofs.YtapdleaemdlgnaaGreatDoorW.PrintLast Go.Proofs.YtapdleaemdlgnaaGreatDoorW.PrintMore
attribute [local go_sem] max2_int min2_int max_two min_two max_three min_three max_four min_four   -- for this text's walks alone
set_option linter.unusedVariables false
set_option linter.unusedSimpArgs false

/-! ### impl_numbersOf: function 53 -/
mutual
def impl_numbersOf.l0 : Nat → List Int → List ByteArray → Int → Int → Option (List Int × Bool)
 | 0, _, _, _, _ => none
 | k + 1, x4, x11, x12, x13 => if x13 < x12 then (if 0 ≤ x13 then (if x13 < (x11.length : Int) then (if ((rdOf ByteArray.empty x11 x13).size : Int) < 1 then (impl_numbersOf.j1 k x4 (rdOf ByteArray.empty x11 x13) x11 x12 x13 true) else (impl_numbersOf.j1 k x4 (rdOf ByteArray.empty x11 x13) x11 x12 x13 (decide (((rdOf ByteArray.empty x11 x13).size : Int) > 4)))) else (none)) else (none)) else (some (x4, true))
def impl_numbersOf.j1 : Nat → List Int → ByteArray → List ByteArray → Int → Int → Bool → Option (List Int × Bool)
 | 0, _, _, _, _, _, _ => none
 | k + 1, x4, x6, x11, x12, x13, x24 => if x24 = true then (some (([] : List Int), false)) else (impl_numbersOf.l1 k x4 x6 0 0 x11 x12 x13)
def impl_numbersOf.l1 : Nat → List Int → ByteArray → Int → Int → List ByteArray → Int → Int → Option (List Int × Bool)
 | 0, _, _, _, _, _, _, _ => none
 | k + 1, x4, x6, x7, x8, x11, x12, x13 => if x8 < (x6.size : Int) then (if 0 ≤ x8 then (if (bt x6 x8) < 48 then (some (([] : List Int), false)) else (if (bt x6 x8) > 57 then (some (([] : List Int), false)) else (impl_numbersOf.l1 k x4 x6 (wrap64 ((wrap64 (x7 * 10)) + (((bt x6 x8) - 48) % 256))) (wrap64 (x8 + 1)) x11 x12 x13))) else (none)) else (if x4.length < 17592186044416 then (impl_numbersOf.l0 k (x4 ++ [x7]) x11 x12 (wrap64 (x13 + 1))) else (none))
end
def impl_numbersOf.f (k : Nat) (a0 : ByteArray) : Option (List Int × Bool) := (strings_Split.f a0 (⟨#[32]⟩ : ByteArray)).bind fun t573 => (impl_numbersOf.l0 k (([] : List Int)) t573 (t573.length : Int) 0)
set_option maxHeartbeats 8000000 in
set_option maxRecDepth 100000 in
theorem impl_numbersOf.calls (k : Nat) (a0 : ByteArray) (r1 : List Int) (r2 : Bool) (w : World) (h : impl_numbersOf.f k a0 = some (r1, r2)) :
  Calls Tryz.prog 53 #[.string a0] w fun e w' => ∃ v0_ : Value, e = .returned (.tuple #[v0_, .bool r2]) ∧ Kd.R (Kd.int .i64) 3 w' w.heap.size (fun _ => True) v0_ r1 ∧ Below w.heap.size w w' := by
 have HB := Aside0.mk (Below.refl w.heap.size w); have H : ((strings_Split.f a0 (⟨#[32]⟩ : ByteArray)).bind fun t573 => (impl_numbersOf.l0 k (([] : List Int)) t573 (t573.length : Int) 0)) = some (r1, r2) := h; clear h; obtain ⟨y570, hy570⟩ : ∃ y_ : List Int, y_ = (([] : List Int)) := ⟨_, rfl⟩; replace H : ((strings_Split.f a0 (⟨#[32]⟩ : ByteArray)).bind fun t573 => (impl_numbersOf.l0 k y570 t573 (t573.length : Int) 0)) = some (r1, r2) := by first | (rw [hy570]; with_reducible exact H) | (have H2_ := (Option.bind_some _ _).symm.trans H; rw [hy570]; with_reducible exact H2_) | (have H2_ := (Option.bind_some _ _).symm.trans H; with_reducible exact H2_) | with_reducible exact H | (rw [hy570]; exact H) | exact H
 have Ny570 := Aside0.mk hy570; clear hy570; replace H := Option.bind_eq_some_iff.mp H; obtain ⟨t573, A20, H⟩ := H; replace H : (impl_numbersOf.l0 k y570 t573 (t573.length : Int) 0) = some (r1, r2) := H; have A2 := Aside0.mk A20; clear A20; have H' := Aside0.mk H; clear H
 go_enter Tryz.func53, Tryz.ntmps53
 go_wp2_with (first | ((with_reducible refine gate_dst (N := 9) rfl ?_); (try (refine gate_guard (by rfl) ?_; dsimp only)); refine Kd.R_lit (Kd.int .i64) _ 3 ?hg (N := 9) ?hd (xs := ([] : List Int)) (inner := []) (ok := fun _ => True) (okp := fun _ => True) ?hr ?hp (fun _ hk => hk) trivial (Below.refl _ _) (Nat.le_refl _) (by simp) ?_; (case hd => rfl); (case hg => rfl); (case hr => first | (go_simp; done) | (go_simp; rfl)); (case hp => exact (Reps.none _ _)); intro v571 w3 ho4 hb hg_ hnew_; clear hg_ hnew_; (first | rw [← Ny570.out] at ho4 | (simp only [Int.reduceToNat] at ho4; rw [← Ny570.out] at ho4)); have n0_ := Aside0.mk (Kd.R_lower ho4 (below_size (viaW HB.out))); have n1_ := Aside0.mk (below_step (viaW HB.out) hb); clear HB; have HO572 := n0_; have HB := n1_; clear n0_ n1_; clear hb ho4) | ((with_reducible refine gate_callee (f := 26) rfl ?_); refine goesL_ (some 11) rfl rfl Tryz.func26 (by kernel_rfl) rfl #[.string a0, .string (⟨#[32]⟩ : ByteArray)] rfl (by (try simp only [List.map_toArray, List.map_cons, List.map_nil]); first | done | rfl | (simp only [List.length_drop, List.length_take]; rfl)) ?_; (with_reducible refine (strings_Split.calls a0 (⟨#[32]⟩ : ByteArray) t573 _ A2.out).mono ?_); rintro e w5 ⟨v574, rfl, ho0, hb⟩; refine ⟨_, rfl, ?_⟩; have n0_ := Aside0.mk (Kd.R_below (viaR HO572.out) hb); have n1_ := Aside0.mk (Kd.R_lower ho0 (below_size (viaW HB.out))); have n2_ := Aside0.mk (below_step (viaW HB.out) hb); clear HO572; clear HB; have HO572 := n0_; have HO575 := n1_; have HB := n2_; clear n0_ n1_ n2_; (try clear hb); (try clear hb2); (try clear hk); (try clear hi); (try clear ho0); obtain ⟨Ao6, co6, eo6⟩ := Kd.R_slice HO575.out; subst eo6))
 go_loopg [4, 13] k (fun kq v4 v13 w' => ∃ (x4_1 : List Int) (x13_1 : Int), v13 = .int .i64 x13_1 ∧ Aside0 (impl_numbersOf.l0 kq x4_1 t573 (t573.length : Int) x13_1 = some (r1, r2)) ∧ Aside0 (kq ≤ k) ∧ Aside0 (Kd.R (Kd.int .i64) 3 w' w.heap.size (fun _ => True) v4 x4_1) ∧ Aside0 (Kd.R Kd.string 9 w' w.heap.size (fun _ => True) (.slice Ao6 t573.length co6) t573) ∧ Aside0 (Below w.heap.size w w'))
 case atStart => exact ⟨(y570), (0), (by first | rfl | (simp; done) | (simp [*]; done)), H', ⟨Nat.le_refl _⟩, ⟨viaR HO572.out⟩, ⟨viaR HO575.out⟩, ⟨viaW HB.out⟩⟩
 case round =>
  clear H'
  try clear c2
  try clear p2
  try clear c5
  obtain ⟨x4_1, x13_1, rfl, HA, HK1, HO_4, HO_11, HB⟩ := hrel
  cases gk with
  | zero => exact absurd HA.out (by simp [impl_numbersOf.l0])
  | succ k1 =>
   have H := HA.out; clear HA
   simp only [impl_numbersOf.l0] at H
   by_cases c7 : x13_1 < (t573.length : Int)
   ·rw [if_pos c7] at H
    have c7b0 : decide (x13_1 < (t573.length : Int)) = true := decide_eq_true c7; clear c7
    by_cases c8 : 0 ≤ x13_1
    ·rw [if_pos c8] at H
     have c8b0 : decide (0 ≤ x13_1) = true := decide_eq_true c8; clear c8
     by_cases c9 : x13_1 < (t573.length : Int)
     ·rw [if_pos c9] at H
      have c9b0 : decide (x13_1 < (t573.length : Int)) = true := decide_eq_true c9; clear c9; have HC10 := Aside0.mk H; clear H; have p576 : 0 ≤ (x13_1 : Int) := of_decide_eq_true (by first | (with_reducible assumption) | assumption); have q576 : x13_1 < (t573.length : Int) := of_decide_eq_true (by first | (with_reducible assumption) | assumption); obtain ⟨ad576, e576, hx576_0⟩ := Kd.at_string (Kd.R_reads' HO_11.out).2.2 x13_1 p576 q576
      cases e576
      replace p576 := eq_true p576; replace q576 := eq_true q576
      go_upto_region 5 with (fail)
      go_cut [24] (fun v24 wc => ∃ (kq : Nat) (x24_9 : Bool), v24 = .bool x24_9 ∧ Aside0 (impl_numbersOf.j1 kq x4_1 (rdOf ByteArray.empty t573 x13_1) t573 (t573.length : Int) x13_1 x24_9 = some (r1, r2)) ∧ Aside0 (kq ≤ k1) ∧ Aside0 (Kd.R (Kd.int .i64) 3 wc w.heap.size (fun _ => True) u4 x4_1) ∧ Aside0 (Kd.R Kd.string 9 wc w.heap.size (fun _ => True) (.slice (some ad576) t573.length co6) t573) ∧ Aside0 (Below w.heap.size w wc))
      case first =>
       have H := HC10.out; clear HC10
       by_cases c11 : ((rdOf ByteArray.empty t573 x13_1).size : Int) < 1
       ·rw [if_pos c11] at H
        have c11b0 : decide (((rdOf ByteArray.empty t573 x13_1).size : Int) < 1) = true := decide_eq_true c11; have c11b1 : decide ((rdOf ByteArray.empty t573 x13_1).size < 1) = true := decide_eq_true (by omega); clear c11
        (first | rw [c11b0] | (simp only [i64_w, i32_w]; rw [c11b0]) | skip)
        have H' := Aside0.mk H; clear H
        go_wp2
        go_meet
        case rel => exact ⟨_, (true), (by first | rfl | (simp; done) | (simp [*]; done)), H', ⟨by have := HK1.out; first | omega | exact Nat.le_refl _⟩, ⟨viaR HO_4.out⟩, ⟨viaR HO_11.out⟩, ⟨viaW HB.out⟩⟩
       ·rw [if_neg c11] at H
        have c11b0 : decide (((rdOf ByteArray.empty t573 x13_1).size : Int) < 1) = false := decide_eq_false c11; have c11b1 : decide ((rdOf ByteArray.empty t573 x13_1).size < 1) = false := decide_eq_false (by omega); clear c11
        (first | rw [c11b0] | (simp only [i64_w, i32_w]; rw [c11b0]) | skip)
        have H' := Aside0.mk H; clear H
        go_wp2
        go_meet
        case rel => exact ⟨_, (decide (((rdOf ByteArray.empty t573 x13_1).size : Int) > 4)), (by first | rfl | (simp; done) | (simp [*]; done)), H', ⟨by have := HK1.out; first | omega | exact Nat.le_refl _⟩, ⟨viaR HO_4.out⟩, ⟨viaR HO_11.out⟩, ⟨viaW HB.out⟩⟩
      case rest =>
       clear HC10
       try clear c1
       try clear c2
       try clear p2
       try clear c5
       try clear p5
       try clear q5
       try clear hx5
       try clear c7
       try clear c7b0
       try clear c8
       try clear c8b0
       try clear c9
       try clear c9b0
       try clear c11
       try clear c11b0
       try clear c11b1
       try clear hx576_0
       try clear p2
       try clear p576
       try clear q576
       obtain ⟨kq, x24_9, rfl, HA, HJ9, HO_4, HO_11, HB⟩ := hcut
       cases kq with
       | zero => exact absurd HA.out (by simp [impl_numbersOf.j1])
       | succ kj9 =>
        have H := HA.out; clear HA
        simp only [impl_numbersOf.j1] at H
        by_cases c12 : x24_9 = true
        ·subst c12
         have H1 : (some (([] : List Int), false)) = some (r1, r2) := by rw [if_pos rfl] at H; exact H
         clear H; have H := H1; clear H1
         simp only [Option.some.injEq, Prod.mk.injEq] at H
         obtain ⟨rfl, rfl⟩ := H
         go_wp2
         go_ret2
         exact ⟨_, by first | rfl | (simp [errW_none, errW_some] <;> rfl) | (simp [*, errW_none, errW_some] <;> rfl), by first | exact Kd.R_nil _ _ _ _ _ | exact Kd.N_nil _ _ _ _ _ | exact Kd.V_nil _ _ _ _ _ | exact Kd.Q_nil _ _ _ _ _ | exact Kd.S_nil _ _ _ _ _, viaW HB.out⟩
        ·replace c12 := Bool.eq_false_iff.mpr c12
         subst c12; have H1 : (impl_numbersOf.l1 kj9 x4_1 (rdOf ByteArray.empty t573 x13_1) 0 0 t573 (t573.length : Int) x13_1) = some (r1, r2) := by rw [if_neg (show ¬ (false = true) by decide)] at H; exact H
         clear H; have H := H1; clear H1; have H' := Aside0.mk H; clear H
         go_wp2
         go_loopg [7, 8] kj9 (fun kq v7 v8 w' => ∃ (x7_3 : Int) (x8_3 : Int), v7 = .int .i64 x7_3 ∧ v8 = .int .i64 x8_3 ∧ Aside0 (impl_numbersOf.l1 kq x4_1 (rdOf ByteArray.empty t573 x13_1) x7_3 x8_3 t573 (t573.length : Int) x13_1 = some (r1, r2)) ∧ Aside0 (kq ≤ kj9) ∧ Aside0 (Kd.R (Kd.int .i64) 3 w' w.heap.size (fun _ => True) u4 x4_1) ∧ Aside0 (Kd.R Kd.string 9 w' w.heap.size (fun _ => True) (.slice (some ad576) t573.length co6) t573) ∧ Aside0 (Below w.heap.size w w'))
         case atStart => exact ⟨(0), (0), (by first | rfl | (simp; done) | (simp [*]; done)), (by first | rfl | (simp; done) | (simp [*]; done)), H', ⟨Nat.le_refl _⟩, ⟨viaR HO_4.out⟩, ⟨viaR HO_11.out⟩, ⟨viaW HB.out⟩⟩
         case round =>
          clear H'
          try clear c1
          try clear c2
          try clear p2
          try clear c5
          try clear p5
          try clear q5
          try clear hx5
          try clear c7
          try clear c7b0
          try clear c8
          try clear c8b0
          try clear c9
          try clear c9b0
          try clear c11
          try clear c11b0
          try clear c11b1
          try clear c12
          try clear hx576_0
          try clear p2
          try clear p5
          try clear p576
          try clear q5
          try clear q576
          obtain ⟨x7_3, x8_3, rfl, rfl, HA, HK3, HO_4, HO_11, HB⟩ := hrel
          cases gk with
          | zero => exact absurd HA.out (by simp [impl_numbersOf.l1])
          | succ k3 =>
           have H := HA.out; clear HA
           simp only [impl_numbersOf.l1] at H
           by_cases c13 : x8_3 < ((rdOf ByteArray.empty t573 x13_1).size : Int)
           ·rw [if_pos c13] at H
            have c13b0 : decide (x8_3 < ((rdOf ByteArray.empty t573 x13_1).size : Int)) = true := decide_eq_true c13; clear c13
            by_cases c14 : 0 ≤ x8_3
            ·rw [if_pos c14] at H
             have c14b0 : decide (0 ≤ x8_3) = true := decide_eq_true c14; clear c14
             by_cases c16 : (bt (rdOf ByteArray.empty t573 x13_1) x8_3) < 48
             ·rw [if_pos c16] at H
              have c16b0 : decide ((bt (rdOf ByteArray.empty t573 x13_1) x8_3) < 48) = true := decide_eq_true c16; clear c16
              simp only [Option.some.injEq, Prod.mk.injEq] at H
              obtain ⟨rfl, rfl⟩ := H; have p15 : 0 ≤ (x8_3 : Int) := of_decide_eq_true (by first | (with_reducible assumption) | assumption); have q15 : x8_3 < ((rdOf ByteArray.empty t573 x13_1).size : Int) := of_decide_eq_true (by first | (with_reducible assumption) | assumption); have hx15 := bt_at (rdOf ByteArray.empty t573 x13_1) x8_3; replace p15 := eq_true p15; replace q15 := eq_true q15
              go_wp2
              go_ret2
              exact ⟨_, by first | rfl | (simp [errW_none, errW_some] <;> rfl) | (simp [*, errW_none, errW_some] <;> rfl), by first | exact Kd.R_nil _ _ _ _ _ | exact Kd.N_nil _ _ _ _ _ | exact Kd.V_nil _ _ _ _ _ | exact Kd.Q_nil _ _ _ _ _ | exact Kd.S_nil _ _ _ _ _, viaW HB.out⟩
             ·rw [if_neg c16] at H
              have c16b0 : decide ((bt (rdOf ByteArray.empty t573 x13_1) x8_3) < 48) = false := decide_eq_false c16; clear c16
              by_cases c18 : (bt (rdOf ByteArray.empty t573 x13_1) x8_3) > 57
              ·rw [if_pos c18] at H
               have c18b0 : decide (57 < (bt (rdOf ByteArray.empty t573 x13_1) x8_3)) = true := decide_eq_true c18; clear c18
               simp only [Option.some.injEq, Prod.mk.injEq] at H
               obtain ⟨rfl, rfl⟩ := H; have p15 : 0 ≤ (x8_3 : Int) := of_decide_eq_true (by first | (with_reducible assumption) | assumption); have q15 : x8_3 < ((rdOf ByteArray.empty t573 x13_1).size : Int) := of_decide_eq_true (by first | (with_reducible assumption) | assumption); have hx15 := bt_at (rdOf ByteArray.empty t573 x13_1) x8_3; replace p15 := eq_true p15; replace q15 := eq_true q15; have p17 : 0 ≤ (x8_3 : Int) := of_decide_eq_true (by first | (with_reducible assumption) | assumption); have q17 : x8_3 < ((rdOf ByteArray.empty t573 x13_1).size : Int) := of_decide_eq_true (by first | (with_reducible assumption) | assumption); have hx17 := bt_at (rdOf ByteArray.empty t573 x13_1) x8_3; replace p17 := eq_true p17; replace q17 := eq_true q17
               go_wp2
               go_ret2
               exact ⟨_, by first | rfl | (simp [errW_none, errW_some] <;> rfl) | (simp [*, errW_none, errW_some] <;> rfl), by first | exact Kd.R_nil _ _ _ _ _ | exact Kd.N_nil _ _ _ _ _ | exact Kd.V_nil _ _ _ _ _ | exact Kd.Q_nil _ _ _ _ _ | exact Kd.S_nil _ _ _ _ _, viaW HB.out⟩
              ·rw [if_neg c18] at H
               have c18b0 : decide (57 < (bt (rdOf ByteArray.empty t573 x13_1) x8_3)) = false := decide_eq_false c18; clear c18; have H' := Aside0.mk H; clear H; have p15 : 0 ≤ (x8_3 : Int) := of_decide_eq_true (by first | (with_reducible assumption) | assumption); have q15 : x8_3 < ((rdOf ByteArray.empty t573 x13_1).size : Int) := of_decide_eq_true (by first | (with_reducible assumption) | assumption); have hx15 := bt_at (rdOf ByteArray.empty t573 x13_1) x8_3; replace p15 := eq_true p15; replace q15 := eq_true q15; have p17 : 0 ≤ (x8_3 : Int) := of_decide_eq_true (by first | (with_reducible assumption) | assumption); have q17 : x8_3 < ((rdOf ByteArray.empty t573 x13_1).size : Int) := of_decide_eq_true (by first | (with_reducible assumption) | assumption); have hx17 := bt_at (rdOf ByteArray.empty t573 x13_1) x8_3; replace p17 := eq_true p17; replace q17 := eq_true q17; have p19 : 0 ≤ (x8_3 : Int) := of_decide_eq_true (by first | (with_reducible assumption) | assumption); have q19 : x8_3 < ((rdOf ByteArray.empty t573 x13_1).size : Int) := of_decide_eq_true (by first | (with_reducible assumption) | assumption); have hx19 := bt_at (rdOf ByteArray.empty t573 x13_1) x8_3; replace p19 := eq_true p19; replace q19 := eq_true q19
               go_wp2
               go_roundg k3
               case measure => have := HK1.out; have := HJ9.out; have := HK3.out; omega
               case rel => exact ⟨(wrap64 ((wrap64 (x7_3 * 10)) + (((bt (rdOf ByteArray.empty t573 x13_1) x8_3) - 48) % 256))), (wrap64 (x8_3 + 1)), (by first | rfl | (simp; done) | (simp [*]; done)), (by first | rfl | (simp; done) | (simp [*]; done)), H', ⟨by have := HK1.out; have := HJ9.out; have := HK3.out; omega⟩, ⟨viaR HO_4.out⟩, ⟨viaR HO_11.out⟩, ⟨viaW HB.out⟩⟩
            ·rw [if_neg c14] at H
             exact absurd H (by simp)
           ·rw [if_neg c13] at H
            have c13b0 : decide (x8_3 < ((rdOf ByteArray.empty t573 x13_1).size : Int)) = false := decide_eq_false c13; clear c13
            by_cases c20 : x4_1.length < 17592186044416
            ·rw [if_pos c20] at H
             have LMc20 := Aside0.mk c20; clear c20; obtain ⟨y577, hy577⟩ : ∃ y_ : List Int, y_ = (x4_1 ++ [x7_3]) := ⟨_, rfl⟩; replace H : (impl_numbersOf.l0 k3 y577 t573 (t573.length : Int) (wrap64 (x13_1 + 1))) = some (r1, r2) := by first | (rw [hy577]; with_reducible exact H) | (have H2_ := (Option.bind_some _ _).symm.trans H; rw [hy577]; with_reducible exact H2_) | (have H2_ := (Option.bind_some _ _).symm.trans H; with_reducible exact H2_) | with_reducible exact H | (rw [hy577]; exact H) | exact H
             have Ny577 := Aside0.mk hy577; clear hy577; have H' := Aside0.mk H; clear H
             go_wp2_with (first | ((with_reducible refine gate_builtin (b := .append) (xs := #[.tmp 49, .tmp 51]) rfl ?_); (try (refine gate_guard (by rfl) ?_; dsimp only)); at_builtin; refine Kd.R_append (Kd.int .i64) (w0 := w) w.heap.size rfl (.tmp 49) (.tmp 51) 75 3 (.int .i64 0) 8 rfl Tryz.underlying75 info3 rfl (by decide) (by omega) u4 x4_1 x7_3 [.int .i64 x7_3] (fun _ => True) (fun _ => False) rfl rfl ?aP (fun _ hk => hk.elim) ?aF ?aO ?aB ?aS ?aL ?_; (case aP => exact rfl); (case aB => exact (viaW HB.out)); (case aF => exact (fun _ _ => trivial)); (case aO => exact (viaR HO_4.out)); (case aS => exact (below_size (viaW HB.out))); (case aL => have := LMc20.out; omega); intro v578 w21 ho hb hg hat; rw [← Ny577.out] at ho; have n0_ := Aside0.mk (Kd.R_over' (viaR HO_11.out) (Kd.R_typed (viaR HO_4.out)) (by decide) hg); have n1_ := Aside0.mk (hb); have n2_ := Aside0.mk (ho); clear HO_11; clear HB; clear HO_4; have HO_11 := n0_; have HB := n1_; have HO579 := n2_; clear n0_ n1_ n2_; clear ho hb hg hat))
             go_roundg k3
             case measure => have := HK1.out; have := HJ9.out; have := HK3.out; omega
             case rel => exact ⟨(y577), (wrap64 (x13_1 + 1)), (by first | rfl | (simp; done) | (simp [*]; done)), H', ⟨by have := HK1.out; have := HJ9.out; have := HK3.out; omega⟩, ⟨viaR HO579.out⟩, ⟨viaR HO_11.out⟩, ⟨viaW HB.out⟩⟩
            ·rw [if_neg c20] at H
             exact absurd H (by simp)
     ·rw [if_neg c9] at H
      exact absurd H (by simp)
    ·rw [if_neg c8] at H
     exact absurd H (by simp)
   ·rw [if_neg c7] at H
    have c7b0 : decide (x13_1 < (t573.length : Int)) = false := decide_eq_false c7; clear c7
    simp only [Option.some.injEq, Prod.mk.injEq] at H
    obtain ⟨rfl, rfl⟩ := H
    go_wp2
    go_ret2
    exact ⟨_, by first | rfl | (simp [errW_none, errW_some] <;> rfl) | (simp [*, errW_none, errW_some] <;> rfl), viaR HO_4.out, viaW HB.out⟩

/-! ### impl_WayFlip: function 55 -/
/-! ### impl_pushed: function 109 -/
/-! ### impl_PlainPush: function 56 -/
/-! ### impl_WayReach: function 57 -/
/-! ### impl_PlainColours: function 58 -/
end Go.Proofs.YtapdleaemdlgnaaGreatDoor.G
