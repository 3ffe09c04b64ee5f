/- For each Go function named below: a plain Lean function of the same name, and the proof that a call of the Go function returns just what the plain function tells, where it tells something. Written by a program of this session with the printer of the kit. -/
import Derived.Test.YtfijegfjpagjoaaG0
import Derived.Test.YtfijegfjpagjoaaG3
import Derived.Test.YtfijegfjpagjoaaG15
import Derived.Test.YtfijegfjpagjoaaG37
import Derived.Test.YtfijegfjpagjoaaG42
import Derived.Test.YtfijegfjpagjoaaG45
import Derived.Test.YtfijegfjpagjoaaG46
namespace Go.Proofs.Ytfijegfjpagjoaa.G
open Go.RowKit Go.Proofs.YtfijegfjpagjoaaW.PrintWords Go.Proofs.YtfijegfjpagjoaaW.PrintLast Go.Proofs.YtfijegfjpagjoaaW.PrintMore
attribute [local go_sem] max2_int min2_int max_two min_two max_three min_three max_four min_four   -- for this text's walks alone
set_option linter.unusedVariables false
set_option linter.unusedSimpArgs false

/-! ### spec_l4Row: function 99 -/
def spec_l4Row.l0 : Nat → Int → List Int → Int → Int → List (S44) → Option (Int)
 | 0, _, _, _, _, _ => none
 | k + 1, x5, x6, x7, x819000, x819001 => if x7 < x819000 then (if 0 ≤ x7 then (if x7 < (x6.length : Int) then (spec_l4Row.l0 k (wrap64 ((wrap64 (16 * x5)) + (rd x6 x7))) x6 (wrap64 (x7 + 1)) x819000 x819001) else (none)) else (none)) else (some x5)
def spec_l4Row.f (k : Nat) (a0_0 : Int) (l0_1 : List (S44)) (a1 : Int) : Option (Int) := (spec_l1Out.f k a0_0 l0_1 a1).bind fun t819 => (spec_l4Row.l0 k 0 t819 0 a0_0 l0_1)
theorem spec_l4Row.mono_l : ∀ k, (∀ y0 y1 y2 y3 y4, LeO (spec_l4Row.l0 k y0 y1 y2 y3 y4) (spec_l4Row.l0 (k + 1) y0 y1 y2 y3 y4))
 | 0 => fun _ _ _ _ _ r h => by simp [spec_l4Row.l0] at h
 | k + 1 => by
  have ih0 := spec_l4Row.mono_l k
  ·intro y0 y1 y2 y3 y4
   unfold spec_l4Row.l0
   repeat' first
   | (with_reducible exact ih0 _ _ _ _ _)
   | (with_reducible exact spec_l1Out.mono _ _ _ _)
   | (with_reducible exact LeO.refl _)
   | (with_reducible exact LeO.none _)
   | (with_reducible refine LeO.ite ?_ ?_)
   | (with_reducible refine LeO.bind ?_ (fun _ => ?_))
   | exact ih0 _ _ _ _ _
   | exact spec_l1Out.mono _ _ _ _
   | exact LeO.none _
   | refine LeO.ite ?_ ?_
   | refine LeO.bind ?_ (fun _ => ?_)
theorem spec_l4Row.mono : ∀ a0 a1 a2 k, LeO (spec_l4Row.f k a0 a1 a2) (spec_l4Row.f (k + 1) a0 a1 a2) := by
 intro a0 a1 a2 k; have ih0 := spec_l4Row.mono_l k
 unfold spec_l4Row.f
 repeat' first
   | (with_reducible exact ih0 _ _ _ _ _)
   | (with_reducible exact spec_l1Out.mono _ _ _ _)
   | (with_reducible exact LeO.refl _)
   | (with_reducible exact LeO.none _)
   | (with_reducible refine LeO.ite ?_ ?_)
   | (with_reducible refine LeO.bind ?_ (fun _ => ?_))
   | exact ih0 _ _ _ _ _
   | exact spec_l1Out.mono _ _ _ _
   | exact LeO.none _
   | refine LeO.ite ?_ ?_
   | refine LeO.bind ?_ (fun _ => ?_)
set_option maxHeartbeats 8000000 in
set_option maxRecDepth 100000 in
theorem spec_l4Row.calls (k : Nat) (a0_0 : Int) (A0_1 : Option Addr) (c0_1 : Nat) (l0_1 : List (S44)) (a1 : Int) (r : Int) (w : World) (hr0_1 : Kd.C k44 w A0_1 l0_1.length l0_1) (hc0_1 : l0_1.length ≤ c0_1) (h : spec_l4Row.f k a0_0 l0_1 a1 = some r) :
  Calls Try.prog 99 #[.agg #[.int .i64 a0_0, .slice A0_1 l0_1.length c0_1], .int .i64 a1] w fun e w' => e = .returned (.int .i64 r) ∧ Below w.heap.size w w' := by
 have hu30 := Try.underlying30; have HR0_1 := Aside0.mk hr0_1; have HC0_1 := Aside0.mk hc0_1; clear hr0_1 hc0_1; have HB := Aside0.mk (Below.refl w.heap.size w); have H : ((spec_l1Out.f k a0_0 l0_1 a1).bind fun t819 => (spec_l4Row.l0 k 0 t819 0 a0_0 l0_1)) = some r := h; clear h; replace H := Option.bind_eq_some_iff.mp H; obtain ⟨t819, A30, H⟩ := H; replace H : (spec_l4Row.l0 k 0 t819 0 a0_0 l0_1) = some r := H; have A3 := Aside0.mk A30; clear A30; have H' := Aside0.mk H; clear H
 go_enter Try.func99, Try.ntmps99
 go_wp2_with (first | ((with_reducible refine gate_dst (N := 2) rfl ?_); refine box_event ?hg (N := 2) ?hd (cs := #[.int .i64 a0_0, .slice A0_1 l0_1.length c0_1]) (t := 30) ?hr ?_; (case hd => rfl); (case hg => rfl); (case hr => first | (go_simp; done) | (go_simp; rfl)); intro gb818 hg w4 hbox hb; have n0_ := Aside0.mk (below_step (viaW HB.out) hb); have n1_ := Aside0.mk (hbox); have n2_ := Aside0.mk ((by rw [hg]; exact (below_size (viaW HB.out)) : w.heap.size ≤ gb818)); have n3_ := Aside0.mk ((by rw [hg]; exact (below_size (viaW HB.out)) : w.heap.size ≤ gb818)); clear HB; have HB := n0_; have BK818 := n1_; have GW818 := n2_; have GE818 := n3_; clear n0_ n1_ n2_ n3_; clear hb hbox hg; have hcz5_0 : w4.cell? ⟨gb818, 0, none⟩ = some (.int .i64 a0_0) := (blk_cell BK818.out 0).trans rfl; have hcz5_1 : w4.cell? ⟨gb818, 1, none⟩ = some (.slice A0_1 l0_1.length c0_1) := (blk_cell BK818.out 1).trans rfl; have hfz5_0 := blk_frozen BK818.out 0; have hfz5_1 := blk_frozen BK818.out 1) | ((with_reducible refine gate_callee (f := 102) rfl ?_); refine goesL_ (some 10) rfl rfl Try.func102 (by kernel_rfl) rfl #[.agg #[.int .i64 a0_0, .slice A0_1 l0_1.length c0_1], .int .i64 a1] rfl (by (try simp only [List.map_toArray, List.map_cons, List.map_nil]); first | done | rfl | (simp only [List.length_drop, List.length_take]; rfl)) ?_; (with_reducible refine (spec_l1Out.calls k a0_0 _ _ l0_1 a1 t819 _ ?side1 ?side2 A3.out).mono ?_); (case side1 => repeat (first | exact (Kd.C_below HR0_1.out HB.out) | (with_reducible refine Kd.C_alloc ?_ _) | (with_reducible refine Kd.C_drewN ?_ _) | (with_reducible refine Kd.C_drew ?_))); (case side2 => exact HC0_1.out); rintro e w6 ⟨v820, rfl, ho0, hb⟩; refine ⟨_, rfl, ?_⟩; have n0_ := Aside0.mk (Kd.R_lower ho0 (below_size (viaX HB.out GE818.out))); have n1_ := Aside0.mk (blk_below (g := gb818) (o := .cells #[.int .i64 a0_0, .slice A0_1 l0_1.length c0_1] 30 (0, 0)) (viaB BK818.out) hb); have n2_ := Aside0.mk (below_step (viaX HB.out GE818.out) hb); clear BK818; clear HB; have HO821 := n0_; have BK818 := n1_; have HB := n2_; clear n0_ n1_ n2_; (try clear hb); (try clear hb2); (try clear hk); (try clear hi); (try clear ho0)))
 go_loopg [5, 7] k (fun kq v5 v7 w' => ∃ (x5_1 : Int) (x7_1 : Int), v5 = .int .i64 x5_1 ∧ v7 = .int .i64 x7_1 ∧ Aside0 (spec_l4Row.l0 kq x5_1 t819 x7_1 a0_0 l0_1 = some r) ∧ Aside0 (kq ≤ k) ∧ Aside0 (Kd.R (Kd.int .i64) 3 w' w.heap.size (fun _ => True) v820 t819) ∧ Aside0 (w'.heap[gb818]? = some (.cells #[.int .i64 a0_0, (.slice A0_1 l0_1.length c0_1)] 30 (0, 0))) ∧ Aside0 (Below w.heap.size w w'))
 case atStart => exact ⟨(0), (0), (by first | rfl | (simp; done) | (simp [*]; done)), (by first | rfl | (simp; done) | (simp [*]; done)), H', ⟨Nat.le_refl _⟩, ⟨viaR HO821.out⟩, ⟨viaB BK818.out⟩, ⟨viaX HB.out GE818.out⟩⟩
 case round =>
  clear H'
  try clear c1
  try clear p2
  try clear hcz5_0
  try clear hcz5_1
  try clear hfz5_0
  try clear hfz5_1
  obtain ⟨x5_1, x7_1, rfl, rfl, HA, HK1, HO_6, BK818, HB⟩ := hrel
  cases gk with
  | zero => exact absurd HA.out (by simp [spec_l4Row.l0])
  | succ k1 =>
   have H := HA.out; clear HA
   simp only [spec_l4Row.l0] at H
   by_cases c7 : x7_1 < a0_0
   ·rw [if_pos c7] at H
    have c7b0 : decide (x7_1 < a0_0) = true := decide_eq_true c7; clear c7
    by_cases c8 : 0 ≤ x7_1
    ·rw [if_pos c8] at H
     have c8b0 : decide (0 ≤ x7_1) = true := decide_eq_true c8; clear c8
     by_cases c9 : x7_1 < (t819.length : Int)
     ·rw [if_pos c9] at H
      have c9b0 : decide (x7_1 < (t819.length : Int)) = true := decide_eq_true c9; clear c9; have H' := Aside0.mk H; clear H; have hcz10_0 : wr.cell? ⟨gb818, 0, none⟩ = some (.int .i64 a0_0) := (blk_cell BK818.out 0).trans rfl; have hcz10_1 : wr.cell? ⟨gb818, 1, none⟩ = some (.slice A0_1 l0_1.length c0_1) := (blk_cell BK818.out 1).trans rfl; have hfz10_0 := blk_frozen BK818.out 0; have hfz10_1 := blk_frozen BK818.out 1; obtain ⟨Ao11, co11, eo11⟩ := Kd.R_slice HO_6.out; subst eo11; have p822 : 0 ≤ (x7_1 : Int) := of_decide_eq_true (by first | (with_reducible assumption) | assumption); have q822 : x7_1 < (t819.length : Int) := of_decide_eq_true (by first | (with_reducible assumption) | assumption); obtain ⟨ad822, e822, hx822_0⟩ := Kd.at_int (Kd.R_reads' HO_6.out).2.2 x7_1 p822 q822
      cases e822
      replace p822 := eq_true p822; replace q822 := eq_true q822
      go_wp2
      go_roundg k1
      case measure => have := HK1.out; omega
      case rel => exact ⟨(wrap64 ((wrap64 (16 * x5_1)) + (rd t819 x7_1))), (wrap64 (x7_1 + 1)), (by first | rfl | (simp; done) | (simp [*]; done)), (by first | rfl | (simp; done) | (simp [*]; done)), H', ⟨by have := HK1.out; omega⟩, ⟨viaR HO_6.out⟩, ⟨viaB BK818.out⟩, ⟨viaX HB.out GE818.out⟩⟩
     ·rw [if_neg c9] at H
      exact absurd H (by simp)
    ·rw [if_neg c8] at H
     exact absurd H (by simp)
   ·rw [if_neg c7] at H
    have c7b0 : decide (x7_1 < a0_0) = false := decide_eq_false c7; clear c7; obtain rfl := Option.some.inj H; have hcz12_0 : wr.cell? ⟨gb818, 0, none⟩ = some (.int .i64 a0_0) := (blk_cell BK818.out 0).trans rfl; have hcz12_1 : wr.cell? ⟨gb818, 1, none⟩ = some (.slice A0_1 l0_1.length c0_1) := (blk_cell BK818.out 1).trans rfl; have hfz12_0 := blk_frozen BK818.out 0; have hfz12_1 := blk_frozen BK818.out 1
    go_wp2
    go_ret
    exact ⟨by first | rfl | (simp [errW_none, errW_some] <;> rfl) | (simp [*, errW_none, errW_some] <;> rfl), viaX HB.out GE818.out⟩

/-! ### spec_ScoreMany: function 52 -/
def spec_ScoreMany.l0 : Nat → Int → Int → Int → Int → List (S44) → Option (Int × Bool)
 | 0, _, _, _, _, _ => none
 | k + 1, x1, x6, x7, x824000, x824001 => (spec_l1All.f x824000 x824001).bind fun t825 => (if x7 ≤ t825 then ((spec_l4Row.f k x824000 x824001 x7).bind fun t826 => ((spec_l4Row.f k x824000 x824001 x1).bind fun t827 => (if t826 = t827 then (spec_ScoreMany.l0 k x1 (wrap64 (x6 + 1)) (wrap64 (x7 + 1)) x824000 x824001) else (spec_ScoreMany.l0 k x1 x6 (wrap64 (x7 + 1)) x824000 x824001)))) else (some (x6, true)))
def spec_ScoreMany.f (k : Nat) (a0_0 : Int) (l0_1 : List (S44)) (a1 : Int) : Option (Int × Bool) := (spec_WayIn.f k a0_0 l0_1 a1).bind fun t824 => (if t824 = true then (spec_ScoreMany.l0 k a1 0 0 a0_0 l0_1) else (some (0, false)))
theorem spec_ScoreMany.mono_l : ∀ k, (∀ y0 y1 y2 y3 y4, LeO (spec_ScoreMany.l0 k y0 y1 y2 y3 y4) (spec_ScoreMany.l0 (k + 1) y0 y1 y2 y3 y4))
 | 0 => fun _ _ _ _ _ r h => by simp [spec_ScoreMany.l0] at h
 | k + 1 => by
  have ih0 := spec_ScoreMany.mono_l k
  ·intro y0 y1 y2 y3 y4
   unfold spec_ScoreMany.l0
   repeat' first
   | (with_reducible exact ih0 _ _ _ _ _)
   | (with_reducible exact spec_WayIn.mono _ _ _ _)
   | (with_reducible exact spec_l4Row.mono _ _ _ _)
   | (with_reducible exact LeO.refl _)
   | (with_reducible exact LeO.none _)
   | (with_reducible refine LeO.ite ?_ ?_)
   | (with_reducible refine LeO.bind ?_ (fun _ => ?_))
   | exact ih0 _ _ _ _ _
   | exact spec_WayIn.mono _ _ _ _
   | exact spec_l4Row.mono _ _ _ _
   | exact LeO.none _
   | refine LeO.ite ?_ ?_
   | refine LeO.bind ?_ (fun _ => ?_)
theorem spec_ScoreMany.mono : ∀ a0 a1 a2 k, LeO (spec_ScoreMany.f k a0 a1 a2) (spec_ScoreMany.f (k + 1) a0 a1 a2) := by
 intro a0 a1 a2 k; have ih0 := spec_ScoreMany.mono_l k
 unfold spec_ScoreMany.f
 repeat' first
   | (with_reducible exact ih0 _ _ _ _ _)
   | (with_reducible exact spec_WayIn.mono _ _ _ _)
   | (with_reducible exact spec_l4Row.mono _ _ _ _)
   | (with_reducible exact LeO.refl _)
   | (with_reducible exact LeO.none _)
   | (with_reducible refine LeO.ite ?_ ?_)
   | (with_reducible refine LeO.bind ?_ (fun _ => ?_))
   | exact ih0 _ _ _ _ _
   | exact spec_WayIn.mono _ _ _ _
   | exact spec_l4Row.mono _ _ _ _
   | exact LeO.none _
   | refine LeO.ite ?_ ?_
   | refine LeO.bind ?_ (fun _ => ?_)
set_option maxHeartbeats 8000000 in
set_option maxRecDepth 100000 in
theorem spec_ScoreMany.calls (k : Nat) (a0_0 : Int) (A0_1 : Option Addr) (c0_1 : Nat) (l0_1 : List (S44)) (a1 : Int) (r1 : Int) (r2 : Bool) (w : World) (hr0_1 : Kd.C k44 w A0_1 l0_1.length l0_1) (hc0_1 : l0_1.length ≤ c0_1) (h : spec_ScoreMany.f k a0_0 l0_1 a1 = some (r1, r2)) :
  Calls Try.prog 52 #[.agg #[.int .i64 a0_0, .slice A0_1 l0_1.length c0_1], .int .i64 a1] w fun e w' => e = .returned (.tuple #[.int .i64 r1, .bool r2]) ∧ Below w.heap.size w w' := by
 have hu30 := Try.underlying30; have HR0_1 := Aside0.mk hr0_1; have HC0_1 := Aside0.mk hc0_1; clear hr0_1 hc0_1; have HB := Aside0.mk (Below.refl w.heap.size w); have H : ((spec_WayIn.f k a0_0 l0_1 a1).bind fun t824 => (if t824 = true then (spec_ScoreMany.l0 k a1 0 0 a0_0 l0_1) else (some (0, false)))) = some (r1, r2) := h; clear h; replace H := Option.bind_eq_some_iff.mp H; obtain ⟨t824, A30, H⟩ := H; replace H : (if t824 = true then (spec_ScoreMany.l0 k a1 0 0 a0_0 l0_1) else (some (0, false))) = some (r1, r2) := H; have A3 := Aside0.mk A30; clear A30
 by_cases c4 : t824 = true
 ·subst c4
  have H1 : (spec_ScoreMany.l0 k a1 0 0 a0_0 l0_1) = some (r1, r2) := by rw [if_pos rfl] at H; exact H
  clear H; have H := H1; clear H1; have H' := Aside0.mk H; clear H
  go_enter Try.func52, Try.ntmps52
  go_wp2_with (first | ((with_reducible refine gate_dst (N := 2) rfl ?_); refine box_event ?hg (N := 2) ?hd (cs := #[.int .i64 a0_0, .slice A0_1 l0_1.length c0_1]) (t := 30) ?hr ?_; (case hd => rfl); (case hg => rfl); (case hr => first | (go_simp; done) | (go_simp; rfl)); intro gb823 hg w5 hbox hb; have n0_ := Aside0.mk (below_step (viaW HB.out) hb); have n1_ := Aside0.mk (hbox); have n2_ := Aside0.mk ((by rw [hg]; exact (below_size (viaW HB.out)) : w.heap.size ≤ gb823)); have n3_ := Aside0.mk ((by rw [hg]; exact (below_size (viaW HB.out)) : w.heap.size ≤ gb823)); clear HB; have HB := n0_; have BK823 := n1_; have GW823 := n2_; have GE823 := n3_; clear n0_ n1_ n2_ n3_; clear hb hbox hg; have hcz6_0 : w5.cell? ⟨gb823, 0, none⟩ = some (.int .i64 a0_0) := (blk_cell BK823.out 0).trans rfl; have hcz6_1 : w5.cell? ⟨gb823, 1, none⟩ = some (.slice A0_1 l0_1.length c0_1) := (blk_cell BK823.out 1).trans rfl; have hfz6_0 := blk_frozen BK823.out 0; have hfz6_1 := blk_frozen BK823.out 1) | ((with_reducible refine gate_callee (f := 65) rfl ?_); refine goesL_ (some 10) rfl rfl Try.func65 (by kernel_rfl) rfl #[.agg #[.int .i64 a0_0, .slice A0_1 l0_1.length c0_1], .int .i64 a1] rfl (by (try simp only [List.map_toArray, List.map_cons, List.map_nil]); first | done | rfl | (simp only [List.length_drop, List.length_take]; rfl)) ?_; (with_reducible refine (spec_WayIn.calls k a0_0 _ _ l0_1 a1 true _ ?side1 ?side2 A3.out).mono ?_); (case side1 => repeat (first | exact (Kd.C_below HR0_1.out HB.out) | (with_reducible refine Kd.C_alloc ?_ _) | (with_reducible refine Kd.C_drewN ?_ _) | (with_reducible refine Kd.C_drew ?_))); (case side2 => exact HC0_1.out); rintro e w7 ⟨rfl, hb⟩; refine ⟨_, rfl, ?_⟩; have n0_ := Aside0.mk (blk_below (g := gb823) (o := .cells #[.int .i64 a0_0, .slice A0_1 l0_1.length c0_1] 30 (0, 0)) (viaB BK823.out) hb); have n1_ := Aside0.mk (below_step (viaX HB.out GE823.out) hb); clear BK823; clear HB; have BK823 := n0_; have HB := n1_; clear n0_ n1_; (try clear hb); (try clear hb2); (try clear hk); (try clear hi)))
  go_loopg [6, 7] k (fun kq v6 v7 w' => ∃ (x6_1 : Int) (x7_1 : Int), v6 = .int .i64 x6_1 ∧ v7 = .int .i64 x7_1 ∧ Aside0 (spec_ScoreMany.l0 kq a1 x6_1 x7_1 a0_0 l0_1 = some (r1, r2)) ∧ Aside0 (kq ≤ k) ∧ Aside0 (w'.heap[gb823]? = some (.cells #[.int .i64 a0_0, (.slice A0_1 l0_1.length c0_1)] 30 (0, 0))) ∧ Aside0 (Below w.heap.size w w'))
  case atStart => exact ⟨(0), (0), (by first | rfl | (simp; done) | (simp [*]; done)), (by first | rfl | (simp; done) | (simp [*]; done)), H', ⟨Nat.le_refl _⟩, ⟨viaB BK823.out⟩, ⟨viaX HB.out GE823.out⟩⟩
  case round =>
   clear H'
   try clear p2
   try clear c4
   try clear c5
   try clear c6
   try clear hcz6_0
   try clear hcz6_1
   try clear hfz6_0
   try clear hfz6_1
   obtain ⟨x6_1, x7_1, rfl, rfl, HA, HK1, BK823, HB⟩ := hrel
   cases gk with
   | zero => exact absurd HA.out (by simp [spec_ScoreMany.l0])
   | succ k1 =>
    have H := HA.out; clear HA
    simp only [spec_ScoreMany.l0] at H
    replace H := Option.bind_eq_some_iff.mp H; obtain ⟨t825, A80, H⟩ := H; replace H : (if x7_1 ≤ t825 then ((spec_l4Row.f k1 a0_0 l0_1 x7_1).bind fun t826 => ((spec_l4Row.f k1 a0_0 l0_1 a1).bind fun t827 => (if t826 = t827 then (spec_ScoreMany.l0 k1 a1 (wrap64 (x6_1 + 1)) (wrap64 (x7_1 + 1)) a0_0 l0_1) else (spec_ScoreMany.l0 k1 a1 x6_1 (wrap64 (x7_1 + 1)) a0_0 l0_1)))) else (some (x6_1, true))) = some (r1, r2) := H; have A8 := Aside0.mk A80; clear A80
    by_cases c9 : x7_1 ≤ t825
    ·rw [if_pos c9] at H
     have c9b0 : decide (x7_1 ≤ t825) = true := decide_eq_true c9; clear c9; replace H := Option.bind_eq_some_iff.mp H; obtain ⟨t826, A100, H⟩ := H; replace H : ((spec_l4Row.f k1 a0_0 l0_1 a1).bind fun t827 => (if t826 = t827 then (spec_ScoreMany.l0 k1 a1 (wrap64 (x6_1 + 1)) (wrap64 (x7_1 + 1)) a0_0 l0_1) else (spec_ScoreMany.l0 k1 a1 x6_1 (wrap64 (x7_1 + 1)) a0_0 l0_1))) = some (r1, r2) := H; have A10 := Aside0.mk A100; clear A100; replace H := Option.bind_eq_some_iff.mp H; obtain ⟨t827, A110, H⟩ := H; replace H : (if t826 = t827 then (spec_ScoreMany.l0 k1 a1 (wrap64 (x6_1 + 1)) (wrap64 (x7_1 + 1)) a0_0 l0_1) else (spec_ScoreMany.l0 k1 a1 x6_1 (wrap64 (x7_1 + 1)) a0_0 l0_1)) = some (r1, r2) := H; have A11 := Aside0.mk A110; clear A110
     by_cases c12 : t826 = t827
     ·rw [if_pos c12] at H
      have c12b0 : (t826 == t827) = true := beq_iff_eq.mpr c12; have c12b1 : (t826 != t827) = false := bne_eq_false_iff_eq.mpr c12; clear c12; have H' := Aside0.mk H; clear H; have hcz13_0 : wr.cell? ⟨gb823, 0, none⟩ = some (.int .i64 a0_0) := (blk_cell BK823.out 0).trans rfl; have hcz13_1 : wr.cell? ⟨gb823, 1, none⟩ = some (.slice A0_1 l0_1.length c0_1) := (blk_cell BK823.out 1).trans rfl; have hfz13_0 := blk_frozen BK823.out 0; have hfz13_1 := blk_frozen BK823.out 1
      try go_wp2_with (first | ((with_reducible refine gate_callee (f := 75) rfl ?_); refine goesL_ (some 14) rfl rfl Try.func75 (by kernel_rfl) rfl #[.agg #[.int .i64 a0_0, .slice A0_1 l0_1.length c0_1]] rfl (by (try simp only [List.map_toArray, List.map_cons, List.map_nil]); first | done | rfl | (simp only [List.length_drop, List.length_take]; rfl)) ?_; (with_reducible refine (spec_l1All.calls a0_0 _ _ l0_1 t825 _ ?side1 ?side2 A8.out).mono ?_); (case side1 => repeat (first | exact (Kd.C_below HR0_1.out HB.out) | (with_reducible refine Kd.C_alloc ?_ _) | (with_reducible refine Kd.C_drewN ?_ _) | (with_reducible refine Kd.C_drew ?_))); (case side2 => exact HC0_1.out); rintro e w14 ⟨rfl, hb⟩; refine ⟨_, rfl, ?_⟩; have n0_ := Aside0.mk (blk_below (g := gb823) (o := .cells #[.int .i64 a0_0, .slice A0_1 l0_1.length c0_1] 30 (0, 0)) (viaB BK823.out) hb); have n1_ := Aside0.mk (below_step (viaX HB.out GE823.out) hb); clear BK823; clear HB; have BK823 := n0_; have HB := n1_; clear n0_ n1_; (try clear hb); (try clear hb2); (try clear hk); (try clear hi)))
      have n0_ := Aside0.mk (blk_drew BK823.out); have n1_ := Aside0.mk (below_drew1 HB.out); clear BK823; clear HB; have BK823 := n0_; have HB := n1_; clear n0_ n1_
      refine start_ (n := 7) (S := fun w' => w'.cell? ⟨gb823, 0, none⟩ = some (.int .i64 a0_0) ∧ w'.cell? ⟨gb823, 1, none⟩ = some (.slice A0_1 l0_1.length c0_1)) (ds := []) #[false, false, false, false, false, false, false] (by kernel_rfl) rfl rfl ⟨(blk_cell BK823.out 0).trans rfl, (blk_cell BK823.out 1).trans rfl⟩ (fun hHeld => ?_)
      generalize w14.drew = w15 at BK823 HB hHeld ⊢
      refine pure_ (i := 1) (N := some 19) (v := ?_) (a' := ?_) #[false, true, false, false, false, false, false] rfl rfl (by kernel_rfl) (fun _ _ _ h => h) (Or.inl ⟨by rfl, ?_⟩) ?_ ?_
      rotate_left
      ·intro w'
       go_simp
       with_reducible rfl
      rotate_left
      ·simp only [Act.put, List.setIfInBounds_toArray, List.set_cons_zero, List.set_cons_succ, i64_w, i32_w]
       rfl
      refine pure_ (i := 4) (N := some 22) (v := ?_) (a' := ?_) #[false, true, false, false, true, false, false] rfl rfl (by kernel_rfl) (fun _ _ _ h => h) (Or.inl ⟨by rfl, ?_⟩) ?_ ?_
      rotate_left
      ·intro w'
       go_simp
       with_reducible rfl
      rotate_left
      ·simp only [Act.put, List.setIfInBounds_toArray, List.set_cons_zero, List.set_cons_succ, i64_w, i32_w]
       rfl
      refine take_ (i := 0) (N := some 18) (v := ?_) (a' := ?_) #[true, true, false, false, true, false, false] rfl rfl (by kernel_rfl) (fun _ _ _ h => h) (Or.inl ⟨by rfl, ?_⟩) hHeld ?_ ?_
      rotate_left
      ·rintro w' ⟨s0, s1⟩
       go_simp
       with_reducible rfl
      rotate_left
      ·simp only [Act.put, List.setIfInBounds_toArray, List.set_cons_zero, List.set_cons_succ, i64_w, i32_w]
       rfl
      refine take_ (i := 3) (N := some 21) (v := ?_) (a' := ?_) #[true, true, false, true, true, false, false] rfl rfl (by kernel_rfl) (fun _ _ _ h => h) (Or.inl ⟨by rfl, ?_⟩) hHeld ?_ ?_
      rotate_left
      ·rintro w' ⟨s0, s1⟩
       go_simp
       with_reducible rfl
      rotate_left
      ·simp only [Act.put, List.setIfInBounds_toArray, List.set_cons_zero, List.set_cons_succ, i64_w, i32_w]
       rfl
      refine one_ (i := 2) (N := some 20) #[true, true, true, true, true, false, false] rfl rfl (by kernel_rfl) (by decide) (fun K hK => ?_)
      refine goes_ Try.func99 (by kernel_rfl) rfl #[.agg #[.int .i64 a0_0, .slice A0_1 l0_1.length c0_1], .int .i64 x7_1] (by rfl) rfl rfl (by (try simp only [List.map_toArray, List.map_cons, List.map_nil]); first | done | rfl | (simp only [List.length_drop, List.length_take]; rfl)) ?_
      with_reducible refine (spec_l4Row.calls k1 a0_0 _ _ l0_1 x7_1 t826 _ ?side1 ?side2 A10.out).mono ?_
      (case side1 => repeat (first | exact (Kd.C_below HR0_1.out HB.out) | (with_reducible refine Kd.C_alloc ?_ _) | (with_reducible refine Kd.C_drewN ?_ _) | (with_reducible refine Kd.C_drew ?_)))
      (case side2 => exact HC0_1.out)
      rintro e w16 ⟨rfl, hb⟩
      refine ⟨_, rfl, ?_⟩
      have n0_ := Aside0.mk (blk_below (g := gb823) (o := .cells #[.int .i64 a0_0, .slice A0_1 l0_1.length c0_1] 30 (0, 0)) (viaB BK823.out) hb); have n1_ := Aside0.mk (below_step (viaX HB.out GE823.out) hb); clear BK823; clear HB; have BK823 := n0_; have HB := n1_; clear n0_ n1_
      (try clear hb)
      (try clear hb2)
      (try clear hk)
      (try clear hi)
      refine hK.out _ _ ⟨(blk_cell BK823.out 0).trans rfl, (blk_cell BK823.out 1).trans rfl⟩ (fun hHeld => ?_)
      clear hK K
      refine norm_ (a' := ?_) ?_ ?_
      rotate_left
      ·show Act.put _ (some 20) _ = _
       simp only [Act.put, List.setIfInBounds_toArray, List.set_cons_zero, List.set_cons_succ, i64_w, i32_w]
       rfl
      refine one_ (i := 5) (N := some 23) #[true, true, true, true, true, true, false] rfl rfl (by kernel_rfl) (by decide) (fun K hK => ?_)
      refine goes_ Try.func99 (by kernel_rfl) rfl #[.agg #[.int .i64 a0_0, .slice A0_1 l0_1.length c0_1], .int .i64 a1] (by rfl) rfl rfl (by (try simp only [List.map_toArray, List.map_cons, List.map_nil]); first | done | rfl | (simp only [List.length_drop, List.length_take]; rfl)) ?_
      with_reducible refine (spec_l4Row.calls k1 a0_0 _ _ l0_1 a1 t827 _ ?side1 ?side2 A11.out).mono ?_
      (case side1 => repeat (first | exact (Kd.C_below HR0_1.out HB.out) | (with_reducible refine Kd.C_alloc ?_ _) | (with_reducible refine Kd.C_drewN ?_ _) | (with_reducible refine Kd.C_drew ?_)))
      (case side2 => exact HC0_1.out)
      rintro e w17 ⟨rfl, hb⟩
      refine ⟨_, rfl, ?_⟩
      have n0_ := Aside0.mk (blk_below (g := gb823) (o := .cells #[.int .i64 a0_0, .slice A0_1 l0_1.length c0_1] 30 (0, 0)) (viaB BK823.out) hb); have n1_ := Aside0.mk (below_step (viaX HB.out GE823.out) hb); clear BK823; clear HB; have BK823 := n0_; have HB := n1_; clear n0_ n1_
      (try clear hb)
      (try clear hb2)
      (try clear hk)
      (try clear hi)
      refine hK.out _ _ ⟨(blk_cell BK823.out 0).trans rfl, (blk_cell BK823.out 1).trans rfl⟩ (fun hHeld => ?_)
      clear hK K
      refine norm_ (a' := ?_) ?_ ?_
      rotate_left
      ·show Act.put _ (some 23) _ = _
       simp only [Act.put, List.setIfInBounds_toArray, List.set_cons_zero, List.set_cons_succ, i64_w, i32_w]
       rfl
      refine pure_ (i := 6) (N := some 24) (v := ?_) (a' := ?_) #[true, true, true, true, true, true, true] rfl rfl (by kernel_rfl) (fun _ _ _ h => h) (Or.inl ⟨by rfl, ?_⟩) ?_ ?_
      rotate_left
      ·intro w'
       go_simp
       with_reducible rfl
      rotate_left
      ·simp only [Act.put, List.setIfInBounds_toArray, List.set_cons_zero, List.set_cons_succ, i64_w, i32_w]
       rfl
      refine done_ (by kernel_rfl) ?_
      try go_wp2
      go_roundg k1
      case measure => have := HK1.out; omega
      case rel => exact ⟨(wrap64 (x6_1 + 1)), (wrap64 (x7_1 + 1)), (by first | rfl | (simp; done) | (simp [*]; done)), (by first | rfl | (simp; done) | (simp [*]; done)), H', ⟨by have := HK1.out; omega⟩, ⟨viaB BK823.out⟩, ⟨viaX HB.out GE823.out⟩⟩
     ·rw [if_neg c12] at H
      have c12b0 : (t826 == t827) = false := beq_eq_false_iff_ne.mpr c12; have c12b1 : (t826 != t827) = true := bne_iff_ne.mpr c12; have H' := Aside0.mk H; clear H; have hcz18_0 : wr.cell? ⟨gb823, 0, none⟩ = some (.int .i64 a0_0) := (blk_cell BK823.out 0).trans rfl; have hcz18_1 : wr.cell? ⟨gb823, 1, none⟩ = some (.slice A0_1 l0_1.length c0_1) := (blk_cell BK823.out 1).trans rfl; have hfz18_0 := blk_frozen BK823.out 0; have hfz18_1 := blk_frozen BK823.out 1
      try go_wp2_with (first | ((with_reducible refine gate_callee (f := 75) rfl ?_); refine goesL_ (some 14) rfl rfl Try.func75 (by kernel_rfl) rfl #[.agg #[.int .i64 a0_0, .slice A0_1 l0_1.length c0_1]] rfl (by (try simp only [List.map_toArray, List.map_cons, List.map_nil]); first | done | rfl | (simp only [List.length_drop, List.length_take]; rfl)) ?_; (with_reducible refine (spec_l1All.calls a0_0 _ _ l0_1 t825 _ ?side1 ?side2 A8.out).mono ?_); (case side1 => repeat (first | exact (Kd.C_below HR0_1.out HB.out) | (with_reducible refine Kd.C_alloc ?_ _) | (with_reducible refine Kd.C_drewN ?_ _) | (with_reducible refine Kd.C_drew ?_))); (case side2 => exact HC0_1.out); rintro e w19 ⟨rfl, hb⟩; refine ⟨_, rfl, ?_⟩; have n0_ := Aside0.mk (blk_below (g := gb823) (o := .cells #[.int .i64 a0_0, .slice A0_1 l0_1.length c0_1] 30 (0, 0)) (viaB BK823.out) hb); have n1_ := Aside0.mk (below_step (viaX HB.out GE823.out) hb); clear BK823; clear HB; have BK823 := n0_; have HB := n1_; clear n0_ n1_; (try clear hb); (try clear hb2); (try clear hk); (try clear hi)))
      have n0_ := Aside0.mk (blk_drew BK823.out); have n1_ := Aside0.mk (below_drew1 HB.out); clear BK823; clear HB; have BK823 := n0_; have HB := n1_; clear n0_ n1_
      refine start_ (n := 7) (S := fun w' => w'.cell? ⟨gb823, 0, none⟩ = some (.int .i64 a0_0) ∧ w'.cell? ⟨gb823, 1, none⟩ = some (.slice A0_1 l0_1.length c0_1)) (ds := []) #[false, false, false, false, false, false, false] (by kernel_rfl) rfl rfl ⟨(blk_cell BK823.out 0).trans rfl, (blk_cell BK823.out 1).trans rfl⟩ (fun hHeld => ?_)
      generalize w19.drew = w20 at BK823 HB hHeld ⊢
      refine pure_ (i := 1) (N := some 19) (v := ?_) (a' := ?_) #[false, true, false, false, false, false, false] rfl rfl (by kernel_rfl) (fun _ _ _ h => h) (Or.inl ⟨by rfl, ?_⟩) ?_ ?_
      rotate_left
      ·intro w'
       go_simp
       with_reducible rfl
      rotate_left
      ·simp only [Act.put, List.setIfInBounds_toArray, List.set_cons_zero, List.set_cons_succ, i64_w, i32_w]
       rfl
      refine pure_ (i := 4) (N := some 22) (v := ?_) (a' := ?_) #[false, true, false, false, true, false, false] rfl rfl (by kernel_rfl) (fun _ _ _ h => h) (Or.inl ⟨by rfl, ?_⟩) ?_ ?_
      rotate_left
      ·intro w'
       go_simp
       with_reducible rfl
      rotate_left
      ·simp only [Act.put, List.setIfInBounds_toArray, List.set_cons_zero, List.set_cons_succ, i64_w, i32_w]
       rfl
      refine take_ (i := 0) (N := some 18) (v := ?_) (a' := ?_) #[true, true, false, false, true, false, false] rfl rfl (by kernel_rfl) (fun _ _ _ h => h) (Or.inl ⟨by rfl, ?_⟩) hHeld ?_ ?_
      rotate_left
      ·rintro w' ⟨s0, s1⟩
       go_simp
       with_reducible rfl
      rotate_left
      ·simp only [Act.put, List.setIfInBounds_toArray, List.set_cons_zero, List.set_cons_succ, i64_w, i32_w]
       rfl
      refine take_ (i := 3) (N := some 21) (v := ?_) (a' := ?_) #[true, true, false, true, true, false, false] rfl rfl (by kernel_rfl) (fun _ _ _ h => h) (Or.inl ⟨by rfl, ?_⟩) hHeld ?_ ?_
      rotate_left
      ·rintro w' ⟨s0, s1⟩
       go_simp
       with_reducible rfl
      rotate_left
      ·simp only [Act.put, List.setIfInBounds_toArray, List.set_cons_zero, List.set_cons_succ, i64_w, i32_w]
       rfl
      refine one_ (i := 2) (N := some 20) #[true, true, true, true, true, false, false] rfl rfl (by kernel_rfl) (by decide) (fun K hK => ?_)
      refine goes_ Try.func99 (by kernel_rfl) rfl #[.agg #[.int .i64 a0_0, .slice A0_1 l0_1.length c0_1], .int .i64 x7_1] (by rfl) rfl rfl (by (try simp only [List.map_toArray, List.map_cons, List.map_nil]); first | done | rfl | (simp only [List.length_drop, List.length_take]; rfl)) ?_
      with_reducible refine (spec_l4Row.calls k1 a0_0 _ _ l0_1 x7_1 t826 _ ?side1 ?side2 A10.out).mono ?_
      (case side1 => repeat (first | exact (Kd.C_below HR0_1.out HB.out) | (with_reducible refine Kd.C_alloc ?_ _) | (with_reducible refine Kd.C_drewN ?_ _) | (with_reducible refine Kd.C_drew ?_)))
      (case side2 => exact HC0_1.out)
      rintro e w21 ⟨rfl, hb⟩
      refine ⟨_, rfl, ?_⟩
      have n0_ := Aside0.mk (blk_below (g := gb823) (o := .cells #[.int .i64 a0_0, .slice A0_1 l0_1.length c0_1] 30 (0, 0)) (viaB BK823.out) hb); have n1_ := Aside0.mk (below_step (viaX HB.out GE823.out) hb); clear BK823; clear HB; have BK823 := n0_; have HB := n1_; clear n0_ n1_
      (try clear hb)
      (try clear hb2)
      (try clear hk)
      (try clear hi)
      refine hK.out _ _ ⟨(blk_cell BK823.out 0).trans rfl, (blk_cell BK823.out 1).trans rfl⟩ (fun hHeld => ?_)
      clear hK K
      refine norm_ (a' := ?_) ?_ ?_
      rotate_left
      ·show Act.put _ (some 20) _ = _
       simp only [Act.put, List.setIfInBounds_toArray, List.set_cons_zero, List.set_cons_succ, i64_w, i32_w]
       rfl
      refine one_ (i := 5) (N := some 23) #[true, true, true, true, true, true, false] rfl rfl (by kernel_rfl) (by decide) (fun K hK => ?_)
      refine goes_ Try.func99 (by kernel_rfl) rfl #[.agg #[.int .i64 a0_0, .slice A0_1 l0_1.length c0_1], .int .i64 a1] (by rfl) rfl rfl (by (try simp only [List.map_toArray, List.map_cons, List.map_nil]); first | done | rfl | (simp only [List.length_drop, List.length_take]; rfl)) ?_
      with_reducible refine (spec_l4Row.calls k1 a0_0 _ _ l0_1 a1 t827 _ ?side1 ?side2 A11.out).mono ?_
      (case side1 => repeat (first | exact (Kd.C_below HR0_1.out HB.out) | (with_reducible refine Kd.C_alloc ?_ _) | (with_reducible refine Kd.C_drewN ?_ _) | (with_reducible refine Kd.C_drew ?_)))
      (case side2 => exact HC0_1.out)
      rintro e w22 ⟨rfl, hb⟩
      refine ⟨_, rfl, ?_⟩
      have n0_ := Aside0.mk (blk_below (g := gb823) (o := .cells #[.int .i64 a0_0, .slice A0_1 l0_1.length c0_1] 30 (0, 0)) (viaB BK823.out) hb); have n1_ := Aside0.mk (below_step (viaX HB.out GE823.out) hb); clear BK823; clear HB; have BK823 := n0_; have HB := n1_; clear n0_ n1_
      (try clear hb)
      (try clear hb2)
      (try clear hk)
      (try clear hi)
      refine hK.out _ _ ⟨(blk_cell BK823.out 0).trans rfl, (blk_cell BK823.out 1).trans rfl⟩ (fun hHeld => ?_)
      clear hK K
      refine norm_ (a' := ?_) ?_ ?_
      rotate_left
      ·show Act.put _ (some 23) _ = _
       simp only [Act.put, List.setIfInBounds_toArray, List.set_cons_zero, List.set_cons_succ, i64_w, i32_w]
       rfl
      refine pure_ (i := 6) (N := some 24) (v := ?_) (a' := ?_) #[true, true, true, true, true, true, true] rfl rfl (by kernel_rfl) (fun _ _ _ h => h) (Or.inl ⟨by rfl, ?_⟩) ?_ ?_
      rotate_left
      ·intro w'
       go_simp
       with_reducible rfl
      rotate_left
      ·simp only [Act.put, List.setIfInBounds_toArray, List.set_cons_zero, List.set_cons_succ, i64_w, i32_w]
       rfl
      refine done_ (by kernel_rfl) ?_
      try go_wp2
      go_roundg k1
      case measure => have := HK1.out; omega
      case rel => exact ⟨(x6_1), (wrap64 (x7_1 + 1)), (by first | rfl | (simp; done) | (simp [*]; done)), (by first | rfl | (simp; done) | (simp [*]; done)), H', ⟨by have := HK1.out; omega⟩, ⟨viaB BK823.out⟩, ⟨viaX HB.out GE823.out⟩⟩
    ·rw [if_neg c9] at H
     have c9b0 : decide (x7_1 ≤ t825) = false := decide_eq_false c9; clear c9
     simp only [Option.some.injEq, Prod.mk.injEq] at H
     obtain ⟨rfl, rfl⟩ := H; have hcz23_0 : wr.cell? ⟨gb823, 0, none⟩ = some (.int .i64 a0_0) := (blk_cell BK823.out 0).trans rfl; have hcz23_1 : wr.cell? ⟨gb823, 1, none⟩ = some (.slice A0_1 l0_1.length c0_1) := (blk_cell BK823.out 1).trans rfl; have hfz23_0 := blk_frozen BK823.out 0; have hfz23_1 := blk_frozen BK823.out 1
     go_wp2_with (first | ((with_reducible refine gate_callee (f := 75) rfl ?_); refine goesL_ (some 14) rfl rfl Try.func75 (by kernel_rfl) rfl #[.agg #[.int .i64 a0_0, .slice A0_1 l0_1.length c0_1]] rfl (by (try simp only [List.map_toArray, List.map_cons, List.map_nil]); first | done | rfl | (simp only [List.length_drop, List.length_take]; rfl)) ?_; (with_reducible refine (spec_l1All.calls a0_0 _ _ l0_1 t825 _ ?side1 ?side2 A8.out).mono ?_); (case side1 => repeat (first | exact (Kd.C_below HR0_1.out HB.out) | (with_reducible refine Kd.C_alloc ?_ _) | (with_reducible refine Kd.C_drewN ?_ _) | (with_reducible refine Kd.C_drew ?_))); (case side2 => exact HC0_1.out); rintro e w24 ⟨rfl, hb⟩; refine ⟨_, rfl, ?_⟩; have n0_ := Aside0.mk (blk_below (g := gb823) (o := .cells #[.int .i64 a0_0, .slice A0_1 l0_1.length c0_1] 30 (0, 0)) (viaB BK823.out) hb); have n1_ := Aside0.mk (below_step (viaX HB.out GE823.out) hb); clear BK823; clear HB; have BK823 := n0_; have HB := n1_; clear n0_ n1_; (try clear hb); (try clear hb2); (try clear hk); (try clear hi)))
     go_ret2
     exact ⟨by first | rfl | (simp [errW_none, errW_some] <;> rfl) | (simp [*, errW_none, errW_some] <;> rfl), viaX HB.out GE823.out⟩
 ·replace c4 := Bool.eq_false_iff.mpr c4
  subst c4; have H1 : (some (0, false)) = some (r1, r2) := by rw [if_neg (show ¬ (false = true) by decide)] at H; exact H
  clear H; have H := H1; clear H1
  simp only [Option.some.injEq, Prod.mk.injEq] at H
  obtain ⟨rfl, rfl⟩ := H
  go_enter Try.func52, Try.ntmps52
  go_wp2_with (first | ((with_reducible refine gate_dst (N := 2) rfl ?_); refine box_event ?hg (N := 2) ?hd (cs := #[.int .i64 a0_0, .slice A0_1 l0_1.length c0_1]) (t := 30) ?hr ?_; (case hd => rfl); (case hg => rfl); (case hr => first | (go_simp; done) | (go_simp; rfl)); intro gb823 hg w25 hbox hb; have n0_ := Aside0.mk (below_step (viaW HB.out) hb); have n1_ := Aside0.mk (hbox); have n2_ := Aside0.mk ((by rw [hg]; exact (below_size (viaW HB.out)) : w.heap.size ≤ gb823)); have n3_ := Aside0.mk ((by rw [hg]; exact (below_size (viaW HB.out)) : w.heap.size ≤ gb823)); clear HB; have HB := n0_; have BK823 := n1_; have GW823 := n2_; have GE823 := n3_; clear n0_ n1_ n2_ n3_; clear hb hbox hg; have hcz26_0 : w25.cell? ⟨gb823, 0, none⟩ = some (.int .i64 a0_0) := (blk_cell BK823.out 0).trans rfl; have hcz26_1 : w25.cell? ⟨gb823, 1, none⟩ = some (.slice A0_1 l0_1.length c0_1) := (blk_cell BK823.out 1).trans rfl; have hfz26_0 := blk_frozen BK823.out 0; have hfz26_1 := blk_frozen BK823.out 1) | ((with_reducible refine gate_callee (f := 65) rfl ?_); refine goesL_ (some 10) rfl rfl Try.func65 (by kernel_rfl) rfl #[.agg #[.int .i64 a0_0, .slice A0_1 l0_1.length c0_1], .int .i64 a1] rfl (by (try simp only [List.map_toArray, List.map_cons, List.map_nil]); first | done | rfl | (simp only [List.length_drop, List.length_take]; rfl)) ?_; (with_reducible refine (spec_WayIn.calls k a0_0 _ _ l0_1 a1 false _ ?side1 ?side2 A3.out).mono ?_); (case side1 => repeat (first | exact (Kd.C_below HR0_1.out HB.out) | (with_reducible refine Kd.C_alloc ?_ _) | (with_reducible refine Kd.C_drewN ?_ _) | (with_reducible refine Kd.C_drew ?_))); (case side2 => exact HC0_1.out); rintro e w27 ⟨rfl, hb⟩; refine ⟨_, rfl, ?_⟩; have n0_ := Aside0.mk (blk_below (g := gb823) (o := .cells #[.int .i64 a0_0, .slice A0_1 l0_1.length c0_1] 30 (0, 0)) (viaB BK823.out) hb); have n1_ := Aside0.mk (below_step (viaX HB.out GE823.out) hb); clear BK823; clear HB; have BK823 := n0_; have HB := n1_; clear n0_ n1_; (try clear hb); (try clear hb2); (try clear hk); (try clear hi)))
  go_ret2
  exact ⟨by first | rfl | (simp [errW_none, errW_some] <;> rfl) | (simp [*, errW_none, errW_some] <;> rfl), viaX HB.out GE823.out⟩

/-! ### laws_FnMany: function 14 -/
def laws_FnMany.f (k : Nat) (l0 : List Int) : Option (Bool) := if (l0.length : Int) > 1048576 then (some true) else ((spec_DrawScoreMany.f k l0).bind fun bt828 => ((impl_ScoreMany.f k bt828.1 bt828.2.1 bt828.2.2).bind fun bt834 => ((spec_ScoreMany.f k bt828.1 bt828.2.1 bt828.2.2).bind fun bt836 => (if (bt834.2 != bt836.2) = true then (if (bt834.2 == bt836.2) = true then (some (bt834.1 == bt836.1)) else (some false)) else (if bt834.1 = bt836.1 then (if bt834.2 = true then (if bt834.1 ≥ 1 then ((impl_PlainIn.f k bt828.1 bt828.2.1 bt828.2.2).bind fun t838 => (some ((bt834.1 == 1) == t838))) else (some false)) else (if (bt834.2 == bt836.2) = true then (some (bt834.1 == bt836.1)) else (some false))) else (if (bt834.2 == bt836.2) = true then (some (bt834.1 == bt836.1)) else (some false)))))))
theorem laws_FnMany.mono : ∀ a0 k, LeO (laws_FnMany.f k a0) (laws_FnMany.f (k + 1) a0) := by
 intro a0 k
 unfold laws_FnMany.f
 repeat' first
   | (with_reducible exact impl_PlainIn.mono _ _ _ _)
   | (with_reducible exact impl_ScoreMany.mono _ _ _ _)
   | (with_reducible exact spec_DrawScoreMany.mono _ _)
   | (with_reducible exact spec_ScoreMany.mono _ _ _ _)
   | (with_reducible exact LeO.refl _)
   | (with_reducible exact LeO.none _)
   | (with_reducible refine LeO.ite ?_ ?_)
   | (with_reducible refine LeO.bind ?_ (fun _ => ?_))
   | exact impl_PlainIn.mono _ _ _ _
   | exact impl_ScoreMany.mono _ _ _ _
   | exact spec_DrawScoreMany.mono _ _
   | exact spec_ScoreMany.mono _ _ _ _
   | exact LeO.none _
   | refine LeO.ite ?_ ?_
   | refine LeO.bind ?_ (fun _ => ?_)
set_option maxHeartbeats 8000000 in
set_option maxRecDepth 100000 in
theorem laws_FnMany.calls (k : Nat) (A0 : Option Addr) (c0 : Nat) (l0 : List Int) (r : Bool) (w : World) (hr0 : Kd.C (Kd.int .u8) w A0 l0.length l0) (hc0 : l0.length ≤ c0) (h : laws_FnMany.f k l0 = some r) :
  Calls Try.prog 14 #[.slice A0 l0.length c0] w fun e w' => e = .returned (.bool r) ∧ Below w.heap.size w w' := by
 have hu30 := Try.underlying30; have HR0 := Aside0.mk hr0; have HC0 := Aside0.mk hc0; clear hr0 hc0; have HB := Aside0.mk (Below.refl w.heap.size w); have H : (if (l0.length : Int) > 1048576 then (some true) else ((spec_DrawScoreMany.f k l0).bind fun bt828 => ((impl_ScoreMany.f k bt828.1 bt828.2.1 bt828.2.2).bind fun bt834 => ((spec_ScoreMany.f k bt828.1 bt828.2.1 bt828.2.2).bind fun bt836 => (if (bt834.2 != bt836.2) = true then (if (bt834.2 == bt836.2) = true then (some (bt834.1 == bt836.1)) else (some false)) else (if bt834.1 = bt836.1 then (if bt834.2 = true then (if bt834.1 ≥ 1 then ((impl_PlainIn.f k bt828.1 bt828.2.1 bt828.2.2).bind fun t838 => (some ((bt834.1 == 1) == t838))) else (some false)) else (if (bt834.2 == bt836.2) = true then (some (bt834.1 == bt836.1)) else (some false))) else (if (bt834.2 == bt836.2) = true then (some (bt834.1 == bt836.1)) else (some false)))))))) = some r := h; clear h
 by_cases c2 : (l0.length : Int) > 1048576
 ·rw [if_pos c2] at H
  have c2b0 : decide (1048576 < (l0.length : Int)) = true := decide_eq_true c2; have c2b1 : decide (1048576 < l0.length) = true := decide_eq_true (by omega); clear c2; obtain rfl := Option.some.inj H
  go_enter Try.func14, Try.ntmps14
  go_wp2
  go_ret
  exact ⟨by first | rfl | (simp [errW_none, errW_some] <;> rfl) | (simp [*, errW_none, errW_some] <;> rfl), viaW HB.out⟩
 ·rw [if_neg c2] at H
  have c2b0 : decide (1048576 < (l0.length : Int)) = false := decide_eq_false c2; have c2b1 : decide (1048576 < l0.length) = false := decide_eq_false (by omega); clear c2; replace H := Option.bind_eq_some_iff.mp H; obtain ⟨⟨t828, t829, t832⟩, A30, H⟩ := H; replace H : ((impl_ScoreMany.f k t828 t829 t832).bind fun bt834 => ((spec_ScoreMany.f k t828 t829 t832).bind fun bt836 => (if (bt834.2 != bt836.2) = true then (if (bt834.2 == bt836.2) = true then (some (bt834.1 == bt836.1)) else (some false)) else (if bt834.1 = bt836.1 then (if bt834.2 = true then (if bt834.1 ≥ 1 then ((impl_PlainIn.f k t828 t829 t832).bind fun t838 => (some ((bt834.1 == 1) == t838))) else (some false)) else (if (bt834.2 == bt836.2) = true then (some (bt834.1 == bt836.1)) else (some false))) else (if (bt834.2 == bt836.2) = true then (some (bt834.1 == bt836.1)) else (some false)))))) = some r := H; have A3 := Aside0.mk A30; clear A30; replace H := Option.bind_eq_some_iff.mp H; obtain ⟨⟨t834, t835⟩, A40, H⟩ := H; replace H : ((spec_ScoreMany.f k t828 t829 t832).bind fun bt836 => (if (t835 != bt836.2) = true then (if (t835 == bt836.2) = true then (some (t834 == bt836.1)) else (some false)) else (if t834 = bt836.1 then (if t835 = true then (if t834 ≥ 1 then ((impl_PlainIn.f k t828 t829 t832).bind fun t838 => (some ((t834 == 1) == t838))) else (some false)) else (if (t835 == bt836.2) = true then (some (t834 == bt836.1)) else (some false))) else (if (t835 == bt836.2) = true then (some (t834 == bt836.1)) else (some false))))) = some r := H; have A4 := Aside0.mk A40; clear A40; replace H := Option.bind_eq_some_iff.mp H; obtain ⟨⟨t836, t837⟩, A50, H⟩ := H; replace H : (if (t835 != t837) = true then (if (t835 == t837) = true then (some (t834 == t836)) else (some false)) else (if t834 = t836 then (if t835 = true then (if t834 ≥ 1 then ((impl_PlainIn.f k t828 t829 t832).bind fun t838 => (some ((t834 == 1) == t838))) else (some false)) else (if (t835 == t837) = true then (some (t834 == t836)) else (some false))) else (if (t835 == t837) = true then (some (t834 == t836)) else (some false)))) = some r := H; have A5 := Aside0.mk A50; clear A50
  by_cases c6 : (t835 != t837) = true
  ·rw [if_pos c6] at H
   have c6b0 : (t835 != t837) = true := c6
   (try (have c6b1 : decide (t835 = t837) = false := by simpa using c6))
   (try (have c6b2 : (t835 == t837) = false := by simpa using c6))
   (try (have c6b3 : ¬ (t835 = t837) := by simpa using c6))
   clear c6
   by_cases c7 : (t835 == t837) = true
   ·exact absurd c7 (by simpa using c6b0)
   ·rw [if_neg c7] at H
    have c7b0 : (t835 == t837) = false := by simpa using c7
    (try (have c7b1 : decide (t835 = t837) = false := by simpa using c7))
    (try (have c7b2 : (t835 == t837) = false := by simpa using c7))
    (try (have c7b3 : ¬ (t835 = t837) := by simpa using c7))
    clear c7; obtain rfl := Option.some.inj H
    go_enter Try.func14, Try.ntmps14
    go_wp2_with (first | ((with_reducible refine gate_callee (f := 50) rfl ?_); refine goesL_ (some 14) rfl rfl Try.func50 (by kernel_rfl) rfl #[.slice A0 l0.length c0] rfl (by (try simp only [List.map_toArray, List.map_cons, List.map_nil]); first | done | rfl | (simp only [List.length_drop, List.length_take]; rfl)) ?_; (with_reducible refine (spec_DrawScoreMany.calls k _ _ l0 t828 t829 t832 _ ?side1 ?side2 A3.out).mono ?_); (case side1 => repeat (first | exact HR0.out | (with_reducible refine Kd.C_alloc ?_ _) | (with_reducible refine Kd.C_drewN ?_ _) | (with_reducible refine Kd.C_drew ?_))); (case side2 => exact HC0.out); rintro e w15 ⟨v830, rfl, ho0, hb⟩; refine ⟨_, rfl, ?_⟩; have n0_ := Aside0.mk (Kd.R_lower ho0 (below_size (viaW HB.out))); have n1_ := Aside0.mk (below_step (viaW HB.out) hb); clear HB; have HO831 := n0_; have HB := n1_; clear n0_ n1_; (try clear hb); (try clear hb2); (try clear hk); (try clear hi); (try clear ho0)) | ((with_reducible refine gate_dst (N := 3) rfl ?_); refine box_event ?hg (N := 3) ?hd (cs := #[.int .i64 0, .slice none 0 0]) (t := 30) ?hr ?_; (case hd => rfl); (case hg => rfl); (case hr => first | (go_simp; done) | (go_simp; rfl)); intro gb833 hg w16 hbox hb; have n0_ := Aside0.mk (Kd.R_below (viaR HO831.out) hb); have n1_ := Aside0.mk (below_step (viaW HB.out) hb); have n2_ := Aside0.mk (hbox); have n3_ := Aside0.mk ((by rw [hg]; exact (below_size (viaW HB.out)) : w.heap.size ≤ gb833)); have n4_ := Aside0.mk ((by rw [hg]; exact (below_size (viaW HB.out)) : w.heap.size ≤ gb833)); clear HO831; clear HB; have HO831 := n0_; have HB := n1_; have BK833 := n2_; have GW833 := n3_; have GE833 := n4_; clear n0_ n1_ n2_ n3_ n4_; clear hb hbox hg; have hcz17_0 : w16.cell? ⟨gb833, 0, none⟩ = some (.int .i64 0) := (blk_cell BK833.out 0).trans rfl; have hcz17_1 : w16.cell? ⟨gb833, 1, none⟩ = some (.slice none 0 0) := (blk_cell BK833.out 1).trans rfl; have hfz17_0 := blk_frozen BK833.out 0; have hfz17_1 := blk_frozen BK833.out 1; obtain ⟨Ao18, co18, eo18⟩ := Kd.R_slice HO831.out; subst eo18) | ((with_reducible refine gate_callee (f := 51) rfl ?_); refine goesL_ (some 20) rfl rfl Try.func51 (by kernel_rfl) rfl #[.agg #[.int .i64 t828, .slice Ao18 t829.length co18], .int .i64 t832] rfl (by (try simp only [List.map_toArray, List.map_cons, List.map_nil]); first | done | rfl | (simp only [List.length_drop, List.length_take]; rfl)) ?_; (with_reducible refine (impl_ScoreMany.calls k t828 _ _ t829 t832 t834 t835 _ ?side1 ?side2 A4.out).mono ?_); (case side1 => refine (Kd.R_reads' (e := 44) (base := w.heap.size) (ok := fun k_ => True) (n := t829.length) (c := co18) ?_).2.2; exact (by (with_reducible repeat (first | apply Kd.R_alloc | apply Kd.R_drewN | apply Kd.R_drew)); exact (Kd.R_mono (Kd.R_far (p := ⟨gb833, 1, none⟩) (Kd.R_far (p := ⟨gb833, 0, none⟩) (Kd.R_types HO831.out BK833.out (by decide)) (fun _ hk => hk.2) (.int .i64 t828)) (fun _ hk => hk.2) (.slice Ao18 t829.length co18)) (fun _ h_ => h_.1)))); (case side2 => exact (Kd.R_reads' HO831.out).2.1); rintro e w19 ⟨rfl, hb⟩; refine ⟨_, rfl, ?_⟩; have n0_ := Aside0.mk (Kd.R_below (by (with_reducible repeat (first | apply Kd.R_alloc | apply Kd.R_drewN | apply Kd.R_drew)); exact (Kd.R_mono (Kd.R_far (p := ⟨gb833, 1, none⟩) (Kd.R_far (p := ⟨gb833, 0, none⟩) (Kd.R_types HO831.out BK833.out (by decide)) (fun _ hk => hk.2) (.int .i64 t828)) (fun _ hk => hk.2) (.slice Ao18 t829.length co18)) (fun _ h_ => h_.1))) hb); have n1_ := Aside0.mk (blk_below (g := gb833) (o := .cells #[.int .i64 t828, .slice Ao18 t829.length co18] 30 (0, 0)) (by (with_reducible repeat (first | refine blk_drewN ?_ _ | refine blk_drew ?_ | refine blk_alloc ?_ _)); refine blk_put (cs := #[.int .i64 t828, .slice none 0 0]) ?_ 1 _ rfl; (with_reducible repeat (first | refine blk_drewN ?_ _ | refine blk_drew ?_ | refine blk_alloc ?_ _)); refine blk_put (cs := #[.int .i64 0, .slice none 0 0]) ?_ 0 _ rfl; (with_reducible repeat (first | refine blk_drewN ?_ _ | refine blk_drew ?_ | refine blk_alloc ?_ _)); exact BK833.out) hb); have n2_ := Aside0.mk (below_step (viaX HB.out GE833.out) hb); clear HO831; clear BK833; clear HB; have HO831 := n0_; have BK833 := n1_; have HB := n2_; clear n0_ n1_ n2_; (try clear hb); (try clear hb2); (try clear hk); (try clear hi); have hcz20_0 : w19.cell? ⟨gb833, 0, none⟩ = some (.int .i64 t828) := (blk_cell BK833.out 0).trans rfl; have hcz20_1 : w19.cell? ⟨gb833, 1, none⟩ = some (.slice Ao18 t829.length co18) := (blk_cell BK833.out 1).trans rfl; have hfz20_0 := blk_frozen BK833.out 0; have hfz20_1 := blk_frozen BK833.out 1) | ((with_reducible refine gate_callee (f := 52) rfl ?_); refine goesL_ (some 26) rfl rfl Try.func52 (by kernel_rfl) rfl #[.agg #[.int .i64 t828, .slice Ao18 t829.length co18], .int .i64 t832] rfl (by (try simp only [List.map_toArray, List.map_cons, List.map_nil]); first | done | rfl | (simp only [List.length_drop, List.length_take]; rfl)) ?_; (with_reducible refine (spec_ScoreMany.calls k t828 _ _ t829 t832 t836 t837 _ ?side1 ?side2 A5.out).mono ?_); (case side1 => repeat (first | exact (Kd.R_reads' HO831.out).2.2 | (with_reducible refine Kd.C_alloc ?_ _) | (with_reducible refine Kd.C_drewN ?_ _) | (with_reducible refine Kd.C_drew ?_))); (case side2 => exact (Kd.R_reads' HO831.out).2.1); rintro e w21 ⟨rfl, hb⟩; refine ⟨_, rfl, ?_⟩; have n0_ := Aside0.mk (Kd.R_below (viaR HO831.out) hb); have n1_ := Aside0.mk (blk_below (g := gb833) (o := .cells #[.int .i64 t828, .slice Ao18 t829.length co18] 30 (0, 0)) (viaB BK833.out) hb); have n2_ := Aside0.mk (below_step (viaX HB.out GE833.out) hb); clear HO831; clear BK833; clear HB; have HO831 := n0_; have BK833 := n1_; have HB := n2_; clear n0_ n1_ n2_; (try clear hb); (try clear hb2); (try clear hk); (try clear hi)))
    go_ret
    exact ⟨by first | rfl | (simp [errW_none, errW_some] <;> rfl) | (simp [*, errW_none, errW_some] <;> rfl), viaX HB.out GE833.out⟩
  ·rw [if_neg c6] at H
   have c6b0 : (t835 != t837) = false := by simpa using c6
   (try (have c6b1 : decide (t835 = t837) = true := by simpa using c6))
   (try (have c6b2 : (t835 == t837) = true := by simpa using c6))
   clear c6
   by_cases c22 : t834 = t836
   ·rw [if_pos c22] at H
    have c22b0 : (t834 == t836) = true := beq_iff_eq.mpr c22; have c22b1 : (t834 != t836) = false := bne_eq_false_iff_eq.mpr c22; clear c22
    by_cases c23 : t835 = true
    ·subst c23
     have H1 : (if t834 ≥ 1 then ((impl_PlainIn.f k t828 t829 t832).bind fun t838 => (some ((t834 == 1) == t838))) else (some false)) = some r := by rw [if_pos rfl] at H; exact H
     clear H; have H := H1; clear H1
     by_cases c24 : t834 ≥ 1
     ·rw [if_pos c24] at H
      have c24b0 : decide (1 ≤ t834) = true := decide_eq_true c24; clear c24; replace H := Option.bind_eq_some_iff.mp H; obtain ⟨t838, A250, H⟩ := H; replace H : (some ((t834 == 1) == t838)) = some r := H; have A25 := Aside0.mk A250; clear A250; obtain rfl := Option.some.inj H
      go_enter Try.func14, Try.ntmps14
      go_wp2_with (first | ((with_reducible refine gate_callee (f := 50) rfl ?_); refine goesL_ (some 14) rfl rfl Try.func50 (by kernel_rfl) rfl #[.slice A0 l0.length c0] rfl (by (try simp only [List.map_toArray, List.map_cons, List.map_nil]); first | done | rfl | (simp only [List.length_drop, List.length_take]; rfl)) ?_; (with_reducible refine (spec_DrawScoreMany.calls k _ _ l0 t828 t829 t832 _ ?side1 ?side2 A3.out).mono ?_); (case side1 => repeat (first | exact HR0.out | (with_reducible refine Kd.C_alloc ?_ _) | (with_reducible refine Kd.C_drewN ?_ _) | (with_reducible refine Kd.C_drew ?_))); (case side2 => exact HC0.out); rintro e w26 ⟨v830, rfl, ho0, hb⟩; refine ⟨_, rfl, ?_⟩; have n0_ := Aside0.mk (Kd.R_lower ho0 (below_size (viaW HB.out))); have n1_ := Aside0.mk (below_step (viaW HB.out) hb); clear HB; have HO831 := n0_; have HB := n1_; clear n0_ n1_; (try clear hb); (try clear hb2); (try clear hk); (try clear hi); (try clear ho0)) | ((with_reducible refine gate_dst (N := 3) rfl ?_); refine box_event ?hg (N := 3) ?hd (cs := #[.int .i64 0, .slice none 0 0]) (t := 30) ?hr ?_; (case hd => rfl); (case hg => rfl); (case hr => first | (go_simp; done) | (go_simp; rfl)); intro gb833 hg w27 hbox hb; have n0_ := Aside0.mk (Kd.R_below (viaR HO831.out) hb); have n1_ := Aside0.mk (below_step (viaW HB.out) hb); have n2_ := Aside0.mk (hbox); have n3_ := Aside0.mk ((by rw [hg]; exact (below_size (viaW HB.out)) : w.heap.size ≤ gb833)); have n4_ := Aside0.mk ((by rw [hg]; exact (below_size (viaW HB.out)) : w.heap.size ≤ gb833)); clear HO831; clear HB; have HO831 := n0_; have HB := n1_; have BK833 := n2_; have GW833 := n3_; have GE833 := n4_; clear n0_ n1_ n2_ n3_ n4_; clear hb hbox hg; have hcz28_0 : w27.cell? ⟨gb833, 0, none⟩ = some (.int .i64 0) := (blk_cell BK833.out 0).trans rfl; have hcz28_1 : w27.cell? ⟨gb833, 1, none⟩ = some (.slice none 0 0) := (blk_cell BK833.out 1).trans rfl; have hfz28_0 := blk_frozen BK833.out 0; have hfz28_1 := blk_frozen BK833.out 1; obtain ⟨Ao29, co29, eo29⟩ := Kd.R_slice HO831.out; subst eo29) | ((with_reducible refine gate_callee (f := 51) rfl ?_); refine goesL_ (some 20) rfl rfl Try.func51 (by kernel_rfl) rfl #[.agg #[.int .i64 t828, .slice Ao29 t829.length co29], .int .i64 t832] rfl (by (try simp only [List.map_toArray, List.map_cons, List.map_nil]); first | done | rfl | (simp only [List.length_drop, List.length_take]; rfl)) ?_; (with_reducible refine (impl_ScoreMany.calls k t828 _ _ t829 t832 t834 true _ ?side1 ?side2 A4.out).mono ?_); (case side1 => refine (Kd.R_reads' (e := 44) (base := w.heap.size) (ok := fun k_ => True) (n := t829.length) (c := co29) ?_).2.2; exact (by (with_reducible repeat (first | apply Kd.R_alloc | apply Kd.R_drewN | apply Kd.R_drew)); exact (Kd.R_mono (Kd.R_far (p := ⟨gb833, 1, none⟩) (Kd.R_far (p := ⟨gb833, 0, none⟩) (Kd.R_types HO831.out BK833.out (by decide)) (fun _ hk => hk.2) (.int .i64 t828)) (fun _ hk => hk.2) (.slice Ao29 t829.length co29)) (fun _ h_ => h_.1)))); (case side2 => exact (Kd.R_reads' HO831.out).2.1); rintro e w30 ⟨rfl, hb⟩; refine ⟨_, rfl, ?_⟩; have n0_ := Aside0.mk (Kd.R_below (by (with_reducible repeat (first | apply Kd.R_alloc | apply Kd.R_drewN | apply Kd.R_drew)); exact (Kd.R_mono (Kd.R_far (p := ⟨gb833, 1, none⟩) (Kd.R_far (p := ⟨gb833, 0, none⟩) (Kd.R_types HO831.out BK833.out (by decide)) (fun _ hk => hk.2) (.int .i64 t828)) (fun _ hk => hk.2) (.slice Ao29 t829.length co29)) (fun _ h_ => h_.1))) hb); have n1_ := Aside0.mk (blk_below (g := gb833) (o := .cells #[.int .i64 t828, .slice Ao29 t829.length co29] 30 (0, 0)) (by (with_reducible repeat (first | refine blk_drewN ?_ _ | refine blk_drew ?_ | refine blk_alloc ?_ _)); refine blk_put (cs := #[.int .i64 t828, .slice none 0 0]) ?_ 1 _ rfl; (with_reducible repeat (first | refine blk_drewN ?_ _ | refine blk_drew ?_ | refine blk_alloc ?_ _)); refine blk_put (cs := #[.int .i64 0, .slice none 0 0]) ?_ 0 _ rfl; (with_reducible repeat (first | refine blk_drewN ?_ _ | refine blk_drew ?_ | refine blk_alloc ?_ _)); exact BK833.out) hb); have n2_ := Aside0.mk (below_step (viaX HB.out GE833.out) hb); clear HO831; clear BK833; clear HB; have HO831 := n0_; have BK833 := n1_; have HB := n2_; clear n0_ n1_ n2_; (try clear hb); (try clear hb2); (try clear hk); (try clear hi); have hcz31_0 : w30.cell? ⟨gb833, 0, none⟩ = some (.int .i64 t828) := (blk_cell BK833.out 0).trans rfl; have hcz31_1 : w30.cell? ⟨gb833, 1, none⟩ = some (.slice Ao29 t829.length co29) := (blk_cell BK833.out 1).trans rfl; have hfz31_0 := blk_frozen BK833.out 0; have hfz31_1 := blk_frozen BK833.out 1) | ((with_reducible refine gate_callee (f := 52) rfl ?_); refine goesL_ (some 26) rfl rfl Try.func52 (by kernel_rfl) rfl #[.agg #[.int .i64 t828, .slice Ao29 t829.length co29], .int .i64 t832] rfl (by (try simp only [List.map_toArray, List.map_cons, List.map_nil]); first | done | rfl | (simp only [List.length_drop, List.length_take]; rfl)) ?_; (with_reducible refine (spec_ScoreMany.calls k t828 _ _ t829 t832 t836 t837 _ ?side1 ?side2 A5.out).mono ?_); (case side1 => repeat (first | exact (Kd.R_reads' HO831.out).2.2 | (with_reducible refine Kd.C_alloc ?_ _) | (with_reducible refine Kd.C_drewN ?_ _) | (with_reducible refine Kd.C_drew ?_))); (case side2 => exact (Kd.R_reads' HO831.out).2.1); rintro e w32 ⟨rfl, hb⟩; refine ⟨_, rfl, ?_⟩; have n0_ := Aside0.mk (Kd.R_below (viaR HO831.out) hb); have n1_ := Aside0.mk (blk_below (g := gb833) (o := .cells #[.int .i64 t828, .slice Ao29 t829.length co29] 30 (0, 0)) (viaB BK833.out) hb); have n2_ := Aside0.mk (below_step (viaX HB.out GE833.out) hb); clear HO831; clear BK833; clear HB; have HO831 := n0_; have BK833 := n1_; have HB := n2_; clear n0_ n1_ n2_; (try clear hb); (try clear hb2); (try clear hk); (try clear hi); have hcz33_0 : w32.cell? ⟨gb833, 0, none⟩ = some (.int .i64 t828) := (blk_cell BK833.out 0).trans rfl; have hcz33_1 : w32.cell? ⟨gb833, 1, none⟩ = some (.slice Ao29 t829.length co29) := (blk_cell BK833.out 1).trans rfl; have hfz33_0 := blk_frozen BK833.out 0; have hfz33_1 := blk_frozen BK833.out 1) | (go_at_call 49; (with_reducible refine (impl_PlainIn.calls k t828 _ _ t829 t832 t838 _ ?side1 ?side2 A25.out).mono ?_); (case side1 => repeat (first | exact (Kd.R_reads' HO831.out).2.2 | (with_reducible refine Kd.C_alloc ?_ _) | (with_reducible refine Kd.C_drewN ?_ _) | (with_reducible refine Kd.C_drew ?_))); (case side2 => exact (Kd.R_reads' HO831.out).2.1); rintro e w34 ⟨rfl, hb⟩; have n0_ := Aside0.mk (Kd.R_below (viaR HO831.out) hb); have n1_ := Aside0.mk (blk_below (g := gb833) (o := .cells #[.int .i64 t828, .slice Ao29 t829.length co29] 30 (0, 0)) (viaB BK833.out) hb); have n2_ := Aside0.mk (below_step (viaX HB.out GE833.out) hb); clear HO831; clear BK833; clear HB; have HO831 := n0_; have BK833 := n1_; have HB := n2_; clear n0_ n1_ n2_; (try clear hb); (try clear hb2); (try clear hk); (try clear hi)))
      go_ret
      exact ⟨by first | rfl | (simp [errW_none, errW_some] <;> rfl) | (simp [*, errW_none, errW_some] <;> rfl), viaX HB.out GE833.out⟩
     ·rw [if_neg c24] at H
      have c24b0 : decide (1 ≤ t834) = false := decide_eq_false c24; clear c24; obtain rfl := Option.some.inj H
      go_enter Try.func14, Try.ntmps14
      go_wp2_with (first | ((with_reducible refine gate_callee (f := 50) rfl ?_); refine goesL_ (some 14) rfl rfl Try.func50 (by kernel_rfl) rfl #[.slice A0 l0.length c0] rfl (by (try simp only [List.map_toArray, List.map_cons, List.map_nil]); first | done | rfl | (simp only [List.length_drop, List.length_take]; rfl)) ?_; (with_reducible refine (spec_DrawScoreMany.calls k _ _ l0 t828 t829 t832 _ ?side1 ?side2 A3.out).mono ?_); (case side1 => repeat (first | exact HR0.out | (with_reducible refine Kd.C_alloc ?_ _) | (with_reducible refine Kd.C_drewN ?_ _) | (with_reducible refine Kd.C_drew ?_))); (case side2 => exact HC0.out); rintro e w35 ⟨v830, rfl, ho0, hb⟩; refine ⟨_, rfl, ?_⟩; have n0_ := Aside0.mk (Kd.R_lower ho0 (below_size (viaW HB.out))); have n1_ := Aside0.mk (below_step (viaW HB.out) hb); clear HB; have HO831 := n0_; have HB := n1_; clear n0_ n1_; (try clear hb); (try clear hb2); (try clear hk); (try clear hi); (try clear ho0)) | ((with_reducible refine gate_dst (N := 3) rfl ?_); refine box_event ?hg (N := 3) ?hd (cs := #[.int .i64 0, .slice none 0 0]) (t := 30) ?hr ?_; (case hd => rfl); (case hg => rfl); (case hr => first | (go_simp; done) | (go_simp; rfl)); intro gb833 hg w36 hbox hb; have n0_ := Aside0.mk (Kd.R_below (viaR HO831.out) hb); have n1_ := Aside0.mk (below_step (viaW HB.out) hb); have n2_ := Aside0.mk (hbox); have n3_ := Aside0.mk ((by rw [hg]; exact (below_size (viaW HB.out)) : w.heap.size ≤ gb833)); have n4_ := Aside0.mk ((by rw [hg]; exact (below_size (viaW HB.out)) : w.heap.size ≤ gb833)); clear HO831; clear HB; have HO831 := n0_; have HB := n1_; have BK833 := n2_; have GW833 := n3_; have GE833 := n4_; clear n0_ n1_ n2_ n3_ n4_; clear hb hbox hg; have hcz37_0 : w36.cell? ⟨gb833, 0, none⟩ = some (.int .i64 0) := (blk_cell BK833.out 0).trans rfl; have hcz37_1 : w36.cell? ⟨gb833, 1, none⟩ = some (.slice none 0 0) := (blk_cell BK833.out 1).trans rfl; have hfz37_0 := blk_frozen BK833.out 0; have hfz37_1 := blk_frozen BK833.out 1; obtain ⟨Ao38, co38, eo38⟩ := Kd.R_slice HO831.out; subst eo38) | ((with_reducible refine gate_callee (f := 51) rfl ?_); refine goesL_ (some 20) rfl rfl Try.func51 (by kernel_rfl) rfl #[.agg #[.int .i64 t828, .slice Ao38 t829.length co38], .int .i64 t832] rfl (by (try simp only [List.map_toArray, List.map_cons, List.map_nil]); first | done | rfl | (simp only [List.length_drop, List.length_take]; rfl)) ?_; (with_reducible refine (impl_ScoreMany.calls k t828 _ _ t829 t832 t834 true _ ?side1 ?side2 A4.out).mono ?_); (case side1 => refine (Kd.R_reads' (e := 44) (base := w.heap.size) (ok := fun k_ => True) (n := t829.length) (c := co38) ?_).2.2; exact (by (with_reducible repeat (first | apply Kd.R_alloc | apply Kd.R_drewN | apply Kd.R_drew)); exact (Kd.R_mono (Kd.R_far (p := ⟨gb833, 1, none⟩) (Kd.R_far (p := ⟨gb833, 0, none⟩) (Kd.R_types HO831.out BK833.out (by decide)) (fun _ hk => hk.2) (.int .i64 t828)) (fun _ hk => hk.2) (.slice Ao38 t829.length co38)) (fun _ h_ => h_.1)))); (case side2 => exact (Kd.R_reads' HO831.out).2.1); rintro e w39 ⟨rfl, hb⟩; refine ⟨_, rfl, ?_⟩; have n0_ := Aside0.mk (Kd.R_below (by (with_reducible repeat (first | apply Kd.R_alloc | apply Kd.R_drewN | apply Kd.R_drew)); exact (Kd.R_mono (Kd.R_far (p := ⟨gb833, 1, none⟩) (Kd.R_far (p := ⟨gb833, 0, none⟩) (Kd.R_types HO831.out BK833.out (by decide)) (fun _ hk => hk.2) (.int .i64 t828)) (fun _ hk => hk.2) (.slice Ao38 t829.length co38)) (fun _ h_ => h_.1))) hb); have n1_ := Aside0.mk (blk_below (g := gb833) (o := .cells #[.int .i64 t828, .slice Ao38 t829.length co38] 30 (0, 0)) (by (with_reducible repeat (first | refine blk_drewN ?_ _ | refine blk_drew ?_ | refine blk_alloc ?_ _)); refine blk_put (cs := #[.int .i64 t828, .slice none 0 0]) ?_ 1 _ rfl; (with_reducible repeat (first | refine blk_drewN ?_ _ | refine blk_drew ?_ | refine blk_alloc ?_ _)); refine blk_put (cs := #[.int .i64 0, .slice none 0 0]) ?_ 0 _ rfl; (with_reducible repeat (first | refine blk_drewN ?_ _ | refine blk_drew ?_ | refine blk_alloc ?_ _)); exact BK833.out) hb); have n2_ := Aside0.mk (below_step (viaX HB.out GE833.out) hb); clear HO831; clear BK833; clear HB; have HO831 := n0_; have BK833 := n1_; have HB := n2_; clear n0_ n1_ n2_; (try clear hb); (try clear hb2); (try clear hk); (try clear hi); have hcz40_0 : w39.cell? ⟨gb833, 0, none⟩ = some (.int .i64 t828) := (blk_cell BK833.out 0).trans rfl; have hcz40_1 : w39.cell? ⟨gb833, 1, none⟩ = some (.slice Ao38 t829.length co38) := (blk_cell BK833.out 1).trans rfl; have hfz40_0 := blk_frozen BK833.out 0; have hfz40_1 := blk_frozen BK833.out 1) | ((with_reducible refine gate_callee (f := 52) rfl ?_); refine goesL_ (some 26) rfl rfl Try.func52 (by kernel_rfl) rfl #[.agg #[.int .i64 t828, .slice Ao38 t829.length co38], .int .i64 t832] rfl (by (try simp only [List.map_toArray, List.map_cons, List.map_nil]); first | done | rfl | (simp only [List.length_drop, List.length_take]; rfl)) ?_; (with_reducible refine (spec_ScoreMany.calls k t828 _ _ t829 t832 t836 t837 _ ?side1 ?side2 A5.out).mono ?_); (case side1 => repeat (first | exact (Kd.R_reads' HO831.out).2.2 | (with_reducible refine Kd.C_alloc ?_ _) | (with_reducible refine Kd.C_drewN ?_ _) | (with_reducible refine Kd.C_drew ?_))); (case side2 => exact (Kd.R_reads' HO831.out).2.1); rintro e w41 ⟨rfl, hb⟩; refine ⟨_, rfl, ?_⟩; have n0_ := Aside0.mk (Kd.R_below (viaR HO831.out) hb); have n1_ := Aside0.mk (blk_below (g := gb833) (o := .cells #[.int .i64 t828, .slice Ao38 t829.length co38] 30 (0, 0)) (viaB BK833.out) hb); have n2_ := Aside0.mk (below_step (viaX HB.out GE833.out) hb); clear HO831; clear BK833; clear HB; have HO831 := n0_; have BK833 := n1_; have HB := n2_; clear n0_ n1_ n2_; (try clear hb); (try clear hb2); (try clear hk); (try clear hi)))
      go_ret
      exact ⟨by first | rfl | (simp [errW_none, errW_some] <;> rfl) | (simp [*, errW_none, errW_some] <;> rfl), viaX HB.out GE833.out⟩
    ·replace c23 := Bool.eq_false_iff.mpr c23
     subst c23; have H1 : (if (false == t837) = true then (some (t834 == t836)) else (some false)) = some r := by rw [if_neg (show ¬ (false = true) by decide)] at H; exact H
     clear H; have H := H1; clear H1
     by_cases c42 : (false == t837) = true
     ·rw [if_pos c42] at H
      have c42b0 : (false == t837) = true := c42
      (try (have c42b1 : decide (false = t837) = true := by simpa using c42))
      (try (have c42b2 : (false == t837) = true := by simpa using c42))
      clear c42; obtain rfl := Option.some.inj H
      go_enter Try.func14, Try.ntmps14
      go_wp2_with (first | ((with_reducible refine gate_callee (f := 50) rfl ?_); refine goesL_ (some 14) rfl rfl Try.func50 (by kernel_rfl) rfl #[.slice A0 l0.length c0] rfl (by (try simp only [List.map_toArray, List.map_cons, List.map_nil]); first | done | rfl | (simp only [List.length_drop, List.length_take]; rfl)) ?_; (with_reducible refine (spec_DrawScoreMany.calls k _ _ l0 t828 t829 t832 _ ?side1 ?side2 A3.out).mono ?_); (case side1 => repeat (first | exact HR0.out | (with_reducible refine Kd.C_alloc ?_ _) | (with_reducible refine Kd.C_drewN ?_ _) | (with_reducible refine Kd.C_drew ?_))); (case side2 => exact HC0.out); rintro e w43 ⟨v830, rfl, ho0, hb⟩; refine ⟨_, rfl, ?_⟩; have n0_ := Aside0.mk (Kd.R_lower ho0 (below_size (viaW HB.out))); have n1_ := Aside0.mk (below_step (viaW HB.out) hb); clear HB; have HO831 := n0_; have HB := n1_; clear n0_ n1_; (try clear hb); (try clear hb2); (try clear hk); (try clear hi); (try clear ho0)) | ((with_reducible refine gate_dst (N := 3) rfl ?_); refine box_event ?hg (N := 3) ?hd (cs := #[.int .i64 0, .slice none 0 0]) (t := 30) ?hr ?_; (case hd => rfl); (case hg => rfl); (case hr => first | (go_simp; done) | (go_simp; rfl)); intro gb833 hg w44 hbox hb; have n0_ := Aside0.mk (Kd.R_below (viaR HO831.out) hb); have n1_ := Aside0.mk (below_step (viaW HB.out) hb); have n2_ := Aside0.mk (hbox); have n3_ := Aside0.mk ((by rw [hg]; exact (below_size (viaW HB.out)) : w.heap.size ≤ gb833)); have n4_ := Aside0.mk ((by rw [hg]; exact (below_size (viaW HB.out)) : w.heap.size ≤ gb833)); clear HO831; clear HB; have HO831 := n0_; have HB := n1_; have BK833 := n2_; have GW833 := n3_; have GE833 := n4_; clear n0_ n1_ n2_ n3_ n4_; clear hb hbox hg; have hcz45_0 : w44.cell? ⟨gb833, 0, none⟩ = some (.int .i64 0) := (blk_cell BK833.out 0).trans rfl; have hcz45_1 : w44.cell? ⟨gb833, 1, none⟩ = some (.slice none 0 0) := (blk_cell BK833.out 1).trans rfl; have hfz45_0 := blk_frozen BK833.out 0; have hfz45_1 := blk_frozen BK833.out 1; obtain ⟨Ao46, co46, eo46⟩ := Kd.R_slice HO831.out; subst eo46) | ((with_reducible refine gate_callee (f := 51) rfl ?_); refine goesL_ (some 20) rfl rfl Try.func51 (by kernel_rfl) rfl #[.agg #[.int .i64 t828, .slice Ao46 t829.length co46], .int .i64 t832] rfl (by (try simp only [List.map_toArray, List.map_cons, List.map_nil]); first | done | rfl | (simp only [List.length_drop, List.length_take]; rfl)) ?_; (with_reducible refine (impl_ScoreMany.calls k t828 _ _ t829 t832 t834 false _ ?side1 ?side2 A4.out).mono ?_); (case side1 => refine (Kd.R_reads' (e := 44) (base := w.heap.size) (ok := fun k_ => True) (n := t829.length) (c := co46) ?_).2.2; exact (by (with_reducible repeat (first | apply Kd.R_alloc | apply Kd.R_drewN | apply Kd.R_drew)); exact (Kd.R_mono (Kd.R_far (p := ⟨gb833, 1, none⟩) (Kd.R_far (p := ⟨gb833, 0, none⟩) (Kd.R_types HO831.out BK833.out (by decide)) (fun _ hk => hk.2) (.int .i64 t828)) (fun _ hk => hk.2) (.slice Ao46 t829.length co46)) (fun _ h_ => h_.1)))); (case side2 => exact (Kd.R_reads' HO831.out).2.1); rintro e w47 ⟨rfl, hb⟩; refine ⟨_, rfl, ?_⟩; have n0_ := Aside0.mk (Kd.R_below (by (with_reducible repeat (first | apply Kd.R_alloc | apply Kd.R_drewN | apply Kd.R_drew)); exact (Kd.R_mono (Kd.R_far (p := ⟨gb833, 1, none⟩) (Kd.R_far (p := ⟨gb833, 0, none⟩) (Kd.R_types HO831.out BK833.out (by decide)) (fun _ hk => hk.2) (.int .i64 t828)) (fun _ hk => hk.2) (.slice Ao46 t829.length co46)) (fun _ h_ => h_.1))) hb); have n1_ := Aside0.mk (blk_below (g := gb833) (o := .cells #[.int .i64 t828, .slice Ao46 t829.length co46] 30 (0, 0)) (by (with_reducible repeat (first | refine blk_drewN ?_ _ | refine blk_drew ?_ | refine blk_alloc ?_ _)); refine blk_put (cs := #[.int .i64 t828, .slice none 0 0]) ?_ 1 _ rfl; (with_reducible repeat (first | refine blk_drewN ?_ _ | refine blk_drew ?_ | refine blk_alloc ?_ _)); refine blk_put (cs := #[.int .i64 0, .slice none 0 0]) ?_ 0 _ rfl; (with_reducible repeat (first | refine blk_drewN ?_ _ | refine blk_drew ?_ | refine blk_alloc ?_ _)); exact BK833.out) hb); have n2_ := Aside0.mk (below_step (viaX HB.out GE833.out) hb); clear HO831; clear BK833; clear HB; have HO831 := n0_; have BK833 := n1_; have HB := n2_; clear n0_ n1_ n2_; (try clear hb); (try clear hb2); (try clear hk); (try clear hi); have hcz48_0 : w47.cell? ⟨gb833, 0, none⟩ = some (.int .i64 t828) := (blk_cell BK833.out 0).trans rfl; have hcz48_1 : w47.cell? ⟨gb833, 1, none⟩ = some (.slice Ao46 t829.length co46) := (blk_cell BK833.out 1).trans rfl; have hfz48_0 := blk_frozen BK833.out 0; have hfz48_1 := blk_frozen BK833.out 1) | ((with_reducible refine gate_callee (f := 52) rfl ?_); refine goesL_ (some 26) rfl rfl Try.func52 (by kernel_rfl) rfl #[.agg #[.int .i64 t828, .slice Ao46 t829.length co46], .int .i64 t832] rfl (by (try simp only [List.map_toArray, List.map_cons, List.map_nil]); first | done | rfl | (simp only [List.length_drop, List.length_take]; rfl)) ?_; (with_reducible refine (spec_ScoreMany.calls k t828 _ _ t829 t832 t836 t837 _ ?side1 ?side2 A5.out).mono ?_); (case side1 => repeat (first | exact (Kd.R_reads' HO831.out).2.2 | (with_reducible refine Kd.C_alloc ?_ _) | (with_reducible refine Kd.C_drewN ?_ _) | (with_reducible refine Kd.C_drew ?_))); (case side2 => exact (Kd.R_reads' HO831.out).2.1); rintro e w49 ⟨rfl, hb⟩; refine ⟨_, rfl, ?_⟩; have n0_ := Aside0.mk (Kd.R_below (viaR HO831.out) hb); have n1_ := Aside0.mk (blk_below (g := gb833) (o := .cells #[.int .i64 t828, .slice Ao46 t829.length co46] 30 (0, 0)) (viaB BK833.out) hb); have n2_ := Aside0.mk (below_step (viaX HB.out GE833.out) hb); clear HO831; clear BK833; clear HB; have HO831 := n0_; have BK833 := n1_; have HB := n2_; clear n0_ n1_ n2_; (try clear hb); (try clear hb2); (try clear hk); (try clear hi)))
      go_ret
      exact ⟨by first | rfl | (simp [errW_none, errW_some] <;> rfl) | (simp [*, errW_none, errW_some] <;> rfl), viaX HB.out GE833.out⟩
     ·exact absurd (by simpa using c6b0) c42
   ·rw [if_neg c22] at H
    have c22b0 : (t834 == t836) = false := beq_eq_false_iff_ne.mpr c22; have c22b1 : (t834 != t836) = true := bne_iff_ne.mpr c22
    by_cases c57 : (t835 == t837) = true
    ·rw [if_pos c57] at H
     have c57b0 : (t835 == t837) = true := c57
     (try (have c57b1 : decide (t835 = t837) = true := by simpa using c57))
     (try (have c57b2 : (t835 == t837) = true := by simpa using c57))
     clear c57; obtain rfl := Option.some.inj H
     go_enter Try.func14, Try.ntmps14
     go_wp2_with (first | ((with_reducible refine gate_callee (f := 50) rfl ?_); refine goesL_ (some 14) rfl rfl Try.func50 (by kernel_rfl) rfl #[.slice A0 l0.length c0] rfl (by (try simp only [List.map_toArray, List.map_cons, List.map_nil]); first | done | rfl | (simp only [List.length_drop, List.length_take]; rfl)) ?_; (with_reducible refine (spec_DrawScoreMany.calls k _ _ l0 t828 t829 t832 _ ?side1 ?side2 A3.out).mono ?_); (case side1 => repeat (first | exact HR0.out | (with_reducible refine Kd.C_alloc ?_ _) | (with_reducible refine Kd.C_drewN ?_ _) | (with_reducible refine Kd.C_drew ?_))); (case side2 => exact HC0.out); rintro e w58 ⟨v830, rfl, ho0, hb⟩; refine ⟨_, rfl, ?_⟩; have n0_ := Aside0.mk (Kd.R_lower ho0 (below_size (viaW HB.out))); have n1_ := Aside0.mk (below_step (viaW HB.out) hb); clear HB; have HO831 := n0_; have HB := n1_; clear n0_ n1_; (try clear hb); (try clear hb2); (try clear hk); (try clear hi); (try clear ho0)) | ((with_reducible refine gate_dst (N := 3) rfl ?_); refine box_event ?hg (N := 3) ?hd (cs := #[.int .i64 0, .slice none 0 0]) (t := 30) ?hr ?_; (case hd => rfl); (case hg => rfl); (case hr => first | (go_simp; done) | (go_simp; rfl)); intro gb833 hg w59 hbox hb; have n0_ := Aside0.mk (Kd.R_below (viaR HO831.out) hb); have n1_ := Aside0.mk (below_step (viaW HB.out) hb); have n2_ := Aside0.mk (hbox); have n3_ := Aside0.mk ((by rw [hg]; exact (below_size (viaW HB.out)) : w.heap.size ≤ gb833)); have n4_ := Aside0.mk ((by rw [hg]; exact (below_size (viaW HB.out)) : w.heap.size ≤ gb833)); clear HO831; clear HB; have HO831 := n0_; have HB := n1_; have BK833 := n2_; have GW833 := n3_; have GE833 := n4_; clear n0_ n1_ n2_ n3_ n4_; clear hb hbox hg; have hcz60_0 : w59.cell? ⟨gb833, 0, none⟩ = some (.int .i64 0) := (blk_cell BK833.out 0).trans rfl; have hcz60_1 : w59.cell? ⟨gb833, 1, none⟩ = some (.slice none 0 0) := (blk_cell BK833.out 1).trans rfl; have hfz60_0 := blk_frozen BK833.out 0; have hfz60_1 := blk_frozen BK833.out 1; obtain ⟨Ao61, co61, eo61⟩ := Kd.R_slice HO831.out; subst eo61) | ((with_reducible refine gate_callee (f := 51) rfl ?_); refine goesL_ (some 20) rfl rfl Try.func51 (by kernel_rfl) rfl #[.agg #[.int .i64 t828, .slice Ao61 t829.length co61], .int .i64 t832] rfl (by (try simp only [List.map_toArray, List.map_cons, List.map_nil]); first | done | rfl | (simp only [List.length_drop, List.length_take]; rfl)) ?_; (with_reducible refine (impl_ScoreMany.calls k t828 _ _ t829 t832 t834 t835 _ ?side1 ?side2 A4.out).mono ?_); (case side1 => refine (Kd.R_reads' (e := 44) (base := w.heap.size) (ok := fun k_ => True) (n := t829.length) (c := co61) ?_).2.2; exact (by (with_reducible repeat (first | apply Kd.R_alloc | apply Kd.R_drewN | apply Kd.R_drew)); exact (Kd.R_mono (Kd.R_far (p := ⟨gb833, 1, none⟩) (Kd.R_far (p := ⟨gb833, 0, none⟩) (Kd.R_types HO831.out BK833.out (by decide)) (fun _ hk => hk.2) (.int .i64 t828)) (fun _ hk => hk.2) (.slice Ao61 t829.length co61)) (fun _ h_ => h_.1)))); (case side2 => exact (Kd.R_reads' HO831.out).2.1); rintro e w62 ⟨rfl, hb⟩; refine ⟨_, rfl, ?_⟩; have n0_ := Aside0.mk (Kd.R_below (by (with_reducible repeat (first | apply Kd.R_alloc | apply Kd.R_drewN | apply Kd.R_drew)); exact (Kd.R_mono (Kd.R_far (p := ⟨gb833, 1, none⟩) (Kd.R_far (p := ⟨gb833, 0, none⟩) (Kd.R_types HO831.out BK833.out (by decide)) (fun _ hk => hk.2) (.int .i64 t828)) (fun _ hk => hk.2) (.slice Ao61 t829.length co61)) (fun _ h_ => h_.1))) hb); have n1_ := Aside0.mk (blk_below (g := gb833) (o := .cells #[.int .i64 t828, .slice Ao61 t829.length co61] 30 (0, 0)) (by (with_reducible repeat (first | refine blk_drewN ?_ _ | refine blk_drew ?_ | refine blk_alloc ?_ _)); refine blk_put (cs := #[.int .i64 t828, .slice none 0 0]) ?_ 1 _ rfl; (with_reducible repeat (first | refine blk_drewN ?_ _ | refine blk_drew ?_ | refine blk_alloc ?_ _)); refine blk_put (cs := #[.int .i64 0, .slice none 0 0]) ?_ 0 _ rfl; (with_reducible repeat (first | refine blk_drewN ?_ _ | refine blk_drew ?_ | refine blk_alloc ?_ _)); exact BK833.out) hb); have n2_ := Aside0.mk (below_step (viaX HB.out GE833.out) hb); clear HO831; clear BK833; clear HB; have HO831 := n0_; have BK833 := n1_; have HB := n2_; clear n0_ n1_ n2_; (try clear hb); (try clear hb2); (try clear hk); (try clear hi); have hcz63_0 : w62.cell? ⟨gb833, 0, none⟩ = some (.int .i64 t828) := (blk_cell BK833.out 0).trans rfl; have hcz63_1 : w62.cell? ⟨gb833, 1, none⟩ = some (.slice Ao61 t829.length co61) := (blk_cell BK833.out 1).trans rfl; have hfz63_0 := blk_frozen BK833.out 0; have hfz63_1 := blk_frozen BK833.out 1) | ((with_reducible refine gate_callee (f := 52) rfl ?_); refine goesL_ (some 26) rfl rfl Try.func52 (by kernel_rfl) rfl #[.agg #[.int .i64 t828, .slice Ao61 t829.length co61], .int .i64 t832] rfl (by (try simp only [List.map_toArray, List.map_cons, List.map_nil]); first | done | rfl | (simp only [List.length_drop, List.length_take]; rfl)) ?_; (with_reducible refine (spec_ScoreMany.calls k t828 _ _ t829 t832 t836 t837 _ ?side1 ?side2 A5.out).mono ?_); (case side1 => repeat (first | exact (Kd.R_reads' HO831.out).2.2 | (with_reducible refine Kd.C_alloc ?_ _) | (with_reducible refine Kd.C_drewN ?_ _) | (with_reducible refine Kd.C_drew ?_))); (case side2 => exact (Kd.R_reads' HO831.out).2.1); rintro e w64 ⟨rfl, hb⟩; refine ⟨_, rfl, ?_⟩; have n0_ := Aside0.mk (Kd.R_below (viaR HO831.out) hb); have n1_ := Aside0.mk (blk_below (g := gb833) (o := .cells #[.int .i64 t828, .slice Ao61 t829.length co61] 30 (0, 0)) (viaB BK833.out) hb); have n2_ := Aside0.mk (below_step (viaX HB.out GE833.out) hb); clear HO831; clear BK833; clear HB; have HO831 := n0_; have BK833 := n1_; have HB := n2_; clear n0_ n1_ n2_; (try clear hb); (try clear hb2); (try clear hk); (try clear hi)))
     go_ret
     exact ⟨by first | rfl | (simp [errW_none, errW_some] <;> rfl) | (simp [*, errW_none, errW_some] <;> rfl), viaX HB.out GE833.out⟩
    ·exact absurd (by simpa using c6b0) c57

/-- THE ONE PURE STATEMENT of laws_FnMany: yours. -/
def laws_FnMany.Pure : Prop := ∀ (l0 : List Int), l0.length ≤ maxLen → l0.length * 1 ≤ 140737488351232 → (∀ x ∈ l0, (Lit.int .u8 x).wf = true) → ∃ k, laws_FnMany.f k l0 = some true
theorem laws_FnMany.walk (P : laws_FnMany.Pure) (a0 : Option Addr) (len0 cap0 : Nat) (z0 : List Int) (w : World) (w0 : (a0 = none ∧ len0 = 0 ∧ cap0 = 0 ∧ z0 = []) ∨ ∃ x, a0 = some x ∧ len0 ≤ cap0 ∧ cap0 ≤ maxLen ∧ z0.length = cap0 ∧ (∀ i, i < z0.length → w.cell? (x.add i) = some (.int .u8 (z0.getD i 0))) ∧ ∀ n ∈ z0, (Lit.int .u8 n).wf = true) (y0 : len0 * 1 ≤ 140737488351232) :
  Calls Try.prog 14 #[.slice a0 len0 cap0] w fun e w' => e = .returned (.bool true) ∧ Below w.heap.size w w' := by
 obtain ⟨l0, rfl, hr0, hm0, hw0, hc0⟩ := ReadsInt.ofRowC w0; obtain ⟨k, h⟩ := P l0 hm0 y0 hw0
 refine (laws_FnMany.calls k _ _ l0 true w (Kd.C_of_reads (d := (0 : Int)) (h1 := fun _ => rfl) hr0) hc0 h).mono ?_
 rintro e w' ⟨rfl, hd⟩
 exact ⟨rfl, hd⟩

end Go.Proofs.Ytfijegfjpagjoaa.G
