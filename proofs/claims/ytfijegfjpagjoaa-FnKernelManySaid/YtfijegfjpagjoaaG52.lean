/- For each Go function named below: a plain Lean function of the same name, and the proof that a call of the Go function returns just what the plain function tells, where it tells something. Written by a program of this session with the printer of the kit. -/
import Derived.Test.YtfijegfjpagjoaaG0
import Derived.Test.YtfijegfjpagjoaaG2
import Derived.Test.YtfijegfjpagjoaaG15
namespace Go.Proofs.Ytfijegfjpagjoaa.G
open Go.RowKit Go.Proofs.YtfijegfjpagjoaaW.PrintWords Go.Proofs.YtfijegfjpagjoaaW.PrintLast Go.Proofs.YtfijegfjpagjoaaW.PrintMore
attribute [local go_sem] max2_int min2_int max_two min_two max_three min_three max_four min_four   -- for this text's walks alone
set_option linter.unusedVariables false
set_option linter.unusedSimpArgs false

/-! ### spec_l4Inside: function 132 -/
def spec_l4Inside.l0 : Nat → Int → Int → Int → Int → List (S44) → Option (Int)
 | 0, _, _, _, _, _ => none
 | k + 1, x1, x5, x6, x940000, x940001 => if x6 < (x940001.length : Int) then (if 0 ≤ x6 then (if 0 ≤ ((rd_T44 x940001 x6).f0) then (if 0 ≤ ((rd_T44 x940001 x6).f1) then (spec_l4Inside.l0 k x1 (wrap64 (x5 + (wrap64 ((Go.bits .and .i64 (shr .i64 x1 ((rd_T44 x940001 x6).f0)) 1) * (Go.bits .and .i64 (shr .i64 x1 ((rd_T44 x940001 x6).f1)) 1))))) (wrap64 (x6 + 1)) x940000 x940001) else (none)) else (none)) else (none)) else (some x5)
def spec_l4Inside.f (k : Nat) (a0_0 : Int) (l0_1 : List (S44)) (a1 : Int) : Option (Int) := spec_l4Inside.l0 k a1 0 0 a0_0 l0_1
theorem spec_l4Inside.mono_l : ∀ k, (∀ y0 y1 y2 y3 y4, LeO (spec_l4Inside.l0 k y0 y1 y2 y3 y4) (spec_l4Inside.l0 (k + 1) y0 y1 y2 y3 y4))
 | 0 => fun _ _ _ _ _ r h => by simp [spec_l4Inside.l0] at h
 | k + 1 => by
  have ih0 := spec_l4Inside.mono_l k
  ·intro y0 y1 y2 y3 y4
   unfold spec_l4Inside.l0
   repeat' first
   | (with_reducible exact ih0 _ _ _ _ _)
   | (with_reducible exact LeO.refl _)
   | (with_reducible exact LeO.none _)
   | (with_reducible refine LeO.ite ?_ ?_)
   | (with_reducible refine LeO.bind ?_ (fun _ => ?_))
   | exact ih0 _ _ _ _ _
   | exact LeO.none _
   | refine LeO.ite ?_ ?_
   | refine LeO.bind ?_ (fun _ => ?_)
theorem spec_l4Inside.mono : ∀ a0 a1 a2 k, LeO (spec_l4Inside.f k a0 a1 a2) (spec_l4Inside.f (k + 1) a0 a1 a2) := by
 intro a0 a1 a2 k; have ih0 := spec_l4Inside.mono_l k
 unfold spec_l4Inside.f
 repeat' first
   | (with_reducible exact ih0 _ _ _ _ _)
   | (with_reducible exact LeO.refl _)
   | (with_reducible exact LeO.none _)
   | (with_reducible refine LeO.ite ?_ ?_)
   | (with_reducible refine LeO.bind ?_ (fun _ => ?_))
   | exact ih0 _ _ _ _ _
   | exact LeO.none _
   | refine LeO.ite ?_ ?_
   | refine LeO.bind ?_ (fun _ => ?_)
set_option maxHeartbeats 8000000 in
set_option maxRecDepth 100000 in
theorem spec_l4Inside.calls (k : Nat) (a0_0 : Int) (A0_1 : Option Addr) (c0_1 : Nat) (l0_1 : List (S44)) (a1 : Int) (r : Int) (w : World) (hr0_1 : Kd.C k44 w A0_1 l0_1.length l0_1) (hc0_1 : l0_1.length ≤ c0_1) (h : spec_l4Inside.f k a0_0 l0_1 a1 = some r) :
  Calls Try.prog 132 #[.agg #[.int .i64 a0_0, .slice A0_1 l0_1.length c0_1], .int .i64 a1] w fun e w' => e = .returned (.int .i64 r) ∧ Below w.heap.size w w' := by
 have hu30 := Try.underlying30; have HR0_1 := Aside0.mk hr0_1; have HC0_1 := Aside0.mk hc0_1; clear hr0_1 hc0_1; have HB := Aside0.mk (Below.refl w.heap.size w); have H : (spec_l4Inside.l0 k a1 0 0 a0_0 l0_1) = some r := h; clear h; have H' := Aside0.mk H; clear H
 go_enter Try.func132, Try.ntmps132
 go_wp2_with (first | ((with_reducible refine gate_dst (N := 2) rfl ?_); refine box_event ?hg (N := 2) ?hd (cs := #[.int .i64 a0_0, .slice A0_1 l0_1.length c0_1]) (t := 30) ?hr ?_; (case hd => rfl); (case hg => rfl); (case hr => first | (go_simp; done) | (go_simp; rfl)); intro gb939 hg w3 hbox hb; have n0_ := Aside0.mk (below_step (viaW HB.out) hb); have n1_ := Aside0.mk (hbox); have n2_ := Aside0.mk ((by rw [hg]; exact (below_size (viaW HB.out)) : w.heap.size ≤ gb939)); have n3_ := Aside0.mk ((by rw [hg]; exact (below_size (viaW HB.out)) : w.heap.size ≤ gb939)); clear HB; have HB := n0_; have BK939 := n1_; have GW939 := n2_; have GE939 := n3_; clear n0_ n1_ n2_ n3_; clear hb hbox hg))
 repeat (go_quiet (first | ((with_reducible refine gate_dst (N := 2) rfl ?_); refine box_event ?hg (N := 2) ?hd (cs := #[.int .i64 a0_0, .slice A0_1 l0_1.length c0_1]) (t := 30) ?hr ?_; (case hd => rfl); (case hg => rfl); (case hr => first | (go_simp; done) | (go_simp; rfl)); intro gb939 hg w3 hbox hb; have n0_ := Aside0.mk (below_step (viaW HB.out) hb); have n1_ := Aside0.mk (hbox); have n2_ := Aside0.mk ((by rw [hg]; exact (below_size (viaW HB.out)) : w.heap.size ≤ gb939)); have n3_ := Aside0.mk ((by rw [hg]; exact (below_size (viaW HB.out)) : w.heap.size ≤ gb939)); clear HB; have HB := n0_; have BK939 := n1_; have GW939 := n2_; have GE939 := n3_; clear n0_ n1_ n2_ n3_; clear hb hbox hg)); try go_wp2_with (first | ((with_reducible refine gate_dst (N := 2) rfl ?_); refine box_event ?hg (N := 2) ?hd (cs := #[.int .i64 a0_0, .slice A0_1 l0_1.length c0_1]) (t := 30) ?hr ?_; (case hd => rfl); (case hg => rfl); (case hr => first | (go_simp; done) | (go_simp; rfl)); intro gb939 hg w3 hbox hb; have n0_ := Aside0.mk (below_step (viaW HB.out) hb); have n1_ := Aside0.mk (hbox); have n2_ := Aside0.mk ((by rw [hg]; exact (below_size (viaW HB.out)) : w.heap.size ≤ gb939)); have n3_ := Aside0.mk ((by rw [hg]; exact (below_size (viaW HB.out)) : w.heap.size ≤ gb939)); clear HB; have HB := n0_; have BK939 := n1_; have GW939 := n2_; have GE939 := n3_; clear n0_ n1_ n2_ n3_; clear hb hbox hg)))
 go_loopg [5, 6] k (fun kq v5 v6 w' => ∃ (x5_1 : Int) (x6_1 : Int), v5 = .int .i64 x5_1 ∧ v6 = .int .i64 x6_1 ∧ Aside0 (spec_l4Inside.l0 kq a1 x5_1 x6_1 a0_0 l0_1 = some r) ∧ Aside0 (kq ≤ k) ∧ Aside0 (w'.heap[gb939]? = some (.cells #[.int .i64 a0_0, (.slice A0_1 l0_1.length c0_1)] 30 (0, 0))) ∧ Aside0 (Below w.heap.size w w'))
 case atStart => exact ⟨(0), (0), (by first | rfl | (simp; done) | (simp [*]; done)), (by first | rfl | (simp; done) | (simp [*]; done)), H', ⟨Nat.le_refl _⟩, ⟨viaB BK939.out⟩, ⟨viaX HB.out GE939.out⟩⟩
 case round =>
  clear H'
  try clear c1
  try clear p2
  obtain ⟨x5_1, x6_1, rfl, rfl, HA, HK1, BK939, HB⟩ := hrel
  cases gk with
  | zero => exact absurd HA.out (by simp [spec_l4Inside.l0])
  | succ k1 =>
   have H := HA.out; clear HA
   simp only [spec_l4Inside.l0] at H
   by_cases c4 : x6_1 < (l0_1.length : Int)
   ·rw [if_pos c4] at H
    have c4b0 : decide (x6_1 < (l0_1.length : Int)) = true := decide_eq_true c4; clear c4
    by_cases c5 : 0 ≤ x6_1
    ·rw [if_pos c5] at H
     have c5b0 : decide (0 ≤ x6_1) = true := decide_eq_true c5; clear c5
     by_cases c6 : 0 ≤ ((rd_T44 l0_1 x6_1).f0)
     ·rw [if_pos c6] at H
      have c6b0 := eq_true c6; have c6b1 : decide (0 ≤ ((rd_T44 l0_1 x6_1).f0)) = true := decide_eq_true c6; clear c6; obtain ⟨ji7, hji7⟩ : ∃ j_ : Int, (shr .i64 a1 ((rd_T44 l0_1 x6_1).f0)) = j_ := ⟨_, rfl⟩; replace H : (if 0 ≤ ((rd_T44 l0_1 x6_1).f1) then (spec_l4Inside.l0 k1 a1 (wrap64 (x5_1 + (wrap64 ((Go.bits .and .i64 (ji7) 1) * (Go.bits .and .i64 (shr .i64 a1 ((rd_T44 l0_1 x6_1).f1)) 1))))) (wrap64 (x6_1 + 1)) a0_0 l0_1) else (none)) = some r := by first | (rw [hji7] at H; exact H) | (simp only [hji7] at H ⊢; exact H)
      have hji7_ : (a1 / 2 ^ min ((rd_T44 l0_1 x6_1).f0).toNat 64) = ji7 := hji7; have hji7z : ((rd_T44 l0_1 x6_1).f0) ≤ 64 → (a1 / 2 ^ ((rd_T44 l0_1 x6_1).f0).toNat) = ji7 := shr_small hji7
      by_cases c8 : 0 ≤ ((rd_T44 l0_1 x6_1).f1)
      ·rw [if_pos c8] at H
       have c8b0 := eq_true c8; have c8b1 : decide (0 ≤ ((rd_T44 l0_1 x6_1).f1)) = true := decide_eq_true c8; clear c8; obtain ⟨ji9, hji9⟩ : ∃ j_ : Int, (shr .i64 a1 ((rd_T44 l0_1 x6_1).f1)) = j_ := ⟨_, rfl⟩; replace H : (spec_l4Inside.l0 k1 a1 (wrap64 (x5_1 + (wrap64 ((Go.bits .and .i64 (ji7) 1) * (Go.bits .and .i64 (ji9) 1))))) (wrap64 (x6_1 + 1)) a0_0 l0_1) = some r := by first | (rw [hji9] at H; exact H) | (simp only [hji9] at H ⊢; exact H)
       have hji9_ : (a1 / 2 ^ min ((rd_T44 l0_1 x6_1).f1).toNat 64) = ji9 := hji9; have hji9z : ((rd_T44 l0_1 x6_1).f1) ≤ 64 → (a1 / 2 ^ ((rd_T44 l0_1 x6_1).f1).toNat) = ji9 := shr_small hji9; have H' := Aside0.mk H; clear H; have hcz10_0 : wr.cell? ⟨gb939, 0, none⟩ = some (.int .i64 a0_0) := (blk_cell BK939.out 0).trans rfl; have hcz10_1 : wr.cell? ⟨gb939, 1, none⟩ = some (.slice A0_1 l0_1.length c0_1) := (blk_cell BK939.out 1).trans rfl; have hfz10_0 := blk_frozen BK939.out 0; have hfz10_1 := blk_frozen BK939.out 1; have p940 : 0 ≤ (x6_1 : Int) := of_decide_eq_true (by first | (with_reducible assumption) | assumption); have q940 : x6_1 < (l0_1.length : Int) := of_decide_eq_true (by first | (with_reducible assumption) | assumption); obtain ⟨ad940, e940, hx940_0, hx940_1⟩ := at_T44 HR0_1.out x6_1 p940 q940
       cases e940
       replace hx940_0 := (HB.out.cell (World.block_lt_of_cell? w _ hx940_0)).trans hx940_0; replace hx940_1 := (HB.out.cell (World.block_lt_of_cell? w _ hx940_1)).trans hx940_1; replace p940 := eq_true p940; replace q940 := eq_true q940; have p941 : 0 ≤ (x6_1 : Int) := of_decide_eq_true (by first | (with_reducible assumption) | assumption); have q941 : x6_1 < (l0_1.length : Int) := of_decide_eq_true (by first | (with_reducible assumption) | assumption); obtain ⟨ad941, e941, hx941_0, hx941_1⟩ := at_T44 HR0_1.out x6_1 p941 q941; obtain rfl : ad940 = ad941 := (by injection e941); replace hx941_0 := (HB.out.cell (World.block_lt_of_cell? w _ hx941_0)).trans hx941_0; replace hx941_1 := (HB.out.cell (World.block_lt_of_cell? w _ hx941_1)).trans hx941_1; replace p941 := eq_true p941; replace q941 := eq_true q941
       go_wp2
       repeat (go_quiet (fail); try go_wp2)
       go_roundg k1
       case measure => have := HK1.out; omega
       case rel => exact ⟨(wrap64 (x5_1 + (wrap64 ((Go.bits .and .i64 (ji7) 1) * (Go.bits .and .i64 (ji9) 1))))), (wrap64 (x6_1 + 1)), (by first | rfl | (simp; done) | (simp only [← hji7, ← hji9] <;> (first | rfl | simp)) | (simp [*]; done)), (by first | rfl | (simp; done) | (simp [*]; done)), H', ⟨by have := HK1.out; omega⟩, ⟨viaB BK939.out⟩, ⟨viaX HB.out GE939.out⟩⟩
      ·rw [if_neg c8] at H
       exact absurd H (by simp)
     ·rw [if_neg c6] at H
      exact absurd H (by simp)
    ·rw [if_neg c5] at H
     exact absurd H (by simp)
   ·rw [if_neg c4] at H
    have c4b0 : decide (x6_1 < (l0_1.length : Int)) = false := decide_eq_false c4; clear c4; obtain rfl := Option.some.inj H; have hcz11_0 : wr.cell? ⟨gb939, 0, none⟩ = some (.int .i64 a0_0) := (blk_cell BK939.out 0).trans rfl; have hcz11_1 : wr.cell? ⟨gb939, 1, none⟩ = some (.slice A0_1 l0_1.length c0_1) := (blk_cell BK939.out 1).trans rfl; have hfz11_0 := blk_frozen BK939.out 0; have hfz11_1 := blk_frozen BK939.out 1
    go_wp2
    repeat (go_quiet (fail); try go_wp2)
    go_ret
    exact ⟨by first | rfl | (simp [errW_none, errW_some] <;> rfl) | (simp [*, errW_none, errW_some] <;> rfl), viaX HB.out GE939.out⟩

/-! ### spec_l6kFree: function 131 -/
def spec_l6kFree.f (k : Nat) (a0_0 : Int) (l0_1 : List (S44)) (a1 : Int) : Option (Bool) := (spec_l4Inside.f k a0_0 l0_1 a1).bind fun t943 => (some (t943 == 0))
theorem spec_l6kFree.mono : ∀ a0 a1 a2 k, LeO (spec_l6kFree.f k a0 a1 a2) (spec_l6kFree.f (k + 1) a0 a1 a2) := by
 intro a0 a1 a2 k
 unfold spec_l6kFree.f
 repeat' first
   | (with_reducible exact spec_l4Inside.mono _ _ _ _)
   | (with_reducible exact LeO.refl _)
   | (with_reducible exact LeO.none _)
   | (with_reducible refine LeO.ite ?_ ?_)
   | (with_reducible refine LeO.bind ?_ (fun _ => ?_))
   | exact spec_l4Inside.mono _ _ _ _
   | exact LeO.none _
   | refine LeO.ite ?_ ?_
   | refine LeO.bind ?_ (fun _ => ?_)
set_option maxHeartbeats 8000000 in
set_option maxRecDepth 100000 in
theorem spec_l6kFree.calls (k : Nat) (a0_0 : Int) (A0_1 : Option Addr) (c0_1 : Nat) (l0_1 : List (S44)) (a1 : Int) (r : Bool) (w : World) (hr0_1 : Kd.C k44 w A0_1 l0_1.length l0_1) (hc0_1 : l0_1.length ≤ c0_1) (h : spec_l6kFree.f k a0_0 l0_1 a1 = some r) :
  Calls Try.prog 131 #[.agg #[.int .i64 a0_0, .slice A0_1 l0_1.length c0_1], .int .i64 a1] w fun e w' => e = .returned (.bool r) ∧ Below w.heap.size w w' := by
 have hu30 := Try.underlying30; have HR0_1 := Aside0.mk hr0_1; have HC0_1 := Aside0.mk hc0_1; clear hr0_1 hc0_1; have HB := Aside0.mk (Below.refl w.heap.size w); have H : ((spec_l4Inside.f k a0_0 l0_1 a1).bind fun t943 => (some (t943 == 0))) = some r := h; clear h; replace H := Option.bind_eq_some_iff.mp H; obtain ⟨t943, A30, H⟩ := H; replace H : (some (t943 == 0)) = some r := H; have A3 := Aside0.mk A30; clear A30; obtain rfl := Option.some.inj H
 go_enter Try.func131, Try.ntmps131
 go_wp2_with (first | ((with_reducible refine gate_dst (N := 2) rfl ?_); refine box_event ?hg (N := 2) ?hd (cs := #[.int .i64 a0_0, .slice A0_1 l0_1.length c0_1]) (t := 30) ?hr ?_; (case hd => rfl); (case hg => rfl); (case hr => first | (go_simp; done) | (go_simp; rfl)); intro gb942 hg w4 hbox hb; have n0_ := Aside0.mk (below_step (viaW HB.out) hb); have n1_ := Aside0.mk (hbox); have n2_ := Aside0.mk ((by rw [hg]; exact (below_size (viaW HB.out)) : w.heap.size ≤ gb942)); have n3_ := Aside0.mk ((by rw [hg]; exact (below_size (viaW HB.out)) : w.heap.size ≤ gb942)); clear HB; have HB := n0_; have BK942 := n1_; have GW942 := n2_; have GE942 := n3_; clear n0_ n1_ n2_ n3_; clear hb hbox hg; have hcz5_0 : w4.cell? ⟨gb942, 0, none⟩ = some (.int .i64 a0_0) := (blk_cell BK942.out 0).trans rfl; have hcz5_1 : w4.cell? ⟨gb942, 1, none⟩ = some (.slice A0_1 l0_1.length c0_1) := (blk_cell BK942.out 1).trans rfl; have hfz5_0 := blk_frozen BK942.out 0; have hfz5_1 := blk_frozen BK942.out 1) | ((with_reducible refine gate_callee (f := 132) rfl ?_); refine goesL_ (some 7) rfl rfl Try.func132 (by kernel_rfl) rfl #[.agg #[.int .i64 a0_0, .slice A0_1 l0_1.length c0_1], .int .i64 a1] rfl (by (try simp only [List.map_toArray, List.map_cons, List.map_nil]); first | done | rfl | (simp only [List.length_drop, List.length_take]; rfl)) ?_; (with_reducible refine (spec_l4Inside.calls k a0_0 _ _ l0_1 a1 t943 _ ?side1 ?side2 A3.out).mono ?_); (case side1 => repeat (first | exact (Kd.C_below HR0_1.out HB.out) | (with_reducible refine Kd.C_alloc ?_ _) | (with_reducible refine Kd.C_drewN ?_ _) | (with_reducible refine Kd.C_drew ?_))); (case side2 => exact HC0_1.out); rintro e w6 ⟨rfl, hb⟩; refine ⟨_, rfl, ?_⟩; have n0_ := Aside0.mk (blk_below (g := gb942) (o := .cells #[.int .i64 a0_0, .slice A0_1 l0_1.length c0_1] 30 (0, 0)) (viaB BK942.out) hb); have n1_ := Aside0.mk (below_step (viaX HB.out GE942.out) hb); clear BK942; clear HB; have BK942 := n0_; have HB := n1_; clear n0_ n1_; (try clear hb); (try clear hb2); (try clear hk); (try clear hi)))
 go_ret
 exact ⟨by first | rfl | (simp [errW_none, errW_some] <;> rfl) | (simp [*, errW_none, errW_some] <;> rfl), viaX HB.out GE942.out⟩

/-! ### spec_l6kIn: function 125 -/
def spec_l6kIn.l0 : Nat → Int → Int → Int → Int → Int → List (S44) → Option (Bool)
 | 0, _, _, _, _, _, _ => none
 | k + 1, x1, x2, x7, x8, x945000, x945001 => if x8 < (x945001.length : Int) then ((spec_l1Ends.f x945000 x945001 x1 x8).bind fun bt945 => (if 0 ≤ bt945.2 then (if (Go.bits .and .i64 (shr .i64 x2 bt945.2) 1) = 1 then (if 0 ≤ bt945.1 then (spec_l6kIn.l0 k x1 x2 (Go.bits .or .i64 x7 (shl .i64 1 bt945.1)) (wrap64 (x8 + 1)) x945000 x945001) else (none)) else (spec_l6kIn.l0 k x1 x2 x7 (wrap64 (x8 + 1)) x945000 x945001)) else (none))) else ((spec_l6kFree.f k x945000 x945001 x2).bind fun t947 => (if t947 = true then (if 0 ≤ x945000 then (some (x7 == (wrap64 ((shl .i64 1 x945000) - 1)))) else (none)) else (some false)))
def spec_l6kIn.f (k : Nat) (a0_0 : Int) (l0_1 : List (S44)) (a1 : Int) (a2 : Int) : Option (Bool) := spec_l6kIn.l0 k a1 a2 a2 0 a0_0 l0_1
theorem spec_l6kIn.mono_l : ∀ k, (∀ y0 y1 y2 y3 y4 y5, LeO (spec_l6kIn.l0 k y0 y1 y2 y3 y4 y5) (spec_l6kIn.l0 (k + 1) y0 y1 y2 y3 y4 y5))
 | 0 => fun _ _ _ _ _ _ r h => by simp [spec_l6kIn.l0] at h
 | k + 1 => by
  have ih0 := spec_l6kIn.mono_l k
  ·intro y0 y1 y2 y3 y4 y5
   unfold spec_l6kIn.l0
   repeat' first
   | (with_reducible exact ih0 _ _ _ _ _ _)
   | (with_reducible exact spec_l6kFree.mono _ _ _ _)
   | (with_reducible exact LeO.refl _)
   | (with_reducible exact LeO.none _)
   | (with_reducible refine LeO.ite ?_ ?_)
   | (with_reducible refine LeO.bind ?_ (fun _ => ?_))
   | exact ih0 _ _ _ _ _ _
   | exact spec_l6kFree.mono _ _ _ _
   | exact LeO.none _
   | refine LeO.ite ?_ ?_
   | refine LeO.bind ?_ (fun _ => ?_)
theorem spec_l6kIn.mono : ∀ a0 a1 a2 a3 k, LeO (spec_l6kIn.f k a0 a1 a2 a3) (spec_l6kIn.f (k + 1) a0 a1 a2 a3) := by
 intro a0 a1 a2 a3 k; have ih0 := spec_l6kIn.mono_l k
 unfold spec_l6kIn.f
 repeat' first
   | (with_reducible exact ih0 _ _ _ _ _ _)
   | (with_reducible exact spec_l6kFree.mono _ _ _ _)
   | (with_reducible exact LeO.refl _)
   | (with_reducible exact LeO.none _)
   | (with_reducible refine LeO.ite ?_ ?_)
   | (with_reducible refine LeO.bind ?_ (fun _ => ?_))
   | exact ih0 _ _ _ _ _ _
   | exact spec_l6kFree.mono _ _ _ _
   | exact LeO.none _
   | refine LeO.ite ?_ ?_
   | refine LeO.bind ?_ (fun _ => ?_)
set_option maxHeartbeats 8000000 in
set_option maxRecDepth 100000 in
theorem spec_l6kIn.calls (k : Nat) (a0_0 : Int) (A0_1 : Option Addr) (c0_1 : Nat) (l0_1 : List (S44)) (a1 : Int) (a2 : Int) (r : Bool) (w : World) (hr0_1 : Kd.C k44 w A0_1 l0_1.length l0_1) (hc0_1 : l0_1.length ≤ c0_1) (h : spec_l6kIn.f k a0_0 l0_1 a1 a2 = some r) :
  Calls Try.prog 125 #[.agg #[.int .i64 a0_0, .slice A0_1 l0_1.length c0_1], .int .i64 a1, .int .i64 a2] w fun e w' => e = .returned (.bool r) ∧ Below w.heap.size w w' := by
 have hu30 := Try.underlying30; have HR0_1 := Aside0.mk hr0_1; have HC0_1 := Aside0.mk hc0_1; clear hr0_1 hc0_1; have HB := Aside0.mk (Below.refl w.heap.size w); have H : (spec_l6kIn.l0 k a1 a2 a2 0 a0_0 l0_1) = some r := h; clear h; have H' := Aside0.mk H; clear H
 go_enter Try.func125, Try.ntmps125
 go_wp2_with (first | ((with_reducible refine gate_dst (N := 3) rfl ?_); refine box_event ?hg (N := 3) ?hd (cs := #[.int .i64 a0_0, .slice A0_1 l0_1.length c0_1]) (t := 30) ?hr ?_; (case hd => rfl); (case hg => rfl); (case hr => first | (go_simp; done) | (go_simp; rfl)); intro gb944 hg w4 hbox hb; have n0_ := Aside0.mk (below_step (viaW HB.out) hb); have n1_ := Aside0.mk (hbox); have n2_ := Aside0.mk ((by rw [hg]; exact (below_size (viaW HB.out)) : w.heap.size ≤ gb944)); have n3_ := Aside0.mk ((by rw [hg]; exact (below_size (viaW HB.out)) : w.heap.size ≤ gb944)); clear HB; have HB := n0_; have BK944 := n1_; have GW944 := n2_; have GE944 := n3_; clear n0_ n1_ n2_ n3_; clear hb hbox hg))
 go_loopg [7, 8] k (fun kq v7 v8 w' => ∃ (x7_1 : Int) (x8_1 : Int), v7 = .int .i64 x7_1 ∧ v8 = .int .i64 x8_1 ∧ Aside0 (spec_l6kIn.l0 kq a1 a2 x7_1 x8_1 a0_0 l0_1 = some r) ∧ Aside0 (kq ≤ k) ∧ Aside0 (w'.heap[gb944]? = some (.cells #[.int .i64 a0_0, (.slice A0_1 l0_1.length c0_1)] 30 (0, 0))) ∧ Aside0 (Below w.heap.size w w'))
 case atStart => exact ⟨(a2), (0), (by first | rfl | (simp; done) | (simp [*]; done)), (by first | rfl | (simp; done) | (simp [*]; done)), H', ⟨Nat.le_refl _⟩, ⟨viaB BK944.out⟩, ⟨viaX HB.out GE944.out⟩⟩
 case round =>
  clear H'
  try clear c1
  try clear p2
  obtain ⟨x7_1, x8_1, rfl, rfl, HA, HK1, BK944, HB⟩ := hrel
  cases gk with
  | zero => exact absurd HA.out (by simp [spec_l6kIn.l0])
  | succ k1 =>
   have H := HA.out; clear HA
   simp only [spec_l6kIn.l0] at H
   by_cases c5 : x8_1 < (l0_1.length : Int)
   ·rw [if_pos c5] at H
    have c5b0 : decide (x8_1 < (l0_1.length : Int)) = true := decide_eq_true c5; clear c5; replace H := Option.bind_eq_some_iff.mp H; obtain ⟨⟨t945, t946⟩, A60, H⟩ := H; replace H : (if 0 ≤ t946 then (if (Go.bits .and .i64 (shr .i64 a2 t946) 1) = 1 then (if 0 ≤ t945 then (spec_l6kIn.l0 k1 a1 a2 (Go.bits .or .i64 x7_1 (shl .i64 1 t945)) (wrap64 (x8_1 + 1)) a0_0 l0_1) else (none)) else (spec_l6kIn.l0 k1 a1 a2 x7_1 (wrap64 (x8_1 + 1)) a0_0 l0_1)) else (none)) = some r := H; have A6 := Aside0.mk A60; clear A60
    by_cases c7 : 0 ≤ t946
    ·rw [if_pos c7] at H
     have c7b0 := eq_true c7; have c7b1 : decide (0 ≤ t946) = true := decide_eq_true c7; clear c7; obtain ⟨ji8, hji8⟩ : ∃ j_ : Int, (shr .i64 a2 t946) = j_ := ⟨_, rfl⟩; replace H : (if (Go.bits .and .i64 (ji8) 1) = 1 then (if 0 ≤ t945 then (spec_l6kIn.l0 k1 a1 a2 (Go.bits .or .i64 x7_1 (shl .i64 1 t945)) (wrap64 (x8_1 + 1)) a0_0 l0_1) else (none)) else (spec_l6kIn.l0 k1 a1 a2 x7_1 (wrap64 (x8_1 + 1)) a0_0 l0_1)) = some r := by first | (rw [hji8] at H; exact H) | (simp only [hji8] at H ⊢; exact H)
     (try rw [hji8] at A6)
     have hji8_ : (a2 / 2 ^ min t946.toNat 64) = ji8 := hji8; have hji8z : t946 ≤ 64 → (a2 / 2 ^ t946.toNat) = ji8 := shr_small hji8
     by_cases c9 : (Go.bits .and .i64 (ji8) 1) = 1
     ·rw [if_pos c9] at H
      have c9b0 : ((Go.bits .and .i64 (ji8) 1) == 1) = true := beq_iff_eq.mpr c9; have c9b1 : ((Go.bits .and .i64 (ji8) 1) != 1) = false := bne_eq_false_iff_eq.mpr c9; clear c9
      by_cases c10 : 0 ≤ t945
      ·rw [if_pos c10] at H
       have c10b0 := eq_true c10; have c10b1 : decide (0 ≤ t945) = true := decide_eq_true c10; clear c10; obtain ⟨ji11, hji11⟩ : ∃ j_ : Int, (shl .i64 1 t945) = j_ := ⟨_, rfl⟩; replace H : (spec_l6kIn.l0 k1 a1 a2 (Go.bits .or .i64 x7_1 (ji11)) (wrap64 (x8_1 + 1)) a0_0 l0_1) = some r := by first | (rw [hji11] at H; exact H) | (simp only [hji11] at H ⊢; exact H)
       (try rw [hji11] at A6)
       have hji11_ : (IntKind.i64.wrap (1 * 2 ^ min t945.toNat 64)) = ji11 := hji11; have hji11z : t945 ≤ 64 → (IntKind.i64.wrap (1 * 2 ^ t945.toNat)) = ji11 := shl_small hji11; have hji11u : (IntKind.i64.wrap (2 ^ min t945.toNat 64)) = ji11 := by have h_ := hji11_; rw [Int.one_mul] at h_; exact h_
       have hji11v : t945 ≤ 64 → (IntKind.i64.wrap (2 ^ t945.toNat)) = ji11 := fun hle_ => by have h_ := hji11z hle_; rw [Int.one_mul] at h_; exact h_
       have hji11y : (wrap64 (1 * 2 ^ min t945.toNat 64)) = ji11 := (i64_w _).symm.trans hji11_; have hji11x : t945 ≤ 64 → (wrap64 (1 * 2 ^ t945.toNat)) = ji11 := fun h_ => (i64_w _).symm.trans (hji11z h_); have H' := Aside0.mk H; clear H; have hcz12_0 : wr.cell? ⟨gb944, 0, none⟩ = some (.int .i64 a0_0) := (blk_cell BK944.out 0).trans rfl; have hcz12_1 : wr.cell? ⟨gb944, 1, none⟩ = some (.slice A0_1 l0_1.length c0_1) := (blk_cell BK944.out 1).trans rfl; have hfz12_0 := blk_frozen BK944.out 0; have hfz12_1 := blk_frozen BK944.out 1
       go_wp2_with (first | ((with_reducible refine gate_callee (f := 86) rfl ?_); refine goesL_ (some 23) rfl rfl Try.func86 (by kernel_rfl) rfl #[.agg #[.int .i64 a0_0, .slice A0_1 l0_1.length c0_1], .int .i64 a1, .int .i64 x8_1] rfl (by (try simp only [List.map_toArray, List.map_cons, List.map_nil]); first | done | rfl | (simp only [List.length_drop, List.length_take]; rfl)) ?_; (with_reducible refine (spec_l1Ends.calls a0_0 _ _ l0_1 a1 x8_1 t945 t946 _ ?side1 ?side2 A6.out).mono ?_); (case side1 => repeat (first | exact (Kd.C_below HR0_1.out HB.out) | (with_reducible refine Kd.C_alloc ?_ _) | (with_reducible refine Kd.C_drewN ?_ _) | (with_reducible refine Kd.C_drew ?_))); (case side2 => exact HC0_1.out); rintro e w13 ⟨rfl, hb⟩; refine ⟨_, rfl, ?_⟩; have n0_ := Aside0.mk (blk_below (g := gb944) (o := .cells #[.int .i64 a0_0, .slice A0_1 l0_1.length c0_1] 30 (0, 0)) (viaB BK944.out) hb); have n1_ := Aside0.mk (below_step (viaX HB.out GE944.out) hb); clear BK944; clear HB; have BK944 := n0_; have HB := n1_; clear n0_ n1_; (try clear hb); (try clear hb2); (try clear hk); (try clear hi)))
       go_roundg k1
       case measure => have := HK1.out; omega
       case rel => exact ⟨(Go.bits .or .i64 x7_1 (ji11)), (wrap64 (x8_1 + 1)), (by first | rfl | (simp; done) | (simp only [← hji11] <;> (first | rfl | simp)) | (simp [*]; done)), (by first | rfl | (simp; done) | (simp [*]; done)), H', ⟨by have := HK1.out; omega⟩, ⟨viaB BK944.out⟩, ⟨viaX HB.out GE944.out⟩⟩
      ·rw [if_neg c10] at H
       exact absurd H (by simp)
     ·rw [if_neg c9] at H
      have c9b0 : ((Go.bits .and .i64 (ji8) 1) == 1) = false := beq_eq_false_iff_ne.mpr c9; have c9b1 : ((Go.bits .and .i64 (ji8) 1) != 1) = true := bne_iff_ne.mpr c9; have H' := Aside0.mk H; clear H; have hcz14_0 : wr.cell? ⟨gb944, 0, none⟩ = some (.int .i64 a0_0) := (blk_cell BK944.out 0).trans rfl; have hcz14_1 : wr.cell? ⟨gb944, 1, none⟩ = some (.slice A0_1 l0_1.length c0_1) := (blk_cell BK944.out 1).trans rfl; have hfz14_0 := blk_frozen BK944.out 0; have hfz14_1 := blk_frozen BK944.out 1
      go_wp2_with (first | ((with_reducible refine gate_callee (f := 86) rfl ?_); refine goesL_ (some 23) rfl rfl Try.func86 (by kernel_rfl) rfl #[.agg #[.int .i64 a0_0, .slice A0_1 l0_1.length c0_1], .int .i64 a1, .int .i64 x8_1] rfl (by (try simp only [List.map_toArray, List.map_cons, List.map_nil]); first | done | rfl | (simp only [List.length_drop, List.length_take]; rfl)) ?_; (with_reducible refine (spec_l1Ends.calls a0_0 _ _ l0_1 a1 x8_1 t945 t946 _ ?side1 ?side2 A6.out).mono ?_); (case side1 => repeat (first | exact (Kd.C_below HR0_1.out HB.out) | (with_reducible refine Kd.C_alloc ?_ _) | (with_reducible refine Kd.C_drewN ?_ _) | (with_reducible refine Kd.C_drew ?_))); (case side2 => exact HC0_1.out); rintro e w15 ⟨rfl, hb⟩; refine ⟨_, rfl, ?_⟩; have n0_ := Aside0.mk (blk_below (g := gb944) (o := .cells #[.int .i64 a0_0, .slice A0_1 l0_1.length c0_1] 30 (0, 0)) (viaB BK944.out) hb); have n1_ := Aside0.mk (below_step (viaX HB.out GE944.out) hb); clear BK944; clear HB; have BK944 := n0_; have HB := n1_; clear n0_ n1_; (try clear hb); (try clear hb2); (try clear hk); (try clear hi)))
      go_roundg k1
      case measure => have := HK1.out; omega
      case rel => exact ⟨(x7_1), (wrap64 (x8_1 + 1)), (by first | rfl | (simp; done) | (simp [*]; done)), (by first | rfl | (simp; done) | (simp [*]; done)), H', ⟨by have := HK1.out; omega⟩, ⟨viaB BK944.out⟩, ⟨viaX HB.out GE944.out⟩⟩
    ·rw [if_neg c7] at H
     exact absurd H (by simp)
   ·rw [if_neg c5] at H
    have c5b0 : decide (x8_1 < (l0_1.length : Int)) = false := decide_eq_false c5; clear c5; replace H := Option.bind_eq_some_iff.mp H; obtain ⟨t947, A160, H⟩ := H; replace H : (if t947 = true then (if 0 ≤ a0_0 then (some (x7_1 == (wrap64 ((shl .i64 1 a0_0) - 1)))) else (none)) else (some false)) = some r := H; have A16 := Aside0.mk A160; clear A160
    by_cases c17 : t947 = true
    ·subst c17
     have H1 : (if 0 ≤ a0_0 then (some (x7_1 == (wrap64 ((shl .i64 1 a0_0) - 1)))) else (none)) = some r := by rw [if_pos rfl] at H; exact H
     clear H; have H := H1; clear H1
     by_cases c18 : 0 ≤ a0_0
     ·rw [if_pos c18] at H
      have c18b0 := eq_true c18; have c18b1 : decide (0 ≤ a0_0) = true := decide_eq_true c18; clear c18; obtain ⟨ji19, hji19⟩ : ∃ j_ : Int, (shl .i64 1 a0_0) = j_ := ⟨_, rfl⟩; replace H : (some (x7_1 == (wrap64 ((ji19) - 1)))) = some r := by first | (rw [hji19] at H; exact H) | (simp only [hji19] at H ⊢; exact H)
      (try rw [hji19] at A16)
      have hji19_ : (IntKind.i64.wrap (1 * 2 ^ min a0_0.toNat 64)) = ji19 := hji19; have hji19z : a0_0 ≤ 64 → (IntKind.i64.wrap (1 * 2 ^ a0_0.toNat)) = ji19 := shl_small hji19; have hji19u : (IntKind.i64.wrap (2 ^ min a0_0.toNat 64)) = ji19 := by have h_ := hji19_; rw [Int.one_mul] at h_; exact h_
      have hji19v : a0_0 ≤ 64 → (IntKind.i64.wrap (2 ^ a0_0.toNat)) = ji19 := fun hle_ => by have h_ := hji19z hle_; rw [Int.one_mul] at h_; exact h_
      have hji19y : (wrap64 (1 * 2 ^ min a0_0.toNat 64)) = ji19 := (i64_w _).symm.trans hji19_; have hji19x : a0_0 ≤ 64 → (wrap64 (1 * 2 ^ a0_0.toNat)) = ji19 := fun h_ => (i64_w _).symm.trans (hji19z h_); obtain rfl := Option.some.inj H; have hcz20_0 : wr.cell? ⟨gb944, 0, none⟩ = some (.int .i64 a0_0) := (blk_cell BK944.out 0).trans rfl; have hcz20_1 : wr.cell? ⟨gb944, 1, none⟩ = some (.slice A0_1 l0_1.length c0_1) := (blk_cell BK944.out 1).trans rfl; have hfz20_0 := blk_frozen BK944.out 0; have hfz20_1 := blk_frozen BK944.out 1
      go_wp2_with (first | ((with_reducible refine gate_callee (f := 131) rfl ?_); refine goesL_ (some 37) rfl rfl Try.func131 (by kernel_rfl) rfl #[.agg #[.int .i64 a0_0, .slice A0_1 l0_1.length c0_1], .int .i64 a2] rfl (by (try simp only [List.map_toArray, List.map_cons, List.map_nil]); first | done | rfl | (simp only [List.length_drop, List.length_take]; rfl)) ?_; (with_reducible refine (spec_l6kFree.calls k1 a0_0 _ _ l0_1 a2 true _ ?side1 ?side2 A16.out).mono ?_); (case side1 => repeat (first | exact (Kd.C_below HR0_1.out HB.out) | (with_reducible refine Kd.C_alloc ?_ _) | (with_reducible refine Kd.C_drewN ?_ _) | (with_reducible refine Kd.C_drew ?_))); (case side2 => exact HC0_1.out); rintro e w21 ⟨rfl, hb⟩; refine ⟨_, rfl, ?_⟩; have n0_ := Aside0.mk (blk_below (g := gb944) (o := .cells #[.int .i64 a0_0, .slice A0_1 l0_1.length c0_1] 30 (0, 0)) (viaB BK944.out) hb); have n1_ := Aside0.mk (below_step (viaX HB.out GE944.out) hb); clear BK944; clear HB; have BK944 := n0_; have HB := n1_; clear n0_ n1_; (try clear hb); (try clear hb2); (try clear hk); (try clear hi); have hcz22_0 : w21.cell? ⟨gb944, 0, none⟩ = some (.int .i64 a0_0) := (blk_cell BK944.out 0).trans rfl; have hcz22_1 : w21.cell? ⟨gb944, 1, none⟩ = some (.slice A0_1 l0_1.length c0_1) := (blk_cell BK944.out 1).trans rfl; have hfz22_0 := blk_frozen BK944.out 0; have hfz22_1 := blk_frozen BK944.out 1))
      go_ret
      exact ⟨by first | rfl | (simp [errW_none, errW_some] <;> rfl) | (simp only [← hji19]; first | rfl | (simp [errW_none, errW_some] <;> rfl)) | (simp [*, errW_none, errW_some] <;> rfl), viaX HB.out GE944.out⟩
     ·rw [if_neg c18] at H
      exact absurd H (by simp)
    ·replace c17 := Bool.eq_false_iff.mpr c17
     subst c17; have H1 : (some false) = some r := by rw [if_neg (show ¬ (false = true) by decide)] at H; exact H
     clear H; have H := H1; clear H1; obtain rfl := Option.some.inj H; have hcz23_0 : wr.cell? ⟨gb944, 0, none⟩ = some (.int .i64 a0_0) := (blk_cell BK944.out 0).trans rfl; have hcz23_1 : wr.cell? ⟨gb944, 1, none⟩ = some (.slice A0_1 l0_1.length c0_1) := (blk_cell BK944.out 1).trans rfl; have hfz23_0 := blk_frozen BK944.out 0; have hfz23_1 := blk_frozen BK944.out 1
     go_wp2_with (first | ((with_reducible refine gate_callee (f := 131) rfl ?_); refine goesL_ (some 37) rfl rfl Try.func131 (by kernel_rfl) rfl #[.agg #[.int .i64 a0_0, .slice A0_1 l0_1.length c0_1], .int .i64 a2] rfl (by (try simp only [List.map_toArray, List.map_cons, List.map_nil]); first | done | rfl | (simp only [List.length_drop, List.length_take]; rfl)) ?_; (with_reducible refine (spec_l6kFree.calls k1 a0_0 _ _ l0_1 a2 false _ ?side1 ?side2 A16.out).mono ?_); (case side1 => repeat (first | exact (Kd.C_below HR0_1.out HB.out) | (with_reducible refine Kd.C_alloc ?_ _) | (with_reducible refine Kd.C_drewN ?_ _) | (with_reducible refine Kd.C_drew ?_))); (case side2 => exact HC0_1.out); rintro e w24 ⟨rfl, hb⟩; refine ⟨_, rfl, ?_⟩; have n0_ := Aside0.mk (blk_below (g := gb944) (o := .cells #[.int .i64 a0_0, .slice A0_1 l0_1.length c0_1] 30 (0, 0)) (viaB BK944.out) hb); have n1_ := Aside0.mk (below_step (viaX HB.out GE944.out) hb); clear BK944; clear HB; have BK944 := n0_; have HB := n1_; clear n0_ n1_; (try clear hb); (try clear hb2); (try clear hk); (try clear hi)))
     go_ret
     exact ⟨by first | rfl | (simp [errW_none, errW_some] <;> rfl) | (simp [*, errW_none, errW_some] <;> rfl), viaX HB.out GE944.out⟩

/-! ### spec_l6kAll: function 106 -/
def spec_l6kAll.l0 : Nat → Int → List Int → Int → Int → List (S44) → Option (List Int)
 | 0, _, _, _, _, _ => none
 | k + 1, x1, x5, x6, x949000, x949001 => if 0 ≤ x949000 then (if x6 < (shl .i64 1 x949000) then ((spec_l6kIn.f k x949000 x949001 x1 x6).bind fun t952 => (if t952 = true then (if x5.length < 17592186044416 then (spec_l6kAll.l0 k x1 (x5 ++ [x6]) (wrap64 (x6 + 1)) x949000 x949001) else (none)) else (spec_l6kAll.l0 k x1 x5 (wrap64 (x6 + 1)) x949000 x949001))) else (some x5)) else (none)
def spec_l6kAll.f (k : Nat) (a0_0 : Int) (l0_1 : List (S44)) (a1 : Int) : Option (List Int) := spec_l6kAll.l0 k a1 (([] : List Int)) 0 a0_0 l0_1
theorem spec_l6kAll.mono_l : ∀ k, (∀ y0 y1 y2 y3 y4, LeO (spec_l6kAll.l0 k y0 y1 y2 y3 y4) (spec_l6kAll.l0 (k + 1) y0 y1 y2 y3 y4))
 | 0 => fun _ _ _ _ _ r h => by simp [spec_l6kAll.l0] at h
 | k + 1 => by
  have ih0 := spec_l6kAll.mono_l k
  ·intro y0 y1 y2 y3 y4
   unfold spec_l6kAll.l0
   repeat' first
   | (with_reducible exact ih0 _ _ _ _ _)
   | (with_reducible exact spec_l6kIn.mono _ _ _ _ _)
   | (with_reducible exact LeO.refl _)
   | (with_reducible exact LeO.none _)
   | (with_reducible refine LeO.ite ?_ ?_)
   | (with_reducible refine LeO.bind ?_ (fun _ => ?_))
   | exact ih0 _ _ _ _ _
   | exact spec_l6kIn.mono _ _ _ _ _
   | exact LeO.none _
   | refine LeO.ite ?_ ?_
   | refine LeO.bind ?_ (fun _ => ?_)
theorem spec_l6kAll.mono : ∀ a0 a1 a2 k, LeO (spec_l6kAll.f k a0 a1 a2) (spec_l6kAll.f (k + 1) a0 a1 a2) := by
 intro a0 a1 a2 k; have ih0 := spec_l6kAll.mono_l k
 unfold spec_l6kAll.f
 repeat' first
   | (with_reducible exact ih0 _ _ _ _ _)
   | (with_reducible exact spec_l6kIn.mono _ _ _ _ _)
   | (with_reducible exact LeO.refl _)
   | (with_reducible exact LeO.none _)
   | (with_reducible refine LeO.ite ?_ ?_)
   | (with_reducible refine LeO.bind ?_ (fun _ => ?_))
   | exact ih0 _ _ _ _ _
   | exact spec_l6kIn.mono _ _ _ _ _
   | exact LeO.none _
   | refine LeO.ite ?_ ?_
   | refine LeO.bind ?_ (fun _ => ?_)
set_option maxHeartbeats 8000000 in
set_option maxRecDepth 100000 in
theorem spec_l6kAll.calls (k : Nat) (a0_0 : Int) (A0_1 : Option Addr) (c0_1 : Nat) (l0_1 : List (S44)) (a1 : Int) (r : List Int) (w : World) (hr0_1 : Kd.C k44 w A0_1 l0_1.length l0_1) (hc0_1 : l0_1.length ≤ c0_1) (h : spec_l6kAll.f k a0_0 l0_1 a1 = some r) :
  Calls Try.prog 106 #[.agg #[.int .i64 a0_0, .slice A0_1 l0_1.length c0_1], .int .i64 a1] w fun e w' => ∃ v0_ : Value, e = .returned (v0_) ∧ Kd.R (Kd.int .i64) 3 w' w.heap.size (fun _ => True) v0_ r ∧ Below w.heap.size w w' := by
 have hu30 := Try.underlying30; have HR0_1 := Aside0.mk hr0_1; have HC0_1 := Aside0.mk hc0_1; clear hr0_1 hc0_1; have HB := Aside0.mk (Below.refl w.heap.size w); have H : (spec_l6kAll.l0 k a1 (([] : List Int)) 0 a0_0 l0_1) = some r := h; clear h; obtain ⟨y949, hy949⟩ : ∃ y_ : List Int, y_ = (([] : List Int)) := ⟨_, rfl⟩; replace H : (spec_l6kAll.l0 k a1 y949 0 a0_0 l0_1) = some r := by first | (rw [hy949]; with_reducible exact H) | (have H2_ := (Option.bind_some _ _).symm.trans H; rw [hy949]; with_reducible exact H2_) | (have H2_ := (Option.bind_some _ _).symm.trans H; with_reducible exact H2_) | with_reducible exact H | (rw [hy949]; exact H) | exact H
 have Ny949 := Aside0.mk hy949; clear hy949; have H' := Aside0.mk H; clear H
 go_enter Try.func106, Try.ntmps106
 go_wp2_with (first | ((with_reducible refine gate_dst (N := 2) rfl ?_); refine box_event ?hg (N := 2) ?hd (cs := #[.int .i64 a0_0, .slice A0_1 l0_1.length c0_1]) (t := 30) ?hr ?_; (case hd => rfl); (case hg => rfl); (case hr => first | (go_simp; done) | (go_simp; rfl)); intro gb948 hg w3 hbox hb; have n0_ := Aside0.mk (below_step (viaW HB.out) hb); have n1_ := Aside0.mk (hbox); have n2_ := Aside0.mk ((by rw [hg]; exact (below_size (viaW HB.out)) : w.heap.size ≤ gb948)); have n3_ := Aside0.mk ((by rw [hg]; exact (below_size (viaW HB.out)) : w.heap.size ≤ gb948)); clear HB; have HB := n0_; have BK948 := n1_; have GW948 := n2_; have GE948 := n3_; clear n0_ n1_ n2_ n3_; clear hb hbox hg) | ((with_reducible refine gate_dst (N := 7) rfl ?_); refine Kd.R_lit (Kd.int .i64) _ 3 ?hg (N := 7) ?hd (xs := ([] : List Int)) (inner := []) (ok := fun _ => True) (okp := fun _ => True) ?hr ?hp (fun _ hk => hk) trivial (Below.refl _ _) (Nat.le_refl _) (by simp) ?_; (case hd => rfl); (case hg => rfl); (case hr => first | (go_simp; done) | (go_simp; rfl)); (case hp => exact (Reps.none _ _)); intro v950 w4 ho5 hb hg_ hnew_; clear hg_ hnew_; (first | rw [← Ny949.out] at ho5 | (simp only [Int.reduceToNat] at ho5; rw [← Ny949.out] at ho5)); have n0_ := Aside0.mk (Kd.R_lower ho5 (below_size (viaX HB.out GE948.out))); have n1_ := Aside0.mk (blk_below (g := gb948) (o := .cells #[.int .i64 a0_0, .slice A0_1 l0_1.length c0_1] 30 (0, 0)) (viaB BK948.out) hb); have n2_ := Aside0.mk (below_step (viaX HB.out GE948.out) hb); clear BK948; clear HB; have HO951 := n0_; have BK948 := n1_; have HB := n2_; clear n0_ n1_ n2_; clear hb ho5))
 go_loopg [5, 6] k (fun kq v5 v6 w' => ∃ (x5_1 : List Int) (x6_1 : Int), v6 = .int .i64 x6_1 ∧ Aside0 (spec_l6kAll.l0 kq a1 x5_1 x6_1 a0_0 l0_1 = some r) ∧ Aside0 (kq ≤ k) ∧ Aside0 (Kd.R (Kd.int .i64) 3 w' w.heap.size (fun _ => True) v5 x5_1) ∧ Aside0 (w'.heap[gb948]? = some (.cells #[.int .i64 a0_0, (.slice A0_1 l0_1.length c0_1)] 30 (0, 0))) ∧ Aside0 (Below w.heap.size w w'))
 case atStart => exact ⟨(y949), (0), (by first | rfl | (simp; done) | (simp [*]; done)), H', ⟨Nat.le_refl _⟩, ⟨viaR HO951.out⟩, ⟨viaB BK948.out⟩, ⟨viaX HB.out GE948.out⟩⟩
 case round =>
  clear H'
  try clear c1
  try clear p2
  obtain ⟨x5_1, x6_1, rfl, HA, HK1, HO_5, BK948, HB⟩ := hrel
  cases gk with
  | zero => exact absurd HA.out (by simp [spec_l6kAll.l0])
  | succ k1 =>
   have H := HA.out; clear HA
   simp only [spec_l6kAll.l0] at H
   by_cases c6 : 0 ≤ a0_0
   ·rw [if_pos c6] at H
    have c6b0 := eq_true c6; have c6b1 : decide (0 ≤ a0_0) = true := decide_eq_true c6; clear c6; obtain ⟨ji7, hji7⟩ : ∃ j_ : Int, (shl .i64 1 a0_0) = j_ := ⟨_, rfl⟩; replace H : (if x6_1 < (ji7) then ((spec_l6kIn.f k1 a0_0 l0_1 a1 x6_1).bind fun t952 => (if t952 = true then (if x5_1.length < 17592186044416 then (spec_l6kAll.l0 k1 a1 (x5_1 ++ [x6_1]) (wrap64 (x6_1 + 1)) a0_0 l0_1) else (none)) else (spec_l6kAll.l0 k1 a1 x5_1 (wrap64 (x6_1 + 1)) a0_0 l0_1))) else (some x5_1)) = some r := by first | (rw [hji7] at H; exact H) | (simp only [hji7] at H ⊢; exact H)
    have hji7_ : (IntKind.i64.wrap (1 * 2 ^ min a0_0.toNat 64)) = ji7 := hji7; have hji7z : a0_0 ≤ 64 → (IntKind.i64.wrap (1 * 2 ^ a0_0.toNat)) = ji7 := shl_small hji7; have hji7u : (IntKind.i64.wrap (2 ^ min a0_0.toNat 64)) = ji7 := by have h_ := hji7_; rw [Int.one_mul] at h_; exact h_
    have hji7v : a0_0 ≤ 64 → (IntKind.i64.wrap (2 ^ a0_0.toNat)) = ji7 := fun hle_ => by have h_ := hji7z hle_; rw [Int.one_mul] at h_; exact h_
    have hji7y : (wrap64 (1 * 2 ^ min a0_0.toNat 64)) = ji7 := (i64_w _).symm.trans hji7_; have hji7x : a0_0 ≤ 64 → (wrap64 (1 * 2 ^ a0_0.toNat)) = ji7 := fun h_ => (i64_w _).symm.trans (hji7z h_)
    by_cases c8 : x6_1 < (ji7)
    ·rw [if_pos c8] at H
     have c8b0 : decide (x6_1 < (ji7)) = true := decide_eq_true c8; clear c8; replace H := Option.bind_eq_some_iff.mp H; obtain ⟨t952, A90, H⟩ := H; replace H : (if t952 = true then (if x5_1.length < 17592186044416 then (spec_l6kAll.l0 k1 a1 (x5_1 ++ [x6_1]) (wrap64 (x6_1 + 1)) a0_0 l0_1) else (none)) else (spec_l6kAll.l0 k1 a1 x5_1 (wrap64 (x6_1 + 1)) a0_0 l0_1)) = some r := H; have A9 := Aside0.mk A90; clear A90
     by_cases c10 : t952 = true
     ·subst c10
      have H1 : (if x5_1.length < 17592186044416 then (spec_l6kAll.l0 k1 a1 (x5_1 ++ [x6_1]) (wrap64 (x6_1 + 1)) a0_0 l0_1) else (none)) = some r := by rw [if_pos rfl] at H; exact H
      clear H; have H := H1; clear H1
      by_cases c11 : x5_1.length < 17592186044416
      ·rw [if_pos c11] at H
       have LMc11 := Aside0.mk c11; clear c11; obtain ⟨y953, hy953⟩ : ∃ y_ : List Int, y_ = (x5_1 ++ [x6_1]) := ⟨_, rfl⟩; replace H : (spec_l6kAll.l0 k1 a1 y953 (wrap64 (x6_1 + 1)) a0_0 l0_1) = some r := by first | (rw [hy953]; with_reducible exact H) | (have H2_ := (Option.bind_some _ _).symm.trans H; rw [hy953]; with_reducible exact H2_) | (have H2_ := (Option.bind_some _ _).symm.trans H; with_reducible exact H2_) | with_reducible exact H | (rw [hy953]; exact H) | exact H
       have Ny953 := Aside0.mk hy953; clear hy953; have H' := Aside0.mk H; clear H; have hcz12_0 : wr.cell? ⟨gb948, 0, none⟩ = some (.int .i64 a0_0) := (blk_cell BK948.out 0).trans rfl; have hcz12_1 : wr.cell? ⟨gb948, 1, none⟩ = some (.slice A0_1 l0_1.length c0_1) := (blk_cell BK948.out 1).trans rfl; have hfz12_0 := blk_frozen BK948.out 0; have hfz12_1 := blk_frozen BK948.out 1
       go_wp2_with (first | ((with_reducible refine gate_callee (f := 125) rfl ?_); refine goesL_ (some 18) rfl rfl Try.func125 (by kernel_rfl) rfl #[.agg #[.int .i64 a0_0, .slice A0_1 l0_1.length c0_1], .int .i64 a1, .int .i64 x6_1] rfl (by (try simp only [List.map_toArray, List.map_cons, List.map_nil]); first | done | rfl | (simp only [List.length_drop, List.length_take]; rfl)) ?_; (with_reducible refine (spec_l6kIn.calls k1 a0_0 _ _ l0_1 a1 x6_1 true _ ?side1 ?side2 A9.out).mono ?_); (case side1 => repeat (first | exact (Kd.C_below HR0_1.out HB.out) | (with_reducible refine Kd.C_alloc ?_ _) | (with_reducible refine Kd.C_drewN ?_ _) | (with_reducible refine Kd.C_drew ?_))); (case side2 => exact HC0_1.out); rintro e w13 ⟨rfl, hb⟩; refine ⟨_, rfl, ?_⟩; have n0_ := Aside0.mk (Kd.R_below (viaR HO_5.out) hb); have n1_ := Aside0.mk (blk_below (g := gb948) (o := .cells #[.int .i64 a0_0, .slice A0_1 l0_1.length c0_1] 30 (0, 0)) (viaB BK948.out) hb); have n2_ := Aside0.mk (below_step (viaX HB.out GE948.out) hb); clear HO_5; clear BK948; clear HB; have HO_5 := n0_; have BK948 := n1_; have HB := n2_; clear n0_ n1_ n2_; (try clear hb); (try clear hb2); (try clear hk); (try clear hi)) | ((with_reducible refine gate_builtin (b := .append) (xs := #[.tmp 19, .tmp 21]) rfl ?_); at_builtin; refine Kd.R_append (Kd.int .i64) (w0 := w) w.heap.size rfl (.tmp 19) (.tmp 21) 39 3 (.int .i64 0) 8 rfl Try.underlying39 info3 rfl (by decide) (by omega) u5 x5_1 x6_1 [.int .i64 x6_1] (fun _ => True) (fun _ => False) rfl rfl ?aP (fun _ hk => hk.elim) ?aF ?aO ?aB ?aS ?aL ?_; (case aP => exact rfl); (case aB => exact (viaX HB.out GE948.out)); (case aF => exact (fun _ _ => trivial)); (case aO => exact (viaR HO_5.out)); (case aS => exact (below_size (viaX HB.out GE948.out))); (case aL => have := LMc11.out; omega); intro v954 w14 ho hb hg hat; rw [← Ny953.out] at ho; have n0_ := Aside0.mk (blk_grown (g := gb948) (o := .cells #[.int .i64 a0_0, .slice A0_1 l0_1.length c0_1] 30 (0, 0)) (viaB BK948.out) hg (Kd.R_ne HO_5.out BK948.out (by decide))); have n1_ := Aside0.mk (hb); have n2_ := Aside0.mk (ho); clear BK948; clear HB; clear HO_5; have BK948 := n0_; have HB := n1_; have HO955 := n2_; clear n0_ n1_ n2_; clear ho hb hg hat))
       go_roundg k1
       case measure => have := HK1.out; omega
       case rel => exact ⟨(y953), (wrap64 (x6_1 + 1)), (by first | rfl | (simp; done) | (simp [*]; done)), H', ⟨by have := HK1.out; omega⟩, ⟨viaR HO955.out⟩, ⟨viaB BK948.out⟩, ⟨viaX HB.out GE948.out⟩⟩
      ·rw [if_neg c11] at H
       exact absurd H (by simp)
     ·replace c10 := Bool.eq_false_iff.mpr c10
      subst c10; have H1 : (spec_l6kAll.l0 k1 a1 x5_1 (wrap64 (x6_1 + 1)) a0_0 l0_1) = some r := by rw [if_neg (show ¬ (false = true) by decide)] at H; exact H
      clear H; have H := H1; clear H1; have H' := Aside0.mk H; clear H; have hcz15_0 : wr.cell? ⟨gb948, 0, none⟩ = some (.int .i64 a0_0) := (blk_cell BK948.out 0).trans rfl; have hcz15_1 : wr.cell? ⟨gb948, 1, none⟩ = some (.slice A0_1 l0_1.length c0_1) := (blk_cell BK948.out 1).trans rfl; have hfz15_0 := blk_frozen BK948.out 0; have hfz15_1 := blk_frozen BK948.out 1
      go_wp2_with (first | ((with_reducible refine gate_callee (f := 125) rfl ?_); refine goesL_ (some 18) rfl rfl Try.func125 (by kernel_rfl) rfl #[.agg #[.int .i64 a0_0, .slice A0_1 l0_1.length c0_1], .int .i64 a1, .int .i64 x6_1] rfl (by (try simp only [List.map_toArray, List.map_cons, List.map_nil]); first | done | rfl | (simp only [List.length_drop, List.length_take]; rfl)) ?_; (with_reducible refine (spec_l6kIn.calls k1 a0_0 _ _ l0_1 a1 x6_1 false _ ?side1 ?side2 A9.out).mono ?_); (case side1 => repeat (first | exact (Kd.C_below HR0_1.out HB.out) | (with_reducible refine Kd.C_alloc ?_ _) | (with_reducible refine Kd.C_drewN ?_ _) | (with_reducible refine Kd.C_drew ?_))); (case side2 => exact HC0_1.out); rintro e w16 ⟨rfl, hb⟩; refine ⟨_, rfl, ?_⟩; have n0_ := Aside0.mk (Kd.R_below (viaR HO_5.out) hb); have n1_ := Aside0.mk (blk_below (g := gb948) (o := .cells #[.int .i64 a0_0, .slice A0_1 l0_1.length c0_1] 30 (0, 0)) (viaB BK948.out) hb); have n2_ := Aside0.mk (below_step (viaX HB.out GE948.out) hb); clear HO_5; clear BK948; clear HB; have HO_5 := n0_; have BK948 := n1_; have HB := n2_; clear n0_ n1_ n2_; (try clear hb); (try clear hb2); (try clear hk); (try clear hi)))
      go_roundg k1
      case measure => have := HK1.out; omega
      case rel => exact ⟨(x5_1), (wrap64 (x6_1 + 1)), (by first | rfl | (simp; done) | (simp [*]; done)), H', ⟨by have := HK1.out; omega⟩, ⟨viaR HO_5.out⟩, ⟨viaB BK948.out⟩, ⟨viaX HB.out GE948.out⟩⟩
    ·rw [if_neg c8] at H
     have c8b0 : decide (x6_1 < (ji7)) = false := decide_eq_false c8; clear c8; obtain rfl := Option.some.inj H; have hcz17_0 : wr.cell? ⟨gb948, 0, none⟩ = some (.int .i64 a0_0) := (blk_cell BK948.out 0).trans rfl; have hcz17_1 : wr.cell? ⟨gb948, 1, none⟩ = some (.slice A0_1 l0_1.length c0_1) := (blk_cell BK948.out 1).trans rfl; have hfz17_0 := blk_frozen BK948.out 0; have hfz17_1 := blk_frozen BK948.out 1
     go_wp2
     go_ret
     exact ⟨_, by first | rfl | (simp [errW_none, errW_some] <;> rfl) | (simp only [← hji7]; first | rfl | (simp [errW_none, errW_some] <;> rfl)) | (simp [*, errW_none, errW_some] <;> rfl), viaR HO_5.out, viaX HB.out GE948.out⟩
   ·rw [if_neg c6] at H
    exact absurd H (by simp)

/-! ### spec_KernelMany: function 59 -/
def spec_KernelMany.l0 : Nat → Int → Int → Int → List (S44) → Option (Int × Bool)
 | 0, _, _, _, _ => none
 | k + 1, x4, x5, x957000, x957001 => (spec_l1All.f x957000 x957001).bind fun t958 => (if x5 ≤ t958 then ((spec_l6kAll.f k x957000 x957001 x5).bind fun t959 => (if (t959.length : Int) > 0 then (spec_KernelMany.l0 k (wrap64 (x4 + 1)) (wrap64 (x5 + 1)) x957000 x957001) else (spec_KernelMany.l0 k x4 (wrap64 (x5 + 1)) x957000 x957001))) else (some (x4, true)))
def spec_KernelMany.f (k : Nat) (a0_0 : Int) (l0_1 : List (S44)) : Option (Int × Bool) := (spec_WayGraph.f k a0_0 l0_1).bind fun t957 => (if t957 = true then (spec_KernelMany.l0 k 0 0 a0_0 l0_1) else (some (0, false)))
theorem spec_KernelMany.mono_l : ∀ k, (∀ y0 y1 y2 y3, LeO (spec_KernelMany.l0 k y0 y1 y2 y3) (spec_KernelMany.l0 (k + 1) y0 y1 y2 y3))
 | 0 => fun _ _ _ _ r h => by simp [spec_KernelMany.l0] at h
 | k + 1 => by
  have ih0 := spec_KernelMany.mono_l k
  ·intro y0 y1 y2 y3
   unfold spec_KernelMany.l0
   repeat' first
   | (with_reducible exact ih0 _ _ _ _)
   | (with_reducible exact spec_WayGraph.mono _ _ _)
   | (with_reducible exact spec_l6kAll.mono _ _ _ _)
   | (with_reducible exact LeO.refl _)
   | (with_reducible exact LeO.none _)
   | (with_reducible refine LeO.ite ?_ ?_)
   | (with_reducible refine LeO.bind ?_ (fun _ => ?_))
   | exact ih0 _ _ _ _
   | exact spec_WayGraph.mono _ _ _
   | exact spec_l6kAll.mono _ _ _ _
   | exact LeO.none _
   | refine LeO.ite ?_ ?_
   | refine LeO.bind ?_ (fun _ => ?_)
theorem spec_KernelMany.mono : ∀ a0 a1 k, LeO (spec_KernelMany.f k a0 a1) (spec_KernelMany.f (k + 1) a0 a1) := by
 intro a0 a1 k; have ih0 := spec_KernelMany.mono_l k
 unfold spec_KernelMany.f
 repeat' first
   | (with_reducible exact ih0 _ _ _ _)
   | (with_reducible exact spec_WayGraph.mono _ _ _)
   | (with_reducible exact spec_l6kAll.mono _ _ _ _)
   | (with_reducible exact LeO.refl _)
   | (with_reducible exact LeO.none _)
   | (with_reducible refine LeO.ite ?_ ?_)
   | (with_reducible refine LeO.bind ?_ (fun _ => ?_))
   | exact ih0 _ _ _ _
   | exact spec_WayGraph.mono _ _ _
   | exact spec_l6kAll.mono _ _ _ _
   | exact LeO.none _
   | refine LeO.ite ?_ ?_
   | refine LeO.bind ?_ (fun _ => ?_)
set_option maxHeartbeats 8000000 in
set_option maxRecDepth 100000 in
theorem spec_KernelMany.calls (k : Nat) (a0_0 : Int) (A0_1 : Option Addr) (c0_1 : Nat) (l0_1 : List (S44)) (r1 : Int) (r2 : Bool) (w : World) (hr0_1 : Kd.C k44 w A0_1 l0_1.length l0_1) (hc0_1 : l0_1.length ≤ c0_1) (h : spec_KernelMany.f k a0_0 l0_1 = some (r1, r2)) :
  Calls Try.prog 59 #[.agg #[.int .i64 a0_0, .slice A0_1 l0_1.length c0_1]] w fun e w' => e = .returned (.tuple #[.int .i64 r1, .bool r2]) ∧ Below w.heap.size w w' := by
 have hu30 := Try.underlying30; have HR0_1 := Aside0.mk hr0_1; have HC0_1 := Aside0.mk hc0_1; clear hr0_1 hc0_1; have HB := Aside0.mk (Below.refl w.heap.size w); have H : ((spec_WayGraph.f k a0_0 l0_1).bind fun t957 => (if t957 = true then (spec_KernelMany.l0 k 0 0 a0_0 l0_1) else (some (0, false)))) = some (r1, r2) := h; clear h; replace H := Option.bind_eq_some_iff.mp H; obtain ⟨t957, A20, H⟩ := H; replace H : (if t957 = true then (spec_KernelMany.l0 k 0 0 a0_0 l0_1) else (some (0, false))) = some (r1, r2) := H; have A2 := Aside0.mk A20; clear A20
 by_cases c3 : t957 = true
 ·subst c3
  have H1 : (spec_KernelMany.l0 k 0 0 a0_0 l0_1) = some (r1, r2) := by rw [if_pos rfl] at H; exact H
  clear H; have H := H1; clear H1; have H' := Aside0.mk H; clear H
  go_enter Try.func59, Try.ntmps59
  go_wp2_with (first | ((with_reducible refine gate_dst (N := 1) rfl ?_); refine box_event ?hg (N := 1) ?hd (cs := #[.int .i64 a0_0, .slice A0_1 l0_1.length c0_1]) (t := 30) ?hr ?_; (case hd => rfl); (case hg => rfl); (case hr => first | (go_simp; done) | (go_simp; rfl)); intro gb956 hg w4 hbox hb; have n0_ := Aside0.mk (below_step (viaW HB.out) hb); have n1_ := Aside0.mk (hbox); have n2_ := Aside0.mk ((by rw [hg]; exact (below_size (viaW HB.out)) : w.heap.size ≤ gb956)); have n3_ := Aside0.mk ((by rw [hg]; exact (below_size (viaW HB.out)) : w.heap.size ≤ gb956)); clear HB; have HB := n0_; have BK956 := n1_; have GW956 := n2_; have GE956 := n3_; clear n0_ n1_ n2_ n3_; clear hb hbox hg; have hcz5_0 : w4.cell? ⟨gb956, 0, none⟩ = some (.int .i64 a0_0) := (blk_cell BK956.out 0).trans rfl; have hcz5_1 : w4.cell? ⟨gb956, 1, none⟩ = some (.slice A0_1 l0_1.length c0_1) := (blk_cell BK956.out 1).trans rfl; have hfz5_0 := blk_frozen BK956.out 0; have hfz5_1 := blk_frozen BK956.out 1) | ((with_reducible refine gate_callee (f := 74) rfl ?_); refine goesL_ (some 7) rfl rfl Try.func74 (by kernel_rfl) rfl #[.agg #[.int .i64 a0_0, .slice A0_1 l0_1.length c0_1]] rfl (by (try simp only [List.map_toArray, List.map_cons, List.map_nil]); first | done | rfl | (simp only [List.length_drop, List.length_take]; rfl)) ?_; (with_reducible refine (spec_WayGraph.calls k a0_0 _ _ l0_1 true _ ?side1 ?side2 A2.out).mono ?_); (case side1 => repeat (first | exact (Kd.C_below HR0_1.out HB.out) | (with_reducible refine Kd.C_alloc ?_ _) | (with_reducible refine Kd.C_drewN ?_ _) | (with_reducible refine Kd.C_drew ?_))); (case side2 => exact HC0_1.out); rintro e w6 ⟨rfl, hb⟩; refine ⟨_, rfl, ?_⟩; have n0_ := Aside0.mk (blk_below (g := gb956) (o := .cells #[.int .i64 a0_0, .slice A0_1 l0_1.length c0_1] 30 (0, 0)) (viaB BK956.out) hb); have n1_ := Aside0.mk (below_step (viaX HB.out GE956.out) hb); clear BK956; clear HB; have BK956 := n0_; have HB := n1_; clear n0_ n1_; (try clear hb); (try clear hb2); (try clear hk); (try clear hi)))
  go_loopg [4, 5] k (fun kq v4 v5 w' => ∃ (x4_1 : Int) (x5_1 : Int), v4 = .int .i64 x4_1 ∧ v5 = .int .i64 x5_1 ∧ Aside0 (spec_KernelMany.l0 kq x4_1 x5_1 a0_0 l0_1 = some (r1, r2)) ∧ Aside0 (kq ≤ k) ∧ Aside0 (w'.heap[gb956]? = some (.cells #[.int .i64 a0_0, (.slice A0_1 l0_1.length c0_1)] 30 (0, 0))) ∧ Aside0 (Below w.heap.size w w'))
  case atStart => exact ⟨(0), (0), (by first | rfl | (simp; done) | (simp [*]; done)), (by first | rfl | (simp; done) | (simp [*]; done)), H', ⟨Nat.le_refl _⟩, ⟨viaB BK956.out⟩, ⟨viaX HB.out GE956.out⟩⟩
  case round =>
   clear H'
   try clear p2
   try clear c3
   try clear c5
   try clear hcz5_0
   try clear hcz5_1
   try clear hfz5_0
   try clear hfz5_1
   obtain ⟨x4_1, x5_1, rfl, rfl, HA, HK1, BK956, HB⟩ := hrel
   cases gk with
   | zero => exact absurd HA.out (by simp [spec_KernelMany.l0])
   | succ k1 =>
    have H := HA.out; clear HA
    simp only [spec_KernelMany.l0] at H
    replace H := Option.bind_eq_some_iff.mp H; obtain ⟨t958, A70, H⟩ := H; replace H : (if x5_1 ≤ t958 then ((spec_l6kAll.f k1 a0_0 l0_1 x5_1).bind fun t959 => (if (t959.length : Int) > 0 then (spec_KernelMany.l0 k1 (wrap64 (x4_1 + 1)) (wrap64 (x5_1 + 1)) a0_0 l0_1) else (spec_KernelMany.l0 k1 x4_1 (wrap64 (x5_1 + 1)) a0_0 l0_1))) else (some (x4_1, true))) = some (r1, r2) := H; have A7 := Aside0.mk A70; clear A70
    by_cases c8 : x5_1 ≤ t958
    ·rw [if_pos c8] at H
     have c8b0 : decide (x5_1 ≤ t958) = true := decide_eq_true c8; clear c8; replace H := Option.bind_eq_some_iff.mp H; obtain ⟨t959, A90, H⟩ := H; replace H : (if (t959.length : Int) > 0 then (spec_KernelMany.l0 k1 (wrap64 (x4_1 + 1)) (wrap64 (x5_1 + 1)) a0_0 l0_1) else (spec_KernelMany.l0 k1 x4_1 (wrap64 (x5_1 + 1)) a0_0 l0_1)) = some (r1, r2) := H; have A9 := Aside0.mk A90; clear A90
     by_cases c10 : (t959.length : Int) > 0
     ·rw [if_pos c10] at H
      have c10b0 : decide (0 < (t959.length : Int)) = true := decide_eq_true c10; have c10b1 : decide (0 < t959.length) = true := decide_eq_true (by omega); clear c10; have H' := Aside0.mk H; clear H; have hcz11_0 : wr.cell? ⟨gb956, 0, none⟩ = some (.int .i64 a0_0) := (blk_cell BK956.out 0).trans rfl; have hcz11_1 : wr.cell? ⟨gb956, 1, none⟩ = some (.slice A0_1 l0_1.length c0_1) := (blk_cell BK956.out 1).trans rfl; have hfz11_0 := blk_frozen BK956.out 0; have hfz11_1 := blk_frozen BK956.out 1
      go_wp2_with (first | ((with_reducible refine gate_callee (f := 75) rfl ?_); refine goesL_ (some 11) rfl rfl Try.func75 (by kernel_rfl) rfl #[.agg #[.int .i64 a0_0, .slice A0_1 l0_1.length c0_1]] rfl (by (try simp only [List.map_toArray, List.map_cons, List.map_nil]); first | done | rfl | (simp only [List.length_drop, List.length_take]; rfl)) ?_; (with_reducible refine (spec_l1All.calls a0_0 _ _ l0_1 t958 _ ?side1 ?side2 A7.out).mono ?_); (case side1 => repeat (first | exact (Kd.C_below HR0_1.out HB.out) | (with_reducible refine Kd.C_alloc ?_ _) | (with_reducible refine Kd.C_drewN ?_ _) | (with_reducible refine Kd.C_drew ?_))); (case side2 => exact HC0_1.out); rintro e w12 ⟨rfl, hb⟩; refine ⟨_, rfl, ?_⟩; have n0_ := Aside0.mk (blk_below (g := gb956) (o := .cells #[.int .i64 a0_0, .slice A0_1 l0_1.length c0_1] 30 (0, 0)) (viaB BK956.out) hb); have n1_ := Aside0.mk (below_step (viaX HB.out GE956.out) hb); clear BK956; clear HB; have BK956 := n0_; have HB := n1_; clear n0_ n1_; (try clear hb); (try clear hb2); (try clear hk); (try clear hi); have hcz13_0 : w12.cell? ⟨gb956, 0, none⟩ = some (.int .i64 a0_0) := (blk_cell BK956.out 0).trans rfl; have hcz13_1 : w12.cell? ⟨gb956, 1, none⟩ = some (.slice A0_1 l0_1.length c0_1) := (blk_cell BK956.out 1).trans rfl; have hfz13_0 := blk_frozen BK956.out 0; have hfz13_1 := blk_frozen BK956.out 1) | ((with_reducible refine gate_callee (f := 106) rfl ?_); refine goesL_ (some 17) rfl rfl Try.func106 (by kernel_rfl) rfl #[.agg #[.int .i64 a0_0, .slice A0_1 l0_1.length c0_1], .int .i64 x5_1] rfl (by (try simp only [List.map_toArray, List.map_cons, List.map_nil]); first | done | rfl | (simp only [List.length_drop, List.length_take]; rfl)) ?_; (with_reducible refine (spec_l6kAll.calls k1 a0_0 _ _ l0_1 x5_1 t959 _ ?side1 ?side2 A9.out).mono ?_); (case side1 => repeat (first | exact (Kd.C_below HR0_1.out HB.out) | (with_reducible refine Kd.C_alloc ?_ _) | (with_reducible refine Kd.C_drewN ?_ _) | (with_reducible refine Kd.C_drew ?_))); (case side2 => exact HC0_1.out); rintro e w14 ⟨v960, rfl, ho0, hb⟩; refine ⟨_, rfl, ?_⟩; have n0_ := Aside0.mk (Kd.R_lower ho0 (below_size (viaX HB.out GE956.out))); have n1_ := Aside0.mk (blk_below (g := gb956) (o := .cells #[.int .i64 a0_0, .slice A0_1 l0_1.length c0_1] 30 (0, 0)) (viaB BK956.out) hb); have n2_ := Aside0.mk (below_step (viaX HB.out GE956.out) hb); clear BK956; clear HB; have HO961 := n0_; have BK956 := n1_; have HB := n2_; clear n0_ n1_ n2_; (try clear hb); (try clear hb2); (try clear hk); (try clear hi); (try clear ho0); obtain ⟨Ao15, co15, eo15⟩ := Kd.R_slice HO961.out; subst eo15))
      go_roundg k1
      case measure => have := HK1.out; omega
      case rel => exact ⟨(wrap64 (x4_1 + 1)), (wrap64 (x5_1 + 1)), (by first | rfl | (simp; done) | (simp [*]; done)), (by first | rfl | (simp; done) | (simp [*]; done)), H', ⟨by have := HK1.out; omega⟩, ⟨viaB BK956.out⟩, ⟨viaX HB.out GE956.out⟩⟩
     ·rw [if_neg c10] at H
      have c10b0 : decide (0 < (t959.length : Int)) = false := decide_eq_false c10; have c10b1 : decide (0 < t959.length) = false := decide_eq_false (by omega); clear c10; have H' := Aside0.mk H; clear H; have hcz16_0 : wr.cell? ⟨gb956, 0, none⟩ = some (.int .i64 a0_0) := (blk_cell BK956.out 0).trans rfl; have hcz16_1 : wr.cell? ⟨gb956, 1, none⟩ = some (.slice A0_1 l0_1.length c0_1) := (blk_cell BK956.out 1).trans rfl; have hfz16_0 := blk_frozen BK956.out 0; have hfz16_1 := blk_frozen BK956.out 1
      go_wp2_with (first | ((with_reducible refine gate_callee (f := 75) rfl ?_); refine goesL_ (some 11) rfl rfl Try.func75 (by kernel_rfl) rfl #[.agg #[.int .i64 a0_0, .slice A0_1 l0_1.length c0_1]] rfl (by (try simp only [List.map_toArray, List.map_cons, List.map_nil]); first | done | rfl | (simp only [List.length_drop, List.length_take]; rfl)) ?_; (with_reducible refine (spec_l1All.calls a0_0 _ _ l0_1 t958 _ ?side1 ?side2 A7.out).mono ?_); (case side1 => repeat (first | exact (Kd.C_below HR0_1.out HB.out) | (with_reducible refine Kd.C_alloc ?_ _) | (with_reducible refine Kd.C_drewN ?_ _) | (with_reducible refine Kd.C_drew ?_))); (case side2 => exact HC0_1.out); rintro e w17 ⟨rfl, hb⟩; refine ⟨_, rfl, ?_⟩; have n0_ := Aside0.mk (blk_below (g := gb956) (o := .cells #[.int .i64 a0_0, .slice A0_1 l0_1.length c0_1] 30 (0, 0)) (viaB BK956.out) hb); have n1_ := Aside0.mk (below_step (viaX HB.out GE956.out) hb); clear BK956; clear HB; have BK956 := n0_; have HB := n1_; clear n0_ n1_; (try clear hb); (try clear hb2); (try clear hk); (try clear hi); have hcz18_0 : w17.cell? ⟨gb956, 0, none⟩ = some (.int .i64 a0_0) := (blk_cell BK956.out 0).trans rfl; have hcz18_1 : w17.cell? ⟨gb956, 1, none⟩ = some (.slice A0_1 l0_1.length c0_1) := (blk_cell BK956.out 1).trans rfl; have hfz18_0 := blk_frozen BK956.out 0; have hfz18_1 := blk_frozen BK956.out 1) | ((with_reducible refine gate_callee (f := 106) rfl ?_); refine goesL_ (some 17) rfl rfl Try.func106 (by kernel_rfl) rfl #[.agg #[.int .i64 a0_0, .slice A0_1 l0_1.length c0_1], .int .i64 x5_1] rfl (by (try simp only [List.map_toArray, List.map_cons, List.map_nil]); first | done | rfl | (simp only [List.length_drop, List.length_take]; rfl)) ?_; (with_reducible refine (spec_l6kAll.calls k1 a0_0 _ _ l0_1 x5_1 t959 _ ?side1 ?side2 A9.out).mono ?_); (case side1 => repeat (first | exact (Kd.C_below HR0_1.out HB.out) | (with_reducible refine Kd.C_alloc ?_ _) | (with_reducible refine Kd.C_drewN ?_ _) | (with_reducible refine Kd.C_drew ?_))); (case side2 => exact HC0_1.out); rintro e w19 ⟨v960, rfl, ho0, hb⟩; refine ⟨_, rfl, ?_⟩; have n0_ := Aside0.mk (Kd.R_lower ho0 (below_size (viaX HB.out GE956.out))); have n1_ := Aside0.mk (blk_below (g := gb956) (o := .cells #[.int .i64 a0_0, .slice A0_1 l0_1.length c0_1] 30 (0, 0)) (viaB BK956.out) hb); have n2_ := Aside0.mk (below_step (viaX HB.out GE956.out) hb); clear BK956; clear HB; have HO961 := n0_; have BK956 := n1_; have HB := n2_; clear n0_ n1_ n2_; (try clear hb); (try clear hb2); (try clear hk); (try clear hi); (try clear ho0); obtain ⟨Ao20, co20, eo20⟩ := Kd.R_slice HO961.out; subst eo20))
      go_roundg k1
      case measure => have := HK1.out; omega
      case rel => exact ⟨(x4_1), (wrap64 (x5_1 + 1)), (by first | rfl | (simp; done) | (simp [*]; done)), (by first | rfl | (simp; done) | (simp [*]; done)), H', ⟨by have := HK1.out; omega⟩, ⟨viaB BK956.out⟩, ⟨viaX HB.out GE956.out⟩⟩
    ·rw [if_neg c8] at H
     have c8b0 : decide (x5_1 ≤ t958) = false := decide_eq_false c8; clear c8
     simp only [Option.some.injEq, Prod.mk.injEq] at H
     obtain ⟨rfl, rfl⟩ := H; have hcz21_0 : wr.cell? ⟨gb956, 0, none⟩ = some (.int .i64 a0_0) := (blk_cell BK956.out 0).trans rfl; have hcz21_1 : wr.cell? ⟨gb956, 1, none⟩ = some (.slice A0_1 l0_1.length c0_1) := (blk_cell BK956.out 1).trans rfl; have hfz21_0 := blk_frozen BK956.out 0; have hfz21_1 := blk_frozen BK956.out 1
     go_wp2_with (first | ((with_reducible refine gate_callee (f := 75) rfl ?_); refine goesL_ (some 11) rfl rfl Try.func75 (by kernel_rfl) rfl #[.agg #[.int .i64 a0_0, .slice A0_1 l0_1.length c0_1]] rfl (by (try simp only [List.map_toArray, List.map_cons, List.map_nil]); first | done | rfl | (simp only [List.length_drop, List.length_take]; rfl)) ?_; (with_reducible refine (spec_l1All.calls a0_0 _ _ l0_1 t958 _ ?side1 ?side2 A7.out).mono ?_); (case side1 => repeat (first | exact (Kd.C_below HR0_1.out HB.out) | (with_reducible refine Kd.C_alloc ?_ _) | (with_reducible refine Kd.C_drewN ?_ _) | (with_reducible refine Kd.C_drew ?_))); (case side2 => exact HC0_1.out); rintro e w22 ⟨rfl, hb⟩; refine ⟨_, rfl, ?_⟩; have n0_ := Aside0.mk (blk_below (g := gb956) (o := .cells #[.int .i64 a0_0, .slice A0_1 l0_1.length c0_1] 30 (0, 0)) (viaB BK956.out) hb); have n1_ := Aside0.mk (below_step (viaX HB.out GE956.out) hb); clear BK956; clear HB; have BK956 := n0_; have HB := n1_; clear n0_ n1_; (try clear hb); (try clear hb2); (try clear hk); (try clear hi)))
     go_ret2
     exact ⟨by first | rfl | (simp [errW_none, errW_some] <;> rfl) | (simp [*, errW_none, errW_some] <;> rfl), viaX HB.out GE956.out⟩
 ·replace c3 := Bool.eq_false_iff.mpr c3
  subst c3; have H1 : (some (0, false)) = some (r1, r2) := by rw [if_neg (show ¬ (false = true) by decide)] at H; exact H
  clear H; have H := H1; clear H1
  simp only [Option.some.injEq, Prod.mk.injEq] at H
  obtain ⟨rfl, rfl⟩ := H
  go_enter Try.func59, Try.ntmps59
  go_wp2_with (first | ((with_reducible refine gate_dst (N := 1) rfl ?_); refine box_event ?hg (N := 1) ?hd (cs := #[.int .i64 a0_0, .slice A0_1 l0_1.length c0_1]) (t := 30) ?hr ?_; (case hd => rfl); (case hg => rfl); (case hr => first | (go_simp; done) | (go_simp; rfl)); intro gb956 hg w23 hbox hb; have n0_ := Aside0.mk (below_step (viaW HB.out) hb); have n1_ := Aside0.mk (hbox); have n2_ := Aside0.mk ((by rw [hg]; exact (below_size (viaW HB.out)) : w.heap.size ≤ gb956)); have n3_ := Aside0.mk ((by rw [hg]; exact (below_size (viaW HB.out)) : w.heap.size ≤ gb956)); clear HB; have HB := n0_; have BK956 := n1_; have GW956 := n2_; have GE956 := n3_; clear n0_ n1_ n2_ n3_; clear hb hbox hg; have hcz24_0 : w23.cell? ⟨gb956, 0, none⟩ = some (.int .i64 a0_0) := (blk_cell BK956.out 0).trans rfl; have hcz24_1 : w23.cell? ⟨gb956, 1, none⟩ = some (.slice A0_1 l0_1.length c0_1) := (blk_cell BK956.out 1).trans rfl; have hfz24_0 := blk_frozen BK956.out 0; have hfz24_1 := blk_frozen BK956.out 1) | ((with_reducible refine gate_callee (f := 74) rfl ?_); refine goesL_ (some 7) rfl rfl Try.func74 (by kernel_rfl) rfl #[.agg #[.int .i64 a0_0, .slice A0_1 l0_1.length c0_1]] rfl (by (try simp only [List.map_toArray, List.map_cons, List.map_nil]); first | done | rfl | (simp only [List.length_drop, List.length_take]; rfl)) ?_; (with_reducible refine (spec_WayGraph.calls k a0_0 _ _ l0_1 false _ ?side1 ?side2 A2.out).mono ?_); (case side1 => repeat (first | exact (Kd.C_below HR0_1.out HB.out) | (with_reducible refine Kd.C_alloc ?_ _) | (with_reducible refine Kd.C_drewN ?_ _) | (with_reducible refine Kd.C_drew ?_))); (case side2 => exact HC0_1.out); rintro e w25 ⟨rfl, hb⟩; refine ⟨_, rfl, ?_⟩; have n0_ := Aside0.mk (blk_below (g := gb956) (o := .cells #[.int .i64 a0_0, .slice A0_1 l0_1.length c0_1] 30 (0, 0)) (viaB BK956.out) hb); have n1_ := Aside0.mk (below_step (viaX HB.out GE956.out) hb); clear BK956; clear HB; have BK956 := n0_; have HB := n1_; clear n0_ n1_; (try clear hb); (try clear hb2); (try clear hk); (try clear hi)))
  go_ret2
  exact ⟨by first | rfl | (simp [errW_none, errW_some] <;> rfl) | (simp [*, errW_none, errW_some] <;> rfl), viaX HB.out GE956.out⟩

-- NOT PRINTED: function 107 (impl_PlainCount_1)

end Go.Proofs.Ytfijegfjpagjoaa.G
