/- For each Go function named below: a plain Lean function of the same name, and the proof that a call of the Go function returns just what the plain function tells, where it tells something. Written by a program of this session with the printer of the kit. -/
import Derived.Test.YthoaebnnolbaaaaVG0
import Derived.Test.YthoaebnnolbaaaaVG7
import Derived.Test.YthoaebnnolbaaaaVG14
import Derived.Test.YthoaebnnolbaaaaVG35
namespace Go.Proofs.Ythoaebnnolbaaaa.G
open Go.RowKit Go.Proofs.YthoaebnnolbaaaaW.PrintWords Go.Proofs.YthoaebnnolbaaaaW.PrintLast Go.Proofs.YthoaebnnolbaaaaW.PrintMore
attribute [local go_sem] max2_int min2_int max_two min_two max_three min_three max_four min_four   -- for this text's walks alone
set_option linter.unusedVariables false
set_option linter.unusedSimpArgs false

/-! ### spec_FlipSame: function 36 -/
def spec_FlipSame.j0 : Nat → ByteArray → Int → Int → Bool → Int → List (S69) → Option (Bool)
 | 0, _, _, _, _, _, _ => none
 | k + 1, x1, x2, x3, x24, x838000, x838001 => if x24 = true then (some false) else ((spec_l1All.f x838000 x838001).bind fun t841 => (if 0 ≤ (wrap64 (t841 + 1)) then (if (wrap64 (t841 + 1) : Int).toNat ≤ 281474976710656 then ((some (List.replicate (wrap64 (t841 + 1) : Int).toNat false : List Bool)).bind fun y842 => ((spec_l5Class.f k x838000 x838001 x1 x2 y842).bind fun bt845 => (if 0 ≤ x3 then (if x3 < (y842.length : Int) then (some (rdOf false bt845.2 x3)) else (none)) else (none)))) else (none)) else (none)))
def spec_FlipSame.f (k : Nat) (a0_0 : Int) (l0_1 : List (S69)) (a1 : ByteArray) (a2 : Int) (a3 : Int) : Option (Bool) := (spec_WayIn.f k a0_0 l0_1 a2).bind fun t838 => (if t838 = true then ((spec_WayIn.f k a0_0 l0_1 a3).bind fun t839 => (if t839 = true then ((spec_l5Kind.f a1).bind fun t840 => (spec_FlipSame.j0 k a1 a2 a3 (!t840) a0_0 l0_1)) else (spec_FlipSame.j0 k a1 a2 a3 true a0_0 l0_1))) else (spec_FlipSame.j0 k a1 a2 a3 true a0_0 l0_1))
set_option maxHeartbeats 8000000 in
set_option maxRecDepth 100000 in
theorem spec_FlipSame.calls (k : Nat) (a0_0 : Int) (A0_1 : Option Addr) (c0_1 : Nat) (l0_1 : List (S69)) (a1 : ByteArray) (a2 : Int) (a3 : Int) (r : Bool) (w : World) (hr0_1 : Kd.C k69 w A0_1 l0_1.length l0_1) (hc0_1 : l0_1.length ≤ c0_1) (h : spec_FlipSame.f k a0_0 l0_1 a1 a2 a3 = some r) :
  Calls Try.prog 36 #[.agg #[.int .i64 a0_0, .slice A0_1 l0_1.length c0_1], .string a1, .int .i64 a2, .int .i64 a3] w fun e w' => e = .returned (.bool r) ∧ Below w.heap.size w w' := by
 have hu25 := Try.underlying25; have HR0_1 := Aside0.mk hr0_1; have HC0_1 := Aside0.mk hc0_1; clear hr0_1 hc0_1; have HB := Aside0.mk (Below.refl w.heap.size w); have H : ((spec_WayIn.f k a0_0 l0_1 a2).bind fun t838 => (if t838 = true then ((spec_WayIn.f k a0_0 l0_1 a3).bind fun t839 => (if t839 = true then ((spec_l5Kind.f a1).bind fun t840 => (spec_FlipSame.j0 k a1 a2 a3 (!t840) a0_0 l0_1)) else (spec_FlipSame.j0 k a1 a2 a3 true a0_0 l0_1))) else (spec_FlipSame.j0 k a1 a2 a3 true a0_0 l0_1))) = some r := h; clear h; have HC5 := Aside0.mk H; clear H
 go_enter Try.func36, Try.ntmps36
 go_upto_region 1 with (first | ((with_reducible refine gate_dst (N := 4) rfl ?_); refine box_event ?hg (N := 4) ?hd (cs := #[.int .i64 a0_0, .slice A0_1 l0_1.length c0_1]) (t := 25) ?hr ?_; (case hd => rfl); (case hg => rfl); (case hr => first | (go_simp; done) | (go_simp; rfl)); intro gb837 hg w6 hbox hb; have n0_ := Aside0.mk (below_step (viaW HB.out) hb); have n1_ := Aside0.mk (hbox); have n2_ := Aside0.mk ((by rw [hg]; exact (below_size (viaW HB.out)) : w.heap.size ≤ gb837)); have n3_ := Aside0.mk ((by rw [hg]; exact (below_size (viaW HB.out)) : w.heap.size ≤ gb837)); clear HB; have HB := n0_; have BK837 := n1_; have GW837 := n2_; have GE837 := n3_; clear n0_ n1_ n2_ n3_; clear hb hbox hg))
 (try simp only [Act.put, List.setIfInBounds_toArray, List.set_cons_zero, List.set_cons_succ])
 go_cut [24] (fun v24 wc => ∃ (kq : Nat) (x24_4 : Bool), v24 = .bool x24_4 ∧ Aside0 (spec_FlipSame.j0 kq a1 a2 a3 x24_4 a0_0 l0_1 = some r) ∧ Aside0 (kq ≤ k) ∧ Aside0 (wc.heap[gb837]? = some (.cells #[.int .i64 a0_0, (.slice A0_1 l0_1.length c0_1)] 25 (0, 0))) ∧ Aside0 (Below w.heap.size w wc))
 case first =>
  have H := HC5.out; clear HC5; replace H := Option.bind_eq_some_iff.mp H; obtain ⟨t838, A70, H⟩ := H; replace H : (if t838 = true then ((spec_WayIn.f k a0_0 l0_1 a3).bind fun t839 => (if t839 = true then ((spec_l5Kind.f a1).bind fun t840 => (spec_FlipSame.j0 k a1 a2 a3 (!t840) a0_0 l0_1)) else (spec_FlipSame.j0 k a1 a2 a3 true a0_0 l0_1))) else (spec_FlipSame.j0 k a1 a2 a3 true a0_0 l0_1)) = some r := H; have A7 := Aside0.mk A70; clear A70
  by_cases c8 : t838 = true
  ·subst c8
   have H1 : ((spec_WayIn.f k a0_0 l0_1 a3).bind fun t839 => (if t839 = true then ((spec_l5Kind.f a1).bind fun t840 => (spec_FlipSame.j0 k a1 a2 a3 (!t840) a0_0 l0_1)) else (spec_FlipSame.j0 k a1 a2 a3 true a0_0 l0_1))) = some r := by rw [if_pos rfl] at H; exact H
   clear H; have H := H1; clear H1; replace H := Option.bind_eq_some_iff.mp H; obtain ⟨t839, A90, H⟩ := H; replace H : (if t839 = true then ((spec_l5Kind.f a1).bind fun t840 => (spec_FlipSame.j0 k a1 a2 a3 (!t840) a0_0 l0_1)) else (spec_FlipSame.j0 k a1 a2 a3 true a0_0 l0_1)) = some r := H; have A9 := Aside0.mk A90; clear A90
   by_cases c10 : t839 = true
   ·subst c10
    have H1 : ((spec_l5Kind.f a1).bind fun t840 => (spec_FlipSame.j0 k a1 a2 a3 (!t840) a0_0 l0_1)) = some r := by rw [if_pos rfl] at H; exact H
    clear H; have H := H1; clear H1; replace H := Option.bind_eq_some_iff.mp H; obtain ⟨t840, A110, H⟩ := H; replace H : (spec_FlipSame.j0 k a1 a2 a3 (!t840) a0_0 l0_1) = some r := H; have A11 := Aside0.mk A110; clear A110; have H' := Aside0.mk H; clear H; have hcz12_0 : w6.cell? ⟨gb837, 0, none⟩ = some (.int .i64 a0_0) := (blk_cell BK837.out 0).trans rfl; have hcz12_1 : w6.cell? ⟨gb837, 1, none⟩ = some (.slice A0_1 l0_1.length c0_1) := (blk_cell BK837.out 1).trans rfl; have hfz12_0 := blk_frozen BK837.out 0; have hfz12_1 := blk_frozen BK837.out 1
    go_wp2_with (first | ((with_reducible refine gate_callee (f := 63) rfl ?_); refine goesL_ (some 12) rfl rfl Try.func63 (by kernel_rfl) rfl #[.agg #[.int .i64 a0_0, .slice A0_1 l0_1.length c0_1], .int .i64 a2] rfl (by (try simp only [List.map_toArray, List.map_cons, List.map_nil]); first | done | rfl | (simp only [List.length_drop, List.length_take]; rfl)) ?_; (with_reducible refine (spec_WayIn.calls k a0_0 _ _ l0_1 a2 true _ ?side1 ?side2 A7.out).mono ?_); (case side1 => repeat (first | exact (Kd.C_below HR0_1.out HB.out) | (with_reducible refine Kd.C_alloc ?_ _) | (with_reducible refine Kd.C_drewN ?_ _) | (with_reducible refine Kd.C_drew ?_))); (case side2 => exact HC0_1.out); rintro e w13 ⟨rfl, hb⟩; refine ⟨_, rfl, ?_⟩; have n0_ := Aside0.mk (blk_below (g := gb837) (o := .cells #[.int .i64 a0_0, .slice A0_1 l0_1.length c0_1] 25 (0, 0)) (viaB BK837.out) hb); have n1_ := Aside0.mk (below_step (viaX HB.out GE837.out) hb); clear BK837; clear HB; have BK837 := n0_; have HB := n1_; clear n0_ n1_; (try clear hb); (try clear hb2); (try clear hk); (try clear hi); have hcz14_0 : w13.cell? ⟨gb837, 0, none⟩ = some (.int .i64 a0_0) := (blk_cell BK837.out 0).trans rfl; have hcz14_1 : w13.cell? ⟨gb837, 1, none⟩ = some (.slice A0_1 l0_1.length c0_1) := (blk_cell BK837.out 1).trans rfl; have hfz14_0 := blk_frozen BK837.out 0; have hfz14_1 := blk_frozen BK837.out 1) | (go_at_call 63; (with_reducible refine (spec_WayIn.calls k a0_0 _ _ l0_1 a3 true _ ?side1 ?side2 A9.out).mono ?_); (case side1 => repeat (first | exact (Kd.C_below HR0_1.out HB.out) | (with_reducible refine Kd.C_alloc ?_ _) | (with_reducible refine Kd.C_drewN ?_ _) | (with_reducible refine Kd.C_drew ?_))); (case side2 => exact HC0_1.out); rintro e w15 ⟨rfl, hb⟩; have n0_ := Aside0.mk (blk_below (g := gb837) (o := .cells #[.int .i64 a0_0, .slice A0_1 l0_1.length c0_1] 25 (0, 0)) (viaB BK837.out) hb); have n1_ := Aside0.mk (below_step (viaX HB.out GE837.out) hb); clear BK837; clear HB; have BK837 := n0_; have HB := n1_; clear n0_ n1_; (try clear hb); (try clear hb2); (try clear hk); (try clear hi)) | (go_at_call 71; (with_reducible refine (spec_l5Kind.calls a1 t840 _ A11.out).mono ?_); rintro e w' ⟨rfl, ⟨nd, rfl⟩⟩))
    go_meet
    case rel => exact ⟨_, (!t840), (by first | rfl | (simp; done) | (simp [*]; done)), H', ⟨by first | omega | exact Nat.le_refl _⟩, ⟨viaB BK837.out⟩, ⟨viaX HB.out GE837.out⟩⟩
   ·replace c10 := Bool.eq_false_iff.mpr c10
    subst c10; have H1 : (spec_FlipSame.j0 k a1 a2 a3 true a0_0 l0_1) = some r := by rw [if_neg (show ¬ (false = true) by decide)] at H; exact H
    clear H; have H := H1; clear H1; have H' := Aside0.mk H; clear H; have hcz16_0 : w6.cell? ⟨gb837, 0, none⟩ = some (.int .i64 a0_0) := (blk_cell BK837.out 0).trans rfl; have hcz16_1 : w6.cell? ⟨gb837, 1, none⟩ = some (.slice A0_1 l0_1.length c0_1) := (blk_cell BK837.out 1).trans rfl; have hfz16_0 := blk_frozen BK837.out 0; have hfz16_1 := blk_frozen BK837.out 1
    go_wp2_with (first | ((with_reducible refine gate_callee (f := 63) rfl ?_); refine goesL_ (some 12) rfl rfl Try.func63 (by kernel_rfl) rfl #[.agg #[.int .i64 a0_0, .slice A0_1 l0_1.length c0_1], .int .i64 a2] rfl (by (try simp only [List.map_toArray, List.map_cons, List.map_nil]); first | done | rfl | (simp only [List.length_drop, List.length_take]; rfl)) ?_; (with_reducible refine (spec_WayIn.calls k a0_0 _ _ l0_1 a2 true _ ?side1 ?side2 A7.out).mono ?_); (case side1 => repeat (first | exact (Kd.C_below HR0_1.out HB.out) | (with_reducible refine Kd.C_alloc ?_ _) | (with_reducible refine Kd.C_drewN ?_ _) | (with_reducible refine Kd.C_drew ?_))); (case side2 => exact HC0_1.out); rintro e w17 ⟨rfl, hb⟩; refine ⟨_, rfl, ?_⟩; have n0_ := Aside0.mk (blk_below (g := gb837) (o := .cells #[.int .i64 a0_0, .slice A0_1 l0_1.length c0_1] 25 (0, 0)) (viaB BK837.out) hb); have n1_ := Aside0.mk (below_step (viaX HB.out GE837.out) hb); clear BK837; clear HB; have BK837 := n0_; have HB := n1_; clear n0_ n1_; (try clear hb); (try clear hb2); (try clear hk); (try clear hi); have hcz18_0 : w17.cell? ⟨gb837, 0, none⟩ = some (.int .i64 a0_0) := (blk_cell BK837.out 0).trans rfl; have hcz18_1 : w17.cell? ⟨gb837, 1, none⟩ = some (.slice A0_1 l0_1.length c0_1) := (blk_cell BK837.out 1).trans rfl; have hfz18_0 := blk_frozen BK837.out 0; have hfz18_1 := blk_frozen BK837.out 1) | (go_at_call 63; (with_reducible refine (spec_WayIn.calls k a0_0 _ _ l0_1 a3 false _ ?side1 ?side2 A9.out).mono ?_); (case side1 => repeat (first | exact (Kd.C_below HR0_1.out HB.out) | (with_reducible refine Kd.C_alloc ?_ _) | (with_reducible refine Kd.C_drewN ?_ _) | (with_reducible refine Kd.C_drew ?_))); (case side2 => exact HC0_1.out); rintro e w19 ⟨rfl, hb⟩; have n0_ := Aside0.mk (blk_below (g := gb837) (o := .cells #[.int .i64 a0_0, .slice A0_1 l0_1.length c0_1] 25 (0, 0)) (viaB BK837.out) hb); have n1_ := Aside0.mk (below_step (viaX HB.out GE837.out) hb); clear BK837; clear HB; have BK837 := n0_; have HB := n1_; clear n0_ n1_; (try clear hb); (try clear hb2); (try clear hk); (try clear hi)))
    go_meet
    case rel => exact ⟨_, (true), (by first | rfl | (simp; done) | (simp [*]; done)), H', ⟨by first | omega | exact Nat.le_refl _⟩, ⟨viaB BK837.out⟩, ⟨viaX HB.out GE837.out⟩⟩
  ·replace c8 := Bool.eq_false_iff.mpr c8
   subst c8; have H1 : (spec_FlipSame.j0 k a1 a2 a3 true a0_0 l0_1) = some r := by rw [if_neg (show ¬ (false = true) by decide)] at H; exact H
   clear H; have H := H1; clear H1; have H' := Aside0.mk H; clear H; have hcz20_0 : w6.cell? ⟨gb837, 0, none⟩ = some (.int .i64 a0_0) := (blk_cell BK837.out 0).trans rfl; have hcz20_1 : w6.cell? ⟨gb837, 1, none⟩ = some (.slice A0_1 l0_1.length c0_1) := (blk_cell BK837.out 1).trans rfl; have hfz20_0 := blk_frozen BK837.out 0; have hfz20_1 := blk_frozen BK837.out 1
   go_wp2_with (first | ((with_reducible refine gate_callee (f := 63) rfl ?_); refine goesL_ (some 12) rfl rfl Try.func63 (by kernel_rfl) rfl #[.agg #[.int .i64 a0_0, .slice A0_1 l0_1.length c0_1], .int .i64 a2] rfl (by (try simp only [List.map_toArray, List.map_cons, List.map_nil]); first | done | rfl | (simp only [List.length_drop, List.length_take]; rfl)) ?_; (with_reducible refine (spec_WayIn.calls k a0_0 _ _ l0_1 a2 false _ ?side1 ?side2 A7.out).mono ?_); (case side1 => repeat (first | exact (Kd.C_below HR0_1.out HB.out) | (with_reducible refine Kd.C_alloc ?_ _) | (with_reducible refine Kd.C_drewN ?_ _) | (with_reducible refine Kd.C_drew ?_))); (case side2 => exact HC0_1.out); rintro e w21 ⟨rfl, hb⟩; refine ⟨_, rfl, ?_⟩; have n0_ := Aside0.mk (blk_below (g := gb837) (o := .cells #[.int .i64 a0_0, .slice A0_1 l0_1.length c0_1] 25 (0, 0)) (viaB BK837.out) hb); have n1_ := Aside0.mk (below_step (viaX HB.out GE837.out) hb); clear BK837; clear HB; have BK837 := n0_; have HB := n1_; clear n0_ n1_; (try clear hb); (try clear hb2); (try clear hk); (try clear hi)))
   go_meet
   case rel => exact ⟨_, (true), (by first | rfl | (simp; done) | (simp [*]; done)), H', ⟨by first | omega | exact Nat.le_refl _⟩, ⟨viaB BK837.out⟩, ⟨viaX HB.out GE837.out⟩⟩
 case rest =>
  clear HC5
  try clear c1
  try clear p2
  try clear c3
  try clear c6
  try clear c8
  try clear c10
  try clear hcz12_0
  try clear hcz12_1
  try clear hcz14_0
  try clear hcz14_1
  try clear hcz16_0
  try clear hcz16_1
  try clear hcz18_0
  try clear hcz18_1
  try clear hcz20_0
  try clear hcz20_1
  try clear hfz12_0
  try clear hfz12_1
  try clear hfz14_0
  try clear hfz14_1
  try clear hfz16_0
  try clear hfz16_1
  try clear hfz18_0
  try clear hfz18_1
  try clear hfz20_0
  try clear hfz20_1
  obtain ⟨kq, x24_4, rfl, HA, HJ4, BK837, HB⟩ := hcut
  cases kq with
  | zero => exact absurd HA.out (by simp [spec_FlipSame.j0])
  | succ kj4 =>
   have H := HA.out; clear HA
   simp only [spec_FlipSame.j0] at H
   by_cases c22 : x24_4 = true
   ·subst c22
    have H1 : (some false) = some r := by rw [if_pos rfl] at H; exact H
    clear H; have H := H1; clear H1; obtain rfl := Option.some.inj H
    go_wp2
    go_ret
    exact ⟨by first | rfl | (simp [errW_none, errW_some] <;> rfl) | (simp [*, errW_none, errW_some] <;> rfl), viaX HB.out GE837.out⟩
   ·replace c22 := Bool.eq_false_iff.mpr c22
    subst c22; have H1 : ((spec_l1All.f a0_0 l0_1).bind fun t841 => (if 0 ≤ (wrap64 (t841 + 1)) then (if (wrap64 (t841 + 1) : Int).toNat ≤ 281474976710656 then ((some (List.replicate (wrap64 (t841 + 1) : Int).toNat false : List Bool)).bind fun y842 => ((spec_l5Class.f kj4 a0_0 l0_1 a1 a2 y842).bind fun bt845 => (if 0 ≤ a3 then (if a3 < (y842.length : Int) then (some (rdOf false bt845.2 a3)) else (none)) else (none)))) else (none)) else (none))) = some r := by rw [if_neg (show ¬ (false = true) by decide)] at H; exact H
    clear H; have H := H1; clear H1; replace H := Option.bind_eq_some_iff.mp H; obtain ⟨t841, A230, H⟩ := H; replace H : (if 0 ≤ (wrap64 (t841 + 1)) then (if (wrap64 (t841 + 1) : Int).toNat ≤ 281474976710656 then ((some (List.replicate (wrap64 (t841 + 1) : Int).toNat false : List Bool)).bind fun y842 => ((spec_l5Class.f kj4 a0_0 l0_1 a1 a2 y842).bind fun bt845 => (if 0 ≤ a3 then (if a3 < (y842.length : Int) then (some (rdOf false bt845.2 a3)) else (none)) else (none)))) else (none)) else (none)) = some r := H; have A23 := Aside0.mk A230; clear A230; obtain ⟨ji24, hji24⟩ : ∃ j_ : Int, (wrap64 (t841 + 1)) = j_ := ⟨_, rfl⟩; replace H : (if 0 ≤ (ji24) then (if (ji24 : Int).toNat ≤ 281474976710656 then ((some (List.replicate (ji24 : Int).toNat false : List Bool)).bind fun y842 => ((spec_l5Class.f kj4 a0_0 l0_1 a1 a2 y842).bind fun bt845 => (if 0 ≤ a3 then (if a3 < (y842.length : Int) then (some (rdOf false bt845.2 a3)) else (none)) else (none)))) else (none)) else (none)) = some r := by first | (rw [hji24] at H; exact H) | (simp only [hji24] at H ⊢; exact H)
    (try rw [hji24] at A23)
    have hji24w : (IntKind.i64.wrap (t841 + 1)) = ji24 := (i64_w _).trans hji24
    by_cases c25 : 0 ≤ (ji24)
    ·rw [if_pos c25] at H
     have c25b0 := eq_true c25; have c25b1 : decide (0 ≤ (ji24)) = true := decide_eq_true c25; clear c25
     by_cases c26 : (ji24 : Int).toNat ≤ 281474976710656
     ·rw [if_pos c26] at H
      have c26b0 := eq_true c26; have c26b1 : decide ((ji24 : Int).toNat ≤ 281474976710656) = true := decide_eq_true c26; clear c26; obtain ⟨y842, hy842⟩ : ∃ y_ : List Bool, y_ = (List.replicate (ji24 : Int).toNat false) := ⟨_, rfl⟩; replace H : ((spec_l5Class.f kj4 a0_0 l0_1 a1 a2 y842).bind fun bt845 => (if 0 ≤ a3 then (if a3 < (y842.length : Int) then (some (rdOf false bt845.2 a3)) else (none)) else (none))) = some r := by first | (rw [hy842]; with_reducible exact H) | (have H2_ := (Option.bind_some _ _).symm.trans H; rw [hy842]; with_reducible exact H2_) | (have H2_ := (Option.bind_some _ _).symm.trans H; with_reducible exact H2_) | with_reducible exact H | (rw [hy842]; exact H) | exact H
      have Ny842 := Aside0.mk hy842; clear hy842; replace H := Option.bind_eq_some_iff.mp H; obtain ⟨⟨t845, t846⟩, A270, H⟩ := H; replace H : (if 0 ≤ a3 then (if a3 < (y842.length : Int) then (some (rdOf false t846 a3)) else (none)) else (none)) = some r := H; have A27 := Aside0.mk A270; clear A270
      by_cases c28 : 0 ≤ a3
      ·rw [if_pos c28] at H
       have c28b0 : decide (0 ≤ a3) = true := decide_eq_true c28; clear c28
       by_cases c29 : a3 < (y842.length : Int)
       ·rw [if_pos c29] at H
        have c29b0 : decide (a3 < (y842.length : Int)) = true := decide_eq_true c29; clear c29; obtain rfl := Option.some.inj H; have hcz30_0 : wc.cell? ⟨gb837, 0, none⟩ = some (.int .i64 a0_0) := (blk_cell BK837.out 0).trans rfl; have hcz30_1 : wc.cell? ⟨gb837, 1, none⟩ = some (.slice A0_1 l0_1.length c0_1) := (blk_cell BK837.out 1).trans rfl; have hfz30_0 := blk_frozen BK837.out 0; have hfz30_1 := blk_frozen BK837.out 1
        go_wp2_with (first | ((with_reducible refine gate_callee (f := 51) rfl ?_); refine goesL_ (some 26) rfl rfl Try.func51 (by kernel_rfl) rfl #[.agg #[.int .i64 a0_0, .slice A0_1 l0_1.length c0_1]] rfl (by (try simp only [List.map_toArray, List.map_cons, List.map_nil]); first | done | rfl | (simp only [List.length_drop, List.length_take]; rfl)) ?_; (with_reducible refine (spec_l1All.calls a0_0 _ _ l0_1 t841 _ ?side1 ?side2 A23.out).mono ?_); (case side1 => repeat (first | exact (Kd.C_below HR0_1.out HB.out) | (with_reducible refine Kd.C_alloc ?_ _) | (with_reducible refine Kd.C_drewN ?_ _) | (with_reducible refine Kd.C_drew ?_))); (case side2 => exact HC0_1.out); rintro e w31 ⟨rfl, hb⟩; refine ⟨_, rfl, ?_⟩; have n0_ := Aside0.mk (blk_below (g := gb837) (o := .cells #[.int .i64 a0_0, .slice A0_1 l0_1.length c0_1] 25 (0, 0)) (viaB BK837.out) hb); have n1_ := Aside0.mk (below_step (viaX HB.out GE837.out) hb); clear BK837; clear HB; have BK837 := n0_; have HB := n1_; clear n0_ n1_; (try clear hb); (try clear hb2); (try clear hk); (try clear hi)) | ((with_reducible refine gate_dst (N := 28) rfl ?_); refine Kd.R_make Kd.bool _ 4 rfl (N := 28) rfl 74 _ _ rfl ji24 rfl rfl Try.underlying74 (.bool false) 1 info4 rfl (by decide) (by omega) false (ok := fun _ => True) (okp := fun _ => True) rfl (fun _ hk => hk) trivial (of_decide_eq_true (by first | (with_reducible assumption) | assumption)) (Nat.le_trans (Nat.mul_le_mul_right _ (of_decide_eq_true (by first | (with_reducible assumption) | assumption) : ji24.toNat ≤ 281474976710656)) (by omega)) (Below.refl _ _) (Nat.le_refl _) ?_; intro v843 w32 ho33 hb hg_ hnew_; clear hg_ hnew_; (first | rw [← Ny842.out] at ho33 | (simp only [Int.reduceToNat] at ho33; rw [← Ny842.out] at ho33)); have n0_ := Aside0.mk (Kd.R_lower ho33 (below_size (viaX HB.out GE837.out))); have n1_ := Aside0.mk (blk_below (g := gb837) (o := .cells #[.int .i64 a0_0, .slice A0_1 l0_1.length c0_1] 25 (0, 0)) (viaB BK837.out) hb); have n2_ := Aside0.mk (below_step (viaX HB.out GE837.out) hb); clear BK837; clear HB; have HO844 := n0_; have BK837 := n1_; have HB := n2_; clear n0_ n1_ n2_; clear hb ho33; have hcz34_0 : w32.cell? ⟨gb837, 0, none⟩ = some (.int .i64 a0_0) := (blk_cell BK837.out 0).trans rfl; have hcz34_1 : w32.cell? ⟨gb837, 1, none⟩ = some (.slice A0_1 l0_1.length c0_1) := (blk_cell BK837.out 1).trans rfl; have hfz34_0 := blk_frozen BK837.out 0; have hfz34_1 := blk_frozen BK837.out 1; obtain ⟨Ao35, co35, eo35⟩ := Kd.R_slice HO844.out; subst eo35) | ((with_reducible refine gate_callee (f := 72) rfl ?_); refine goesL_ (some 33) rfl rfl Try.func72 (by kernel_rfl) rfl #[.agg #[.int .i64 a0_0, .slice A0_1 l0_1.length c0_1], .string a1, .int .i64 a2, .slice Ao35 y842.length co35] rfl (by (try simp only [List.map_toArray, List.map_cons, List.map_nil]); first | done | rfl | (simp only [List.length_drop, List.length_take]; rfl)) ?_; (with_reducible refine (spec_l5Class.calls kj4 a0_0 _ _ l0_1 a1 a2 (fun k_ => some k_ = (.slice Ao35 y842.length co35 : Value).ownBlock) (.slice Ao35 y842.length co35) y842 t845 t846 w _ ?side1 ?side2 ?side3 ?side4 A27.out).mono ?_); (case side1 => repeat (first | (with_reducible first | exact HB.out | apply below_alloc | apply pw_below_drewN | apply below_drew1 | refine below_set ?_ GE837.out) | exact HB.out)); (case side2 => exact Kd.C_kept_came k69_heap HR0_1.out (viaX HB.out GE837.out) (fun k_ hs_ => (fun e_ => Kd.R_base HO844.out k_ e_.symm) hs_)); (case side3 => exact HC0_1.out); (case side4 => exact Kd.R_tight rfl HO844.out); rintro e w36 ⟨rfl, hy0, hb, hkp⟩; refine ⟨_, rfl, ?_⟩; have n0_ := Aside0.mk (blk_kept (viaB BK837.out) hkp (fun hs_ => (fun e_ => (Kd.R_ne HO844.out BK837.out (by decide)) e_) hs_)); have n1_ := Aside0.mk (Kd.R_reok rfl hy0 (fun k_ e_ => HO844.out.1 k_ e_)); have n2_ := Aside0.mk (hb); clear BK837; clear HO844; clear HB; have BK837 := n0_; have HO844 := n1_; have HB := n2_; clear n0_ n1_ n2_; (try clear hb); (try clear hkp); (try clear hy0); have p847 : 0 ≤ (a3 : Int) := of_decide_eq_true (by first | (with_reducible assumption) | assumption); have q847 : a3 < (t846.length : Int) := (by have h_ : (a3 : Int) < ((y842.length : Int) : Int) := of_decide_eq_true (by first | (with_reducible assumption) | assumption); have e_ := (Kd.R_reads' HO844.out).1; omega); have ql847 : ((a3 : Int) < ((y842.length : Int) : Int)) = True := eq_true (of_decide_eq_true (by first | (with_reducible assumption) | assumption)); obtain ⟨ad847, e847, hx847_0⟩ := Kd.at_bool (Kd.R_reads' HO844.out).2.2 a3 p847 q847; cases e847; replace p847 := eq_true p847; replace q847 := eq_true q847))
        go_ret
        exact ⟨by first | rfl | (simp [errW_none, errW_some] <;> rfl) | (simp only [← hji24]; first | rfl | (simp [errW_none, errW_some] <;> rfl)) | (simp [*, errW_none, errW_some] <;> rfl), viaX HB.out GE837.out⟩
       ·rw [if_neg c29] at H
        exact absurd H (by simp)
      ·rw [if_neg c28] at H
       exact absurd H (by simp)
     ·rw [if_neg c26] at H
      exact absurd H (by simp)
    ·rw [if_neg c25] at H
     exact absurd H (by simp)

-- NOT PRINTED: function 79 (impl_FlipSame_1)

end Go.Proofs.Ythoaebnnolbaaaa.G
