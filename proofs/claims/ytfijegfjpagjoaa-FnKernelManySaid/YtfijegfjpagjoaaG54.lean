/- For each Go function named below: a plain Lean function of the same name, and the proof that a call of the Go function returns just what the plain function tells, where it tells something. Written by a program of this session with the printer of the kit. -/
import Derived.Test.YtfijegfjpagjoaaG0
import Derived.Test.YtfijegfjpagjoaaG33
import Derived.Test.YtfijegfjpagjoaaG49
import Derived.Test.YtfijegfjpagjoaaG51
import Derived.Test.YtfijegfjpagjoaaG52
import Derived.Test.YtfijegfjpagjoaaG53
namespace Go.Proofs.Ytfijegfjpagjoaa.G
open Go.RowKit Go.Proofs.YtfijegfjpagjoaaW.PrintWords Go.Proofs.YtfijegfjpagjoaaW.PrintLast Go.Proofs.YtfijegfjpagjoaaW.PrintMore
attribute [local go_sem] max2_int min2_int max_two min_two max_three min_three max_four min_four   -- for this text's walks alone
set_option linter.unusedVariables false
set_option linter.unusedSimpArgs false

/-! ### laws_FnKernelMany: function 16 -/
def laws_FnKernelMany.j0 : Nat → Int → Bool → Int → Bool → Bool → Int → List (S44) → Option (Bool)
 | 0, _, _, _, _, _, _, _ => none
 | k + 1, x4, x5, x6, x7, x38, x967000, x967001 => if x38 = true then (if (x5 == x7) = true then (some (x4 == x6)) else (some false)) else ((impl_PlainCount.f k x967000 x967001).bind fun bt971 => ((impl_PlainLeast.f k x967000 x967001).bind fun bt973 => (if bt971.2 = true then (if bt973.2 = true then (if x4 ≥ bt971.1 then (if bt973.1 > 2 then (some true) else (some (x4 == (shl .i64 1 (x967001.length : Int))))) else (some false)) else (some false)) else (some false))))
def laws_FnKernelMany.f (k : Nat) (l0 : List Int) : Option (Bool) := if (l0.length : Int) > 1048576 then (some true) else ((spec_DrawKernelMany.f k l0).bind fun bt962 => ((impl_KernelMany.f k bt962.1 bt962.2).bind fun bt967 => ((spec_KernelMany.f k bt962.1 bt962.2).bind fun bt969 => (if (bt967.2 != bt969.2) = true then (laws_FnKernelMany.j0 k bt967.1 bt967.2 bt969.1 bt969.2 true bt962.1 bt962.2) else (if bt967.1 = bt969.1 then (laws_FnKernelMany.j0 k bt967.1 bt967.2 bt969.1 bt969.2 (!bt967.2) bt962.1 bt962.2) else (laws_FnKernelMany.j0 k bt967.1 bt967.2 bt969.1 bt969.2 true bt962.1 bt962.2))))))
theorem laws_FnKernelMany.mono_l : ∀ k, (∀ y0 y1 y2 y3 y4 y5 y6, LeO (laws_FnKernelMany.j0 k y0 y1 y2 y3 y4 y5 y6) (laws_FnKernelMany.j0 (k + 1) y0 y1 y2 y3 y4 y5 y6))
 | 0 => fun _ _ _ _ _ _ _ r h => by simp [laws_FnKernelMany.j0] at h
 | k + 1 => by
  have ih0 := laws_FnKernelMany.mono_l k
  ·intro y0 y1 y2 y3 y4 y5 y6
   unfold laws_FnKernelMany.j0
   repeat' first
   | (with_reducible exact ih0 _ _ _ _ _ _ _)
   | (with_reducible exact impl_KernelMany.mono _ _ _)
   | (with_reducible exact impl_PlainCount.mono _ _ _)
   | (with_reducible exact impl_PlainLeast.mono _ _ _)
   | (with_reducible exact spec_DrawKernelMany.mono _ _)
   | (with_reducible exact spec_KernelMany.mono _ _ _)
   | (with_reducible exact LeO.refl _)
   | (with_reducible exact LeO.none _)
   | (with_reducible refine LeO.ite ?_ ?_)
   | (with_reducible refine LeO.bind ?_ (fun _ => ?_))
   | exact ih0 _ _ _ _ _ _ _
   | exact impl_KernelMany.mono _ _ _
   | exact impl_PlainCount.mono _ _ _
   | exact impl_PlainLeast.mono _ _ _
   | exact spec_DrawKernelMany.mono _ _
   | exact spec_KernelMany.mono _ _ _
   | exact LeO.none _
   | refine LeO.ite ?_ ?_
   | refine LeO.bind ?_ (fun _ => ?_)
theorem laws_FnKernelMany.mono : ∀ a0 k, LeO (laws_FnKernelMany.f k a0) (laws_FnKernelMany.f (k + 1) a0) := by
 intro a0 k; have ih0 := laws_FnKernelMany.mono_l k
 unfold laws_FnKernelMany.f
 repeat' first
   | (with_reducible exact ih0 _ _ _ _ _ _ _)
   | (with_reducible exact impl_KernelMany.mono _ _ _)
   | (with_reducible exact impl_PlainCount.mono _ _ _)
   | (with_reducible exact impl_PlainLeast.mono _ _ _)
   | (with_reducible exact spec_DrawKernelMany.mono _ _)
   | (with_reducible exact spec_KernelMany.mono _ _ _)
   | (with_reducible exact LeO.refl _)
   | (with_reducible exact LeO.none _)
   | (with_reducible refine LeO.ite ?_ ?_)
   | (with_reducible refine LeO.bind ?_ (fun _ => ?_))
   | exact ih0 _ _ _ _ _ _ _
   | exact impl_KernelMany.mono _ _ _
   | exact impl_PlainCount.mono _ _ _
   | exact impl_PlainLeast.mono _ _ _
   | exact spec_DrawKernelMany.mono _ _
   | exact spec_KernelMany.mono _ _ _
   | exact LeO.none _
   | refine LeO.ite ?_ ?_
   | refine LeO.bind ?_ (fun _ => ?_)
set_option maxHeartbeats 8000000 in
set_option maxRecDepth 100000 in
theorem laws_FnKernelMany.calls (k : Nat) (A0 : Option Addr) (c0 : Nat) (l0 : List Int) (r : Bool) (w : World) (hr0 : Kd.C (Kd.int .u8) w A0 l0.length l0) (hc0 : l0.length ≤ c0) (h : laws_FnKernelMany.f k l0 = some r) :
  Calls Try.prog 16 #[.slice A0 l0.length c0] w fun e w' => e = .returned (.bool r) ∧ Below w.heap.size w w' := by
 have hu30 := Try.underlying30; have HR0 := Aside0.mk hr0; have HC0 := Aside0.mk hc0; clear hr0 hc0; have HB := Aside0.mk (Below.refl w.heap.size w); have H : (if (l0.length : Int) > 1048576 then (some true) else ((spec_DrawKernelMany.f k l0).bind fun bt962 => ((impl_KernelMany.f k bt962.1 bt962.2).bind fun bt967 => ((spec_KernelMany.f k bt962.1 bt962.2).bind fun bt969 => (if (bt967.2 != bt969.2) = true then (laws_FnKernelMany.j0 k bt967.1 bt967.2 bt969.1 bt969.2 true bt962.1 bt962.2) else (if bt967.1 = bt969.1 then (laws_FnKernelMany.j0 k bt967.1 bt967.2 bt969.1 bt969.2 (!bt967.2) bt962.1 bt962.2) else (laws_FnKernelMany.j0 k bt967.1 bt967.2 bt969.1 bt969.2 true bt962.1 bt962.2))))))) = some r := h; clear h
 by_cases c2 : (l0.length : Int) > 1048576
 ·rw [if_pos c2] at H
  have c2b0 : decide (1048576 < (l0.length : Int)) = true := decide_eq_true c2; have c2b1 : decide (1048576 < l0.length) = true := decide_eq_true (by omega); clear c2; obtain rfl := Option.some.inj H
  go_enter Try.func16, Try.ntmps16
  go_wp2
  go_ret
  exact ⟨by first | rfl | (simp [errW_none, errW_some] <;> rfl) | (simp [*, errW_none, errW_some] <;> rfl), viaW HB.out⟩
 ·rw [if_neg c2] at H
  have c2b0 : decide (1048576 < (l0.length : Int)) = false := decide_eq_false c2; have c2b1 : decide (1048576 < l0.length) = false := decide_eq_false (by omega); clear c2; replace H := Option.bind_eq_some_iff.mp H; obtain ⟨⟨t962, t963⟩, A30, H⟩ := H; replace H : ((impl_KernelMany.f k t962 t963).bind fun bt967 => ((spec_KernelMany.f k t962 t963).bind fun bt969 => (if (bt967.2 != bt969.2) = true then (laws_FnKernelMany.j0 k bt967.1 bt967.2 bt969.1 bt969.2 true t962 t963) else (if bt967.1 = bt969.1 then (laws_FnKernelMany.j0 k bt967.1 bt967.2 bt969.1 bt969.2 (!bt967.2) t962 t963) else (laws_FnKernelMany.j0 k bt967.1 bt967.2 bt969.1 bt969.2 true t962 t963))))) = some r := H; have A3 := Aside0.mk A30; clear A30; replace H := Option.bind_eq_some_iff.mp H; obtain ⟨⟨t967, t968⟩, A40, H⟩ := H; replace H : ((spec_KernelMany.f k t962 t963).bind fun bt969 => (if (t968 != bt969.2) = true then (laws_FnKernelMany.j0 k t967 t968 bt969.1 bt969.2 true t962 t963) else (if t967 = bt969.1 then (laws_FnKernelMany.j0 k t967 t968 bt969.1 bt969.2 (!t968) t962 t963) else (laws_FnKernelMany.j0 k t967 t968 bt969.1 bt969.2 true t962 t963)))) = some r := H; have A4 := Aside0.mk A40; clear A40; replace H := Option.bind_eq_some_iff.mp H; obtain ⟨⟨t969, t970⟩, A50, H⟩ := H; replace H : (if (t968 != t970) = true then (laws_FnKernelMany.j0 k t967 t968 t969 t970 true t962 t963) else (if t967 = t969 then (laws_FnKernelMany.j0 k t967 t968 t969 t970 (!t968) t962 t963) else (laws_FnKernelMany.j0 k t967 t968 t969 t970 true t962 t963))) = some r := H; have A5 := Aside0.mk A50; clear A50; have HC6 := Aside0.mk H; clear H
  go_enter Try.func16, Try.ntmps16
  go_upto_region 6 with (first | ((with_reducible refine gate_callee (f := 57) rfl ?_); refine goesL_ (some 16) rfl rfl Try.func57 (by kernel_rfl) rfl #[.slice A0 l0.length c0] rfl (by (try simp only [List.map_toArray, List.map_cons, List.map_nil]); first | done | rfl | (simp only [List.length_drop, List.length_take]; rfl)) ?_; (with_reducible refine (spec_DrawKernelMany.calls k _ _ l0 t962 t963 _ ?side1 ?side2 A3.out).mono ?_); (case side1 => repeat (first | exact HR0.out | (with_reducible refine Kd.C_alloc ?_ _) | (with_reducible refine Kd.C_drewN ?_ _) | (with_reducible refine Kd.C_drew ?_))); (case side2 => exact HC0.out); rintro e w7 ⟨v964, rfl, ho0, hb⟩; refine ⟨_, rfl, ?_⟩; have n0_ := Aside0.mk (Kd.R_lower ho0 (below_size (viaW HB.out))); have n1_ := Aside0.mk (below_step (viaW HB.out) hb); clear HB; have HO965 := n0_; have HB := n1_; clear n0_ n1_; (try clear hb); (try clear hb2); (try clear hk); (try clear hi); (try clear ho0)) | ((with_reducible refine gate_dst (N := 3) rfl ?_); (try (refine gate_guard (by rfl) ?_; dsimp only)); refine box_event ?hg (N := 3) ?hd (cs := #[.int .i64 0, .slice none 0 0]) (t := 30) ?hr ?_; (case hd => rfl); (case hg => rfl); (case hr => first | (go_simp; done) | (go_simp; rfl)); intro gb966 hg w8 hbox hb; have n0_ := Aside0.mk (Kd.R_below (viaR HO965.out) hb); have n1_ := Aside0.mk (below_step (viaW HB.out) hb); have n2_ := Aside0.mk (hbox); have n3_ := Aside0.mk ((by rw [hg]; exact (below_size (viaW HB.out)) : w.heap.size ≤ gb966)); have n4_ := Aside0.mk ((by rw [hg]; exact (below_size (viaW HB.out)) : w.heap.size ≤ gb966)); clear HO965; clear HB; have HO965 := n0_; have HB := n1_; have BK966 := n2_; have GW966 := n3_; have GE966 := n4_; clear n0_ n1_ n2_ n3_ n4_; clear hb hbox hg; have hcz9_0 : w8.cell? ⟨gb966, 0, none⟩ = some (.int .i64 0) := (blk_cell BK966.out 0).trans rfl; have hcz9_1 : w8.cell? ⟨gb966, 1, none⟩ = some (.slice none 0 0) := (blk_cell BK966.out 1).trans rfl; have hfz9_0 := blk_frozen BK966.out 0; have hfz9_1 := blk_frozen BK966.out 1; obtain ⟨Ao10, co10, eo10⟩ := Kd.R_slice HO965.out; subst eo10) | ((with_reducible refine gate_callee (f := 58) rfl ?_); refine goesL_ (some 19) rfl rfl Try.func58 (by kernel_rfl) rfl #[.agg #[.int .i64 t962, .slice Ao10 t963.length co10]] rfl (by (try simp only [List.map_toArray, List.map_cons, List.map_nil]); first | done | rfl | (simp only [List.length_drop, List.length_take]; rfl)) ?_; (with_reducible refine (impl_KernelMany.calls k t962 _ _ t963 t967 t968 _ ?side1 ?side2 A4.out).mono ?_); (case side1 => refine (Kd.R_reads' (e := 44) (base := w.heap.size) (ok := fun k_ => True) (n := t963.length) (c := co10) ?_).2.2; exact (by (with_reducible repeat (first | apply Kd.R_alloc | apply Kd.R_drewN | apply Kd.R_drew)); exact (Kd.R_mono (Kd.R_far (p := ⟨gb966, 1, none⟩) (Kd.R_far (p := ⟨gb966, 0, none⟩) (Kd.R_types HO965.out BK966.out (by decide)) (fun _ hk => hk.2) (.int .i64 t962)) (fun _ hk => hk.2) (.slice Ao10 t963.length co10)) (fun _ h_ => h_.1)))); (case side2 => exact (Kd.R_reads' HO965.out).2.1); rintro e w11 ⟨rfl, hb⟩; refine ⟨_, rfl, ?_⟩; have n0_ := Aside0.mk (Kd.R_below (by (with_reducible repeat (first | apply Kd.R_alloc | apply Kd.R_drewN | apply Kd.R_drew)); exact (Kd.R_mono (Kd.R_far (p := ⟨gb966, 1, none⟩) (Kd.R_far (p := ⟨gb966, 0, none⟩) (Kd.R_types HO965.out BK966.out (by decide)) (fun _ hk => hk.2) (.int .i64 t962)) (fun _ hk => hk.2) (.slice Ao10 t963.length co10)) (fun _ h_ => h_.1))) hb); have n1_ := Aside0.mk (blk_below (g := gb966) (o := .cells #[.int .i64 t962, .slice Ao10 t963.length co10] 30 (0, 0)) (by (with_reducible repeat (first | refine blk_drewN ?_ _ | refine blk_drew ?_ | refine blk_alloc ?_ _)); refine blk_put (cs := #[.int .i64 t962, .slice none 0 0]) ?_ 1 _ rfl; (with_reducible repeat (first | refine blk_drewN ?_ _ | refine blk_drew ?_ | refine blk_alloc ?_ _)); refine blk_put (cs := #[.int .i64 0, .slice none 0 0]) ?_ 0 _ rfl; (with_reducible repeat (first | refine blk_drewN ?_ _ | refine blk_drew ?_ | refine blk_alloc ?_ _)); exact BK966.out) hb); have n2_ := Aside0.mk (below_step (viaX HB.out GE966.out) hb); clear HO965; clear BK966; clear HB; have HO965 := n0_; have BK966 := n1_; have HB := n2_; clear n0_ n1_ n2_; (try clear hb); (try clear hb2); (try clear hk); (try clear hi); have hcz12_0 : w11.cell? ⟨gb966, 0, none⟩ = some (.int .i64 t962) := (blk_cell BK966.out 0).trans rfl; have hcz12_1 : w11.cell? ⟨gb966, 1, none⟩ = some (.slice Ao10 t963.length co10) := (blk_cell BK966.out 1).trans rfl; have hfz12_0 := blk_frozen BK966.out 0; have hfz12_1 := blk_frozen BK966.out 1) | ((with_reducible refine gate_callee (f := 59) rfl ?_); refine goesL_ (some 24) rfl rfl Try.func59 (by kernel_rfl) rfl #[.agg #[.int .i64 t962, .slice Ao10 t963.length co10]] rfl (by (try simp only [List.map_toArray, List.map_cons, List.map_nil]); first | done | rfl | (simp only [List.length_drop, List.length_take]; rfl)) ?_; (with_reducible refine (spec_KernelMany.calls k t962 _ _ t963 t969 t970 _ ?side1 ?side2 A5.out).mono ?_); (case side1 => repeat (first | exact (Kd.R_reads' HO965.out).2.2 | (with_reducible refine Kd.C_alloc ?_ _) | (with_reducible refine Kd.C_drewN ?_ _) | (with_reducible refine Kd.C_drew ?_))); (case side2 => exact (Kd.R_reads' HO965.out).2.1); rintro e w13 ⟨rfl, hb⟩; refine ⟨_, rfl, ?_⟩; have n0_ := Aside0.mk (Kd.R_below (viaR HO965.out) hb); have n1_ := Aside0.mk (blk_below (g := gb966) (o := .cells #[.int .i64 t962, .slice Ao10 t963.length co10] 30 (0, 0)) (viaB BK966.out) hb); have n2_ := Aside0.mk (below_step (viaX HB.out GE966.out) hb); clear HO965; clear BK966; clear HB; have HO965 := n0_; have BK966 := n1_; have HB := n2_; clear n0_ n1_ n2_; (try clear hb); (try clear hb2); (try clear hk); (try clear hi)))
  (try simp only [Act.put, List.setIfInBounds_toArray, List.set_cons_zero, List.set_cons_succ])
  go_cut [38] (fun v38 wc => ∃ (kq : Nat) (x38_5 : Bool), v38 = .bool x38_5 ∧ Aside0 (laws_FnKernelMany.j0 kq t967 t968 t969 t970 x38_5 t962 t963 = some r) ∧ Aside0 (kq ≤ k) ∧ Aside0 (Kd.R k44 44 wc w.heap.size (fun _ => True) (.slice Ao10 t963.length co10) t963) ∧ Aside0 (wc.heap[gb966]? = some (.cells #[.int .i64 t962, (.slice Ao10 t963.length co10)] 30 (0, 0))) ∧ Aside0 (Below w.heap.size w wc))
  case first =>
   have H := HC6.out; clear HC6
   by_cases c14 : (t968 != t970) = true
   ·rw [if_pos c14] at H
    have c14b0 : (t968 != t970) = true := c14
    (try (have c14b1 : decide (t968 = t970) = false := by simpa using c14))
    (try (have c14b2 : (t968 == t970) = false := by simpa using c14))
    (try (have c14b3 : ¬ (t968 = t970) := by simpa using c14))
    clear c14
    (first | rw [c14b0] | (simp only [i64_w, i32_w]; rw [c14b0]) | skip)
    have H' := Aside0.mk H; clear H
    go_wp2
    go_meet
    case rel => exact ⟨_, (true), (by first | rfl | (simp; done) | (simp [*]; done)), H', ⟨by first | omega | exact Nat.le_refl _⟩, ⟨viaR HO965.out⟩, ⟨viaB BK966.out⟩, ⟨viaX HB.out GE966.out⟩⟩
   ·rw [if_neg c14] at H
    have c14b0 : (t968 != t970) = false := by simpa using c14
    (try (have c14b1 : decide (t968 = t970) = true := by simpa using c14))
    (try (have c14b2 : (t968 == t970) = true := by simpa using c14))
    clear c14
    (first | rw [c14b0] | (simp only [i64_w, i32_w]; rw [c14b0]) | skip)
    by_cases c15 : t967 = t969
    ·rw [if_pos c15] at H
     have c15b0 : (t967 == t969) = true := beq_iff_eq.mpr c15; have c15b1 : (t967 != t969) = false := bne_eq_false_iff_eq.mpr c15; clear c15; have H' := Aside0.mk H; clear H
     go_wp2
     go_meet
     case rel => exact ⟨_, (!t968), (by first | rfl | (simp; done) | (simp [*]; done)), H', ⟨by first | omega | exact Nat.le_refl _⟩, ⟨viaR HO965.out⟩, ⟨viaB BK966.out⟩, ⟨viaX HB.out GE966.out⟩⟩
    ·rw [if_neg c15] at H
     have c15b0 : (t967 == t969) = false := beq_eq_false_iff_ne.mpr c15; have c15b1 : (t967 != t969) = true := bne_iff_ne.mpr c15; have H' := Aside0.mk H; clear H
     go_wp2
     go_meet
     case rel => exact ⟨_, (true), (by first | rfl | (simp; done) | (simp [*]; done)), H', ⟨by first | omega | exact Nat.le_refl _⟩, ⟨viaR HO965.out⟩, ⟨viaB BK966.out⟩, ⟨viaX HB.out GE966.out⟩⟩
  case rest =>
   clear HC6
   try clear c1
   try clear c2
   try clear c2b0
   try clear c2b1
   try clear p2
   try clear c5
   try clear c14
   try clear c14b0
   try clear c14b1
   try clear c14b2
   try clear c15
   try clear c15b0
   try clear c15b1
   try clear hcz12_0
   try clear hcz12_1
   try clear hcz9_0
   try clear hcz9_1
   try clear hfz12_0
   try clear hfz12_1
   try clear hfz9_0
   try clear hfz9_1
   obtain ⟨kq, x38_5, rfl, HA, HJ5, HO_967001, BK966, HB⟩ := hcut
   cases kq with
   | zero => exact absurd HA.out (by simp [laws_FnKernelMany.j0])
   | succ kj5 =>
    have H := HA.out; clear HA
    simp only [laws_FnKernelMany.j0] at H
    by_cases c16 : x38_5 = true
    ·subst c16
     have H1 : (if (t968 == t970) = true then (some (t967 == t969)) else (some false)) = some r := by rw [if_pos rfl] at H; exact H
     clear H; have H := H1; clear H1
     by_cases c17 : (t968 == t970) = true
     ·rw [if_pos c17] at H
      have c17b0 : (t968 == t970) = true := c17
      (try (have c17b1 : decide (t968 = t970) = true := by simpa using c17))
      (try (have c17b2 : (t968 == t970) = true := by simpa using c17))
      clear c17; obtain rfl := Option.some.inj H
      go_wp2
      go_ret
      exact ⟨by first | rfl | (simp [errW_none, errW_some] <;> rfl) | (simp [*, errW_none, errW_some] <;> rfl), viaX HB.out GE966.out⟩
     ·rw [if_neg c17] at H
      have c17b0 : (t968 == t970) = false := by simpa using c17
      (try (have c17b1 : decide (t968 = t970) = false := by simpa using c17))
      (try (have c17b2 : (t968 == t970) = false := by simpa using c17))
      (try (have c17b3 : ¬ (t968 = t970) := by simpa using c17))
      clear c17; obtain rfl := Option.some.inj H
      go_wp2
      go_ret
      exact ⟨by first | rfl | (simp [errW_none, errW_some] <;> rfl) | (simp [*, errW_none, errW_some] <;> rfl), viaX HB.out GE966.out⟩
    ·replace c16 := Bool.eq_false_iff.mpr c16
     subst c16; have H1 : ((impl_PlainCount.f kj5 t962 t963).bind fun bt971 => ((impl_PlainLeast.f kj5 t962 t963).bind fun bt973 => (if bt971.2 = true then (if bt973.2 = true then (if t967 ≥ bt971.1 then (if bt973.1 > 2 then (some true) else (some (t967 == (shl .i64 1 (t963.length : Int))))) else (some false)) else (some false)) else (some false)))) = some r := by rw [if_neg (show ¬ (false = true) by decide)] at H; exact H
     clear H; have H := H1; clear H1; replace H := Option.bind_eq_some_iff.mp H; obtain ⟨⟨t971, t972⟩, A180, H⟩ := H; replace H : ((impl_PlainLeast.f kj5 t962 t963).bind fun bt973 => (if t972 = true then (if bt973.2 = true then (if t967 ≥ t971 then (if bt973.1 > 2 then (some true) else (some (t967 == (shl .i64 1 (t963.length : Int))))) else (some false)) else (some false)) else (some false))) = some r := H; have A18 := Aside0.mk A180; clear A180; replace H := Option.bind_eq_some_iff.mp H; obtain ⟨⟨t973, t974⟩, A190, H⟩ := H; replace H : (if t972 = true then (if t974 = true then (if t967 ≥ t971 then (if t973 > 2 then (some true) else (some (t967 == (shl .i64 1 (t963.length : Int))))) else (some false)) else (some false)) else (some false)) = some r := H; have A19 := Aside0.mk A190; clear A190
     by_cases c20 : t972 = true
     ·subst c20
      have H1 : (if t974 = true then (if t967 ≥ t971 then (if t973 > 2 then (some true) else (some (t967 == (shl .i64 1 (t963.length : Int))))) else (some false)) else (some false)) = some r := by rw [if_pos rfl] at H; exact H
      clear H; have H := H1; clear H1
      by_cases c21 : t974 = true
      ·subst c21
       have H1 : (if t967 ≥ t971 then (if t973 > 2 then (some true) else (some (t967 == (shl .i64 1 (t963.length : Int))))) else (some false)) = some r := by rw [if_pos rfl] at H; exact H
       clear H; have H := H1; clear H1
       by_cases c22 : t967 ≥ t971
       ·rw [if_pos c22] at H
        have c22b0 : decide (t971 ≤ t967) = true := decide_eq_true c22; clear c22
        by_cases c23 : t973 > 2
        ·rw [if_pos c23] at H
         have c23b0 : decide (2 < t973) = true := decide_eq_true c23; clear c23; obtain rfl := Option.some.inj H; have hcz24_0 : wc.cell? ⟨gb966, 0, none⟩ = some (.int .i64 t962) := (blk_cell BK966.out 0).trans rfl; have hcz24_1 : wc.cell? ⟨gb966, 1, none⟩ = some (.slice Ao10 t963.length co10) := (blk_cell BK966.out 1).trans rfl; have hfz24_0 := blk_frozen BK966.out 0; have hfz24_1 := blk_frozen BK966.out 1
         go_wp2_with (first | ((with_reducible refine gate_callee (f := 60) rfl ?_); refine goesL_ (some 49) rfl rfl Try.func60 (by kernel_rfl) rfl #[.agg #[.int .i64 t962, .slice Ao10 t963.length co10]] rfl (by (try simp only [List.map_toArray, List.map_cons, List.map_nil]); first | done | rfl | (simp only [List.length_drop, List.length_take]; rfl)) ?_; (with_reducible refine (impl_PlainCount.calls kj5 t962 _ _ t963 t971 true _ ?side1 ?side2 A18.out).mono ?_); (case side1 => repeat (first | exact (Kd.R_reads' HO_967001.out).2.2 | (with_reducible refine Kd.C_alloc ?_ _) | (with_reducible refine Kd.C_drewN ?_ _) | (with_reducible refine Kd.C_drew ?_))); (case side2 => exact (Kd.R_reads' HO_967001.out).2.1); rintro e w25 ⟨rfl, hb⟩; refine ⟨_, rfl, ?_⟩; have n0_ := Aside0.mk (Kd.R_below (viaR HO_967001.out) hb); have n1_ := Aside0.mk (blk_below (g := gb966) (o := .cells #[.int .i64 t962, .slice Ao10 t963.length co10] 30 (0, 0)) (viaB BK966.out) hb); have n2_ := Aside0.mk (below_step (viaX HB.out GE966.out) hb); clear HO_967001; clear BK966; clear HB; have HO_967001 := n0_; have BK966 := n1_; have HB := n2_; clear n0_ n1_ n2_; (try clear hb); (try clear hb2); (try clear hk); (try clear hi); have hcz26_0 : w25.cell? ⟨gb966, 0, none⟩ = some (.int .i64 t962) := (blk_cell BK966.out 0).trans rfl; have hcz26_1 : w25.cell? ⟨gb966, 1, none⟩ = some (.slice Ao10 t963.length co10) := (blk_cell BK966.out 1).trans rfl; have hfz26_0 := blk_frozen BK966.out 0; have hfz26_1 := blk_frozen BK966.out 1) | ((with_reducible refine gate_callee (f := 39) rfl ?_); refine goesL_ (some 54) rfl rfl Try.func39 (by kernel_rfl) rfl #[.agg #[.int .i64 t962, .slice Ao10 t963.length co10]] rfl (by (try simp only [List.map_toArray, List.map_cons, List.map_nil]); first | done | rfl | (simp only [List.length_drop, List.length_take]; rfl)) ?_; (with_reducible refine (impl_PlainLeast.calls kj5 t962 _ _ t963 t973 true _ ?side1 ?side2 A19.out).mono ?_); (case side1 => repeat (first | exact (Kd.R_reads' HO_967001.out).2.2 | (with_reducible refine Kd.C_alloc ?_ _) | (with_reducible refine Kd.C_drewN ?_ _) | (with_reducible refine Kd.C_drew ?_))); (case side2 => exact (Kd.R_reads' HO_967001.out).2.1); rintro e w27 ⟨rfl, hb⟩; refine ⟨_, rfl, ?_⟩; have n0_ := Aside0.mk (Kd.R_below (viaR HO_967001.out) hb); have n1_ := Aside0.mk (blk_below (g := gb966) (o := .cells #[.int .i64 t962, .slice Ao10 t963.length co10] 30 (0, 0)) (viaB BK966.out) hb); have n2_ := Aside0.mk (below_step (viaX HB.out GE966.out) hb); clear HO_967001; clear BK966; clear HB; have HO_967001 := n0_; have BK966 := n1_; have HB := n2_; clear n0_ n1_ n2_; (try clear hb); (try clear hb2); (try clear hk); (try clear hi)))
         go_ret
         exact ⟨by first | rfl | (simp [errW_none, errW_some] <;> rfl) | (simp [*, errW_none, errW_some] <;> rfl), viaX HB.out GE966.out⟩
        ·rw [if_neg c23] at H
         have c23b0 : decide (2 < t973) = false := decide_eq_false c23; clear c23; obtain ⟨ji28, hji28⟩ : ∃ j_ : Int, (shl .i64 1 (t963.length : Int)) = j_ := ⟨_, rfl⟩; replace H : (some (t967 == (ji28))) = some r := by first | (rw [hji28] at H; exact H) | (simp only [hji28] at H ⊢; exact H)
         (try rw [hji28] at A18)
         (try rw [hji28] at A19)
         have hji28_ : (IntKind.i64.wrap (1 * 2 ^ min (t963.length : Int).toNat 64)) = ji28 := hji28; have hji28z : (t963.length : Int) ≤ 64 → (IntKind.i64.wrap (1 * 2 ^ (t963.length : Int).toNat)) = ji28 := shl_small hji28; have hji28p : (IntKind.i64.wrap (1 * 2 ^ min t963.length 64)) = ji28 := hji28_; have hji28q : (t963.length : Int) ≤ 64 → (IntKind.i64.wrap (1 * 2 ^ t963.length)) = ji28 := hji28z; have hji28r : (IntKind.i64.wrap (2 ^ min t963.length 64)) = ji28 := by have h_ := hji28p; rw [Int.one_mul] at h_; exact h_
         have hji28s : (t963.length : Int) ≤ 64 → (IntKind.i64.wrap (2 ^ t963.length)) = ji28 := fun hle_ => by have h_ := hji28q hle_; rw [Int.one_mul] at h_; exact h_
         have hji28u : (IntKind.i64.wrap (2 ^ min (t963.length : Int).toNat 64)) = ji28 := by have h_ := hji28_; rw [Int.one_mul] at h_; exact h_
         have hji28v : (t963.length : Int) ≤ 64 → (IntKind.i64.wrap (2 ^ (t963.length : Int).toNat)) = ji28 := fun hle_ => by have h_ := hji28z hle_; rw [Int.one_mul] at h_; exact h_
         have hji28y : (wrap64 (1 * 2 ^ min (t963.length : Int).toNat 64)) = ji28 := (i64_w _).symm.trans hji28_; have hji28x : (t963.length : Int) ≤ 64 → (wrap64 (1 * 2 ^ (t963.length : Int).toNat)) = ji28 := fun h_ => (i64_w _).symm.trans (hji28z h_); obtain rfl := Option.some.inj H; have hcz29_0 : wc.cell? ⟨gb966, 0, none⟩ = some (.int .i64 t962) := (blk_cell BK966.out 0).trans rfl; have hcz29_1 : wc.cell? ⟨gb966, 1, none⟩ = some (.slice Ao10 t963.length co10) := (blk_cell BK966.out 1).trans rfl; have hfz29_0 := blk_frozen BK966.out 0; have hfz29_1 := blk_frozen BK966.out 1
         go_wp2_with (first | ((with_reducible refine gate_callee (f := 60) rfl ?_); refine goesL_ (some 49) rfl rfl Try.func60 (by kernel_rfl) rfl #[.agg #[.int .i64 t962, .slice Ao10 t963.length co10]] rfl (by (try simp only [List.map_toArray, List.map_cons, List.map_nil]); first | done | rfl | (simp only [List.length_drop, List.length_take]; rfl)) ?_; (with_reducible refine (impl_PlainCount.calls kj5 t962 _ _ t963 t971 true _ ?side1 ?side2 A18.out).mono ?_); (case side1 => repeat (first | exact (Kd.R_reads' HO_967001.out).2.2 | (with_reducible refine Kd.C_alloc ?_ _) | (with_reducible refine Kd.C_drewN ?_ _) | (with_reducible refine Kd.C_drew ?_))); (case side2 => exact (Kd.R_reads' HO_967001.out).2.1); rintro e w30 ⟨rfl, hb⟩; refine ⟨_, rfl, ?_⟩; have n0_ := Aside0.mk (Kd.R_below (viaR HO_967001.out) hb); have n1_ := Aside0.mk (blk_below (g := gb966) (o := .cells #[.int .i64 t962, .slice Ao10 t963.length co10] 30 (0, 0)) (viaB BK966.out) hb); have n2_ := Aside0.mk (below_step (viaX HB.out GE966.out) hb); clear HO_967001; clear BK966; clear HB; have HO_967001 := n0_; have BK966 := n1_; have HB := n2_; clear n0_ n1_ n2_; (try clear hb); (try clear hb2); (try clear hk); (try clear hi); have hcz31_0 : w30.cell? ⟨gb966, 0, none⟩ = some (.int .i64 t962) := (blk_cell BK966.out 0).trans rfl; have hcz31_1 : w30.cell? ⟨gb966, 1, none⟩ = some (.slice Ao10 t963.length co10) := (blk_cell BK966.out 1).trans rfl; have hfz31_0 := blk_frozen BK966.out 0; have hfz31_1 := blk_frozen BK966.out 1) | ((with_reducible refine gate_callee (f := 39) rfl ?_); refine goesL_ (some 54) rfl rfl Try.func39 (by kernel_rfl) rfl #[.agg #[.int .i64 t962, .slice Ao10 t963.length co10]] rfl (by (try simp only [List.map_toArray, List.map_cons, List.map_nil]); first | done | rfl | (simp only [List.length_drop, List.length_take]; rfl)) ?_; (with_reducible refine (impl_PlainLeast.calls kj5 t962 _ _ t963 t973 true _ ?side1 ?side2 A19.out).mono ?_); (case side1 => repeat (first | exact (Kd.R_reads' HO_967001.out).2.2 | (with_reducible refine Kd.C_alloc ?_ _) | (with_reducible refine Kd.C_drewN ?_ _) | (with_reducible refine Kd.C_drew ?_))); (case side2 => exact (Kd.R_reads' HO_967001.out).2.1); rintro e w32 ⟨rfl, hb⟩; refine ⟨_, rfl, ?_⟩; have n0_ := Aside0.mk (Kd.R_below (viaR HO_967001.out) hb); have n1_ := Aside0.mk (blk_below (g := gb966) (o := .cells #[.int .i64 t962, .slice Ao10 t963.length co10] 30 (0, 0)) (viaB BK966.out) hb); have n2_ := Aside0.mk (below_step (viaX HB.out GE966.out) hb); clear HO_967001; clear BK966; clear HB; have HO_967001 := n0_; have BK966 := n1_; have HB := n2_; clear n0_ n1_ n2_; (try clear hb); (try clear hb2); (try clear hk); (try clear hi); have hcz33_0 : w32.cell? ⟨gb966, 0, none⟩ = some (.int .i64 t962) := (blk_cell BK966.out 0).trans rfl; have hcz33_1 : w32.cell? ⟨gb966, 1, none⟩ = some (.slice Ao10 t963.length co10) := (blk_cell BK966.out 1).trans rfl; have hfz33_0 := blk_frozen BK966.out 0; have hfz33_1 := blk_frozen BK966.out 1))
         go_ret
         exact ⟨by first | rfl | (simp [errW_none, errW_some] <;> rfl) | (simp only [← hji28]; first | rfl | (simp [errW_none, errW_some] <;> rfl)) | (simp [*, errW_none, errW_some] <;> rfl), viaX HB.out GE966.out⟩
       ·rw [if_neg c22] at H
        have c22b0 : decide (t971 ≤ t967) = false := decide_eq_false c22; clear c22; obtain rfl := Option.some.inj H; have hcz34_0 : wc.cell? ⟨gb966, 0, none⟩ = some (.int .i64 t962) := (blk_cell BK966.out 0).trans rfl; have hcz34_1 : wc.cell? ⟨gb966, 1, none⟩ = some (.slice Ao10 t963.length co10) := (blk_cell BK966.out 1).trans rfl; have hfz34_0 := blk_frozen BK966.out 0; have hfz34_1 := blk_frozen BK966.out 1
        go_wp2_with (first | ((with_reducible refine gate_callee (f := 60) rfl ?_); refine goesL_ (some 49) rfl rfl Try.func60 (by kernel_rfl) rfl #[.agg #[.int .i64 t962, .slice Ao10 t963.length co10]] rfl (by (try simp only [List.map_toArray, List.map_cons, List.map_nil]); first | done | rfl | (simp only [List.length_drop, List.length_take]; rfl)) ?_; (with_reducible refine (impl_PlainCount.calls kj5 t962 _ _ t963 t971 true _ ?side1 ?side2 A18.out).mono ?_); (case side1 => repeat (first | exact (Kd.R_reads' HO_967001.out).2.2 | (with_reducible refine Kd.C_alloc ?_ _) | (with_reducible refine Kd.C_drewN ?_ _) | (with_reducible refine Kd.C_drew ?_))); (case side2 => exact (Kd.R_reads' HO_967001.out).2.1); rintro e w35 ⟨rfl, hb⟩; refine ⟨_, rfl, ?_⟩; have n0_ := Aside0.mk (Kd.R_below (viaR HO_967001.out) hb); have n1_ := Aside0.mk (blk_below (g := gb966) (o := .cells #[.int .i64 t962, .slice Ao10 t963.length co10] 30 (0, 0)) (viaB BK966.out) hb); have n2_ := Aside0.mk (below_step (viaX HB.out GE966.out) hb); clear HO_967001; clear BK966; clear HB; have HO_967001 := n0_; have BK966 := n1_; have HB := n2_; clear n0_ n1_ n2_; (try clear hb); (try clear hb2); (try clear hk); (try clear hi); have hcz36_0 : w35.cell? ⟨gb966, 0, none⟩ = some (.int .i64 t962) := (blk_cell BK966.out 0).trans rfl; have hcz36_1 : w35.cell? ⟨gb966, 1, none⟩ = some (.slice Ao10 t963.length co10) := (blk_cell BK966.out 1).trans rfl; have hfz36_0 := blk_frozen BK966.out 0; have hfz36_1 := blk_frozen BK966.out 1) | ((with_reducible refine gate_callee (f := 39) rfl ?_); refine goesL_ (some 54) rfl rfl Try.func39 (by kernel_rfl) rfl #[.agg #[.int .i64 t962, .slice Ao10 t963.length co10]] rfl (by (try simp only [List.map_toArray, List.map_cons, List.map_nil]); first | done | rfl | (simp only [List.length_drop, List.length_take]; rfl)) ?_; (with_reducible refine (impl_PlainLeast.calls kj5 t962 _ _ t963 t973 true _ ?side1 ?side2 A19.out).mono ?_); (case side1 => repeat (first | exact (Kd.R_reads' HO_967001.out).2.2 | (with_reducible refine Kd.C_alloc ?_ _) | (with_reducible refine Kd.C_drewN ?_ _) | (with_reducible refine Kd.C_drew ?_))); (case side2 => exact (Kd.R_reads' HO_967001.out).2.1); rintro e w37 ⟨rfl, hb⟩; refine ⟨_, rfl, ?_⟩; have n0_ := Aside0.mk (Kd.R_below (viaR HO_967001.out) hb); have n1_ := Aside0.mk (blk_below (g := gb966) (o := .cells #[.int .i64 t962, .slice Ao10 t963.length co10] 30 (0, 0)) (viaB BK966.out) hb); have n2_ := Aside0.mk (below_step (viaX HB.out GE966.out) hb); clear HO_967001; clear BK966; clear HB; have HO_967001 := n0_; have BK966 := n1_; have HB := n2_; clear n0_ n1_ n2_; (try clear hb); (try clear hb2); (try clear hk); (try clear hi)))
        go_ret
        exact ⟨by first | rfl | (simp [errW_none, errW_some] <;> rfl) | (simp [*, errW_none, errW_some] <;> rfl), viaX HB.out GE966.out⟩
      ·replace c21 := Bool.eq_false_iff.mpr c21
       subst c21; have H1 : (some false) = some r := by rw [if_neg (show ¬ (false = true) by decide)] at H; exact H
       clear H; have H := H1; clear H1; obtain rfl := Option.some.inj H; have hcz38_0 : wc.cell? ⟨gb966, 0, none⟩ = some (.int .i64 t962) := (blk_cell BK966.out 0).trans rfl; have hcz38_1 : wc.cell? ⟨gb966, 1, none⟩ = some (.slice Ao10 t963.length co10) := (blk_cell BK966.out 1).trans rfl; have hfz38_0 := blk_frozen BK966.out 0; have hfz38_1 := blk_frozen BK966.out 1
       go_wp2_with (first | ((with_reducible refine gate_callee (f := 60) rfl ?_); refine goesL_ (some 49) rfl rfl Try.func60 (by kernel_rfl) rfl #[.agg #[.int .i64 t962, .slice Ao10 t963.length co10]] rfl (by (try simp only [List.map_toArray, List.map_cons, List.map_nil]); first | done | rfl | (simp only [List.length_drop, List.length_take]; rfl)) ?_; (with_reducible refine (impl_PlainCount.calls kj5 t962 _ _ t963 t971 true _ ?side1 ?side2 A18.out).mono ?_); (case side1 => repeat (first | exact (Kd.R_reads' HO_967001.out).2.2 | (with_reducible refine Kd.C_alloc ?_ _) | (with_reducible refine Kd.C_drewN ?_ _) | (with_reducible refine Kd.C_drew ?_))); (case side2 => exact (Kd.R_reads' HO_967001.out).2.1); rintro e w39 ⟨rfl, hb⟩; refine ⟨_, rfl, ?_⟩; have n0_ := Aside0.mk (Kd.R_below (viaR HO_967001.out) hb); have n1_ := Aside0.mk (blk_below (g := gb966) (o := .cells #[.int .i64 t962, .slice Ao10 t963.length co10] 30 (0, 0)) (viaB BK966.out) hb); have n2_ := Aside0.mk (below_step (viaX HB.out GE966.out) hb); clear HO_967001; clear BK966; clear HB; have HO_967001 := n0_; have BK966 := n1_; have HB := n2_; clear n0_ n1_ n2_; (try clear hb); (try clear hb2); (try clear hk); (try clear hi); have hcz40_0 : w39.cell? ⟨gb966, 0, none⟩ = some (.int .i64 t962) := (blk_cell BK966.out 0).trans rfl; have hcz40_1 : w39.cell? ⟨gb966, 1, none⟩ = some (.slice Ao10 t963.length co10) := (blk_cell BK966.out 1).trans rfl; have hfz40_0 := blk_frozen BK966.out 0; have hfz40_1 := blk_frozen BK966.out 1) | ((with_reducible refine gate_callee (f := 39) rfl ?_); refine goesL_ (some 54) rfl rfl Try.func39 (by kernel_rfl) rfl #[.agg #[.int .i64 t962, .slice Ao10 t963.length co10]] rfl (by (try simp only [List.map_toArray, List.map_cons, List.map_nil]); first | done | rfl | (simp only [List.length_drop, List.length_take]; rfl)) ?_; (with_reducible refine (impl_PlainLeast.calls kj5 t962 _ _ t963 t973 false _ ?side1 ?side2 A19.out).mono ?_); (case side1 => repeat (first | exact (Kd.R_reads' HO_967001.out).2.2 | (with_reducible refine Kd.C_alloc ?_ _) | (with_reducible refine Kd.C_drewN ?_ _) | (with_reducible refine Kd.C_drew ?_))); (case side2 => exact (Kd.R_reads' HO_967001.out).2.1); rintro e w41 ⟨rfl, hb⟩; refine ⟨_, rfl, ?_⟩; have n0_ := Aside0.mk (Kd.R_below (viaR HO_967001.out) hb); have n1_ := Aside0.mk (blk_below (g := gb966) (o := .cells #[.int .i64 t962, .slice Ao10 t963.length co10] 30 (0, 0)) (viaB BK966.out) hb); have n2_ := Aside0.mk (below_step (viaX HB.out GE966.out) hb); clear HO_967001; clear BK966; clear HB; have HO_967001 := n0_; have BK966 := n1_; have HB := n2_; clear n0_ n1_ n2_; (try clear hb); (try clear hb2); (try clear hk); (try clear hi)))
       go_ret
       exact ⟨by first | rfl | (simp [errW_none, errW_some] <;> rfl) | (simp [*, errW_none, errW_some] <;> rfl), viaX HB.out GE966.out⟩
     ·replace c20 := Bool.eq_false_iff.mpr c20
      subst c20; have H1 : (some false) = some r := by rw [if_neg (show ¬ (false = true) by decide)] at H; exact H
      clear H; have H := H1; clear H1; obtain rfl := Option.some.inj H; have hcz42_0 : wc.cell? ⟨gb966, 0, none⟩ = some (.int .i64 t962) := (blk_cell BK966.out 0).trans rfl; have hcz42_1 : wc.cell? ⟨gb966, 1, none⟩ = some (.slice Ao10 t963.length co10) := (blk_cell BK966.out 1).trans rfl; have hfz42_0 := blk_frozen BK966.out 0; have hfz42_1 := blk_frozen BK966.out 1
      go_wp2_with (first | ((with_reducible refine gate_callee (f := 60) rfl ?_); refine goesL_ (some 49) rfl rfl Try.func60 (by kernel_rfl) rfl #[.agg #[.int .i64 t962, .slice Ao10 t963.length co10]] rfl (by (try simp only [List.map_toArray, List.map_cons, List.map_nil]); first | done | rfl | (simp only [List.length_drop, List.length_take]; rfl)) ?_; (with_reducible refine (impl_PlainCount.calls kj5 t962 _ _ t963 t971 false _ ?side1 ?side2 A18.out).mono ?_); (case side1 => repeat (first | exact (Kd.R_reads' HO_967001.out).2.2 | (with_reducible refine Kd.C_alloc ?_ _) | (with_reducible refine Kd.C_drewN ?_ _) | (with_reducible refine Kd.C_drew ?_))); (case side2 => exact (Kd.R_reads' HO_967001.out).2.1); rintro e w43 ⟨rfl, hb⟩; refine ⟨_, rfl, ?_⟩; have n0_ := Aside0.mk (Kd.R_below (viaR HO_967001.out) hb); have n1_ := Aside0.mk (blk_below (g := gb966) (o := .cells #[.int .i64 t962, .slice Ao10 t963.length co10] 30 (0, 0)) (viaB BK966.out) hb); have n2_ := Aside0.mk (below_step (viaX HB.out GE966.out) hb); clear HO_967001; clear BK966; clear HB; have HO_967001 := n0_; have BK966 := n1_; have HB := n2_; clear n0_ n1_ n2_; (try clear hb); (try clear hb2); (try clear hk); (try clear hi); have hcz44_0 : w43.cell? ⟨gb966, 0, none⟩ = some (.int .i64 t962) := (blk_cell BK966.out 0).trans rfl; have hcz44_1 : w43.cell? ⟨gb966, 1, none⟩ = some (.slice Ao10 t963.length co10) := (blk_cell BK966.out 1).trans rfl; have hfz44_0 := blk_frozen BK966.out 0; have hfz44_1 := blk_frozen BK966.out 1) | ((with_reducible refine gate_callee (f := 39) rfl ?_); refine goesL_ (some 54) rfl rfl Try.func39 (by kernel_rfl) rfl #[.agg #[.int .i64 t962, .slice Ao10 t963.length co10]] rfl (by (try simp only [List.map_toArray, List.map_cons, List.map_nil]); first | done | rfl | (simp only [List.length_drop, List.length_take]; rfl)) ?_; (with_reducible refine (impl_PlainLeast.calls kj5 t962 _ _ t963 t973 t974 _ ?side1 ?side2 A19.out).mono ?_); (case side1 => repeat (first | exact (Kd.R_reads' HO_967001.out).2.2 | (with_reducible refine Kd.C_alloc ?_ _) | (with_reducible refine Kd.C_drewN ?_ _) | (with_reducible refine Kd.C_drew ?_))); (case side2 => exact (Kd.R_reads' HO_967001.out).2.1); rintro e w45 ⟨rfl, hb⟩; refine ⟨_, rfl, ?_⟩; have n0_ := Aside0.mk (Kd.R_below (viaR HO_967001.out) hb); have n1_ := Aside0.mk (blk_below (g := gb966) (o := .cells #[.int .i64 t962, .slice Ao10 t963.length co10] 30 (0, 0)) (viaB BK966.out) hb); have n2_ := Aside0.mk (below_step (viaX HB.out GE966.out) hb); clear HO_967001; clear BK966; clear HB; have HO_967001 := n0_; have BK966 := n1_; have HB := n2_; clear n0_ n1_ n2_; (try clear hb); (try clear hb2); (try clear hk); (try clear hi)))
      go_ret
      exact ⟨by first | rfl | (simp [errW_none, errW_some] <;> rfl) | (simp [*, errW_none, errW_some] <;> rfl), viaX HB.out GE966.out⟩

/-- THE ONE PURE STATEMENT of laws_FnKernelMany: yours. -/
def laws_FnKernelMany.Pure : Prop := ∀ (l0 : List Int), l0.length ≤ maxLen → l0.length * 1 ≤ 140737488351232 → (∀ x ∈ l0, (Lit.int .u8 x).wf = true) → ∃ k, laws_FnKernelMany.f k l0 = some true
theorem laws_FnKernelMany.walk (P : laws_FnKernelMany.Pure) (a0 : Option Addr) (len0 cap0 : Nat) (z0 : List Int) (w : World) (w0 : (a0 = none ∧ len0 = 0 ∧ cap0 = 0 ∧ z0 = []) ∨ ∃ x, a0 = some x ∧ len0 ≤ cap0 ∧ cap0 ≤ maxLen ∧ z0.length = cap0 ∧ (∀ i, i < z0.length → w.cell? (x.add i) = some (.int .u8 (z0.getD i 0))) ∧ ∀ n ∈ z0, (Lit.int .u8 n).wf = true) (y0 : len0 * 1 ≤ 140737488351232) :
  Calls Try.prog 16 #[.slice a0 len0 cap0] w fun e w' => e = .returned (.bool true) ∧ Below w.heap.size w w' := by
 obtain ⟨l0, rfl, hr0, hm0, hw0, hc0⟩ := ReadsInt.ofRowC w0; obtain ⟨k, h⟩ := P l0 hm0 y0 hw0
 refine (laws_FnKernelMany.calls k _ _ l0 true w (Kd.C_of_reads (d := (0 : Int)) (h1 := fun _ => rfl) hr0) hc0 h).mono ?_
 rintro e w' ⟨rfl, hd⟩
 exact ⟨rfl, hd⟩

end Go.Proofs.Ytfijegfjpagjoaa.G
