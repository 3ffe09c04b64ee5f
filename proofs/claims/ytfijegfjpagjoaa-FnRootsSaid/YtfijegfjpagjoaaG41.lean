/- For each Go function named below: a plain Lean function of the same name, and the proof that a call of the Go function returns just what the plain function tells, where it tells something. Written by a program of this session with the printer of the kit. -/
import Derived.Test.YtfijegfjpagjoaaG0
import Derived.Test.YtfijegfjpagjoaaG2
import Derived.Test.YtfijegfjpagjoaaG5
import Derived.Test.YtfijegfjpagjoaaG20
import Derived.Test.YtfijegfjpagjoaaG25
import Derived.Test.YtfijegfjpagjoaaG31
import Derived.Test.YtfijegfjpagjoaaG37
import Derived.Test.YtfijegfjpagjoaaG39
namespace Go.Proofs.Ytfijegfjpagjoaa.G
open Go.RowKit Go.Proofs.YtfijegfjpagjoaaW.PrintWords Go.Proofs.YtfijegfjpagjoaaW.PrintLast Go.Proofs.YtfijegfjpagjoaaW.PrintMore
attribute [local go_sem] max2_int min2_int max_two min_two max_three min_three max_four min_four   -- for this text's walks alone
set_option linter.unusedVariables false
set_option linter.unusedSimpArgs false

/-! ### spec_DrawKernelRoots: function 45 -/
def spec_DrawKernelRoots.f (k : Nat) (l0 : List Int) : Option (Int × (List (S44)) × Int) := (spec_l91One.f k l0).bind fun bt768 => (some (bt768.1, bt768.2.1, bt768.2.2))
theorem spec_DrawKernelRoots.mono : ∀ a0 k, LeO (spec_DrawKernelRoots.f k a0) (spec_DrawKernelRoots.f (k + 1) a0) := by
 intro a0 k
 unfold spec_DrawKernelRoots.f
 repeat' first
   | (with_reducible exact spec_l91One.mono _ _)
   | (with_reducible exact LeO.refl _)
   | (with_reducible exact LeO.none _)
   | (with_reducible refine LeO.ite ?_ ?_)
   | (with_reducible refine LeO.bind ?_ (fun _ => ?_))
   | exact spec_l91One.mono _ _
   | exact LeO.none _
   | refine LeO.ite ?_ ?_
   | refine LeO.bind ?_ (fun _ => ?_)
set_option maxHeartbeats 8000000 in
set_option maxRecDepth 100000 in
theorem spec_DrawKernelRoots.calls (k : Nat) (A0 : Option Addr) (c0 : Nat) (l0 : List Int) (r1 : Int) (r2 : List (S44)) (r3 : Int) (w : World) (hr0 : Kd.C (Kd.int .u8) w A0 l0.length l0) (hc0 : l0.length ≤ c0) (h : spec_DrawKernelRoots.f k l0 = some (r1, r2, r3)) :
  Calls Try.prog 45 #[.slice A0 l0.length c0] w fun e w' => ∃ v1_ : Value, e = .returned (.tuple #[.agg #[.int .i64 r1, v1_], .int .i64 r3]) ∧ Kd.R k44 44 w' w.heap.size (fun _ => True) v1_ r2 ∧ Below w.heap.size w w' := by
 have hu30 := Try.underlying30; have HR0 := Aside0.mk hr0; have HC0 := Aside0.mk hc0; clear hr0 hc0; have HB := Aside0.mk (Below.refl w.heap.size w); have H : ((spec_l91One.f k l0).bind fun bt768 => (some (bt768.1, bt768.2.1, bt768.2.2))) = some (r1, r2, r3) := h; clear h; replace H := Option.bind_eq_some_iff.mp H; obtain ⟨⟨t768, t769, t772⟩, A20, H⟩ := H; replace H : (some (t768, t769, t772)) = some (r1, r2, r3) := H; have A2 := Aside0.mk A20; clear A20
 simp only [Option.some.injEq, Prod.mk.injEq] at H
 obtain ⟨rfl, rfl, rfl⟩ := H
 go_enter Try.func45, Try.ntmps45
 go_wp2_with (first | ((with_reducible refine gate_dst (N := 2) rfl ?_); refine box_event ?hg (N := 2) ?hd (cs := #[.int .i64 0, .slice none 0 0]) (t := 30) ?hr ?_; (case hd => rfl); (case hg => rfl); (case hr => first | (go_simp; done) | (go_simp; rfl)); intro gb767 hg w3 hbox hb; have n0_ := Aside0.mk (below_step (viaW HB.out) hb); have n1_ := Aside0.mk (hbox); have n2_ := Aside0.mk ((by rw [hg]; exact (below_size (viaW HB.out)) : w.heap.size ≤ gb767)); have n3_ := Aside0.mk ((by rw [hg]; exact (below_size (viaW HB.out)) : w.heap.size ≤ gb767)); clear HB; have HB := n0_; have BK767 := n1_; have GW767 := n2_; have GE767 := n3_; clear n0_ n1_ n2_ n3_; clear hb hbox hg) | ((with_reducible refine gate_callee (f := 77) rfl ?_); refine goesL_ (some 5) rfl rfl Try.func77 (by kernel_rfl) rfl #[.slice A0 l0.length c0] rfl (by (try simp only [List.map_toArray, List.map_cons, List.map_nil]); first | done | rfl | (simp only [List.length_drop, List.length_take]; rfl)) ?_; (with_reducible refine (spec_l91One.calls k _ _ l0 t768 t769 t772 _ ?side1 ?side2 A2.out).mono ?_); (case side1 => repeat (first | exact (Kd.C_below HR0.out HB.out) | (with_reducible refine Kd.C_alloc ?_ _) | (with_reducible refine Kd.C_drewN ?_ _) | (with_reducible refine Kd.C_drew ?_))); (case side2 => exact HC0.out); rintro e w4 ⟨v770, rfl, ho0, hb⟩; refine ⟨_, rfl, ?_⟩; have n0_ := Aside0.mk (Kd.R_lower ho0 (below_size (viaX HB.out GE767.out))); have n1_ := Aside0.mk (blk_below (g := gb767) (o := .cells #[.int .i64 0, .slice none 0 0] 30 (0, 0)) (viaB BK767.out) hb); have n2_ := Aside0.mk (below_step (viaX HB.out GE767.out) hb); clear BK767; clear HB; have HO771 := n0_; have BK767 := n1_; have HB := n2_; clear n0_ n1_ n2_; (try clear hb); (try clear hb2); (try clear hk); (try clear hi); (try clear ho0); have hcz5_0 : w4.cell? ⟨gb767, 0, none⟩ = some (.int .i64 0) := (blk_cell BK767.out 0).trans rfl; have hcz5_1 : w4.cell? ⟨gb767, 1, none⟩ = some (.slice none 0 0) := (blk_cell BK767.out 1).trans rfl; have hfz5_0 := blk_frozen BK767.out 0; have hfz5_1 := blk_frozen BK767.out 1; obtain ⟨Ao6, co6, eo6⟩ := Kd.R_slice HO771.out; subst eo6))
 refine bodyPost_ret (results_ct rfl _ _ gb767 30 #[.int .i64 t768, .slice Ao6 t769.length co6] (0, 0) _ rfl (by (with_reducible repeat (first | refine blk_drewN ?_ _ | refine blk_drew ?_ | refine blk_alloc ?_ _)); refine blk_put (cs := #[.int .i64 t768, .slice none 0 0]) ?_ 1 _ rfl; (with_reducible repeat (first | refine blk_drewN ?_ _ | refine blk_drew ?_ | refine blk_alloc ?_ _)); refine blk_put (cs := #[.int .i64 0, .slice none 0 0]) ?_ 0 _ rfl; (with_reducible repeat (first | refine blk_drewN ?_ _ | refine blk_drew ?_ | refine blk_alloc ?_ _)); exact BK767.out) Try.underlying30 rfl (by kernel_rfl)) rfl ?_
 exact ⟨_, by first | rfl | (simp [errW_none, errW_some] <;> rfl) | (simp [*, errW_none, errW_some] <;> rfl), by (with_reducible repeat (first | apply Kd.R_alloc | apply Kd.R_drewN | apply Kd.R_drew)); exact Kd.R_mono (Kd.R_far (p := ⟨gb767, 1, none⟩) (Kd.R_far (p := ⟨gb767, 0, none⟩) (Kd.R_types HO771.out BK767.out (by decide)) (fun _ hk => hk.2) (.int .i64 t768)) (fun _ hk => hk.2) (.slice Ao6 t769.length co6)) (fun _ hk => trivial), viaX HB.out GE767.out⟩

/-! ### impl_WayParts: function 46 -/
def impl_WayParts.f (k : Nat) (a0_0 : Int) (l0_1 : List (S44)) : Option (Int × Bool) := (impl_WayGraph.f k a0_0 l0_1).bind fun t774 => (if t774 = true then ((impl_partsBy.f k a0_0 l0_1 (wrap64 ((shl .i64 1 (l0_1.length : Int)) - 1))).bind fun t775 => (some (t775, true))) else (some (0, false)))
theorem impl_WayParts.mono : ∀ a0 a1 k, LeO (impl_WayParts.f k a0 a1) (impl_WayParts.f (k + 1) a0 a1) := by
 intro a0 a1 k
 unfold impl_WayParts.f
 repeat' first
   | (with_reducible exact impl_WayGraph.mono _ _ _)
   | (with_reducible exact impl_partsBy.mono _ _ _ _)
   | (with_reducible exact LeO.refl _)
   | (with_reducible exact LeO.none _)
   | (with_reducible refine LeO.ite ?_ ?_)
   | (with_reducible refine LeO.bind ?_ (fun _ => ?_))
   | exact impl_WayGraph.mono _ _ _
   | exact impl_partsBy.mono _ _ _ _
   | exact LeO.none _
   | refine LeO.ite ?_ ?_
   | refine LeO.bind ?_ (fun _ => ?_)
def impl_WayParts.T3 : Bool × List (List Nat × List Nat) := (true, [([], []), ([], []), ([1], [1]), ([2], [2]), ([3], [3]), ([4], [4]), ([0, 5], [0, 5]), ([6, 6, 0, 1, 2, 3, 4, 5, 6], [6]), ([7, 0, 1, 2, 3, 4, 5, 6, 7], [])])
def impl_WayParts.B3 : List Nat := [0, 0, 2, 6, 14, 30, 63, 127, 255]
theorem impl_WayParts.tab3 : rtab .any (opsOf Try.f46 3) = impl_WayParts.T3 := by kernel_rfl
theorem impl_WayParts.bits3 : waitsOk impl_WayParts.T3.2 impl_WayParts.B3 = true := by kernel_rfl
set_option maxHeartbeats 8000000 in
set_option maxRecDepth 100000 in
theorem impl_WayParts.calls (k : Nat) (a0_0 : Int) (A0_1 : Option Addr) (c0_1 : Nat) (l0_1 : List (S44)) (r1 : Int) (r2 : Bool) (w : World) (hr0_1 : Kd.C k44 w A0_1 l0_1.length l0_1) (hc0_1 : l0_1.length ≤ c0_1) (h : impl_WayParts.f k a0_0 l0_1 = some (r1, r2)) :
  Calls Try.prog 46 #[.agg #[.int .i64 a0_0, .slice A0_1 l0_1.length c0_1]] w fun e w' => e = .returned (.tuple #[.int .i64 r1, .bool r2]) ∧ Below w.heap.size w w' := by
 have hu30 := Try.underlying30; have HR0_1 := Aside0.mk hr0_1; have HC0_1 := Aside0.mk hc0_1; clear hr0_1 hc0_1; have HB := Aside0.mk (Below.refl w.heap.size w); have H : ((impl_WayGraph.f k a0_0 l0_1).bind fun t774 => (if t774 = true then ((impl_partsBy.f k a0_0 l0_1 (wrap64 ((shl .i64 1 (l0_1.length : Int)) - 1))).bind fun t775 => (some (t775, true))) else (some (0, false)))) = some (r1, r2) := h; clear h; replace H := Option.bind_eq_some_iff.mp H; obtain ⟨t774, A20, H⟩ := H; replace H : (if t774 = true then ((impl_partsBy.f k a0_0 l0_1 (wrap64 ((shl .i64 1 (l0_1.length : Int)) - 1))).bind fun t775 => (some (t775, true))) else (some (0, false))) = some (r1, r2) := H; have A2 := Aside0.mk A20; clear A20
 by_cases c3 : t774 = true
 ·subst c3
  have H1 : ((impl_partsBy.f k a0_0 l0_1 (wrap64 ((shl .i64 1 (l0_1.length : Int)) - 1))).bind fun t775 => (some (t775, true))) = some (r1, r2) := by rw [if_pos rfl] at H; exact H
  clear H; have H := H1; clear H1; obtain ⟨ji4, hji4⟩ : ∃ j_ : Int, (shl .i64 1 (l0_1.length : Int)) = j_ := ⟨_, rfl⟩; replace H : ((impl_partsBy.f k a0_0 l0_1 (wrap64 ((ji4) - 1))).bind fun t775 => (some (t775, true))) = some (r1, r2) := by first | (rw [hji4] at H; exact H) | (simp only [hji4] at H ⊢; exact H)
  (try rw [hji4] at A2)
  have hji4_ : (IntKind.i64.wrap (1 * 2 ^ min (l0_1.length : Int).toNat 64)) = ji4 := hji4; have hji4z : (l0_1.length : Int) ≤ 64 → (IntKind.i64.wrap (1 * 2 ^ (l0_1.length : Int).toNat)) = ji4 := shl_small hji4; have hji4p : (IntKind.i64.wrap (1 * 2 ^ min l0_1.length 64)) = ji4 := hji4_; have hji4q : (l0_1.length : Int) ≤ 64 → (IntKind.i64.wrap (1 * 2 ^ l0_1.length)) = ji4 := hji4z; have hji4r : (IntKind.i64.wrap (2 ^ min l0_1.length 64)) = ji4 := by have h_ := hji4p; rw [Int.one_mul] at h_; exact h_
  have hji4s : (l0_1.length : Int) ≤ 64 → (IntKind.i64.wrap (2 ^ l0_1.length)) = ji4 := fun hle_ => by have h_ := hji4q hle_; rw [Int.one_mul] at h_; exact h_
  have hji4u : (IntKind.i64.wrap (2 ^ min (l0_1.length : Int).toNat 64)) = ji4 := by have h_ := hji4_; rw [Int.one_mul] at h_; exact h_
  have hji4v : (l0_1.length : Int) ≤ 64 → (IntKind.i64.wrap (2 ^ (l0_1.length : Int).toNat)) = ji4 := fun hle_ => by have h_ := hji4z hle_; rw [Int.one_mul] at h_; exact h_
  have hji4y : (wrap64 (1 * 2 ^ min (l0_1.length : Int).toNat 64)) = ji4 := (i64_w _).symm.trans hji4_; have hji4x : (l0_1.length : Int) ≤ 64 → (wrap64 (1 * 2 ^ (l0_1.length : Int).toNat)) = ji4 := fun h_ => (i64_w _).symm.trans (hji4z h_); replace H := Option.bind_eq_some_iff.mp H; obtain ⟨t775, A50, H⟩ := H; replace H : (some (t775, true)) = some (r1, r2) := H; have A5 := Aside0.mk A50; clear A50
  simp only [Option.some.injEq, Prod.mk.injEq] at H
  obtain ⟨rfl, rfl⟩ := H
  go_enter Try.func46, Try.ntmps46
  try go_wp2_with (first | ((with_reducible refine gate_dst (N := 1) rfl ?_); refine box_event ?hg (N := 1) ?hd (cs := #[.int .i64 a0_0, .slice A0_1 l0_1.length c0_1]) (t := 30) ?hr ?_; (case hd => rfl); (case hg => rfl); (case hr => first | (go_simp; done) | (go_simp; rfl)); intro gb773 hg w6 hbox hb; have n0_ := Aside0.mk (below_step (viaW HB.out) hb); have n1_ := Aside0.mk (hbox); have n2_ := Aside0.mk ((by rw [hg]; exact (below_size (viaW HB.out)) : w.heap.size ≤ gb773)); have n3_ := Aside0.mk ((by rw [hg]; exact (below_size (viaW HB.out)) : w.heap.size ≤ gb773)); clear HB; have HB := n0_; have BK773 := n1_; have GW773 := n2_; have GE773 := n3_; clear n0_ n1_ n2_ n3_; clear hb hbox hg; have hcz7_0 : w6.cell? ⟨gb773, 0, none⟩ = some (.int .i64 a0_0) := (blk_cell BK773.out 0).trans rfl; have hcz7_1 : w6.cell? ⟨gb773, 1, none⟩ = some (.slice A0_1 l0_1.length c0_1) := (blk_cell BK773.out 1).trans rfl; have hfz7_0 := blk_frozen BK773.out 0; have hfz7_1 := blk_frozen BK773.out 1) | ((with_reducible refine gate_callee (f := 76) rfl ?_); refine goesL_ (some 5) rfl rfl Try.func76 (by kernel_rfl) rfl #[.agg #[.int .i64 a0_0, .slice A0_1 l0_1.length c0_1]] rfl (by (try simp only [List.map_toArray, List.map_cons, List.map_nil]); first | done | rfl | (simp only [List.length_drop, List.length_take]; rfl)) ?_; (with_reducible refine (impl_WayGraph.calls k a0_0 _ _ l0_1 true _ ?side1 ?side2 A2.out).mono ?_); (case side1 => repeat (first | exact (Kd.C_below HR0_1.out HB.out) | (with_reducible refine Kd.C_alloc ?_ _) | (with_reducible refine Kd.C_drewN ?_ _) | (with_reducible refine Kd.C_drew ?_))); (case side2 => exact HC0_1.out); rintro e w8 ⟨rfl, hb⟩; refine ⟨_, rfl, ?_⟩; have n0_ := Aside0.mk (blk_below (g := gb773) (o := .cells #[.int .i64 a0_0, .slice A0_1 l0_1.length c0_1] 30 (0, 0)) (viaB BK773.out) hb); have n1_ := Aside0.mk (below_step (viaX HB.out GE773.out) hb); clear BK773; clear HB; have BK773 := n0_; have HB := n1_; clear n0_ n1_; (try clear hb); (try clear hb2); (try clear hk); (try clear hi)))
  have n0_ := Aside0.mk (blk_drew BK773.out); have n1_ := Aside0.mk (below_drew1 HB.out); clear BK773; clear HB; have BK773 := n0_; have HB := n1_; clear n0_ n1_
  refine start_ (n := 9) (S := fun w' => w'.cell? ⟨gb773, 0, none⟩ = some (.int .i64 a0_0) ∧ w'.cell? ⟨gb773, 1, none⟩ = some (.slice A0_1 l0_1.length c0_1)) (ds := []) #[false, false, false, false, false, false, false, false, false] (by kernel_rfl) rfl rfl ⟨(blk_cell BK773.out 0).trans rfl, (blk_cell BK773.out 1).trans rfl⟩ (fun hHeld => ?_); refine with_tabW impl_WayParts.tab3 impl_WayParts.bits3 (fun HT_ HW_ => ?_)
  generalize w8.drew = w9 at BK773 HB hHeld ⊢
  refine pure_ (i := 1) (N := some 8) (v := ?_) (a' := ?_) #[false, true, false, false, false, false, false, false, false] rfl rfl (any_of HT_.out (by kernel_rfl)) (fun _ _ _ h => h) (Or.inl ⟨by rfl, ?_⟩) ?_ ?_
  rotate_left
  ·intro w'
   go_simp
   with_reducible rfl
  rotate_left
  ·simp only [Act.put, List.setIfInBounds_toArray, List.set_cons_zero, List.set_cons_succ, i64_w, i32_w]
   rfl
  refine take_ (i := 0) (N := some 7) (v := ?_) (a' := ?_) #[true, true, false, false, false, false, false, false, false] rfl rfl (take_ofW HT_.out HW_.out (by kernel_rfl)) (fun _ _ _ h => h) (Or.inl ⟨by rfl, ?_⟩) hHeld ?_ ?_
  rotate_left
  ·rintro w' ⟨s0, s1⟩
   go_simp
   with_reducible rfl
  rotate_left
  ·simp only [Act.put, List.setIfInBounds_toArray, List.set_cons_zero, List.set_cons_succ, i64_w, i32_w]
   rfl
  refine take_ (i := 2) (N := some 9) (v := ?_) (a' := ?_) #[true, true, true, false, false, false, false, false, false] rfl rfl (take_ofW HT_.out HW_.out (by kernel_rfl)) (fun _ _ _ h => h) (Or.inl ⟨by rfl, ?_⟩) hHeld ?_ ?_
  rotate_left
  ·rintro w' ⟨s0, s1⟩
   go_simp
   with_reducible rfl
  rotate_left
  ·simp only [Act.put, List.setIfInBounds_toArray, List.set_cons_zero, List.set_cons_succ, i64_w, i32_w]
   rfl
  refine pure_ (i := 3) (N := some 10) (v := ?_) (a' := ?_) #[true, true, true, true, false, false, false, false, false] rfl rfl (any_of HT_.out (by kernel_rfl)) (fun _ _ _ h => h) (Or.inl ⟨by rfl, ?_⟩) ?_ ?_
  rotate_left
  ·intro w'
   go_simp
   with_reducible rfl
  rotate_left
  ·simp only [Act.put, List.setIfInBounds_toArray, List.set_cons_zero, List.set_cons_succ, i64_w, i32_w]
   rfl
  refine pure_ (i := 4) (N := some 11) (v := ?_) (a' := ?_) #[true, true, true, true, true, false, false, false, false] rfl rfl (any_of HT_.out (by kernel_rfl)) (fun _ _ _ h => h) (Or.inl ⟨by rfl, ?_⟩) ?_ ?_
  rotate_left
  ·intro w'
   go_simp
   with_reducible rfl
  rotate_left
  ·simp only [Act.put, List.setIfInBounds_toArray, List.set_cons_zero, List.set_cons_succ, i64_w, i32_w]
   rfl
  refine pure_ (i := 5) (N := some 12) (v := ?_) (a' := ?_) #[true, true, true, true, true, true, false, false, false] rfl rfl (any_of HT_.out (by kernel_rfl)) (fun _ _ _ h => h) (Or.inl ⟨by rfl, ?_⟩) ?_ ?_
  rotate_left
  ·intro w'
   go_simp
   with_reducible rfl
  rotate_left
  ·simp only [Act.put, List.setIfInBounds_toArray, List.set_cons_zero, List.set_cons_succ, i64_w, i32_w]
   rfl
  refine one_ (i := 6) (N := some 13) #[true, true, true, true, true, true, true, false, false] rfl rfl (one_of HT_.out (by kernel_rfl)) (by decide) (fun K hK => ?_)
  refine goes_ Try.func92 (by kernel_rfl) rfl #[.agg #[.int .i64 a0_0, .slice A0_1 l0_1.length c0_1], .int .i64 (wrap64 ((ji4) - 1))] (by rfl) rfl rfl (by (try simp only [List.map_toArray, List.map_cons, List.map_nil]); first | done | (simp only [hji4]; rfl) | rfl | (simp only [List.length_drop, List.length_take]; rfl)) ?_
  with_reducible refine (impl_partsBy.calls k a0_0 _ _ l0_1 (wrap64 ((ji4) - 1)) t775 _ ?side1 ?side2 A5.out).mono ?_
  (case side1 => repeat (first | exact (Kd.C_below HR0_1.out HB.out) | (with_reducible refine Kd.C_alloc ?_ _) | (with_reducible refine Kd.C_drewN ?_ _) | (with_reducible refine Kd.C_drew ?_)))
  (case side2 => exact HC0_1.out)
  rintro e w10 ⟨rfl, hb⟩
  refine ⟨_, rfl, ?_⟩
  have n0_ := Aside0.mk (blk_below (g := gb773) (o := .cells #[.int .i64 a0_0, .slice A0_1 l0_1.length c0_1] 30 (0, 0)) (viaB BK773.out) hb); have n1_ := Aside0.mk (below_step (viaX HB.out GE773.out) hb); clear BK773; clear HB; have BK773 := n0_; have HB := n1_; clear n0_ n1_
  (try clear hb)
  (try clear hb2)
  (try clear hk)
  (try clear hi)
  refine hK.out _ _ ⟨(blk_cell BK773.out 0).trans rfl, (blk_cell BK773.out 1).trans rfl⟩ (fun hHeld => ?_)
  clear hK K
  refine norm_ (a' := ?_) ?_ ?_
  rotate_left
  ·show Act.put _ (some 13) _ = _
   simp only [Act.put, List.setIfInBounds_toArray, List.set_cons_zero, List.set_cons_succ, i64_w, i32_w]
   rfl
  refine pure_ (i := 7) (N := some 2) (v := ?_) (a' := ?_) #[true, true, true, true, true, true, true, true, false] rfl rfl (any_of HT_.out (by kernel_rfl)) (fun _ _ _ h => h) (Or.inl ⟨by rfl, ?_⟩) ?_ ?_
  rotate_left
  ·intro w'
   go_simp
   with_reducible rfl
  rotate_left
  ·simp only [Act.put, List.setIfInBounds_toArray, List.set_cons_zero, List.set_cons_succ, i64_w, i32_w]
   rfl
  refine pure_ (i := 8) (N := some 3) (v := ?_) (a' := ?_) #[true, true, true, true, true, true, true, true, true] rfl rfl (any_of HT_.out (by kernel_rfl)) (fun _ _ _ h => h) (Or.inl ⟨by rfl, ?_⟩) ?_ ?_
  rotate_left
  ·intro w'
   go_simp
   with_reducible rfl
  rotate_left
  ·simp only [Act.put, List.setIfInBounds_toArray, List.set_cons_zero, List.set_cons_succ, i64_w, i32_w]
   rfl
  refine done_ (done_of HT_.out (by kernel_rfl)) ?_
  try go_wp2
  go_ret2
  exact ⟨by first | rfl | (simp [errW_none, errW_some] <;> rfl) | (simp only [← hji4]; first | rfl | (simp [errW_none, errW_some] <;> rfl)) | (simp [*, errW_none, errW_some] <;> rfl), viaX HB.out GE773.out⟩
 ·replace c3 := Bool.eq_false_iff.mpr c3
  subst c3; have H1 : (some (0, false)) = some (r1, r2) := by rw [if_neg (show ¬ (false = true) by decide)] at H; exact H
  clear H; have H := H1; clear H1
  simp only [Option.some.injEq, Prod.mk.injEq] at H
  obtain ⟨rfl, rfl⟩ := H
  go_enter Try.func46, Try.ntmps46
  go_wp2_with (first | ((with_reducible refine gate_dst (N := 1) rfl ?_); refine box_event ?hg (N := 1) ?hd (cs := #[.int .i64 a0_0, .slice A0_1 l0_1.length c0_1]) (t := 30) ?hr ?_; (case hd => rfl); (case hg => rfl); (case hr => first | (go_simp; done) | (go_simp; rfl)); intro gb773 hg w11 hbox hb; have n0_ := Aside0.mk (below_step (viaW HB.out) hb); have n1_ := Aside0.mk (hbox); have n2_ := Aside0.mk ((by rw [hg]; exact (below_size (viaW HB.out)) : w.heap.size ≤ gb773)); have n3_ := Aside0.mk ((by rw [hg]; exact (below_size (viaW HB.out)) : w.heap.size ≤ gb773)); clear HB; have HB := n0_; have BK773 := n1_; have GW773 := n2_; have GE773 := n3_; clear n0_ n1_ n2_ n3_; clear hb hbox hg; have hcz12_0 : w11.cell? ⟨gb773, 0, none⟩ = some (.int .i64 a0_0) := (blk_cell BK773.out 0).trans rfl; have hcz12_1 : w11.cell? ⟨gb773, 1, none⟩ = some (.slice A0_1 l0_1.length c0_1) := (blk_cell BK773.out 1).trans rfl; have hfz12_0 := blk_frozen BK773.out 0; have hfz12_1 := blk_frozen BK773.out 1) | ((with_reducible refine gate_callee (f := 76) rfl ?_); refine goesL_ (some 5) rfl rfl Try.func76 (by kernel_rfl) rfl #[.agg #[.int .i64 a0_0, .slice A0_1 l0_1.length c0_1]] rfl (by (try simp only [List.map_toArray, List.map_cons, List.map_nil]); first | done | rfl | (simp only [List.length_drop, List.length_take]; rfl)) ?_; (with_reducible refine (impl_WayGraph.calls k a0_0 _ _ l0_1 false _ ?side1 ?side2 A2.out).mono ?_); (case side1 => repeat (first | exact (Kd.C_below HR0_1.out HB.out) | (with_reducible refine Kd.C_alloc ?_ _) | (with_reducible refine Kd.C_drewN ?_ _) | (with_reducible refine Kd.C_drew ?_))); (case side2 => exact HC0_1.out); rintro e w13 ⟨rfl, hb⟩; refine ⟨_, rfl, ?_⟩; have n0_ := Aside0.mk (blk_below (g := gb773) (o := .cells #[.int .i64 a0_0, .slice A0_1 l0_1.length c0_1] 30 (0, 0)) (viaB BK773.out) hb); have n1_ := Aside0.mk (below_step (viaX HB.out GE773.out) hb); clear BK773; clear HB; have BK773 := n0_; have HB := n1_; clear n0_ n1_; (try clear hb); (try clear hb2); (try clear hk); (try clear hi)))
  go_ret2
  exact ⟨by first | rfl | (simp [errW_none, errW_some] <;> rfl) | (simp [*, errW_none, errW_some] <;> rfl), viaX HB.out GE773.out⟩

/-! ### impl_sinksOf: function 93 -/
def impl_sinksOf.l0 : Nat → Int → List Int → Int → Int → Option (Int)
 | 0, _, _, _, _ => none
 | k + 1, x5, x10, x11, x12 => if x12 < x11 then (if 0 ≤ x12 then (if x12 < (x10.length : Int) then (if (rd x10 x12) = 0 then (impl_sinksOf.l0 k (Go.bits .or .i64 x5 (shl .i64 1 x12)) x10 x11 (wrap64 (x12 + 1))) else (impl_sinksOf.l0 k x5 x10 x11 (wrap64 (x12 + 1)))) else (none)) else (none)) else (some x5)
def impl_sinksOf.f (k : Nat) (a0_0 : Int) (l0_1 : List (S44)) (a1 : Int) : Option (Int) := (impl_nextOf.f k a0_0 l0_1 a1).bind fun t777 => (impl_sinksOf.l0 k 0 t777 (t777.length : Int) 0)
theorem impl_sinksOf.mono_l : ∀ k, (∀ y0 y1 y2 y3, LeO (impl_sinksOf.l0 k y0 y1 y2 y3) (impl_sinksOf.l0 (k + 1) y0 y1 y2 y3))
 | 0 => fun _ _ _ _ r h => by simp [impl_sinksOf.l0] at h
 | k + 1 => by
  have ih0 := impl_sinksOf.mono_l k
  ·intro y0 y1 y2 y3
   unfold impl_sinksOf.l0
   repeat' first
   | (with_reducible exact ih0 _ _ _ _)
   | (with_reducible exact impl_nextOf.mono _ _ _ _)
   | (with_reducible exact LeO.refl _)
   | (with_reducible exact LeO.none _)
   | (with_reducible refine LeO.ite ?_ ?_)
   | (with_reducible refine LeO.bind ?_ (fun _ => ?_))
   | exact ih0 _ _ _ _
   | exact impl_nextOf.mono _ _ _ _
   | exact LeO.none _
   | refine LeO.ite ?_ ?_
   | refine LeO.bind ?_ (fun _ => ?_)
theorem impl_sinksOf.mono : ∀ a0 a1 a2 k, LeO (impl_sinksOf.f k a0 a1 a2) (impl_sinksOf.f (k + 1) a0 a1 a2) := by
 intro a0 a1 a2 k; have ih0 := impl_sinksOf.mono_l k
 unfold impl_sinksOf.f
 repeat' first
   | (with_reducible exact ih0 _ _ _ _)
   | (with_reducible exact impl_nextOf.mono _ _ _ _)
   | (with_reducible exact LeO.refl _)
   | (with_reducible exact LeO.none _)
   | (with_reducible refine LeO.ite ?_ ?_)
   | (with_reducible refine LeO.bind ?_ (fun _ => ?_))
   | exact ih0 _ _ _ _
   | exact impl_nextOf.mono _ _ _ _
   | exact LeO.none _
   | refine LeO.ite ?_ ?_
   | refine LeO.bind ?_ (fun _ => ?_)
set_option maxHeartbeats 8000000 in
set_option maxRecDepth 100000 in
theorem impl_sinksOf.calls (k : Nat) (a0_0 : Int) (A0_1 : Option Addr) (c0_1 : Nat) (l0_1 : List (S44)) (a1 : Int) (r : Int) (w : World) (hr0_1 : Kd.C k44 w A0_1 l0_1.length l0_1) (hc0_1 : l0_1.length ≤ c0_1) (h : impl_sinksOf.f k a0_0 l0_1 a1 = some r) :
  Calls Try.prog 93 #[.agg #[.int .i64 a0_0, .slice A0_1 l0_1.length c0_1], .int .i64 a1] w fun e w' => e = .returned (.int .i64 r) ∧ Below w.heap.size w w' := by
 have hu30 := Try.underlying30; have HR0_1 := Aside0.mk hr0_1; have HC0_1 := Aside0.mk hc0_1; clear hr0_1 hc0_1; have HB := Aside0.mk (Below.refl w.heap.size w); have H : ((impl_nextOf.f k a0_0 l0_1 a1).bind fun t777 => (impl_sinksOf.l0 k 0 t777 (t777.length : Int) 0)) = some r := h; clear h; replace H := Option.bind_eq_some_iff.mp H; obtain ⟨t777, A30, H⟩ := H; replace H : (impl_sinksOf.l0 k 0 t777 (t777.length : Int) 0) = some r := H; have A3 := Aside0.mk A30; clear A30; have H' := Aside0.mk H; clear H
 go_enter Try.func93, Try.ntmps93
 go_wp2_with (first | ((with_reducible refine gate_dst (N := 2) rfl ?_); refine box_event ?hg (N := 2) ?hd (cs := #[.int .i64 a0_0, .slice A0_1 l0_1.length c0_1]) (t := 30) ?hr ?_; (case hd => rfl); (case hg => rfl); (case hr => first | (go_simp; done) | (go_simp; rfl)); intro gb776 hg w4 hbox hb; have n0_ := Aside0.mk (below_step (viaW HB.out) hb); have n1_ := Aside0.mk (hbox); have n2_ := Aside0.mk ((by rw [hg]; exact (below_size (viaW HB.out)) : w.heap.size ≤ gb776)); have n3_ := Aside0.mk ((by rw [hg]; exact (below_size (viaW HB.out)) : w.heap.size ≤ gb776)); clear HB; have HB := n0_; have BK776 := n1_; have GW776 := n2_; have GE776 := n3_; clear n0_ n1_ n2_ n3_; clear hb hbox hg; have hcz5_0 : w4.cell? ⟨gb776, 0, none⟩ = some (.int .i64 a0_0) := (blk_cell BK776.out 0).trans rfl; have hcz5_1 : w4.cell? ⟨gb776, 1, none⟩ = some (.slice A0_1 l0_1.length c0_1) := (blk_cell BK776.out 1).trans rfl; have hfz5_0 := blk_frozen BK776.out 0; have hfz5_1 := blk_frozen BK776.out 1) | ((with_reducible refine gate_callee (f := 87) rfl ?_); refine goesL_ (some 10) rfl rfl Try.func87 (by kernel_rfl) rfl #[.agg #[.int .i64 a0_0, .slice A0_1 l0_1.length c0_1], .int .i64 a1] rfl (by (try simp only [List.map_toArray, List.map_cons, List.map_nil]); first | done | rfl | (simp only [List.length_drop, List.length_take]; rfl)) ?_; (with_reducible refine (impl_nextOf.calls k a0_0 _ _ l0_1 a1 t777 _ ?side1 ?side2 A3.out).mono ?_); (case side1 => repeat (first | exact (Kd.C_below HR0_1.out HB.out) | (with_reducible refine Kd.C_alloc ?_ _) | (with_reducible refine Kd.C_drewN ?_ _) | (with_reducible refine Kd.C_drew ?_))); (case side2 => exact HC0_1.out); rintro e w6 ⟨v778, rfl, ho0, hb⟩; refine ⟨_, rfl, ?_⟩; have n0_ := Aside0.mk (Kd.R_lower ho0 (below_size (viaX HB.out GE776.out))); have n1_ := Aside0.mk (blk_below (g := gb776) (o := .cells #[.int .i64 a0_0, .slice A0_1 l0_1.length c0_1] 30 (0, 0)) (viaB BK776.out) hb); have n2_ := Aside0.mk (below_step (viaX HB.out GE776.out) hb); clear BK776; clear HB; have HO779 := n0_; have BK776 := n1_; have HB := n2_; clear n0_ n1_ n2_; (try clear hb); (try clear hb2); (try clear hk); (try clear hi); (try clear ho0); obtain ⟨Ao7, co7, eo7⟩ := Kd.R_slice HO779.out; subst eo7))
 go_loopg [5, 12] k (fun kq v5 v12 w' => ∃ (x5_1 : Int) (x12_1 : Int), v5 = .int .i64 x5_1 ∧ v12 = .int .i64 x12_1 ∧ Aside0 (impl_sinksOf.l0 kq x5_1 t777 (t777.length : Int) x12_1 = some r) ∧ Aside0 (kq ≤ k) ∧ Aside0 (Kd.R (Kd.int .i64) 3 w' w.heap.size (fun _ => True) (.slice Ao7 t777.length co7) t777) ∧ Aside0 (w'.heap[gb776]? = some (.cells #[.int .i64 a0_0, (.slice A0_1 l0_1.length c0_1)] 30 (0, 0))) ∧ Aside0 (Below w.heap.size w w'))
 case atStart => exact ⟨(0), (0), (by first | rfl | (simp; done) | (simp [*]; done)), (by first | rfl | (simp; done) | (simp [*]; done)), H', ⟨Nat.le_refl _⟩, ⟨viaR HO779.out⟩, ⟨viaB BK776.out⟩, ⟨viaX HB.out GE776.out⟩⟩
 case round =>
  clear H'
  try clear p2
  try clear hcz5_0
  try clear hcz5_1
  try clear hfz5_0
  try clear hfz5_1
  obtain ⟨x5_1, x12_1, rfl, rfl, HA, HK1, HO_10, BK776, HB⟩ := hrel
  cases gk with
  | zero => exact absurd HA.out (by simp [impl_sinksOf.l0])
  | succ k1 =>
   have H := HA.out; clear HA
   simp only [impl_sinksOf.l0] at H
   by_cases c8 : x12_1 < (t777.length : Int)
   ·rw [if_pos c8] at H
    have c8b0 : decide (x12_1 < (t777.length : Int)) = true := decide_eq_true c8; clear c8
    by_cases c9 : 0 ≤ x12_1
    ·rw [if_pos c9] at H
     have c9b0 : decide (0 ≤ x12_1) = true := decide_eq_true c9; clear c9
     by_cases c10 : x12_1 < (t777.length : Int)
     ·rw [if_pos c10] at H
      have c10b0 : decide (x12_1 < (t777.length : Int)) = true := decide_eq_true c10; clear c10
      by_cases c11 : (rd t777 x12_1) = 0
      ·rw [if_pos c11] at H
       have c11b0 : ((rd t777 x12_1) == 0) = true := beq_iff_eq.mpr c11; have c11b1 : ((rd t777 x12_1) != 0) = false := bne_eq_false_iff_eq.mpr c11; clear c11; have c12b0 := eq_true (of_decide_eq_true (by first | (with_reducible assumption) | assumption) : 0 ≤ x12_1); obtain ⟨ji13, hji13⟩ : ∃ j_ : Int, (shl .i64 1 x12_1) = j_ := ⟨_, rfl⟩; replace H : (impl_sinksOf.l0 k1 (Go.bits .or .i64 x5_1 (ji13)) t777 (t777.length : Int) (wrap64 (x12_1 + 1))) = some r := by first | (rw [hji13] at H; exact H) | (simp only [hji13] at H ⊢; exact H)
       have hji13_ : (IntKind.i64.wrap (1 * 2 ^ min x12_1.toNat 64)) = ji13 := hji13; have hji13z : x12_1 ≤ 64 → (IntKind.i64.wrap (1 * 2 ^ x12_1.toNat)) = ji13 := shl_small hji13; have hji13u : (IntKind.i64.wrap (2 ^ min x12_1.toNat 64)) = ji13 := by have h_ := hji13_; rw [Int.one_mul] at h_; exact h_
       have hji13v : x12_1 ≤ 64 → (IntKind.i64.wrap (2 ^ x12_1.toNat)) = ji13 := fun hle_ => by have h_ := hji13z hle_; rw [Int.one_mul] at h_; exact h_
       have hji13y : (wrap64 (1 * 2 ^ min x12_1.toNat 64)) = ji13 := (i64_w _).symm.trans hji13_; have hji13x : x12_1 ≤ 64 → (wrap64 (1 * 2 ^ x12_1.toNat)) = ji13 := fun h_ => (i64_w _).symm.trans (hji13z h_); have H' := Aside0.mk H; clear H; have p780 : 0 ≤ (x12_1 : Int) := of_decide_eq_true (by first | (with_reducible assumption) | assumption); have q780 : x12_1 < (t777.length : Int) := of_decide_eq_true (by first | (with_reducible assumption) | assumption); obtain ⟨ad780, e780, hx780_0⟩ := Kd.at_int (Kd.R_reads' HO_10.out).2.2 x12_1 p780 q780
       cases e780
       replace p780 := eq_true p780; replace q780 := eq_true q780
       go_wp2
       go_roundg k1
       case measure => have := HK1.out; omega
       case rel => exact ⟨(Go.bits .or .i64 x5_1 (ji13)), (wrap64 (x12_1 + 1)), (by first | rfl | (simp; done) | (simp only [← hji13] <;> (first | rfl | simp)) | (simp [*]; done)), (by first | rfl | (simp; done) | (simp [*]; done)), H', ⟨by have := HK1.out; omega⟩, ⟨viaR HO_10.out⟩, ⟨viaB BK776.out⟩, ⟨viaX HB.out GE776.out⟩⟩
      ·rw [if_neg c11] at H
       have c11b0 : ((rd t777 x12_1) == 0) = false := beq_eq_false_iff_ne.mpr c11; have c11b1 : ((rd t777 x12_1) != 0) = true := bne_iff_ne.mpr c11; have H' := Aside0.mk H; clear H; have p780 : 0 ≤ (x12_1 : Int) := of_decide_eq_true (by first | (with_reducible assumption) | assumption); have q780 : x12_1 < (t777.length : Int) := of_decide_eq_true (by first | (with_reducible assumption) | assumption); obtain ⟨ad780, e780, hx780_0⟩ := Kd.at_int (Kd.R_reads' HO_10.out).2.2 x12_1 p780 q780
       cases e780
       replace p780 := eq_true p780; replace q780 := eq_true q780
       go_wp2
       go_roundg k1
       case measure => have := HK1.out; omega
       case rel => exact ⟨(x5_1), (wrap64 (x12_1 + 1)), (by first | rfl | (simp; done) | (simp [*]; done)), (by first | rfl | (simp; done) | (simp [*]; done)), H', ⟨by have := HK1.out; omega⟩, ⟨viaR HO_10.out⟩, ⟨viaB BK776.out⟩, ⟨viaX HB.out GE776.out⟩⟩
     ·rw [if_neg c10] at H
      exact absurd H (by simp)
    ·rw [if_neg c9] at H
     exact absurd H (by simp)
   ·rw [if_neg c8] at H
    have c8b0 : decide (x12_1 < (t777.length : Int)) = false := decide_eq_false c8; clear c8; obtain rfl := Option.some.inj H
    go_wp2
    go_ret
    exact ⟨by first | rfl | (simp [errW_none, errW_some] <;> rfl) | (simp [*, errW_none, errW_some] <;> rfl), viaX HB.out GE776.out⟩

/-! ### impl_WaySources: function 47 -/
def impl_WaySources.f (k : Nat) (a0_0 : Int) (l0_1 : List (S44)) (a1 : Int) : Option (Int × Bool) := (impl_WayIn.f k a0_0 l0_1 a1).bind fun t782 => (if t782 = true then ((impl_turned.f a0_0 l0_1 a1).bind fun t783 => ((impl_sinksOf.f k a0_0 l0_1 t783).bind fun t784 => (some (t784, true)))) else (some (0, false)))
theorem impl_WaySources.mono : ∀ a0 a1 a2 k, LeO (impl_WaySources.f k a0 a1 a2) (impl_WaySources.f (k + 1) a0 a1 a2) := by
 intro a0 a1 a2 k
 unfold impl_WaySources.f
 repeat' first
   | (with_reducible exact impl_WayIn.mono _ _ _ _)
   | (with_reducible exact impl_sinksOf.mono _ _ _ _)
   | (with_reducible exact LeO.refl _)
   | (with_reducible exact LeO.none _)
   | (with_reducible refine LeO.ite ?_ ?_)
   | (with_reducible refine LeO.bind ?_ (fun _ => ?_))
   | exact impl_WayIn.mono _ _ _ _
   | exact impl_sinksOf.mono _ _ _ _
   | exact LeO.none _
   | refine LeO.ite ?_ ?_
   | refine LeO.bind ?_ (fun _ => ?_)
set_option maxHeartbeats 8000000 in
set_option maxRecDepth 100000 in
theorem impl_WaySources.calls (k : Nat) (a0_0 : Int) (A0_1 : Option Addr) (c0_1 : Nat) (l0_1 : List (S44)) (a1 : Int) (r1 : Int) (r2 : Bool) (w : World) (hr0_1 : Kd.C k44 w A0_1 l0_1.length l0_1) (hc0_1 : l0_1.length ≤ c0_1) (h : impl_WaySources.f k a0_0 l0_1 a1 = some (r1, r2)) :
  Calls Try.prog 47 #[.agg #[.int .i64 a0_0, .slice A0_1 l0_1.length c0_1], .int .i64 a1] w fun e w' => e = .returned (.tuple #[.int .i64 r1, .bool r2]) ∧ Below w.heap.size w w' := by
 have hu30 := Try.underlying30; have HR0_1 := Aside0.mk hr0_1; have HC0_1 := Aside0.mk hc0_1; clear hr0_1 hc0_1; have HB := Aside0.mk (Below.refl w.heap.size w); have H : ((impl_WayIn.f k a0_0 l0_1 a1).bind fun t782 => (if t782 = true then ((impl_turned.f a0_0 l0_1 a1).bind fun t783 => ((impl_sinksOf.f k a0_0 l0_1 t783).bind fun t784 => (some (t784, true)))) else (some (0, false)))) = some (r1, r2) := h; clear h; replace H := Option.bind_eq_some_iff.mp H; obtain ⟨t782, A30, H⟩ := H; replace H : (if t782 = true then ((impl_turned.f a0_0 l0_1 a1).bind fun t783 => ((impl_sinksOf.f k a0_0 l0_1 t783).bind fun t784 => (some (t784, true)))) else (some (0, false))) = some (r1, r2) := H; have A3 := Aside0.mk A30; clear A30
 by_cases c4 : t782 = true
 ·subst c4
  have H1 : ((impl_turned.f a0_0 l0_1 a1).bind fun t783 => ((impl_sinksOf.f k a0_0 l0_1 t783).bind fun t784 => (some (t784, true)))) = some (r1, r2) := by rw [if_pos rfl] at H; exact H
  clear H; have H := H1; clear H1; replace H := Option.bind_eq_some_iff.mp H; obtain ⟨t783, A50, H⟩ := H; replace H : ((impl_sinksOf.f k a0_0 l0_1 t783).bind fun t784 => (some (t784, true))) = some (r1, r2) := H; have A5 := Aside0.mk A50; clear A50; replace H := Option.bind_eq_some_iff.mp H; obtain ⟨t784, A60, H⟩ := H; replace H : (some (t784, true)) = some (r1, r2) := H; have A6 := Aside0.mk A60; clear A60
  simp only [Option.some.injEq, Prod.mk.injEq] at H
  obtain ⟨rfl, rfl⟩ := H
  go_enter Try.func47, Try.ntmps47
  try go_wp2_with (first | ((with_reducible refine gate_dst (N := 2) rfl ?_); refine box_event ?hg (N := 2) ?hd (cs := #[.int .i64 a0_0, .slice A0_1 l0_1.length c0_1]) (t := 30) ?hr ?_; (case hd => rfl); (case hg => rfl); (case hr => first | (go_simp; done) | (go_simp; rfl)); intro gb781 hg w7 hbox hb; have n0_ := Aside0.mk (below_step (viaW HB.out) hb); have n1_ := Aside0.mk (hbox); have n2_ := Aside0.mk ((by rw [hg]; exact (below_size (viaW HB.out)) : w.heap.size ≤ gb781)); have n3_ := Aside0.mk ((by rw [hg]; exact (below_size (viaW HB.out)) : w.heap.size ≤ gb781)); clear HB; have HB := n0_; have BK781 := n1_; have GW781 := n2_; have GE781 := n3_; clear n0_ n1_ n2_ n3_; clear hb hbox hg; have hcz8_0 : w7.cell? ⟨gb781, 0, none⟩ = some (.int .i64 a0_0) := (blk_cell BK781.out 0).trans rfl; have hcz8_1 : w7.cell? ⟨gb781, 1, none⟩ = some (.slice A0_1 l0_1.length c0_1) := (blk_cell BK781.out 1).trans rfl; have hfz8_0 := blk_frozen BK781.out 0; have hfz8_1 := blk_frozen BK781.out 1) | ((with_reducible refine gate_callee (f := 68) rfl ?_); refine goesL_ (some 8) rfl rfl Try.func68 (by kernel_rfl) rfl #[.agg #[.int .i64 a0_0, .slice A0_1 l0_1.length c0_1], .int .i64 a1] rfl (by (try simp only [List.map_toArray, List.map_cons, List.map_nil]); first | done | rfl | (simp only [List.length_drop, List.length_take]; rfl)) ?_; (with_reducible refine (impl_WayIn.calls k a0_0 _ _ l0_1 a1 true _ ?side1 ?side2 A3.out).mono ?_); (case side1 => repeat (first | exact (Kd.C_below HR0_1.out HB.out) | (with_reducible refine Kd.C_alloc ?_ _) | (with_reducible refine Kd.C_drewN ?_ _) | (with_reducible refine Kd.C_drew ?_))); (case side2 => exact HC0_1.out); rintro e w9 ⟨rfl, hb⟩; refine ⟨_, rfl, ?_⟩; have n0_ := Aside0.mk (blk_below (g := gb781) (o := .cells #[.int .i64 a0_0, .slice A0_1 l0_1.length c0_1] 30 (0, 0)) (viaB BK781.out) hb); have n1_ := Aside0.mk (below_step (viaX HB.out GE781.out) hb); clear BK781; clear HB; have BK781 := n0_; have HB := n1_; clear n0_ n1_; (try clear hb); (try clear hb2); (try clear hk); (try clear hi)))
  have n0_ := Aside0.mk (blk_drew BK781.out); have n1_ := Aside0.mk (below_drew1 HB.out); clear BK781; clear HB; have BK781 := n0_; have HB := n1_; clear n0_ n1_
  refine start_ (n := 7) (S := fun w' => w'.cell? ⟨gb781, 0, none⟩ = some (.int .i64 a0_0) ∧ w'.cell? ⟨gb781, 1, none⟩ = some (.slice A0_1 l0_1.length c0_1)) (ds := []) #[false, false, false, false, false, false, false] (by kernel_rfl) rfl rfl ⟨(blk_cell BK781.out 0).trans rfl, (blk_cell BK781.out 1).trans rfl⟩ (fun hHeld => ?_)
  generalize w9.drew = w10 at BK781 HB hHeld ⊢
  refine pure_ (i := 2) (N := some 12) (v := ?_) (a' := ?_) #[false, false, true, false, false, false, false] rfl rfl (by kernel_rfl) (fun _ _ _ h => h) (Or.inl ⟨by rfl, ?_⟩) ?_ ?_
  rotate_left
  ·intro w'
   go_simp
   with_reducible rfl
  rotate_left
  ·simp only [Act.put, List.setIfInBounds_toArray, List.set_cons_zero, List.set_cons_succ, i64_w, i32_w]
   rfl
  refine take_ (i := 0) (N := some 10) (v := ?_) (a' := ?_) #[true, false, true, false, false, false, false] rfl rfl (by kernel_rfl) (fun _ _ _ h => h) (Or.inl ⟨by rfl, ?_⟩) hHeld ?_ ?_
  rotate_left
  ·rintro w' ⟨s0, s1⟩
   go_simp
   with_reducible rfl
  rotate_left
  ·simp only [Act.put, List.setIfInBounds_toArray, List.set_cons_zero, List.set_cons_succ, i64_w, i32_w]
   rfl
  refine take_ (i := 1) (N := some 11) (v := ?_) (a' := ?_) #[true, true, true, false, false, false, false] rfl rfl (by kernel_rfl) (fun _ _ _ h => h) (Or.inl ⟨by rfl, ?_⟩) hHeld ?_ ?_
  rotate_left
  ·rintro w' ⟨s0, s1⟩
   go_simp
   with_reducible rfl
  rotate_left
  ·simp only [Act.put, List.setIfInBounds_toArray, List.set_cons_zero, List.set_cons_succ, i64_w, i32_w]
   rfl
  refine one_ (i := 3) (N := some 13) #[true, true, true, true, false, false, false] rfl rfl (by kernel_rfl) (by decide) (fun K hK => ?_)
  refine goes_ Try.func79 (by kernel_rfl) rfl #[.agg #[.int .i64 a0_0, .slice A0_1 l0_1.length c0_1], .int .i64 a1] (by rfl) rfl rfl (by (try simp only [List.map_toArray, List.map_cons, List.map_nil]); first | done | rfl | (simp only [List.length_drop, List.length_take]; rfl)) ?_
  with_reducible refine (impl_turned.calls a0_0 _ _ l0_1 a1 t783 _ ?side1 ?side2 A5.out).mono ?_
  (case side1 => repeat (first | exact (Kd.C_below HR0_1.out HB.out) | (with_reducible refine Kd.C_alloc ?_ _) | (with_reducible refine Kd.C_drewN ?_ _) | (with_reducible refine Kd.C_drew ?_)))
  (case side2 => exact HC0_1.out)
  rintro e w11 ⟨rfl, hb⟩
  refine ⟨_, rfl, ?_⟩
  have n0_ := Aside0.mk (blk_below (g := gb781) (o := .cells #[.int .i64 a0_0, .slice A0_1 l0_1.length c0_1] 30 (0, 0)) (viaB BK781.out) hb); have n1_ := Aside0.mk (below_step (viaX HB.out GE781.out) hb); clear BK781; clear HB; have BK781 := n0_; have HB := n1_; clear n0_ n1_
  (try clear hb)
  (try clear hb2)
  (try clear hk)
  (try clear hi)
  refine hK.out _ _ ⟨(blk_cell BK781.out 0).trans rfl, (blk_cell BK781.out 1).trans rfl⟩ (fun hHeld => ?_)
  clear hK K
  refine norm_ (a' := ?_) ?_ ?_
  rotate_left
  ·show Act.put _ (some 13) _ = _
   simp only [Act.put, List.setIfInBounds_toArray, List.set_cons_zero, List.set_cons_succ, i64_w, i32_w]
   rfl
  refine one_ (i := 4) (N := some 14) #[true, true, true, true, true, false, false] rfl rfl (by kernel_rfl) (by decide) (fun K hK => ?_)
  refine goes_ Try.func93 (by kernel_rfl) rfl #[.agg #[.int .i64 a0_0, .slice A0_1 l0_1.length c0_1], .int .i64 t783] (by rfl) rfl rfl (by (try simp only [List.map_toArray, List.map_cons, List.map_nil]); first | done | rfl | (simp only [List.length_drop, List.length_take]; rfl)) ?_
  with_reducible refine (impl_sinksOf.calls k a0_0 _ _ l0_1 t783 t784 _ ?side1 ?side2 A6.out).mono ?_
  (case side1 => repeat (first | exact (Kd.C_below HR0_1.out HB.out) | (with_reducible refine Kd.C_alloc ?_ _) | (with_reducible refine Kd.C_drewN ?_ _) | (with_reducible refine Kd.C_drew ?_)))
  (case side2 => exact HC0_1.out)
  rintro e w12 ⟨rfl, hb⟩
  refine ⟨_, rfl, ?_⟩
  have n0_ := Aside0.mk (blk_below (g := gb781) (o := .cells #[.int .i64 a0_0, .slice A0_1 l0_1.length c0_1] 30 (0, 0)) (viaB BK781.out) hb); have n1_ := Aside0.mk (below_step (viaX HB.out GE781.out) hb); clear BK781; clear HB; have BK781 := n0_; have HB := n1_; clear n0_ n1_
  (try clear hb)
  (try clear hb2)
  (try clear hk)
  (try clear hi)
  refine hK.out _ _ ⟨(blk_cell BK781.out 0).trans rfl, (blk_cell BK781.out 1).trans rfl⟩ (fun hHeld => ?_)
  clear hK K
  refine norm_ (a' := ?_) ?_ ?_
  rotate_left
  ·show Act.put _ (some 14) _ = _
   simp only [Act.put, List.setIfInBounds_toArray, List.set_cons_zero, List.set_cons_succ, i64_w, i32_w]
   rfl
  refine pure_ (i := 5) (N := some 4) (v := ?_) (a' := ?_) #[true, true, true, true, true, true, false] rfl rfl (by kernel_rfl) (fun _ _ _ h => h) (Or.inl ⟨by rfl, ?_⟩) ?_ ?_
  rotate_left
  ·intro w'
   go_simp
   with_reducible rfl
  rotate_left
  ·simp only [Act.put, List.setIfInBounds_toArray, List.set_cons_zero, List.set_cons_succ, i64_w, i32_w]
   rfl
  refine pure_ (i := 6) (N := some 5) (v := ?_) (a' := ?_) #[true, true, true, true, true, true, true] rfl rfl (by kernel_rfl) (fun _ _ _ h => h) (Or.inl ⟨by rfl, ?_⟩) ?_ ?_
  rotate_left
  ·intro w'
   go_simp
   with_reducible rfl
  rotate_left
  ·simp only [Act.put, List.setIfInBounds_toArray, List.set_cons_zero, List.set_cons_succ, i64_w, i32_w]
   rfl
  refine done_ (by kernel_rfl) ?_
  try go_wp2
  go_ret2
  exact ⟨by first | rfl | (simp [errW_none, errW_some] <;> rfl) | (simp [*, errW_none, errW_some] <;> rfl), viaX HB.out GE781.out⟩
 ·replace c4 := Bool.eq_false_iff.mpr c4
  subst c4; have H1 : (some (0, false)) = some (r1, r2) := by rw [if_neg (show ¬ (false = true) by decide)] at H; exact H
  clear H; have H := H1; clear H1
  simp only [Option.some.injEq, Prod.mk.injEq] at H
  obtain ⟨rfl, rfl⟩ := H
  go_enter Try.func47, Try.ntmps47
  go_wp2_with (first | ((with_reducible refine gate_dst (N := 2) rfl ?_); refine box_event ?hg (N := 2) ?hd (cs := #[.int .i64 a0_0, .slice A0_1 l0_1.length c0_1]) (t := 30) ?hr ?_; (case hd => rfl); (case hg => rfl); (case hr => first | (go_simp; done) | (go_simp; rfl)); intro gb781 hg w13 hbox hb; have n0_ := Aside0.mk (below_step (viaW HB.out) hb); have n1_ := Aside0.mk (hbox); have n2_ := Aside0.mk ((by rw [hg]; exact (below_size (viaW HB.out)) : w.heap.size ≤ gb781)); have n3_ := Aside0.mk ((by rw [hg]; exact (below_size (viaW HB.out)) : w.heap.size ≤ gb781)); clear HB; have HB := n0_; have BK781 := n1_; have GW781 := n2_; have GE781 := n3_; clear n0_ n1_ n2_ n3_; clear hb hbox hg; have hcz14_0 : w13.cell? ⟨gb781, 0, none⟩ = some (.int .i64 a0_0) := (blk_cell BK781.out 0).trans rfl; have hcz14_1 : w13.cell? ⟨gb781, 1, none⟩ = some (.slice A0_1 l0_1.length c0_1) := (blk_cell BK781.out 1).trans rfl; have hfz14_0 := blk_frozen BK781.out 0; have hfz14_1 := blk_frozen BK781.out 1) | ((with_reducible refine gate_callee (f := 68) rfl ?_); refine goesL_ (some 8) rfl rfl Try.func68 (by kernel_rfl) rfl #[.agg #[.int .i64 a0_0, .slice A0_1 l0_1.length c0_1], .int .i64 a1] rfl (by (try simp only [List.map_toArray, List.map_cons, List.map_nil]); first | done | rfl | (simp only [List.length_drop, List.length_take]; rfl)) ?_; (with_reducible refine (impl_WayIn.calls k a0_0 _ _ l0_1 a1 false _ ?side1 ?side2 A3.out).mono ?_); (case side1 => repeat (first | exact (Kd.C_below HR0_1.out HB.out) | (with_reducible refine Kd.C_alloc ?_ _) | (with_reducible refine Kd.C_drewN ?_ _) | (with_reducible refine Kd.C_drew ?_))); (case side2 => exact HC0_1.out); rintro e w15 ⟨rfl, hb⟩; refine ⟨_, rfl, ?_⟩; have n0_ := Aside0.mk (blk_below (g := gb781) (o := .cells #[.int .i64 a0_0, .slice A0_1 l0_1.length c0_1] 30 (0, 0)) (viaB BK781.out) hb); have n1_ := Aside0.mk (below_step (viaX HB.out GE781.out) hb); clear BK781; clear HB; have BK781 := n0_; have HB := n1_; clear n0_ n1_; (try clear hb); (try clear hb2); (try clear hk); (try clear hi)))
  go_ret2
  exact ⟨by first | rfl | (simp [errW_none, errW_some] <;> rfl) | (simp [*, errW_none, errW_some] <;> rfl), viaX HB.out GE781.out⟩

/-! ### laws_bits: function 48 -/
def laws_bits.l0 : Nat → Int → Int → Option (Int)
 | 0, _, _ => none
 | k + 1, x0, x3 => if x0 > 0 then (laws_bits.l0 k (x0 / 2) (wrap64 (x3 + (Go.bits .and .i64 x0 1)))) else (some x3)
def laws_bits.f (k : Nat) (a0 : Int) : Option (Int) := laws_bits.l0 k a0 0
theorem laws_bits.mono_l : ∀ k, (∀ y0 y1, LeO (laws_bits.l0 k y0 y1) (laws_bits.l0 (k + 1) y0 y1))
 | 0 => fun _ _ r h => by simp [laws_bits.l0] at h
 | k + 1 => by
  have ih0 := laws_bits.mono_l k
  ·intro y0 y1
   unfold laws_bits.l0
   repeat' first
   | (with_reducible exact ih0 _ _)
   | (with_reducible exact LeO.refl _)
   | (with_reducible exact LeO.none _)
   | (with_reducible refine LeO.ite ?_ ?_)
   | (with_reducible refine LeO.bind ?_ (fun _ => ?_))
   | exact ih0 _ _
   | exact LeO.none _
   | refine LeO.ite ?_ ?_
   | refine LeO.bind ?_ (fun _ => ?_)
theorem laws_bits.mono : ∀ a0 k, LeO (laws_bits.f k a0) (laws_bits.f (k + 1) a0) := by
 intro a0 k; have ih0 := laws_bits.mono_l k
 unfold laws_bits.f
 repeat' first
   | (with_reducible exact ih0 _ _)
   | (with_reducible exact LeO.refl _)
   | (with_reducible exact LeO.none _)
   | (with_reducible refine LeO.ite ?_ ?_)
   | (with_reducible refine LeO.bind ?_ (fun _ => ?_))
   | exact ih0 _ _
   | exact LeO.none _
   | refine LeO.ite ?_ ?_
   | refine LeO.bind ?_ (fun _ => ?_)
set_option maxHeartbeats 8000000 in
set_option maxRecDepth 100000 in
theorem laws_bits.calls (k : Nat) (a0 : Int) (r : Int) (w : World) (h : laws_bits.f k a0 = some r) :
  Calls Try.prog 48 #[.int .i64 a0] w fun e w' => e = .returned (.int .i64 r) ∧ Drawn0 w w' := by
 have H : (laws_bits.l0 k a0 0) = some r := h; clear h; have H' := Aside0.mk H; clear H
 go_enter Try.func48, Try.ntmps48
 go_wp2
 go_loopg [0, 3] k (fun kq v0 v3 w' => ∃ (x0_1 : Int) (x3_1 : Int), v0 = .int .i64 x0_1 ∧ v3 = .int .i64 x3_1 ∧ Aside0 (laws_bits.l0 kq x0_1 x3_1 = some r) ∧ Aside0 (kq ≤ k) ∧ Drawn0 w w')
 case atStart => exact ⟨(a0), (0), (by first | rfl | (simp; done) | (simp [*]; done)), (by first | rfl | (simp; done) | (simp [*]; done)), H', ⟨Nat.le_refl _⟩, by repeat (first | exact Drawn0.refl _ | apply Drawn0.step)⟩
 case round =>
  clear H'; obtain ⟨x0_1, x3_1, rfl, rfl, HA, HK1, ⟨m1, rfl⟩⟩ := hrel
  cases gk with
  | zero => exact absurd HA.out (by simp [laws_bits.l0])
  | succ k1 =>
   have H := HA.out; clear HA
   simp only [laws_bits.l0] at H
   by_cases c2 : x0_1 > 0
   ·rw [if_pos c2] at H
    have c2b0 : decide (0 < x0_1) = true := decide_eq_true c2; clear c2; have H' := Aside0.mk H; clear H
    go_wp2
    go_roundg k1
    case measure => have := HK1.out; omega
    case rel => exact ⟨(x0_1 / 2), (wrap64 (x3_1 + (Go.bits .and .i64 x0_1 1))), (by first | rfl | (simp; done) | (simp [*]; done)), (by first | rfl | (simp; done) | (simp [*]; done)), H', ⟨by have := HK1.out; omega⟩, by repeat (first | exact Drawn0.refl _ | apply Drawn0.step)⟩
   ·rw [if_neg c2] at H
    have c2b0 : decide (0 < x0_1) = false := decide_eq_false c2; clear c2; obtain rfl := Option.some.inj H
    go_wp2
    go_ret
    exact ⟨by first | rfl | (simp; done) | (simp [*]; done), by repeat (first | exact Drawn0.refl _ | apply Drawn0.step)⟩

/-! ### laws_FnRoots: function 13 -/
def laws_FnRoots.j0 : Nat → Int → Int → Bool → Int → Bool → Bool → Int → List (S44) → Option (Bool)
 | 0, _, _, _, _, _, _, _, _ => none
 | k + 1, x4, x5, x6, x7, x8, x44, x791000, x791001 => if x44 = true then (if (x6 == x8) = true then (some (x5 == x7)) else (some false)) else ((impl_WayParts.f k x791000 x791001).bind fun bt795 => ((impl_WaySources.f k x791000 x791001 x4).bind fun bt797 => (if bt795.2 = true then (if bt797.2 = true then (if x5 ≥ bt795.1 then ((laws_bits.f k bt797.1).bind fun t799 => (if x5 ≥ t799 then ((impl_PlainIn.f k x791000 x791001 x4).bind fun t800 => (if t800 = true then ((laws_bits.f k bt797.1).bind fun t801 => (some (x5 == t801))) else (some true))) else (some false))) else (some false)) else (some false)) else (some false))))
def laws_FnRoots.f (k : Nat) (l0 : List Int) : Option (Bool) := if (l0.length : Int) > 1048576 then (some true) else ((spec_DrawKernelRoots.f k l0).bind fun bt785 => ((impl_KernelRoots.f k bt785.1 bt785.2.1 bt785.2.2).bind fun bt791 => ((spec_KernelRoots.f k bt785.1 bt785.2.1 bt785.2.2).bind fun bt793 => (if (bt791.2 != bt793.2) = true then (laws_FnRoots.j0 k bt785.2.2 bt791.1 bt791.2 bt793.1 bt793.2 true bt785.1 bt785.2.1) else (if bt791.1 = bt793.1 then (laws_FnRoots.j0 k bt785.2.2 bt791.1 bt791.2 bt793.1 bt793.2 (!bt791.2) bt785.1 bt785.2.1) else (laws_FnRoots.j0 k bt785.2.2 bt791.1 bt791.2 bt793.1 bt793.2 true bt785.1 bt785.2.1))))))
theorem laws_FnRoots.mono_l : ∀ k, (∀ y0 y1 y2 y3 y4 y5 y6 y7, LeO (laws_FnRoots.j0 k y0 y1 y2 y3 y4 y5 y6 y7) (laws_FnRoots.j0 (k + 1) y0 y1 y2 y3 y4 y5 y6 y7))
 | 0 => fun _ _ _ _ _ _ _ _ r h => by simp [laws_FnRoots.j0] at h
 | k + 1 => by
  have ih0 := laws_FnRoots.mono_l k
  ·intro y0 y1 y2 y3 y4 y5 y6 y7
   unfold laws_FnRoots.j0
   repeat' first
   | (with_reducible exact ih0 _ _ _ _ _ _ _ _)
   | (with_reducible exact impl_KernelRoots.mono _ _ _ _)
   | (with_reducible exact impl_PlainIn.mono _ _ _ _)
   | (with_reducible exact impl_WayParts.mono _ _ _)
   | (with_reducible exact impl_WaySources.mono _ _ _ _)
   | (with_reducible exact laws_bits.mono _ _)
   | (with_reducible exact spec_DrawKernelRoots.mono _ _)
   | (with_reducible exact spec_KernelRoots.mono _ _ _ _)
   | (with_reducible exact LeO.refl _)
   | (with_reducible exact LeO.none _)
   | (with_reducible refine LeO.ite ?_ ?_)
   | (with_reducible refine LeO.bind ?_ (fun _ => ?_))
   | exact ih0 _ _ _ _ _ _ _ _
   | exact impl_KernelRoots.mono _ _ _ _
   | exact impl_PlainIn.mono _ _ _ _
   | exact impl_WayParts.mono _ _ _
   | exact impl_WaySources.mono _ _ _ _
   | exact laws_bits.mono _ _
   | exact spec_DrawKernelRoots.mono _ _
   | exact spec_KernelRoots.mono _ _ _ _
   | exact LeO.none _
   | refine LeO.ite ?_ ?_
   | refine LeO.bind ?_ (fun _ => ?_)
theorem laws_FnRoots.mono : ∀ a0 k, LeO (laws_FnRoots.f k a0) (laws_FnRoots.f (k + 1) a0) := by
 intro a0 k; have ih0 := laws_FnRoots.mono_l k
 unfold laws_FnRoots.f
 repeat' first
   | (with_reducible exact ih0 _ _ _ _ _ _ _ _)
   | (with_reducible exact impl_KernelRoots.mono _ _ _ _)
   | (with_reducible exact impl_PlainIn.mono _ _ _ _)
   | (with_reducible exact impl_WayParts.mono _ _ _)
   | (with_reducible exact impl_WaySources.mono _ _ _ _)
   | (with_reducible exact laws_bits.mono _ _)
   | (with_reducible exact spec_DrawKernelRoots.mono _ _)
   | (with_reducible exact spec_KernelRoots.mono _ _ _ _)
   | (with_reducible exact LeO.refl _)
   | (with_reducible exact LeO.none _)
   | (with_reducible refine LeO.ite ?_ ?_)
   | (with_reducible refine LeO.bind ?_ (fun _ => ?_))
   | exact ih0 _ _ _ _ _ _ _ _
   | exact impl_KernelRoots.mono _ _ _ _
   | exact impl_PlainIn.mono _ _ _ _
   | exact impl_WayParts.mono _ _ _
   | exact impl_WaySources.mono _ _ _ _
   | exact laws_bits.mono _ _
   | exact spec_DrawKernelRoots.mono _ _
   | exact spec_KernelRoots.mono _ _ _ _
   | exact LeO.none _
   | refine LeO.ite ?_ ?_
   | refine LeO.bind ?_ (fun _ => ?_)
set_option maxHeartbeats 8000000 in
set_option maxRecDepth 100000 in
theorem laws_FnRoots.calls (k : Nat) (A0 : Option Addr) (c0 : Nat) (l0 : List Int) (r : Bool) (w : World) (hr0 : Kd.C (Kd.int .u8) w A0 l0.length l0) (hc0 : l0.length ≤ c0) (h : laws_FnRoots.f k l0 = some r) :
  Calls Try.prog 13 #[.slice A0 l0.length c0] w fun e w' => e = .returned (.bool r) ∧ Below w.heap.size w w' := by
 have hu30 := Try.underlying30; have HR0 := Aside0.mk hr0; have HC0 := Aside0.mk hc0; clear hr0 hc0; have HB := Aside0.mk (Below.refl w.heap.size w); have H : (if (l0.length : Int) > 1048576 then (some true) else ((spec_DrawKernelRoots.f k l0).bind fun bt785 => ((impl_KernelRoots.f k bt785.1 bt785.2.1 bt785.2.2).bind fun bt791 => ((spec_KernelRoots.f k bt785.1 bt785.2.1 bt785.2.2).bind fun bt793 => (if (bt791.2 != bt793.2) = true then (laws_FnRoots.j0 k bt785.2.2 bt791.1 bt791.2 bt793.1 bt793.2 true bt785.1 bt785.2.1) else (if bt791.1 = bt793.1 then (laws_FnRoots.j0 k bt785.2.2 bt791.1 bt791.2 bt793.1 bt793.2 (!bt791.2) bt785.1 bt785.2.1) else (laws_FnRoots.j0 k bt785.2.2 bt791.1 bt791.2 bt793.1 bt793.2 true bt785.1 bt785.2.1))))))) = some r := h; clear h
 by_cases c2 : (l0.length : Int) > 1048576
 ·rw [if_pos c2] at H
  have c2b0 : decide (1048576 < (l0.length : Int)) = true := decide_eq_true c2; have c2b1 : decide (1048576 < l0.length) = true := decide_eq_true (by omega); clear c2; obtain rfl := Option.some.inj H
  go_enter Try.func13, Try.ntmps13
  go_wp2
  go_ret
  exact ⟨by first | rfl | (simp [errW_none, errW_some] <;> rfl) | (simp [*, errW_none, errW_some] <;> rfl), viaW HB.out⟩
 ·rw [if_neg c2] at H
  have c2b0 : decide (1048576 < (l0.length : Int)) = false := decide_eq_false c2; have c2b1 : decide (1048576 < l0.length) = false := decide_eq_false (by omega); clear c2; replace H := Option.bind_eq_some_iff.mp H; obtain ⟨⟨t785, t786, t789⟩, A30, H⟩ := H; replace H : ((impl_KernelRoots.f k t785 t786 t789).bind fun bt791 => ((spec_KernelRoots.f k t785 t786 t789).bind fun bt793 => (if (bt791.2 != bt793.2) = true then (laws_FnRoots.j0 k t789 bt791.1 bt791.2 bt793.1 bt793.2 true t785 t786) else (if bt791.1 = bt793.1 then (laws_FnRoots.j0 k t789 bt791.1 bt791.2 bt793.1 bt793.2 (!bt791.2) t785 t786) else (laws_FnRoots.j0 k t789 bt791.1 bt791.2 bt793.1 bt793.2 true t785 t786))))) = some r := H; have A3 := Aside0.mk A30; clear A30; replace H := Option.bind_eq_some_iff.mp H; obtain ⟨⟨t791, t792⟩, A40, H⟩ := H; replace H : ((spec_KernelRoots.f k t785 t786 t789).bind fun bt793 => (if (t792 != bt793.2) = true then (laws_FnRoots.j0 k t789 t791 t792 bt793.1 bt793.2 true t785 t786) else (if t791 = bt793.1 then (laws_FnRoots.j0 k t789 t791 t792 bt793.1 bt793.2 (!t792) t785 t786) else (laws_FnRoots.j0 k t789 t791 t792 bt793.1 bt793.2 true t785 t786)))) = some r := H; have A4 := Aside0.mk A40; clear A40; replace H := Option.bind_eq_some_iff.mp H; obtain ⟨⟨t793, t794⟩, A50, H⟩ := H; replace H : (if (t792 != t794) = true then (laws_FnRoots.j0 k t789 t791 t792 t793 t794 true t785 t786) else (if t791 = t793 then (laws_FnRoots.j0 k t789 t791 t792 t793 t794 (!t792) t785 t786) else (laws_FnRoots.j0 k t789 t791 t792 t793 t794 true t785 t786))) = some r := H; have A5 := Aside0.mk A50; clear A50; have HC6 := Aside0.mk H; clear H
  go_enter Try.func13, Try.ntmps13
  go_upto_region 6 with (first | ((with_reducible refine gate_callee (f := 45) rfl ?_); refine goesL_ (some 18) rfl rfl Try.func45 (by kernel_rfl) rfl #[.slice A0 l0.length c0] rfl (by (try simp only [List.map_toArray, List.map_cons, List.map_nil]); first | done | rfl | (simp only [List.length_drop, List.length_take]; rfl)) ?_; (with_reducible refine (spec_DrawKernelRoots.calls k _ _ l0 t785 t786 t789 _ ?side1 ?side2 A3.out).mono ?_); (case side1 => repeat (first | exact HR0.out | (with_reducible refine Kd.C_alloc ?_ _) | (with_reducible refine Kd.C_drewN ?_ _) | (with_reducible refine Kd.C_drew ?_))); (case side2 => exact HC0.out); rintro e w7 ⟨v787, rfl, ho0, hb⟩; refine ⟨_, rfl, ?_⟩; have n0_ := Aside0.mk (Kd.R_lower ho0 (below_size (viaW HB.out))); have n1_ := Aside0.mk (below_step (viaW HB.out) hb); clear HB; have HO788 := n0_; have HB := n1_; clear n0_ n1_; (try clear hb); (try clear hb2); (try clear hk); (try clear hi); (try clear ho0)) | ((with_reducible refine gate_dst (N := 3) rfl ?_); refine box_event ?hg (N := 3) ?hd (cs := #[.int .i64 0, .slice none 0 0]) (t := 30) ?hr ?_; (case hd => rfl); (case hg => rfl); (case hr => first | (go_simp; done) | (go_simp; rfl)); intro gb790 hg w8 hbox hb; have n0_ := Aside0.mk (Kd.R_below (viaR HO788.out) hb); have n1_ := Aside0.mk (below_step (viaW HB.out) hb); have n2_ := Aside0.mk (hbox); have n3_ := Aside0.mk ((by rw [hg]; exact (below_size (viaW HB.out)) : w.heap.size ≤ gb790)); have n4_ := Aside0.mk ((by rw [hg]; exact (below_size (viaW HB.out)) : w.heap.size ≤ gb790)); clear HO788; clear HB; have HO788 := n0_; have HB := n1_; have BK790 := n2_; have GW790 := n3_; have GE790 := n4_; clear n0_ n1_ n2_ n3_ n4_; clear hb hbox hg; have hcz9_0 : w8.cell? ⟨gb790, 0, none⟩ = some (.int .i64 0) := (blk_cell BK790.out 0).trans rfl; have hcz9_1 : w8.cell? ⟨gb790, 1, none⟩ = some (.slice none 0 0) := (blk_cell BK790.out 1).trans rfl; have hfz9_0 := blk_frozen BK790.out 0; have hfz9_1 := blk_frozen BK790.out 1; obtain ⟨Ao10, co10, eo10⟩ := Kd.R_slice HO788.out; subst eo10) | ((with_reducible refine gate_callee (f := 44) rfl ?_); refine goesL_ (some 24) rfl rfl Try.func44 (by kernel_rfl) rfl #[.agg #[.int .i64 t785, .slice Ao10 t786.length co10], .int .i64 t789] rfl (by (try simp only [List.map_toArray, List.map_cons, List.map_nil]); first | done | rfl | (simp only [List.length_drop, List.length_take]; rfl)) ?_; (with_reducible refine (impl_KernelRoots.calls k t785 _ _ t786 t789 t791 t792 _ ?side1 ?side2 A4.out).mono ?_); (case side1 => refine (Kd.R_reads' (e := 44) (base := w.heap.size) (ok := fun k_ => True) (n := t786.length) (c := co10) ?_).2.2; exact (by (with_reducible repeat (first | apply Kd.R_alloc | apply Kd.R_drewN | apply Kd.R_drew)); exact (Kd.R_mono (Kd.R_far (p := ⟨gb790, 1, none⟩) (Kd.R_far (p := ⟨gb790, 0, none⟩) (Kd.R_types HO788.out BK790.out (by decide)) (fun _ hk => hk.2) (.int .i64 t785)) (fun _ hk => hk.2) (.slice Ao10 t786.length co10)) (fun _ h_ => h_.1)))); (case side2 => exact (Kd.R_reads' HO788.out).2.1); rintro e w11 ⟨rfl, hb⟩; refine ⟨_, rfl, ?_⟩; have n0_ := Aside0.mk (Kd.R_below (by (with_reducible repeat (first | apply Kd.R_alloc | apply Kd.R_drewN | apply Kd.R_drew)); exact (Kd.R_mono (Kd.R_far (p := ⟨gb790, 1, none⟩) (Kd.R_far (p := ⟨gb790, 0, none⟩) (Kd.R_types HO788.out BK790.out (by decide)) (fun _ hk => hk.2) (.int .i64 t785)) (fun _ hk => hk.2) (.slice Ao10 t786.length co10)) (fun _ h_ => h_.1))) hb); have n1_ := Aside0.mk (blk_below (g := gb790) (o := .cells #[.int .i64 t785, .slice Ao10 t786.length co10] 30 (0, 0)) (by (with_reducible repeat (first | refine blk_drewN ?_ _ | refine blk_drew ?_ | refine blk_alloc ?_ _)); refine blk_put (cs := #[.int .i64 t785, .slice none 0 0]) ?_ 1 _ rfl; (with_reducible repeat (first | refine blk_drewN ?_ _ | refine blk_drew ?_ | refine blk_alloc ?_ _)); refine blk_put (cs := #[.int .i64 0, .slice none 0 0]) ?_ 0 _ rfl; (with_reducible repeat (first | refine blk_drewN ?_ _ | refine blk_drew ?_ | refine blk_alloc ?_ _)); exact BK790.out) hb); have n2_ := Aside0.mk (below_step (viaX HB.out GE790.out) hb); clear HO788; clear BK790; clear HB; have HO788 := n0_; have BK790 := n1_; have HB := n2_; clear n0_ n1_ n2_; (try clear hb); (try clear hb2); (try clear hk); (try clear hi); have hcz12_0 : w11.cell? ⟨gb790, 0, none⟩ = some (.int .i64 t785) := (blk_cell BK790.out 0).trans rfl; have hcz12_1 : w11.cell? ⟨gb790, 1, none⟩ = some (.slice Ao10 t786.length co10) := (blk_cell BK790.out 1).trans rfl; have hfz12_0 := blk_frozen BK790.out 0; have hfz12_1 := blk_frozen BK790.out 1) | ((with_reducible refine gate_callee (f := 43) rfl ?_); refine goesL_ (some 30) rfl rfl Try.func43 (by kernel_rfl) rfl #[.agg #[.int .i64 t785, .slice Ao10 t786.length co10], .int .i64 t789] rfl (by (try simp only [List.map_toArray, List.map_cons, List.map_nil]); first | done | rfl | (simp only [List.length_drop, List.length_take]; rfl)) ?_; (with_reducible refine (spec_KernelRoots.calls k t785 _ _ t786 t789 t793 t794 _ ?side1 ?side2 A5.out).mono ?_); (case side1 => repeat (first | exact (Kd.R_reads' HO788.out).2.2 | (with_reducible refine Kd.C_alloc ?_ _) | (with_reducible refine Kd.C_drewN ?_ _) | (with_reducible refine Kd.C_drew ?_))); (case side2 => exact (Kd.R_reads' HO788.out).2.1); rintro e w13 ⟨rfl, hb⟩; refine ⟨_, rfl, ?_⟩; have n0_ := Aside0.mk (Kd.R_below (viaR HO788.out) hb); have n1_ := Aside0.mk (blk_below (g := gb790) (o := .cells #[.int .i64 t785, .slice Ao10 t786.length co10] 30 (0, 0)) (viaB BK790.out) hb); have n2_ := Aside0.mk (below_step (viaX HB.out GE790.out) hb); clear HO788; clear BK790; clear HB; have HO788 := n0_; have BK790 := n1_; have HB := n2_; clear n0_ n1_ n2_; (try clear hb); (try clear hb2); (try clear hk); (try clear hi)))
  (try simp only [Act.put, List.setIfInBounds_toArray, List.set_cons_zero, List.set_cons_succ])
  go_cut [44] (fun v44 wc => ∃ (kq : Nat) (x44_5 : Bool), v44 = .bool x44_5 ∧ Aside0 (laws_FnRoots.j0 kq t789 t791 t792 t793 t794 x44_5 t785 t786 = some r) ∧ Aside0 (kq ≤ k) ∧ Aside0 (Kd.R k44 44 wc w.heap.size (fun _ => True) (.slice Ao10 t786.length co10) t786) ∧ Aside0 (wc.heap[gb790]? = some (.cells #[.int .i64 t785, (.slice Ao10 t786.length co10)] 30 (0, 0))) ∧ Aside0 (Below w.heap.size w wc))
  case first =>
   have H := HC6.out; clear HC6
   by_cases c14 : (t792 != t794) = true
   ·rw [if_pos c14] at H
    have c14b0 : (t792 != t794) = true := c14
    (try (have c14b1 : decide (t792 = t794) = false := by simpa using c14))
    (try (have c14b2 : (t792 == t794) = false := by simpa using c14))
    (try (have c14b3 : ¬ (t792 = t794) := by simpa using c14))
    clear c14
    (first | rw [c14b0] | (simp only [i64_w, i32_w]; rw [c14b0]) | skip)
    have H' := Aside0.mk H; clear H
    go_wp2
    go_meet
    case rel => exact ⟨_, (true), (by first | rfl | (simp; done) | (simp [*]; done)), H', ⟨by first | omega | exact Nat.le_refl _⟩, ⟨viaR HO788.out⟩, ⟨viaB BK790.out⟩, ⟨viaX HB.out GE790.out⟩⟩
   ·rw [if_neg c14] at H
    have c14b0 : (t792 != t794) = false := by simpa using c14
    (try (have c14b1 : decide (t792 = t794) = true := by simpa using c14))
    (try (have c14b2 : (t792 == t794) = true := by simpa using c14))
    clear c14
    (first | rw [c14b0] | (simp only [i64_w, i32_w]; rw [c14b0]) | skip)
    by_cases c15 : t791 = t793
    ·rw [if_pos c15] at H
     have c15b0 : (t791 == t793) = true := beq_iff_eq.mpr c15; have c15b1 : (t791 != t793) = false := bne_eq_false_iff_eq.mpr c15; clear c15; have H' := Aside0.mk H; clear H
     go_wp2
     go_meet
     case rel => exact ⟨_, (!t792), (by first | rfl | (simp; done) | (simp [*]; done)), H', ⟨by first | omega | exact Nat.le_refl _⟩, ⟨viaR HO788.out⟩, ⟨viaB BK790.out⟩, ⟨viaX HB.out GE790.out⟩⟩
    ·rw [if_neg c15] at H
     have c15b0 : (t791 == t793) = false := beq_eq_false_iff_ne.mpr c15; have c15b1 : (t791 != t793) = true := bne_iff_ne.mpr c15; have H' := Aside0.mk H; clear H
     go_wp2
     go_meet
     case rel => exact ⟨_, (true), (by first | rfl | (simp; done) | (simp [*]; done)), H', ⟨by first | omega | exact Nat.le_refl _⟩, ⟨viaR HO788.out⟩, ⟨viaB BK790.out⟩, ⟨viaX HB.out GE790.out⟩⟩
  case rest =>
   clear HC6
   try clear c1
   try clear c2
   try clear c2b0
   try clear c2b1
   try clear p2
   try clear c4
   try clear c13
   try clear c14
   try clear c14b0
   try clear c14b1
   try clear c14b2
   try clear c15
   try clear c15b0
   try clear c15b1
   try clear hcz12_0
   try clear hcz12_1
   try clear hcz9_0
   try clear hcz9_1
   try clear hfz12_0
   try clear hfz12_1
   try clear hfz9_0
   try clear hfz9_1
   obtain ⟨kq, x44_5, rfl, HA, HJ5, HO_791001, BK790, HB⟩ := hcut
   cases kq with
   | zero => exact absurd HA.out (by simp [laws_FnRoots.j0])
   | succ kj5 =>
    have H := HA.out; clear HA
    simp only [laws_FnRoots.j0] at H
    by_cases c16 : x44_5 = true
    ·subst c16
     have H1 : (if (t792 == t794) = true then (some (t791 == t793)) else (some false)) = some r := by rw [if_pos rfl] at H; exact H
     clear H; have H := H1; clear H1
     by_cases c17 : (t792 == t794) = true
     ·rw [if_pos c17] at H
      have c17b0 : (t792 == t794) = true := c17
      (try (have c17b1 : decide (t792 = t794) = true := by simpa using c17))
      (try (have c17b2 : (t792 == t794) = true := by simpa using c17))
      clear c17; obtain rfl := Option.some.inj H
      go_wp2
      go_ret
      exact ⟨by first | rfl | (simp [errW_none, errW_some] <;> rfl) | (simp [*, errW_none, errW_some] <;> rfl), viaX HB.out GE790.out⟩
     ·rw [if_neg c17] at H
      have c17b0 : (t792 == t794) = false := by simpa using c17
      (try (have c17b1 : decide (t792 = t794) = false := by simpa using c17))
      (try (have c17b2 : (t792 == t794) = false := by simpa using c17))
      (try (have c17b3 : ¬ (t792 = t794) := by simpa using c17))
      clear c17; obtain rfl := Option.some.inj H
      go_wp2
      go_ret
      exact ⟨by first | rfl | (simp [errW_none, errW_some] <;> rfl) | (simp [*, errW_none, errW_some] <;> rfl), viaX HB.out GE790.out⟩
    ·replace c16 := Bool.eq_false_iff.mpr c16
     subst c16; have H1 : ((impl_WayParts.f kj5 t785 t786).bind fun bt795 => ((impl_WaySources.f kj5 t785 t786 t789).bind fun bt797 => (if bt795.2 = true then (if bt797.2 = true then (if t791 ≥ bt795.1 then ((laws_bits.f kj5 bt797.1).bind fun t799 => (if t791 ≥ t799 then ((impl_PlainIn.f kj5 t785 t786 t789).bind fun t800 => (if t800 = true then ((laws_bits.f kj5 bt797.1).bind fun t801 => (some (t791 == t801))) else (some true))) else (some false))) else (some false)) else (some false)) else (some false)))) = some r := by rw [if_neg (show ¬ (false = true) by decide)] at H; exact H
     clear H; have H := H1; clear H1; replace H := Option.bind_eq_some_iff.mp H; obtain ⟨⟨t795, t796⟩, A180, H⟩ := H; replace H : ((impl_WaySources.f kj5 t785 t786 t789).bind fun bt797 => (if t796 = true then (if bt797.2 = true then (if t791 ≥ t795 then ((laws_bits.f kj5 bt797.1).bind fun t799 => (if t791 ≥ t799 then ((impl_PlainIn.f kj5 t785 t786 t789).bind fun t800 => (if t800 = true then ((laws_bits.f kj5 bt797.1).bind fun t801 => (some (t791 == t801))) else (some true))) else (some false))) else (some false)) else (some false)) else (some false))) = some r := H; have A18 := Aside0.mk A180; clear A180; replace H := Option.bind_eq_some_iff.mp H; obtain ⟨⟨t797, t798⟩, A190, H⟩ := H; replace H : (if t796 = true then (if t798 = true then (if t791 ≥ t795 then ((laws_bits.f kj5 t797).bind fun t799 => (if t791 ≥ t799 then ((impl_PlainIn.f kj5 t785 t786 t789).bind fun t800 => (if t800 = true then ((laws_bits.f kj5 t797).bind fun t801 => (some (t791 == t801))) else (some true))) else (some false))) else (some false)) else (some false)) else (some false)) = some r := H; have A19 := Aside0.mk A190; clear A190
     by_cases c20 : t796 = true
     ·subst c20
      have H1 : (if t798 = true then (if t791 ≥ t795 then ((laws_bits.f kj5 t797).bind fun t799 => (if t791 ≥ t799 then ((impl_PlainIn.f kj5 t785 t786 t789).bind fun t800 => (if t800 = true then ((laws_bits.f kj5 t797).bind fun t801 => (some (t791 == t801))) else (some true))) else (some false))) else (some false)) else (some false)) = some r := by rw [if_pos rfl] at H; exact H
      clear H; have H := H1; clear H1
      by_cases c21 : t798 = true
      ·subst c21
       have H1 : (if t791 ≥ t795 then ((laws_bits.f kj5 t797).bind fun t799 => (if t791 ≥ t799 then ((impl_PlainIn.f kj5 t785 t786 t789).bind fun t800 => (if t800 = true then ((laws_bits.f kj5 t797).bind fun t801 => (some (t791 == t801))) else (some true))) else (some false))) else (some false)) = some r := by rw [if_pos rfl] at H; exact H
       clear H; have H := H1; clear H1
       by_cases c22 : t791 ≥ t795
       ·rw [if_pos c22] at H
        have c22b0 : decide (t795 ≤ t791) = true := decide_eq_true c22; clear c22; replace H := Option.bind_eq_some_iff.mp H; obtain ⟨t799, A230, H⟩ := H; replace H : (if t791 ≥ t799 then ((impl_PlainIn.f kj5 t785 t786 t789).bind fun t800 => (if t800 = true then ((laws_bits.f kj5 t797).bind fun t801 => (some (t791 == t801))) else (some true))) else (some false)) = some r := H; have A23 := Aside0.mk A230; clear A230
        by_cases c24 : t791 ≥ t799
        ·rw [if_pos c24] at H
         have c24b0 : decide (t799 ≤ t791) = true := decide_eq_true c24; clear c24; replace H := Option.bind_eq_some_iff.mp H; obtain ⟨t800, A250, H⟩ := H; replace H : (if t800 = true then ((laws_bits.f kj5 t797).bind fun t801 => (some (t791 == t801))) else (some true)) = some r := H; have A25 := Aside0.mk A250; clear A250
         by_cases c26 : t800 = true
         ·subst c26
          have H1 : ((laws_bits.f kj5 t797).bind fun t801 => (some (t791 == t801))) = some r := by rw [if_pos rfl] at H; exact H
          clear H; have H := H1; clear H1; replace H := Option.bind_eq_some_iff.mp H; obtain ⟨t801, A270, H⟩ := H; replace H : (some (t791 == t801)) = some r := H; have A27 := Aside0.mk A270; clear A270; obtain rfl := Option.some.inj H; have hcz28_0 : wc.cell? ⟨gb790, 0, none⟩ = some (.int .i64 t785) := (blk_cell BK790.out 0).trans rfl; have hcz28_1 : wc.cell? ⟨gb790, 1, none⟩ = some (.slice Ao10 t786.length co10) := (blk_cell BK790.out 1).trans rfl; have hfz28_0 := blk_frozen BK790.out 0; have hfz28_1 := blk_frozen BK790.out 1
          go_wp2_with (first | ((with_reducible refine gate_callee (f := 46) rfl ?_); refine goesL_ (some 55) rfl rfl Try.func46 (by kernel_rfl) rfl #[.agg #[.int .i64 t785, .slice Ao10 t786.length co10]] rfl (by (try simp only [List.map_toArray, List.map_cons, List.map_nil]); first | done | rfl | (simp only [List.length_drop, List.length_take]; rfl)) ?_; (with_reducible refine (impl_WayParts.calls kj5 t785 _ _ t786 t795 true _ ?side1 ?side2 A18.out).mono ?_); (case side1 => repeat (first | exact (Kd.R_reads' HO_791001.out).2.2 | (with_reducible refine Kd.C_alloc ?_ _) | (with_reducible refine Kd.C_drewN ?_ _) | (with_reducible refine Kd.C_drew ?_))); (case side2 => exact (Kd.R_reads' HO_791001.out).2.1); rintro e w29 ⟨rfl, hb⟩; refine ⟨_, rfl, ?_⟩; have n0_ := Aside0.mk (Kd.R_below (viaR HO_791001.out) hb); have n1_ := Aside0.mk (blk_below (g := gb790) (o := .cells #[.int .i64 t785, .slice Ao10 t786.length co10] 30 (0, 0)) (viaB BK790.out) hb); have n2_ := Aside0.mk (below_step (viaX HB.out GE790.out) hb); clear HO_791001; clear BK790; clear HB; have HO_791001 := n0_; have BK790 := n1_; have HB := n2_; clear n0_ n1_ n2_; (try clear hb); (try clear hb2); (try clear hk); (try clear hi); have hcz30_0 : w29.cell? ⟨gb790, 0, none⟩ = some (.int .i64 t785) := (blk_cell BK790.out 0).trans rfl; have hcz30_1 : w29.cell? ⟨gb790, 1, none⟩ = some (.slice Ao10 t786.length co10) := (blk_cell BK790.out 1).trans rfl; have hfz30_0 := blk_frozen BK790.out 0; have hfz30_1 := blk_frozen BK790.out 1) | ((with_reducible refine gate_callee (f := 47) rfl ?_); refine goesL_ (some 61) rfl rfl Try.func47 (by kernel_rfl) rfl #[.agg #[.int .i64 t785, .slice Ao10 t786.length co10], .int .i64 t789] rfl (by (try simp only [List.map_toArray, List.map_cons, List.map_nil]); first | done | rfl | (simp only [List.length_drop, List.length_take]; rfl)) ?_; (with_reducible refine (impl_WaySources.calls kj5 t785 _ _ t786 t789 t797 true _ ?side1 ?side2 A19.out).mono ?_); (case side1 => repeat (first | exact (Kd.R_reads' HO_791001.out).2.2 | (with_reducible refine Kd.C_alloc ?_ _) | (with_reducible refine Kd.C_drewN ?_ _) | (with_reducible refine Kd.C_drew ?_))); (case side2 => exact (Kd.R_reads' HO_791001.out).2.1); rintro e w31 ⟨rfl, hb⟩; refine ⟨_, rfl, ?_⟩; have n0_ := Aside0.mk (Kd.R_below (viaR HO_791001.out) hb); have n1_ := Aside0.mk (blk_below (g := gb790) (o := .cells #[.int .i64 t785, .slice Ao10 t786.length co10] 30 (0, 0)) (viaB BK790.out) hb); have n2_ := Aside0.mk (below_step (viaX HB.out GE790.out) hb); clear HO_791001; clear BK790; clear HB; have HO_791001 := n0_; have BK790 := n1_; have HB := n2_; clear n0_ n1_ n2_; (try clear hb); (try clear hb2); (try clear hk); (try clear hi)) | (go_at_call 48; (with_reducible refine (laws_bits.calls kj5 t797 t799 _ A23.out).mono ?_); rintro e w' ⟨rfl, ⟨nd, rfl⟩⟩; have hcz32_0 : w31.cell? ⟨gb790, 0, none⟩ = some (.int .i64 t785) := (blk_cell BK790.out 0).trans rfl; have hcz32_1 : w31.cell? ⟨gb790, 1, none⟩ = some (.slice Ao10 t786.length co10) := (blk_cell BK790.out 1).trans rfl; have hfz32_0 := blk_frozen BK790.out 0; have hfz32_1 := blk_frozen BK790.out 1) | (go_at_call 49; (with_reducible refine (impl_PlainIn.calls kj5 t785 _ _ t786 t789 true _ ?side1 ?side2 A25.out).mono ?_); (case side1 => repeat (first | exact (Kd.R_reads' HO_791001.out).2.2 | (with_reducible refine Kd.C_alloc ?_ _) | (with_reducible refine Kd.C_drewN ?_ _) | (with_reducible refine Kd.C_drew ?_))); (case side2 => exact (Kd.R_reads' HO_791001.out).2.1); rintro e w33 ⟨rfl, hb⟩; have n0_ := Aside0.mk (Kd.R_below (viaR HO_791001.out) hb); have n1_ := Aside0.mk (blk_below (g := gb790) (o := .cells #[.int .i64 t785, .slice Ao10 t786.length co10] 30 (0, 0)) (viaB BK790.out) hb); have n2_ := Aside0.mk (below_step (viaX HB.out GE790.out) hb); clear HO_791001; clear BK790; clear HB; have HO_791001 := n0_; have BK790 := n1_; have HB := n2_; clear n0_ n1_ n2_; (try clear hb); (try clear hb2); (try clear hk); (try clear hi)) | (go_at_call 48; (with_reducible refine (laws_bits.calls kj5 t797 t801 _ A27.out).mono ?_); rintro e w' ⟨rfl, ⟨nd, rfl⟩⟩))
          go_ret
          exact ⟨by first | rfl | (simp [errW_none, errW_some] <;> rfl) | (simp [*, errW_none, errW_some] <;> rfl), viaX HB.out GE790.out⟩
         ·replace c26 := Bool.eq_false_iff.mpr c26
          subst c26; have H1 : (some true) = some r := by rw [if_neg (show ¬ (false = true) by decide)] at H; exact H
          clear H; have H := H1; clear H1; obtain rfl := Option.some.inj H; have hcz34_0 : wc.cell? ⟨gb790, 0, none⟩ = some (.int .i64 t785) := (blk_cell BK790.out 0).trans rfl; have hcz34_1 : wc.cell? ⟨gb790, 1, none⟩ = some (.slice Ao10 t786.length co10) := (blk_cell BK790.out 1).trans rfl; have hfz34_0 := blk_frozen BK790.out 0; have hfz34_1 := blk_frozen BK790.out 1
          go_wp2_with (first | ((with_reducible refine gate_callee (f := 46) rfl ?_); refine goesL_ (some 55) rfl rfl Try.func46 (by kernel_rfl) rfl #[.agg #[.int .i64 t785, .slice Ao10 t786.length co10]] rfl (by (try simp only [List.map_toArray, List.map_cons, List.map_nil]); first | done | rfl | (simp only [List.length_drop, List.length_take]; rfl)) ?_; (with_reducible refine (impl_WayParts.calls kj5 t785 _ _ t786 t795 true _ ?side1 ?side2 A18.out).mono ?_); (case side1 => repeat (first | exact (Kd.R_reads' HO_791001.out).2.2 | (with_reducible refine Kd.C_alloc ?_ _) | (with_reducible refine Kd.C_drewN ?_ _) | (with_reducible refine Kd.C_drew ?_))); (case side2 => exact (Kd.R_reads' HO_791001.out).2.1); rintro e w35 ⟨rfl, hb⟩; refine ⟨_, rfl, ?_⟩; have n0_ := Aside0.mk (Kd.R_below (viaR HO_791001.out) hb); have n1_ := Aside0.mk (blk_below (g := gb790) (o := .cells #[.int .i64 t785, .slice Ao10 t786.length co10] 30 (0, 0)) (viaB BK790.out) hb); have n2_ := Aside0.mk (below_step (viaX HB.out GE790.out) hb); clear HO_791001; clear BK790; clear HB; have HO_791001 := n0_; have BK790 := n1_; have HB := n2_; clear n0_ n1_ n2_; (try clear hb); (try clear hb2); (try clear hk); (try clear hi); have hcz36_0 : w35.cell? ⟨gb790, 0, none⟩ = some (.int .i64 t785) := (blk_cell BK790.out 0).trans rfl; have hcz36_1 : w35.cell? ⟨gb790, 1, none⟩ = some (.slice Ao10 t786.length co10) := (blk_cell BK790.out 1).trans rfl; have hfz36_0 := blk_frozen BK790.out 0; have hfz36_1 := blk_frozen BK790.out 1) | ((with_reducible refine gate_callee (f := 47) rfl ?_); refine goesL_ (some 61) rfl rfl Try.func47 (by kernel_rfl) rfl #[.agg #[.int .i64 t785, .slice Ao10 t786.length co10], .int .i64 t789] rfl (by (try simp only [List.map_toArray, List.map_cons, List.map_nil]); first | done | rfl | (simp only [List.length_drop, List.length_take]; rfl)) ?_; (with_reducible refine (impl_WaySources.calls kj5 t785 _ _ t786 t789 t797 true _ ?side1 ?side2 A19.out).mono ?_); (case side1 => repeat (first | exact (Kd.R_reads' HO_791001.out).2.2 | (with_reducible refine Kd.C_alloc ?_ _) | (with_reducible refine Kd.C_drewN ?_ _) | (with_reducible refine Kd.C_drew ?_))); (case side2 => exact (Kd.R_reads' HO_791001.out).2.1); rintro e w37 ⟨rfl, hb⟩; refine ⟨_, rfl, ?_⟩; have n0_ := Aside0.mk (Kd.R_below (viaR HO_791001.out) hb); have n1_ := Aside0.mk (blk_below (g := gb790) (o := .cells #[.int .i64 t785, .slice Ao10 t786.length co10] 30 (0, 0)) (viaB BK790.out) hb); have n2_ := Aside0.mk (below_step (viaX HB.out GE790.out) hb); clear HO_791001; clear BK790; clear HB; have HO_791001 := n0_; have BK790 := n1_; have HB := n2_; clear n0_ n1_ n2_; (try clear hb); (try clear hb2); (try clear hk); (try clear hi)) | (go_at_call 48; (with_reducible refine (laws_bits.calls kj5 t797 t799 _ A23.out).mono ?_); rintro e w' ⟨rfl, ⟨nd, rfl⟩⟩; have hcz38_0 : w37.cell? ⟨gb790, 0, none⟩ = some (.int .i64 t785) := (blk_cell BK790.out 0).trans rfl; have hcz38_1 : w37.cell? ⟨gb790, 1, none⟩ = some (.slice Ao10 t786.length co10) := (blk_cell BK790.out 1).trans rfl; have hfz38_0 := blk_frozen BK790.out 0; have hfz38_1 := blk_frozen BK790.out 1) | (go_at_call 49; (with_reducible refine (impl_PlainIn.calls kj5 t785 _ _ t786 t789 false _ ?side1 ?side2 A25.out).mono ?_); (case side1 => repeat (first | exact (Kd.R_reads' HO_791001.out).2.2 | (with_reducible refine Kd.C_alloc ?_ _) | (with_reducible refine Kd.C_drewN ?_ _) | (with_reducible refine Kd.C_drew ?_))); (case side2 => exact (Kd.R_reads' HO_791001.out).2.1); rintro e w39 ⟨rfl, hb⟩; have n0_ := Aside0.mk (Kd.R_below (viaR HO_791001.out) hb); have n1_ := Aside0.mk (blk_below (g := gb790) (o := .cells #[.int .i64 t785, .slice Ao10 t786.length co10] 30 (0, 0)) (viaB BK790.out) hb); have n2_ := Aside0.mk (below_step (viaX HB.out GE790.out) hb); clear HO_791001; clear BK790; clear HB; have HO_791001 := n0_; have BK790 := n1_; have HB := n2_; clear n0_ n1_ n2_; (try clear hb); (try clear hb2); (try clear hk); (try clear hi)))
          go_ret
          exact ⟨by first | rfl | (simp [errW_none, errW_some] <;> rfl) | (simp [*, errW_none, errW_some] <;> rfl), viaX HB.out GE790.out⟩
        ·rw [if_neg c24] at H
         have c24b0 : decide (t799 ≤ t791) = false := decide_eq_false c24; clear c24; obtain rfl := Option.some.inj H; have hcz40_0 : wc.cell? ⟨gb790, 0, none⟩ = some (.int .i64 t785) := (blk_cell BK790.out 0).trans rfl; have hcz40_1 : wc.cell? ⟨gb790, 1, none⟩ = some (.slice Ao10 t786.length co10) := (blk_cell BK790.out 1).trans rfl; have hfz40_0 := blk_frozen BK790.out 0; have hfz40_1 := blk_frozen BK790.out 1
         go_wp2_with (first | ((with_reducible refine gate_callee (f := 46) rfl ?_); refine goesL_ (some 55) rfl rfl Try.func46 (by kernel_rfl) rfl #[.agg #[.int .i64 t785, .slice Ao10 t786.length co10]] rfl (by (try simp only [List.map_toArray, List.map_cons, List.map_nil]); first | done | rfl | (simp only [List.length_drop, List.length_take]; rfl)) ?_; (with_reducible refine (impl_WayParts.calls kj5 t785 _ _ t786 t795 true _ ?side1 ?side2 A18.out).mono ?_); (case side1 => repeat (first | exact (Kd.R_reads' HO_791001.out).2.2 | (with_reducible refine Kd.C_alloc ?_ _) | (with_reducible refine Kd.C_drewN ?_ _) | (with_reducible refine Kd.C_drew ?_))); (case side2 => exact (Kd.R_reads' HO_791001.out).2.1); rintro e w41 ⟨rfl, hb⟩; refine ⟨_, rfl, ?_⟩; have n0_ := Aside0.mk (Kd.R_below (viaR HO_791001.out) hb); have n1_ := Aside0.mk (blk_below (g := gb790) (o := .cells #[.int .i64 t785, .slice Ao10 t786.length co10] 30 (0, 0)) (viaB BK790.out) hb); have n2_ := Aside0.mk (below_step (viaX HB.out GE790.out) hb); clear HO_791001; clear BK790; clear HB; have HO_791001 := n0_; have BK790 := n1_; have HB := n2_; clear n0_ n1_ n2_; (try clear hb); (try clear hb2); (try clear hk); (try clear hi); have hcz42_0 : w41.cell? ⟨gb790, 0, none⟩ = some (.int .i64 t785) := (blk_cell BK790.out 0).trans rfl; have hcz42_1 : w41.cell? ⟨gb790, 1, none⟩ = some (.slice Ao10 t786.length co10) := (blk_cell BK790.out 1).trans rfl; have hfz42_0 := blk_frozen BK790.out 0; have hfz42_1 := blk_frozen BK790.out 1) | ((with_reducible refine gate_callee (f := 47) rfl ?_); refine goesL_ (some 61) rfl rfl Try.func47 (by kernel_rfl) rfl #[.agg #[.int .i64 t785, .slice Ao10 t786.length co10], .int .i64 t789] rfl (by (try simp only [List.map_toArray, List.map_cons, List.map_nil]); first | done | rfl | (simp only [List.length_drop, List.length_take]; rfl)) ?_; (with_reducible refine (impl_WaySources.calls kj5 t785 _ _ t786 t789 t797 true _ ?side1 ?side2 A19.out).mono ?_); (case side1 => repeat (first | exact (Kd.R_reads' HO_791001.out).2.2 | (with_reducible refine Kd.C_alloc ?_ _) | (with_reducible refine Kd.C_drewN ?_ _) | (with_reducible refine Kd.C_drew ?_))); (case side2 => exact (Kd.R_reads' HO_791001.out).2.1); rintro e w43 ⟨rfl, hb⟩; refine ⟨_, rfl, ?_⟩; have n0_ := Aside0.mk (Kd.R_below (viaR HO_791001.out) hb); have n1_ := Aside0.mk (blk_below (g := gb790) (o := .cells #[.int .i64 t785, .slice Ao10 t786.length co10] 30 (0, 0)) (viaB BK790.out) hb); have n2_ := Aside0.mk (below_step (viaX HB.out GE790.out) hb); clear HO_791001; clear BK790; clear HB; have HO_791001 := n0_; have BK790 := n1_; have HB := n2_; clear n0_ n1_ n2_; (try clear hb); (try clear hb2); (try clear hk); (try clear hi)) | (go_at_call 48; (with_reducible refine (laws_bits.calls kj5 t797 t799 _ A23.out).mono ?_); rintro e w' ⟨rfl, ⟨nd, rfl⟩⟩))
         go_ret
         exact ⟨by first | rfl | (simp [errW_none, errW_some] <;> rfl) | (simp [*, errW_none, errW_some] <;> rfl), viaX HB.out GE790.out⟩
       ·rw [if_neg c22] at H
        have c22b0 : decide (t795 ≤ t791) = false := decide_eq_false c22; clear c22; obtain rfl := Option.some.inj H; have hcz44_0 : wc.cell? ⟨gb790, 0, none⟩ = some (.int .i64 t785) := (blk_cell BK790.out 0).trans rfl; have hcz44_1 : wc.cell? ⟨gb790, 1, none⟩ = some (.slice Ao10 t786.length co10) := (blk_cell BK790.out 1).trans rfl; have hfz44_0 := blk_frozen BK790.out 0; have hfz44_1 := blk_frozen BK790.out 1
        go_wp2_with (first | ((with_reducible refine gate_callee (f := 46) rfl ?_); refine goesL_ (some 55) rfl rfl Try.func46 (by kernel_rfl) rfl #[.agg #[.int .i64 t785, .slice Ao10 t786.length co10]] rfl (by (try simp only [List.map_toArray, List.map_cons, List.map_nil]); first | done | rfl | (simp only [List.length_drop, List.length_take]; rfl)) ?_; (with_reducible refine (impl_WayParts.calls kj5 t785 _ _ t786 t795 true _ ?side1 ?side2 A18.out).mono ?_); (case side1 => repeat (first | exact (Kd.R_reads' HO_791001.out).2.2 | (with_reducible refine Kd.C_alloc ?_ _) | (with_reducible refine Kd.C_drewN ?_ _) | (with_reducible refine Kd.C_drew ?_))); (case side2 => exact (Kd.R_reads' HO_791001.out).2.1); rintro e w45 ⟨rfl, hb⟩; refine ⟨_, rfl, ?_⟩; have n0_ := Aside0.mk (Kd.R_below (viaR HO_791001.out) hb); have n1_ := Aside0.mk (blk_below (g := gb790) (o := .cells #[.int .i64 t785, .slice Ao10 t786.length co10] 30 (0, 0)) (viaB BK790.out) hb); have n2_ := Aside0.mk (below_step (viaX HB.out GE790.out) hb); clear HO_791001; clear BK790; clear HB; have HO_791001 := n0_; have BK790 := n1_; have HB := n2_; clear n0_ n1_ n2_; (try clear hb); (try clear hb2); (try clear hk); (try clear hi); have hcz46_0 : w45.cell? ⟨gb790, 0, none⟩ = some (.int .i64 t785) := (blk_cell BK790.out 0).trans rfl; have hcz46_1 : w45.cell? ⟨gb790, 1, none⟩ = some (.slice Ao10 t786.length co10) := (blk_cell BK790.out 1).trans rfl; have hfz46_0 := blk_frozen BK790.out 0; have hfz46_1 := blk_frozen BK790.out 1) | ((with_reducible refine gate_callee (f := 47) rfl ?_); refine goesL_ (some 61) rfl rfl Try.func47 (by kernel_rfl) rfl #[.agg #[.int .i64 t785, .slice Ao10 t786.length co10], .int .i64 t789] rfl (by (try simp only [List.map_toArray, List.map_cons, List.map_nil]); first | done | rfl | (simp only [List.length_drop, List.length_take]; rfl)) ?_; (with_reducible refine (impl_WaySources.calls kj5 t785 _ _ t786 t789 t797 true _ ?side1 ?side2 A19.out).mono ?_); (case side1 => repeat (first | exact (Kd.R_reads' HO_791001.out).2.2 | (with_reducible refine Kd.C_alloc ?_ _) | (with_reducible refine Kd.C_drewN ?_ _) | (with_reducible refine Kd.C_drew ?_))); (case side2 => exact (Kd.R_reads' HO_791001.out).2.1); rintro e w47 ⟨rfl, hb⟩; refine ⟨_, rfl, ?_⟩; have n0_ := Aside0.mk (Kd.R_below (viaR HO_791001.out) hb); have n1_ := Aside0.mk (blk_below (g := gb790) (o := .cells #[.int .i64 t785, .slice Ao10 t786.length co10] 30 (0, 0)) (viaB BK790.out) hb); have n2_ := Aside0.mk (below_step (viaX HB.out GE790.out) hb); clear HO_791001; clear BK790; clear HB; have HO_791001 := n0_; have BK790 := n1_; have HB := n2_; clear n0_ n1_ n2_; (try clear hb); (try clear hb2); (try clear hk); (try clear hi)))
        go_ret
        exact ⟨by first | rfl | (simp [errW_none, errW_some] <;> rfl) | (simp [*, errW_none, errW_some] <;> rfl), viaX HB.out GE790.out⟩
      ·replace c21 := Bool.eq_false_iff.mpr c21
       subst c21; have H1 : (some false) = some r := by rw [if_neg (show ¬ (false = true) by decide)] at H; exact H
       clear H; have H := H1; clear H1; obtain rfl := Option.some.inj H; have hcz48_0 : wc.cell? ⟨gb790, 0, none⟩ = some (.int .i64 t785) := (blk_cell BK790.out 0).trans rfl; have hcz48_1 : wc.cell? ⟨gb790, 1, none⟩ = some (.slice Ao10 t786.length co10) := (blk_cell BK790.out 1).trans rfl; have hfz48_0 := blk_frozen BK790.out 0; have hfz48_1 := blk_frozen BK790.out 1
       go_wp2_with (first | ((with_reducible refine gate_callee (f := 46) rfl ?_); refine goesL_ (some 55) rfl rfl Try.func46 (by kernel_rfl) rfl #[.agg #[.int .i64 t785, .slice Ao10 t786.length co10]] rfl (by (try simp only [List.map_toArray, List.map_cons, List.map_nil]); first | done | rfl | (simp only [List.length_drop, List.length_take]; rfl)) ?_; (with_reducible refine (impl_WayParts.calls kj5 t785 _ _ t786 t795 true _ ?side1 ?side2 A18.out).mono ?_); (case side1 => repeat (first | exact (Kd.R_reads' HO_791001.out).2.2 | (with_reducible refine Kd.C_alloc ?_ _) | (with_reducible refine Kd.C_drewN ?_ _) | (with_reducible refine Kd.C_drew ?_))); (case side2 => exact (Kd.R_reads' HO_791001.out).2.1); rintro e w49 ⟨rfl, hb⟩; refine ⟨_, rfl, ?_⟩; have n0_ := Aside0.mk (Kd.R_below (viaR HO_791001.out) hb); have n1_ := Aside0.mk (blk_below (g := gb790) (o := .cells #[.int .i64 t785, .slice Ao10 t786.length co10] 30 (0, 0)) (viaB BK790.out) hb); have n2_ := Aside0.mk (below_step (viaX HB.out GE790.out) hb); clear HO_791001; clear BK790; clear HB; have HO_791001 := n0_; have BK790 := n1_; have HB := n2_; clear n0_ n1_ n2_; (try clear hb); (try clear hb2); (try clear hk); (try clear hi); have hcz50_0 : w49.cell? ⟨gb790, 0, none⟩ = some (.int .i64 t785) := (blk_cell BK790.out 0).trans rfl; have hcz50_1 : w49.cell? ⟨gb790, 1, none⟩ = some (.slice Ao10 t786.length co10) := (blk_cell BK790.out 1).trans rfl; have hfz50_0 := blk_frozen BK790.out 0; have hfz50_1 := blk_frozen BK790.out 1) | ((with_reducible refine gate_callee (f := 47) rfl ?_); refine goesL_ (some 61) rfl rfl Try.func47 (by kernel_rfl) rfl #[.agg #[.int .i64 t785, .slice Ao10 t786.length co10], .int .i64 t789] rfl (by (try simp only [List.map_toArray, List.map_cons, List.map_nil]); first | done | rfl | (simp only [List.length_drop, List.length_take]; rfl)) ?_; (with_reducible refine (impl_WaySources.calls kj5 t785 _ _ t786 t789 t797 false _ ?side1 ?side2 A19.out).mono ?_); (case side1 => repeat (first | exact (Kd.R_reads' HO_791001.out).2.2 | (with_reducible refine Kd.C_alloc ?_ _) | (with_reducible refine Kd.C_drewN ?_ _) | (with_reducible refine Kd.C_drew ?_))); (case side2 => exact (Kd.R_reads' HO_791001.out).2.1); rintro e w51 ⟨rfl, hb⟩; refine ⟨_, rfl, ?_⟩; have n0_ := Aside0.mk (Kd.R_below (viaR HO_791001.out) hb); have n1_ := Aside0.mk (blk_below (g := gb790) (o := .cells #[.int .i64 t785, .slice Ao10 t786.length co10] 30 (0, 0)) (viaB BK790.out) hb); have n2_ := Aside0.mk (below_step (viaX HB.out GE790.out) hb); clear HO_791001; clear BK790; clear HB; have HO_791001 := n0_; have BK790 := n1_; have HB := n2_; clear n0_ n1_ n2_; (try clear hb); (try clear hb2); (try clear hk); (try clear hi)))
       go_ret
       exact ⟨by first | rfl | (simp [errW_none, errW_some] <;> rfl) | (simp [*, errW_none, errW_some] <;> rfl), viaX HB.out GE790.out⟩
     ·replace c20 := Bool.eq_false_iff.mpr c20
      subst c20; have H1 : (some false) = some r := by rw [if_neg (show ¬ (false = true) by decide)] at H; exact H
      clear H; have H := H1; clear H1; obtain rfl := Option.some.inj H; have hcz52_0 : wc.cell? ⟨gb790, 0, none⟩ = some (.int .i64 t785) := (blk_cell BK790.out 0).trans rfl; have hcz52_1 : wc.cell? ⟨gb790, 1, none⟩ = some (.slice Ao10 t786.length co10) := (blk_cell BK790.out 1).trans rfl; have hfz52_0 := blk_frozen BK790.out 0; have hfz52_1 := blk_frozen BK790.out 1
      go_wp2_with (first | ((with_reducible refine gate_callee (f := 46) rfl ?_); refine goesL_ (some 55) rfl rfl Try.func46 (by kernel_rfl) rfl #[.agg #[.int .i64 t785, .slice Ao10 t786.length co10]] rfl (by (try simp only [List.map_toArray, List.map_cons, List.map_nil]); first | done | rfl | (simp only [List.length_drop, List.length_take]; rfl)) ?_; (with_reducible refine (impl_WayParts.calls kj5 t785 _ _ t786 t795 false _ ?side1 ?side2 A18.out).mono ?_); (case side1 => repeat (first | exact (Kd.R_reads' HO_791001.out).2.2 | (with_reducible refine Kd.C_alloc ?_ _) | (with_reducible refine Kd.C_drewN ?_ _) | (with_reducible refine Kd.C_drew ?_))); (case side2 => exact (Kd.R_reads' HO_791001.out).2.1); rintro e w53 ⟨rfl, hb⟩; refine ⟨_, rfl, ?_⟩; have n0_ := Aside0.mk (Kd.R_below (viaR HO_791001.out) hb); have n1_ := Aside0.mk (blk_below (g := gb790) (o := .cells #[.int .i64 t785, .slice Ao10 t786.length co10] 30 (0, 0)) (viaB BK790.out) hb); have n2_ := Aside0.mk (below_step (viaX HB.out GE790.out) hb); clear HO_791001; clear BK790; clear HB; have HO_791001 := n0_; have BK790 := n1_; have HB := n2_; clear n0_ n1_ n2_; (try clear hb); (try clear hb2); (try clear hk); (try clear hi); have hcz54_0 : w53.cell? ⟨gb790, 0, none⟩ = some (.int .i64 t785) := (blk_cell BK790.out 0).trans rfl; have hcz54_1 : w53.cell? ⟨gb790, 1, none⟩ = some (.slice Ao10 t786.length co10) := (blk_cell BK790.out 1).trans rfl; have hfz54_0 := blk_frozen BK790.out 0; have hfz54_1 := blk_frozen BK790.out 1) | ((with_reducible refine gate_callee (f := 47) rfl ?_); refine goesL_ (some 61) rfl rfl Try.func47 (by kernel_rfl) rfl #[.agg #[.int .i64 t785, .slice Ao10 t786.length co10], .int .i64 t789] rfl (by (try simp only [List.map_toArray, List.map_cons, List.map_nil]); first | done | rfl | (simp only [List.length_drop, List.length_take]; rfl)) ?_; (with_reducible refine (impl_WaySources.calls kj5 t785 _ _ t786 t789 t797 t798 _ ?side1 ?side2 A19.out).mono ?_); (case side1 => repeat (first | exact (Kd.R_reads' HO_791001.out).2.2 | (with_reducible refine Kd.C_alloc ?_ _) | (with_reducible refine Kd.C_drewN ?_ _) | (with_reducible refine Kd.C_drew ?_))); (case side2 => exact (Kd.R_reads' HO_791001.out).2.1); rintro e w55 ⟨rfl, hb⟩; refine ⟨_, rfl, ?_⟩; have n0_ := Aside0.mk (Kd.R_below (viaR HO_791001.out) hb); have n1_ := Aside0.mk (blk_below (g := gb790) (o := .cells #[.int .i64 t785, .slice Ao10 t786.length co10] 30 (0, 0)) (viaB BK790.out) hb); have n2_ := Aside0.mk (below_step (viaX HB.out GE790.out) hb); clear HO_791001; clear BK790; clear HB; have HO_791001 := n0_; have BK790 := n1_; have HB := n2_; clear n0_ n1_ n2_; (try clear hb); (try clear hb2); (try clear hk); (try clear hi)))
      go_ret
      exact ⟨by first | rfl | (simp [errW_none, errW_some] <;> rfl) | (simp [*, errW_none, errW_some] <;> rfl), viaX HB.out GE790.out⟩

/-- THE ONE PURE STATEMENT of laws_FnRoots: yours. -/
def laws_FnRoots.Pure : Prop := ∀ (l0 : List Int), l0.length ≤ maxLen → l0.length * 1 ≤ 140737488351232 → (∀ x ∈ l0, (Lit.int .u8 x).wf = true) → ∃ k, laws_FnRoots.f k l0 = some true
theorem laws_FnRoots.walk (P : laws_FnRoots.Pure) (a0 : Option Addr) (len0 cap0 : Nat) (z0 : List Int) (w : World) (w0 : (a0 = none ∧ len0 = 0 ∧ cap0 = 0 ∧ z0 = []) ∨ ∃ x, a0 = some x ∧ len0 ≤ cap0 ∧ cap0 ≤ maxLen ∧ z0.length = cap0 ∧ (∀ i, i < z0.length → w.cell? (x.add i) = some (.int .u8 (z0.getD i 0))) ∧ ∀ n ∈ z0, (Lit.int .u8 n).wf = true) (y0 : len0 * 1 ≤ 140737488351232) :
  Calls Try.prog 13 #[.slice a0 len0 cap0] w fun e w' => e = .returned (.bool true) ∧ Below w.heap.size w w' := by
 obtain ⟨l0, rfl, hr0, hm0, hw0, hc0⟩ := ReadsInt.ofRowC w0; obtain ⟨k, h⟩ := P l0 hm0 y0 hw0
 refine (laws_FnRoots.calls k _ _ l0 true w (Kd.C_of_reads (d := (0 : Int)) (h1 := fun _ => rfl) hr0) hc0 h).mono ?_
 rintro e w' ⟨rfl, hd⟩
 exact ⟨rfl, hd⟩

end Go.Proofs.Ytfijegfjpagjoaa.G
