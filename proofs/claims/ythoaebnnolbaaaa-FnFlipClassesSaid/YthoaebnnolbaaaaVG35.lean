/- A part of this claim; what it does not use is left out. -/
import Derived.Test.YthoaebnnolbaaaaVG0
import Derived.Test.YthoaebnnolbaaaaVG27
import Derived.Test.YthoaebnnolbaaaaVG32
namespace Go.Proofs.Ythoaebnnolbaaaa.G
open Go.RowKit Go.Proofs.YthoaebnnolbaaaaW.PrintWords Go.Proofs.YthoaebnnolbaaaaW.PrintLast Go.Proofs.YthoaebnnolbaaaaW.PrintMore
set_option linter.unusedVariables false
set_option linter.unusedSimpArgs false
def spec_l5Kind.f (a0 : ByteArray) : Option (Bool) := if a0.toList = ([114] : List UInt8) then (some true) else (if a0.toList = ([99] : List UInt8) then (some true) else (some (a0.toList == ([98] : List UInt8))))
set_option maxHeartbeats 8000000 in
set_option maxRecDepth 100000 in
theorem spec_l5Kind.calls (a0 : ByteArray) (r : Bool) (w : World) (h : spec_l5Kind.f a0 = some r) :
  Calls Try.prog 71 #[.string a0] w fun e w' => e = .returned (.bool r) ∧ Drawn0 w w' := by
 have H : (if a0.toList = ([114] : List UInt8) then (some true) else (if a0.toList = ([99] : List UInt8) then (some true) else (some (a0.toList == ([98] : List UInt8))))) = some r := h; clear h
 by_cases c2 : a0.toList = ([114] : List UInt8)
 ·rw [if_pos c2] at H
  have c2b0 : (a0.toList == ([114] : List UInt8)) = true := beq_iff_eq.mpr c2; have c2b1 : (a0.toList != ([114] : List UInt8)) = false := bne_eq_false_iff_eq.mpr c2; clear c2; obtain rfl := Option.some.inj H
  go_enter Try.func71, Try.ntmps71
  go_wp2
  go_ret
  exact ⟨by first | rfl | (simp; done) | (simp [*]; done), by repeat (first | exact Drawn0.refl _ | apply Drawn0.step)⟩
 ·rw [if_neg c2] at H
  have c2b0 : (a0.toList == ([114] : List UInt8)) = false := beq_eq_false_iff_ne.mpr c2; have c2b1 : (a0.toList != ([114] : List UInt8)) = true := bne_iff_ne.mpr c2
  by_cases c3 : a0.toList = ([99] : List UInt8)
  ·rw [if_pos c3] at H
   have c3b0 : (a0.toList == ([99] : List UInt8)) = true := beq_iff_eq.mpr c3; have c3b1 : (a0.toList != ([99] : List UInt8)) = false := bne_eq_false_iff_eq.mpr c3; clear c3; obtain rfl := Option.some.inj H
   go_enter Try.func71, Try.ntmps71
   go_wp2
   go_ret
   exact ⟨by first | rfl | (simp; done) | (simp [*]; done), by repeat (first | exact Drawn0.refl _ | apply Drawn0.step)⟩
  ·rw [if_neg c3] at H
   have c3b0 : (a0.toList == ([99] : List UInt8)) = false := beq_eq_false_iff_ne.mpr c3; have c3b1 : (a0.toList != ([99] : List UInt8)) = true := bne_iff_ne.mpr c3; obtain rfl := Option.some.inj H
   go_enter Try.func71, Try.ntmps71
   go_wp2
   go_ret
   exact ⟨by first | rfl | (simp; done) | (simp [*]; done), by repeat (first | exact Drawn0.refl _ | apply Drawn0.step)⟩
def spec_l5Turns.f (k : Nat) (a0_0 : Int) (l0_1 : List (S69)) (a1 : ByteArray) (a2 : Int) : Option (List Int) := (some (([] : List Int) : List Int)).bind fun y727 => (if a1.toList = ([99] : List UInt8) then (if a1.toList = ([114] : List UInt8) then (some y727) else ((spec_l5Cuts.f k a0_0 l0_1 a2).bind fun t730 => (if y727.length + t730.length < 17592186044416 then (some (y727 ++ t730)) else (none)))) else ((spec_l5Rounds.f k a0_0 l0_1 a2).bind fun t736 => (if a1.toList = ([114] : List UInt8) then (some t736) else ((spec_l5Cuts.f k a0_0 l0_1 a2).bind fun t739 => (if t736.length + t739.length < 17592186044416 then (some (t736 ++ t739)) else (none))))))
set_option maxHeartbeats 8000000 in
set_option maxRecDepth 100000 in
theorem spec_l5Turns.calls (k : Nat) (a0_0 : Int) (A0_1 : Option Addr) (c0_1 : Nat) (l0_1 : List (S69)) (a1 : ByteArray) (a2 : Int) (r : List Int) (w : World) (hr0_1 : Kd.C k69 w A0_1 l0_1.length l0_1) (hc0_1 : l0_1.length ≤ c0_1) (h : spec_l5Turns.f k a0_0 l0_1 a1 a2 = some r) :
  Calls Try.prog 86 #[.agg #[.int .i64 a0_0, .slice A0_1 l0_1.length c0_1], .string a1, .int .i64 a2] w fun e w' => ∃ v0_ : Value, e = .returned (v0_) ∧ Kd.R (Kd.int .i64) 3 w' w.heap.size (fun _ => True) v0_ r ∧ Below w.heap.size w w' := by
 have hu25 := Try.underlying25; have HR0_1 := aK hr0_1; have HC0_1 := aK hc0_1; clear hr0_1 hc0_1; have HB := aK (Below.refl w.heap.size w); have H : ((some (([] : List Int) : List Int)).bind fun y727 => (if a1.toList = ([99] : List UInt8) then (if a1.toList = ([114] : List UInt8) then (some y727) else ((spec_l5Cuts.f k a0_0 l0_1 a2).bind fun t730 => (if y727.length + t730.length < 17592186044416 then (some (y727 ++ t730)) else (none)))) else ((spec_l5Rounds.f k a0_0 l0_1 a2).bind fun t736 => (if a1.toList = ([114] : List UInt8) then (some t736) else ((spec_l5Cuts.f k a0_0 l0_1 a2).bind fun t739 => (if t736.length + t739.length < 17592186044416 then (some (t736 ++ t739)) else (none))))))) = some r := h; clear h; obtain ⟨y727, hy727⟩ : ∃ y_ : List Int, y_ = (([] : List Int)) := ⟨_, rfl⟩; replace H : (if a1.toList = ([99] : List UInt8) then (if a1.toList = ([114] : List UInt8) then (some y727) else ((spec_l5Cuts.f k a0_0 l0_1 a2).bind fun t730 => (if y727.length + t730.length < 17592186044416 then (some (y727 ++ t730)) else (none)))) else ((spec_l5Rounds.f k a0_0 l0_1 a2).bind fun t736 => (if a1.toList = ([114] : List UInt8) then (some t736) else ((spec_l5Cuts.f k a0_0 l0_1 a2).bind fun t739 => (if t736.length + t739.length < 17592186044416 then (some (t736 ++ t739)) else (none)))))) = some r := by first | (rw [hy727]; with_reducible exact H) | (have H2_ := (Option.bind_some _ _).symm.trans H; rw [hy727]; with_reducible exact H2_) | (have H2_ := (Option.bind_some _ _).symm.trans H; with_reducible exact H2_) | with_reducible exact H | (rw [hy727]; exact H) | exact H
 have Ny727 := aK hy727; clear hy727
 by_cases c4 : a1.toList = ([99] : List UInt8)
 ·rw [if_pos c4] at H
  have c4b0 : (a1.toList == ([99] : List UInt8)) = true := beq_iff_eq.mpr c4; have c4b1 : (a1.toList != ([99] : List UInt8)) = false := bne_eq_false_iff_eq.mpr c4; clear c4
  by_cases c5 : a1.toList = ([114] : List UInt8)
  ·rw [if_pos c5] at H
   have c5b0 : (a1.toList == ([114] : List UInt8)) = true := beq_iff_eq.mpr c5; have c5b1 : (a1.toList != ([114] : List UInt8)) = false := bne_eq_false_iff_eq.mpr c5; clear c5; obtain rfl := Option.some.inj H
   go_enter Try.func86, Try.ntmps86
   go_wp2_with (first | ((with_reducible refine gate_dst (N := 3) rfl ?_); refine box_event ?hg (N := 3) ?hd (cs := #[.int .i64 a0_0, .slice A0_1 l0_1.length c0_1]) (t := 25) ?hr ?_; (case hd => rfl); (case hg => rfl); (case hr => first | (go_simp; done) | (go_simp; rfl)); intro gb726 hg w6 hbox hb; have n0_ := aK (below_step (viaW HB.out) hb); have n1_ := aK (hbox); have n2_ := aK ((by rw [hg]; exact (below_size (viaW HB.out)) : w.heap.size ≤ gb726)); have n3_ := aK ((by rw [hg]; exact (below_size (viaW HB.out)) : w.heap.size ≤ gb726)); clear HB; have HB := n0_; have BK726 := n1_; have GW726 := n2_; have GE726 := n3_; clear n0_ n1_ n2_ n3_; clear hb hbox hg) | ((with_reducible refine gate_dst (N := 8) rfl ?_); refine Kd.R_lit (Kd.int .i64) _ 3 ?hg (N := 8) ?hd (xs := ([] : List Int)) (inner := []) (ok := fun _ => True) (okp := fun _ => True) ?hr ?hp (fun _ hk => hk) trivial (Below.refl _ _) (Nat.le_refl _) (by simp) ?_; (case hd => rfl); (case hg => rfl); (case hr => first | (go_simp; done) | (go_simp; rfl)); (case hp => exact (Reps.none _ _)); intro v728 w7 ho8 hb hg_ hnew_; clear hg_ hnew_; (first | rw [← Ny727.out] at ho8 | (simp only [Int.reduceToNat] at ho8; rw [← Ny727.out] at ho8)); have n0_ := aK (Kd.R_lower ho8 (below_size (viaX HB.out GE726.out))); have n1_ := aK (blk_below (g := gb726) (o := .cells #[.int .i64 a0_0, .slice A0_1 l0_1.length c0_1] 25 (0, 0)) (viaB BK726.out) hb); have n2_ := aK (below_step (viaX HB.out GE726.out) hb); clear BK726; clear HB; have HO729 := n0_; have BK726 := n1_; have HB := n2_; clear n0_ n1_ n2_; clear hb ho8))
   go_ret
   exact ⟨_, by first | rfl | (simp [errW_none, errW_some] <;> rfl) | (simp [*, errW_none, errW_some] <;> rfl), viaR HO729.out, viaX HB.out GE726.out⟩
  ·rw [if_neg c5] at H
   have c5b0 : (a1.toList == ([114] : List UInt8)) = false := beq_eq_false_iff_ne.mpr c5; have c5b1 : (a1.toList != ([114] : List UInt8)) = true := bne_iff_ne.mpr c5; replace H := Option.bind_eq_some_iff.mp H; obtain ⟨t730, A90, H⟩ := H; replace H : (if y727.length + t730.length < 17592186044416 then (some (y727 ++ t730)) else (none)) = some r := H; have A9 := aK A90; clear A90
   by_cases c10 : y727.length + t730.length < 17592186044416
   ·rw [if_pos c10] at H
    have LMc10 := aK c10; clear c10; obtain ⟨y733, hy733⟩ : ∃ y_ : List Int, y_ = (y727 ++ t730) := ⟨_, rfl⟩; replace H : (some y733) = some r := by first | (rw [hy733]; with_reducible exact H) | (have H2_ := (Option.bind_some _ _).symm.trans H; rw [hy733]; with_reducible exact H2_) | (have H2_ := (Option.bind_some _ _).symm.trans H; with_reducible exact H2_) | with_reducible exact H | (rw [hy733]; exact H) | exact H
    have Ny733 := aK hy733; clear hy733; obtain rfl := Option.some.inj H
    go_enter Try.func86, Try.ntmps86
    go_wp2_with (first | ((with_reducible refine gate_dst (N := 3) rfl ?_); refine box_event ?hg (N := 3) ?hd (cs := #[.int .i64 a0_0, .slice A0_1 l0_1.length c0_1]) (t := 25) ?hr ?_; (case hd => rfl); (case hg => rfl); (case hr => first | (go_simp; done) | (go_simp; rfl)); intro gb726 hg w11 hbox hb; have n0_ := aK (below_step (viaW HB.out) hb); have n1_ := aK (hbox); have n2_ := aK ((by rw [hg]; exact (below_size (viaW HB.out)) : w.heap.size ≤ gb726)); have n3_ := aK ((by rw [hg]; exact (below_size (viaW HB.out)) : w.heap.size ≤ gb726)); clear HB; have HB := n0_; have BK726 := n1_; have GW726 := n2_; have GE726 := n3_; clear n0_ n1_ n2_ n3_; clear hb hbox hg) | ((with_reducible refine gate_dst (N := 8) rfl ?_); refine Kd.R_lit (Kd.int .i64) _ 3 ?hg (N := 8) ?hd (xs := ([] : List Int)) (inner := []) (ok := fun _ => True) (okp := fun _ => True) ?hr ?hp (fun _ hk => hk) trivial (Below.refl _ _) (Nat.le_refl _) (by simp) ?_; (case hd => rfl); (case hg => rfl); (case hr => first | (go_simp; done) | (go_simp; rfl)); (case hp => exact (Reps.none _ _)); intro v728 w12 ho13 hb hg_ hnew_; clear hg_ hnew_; (first | rw [← Ny727.out] at ho13 | (simp only [Int.reduceToNat] at ho13; rw [← Ny727.out] at ho13)); have n0_ := aK (Kd.R_lower ho13 (below_size (viaX HB.out GE726.out))); have n1_ := aK (blk_below (g := gb726) (o := .cells #[.int .i64 a0_0, .slice A0_1 l0_1.length c0_1] 25 (0, 0)) (viaB BK726.out) hb); have n2_ := aK (below_step (viaX HB.out GE726.out) hb); clear BK726; clear HB; have HO729 := n0_; have BK726 := n1_; have HB := n2_; clear n0_ n1_ n2_; clear hb ho13; have hcz14_0 : w12.cell? ⟨gb726, 0, none⟩ = some (.int .i64 a0_0) := (blk_cell BK726.out 0).trans rfl; have hcz14_1 : w12.cell? ⟨gb726, 1, none⟩ = some (.slice A0_1 l0_1.length c0_1) := (blk_cell BK726.out 1).trans rfl; have hfz14_0 := blk_frozen BK726.out 0; have hfz14_1 := blk_frozen BK726.out 1) | ((with_reducible refine gate_callee (f := 64) rfl ?_); refine goesL_ (some 19) rfl rfl Try.func64 (by kernel_rfl) rfl #[.agg #[.int .i64 a0_0, .slice A0_1 l0_1.length c0_1], .int .i64 a2] rfl (by (try simp only [List.map_toArray, List.map_cons, List.map_nil]); first | done | rfl | (simp only [List.length_drop, List.length_take]; rfl)) ?_; (with_reducible refine (spec_l5Cuts.calls k a0_0 _ _ l0_1 a2 t730 _ ?side1 ?side2 A9.out).mono ?_); (case side1 => repeat (first | exact (Kd.C_below HR0_1.out HB.out) | (with_reducible refine Kd.C_alloc ?_ _) | (with_reducible refine Kd.C_drewN ?_ _) | (with_reducible refine Kd.C_drew ?_))); (case side2 => exact HC0_1.out); rintro e w15 ⟨v731, rfl, ho0, hb⟩; refine ⟨_, rfl, ?_⟩; have n0_ := aK (Kd.R_elder' (viaR HO729.out) (Kd.R_base ho0) hb); have n1_ := aK (Kd.R_lower (Kd.R_new' ho0 (Kd.R_lt (viaR HO729.out))) (below_size (viaX HB.out GE726.out))); have n2_ := aK (blk_below (g := gb726) (o := .cells #[.int .i64 a0_0, .slice A0_1 l0_1.length c0_1] 25 (0, 0)) (viaB BK726.out) hb); have n3_ := aK (below_step (viaX HB.out GE726.out) hb); clear HO729; clear BK726; clear HB; have HO729 := n0_; have HO732 := n1_; have BK726 := n2_; have HB := n3_; clear n0_ n1_ n2_ n3_; (try clear hb); (try clear hb2); (try clear hk); (try clear hi); (try clear ho0); obtain ⟨Ao17, co17, eo17⟩ := Kd.R_slice HO732.out; subst eo17) | ((with_reducible refine gate_builtin (b := .append) (xs := #[.tmp 16, .tmp 19]) rfl ?_); at_builtin; refine Kd.R_append_rows (Kd.int .i64) (w0 := w) w.heap.size rfl (.tmp 16) (.tmp 19) 30 3 (.int .i64 0) 8 rfl Try.underlying30 info3 rfl (by decide) (by omega) v728 y727 t730 _ _ _ (fun k_ => some k_ ≠ (.slice Ao17 t730.length co17 : Value).ownBlock) (fun _ => False) rfl rfl ?aO ?aR (fun _ _ h => h) (fun _ h => h.elim) ?aF ?aB ?aS ?aL ?_; (case aR => repeat (first | exact (Kd.R_reads' HO732.out).2.2 | (with_reducible refine Kd.C_alloc ?_ _) | (with_reducible refine Kd.C_drewN ?_ _) | (with_reducible refine Kd.C_drew ?_))); (case aB => exact (viaX HB.out GE726.out)); (case aF => exact (fun k_ hk => Kd.fresh' (Kd.R_lt (viaR HO732.out)) k_ hk)); (case aO => exact (by (with_reducible repeat (first | apply Kd.R_alloc | apply Kd.R_drewN | apply Kd.R_drew)); exact Kd.R_mono HO729.out (fun _ hk => hk.2))); (case aS => exact (below_size (viaX HB.out GE726.out))); (case aL => have := LMc10.out; omega); intro v734 w16 ho hb hg hat; rw [← Ny733.out] at ho; have n0_ := aK (blk_grown (g := gb726) (o := .cells #[.int .i64 a0_0, .slice A0_1 l0_1.length c0_1] 25 (0, 0)) (viaB BK726.out) hg (Kd.R_ne HO729.out BK726.out (by decide))); have n1_ := aK (Kd.R_after (ok := (fun _ => True)) (viaR HO732.out) hg hat); have n2_ := aK (hb); have n3_ := aK (ho); clear BK726; clear HO732; clear HB; clear HO729; have BK726 := n0_; have HO732 := n1_; have HB := n2_; have HO735 := n3_; clear n0_ n1_ n2_ n3_; clear ho hb hg hat))
    go_ret
    exact ⟨_, by first | rfl | (simp [errW_none, errW_some] <;> rfl) | (simp [*, errW_none, errW_some] <;> rfl), by (with_reducible repeat (first | apply Kd.R_alloc | apply Kd.R_drewN | apply Kd.R_drew)); exact Kd.R_mono HO735.out (fun _ hk => trivial), viaX HB.out GE726.out⟩
   ·rw [if_neg c10] at H
    exact absurd H (by simp)
 ·rw [if_neg c4] at H
  have c4b0 : (a1.toList == ([99] : List UInt8)) = false := beq_eq_false_iff_ne.mpr c4; have c4b1 : (a1.toList != ([99] : List UInt8)) = true := bne_iff_ne.mpr c4; replace H := Option.bind_eq_some_iff.mp H; obtain ⟨t736, A180, H⟩ := H; replace H : (if a1.toList = ([114] : List UInt8) then (some t736) else ((spec_l5Cuts.f k a0_0 l0_1 a2).bind fun t739 => (if t736.length + t739.length < 17592186044416 then (some (t736 ++ t739)) else (none)))) = some r := H; have A18 := aK A180; clear A180
  by_cases c19 : a1.toList = ([114] : List UInt8)
  ·rw [if_pos c19] at H
   have c19b0 : (a1.toList == ([114] : List UInt8)) = true := beq_iff_eq.mpr c19; have c19b1 : (a1.toList != ([114] : List UInt8)) = false := bne_eq_false_iff_eq.mpr c19; clear c19; obtain rfl := Option.some.inj H
   go_enter Try.func86, Try.ntmps86
   go_wp2_with (first | ((with_reducible refine gate_dst (N := 3) rfl ?_); refine box_event ?hg (N := 3) ?hd (cs := #[.int .i64 a0_0, .slice A0_1 l0_1.length c0_1]) (t := 25) ?hr ?_; (case hd => rfl); (case hg => rfl); (case hr => first | (go_simp; done) | (go_simp; rfl)); intro gb726 hg w20 hbox hb; have n0_ := aK (below_step (viaW HB.out) hb); have n1_ := aK (hbox); have n2_ := aK ((by rw [hg]; exact (below_size (viaW HB.out)) : w.heap.size ≤ gb726)); have n3_ := aK ((by rw [hg]; exact (below_size (viaW HB.out)) : w.heap.size ≤ gb726)); clear HB; have HB := n0_; have BK726 := n1_; have GW726 := n2_; have GE726 := n3_; clear n0_ n1_ n2_ n3_; clear hb hbox hg) | ((with_reducible refine gate_dst (N := 8) rfl ?_); refine Kd.R_lit (Kd.int .i64) _ 3 ?hg (N := 8) ?hd (xs := ([] : List Int)) (inner := []) (ok := fun _ => True) (okp := fun _ => True) ?hr ?hp (fun _ hk => hk) trivial (Below.refl _ _) (Nat.le_refl _) (by simp) ?_; (case hd => rfl); (case hg => rfl); (case hr => first | (go_simp; done) | (go_simp; rfl)); (case hp => exact (Reps.none _ _)); intro v728 w21 ho22 hb hg_ hnew_; clear hg_ hnew_; (first | rw [← Ny727.out] at ho22 | (simp only [Int.reduceToNat] at ho22; rw [← Ny727.out] at ho22)); have n0_ := aK (Kd.R_lower ho22 (below_size (viaX HB.out GE726.out))); have n1_ := aK (blk_below (g := gb726) (o := .cells #[.int .i64 a0_0, .slice A0_1 l0_1.length c0_1] 25 (0, 0)) (viaB BK726.out) hb); have n2_ := aK (below_step (viaX HB.out GE726.out) hb); clear BK726; clear HB; have HO729 := n0_; have BK726 := n1_; have HB := n2_; clear n0_ n1_ n2_; clear hb ho22; have hcz23_0 : w21.cell? ⟨gb726, 0, none⟩ = some (.int .i64 a0_0) := (blk_cell BK726.out 0).trans rfl; have hcz23_1 : w21.cell? ⟨gb726, 1, none⟩ = some (.slice A0_1 l0_1.length c0_1) := (blk_cell BK726.out 1).trans rfl; have hfz23_0 := blk_frozen BK726.out 0; have hfz23_1 := blk_frozen BK726.out 1) | ((with_reducible refine gate_callee (f := 68) rfl ?_); refine goesL_ (some 13) rfl rfl Try.func68 (by kernel_rfl) rfl #[.agg #[.int .i64 a0_0, .slice A0_1 l0_1.length c0_1], .int .i64 a2] rfl (by (try simp only [List.map_toArray, List.map_cons, List.map_nil]); first | done | rfl | (simp only [List.length_drop, List.length_take]; rfl)) ?_; (with_reducible refine (spec_l5Rounds.calls k a0_0 _ _ l0_1 a2 t736 _ ?side1 ?side2 A18.out).mono ?_); (case side1 => repeat (first | exact (Kd.C_below HR0_1.out HB.out) | (with_reducible refine Kd.C_alloc ?_ _) | (with_reducible refine Kd.C_drewN ?_ _) | (with_reducible refine Kd.C_drew ?_))); (case side2 => exact HC0_1.out); rintro e w24 ⟨v737, rfl, ho0, hb⟩; refine ⟨_, rfl, ?_⟩; have n0_ := aK (Kd.R_elder' (viaR HO729.out) (Kd.R_base ho0) hb); have n1_ := aK (Kd.R_lower (Kd.R_new' ho0 (Kd.R_lt (viaR HO729.out))) (below_size (viaX HB.out GE726.out))); have n2_ := aK (blk_below (g := gb726) (o := .cells #[.int .i64 a0_0, .slice A0_1 l0_1.length c0_1] 25 (0, 0)) (viaB BK726.out) hb); have n3_ := aK (below_step (viaX HB.out GE726.out) hb); clear HO729; clear BK726; clear HB; have HO729 := n0_; have HO738 := n1_; have BK726 := n2_; have HB := n3_; clear n0_ n1_ n2_ n3_; (try clear hb); (try clear hb2); (try clear hk); (try clear hi); (try clear ho0)))
   go_ret
   exact ⟨_, by first | rfl | (simp [errW_none, errW_some] <;> rfl) | (simp [*, errW_none, errW_some] <;> rfl), by (with_reducible repeat (first | apply Kd.R_alloc | apply Kd.R_drewN | apply Kd.R_drew)); exact Kd.R_mono HO738.out (fun _ hk => trivial), viaX HB.out GE726.out⟩
  ·rw [if_neg c19] at H
   have c19b0 : (a1.toList == ([114] : List UInt8)) = false := beq_eq_false_iff_ne.mpr c19; have c19b1 : (a1.toList != ([114] : List UInt8)) = true := bne_iff_ne.mpr c19; replace H := Option.bind_eq_some_iff.mp H; obtain ⟨t739, A250, H⟩ := H; replace H : (if t736.length + t739.length < 17592186044416 then (some (t736 ++ t739)) else (none)) = some r := H; have A25 := aK A250; clear A250
   by_cases c26 : t736.length + t739.length < 17592186044416
   ·rw [if_pos c26] at H
    have LMc26 := aK c26; clear c26; obtain ⟨y742, hy742⟩ : ∃ y_ : List Int, y_ = (t736 ++ t739) := ⟨_, rfl⟩; replace H : (some y742) = some r := by first | (rw [hy742]; with_reducible exact H) | (have H2_ := (Option.bind_some _ _).symm.trans H; rw [hy742]; with_reducible exact H2_) | (have H2_ := (Option.bind_some _ _).symm.trans H; with_reducible exact H2_) | with_reducible exact H | (rw [hy742]; exact H) | exact H
    have Ny742 := aK hy742; clear hy742; obtain rfl := Option.some.inj H
    go_enter Try.func86, Try.ntmps86
    go_wp2_with (first | ((with_reducible refine gate_dst (N := 3) rfl ?_); refine box_event ?hg (N := 3) ?hd (cs := #[.int .i64 a0_0, .slice A0_1 l0_1.length c0_1]) (t := 25) ?hr ?_; (case hd => rfl); (case hg => rfl); (case hr => first | (go_simp; done) | (go_simp; rfl)); intro gb726 hg w27 hbox hb; have n0_ := aK (below_step (viaW HB.out) hb); have n1_ := aK (hbox); have n2_ := aK ((by rw [hg]; exact (below_size (viaW HB.out)) : w.heap.size ≤ gb726)); have n3_ := aK ((by rw [hg]; exact (below_size (viaW HB.out)) : w.heap.size ≤ gb726)); clear HB; have HB := n0_; have BK726 := n1_; have GW726 := n2_; have GE726 := n3_; clear n0_ n1_ n2_ n3_; clear hb hbox hg) | ((with_reducible refine gate_dst (N := 8) rfl ?_); refine Kd.R_lit (Kd.int .i64) _ 3 ?hg (N := 8) ?hd (xs := ([] : List Int)) (inner := []) (ok := fun _ => True) (okp := fun _ => True) ?hr ?hp (fun _ hk => hk) trivial (Below.refl _ _) (Nat.le_refl _) (by simp) ?_; (case hd => rfl); (case hg => rfl); (case hr => first | (go_simp; done) | (go_simp; rfl)); (case hp => exact (Reps.none _ _)); intro v728 w28 ho29 hb hg_ hnew_; clear hg_ hnew_; (first | rw [← Ny727.out] at ho29 | (simp only [Int.reduceToNat] at ho29; rw [← Ny727.out] at ho29)); have n0_ := aK (Kd.R_lower ho29 (below_size (viaX HB.out GE726.out))); have n1_ := aK (blk_below (g := gb726) (o := .cells #[.int .i64 a0_0, .slice A0_1 l0_1.length c0_1] 25 (0, 0)) (viaB BK726.out) hb); have n2_ := aK (below_step (viaX HB.out GE726.out) hb); clear BK726; clear HB; have HO729 := n0_; have BK726 := n1_; have HB := n2_; clear n0_ n1_ n2_; clear hb ho29; have hcz30_0 : w28.cell? ⟨gb726, 0, none⟩ = some (.int .i64 a0_0) := (blk_cell BK726.out 0).trans rfl; have hcz30_1 : w28.cell? ⟨gb726, 1, none⟩ = some (.slice A0_1 l0_1.length c0_1) := (blk_cell BK726.out 1).trans rfl; have hfz30_0 := blk_frozen BK726.out 0; have hfz30_1 := blk_frozen BK726.out 1) | ((with_reducible refine gate_callee (f := 68) rfl ?_); refine goesL_ (some 13) rfl rfl Try.func68 (by kernel_rfl) rfl #[.agg #[.int .i64 a0_0, .slice A0_1 l0_1.length c0_1], .int .i64 a2] rfl (by (try simp only [List.map_toArray, List.map_cons, List.map_nil]); first | done | rfl | (simp only [List.length_drop, List.length_take]; rfl)) ?_; (with_reducible refine (spec_l5Rounds.calls k a0_0 _ _ l0_1 a2 t736 _ ?side1 ?side2 A18.out).mono ?_); (case side1 => repeat (first | exact (Kd.C_below HR0_1.out HB.out) | (with_reducible refine Kd.C_alloc ?_ _) | (with_reducible refine Kd.C_drewN ?_ _) | (with_reducible refine Kd.C_drew ?_))); (case side2 => exact HC0_1.out); rintro e w31 ⟨v737, rfl, ho0, hb⟩; refine ⟨_, rfl, ?_⟩; have n0_ := aK (Kd.R_elder' (viaR HO729.out) (Kd.R_base ho0) hb); have n1_ := aK (Kd.R_lower (Kd.R_new' ho0 (Kd.R_lt (viaR HO729.out))) (below_size (viaX HB.out GE726.out))); have n2_ := aK (blk_below (g := gb726) (o := .cells #[.int .i64 a0_0, .slice A0_1 l0_1.length c0_1] 25 (0, 0)) (viaB BK726.out) hb); have n3_ := aK (below_step (viaX HB.out GE726.out) hb); clear HO729; clear BK726; clear HB; have HO729 := n0_; have HO738 := n1_; have BK726 := n2_; have HB := n3_; clear n0_ n1_ n2_ n3_; (try clear hb); (try clear hb2); (try clear hk); (try clear hi); (try clear ho0); have hcz32_0 : w31.cell? ⟨gb726, 0, none⟩ = some (.int .i64 a0_0) := (blk_cell BK726.out 0).trans rfl; have hcz32_1 : w31.cell? ⟨gb726, 1, none⟩ = some (.slice A0_1 l0_1.length c0_1) := (blk_cell BK726.out 1).trans rfl; have hfz32_0 := blk_frozen BK726.out 0; have hfz32_1 := blk_frozen BK726.out 1) | ((with_reducible refine gate_callee (f := 64) rfl ?_); refine goesL_ (some 19) rfl rfl Try.func64 (by kernel_rfl) rfl #[.agg #[.int .i64 a0_0, .slice A0_1 l0_1.length c0_1], .int .i64 a2] rfl (by (try simp only [List.map_toArray, List.map_cons, List.map_nil]); first | done | rfl | (simp only [List.length_drop, List.length_take]; rfl)) ?_; (with_reducible refine (spec_l5Cuts.calls k a0_0 _ _ l0_1 a2 t739 _ ?side1 ?side2 A25.out).mono ?_); (case side1 => repeat (first | exact (Kd.C_below HR0_1.out HB.out) | (with_reducible refine Kd.C_alloc ?_ _) | (with_reducible refine Kd.C_drewN ?_ _) | (with_reducible refine Kd.C_drew ?_))); (case side2 => exact HC0_1.out); rintro e w33 ⟨v740, rfl, ho0, hb⟩; refine ⟨_, rfl, ?_⟩; have n0_ := aK (Kd.R_elder' (viaR HO729.out) (Kd.R_base ho0) hb); have n1_ := aK (Kd.R_elder' (viaR HO738.out) (Kd.R_base ho0) hb); have n2_ := aK (Kd.R_lower (Kd.R_new' (Kd.R_new' ho0 (Kd.R_lt (viaR HO729.out))) (Kd.R_lt (viaR HO738.out))) (below_size (viaX HB.out GE726.out))); have n3_ := aK (blk_below (g := gb726) (o := .cells #[.int .i64 a0_0, .slice A0_1 l0_1.length c0_1] 25 (0, 0)) (viaB BK726.out) hb); have n4_ := aK (below_step (viaX HB.out GE726.out) hb); clear HO729; clear HO738; clear BK726; clear HB; have HO729 := n0_; have HO738 := n1_; have HO741 := n2_; have BK726 := n3_; have HB := n4_; clear n0_ n1_ n2_ n3_ n4_; (try clear hb); (try clear hb2); (try clear hk); (try clear hi); (try clear ho0); obtain ⟨Ao35, co35, eo35⟩ := Kd.R_slice HO741.out; subst eo35) | ((with_reducible refine gate_builtin (b := .append) (xs := #[.tmp 16, .tmp 19]) rfl ?_); at_builtin; refine Kd.R_append_rows (Kd.int .i64) (w0 := w) w.heap.size rfl (.tmp 16) (.tmp 19) 30 3 (.int .i64 0) 8 rfl Try.underlying30 info3 rfl (by decide) (by omega) v737 t736 t739 _ _ _ (fun k_ => some k_ ≠ (v728 : Value).ownBlock ∧ some k_ ≠ (.slice Ao35 t739.length co35 : Value).ownBlock) (fun _ => False) rfl rfl ?aO ?aR (fun _ _ h => h) (fun _ h => h.elim) ?aF ?aB ?aS ?aL ?_; (case aR => repeat (first | exact (Kd.R_reads' HO741.out).2.2 | (with_reducible refine Kd.C_alloc ?_ _) | (with_reducible refine Kd.C_drewN ?_ _) | (with_reducible refine Kd.C_drew ?_))); (case aB => exact (viaX HB.out GE726.out)); (case aF => exact (fun k_ hk => ⟨Kd.fresh' (Kd.R_lt (viaR HO729.out)) k_ hk, Kd.fresh' (Kd.R_lt (viaR HO741.out)) k_ hk⟩)); (case aO => exact (by (with_reducible repeat (first | apply Kd.R_alloc | apply Kd.R_drewN | apply Kd.R_drew)); exact Kd.R_mono HO738.out (fun _ hk => ⟨hk.1.2, hk.2⟩))); (case aS => exact (below_size (viaX HB.out GE726.out))); (case aL => have := LMc26.out; omega); intro v743 w34 ho hb hg hat; rw [← Ny742.out] at ho; have n0_ := aK (blk_grown (g := gb726) (o := .cells #[.int .i64 a0_0, .slice A0_1 l0_1.length c0_1] 25 (0, 0)) (viaB BK726.out) hg (Kd.R_ne HO738.out BK726.out (by decide))); have n1_ := aK (Kd.R_after (ok := (fun k_ => some k_ ≠ (.slice Ao35 t739.length co35 : Value).ownBlock)) (by (with_reducible repeat (first | apply Kd.R_alloc | apply Kd.R_drewN | apply Kd.R_drew)); exact Kd.R_mono HO729.out (fun _ hk => ⟨hk.2, hk.1.2⟩)) hg hat); have n2_ := aK (Kd.R_after (ok := (fun k_ => some k_ ≠ (v728 : Value).ownBlock)) (by (with_reducible repeat (first | apply Kd.R_alloc | apply Kd.R_drewN | apply Kd.R_drew)); exact Kd.R_mono HO741.out (fun _ hk => ⟨hk.1.2, hk.2⟩)) hg hat); have n3_ := aK (hb); have n4_ := aK (ho); clear BK726; clear HO729; clear HO741; clear HB; clear HO738; have BK726 := n0_; have HO729 := n1_; have HO741 := n2_; have HB := n3_; have HO744 := n4_; clear n0_ n1_ n2_ n3_ n4_; clear ho hb hg hat))
    go_ret
    exact ⟨_, by first | rfl | (simp [errW_none, errW_some] <;> rfl) | (simp [*, errW_none, errW_some] <;> rfl), by (with_reducible repeat (first | apply Kd.R_alloc | apply Kd.R_drewN | apply Kd.R_drew)); exact Kd.R_mono HO744.out (fun _ hk => trivial), viaX HB.out GE726.out⟩
   ·rw [if_neg c26] at H
    exact absurd H (by simp)
mutual
def spec_l5Class.l0 : Nat → ByteArray → List Bool → List Int → Int → Int → List (S69) → Option (Int × List Bool)
 | 0, _, _, _, _, _, _ => none
 | k + 1, x1, x3, x9, x10, x746000, x746001 => if x10 < (x9.length : Int) then (if 0 ≤ x10 then ((spec_l5Turns.f k x746000 x746001 x1 (rd x9 x10)).bind fun t751 => (spec_l5Class.l1 k x1 x3 x9 x10 t751 0 x746000 x746001)) else (none)) else (some ((x9.length : Int), x3))
def spec_l5Class.l1 : Nat → ByteArray → List Bool → List Int → Int → List Int → Int → Int → List (S69) → Option (Int × List Bool)
 | 0, _, _, _, _, _, _, _, _ => none
 | k + 1, x1, x3, x9, x10, x11, x12, x746000, x746001 => if x12 < (x11.length : Int) then (if 0 ≤ x12 then (if 0 ≤ (rd x11 x12) then (if (rd x11 x12) < (x3.length : Int) then (if (rdOf false x3 (rd x11 x12) = true) then (spec_l5Class.l1 k x1 x3 x9 x10 x11 (wrap64 (x12 + 1)) x746000 x746001) else (if x9.length < 17592186044416 then (spec_l5Class.l1 k x1 (x3.set ((rd x11 x12) : Int).toNat true) (x9 ++ [rd x11 x12]) x10 x11 (wrap64 (x12 + 1)) x746000 x746001) else (none))) else (none)) else (none)) else (none)) else (spec_l5Class.l0 k x1 x3 x9 (wrap64 (x10 + 1)) x746000 x746001)
end
def spec_l5Class.f (k : Nat) (a0_0 : Int) (l0_1 : List (S69)) (a1 : ByteArray) (a2 : Int) (l3 : List Bool) : Option (Int × List Bool) := if 0 ≤ a2 then (if a2 < (l3.length : Int) then (spec_l5Class.l0 k a1 (l3.set (a2 : Int).toNat true) (([a2] : List Int)) 0 a0_0 l0_1) else (none)) else (none)
def spec_l5Class.T6 : Bool × List (List Nat × List Nat) := (true, [([], []), ([], []), ([], []), ([], []), ([2, 3], [2, 3]), ([4], [4]), ([0, 1, 5], [0, 1, 5]), ([6, 6, 0, 1, 2, 3, 4, 5, 6], [6])])
def spec_l5Class.B6 : List Nat := [0, 0, 0, 0, 12, 28, 63, 127]
theorem spec_l5Class.tab6 : rtab .any (opsOf Try.f72 6) = spec_l5Class.T6 := by kernel_rfl
theorem spec_l5Class.bits6 : waitsOk spec_l5Class.T6.2 spec_l5Class.B6 = true := by kernel_rfl
set_option maxHeartbeats 8000000 in
set_option maxRecDepth 100000 in
theorem spec_l5Class.calls (k : Nat) (a0_0 : Int) (A0_1 : Option Addr) (c0_1 : Nat) (l0_1 : List (S69)) (a1 : ByteArray) (a2 : Int) (P3_ : Nat → Prop) (u9000_ : Value) (l3 : List Bool) (r1 : Int) (r2 : List Bool) (w0 w : World) (hB : Below w0.heap.size w0 w) (hr0_1 : ∀ W_, Kept w W_ (fun k_ => P3_ k_) → Kd.C k69 W_ A0_1 l0_1.length l0_1) (hc0_1 : l0_1.length ≤ c0_1) (ho3 : Kd.R Kd.bool 4 w w0.heap.size P3_ u9000_ l3) (h : spec_l5Class.f k a0_0 l0_1 a1 a2 l3 = some (r1, r2)) :
  Calls Try.prog 72 #[.agg #[.int .i64 a0_0, .slice A0_1 l0_1.length c0_1], .string a1, .int .i64 a2, u9000_] w fun e w' => e = .returned (.int .i64 r1) ∧ Kd.R Kd.bool 4 w' w0.heap.size (fun k_ => (P3_ k_ ∨ w.heap.size ≤ k_)) u9000_ r2 ∧ Below w0.heap.size w0 w' ∧ Kept w w' (fun k_ => P3_ k_) := by
 have hu25 := Try.underlying25; have HR0_1 := aK hr0_1; have HC0_1 := aK hc0_1; clear hr0_1 hc0_1; have HO3 := aK (show Kd.R Kd.bool 4 w w0.heap.size (fun k_ => (P3_ k_ ∨ w.heap.size ≤ k_)) u9000_ l3 from Kd.R_mono ho3 (fun k_ hk => (.inl hk))); have HK := aK (Kept.refl w (fun k_ => P3_ k_)); have HW0 := aK hB.size; have HB := aK hB; clear hB; have H : (if 0 ≤ a2 then (if a2 < (l3.length : Int) then (spec_l5Class.l0 k a1 (l3.set (a2 : Int).toNat true) (([a2] : List Int)) 0 a0_0 l0_1) else (none)) else (none)) = some (r1, r2) := h; clear h
 by_cases c5 : 0 ≤ a2
 ·rw [if_pos c5] at H
  have c5b0 : decide (0 ≤ a2) = true := decide_eq_true c5; clear c5
  by_cases c6 : a2 < (l3.length : Int)
  ·rw [if_pos c6] at H
   have c6b0 : decide (a2 < (l3.length : Int)) = true := decide_eq_true c6; clear c6; obtain ⟨y746, hy746⟩ : ∃ y_ : List Bool, y_ = (l3.set (a2 : Int).toNat true) := ⟨_, rfl⟩; replace H : (spec_l5Class.l0 k a1 y746 (([a2] : List Int)) 0 a0_0 l0_1) = some (r1, r2) := by first | (rw [hy746]; with_reducible exact H) | (have H2_ := (Option.bind_some _ _).symm.trans H; rw [hy746]; with_reducible exact H2_) | (have H2_ := (Option.bind_some _ _).symm.trans H; with_reducible exact H2_) | with_reducible exact H | (rw [hy746]; exact H) | exact H
   have Ny746 := aK hy746; clear hy746; obtain ⟨y747, hy747⟩ : ∃ y_ : List Int, y_ = (([a2] : List Int)) := ⟨_, rfl⟩; replace H : (spec_l5Class.l0 k a1 y746 y747 0 a0_0 l0_1) = some (r1, r2) := by first | (rw [hy747]; with_reducible exact H) | (have H2_ := (Option.bind_some _ _).symm.trans H; rw [hy747]; with_reducible exact H2_) | (have H2_ := (Option.bind_some _ _).symm.trans H; with_reducible exact H2_) | with_reducible exact H | (rw [hy747]; exact H) | exact H
   have Ny747 := aK hy747; clear hy747; have H' := aK H; clear H
   go_enter Try.func72, Try.ntmps72
   go_wp2_with (first | ((with_reducible refine gate_dst (N := 4) rfl ?_); refine box_event ?hg (N := 4) ?hd (cs := #[.int .i64 a0_0, .slice A0_1 l0_1.length c0_1]) (t := 25) ?hr ?_; (case hd => rfl); (case hg => rfl); (case hr => first | (go_simp; done) | (go_simp; rfl)); intro gb745 hg w8 hbox hb; have n0_ := aK (Kd.R_below (viaR HO3.out) hb); have n1_ := aK (Kept.below (S := (fun k_ => P3_ k_)) (by repeat (first | (with_reducible first | exact HK.out | apply Kept.alloc | apply Kept.drewN | apply Kept.drew) | exact HK.out)) hb); have n2_ := aK (below_step (viaW HB.out) hb); have n3_ := aK (hbox); have n4_ := aK ((by rw [hg]; exact (by first | exact HK.out.1 | exact (show Kept w _ (fun k_ => P3_ k_) from by repeat (first | (with_reducible first | exact HK.out | apply Kept.alloc | apply Kept.drewN | apply Kept.drew) | exact HK.out)).1) : w.heap.size ≤ gb745)); have n5_ := aK ((by rw [hg]; exact (below_size (viaW HB.out)) : w0.heap.size ≤ gb745)); clear HO3; clear HK; clear HB; have HO3 := n0_; have HK := n1_; have HB := n2_; have BK745 := n3_; have GW745 := n4_; have GE745 := n5_; clear n0_ n1_ n2_ n3_ n4_ n5_; clear hb hbox hg; have p7 : 0 ≤ (a2 : Int) := of_decide_eq_true (by first | (with_reducible assumption) | assumption); have q7 : (a2 : Int) < ((l3.length : Int) : Int) := of_decide_eq_true (by first | (with_reducible assumption) | assumption); obtain ⟨go7, co7, eo7, gb7, gl7, cl7, HG7⟩ := Kd.R_form HO3.out (by omega); (first | cases eo7 | (injection eo7 with ea_ en_ ec_; (first | subst ea_ | (injection ea_ with ea_; subst ea_)); subst ec_; clear en_)); have GB7 := aK gb7; have GG7 := aK HG7; clear gb7 gl7 HG7; have HMgo7 := aK (show (P3_ go7 ∨ w.heap.size ≤ go7) from (HO3.out.1 _ rfl)); obtain ⟨hx7_0, hf7_0⟩ := Kd.R_celln false HO3.out (a2 : Int) p7 q7; replace p7 := eq_true p7; replace q7 := eq_true q7; obtain ⟨hy9_, hz9_⟩ := Kd.R_celln false HO3.out (a2 : Int) (of_decide_eq_true (by first | (with_reducible assumption) | assumption)) (of_decide_eq_true (by first | (with_reducible assumption) | assumption)); have HP9 := Kd.R_putg HO3.out (a2 : Int) true) | ((with_reducible refine gate_store (t := 4) (p := 15) rfl ?_); refine store_event (t := 4) (p := 15) (v := ?vo_w10) (w1 := (w8.setCell ⟨go7, (a2 : Int).toNat, none⟩ (.bool true))) ?hg ?ho ?hn ?hr ?_; (case ho => rfl); (case hg => rfl); (case hn => rfl); (case hr => first | (go_simp; done) | (go_simp; rfl)); intro w10 hw; have hg : w8.grownBy w10 (some go7) := (by rw [hw]; exact HP9.2); have hp_ : Kd.R Kd.bool 4 w10 w0.heap.size (fun k_ => (P3_ k_ ∨ w.heap.size ≤ k_)) (.slice (some ⟨go7, 0, none⟩) l3.length co7) y746 := (by rw [hw, Ny746.out]; exact HP9.1); clear HP9; have n0_ := aK (hp_); have n1_ := aK (blk_grown (g := gb745) (o := .cells #[.int .i64 a0_0, .slice A0_1 l0_1.length c0_1] 25 (0, 0)) (viaB BK745.out) hg (Kd.R_ne HO3.out BK745.out (by decide))); have n2_ := aK ((by rw [hw]; exact below_set (HB.out) GB7.out : Below w0.heap.size w0 w10)); have n3_ := aK (Kept.of_grown (S := (fun k_ => P3_ k_)) hg (by repeat (first | (with_reducible first | exact HK.out | apply Kept.alloc | apply Kept.drewN | apply Kept.drew | refine Kept.setCell ?_ (.inr GW745.out) _) | exact HK.out)) (fun k_ e_ => (HO3.out.1 k_ e_))); clear HO3; clear BK745; clear HB; clear HK; have HO3 := n0_; have BK745 := n1_; have HB := n2_; have HK := n3_; clear n0_ n1_ n2_ n3_; clear hg hw hp_) | ((with_reducible refine gate_dst (N := 17) rfl ?_); refine Kd.R_lit (Kd.int .i64) _ 3 ?hg (N := 17) ?hd (xs := ([a2] : List Int)) (inner := [.int .i64 a2]) (ok := fun _ => True) (okp := fun _ => True) ?hr ?hp (fun _ hk => hk) trivial (Below.refl _ _) (Nat.le_refl _) (by simp) ?_; (case hd => rfl); (case hg => rfl); (case hr => first | (go_simp; done) | (go_simp; rfl)); (case hp => exact (Reps.one (show Kd.M (Kd.int .i64) _ _ _ a2 [.int .i64 a2] from rfl) (Reps.none _ _))); intro v748 w11 ho12 hb hg_ hnew_; clear hg_ hnew_; (first | rw [← Ny747.out] at ho12 | (simp only [Int.reduceToNat] at ho12; rw [← Ny747.out] at ho12)); have n0_ := aK (Kd.R_below (viaR HO3.out) hb); have n1_ := aK (Kd.R_lower (Kd.R_newM (M := fun k_ => (P3_ k_ ∨ w.heap.size ≤ k_)) ho12 (by first | exact HK.out.1 | exact (show Kept w _ (fun k_ => P3_ k_) from by repeat (first | (with_reducible first | exact HK.out | apply Kept.alloc | apply Kept.drewN | apply Kept.drew | refine Kept.setCell ?_ (.inr GW745.out) _) | exact HK.out)).1) (fun k_ h_ => .inr h_)) (below_size (viaX HB.out GE745.out))); have n2_ := aK (blk_below (g := gb745) (o := .cells #[.int .i64 a0_0, .slice A0_1 l0_1.length c0_1] 25 (0, 0)) (viaB BK745.out) hb); have n3_ := aK (Kept.below (S := (fun k_ => P3_ k_)) (by repeat (first | (with_reducible first | exact HK.out | apply Kept.alloc | apply Kept.drewN | apply Kept.drew | refine Kept.setCell ?_ (.inr GW745.out) _) | exact HK.out)) hb); have n4_ := aK (below_step (viaX HB.out GE745.out) hb); clear HO3; clear BK745; clear HK; clear HB; have HO3 := n0_; have HO749 := n1_; have BK745 := n2_; have HK := n3_; have HB := n4_; clear n0_ n1_ n2_ n3_ n4_; clear hb ho12))
   go_loopg [9, 10] k (fun kq v9 v10 w' => ∃ (x3_1 : List Bool) (x9_1 : List Int) (x10_1 : Int), v10 = .int .i64 x10_1 ∧ Aside0 (spec_l5Class.l0 kq a1 x3_1 x9_1 x10_1 a0_0 l0_1 = some (r1, r2)) ∧ Aside0 (kq ≤ k) ∧ Aside0 (Kd.R Kd.bool 4 w' w0.heap.size (fun k_ => (P3_ k_ ∨ w.heap.size ≤ k_)) (.slice (some ⟨go7, 0, none⟩) l3.length co7) x3_1) ∧ Aside0 (Kd.R (Kd.int .i64) 3 w' w0.heap.size (fun k_ => (P3_ k_ ∨ w.heap.size ≤ k_)) v9 x9_1) ∧ Aside0 (w'.heap[gb745]? = some (.cells #[.int .i64 a0_0, (.slice A0_1 l0_1.length c0_1)] 25 (0, 0))) ∧ Aside0 (Kept w w' (fun k_ => P3_ k_)) ∧ Aside0 (Below w0.heap.size w0 w'))
   case atStart => exact ⟨(y746), (y747), (0), (by first | rfl | (simp; done) | (simp [*]; done)), H', ⟨Nat.le_refl _⟩, ⟨viaR HO3.out⟩, ⟨by (with_reducible repeat (first | apply Kd.R_alloc | apply Kd.R_drewN | apply Kd.R_drew)); exact Kd.R_mono HO749.out (fun _ hk => hk.1)⟩, ⟨viaB BK745.out⟩, ⟨by repeat (first | (with_reducible first | exact HK.out | apply Kept.alloc | apply Kept.drewN | apply Kept.drew | refine Kept.setCell ?_ (.inr GW745.out) _) | exact HK.out)⟩, ⟨viaX HB.out GE745.out⟩⟩
   case round =>
    clear H'
    try clear p2
    try clear c5
    try clear c5b0
    try clear c6
    try clear c6b0
    try clear c7
    try clear p7
    try clear q7
    try clear hx7
    try clear hf7
    try clear hx7_0
    try clear p7
    try clear q7
    obtain ⟨x3_1, x9_1, x10_1, rfl, HA, HK1, HO_3, HO_9, BK745, HK, HB⟩ := hrel; have hl3_1 := (Kd.R_reads' HO_3.out).1
    rw [hl3_1] at HO_3
    (try simp only [hl3_1])
    (try simp only [hl3_1] at BK745)
    (try simp only [hl3_1] at HO_9)
    cases gk with
    | zero => exact absurd HA.out (by simp [spec_l5Class.l0])
    | succ k1 =>
     have H := HA.out; clear HA
     simp only [spec_l5Class.l0] at H
     by_cases c13 : x10_1 < (x9_1.length : Int)
     ·rw [if_pos c13] at H
      have c13b0 : decide (x10_1 < (x9_1.length : Int)) = true := decide_eq_true c13; clear c13
      by_cases c14 : 0 ≤ x10_1
      ·rw [if_pos c14] at H
       have c14b0 : decide (0 ≤ x10_1) = true := decide_eq_true c14; clear c14; replace H := Option.bind_eq_some_iff.mp H; obtain ⟨t751, A150, H⟩ := H; replace H : (spec_l5Class.l1 k1 a1 x3_1 x9_1 x10_1 t751 0 a0_0 l0_1) = some (r1, r2) := H; have A15 := aK A150; clear A150; have H' := aK H; clear H; obtain ⟨Ao16, co16, eo16⟩ := Kd.R_slice HO_9.out; subst eo16
       try go_wp2
       have n0_ := aK (Kd.R_drew HO_3.out); have n1_ := aK (Kd.R_drew HO_9.out); have n2_ := aK (blk_drew BK745.out); have n3_ := aK (Kept.drew HK.out); have n4_ := aK (below_drew1 HB.out); clear HO_3; clear HO_9; clear BK745; clear HK; clear HB; have HO_3 := n0_; have HO_9 := n1_; have BK745 := n2_; have HK := n3_; have HB := n4_; clear n0_ n1_ n2_ n3_ n4_; have p750 : 0 ≤ (x10_1 : Int) := of_decide_eq_true (by first | (with_reducible assumption) | assumption); have q750 : x10_1 < (x9_1.length : Int) := of_decide_eq_true (by first | (with_reducible assumption) | assumption); obtain ⟨ad750, e750, hx750_0⟩ := Kd.at_int (Kd.R_reads' HO_9.out).2.2 x10_1 p750 q750
       cases e750
       replace p750 := eq_true p750; replace q750 := eq_true q750
       refine start_ (n := 8) (S := fun w' => w'.cell? ⟨gb745, 0, none⟩ = some (.int .i64 a0_0) ∧ w'.cell? ⟨gb745, 1, none⟩ = some (.slice A0_1 l0_1.length c0_1) ∧ w'.cell? (ad750.add (x10_1).toNat) = some (.int .i64 (rd x9_1 x10_1))) (ds := []) #[false, false, false, false, false, false, false, false] (by kernel_rfl) rfl rfl ⟨(blk_cell BK745.out 0).trans rfl, (blk_cell BK745.out 1).trans rfl, hx750_0⟩ (fun hHeld => ?_); refine with_tabW spec_l5Class.tab6 spec_l5Class.bits6 (fun HT_ HW_ => ?_)
       generalize wr.drew = w17 at HO_3 HO_9 BK745 HK HB hx750_0 hHeld ⊢
       refine pure_ (i := 1) (N := some 25) (v := ?_) (a' := ?_) #[false, true, false, false, false, false, false, false] rfl rfl (any_of HT_.out (by kernel_rfl)) (fun _ _ _ h => h) (Or.inl ⟨by rfl, ?_⟩) ?_ ?_
       rotate_left
       ·intro w'
        go_simp
        with_reducible rfl
       rotate_left
       ·simp only [Act.put, lA, lB, lC, i64_w, i32_w]
        rfl
       refine pure_ (i := 2) (N := some 26) (v := ?_) (a' := ?_) #[false, true, true, false, false, false, false, false] rfl rfl (any_of HT_.out (by kernel_rfl)) (fun _ _ _ h => h) (Or.inl ⟨by rfl, ?_⟩) ?_ ?_
       rotate_left
       ·intro w'
        go_simp
        with_reducible rfl
       rotate_left
       ·simp only [Act.put, lA, lB, lC, i64_w, i32_w]
        rfl
       refine pure_ (i := 3) (N := some 27) (v := ?_) (a' := ?_) #[false, true, true, true, false, false, false, false] rfl rfl (any_of HT_.out (by kernel_rfl)) (fun _ _ _ h => h) (Or.inl ⟨by rfl, ?_⟩) ?_ ?_
       rotate_left
       ·intro w'
        go_simp
        with_reducible rfl
       rotate_left
       ·simp only [Act.put, lA, lB, lC, i64_w, i32_w]
        rfl
       refine pure_ (i := 4) (N := some 28) (v := ?_) (a' := ?_) #[false, true, true, true, true, false, false, false] rfl rfl (any_of HT_.out (by kernel_rfl)) (fun _ _ _ h => h) (Or.inl ⟨by rfl, ?_⟩) ?_ ?_
       rotate_left
       ·intro w'
        go_simp
        with_reducible rfl
       rotate_left
       ·simp only [Act.put, lA, lB, lC, i64_w, i32_w]
        rfl
       refine take_ (i := 0) (N := some 24) (v := ?_) (a' := ?_) #[true, true, true, true, true, false, false, false] rfl rfl (take_ofW HT_.out HW_.out (by kernel_rfl)) (fun _ _ _ h => h) (Or.inl ⟨by rfl, ?_⟩) hHeld ?_ ?_
       rotate_left
       ·rintro w' ⟨s0, s1, s2⟩
        go_simp
        with_reducible rfl
       rotate_left
       ·simp only [Act.put, lA, lB, lC, i64_w, i32_w]
        rfl
       refine take_ (i := 5) (N := some 29) (v := ?_) (a' := ?_) #[true, true, true, true, true, true, false, false] rfl rfl (take_ofW HT_.out HW_.out (by kernel_rfl)) (fun _ _ _ h => h) (Or.inl ⟨by rfl, ?_⟩) hHeld ?_ ?_
       rotate_left
       ·rintro w' ⟨s0, s1, s2⟩
        go_simp
        with_reducible rfl
       rotate_left
       ·simp only [Act.put, lA, lB, lC, i64_w, i32_w]
        rfl
       refine one_ (i := 6) (N := some 30) #[true, true, true, true, true, true, true, false] rfl rfl (one_of HT_.out (by kernel_rfl)) (by decide) (fun K hK => ?_)
       refine goes_ Try.func86 (by kernel_rfl) rfl #[.agg #[.int .i64 a0_0, .slice A0_1 l0_1.length c0_1], .string a1, .int .i64 (rd x9_1 x10_1)] (by rfl) rfl rfl (by (try simp only [List.map_toArray, List.map_cons, List.map_nil]); first | done | rfl | (simp only [List.length_drop, List.length_take]; rfl)) ?_
       with_reducible refine (spec_l5Turns.calls k1 a0_0 _ _ l0_1 a1 (rd x9_1 x10_1) t751 _ ?side1 ?side2 A15.out).mono ?_
       (case side1 => exact Kd.C_kept_now HR0_1.out (by repeat (first | (with_reducible first | exact HK.out | apply Kept.alloc | apply Kept.drewN | apply Kept.drew | refine Kept.setCell ?_ (.inr GW745.out) _) | exact HK.out)))
       (case side2 => exact HC0_1.out)
       rintro e w18 ⟨v752, rfl, ho0, hb⟩
       have HS2_ := (hb.cell (World.block_lt_of_cell? _ _ (hHeld.2.2))).trans (hHeld.2.2)
       refine ⟨_, rfl, ?_⟩
       have n0_ := aK (Kd.R_below (viaR HO_3.out) hb); have n1_ := aK (Kd.R_elder' (viaR HO_9.out) (Kd.R_base ho0) hb); have n2_ := aK (Kd.R_lower (Kd.R_new' (Kd.R_newM (M := fun k_ => (P3_ k_ ∨ w.heap.size ≤ k_)) ho0 (by first | exact HK.out.1 | exact (show Kept w _ (fun k_ => P3_ k_) from by repeat (first | (with_reducible first | exact HK.out | apply Kept.alloc | apply Kept.drewN | apply Kept.drew | refine Kept.setCell ?_ (.inr GW745.out) _) | exact HK.out)).1) (fun k_ h_ => .inr h_)) (Kd.R_lt (viaR HO_9.out))) (below_size (viaX HB.out GE745.out))); have n3_ := aK (blk_below (g := gb745) (o := .cells #[.int .i64 a0_0, .slice A0_1 l0_1.length c0_1] 25 (0, 0)) (viaB BK745.out) hb); have n4_ := aK (Kept.below (S := (fun k_ => P3_ k_)) (by repeat (first | (with_reducible first | exact HK.out | apply Kept.alloc | apply Kept.drewN | apply Kept.drew | refine Kept.setCell ?_ (.inr GW745.out) _) | exact HK.out)) hb); have n5_ := aK (below_step (viaX HB.out GE745.out) hb); clear HO_3; clear HO_9; clear BK745; clear HK; clear HB; have HO_3 := n0_; have HO_9 := n1_; have HO753 := n2_; have BK745 := n3_; have HK := n4_; have HB := n5_; clear n0_ n1_ n2_ n3_ n4_ n5_
       (try clear hb)
       (try clear hb2)
       (try clear hk)
       (try clear hi)
       (try clear ho0)
       refine hK.out _ _ ⟨(blk_cell BK745.out 0).trans rfl, (blk_cell BK745.out 1).trans rfl, HS2_⟩ (fun hHeld => ?_)
       clear hK K
       refine norm_ (a' := ?_) ?_ ?_
       rotate_left
       ·show Act.put _ (some 30) _ = _
        simp only [Act.put, lA, lB, lC, i64_w, i32_w]
        rfl
       refine pure_ (i := 7) (N := some 11) (v := ?_) (a' := ?_) #[true, true, true, true, true, true, true, true] rfl rfl (any_of HT_.out (by kernel_rfl)) (fun _ _ _ h => h) (Or.inl ⟨by rfl, ?_⟩) ?_ ?_
       rotate_left
       ·intro w'
        go_simp
        with_reducible rfl
       rotate_left
       ·simp only [Act.put, lA, lB, lC, i64_w, i32_w]
        rfl
       refine done_ (done_of HT_.out (by kernel_rfl)) ?_
       try go_wp2
       go_loopg [9, 12] k1 (fun kq v9 v12 w' => ∃ (x3_2 : List Bool) (x9_2 : List Int) (x12_2 : Int), v12 = .int .i64 x12_2 ∧ Aside0 (spec_l5Class.l1 kq a1 x3_2 x9_2 x10_1 t751 x12_2 a0_0 l0_1 = some (r1, r2)) ∧ Aside0 (kq ≤ k1) ∧ Aside0 (Kd.R Kd.bool 4 w' w0.heap.size (fun k_ => (P3_ k_ ∨ w.heap.size ≤ k_)) (.slice (some ⟨go7, 0, none⟩) x3_1.length co7) x3_2) ∧ Aside0 (Kd.R (Kd.int .i64) 3 w' w0.heap.size (fun k_ => (P3_ k_ ∨ w.heap.size ≤ k_) ∧ some k_ ≠ (v752 : Value).ownBlock) v9 x9_2) ∧ Aside0 (Kd.R (Kd.int .i64) 3 w' w0.heap.size (fun k_ => (P3_ k_ ∨ w.heap.size ≤ k_) ∧ some k_ ≠ (v9 : Value).ownBlock) v752 t751) ∧ Aside0 (w'.heap[gb745]? = some (.cells #[.int .i64 a0_0, (.slice A0_1 l0_1.length c0_1)] 25 (0, 0))) ∧ Aside0 (Kept w w' (fun k_ => P3_ k_)) ∧ Aside0 (Below w0.heap.size w0 w'))
       case atStart => exact ⟨(x3_1), (x9_1), (0), (by first | rfl | (simp; done) | (simp [*]; done)), H', ⟨Nat.le_refl _⟩, ⟨by (try simp only [hl3_1]); (with_reducible repeat (first | apply Kd.R_alloc | apply Kd.R_drewN | apply Kd.R_drew)); exact HO_3.out⟩, ⟨by (try simp only [hl3_1]); (with_reducible repeat (first | apply Kd.R_alloc | apply Kd.R_drewN | apply Kd.R_drew)); exact HO_9.out⟩, ⟨by (try simp only [hl3_1]); (with_reducible repeat (first | apply Kd.R_alloc | apply Kd.R_drewN | apply Kd.R_drew)); exact Kd.R_mono HO753.out (fun _ hk => ⟨hk.1.1, hk.2⟩)⟩, ⟨by (try simp only [hl3_1]); (with_reducible repeat (first | refine blk_drewN ?_ _ | refine blk_drew ?_ | refine blk_alloc ?_ _)); exact BK745.out⟩, ⟨by repeat (first | (with_reducible first | exact HK.out | apply Kept.alloc | apply Kept.drewN | apply Kept.drew | refine Kept.setCell ?_ (.inr GW745.out) _) | exact HK.out)⟩, ⟨viaX HB.out GE745.out⟩⟩
       case round =>
        clear H'
        try clear c1
        try clear p2
        try clear c5
        try clear c5b0
        try clear c6
        try clear c6b0
        try clear c7
        try clear p7
        try clear q7
        try clear hx7
        try clear hf7
        try clear c8
        try clear c13
        try clear c13b0
        try clear c14
        try clear c14b0
        try clear hx750_0
        try clear hx7_0
        try clear p2
        try clear p7
        try clear p750
        try clear q7
        try clear q750
        obtain ⟨x3_2, x9_2, x12_2, rfl, HA, HK2, HO_3, HO_9, HO_11, BK745, HK, HB⟩ := hrel; have hl3_2 := (Kd.R_reads' HO_3.out).1
        rw [hl3_2] at HO_3
        (try simp only [hl3_2])
        (try simp only [hl3_2] at BK745)
        (try simp only [hl3_2] at HO_9)
        (try simp only [hl3_2] at HO_11)
        cases gk with
        | zero => exact absurd HA.out (by simp [spec_l5Class.l1])
        | succ k2 =>
         have H := HA.out; clear HA
         simp only [spec_l5Class.l1] at H
         by_cases c19 : x12_2 < (t751.length : Int)
         ·rw [if_pos c19] at H
          have c19b0 : decide (x12_2 < (t751.length : Int)) = true := decide_eq_true c19; clear c19
          by_cases c20 : 0 ≤ x12_2
          ·rw [if_pos c20] at H
           have c20b0 : decide (0 ≤ x12_2) = true := decide_eq_true c20; clear c20
           by_cases c21 : 0 ≤ (rd t751 x12_2)
           ·rw [if_pos c21] at H
            have c21b0 : decide (0 ≤ (rd t751 x12_2)) = true := decide_eq_true c21; clear c21
            by_cases c22 : (rd t751 x12_2) < (x3_2.length : Int)
            ·rw [if_pos c22] at H
             have c22b0 : decide ((rd t751 x12_2) < (x3_2.length : Int)) = true := decide_eq_true c22; clear c22; obtain ⟨bq23, hbq23⟩ : ∃ b_ : Bool, b_ = (rdOf false x3_2 (rd t751 x12_2)) := ⟨_, rfl⟩; replace H : (if (bq23 = true) then (spec_l5Class.l1 k2 a1 x3_2 x9_2 x10_1 t751 (wrap64 (x12_2 + 1)) a0_0 l0_1) else (if x9_2.length < 17592186044416 then (spec_l5Class.l1 k2 a1 (x3_2.set ((rd t751 x12_2) : Int).toNat true) (x9_2 ++ [rd t751 x12_2]) x10_1 t751 (wrap64 (x12_2 + 1)) a0_0 l0_1) else (none))) = some (r1, r2) := by rw [← hbq23] at H; exact H
             have Nbq23 := aK hbq23; clear hbq23
             by_cases c24 : (bq23 = true)
             ·subst c24
              have H1 : (spec_l5Class.l1 k2 a1 x3_2 x9_2 x10_1 t751 (wrap64 (x12_2 + 1)) a0_0 l0_1) = some (r1, r2) := by rw [if_pos rfl] at H; exact H
              clear H; have H := H1; clear H1; have H' := aK H; clear H; obtain ⟨Ao25, co25, eo25⟩ := Kd.R_slice HO_11.out; subst eo25; have p754 : 0 ≤ (x12_2 : Int) := of_decide_eq_true (by first | (with_reducible assumption) | assumption); have q754 : x12_2 < (t751.length : Int) := of_decide_eq_true (by first | (with_reducible assumption) | assumption); obtain ⟨ad754, e754, hx754_0⟩ := Kd.at_int (Kd.R_reads' HO_11.out).2.2 x12_2 p754 q754
              cases e754
              replace p754 := eq_true p754; replace q754 := eq_true q754; have p755 : 0 ≤ ((rd t751 x12_2) : Int) := of_decide_eq_true (by first | (with_reducible assumption) | assumption); have q755 : (rd t751 x12_2) < (x3_2.length : Int) := of_decide_eq_true (by first | (with_reducible assumption) | assumption); obtain ⟨ad755, e755, hx755_0⟩ := Kd.at_bool (Kd.R_reads' HO_3.out).2.2 (rd t751 x12_2) p755 q755
              (try rw [← Nbq23.out] at hx755_0)
              obtain rfl : (⟨go7, 0, none⟩ : Addr) = ad755 := (by injection e755)
              (first | simp only [add_plain] at hx755_0 | simp only [add_at] at hx755_0 | simp only [Addr.add, Nat.zero_add] at hx755_0 | skip)
              replace p755 := eq_true p755; replace q755 := eq_true q755
              go_wp2
              (try simp only [← hl3_2])
              go_roundg k2
              case measure => have := HK1.out; have := HK2.out; omega
              case rel => exact ⟨(x3_2), (x9_2), (wrap64 (x12_2 + 1)), (by first | rfl | (simp; done) | (simp [*]; done)), H', ⟨by have := HK1.out; have := HK2.out; omega⟩, ⟨by (try simp only [hl3_1]); (try simp only [hl3_2]); (with_reducible repeat (first | apply Kd.R_alloc | apply Kd.R_drewN | apply Kd.R_drew)); exact HO_3.out⟩, ⟨by (try simp only [hl3_1]); (try simp only [hl3_2]); (with_reducible repeat (first | apply Kd.R_alloc | apply Kd.R_drewN | apply Kd.R_drew)); exact HO_9.out⟩, ⟨by (try simp only [hl3_1]); (try simp only [hl3_2]); (with_reducible repeat (first | apply Kd.R_alloc | apply Kd.R_drewN | apply Kd.R_drew)); exact HO_11.out⟩, ⟨by (try simp only [hl3_1]); (try simp only [hl3_2]); (with_reducible repeat (first | refine blk_drewN ?_ _ | refine blk_drew ?_ | refine blk_alloc ?_ _)); exact BK745.out⟩, ⟨by repeat (first | (with_reducible first | exact HK.out | apply Kept.alloc | apply Kept.drewN | apply Kept.drew | refine Kept.setCell ?_ (.inr GW745.out) _) | exact HK.out)⟩, ⟨viaX HB.out GE745.out⟩⟩
             ·replace c24 := Bool.eq_false_iff.mpr c24
              subst c24; have H1 : (if x9_2.length < 17592186044416 then (spec_l5Class.l1 k2 a1 (x3_2.set ((rd t751 x12_2) : Int).toNat true) (x9_2 ++ [rd t751 x12_2]) x10_1 t751 (wrap64 (x12_2 + 1)) a0_0 l0_1) else (none)) = some (r1, r2) := by rw [if_neg (show ¬ (false = true) by decide)] at H; exact H
              clear H; have H := H1; clear H1; obtain ⟨y757, hy757⟩ : ∃ y_ : List Bool, y_ = (x3_2.set ((rd t751 x12_2) : Int).toNat true) := ⟨_, rfl⟩; replace H : (if x9_2.length < 17592186044416 then (spec_l5Class.l1 k2 a1 y757 (x9_2 ++ [rd t751 x12_2]) x10_1 t751 (wrap64 (x12_2 + 1)) a0_0 l0_1) else (none)) = some (r1, r2) := by first | (rw [hy757]; with_reducible exact H) | (have H2_ := (Option.bind_some _ _).symm.trans H; rw [hy757]; with_reducible exact H2_) | (have H2_ := (Option.bind_some _ _).symm.trans H; with_reducible exact H2_) | with_reducible exact H | (rw [hy757]; exact H) | exact H
              have Ny757 := aK hy757; clear hy757
              by_cases c27 : x9_2.length < 17592186044416
              ·rw [if_pos c27] at H
               have LMc27 := aK c27; clear c27; obtain ⟨y759, hy759⟩ : ∃ y_ : List Int, y_ = (x9_2 ++ [rd t751 x12_2]) := ⟨_, rfl⟩; replace H : (spec_l5Class.l1 k2 a1 y757 y759 x10_1 t751 (wrap64 (x12_2 + 1)) a0_0 l0_1) = some (r1, r2) := by first | (rw [hy759]; with_reducible exact H) | (have H2_ := (Option.bind_some _ _).symm.trans H; rw [hy759]; with_reducible exact H2_) | (have H2_ := (Option.bind_some _ _).symm.trans H; with_reducible exact H2_) | with_reducible exact H | (rw [hy759]; exact H) | exact H
               have Ny759 := aK hy759; clear hy759; have H' := aK H; clear H; obtain ⟨Ao28, co28, eo28⟩ := Kd.R_slice HO_11.out; subst eo28; have p754 : 0 ≤ (x12_2 : Int) := of_decide_eq_true (by first | (with_reducible assumption) | assumption); have q754 : x12_2 < (t751.length : Int) := of_decide_eq_true (by first | (with_reducible assumption) | assumption); obtain ⟨ad754, e754, hx754_0⟩ := Kd.at_int (Kd.R_reads' HO_11.out).2.2 x12_2 p754 q754
               cases e754
               replace p754 := eq_true p754; replace q754 := eq_true q754; have p755 : 0 ≤ ((rd t751 x12_2) : Int) := of_decide_eq_true (by first | (with_reducible assumption) | assumption); have q755 : (rd t751 x12_2) < (x3_2.length : Int) := of_decide_eq_true (by first | (with_reducible assumption) | assumption); obtain ⟨ad755, e755, hx755_0⟩ := Kd.at_bool (Kd.R_reads' HO_3.out).2.2 (rd t751 x12_2) p755 q755
               (try rw [← Nbq23.out] at hx755_0)
               obtain rfl : (⟨go7, 0, none⟩ : Addr) = ad755 := (by injection e755)
               (first | simp only [add_plain] at hx755_0 | simp only [add_at] at hx755_0 | simp only [Addr.add, Nat.zero_add] at hx755_0 | skip)
               replace p755 := eq_true p755; replace q755 := eq_true q755; have p756 : 0 ≤ (x12_2 : Int) := of_decide_eq_true (by first | (with_reducible assumption) | assumption); have q756 : x12_2 < (t751.length : Int) := of_decide_eq_true (by first | (with_reducible assumption) | assumption); obtain ⟨ad756, e756, hx756_0⟩ := Kd.at_int (Kd.R_reads' HO_11.out).2.2 x12_2 p756 q756; obtain rfl : ad754 = ad756 := (by injection e756); replace p756 := eq_true p756; replace q756 := eq_true q756; have p26 : 0 ≤ ((rd t751 x12_2) : Int) := of_decide_eq_true (by first | (with_reducible assumption) | assumption); have q26 : ((rd t751 x12_2) : Int) < ((x3_2.length : Int) : Int) := of_decide_eq_true (by first | (with_reducible assumption) | assumption); obtain ⟨hx26_0, hf26_0⟩ := Kd.R_celln false HO_3.out ((rd t751 x12_2) : Int) p26 q26; replace p26 := eq_true p26; replace q26 := eq_true q26; have HP29 := Kd.R_putg HO_3.out ((rd t751 x12_2) : Int) true
               go_wp2_with (first | ((with_reducible refine gate_store (t := 4) (p := 50) rfl ?_); refine store_event (t := 4) (p := 50) (v := ?vo_w30) (w1 := (wr.setCell ⟨go7, ((rd t751 x12_2) : Int).toNat, none⟩ (.bool true))) ?hg ?ho ?hn ?hr ?_; (case ho => rfl); (case hg => rfl); (case hn => rfl); (case hr => first | (go_simp; done) | (go_simp; rfl)); intro w30 hw; have hg : wr.grownBy w30 (some go7) := (by rw [hw]; exact HP29.2); have hp_ : Kd.R Kd.bool 4 w30 w0.heap.size (fun k_ => (P3_ k_ ∨ w.heap.size ≤ k_)) (.slice (some ⟨go7, 0, none⟩) x3_2.length co7) y757 := (by rw [hw, Ny757.out]; exact HP29.1); clear HP29; have n0_ := aK (hp_); have n1_ := aK (Kd.R_over' (v := (.slice (some ⟨go7, 0, none⟩) x3_2.length co7)) (viaR HO_9.out) (Kd.R_typed HO_3.out) (by decide) hg); have n2_ := aK (Kd.R_over' (v := (.slice (some ⟨go7, 0, none⟩) x3_2.length co7)) (viaR HO_11.out) (Kd.R_typed HO_3.out) (by decide) hg); have n3_ := aK (blk_grown (g := gb745) (o := .cells #[.int .i64 a0_0, .slice A0_1 l0_1.length c0_1] 25 (0, 0)) (viaB BK745.out) hg (Kd.R_ne HO_3.out BK745.out (by decide))); have n4_ := aK ((by rw [hw]; exact below_set (HB.out) GB7.out : Below w0.heap.size w0 w30)); have n5_ := aK (Kept.of_grown (S := (fun k_ => P3_ k_)) hg (by repeat (first | (with_reducible first | exact HK.out | apply Kept.alloc | apply Kept.drewN | apply Kept.drew | refine Kept.setCell ?_ (.inr GW745.out) _) | exact HK.out)) (fun k_ e_ => (HO_3.out.1 k_ e_))); clear HO_3; clear HO_9; clear HO_11; clear BK745; clear HB; clear HK; have HO_3 := n0_; have HO_9 := n1_; have HO_11 := n2_; have BK745 := n3_; have HB := n4_; have HK := n5_; clear n0_ n1_ n2_ n3_ n4_ n5_; clear hg hw hp_; have p758 : 0 ≤ (x12_2 : Int) := of_decide_eq_true (by first | (with_reducible assumption) | assumption); have q758 : x12_2 < (t751.length : Int) := of_decide_eq_true (by first | (with_reducible assumption) | assumption); obtain ⟨ad758, e758, hx758_0⟩ := Kd.at_int (Kd.R_reads' HO_11.out).2.2 x12_2 p758 q758; obtain rfl : ad754 = ad758 := (by injection e758); replace p758 := eq_true p758; replace q758 := eq_true q758) | ((with_reducible refine gate_builtin (b := .append) (xs := #[.tmp 51, .tmp 56]) rfl ?_); at_builtin; refine Kd.R_append (Kd.int .i64) (w0 := w0) w0.heap.size rfl (.tmp 51) (.tmp 56) 30 3 (.int .i64 0) 8 rfl Try.underlying30 info3 rfl (by decide) (by omega) u9 x9_2 (rd t751 x12_2) [.int .i64 (rd t751 x12_2)] (fun k_ => (P3_ k_ ∨ w.heap.size ≤ k_) ∧ some k_ ≠ (.slice (some ad754) t751.length co28 : Value).ownBlock) (fun _ => False) rfl rfl ?aP (fun _ hk => hk.elim) ?aF ?aO ?aB ?aS ?aL ?_; (case aP => exact rfl); (case aB => exact (viaX HB.out GE745.out)); (case aF => exact (fun k_ hk => ⟨(.inr (Nat.le_trans (by first | exact HK.out.1 | exact (show Kept w _ (fun k_ => P3_ k_) from by repeat (first | (with_reducible first | exact HK.out | apply Kept.alloc | apply Kept.drewN | apply Kept.drew | refine Kept.setCell ?_ (.inr GW745.out) _) | exact HK.out)).1) hk)), Kd.fresh' (Kd.R_lt (viaR HO_11.out)) k_ hk⟩)); (case aO => exact (viaR HO_9.out)); (case aS => exact (below_size (viaX HB.out GE745.out))); (case aL => have := LMc27.out; omega); intro v760 w31 ho hb hg hat; rw [← Ny759.out] at ho; have n0_ := aK (Kd.R_over' (viaR HO_3.out) (Kd.R_typed (viaR HO_9.out)) (by decide) hg); have n1_ := aK (Kd.R_after (ok := (fun k_ => (P3_ k_ ∨ w.heap.size ≤ k_))) (viaR HO_11.out) hg hat); have n2_ := aK (blk_grown (g := gb745) (o := .cells #[.int .i64 a0_0, .slice A0_1 l0_1.length c0_1] 25 (0, 0)) (viaB BK745.out) hg (Kd.R_ne HO_9.out BK745.out (by decide))); have n3_ := aK (hb); have n4_ := aK (Kept.of_grown (S := (fun k_ => P3_ k_)) hg (by repeat (first | (with_reducible first | exact HK.out | apply Kept.alloc | apply Kept.drewN | apply Kept.drew | refine Kept.setCell ?_ (.inr GW745.out) _) | exact HK.out)) (fun k_ e_ => (HO_9.out.1 k_ e_).1)); have n5_ := aK (ho); clear HO_3; clear HO_11; clear BK745; clear HB; clear HK; clear HO_9; have HO_3 := n0_; have HO_11 := n1_; have BK745 := n2_; have HB := n3_; have HK := n4_; have HO761 := n5_; clear n0_ n1_ n2_ n3_ n4_ n5_; clear ho hb hg hat))
               (try simp only [← hl3_2])
               go_roundg k2
               case measure => have := HK1.out; have := HK2.out; omega
               case rel => exact ⟨(y757), (y759), (wrap64 (x12_2 + 1)), (by first | rfl | (simp; done) | (simp [*]; done)), H', ⟨by have := HK1.out; have := HK2.out; omega⟩, ⟨by (try simp only [hl3_1]); (try simp only [hl3_2]); (with_reducible repeat (first | apply Kd.R_alloc | apply Kd.R_drewN | apply Kd.R_drew)); exact HO_3.out⟩, ⟨by (try simp only [hl3_1]); (try simp only [hl3_2]); (with_reducible repeat (first | apply Kd.R_alloc | apply Kd.R_drewN | apply Kd.R_drew)); exact HO761.out⟩, ⟨by (try simp only [hl3_1]); (try simp only [hl3_2]); (with_reducible repeat (first | apply Kd.R_alloc | apply Kd.R_drewN | apply Kd.R_drew)); exact HO_11.out⟩, ⟨by (try simp only [hl3_1]); (try simp only [hl3_2]); (with_reducible repeat (first | refine blk_drewN ?_ _ | refine blk_drew ?_ | refine blk_alloc ?_ _)); exact BK745.out⟩, ⟨by repeat (first | (with_reducible first | exact HK.out | apply Kept.alloc | apply Kept.drewN | apply Kept.drew | refine Kept.setCell ?_ (.inr GW745.out) _) | exact HK.out)⟩, ⟨viaX HB.out GE745.out⟩⟩
              ·rw [if_neg c27] at H
               exact absurd H (by simp)
            ·rw [if_neg c22] at H
             exact absurd H (by simp)
           ·rw [if_neg c21] at H
            exact absurd H (by simp)
          ·rw [if_neg c20] at H
           exact absurd H (by simp)
         ·rw [if_neg c19] at H
          have c19b0 : decide (x12_2 < (t751.length : Int)) = false := decide_eq_false c19; clear c19; have H' := aK H; clear H; obtain ⟨Ao32, co32, eo32⟩ := Kd.R_slice HO_11.out; subst eo32
          go_wp2
          (try simp only [← hl3_1, ← hl3_2])
          go_roundg k2
          case measure => have := HK1.out; have := HK2.out; omega
          case rel => exact ⟨(x3_2), (x9_2), (wrap64 (x10_1 + 1)), (by first | rfl | (simp; done) | (simp [*]; done)), H', ⟨by have := HK1.out; have := HK2.out; omega⟩, ⟨by (try simp only [hl3_1]); (try simp only [hl3_2]); (with_reducible repeat (first | apply Kd.R_alloc | apply Kd.R_drewN | apply Kd.R_drew)); exact HO_3.out⟩, ⟨by (try simp only [hl3_1]); (try simp only [hl3_2]); (with_reducible repeat (first | apply Kd.R_alloc | apply Kd.R_drewN | apply Kd.R_drew)); exact Kd.R_mono HO_9.out (fun _ hk => hk.1)⟩, ⟨by (try simp only [hl3_1]); (try simp only [hl3_2]); (with_reducible repeat (first | refine blk_drewN ?_ _ | refine blk_drew ?_ | refine blk_alloc ?_ _)); exact BK745.out⟩, ⟨by repeat (first | (with_reducible first | exact HK.out | apply Kept.alloc | apply Kept.drewN | apply Kept.drew | refine Kept.setCell ?_ (.inr GW745.out) _) | exact HK.out)⟩, ⟨viaX HB.out GE745.out⟩⟩
      ·rw [if_neg c14] at H
       exact absurd H (by simp)
     ·rw [if_neg c13] at H
      have c13b0 : decide (x10_1 < (x9_1.length : Int)) = false := decide_eq_false c13; clear c13
      simp only [Option.some.injEq, Prod.mk.injEq] at H
      obtain ⟨rfl, rfl⟩ := H; obtain ⟨Ao33, co33, eo33⟩ := Kd.R_slice HO_9.out; subst eo33
      go_wp2
      go_ret
      exact ⟨by first | rfl | (simp [errW_none, errW_some] <;> rfl) | (simp [*, errW_none, errW_some] <;> rfl), (by first | exact (viaR HO_3.out) | (simp only [hl3_1]; exact (viaR HO_3.out))), viaX HB.out GE745.out, by repeat (first | (with_reducible first | exact HK.out | apply Kept.alloc | apply Kept.drewN | apply Kept.drew | refine Kept.setCell ?_ (.inr GW745.out) _) | exact HK.out)⟩
  ·rw [if_neg c6] at H
   exact absurd H (by simp)
 ·rw [if_neg c5] at H
  exact absurd H (by simp)
def impl_isKind.f (a0 : ByteArray) : Option (Bool) := if a0.toList = ([114] : List UInt8) then (some true) else (if a0.toList = ([99] : List UInt8) then (some true) else (some (a0.toList == ([98] : List UInt8))))
set_option maxHeartbeats 8000000 in
set_option maxRecDepth 100000 in
theorem impl_isKind.calls (a0 : ByteArray) (r : Bool) (w : World) (h : impl_isKind.f a0 = some r) :
  Calls Try.prog 74 #[.string a0] w fun e w' => e = .returned (.bool r) ∧ Drawn0 w w' := by
 have H : (if a0.toList = ([114] : List UInt8) then (some true) else (if a0.toList = ([99] : List UInt8) then (some true) else (some (a0.toList == ([98] : List UInt8))))) = some r := h; clear h
 by_cases c2 : a0.toList = ([114] : List UInt8)
 ·rw [if_pos c2] at H
  have c2b0 : (a0.toList == ([114] : List UInt8)) = true := beq_iff_eq.mpr c2; have c2b1 : (a0.toList != ([114] : List UInt8)) = false := bne_eq_false_iff_eq.mpr c2; clear c2; obtain rfl := Option.some.inj H
  go_enter Try.func74, Try.ntmps74
  go_wp2
  go_ret
  exact ⟨by first | rfl | (simp; done) | (simp [*]; done), by repeat (first | exact Drawn0.refl _ | apply Drawn0.step)⟩
 ·rw [if_neg c2] at H
  have c2b0 : (a0.toList == ([114] : List UInt8)) = false := beq_eq_false_iff_ne.mpr c2; have c2b1 : (a0.toList != ([114] : List UInt8)) = true := bne_iff_ne.mpr c2
  by_cases c3 : a0.toList = ([99] : List UInt8)
  ·rw [if_pos c3] at H
   have c3b0 : (a0.toList == ([99] : List UInt8)) = true := beq_iff_eq.mpr c3; have c3b1 : (a0.toList != ([99] : List UInt8)) = false := bne_eq_false_iff_eq.mpr c3; clear c3; obtain rfl := Option.some.inj H
   go_enter Try.func74, Try.ntmps74
   go_wp2
   go_ret
   exact ⟨by first | rfl | (simp; done) | (simp [*]; done), by repeat (first | exact Drawn0.refl _ | apply Drawn0.step)⟩
  ·rw [if_neg c3] at H
   have c3b0 : (a0.toList == ([99] : List UInt8)) = false := beq_eq_false_iff_ne.mpr c3; have c3b1 : (a0.toList != ([99] : List UInt8)) = true := bne_iff_ne.mpr c3; obtain rfl := Option.some.inj H
   go_enter Try.func74, Try.ntmps74
   go_wp2
   go_ret
   exact ⟨by first | rfl | (simp; done) | (simp [*]; done), by repeat (first | exact Drawn0.refl _ | apply Drawn0.step)⟩
end Go.Proofs.Ythoaebnnolbaaaa.G
