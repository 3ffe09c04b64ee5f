/- For each Go function named below: a plain Lean function of the same name, and the proof that a call of the Go function returns just what the plain function tells, where it tells something. Written by a program of this session with the printer of the kit. -/
import Derived.Test.YthoaebnnolbaaaaH0
import Derived.Test.YthoaebnnolbaaaaH1
import Derived.Test.YthoaebnnolbaaaaH4
import Derived.Test.YthoaebnnolbaaaaH13
import Derived.Test.YthoaebnnolbaaaaH14
import Derived.Test.YthoaebnnolbaaaaH17
import Derived.Test.YthoaebnnolbaaaaH18
import Derived.Test.YthoaebnnolbaaaaH30
import Derived.Test.YthoaebnnolbaaaaH32
import Derived.Test.YthoaebnnolbaaaaH33
namespace Go.Proofs.Ythoaebnnolbaaaa.G
open Go.RowKit Go.Proofs.YthoaebnnolbaaaaW.PrintWords Go.Proofs.YthoaebnnolbaaaaW.PrintLast Go.Proofs.YthoaebnnolbaaaaW.PrintMore
attribute [local go_sem] max2_int min2_int max_two min_two max_three min_three max_four min_four   -- for this text's walks alone
set_option linter.unusedVariables false
set_option linter.unusedSimpArgs false
/-! ### spec_l91One: function 67 -/
def spec_l91One.f (k : Nat) (l0 : List Int) : Option (Int × (List (S69)) × Int) := (spec_l6Open.f l0).bind fun bt632 => ((spec_l91Graph.f k bt632.1 bt632.2).bind fun bt635 => ((spec_l91Way.f k bt632.1 bt635.2.2 bt635.1 bt635.2.1).bind fun bt641 => (some (bt635.1, bt635.2.1, bt641.1))))
theorem spec_l91One.mono : ∀ a0 k, LeO (spec_l91One.f k a0) (spec_l91One.f (k + 1) a0) := by
 intro a0 k
 unfold spec_l91One.f
 repeat' first
   | (with_reducible exact spec_l91Graph.mono _ _ _)
   | (with_reducible exact spec_l91Way.mono _ _ _ _ _)
   | (with_reducible exact LeO.refl _)
   | (with_reducible exact LeO.none _)
   | (with_reducible refine LeO.ite ?_ ?_)
   | (with_reducible refine LeO.bind ?_ (fun _ => ?_))
   | exact spec_l91Graph.mono _ _ _
   | exact spec_l91Way.mono _ _ _ _ _
   | exact LeO.none _
   | refine LeO.ite ?_ ?_
   | refine LeO.bind ?_ (fun _ => ?_)
set_option maxHeartbeats 8000000 in
set_option maxRecDepth 100000 in
theorem spec_l91One.calls (k : Nat) (A0 : Option Addr) (c0 : Nat) (l0 : List Int) (r1 : Int) (r2 : List (S69)) (r3 : Int) (w : World) (hr0 : Kd.C (Kd.int .u8) w A0 l0.length l0) (hc0 : l0.length ≤ c0) (h : spec_l91One.f k l0 = some (r1, r2, r3)) :
  Calls Try.prog 67 #[.slice A0 l0.length c0] w fun e w' => ∃ v1_ : Value, e = .returned (.tuple #[.agg #[.int .i64 r1, v1_], .int .i64 r3]) ∧ Kd.R k69 69 w' w.heap.size (fun _ => True) v1_ r2 ∧ Below w.heap.size w w' := by
 have hu25 := Try.underlying25; have HR0 := Aside0.mk hr0; have HC0 := Aside0.mk hc0; clear hr0 hc0; have HB := Aside0.mk (Below.refl w.heap.size w); have H : ((spec_l6Open.f l0).bind fun bt632 => ((spec_l91Graph.f k bt632.1 bt632.2).bind fun bt635 => ((spec_l91Way.f k bt632.1 bt635.2.2 bt635.1 bt635.2.1).bind fun bt641 => (some (bt635.1, bt635.2.1, bt641.1))))) = some (r1, r2, r3) := h; clear h; replace H := Option.bind_eq_some_iff.mp H; obtain ⟨⟨t632, t633⟩, A20, H⟩ := H; replace H : ((spec_l91Graph.f k t632 t633).bind fun bt635 => ((spec_l91Way.f k t632 bt635.2.2 bt635.1 bt635.2.1).bind fun bt641 => (some (bt635.1, bt635.2.1, bt641.1)))) = some (r1, r2, r3) := H; have A2 := Aside0.mk A20; clear A20; replace H := Option.bind_eq_some_iff.mp H; obtain ⟨⟨t635, t636, t639⟩, A30, H⟩ := H; replace H : ((spec_l91Way.f k t632 t639 t635 t636).bind fun bt641 => (some (t635, t636, bt641.1))) = some (r1, r2, r3) := H; have A3 := Aside0.mk A30; clear A30; replace H := Option.bind_eq_some_iff.mp H; obtain ⟨⟨t641, t642⟩, A40, H⟩ := H; replace H : (some (t635, t636, t641)) = some (r1, r2, r3) := H; have A4 := Aside0.mk A40; clear A40
 simp only [Option.some.injEq, Prod.mk.injEq] at H
 obtain ⟨rfl, rfl, rfl⟩ := H
 go_enter Try.func67, Try.ntmps67
 try go_wp2_with (first | ((with_reducible refine gate_dst (N := 2) rfl ?_); refine box_event ?hg (N := 2) ?hd (cs := #[.int .i64 0, .slice none 0 0]) (t := 25) ?hr ?_; (case hd => rfl); (case hg => rfl); (case hr => first | (go_simp; done) | (go_simp; rfl)); intro gb631 hg w5 hbox hb; have n0_ := Aside0.mk (below_step (viaW HB.out) hb); have n1_ := Aside0.mk (hbox); have n2_ := Aside0.mk ((by rw [hg]; exact (below_size (viaW HB.out)) : w.heap.size ≤ gb631)); have n3_ := Aside0.mk ((by rw [hg]; exact (below_size (viaW HB.out)) : w.heap.size ≤ gb631)); clear HB; have HB := n0_; have BK631 := n1_; have GW631 := n2_; have GE631 := n3_; clear n0_ n1_ n2_ n3_; clear hb hbox hg) | ((with_reducible refine gate_callee (f := 81) rfl ?_); refine goesL_ (some 7) rfl rfl Try.func81 (by kernel_rfl) rfl #[.slice A0 l0.length c0] rfl (by (try simp only [List.map_toArray, List.map_cons, List.map_nil]); first | done | rfl) ?_; (with_reducible refine (spec_l6Open.calls _ _ l0 t632 t633 w _ ?side1 ?side2 ?side3 A2.out).mono ?_); (case side1 => repeat (first | (with_reducible first | exact HB.out | apply below_alloc | apply pw_below_drewN | apply below_drew1 | refine below_set ?_ GE631.out) | exact HB.out)); (case side2 => exact HR0.out); (case side3 => exact HC0.out); rintro e w6 ⟨g634, rfl, hi, hb, hb2⟩; refine ⟨_, rfl, ?_⟩; have n0_ := Aside0.mk (blk_below (g := gb631) (o := .cells #[.int .i64 0, .slice none 0 0] 25 (0, 0)) (viaB BK631.out) hb2); have n1_ := Aside0.mk (hb); have n2_ := Aside0.mk (hi); have n3_ := Aside0.mk (IsS99.ne_blk hi (blk_below (g := gb631) (o := .cells #[.int .i64 0, .slice none 0 0] 25 (0, 0)) (viaB BK631.out) hb2) (by decide)); have n4_ := Aside0.mk (Ne.symm (IsS99.ne_blk hi (blk_below (g := gb631) (o := .cells #[.int .i64 0, .slice none 0 0] 25 (0, 0)) (viaB BK631.out) hb2) (by decide))); clear BK631; clear HB; have BK631 := n0_; have HB := n1_; have HI634 := n2_; have NB634_631 := n3_; have NB631_634 := n4_; clear n0_ n1_ n2_ n3_ n4_; (try clear hb); (try clear hb2); (try clear hk); (try clear hi)) | ((with_reducible refine gate_callee (f := 93) rfl ?_); refine goesL_ (some 9) rfl rfl Try.func93 (by kernel_rfl) rfl #[.pointer (some ⟨g634, 0, none⟩)] rfl (by (try simp only [List.map_toArray, List.map_cons, List.map_nil]); first | done | rfl) ?_; (with_reducible refine (spec_l91Graph.calls k g634 t632 t633 t635 t636 t639 w _ ?side1 ?side2 A3.out).mono ?_); (case side1 => exact viaI1 HI634.out NB634_631.out); (case side2 => repeat (first | (with_reducible first | exact HB.out | apply below_alloc | apply pw_below_drewN | apply below_drew1 | refine below_set ?_ (IsS99.ge HI634.out) | refine below_set ?_ GE631.out) | exact HB.out)); rintro e w7 ⟨v637, rfl, ho0, hi, hb, hk⟩; refine ⟨_, rfl, ?_⟩; have n0_ := Aside0.mk (KeepBut.blk hk (g' := gb631) (o := .cells #[.int .i64 0, .slice none 0 0] 25 (0, 0)) (viaB BK631.out) NB631_634.out (by simp)); have n1_ := Aside0.mk (Kd.R_lower ho0 (below_size (viaX2 HB.out (IsS99.ge HI634.out) GE631.out))); have n2_ := Aside0.mk (hb); have n3_ := Aside0.mk (hi); clear BK631; clear HB; clear HI634; have BK631 := n0_; have HO638 := n1_; have HB := n2_; have HI634 := n3_; clear n0_ n1_ n2_ n3_; (try clear hb); (try clear hb2); (try clear hk); (try clear hi); (try clear ho0)) | ((with_reducible refine gate_dst (N := 5) rfl ?_); refine box_event ?hg (N := 5) ?hd (cs := #[.int .i64 0, .slice none 0 0]) (t := 25) ?hr ?_; (case hd => rfl); (case hg => rfl); (case hr => first | (go_simp; done) | (go_simp; rfl)); intro gb640 hg w8 hbox hb; have n0_ := Aside0.mk (Kd.R_below (viaR HO638.out) hb); have n1_ := Aside0.mk (blk_below (g := gb631) (o := .cells #[.int .i64 0, .slice none 0 0] 25 (0, 0)) (viaB BK631.out) hb); have n2_ := Aside0.mk (IsS99.below (by exact viaI1 HI634.out NB634_631.out) hb); have n3_ := Aside0.mk (below_step (viaX2 HB.out (IsS99.ge HI634.out) GE631.out) hb); have n4_ := Aside0.mk (hbox); have n5_ := Aside0.mk ((by rw [hg]; exact (below_size (viaX2 HB.out (IsS99.ge HI634.out) GE631.out)) : w.heap.size ≤ gb640)); have n6_ := Aside0.mk ((by rw [hg]; exact (below_size (viaX2 HB.out (IsS99.ge HI634.out) GE631.out)) : w.heap.size ≤ gb640)); have n7_ := Aside0.mk ((by rw [hg]; exact Nat.ne_of_lt (blk_lt (g := gb631) (o := .cells #[.int .i64 0, .slice none 0 0] 25 (0, 0)) (viaB BK631.out)) : gb631 ≠ gb640)); have n8_ := Aside0.mk ((by rw [hg]; exact Nat.ne_of_gt (blk_lt (g := gb631) (o := .cells #[.int .i64 0, .slice none 0 0] 25 (0, 0)) (viaB BK631.out)) : gb640 ≠ gb631)); have n9_ := Aside0.mk ((by rw [hg]; exact Nat.ne_of_lt (IsS99.lt (show IsS99 w _ g634 t632 t639 from by exact viaI1 HI634.out NB634_631.out)) : g634 ≠ gb640)); have n10_ := Aside0.mk ((by rw [hg]; exact Nat.ne_of_gt (IsS99.lt (show IsS99 w _ g634 t632 t639 from by exact viaI1 HI634.out NB634_631.out)) : gb640 ≠ g634)); clear HO638; clear BK631; clear HI634; clear HB; have HO638 := n0_; have BK631 := n1_; have HI634 := n2_; have HB := n3_; have BK640 := n4_; have GW640 := n5_; have GE640 := n6_; have NB631_640 := n7_; have NB640_631 := n8_; have NB634_640 := n9_; have NB640_634 := n10_; clear n0_ n1_ n2_ n3_ n4_ n5_ n6_ n7_ n8_ n9_ n10_; clear hb hbox hg; have hnb9 := NB640_631.out; have hnc9 := NB631_640.out; have hnb10 := NB640_634.out; have hnc10 := NB634_640.out; have hcz11_0 : w8.cell? ⟨gb640, 0, none⟩ = some (.int .i64 0) := (blk_cell BK640.out 0).trans rfl; have hcz11_1 : w8.cell? ⟨gb640, 1, none⟩ = some (.slice none 0 0) := (blk_cell BK640.out 1).trans rfl; have hfz11_0 := blk_frozen BK640.out 0; have hfz11_1 := blk_frozen BK640.out 1; obtain ⟨Ao12, co12, eo12⟩ := Kd.R_slice HO638.out; subst eo12))
 have n0_ : Aside0 (Kd.R k69 69 ((w8.setCell ⟨gb640, 0, none⟩ (.int .i64 t635)).setCell ⟨gb640, 1, none⟩ (.slice Ao12 t636.length co12)) w.heap.size (fun _ => True) (.slice Ao12 t636.length co12) t636) := ⟨by (with_reducible repeat (first | apply Kd.R_alloc | apply Kd.R_drewN | apply Kd.R_drew)); exact Kd.R_mono (Kd.R_far (p := ⟨gb640, 1, none⟩) (Kd.R_far (p := ⟨gb640, 0, none⟩) (Kd.R_types HO638.out BK640.out (by decide)) (fun _ hk => hk.2) (.int .i64 t635)) (fun _ hk => hk.2) (.slice Ao12 t636.length co12)) (fun _ hk => trivial)⟩; have n1_ : Aside0 (((w8.setCell ⟨gb640, 0, none⟩ (.int .i64 t635)).setCell ⟨gb640, 1, none⟩ (.slice Ao12 t636.length co12)).heap[gb631]? = some (.cells #[.int .i64 0, .slice none 0 0] 25 (0, 0))) := ⟨by (with_reducible repeat (first | refine blk_drewN ?_ _ | refine blk_drew ?_ | refine blk_alloc ?_ _)); refine blk_far ?_ NB631_640.out _; (with_reducible repeat (first | refine blk_drewN ?_ _ | refine blk_drew ?_ | refine blk_alloc ?_ _)); refine blk_far ?_ NB631_640.out _; (with_reducible repeat (first | refine blk_drewN ?_ _ | refine blk_drew ?_ | refine blk_alloc ?_ _)); exact BK631.out⟩; have n2_ : Aside0 (((w8.setCell ⟨gb640, 0, none⟩ (.int .i64 t635)).setCell ⟨gb640, 1, none⟩ (.slice Ao12 t636.length co12)).heap[gb640]? = some (.cells #[.int .i64 t635, .slice Ao12 t636.length co12] 25 (0, 0))) := ⟨by (with_reducible repeat (first | refine blk_drewN ?_ _ | refine blk_drew ?_ | refine blk_alloc ?_ _)); refine blk_put (cs := #[.int .i64 t635, .slice none 0 0]) ?_ 1 _ rfl; (with_reducible repeat (first | refine blk_drewN ?_ _ | refine blk_drew ?_ | refine blk_alloc ?_ _)); refine blk_put (cs := #[.int .i64 0, .slice none 0 0]) ?_ 0 _ rfl; (with_reducible repeat (first | refine blk_drewN ?_ _ | refine blk_drew ?_ | refine blk_alloc ?_ _)); exact BK640.out⟩; have n3_ : Aside0 (IsS99 w ((w8.setCell ⟨gb640, 0, none⟩ (.int .i64 t635)).setCell ⟨gb640, 1, none⟩ (.slice Ao12 t636.length co12)) g634 t632 t639) := ⟨by exact viaI2 HI634.out NB634_631.out NB634_640.out⟩; have n4_ : Aside0 (Below w.heap.size w ((w8.setCell ⟨gb640, 0, none⟩ (.int .i64 t635)).setCell ⟨gb640, 1, none⟩ (.slice Ao12 t636.length co12))) := ⟨viaX3 HB.out (IsS99.ge HI634.out) GE631.out GE640.out⟩
 (try clear HO638)
 (try clear BK631)
 (try clear BK640)
 (try clear HI634)
 (try clear HB)
 generalize ((w8.setCell ⟨gb640, 0, none⟩ (.int .i64 t635)).setCell ⟨gb640, 1, none⟩ (.slice Ao12 t636.length co12)) = w13 at n0_ n1_ n2_ n3_ n4_ ⊢
 have HO638 := n0_; have BK631 := n1_; have BK640 := n2_; have HI634 := n3_; have HB := n4_; clear n0_ n1_ n2_ n3_ n4_; have n0_ := Aside0.mk (Kd.R_drew HO638.out); have n1_ := Aside0.mk (blk_drew BK631.out); have n2_ := Aside0.mk (blk_drew BK640.out); have n3_ := Aside0.mk (IsS99.drew HI634.out); have n4_ := Aside0.mk (below_drew1 HB.out); clear HO638; clear BK631; clear BK640; clear HI634; clear HB; have HO638 := n0_; have BK631 := n1_; have BK640 := n2_; have HI634 := n3_; have HB := n4_; clear n0_ n1_ n2_ n3_ n4_
 refine start_ (n := 6) (S := fun w' => w'.cell? ⟨gb640, 0, none⟩ = some (.int .i64 t635) ∧ w'.cell? ⟨gb640, 1, none⟩ = some (.slice Ao12 t636.length co12)) (ds := []) #[false, false, false, false, false, false] (by kernel_rfl) rfl rfl ⟨(blk_cell BK640.out 0).trans rfl, (blk_cell BK640.out 1).trans rfl⟩ (fun hHeld => ?_)
 generalize w13.drew = w14 at HO638 BK631 BK640 HI634 HB hHeld ⊢
 refine pure_ (i := 1) (N := some 11) (v := ?_) (a' := ?_) #[false, true, false, false, false, false] rfl rfl (by kernel_rfl) (fun _ _ _ h => h) (Or.inl ⟨by rfl, ?_⟩) ?_ ?_
 rotate_left
 ·intro w'
  go_simp
  with_reducible rfl
 rotate_left
 ·simp only [Act.put, List.setIfInBounds_toArray, List.set_cons_zero, List.set_cons_succ, i64_w, i32_w]
  rfl
 refine take_ (i := 0) (N := some 10) (v := ?_) (a' := ?_) #[true, true, false, false, false, false] rfl rfl (by kernel_rfl) (fun _ _ _ h => h) (Or.inl ⟨by rfl, ?_⟩) hHeld ?_ ?_
 rotate_left
 ·rintro w' ⟨s0, s1⟩
  go_simp
  with_reducible rfl
 rotate_left
 ·simp only [Act.put, List.setIfInBounds_toArray, List.set_cons_zero, List.set_cons_succ, i64_w, i32_w]
  rfl
 refine take_ (i := 2) (N := some 12) (v := ?_) (a' := ?_) #[true, true, true, false, false, false] rfl rfl (by kernel_rfl) (fun _ _ _ h => h) (Or.inl ⟨by rfl, ?_⟩) hHeld ?_ ?_
 rotate_left
 ·rintro w' ⟨s0, s1⟩
  go_simp
  with_reducible rfl
 rotate_left
 ·simp only [Act.put, List.setIfInBounds_toArray, List.set_cons_zero, List.set_cons_succ, i64_w, i32_w]
  rfl
 refine one_ (i := 3) (N := some 13) #[true, true, true, true, false, false] rfl rfl (by kernel_rfl) (by decide) (fun K hK => ?_)
 refine goes_ Try.func84 (by kernel_rfl) rfl #[.pointer (some ⟨g634, 0, none⟩), .agg #[.int .i64 t635, .slice Ao12 t636.length co12]] (by rfl) rfl rfl (by (try simp only [List.map_toArray, List.map_cons, List.map_nil]); first | done | rfl) ?_
 with_reducible refine (spec_l91Way.calls k g634 t632 t639 t635 _ _ t636 t641 t642 w _ ?side1 ?side2 ?side3 ?side4 A4.out).mono ?_
 (case side1 => exact viaI2 HI634.out NB634_631.out NB634_640.out)
 (case side2 => repeat (first | (with_reducible first | exact HB.out | apply below_alloc | apply pw_below_drewN | apply below_drew1 | refine below_set ?_ (IsS99.ge HI634.out) | refine below_set ?_ GE631.out | refine below_set ?_ GE640.out) | exact HB.out))
 (case side3 => exact Kd.C_foot_own (IsS99.apart (show IsS99 w _ g634 t632 t639 from by exact viaI2 HI634.out NB634_631.out NB634_640.out) (viaR HO638.out) (by decide)) (fun _ h_ => h_.2))
 (case side4 => exact (Kd.R_reads' HO638.out).2.1)
 rintro e w15 ⟨rfl, hi, hb, hk⟩
 refine ⟨_, rfl, ?_⟩
 have n0_ := Aside0.mk (KeepBut.blk hk (g' := gb631) (o := .cells #[.int .i64 0, .slice none 0 0] 25 (0, 0)) (viaB BK631.out) NB631_634.out (by simp)); have n1_ := Aside0.mk (Kd.R_mono (Kd.R_keep (IsS99.apart (show IsS99 w _ g634 t632 t639 from by exact viaI2 HI634.out NB634_631.out NB634_640.out) (viaR HO638.out) (by decide)) hk (fun _ h => h.2)) (fun _ h => h.1)); have n2_ := Aside0.mk (KeepBut.blk hk (g' := gb640) (o := .cells #[.int .i64 t635, .slice Ao12 t636.length co12] 25 (0, 0)) (viaB BK640.out) NB640_634.out (by simp)); have n3_ := Aside0.mk (hb); have n4_ := Aside0.mk (hi); clear BK631; clear HO638; clear BK640; clear HB; clear HI634; have BK631 := n0_; have HO638 := n1_; have BK640 := n2_; have HB := n3_; have HI634 := n4_; clear n0_ n1_ n2_ n3_ n4_
 (try clear hb)
 (try clear hb2)
 (try clear hk)
 (try clear hi)
 refine hK.out _ _ ⟨(blk_cell BK640.out 0).trans rfl, (blk_cell BK640.out 1).trans rfl⟩ (fun hHeld => ?_)
 clear hK K
 refine norm_ (a' := ?_) ?_ ?_
 rotate_left
 ·show Act.put _ (some 13) _ = _
  simp only [Act.put, List.setIfInBounds_toArray, List.set_cons_zero, List.set_cons_succ, i64_w, i32_w]
  rfl
 refine one_ (i := 4) (N := none) #[true, true, true, true, true, false] rfl rfl (by kernel_rfl) (by decide) (fun K hK => ?_)
 have hs16 : w15.cell? ⟨gb631, 0, none⟩ = some (.int .i64 0) := (blk_cell BK631.out 0).trans rfl; have hfs16 := blk_frozen BK631.out 0; have hns16_1 := NB640_631.out; have hms16_1 := NB631_640.out; have hs17 : w15.cell? ⟨gb631, 1, none⟩ = some (.slice none 0 0) := (blk_cell BK631.out 1).trans rfl; have hfs17 := blk_frozen BK631.out 1; have hns17_1 := NB640_631.out; have hms17_1 := NB631_640.out
 refine skip_ (w1 := ?_) (by rfl) rfl ?_ ?_
 rotate_left
 ·go_simp
  rfl
 refine hK.out _ _ ⟨((cell_far (p := ⟨gb631, _, none⟩) NB640_631.out _).trans (((cell_far (p := ⟨gb631, _, none⟩) NB640_631.out _).trans (hHeld.1)))), ((cell_far (p := ⟨gb631, _, none⟩) NB640_631.out _).trans (((cell_far (p := ⟨gb631, _, none⟩) NB640_631.out _).trans (hHeld.2))))⟩ (fun hHeld => ?_)
 clear hK K
 refine pure_ (i := 5) (N := some 3) (v := ?_) (a' := ?_) #[true, true, true, true, true, true] rfl rfl (by kernel_rfl) (fun _ _ _ h => h) (Or.inl ⟨by rfl, ?_⟩) ?_ ?_
 rotate_left
 ·intro w'
  go_simp
  with_reducible rfl
 rotate_left
 ·simp only [Act.put, List.setIfInBounds_toArray, List.set_cons_zero, List.set_cons_succ, i64_w, i32_w]
  rfl
 refine done_ (by kernel_rfl) ?_
 try go_wp2
 refine bodyPost_ret (results_ct rfl _ _ gb631 25 #[.int .i64 t635, .slice Ao12 t636.length co12] (0, 0) _ rfl (by (with_reducible repeat (first | refine blk_drewN ?_ _ | refine blk_drew ?_ | refine blk_alloc ?_ _)); refine blk_put (cs := #[.int .i64 t635, .slice none 0 0]) ?_ 1 _ rfl; (with_reducible repeat (first | refine blk_drewN ?_ _ | refine blk_drew ?_ | refine blk_alloc ?_ _)); refine blk_put (cs := #[.int .i64 0, .slice none 0 0]) ?_ 0 _ rfl; (with_reducible repeat (first | refine blk_drewN ?_ _ | refine blk_drew ?_ | refine blk_alloc ?_ _)); exact BK631.out) Try.underlying25 rfl (by kernel_rfl)) rfl ?_
 exact ⟨_, by first | rfl | (simp [errW_none, errW_some] <;> rfl) | (simp [*, errW_none, errW_some] <;> rfl), by (with_reducible repeat (first | apply Kd.R_alloc | apply Kd.R_drewN | apply Kd.R_drew)); exact Kd.R_mono (Kd.R_far (p := ⟨gb631, 1, none⟩) (Kd.R_far (p := ⟨gb631, 0, none⟩) (Kd.R_types HO638.out BK631.out (by decide)) (fun _ hk => hk.2) (.int .i64 t635)) (fun _ hk => hk.2) (.slice Ao12 t636.length co12)) (fun _ hk => trivial), viaX3 HB.out (IsS99.ge HI634.out) GE631.out GE640.out⟩
/-! ### spec_DrawFlipRounds: function 28 -/
def spec_DrawFlipRounds.f (k : Nat) (l0 : List Int) : Option (Int × (List (S69)) × Int) := (spec_l91One.f k l0).bind fun bt644 => (some (bt644.1, bt644.2.1, bt644.2.2))
theorem spec_DrawFlipRounds.mono : ∀ a0 k, LeO (spec_DrawFlipRounds.f k a0) (spec_DrawFlipRounds.f (k + 1) a0) := by
 intro a0 k
 unfold spec_DrawFlipRounds.f
 repeat' first
   | (with_reducible exact spec_l91One.mono _ _)
   | (with_reducible exact LeO.refl _)
   | (with_reducible exact LeO.none _)
   | (with_reducible refine LeO.ite ?_ ?_)
   | (with_reducible refine LeO.bind ?_ (fun _ => ?_))
   | exact spec_l91One.mono _ _
   | exact LeO.none _
   | refine LeO.ite ?_ ?_
   | refine LeO.bind ?_ (fun _ => ?_)
set_option maxHeartbeats 8000000 in
set_option maxRecDepth 100000 in
theorem spec_DrawFlipRounds.calls (k : Nat) (A0 : Option Addr) (c0 : Nat) (l0 : List Int) (r1 : Int) (r2 : List (S69)) (r3 : Int) (w : World) (hr0 : Kd.C (Kd.int .u8) w A0 l0.length l0) (hc0 : l0.length ≤ c0) (h : spec_DrawFlipRounds.f k l0 = some (r1, r2, r3)) :
  Calls Try.prog 28 #[.slice A0 l0.length c0] w fun e w' => ∃ v1_ : Value, e = .returned (.tuple #[.agg #[.int .i64 r1, v1_], .int .i64 r3]) ∧ Kd.R k69 69 w' w.heap.size (fun _ => True) v1_ r2 ∧ Below w.heap.size w w' := by
 have hu25 := Try.underlying25; have HR0 := Aside0.mk hr0; have HC0 := Aside0.mk hc0; clear hr0 hc0; have HB := Aside0.mk (Below.refl w.heap.size w); have H : ((spec_l91One.f k l0).bind fun bt644 => (some (bt644.1, bt644.2.1, bt644.2.2))) = some (r1, r2, r3) := h; clear h; replace H := Option.bind_eq_some_iff.mp H; obtain ⟨⟨t644, t645, t648⟩, A20, H⟩ := H; replace H : (some (t644, t645, t648)) = some (r1, r2, r3) := H; have A2 := Aside0.mk A20; clear A20
 simp only [Option.some.injEq, Prod.mk.injEq] at H
 obtain ⟨rfl, rfl, rfl⟩ := H
 go_enter Try.func28, Try.ntmps28
 go_wp2_with (first | ((with_reducible refine gate_dst (N := 2) rfl ?_); refine box_event ?hg (N := 2) ?hd (cs := #[.int .i64 0, .slice none 0 0]) (t := 25) ?hr ?_; (case hd => rfl); (case hg => rfl); (case hr => first | (go_simp; done) | (go_simp; rfl)); intro gb643 hg w3 hbox hb; have n0_ := Aside0.mk (below_step (viaW HB.out) hb); have n1_ := Aside0.mk (hbox); have n2_ := Aside0.mk ((by rw [hg]; exact (below_size (viaW HB.out)) : w.heap.size ≤ gb643)); have n3_ := Aside0.mk ((by rw [hg]; exact (below_size (viaW HB.out)) : w.heap.size ≤ gb643)); clear HB; have HB := n0_; have BK643 := n1_; have GW643 := n2_; have GE643 := n3_; clear n0_ n1_ n2_ n3_; clear hb hbox hg) | ((with_reducible refine gate_callee (f := 67) rfl ?_); refine goesL_ (some 5) rfl rfl Try.func67 (by kernel_rfl) rfl #[.slice A0 l0.length c0] rfl (by (try simp only [List.map_toArray, List.map_cons, List.map_nil]); first | done | rfl) ?_; (with_reducible refine (spec_l91One.calls k _ _ l0 t644 t645 t648 _ ?side1 ?side2 A2.out).mono ?_); (case side1 => exact viaC (Kd.C_below HR0.out HB.out)); (case side2 => exact HC0.out); rintro e w4 ⟨v646, rfl, ho0, hb⟩; refine ⟨_, rfl, ?_⟩; have n0_ := Aside0.mk (Kd.R_lower ho0 (below_size (viaX HB.out GE643.out))); have n1_ := Aside0.mk (blk_below (g := gb643) (o := .cells #[.int .i64 0, .slice none 0 0] 25 (0, 0)) (viaB BK643.out) hb); have n2_ := Aside0.mk (below_step (viaX HB.out GE643.out) hb); clear BK643; clear HB; have HO647 := n0_; have BK643 := n1_; have HB := n2_; clear n0_ n1_ n2_; (try clear hb); (try clear hb2); (try clear hk); (try clear hi); (try clear ho0); have hcz5_0 : w4.cell? ⟨gb643, 0, none⟩ = some (.int .i64 0) := (blk_cell BK643.out 0).trans rfl; have hcz5_1 : w4.cell? ⟨gb643, 1, none⟩ = some (.slice none 0 0) := (blk_cell BK643.out 1).trans rfl; have hfz5_0 := blk_frozen BK643.out 0; have hfz5_1 := blk_frozen BK643.out 1; obtain ⟨Ao6, co6, eo6⟩ := Kd.R_slice HO647.out; subst eo6))
 refine bodyPost_ret (results_ct rfl _ _ gb643 25 #[.int .i64 t644, .slice Ao6 t645.length co6] (0, 0) _ rfl (by (with_reducible repeat (first | refine blk_drewN ?_ _ | refine blk_drew ?_ | refine blk_alloc ?_ _)); refine blk_put (cs := #[.int .i64 t644, .slice none 0 0]) ?_ 1 _ rfl; (with_reducible repeat (first | refine blk_drewN ?_ _ | refine blk_drew ?_ | refine blk_alloc ?_ _)); refine blk_put (cs := #[.int .i64 0, .slice none 0 0]) ?_ 0 _ rfl; (with_reducible repeat (first | refine blk_drewN ?_ _ | refine blk_drew ?_ | refine blk_alloc ?_ _)); exact BK643.out) Try.underlying25 rfl (by kernel_rfl)) rfl ?_
 exact ⟨_, by first | rfl | (simp [errW_none, errW_some] <;> rfl) | (simp [*, errW_none, errW_some] <;> rfl), by (with_reducible repeat (first | apply Kd.R_alloc | apply Kd.R_drewN | apply Kd.R_drew)); exact Kd.R_mono (Kd.R_far (p := ⟨gb643, 1, none⟩) (Kd.R_far (p := ⟨gb643, 0, none⟩) (Kd.R_types HO647.out BK643.out (by decide)) (fun _ hk => hk.2) (.int .i64 t644)) (fun _ hk => hk.2) (.slice Ao6 t645.length co6)) (fun _ hk => trivial), viaX HB.out GE643.out⟩
/-! ### spec_FlipRounds: function 29 -/
def spec_FlipRounds.f (k : Nat) (a0_0 : Int) (l0_1 : List (S69)) (a1 : Int) : Option (List Int × Bool) := (spec_WayIn.f k a0_0 l0_1 a1).bind fun t669 => (if t669 = true then ((spec_l5Rounds.f k a0_0 l0_1 a1).bind fun t670 => (some (t670, true))) else (some ((([] : List Int)), false)))
theorem spec_FlipRounds.mono : ∀ a0 a1 a2 k, LeO (spec_FlipRounds.f k a0 a1 a2) (spec_FlipRounds.f (k + 1) a0 a1 a2) := by
 intro a0 a1 a2 k
 unfold spec_FlipRounds.f
 repeat' first
   | (with_reducible exact spec_WayIn.mono _ _ _ _)
   | (with_reducible exact spec_l5Rounds.mono _ _ _ _)
   | (with_reducible exact LeO.refl _)
   | (with_reducible exact LeO.none _)
   | (with_reducible refine LeO.ite ?_ ?_)
   | (with_reducible refine LeO.bind ?_ (fun _ => ?_))
   | exact spec_WayIn.mono _ _ _ _
   | exact spec_l5Rounds.mono _ _ _ _
   | exact LeO.none _
   | refine LeO.ite ?_ ?_
   | refine LeO.bind ?_ (fun _ => ?_)
set_option maxHeartbeats 8000000 in
set_option maxRecDepth 100000 in
theorem spec_FlipRounds.calls (k : Nat) (a0_0 : Int) (A0_1 : Option Addr) (c0_1 : Nat) (l0_1 : List (S69)) (a1 : Int) (r1 : List Int) (r2 : Bool) (w : World) (hr0_1 : Kd.C k69 w A0_1 l0_1.length l0_1) (hc0_1 : l0_1.length ≤ c0_1) (h : spec_FlipRounds.f k a0_0 l0_1 a1 = some (r1, r2)) :
  Calls Try.prog 29 #[.agg #[.int .i64 a0_0, .slice A0_1 l0_1.length c0_1], .int .i64 a1] w fun e w' => ∃ v0_ : Value, e = .returned (.tuple #[v0_, .bool r2]) ∧ Kd.R (Kd.int .i64) 3 w' w.heap.size (fun _ => True) v0_ r1 ∧ Below w.heap.size w w' := by
 have hu25 := Try.underlying25; have HR0_1 := Aside0.mk hr0_1; have HC0_1 := Aside0.mk hc0_1; clear hr0_1 hc0_1; have HB := Aside0.mk (Below.refl w.heap.size w); have H : ((spec_WayIn.f k a0_0 l0_1 a1).bind fun t669 => (if t669 = true then ((spec_l5Rounds.f k a0_0 l0_1 a1).bind fun t670 => (some (t670, true))) else (some ((([] : List Int)), false)))) = some (r1, r2) := h; clear h; replace H := Option.bind_eq_some_iff.mp H; obtain ⟨t669, A30, H⟩ := H; replace H : (if t669 = true then ((spec_l5Rounds.f k a0_0 l0_1 a1).bind fun t670 => (some (t670, true))) else (some ((([] : List Int)), false))) = some (r1, r2) := H; have A3 := Aside0.mk A30; clear A30
 by_cases c4 : t669 = true
 ·subst c4
  have H1 : ((spec_l5Rounds.f k a0_0 l0_1 a1).bind fun t670 => (some (t670, true))) = some (r1, r2) := by rw [if_pos rfl] at H; exact H
  clear H; have H := H1; clear H1; replace H := Option.bind_eq_some_iff.mp H; obtain ⟨t670, A50, H⟩ := H; replace H : (some (t670, true)) = some (r1, r2) := H; have A5 := Aside0.mk A50; clear A50
  simp only [Option.some.injEq, Prod.mk.injEq] at H
  obtain ⟨rfl, rfl⟩ := H
  go_enter Try.func29, Try.ntmps29
  go_wp2_with (first | ((with_reducible refine gate_dst (N := 2) rfl ?_); refine box_event ?hg (N := 2) ?hd (cs := #[.int .i64 a0_0, .slice A0_1 l0_1.length c0_1]) (t := 25) ?hr ?_; (case hd => rfl); (case hg => rfl); (case hr => first | (go_simp; done) | (go_simp; rfl)); intro gb668 hg w6 hbox hb; have n0_ := Aside0.mk (below_step (viaW HB.out) hb); have n1_ := Aside0.mk (hbox); have n2_ := Aside0.mk ((by rw [hg]; exact (below_size (viaW HB.out)) : w.heap.size ≤ gb668)); have n3_ := Aside0.mk ((by rw [hg]; exact (below_size (viaW HB.out)) : w.heap.size ≤ gb668)); clear HB; have HB := n0_; have BK668 := n1_; have GW668 := n2_; have GE668 := n3_; clear n0_ n1_ n2_ n3_; clear hb hbox hg; have hcz7_0 : w6.cell? ⟨gb668, 0, none⟩ = some (.int .i64 a0_0) := (blk_cell BK668.out 0).trans rfl; have hcz7_1 : w6.cell? ⟨gb668, 1, none⟩ = some (.slice A0_1 l0_1.length c0_1) := (blk_cell BK668.out 1).trans rfl; have hfz7_0 := blk_frozen BK668.out 0; have hfz7_1 := blk_frozen BK668.out 1) | ((with_reducible refine gate_callee (f := 63) rfl ?_); refine goesL_ (some 8) rfl rfl Try.func63 (by kernel_rfl) rfl #[.agg #[.int .i64 a0_0, .slice A0_1 l0_1.length c0_1], .int .i64 a1] rfl (by (try simp only [List.map_toArray, List.map_cons, List.map_nil]); first | done | rfl) ?_; (with_reducible refine (spec_WayIn.calls k a0_0 _ _ l0_1 a1 true _ ?side1 ?side2 A3.out).mono ?_); (case side1 => exact viaC (Kd.C_below HR0_1.out HB.out)); (case side2 => exact HC0_1.out); rintro e w8 ⟨rfl, hb⟩; refine ⟨_, rfl, ?_⟩; have n0_ := Aside0.mk (blk_below (g := gb668) (o := .cells #[.int .i64 a0_0, .slice A0_1 l0_1.length c0_1] 25 (0, 0)) (viaB BK668.out) hb); have n1_ := Aside0.mk (below_step (viaX HB.out GE668.out) hb); clear BK668; clear HB; have BK668 := n0_; have HB := n1_; clear n0_ n1_; (try clear hb); (try clear hb2); (try clear hk); (try clear hi); have hcz9_0 : w8.cell? ⟨gb668, 0, none⟩ = some (.int .i64 a0_0) := (blk_cell BK668.out 0).trans rfl; have hcz9_1 : w8.cell? ⟨gb668, 1, none⟩ = some (.slice A0_1 l0_1.length c0_1) := (blk_cell BK668.out 1).trans rfl; have hfz9_0 := blk_frozen BK668.out 0; have hfz9_1 := blk_frozen BK668.out 1) | ((with_reducible refine gate_callee (f := 68) rfl ?_); refine goesL_ (some 13) rfl rfl Try.func68 (by kernel_rfl) rfl #[.agg #[.int .i64 a0_0, .slice A0_1 l0_1.length c0_1], .int .i64 a1] rfl (by (try simp only [List.map_toArray, List.map_cons, List.map_nil]); first | done | rfl) ?_; (with_reducible refine (spec_l5Rounds.calls k a0_0 _ _ l0_1 a1 t670 _ ?side1 ?side2 A5.out).mono ?_); (case side1 => exact viaC (Kd.C_below HR0_1.out HB.out)); (case side2 => exact HC0_1.out); rintro e w10 ⟨v671, rfl, ho0, hb⟩; refine ⟨_, rfl, ?_⟩; have n0_ := Aside0.mk (Kd.R_lower ho0 (below_size (viaX HB.out GE668.out))); have n1_ := Aside0.mk (blk_below (g := gb668) (o := .cells #[.int .i64 a0_0, .slice A0_1 l0_1.length c0_1] 25 (0, 0)) (viaB BK668.out) hb); have n2_ := Aside0.mk (below_step (viaX HB.out GE668.out) hb); clear BK668; clear HB; have HO672 := n0_; have BK668 := n1_; have HB := n2_; clear n0_ n1_ n2_; (try clear hb); (try clear hb2); (try clear hk); (try clear hi); (try clear ho0)))
  go_ret2
  exact ⟨_, by first | rfl | (simp [errW_none, errW_some] <;> rfl) | (simp [*, errW_none, errW_some] <;> rfl), viaR HO672.out, viaX HB.out GE668.out⟩
 ·replace c4 := Bool.eq_false_iff.mpr c4
  subst c4; have H1 : (some ((([] : List Int)), false)) = some (r1, r2) := by rw [if_neg (show ¬ (false = true) by decide)] at H; exact H
  clear H; have H := H1; clear H1; obtain ⟨y673, hy673⟩ : ∃ y_ : List Int, y_ = (([] : List Int)) := ⟨_, rfl⟩; replace H : (some (y673, false)) = some (r1, r2) := by first | (rw [hy673]; with_reducible exact H) | (have H2_ := (Option.bind_some _ _).symm.trans H; rw [hy673]; with_reducible exact H2_) | (have H2_ := (Option.bind_some _ _).symm.trans H; with_reducible exact H2_) | with_reducible exact H | (rw [hy673]; exact H) | exact H
  have Ny673 := Aside0.mk hy673; clear hy673
  simp only [Option.some.injEq, Prod.mk.injEq] at H
  obtain ⟨rfl, rfl⟩ := H
  go_enter Try.func29, Try.ntmps29
  go_wp2_with (first | ((with_reducible refine gate_dst (N := 2) rfl ?_); refine box_event ?hg (N := 2) ?hd (cs := #[.int .i64 a0_0, .slice A0_1 l0_1.length c0_1]) (t := 25) ?hr ?_; (case hd => rfl); (case hg => rfl); (case hr => first | (go_simp; done) | (go_simp; rfl)); intro gb668 hg w11 hbox hb; have n0_ := Aside0.mk (below_step (viaW HB.out) hb); have n1_ := Aside0.mk (hbox); have n2_ := Aside0.mk ((by rw [hg]; exact (below_size (viaW HB.out)) : w.heap.size ≤ gb668)); have n3_ := Aside0.mk ((by rw [hg]; exact (below_size (viaW HB.out)) : w.heap.size ≤ gb668)); clear HB; have HB := n0_; have BK668 := n1_; have GW668 := n2_; have GE668 := n3_; clear n0_ n1_ n2_ n3_; clear hb hbox hg; have hcz12_0 : w11.cell? ⟨gb668, 0, none⟩ = some (.int .i64 a0_0) := (blk_cell BK668.out 0).trans rfl; have hcz12_1 : w11.cell? ⟨gb668, 1, none⟩ = some (.slice A0_1 l0_1.length c0_1) := (blk_cell BK668.out 1).trans rfl; have hfz12_0 := blk_frozen BK668.out 0; have hfz12_1 := blk_frozen BK668.out 1) | ((with_reducible refine gate_callee (f := 63) rfl ?_); refine goesL_ (some 8) rfl rfl Try.func63 (by kernel_rfl) rfl #[.agg #[.int .i64 a0_0, .slice A0_1 l0_1.length c0_1], .int .i64 a1] rfl (by (try simp only [List.map_toArray, List.map_cons, List.map_nil]); first | done | rfl) ?_; (with_reducible refine (spec_WayIn.calls k a0_0 _ _ l0_1 a1 false _ ?side1 ?side2 A3.out).mono ?_); (case side1 => exact viaC (Kd.C_below HR0_1.out HB.out)); (case side2 => exact HC0_1.out); rintro e w13 ⟨rfl, hb⟩; refine ⟨_, rfl, ?_⟩; have n0_ := Aside0.mk (blk_below (g := gb668) (o := .cells #[.int .i64 a0_0, .slice A0_1 l0_1.length c0_1] 25 (0, 0)) (viaB BK668.out) hb); have n1_ := Aside0.mk (below_step (viaX HB.out GE668.out) hb); clear BK668; clear HB; have BK668 := n0_; have HB := n1_; clear n0_ n1_; (try clear hb); (try clear hb2); (try clear hk); (try clear hi)) | ((with_reducible refine gate_dst (N := 10) rfl ?_); refine Kd.R_lit (Kd.int .i64) _ 3 ?hg (N := 10) ?hd (xs := ([] : List Int)) (inner := []) (ok := fun _ => True) (okp := fun _ => True) ?hr ?hp (fun _ hk => hk) trivial (Below.refl _ _) (Nat.le_refl _) (by simp) ?_; (case hd => rfl); (case hg => rfl); (case hr => first | (go_simp; done) | (go_simp; rfl)); (case hp => exact (Reps.none _ _)); intro v674 w14 ho15 hb hg_ hnew_; clear hg_ hnew_; (first | rw [← Ny673.out] at ho15 | (simp only [Int.reduceToNat] at ho15; rw [← Ny673.out] at ho15)); have n0_ := Aside0.mk (Kd.R_lower ho15 (below_size (viaX HB.out GE668.out))); have n1_ := Aside0.mk (blk_below (g := gb668) (o := .cells #[.int .i64 a0_0, .slice A0_1 l0_1.length c0_1] 25 (0, 0)) (viaB BK668.out) hb); have n2_ := Aside0.mk (below_step (viaX HB.out GE668.out) hb); clear BK668; clear HB; have HO675 := n0_; have BK668 := n1_; have HB := n2_; clear n0_ n1_ n2_; clear hb ho15))
  go_ret2
  exact ⟨_, by first | rfl | (simp [errW_none, errW_some] <;> rfl) | (simp [*, errW_none, errW_some] <;> rfl), viaR HO675.out, viaX HB.out GE668.out⟩
/-! ### impl_sorted: function 106 -/
mutual
def impl_sorted.l0 : Nat → List Int → List Int → Int → Int → List (S69) → Option (List Int)
 | 0, _, _, _, _, _ => none
 | k + 1, x5, x6, x7, x678000, x678001 => impl_sorted.l1 k x5 x6 x7 (-1) (wrap64 (x678000 - 1)) x678000 x678001
def impl_sorted.l1 : Nat → List Int → List Int → Int → Int → Int → Int → List (S69) → Option (List Int)
 | 0, _, _, _, _, _, _, _ => none
 | k + 1, x5, x6, x7, x8, x9, x678000, x678001 => if x9 ≥ 0 then (if 0 ≤ x9 then (if (Go.bits .and .i64 (shr .i64 x7 x9) 1) = 0 then (if x9 < (x5.length : Int) then (if (Go.bits .andNot .i64 (rd x5 x9) x7) = 0 then (impl_sorted.l1 k x5 x6 x7 x9 (wrap64 (x9 - 1)) x678000 x678001) else (impl_sorted.l1 k x5 x6 x7 x8 (wrap64 (x9 - 1)) x678000 x678001)) else (none)) else (impl_sorted.l1 k x5 x6 x7 x8 (wrap64 (x9 - 1)) x678000 x678001)) else (none)) else (if x8 < 0 then (some x6) else (if x6.length < 17592186044416 then (if 0 ≤ x8 then (impl_sorted.l0 k x5 (x6 ++ [x8]) (Go.bits .or .i64 x7 (shl .i64 1 x8)) x678000 x678001) else (none)) else (none)))
end
def impl_sorted.f (k : Nat) (a0_0 : Int) (l0_1 : List (S69)) (a1 : Int) : Option (List Int) := (impl_turned.f a0_0 l0_1 a1).bind fun t678 => ((impl_nextOf.f k a0_0 l0_1 t678).bind fun t679 => (impl_sorted.l0 k t679 (([] : List Int)) 0 a0_0 l0_1))
theorem impl_sorted.mono_l : ∀ k, (∀ y0 y1 y2 y3 y4, LeO (impl_sorted.l0 k y0 y1 y2 y3 y4) (impl_sorted.l0 (k + 1) y0 y1 y2 y3 y4)) ∧ (∀ y0 y1 y2 y3 y4 y5 y6, LeO (impl_sorted.l1 k y0 y1 y2 y3 y4 y5 y6) (impl_sorted.l1 (k + 1) y0 y1 y2 y3 y4 y5 y6))
 | 0 => ⟨fun _ _ _ _ _ r h => by simp [impl_sorted.l0] at h, fun _ _ _ _ _ _ _ r h => by simp [impl_sorted.l1] at h⟩
 | k + 1 => by
  obtain ⟨ih0, ih1⟩ := impl_sorted.mono_l k
  refine ⟨?_, ?_⟩
  ·intro y0 y1 y2 y3 y4
   unfold impl_sorted.l0
   repeat' first
   | (with_reducible exact ih0 _ _ _ _ _)
   | (with_reducible exact ih1 _ _ _ _ _ _ _)
   | (with_reducible exact impl_nextOf.mono _ _ _ _)
   | (with_reducible exact LeO.refl _)
   | (with_reducible exact LeO.none _)
   | (with_reducible refine LeO.ite ?_ ?_)
   | (with_reducible refine LeO.bind ?_ (fun _ => ?_))
   | exact ih0 _ _ _ _ _
   | exact ih1 _ _ _ _ _ _ _
   | exact impl_nextOf.mono _ _ _ _
   | exact LeO.none _
   | refine LeO.ite ?_ ?_
   | refine LeO.bind ?_ (fun _ => ?_)
  ·intro y0 y1 y2 y3 y4 y5 y6
   unfold impl_sorted.l1
   repeat' first
   | (with_reducible exact ih0 _ _ _ _ _)
   | (with_reducible exact ih1 _ _ _ _ _ _ _)
   | (with_reducible exact impl_nextOf.mono _ _ _ _)
   | (with_reducible exact LeO.refl _)
   | (with_reducible exact LeO.none _)
   | (with_reducible refine LeO.ite ?_ ?_)
   | (with_reducible refine LeO.bind ?_ (fun _ => ?_))
   | exact ih0 _ _ _ _ _
   | exact ih1 _ _ _ _ _ _ _
   | exact impl_nextOf.mono _ _ _ _
   | exact LeO.none _
   | refine LeO.ite ?_ ?_
   | refine LeO.bind ?_ (fun _ => ?_)
theorem impl_sorted.mono : ∀ a0 a1 a2 k, LeO (impl_sorted.f k a0 a1 a2) (impl_sorted.f (k + 1) a0 a1 a2) := by
 intro a0 a1 a2 k; obtain ⟨ih0, ih1⟩ := impl_sorted.mono_l k
 unfold impl_sorted.f
 repeat' first
   | (with_reducible exact ih0 _ _ _ _ _)
   | (with_reducible exact ih1 _ _ _ _ _ _ _)
   | (with_reducible exact impl_nextOf.mono _ _ _ _)
   | (with_reducible exact LeO.refl _)
   | (with_reducible exact LeO.none _)
   | (with_reducible refine LeO.ite ?_ ?_)
   | (with_reducible refine LeO.bind ?_ (fun _ => ?_))
   | exact ih0 _ _ _ _ _
   | exact ih1 _ _ _ _ _ _ _
   | exact impl_nextOf.mono _ _ _ _
   | exact LeO.none _
   | refine LeO.ite ?_ ?_
   | refine LeO.bind ?_ (fun _ => ?_)
set_option maxHeartbeats 8000000 in
set_option maxRecDepth 100000 in
theorem impl_sorted.calls (k : Nat) (a0_0 : Int) (A0_1 : Option Addr) (c0_1 : Nat) (l0_1 : List (S69)) (a1 : Int) (r : List Int) (w : World) (hr0_1 : Kd.C k69 w A0_1 l0_1.length l0_1) (hc0_1 : l0_1.length ≤ c0_1) (h : impl_sorted.f k a0_0 l0_1 a1 = some r) :
  Calls Try.prog 106 #[.agg #[.int .i64 a0_0, .slice A0_1 l0_1.length c0_1], .int .i64 a1] w fun e w' => ∃ v0_ : Value, e = .returned (v0_) ∧ Kd.R (Kd.int .i64) 3 w' w.heap.size (fun _ => True) v0_ r ∧ Below w.heap.size w w' := by
 have hu25 := Try.underlying25; have HR0_1 := Aside0.mk hr0_1; have HC0_1 := Aside0.mk hc0_1; clear hr0_1 hc0_1; have HB := Aside0.mk (Below.refl w.heap.size w); have H : ((impl_turned.f a0_0 l0_1 a1).bind fun t678 => ((impl_nextOf.f k a0_0 l0_1 t678).bind fun t679 => (impl_sorted.l0 k t679 (([] : List Int)) 0 a0_0 l0_1))) = some r := h; clear h; replace H := Option.bind_eq_some_iff.mp H; obtain ⟨t678, A30, H⟩ := H; replace H : ((impl_nextOf.f k a0_0 l0_1 t678).bind fun t679 => (impl_sorted.l0 k t679 (([] : List Int)) 0 a0_0 l0_1)) = some r := H; have A3 := Aside0.mk A30; clear A30; replace H := Option.bind_eq_some_iff.mp H; obtain ⟨t679, A40, H⟩ := H; replace H : (impl_sorted.l0 k t679 (([] : List Int)) 0 a0_0 l0_1) = some r := H; have A4 := Aside0.mk A40; clear A40; obtain ⟨y682, hy682⟩ : ∃ y_ : List Int, y_ = (([] : List Int)) := ⟨_, rfl⟩; replace H : (impl_sorted.l0 k t679 y682 0 a0_0 l0_1) = some r := by first | (rw [hy682]; with_reducible exact H) | (have H2_ := (Option.bind_some _ _).symm.trans H; rw [hy682]; with_reducible exact H2_) | (have H2_ := (Option.bind_some _ _).symm.trans H; with_reducible exact H2_) | with_reducible exact H | (rw [hy682]; exact H) | exact H
 have Ny682 := Aside0.mk hy682; clear hy682; have H' := Aside0.mk H; clear H
 go_enter Try.func106, Try.ntmps106
 try go_wp2_with (first | ((with_reducible refine gate_dst (N := 2) rfl ?_); refine box_event ?hg (N := 2) ?hd (cs := #[.int .i64 a0_0, .slice A0_1 l0_1.length c0_1]) (t := 25) ?hr ?_; (case hd => rfl); (case hg => rfl); (case hr => first | (go_simp; done) | (go_simp; rfl)); intro gb677 hg w5 hbox hb; have n0_ := Aside0.mk (below_step (viaW HB.out) hb); have n1_ := Aside0.mk (hbox); have n2_ := Aside0.mk ((by rw [hg]; exact (below_size (viaW HB.out)) : w.heap.size ≤ gb677)); have n3_ := Aside0.mk ((by rw [hg]; exact (below_size (viaW HB.out)) : w.heap.size ≤ gb677)); clear HB; have HB := n0_; have BK677 := n1_; have GW677 := n2_; have GE677 := n3_; clear n0_ n1_ n2_ n3_; clear hb hbox hg))
 have n0_ := Aside0.mk (blk_drew BK677.out); have n1_ := Aside0.mk (below_drew1 HB.out); clear BK677; clear HB; have BK677 := n0_; have HB := n1_; clear n0_ n1_
 refine start_ (n := 6) (S := fun w' => w'.cell? ⟨gb677, 0, none⟩ = some (.int .i64 a0_0) ∧ w'.cell? ⟨gb677, 1, none⟩ = some (.slice A0_1 l0_1.length c0_1)) (ds := []) #[false, false, false, false, false, false] (by kernel_rfl) rfl rfl ⟨(blk_cell BK677.out 0).trans rfl, (blk_cell BK677.out 1).trans rfl⟩ (fun hHeld => ?_)
 generalize w5.drew = w6 at BK677 HB hHeld ⊢
 refine pure_ (i := 2) (N := some 12) (v := ?_) (a' := ?_) #[false, false, true, false, false, false] rfl rfl (by kernel_rfl) (fun _ _ _ h => h) (Or.inl ⟨by rfl, ?_⟩) ?_ ?_
 rotate_left
 ·intro w'
  go_simp
  with_reducible rfl
 rotate_left
 ·simp only [Act.put, List.setIfInBounds_toArray, List.set_cons_zero, List.set_cons_succ, i64_w, i32_w]
  rfl
 refine take_ (i := 0) (N := some 10) (v := ?_) (a' := ?_) #[true, false, true, false, false, false] rfl rfl (by kernel_rfl) (fun _ _ _ h => h) (Or.inl ⟨by rfl, ?_⟩) hHeld ?_ ?_
 rotate_left
 ·rintro w' ⟨s0, s1⟩
  go_simp
  with_reducible rfl
 rotate_left
 ·simp only [Act.put, List.setIfInBounds_toArray, List.set_cons_zero, List.set_cons_succ, i64_w, i32_w]
  rfl
 refine take_ (i := 1) (N := some 11) (v := ?_) (a' := ?_) #[true, true, true, false, false, false] rfl rfl (by kernel_rfl) (fun _ _ _ h => h) (Or.inl ⟨by rfl, ?_⟩) hHeld ?_ ?_
 rotate_left
 ·rintro w' ⟨s0, s1⟩
  go_simp
  with_reducible rfl
 rotate_left
 ·simp only [Act.put, List.setIfInBounds_toArray, List.set_cons_zero, List.set_cons_succ, i64_w, i32_w]
  rfl
 refine one_ (i := 3) (N := some 13) #[true, true, true, true, false, false] rfl rfl (by kernel_rfl) (by decide) (fun K hK => ?_)
 refine goes_ Try.func87 (by kernel_rfl) rfl #[.agg #[.int .i64 a0_0, .slice A0_1 l0_1.length c0_1], .int .i64 a1] (by rfl) rfl rfl (by (try simp only [List.map_toArray, List.map_cons, List.map_nil]); first | done | rfl) ?_
 with_reducible refine (impl_turned.calls a0_0 _ _ l0_1 a1 t678 _ ?side1 ?side2 A3.out).mono ?_
 (case side1 => exact viaC (Kd.C_below HR0_1.out HB.out))
 (case side2 => exact HC0_1.out)
 rintro e w7 ⟨rfl, hb⟩
 refine ⟨_, rfl, ?_⟩
 have n0_ := Aside0.mk (blk_below (g := gb677) (o := .cells #[.int .i64 a0_0, .slice A0_1 l0_1.length c0_1] 25 (0, 0)) (viaB BK677.out) hb); have n1_ := Aside0.mk (below_step (viaX HB.out GE677.out) hb); clear BK677; clear HB; have BK677 := n0_; have HB := n1_; clear n0_ n1_
 (try clear hb)
 (try clear hb2)
 (try clear hk)
 (try clear hi)
 refine hK.out _ _ ⟨(blk_cell BK677.out 0).trans rfl, (blk_cell BK677.out 1).trans rfl⟩ (fun hHeld => ?_)
 clear hK K
 refine norm_ (a' := ?_) ?_ ?_
 rotate_left
 ·show Act.put _ (some 13) _ = _
  simp only [Act.put, List.setIfInBounds_toArray, List.set_cons_zero, List.set_cons_succ, i64_w, i32_w]
  rfl
 refine one_ (i := 4) (N := some 14) #[true, true, true, true, true, false] rfl rfl (by kernel_rfl) (by decide) (fun K hK => ?_)
 refine goes_ Try.func94 (by kernel_rfl) rfl #[.agg #[.int .i64 a0_0, .slice A0_1 l0_1.length c0_1], .int .i64 t678] (by rfl) rfl rfl (by (try simp only [List.map_toArray, List.map_cons, List.map_nil]); first | done | rfl) ?_
 with_reducible refine (impl_nextOf.calls k a0_0 _ _ l0_1 t678 t679 _ ?side1 ?side2 A4.out).mono ?_
 (case side1 => exact viaC (Kd.C_below HR0_1.out HB.out))
 (case side2 => exact HC0_1.out)
 rintro e w8 ⟨v680, rfl, ho0, hb⟩
 refine ⟨_, rfl, ?_⟩
 have n0_ := Aside0.mk (Kd.R_lower ho0 (below_size (viaX HB.out GE677.out))); have n1_ := Aside0.mk (blk_below (g := gb677) (o := .cells #[.int .i64 a0_0, .slice A0_1 l0_1.length c0_1] 25 (0, 0)) (viaB BK677.out) hb); have n2_ := Aside0.mk (below_step (viaX HB.out GE677.out) hb); clear BK677; clear HB; have HO681 := n0_; have BK677 := n1_; have HB := n2_; clear n0_ n1_ n2_
 (try clear hb)
 (try clear hb2)
 (try clear hk)
 (try clear hi)
 (try clear ho0)
 refine hK.out _ _ ⟨(blk_cell BK677.out 0).trans rfl, (blk_cell BK677.out 1).trans rfl⟩ (fun hHeld => ?_)
 clear hK K
 refine norm_ (a' := ?_) ?_ ?_
 rotate_left
 ·show Act.put _ (some 14) _ = _
  simp only [Act.put, List.setIfInBounds_toArray, List.set_cons_zero, List.set_cons_succ, i64_w, i32_w]
  rfl
 refine pure_ (i := 5) (N := some 5) (v := ?_) (a' := ?_) #[true, true, true, true, true, true] rfl rfl (by kernel_rfl) (fun _ _ _ h => h) (Or.inl ⟨by rfl, ?_⟩) ?_ ?_
 rotate_left
 ·intro w'
  go_simp
  with_reducible rfl
 rotate_left
 ·simp only [Act.put, List.setIfInBounds_toArray, List.set_cons_zero, List.set_cons_succ, i64_w, i32_w]
  rfl
 refine done_ (by kernel_rfl) ?_
 try go_wp2_with (first | ((with_reducible refine gate_dst (N := 15) rfl ?_); refine Kd.R_lit (Kd.int .i64) _ 3 ?hg (N := 15) ?hd (xs := ([] : List Int)) (inner := []) (ok := fun _ => True) (okp := fun _ => True) ?hr ?hp (fun _ hk => hk) trivial (Below.refl _ _) (Nat.le_refl _) (by simp) ?_; (case hd => rfl); (case hg => rfl); (case hr => first | (go_simp; done) | (go_simp; rfl)); (case hp => exact (Reps.none _ _)); intro v683 w9 ho10 hb hg_ hnew_; clear hg_ hnew_; (first | rw [← Ny682.out] at ho10 | (simp only [Int.reduceToNat] at ho10; rw [← Ny682.out] at ho10)); have n0_ := Aside0.mk (Kd.R_elder' (viaR HO681.out) (Kd.R_base ho10) hb); have n1_ := Aside0.mk (Kd.R_lower (Kd.R_new' ho10 (Kd.R_lt (viaR HO681.out))) (below_size (viaX HB.out GE677.out))); have n2_ := Aside0.mk (blk_below (g := gb677) (o := .cells #[.int .i64 a0_0, .slice A0_1 l0_1.length c0_1] 25 (0, 0)) (viaB BK677.out) hb); have n3_ := Aside0.mk (below_step (viaX HB.out GE677.out) hb); clear HO681; clear BK677; clear HB; have HO681 := n0_; have HO684 := n1_; have BK677 := n2_; have HB := n3_; clear n0_ n1_ n2_ n3_; clear hb ho10))
 go_loopg [6, 7] k (fun kq v6 v7 w' => ∃ (x6_1 : List Int) (x7_1 : Int), v7 = .int .i64 x7_1 ∧ Aside0 (impl_sorted.l0 kq t679 x6_1 x7_1 a0_0 l0_1 = some r) ∧ Aside0 (kq ≤ k) ∧ Aside0 (Kd.R (Kd.int .i64) 3 w' w.heap.size (fun k_ => some k_ ≠ (v6 : Value).ownBlock) v680 t679) ∧ Aside0 (Kd.R (Kd.int .i64) 3 w' w.heap.size (fun k_ => some k_ ≠ (v680 : Value).ownBlock) v6 x6_1) ∧ Aside0 (w'.heap[gb677]? = some (.cells #[.int .i64 a0_0, (.slice A0_1 l0_1.length c0_1)] 25 (0, 0))) ∧ Aside0 (Below w.heap.size w w'))
 case atStart => exact ⟨(y682), (0), (by first | rfl | (simp; done) | (simp [*]; done)), H', ⟨Nat.le_refl _⟩, ⟨by (with_reducible repeat (first | apply Kd.R_alloc | apply Kd.R_drewN | apply Kd.R_drew)); exact Kd.R_mono HO681.out (fun _ hk => hk.2)⟩, ⟨by (with_reducible repeat (first | apply Kd.R_alloc | apply Kd.R_drewN | apply Kd.R_drew)); exact Kd.R_mono HO684.out (fun _ hk => hk.2)⟩, ⟨viaB BK677.out⟩, ⟨viaX HB.out GE677.out⟩⟩
 case round =>
  clear H'
  try clear c1
  try clear p2
  try clear c8
  try clear c9
  try clear c10
  obtain ⟨x6_1, x7_1, rfl, HA, HK1, HO_5, HO_6, BK677, HB⟩ := hrel
  cases gk with
  | zero => exact absurd HA.out (by simp [impl_sorted.l0])
  | succ k1 =>
   have H := HA.out; clear HA
   simp only [impl_sorted.l0] at H
   have H' := Aside0.mk H; clear H; have hcz11_0 : wr.cell? ⟨gb677, 0, none⟩ = some (.int .i64 a0_0) := (blk_cell BK677.out 0).trans rfl; have hcz11_1 : wr.cell? ⟨gb677, 1, none⟩ = some (.slice A0_1 l0_1.length c0_1) := (blk_cell BK677.out 1).trans rfl; have hfz11_0 := blk_frozen BK677.out 0; have hfz11_1 := blk_frozen BK677.out 1
   go_wp2
   go_loopg [8, 9] k1 (fun kq v8 v9 w' => ∃ (x8_2 : Int) (x9_2 : Int), v8 = .int .i64 x8_2 ∧ v9 = .int .i64 x9_2 ∧ Aside0 (impl_sorted.l1 kq t679 x6_1 x7_1 x8_2 x9_2 a0_0 l0_1 = some r) ∧ Aside0 (kq ≤ k1) ∧ Aside0 (Kd.R (Kd.int .i64) 3 w' w.heap.size (fun k_ => some k_ ≠ (u6 : Value).ownBlock) v680 t679) ∧ Aside0 (Kd.R (Kd.int .i64) 3 w' w.heap.size (fun k_ => some k_ ≠ (v680 : Value).ownBlock) u6 x6_1) ∧ Aside0 (w'.heap[gb677]? = some (.cells #[.int .i64 a0_0, (.slice A0_1 l0_1.length c0_1)] 25 (0, 0))) ∧ Aside0 (Below w.heap.size w w'))
   case atStart => exact ⟨((-1)), (wrap64 (a0_0 - 1)), (by first | rfl | (simp; done) | (simp [*]; done)), (by first | rfl | (simp; done) | (simp [*]; done)), H', ⟨Nat.le_refl _⟩, ⟨viaR HO_5.out⟩, ⟨viaR HO_6.out⟩, ⟨viaB BK677.out⟩, ⟨viaX HB.out GE677.out⟩⟩
   case round =>
    clear H'
    try clear c1
    try clear p2
    try clear p6
    try clear c8
    try clear c9
    try clear c10
    try clear hcz11_0
    try clear hcz11_1
    try clear hfz11_0
    try clear hfz11_1
    try clear p2
    obtain ⟨x8_2, x9_2, rfl, rfl, HA, HK2, HO_5, HO_6, BK677, HB⟩ := hrel
    cases gk with
    | zero => exact absurd HA.out (by simp [impl_sorted.l1])
    | succ k2 =>
     have H := HA.out; clear HA
     simp only [impl_sorted.l1] at H
     by_cases c12 : x9_2 ≥ 0
     ·rw [if_pos c12] at H
      have c12b0 : decide (0 ≤ x9_2) = true := decide_eq_true c12; clear c12
      by_cases c13 : 0 ≤ x9_2
      ·rw [if_pos c13] at H
       have c13b0 := eq_true c13; have c13b1 : decide (0 ≤ x9_2) = true := decide_eq_true c13; clear c13; obtain ⟨ji14, hji14⟩ : ∃ j_ : Int, (shr .i64 x7_1 x9_2) = j_ := ⟨_, rfl⟩; replace H : (if (Go.bits .and .i64 (ji14) 1) = 0 then (if x9_2 < (t679.length : Int) then (if (Go.bits .andNot .i64 (rd t679 x9_2) x7_1) = 0 then (impl_sorted.l1 k2 t679 x6_1 x7_1 x9_2 (wrap64 (x9_2 - 1)) a0_0 l0_1) else (impl_sorted.l1 k2 t679 x6_1 x7_1 x8_2 (wrap64 (x9_2 - 1)) a0_0 l0_1)) else (none)) else (impl_sorted.l1 k2 t679 x6_1 x7_1 x8_2 (wrap64 (x9_2 - 1)) a0_0 l0_1)) = some r := by first | (rw [hji14] at H; exact H) | (simp only [hji14] at H ⊢; exact H)
       have hji14_ : (x7_1 / 2 ^ min x9_2.toNat 64) = ji14 := hji14; have hji14z : x9_2 ≤ 64 → (x7_1 / 2 ^ x9_2.toNat) = ji14 := shr_small hji14
       by_cases c15 : (Go.bits .and .i64 (ji14) 1) = 0
       ·rw [if_pos c15] at H
        have c15b0 : ((Go.bits .and .i64 (ji14) 1) == 0) = true := beq_iff_eq.mpr c15; have c15b1 : ((Go.bits .and .i64 (ji14) 1) != 0) = false := bne_eq_false_iff_eq.mpr c15; clear c15
        by_cases c16 : x9_2 < (t679.length : Int)
        ·rw [if_pos c16] at H
         have c16b0 : decide (x9_2 < (t679.length : Int)) = true := decide_eq_true c16; clear c16
         by_cases c17 : (Go.bits .andNot .i64 (rd t679 x9_2) x7_1) = 0
         ·rw [if_pos c17] at H
          have c17b0 : ((Go.bits .andNot .i64 (rd t679 x9_2) x7_1) == 0) = true := beq_iff_eq.mpr c17; have c17b1 : ((Go.bits .andNot .i64 (rd t679 x9_2) x7_1) != 0) = false := bne_eq_false_iff_eq.mpr c17; clear c17; have H' := Aside0.mk H; clear H; obtain ⟨Ao18, co18, eo18⟩ := Kd.R_slice HO_5.out; subst eo18; have p685 : 0 ≤ (x9_2 : Int) := of_decide_eq_true (by first | (with_reducible assumption) | assumption); have q685 : x9_2 < (t679.length : Int) := of_decide_eq_true (by first | (with_reducible assumption) | assumption); obtain ⟨ad685, e685, hx685_0⟩ := Kd.at_int (Kd.R_reads' HO_5.out).2.2 x9_2 p685 q685
          cases e685
          replace p685 := eq_true p685; replace q685 := eq_true q685
          go_wp2
          go_roundg k2
          case measure => have := HK1.out; have := HK2.out; omega
          case rel => exact ⟨(x9_2), (wrap64 (x9_2 - 1)), (by first | rfl | (simp; done) | (simp [*]; done)), (by first | rfl | (simp; done) | (simp [*]; done)), H', ⟨by have := HK1.out; have := HK2.out; omega⟩, ⟨viaR HO_5.out⟩, ⟨viaR HO_6.out⟩, ⟨viaB BK677.out⟩, ⟨viaX HB.out GE677.out⟩⟩
         ·rw [if_neg c17] at H
          have c17b0 : ((Go.bits .andNot .i64 (rd t679 x9_2) x7_1) == 0) = false := beq_eq_false_iff_ne.mpr c17; have c17b1 : ((Go.bits .andNot .i64 (rd t679 x9_2) x7_1) != 0) = true := bne_iff_ne.mpr c17; have H' := Aside0.mk H; clear H; obtain ⟨Ao19, co19, eo19⟩ := Kd.R_slice HO_5.out; subst eo19; have p685 : 0 ≤ (x9_2 : Int) := of_decide_eq_true (by first | (with_reducible assumption) | assumption); have q685 : x9_2 < (t679.length : Int) := of_decide_eq_true (by first | (with_reducible assumption) | assumption); obtain ⟨ad685, e685, hx685_0⟩ := Kd.at_int (Kd.R_reads' HO_5.out).2.2 x9_2 p685 q685
          cases e685
          replace p685 := eq_true p685; replace q685 := eq_true q685
          go_wp2
          go_roundg k2
          case measure => have := HK1.out; have := HK2.out; omega
          case rel => exact ⟨(x8_2), (wrap64 (x9_2 - 1)), (by first | rfl | (simp; done) | (simp [*]; done)), (by first | rfl | (simp; done) | (simp [*]; done)), H', ⟨by have := HK1.out; have := HK2.out; omega⟩, ⟨viaR HO_5.out⟩, ⟨viaR HO_6.out⟩, ⟨viaB BK677.out⟩, ⟨viaX HB.out GE677.out⟩⟩
        ·rw [if_neg c16] at H
         exact absurd H (by simp)
       ·rw [if_neg c15] at H
        have c15b0 : ((Go.bits .and .i64 (ji14) 1) == 0) = false := beq_eq_false_iff_ne.mpr c15; have c15b1 : ((Go.bits .and .i64 (ji14) 1) != 0) = true := bne_iff_ne.mpr c15; have H' := Aside0.mk H; clear H
        go_wp2
        go_roundg k2
        case measure => have := HK1.out; have := HK2.out; omega
        case rel => exact ⟨(x8_2), (wrap64 (x9_2 - 1)), (by first | rfl | (simp; done) | (simp [*]; done)), (by first | rfl | (simp; done) | (simp [*]; done)), H', ⟨by have := HK1.out; have := HK2.out; omega⟩, ⟨viaR HO_5.out⟩, ⟨viaR HO_6.out⟩, ⟨viaB BK677.out⟩, ⟨viaX HB.out GE677.out⟩⟩
      ·rw [if_neg c13] at H
       exact absurd H (by simp)
     ·rw [if_neg c12] at H
      have c12b0 : decide (0 ≤ x9_2) = false := decide_eq_false c12; clear c12
      by_cases c20 : x8_2 < 0
      ·rw [if_pos c20] at H
       have c20b0 : decide (x8_2 < 0) = true := decide_eq_true c20; clear c20; obtain rfl := Option.some.inj H
       go_wp2
       go_ret
       exact ⟨_, by first | rfl | (simp [errW_none, errW_some] <;> rfl) | (simp [*, errW_none, errW_some] <;> rfl), by (with_reducible repeat (first | apply Kd.R_alloc | apply Kd.R_drewN | apply Kd.R_drew)); exact Kd.R_mono HO_6.out (fun _ hk => trivial), viaX HB.out GE677.out⟩
      ·rw [if_neg c20] at H
       have c20b0 : decide (x8_2 < 0) = false := decide_eq_false c20; clear c20
       by_cases c21 : x6_1.length < 17592186044416
       ·rw [if_pos c21] at H
        have LMc21 := Aside0.mk c21; clear c21; obtain ⟨y686, hy686⟩ : ∃ y_ : List Int, y_ = (x6_1 ++ [x8_2]) := ⟨_, rfl⟩; replace H : (if 0 ≤ x8_2 then (impl_sorted.l0 k2 t679 y686 (Go.bits .or .i64 x7_1 (shl .i64 1 x8_2)) a0_0 l0_1) else (none)) = some r := by first | (rw [hy686]; with_reducible exact H) | (have H2_ := (Option.bind_some _ _).symm.trans H; rw [hy686]; with_reducible exact H2_) | (have H2_ := (Option.bind_some _ _).symm.trans H; with_reducible exact H2_) | with_reducible exact H | (rw [hy686]; exact H) | exact H
        have Ny686 := Aside0.mk hy686; clear hy686
        by_cases c22 : 0 ≤ x8_2
        ·rw [if_pos c22] at H
         have c22b0 := eq_true c22; have c22b1 : decide (0 ≤ x8_2) = true := decide_eq_true c22; clear c22; obtain ⟨ji23, hji23⟩ : ∃ j_ : Int, (shl .i64 1 x8_2) = j_ := ⟨_, rfl⟩; replace H : (impl_sorted.l0 k2 t679 y686 (Go.bits .or .i64 x7_1 (ji23)) a0_0 l0_1) = some r := by first | (rw [hji23] at H; exact H) | (simp only [hji23] at H ⊢; exact H)
         have hji23_ : (IntKind.i64.wrap (1 * 2 ^ min x8_2.toNat 64)) = ji23 := hji23; have hji23z : x8_2 ≤ 64 → (IntKind.i64.wrap (1 * 2 ^ x8_2.toNat)) = ji23 := shl_small hji23; have hji23u : (IntKind.i64.wrap (2 ^ min x8_2.toNat 64)) = ji23 := by have h_ := hji23_; rw [Int.one_mul] at h_; exact h_
         have hji23v : x8_2 ≤ 64 → (IntKind.i64.wrap (2 ^ x8_2.toNat)) = ji23 := fun hle_ => by have h_ := hji23z hle_; rw [Int.one_mul] at h_; exact h_
         have hji23y : (wrap64 (1 * 2 ^ min x8_2.toNat 64)) = ji23 := (i64_w _).symm.trans hji23_; have hji23x : x8_2 ≤ 64 → (wrap64 (1 * 2 ^ x8_2.toNat)) = ji23 := fun h_ => (i64_w _).symm.trans (hji23z h_); have H' := Aside0.mk H; clear H
         go_wp2_with (first | ((with_reducible refine gate_builtin (b := .append) (xs := #[.tmp 41, .tmp 43]) rfl ?_); at_builtin; refine Kd.R_append (Kd.int .i64) (w0 := w) w.heap.size rfl (.tmp 41) (.tmp 43) 30 3 (.int .i64 0) 8 rfl Try.underlying30 info3 rfl (by decide) (by omega) u6 x6_1 x8_2 [.int .i64 x8_2] (fun k_ => some k_ ≠ (v680 : Value).ownBlock) (fun _ => False) rfl rfl ?aP (fun _ hk => hk.elim) ?aF ?aO ?aB ?aS ?aL ?_; (case aP => exact rfl); (case aB => exact (viaX HB.out GE677.out)); (case aF => exact (fun k_ hk => Kd.fresh' (Kd.R_lt (viaR HO_5.out)) k_ hk)); (case aO => exact (viaR HO_6.out)); (case aS => exact (below_size (viaX HB.out GE677.out))); (case aL => have := LMc21.out; omega); intro v687 w24 ho hb hg hat; rw [← Ny686.out] at ho; have n0_ := Aside0.mk (Kd.R_after (ok := (fun _ => True)) (by (with_reducible repeat (first | apply Kd.R_alloc | apply Kd.R_drewN | apply Kd.R_drew)); exact Kd.R_mono HO_5.out (fun _ hk => ⟨trivial, hk⟩)) hg hat); have n1_ := Aside0.mk (blk_grown (g := gb677) (o := .cells #[.int .i64 a0_0, .slice A0_1 l0_1.length c0_1] 25 (0, 0)) (viaB BK677.out) hg (Kd.R_ne HO_6.out BK677.out (by decide))); have n2_ := Aside0.mk (hb); have n3_ := Aside0.mk (ho); clear HO_5; clear BK677; clear HB; clear HO_6; have HO_5 := n0_; have BK677 := n1_; have HB := n2_; have HO688 := n3_; clear n0_ n1_ n2_ n3_; clear ho hb hg hat))
         go_roundg k2
         case measure => have := HK1.out; have := HK2.out; omega
         case rel => exact ⟨(y686), (Go.bits .or .i64 x7_1 (ji23)), (by first | rfl | (simp; done) | (simp only [← hji23] <;> (first | rfl | simp)) | (simp [*]; done)), H', ⟨by have := HK1.out; have := HK2.out; omega⟩, ⟨by (with_reducible repeat (first | apply Kd.R_alloc | apply Kd.R_drewN | apply Kd.R_drew)); exact Kd.R_mono HO_5.out (fun _ hk => hk.2)⟩, ⟨viaR HO688.out⟩, ⟨viaB BK677.out⟩, ⟨viaX HB.out GE677.out⟩⟩
        ·rw [if_neg c22] at H
         exact absurd H (by simp)
       ·rw [if_neg c21] at H
        exact absurd H (by simp)
/-! ### impl_isPlain: function 69 -/
def impl_isPlain.f (k : Nat) (a0_0 : Int) (l0_1 : List (S69)) (a1 : Int) : Option (Bool) := (impl_sorted.f k a0_0 l0_1 a1).bind fun t690 => (some ((t690.length : Int) == a0_0))
theorem impl_isPlain.mono : ∀ a0 a1 a2 k, LeO (impl_isPlain.f k a0 a1 a2) (impl_isPlain.f (k + 1) a0 a1 a2) := by
 intro a0 a1 a2 k
 unfold impl_isPlain.f
 repeat' first
   | (with_reducible exact impl_sorted.mono _ _ _ _)
   | (with_reducible exact LeO.refl _)
   | (with_reducible exact LeO.none _)
   | (with_reducible refine LeO.ite ?_ ?_)
   | (with_reducible refine LeO.bind ?_ (fun _ => ?_))
   | exact impl_sorted.mono _ _ _ _
   | exact LeO.none _
   | refine LeO.ite ?_ ?_
   | refine LeO.bind ?_ (fun _ => ?_)
def impl_isPlain.T1 : Bool × List (List Nat × List Nat) := (true, [([], []), ([], []), ([0, 1], [0, 1]), ([2], [2]), ([], []), ([4], [4]), ([3, 5], [3, 5]), ([6, 2, 0, 1, 2, 3, 4, 5, 6], [6])])
def impl_isPlain.B1 : List Nat := [0, 0, 3, 7, 0, 16, 63, 127]
theorem impl_isPlain.tab1 : rtab .any (opsOf Try.f69 1) = impl_isPlain.T1 := by kernel_rfl
theorem impl_isPlain.bits1 : waitsOk impl_isPlain.T1.2 impl_isPlain.B1 = true := by kernel_rfl
set_option maxHeartbeats 8000000 in
set_option maxRecDepth 100000 in
theorem impl_isPlain.calls (k : Nat) (a0_0 : Int) (A0_1 : Option Addr) (c0_1 : Nat) (l0_1 : List (S69)) (a1 : Int) (r : Bool) (w : World) (hr0_1 : Kd.C k69 w A0_1 l0_1.length l0_1) (hc0_1 : l0_1.length ≤ c0_1) (h : impl_isPlain.f k a0_0 l0_1 a1 = some r) :
  Calls Try.prog 69 #[.agg #[.int .i64 a0_0, .slice A0_1 l0_1.length c0_1], .int .i64 a1] w fun e w' => e = .returned (.bool r) ∧ Below w.heap.size w w' := by
 have hu25 := Try.underlying25; have HR0_1 := Aside0.mk hr0_1; have HC0_1 := Aside0.mk hc0_1; clear hr0_1 hc0_1; have HB := Aside0.mk (Below.refl w.heap.size w); have H : ((impl_sorted.f k a0_0 l0_1 a1).bind fun t690 => (some ((t690.length : Int) == a0_0))) = some r := h; clear h; replace H := Option.bind_eq_some_iff.mp H; obtain ⟨t690, A30, H⟩ := H; replace H : (some ((t690.length : Int) == a0_0)) = some r := H; have A3 := Aside0.mk A30; clear A30; obtain rfl := Option.some.inj H
 go_enter Try.func69, Try.ntmps69
 try go_wp2_with (first | ((with_reducible refine gate_dst (N := 2) rfl ?_); refine box_event ?hg (N := 2) ?hd (cs := #[.int .i64 a0_0, .slice A0_1 l0_1.length c0_1]) (t := 25) ?hr ?_; (case hd => rfl); (case hg => rfl); (case hr => first | (go_simp; done) | (go_simp; rfl)); intro gb689 hg w4 hbox hb; have n0_ := Aside0.mk (below_step (viaW HB.out) hb); have n1_ := Aside0.mk (hbox); have n2_ := Aside0.mk ((by rw [hg]; exact (below_size (viaW HB.out)) : w.heap.size ≤ gb689)); have n3_ := Aside0.mk ((by rw [hg]; exact (below_size (viaW HB.out)) : w.heap.size ≤ gb689)); clear HB; have HB := n0_; have BK689 := n1_; have GW689 := n2_; have GE689 := n3_; clear n0_ n1_ n2_ n3_; clear hb hbox hg))
 have n0_ := Aside0.mk (blk_drew BK689.out); have n1_ := Aside0.mk (below_drew1 HB.out); clear BK689; clear HB; have BK689 := n0_; have HB := n1_; clear n0_ n1_
 refine start_ (n := 8) (S := fun w' => w'.cell? ⟨gb689, 0, none⟩ = some (.int .i64 a0_0) ∧ w'.cell? ⟨gb689, 1, none⟩ = some (.slice A0_1 l0_1.length c0_1)) (ds := []) #[false, false, false, false, false, false, false, false] (by kernel_rfl) rfl rfl ⟨(blk_cell BK689.out 0).trans rfl, (blk_cell BK689.out 1).trans rfl⟩ (fun hHeld => ?_); refine with_tabW impl_isPlain.tab1 impl_isPlain.bits1 (fun HT_ HW_ => ?_)
 generalize w4.drew = w5 at BK689 HB hHeld ⊢
 refine pure_ (i := 1) (N := some 6) (v := ?_) (a' := ?_) #[false, true, false, false, false, false, false, false] rfl rfl (any_of HT_.out (by kernel_rfl)) (fun _ _ _ h => h) (Or.inl ⟨by rfl, ?_⟩) ?_ ?_
 rotate_left
 ·intro w'
  go_simp
  with_reducible rfl
 rotate_left
 ·simp only [Act.put, List.setIfInBounds_toArray, List.set_cons_zero, List.set_cons_succ, i64_w, i32_w]
  rfl
 refine pure_ (i := 4) (N := some 9) (v := ?_) (a' := ?_) #[false, true, false, false, true, false, false, false] rfl rfl (any_of HT_.out (by kernel_rfl)) (fun _ _ _ h => h) (Or.inl ⟨by rfl, ?_⟩) ?_ ?_
 rotate_left
 ·intro w'
  go_simp
  with_reducible rfl
 rotate_left
 ·simp only [Act.put, List.setIfInBounds_toArray, List.set_cons_zero, List.set_cons_succ, i64_w, i32_w]
  rfl
 refine take_ (i := 0) (N := some 5) (v := ?_) (a' := ?_) #[true, true, false, false, true, false, false, false] rfl rfl (take_ofW HT_.out HW_.out (by kernel_rfl)) (fun _ _ _ h => h) (Or.inl ⟨by rfl, ?_⟩) hHeld ?_ ?_
 rotate_left
 ·rintro w' ⟨s0, s1⟩
  go_simp
  with_reducible rfl
 rotate_left
 ·simp only [Act.put, List.setIfInBounds_toArray, List.set_cons_zero, List.set_cons_succ, i64_w, i32_w]
  rfl
 refine take_ (i := 5) (N := some 10) (v := ?_) (a' := ?_) #[true, true, false, false, true, true, false, false] rfl rfl (take_ofW HT_.out HW_.out (by kernel_rfl)) (fun _ _ _ h => h) (Or.inl ⟨by rfl, ?_⟩) hHeld ?_ ?_
 rotate_left
 ·rintro w' ⟨s0, s1⟩
  go_simp
  with_reducible rfl
 rotate_left
 ·simp only [Act.put, List.setIfInBounds_toArray, List.set_cons_zero, List.set_cons_succ, i64_w, i32_w]
  rfl
 refine one_ (i := 2) (N := some 7) #[true, true, true, false, true, true, false, false] rfl rfl (one_of HT_.out (by kernel_rfl)) (by decide) (fun K hK => ?_)
 refine goes_ Try.func106 (by kernel_rfl) rfl #[.agg #[.int .i64 a0_0, .slice A0_1 l0_1.length c0_1], .int .i64 a1] (by rfl) rfl rfl (by (try simp only [List.map_toArray, List.map_cons, List.map_nil]); first | done | rfl) ?_
 with_reducible refine (impl_sorted.calls k a0_0 _ _ l0_1 a1 t690 _ ?side1 ?side2 A3.out).mono ?_
 (case side1 => exact viaC (Kd.C_below HR0_1.out HB.out))
 (case side2 => exact HC0_1.out)
 rintro e w6 ⟨v691, rfl, ho0, hb⟩
 refine ⟨_, rfl, ?_⟩
 have n0_ := Aside0.mk (Kd.R_lower ho0 (below_size (viaX HB.out GE689.out))); have n1_ := Aside0.mk (blk_below (g := gb689) (o := .cells #[.int .i64 a0_0, .slice A0_1 l0_1.length c0_1] 25 (0, 0)) (viaB BK689.out) hb); have n2_ := Aside0.mk (below_step (viaX HB.out GE689.out) hb); clear BK689; clear HB; have HO692 := n0_; have BK689 := n1_; have HB := n2_; clear n0_ n1_ n2_
 (try clear hb)
 (try clear hb2)
 (try clear hk)
 (try clear hi)
 (try clear ho0)
 obtain ⟨Ao7, co7, eo7⟩ := Kd.R_slice HO692.out
 (first | subst eo7 | (injection eo7 with f1_ f2_ f3_; have f4_ := f1_.symm; have f5_ := f3_.symm; clear f1_ f2_ f3_; subst f4_; subst f5_))
 refine hK.out _ _ ⟨(blk_cell BK689.out 0).trans rfl, (blk_cell BK689.out 1).trans rfl⟩ (fun hHeld => ?_)
 clear hK K
 refine norm_ (a' := ?_) ?_ ?_
 rotate_left
 ·show Act.put _ (some 7) _ = _
  simp only [Act.put, List.setIfInBounds_toArray, List.set_cons_zero, List.set_cons_succ, i64_w, i32_w]
  rfl
 refine pure_ (i := 3) (N := some 8) (v := ?_) (a' := ?_) #[true, true, true, true, true, true, false, false] rfl rfl (any_of HT_.out (by kernel_rfl)) (fun _ _ _ h => h) (Or.inl ⟨by rfl, ?_⟩) ?_ ?_
 rotate_left
 ·intro w'
  go_simp
  with_reducible rfl
 rotate_left
 ·simp only [Act.put, List.setIfInBounds_toArray, List.set_cons_zero, List.set_cons_succ, i64_w, i32_w]
  rfl
 refine pure_ (i := 6) (N := some 11) (v := ?_) (a' := ?_) #[true, true, true, true, true, true, true, false] rfl rfl (any_of HT_.out (by kernel_rfl)) (fun _ _ _ h => h) (Or.inl ⟨by rfl, ?_⟩) ?_ ?_
 rotate_left
 ·intro w'
  go_simp
  with_reducible rfl
 rotate_left
 ·simp only [Act.put, List.setIfInBounds_toArray, List.set_cons_zero, List.set_cons_succ, i64_w, i32_w]
  rfl
 refine pure_ (i := 7) (N := some 4) (v := ?_) (a' := ?_) #[true, true, true, true, true, true, true, true] rfl rfl (any_of HT_.out (by kernel_rfl)) (fun _ _ _ h => h) (Or.inl ⟨by rfl, ?_⟩) ?_ ?_
 rotate_left
 ·intro w'
  go_simp
  with_reducible rfl
 rotate_left
 ·simp only [Act.put, List.setIfInBounds_toArray, List.set_cons_zero, List.set_cons_succ, i64_w, i32_w]
  rfl
 refine done_ (done_of HT_.out (by kernel_rfl)) ?_
 try go_wp2
 go_ret
 exact ⟨by first | rfl | (simp [errW_none, errW_some] <;> rfl) | (simp [*, errW_none, errW_some] <;> rfl), viaX HB.out GE689.out⟩
/-! ### impl_PlainIn: function 30 -/
def impl_PlainIn.f (k : Nat) (a0_0 : Int) (l0_1 : List (S69)) (a1 : Int) : Option (Bool) := (impl_WayIn.f k a0_0 l0_1 a1).bind fun t694 => (if t694 = true then ((impl_isPlain.f k a0_0 l0_1 a1).bind fun t695 => (some t695)) else (some false))
theorem impl_PlainIn.mono : ∀ a0 a1 a2 k, LeO (impl_PlainIn.f k a0 a1 a2) (impl_PlainIn.f (k + 1) a0 a1 a2) := by
 intro a0 a1 a2 k
 unfold impl_PlainIn.f
 repeat' first
   | (with_reducible exact impl_WayIn.mono _ _ _ _)
   | (with_reducible exact impl_isPlain.mono _ _ _ _)
   | (with_reducible exact LeO.refl _)
   | (with_reducible exact LeO.none _)
   | (with_reducible refine LeO.ite ?_ ?_)
   | (with_reducible refine LeO.bind ?_ (fun _ => ?_))
   | exact impl_WayIn.mono _ _ _ _
   | exact impl_isPlain.mono _ _ _ _
   | exact LeO.none _
   | refine LeO.ite ?_ ?_
   | refine LeO.bind ?_ (fun _ => ?_)
set_option maxHeartbeats 8000000 in
set_option maxRecDepth 100000 in
theorem impl_PlainIn.calls (k : Nat) (a0_0 : Int) (A0_1 : Option Addr) (c0_1 : Nat) (l0_1 : List (S69)) (a1 : Int) (r : Bool) (w : World) (hr0_1 : Kd.C k69 w A0_1 l0_1.length l0_1) (hc0_1 : l0_1.length ≤ c0_1) (h : impl_PlainIn.f k a0_0 l0_1 a1 = some r) :
  Calls Try.prog 30 #[.agg #[.int .i64 a0_0, .slice A0_1 l0_1.length c0_1], .int .i64 a1] w fun e w' => e = .returned (.bool r) ∧ Below w.heap.size w w' := by
 have hu25 := Try.underlying25; have HR0_1 := Aside0.mk hr0_1; have HC0_1 := Aside0.mk hc0_1; clear hr0_1 hc0_1; have HB := Aside0.mk (Below.refl w.heap.size w); have H : ((impl_WayIn.f k a0_0 l0_1 a1).bind fun t694 => (if t694 = true then ((impl_isPlain.f k a0_0 l0_1 a1).bind fun t695 => (some t695)) else (some false))) = some r := h; clear h; replace H := Option.bind_eq_some_iff.mp H; obtain ⟨t694, A30, H⟩ := H; replace H : (if t694 = true then ((impl_isPlain.f k a0_0 l0_1 a1).bind fun t695 => (some t695)) else (some false)) = some r := H; have A3 := Aside0.mk A30; clear A30
 by_cases c4 : t694 = true
 ·subst c4
  have H1 : ((impl_isPlain.f k a0_0 l0_1 a1).bind fun t695 => (some t695)) = some r := by rw [if_pos rfl] at H; exact H
  clear H; have H := H1; clear H1; replace H := Option.bind_eq_some_iff.mp H; obtain ⟨t695, A50, H⟩ := H; replace H : (some t695) = some r := H; have A5 := Aside0.mk A50; clear A50; obtain rfl := Option.some.inj H
  go_enter Try.func30, Try.ntmps30
  go_wp2_with (first | ((with_reducible refine gate_dst (N := 2) rfl ?_); refine box_event ?hg (N := 2) ?hd (cs := #[.int .i64 a0_0, .slice A0_1 l0_1.length c0_1]) (t := 25) ?hr ?_; (case hd => rfl); (case hg => rfl); (case hr => first | (go_simp; done) | (go_simp; rfl)); intro gb693 hg w6 hbox hb; have n0_ := Aside0.mk (below_step (viaW HB.out) hb); have n1_ := Aside0.mk (hbox); have n2_ := Aside0.mk ((by rw [hg]; exact (below_size (viaW HB.out)) : w.heap.size ≤ gb693)); have n3_ := Aside0.mk ((by rw [hg]; exact (below_size (viaW HB.out)) : w.heap.size ≤ gb693)); clear HB; have HB := n0_; have BK693 := n1_; have GW693 := n2_; have GE693 := n3_; clear n0_ n1_ n2_ n3_; clear hb hbox hg; have hcz7_0 : w6.cell? ⟨gb693, 0, none⟩ = some (.int .i64 a0_0) := (blk_cell BK693.out 0).trans rfl; have hcz7_1 : w6.cell? ⟨gb693, 1, none⟩ = some (.slice A0_1 l0_1.length c0_1) := (blk_cell BK693.out 1).trans rfl; have hfz7_0 := blk_frozen BK693.out 0; have hfz7_1 := blk_frozen BK693.out 1) | ((with_reducible refine gate_callee (f := 60) rfl ?_); refine goesL_ (some 7) rfl rfl Try.func60 (by kernel_rfl) rfl #[.agg #[.int .i64 a0_0, .slice A0_1 l0_1.length c0_1], .int .i64 a1] rfl (by (try simp only [List.map_toArray, List.map_cons, List.map_nil]); first | done | rfl) ?_; (with_reducible refine (impl_WayIn.calls k a0_0 _ _ l0_1 a1 true _ ?side1 ?side2 A3.out).mono ?_); (case side1 => exact viaC (Kd.C_below HR0_1.out HB.out)); (case side2 => exact HC0_1.out); rintro e w8 ⟨rfl, hb⟩; refine ⟨_, rfl, ?_⟩; have n0_ := Aside0.mk (blk_below (g := gb693) (o := .cells #[.int .i64 a0_0, .slice A0_1 l0_1.length c0_1] 25 (0, 0)) (viaB BK693.out) hb); have n1_ := Aside0.mk (below_step (viaX HB.out GE693.out) hb); clear BK693; clear HB; have BK693 := n0_; have HB := n1_; clear n0_ n1_; (try clear hb); (try clear hb2); (try clear hk); (try clear hi); have hcz9_0 : w8.cell? ⟨gb693, 0, none⟩ = some (.int .i64 a0_0) := (blk_cell BK693.out 0).trans rfl; have hcz9_1 : w8.cell? ⟨gb693, 1, none⟩ = some (.slice A0_1 l0_1.length c0_1) := (blk_cell BK693.out 1).trans rfl; have hfz9_0 := blk_frozen BK693.out 0; have hfz9_1 := blk_frozen BK693.out 1) | (go_at_call 69; (with_reducible refine (impl_isPlain.calls k a0_0 _ _ l0_1 a1 t695 _ ?side1 ?side2 A5.out).mono ?_); (case side1 => exact viaC (Kd.C_below HR0_1.out HB.out)); (case side2 => exact HC0_1.out); rintro e w10 ⟨rfl, hb⟩; have n0_ := Aside0.mk (blk_below (g := gb693) (o := .cells #[.int .i64 a0_0, .slice A0_1 l0_1.length c0_1] 25 (0, 0)) (viaB BK693.out) hb); have n1_ := Aside0.mk (below_step (viaX HB.out GE693.out) hb); clear BK693; clear HB; have BK693 := n0_; have HB := n1_; clear n0_ n1_; (try clear hb); (try clear hb2); (try clear hk); (try clear hi)))
  go_ret
  exact ⟨by first | rfl | (simp [errW_none, errW_some] <;> rfl) | (simp [*, errW_none, errW_some] <;> rfl), viaX HB.out GE693.out⟩
 ·replace c4 := Bool.eq_false_iff.mpr c4
  subst c4; have H1 : (some false) = some r := by rw [if_neg (show ¬ (false = true) by decide)] at H; exact H
  clear H; have H := H1; clear H1; obtain rfl := Option.some.inj H
  go_enter Try.func30, Try.ntmps30
  go_wp2_with (first | ((with_reducible refine gate_dst (N := 2) rfl ?_); refine box_event ?hg (N := 2) ?hd (cs := #[.int .i64 a0_0, .slice A0_1 l0_1.length c0_1]) (t := 25) ?hr ?_; (case hd => rfl); (case hg => rfl); (case hr => first | (go_simp; done) | (go_simp; rfl)); intro gb693 hg w11 hbox hb; have n0_ := Aside0.mk (below_step (viaW HB.out) hb); have n1_ := Aside0.mk (hbox); have n2_ := Aside0.mk ((by rw [hg]; exact (below_size (viaW HB.out)) : w.heap.size ≤ gb693)); have n3_ := Aside0.mk ((by rw [hg]; exact (below_size (viaW HB.out)) : w.heap.size ≤ gb693)); clear HB; have HB := n0_; have BK693 := n1_; have GW693 := n2_; have GE693 := n3_; clear n0_ n1_ n2_ n3_; clear hb hbox hg; have hcz12_0 : w11.cell? ⟨gb693, 0, none⟩ = some (.int .i64 a0_0) := (blk_cell BK693.out 0).trans rfl; have hcz12_1 : w11.cell? ⟨gb693, 1, none⟩ = some (.slice A0_1 l0_1.length c0_1) := (blk_cell BK693.out 1).trans rfl; have hfz12_0 := blk_frozen BK693.out 0; have hfz12_1 := blk_frozen BK693.out 1) | ((with_reducible refine gate_callee (f := 60) rfl ?_); refine goesL_ (some 7) rfl rfl Try.func60 (by kernel_rfl) rfl #[.agg #[.int .i64 a0_0, .slice A0_1 l0_1.length c0_1], .int .i64 a1] rfl (by (try simp only [List.map_toArray, List.map_cons, List.map_nil]); first | done | rfl) ?_; (with_reducible refine (impl_WayIn.calls k a0_0 _ _ l0_1 a1 false _ ?side1 ?side2 A3.out).mono ?_); (case side1 => exact viaC (Kd.C_below HR0_1.out HB.out)); (case side2 => exact HC0_1.out); rintro e w13 ⟨rfl, hb⟩; refine ⟨_, rfl, ?_⟩; have n0_ := Aside0.mk (blk_below (g := gb693) (o := .cells #[.int .i64 a0_0, .slice A0_1 l0_1.length c0_1] 25 (0, 0)) (viaB BK693.out) hb); have n1_ := Aside0.mk (below_step (viaX HB.out GE693.out) hb); clear BK693; clear HB; have BK693 := n0_; have HB := n1_; clear n0_ n1_; (try clear hb); (try clear hb2); (try clear hk); (try clear hi)))
  go_ret
  exact ⟨by first | rfl | (simp [errW_none, errW_some] <;> rfl) | (simp [*, errW_none, errW_some] <;> rfl), viaX HB.out GE693.out⟩
/-! ### laws_FnRounds: function 6 -/
mutual
def laws_FnRounds.j0 : Nat → Int → List Int → Bool → List Int → Bool → Bool → Int → List (S69) → Option (Bool)
 | 0, _, _, _, _, _, _, _, _ => none
 | k + 1, x4, x5, x6, x7, x8, x46, x702000, x702001 => if x46 = true then (if (x6 == x8) = true then ((laws_sameInts.f k x5 x7).bind fun t711 => (some t711)) else (some false)) else ((impl_WayOut.f k x702000 x702001 x4).bind fun bt712 => (laws_FnRounds.l0 k x4 x5 bt712.1 bt712.2 0 x702000 x702001))
def laws_FnRounds.l0 : Nat → Int → List Int → List Int → Bool → Int → Int → List (S69) → Option (Bool)
 | 0, _, _, _, _, _, _, _ => none
 | k + 1, x4, x5, x9, x10, x11, x702000, x702001 => if x11 < (x5.length : Int) then (if 0 ≤ x11 then ((impl_WayOut.f k x702000 x702001 (rd x5 x11)).bind fun bt718 => (if bt718.2 = true then ((laws_sameInts.f k x9 bt718.1).bind fun t722 => (if t722 = true then (if (rd x5 x11) = x4 then (some false) else (laws_FnRounds.l0 k x4 x5 x9 x10 (wrap64 (x11 + 1)) x702000 x702001)) else (some false))) else (some false))) else (none)) else (if x10 = true then ((impl_PlainIn.f k x702000 x702001 x4).bind fun t716 => (some (((x5.length : Int) == 0) == t716))) else (some false))
end
def laws_FnRounds.f (k : Nat) (l0 : List Int) : Option (Bool) := if (l0.length : Int) > 1048576 then (some true) else ((spec_DrawFlipRounds.f k l0).bind fun bt696 => ((impl_FlipRounds.f k bt696.1 bt696.2.1 bt696.2.2).bind fun bt702 => ((spec_FlipRounds.f k bt696.1 bt696.2.1 bt696.2.2).bind fun bt706 => (if (bt702.2 != bt706.2) = true then (laws_FnRounds.j0 k bt696.2.2 bt702.1 bt702.2 bt706.1 bt706.2 true bt696.1 bt696.2.1) else ((laws_sameInts.f k bt702.1 bt706.1).bind fun t710 => (if t710 = true then (laws_FnRounds.j0 k bt696.2.2 bt702.1 bt702.2 bt706.1 bt706.2 (!bt702.2) bt696.1 bt696.2.1) else (laws_FnRounds.j0 k bt696.2.2 bt702.1 bt702.2 bt706.1 bt706.2 true bt696.1 bt696.2.1)))))))
theorem laws_FnRounds.mono_l : ∀ k, (∀ y0 y1 y2 y3 y4 y5 y6 y7, LeO (laws_FnRounds.j0 k y0 y1 y2 y3 y4 y5 y6 y7) (laws_FnRounds.j0 (k + 1) y0 y1 y2 y3 y4 y5 y6 y7)) ∧ (∀ y0 y1 y2 y3 y4 y5 y6, LeO (laws_FnRounds.l0 k y0 y1 y2 y3 y4 y5 y6) (laws_FnRounds.l0 (k + 1) y0 y1 y2 y3 y4 y5 y6))
 | 0 => ⟨fun _ _ _ _ _ _ _ _ r h => by simp [laws_FnRounds.j0] at h, fun _ _ _ _ _ _ _ r h => by simp [laws_FnRounds.l0] at h⟩
 | k + 1 => by
  obtain ⟨ih0, ih1⟩ := laws_FnRounds.mono_l k
  refine ⟨?_, ?_⟩
  ·intro y0 y1 y2 y3 y4 y5 y6 y7
   unfold laws_FnRounds.j0
   repeat' first
   | (with_reducible exact ih0 _ _ _ _ _ _ _ _)
   | (with_reducible exact ih1 _ _ _ _ _ _ _)
   | (with_reducible exact impl_FlipRounds.mono _ _ _ _)
   | (with_reducible exact impl_PlainIn.mono _ _ _ _)
   | (with_reducible exact impl_WayOut.mono _ _ _ _)
   | (with_reducible exact laws_sameInts.mono _ _ _)
   | (with_reducible exact spec_DrawFlipRounds.mono _ _)
   | (with_reducible exact spec_FlipRounds.mono _ _ _ _)
   | (with_reducible exact LeO.refl _)
   | (with_reducible exact LeO.none _)
   | (with_reducible refine LeO.ite ?_ ?_)
   | (with_reducible refine LeO.bind ?_ (fun _ => ?_))
   | exact ih0 _ _ _ _ _ _ _ _
   | exact ih1 _ _ _ _ _ _ _
   | exact impl_FlipRounds.mono _ _ _ _
   | exact impl_PlainIn.mono _ _ _ _
   | exact impl_WayOut.mono _ _ _ _
   | exact laws_sameInts.mono _ _ _
   | exact spec_DrawFlipRounds.mono _ _
   | exact spec_FlipRounds.mono _ _ _ _
   | exact LeO.none _
   | refine LeO.ite ?_ ?_
   | refine LeO.bind ?_ (fun _ => ?_)
  ·intro y0 y1 y2 y3 y4 y5 y6
   unfold laws_FnRounds.l0
   repeat' first
   | (with_reducible exact ih0 _ _ _ _ _ _ _ _)
   | (with_reducible exact ih1 _ _ _ _ _ _ _)
   | (with_reducible exact impl_FlipRounds.mono _ _ _ _)
   | (with_reducible exact impl_PlainIn.mono _ _ _ _)
   | (with_reducible exact impl_WayOut.mono _ _ _ _)
   | (with_reducible exact laws_sameInts.mono _ _ _)
   | (with_reducible exact spec_DrawFlipRounds.mono _ _)
   | (with_reducible exact spec_FlipRounds.mono _ _ _ _)
   | (with_reducible exact LeO.refl _)
   | (with_reducible exact LeO.none _)
   | (with_reducible refine LeO.ite ?_ ?_)
   | (with_reducible refine LeO.bind ?_ (fun _ => ?_))
   | exact ih0 _ _ _ _ _ _ _ _
   | exact ih1 _ _ _ _ _ _ _
   | exact impl_FlipRounds.mono _ _ _ _
   | exact impl_PlainIn.mono _ _ _ _
   | exact impl_WayOut.mono _ _ _ _
   | exact laws_sameInts.mono _ _ _
   | exact spec_DrawFlipRounds.mono _ _
   | exact spec_FlipRounds.mono _ _ _ _
   | exact LeO.none _
   | refine LeO.ite ?_ ?_
   | refine LeO.bind ?_ (fun _ => ?_)
theorem laws_FnRounds.mono : ∀ a0 k, LeO (laws_FnRounds.f k a0) (laws_FnRounds.f (k + 1) a0) := by
 intro a0 k; obtain ⟨ih0, ih1⟩ := laws_FnRounds.mono_l k
 unfold laws_FnRounds.f
 repeat' first
   | (with_reducible exact ih0 _ _ _ _ _ _ _ _)
   | (with_reducible exact ih1 _ _ _ _ _ _ _)
   | (with_reducible exact impl_FlipRounds.mono _ _ _ _)
   | (with_reducible exact impl_PlainIn.mono _ _ _ _)
   | (with_reducible exact impl_WayOut.mono _ _ _ _)
   | (with_reducible exact laws_sameInts.mono _ _ _)
   | (with_reducible exact spec_DrawFlipRounds.mono _ _)
   | (with_reducible exact spec_FlipRounds.mono _ _ _ _)
   | (with_reducible exact LeO.refl _)
   | (with_reducible exact LeO.none _)
   | (with_reducible refine LeO.ite ?_ ?_)
   | (with_reducible refine LeO.bind ?_ (fun _ => ?_))
   | exact ih0 _ _ _ _ _ _ _ _
   | exact ih1 _ _ _ _ _ _ _
   | exact impl_FlipRounds.mono _ _ _ _
   | exact impl_PlainIn.mono _ _ _ _
   | exact impl_WayOut.mono _ _ _ _
   | exact laws_sameInts.mono _ _ _
   | exact spec_DrawFlipRounds.mono _ _
   | exact spec_FlipRounds.mono _ _ _ _
   | exact LeO.none _
   | refine LeO.ite ?_ ?_
   | refine LeO.bind ?_ (fun _ => ?_)
def laws_FnRounds.T12 : Bool × List (List Nat × List Nat) := (true, [([], []), ([], []), ([], []), ([1, 2], [1, 2]), ([3], [3]), ([0, 4], [0, 4]), ([5], [5]), ([6], [6]), ([6], [6]), ([7, 5, 0, 1, 2, 3, 4, 5, 6, 7], [7]), ([8, 9, 0, 1, 2, 3, 4, 5, 6, 7, 8, 9], [8])])
def laws_FnRounds.B12 : List Nat := [0, 0, 0, 6, 14, 31, 63, 127, 127, 255, 1023]
theorem laws_FnRounds.tab12 : rtab .any (opsOf Try.f6 12) = laws_FnRounds.T12 := by kernel_rfl
theorem laws_FnRounds.bits12 : waitsOk laws_FnRounds.T12.2 laws_FnRounds.B12 = true := by kernel_rfl
set_option maxHeartbeats 8000000 in
set_option maxRecDepth 100000 in
theorem laws_FnRounds.calls (k : Nat) (A0 : Option Addr) (c0 : Nat) (l0 : List Int) (r : Bool) (w : World) (hr0 : Kd.C (Kd.int .u8) w A0 l0.length l0) (hc0 : l0.length ≤ c0) (h : laws_FnRounds.f k l0 = some r) :
  Calls Try.prog 6 #[.slice A0 l0.length c0] w fun e w' => e = .returned (.bool r) ∧ Below w.heap.size w w' := by
 have hu25 := Try.underlying25; have HR0 := Aside0.mk hr0; have HC0 := Aside0.mk hc0; clear hr0 hc0; have HB := Aside0.mk (Below.refl w.heap.size w); have H : (if (l0.length : Int) > 1048576 then (some true) else ((spec_DrawFlipRounds.f k l0).bind fun bt696 => ((impl_FlipRounds.f k bt696.1 bt696.2.1 bt696.2.2).bind fun bt702 => ((spec_FlipRounds.f k bt696.1 bt696.2.1 bt696.2.2).bind fun bt706 => (if (bt702.2 != bt706.2) = true then (laws_FnRounds.j0 k bt696.2.2 bt702.1 bt702.2 bt706.1 bt706.2 true bt696.1 bt696.2.1) else ((laws_sameInts.f k bt702.1 bt706.1).bind fun t710 => (if t710 = true then (laws_FnRounds.j0 k bt696.2.2 bt702.1 bt702.2 bt706.1 bt706.2 (!bt702.2) bt696.1 bt696.2.1) else (laws_FnRounds.j0 k bt696.2.2 bt702.1 bt702.2 bt706.1 bt706.2 true bt696.1 bt696.2.1)))))))) = some r := h; clear h
 by_cases c2 : (l0.length : Int) > 1048576
 ·rw [if_pos c2] at H
  have c2b0 : decide (1048576 < (l0.length : Int)) = true := decide_eq_true c2; have c2b1 : decide (1048576 < l0.length) = true := decide_eq_true (by omega); clear c2; obtain rfl := Option.some.inj H
  go_enter Try.func6, Try.ntmps6
  go_wp2
  go_ret
  exact ⟨by first | rfl | (simp [errW_none, errW_some] <;> rfl) | (simp [*, errW_none, errW_some] <;> rfl), viaW HB.out⟩
 ·rw [if_neg c2] at H
  have c2b0 : decide (1048576 < (l0.length : Int)) = false := decide_eq_false c2; have c2b1 : decide (1048576 < l0.length) = false := decide_eq_false (by omega); clear c2; replace H := Option.bind_eq_some_iff.mp H; obtain ⟨⟨t696, t697, t700⟩, A30, H⟩ := H; replace H : ((impl_FlipRounds.f k t696 t697 t700).bind fun bt702 => ((spec_FlipRounds.f k t696 t697 t700).bind fun bt706 => (if (bt702.2 != bt706.2) = true then (laws_FnRounds.j0 k t700 bt702.1 bt702.2 bt706.1 bt706.2 true t696 t697) else ((laws_sameInts.f k bt702.1 bt706.1).bind fun t710 => (if t710 = true then (laws_FnRounds.j0 k t700 bt702.1 bt702.2 bt706.1 bt706.2 (!bt702.2) t696 t697) else (laws_FnRounds.j0 k t700 bt702.1 bt702.2 bt706.1 bt706.2 true t696 t697)))))) = some r := H; have A3 := Aside0.mk A30; clear A30; replace H := Option.bind_eq_some_iff.mp H; obtain ⟨⟨t702, t705⟩, A40, H⟩ := H; replace H : ((spec_FlipRounds.f k t696 t697 t700).bind fun bt706 => (if (t705 != bt706.2) = true then (laws_FnRounds.j0 k t700 t702 t705 bt706.1 bt706.2 true t696 t697) else ((laws_sameInts.f k t702 bt706.1).bind fun t710 => (if t710 = true then (laws_FnRounds.j0 k t700 t702 t705 bt706.1 bt706.2 (!t705) t696 t697) else (laws_FnRounds.j0 k t700 t702 t705 bt706.1 bt706.2 true t696 t697))))) = some r := H; have A4 := Aside0.mk A40; clear A40; replace H := Option.bind_eq_some_iff.mp H; obtain ⟨⟨t706, t709⟩, A50, H⟩ := H; replace H : (if (t705 != t709) = true then (laws_FnRounds.j0 k t700 t702 t705 t706 t709 true t696 t697) else ((laws_sameInts.f k t702 t706).bind fun t710 => (if t710 = true then (laws_FnRounds.j0 k t700 t702 t705 t706 t709 (!t705) t696 t697) else (laws_FnRounds.j0 k t700 t702 t705 t706 t709 true t696 t697)))) = some r := H; have A5 := Aside0.mk A50; clear A50; have HC6 := Aside0.mk H; clear H
  go_enter Try.func6, Try.ntmps6
  go_upto_region 6 with (first | ((with_reducible refine gate_callee (f := 28) rfl ?_); refine goesL_ (some 19) rfl rfl Try.func28 (by kernel_rfl) rfl #[.slice A0 l0.length c0] rfl (by (try simp only [List.map_toArray, List.map_cons, List.map_nil]); first | done | rfl) ?_; (with_reducible refine (spec_DrawFlipRounds.calls k _ _ l0 t696 t697 t700 _ ?side1 ?side2 A3.out).mono ?_); (case side1 => exact viaC HR0.out); (case side2 => exact HC0.out); rintro e w7 ⟨v698, rfl, ho0, hb⟩; refine ⟨_, rfl, ?_⟩; have n0_ := Aside0.mk (Kd.R_lower ho0 (below_size (viaW HB.out))); have n1_ := Aside0.mk (below_step (viaW HB.out) hb); clear HB; have HO699 := n0_; have HB := n1_; clear n0_ n1_; (try clear hb); (try clear hb2); (try clear hk); (try clear hi); (try clear ho0)) | ((with_reducible refine gate_dst (N := 3) rfl ?_); (try (refine gate_guard (by rfl) ?_; dsimp only)); refine box_event ?hg (N := 3) ?hd (cs := #[.int .i64 0, .slice none 0 0]) (t := 25) ?hr ?_; (case hd => rfl); (case hg => rfl); (case hr => first | (go_simp; done) | (go_simp; rfl)); intro gb701 hg w8 hbox hb; have n0_ := Aside0.mk (Kd.R_below (viaR HO699.out) hb); have n1_ := Aside0.mk (below_step (viaW HB.out) hb); have n2_ := Aside0.mk (hbox); have n3_ := Aside0.mk ((by rw [hg]; exact (below_size (viaW HB.out)) : w.heap.size ≤ gb701)); have n4_ := Aside0.mk ((by rw [hg]; exact (below_size (viaW HB.out)) : w.heap.size ≤ gb701)); clear HO699; clear HB; have HO699 := n0_; have HB := n1_; have BK701 := n2_; have GW701 := n3_; have GE701 := n4_; clear n0_ n1_ n2_ n3_ n4_; clear hb hbox hg; have hcz9_0 : w8.cell? ⟨gb701, 0, none⟩ = some (.int .i64 0) := (blk_cell BK701.out 0).trans rfl; have hcz9_1 : w8.cell? ⟨gb701, 1, none⟩ = some (.slice none 0 0) := (blk_cell BK701.out 1).trans rfl; have hfz9_0 := blk_frozen BK701.out 0; have hfz9_1 := blk_frozen BK701.out 1; obtain ⟨Ao10, co10, eo10⟩ := Kd.R_slice HO699.out; subst eo10) | ((with_reducible refine gate_callee (f := 26) rfl ?_); refine goesL_ (some 25) rfl rfl Try.func26 (by kernel_rfl) rfl #[.agg #[.int .i64 t696, .slice Ao10 t697.length co10], .int .i64 t700] rfl (by (try simp only [List.map_toArray, List.map_cons, List.map_nil]); first | done | rfl) ?_; (with_reducible refine (impl_FlipRounds.calls k t696 _ _ t697 t700 t702 t705 _ ?side1 ?side2 A4.out).mono ?_); (case side1 => refine (Kd.R_reads' (e := 69) (base := w.heap.size) (ok := fun k_ => True) (n := t697.length) (c := co10) ?_).2.2; exact (by (with_reducible repeat (first | apply Kd.R_alloc | apply Kd.R_drewN | apply Kd.R_drew)); exact (Kd.R_mono (Kd.R_far (p := ⟨gb701, 1, none⟩) (Kd.R_far (p := ⟨gb701, 0, none⟩) (Kd.R_types HO699.out BK701.out (by decide)) (fun _ hk => hk.2) (.int .i64 t696)) (fun _ hk => hk.2) (.slice Ao10 t697.length co10)) (fun _ h_ => h_.1)))); (case side2 => exact (Kd.R_reads' HO699.out).2.1); rintro e w11 ⟨v703, rfl, ho0, hb⟩; refine ⟨_, rfl, ?_⟩; have n0_ := Aside0.mk (Kd.R_below (by (with_reducible repeat (first | apply Kd.R_alloc | apply Kd.R_drewN | apply Kd.R_drew)); exact (Kd.R_mono (Kd.R_far (p := ⟨gb701, 1, none⟩) (Kd.R_far (p := ⟨gb701, 0, none⟩) (Kd.R_types HO699.out BK701.out (by decide)) (fun _ hk => hk.2) (.int .i64 t696)) (fun _ hk => hk.2) (.slice Ao10 t697.length co10)) (fun _ h_ => h_.1))) hb); have n1_ := Aside0.mk (Kd.R_lower ho0 (below_size (viaX HB.out GE701.out))); have n2_ := Aside0.mk (blk_below (g := gb701) (o := .cells #[.int .i64 t696, .slice Ao10 t697.length co10] 25 (0, 0)) (by (with_reducible repeat (first | refine blk_drewN ?_ _ | refine blk_drew ?_ | refine blk_alloc ?_ _)); refine blk_put (cs := #[.int .i64 t696, .slice none 0 0]) ?_ 1 _ rfl; (with_reducible repeat (first | refine blk_drewN ?_ _ | refine blk_drew ?_ | refine blk_alloc ?_ _)); refine blk_put (cs := #[.int .i64 0, .slice none 0 0]) ?_ 0 _ rfl; (with_reducible repeat (first | refine blk_drewN ?_ _ | refine blk_drew ?_ | refine blk_alloc ?_ _)); exact BK701.out) hb); have n3_ := Aside0.mk (below_step (viaX HB.out GE701.out) hb); clear HO699; clear BK701; clear HB; have HO699 := n0_; have HO704 := n1_; have BK701 := n2_; have HB := n3_; clear n0_ n1_ n2_ n3_; (try clear hb); (try clear hb2); (try clear hk); (try clear hi); (try clear ho0); have hcz12_0 : w11.cell? ⟨gb701, 0, none⟩ = some (.int .i64 t696) := (blk_cell BK701.out 0).trans rfl; have hcz12_1 : w11.cell? ⟨gb701, 1, none⟩ = some (.slice Ao10 t697.length co10) := (blk_cell BK701.out 1).trans rfl; have hfz12_0 := blk_frozen BK701.out 0; have hfz12_1 := blk_frozen BK701.out 1) | ((with_reducible refine gate_callee (f := 29) rfl ?_); refine goesL_ (some 31) rfl rfl Try.func29 (by kernel_rfl) rfl #[.agg #[.int .i64 t696, .slice Ao10 t697.length co10], .int .i64 t700] rfl (by (try simp only [List.map_toArray, List.map_cons, List.map_nil]); first | done | rfl) ?_; (with_reducible refine (spec_FlipRounds.calls k t696 _ _ t697 t700 t706 t709 _ ?side1 ?side2 A5.out).mono ?_); (case side1 => exact viaC (Kd.R_reads' HO699.out).2.2); (case side2 => exact (Kd.R_reads' HO699.out).2.1); rintro e w13 ⟨v707, rfl, ho0, hb⟩; refine ⟨_, rfl, ?_⟩; have n0_ := Aside0.mk (Kd.R_below (viaR HO699.out) hb); have n1_ := Aside0.mk (Kd.R_elder' (viaR HO704.out) (Kd.R_base ho0) hb); have n2_ := Aside0.mk (Kd.R_lower (Kd.R_new' ho0 (Kd.R_lt (viaR HO704.out))) (below_size (viaX HB.out GE701.out))); have n3_ := Aside0.mk (blk_below (g := gb701) (o := .cells #[.int .i64 t696, .slice Ao10 t697.length co10] 25 (0, 0)) (viaB BK701.out) hb); have n4_ := Aside0.mk (below_step (viaX HB.out GE701.out) hb); clear HO699; clear HO704; clear BK701; clear HB; have HO699 := n0_; have HO704 := n1_; have HO708 := n2_; have BK701 := n3_; have HB := n4_; clear n0_ n1_ n2_ n3_ n4_; (try clear hb); (try clear hb2); (try clear hk); (try clear hi); (try clear ho0)))
  (try simp only [Act.put, List.setIfInBounds_toArray, List.set_cons_zero, List.set_cons_succ])
  go_cut [46] (fun v46 wc => ∃ (kq : Nat) (x46_5 : Bool), v46 = .bool x46_5 ∧ Aside0 (laws_FnRounds.j0 kq t700 t702 t705 t706 t709 x46_5 t696 t697 = some r) ∧ Aside0 (kq ≤ k) ∧ Aside0 (Kd.R (Kd.int .i64) 3 wc w.heap.size (fun k_ => some k_ ≠ (v707 : Value).ownBlock) v703 t702) ∧ Aside0 (Kd.R (Kd.int .i64) 3 wc w.heap.size (fun k_ => some k_ ≠ (v703 : Value).ownBlock) v707 t706) ∧ Aside0 (Kd.R k69 69 wc w.heap.size (fun _ => True) (.slice Ao10 t697.length co10) t697) ∧ Aside0 (wc.heap[gb701]? = some (.cells #[.int .i64 t696, (.slice Ao10 t697.length co10)] 25 (0, 0))) ∧ Aside0 (Below w.heap.size w wc))
  case first =>
   have H := HC6.out; clear HC6
   by_cases c14 : (t705 != t709) = true
   ·rw [if_pos c14] at H
    have c14b0 : (t705 != t709) = true := c14
    (try (have c14b1 : decide (t705 = t709) = false := by simpa using c14))
    (try (have c14b2 : (t705 == t709) = false := by simpa using c14))
    (try (have c14b3 : ¬ (t705 = t709) := by simpa using c14))
    clear c14
    (first | rw [c14b0] | (simp only [i64_w, i32_w]; rw [c14b0]) | skip)
    have H' := Aside0.mk H; clear H
    go_wp2
    go_meet
    case rel => exact ⟨_, (true), (by first | rfl | (simp; done) | (simp [*]; done)), H', ⟨by first | omega | exact Nat.le_refl _⟩, ⟨by (with_reducible repeat (first | apply Kd.R_alloc | apply Kd.R_drewN | apply Kd.R_drew)); exact Kd.R_mono HO704.out (fun _ hk => hk.2)⟩, ⟨by (with_reducible repeat (first | apply Kd.R_alloc | apply Kd.R_drewN | apply Kd.R_drew)); exact Kd.R_mono HO708.out (fun _ hk => hk.2)⟩, ⟨viaR HO699.out⟩, ⟨viaB BK701.out⟩, ⟨viaX HB.out GE701.out⟩⟩
   ·rw [if_neg c14] at H
    have c14b0 : (t705 != t709) = false := by simpa using c14
    (try (have c14b1 : decide (t705 = t709) = true := by simpa using c14))
    (try (have c14b2 : (t705 == t709) = true := by simpa using c14))
    clear c14
    (first | rw [c14b0] | (simp only [i64_w, i32_w]; rw [c14b0]) | skip)
    replace H := Option.bind_eq_some_iff.mp H; obtain ⟨t710, A150, H⟩ := H; replace H : (if t710 = true then (laws_FnRounds.j0 k t700 t702 t705 t706 t709 (!t705) t696 t697) else (laws_FnRounds.j0 k t700 t702 t705 t706 t709 true t696 t697)) = some r := H; have A15 := Aside0.mk A150; clear A150
    by_cases c16 : t710 = true
    ·subst c16
     have H1 : (laws_FnRounds.j0 k t700 t702 t705 t706 t709 (!t705) t696 t697) = some r := by rw [if_pos rfl] at H; exact H
     clear H; have H := H1; clear H1; have H' := Aside0.mk H; clear H; obtain ⟨Ao17, co17, eo17⟩ := Kd.R_slice HO704.out; subst eo17; obtain ⟨Ao18, co18, eo18⟩ := Kd.R_slice HO708.out; subst eo18
     go_wp2_with (first | (go_at_call 22; (with_reducible refine (laws_sameInts.calls k _ _ t702 _ _ t706 true _ ?side1 ?side2 ?side3 ?side4 A15.out).mono ?_); (case side1 => exact viaC (Kd.R_reads' HO704.out).2.2); (case side2 => exact (Kd.R_reads' HO704.out).2.1); (case side3 => exact viaC (Kd.R_reads' HO708.out).2.2); (case side4 => exact (Kd.R_reads' HO708.out).2.1); rintro e w' ⟨rfl, ⟨nd, rfl⟩⟩))
     go_meet
     case rel => exact ⟨_, (!t705), (by first | rfl | (simp; done) | (simp [*]; done)), H', ⟨by first | omega | exact Nat.le_refl _⟩, ⟨by (with_reducible repeat (first | apply Kd.R_alloc | apply Kd.R_drewN | apply Kd.R_drew)); exact Kd.R_mono HO704.out (fun _ hk => hk.2)⟩, ⟨by (with_reducible repeat (first | apply Kd.R_alloc | apply Kd.R_drewN | apply Kd.R_drew)); exact Kd.R_mono HO708.out (fun _ hk => hk.2)⟩, ⟨viaR HO699.out⟩, ⟨viaB BK701.out⟩, ⟨viaX HB.out GE701.out⟩⟩
    ·replace c16 := Bool.eq_false_iff.mpr c16
     subst c16; have H1 : (laws_FnRounds.j0 k t700 t702 t705 t706 t709 true t696 t697) = some r := by rw [if_neg (show ¬ (false = true) by decide)] at H; exact H
     clear H; have H := H1; clear H1; have H' := Aside0.mk H; clear H; obtain ⟨Ao19, co19, eo19⟩ := Kd.R_slice HO704.out; subst eo19; obtain ⟨Ao20, co20, eo20⟩ := Kd.R_slice HO708.out; subst eo20
     go_wp2_with (first | (go_at_call 22; (with_reducible refine (laws_sameInts.calls k _ _ t702 _ _ t706 false _ ?side1 ?side2 ?side3 ?side4 A15.out).mono ?_); (case side1 => exact viaC (Kd.R_reads' HO704.out).2.2); (case side2 => exact (Kd.R_reads' HO704.out).2.1); (case side3 => exact viaC (Kd.R_reads' HO708.out).2.2); (case side4 => exact (Kd.R_reads' HO708.out).2.1); rintro e w' ⟨rfl, ⟨nd, rfl⟩⟩))
     go_meet
     case rel => exact ⟨_, (true), (by first | rfl | (simp; done) | (simp [*]; done)), H', ⟨by first | omega | exact Nat.le_refl _⟩, ⟨by (with_reducible repeat (first | apply Kd.R_alloc | apply Kd.R_drewN | apply Kd.R_drew)); exact Kd.R_mono HO704.out (fun _ hk => hk.2)⟩, ⟨by (with_reducible repeat (first | apply Kd.R_alloc | apply Kd.R_drewN | apply Kd.R_drew)); exact Kd.R_mono HO708.out (fun _ hk => hk.2)⟩, ⟨viaR HO699.out⟩, ⟨viaB BK701.out⟩, ⟨viaX HB.out GE701.out⟩⟩
  case rest =>
   clear HC6
   try clear c1
   try clear c2
   try clear c2b0
   try clear c2b1
   try clear p2
   try clear c6
   try clear c14
   try clear c14b0
   try clear c14b1
   try clear c14b2
   try clear c16
   try clear hcz12_0
   try clear hcz12_1
   try clear hcz9_0
   try clear hcz9_1
   try clear hfz12_0
   try clear hfz12_1
   try clear hfz9_0
   try clear hfz9_1
   obtain ⟨kq, x46_5, rfl, HA, HJ5, HO_5, HO_7, HO_702001, BK701, HB⟩ := hcut
   cases kq with
   | zero => exact absurd HA.out (by simp [laws_FnRounds.j0])
   | succ kj5 =>
    have H := HA.out; clear HA
    simp only [laws_FnRounds.j0] at H
    by_cases c21 : x46_5 = true
    ·subst c21
     have H1 : (if (t705 == t709) = true then ((laws_sameInts.f kj5 t702 t706).bind fun t711 => (some t711)) else (some false)) = some r := by rw [if_pos rfl] at H; exact H
     clear H; have H := H1; clear H1
     by_cases c22 : (t705 == t709) = true
     ·rw [if_pos c22] at H
      have c22b0 : (t705 == t709) = true := c22
      (try (have c22b1 : decide (t705 = t709) = true := by simpa using c22))
      (try (have c22b2 : (t705 == t709) = true := by simpa using c22))
      clear c22; replace H := Option.bind_eq_some_iff.mp H; obtain ⟨t711, A230, H⟩ := H; replace H : (some t711) = some r := H; have A23 := Aside0.mk A230; clear A230; obtain rfl := Option.some.inj H; obtain ⟨Ao24, co24, eo24⟩ := Kd.R_slice HO_5.out; subst eo24; obtain ⟨Ao25, co25, eo25⟩ := Kd.R_slice HO_7.out; subst eo25
      go_wp2_with (first | (go_at_call 22; (with_reducible refine (laws_sameInts.calls kj5 _ _ t702 _ _ t706 t711 _ ?side1 ?side2 ?side3 ?side4 A23.out).mono ?_); (case side1 => exact viaC (Kd.R_reads' HO_5.out).2.2); (case side2 => exact (Kd.R_reads' HO_5.out).2.1); (case side3 => exact viaC (Kd.R_reads' HO_7.out).2.2); (case side4 => exact (Kd.R_reads' HO_7.out).2.1); rintro e w' ⟨rfl, ⟨nd, rfl⟩⟩))
      go_ret
      exact ⟨by first | rfl | (simp [errW_none, errW_some] <;> rfl) | (simp [*, errW_none, errW_some] <;> rfl), viaX HB.out GE701.out⟩
     ·rw [if_neg c22] at H
      have c22b0 : (t705 == t709) = false := by simpa using c22
      (try (have c22b1 : decide (t705 = t709) = false := by simpa using c22))
      (try (have c22b2 : (t705 == t709) = false := by simpa using c22))
      (try (have c22b3 : ¬ (t705 = t709) := by simpa using c22))
      clear c22; obtain rfl := Option.some.inj H
      go_wp2
      go_ret
      exact ⟨by first | rfl | (simp [errW_none, errW_some] <;> rfl) | (simp [*, errW_none, errW_some] <;> rfl), viaX HB.out GE701.out⟩
    ·replace c21 := Bool.eq_false_iff.mpr c21
     subst c21; have H1 : ((impl_WayOut.f kj5 t696 t697 t700).bind fun bt712 => (laws_FnRounds.l0 kj5 t700 t702 bt712.1 bt712.2 0 t696 t697)) = some r := by rw [if_neg (show ¬ (false = true) by decide)] at H; exact H
     clear H; have H := H1; clear H1; replace H := Option.bind_eq_some_iff.mp H; obtain ⟨⟨t712, t715⟩, A260, H⟩ := H; replace H : (laws_FnRounds.l0 kj5 t700 t702 t712 t715 0 t696 t697) = some r := H; have A26 := Aside0.mk A260; clear A260; have H' := Aside0.mk H; clear H; have hcz27_0 : wc.cell? ⟨gb701, 0, none⟩ = some (.int .i64 t696) := (blk_cell BK701.out 0).trans rfl; have hcz27_1 : wc.cell? ⟨gb701, 1, none⟩ = some (.slice Ao10 t697.length co10) := (blk_cell BK701.out 1).trans rfl; have hfz27_0 := blk_frozen BK701.out 0; have hfz27_1 := blk_frozen BK701.out 1
     go_wp2_with (first | ((with_reducible refine gate_callee (f := 21) rfl ?_); refine goesL_ (some 58) rfl rfl Try.func21 (by kernel_rfl) rfl #[.agg #[.int .i64 t696, .slice Ao10 t697.length co10], .int .i64 t700] rfl (by (try simp only [List.map_toArray, List.map_cons, List.map_nil]); first | done | rfl) ?_; (with_reducible refine (impl_WayOut.calls kj5 t696 _ _ t697 t700 t712 t715 _ ?side1 ?side2 A26.out).mono ?_); (case side1 => exact viaC (Kd.R_reads' HO_702001.out).2.2); (case side2 => exact (Kd.R_reads' HO_702001.out).2.1); rintro e w28 ⟨v713, rfl, ho0, hb⟩; refine ⟨_, rfl, ?_⟩; have n0_ := Aside0.mk (Kd.R_elder' (viaR HO_5.out) (Kd.R_base ho0) hb); have n1_ := Aside0.mk (Kd.R_elder' (viaR HO_7.out) (Kd.R_base ho0) hb); have n2_ := Aside0.mk (Kd.R_below (viaR HO_702001.out) hb); have n3_ := Aside0.mk (Kd.R_lower (Kd.R_new' (Kd.R_new' ho0 (Kd.R_lt (viaR HO_5.out))) (Kd.R_lt (viaR HO_7.out))) (below_size (viaX HB.out GE701.out))); have n4_ := Aside0.mk (blk_below (g := gb701) (o := .cells #[.int .i64 t696, .slice Ao10 t697.length co10] 25 (0, 0)) (viaB BK701.out) hb); have n5_ := Aside0.mk (below_step (viaX HB.out GE701.out) hb); clear HO_5; clear HO_7; clear HO_702001; clear BK701; clear HB; have HO_5 := n0_; have HO_7 := n1_; have HO_702001 := n2_; have HO714 := n3_; have BK701 := n4_; have HB := n5_; clear n0_ n1_ n2_ n3_ n4_ n5_; (try clear hb); (try clear hb2); (try clear hk); (try clear hi); (try clear ho0)))
     go_loopg [11] kj5 (fun kq v11 w' => ∃ (x11_2 : Int), v11 = .int .i64 x11_2 ∧ Aside0 (laws_FnRounds.l0 kq t700 t702 t712 t715 x11_2 t696 t697 = some r) ∧ Aside0 (kq ≤ kj5) ∧ Aside0 (Kd.R (Kd.int .i64) 3 w' w.heap.size (fun k_ => some k_ ≠ (v713 : Value).ownBlock) v703 t702) ∧ Aside0 (Kd.R (Kd.int .i64) 3 w' w.heap.size (fun k_ => some k_ ≠ (v703 : Value).ownBlock) v713 t712) ∧ Aside0 (Kd.R k69 69 w' w.heap.size (fun _ => True) (.slice Ao10 t697.length co10) t697) ∧ Aside0 (w'.heap[gb701]? = some (.cells #[.int .i64 t696, (.slice Ao10 t697.length co10)] 25 (0, 0))) ∧ Aside0 (Below w.heap.size w w'))
     case atStart => exact ⟨(0), (by first | rfl | (simp; done) | (simp [*]; done)), H', ⟨Nat.le_refl _⟩, ⟨by (with_reducible repeat (first | apply Kd.R_alloc | apply Kd.R_drewN | apply Kd.R_drew)); exact Kd.R_mono HO_5.out (fun _ hk => hk.2)⟩, ⟨by (with_reducible repeat (first | apply Kd.R_alloc | apply Kd.R_drewN | apply Kd.R_drew)); exact Kd.R_mono HO714.out (fun _ hk => hk.1.2)⟩, ⟨viaR HO_702001.out⟩, ⟨viaB BK701.out⟩, ⟨viaX HB.out GE701.out⟩⟩
     case round =>
      clear H'
      try clear c1
      try clear c2
      try clear c2b0
      try clear c2b1
      try clear p2
      try clear c6
      try clear c14
      try clear c14b0
      try clear c14b1
      try clear c14b2
      try clear c16
      try clear c21
      try clear c22
      try clear c22b0
      try clear c22b1
      try clear c22b2
      try clear c26
      try clear c28
      try clear hcz12_0
      try clear hcz12_1
      try clear hcz27_0
      try clear hcz27_1
      try clear hcz9_0
      try clear hcz9_1
      try clear hfz12_0
      try clear hfz12_1
      try clear hfz27_0
      try clear hfz27_1
      try clear hfz9_0
      try clear hfz9_1
      try clear p2
      obtain ⟨x11_2, rfl, HA, HK2, HO_5, HO_9, HO_702001, BK701, HB⟩ := hrel
      cases gk with
      | zero => exact absurd HA.out (by simp [laws_FnRounds.l0])
      | succ k2 =>
       have H := HA.out; clear HA
       simp only [laws_FnRounds.l0] at H
       by_cases c29 : x11_2 < (t702.length : Int)
       ·rw [if_pos c29] at H
        have c29b0 : decide (x11_2 < (t702.length : Int)) = true := decide_eq_true c29; clear c29
        by_cases c30 : 0 ≤ x11_2
        ·rw [if_pos c30] at H
         have c30b0 : decide (0 ≤ x11_2) = true := decide_eq_true c30; clear c30; replace H := Option.bind_eq_some_iff.mp H; obtain ⟨⟨t718, t721⟩, A310, H⟩ := H; replace H : (if t721 = true then ((laws_sameInts.f k2 t712 t718).bind fun t722 => (if t722 = true then (if (rd t702 x11_2) = t700 then (some false) else (laws_FnRounds.l0 k2 t700 t702 t712 t715 (wrap64 (x11_2 + 1)) t696 t697)) else (some false))) else (some false)) = some r := H; have A31 := Aside0.mk A310; clear A310
         by_cases c32 : t721 = true
         ·subst c32
          have H1 : ((laws_sameInts.f k2 t712 t718).bind fun t722 => (if t722 = true then (if (rd t702 x11_2) = t700 then (some false) else (laws_FnRounds.l0 k2 t700 t702 t712 t715 (wrap64 (x11_2 + 1)) t696 t697)) else (some false))) = some r := by rw [if_pos rfl] at H; exact H
          clear H; have H := H1; clear H1; replace H := Option.bind_eq_some_iff.mp H; obtain ⟨t722, A330, H⟩ := H; replace H : (if t722 = true then (if (rd t702 x11_2) = t700 then (some false) else (laws_FnRounds.l0 k2 t700 t702 t712 t715 (wrap64 (x11_2 + 1)) t696 t697)) else (some false)) = some r := H; have A33 := Aside0.mk A330; clear A330
          by_cases c34 : t722 = true
          ·subst c34
           have H1 : (if (rd t702 x11_2) = t700 then (some false) else (laws_FnRounds.l0 k2 t700 t702 t712 t715 (wrap64 (x11_2 + 1)) t696 t697)) = some r := by rw [if_pos rfl] at H; exact H
           clear H; have H := H1; clear H1
           by_cases c35 : (rd t702 x11_2) = t700
           ·rw [if_pos c35] at H
            have c35b0 : ((rd t702 x11_2) == t700) = true := beq_iff_eq.mpr c35; have c35b1 : ((rd t702 x11_2) != t700) = false := bne_eq_false_iff_eq.mpr c35; clear c35; obtain rfl := Option.some.inj H; obtain ⟨Ao36, co36, eo36⟩ := Kd.R_slice HO_5.out; subst eo36
            try go_wp2
            have n0_ := Aside0.mk (Kd.R_drew HO_5.out); have n1_ := Aside0.mk (Kd.R_drew HO_9.out); have n2_ := Aside0.mk (Kd.R_drew HO_702001.out); have n3_ := Aside0.mk (blk_drew BK701.out); have n4_ := Aside0.mk (below_drew1 HB.out); clear HO_5; clear HO_9; clear HO_702001; clear BK701; clear HB; have HO_5 := n0_; have HO_9 := n1_; have HO_702001 := n2_; have BK701 := n3_; have HB := n4_; clear n0_ n1_ n2_ n3_ n4_; have p717 : 0 ≤ (x11_2 : Int) := of_decide_eq_true (by first | (with_reducible assumption) | assumption); have q717 : x11_2 < (t702.length : Int) := of_decide_eq_true (by first | (with_reducible assumption) | assumption); obtain ⟨ad717, e717, hx717_0⟩ := Kd.at_int (Kd.R_reads' HO_5.out).2.2 x11_2 p717 q717
            cases e717
            replace p717 := eq_true p717; replace q717 := eq_true q717
            refine start_ (n := 11) (S := fun w' => w'.cell? ⟨gb701, 0, none⟩ = some (.int .i64 t696) ∧ w'.cell? ⟨gb701, 1, none⟩ = some (.slice Ao10 t697.length co10) ∧ w'.cell? (ad717.add (x11_2).toNat) = some (.int .i64 (rd t702 x11_2))) (ds := []) #[false, false, false, false, false, false, false, false, false, false, false] (by kernel_rfl) rfl rfl ⟨(blk_cell BK701.out 0).trans rfl, (blk_cell BK701.out 1).trans rfl, hx717_0⟩ (fun hHeld => ?_); refine with_tabW laws_FnRounds.tab12 laws_FnRounds.bits12 (fun HT_ HW_ => ?_)
            generalize wr.drew = w37 at HO_5 HO_9 HO_702001 BK701 HB hx717_0 hHeld ⊢
            refine pure_ (i := 1) (N := some 69) (v := ?_) (a' := ?_) #[false, true, false, false, false, false, false, false, false, false, false] rfl rfl (any_of HT_.out (by kernel_rfl)) (fun _ _ _ h => h) (Or.inl ⟨by rfl, ?_⟩) ?_ ?_
            rotate_left
            ·intro w'
             go_simp
             with_reducible rfl
            rotate_left
            ·simp only [Act.put, List.setIfInBounds_toArray, List.set_cons_zero, List.set_cons_succ, i64_w, i32_w]
             rfl
            refine pure_ (i := 2) (N := some 70) (v := ?_) (a' := ?_) #[false, true, true, false, false, false, false, false, false, false, false] rfl rfl (any_of HT_.out (by kernel_rfl)) (fun _ _ _ h => h) (Or.inl ⟨by rfl, ?_⟩) ?_ ?_
            rotate_left
            ·intro w'
             go_simp
             with_reducible rfl
            rotate_left
            ·simp only [Act.put, List.setIfInBounds_toArray, List.set_cons_zero, List.set_cons_succ, i64_w, i32_w]
             rfl
            refine pure_ (i := 3) (N := some 71) (v := ?_) (a' := ?_) #[false, true, true, true, false, false, false, false, false, false, false] rfl rfl (any_of HT_.out (by kernel_rfl)) (fun _ _ _ h => h) (Or.inl ⟨by rfl, ?_⟩) ?_ ?_
            rotate_left
            ·intro w'
             go_simp
             with_reducible rfl
            rotate_left
            ·simp only [Act.put, List.setIfInBounds_toArray, List.set_cons_zero, List.set_cons_succ, i64_w, i32_w]
             rfl
            refine take_ (i := 0) (N := some 68) (v := ?_) (a' := ?_) #[true, true, true, true, false, false, false, false, false, false, false] rfl rfl (take_ofW HT_.out HW_.out (by kernel_rfl)) (fun _ _ _ h => h) (Or.inl ⟨by rfl, ?_⟩) hHeld ?_ ?_
            rotate_left
            ·rintro w' ⟨s0, s1, s2⟩
             go_simp
             with_reducible rfl
            rotate_left
            ·simp only [Act.put, List.setIfInBounds_toArray, List.set_cons_zero, List.set_cons_succ, i64_w, i32_w]
             rfl
            refine take_ (i := 4) (N := some 72) (v := ?_) (a' := ?_) #[true, true, true, true, true, false, false, false, false, false, false] rfl rfl (take_ofW HT_.out HW_.out (by kernel_rfl)) (fun _ _ _ h => h) (Or.inl ⟨by rfl, ?_⟩) hHeld ?_ ?_
            rotate_left
            ·rintro w' ⟨s0, s1, s2⟩
             go_simp
             with_reducible rfl
            rotate_left
            ·simp only [Act.put, List.setIfInBounds_toArray, List.set_cons_zero, List.set_cons_succ, i64_w, i32_w]
             rfl
            refine one_ (i := 5) (N := some 73) #[true, true, true, true, true, true, false, false, false, false, false] rfl rfl (one_of HT_.out (by kernel_rfl)) (by decide) (fun K hK => ?_)
            refine goes_ Try.func21 (by kernel_rfl) rfl #[.agg #[.int .i64 t696, .slice Ao10 t697.length co10], .int .i64 (rd t702 x11_2)] (by rfl) rfl rfl (by (try simp only [List.map_toArray, List.map_cons, List.map_nil]); first | done | rfl) ?_
            with_reducible refine (impl_WayOut.calls k2 t696 _ _ t697 (rd t702 x11_2) t718 true _ ?side1 ?side2 A31.out).mono ?_
            (case side1 => exact viaC (Kd.R_reads' HO_702001.out).2.2)
            (case side2 => exact (Kd.R_reads' HO_702001.out).2.1)
            rintro e w38 ⟨v719, rfl, ho0, hb⟩
            have HS2_ := (hb.cell (World.block_lt_of_cell? _ _ (hHeld.2.2))).trans (hHeld.2.2)
            refine ⟨_, rfl, ?_⟩
            have n0_ := Aside0.mk (Kd.R_elder' (viaR HO_5.out) (Kd.R_base ho0) hb); have n1_ := Aside0.mk (Kd.R_elder' (viaR HO_9.out) (Kd.R_base ho0) hb); have n2_ := Aside0.mk (Kd.R_below (viaR HO_702001.out) hb); have n3_ := Aside0.mk (Kd.R_lower (Kd.R_new' (Kd.R_new' ho0 (Kd.R_lt (viaR HO_5.out))) (Kd.R_lt (viaR HO_9.out))) (below_size (viaX HB.out GE701.out))); have n4_ := Aside0.mk (blk_below (g := gb701) (o := .cells #[.int .i64 t696, .slice Ao10 t697.length co10] 25 (0, 0)) (viaB BK701.out) hb); have n5_ := Aside0.mk (below_step (viaX HB.out GE701.out) hb); clear HO_5; clear HO_9; clear HO_702001; clear BK701; clear HB; have HO_5 := n0_; have HO_9 := n1_; have HO_702001 := n2_; have HO720 := n3_; have BK701 := n4_; have HB := n5_; clear n0_ n1_ n2_ n3_ n4_ n5_
            (try clear hb)
            (try clear hb2)
            (try clear hk)
            (try clear hi)
            (try clear ho0)
            refine hK.out _ _ ⟨(blk_cell BK701.out 0).trans rfl, (blk_cell BK701.out 1).trans rfl, HS2_⟩ (fun hHeld => ?_)
            clear hK K
            refine norm_ (a' := ?_) ?_ ?_
            rotate_left
            ·show Act.put _ (some 73) _ = _
             simp only [Act.put, List.setIfInBounds_toArray, List.set_cons_zero, List.set_cons_succ, i64_w, i32_w]
             rfl
            refine pure_ (i := 6) (N := some 67) (v := ?_) (a' := ?_) #[true, true, true, true, true, true, true, false, false, false, false] rfl rfl (any_of HT_.out (by kernel_rfl)) (fun _ _ _ h => h) (Or.inl ⟨by rfl, ?_⟩) ?_ ?_
            rotate_left
            ·intro w'
             go_simp
             with_reducible rfl
            rotate_left
            ·simp only [Act.put, List.setIfInBounds_toArray, List.set_cons_zero, List.set_cons_succ, i64_w, i32_w]
             rfl
            refine pure_ (i := 7) (N := some 74) (v := ?_) (a' := ?_) #[true, true, true, true, true, true, true, true, false, false, false] rfl rfl (any_of HT_.out (by kernel_rfl)) (fun _ _ _ h => h) (Or.inl ⟨by rfl, ?_⟩) ?_ ?_
            rotate_left
            ·intro w'
             go_simp
             with_reducible rfl
            rotate_left
            ·simp only [Act.put, List.setIfInBounds_toArray, List.set_cons_zero, List.set_cons_succ, i64_w, i32_w]
             rfl
            refine pure_ (i := 8) (N := some 75) (v := ?_) (a' := ?_) #[true, true, true, true, true, true, true, true, true, false, false] rfl rfl (any_of HT_.out (by kernel_rfl)) (fun _ _ _ h => h) (Or.inl ⟨by rfl, ?_⟩) ?_ ?_
            rotate_left
            ·intro w'
             go_simp
             with_reducible rfl
            rotate_left
            ·simp only [Act.put, List.setIfInBounds_toArray, List.set_cons_zero, List.set_cons_succ, i64_w, i32_w]
             rfl
            refine pure_ (i := 9) (N := some 12) (v := ?_) (a' := ?_) #[true, true, true, true, true, true, true, true, true, true, false] rfl rfl (any_of HT_.out (by kernel_rfl)) (fun _ _ _ h => h) (Or.inl ⟨by rfl, ?_⟩) ?_ ?_
            rotate_left
            ·intro w'
             go_simp
             with_reducible rfl
            rotate_left
            ·simp only [Act.put, List.setIfInBounds_toArray, List.set_cons_zero, List.set_cons_succ, i64_w, i32_w]
             rfl
            refine pure_ (i := 10) (N := some 13) (v := ?_) (a' := ?_) #[true, true, true, true, true, true, true, true, true, true, true] rfl rfl (any_of HT_.out (by kernel_rfl)) (fun _ _ _ h => h) (Or.inl ⟨by rfl, ?_⟩) ?_ ?_
            rotate_left
            ·intro w'
             go_simp
             with_reducible rfl
            rotate_left
            ·simp only [Act.put, List.setIfInBounds_toArray, List.set_cons_zero, List.set_cons_succ, i64_w, i32_w]
             rfl
            refine done_ (done_of HT_.out (by kernel_rfl)) ?_
            obtain ⟨Ao39, co39, eo39⟩ := Kd.R_slice HO_9.out; subst eo39; obtain ⟨Ao40, co40, eo40⟩ := Kd.R_slice HO720.out; subst eo40
            try go_wp2_with (first | (go_at_call 22; (with_reducible refine (laws_sameInts.calls k2 _ _ t712 _ _ t718 true _ ?side1 ?side2 ?side3 ?side4 A33.out).mono ?_); (case side1 => exact viaC (Kd.R_reads' HO_9.out).2.2); (case side2 => exact (Kd.R_reads' HO_9.out).2.1); (case side3 => exact viaC (Kd.R_reads' HO720.out).2.2); (case side4 => exact (Kd.R_reads' HO720.out).2.1); rintro e w' ⟨rfl, ⟨nd, rfl⟩⟩; have p723 : 0 ≤ (x11_2 : Int) := of_decide_eq_true (by first | (with_reducible assumption) | assumption); have q723 : x11_2 < (t702.length : Int) := of_decide_eq_true (by first | (with_reducible assumption) | assumption); obtain ⟨ad723, e723, hx723_0⟩ := Kd.at_int (Kd.R_reads' HO_5.out).2.2 x11_2 p723 q723; obtain rfl : ad717 = ad723 := (by injection e723); replace p723 := eq_true p723; replace q723 := eq_true q723))
            go_ret
            exact ⟨by first | rfl | (simp [errW_none, errW_some] <;> rfl) | (simp [*, errW_none, errW_some] <;> rfl), viaX HB.out GE701.out⟩
           ·rw [if_neg c35] at H
            have c35b0 : ((rd t702 x11_2) == t700) = false := beq_eq_false_iff_ne.mpr c35; have c35b1 : ((rd t702 x11_2) != t700) = true := bne_iff_ne.mpr c35; have H' := Aside0.mk H; clear H; obtain ⟨Ao41, co41, eo41⟩ := Kd.R_slice HO_5.out; subst eo41
            try go_wp2
            have n0_ := Aside0.mk (Kd.R_drew HO_5.out); have n1_ := Aside0.mk (Kd.R_drew HO_9.out); have n2_ := Aside0.mk (Kd.R_drew HO_702001.out); have n3_ := Aside0.mk (blk_drew BK701.out); have n4_ := Aside0.mk (below_drew1 HB.out); clear HO_5; clear HO_9; clear HO_702001; clear BK701; clear HB; have HO_5 := n0_; have HO_9 := n1_; have HO_702001 := n2_; have BK701 := n3_; have HB := n4_; clear n0_ n1_ n2_ n3_ n4_; have p717 : 0 ≤ (x11_2 : Int) := of_decide_eq_true (by first | (with_reducible assumption) | assumption); have q717 : x11_2 < (t702.length : Int) := of_decide_eq_true (by first | (with_reducible assumption) | assumption); obtain ⟨ad717, e717, hx717_0⟩ := Kd.at_int (Kd.R_reads' HO_5.out).2.2 x11_2 p717 q717
            cases e717
            replace p717 := eq_true p717; replace q717 := eq_true q717
            refine start_ (n := 11) (S := fun w' => w'.cell? ⟨gb701, 0, none⟩ = some (.int .i64 t696) ∧ w'.cell? ⟨gb701, 1, none⟩ = some (.slice Ao10 t697.length co10) ∧ w'.cell? (ad717.add (x11_2).toNat) = some (.int .i64 (rd t702 x11_2))) (ds := []) #[false, false, false, false, false, false, false, false, false, false, false] (by kernel_rfl) rfl rfl ⟨(blk_cell BK701.out 0).trans rfl, (blk_cell BK701.out 1).trans rfl, hx717_0⟩ (fun hHeld => ?_); refine with_tabW laws_FnRounds.tab12 laws_FnRounds.bits12 (fun HT_ HW_ => ?_)
            generalize wr.drew = w42 at HO_5 HO_9 HO_702001 BK701 HB hx717_0 hHeld ⊢
            refine pure_ (i := 1) (N := some 69) (v := ?_) (a' := ?_) #[false, true, false, false, false, false, false, false, false, false, false] rfl rfl (any_of HT_.out (by kernel_rfl)) (fun _ _ _ h => h) (Or.inl ⟨by rfl, ?_⟩) ?_ ?_
            rotate_left
            ·intro w'
             go_simp
             with_reducible rfl
            rotate_left
            ·simp only [Act.put, List.setIfInBounds_toArray, List.set_cons_zero, List.set_cons_succ, i64_w, i32_w]
             rfl
            refine pure_ (i := 2) (N := some 70) (v := ?_) (a' := ?_) #[false, true, true, false, false, false, false, false, false, false, false] rfl rfl (any_of HT_.out (by kernel_rfl)) (fun _ _ _ h => h) (Or.inl ⟨by rfl, ?_⟩) ?_ ?_
            rotate_left
            ·intro w'
             go_simp
             with_reducible rfl
            rotate_left
            ·simp only [Act.put, List.setIfInBounds_toArray, List.set_cons_zero, List.set_cons_succ, i64_w, i32_w]
             rfl
            refine pure_ (i := 3) (N := some 71) (v := ?_) (a' := ?_) #[false, true, true, true, false, false, false, false, false, false, false] rfl rfl (any_of HT_.out (by kernel_rfl)) (fun _ _ _ h => h) (Or.inl ⟨by rfl, ?_⟩) ?_ ?_
            rotate_left
            ·intro w'
             go_simp
             with_reducible rfl
            rotate_left
            ·simp only [Act.put, List.setIfInBounds_toArray, List.set_cons_zero, List.set_cons_succ, i64_w, i32_w]
             rfl
            refine take_ (i := 0) (N := some 68) (v := ?_) (a' := ?_) #[true, true, true, true, false, false, false, false, false, false, false] rfl rfl (take_ofW HT_.out HW_.out (by kernel_rfl)) (fun _ _ _ h => h) (Or.inl ⟨by rfl, ?_⟩) hHeld ?_ ?_
            rotate_left
            ·rintro w' ⟨s0, s1, s2⟩
             go_simp
             with_reducible rfl
            rotate_left
            ·simp only [Act.put, List.setIfInBounds_toArray, List.set_cons_zero, List.set_cons_succ, i64_w, i32_w]
             rfl
            refine take_ (i := 4) (N := some 72) (v := ?_) (a' := ?_) #[true, true, true, true, true, false, false, false, false, false, false] rfl rfl (take_ofW HT_.out HW_.out (by kernel_rfl)) (fun _ _ _ h => h) (Or.inl ⟨by rfl, ?_⟩) hHeld ?_ ?_
            rotate_left
            ·rintro w' ⟨s0, s1, s2⟩
             go_simp
             with_reducible rfl
            rotate_left
            ·simp only [Act.put, List.setIfInBounds_toArray, List.set_cons_zero, List.set_cons_succ, i64_w, i32_w]
             rfl
            refine one_ (i := 5) (N := some 73) #[true, true, true, true, true, true, false, false, false, false, false] rfl rfl (one_of HT_.out (by kernel_rfl)) (by decide) (fun K hK => ?_)
            refine goes_ Try.func21 (by kernel_rfl) rfl #[.agg #[.int .i64 t696, .slice Ao10 t697.length co10], .int .i64 (rd t702 x11_2)] (by rfl) rfl rfl (by (try simp only [List.map_toArray, List.map_cons, List.map_nil]); first | done | rfl) ?_
            with_reducible refine (impl_WayOut.calls k2 t696 _ _ t697 (rd t702 x11_2) t718 true _ ?side1 ?side2 A31.out).mono ?_
            (case side1 => exact viaC (Kd.R_reads' HO_702001.out).2.2)
            (case side2 => exact (Kd.R_reads' HO_702001.out).2.1)
            rintro e w43 ⟨v719, rfl, ho0, hb⟩
            have HS2_ := (hb.cell (World.block_lt_of_cell? _ _ (hHeld.2.2))).trans (hHeld.2.2)
            refine ⟨_, rfl, ?_⟩
            have n0_ := Aside0.mk (Kd.R_elder' (viaR HO_5.out) (Kd.R_base ho0) hb); have n1_ := Aside0.mk (Kd.R_elder' (viaR HO_9.out) (Kd.R_base ho0) hb); have n2_ := Aside0.mk (Kd.R_below (viaR HO_702001.out) hb); have n3_ := Aside0.mk (Kd.R_lower (Kd.R_new' (Kd.R_new' ho0 (Kd.R_lt (viaR HO_5.out))) (Kd.R_lt (viaR HO_9.out))) (below_size (viaX HB.out GE701.out))); have n4_ := Aside0.mk (blk_below (g := gb701) (o := .cells #[.int .i64 t696, .slice Ao10 t697.length co10] 25 (0, 0)) (viaB BK701.out) hb); have n5_ := Aside0.mk (below_step (viaX HB.out GE701.out) hb); clear HO_5; clear HO_9; clear HO_702001; clear BK701; clear HB; have HO_5 := n0_; have HO_9 := n1_; have HO_702001 := n2_; have HO720 := n3_; have BK701 := n4_; have HB := n5_; clear n0_ n1_ n2_ n3_ n4_ n5_
            (try clear hb)
            (try clear hb2)
            (try clear hk)
            (try clear hi)
            (try clear ho0)
            refine hK.out _ _ ⟨(blk_cell BK701.out 0).trans rfl, (blk_cell BK701.out 1).trans rfl, HS2_⟩ (fun hHeld => ?_)
            clear hK K
            refine norm_ (a' := ?_) ?_ ?_
            rotate_left
            ·show Act.put _ (some 73) _ = _
             simp only [Act.put, List.setIfInBounds_toArray, List.set_cons_zero, List.set_cons_succ, i64_w, i32_w]
             rfl
            refine pure_ (i := 6) (N := some 67) (v := ?_) (a' := ?_) #[true, true, true, true, true, true, true, false, false, false, false] rfl rfl (any_of HT_.out (by kernel_rfl)) (fun _ _ _ h => h) (Or.inl ⟨by rfl, ?_⟩) ?_ ?_
            rotate_left
            ·intro w'
             go_simp
             with_reducible rfl
            rotate_left
            ·simp only [Act.put, List.setIfInBounds_toArray, List.set_cons_zero, List.set_cons_succ, i64_w, i32_w]
             rfl
            refine pure_ (i := 7) (N := some 74) (v := ?_) (a' := ?_) #[true, true, true, true, true, true, true, true, false, false, false] rfl rfl (any_of HT_.out (by kernel_rfl)) (fun _ _ _ h => h) (Or.inl ⟨by rfl, ?_⟩) ?_ ?_
            rotate_left
            ·intro w'
             go_simp
             with_reducible rfl
            rotate_left
            ·simp only [Act.put, List.setIfInBounds_toArray, List.set_cons_zero, List.set_cons_succ, i64_w, i32_w]
             rfl
            refine pure_ (i := 8) (N := some 75) (v := ?_) (a' := ?_) #[true, true, true, true, true, true, true, true, true, false, false] rfl rfl (any_of HT_.out (by kernel_rfl)) (fun _ _ _ h => h) (Or.inl ⟨by rfl, ?_⟩) ?_ ?_
            rotate_left
            ·intro w'
             go_simp
             with_reducible rfl
            rotate_left
            ·simp only [Act.put, List.setIfInBounds_toArray, List.set_cons_zero, List.set_cons_succ, i64_w, i32_w]
             rfl
            refine pure_ (i := 9) (N := some 12) (v := ?_) (a' := ?_) #[true, true, true, true, true, true, true, true, true, true, false] rfl rfl (any_of HT_.out (by kernel_rfl)) (fun _ _ _ h => h) (Or.inl ⟨by rfl, ?_⟩) ?_ ?_
            rotate_left
            ·intro w'
             go_simp
             with_reducible rfl
            rotate_left
            ·simp only [Act.put, List.setIfInBounds_toArray, List.set_cons_zero, List.set_cons_succ, i64_w, i32_w]
             rfl
            refine pure_ (i := 10) (N := some 13) (v := ?_) (a' := ?_) #[true, true, true, true, true, true, true, true, true, true, true] rfl rfl (any_of HT_.out (by kernel_rfl)) (fun _ _ _ h => h) (Or.inl ⟨by rfl, ?_⟩) ?_ ?_
            rotate_left
            ·intro w'
             go_simp
             with_reducible rfl
            rotate_left
            ·simp only [Act.put, List.setIfInBounds_toArray, List.set_cons_zero, List.set_cons_succ, i64_w, i32_w]
             rfl
            refine done_ (done_of HT_.out (by kernel_rfl)) ?_
            obtain ⟨Ao44, co44, eo44⟩ := Kd.R_slice HO_9.out; subst eo44; obtain ⟨Ao45, co45, eo45⟩ := Kd.R_slice HO720.out; subst eo45
            try go_wp2_with (first | (go_at_call 22; (with_reducible refine (laws_sameInts.calls k2 _ _ t712 _ _ t718 true _ ?side1 ?side2 ?side3 ?side4 A33.out).mono ?_); (case side1 => exact viaC (Kd.R_reads' HO_9.out).2.2); (case side2 => exact (Kd.R_reads' HO_9.out).2.1); (case side3 => exact viaC (Kd.R_reads' HO720.out).2.2); (case side4 => exact (Kd.R_reads' HO720.out).2.1); rintro e w' ⟨rfl, ⟨nd, rfl⟩⟩; have p723 : 0 ≤ (x11_2 : Int) := of_decide_eq_true (by first | (with_reducible assumption) | assumption); have q723 : x11_2 < (t702.length : Int) := of_decide_eq_true (by first | (with_reducible assumption) | assumption); obtain ⟨ad723, e723, hx723_0⟩ := Kd.at_int (Kd.R_reads' HO_5.out).2.2 x11_2 p723 q723; obtain rfl : ad717 = ad723 := (by injection e723); replace p723 := eq_true p723; replace q723 := eq_true q723))
            go_roundg k2
            case measure => have := HJ5.out; have := HK2.out; omega
            case rel => exact ⟨(wrap64 (x11_2 + 1)), (by first | rfl | (simp; done) | (simp [*]; done)), H', ⟨by have := HJ5.out; have := HK2.out; omega⟩, ⟨by (with_reducible repeat (first | apply Kd.R_alloc | apply Kd.R_drewN | apply Kd.R_drew)); exact Kd.R_mono HO_5.out (fun _ hk => hk.1)⟩, ⟨by (with_reducible repeat (first | apply Kd.R_alloc | apply Kd.R_drewN | apply Kd.R_drew)); exact Kd.R_mono HO_9.out (fun _ hk => hk.1)⟩, ⟨viaR HO_702001.out⟩, ⟨viaB BK701.out⟩, ⟨viaX HB.out GE701.out⟩⟩
          ·replace c34 := Bool.eq_false_iff.mpr c34
           subst c34; have H1 : (some false) = some r := by rw [if_neg (show ¬ (false = true) by decide)] at H; exact H
           clear H; have H := H1; clear H1; obtain rfl := Option.some.inj H; obtain ⟨Ao46, co46, eo46⟩ := Kd.R_slice HO_5.out; subst eo46
           try go_wp2
           have n0_ := Aside0.mk (Kd.R_drew HO_5.out); have n1_ := Aside0.mk (Kd.R_drew HO_9.out); have n2_ := Aside0.mk (Kd.R_drew HO_702001.out); have n3_ := Aside0.mk (blk_drew BK701.out); have n4_ := Aside0.mk (below_drew1 HB.out); clear HO_5; clear HO_9; clear HO_702001; clear BK701; clear HB; have HO_5 := n0_; have HO_9 := n1_; have HO_702001 := n2_; have BK701 := n3_; have HB := n4_; clear n0_ n1_ n2_ n3_ n4_; have p717 : 0 ≤ (x11_2 : Int) := of_decide_eq_true (by first | (with_reducible assumption) | assumption); have q717 : x11_2 < (t702.length : Int) := of_decide_eq_true (by first | (with_reducible assumption) | assumption); obtain ⟨ad717, e717, hx717_0⟩ := Kd.at_int (Kd.R_reads' HO_5.out).2.2 x11_2 p717 q717
           cases e717
           replace p717 := eq_true p717; replace q717 := eq_true q717
           refine start_ (n := 11) (S := fun w' => w'.cell? ⟨gb701, 0, none⟩ = some (.int .i64 t696) ∧ w'.cell? ⟨gb701, 1, none⟩ = some (.slice Ao10 t697.length co10) ∧ w'.cell? (ad717.add (x11_2).toNat) = some (.int .i64 (rd t702 x11_2))) (ds := []) #[false, false, false, false, false, false, false, false, false, false, false] (by kernel_rfl) rfl rfl ⟨(blk_cell BK701.out 0).trans rfl, (blk_cell BK701.out 1).trans rfl, hx717_0⟩ (fun hHeld => ?_); refine with_tabW laws_FnRounds.tab12 laws_FnRounds.bits12 (fun HT_ HW_ => ?_)
           generalize wr.drew = w47 at HO_5 HO_9 HO_702001 BK701 HB hx717_0 hHeld ⊢
           refine pure_ (i := 1) (N := some 69) (v := ?_) (a' := ?_) #[false, true, false, false, false, false, false, false, false, false, false] rfl rfl (any_of HT_.out (by kernel_rfl)) (fun _ _ _ h => h) (Or.inl ⟨by rfl, ?_⟩) ?_ ?_
           rotate_left
           ·intro w'
            go_simp
            with_reducible rfl
           rotate_left
           ·simp only [Act.put, List.setIfInBounds_toArray, List.set_cons_zero, List.set_cons_succ, i64_w, i32_w]
            rfl
           refine pure_ (i := 2) (N := some 70) (v := ?_) (a' := ?_) #[false, true, true, false, false, false, false, false, false, false, false] rfl rfl (any_of HT_.out (by kernel_rfl)) (fun _ _ _ h => h) (Or.inl ⟨by rfl, ?_⟩) ?_ ?_
           rotate_left
           ·intro w'
            go_simp
            with_reducible rfl
           rotate_left
           ·simp only [Act.put, List.setIfInBounds_toArray, List.set_cons_zero, List.set_cons_succ, i64_w, i32_w]
            rfl
           refine pure_ (i := 3) (N := some 71) (v := ?_) (a' := ?_) #[false, true, true, true, false, false, false, false, false, false, false] rfl rfl (any_of HT_.out (by kernel_rfl)) (fun _ _ _ h => h) (Or.inl ⟨by rfl, ?_⟩) ?_ ?_
           rotate_left
           ·intro w'
            go_simp
            with_reducible rfl
           rotate_left
           ·simp only [Act.put, List.setIfInBounds_toArray, List.set_cons_zero, List.set_cons_succ, i64_w, i32_w]
            rfl
           refine take_ (i := 0) (N := some 68) (v := ?_) (a' := ?_) #[true, true, true, true, false, false, false, false, false, false, false] rfl rfl (take_ofW HT_.out HW_.out (by kernel_rfl)) (fun _ _ _ h => h) (Or.inl ⟨by rfl, ?_⟩) hHeld ?_ ?_
           rotate_left
           ·rintro w' ⟨s0, s1, s2⟩
            go_simp
            with_reducible rfl
           rotate_left
           ·simp only [Act.put, List.setIfInBounds_toArray, List.set_cons_zero, List.set_cons_succ, i64_w, i32_w]
            rfl
           refine take_ (i := 4) (N := some 72) (v := ?_) (a' := ?_) #[true, true, true, true, true, false, false, false, false, false, false] rfl rfl (take_ofW HT_.out HW_.out (by kernel_rfl)) (fun _ _ _ h => h) (Or.inl ⟨by rfl, ?_⟩) hHeld ?_ ?_
           rotate_left
           ·rintro w' ⟨s0, s1, s2⟩
            go_simp
            with_reducible rfl
           rotate_left
           ·simp only [Act.put, List.setIfInBounds_toArray, List.set_cons_zero, List.set_cons_succ, i64_w, i32_w]
            rfl
           refine one_ (i := 5) (N := some 73) #[true, true, true, true, true, true, false, false, false, false, false] rfl rfl (one_of HT_.out (by kernel_rfl)) (by decide) (fun K hK => ?_)
           refine goes_ Try.func21 (by kernel_rfl) rfl #[.agg #[.int .i64 t696, .slice Ao10 t697.length co10], .int .i64 (rd t702 x11_2)] (by rfl) rfl rfl (by (try simp only [List.map_toArray, List.map_cons, List.map_nil]); first | done | rfl) ?_
           with_reducible refine (impl_WayOut.calls k2 t696 _ _ t697 (rd t702 x11_2) t718 true _ ?side1 ?side2 A31.out).mono ?_
           (case side1 => exact viaC (Kd.R_reads' HO_702001.out).2.2)
           (case side2 => exact (Kd.R_reads' HO_702001.out).2.1)
           rintro e w48 ⟨v719, rfl, ho0, hb⟩
           have HS2_ := (hb.cell (World.block_lt_of_cell? _ _ (hHeld.2.2))).trans (hHeld.2.2)
           refine ⟨_, rfl, ?_⟩
           have n0_ := Aside0.mk (Kd.R_elder' (viaR HO_5.out) (Kd.R_base ho0) hb); have n1_ := Aside0.mk (Kd.R_elder' (viaR HO_9.out) (Kd.R_base ho0) hb); have n2_ := Aside0.mk (Kd.R_below (viaR HO_702001.out) hb); have n3_ := Aside0.mk (Kd.R_lower (Kd.R_new' (Kd.R_new' ho0 (Kd.R_lt (viaR HO_5.out))) (Kd.R_lt (viaR HO_9.out))) (below_size (viaX HB.out GE701.out))); have n4_ := Aside0.mk (blk_below (g := gb701) (o := .cells #[.int .i64 t696, .slice Ao10 t697.length co10] 25 (0, 0)) (viaB BK701.out) hb); have n5_ := Aside0.mk (below_step (viaX HB.out GE701.out) hb); clear HO_5; clear HO_9; clear HO_702001; clear BK701; clear HB; have HO_5 := n0_; have HO_9 := n1_; have HO_702001 := n2_; have HO720 := n3_; have BK701 := n4_; have HB := n5_; clear n0_ n1_ n2_ n3_ n4_ n5_
           (try clear hb)
           (try clear hb2)
           (try clear hk)
           (try clear hi)
           (try clear ho0)
           refine hK.out _ _ ⟨(blk_cell BK701.out 0).trans rfl, (blk_cell BK701.out 1).trans rfl, HS2_⟩ (fun hHeld => ?_)
           clear hK K
           refine norm_ (a' := ?_) ?_ ?_
           rotate_left
           ·show Act.put _ (some 73) _ = _
            simp only [Act.put, List.setIfInBounds_toArray, List.set_cons_zero, List.set_cons_succ, i64_w, i32_w]
            rfl
           refine pure_ (i := 6) (N := some 67) (v := ?_) (a' := ?_) #[true, true, true, true, true, true, true, false, false, false, false] rfl rfl (any_of HT_.out (by kernel_rfl)) (fun _ _ _ h => h) (Or.inl ⟨by rfl, ?_⟩) ?_ ?_
           rotate_left
           ·intro w'
            go_simp
            with_reducible rfl
           rotate_left
           ·simp only [Act.put, List.setIfInBounds_toArray, List.set_cons_zero, List.set_cons_succ, i64_w, i32_w]
            rfl
           refine pure_ (i := 7) (N := some 74) (v := ?_) (a' := ?_) #[true, true, true, true, true, true, true, true, false, false, false] rfl rfl (any_of HT_.out (by kernel_rfl)) (fun _ _ _ h => h) (Or.inl ⟨by rfl, ?_⟩) ?_ ?_
           rotate_left
           ·intro w'
            go_simp
            with_reducible rfl
           rotate_left
           ·simp only [Act.put, List.setIfInBounds_toArray, List.set_cons_zero, List.set_cons_succ, i64_w, i32_w]
            rfl
           refine pure_ (i := 8) (N := some 75) (v := ?_) (a' := ?_) #[true, true, true, true, true, true, true, true, true, false, false] rfl rfl (any_of HT_.out (by kernel_rfl)) (fun _ _ _ h => h) (Or.inl ⟨by rfl, ?_⟩) ?_ ?_
           rotate_left
           ·intro w'
            go_simp
            with_reducible rfl
           rotate_left
           ·simp only [Act.put, List.setIfInBounds_toArray, List.set_cons_zero, List.set_cons_succ, i64_w, i32_w]
            rfl
           refine pure_ (i := 9) (N := some 12) (v := ?_) (a' := ?_) #[true, true, true, true, true, true, true, true, true, true, false] rfl rfl (any_of HT_.out (by kernel_rfl)) (fun _ _ _ h => h) (Or.inl ⟨by rfl, ?_⟩) ?_ ?_
           rotate_left
           ·intro w'
            go_simp
            with_reducible rfl
           rotate_left
           ·simp only [Act.put, List.setIfInBounds_toArray, List.set_cons_zero, List.set_cons_succ, i64_w, i32_w]
            rfl
           refine pure_ (i := 10) (N := some 13) (v := ?_) (a' := ?_) #[true, true, true, true, true, true, true, true, true, true, true] rfl rfl (any_of HT_.out (by kernel_rfl)) (fun _ _ _ h => h) (Or.inl ⟨by rfl, ?_⟩) ?_ ?_
           rotate_left
           ·intro w'
            go_simp
            with_reducible rfl
           rotate_left
           ·simp only [Act.put, List.setIfInBounds_toArray, List.set_cons_zero, List.set_cons_succ, i64_w, i32_w]
            rfl
           refine done_ (done_of HT_.out (by kernel_rfl)) ?_
           obtain ⟨Ao49, co49, eo49⟩ := Kd.R_slice HO_9.out; subst eo49; obtain ⟨Ao50, co50, eo50⟩ := Kd.R_slice HO720.out; subst eo50
           try go_wp2_with (first | (go_at_call 22; (with_reducible refine (laws_sameInts.calls k2 _ _ t712 _ _ t718 false _ ?side1 ?side2 ?side3 ?side4 A33.out).mono ?_); (case side1 => exact viaC (Kd.R_reads' HO_9.out).2.2); (case side2 => exact (Kd.R_reads' HO_9.out).2.1); (case side3 => exact viaC (Kd.R_reads' HO720.out).2.2); (case side4 => exact (Kd.R_reads' HO720.out).2.1); rintro e w' ⟨rfl, ⟨nd, rfl⟩⟩))
           go_ret
           exact ⟨by first | rfl | (simp [errW_none, errW_some] <;> rfl) | (simp [*, errW_none, errW_some] <;> rfl), viaX HB.out GE701.out⟩
         ·replace c32 := Bool.eq_false_iff.mpr c32
          subst c32; have H1 : (some false) = some r := by rw [if_neg (show ¬ (false = true) by decide)] at H; exact H
          clear H; have H := H1; clear H1; obtain rfl := Option.some.inj H; obtain ⟨Ao51, co51, eo51⟩ := Kd.R_slice HO_5.out; subst eo51
          try go_wp2
          have n0_ := Aside0.mk (Kd.R_drew HO_5.out); have n1_ := Aside0.mk (Kd.R_drew HO_9.out); have n2_ := Aside0.mk (Kd.R_drew HO_702001.out); have n3_ := Aside0.mk (blk_drew BK701.out); have n4_ := Aside0.mk (below_drew1 HB.out); clear HO_5; clear HO_9; clear HO_702001; clear BK701; clear HB; have HO_5 := n0_; have HO_9 := n1_; have HO_702001 := n2_; have BK701 := n3_; have HB := n4_; clear n0_ n1_ n2_ n3_ n4_; have p717 : 0 ≤ (x11_2 : Int) := of_decide_eq_true (by first | (with_reducible assumption) | assumption); have q717 : x11_2 < (t702.length : Int) := of_decide_eq_true (by first | (with_reducible assumption) | assumption); obtain ⟨ad717, e717, hx717_0⟩ := Kd.at_int (Kd.R_reads' HO_5.out).2.2 x11_2 p717 q717
          cases e717
          replace p717 := eq_true p717; replace q717 := eq_true q717
          refine start_ (n := 11) (S := fun w' => w'.cell? ⟨gb701, 0, none⟩ = some (.int .i64 t696) ∧ w'.cell? ⟨gb701, 1, none⟩ = some (.slice Ao10 t697.length co10) ∧ w'.cell? (ad717.add (x11_2).toNat) = some (.int .i64 (rd t702 x11_2))) (ds := []) #[false, false, false, false, false, false, false, false, false, false, false] (by kernel_rfl) rfl rfl ⟨(blk_cell BK701.out 0).trans rfl, (blk_cell BK701.out 1).trans rfl, hx717_0⟩ (fun hHeld => ?_); refine with_tabW laws_FnRounds.tab12 laws_FnRounds.bits12 (fun HT_ HW_ => ?_)
          generalize wr.drew = w52 at HO_5 HO_9 HO_702001 BK701 HB hx717_0 hHeld ⊢
          refine pure_ (i := 1) (N := some 69) (v := ?_) (a' := ?_) #[false, true, false, false, false, false, false, false, false, false, false] rfl rfl (any_of HT_.out (by kernel_rfl)) (fun _ _ _ h => h) (Or.inl ⟨by rfl, ?_⟩) ?_ ?_
          rotate_left
          ·intro w'
           go_simp
           with_reducible rfl
          rotate_left
          ·simp only [Act.put, List.setIfInBounds_toArray, List.set_cons_zero, List.set_cons_succ, i64_w, i32_w]
           rfl
          refine pure_ (i := 2) (N := some 70) (v := ?_) (a' := ?_) #[false, true, true, false, false, false, false, false, false, false, false] rfl rfl (any_of HT_.out (by kernel_rfl)) (fun _ _ _ h => h) (Or.inl ⟨by rfl, ?_⟩) ?_ ?_
          rotate_left
          ·intro w'
           go_simp
           with_reducible rfl
          rotate_left
          ·simp only [Act.put, List.setIfInBounds_toArray, List.set_cons_zero, List.set_cons_succ, i64_w, i32_w]
           rfl
          refine pure_ (i := 3) (N := some 71) (v := ?_) (a' := ?_) #[false, true, true, true, false, false, false, false, false, false, false] rfl rfl (any_of HT_.out (by kernel_rfl)) (fun _ _ _ h => h) (Or.inl ⟨by rfl, ?_⟩) ?_ ?_
          rotate_left
          ·intro w'
           go_simp
           with_reducible rfl
          rotate_left
          ·simp only [Act.put, List.setIfInBounds_toArray, List.set_cons_zero, List.set_cons_succ, i64_w, i32_w]
           rfl
          refine take_ (i := 0) (N := some 68) (v := ?_) (a' := ?_) #[true, true, true, true, false, false, false, false, false, false, false] rfl rfl (take_ofW HT_.out HW_.out (by kernel_rfl)) (fun _ _ _ h => h) (Or.inl ⟨by rfl, ?_⟩) hHeld ?_ ?_
          rotate_left
          ·rintro w' ⟨s0, s1, s2⟩
           go_simp
           with_reducible rfl
          rotate_left
          ·simp only [Act.put, List.setIfInBounds_toArray, List.set_cons_zero, List.set_cons_succ, i64_w, i32_w]
           rfl
          refine take_ (i := 4) (N := some 72) (v := ?_) (a' := ?_) #[true, true, true, true, true, false, false, false, false, false, false] rfl rfl (take_ofW HT_.out HW_.out (by kernel_rfl)) (fun _ _ _ h => h) (Or.inl ⟨by rfl, ?_⟩) hHeld ?_ ?_
          rotate_left
          ·rintro w' ⟨s0, s1, s2⟩
           go_simp
           with_reducible rfl
          rotate_left
          ·simp only [Act.put, List.setIfInBounds_toArray, List.set_cons_zero, List.set_cons_succ, i64_w, i32_w]
           rfl
          refine one_ (i := 5) (N := some 73) #[true, true, true, true, true, true, false, false, false, false, false] rfl rfl (one_of HT_.out (by kernel_rfl)) (by decide) (fun K hK => ?_)
          refine goes_ Try.func21 (by kernel_rfl) rfl #[.agg #[.int .i64 t696, .slice Ao10 t697.length co10], .int .i64 (rd t702 x11_2)] (by rfl) rfl rfl (by (try simp only [List.map_toArray, List.map_cons, List.map_nil]); first | done | rfl) ?_
          with_reducible refine (impl_WayOut.calls k2 t696 _ _ t697 (rd t702 x11_2) t718 false _ ?side1 ?side2 A31.out).mono ?_
          (case side1 => exact viaC (Kd.R_reads' HO_702001.out).2.2)
          (case side2 => exact (Kd.R_reads' HO_702001.out).2.1)
          rintro e w53 ⟨v719, rfl, ho0, hb⟩
          have HS2_ := (hb.cell (World.block_lt_of_cell? _ _ (hHeld.2.2))).trans (hHeld.2.2)
          refine ⟨_, rfl, ?_⟩
          have n0_ := Aside0.mk (Kd.R_elder' (viaR HO_5.out) (Kd.R_base ho0) hb); have n1_ := Aside0.mk (Kd.R_elder' (viaR HO_9.out) (Kd.R_base ho0) hb); have n2_ := Aside0.mk (Kd.R_below (viaR HO_702001.out) hb); have n3_ := Aside0.mk (Kd.R_lower (Kd.R_new' (Kd.R_new' ho0 (Kd.R_lt (viaR HO_5.out))) (Kd.R_lt (viaR HO_9.out))) (below_size (viaX HB.out GE701.out))); have n4_ := Aside0.mk (blk_below (g := gb701) (o := .cells #[.int .i64 t696, .slice Ao10 t697.length co10] 25 (0, 0)) (viaB BK701.out) hb); have n5_ := Aside0.mk (below_step (viaX HB.out GE701.out) hb); clear HO_5; clear HO_9; clear HO_702001; clear BK701; clear HB; have HO_5 := n0_; have HO_9 := n1_; have HO_702001 := n2_; have HO720 := n3_; have BK701 := n4_; have HB := n5_; clear n0_ n1_ n2_ n3_ n4_ n5_
          (try clear hb)
          (try clear hb2)
          (try clear hk)
          (try clear hi)
          (try clear ho0)
          refine hK.out _ _ ⟨(blk_cell BK701.out 0).trans rfl, (blk_cell BK701.out 1).trans rfl, HS2_⟩ (fun hHeld => ?_)
          clear hK K
          refine norm_ (a' := ?_) ?_ ?_
          rotate_left
          ·show Act.put _ (some 73) _ = _
           simp only [Act.put, List.setIfInBounds_toArray, List.set_cons_zero, List.set_cons_succ, i64_w, i32_w]
           rfl
          refine pure_ (i := 6) (N := some 67) (v := ?_) (a' := ?_) #[true, true, true, true, true, true, true, false, false, false, false] rfl rfl (any_of HT_.out (by kernel_rfl)) (fun _ _ _ h => h) (Or.inl ⟨by rfl, ?_⟩) ?_ ?_
          rotate_left
          ·intro w'
           go_simp
           with_reducible rfl
          rotate_left
          ·simp only [Act.put, List.setIfInBounds_toArray, List.set_cons_zero, List.set_cons_succ, i64_w, i32_w]
           rfl
          refine pure_ (i := 7) (N := some 74) (v := ?_) (a' := ?_) #[true, true, true, true, true, true, true, true, false, false, false] rfl rfl (any_of HT_.out (by kernel_rfl)) (fun _ _ _ h => h) (Or.inl ⟨by rfl, ?_⟩) ?_ ?_
          rotate_left
          ·intro w'
           go_simp
           with_reducible rfl
          rotate_left
          ·simp only [Act.put, List.setIfInBounds_toArray, List.set_cons_zero, List.set_cons_succ, i64_w, i32_w]
           rfl
          refine pure_ (i := 8) (N := some 75) (v := ?_) (a' := ?_) #[true, true, true, true, true, true, true, true, true, false, false] rfl rfl (any_of HT_.out (by kernel_rfl)) (fun _ _ _ h => h) (Or.inl ⟨by rfl, ?_⟩) ?_ ?_
          rotate_left
          ·intro w'
           go_simp
           with_reducible rfl
          rotate_left
          ·simp only [Act.put, List.setIfInBounds_toArray, List.set_cons_zero, List.set_cons_succ, i64_w, i32_w]
           rfl
          refine pure_ (i := 9) (N := some 12) (v := ?_) (a' := ?_) #[true, true, true, true, true, true, true, true, true, true, false] rfl rfl (any_of HT_.out (by kernel_rfl)) (fun _ _ _ h => h) (Or.inl ⟨by rfl, ?_⟩) ?_ ?_
          rotate_left
          ·intro w'
           go_simp
           with_reducible rfl
          rotate_left
          ·simp only [Act.put, List.setIfInBounds_toArray, List.set_cons_zero, List.set_cons_succ, i64_w, i32_w]
           rfl
          refine pure_ (i := 10) (N := some 13) (v := ?_) (a' := ?_) #[true, true, true, true, true, true, true, true, true, true, true] rfl rfl (any_of HT_.out (by kernel_rfl)) (fun _ _ _ h => h) (Or.inl ⟨by rfl, ?_⟩) ?_ ?_
          rotate_left
          ·intro w'
           go_simp
           with_reducible rfl
          rotate_left
          ·simp only [Act.put, List.setIfInBounds_toArray, List.set_cons_zero, List.set_cons_succ, i64_w, i32_w]
           rfl
          refine done_ (done_of HT_.out (by kernel_rfl)) ?_
          try go_wp2
          go_ret
          exact ⟨by first | rfl | (simp [errW_none, errW_some] <;> rfl) | (simp [*, errW_none, errW_some] <;> rfl), viaX HB.out GE701.out⟩
        ·rw [if_neg c30] at H
         exact absurd H (by simp)
       ·rw [if_neg c29] at H
        have c29b0 : decide (x11_2 < (t702.length : Int)) = false := decide_eq_false c29; clear c29
        by_cases c54 : t715 = true
        ·subst c54
         have H1 : ((impl_PlainIn.f k2 t696 t697 t700).bind fun t716 => (some (((t702.length : Int) == 0) == t716))) = some r := by rw [if_pos rfl] at H; exact H
         clear H; have H := H1; clear H1; replace H := Option.bind_eq_some_iff.mp H; obtain ⟨t716, A550, H⟩ := H; replace H : (some (((t702.length : Int) == 0) == t716)) = some r := H; have A55 := Aside0.mk A550; clear A550; obtain rfl := Option.some.inj H; obtain ⟨Ao56, co56, eo56⟩ := Kd.R_slice HO_5.out; subst eo56; have hcz57_0 : wr.cell? ⟨gb701, 0, none⟩ = some (.int .i64 t696) := (blk_cell BK701.out 0).trans rfl; have hcz57_1 : wr.cell? ⟨gb701, 1, none⟩ = some (.slice Ao10 t697.length co10) := (blk_cell BK701.out 1).trans rfl; have hfz57_0 := blk_frozen BK701.out 0; have hfz57_1 := blk_frozen BK701.out 1
         go_wp2_with (first | (go_at_call 30; (with_reducible refine (impl_PlainIn.calls k2 t696 _ _ t697 t700 t716 _ ?side1 ?side2 A55.out).mono ?_); (case side1 => exact viaC (Kd.R_reads' HO_702001.out).2.2); (case side2 => exact (Kd.R_reads' HO_702001.out).2.1); rintro e w58 ⟨rfl, hb⟩; have n0_ := Aside0.mk (Kd.R_below (viaR HO_5.out) hb); have n1_ := Aside0.mk (Kd.R_below (viaR HO_9.out) hb); have n2_ := Aside0.mk (Kd.R_below (viaR HO_702001.out) hb); have n3_ := Aside0.mk (blk_below (g := gb701) (o := .cells #[.int .i64 t696, .slice Ao10 t697.length co10] 25 (0, 0)) (viaB BK701.out) hb); have n4_ := Aside0.mk (below_step (viaX HB.out GE701.out) hb); clear HO_5; clear HO_9; clear HO_702001; clear BK701; clear HB; have HO_5 := n0_; have HO_9 := n1_; have HO_702001 := n2_; have BK701 := n3_; have HB := n4_; clear n0_ n1_ n2_ n3_ n4_; (try clear hb); (try clear hb2); (try clear hk); (try clear hi)))
         go_ret
         exact ⟨by first | rfl | (simp [errW_none, errW_some] <;> rfl) | (simp [*, errW_none, errW_some] <;> rfl), viaX HB.out GE701.out⟩
        ·replace c54 := Bool.eq_false_iff.mpr c54
         subst c54; have H1 : (some false) = some r := by rw [if_neg (show ¬ (false = true) by decide)] at H; exact H
         clear H; have H := H1; clear H1; obtain rfl := Option.some.inj H; obtain ⟨Ao59, co59, eo59⟩ := Kd.R_slice HO_5.out; subst eo59
         go_wp2
         go_ret
         exact ⟨by first | rfl | (simp [errW_none, errW_some] <;> rfl) | (simp [*, errW_none, errW_some] <;> rfl), viaX HB.out GE701.out⟩
/-- THE ONE PURE STATEMENT of laws_FnRounds: yours. -/
def laws_FnRounds.Pure : Prop := ∀ (l0 : List Int), l0.length ≤ maxLen → l0.length * 1 ≤ 140737488351232 → (∀ x ∈ l0, (Lit.int .u8 x).wf = true) → ∃ k, laws_FnRounds.f k l0 = some true
theorem laws_FnRounds.walk (P : laws_FnRounds.Pure) (a0 : Option Addr) (len0 cap0 : Nat) (z0 : List Int) (w : World) (w0 : (a0 = none ∧ len0 = 0 ∧ cap0 = 0 ∧ z0 = []) ∨ ∃ x, a0 = some x ∧ len0 ≤ cap0 ∧ cap0 ≤ maxLen ∧ z0.length = cap0 ∧ (∀ i, i < z0.length → w.cell? (x.add i) = some (.int .u8 (z0.getD i 0))) ∧ ∀ n ∈ z0, (Lit.int .u8 n).wf = true) (y0 : len0 * 1 ≤ 140737488351232) :
  Calls Try.prog 6 #[.slice a0 len0 cap0] w fun e w' => e = .returned (.bool true) ∧ Below w.heap.size w w' := by
 obtain ⟨l0, rfl, hr0, hm0, hw0, hc0⟩ := ReadsInt.ofRowC w0; obtain ⟨k, h⟩ := P l0 hm0 y0 hw0
 refine (laws_FnRounds.calls k _ _ l0 true w (Kd.C_of_reads (d := (0 : Int)) (h1 := fun _ => rfl) hr0) hc0 h).mono ?_
 rintro e w' ⟨rfl, hd⟩
 exact ⟨rfl, hd⟩
end Go.Proofs.Ythoaebnnolbaaaa.G
