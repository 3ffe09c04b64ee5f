/- A part of this claim; what it does not use is left out. -/
import Derived.Test.YthoaebnnolbaaaaVG0
import Derived.Test.YthoaebnnolbaaaaVG1
import Derived.Test.YthoaebnnolbaaaaVG3
import Derived.Test.YthoaebnnolbaaaaVG11
import Derived.Test.YthoaebnnolbaaaaVG47
namespace Go.Proofs.Ythoaebnnolbaaaa.G
open Go.RowKit Go.Proofs.YthoaebnnolbaaaaW.PrintWords Go.Proofs.YthoaebnnolbaaaaW.PrintLast Go.Proofs.YthoaebnnolbaaaaW.PrintMore
attribute [local go_sem] max2_int min2_int max_two min_two max_three min_three max_four min_four
set_option linter.unusedVariables false
set_option linter.unusedSimpArgs false
def spec_DrawFlipClasses.f (k : Nat) (l0 : List Int) : Option (Int × (List (S69)) × ByteArray) := (spec_l6Open.f l0).bind fun bt999 => ((spec_l92Small.f k bt999.1 bt999.2).bind fun bt1002 => ((spec_l92Kind.f k bt999.1 bt1002.2.2).bind fun bt1008 => (some (bt1002.1, bt1002.2.1, bt1008.1))))
set_option maxHeartbeats 8000000 in
set_option maxRecDepth 100000 in
theorem spec_DrawFlipClasses.calls (k : Nat) (A0 : Option Addr) (c0 : Nat) (l0 : List Int) (r1 : Int) (r2 : List (S69)) (r3 : ByteArray) (w : World) (hr0 : Kd.C (Kd.int .u8) w A0 l0.length l0) (hc0 : l0.length ≤ c0) (h : spec_DrawFlipClasses.f k l0 = some (r1, r2, r3)) :
  Calls Try.prog 44 #[.slice A0 l0.length c0] w fun e w' => ∃ v1_ : Value, e = .returned (.tuple #[.agg #[.int .i64 r1, v1_], .string r3]) ∧ Kd.R k69 69 w' w.heap.size (fun _ => True) v1_ r2 ∧ Below w.heap.size w w' := by
 have hu25 := Try.underlying25; have HR0 := aK hr0; have HC0 := aK hc0; clear hr0 hc0; have HB := aK (Below.refl w.heap.size w); have H : ((spec_l6Open.f l0).bind fun bt999 => ((spec_l92Small.f k bt999.1 bt999.2).bind fun bt1002 => ((spec_l92Kind.f k bt999.1 bt1002.2.2).bind fun bt1008 => (some (bt1002.1, bt1002.2.1, bt1008.1))))) = some (r1, r2, r3) := h; clear h; replace H := Option.bind_eq_some_iff.mp H; obtain ⟨⟨t999, t1000⟩, A20, H⟩ := H; replace H : ((spec_l92Small.f k t999 t1000).bind fun bt1002 => ((spec_l92Kind.f k t999 bt1002.2.2).bind fun bt1008 => (some (bt1002.1, bt1002.2.1, bt1008.1)))) = some (r1, r2, r3) := H; have A2 := aK A20; clear A20; replace H := Option.bind_eq_some_iff.mp H; obtain ⟨⟨t1002, t1003, t1006⟩, A30, H⟩ := H; replace H : ((spec_l92Kind.f k t999 t1006).bind fun bt1008 => (some (t1002, t1003, bt1008.1))) = some (r1, r2, r3) := H; have A3 := aK A30; clear A30; replace H := Option.bind_eq_some_iff.mp H; obtain ⟨⟨t1008, t1009⟩, A40, H⟩ := H; replace H : (some (t1002, t1003, t1008)) = some (r1, r2, r3) := H; have A4 := aK A40; clear A40
 simp only [Option.some.injEq, Prod.mk.injEq] at H
 obtain ⟨rfl, rfl, rfl⟩ := H
 go_enter Try.func44, Try.ntmps44
 try go_wp2_with (first | ((with_reducible refine gate_dst (N := 2) rfl ?_); refine box_event ?hg (N := 2) ?hd (cs := #[.int .i64 0, .slice none 0 0]) (t := 25) ?hr ?_; (case hd => rfl); (case hg => rfl); (case hr => first | (go_simp; done) | (go_simp; rfl)); intro gb998 hg w5 hbox hb; have n0_ := aK (below_step (viaW HB.out) hb); have n1_ := aK (hbox); have n2_ := aK ((by rw [hg]; exact (below_size (viaW HB.out)) : w.heap.size ≤ gb998)); have n3_ := aK ((by rw [hg]; exact (below_size (viaW HB.out)) : w.heap.size ≤ gb998)); clear HB; have HB := n0_; have BK998 := n1_; have GW998 := n2_; have GE998 := n3_; clear n0_ n1_ n2_ n3_; clear hb hbox hg) | ((with_reducible refine gate_callee (f := 81) rfl ?_); refine goesL_ (some 7) rfl rfl Try.func81 (by kernel_rfl) rfl #[.slice A0 l0.length c0] rfl (by (try simp only [List.map_toArray, List.map_cons, List.map_nil]); first | done | rfl | (simp only [List.length_drop, List.length_take]; rfl)) ?_; (with_reducible refine (spec_l6Open.calls _ _ l0 t999 t1000 w _ ?side1 ?side2 ?side3 A2.out).mono ?_); (case side1 => repeat (first | (with_reducible first | exact HB.out | apply below_alloc | apply pw_below_drewN | apply below_drew1 | refine below_set ?_ GE998.out) | exact HB.out)); (case side2 => exact HR0.out); (case side3 => exact HC0.out); rintro e w6 ⟨g1001, rfl, hi, hb, hb2⟩; refine ⟨_, rfl, ?_⟩; have n0_ := aK (blk_below (g := gb998) (o := .cells #[.int .i64 0, .slice none 0 0] 25 (0, 0)) (viaB BK998.out) hb2); have n1_ := aK (hb); have n2_ := aK (hi); have n3_ := aK (IsS99.ne_blk hi (blk_below (g := gb998) (o := .cells #[.int .i64 0, .slice none 0 0] 25 (0, 0)) (viaB BK998.out) hb2) (by decide)); have n4_ := aK (Ne.symm (IsS99.ne_blk hi (blk_below (g := gb998) (o := .cells #[.int .i64 0, .slice none 0 0] 25 (0, 0)) (viaB BK998.out) hb2) (by decide))); clear BK998; clear HB; have BK998 := n0_; have HB := n1_; have HI1001 := n2_; have NB1001_998 := n3_; have NB998_1001 := n4_; clear n0_ n1_ n2_ n3_ n4_; (try clear hb); (try clear hb2); (try clear hk); (try clear hi)) | ((with_reducible refine gate_callee (f := 82) rfl ?_); refine goesL_ (some 9) rfl rfl Try.func82 (by kernel_rfl) rfl #[.pointer (some ⟨g1001, 0, none⟩)] rfl (by (try simp only [List.map_toArray, List.map_cons, List.map_nil]); first | done | rfl | (simp only [List.length_drop, List.length_take]; rfl)) ?_; (with_reducible refine (spec_l92Small.calls k g1001 t999 t1000 t1002 t1003 t1006 w _ ?side1 ?side2 A3.out).mono ?_); (case side1 => repeat (first | (with_reducible first | exact HI1001.out | apply IsS99.alloc | apply IsS99.drewN | apply IsS99.drew | apply IsS99.set_1 | refine IsS99.far ?_ NB1001_998.out _) | exact HI1001.out)); (case side2 => repeat (first | (with_reducible first | exact HB.out | apply below_alloc | apply pw_below_drewN | apply below_drew1 | refine below_set ?_ (IsS99.ge HI1001.out) | refine below_set ?_ GE998.out) | exact HB.out)); rintro e w7 ⟨v1004, rfl, ho0, hi, hb, hk⟩; refine ⟨_, rfl, ?_⟩; have n0_ := aK (KeepBut.blk hk (g' := gb998) (o := .cells #[.int .i64 0, .slice none 0 0] 25 (0, 0)) (viaB BK998.out) NB998_1001.out (by simp)); have n1_ := aK (Kd.R_lower ho0 (below_size (by repeat (first | (with_reducible first | exact HB.out | apply below_alloc | apply pw_below_drewN | apply below_drew1 | refine below_set ?_ (IsS99.ge HI1001.out) | refine below_set ?_ GE998.out) | exact HB.out)))); have n2_ := aK (hb); have n3_ := aK (hi); clear BK998; clear HB; clear HI1001; have BK998 := n0_; have HO1005 := n1_; have HB := n2_; have HI1001 := n3_; clear n0_ n1_ n2_ n3_; (try clear hb); (try clear hb2); (try clear hk); (try clear hi); (try clear ho0)) | ((with_reducible refine gate_dst (N := 5) rfl ?_); refine box_event ?hg (N := 5) ?hd (cs := #[.int .i64 0, .slice none 0 0]) (t := 25) ?hr ?_; (case hd => rfl); (case hg => rfl); (case hr => first | (go_simp; done) | (go_simp; rfl)); intro gb1007 hg w8 hbox hb; have n0_ := aK (Kd.R_below (viaR HO1005.out) hb); have n1_ := aK (blk_below (g := gb998) (o := .cells #[.int .i64 0, .slice none 0 0] 25 (0, 0)) (viaB BK998.out) hb); have n2_ := aK (IsS99.below (by repeat (first | (with_reducible first | exact HI1001.out | apply IsS99.alloc | apply IsS99.drewN | apply IsS99.drew | apply IsS99.set_1 | refine IsS99.far ?_ NB1001_998.out _) | exact HI1001.out)) hb); have n3_ := aK (below_step (by repeat (first | (with_reducible first | exact HB.out | apply below_alloc | apply pw_below_drewN | apply below_drew1 | refine below_set ?_ (IsS99.ge HI1001.out) | refine below_set ?_ GE998.out) | exact HB.out)) hb); have n4_ := aK (hbox); have n5_ := aK ((by rw [hg]; exact (below_size (by repeat (first | (with_reducible first | exact HB.out | apply below_alloc | apply pw_below_drewN | apply below_drew1 | refine below_set ?_ (IsS99.ge HI1001.out) | refine below_set ?_ GE998.out) | exact HB.out))) : w.heap.size ≤ gb1007)); have n6_ := aK ((by rw [hg]; exact (below_size (by repeat (first | (with_reducible first | exact HB.out | apply below_alloc | apply pw_below_drewN | apply below_drew1 | refine below_set ?_ (IsS99.ge HI1001.out) | refine below_set ?_ GE998.out) | exact HB.out))) : w.heap.size ≤ gb1007)); have n7_ := aK ((by rw [hg]; exact Nat.ne_of_lt (blk_lt (g := gb998) (o := .cells #[.int .i64 0, .slice none 0 0] 25 (0, 0)) (viaB BK998.out)) : gb998 ≠ gb1007)); have n8_ := aK ((by rw [hg]; exact Nat.ne_of_gt (blk_lt (g := gb998) (o := .cells #[.int .i64 0, .slice none 0 0] 25 (0, 0)) (viaB BK998.out)) : gb1007 ≠ gb998)); have n9_ := aK ((by rw [hg]; exact Nat.ne_of_lt (IsS99.lt (show IsS99 w _ g1001 t999 t1006 from by repeat (first | (with_reducible first | exact HI1001.out | apply IsS99.alloc | apply IsS99.drewN | apply IsS99.drew | apply IsS99.set_1 | refine IsS99.far ?_ NB1001_998.out _) | exact HI1001.out))) : g1001 ≠ gb1007)); have n10_ := aK ((by rw [hg]; exact Nat.ne_of_gt (IsS99.lt (show IsS99 w _ g1001 t999 t1006 from by repeat (first | (with_reducible first | exact HI1001.out | apply IsS99.alloc | apply IsS99.drewN | apply IsS99.drew | apply IsS99.set_1 | refine IsS99.far ?_ NB1001_998.out _) | exact HI1001.out))) : gb1007 ≠ g1001)); clear HO1005; clear BK998; clear HI1001; clear HB; have HO1005 := n0_; have BK998 := n1_; have HI1001 := n2_; have HB := n3_; have BK1007 := n4_; have GW1007 := n5_; have GE1007 := n6_; have NB998_1007 := n7_; have NB1007_998 := n8_; have NB1001_1007 := n9_; have NB1007_1001 := n10_; clear n0_ n1_ n2_ n3_ n4_ n5_ n6_ n7_ n8_ n9_ n10_; clear hb hbox hg; have hnb9 := NB1007_998.out; have hnc9 := NB998_1007.out; have hnb10 := NB1007_1001.out; have hnc10 := NB1001_1007.out; have hcz11_0 : w8.cell? ⟨gb1007, 0, none⟩ = some (.int .i64 0) := (blk_cell BK1007.out 0).trans rfl; have hcz11_1 : w8.cell? ⟨gb1007, 1, none⟩ = some (.slice none 0 0) := (blk_cell BK1007.out 1).trans rfl; have hfz11_0 := blk_frozen BK1007.out 0; have hfz11_1 := blk_frozen BK1007.out 1; obtain ⟨Ao12, co12, eo12⟩ := Kd.R_slice HO1005.out; subst eo12))
 have n0_ : Aside0 (Kd.R k69 69 ((w8.setCell ⟨gb1007, 0, none⟩ (.int .i64 t1002)).setCell ⟨gb1007, 1, none⟩ (.slice Ao12 t1003.length co12)) w.heap.size (fun _ => True) (.slice Ao12 t1003.length co12) t1003) := ⟨by (with_reducible repeat (first | apply Kd.R_alloc | apply Kd.R_drewN | apply Kd.R_drew)); exact Kd.R_mono (Kd.R_far (p := ⟨gb1007, 1, none⟩) (Kd.R_far (p := ⟨gb1007, 0, none⟩) (Kd.R_types HO1005.out BK1007.out (by decide)) (fun _ hk => hk.2) (.int .i64 t1002)) (fun _ hk => hk.2) (.slice Ao12 t1003.length co12)) (fun _ hk => trivial)⟩; have n1_ : Aside0 (((w8.setCell ⟨gb1007, 0, none⟩ (.int .i64 t1002)).setCell ⟨gb1007, 1, none⟩ (.slice Ao12 t1003.length co12)).heap[gb998]? = some (.cells #[.int .i64 0, .slice none 0 0] 25 (0, 0))) := ⟨by (with_reducible repeat (first | refine blk_drewN ?_ _ | refine blk_drew ?_ | refine blk_alloc ?_ _)); refine blk_far ?_ NB998_1007.out _; (with_reducible repeat (first | refine blk_drewN ?_ _ | refine blk_drew ?_ | refine blk_alloc ?_ _)); refine blk_far ?_ NB998_1007.out _; (with_reducible repeat (first | refine blk_drewN ?_ _ | refine blk_drew ?_ | refine blk_alloc ?_ _)); exact BK998.out⟩; have n2_ : Aside0 (((w8.setCell ⟨gb1007, 0, none⟩ (.int .i64 t1002)).setCell ⟨gb1007, 1, none⟩ (.slice Ao12 t1003.length co12)).heap[gb1007]? = some (.cells #[.int .i64 t1002, .slice Ao12 t1003.length co12] 25 (0, 0))) := ⟨by (with_reducible repeat (first | refine blk_drewN ?_ _ | refine blk_drew ?_ | refine blk_alloc ?_ _)); refine blk_put (cs := #[.int .i64 t1002, .slice none 0 0]) ?_ 1 _ rfl; (with_reducible repeat (first | refine blk_drewN ?_ _ | refine blk_drew ?_ | refine blk_alloc ?_ _)); refine blk_put (cs := #[.int .i64 0, .slice none 0 0]) ?_ 0 _ rfl; (with_reducible repeat (first | refine blk_drewN ?_ _ | refine blk_drew ?_ | refine blk_alloc ?_ _)); exact BK1007.out⟩; have n3_ : Aside0 (IsS99 w ((w8.setCell ⟨gb1007, 0, none⟩ (.int .i64 t1002)).setCell ⟨gb1007, 1, none⟩ (.slice Ao12 t1003.length co12)) g1001 t999 t1006) := ⟨by repeat (first | (with_reducible first | exact HI1001.out | apply IsS99.alloc | apply IsS99.drewN | apply IsS99.drew | apply IsS99.set_1 | refine IsS99.far ?_ NB1001_998.out _ | refine IsS99.far ?_ NB1001_1007.out _) | exact HI1001.out)⟩; have n4_ : Aside0 (Below w.heap.size w ((w8.setCell ⟨gb1007, 0, none⟩ (.int .i64 t1002)).setCell ⟨gb1007, 1, none⟩ (.slice Ao12 t1003.length co12))) := ⟨by repeat (first | (with_reducible first | exact HB.out | apply below_alloc | apply pw_below_drewN | apply below_drew1 | refine below_set ?_ (IsS99.ge HI1001.out) | refine below_set ?_ GE998.out | refine below_set ?_ GE1007.out) | exact HB.out)⟩
 (try clear HO1005)
 (try clear BK998)
 (try clear BK1007)
 (try clear HI1001)
 (try clear HB)
 generalize ((w8.setCell ⟨gb1007, 0, none⟩ (.int .i64 t1002)).setCell ⟨gb1007, 1, none⟩ (.slice Ao12 t1003.length co12)) = w13 at n0_ n1_ n2_ n3_ n4_ ⊢
 have HO1005 := n0_; have BK998 := n1_; have BK1007 := n2_; have HI1001 := n3_; have HB := n4_; clear n0_ n1_ n2_ n3_ n4_; have n0_ := aK (Kd.R_drew HO1005.out); have n1_ := aK (blk_drew BK998.out); have n2_ := aK (blk_drew BK1007.out); have n3_ := aK (IsS99.drew HI1001.out); have n4_ := aK (below_drew1 HB.out); clear HO1005; clear BK998; clear BK1007; clear HI1001; clear HB; have HO1005 := n0_; have BK998 := n1_; have BK1007 := n2_; have HI1001 := n3_; have HB := n4_; clear n0_ n1_ n2_ n3_ n4_
 refine start_ (n := 5) (S := fun w' => w'.cell? ⟨gb1007, 0, none⟩ = some (.int .i64 t1002) ∧ w'.cell? ⟨gb1007, 1, none⟩ = some (.slice Ao12 t1003.length co12)) (ds := []) #[false, false, false, false, false] (by kernel_rfl) rfl rfl ⟨(blk_cell BK1007.out 0).trans rfl, (blk_cell BK1007.out 1).trans rfl⟩ (fun hHeld => ?_)
 generalize w13.drew = w14 at HO1005 BK998 BK1007 HI1001 HB hHeld ⊢
 refine pure_ (i := 1) (N := some 11) (v := ?_) (a' := ?_) #[false, true, false, false, false] rfl rfl (by kernel_rfl) (fun _ _ _ h => h) (Or.inl ⟨by rfl, ?_⟩) ?_ ?_
 rotate_left
 ·intro w'
  go_simp
  with_reducible rfl
 rotate_left
 ·simp only [Act.put, lA, lB, lC, i64_w, i32_w]
  rfl
 refine take_ (i := 0) (N := some 10) (v := ?_) (a' := ?_) #[true, true, false, false, false] rfl rfl (by kernel_rfl) (fun _ _ _ h => h) (Or.inl ⟨by rfl, ?_⟩) hHeld ?_ ?_
 rotate_left
 ·rintro w' ⟨s0, s1⟩
  go_simp
  with_reducible rfl
 rotate_left
 ·simp only [Act.put, lA, lB, lC, i64_w, i32_w]
  rfl
 refine one_ (i := 2) (N := some 12) #[true, true, true, false, false] rfl rfl (by kernel_rfl) (by decide) (fun K hK => ?_)
 refine goes_ Try.func83 (by kernel_rfl) rfl #[.pointer (some ⟨g1001, 0, none⟩)] (by rfl) rfl rfl (by (try simp only [List.map_toArray, List.map_cons, List.map_nil]); first | done | rfl | (simp only [List.length_drop, List.length_take]; rfl)) ?_
 with_reducible refine (spec_l92Kind.calls k g1001 t999 t1006 t1008 t1009 w _ ?side1 ?side2 A4.out).mono ?_
 (case side1 => repeat (first | (with_reducible first | exact HI1001.out | apply IsS99.alloc | apply IsS99.drewN | apply IsS99.drew | apply IsS99.set_1 | refine IsS99.far ?_ NB1001_998.out _ | refine IsS99.far ?_ NB1001_1007.out _) | exact HI1001.out))
 (case side2 => repeat (first | (with_reducible first | exact HB.out | apply below_alloc | apply pw_below_drewN | apply below_drew1 | refine below_set ?_ (IsS99.ge HI1001.out) | refine below_set ?_ GE998.out | refine below_set ?_ GE1007.out) | exact HB.out))
 rintro e w15 ⟨rfl, hi, hb, hk⟩
 refine ⟨_, rfl, ?_⟩
 have n0_ := aK (KeepBut.blk hk (g' := gb998) (o := .cells #[.int .i64 0, .slice none 0 0] 25 (0, 0)) (viaB BK998.out) NB998_1001.out (by simp)); have n1_ := aK (Kd.R_mono (Kd.R_keep (IsS99.apart (show IsS99 w _ g1001 t999 t1006 from by repeat (first | (with_reducible first | exact HI1001.out | apply IsS99.alloc | apply IsS99.drewN | apply IsS99.drew | apply IsS99.set_1 | refine IsS99.far ?_ NB1001_998.out _ | refine IsS99.far ?_ NB1001_1007.out _) | exact HI1001.out)) (viaR HO1005.out) (by decide)) hk (fun _ h => h.2)) (fun _ h => h.1)); have n2_ := aK (KeepBut.blk hk (g' := gb1007) (o := .cells #[.int .i64 t1002, .slice Ao12 t1003.length co12] 25 (0, 0)) (viaB BK1007.out) NB1007_1001.out (by simp)); have n3_ := aK (hb); have n4_ := aK (hi); clear BK998; clear HO1005; clear BK1007; clear HB; clear HI1001; have BK998 := n0_; have HO1005 := n1_; have BK1007 := n2_; have HB := n3_; have HI1001 := n4_; clear n0_ n1_ n2_ n3_ n4_
 (try clear hb)
 (try clear hb2)
 (try clear hk)
 (try clear hi)
 refine hK.out _ _ ⟨(blk_cell BK1007.out 0).trans rfl, (blk_cell BK1007.out 1).trans rfl⟩ (fun hHeld => ?_)
 clear hK K
 refine norm_ (a' := ?_) ?_ ?_
 rotate_left
 ·show Act.put _ (some 12) _ = _
  simp only [Act.put, lA, lB, lC, i64_w, i32_w]
  rfl
 refine one_ (i := 3) (N := none) #[true, true, true, true, false] rfl rfl (by kernel_rfl) (by decide) (fun K hK => ?_)
 have hs16 : w15.cell? ⟨gb998, 0, none⟩ = some (.int .i64 0) := (blk_cell BK998.out 0).trans rfl; have hfs16 := blk_frozen BK998.out 0; have hns16_1 := NB1007_998.out; have hms16_1 := NB998_1007.out; have hs17 : w15.cell? ⟨gb998, 1, none⟩ = some (.slice none 0 0) := (blk_cell BK998.out 1).trans rfl; have hfs17 := blk_frozen BK998.out 1; have hns17_1 := NB1007_998.out; have hms17_1 := NB998_1007.out
 refine skip_ (w1 := ?_) (by rfl) rfl ?_ ?_
 rotate_left
 ·go_simp
  rfl
 refine hK.out _ _ ⟨((cell_far (p := ⟨gb998, _, none⟩) NB1007_998.out _).trans (((cell_far (p := ⟨gb998, _, none⟩) NB1007_998.out _).trans (hHeld.1)))), ((cell_far (p := ⟨gb998, _, none⟩) NB1007_998.out _).trans (((cell_far (p := ⟨gb998, _, none⟩) NB1007_998.out _).trans (hHeld.2))))⟩ (fun hHeld => ?_)
 clear hK K
 refine pure_ (i := 4) (N := some 3) (v := ?_) (a' := ?_) #[true, true, true, true, true] rfl rfl (by kernel_rfl) (fun _ _ _ h => h) (Or.inl ⟨by rfl, ?_⟩) ?_ ?_
 rotate_left
 ·intro w'
  go_simp
  with_reducible rfl
 rotate_left
 ·simp only [Act.put, lA, lB, lC, i64_w, i32_w]
  rfl
 refine done_ (by kernel_rfl) ?_
 try go_wp2
 refine bodyPost_ret (results_ct rfl _ _ gb998 25 #[.int .i64 t1002, .slice Ao12 t1003.length co12] (0, 0) _ rfl (by (with_reducible repeat (first | refine blk_drewN ?_ _ | refine blk_drew ?_ | refine blk_alloc ?_ _)); refine blk_put (cs := #[.int .i64 t1002, .slice none 0 0]) ?_ 1 _ rfl; (with_reducible repeat (first | refine blk_drewN ?_ _ | refine blk_drew ?_ | refine blk_alloc ?_ _)); refine blk_put (cs := #[.int .i64 0, .slice none 0 0]) ?_ 0 _ rfl; (with_reducible repeat (first | refine blk_drewN ?_ _ | refine blk_drew ?_ | refine blk_alloc ?_ _)); exact BK998.out) Try.underlying25 rfl (by kernel_rfl)) rfl ?_
 exact ⟨_, by first | rfl | (simp [errW_none, errW_some] <;> rfl) | (simp [*, errW_none, errW_some] <;> rfl), by (with_reducible repeat (first | apply Kd.R_alloc | apply Kd.R_drewN | apply Kd.R_drew)); exact Kd.R_mono (Kd.R_far (p := ⟨gb998, 1, none⟩) (Kd.R_far (p := ⟨gb998, 0, none⟩) (Kd.R_types HO1005.out BK998.out (by decide)) (fun _ hk => hk.2) (.int .i64 t1002)) (fun _ hk => hk.2) (.slice Ao12 t1003.length co12)) (fun _ hk => trivial), by repeat (first | (with_reducible first | exact HB.out | apply below_alloc | apply pw_below_drewN | apply below_drew1 | refine below_set ?_ (IsS99.ge HI1001.out) | refine below_set ?_ GE998.out | refine below_set ?_ GE1007.out) | exact HB.out)⟩
def impl_WayParts.f (k : Nat) (a0_0 : Int) (l0_1 : List (S69)) : Option (Int × Bool) := (impl_WayGraph.f k a0_0 l0_1).bind fun t1011 => (if t1011 = true then ((impl_partsBy.f k a0_0 l0_1 (wrap64 ((shl .i64 1 (l0_1.length : Int)) - 1))).bind fun t1012 => (some (t1012, true))) else (some (0, false)))
def impl_WayParts.T3 : Bool × List (List Nat × List Nat) := (true, [([], []), ([], []), ([1], [1]), ([2], [2]), ([3], [3]), ([4], [4]), ([0, 5], [0, 5]), ([6, 6, 0, 1, 2, 3, 4, 5, 6], [6]), ([7, 0, 1, 2, 3, 4, 5, 6, 7], [])])
def impl_WayParts.B3 : List Nat := [0, 0, 2, 6, 14, 30, 63, 127, 255]
theorem impl_WayParts.tab3 : rtab .any (opsOf Try.f89 3) = impl_WayParts.T3 := by kernel_rfl
theorem impl_WayParts.bits3 : waitsOk impl_WayParts.T3.2 impl_WayParts.B3 = true := by kernel_rfl
set_option maxHeartbeats 8000000 in
set_option maxRecDepth 100000 in
theorem impl_WayParts.calls (k : Nat) (a0_0 : Int) (A0_1 : Option Addr) (c0_1 : Nat) (l0_1 : List (S69)) (r1 : Int) (r2 : Bool) (w : World) (hr0_1 : Kd.C k69 w A0_1 l0_1.length l0_1) (hc0_1 : l0_1.length ≤ c0_1) (h : impl_WayParts.f k a0_0 l0_1 = some (r1, r2)) :
  Calls Try.prog 89 #[.agg #[.int .i64 a0_0, .slice A0_1 l0_1.length c0_1]] w fun e w' => e = .returned (.tuple #[.int .i64 r1, .bool r2]) ∧ Below w.heap.size w w' := by
 have hu25 := Try.underlying25; have HR0_1 := aK hr0_1; have HC0_1 := aK hc0_1; clear hr0_1 hc0_1; have HB := aK (Below.refl w.heap.size w); have H : ((impl_WayGraph.f k a0_0 l0_1).bind fun t1011 => (if t1011 = true then ((impl_partsBy.f k a0_0 l0_1 (wrap64 ((shl .i64 1 (l0_1.length : Int)) - 1))).bind fun t1012 => (some (t1012, true))) else (some (0, false)))) = some (r1, r2) := h; clear h; replace H := Option.bind_eq_some_iff.mp H; obtain ⟨t1011, A20, H⟩ := H; replace H : (if t1011 = true then ((impl_partsBy.f k a0_0 l0_1 (wrap64 ((shl .i64 1 (l0_1.length : Int)) - 1))).bind fun t1012 => (some (t1012, true))) else (some (0, false))) = some (r1, r2) := H; have A2 := aK A20; clear A20
 by_cases c3 : t1011 = true
 ·subst c3
  have H1 : ((impl_partsBy.f k a0_0 l0_1 (wrap64 ((shl .i64 1 (l0_1.length : Int)) - 1))).bind fun t1012 => (some (t1012, true))) = some (r1, r2) := by rw [if_pos rfl] at H; exact H
  clear H; have H := H1; clear H1; obtain ⟨ji4, hji4⟩ : ∃ j_ : Int, (shl .i64 1 (l0_1.length : Int)) = j_ := ⟨_, rfl⟩; replace H : ((impl_partsBy.f k a0_0 l0_1 (wrap64 ((ji4) - 1))).bind fun t1012 => (some (t1012, true))) = some (r1, r2) := by first | (rw [hji4] at H; exact H) | (simp only [hji4] at H ⊢; exact H)
  (try rw [hji4] at A2)
  have hji4_ : (IntKind.i64.wrap (1 * 2 ^ min (l0_1.length : Int).toNat 64)) = ji4 := hji4; have hji4z : (l0_1.length : Int) ≤ 64 → (IntKind.i64.wrap (1 * 2 ^ (l0_1.length : Int).toNat)) = ji4 := shl_small hji4; have hji4p : (IntKind.i64.wrap (1 * 2 ^ min l0_1.length 64)) = ji4 := hji4_; have hji4q : (l0_1.length : Int) ≤ 64 → (IntKind.i64.wrap (1 * 2 ^ l0_1.length)) = ji4 := hji4z; have hji4r : (IntKind.i64.wrap (2 ^ min l0_1.length 64)) = ji4 := by have h_ := hji4p; rw [Int.one_mul] at h_; exact h_
  have hji4s : (l0_1.length : Int) ≤ 64 → (IntKind.i64.wrap (2 ^ l0_1.length)) = ji4 := fun hle_ => by have h_ := hji4q hle_; rw [Int.one_mul] at h_; exact h_
  have hji4u : (IntKind.i64.wrap (2 ^ min (l0_1.length : Int).toNat 64)) = ji4 := by have h_ := hji4_; rw [Int.one_mul] at h_; exact h_
  have hji4v : (l0_1.length : Int) ≤ 64 → (IntKind.i64.wrap (2 ^ (l0_1.length : Int).toNat)) = ji4 := fun hle_ => by have h_ := hji4z hle_; rw [Int.one_mul] at h_; exact h_
  have hji4y : (wrap64 (1 * 2 ^ min (l0_1.length : Int).toNat 64)) = ji4 := (i64_w _).symm.trans hji4_; have hji4x : (l0_1.length : Int) ≤ 64 → (wrap64 (1 * 2 ^ (l0_1.length : Int).toNat)) = ji4 := fun h_ => (i64_w _).symm.trans (hji4z h_); replace H := Option.bind_eq_some_iff.mp H; obtain ⟨t1012, A50, H⟩ := H; replace H : (some (t1012, true)) = some (r1, r2) := H; have A5 := aK A50; clear A50
  simp only [Option.some.injEq, Prod.mk.injEq] at H
  obtain ⟨rfl, rfl⟩ := H
  go_enter Try.func89, Try.ntmps89
  try go_wp2_with (first | ((with_reducible refine gate_dst (N := 1) rfl ?_); refine box_event ?hg (N := 1) ?hd (cs := #[.int .i64 a0_0, .slice A0_1 l0_1.length c0_1]) (t := 25) ?hr ?_; (case hd => rfl); (case hg => rfl); (case hr => first | (go_simp; done) | (go_simp; rfl)); intro gb1010 hg w6 hbox hb; have n0_ := aK (below_step (viaW HB.out) hb); have n1_ := aK (hbox); have n2_ := aK ((by rw [hg]; exact (below_size (viaW HB.out)) : w.heap.size ≤ gb1010)); have n3_ := aK ((by rw [hg]; exact (below_size (viaW HB.out)) : w.heap.size ≤ gb1010)); clear HB; have HB := n0_; have BK1010 := n1_; have GW1010 := n2_; have GE1010 := n3_; clear n0_ n1_ n2_ n3_; clear hb hbox hg; have hcz7_0 : w6.cell? ⟨gb1010, 0, none⟩ = some (.int .i64 a0_0) := (blk_cell BK1010.out 0).trans rfl; have hcz7_1 : w6.cell? ⟨gb1010, 1, none⟩ = some (.slice A0_1 l0_1.length c0_1) := (blk_cell BK1010.out 1).trans rfl; have hfz7_0 := blk_frozen BK1010.out 0; have hfz7_1 := blk_frozen BK1010.out 1) | ((with_reducible refine gate_callee (f := 48) rfl ?_); refine goesL_ (some 5) rfl rfl Try.func48 (by kernel_rfl) rfl #[.agg #[.int .i64 a0_0, .slice A0_1 l0_1.length c0_1]] rfl (by (try simp only [List.map_toArray, List.map_cons, List.map_nil]); first | done | rfl | (simp only [List.length_drop, List.length_take]; rfl)) ?_; (with_reducible refine (impl_WayGraph.calls k a0_0 _ _ l0_1 true _ ?side1 ?side2 A2.out).mono ?_); (case side1 => repeat (first | exact (Kd.C_below HR0_1.out HB.out) | (with_reducible refine Kd.C_alloc ?_ _) | (with_reducible refine Kd.C_drewN ?_ _) | (with_reducible refine Kd.C_drew ?_))); (case side2 => exact HC0_1.out); rintro e w8 ⟨rfl, hb⟩; refine ⟨_, rfl, ?_⟩; have n0_ := aK (blk_below (g := gb1010) (o := .cells #[.int .i64 a0_0, .slice A0_1 l0_1.length c0_1] 25 (0, 0)) (viaB BK1010.out) hb); have n1_ := aK (below_step (viaX HB.out GE1010.out) hb); clear BK1010; clear HB; have BK1010 := n0_; have HB := n1_; clear n0_ n1_; (try clear hb); (try clear hb2); (try clear hk); (try clear hi)))
  have n0_ := aK (blk_drew BK1010.out); have n1_ := aK (below_drew1 HB.out); clear BK1010; clear HB; have BK1010 := n0_; have HB := n1_; clear n0_ n1_
  refine start_ (n := 9) (S := fun w' => w'.cell? ⟨gb1010, 0, none⟩ = some (.int .i64 a0_0) ∧ w'.cell? ⟨gb1010, 1, none⟩ = some (.slice A0_1 l0_1.length c0_1)) (ds := []) #[false, false, false, false, false, false, false, false, false] (by kernel_rfl) rfl rfl ⟨(blk_cell BK1010.out 0).trans rfl, (blk_cell BK1010.out 1).trans rfl⟩ (fun hHeld => ?_); refine with_tabW impl_WayParts.tab3 impl_WayParts.bits3 (fun HT_ HW_ => ?_)
  generalize w8.drew = w9 at BK1010 HB hHeld ⊢
  refine pure_ (i := 1) (N := some 8) (v := ?_) (a' := ?_) #[false, true, false, false, false, false, false, false, false] rfl rfl (any_of HT_.out (by kernel_rfl)) (fun _ _ _ h => h) (Or.inl ⟨by rfl, ?_⟩) ?_ ?_
  rotate_left
  ·intro w'
   go_simp
   with_reducible rfl
  rotate_left
  ·simp only [Act.put, lA, lB, lC, i64_w, i32_w]
   rfl
  refine take_ (i := 0) (N := some 7) (v := ?_) (a' := ?_) #[true, true, false, false, false, false, false, false, false] rfl rfl (take_ofW HT_.out HW_.out (by kernel_rfl)) (fun _ _ _ h => h) (Or.inl ⟨by rfl, ?_⟩) hHeld ?_ ?_
  rotate_left
  ·rintro w' ⟨s0, s1⟩
   go_simp
   with_reducible rfl
  rotate_left
  ·simp only [Act.put, lA, lB, lC, i64_w, i32_w]
   rfl
  refine take_ (i := 2) (N := some 9) (v := ?_) (a' := ?_) #[true, true, true, false, false, false, false, false, false] rfl rfl (take_ofW HT_.out HW_.out (by kernel_rfl)) (fun _ _ _ h => h) (Or.inl ⟨by rfl, ?_⟩) hHeld ?_ ?_
  rotate_left
  ·rintro w' ⟨s0, s1⟩
   go_simp
   with_reducible rfl
  rotate_left
  ·simp only [Act.put, lA, lB, lC, i64_w, i32_w]
   rfl
  refine pure_ (i := 3) (N := some 10) (v := ?_) (a' := ?_) #[true, true, true, true, false, false, false, false, false] rfl rfl (any_of HT_.out (by kernel_rfl)) (fun _ _ _ h => h) (Or.inl ⟨by rfl, ?_⟩) ?_ ?_
  rotate_left
  ·intro w'
   go_simp
   with_reducible rfl
  rotate_left
  ·simp only [Act.put, lA, lB, lC, i64_w, i32_w]
   rfl
  refine pure_ (i := 4) (N := some 11) (v := ?_) (a' := ?_) #[true, true, true, true, true, false, false, false, false] rfl rfl (any_of HT_.out (by kernel_rfl)) (fun _ _ _ h => h) (Or.inl ⟨by rfl, ?_⟩) ?_ ?_
  rotate_left
  ·intro w'
   go_simp
   with_reducible rfl
  rotate_left
  ·simp only [Act.put, lA, lB, lC, i64_w, i32_w]
   rfl
  refine pure_ (i := 5) (N := some 12) (v := ?_) (a' := ?_) #[true, true, true, true, true, true, false, false, false] rfl rfl (any_of HT_.out (by kernel_rfl)) (fun _ _ _ h => h) (Or.inl ⟨by rfl, ?_⟩) ?_ ?_
  rotate_left
  ·intro w'
   go_simp
   with_reducible rfl
  rotate_left
  ·simp only [Act.put, lA, lB, lC, i64_w, i32_w]
   rfl
  refine one_ (i := 6) (N := some 13) #[true, true, true, true, true, true, true, false, false] rfl rfl (one_of HT_.out (by kernel_rfl)) (by decide) (fun K hK => ?_)
  refine goes_ Try.func91 (by kernel_rfl) rfl #[.agg #[.int .i64 a0_0, .slice A0_1 l0_1.length c0_1], .int .i64 (wrap64 ((ji4) - 1))] (by rfl) rfl rfl (by (try simp only [List.map_toArray, List.map_cons, List.map_nil]); first | done | (simp only [hji4]; rfl) | rfl | (simp only [List.length_drop, List.length_take]; rfl)) ?_
  with_reducible refine (impl_partsBy.calls k a0_0 _ _ l0_1 (wrap64 ((ji4) - 1)) t1012 _ ?side1 ?side2 A5.out).mono ?_
  (case side1 => repeat (first | exact (Kd.C_below HR0_1.out HB.out) | (with_reducible refine Kd.C_alloc ?_ _) | (with_reducible refine Kd.C_drewN ?_ _) | (with_reducible refine Kd.C_drew ?_)))
  (case side2 => exact HC0_1.out)
  rintro e w10 ⟨rfl, hb⟩
  refine ⟨_, rfl, ?_⟩
  have n0_ := aK (blk_below (g := gb1010) (o := .cells #[.int .i64 a0_0, .slice A0_1 l0_1.length c0_1] 25 (0, 0)) (viaB BK1010.out) hb); have n1_ := aK (below_step (viaX HB.out GE1010.out) hb); clear BK1010; clear HB; have BK1010 := n0_; have HB := n1_; clear n0_ n1_
  (try clear hb)
  (try clear hb2)
  (try clear hk)
  (try clear hi)
  refine hK.out _ _ ⟨(blk_cell BK1010.out 0).trans rfl, (blk_cell BK1010.out 1).trans rfl⟩ (fun hHeld => ?_)
  clear hK K
  refine norm_ (a' := ?_) ?_ ?_
  rotate_left
  ·show Act.put _ (some 13) _ = _
   simp only [Act.put, lA, lB, lC, i64_w, i32_w]
   rfl
  refine pure_ (i := 7) (N := some 2) (v := ?_) (a' := ?_) #[true, true, true, true, true, true, true, true, false] rfl rfl (any_of HT_.out (by kernel_rfl)) (fun _ _ _ h => h) (Or.inl ⟨by rfl, ?_⟩) ?_ ?_
  rotate_left
  ·intro w'
   go_simp
   with_reducible rfl
  rotate_left
  ·simp only [Act.put, lA, lB, lC, i64_w, i32_w]
   rfl
  refine pure_ (i := 8) (N := some 3) (v := ?_) (a' := ?_) #[true, true, true, true, true, true, true, true, true] rfl rfl (any_of HT_.out (by kernel_rfl)) (fun _ _ _ h => h) (Or.inl ⟨by rfl, ?_⟩) ?_ ?_
  rotate_left
  ·intro w'
   go_simp
   with_reducible rfl
  rotate_left
  ·simp only [Act.put, lA, lB, lC, i64_w, i32_w]
   rfl
  refine done_ (done_of HT_.out (by kernel_rfl)) ?_
  try go_wp2
  go_ret2
  exact ⟨by first | rfl | (simp [errW_none, errW_some] <;> rfl) | (simp only [← hji4]; first | rfl | (simp [errW_none, errW_some] <;> rfl)) | (simp [*, errW_none, errW_some] <;> rfl), viaX HB.out GE1010.out⟩
 ·replace c3 := Bool.eq_false_iff.mpr c3
  subst c3; have H1 : (some (0, false)) = some (r1, r2) := by rw [if_neg (show ¬ (false = true) by decide)] at H; exact H
  clear H; have H := H1; clear H1
  simp only [Option.some.injEq, Prod.mk.injEq] at H
  obtain ⟨rfl, rfl⟩ := H
  go_enter Try.func89, Try.ntmps89
  go_wp2_with (first | ((with_reducible refine gate_dst (N := 1) rfl ?_); refine box_event ?hg (N := 1) ?hd (cs := #[.int .i64 a0_0, .slice A0_1 l0_1.length c0_1]) (t := 25) ?hr ?_; (case hd => rfl); (case hg => rfl); (case hr => first | (go_simp; done) | (go_simp; rfl)); intro gb1010 hg w11 hbox hb; have n0_ := aK (below_step (viaW HB.out) hb); have n1_ := aK (hbox); have n2_ := aK ((by rw [hg]; exact (below_size (viaW HB.out)) : w.heap.size ≤ gb1010)); have n3_ := aK ((by rw [hg]; exact (below_size (viaW HB.out)) : w.heap.size ≤ gb1010)); clear HB; have HB := n0_; have BK1010 := n1_; have GW1010 := n2_; have GE1010 := n3_; clear n0_ n1_ n2_ n3_; clear hb hbox hg; have hcz12_0 : w11.cell? ⟨gb1010, 0, none⟩ = some (.int .i64 a0_0) := (blk_cell BK1010.out 0).trans rfl; have hcz12_1 : w11.cell? ⟨gb1010, 1, none⟩ = some (.slice A0_1 l0_1.length c0_1) := (blk_cell BK1010.out 1).trans rfl; have hfz12_0 := blk_frozen BK1010.out 0; have hfz12_1 := blk_frozen BK1010.out 1) | ((with_reducible refine gate_callee (f := 48) rfl ?_); refine goesL_ (some 5) rfl rfl Try.func48 (by kernel_rfl) rfl #[.agg #[.int .i64 a0_0, .slice A0_1 l0_1.length c0_1]] rfl (by (try simp only [List.map_toArray, List.map_cons, List.map_nil]); first | done | rfl | (simp only [List.length_drop, List.length_take]; rfl)) ?_; (with_reducible refine (impl_WayGraph.calls k a0_0 _ _ l0_1 false _ ?side1 ?side2 A2.out).mono ?_); (case side1 => repeat (first | exact (Kd.C_below HR0_1.out HB.out) | (with_reducible refine Kd.C_alloc ?_ _) | (with_reducible refine Kd.C_drewN ?_ _) | (with_reducible refine Kd.C_drew ?_))); (case side2 => exact HC0_1.out); rintro e w13 ⟨rfl, hb⟩; refine ⟨_, rfl, ?_⟩; have n0_ := aK (blk_below (g := gb1010) (o := .cells #[.int .i64 a0_0, .slice A0_1 l0_1.length c0_1] 25 (0, 0)) (viaB BK1010.out) hb); have n1_ := aK (below_step (viaX HB.out GE1010.out) hb); clear BK1010; clear HB; have BK1010 := n0_; have HB := n1_; clear n0_ n1_; (try clear hb); (try clear hb2); (try clear hk); (try clear hi)))
  go_ret2
  exact ⟨by first | rfl | (simp [errW_none, errW_some] <;> rfl) | (simp [*, errW_none, errW_some] <;> rfl), viaX HB.out GE1010.out⟩
end Go.Proofs.Ythoaebnnolbaaaa.G
