/- For each Go function named below: a plain Lean function of the same name, and the proof that a call of the Go function returns just what the plain function tells, where it tells something. Written by a program of this session with the printer of the kit. -/
import Derived.Test.YthoaebnnolbaaaaVG0
import Derived.Test.YthoaebnnolbaaaaVG1
import Derived.Test.YthoaebnnolbaaaaVG13
import Derived.Test.YthoaebnnolbaaaaVG47
namespace Go.Proofs.Ythoaebnnolbaaaa.G
open Go.RowKit Go.Proofs.YthoaebnnolbaaaaW.PrintWords Go.Proofs.YthoaebnnolbaaaaW.PrintLast Go.Proofs.YthoaebnnolbaaaaW.PrintMore
attribute [local go_sem] max2_int min2_int max_two min_two max_three min_three max_four min_four   -- for this text's walks alone
set_option linter.unusedVariables false
set_option linter.unusedSimpArgs false

/-! ### spec_DrawFlipSize: function 42 -/
def spec_DrawFlipSize.f (k : Nat) (l0 : List Int) : Option (Int × (List (S69)) × ByteArray × Int) := (spec_l6Open.f l0).bind fun bt972 => ((spec_l92Small.f k bt972.1 bt972.2).bind fun bt975 => ((spec_l92Kind.f k bt972.1 bt975.2.2).bind fun bt981 => ((spec_l91Way.f k bt972.1 bt981.2 bt975.1 bt975.2.1).bind fun bt983 => (some (bt975.1, bt975.2.1, bt981.1, bt983.1)))))
def spec_DrawFlipSize.T4 : Bool × List (List Nat × List Nat) := (true, [([], []), ([], []), ([], []), ([], []), ([2, 3], [2, 3]), ([0, 4, 0], [0]), ([1, 5, 0, 1, 5], [1]), ([4, 6, 0, 1, 2, 3, 4, 5, 6], [4])])
def spec_DrawFlipSize.B4 : List Nat := [0, 0, 0, 0, 12, 29, 63, 127]
theorem spec_DrawFlipSize.tab4 : rtab .any (opsOf Try.f42 4) = spec_DrawFlipSize.T4 := by kernel_rfl
theorem spec_DrawFlipSize.bits4 : waitsOk spec_DrawFlipSize.T4.2 spec_DrawFlipSize.B4 = true := by kernel_rfl
set_option maxHeartbeats 8000000 in
set_option maxRecDepth 100000 in
theorem spec_DrawFlipSize.calls (k : Nat) (A0 : Option Addr) (c0 : Nat) (l0 : List Int) (r1 : Int) (r2 : List (S69)) (r3 : ByteArray) (r4 : Int) (w : World) (hr0 : Kd.C (Kd.int .u8) w A0 l0.length l0) (hc0 : l0.length ≤ c0) (h : spec_DrawFlipSize.f k l0 = some (r1, r2, r3, r4)) :
  Calls Try.prog 42 #[.slice A0 l0.length c0] w fun e w' => ∃ v1_ : Value, e = .returned (.tuple #[.agg #[.int .i64 r1, v1_], .string r3, .int .i64 r4]) ∧ Kd.R k69 69 w' w.heap.size (fun _ => True) v1_ r2 ∧ Below w.heap.size w w' := by
 have hu25 := Try.underlying25; have HR0 := Aside0.mk hr0; have HC0 := Aside0.mk hc0; clear hr0 hc0; have HB := Aside0.mk (Below.refl w.heap.size w); have H : ((spec_l6Open.f l0).bind fun bt972 => ((spec_l92Small.f k bt972.1 bt972.2).bind fun bt975 => ((spec_l92Kind.f k bt972.1 bt975.2.2).bind fun bt981 => ((spec_l91Way.f k bt972.1 bt981.2 bt975.1 bt975.2.1).bind fun bt983 => (some (bt975.1, bt975.2.1, bt981.1, bt983.1)))))) = some (r1, r2, r3, r4) := h; clear h; replace H := Option.bind_eq_some_iff.mp H; obtain ⟨⟨t972, t973⟩, A20, H⟩ := H; replace H : ((spec_l92Small.f k t972 t973).bind fun bt975 => ((spec_l92Kind.f k t972 bt975.2.2).bind fun bt981 => ((spec_l91Way.f k t972 bt981.2 bt975.1 bt975.2.1).bind fun bt983 => (some (bt975.1, bt975.2.1, bt981.1, bt983.1))))) = some (r1, r2, r3, r4) := H; have A2 := Aside0.mk A20; clear A20; replace H := Option.bind_eq_some_iff.mp H; obtain ⟨⟨t975, t976, t979⟩, A30, H⟩ := H; replace H : ((spec_l92Kind.f k t972 t979).bind fun bt981 => ((spec_l91Way.f k t972 bt981.2 t975 t976).bind fun bt983 => (some (t975, t976, bt981.1, bt983.1)))) = some (r1, r2, r3, r4) := H; have A3 := Aside0.mk A30; clear A30; replace H := Option.bind_eq_some_iff.mp H; obtain ⟨⟨t981, t982⟩, A40, H⟩ := H; replace H : ((spec_l91Way.f k t972 t982 t975 t976).bind fun bt983 => (some (t975, t976, t981, bt983.1))) = some (r1, r2, r3, r4) := H; have A4 := Aside0.mk A40; clear A40; replace H := Option.bind_eq_some_iff.mp H; obtain ⟨⟨t983, t984⟩, A50, H⟩ := H; replace H : (some (t975, t976, t981, t983)) = some (r1, r2, r3, r4) := H; have A5 := Aside0.mk A50; clear A50
 simp only [Option.some.injEq, Prod.mk.injEq] at H
 obtain ⟨rfl, rfl, rfl, rfl⟩ := H
 go_enter Try.func42, Try.ntmps42
 try go_wp2_with (first | ((with_reducible refine gate_dst (N := 2) rfl ?_); refine box_event ?hg (N := 2) ?hd (cs := #[.int .i64 0, .slice none 0 0]) (t := 25) ?hr ?_; (case hd => rfl); (case hg => rfl); (case hr => first | (go_simp; done) | (go_simp; rfl)); intro gb971 hg w6 hbox hb; have n0_ := Aside0.mk (below_step (viaW HB.out) hb); have n1_ := Aside0.mk (hbox); have n2_ := Aside0.mk ((by rw [hg]; exact (below_size (viaW HB.out)) : w.heap.size ≤ gb971)); have n3_ := Aside0.mk ((by rw [hg]; exact (below_size (viaW HB.out)) : w.heap.size ≤ gb971)); clear HB; have HB := n0_; have BK971 := n1_; have GW971 := n2_; have GE971 := n3_; clear n0_ n1_ n2_ n3_; clear hb hbox hg) | ((with_reducible refine gate_callee (f := 81) rfl ?_); refine goesL_ (some 9) rfl rfl Try.func81 (by kernel_rfl) rfl #[.slice A0 l0.length c0] rfl (by (try simp only [List.map_toArray, List.map_cons, List.map_nil]); first | done | rfl | (simp only [List.length_drop, List.length_take]; rfl)) ?_; (with_reducible refine (spec_l6Open.calls _ _ l0 t972 t973 w _ ?side1 ?side2 ?side3 A2.out).mono ?_); (case side1 => repeat (first | (with_reducible first | exact HB.out | apply below_alloc | apply pw_below_drewN | apply below_drew1 | refine below_set ?_ GE971.out) | exact HB.out)); (case side2 => exact HR0.out); (case side3 => exact HC0.out); rintro e w7 ⟨g974, rfl, hi, hb, hb2⟩; refine ⟨_, rfl, ?_⟩; have n0_ := Aside0.mk (blk_below (g := gb971) (o := .cells #[.int .i64 0, .slice none 0 0] 25 (0, 0)) (viaB BK971.out) hb2); have n1_ := Aside0.mk (hb); have n2_ := Aside0.mk (hi); have n3_ := Aside0.mk (IsS99.ne_blk hi (blk_below (g := gb971) (o := .cells #[.int .i64 0, .slice none 0 0] 25 (0, 0)) (viaB BK971.out) hb2) (by decide)); have n4_ := Aside0.mk (Ne.symm (IsS99.ne_blk hi (blk_below (g := gb971) (o := .cells #[.int .i64 0, .slice none 0 0] 25 (0, 0)) (viaB BK971.out) hb2) (by decide))); clear BK971; clear HB; have BK971 := n0_; have HB := n1_; have HI974 := n2_; have NB974_971 := n3_; have NB971_974 := n4_; clear n0_ n1_ n2_ n3_ n4_; (try clear hb); (try clear hb2); (try clear hk); (try clear hi)) | ((with_reducible refine gate_callee (f := 82) rfl ?_); refine goesL_ (some 11) rfl rfl Try.func82 (by kernel_rfl) rfl #[.pointer (some ⟨g974, 0, none⟩)] rfl (by (try simp only [List.map_toArray, List.map_cons, List.map_nil]); first | done | rfl | (simp only [List.length_drop, List.length_take]; rfl)) ?_; (with_reducible refine (spec_l92Small.calls k g974 t972 t973 t975 t976 t979 w _ ?side1 ?side2 A3.out).mono ?_); (case side1 => repeat (first | (with_reducible first | exact HI974.out | apply IsS99.alloc | apply IsS99.drewN | apply IsS99.drew | apply IsS99.set_1 | refine IsS99.far ?_ NB974_971.out _) | exact HI974.out)); (case side2 => repeat (first | (with_reducible first | exact HB.out | apply below_alloc | apply pw_below_drewN | apply below_drew1 | refine below_set ?_ (IsS99.ge HI974.out) | refine below_set ?_ GE971.out) | exact HB.out)); rintro e w8 ⟨v977, rfl, ho0, hi, hb, hk⟩; refine ⟨_, rfl, ?_⟩; have n0_ := Aside0.mk (KeepBut.blk hk (g' := gb971) (o := .cells #[.int .i64 0, .slice none 0 0] 25 (0, 0)) (viaB BK971.out) NB971_974.out (by simp)); have n1_ := Aside0.mk (Kd.R_lower ho0 (below_size (by repeat (first | (with_reducible first | exact HB.out | apply below_alloc | apply pw_below_drewN | apply below_drew1 | refine below_set ?_ (IsS99.ge HI974.out) | refine below_set ?_ GE971.out) | exact HB.out)))); have n2_ := Aside0.mk (hb); have n3_ := Aside0.mk (hi); clear BK971; clear HB; clear HI974; have BK971 := n0_; have HO978 := n1_; have HB := n2_; have HI974 := n3_; clear n0_ n1_ n2_ n3_; (try clear hb); (try clear hb2); (try clear hk); (try clear hi); (try clear ho0)) | ((with_reducible refine gate_dst (N := 6) rfl ?_); refine box_event ?hg (N := 6) ?hd (cs := #[.int .i64 0, .slice none 0 0]) (t := 25) ?hr ?_; (case hd => rfl); (case hg => rfl); (case hr => first | (go_simp; done) | (go_simp; rfl)); intro gb980 hg w9 hbox hb; have n0_ := Aside0.mk (Kd.R_below (viaR HO978.out) hb); have n1_ := Aside0.mk (blk_below (g := gb971) (o := .cells #[.int .i64 0, .slice none 0 0] 25 (0, 0)) (viaB BK971.out) hb); have n2_ := Aside0.mk (IsS99.below (by repeat (first | (with_reducible first | exact HI974.out | apply IsS99.alloc | apply IsS99.drewN | apply IsS99.drew | apply IsS99.set_1 | refine IsS99.far ?_ NB974_971.out _) | exact HI974.out)) hb); have n3_ := Aside0.mk (below_step (by repeat (first | (with_reducible first | exact HB.out | apply below_alloc | apply pw_below_drewN | apply below_drew1 | refine below_set ?_ (IsS99.ge HI974.out) | refine below_set ?_ GE971.out) | exact HB.out)) hb); have n4_ := Aside0.mk (hbox); have n5_ := Aside0.mk ((by rw [hg]; exact (below_size (by repeat (first | (with_reducible first | exact HB.out | apply below_alloc | apply pw_below_drewN | apply below_drew1 | refine below_set ?_ (IsS99.ge HI974.out) | refine below_set ?_ GE971.out) | exact HB.out))) : w.heap.size ≤ gb980)); have n6_ := Aside0.mk ((by rw [hg]; exact (below_size (by repeat (first | (with_reducible first | exact HB.out | apply below_alloc | apply pw_below_drewN | apply below_drew1 | refine below_set ?_ (IsS99.ge HI974.out) | refine below_set ?_ GE971.out) | exact HB.out))) : w.heap.size ≤ gb980)); have n7_ := Aside0.mk ((by rw [hg]; exact Nat.ne_of_lt (blk_lt (g := gb971) (o := .cells #[.int .i64 0, .slice none 0 0] 25 (0, 0)) (viaB BK971.out)) : gb971 ≠ gb980)); have n8_ := Aside0.mk ((by rw [hg]; exact Nat.ne_of_gt (blk_lt (g := gb971) (o := .cells #[.int .i64 0, .slice none 0 0] 25 (0, 0)) (viaB BK971.out)) : gb980 ≠ gb971)); have n9_ := Aside0.mk ((by rw [hg]; exact Nat.ne_of_lt (IsS99.lt (show IsS99 w _ g974 t972 t979 from by repeat (first | (with_reducible first | exact HI974.out | apply IsS99.alloc | apply IsS99.drewN | apply IsS99.drew | apply IsS99.set_1 | refine IsS99.far ?_ NB974_971.out _) | exact HI974.out))) : g974 ≠ gb980)); have n10_ := Aside0.mk ((by rw [hg]; exact Nat.ne_of_gt (IsS99.lt (show IsS99 w _ g974 t972 t979 from by repeat (first | (with_reducible first | exact HI974.out | apply IsS99.alloc | apply IsS99.drewN | apply IsS99.drew | apply IsS99.set_1 | refine IsS99.far ?_ NB974_971.out _) | exact HI974.out))) : gb980 ≠ g974)); clear HO978; clear BK971; clear HI974; clear HB; have HO978 := n0_; have BK971 := n1_; have HI974 := n2_; have HB := n3_; have BK980 := n4_; have GW980 := n5_; have GE980 := n6_; have NB971_980 := n7_; have NB980_971 := n8_; have NB974_980 := n9_; have NB980_974 := n10_; clear n0_ n1_ n2_ n3_ n4_ n5_ n6_ n7_ n8_ n9_ n10_; clear hb hbox hg; have hnb10 := NB980_971.out; have hnc10 := NB971_980.out; have hnb11 := NB980_974.out; have hnc11 := NB974_980.out; have hcz12_0 : w9.cell? ⟨gb980, 0, none⟩ = some (.int .i64 0) := (blk_cell BK980.out 0).trans rfl; have hcz12_1 : w9.cell? ⟨gb980, 1, none⟩ = some (.slice none 0 0) := (blk_cell BK980.out 1).trans rfl; have hfz12_0 := blk_frozen BK980.out 0; have hfz12_1 := blk_frozen BK980.out 1; obtain ⟨Ao13, co13, eo13⟩ := Kd.R_slice HO978.out; subst eo13) | ((with_reducible refine gate_callee (f := 83) rfl ?_); refine goesL_ (some 13) rfl rfl Try.func83 (by kernel_rfl) rfl #[.pointer (some ⟨g974, 0, none⟩)] rfl (by (try simp only [List.map_toArray, List.map_cons, List.map_nil]); first | done | rfl | (simp only [List.length_drop, List.length_take]; rfl)) ?_; (with_reducible refine (spec_l92Kind.calls k g974 t972 t979 t981 t982 w _ ?side1 ?side2 A4.out).mono ?_); (case side1 => repeat (first | (with_reducible first | exact HI974.out | apply IsS99.alloc | apply IsS99.drewN | apply IsS99.drew | apply IsS99.set_1 | refine IsS99.far ?_ NB974_971.out _ | refine IsS99.far ?_ NB974_980.out _) | exact HI974.out)); (case side2 => repeat (first | (with_reducible first | exact HB.out | apply below_alloc | apply pw_below_drewN | apply below_drew1 | refine below_set ?_ (IsS99.ge HI974.out) | refine below_set ?_ GE971.out | refine below_set ?_ GE980.out) | exact HB.out)); rintro e w14 ⟨rfl, hi, hb, hk⟩; refine ⟨_, rfl, ?_⟩; have n0_ := Aside0.mk (KeepBut.blk hk (g' := gb971) (o := .cells #[.int .i64 0, .slice none 0 0] 25 (0, 0)) (by (with_reducible repeat (first | refine blk_drewN ?_ _ | refine blk_drew ?_ | refine blk_alloc ?_ _)); refine blk_far ?_ NB971_980.out _; (with_reducible repeat (first | refine blk_drewN ?_ _ | refine blk_drew ?_ | refine blk_alloc ?_ _)); refine blk_far ?_ NB971_980.out _; (with_reducible repeat (first | refine blk_drewN ?_ _ | refine blk_drew ?_ | refine blk_alloc ?_ _)); exact BK971.out) NB971_974.out (by simp)); have n1_ := Aside0.mk (Kd.R_mono (Kd.R_keep (IsS99.apart (show IsS99 w _ g974 t972 t979 from by repeat (first | (with_reducible first | exact HI974.out | apply IsS99.alloc | apply IsS99.drewN | apply IsS99.drew | apply IsS99.set_1 | refine IsS99.far ?_ NB974_971.out _ | refine IsS99.far ?_ NB974_980.out _) | exact HI974.out)) (by (with_reducible repeat (first | apply Kd.R_alloc | apply Kd.R_drewN | apply Kd.R_drew)); exact (Kd.R_mono (Kd.R_far (p := ⟨gb980, 1, none⟩) (Kd.R_far (p := ⟨gb980, 0, none⟩) (Kd.R_types HO978.out BK980.out (by decide)) (fun _ hk => hk.2) (.int .i64 t975)) (fun _ hk => hk.2) (.slice Ao13 t976.length co13)) (fun _ h_ => h_.1))) (by decide)) hk (fun _ h => h.2)) (fun _ h => h.1)); have n2_ := Aside0.mk (KeepBut.blk hk (g' := gb980) (o := .cells #[.int .i64 t975, .slice Ao13 t976.length co13] 25 (0, 0)) (by (with_reducible repeat (first | refine blk_drewN ?_ _ | refine blk_drew ?_ | refine blk_alloc ?_ _)); refine blk_put (cs := #[.int .i64 t975, .slice none 0 0]) ?_ 1 _ rfl; (with_reducible repeat (first | refine blk_drewN ?_ _ | refine blk_drew ?_ | refine blk_alloc ?_ _)); refine blk_put (cs := #[.int .i64 0, .slice none 0 0]) ?_ 0 _ rfl; (with_reducible repeat (first | refine blk_drewN ?_ _ | refine blk_drew ?_ | refine blk_alloc ?_ _)); exact BK980.out) NB980_974.out (by simp)); have n3_ := Aside0.mk (hb); have n4_ := Aside0.mk (hi); clear BK971; clear HO978; clear BK980; clear HB; clear HI974; have BK971 := n0_; have HO978 := n1_; have BK980 := n2_; have HB := n3_; have HI974 := n4_; clear n0_ n1_ n2_ n3_ n4_; (try clear hb); (try clear hb2); (try clear hk); (try clear hi)))
 have n0_ := Aside0.mk (Kd.R_drew HO978.out); have n1_ := Aside0.mk (blk_drew BK971.out); have n2_ := Aside0.mk (blk_drew BK980.out); have n3_ := Aside0.mk (IsS99.drew HI974.out); have n4_ := Aside0.mk (below_drew1 HB.out); clear HO978; clear BK971; clear BK980; clear HI974; clear HB; have HO978 := n0_; have BK971 := n1_; have BK980 := n2_; have HI974 := n3_; have HB := n4_; clear n0_ n1_ n2_ n3_ n4_
 refine start_ (n := 8) (S := fun w' => w'.cell? ⟨gb980, 0, none⟩ = some (.int .i64 t975) ∧ w'.cell? ⟨gb980, 1, none⟩ = some (.slice Ao13 t976.length co13)) (ds := []) #[false, false, false, false, false, false, false, false] (by kernel_rfl) rfl rfl ⟨(blk_cell BK980.out 0).trans rfl, (blk_cell BK980.out 1).trans rfl⟩ (fun hHeld => ?_); refine with_tabW spec_DrawFlipSize.tab4 spec_DrawFlipSize.bits4 (fun HT_ HW_ => ?_)
 generalize w14.drew = w15 at HO978 BK971 BK980 HI974 HB hHeld ⊢
 refine pure_ (i := 1) (N := some 15) (v := ?_) (a' := ?_) #[false, true, false, false, false, false, false, false] rfl rfl (any_of HT_.out (by kernel_rfl)) (fun _ _ _ h => h) (Or.inl ⟨by rfl, ?_⟩) ?_ ?_
 rotate_left
 ·intro w'
  go_simp
  with_reducible rfl
 rotate_left
 ·simp only [Act.put, List.setIfInBounds_toArray, List.set_cons_zero, List.set_cons_succ, i64_w, i32_w]
  rfl
 refine pure_ (i := 2) (N := some 16) (v := ?_) (a' := ?_) #[false, true, true, false, false, false, false, false] rfl rfl (any_of HT_.out (by kernel_rfl)) (fun _ _ _ h => h) (Or.inl ⟨by rfl, ?_⟩) ?_ ?_
 rotate_left
 ·intro w'
  go_simp
  with_reducible rfl
 rotate_left
 ·simp only [Act.put, List.setIfInBounds_toArray, List.set_cons_zero, List.set_cons_succ, i64_w, i32_w]
  rfl
 refine take_ (i := 0) (N := some 14) (v := ?_) (a' := ?_) #[true, true, true, false, false, false, false, false] rfl rfl (take_ofW HT_.out HW_.out (by kernel_rfl)) (fun _ _ _ h => h) (Or.inl ⟨by rfl, ?_⟩) hHeld ?_ ?_
 rotate_left
 ·rintro w' ⟨s0, s1⟩
  go_simp
  with_reducible rfl
 rotate_left
 ·simp only [Act.put, List.setIfInBounds_toArray, List.set_cons_zero, List.set_cons_succ, i64_w, i32_w]
  rfl
 refine take_ (i := 3) (N := some 17) (v := ?_) (a' := ?_) #[true, true, true, true, false, false, false, false] rfl rfl (take_ofW HT_.out HW_.out (by kernel_rfl)) (fun _ _ _ h => h) (Or.inl ⟨by rfl, ?_⟩) hHeld ?_ ?_
 rotate_left
 ·rintro w' ⟨s0, s1⟩
  go_simp
  with_reducible rfl
 rotate_left
 ·simp only [Act.put, List.setIfInBounds_toArray, List.set_cons_zero, List.set_cons_succ, i64_w, i32_w]
  rfl
 refine one_ (i := 4) (N := some 18) #[true, true, true, true, true, false, false, false] rfl rfl (one_of HT_.out (by kernel_rfl)) (by decide) (fun K hK => ?_)
 refine goes_ Try.func84 (by kernel_rfl) rfl #[.pointer (some ⟨g974, 0, none⟩), .agg #[.int .i64 t975, .slice Ao13 t976.length co13]] (by rfl) rfl rfl (by (try simp only [List.map_toArray, List.map_cons, List.map_nil]); first | done | rfl | (simp only [List.length_drop, List.length_take]; rfl)) ?_
 with_reducible refine (spec_l91Way.calls k g974 t972 t982 t975 _ _ t976 t983 t984 w _ ?side1 ?side2 ?side3 ?side4 A5.out).mono ?_
 (case side1 => repeat (first | (with_reducible first | exact HI974.out | apply IsS99.alloc | apply IsS99.drewN | apply IsS99.drew | apply IsS99.set_1 | refine IsS99.far ?_ NB974_971.out _ | refine IsS99.far ?_ NB974_980.out _) | exact HI974.out))
 (case side2 => repeat (first | (with_reducible first | exact HB.out | apply below_alloc | apply pw_below_drewN | apply below_drew1 | refine below_set ?_ (IsS99.ge HI974.out) | refine below_set ?_ GE971.out | refine below_set ?_ GE980.out) | exact HB.out))
 (case side3 => exact Kd.C_foot_own (IsS99.apart (show IsS99 w _ g974 t972 t982 from by repeat (first | (with_reducible first | exact HI974.out | apply IsS99.alloc | apply IsS99.drewN | apply IsS99.drew | apply IsS99.set_1 | refine IsS99.far ?_ NB974_971.out _ | refine IsS99.far ?_ NB974_980.out _) | exact HI974.out)) (viaR HO978.out) (by decide)) (fun _ h_ => h_.2))
 (case side4 => exact (Kd.R_reads' HO978.out).2.1)
 rintro e w16 ⟨rfl, hi, hb, hk⟩
 refine ⟨_, rfl, ?_⟩
 have n0_ := Aside0.mk (KeepBut.blk hk (g' := gb971) (o := .cells #[.int .i64 0, .slice none 0 0] 25 (0, 0)) (viaB BK971.out) NB971_974.out (by simp)); have n1_ := Aside0.mk (Kd.R_mono (Kd.R_keep (IsS99.apart (show IsS99 w _ g974 t972 t982 from by repeat (first | (with_reducible first | exact HI974.out | apply IsS99.alloc | apply IsS99.drewN | apply IsS99.drew | apply IsS99.set_1 | refine IsS99.far ?_ NB974_971.out _ | refine IsS99.far ?_ NB974_980.out _) | exact HI974.out)) (viaR HO978.out) (by decide)) hk (fun _ h => h.2)) (fun _ h => h.1)); have n2_ := Aside0.mk (KeepBut.blk hk (g' := gb980) (o := .cells #[.int .i64 t975, .slice Ao13 t976.length co13] 25 (0, 0)) (viaB BK980.out) NB980_974.out (by simp)); have n3_ := Aside0.mk (hb); have n4_ := Aside0.mk (hi); clear BK971; clear HO978; clear BK980; clear HB; clear HI974; have BK971 := n0_; have HO978 := n1_; have BK980 := n2_; have HB := n3_; have HI974 := n4_; clear n0_ n1_ n2_ n3_ n4_
 (try clear hb)
 (try clear hb2)
 (try clear hk)
 (try clear hi)
 refine hK.out _ _ ⟨(blk_cell BK980.out 0).trans rfl, (blk_cell BK980.out 1).trans rfl⟩ (fun hHeld => ?_)
 clear hK K
 refine norm_ (a' := ?_) ?_ ?_
 rotate_left
 ·show Act.put _ (some 18) _ = _
  simp only [Act.put, List.setIfInBounds_toArray, List.set_cons_zero, List.set_cons_succ, i64_w, i32_w]
  rfl
 refine one_ (i := 5) (N := none) #[true, true, true, true, true, true, false, false] rfl rfl (one_of HT_.out (by kernel_rfl)) (by decide) (fun K hK => ?_)
 have hs17 : w16.cell? ⟨gb971, 0, none⟩ = some (.int .i64 0) := (blk_cell BK971.out 0).trans rfl; have hfs17 := blk_frozen BK971.out 0; have hns17_1 := NB980_971.out; have hms17_1 := NB971_980.out; have hs18 : w16.cell? ⟨gb971, 1, none⟩ = some (.slice none 0 0) := (blk_cell BK971.out 1).trans rfl; have hfs18 := blk_frozen BK971.out 1; have hns18_1 := NB980_971.out; have hms18_1 := NB971_980.out
 refine skip_ (w1 := ?_) (by rfl) rfl ?_ ?_
 rotate_left
 ·go_simp
  rfl
 refine hK.out _ _ ⟨((cell_far (p := ⟨gb971, _, none⟩) NB980_971.out _).trans (((cell_far (p := ⟨gb971, _, none⟩) NB980_971.out _).trans (hHeld.1)))), ((cell_far (p := ⟨gb971, _, none⟩) NB980_971.out _).trans (((cell_far (p := ⟨gb971, _, none⟩) NB980_971.out _).trans (hHeld.2))))⟩ (fun hHeld => ?_)
 clear hK K
 refine pure_ (i := 6) (N := some 3) (v := ?_) (a' := ?_) #[true, true, true, true, true, true, true, false] rfl rfl (any_of HT_.out (by kernel_rfl)) (fun _ _ _ h => h) (Or.inl ⟨by rfl, ?_⟩) ?_ ?_
 rotate_left
 ·intro w'
  go_simp
  with_reducible rfl
 rotate_left
 ·simp only [Act.put, List.setIfInBounds_toArray, List.set_cons_zero, List.set_cons_succ, i64_w, i32_w]
  rfl
 refine pure_ (i := 7) (N := some 4) (v := ?_) (a' := ?_) #[true, true, true, true, true, true, true, true] rfl rfl (any_of HT_.out (by kernel_rfl)) (fun _ _ _ h => h) (Or.inl ⟨by rfl, ?_⟩) ?_ ?_
 rotate_left
 ·intro w'
  go_simp
  with_reducible rfl
 rotate_left
 ·simp only [Act.put, List.setIfInBounds_toArray, List.set_cons_zero, List.set_cons_succ, i64_w, i32_w]
  rfl
 refine done_ (done_of HT_.out (by kernel_rfl)) ?_
 try go_wp2
 refine bodyPost_ret (results_ctt rfl _ _ gb971 25 #[.int .i64 t975, .slice Ao13 t976.length co13] (0, 0) _ rfl (by (with_reducible repeat (first | refine blk_drewN ?_ _ | refine blk_drew ?_ | refine blk_alloc ?_ _)); refine blk_put (cs := #[.int .i64 t975, .slice none 0 0]) ?_ 1 _ rfl; (with_reducible repeat (first | refine blk_drewN ?_ _ | refine blk_drew ?_ | refine blk_alloc ?_ _)); refine blk_put (cs := #[.int .i64 0, .slice none 0 0]) ?_ 0 _ rfl; (with_reducible repeat (first | refine blk_drewN ?_ _ | refine blk_drew ?_ | refine blk_alloc ?_ _)); exact BK971.out) Try.underlying25 rfl (by kernel_rfl)) rfl ?_
 exact ⟨_, by first | rfl | (simp [errW_none, errW_some] <;> rfl) | (simp [*, errW_none, errW_some] <;> rfl), by (with_reducible repeat (first | apply Kd.R_alloc | apply Kd.R_drewN | apply Kd.R_drew)); exact Kd.R_mono (Kd.R_far (p := ⟨gb971, 1, none⟩) (Kd.R_far (p := ⟨gb971, 0, none⟩) (Kd.R_types HO978.out BK971.out (by decide)) (fun _ hk => hk.2) (.int .i64 t975)) (fun _ hk => hk.2) (.slice Ao13 t976.length co13)) (fun _ hk => trivial), by repeat (first | (with_reducible first | exact HB.out | apply below_alloc | apply pw_below_drewN | apply below_drew1 | refine below_set ?_ (IsS99.ge HI974.out) | refine below_set ?_ GE971.out | refine below_set ?_ GE980.out) | exact HB.out)⟩

-- NOT PRINTED: function 88 (impl_ScoreMany_1)

end Go.Proofs.Ythoaebnnolbaaaa.G
