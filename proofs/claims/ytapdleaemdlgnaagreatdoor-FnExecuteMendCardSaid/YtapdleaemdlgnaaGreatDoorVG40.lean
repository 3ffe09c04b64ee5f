/- For each Go function named below: a plain Lean function of the same name, and the proof that a call of the Go function returns just what the plain function tells, where it tells something. Written by a program of this session with the printer of the kit. -/
import Derived.Test.YtapdleaemdlgnaaGreatDoorVG0
import Derived.Test.YtapdleaemdlgnaaGreatDoorVG4
import Derived.Test.YtapdleaemdlgnaaGreatDoorVG5
import Derived.Test.YtapdleaemdlgnaaGreatDoorVG6
import Derived.Test.YtapdleaemdlgnaaGreatDoorVG8
import Derived.Test.YtapdleaemdlgnaaGreatDoorVG9
import Derived.Test.YtapdleaemdlgnaaGreatDoorVG10
import Derived.Test.YtapdleaemdlgnaaGreatDoorVG13
import Derived.Test.YtapdleaemdlgnaaGreatDoorVG36
import Derived.Test.YtapdleaemdlgnaaGreatDoorVG39
namespace Go.Proofs.YtapdleaemdlgnaaGreatDoor.G
open Go.RowKit Go.Proofs.YtapdleaemdlgnaaGreatDoorW.PrintWords Go.Proofs.YtapdleaemdlgnaaGreatDoorW.PrintLast Go.Proofs.YtapdleaemdlgnaaGreatDoorW.PrintMore
attribute [local go_sem] max2_int min2_int max_two min_two max_three min_three max_four min_four   -- for this text's walks alone
set_option linter.unusedVariables false
set_option linter.unusedSimpArgs false

/-! ### impl_desk_line: function 28 -/
-- behind impl_desk_plain.calls, strings_Cut.calls, impl_numbersOf.calls
theorem DeskAt.lt {B g : Nat} {n o : Int} {es : List (S44)} {w : World} (h : DeskAt B g n es o w) : g < w.heap.size := by
  obtain ⟨_, A, c, h1, _⟩ := h
  rcases Nat.lt_or_ge g w.heap.size with h' | h'
  · exact h'
  · rw [Array.getElem?_eq_none h'] at h1; cases h1
/-- The edges of a graph's line. -/
def pairsOf : List Int → Option (List (S44))
  | [] => some []
  | [_] => none
  | a :: b :: r => (pairsOf r).bind fun es => some (⟨a, b⟩ :: es)
/-- A line of a script: the desk behind it, and what is answered. Lines that are not told here: none. -/
def impl_desk_line.f (k : Nat) (n : Int) (es : List (S44)) (o : Int) (s : ByteArray) : Option (Int × List (S44) × Int × ByteArray) :=
  (strings_Cut.f s (⟨#[32]⟩ : ByteArray)).bind fun t => if t.2.2 = true then ((impl_numbersOf.f k t.2.1).bind fun l => if t.1 = (⟨#[103, 114, 97, 112, 104]⟩ : ByteArray) then (match l with
        | (n' :: r, true) => (pairsOf r).bind fun es' => if es'.length < 1000 then ((impl_WayGraph.f k n' es').bind fun b => if b = true then some (n', es', 0, (⟨#[111, 107]⟩ : ByteArray)) else none) else none
        | _ => none)
      else if t.1 = (⟨#[119, 97, 121]⟩ : ByteArray) then (match l with
        | ([m], true) => (impl_WayIn.f k n es m).bind fun b => if b = true then some (n, es, m, (⟨#[111, 107]⟩ : ByteArray)) else none
        | _ => none) else none)
    else (impl_desk_plain.f k n es o t.1).bind fun r => some (n, es, o, r)
/-- What a line leaves: the desk, and all else as it was. -/
def LineLeft (B g : Nat) (n : Int) (es : List (S44)) (o : Int) (w w' : World) : Prop := DeskAt B g n es o w' ∧ Below g w w' ∧ KeepBut w w' g none
set_option maxHeartbeats 8000000 in
set_option maxRecDepth 100000 in
theorem impl_desk_line.bare (k : Nat) (B g : Nat) (n : Int) (es : List (S44)) (o : Int) (s x1 x2 : ByteArray) (r : ByteArray) (w : World) (gl : GL w) (hd : DeskAt B g n es o w) (h1 : strings_Cut.f s (⟨#[32]⟩ : ByteArray) = some (x1, x2, false)) (h : impl_desk_plain.f k n es o x1 = some r) :
    Calls Tryz.prog 28 #[.pointer (some ⟨g, 0, none⟩), .string s] w fun e w' => e = .returned (.string r) ∧ LineLeft B g n es o w w' := by
  have GLW := Aside0.mk gl
  have HD := Aside0.mk hd
  have A1 := Aside0.mk h1
  have A2 := Aside0.mk h
  clear gl hd h1 h
  go_enter Tryz.func28, Tryz.ntmps28
  go_wp2_with (first
    | (go_at_call 50; refine (impl_desk_plain.calls k B g n es o x1 r _ (GL.below GLW.out HB1.out) (DeskAt.below HD.out HB1.out) A2.out).mono ?_; rintro e w2 ⟨rfl, hb2⟩; have HB2 := Aside0.mk (below_step HB1.out hb2))
    | (go_at_call 49; refine (strings_Cut.calls s _ x1 x2 false _ A1.out).mono ?_; rintro e w1 ⟨rfl, hb1⟩; have HB1 := Aside0.mk hb1; clear hb1))
  go_ret
  exact ⟨rfl, DeskAt.below HD.out HB2.out, HB2.out.mono (Nat.le_of_lt HD.out.lt), KeepBut.of_below HB2.out g none⟩
set_option maxHeartbeats 8000000 in
set_option maxRecDepth 100000 in
theorem impl_desk_become.yes (g : Nat) (n o m : Int) (v : Value) (w : World) (h1 : w.heap[g]? = some (.cells #[.int .i64 n, v, .int .i64 o] 46 (0, 0))) :
    Calls Tryz.prog 54 #[.pointer (some ⟨g, 0, none⟩), .int .i64 m, .bool true] w fun e w' => e = .returned (.string ⟨#[111, 107]⟩) ∧ w' = w.setCell ⟨g, 2, none⟩ (.int .i64 m) := by
  have hu46 := Tryz.underlying46
  have hv2 : w.cell? ⟨g, 2, none⟩ = some (.int .i64 o) := (blk_cell h1 2).trans rfl
  have hf2 := blk_frozen h1 2
  clear h1
  go_enter Tryz.func54, Tryz.ntmps54
  go_wp2
  go_ret
  exact ⟨rfl, rfl⟩
set_option maxHeartbeats 8000000 in
set_option maxRecDepth 100000 in
theorem impl_desk_line.way (k : Nat) (B g : Nat) (n : Int) (es : List (S44)) (o : Int) (s x2 : ByteArray) (m : Int) (w : World) (gl : GL w) (hd : DeskAt B g n es o w) (h1 : strings_Cut.f s (⟨#[32]⟩ : ByteArray) = some ((⟨#[119, 97, 121]⟩ : ByteArray), x2, true)) (h2 : impl_numbersOf.f k x2 = some ([m], true)) (h3 : impl_WayIn.f k n es m = some true) :
    Calls Tryz.prog 28 #[.pointer (some ⟨g, 0, none⟩), .string s] w fun e w' => e = .returned (.string ⟨#[111, 107]⟩) ∧ LineLeft B g n es m w w' := by
  have GLW := Aside0.mk gl
  have HD := Aside0.mk hd
  have A1 := Aside0.mk h1
  have A2 := Aside0.mk h2
  have A3 := Aside0.mk h3
  have hu28 := Tryz.underlying28
  have hu46 := Tryz.underlying46
  clear gl hd h1 h2 h3
  go_enter Tryz.func28, Tryz.ntmps28
  go_wp2_with (first
    | (go_at_call 54; refine (impl_desk_become.yes g n o m _ _ HD6.out).mono ?_; rintro e w7 ⟨rfl, hb⟩; have HE7 := Aside0.mk hb; clear hb)
    | (go_at_call 42; refine (impl_WayIn.calls k n _ _ es m true _ (Kd.R_reads' HR.out).2.2 (Kd.R_reads' HR.out).2.1 A3.out).mono ?_; rintro e w6 ⟨rfl, hb⟩; have HB6 := Aside0.mk (below_step HB2.out hb); have HD6 := Aside0.mk (blk_below HD1.out hb); have HR6 := Aside0.mk (Kd.R_below HR.out hb); clear hb)
    | (go_at_call 53; refine (impl_numbersOf.calls k x2 [m] true _ A2.out).mono ?_; rintro e w2 ⟨v, rfl, hv, hb2⟩; have HB2 := Aside0.mk (below_step HB1.out hb2); obtain ⟨Al, cl, rfl⟩ := Kd.R_slice hv; have HV := Aside0.mk (Kd.R_reads' hv).2.2; obtain ⟨ad, e_, hc0⟩ := Kd.at_int HV.out 0 (by decide) (by simp); cases e_; replace hc0 : w2.cell? ad = some (.int .i64 m) := hc0; obtain ⟨hB, Ad, cd, hd1, hd2⟩ := DeskAt.below HD.out HB2.out; have hv0 : w2.cell? ⟨g, 0, none⟩ = some (.int .i64 n) := (blk_cell hd1 0).trans rfl; have hv1 : w2.cell? ⟨g, 1, none⟩ = some (.slice Ad es.length cd) := (blk_cell hd1 1).trans rfl; have HD1 := Aside0.mk hd1; have HR := Aside0.mk hd2; have HBB := Aside0.mk hB; clear hv hb2 hd1 hd2 hB)
    | (go_at_call 49; refine (strings_Cut.calls s _ _ x2 true _ A1.out).mono ?_; rintro e w1 ⟨rfl, hb1⟩; have HB1 := Aside0.mk hb1; clear hb1))
  go_ret
  obtain rfl := HE7.out
  exact ⟨rfl, ⟨HBB.out, Ad, cd, blk_put (cs := #[.int .i64 n, .slice Ad es.length cd, .int .i64 o]) HD6.out 2 _ rfl, Kd.R_mono (Kd.R_far (p := ⟨g, 2, none⟩) (Kd.R_types HR6.out HD6.out (by decide)) (fun _ hk => hk.2) _) (fun _ _ => trivial)⟩, (HB6.out.mono (Nat.le_of_lt HD.out.lt)).setCell (p := ⟨g, 2, none⟩) (Nat.le_refl _) _, (KeepBut.of_below HB6.out g none).set_ 2 _⟩
/-- The waits of the region that puts an edge to the others. -/
def impl_desk_line.T19 : Bool × List (List Nat × List Nat) := (true, [([], []), ([0], [0]), ([], []), ([], []), ([2, 3], [2, 3]), ([4], [4]), ([], []), ([], []), ([7], [7]), ([6, 8], [6, 8]), ([9], [9]), ([5, 10], [5, 10]), ([11], [11]), ([1, 12], [1, 12]), ([0, 1, 2, 3, 4, 5, 6, 7, 8, 9, 10, 11, 12, 13], []), ([14, 13, 13, 0, 1, 2, 3, 4, 5, 6, 7, 8, 9, 10, 11, 12, 13], [13, 14])])
def impl_desk_line.B19 : List Nat := [0, 1, 0, 0, 12, 28, 0, 0, 128, 448, 960, 2044, 4092, 8191, 16383, 32767]
theorem impl_desk_line.tab19 : rtab .any (opsOf Tryz.f28 19) = impl_desk_line.T19 := by kernel_rfl
theorem impl_desk_line.bits19 : waitsOk impl_desk_line.T19.2 impl_desk_line.B19 = true := by kernel_rfl
set_option maxHeartbeats 8000000 in
set_option maxRecDepth 100000 in
theorem impl_desk_line.graph (k : Nat) (B g : Nat) (n : Int) (es : List (S44)) (o : Int) (s x2 : ByteArray) (l : List Int) (n' : Int) (es' : List (S44)) (w : World) (gl : GL w) (hd : DeskAt B g n es o w) (h1 : strings_Cut.f s (⟨#[32]⟩ : ByteArray) = some ((⟨#[103, 114, 97, 112, 104]⟩ : ByteArray), x2, true)) (h2 : impl_numbersOf.f k x2 = some (l, true)) (hl : l.length = 2 * es'.length + 1) (h0 : rd l 0 = n')
    (hp : ∀ j : Nat, j < es'.length → rd l ((2 * j + 1 : Nat) : Int) = (es'.getD j ⟨0, 0⟩).f0 ∧ rd l ((2 * j + 2 : Nat) : Int) = (es'.getD j ⟨0, 0⟩).f1) (hm : es'.length < 1000) (h3 : impl_WayGraph.f k n' es' = some true) :
    Calls Tryz.prog 28 #[.pointer (some ⟨g, 0, none⟩), .string s] w fun e w' => e = .returned (.string ⟨#[111, 107]⟩) ∧ LineLeft B g n' es' 0 w w' := by
  have GLW := Aside0.mk gl
  have HD := Aside0.mk hd
  have A1 := Aside0.mk h1
  have A2 := Aside0.mk h2
  have A3 := Aside0.mk h3
  have HP := Aside0.mk hp
  have HM := Aside0.mk hm
  have HL := Aside0.mk hl
  have hu28 := Tryz.underlying28
  have hu46 := Tryz.underlying46
  have ho : ((l.length : Int) % 2 == 0) = false := by rw [beq_eq_false_iff_ne]; omega
  have hpos : decide (0 < (l.length : Int)) = true := decide_eq_true (by omega)
  have hpos' : decide (0 < l.length) = true := decide_eq_true (by omega)
  have hposT : (0 < l.length) = True := eq_true (by omega)
  have hone : ∃ b : Bool, ((l.length : Int) == 1) = b := ⟨_, rfl⟩
  obtain ⟨b, hone⟩ := hone
  clear gl hd h1 h2 h3 hp hm hl
  go_enter Tryz.func28, Tryz.ntmps28
  cases b
  all_goals
    go_wp2_with (first
      | (go_at_call 53; refine (impl_numbersOf.calls k x2 l true _ A2.out).mono ?_; rintro e w2 ⟨v, rfl, hv, hb2⟩; have HB2 := Aside0.mk (below_step HB1.out hb2); obtain ⟨Al, cl, rfl⟩ := Kd.R_slice hv; have HV := Aside0.mk (Kd.R_reads' hv).2.2; have HVO := Aside0.mk (Kd.R_lower hv HB1.out.size); obtain ⟨ad, e_, hc0⟩ := Kd.at_int HV.out 0 (by decide) (of_decide_eq_true hpos); cases e_; rw [h0] at hc0; replace hc0 : w2.cell? ad = some (.int .i64 n') := hc0; clear hv hb2)
      | (go_at_call 49; refine (strings_Cut.calls s _ _ x2 true _ A1.out).mono ?_; rintro e w1 ⟨rfl, hb1⟩; have HB1 := Aside0.mk hb1; clear hb1))
    have HV2 := HV
    have HB0 := Aside0.mk (below_alloc (Below.refl w2.heap.size w2) (.cells #[.int .i64 n', .slice none 0 0] 28))
    have HK0 := Aside0.mk (heap_alloc_new w2 (.cells #[.int .i64 n', .slice none 0 0] 28))
    generalize (w2.alloc (.cells #[.int .i64 n', .slice none 0 0] 28)) = w3 at HB0 HK0 ⊢
    clear hc0
    go_loopg [13] es'.length (fun kq v13 w' => ∃ (x13 : Int) (xs : List (S44)) (u : Value), v13 = .int .i64 x13 ∧ Aside0 (∃ j : Nat, x13 = ((2 * j + 1 : Nat) : Int) ∧ xs = es'.take j ∧ j + kq = es'.length) ∧ Aside0 (Kd.R k44 44 w' w2.heap.size (fun _ => True) u xs) ∧ Aside0 (w'.heap[w2.heap.size]? = some (.cells #[.int .i64 n', u] 28 (0, 0))) ∧ Aside0 (Below w2.heap.size w2 w'))
    case atStart => exact ⟨1, [], .slice none 0 0, rfl, ⟨⟨0, rfl, rfl, by omega⟩⟩, ⟨Kd.R_nil _ _ _ _ _⟩, HK0, HB0⟩
    case round =>
      clear HB0 HK0
      obtain ⟨x13, xs, u, rfl, HX, HO, BK, HB⟩ := hrel
      obtain ⟨⟨j, hx1, hx2, hx3⟩⟩ := HX
      cases gk with
      | succ k1 =>
        have hjl : j < es'.length := by omega
        have hp := HP.out j hjl
        have hl := HL.out
        have hm := HM.out
        have HX := Aside0.mk (And.intro hx1 hx3)
        have HXL := Aside0.mk (show xs.length < 8796093022208 by rw [hx2, List.length_take]; omega)
        have HXS := Aside0.mk (show xs ++ [(⟨rd l x13, rd l (wrap64 (x13 + 1))⟩ : S44)] = es'.take (j + 1) by
          have e1 : wrap64 (x13 + 1) = ((2 * j + 2 : Nat) : Int) := by unfold wrap64; omega
          rw [e1, hx1, hp.1, hp.2, hx2, List.take_succ_eq_append_getElem hjl]
          have e2 : es'.getD j ⟨0, 0⟩ = es'[j] := by rw [List.getD_eq_getElem?_getD, List.getElem?_eq_getElem hjl]; rfl
          rw [e2])
        obtain ⟨ys, hys⟩ : ∃ y_, es'.take (j + 1) = y_ := ⟨_, rfl⟩
        rw [hys] at HXS
        have HYS := Aside0.mk hys
        clear hys
        have c1 : x13 < (l.length : Int) := by omega
        have c2 : 0 ≤ x13 := by omega
        have c3 : 0 ≤ wrap64 (x13 + 1) := by unfold wrap64; omega
        have c4 : wrap64 (x13 + 1) < (l.length : Int) := by unfold wrap64; omega
        obtain ⟨ji, hji⟩ : ∃ j_ : Int, wrap64 (x13 + 1) = j_ := ⟨_, rfl⟩
        rw [hji] at HXS c3 c4
        have hjiw : (IntKind.i64.wrap (x13 + 1)) = ji := (i64_w _).trans hji
        have c1b : decide (x13 < (l.length : Int)) = true := decide_eq_true c1
        obtain ⟨ad1, e1, hw1⟩ := Kd.at_int HV.out x13 c2 c1
        obtain rfl : ad = ad1 := (by injection e1)
        obtain ⟨ad2, e2, hw2⟩ := Kd.at_int HV.out ji c3 c4
        obtain rfl : ad = ad2 := (by injection e2)
        clear e1 e2 hp hl hm hx1 hx2 hx3 hjl
        replace c1 := eq_true c1
        replace c2 := eq_true c2
        replace c3 := eq_true c3
        replace c4 := eq_true c4
        try go_wp2
        have n0_ := Aside0.mk (Kd.R_drew HO.out)
        have n1_ := Aside0.mk (blk_drew BK.out)
        have n2_ := Aside0.mk (below_drew1 HB.out)
        clear HO BK HB
        have HO := n0_
        have BK := n1_
        have HB := n2_
        clear n0_ n1_ n2_
        have hx1 := (HB.out.cell (World.block_lt_of_cell? w2 _ hw1)).trans hw1
        have hx2 := (HB.out.cell (World.block_lt_of_cell? w2 _ hw2)).trans hw2
        refine start_ (n := 16) (S := fun w' => w'.cell? ⟨w2.heap.size, 0, none⟩ = some (.int .i64 n') ∧ w'.cell? ⟨w2.heap.size, 1, none⟩ = some u ∧ w'.cell? (ad.add x13.toNat) = some (.int .i64 (rd l x13)) ∧ w'.cell? (ad.add ji.toNat) = some (.int .i64 (rd l ji))) (ds := [15]) #[false, false, false, false, false, false, false, false, false, false, false, false, false, false, false, false] (by kernel_rfl) rfl rfl ⟨(blk_cell BK.out 0).trans rfl, (blk_cell BK.out 1).trans rfl, hx1, hx2⟩ (fun hHeld => ?_)
        refine with_tabW impl_desk_line.tab19 impl_desk_line.bits19 (fun HT_ HW_ => ?_)
        generalize wr.drew = w5 at HO BK HB hx1 hx2 hHeld ⊢
        refine pure_ (i := 0) (N := some 80) (v := ?_) (a' := ?_) #[true, false, false, false, false, false, false, false, false, false, false, false, false, false, false, false] rfl rfl (any_of HT_.out (by kernel_rfl)) (fun _ _ _ h => h) (Or.inl ⟨by rfl, ?_⟩) ?_ ?_
        rotate_left
        · intro w'
          go_simp
          with_reducible rfl
        rotate_left
        · simp only [Act.put, List.setIfInBounds_toArray, List.set_cons_zero, List.set_cons_succ, i64_w, i32_w]
          rfl
        refine pure_ (i := 2) (N := some 82) (v := ?_) (a' := ?_) #[true, false, true, false, false, false, false, false, false, false, false, false, false, false, false, false] rfl rfl (any_of HT_.out (by kernel_rfl)) (fun _ _ _ h => h) (Or.inl ⟨by rfl, ?_⟩) ?_ ?_
        rotate_left
        · intro w'
          go_simp
          with_reducible rfl
        rotate_left
        · simp only [Act.put, List.setIfInBounds_toArray, List.set_cons_zero, List.set_cons_succ, i64_w, i32_w]
          rfl
        refine pure_ (i := 3) (N := some 83) (v := ?_) (a' := ?_) #[true, false, true, true, false, false, false, false, false, false, false, false, false, false, false, false] rfl rfl (any_of HT_.out (by kernel_rfl)) (fun _ _ _ h => h) (Or.inl ⟨by rfl, ?_⟩) ?_ ?_
        rotate_left
        · intro w'
          go_simp
          with_reducible rfl
        rotate_left
        · simp only [Act.put, List.setIfInBounds_toArray, List.set_cons_zero, List.set_cons_succ, i64_w, i32_w]
          rfl
        refine pure_ (i := 4) (N := some 84) (v := ?_) (a' := ?_) #[true, false, true, true, true, false, false, false, false, false, false, false, false, false, false, false] rfl rfl (any_of HT_.out (by kernel_rfl)) (fun _ _ _ h => h) (Or.inl ⟨by rfl, ?_⟩) ?_ ?_
        rotate_left
        · intro w'
          go_simp
          with_reducible rfl
        rotate_left
        · simp only [Act.put, List.setIfInBounds_toArray, List.set_cons_zero, List.set_cons_succ, i64_w, i32_w]
          rfl
        refine pure_ (i := 6) (N := some 86) (v := ?_) (a' := ?_) #[true, false, true, true, true, false, true, false, false, false, false, false, false, false, false, false] rfl rfl (any_of HT_.out (by kernel_rfl)) (fun _ _ _ h => h) (Or.inl ⟨by rfl, ?_⟩) ?_ ?_
        rotate_left
        · intro w'
          go_simp
          with_reducible rfl
        rotate_left
        · simp only [Act.put, List.setIfInBounds_toArray, List.set_cons_zero, List.set_cons_succ, i64_w, i32_w]
          rfl
        refine pure_ (i := 7) (N := some 87) (v := ?_) (a' := ?_) #[true, false, true, true, true, false, true, true, false, false, false, false, false, false, false, false] rfl rfl (any_of HT_.out (by kernel_rfl)) (fun _ _ _ h => h) (Or.inl ⟨by rfl, ?_⟩) ?_ ?_
        rotate_left
        · intro w'
          go_simp
          with_reducible rfl
        rotate_left
        · simp only [Act.put, List.setIfInBounds_toArray, List.set_cons_zero, List.set_cons_succ, i64_w, i32_w]
          rfl
        refine pure_ (i := 8) (N := some 88) (v := ?_) (a' := ?_) #[true, false, true, true, true, false, true, true, true, false, false, false, false, false, false, false] rfl rfl (any_of HT_.out (by kernel_rfl)) (fun _ _ _ h => h) (Or.inl ⟨by rfl, ?_⟩) ?_ ?_
        rotate_left
        · intro w'
          go_simp
          with_reducible rfl
        rotate_left
        · simp only [Act.put, List.setIfInBounds_toArray, List.set_cons_zero, List.set_cons_succ, i64_w, i32_w]
          rfl
        refine pure_ (i := 9) (N := some 89) (v := ?_) (a' := ?_) #[true, false, true, true, true, false, true, true, true, true, false, false, false, false, false, false] rfl rfl (any_of HT_.out (by kernel_rfl)) (fun _ _ _ h => h) (Or.inl ⟨by rfl, ?_⟩) ?_ ?_
        rotate_left
        · intro w'
          go_simp
          with_reducible rfl
        rotate_left
        · simp only [Act.put, List.setIfInBounds_toArray, List.set_cons_zero, List.set_cons_succ, i64_w, i32_w]
          rfl
        refine take_ (i := 1) (N := some 81) (v := ?_) (a' := ?_) #[true, true, true, true, true, false, true, true, true, true, false, false, false, false, false, false] rfl rfl (take_ofW HT_.out HW_.out (by kernel_rfl)) (fun _ _ _ h => h) (Or.inl ⟨by rfl, ?_⟩) hHeld ?_ ?_
        rotate_left
        · rintro w' ⟨s0, s1, s2, s3⟩
          go_simp
          with_reducible rfl
        rotate_left
        · simp only [Act.put, List.setIfInBounds_toArray, List.set_cons_zero, List.set_cons_succ, i64_w, i32_w]
          rfl
        refine take_ (i := 5) (N := some 85) (v := ?_) (a' := ?_) #[true, true, true, true, true, true, true, true, true, true, false, false, false, false, false, false] rfl rfl (take_ofW HT_.out HW_.out (by kernel_rfl)) (fun _ _ _ h => h) (Or.inl ⟨by rfl, ?_⟩) hHeld ?_ ?_
        rotate_left
        · rintro w' ⟨s0, s1, s2, s3⟩
          go_simp
          with_reducible rfl
        rotate_left
        · simp only [Act.put, List.setIfInBounds_toArray, List.set_cons_zero, List.set_cons_succ, i64_w, i32_w]
          rfl
        refine take_ (i := 10) (N := some 90) (v := ?_) (a' := ?_) #[true, true, true, true, true, true, true, true, true, true, true, false, false, false, false, false] rfl rfl (take_ofW HT_.out HW_.out (by kernel_rfl)) (fun _ _ _ h => h) (Or.inl ⟨by rfl, ?_⟩) hHeld ?_ ?_
        rotate_left
        · rintro w' ⟨s0, s1, s2, s3⟩
          go_simp
          with_reducible rfl
        rotate_left
        · simp only [Act.put, List.setIfInBounds_toArray, List.set_cons_zero, List.set_cons_succ, i64_w, i32_w]
          rfl
        refine pure_ (i := 11) (N := some 91) (v := ?_) (a' := ?_) #[true, true, true, true, true, true, true, true, true, true, true, true, false, false, false, false] rfl rfl (any_of HT_.out (by kernel_rfl)) (fun _ _ _ h => h) (Or.inl ⟨by rfl, ?_⟩) ?_ ?_
        rotate_left
        · intro w'
          go_simp
          with_reducible rfl
        rotate_left
        · simp only [Act.put, List.setIfInBounds_toArray, List.set_cons_zero, List.set_cons_succ, i64_w, i32_w]
          rfl
        refine one_ (i := 12) (N := some 92) #[true, true, true, true, true, true, true, true, true, true, true, true, true, false, false, false] rfl rfl (one_of HT_.out (by kernel_rfl)) (by decide) (fun K hK => ?_)
        refine value_ (w1 := ?_) (v := ?_) (by rfl) rfl ?_ ?_
        rotate_left 2
        · go_simp
          constructor
          · rfl
          · rfl
        refine hK.out _ _ ⟨(blk_cell (blk_alloc BK.out _) 0).trans rfl, (blk_cell (blk_alloc BK.out _) 1).trans rfl, (World.cell?_alloc_lt _ _ _ (World.block_lt_of_cell? _ _ hx1)).trans hx1, (World.cell?_alloc_lt _ _ _ (World.block_lt_of_cell? _ _ hx2)).trans hx2⟩ (fun hHeld => ?_)
        clear hK K
        refine norm_ (a' := ?_) ?_ ?_
        rotate_left
        · show Act.put _ (some 92) _ = _
          simp only [Act.put, List.setIfInBounds_toArray, List.set_cons_zero, List.set_cons_succ, i64_w, i32_w]
          rfl
        refine one_ (i := 13) (N := some 93) #[true, true, true, true, true, true, true, true, true, true, true, true, true, true, false, false] rfl rfl (one_of HT_.out (by kernel_rfl)) (by decide) (fun K hK => ?_)
        refine Kd.R_append_step k44 (w0 := w2) w2.heap.size (by rfl) (.tmp 81) (.tmp 92) 26 44 (.agg #[(.int .i64 0), (.int .i64 0)]) 16 rfl Tryz.underlying26 info44 rfl (by decide) (by omega) u xs (⟨rd l x13, rd l ji⟩ : S44) [.int .i64 (rd l x13), .int .i64 (rd l ji)] (fun _ => True) (fun _ => False) rfl rfl ?aP (fun _ hk => hk.elim) ?aF ?aO ?aB ?aS ?aL ?_
        (case aP => exact k44_mkM _ _ _ (⟨rd l x13, rd l ji⟩ : S44))
        (case aB => exact (by repeat (first | (with_reducible first | exact HB.out | apply below_alloc | apply pw_below_drewN | apply below_drew1) | exact HB.out)))
        (case aF => exact (fun _ _ => trivial))
        (case aO => exact (viaR HO.out))
        (case aS => exact (below_size (by repeat (first | (with_reducible first | exact HB.out | apply below_alloc | apply pw_below_drewN | apply below_drew1) | exact HB.out))))
        (case aL => have := HXL.out; omega)
        intro v93 w4 ho hb hg hat
        rw [HXS.out] at ho
        have n1_ := Aside0.mk (blk_grown (g := w2.heap.size) (o := .cells #[.int .i64 n', u] 28 (0, 0)) (viaB BK.out) hg (Kd.R_ne HO.out BK.out (by decide)))
        clear BK HB HO
        have BK := n1_
        have HB := Aside0.mk hb
        have HO := Aside0.mk ho
        clear n1_ ho hb hg hat
        obtain ⟨Ae, ce, rfl⟩ := Kd.R_slice HO.out
        refine hK.out _ _ ⟨(blk_cell BK.out 0).trans rfl, (blk_cell BK.out 1).trans rfl, (HB.out.cell (World.block_lt_of_cell? w2 _ hw1)).trans hw1, (HB.out.cell (World.block_lt_of_cell? w2 _ hw2)).trans hw2⟩ (fun hHeld => ?_)
        clear hK K
        refine norm_ (a' := ?_) ?_ ?_
        rotate_left
        · show Act.put _ (some 93) _ = _
          simp only [Act.put, List.setIfInBounds_toArray, List.set_cons_zero, List.set_cons_succ, i64_w, i32_w]
          rfl
        refine pure_ (i := 14) (N := some 94) (v := ?_) (a' := ?_) #[true, true, true, true, true, true, true, true, true, true, true, true, true, true, true, false] rfl rfl (any_of HT_.out (by kernel_rfl)) (fun _ _ _ h => h) (Or.inl ⟨by rfl, ?_⟩) ?_ ?_
        rotate_left
        · intro w'
          go_simp
          with_reducible rfl
        rotate_left
        · simp only [Act.put, List.setIfInBounds_toArray, List.set_cons_zero, List.set_cons_succ, i64_w, i32_w]
          rfl
        refine last_ (i := 15) (N := none) #[true, true, true, true, true, true, true, true, true, true, true, true, true, true, true, true] rfl rfl (one_of HT_.out (by kernel_rfl)) (by decide) (fun K hK => ?_)
        have hs1 : w4.cell? ⟨w2.heap.size, 1, none⟩ = some u := (blk_cell BK.out 1).trans rfl
        have hf1 := blk_frozen BK.out 1
        refine skip_ (w1 := ?_) (by rfl) rfl ?_ ?_
        rotate_left
        · go_simp
          rfl
        refine hK.out _ _ ?_
        clear hK K
        refine done_ (done_of HT_.out (by kernel_rfl)) ?_
        try go_wp2
        go_roundg k1
        case measure => omega
        case rel =>
          refine ⟨wrap64 (x13 + 2), ys, .slice Ae ys.length ce, (by first | rfl | (simp; done) | (simp [*]; done)), ⟨⟨j + 1, ?_, HYS.out.symm, ?_⟩⟩, ⟨?_⟩, ⟨?_⟩, ⟨?_⟩⟩
          · have h1 := HX.out.1
            have h2 := HX.out.2
            have h3 := HM.out
            unfold wrap64
            omega
          · have h2 := HX.out.2
            omega
          · exact Kd.R_mono (Kd.R_far (p := ⟨w2.heap.size, 1, none⟩) (Kd.R_types HO.out BK.out (by decide)) (fun _ hk => hk.2) _) (fun _ hk => trivial)
          · exact blk_put (cs := #[.int .i64 n', u]) BK.out 1 _ rfl
          · exact below_set HB.out (Nat.le_refl _)
      | zero =>
        have hxs : xs = es' := by rw [hx2]; exact List.take_of_length_le (by omega)
        subst hxs
        have c1b : decide (x13 < (l.length : Int)) = false := decide_eq_false (by have := HL.out; omega)
        have c1 : (x13 < (l.length : Int)) = False := eq_false (by have := HL.out; omega)
        obtain ⟨Ae, ce, rfl⟩ := Kd.R_slice HO.out
        clear hx1 hx2 hx3
        have hz0 : wr.cell? ⟨w2.heap.size, 0, none⟩ = some (.int .i64 n') := (blk_cell BK.out 0).trans rfl
        have hz1 : wr.cell? ⟨w2.heap.size, 1, none⟩ = some (.slice Ae xs.length ce) := (blk_cell BK.out 1).trans rfl
        have HBw := Aside0.mk (below_weaken HB2.out HB2.out.size HB.out)
        have HG2 := Aside0.mk (Nat.le_trans (Nat.le_of_lt HD.out.lt) HB2.out.size)
        go_wp2_with (go_at_call 34; refine (impl_WayGraph.calls k n' _ _ xs true _ (Kd.R_reads' HO.out).2.2 (Kd.R_reads' HO.out).2.1 A3.out).mono ?_; rintro e w6 ⟨rfl, hb⟩; have HO6 := Aside0.mk (Kd.R_below HO.out hb); have BK6 := Aside0.mk (blk_below BK.out hb); have HB6 := Aside0.mk (below_step HBw.out hb); have hy0 : w6.cell? ⟨w2.heap.size, 0, none⟩ = some (.int .i64 n') := (blk_cell BK6.out 0).trans rfl; have hy1 : w6.cell? ⟨w2.heap.size, 1, none⟩ = some (.slice Ae xs.length ce) := (blk_cell BK6.out 1).trans rfl; obtain ⟨hB, Ad, cd, hd1, hd2⟩ := DeskAt.below HD.out HB6.out; have hv0 : w6.cell? ⟨g, 0, none⟩ = some (.int .i64 n) := (blk_cell hd1 0).trans rfl; have hv1 : w6.cell? ⟨g, 1, none⟩ = some (.slice Ad es.length cd) := (blk_cell hd1 1).trans rfl; have hv2 : w6.cell? ⟨g, 2, none⟩ = some (.int .i64 o) := (blk_cell hd1 2).trans rfl; have hf0 := blk_frozen hd1 0; have hf1 := blk_frozen hd1 1; have hf2 := blk_frozen hd1 2; have HD1 := Aside0.mk hd1; have HBB := Aside0.mk hB; clear hb hd1 hd2 hB)
        go_ret
        refine ⟨rfl, ⟨HBB.out, Ae, ce, blk_put (cs := #[.int .i64 n', .slice Ae xs.length ce, .int .i64 o]) (blk_put (cs := #[.int .i64 n', .slice Ad es.length cd, .int .i64 o]) (blk_put HD1.out 0 _ rfl) 1 _ rfl) 2 _ rfl, ?_⟩, ?_, ?_⟩
        · exact Kd.R_mono (Kd.R_far (p := ⟨g, 2, none⟩) (Kd.R_far (p := ⟨g, 1, none⟩) (Kd.R_far (p := ⟨g, 0, none⟩) (Kd.R_types (Kd.R_lower HO6.out (Nat.le_trans HBB.out HG2.out)) HD1.out (by decide)) (fun _ hk => hk.2) _) (fun _ hk => hk.2) _) (fun _ hk => hk.2) _) (fun _ _ => trivial)
        · exact (((HB6.out.mono (Nat.le_of_lt HD.out.lt)).setCell (p := ⟨g, 0, none⟩) (Nat.le_refl _) _).setCell (p := ⟨g, 1, none⟩) (Nat.le_refl _) _).setCell (p := ⟨g, 2, none⟩) (Nat.le_refl _) _
        · exact (((KeepBut.of_below HB6.out g none).set_ 0 _).set_ 1 _).set_ 2 _
theorem pairsOf_spec : ∀ (r : List Int) (es : List (S44)), pairsOf r = some es → r.length = 2 * es.length ∧ ∀ (x : Int) (j : Nat), j < es.length → rd (x :: r) ((2 * j + 1 : Nat) : Int) = (es.getD j ⟨0, 0⟩).f0 ∧ rd (x :: r) ((2 * j + 2 : Nat) : Int) = (es.getD j ⟨0, 0⟩).f1
  | [], es, h => by
    obtain rfl := Option.some.inj h
    exact ⟨rfl, fun _ j hj => absurd hj (by simp)⟩
  | [_], es, h => by simp [pairsOf] at h
  | a :: b :: r, es, h => by
    unfold pairsOf at h
    obtain ⟨es', h1, h⟩ := Option.bind_eq_some_iff.mp h
    obtain rfl := Option.some.inj h
    obtain ⟨h2, h3⟩ := pairsOf_spec r es' h1
    refine ⟨by simp [h2]; omega, fun x j hj => ?_⟩
    cases j with
    | zero => exact ⟨rfl, rfl⟩
    | succ j =>
      have hj' : j < es'.length := by simpa using hj
      obtain ⟨h4, h5⟩ := h3 b j hj'
      have e1 : rd (x :: a :: b :: r) ((2 * (j + 1) + 1 : Nat) : Int) = rd (b :: r) ((2 * j + 1 : Nat) : Int) := rfl
      have e2 : rd (x :: a :: b :: r) ((2 * (j + 1) + 2 : Nat) : Int) = rd (b :: r) ((2 * j + 2 : Nat) : Int) := rfl
      rw [e1, e2, h4, h5]
      exact ⟨rfl, rfl⟩
/-- A line. -/
theorem impl_desk_line.calls (k : Nat) (B g : Nat) (n : Int) (es : List (S44)) (o : Int) (s : ByteArray) (n' : Int) (es' : List (S44)) (o' : Int) (r : ByteArray) (w : World) (gl : GL w) (hd : DeskAt B g n es o w) (h : impl_desk_line.f k n es o s = some (n', es', o', r)) :
    Calls Tryz.prog 28 #[.pointer (some ⟨g, 0, none⟩), .string s] w fun e w' => e = .returned (.string r) ∧ LineLeft B g n' es' o' w w' := by
  unfold impl_desk_line.f at h
  obtain ⟨⟨x1, x2, b⟩, h1, h⟩ := Option.bind_eq_some_iff.mp h
  cases b with
  | false =>
    simp only [Bool.false_eq_true, if_false] at h
    obtain ⟨y, h2, h⟩ := Option.bind_eq_some_iff.mp h
    simp only [Option.some.injEq, Prod.mk.injEq] at h
    obtain ⟨rfl, rfl, rfl, rfl⟩ := h
    exact impl_desk_line.bare k B g n es o s x1 x2 y w gl hd h1 h2
  | true =>
    simp only [if_true] at h
    obtain ⟨⟨l, b⟩, h2, h⟩ := Option.bind_eq_some_iff.mp h
    by_cases c1 : x1 = (⟨#[103, 114, 97, 112, 104]⟩ : ByteArray)
    · subst c1
      simp only [if_true] at h
      split at h
      · rename_i m q heq
        obtain ⟨rfl, rfl⟩ := Prod.mk.inj heq
        obtain ⟨es2, h3, h⟩ := Option.bind_eq_some_iff.mp h
        by_cases c2 : es2.length < 1000
        · rw [if_pos c2] at h
          obtain ⟨b, h4, h⟩ := Option.bind_eq_some_iff.mp h
          cases b with
          | false => simp at h
          | true =>
            simp only [if_true, Option.some.injEq, Prod.mk.injEq] at h
            obtain ⟨rfl, rfl, rfl, rfl⟩ := h
            obtain ⟨h5, h6⟩ := pairsOf_spec q es2 h3
            exact impl_desk_line.graph k B g n es o s x2 (m :: q) m es2 w gl hd h1 h2 (by simp [h5]) rfl (h6 m) c2 h4
        · rw [if_neg c2] at h; cases h
      · cases h
    · simp only [if_neg c1] at h
      by_cases c2 : x1 = (⟨#[119, 97, 121]⟩ : ByteArray)
      · subst c2
        simp only [if_true] at h
        split at h
        · rename_i m heq
          obtain ⟨rfl, rfl⟩ := Prod.mk.inj heq
          obtain ⟨b, h4, h⟩ := Option.bind_eq_some_iff.mp h
          cases b with
          | false => simp at h
          | true =>
            simp only [if_true, Option.some.injEq, Prod.mk.injEq] at h
            obtain ⟨rfl, rfl, rfl, rfl⟩ := h
            exact impl_desk_line.way k B g n es o s x2 m w gl hd h1 h2 h4
        · cases h
      · simp only [if_neg c2] at h; cases h

/-! ### impl_Execute: function 10 -/
-- behind impl_desk_line.calls, strings_Split.calls, strconv_Itoa.calls
theorem laysExtra : Go.Proofs.Builder.Extra Tryz.prog laysString_ren where
  sizeBuilder := by kernel_rfl
  liesBuilder := by kernel_rfl
  t5 := Tryz.underlying5
  a5 := Tryz.isAgg5
  z5 := Tryz.sizeOf5
  v5 := Tryz.zeroValue5
  infoByte := by kernel_rfl
  cellsByte := by kernel_rfl
  sizeByte := by kernel_rfl
  neB5 := by decide
theorem laysExtraW : Go.Proofs.Builder.Extra Tryz.prog laysWrite_ren where
  sizeBuilder := by kernel_rfl
  liesBuilder := by kernel_rfl
  t5 := Tryz.underlying5
  a5 := Tryz.isAgg5
  z5 := Tryz.sizeOf5
  v5 := Tryz.zeroValue5
  infoByte := by kernel_rfl
  cellsByte := by kernel_rfl
  sizeByte := by kernel_rfl
  neB5 := by decide
theorem DeskAt.others {B g b : Nat} {n o : Int} {es : List (S44)} {w w1 : World} (h : DeskAt B g n es o w) (hg : g ≠ b) (hbk : ∃ cs, w.heap[b]? = some (.cells cs 49 (0, 0))) (hk : Go.Lib.OthersKept 5 (some b) w w1) : DeskAt B g n es o w1 := by
  obtain ⟨hB, A, c, h1, h2⟩ := h
  obtain ⟨cb, hb⟩ := hbk
  have far : ∀ (k : Nat) cs (t : Nat), w.heap[k]? = some (.cells cs t (0, 0)) → t ≠ 5 → t ≠ 49 → w1.heap[k]? = w.heap[k]? := by
    intro k cs t hc h5 h6
    rw [hc]
    refine hk k _ hc (fun e => ?_) (fun c fz e => ?_)
    · obtain rfl := Option.some.inj e
      rw [hb] at hc
      simp only [Option.some.injEq, Obj.cells.injEq] at hc
      exact h6 hc.2.1.symm
    · simp only [Obj.cells.injEq] at e
      exact h5 e.2.1
  refine ⟨hB, A, c, (far g _ _ h1 (by decide) (by decide)).trans h1, Kd.R_mono (Kd.R_step (Kd.R_bound h2) (fun k hk _ => ?_)) (fun _ _ => trivial)⟩
  obtain ⟨_, _, _, q, hq, cs, hc⟩ := hk
  have hq' : q = 44 := by simpa [k44, Kd.iso, Kd.pair, Kd.int, Kd.scalar] using hq
  subst hq'
  exact far k _ _ hc (by decide) (by decide)
theorem builder_far {T e : TypeId} {B b : Nat} {bs : List Value} {w w1 : World} (h : Go.Lib.IsBuilderF T e B b bs w) (far : ∀ (k : Nat) (c : Array Value) (q : Nat) (fz : Nat × Nat), w.heap[k]? = some (.cells c q fz) → q = T ∨ q = e → w1.heap[k]? = w.heap[k]?) : Go.Lib.IsBuilderF T e B b bs w1 := by
  have key : ∀ p, Go.Lib.BuilderAtF T e B b p bs w → Go.Lib.BuilderAtF T e B b p bs w1 := by
    rintro p ⟨hB, v, hb, ⟨ho1, ho2⟩, hne⟩
    refine ⟨hB, v, (far b _ _ _ hb (.inl rfl)).trans hb, ⟨ho1, ?_⟩, hne⟩
    rcases ho2 with ho2 | ⟨q, cap, cur, fz, hv, hq, hc, hr⟩
    · exact .inl ho2
    · exact .inr ⟨q, cap, cur, fz, hv, hq, (far q _ _ _ hc (.inr rfl)).trans hc, hr⟩
  rcases h with h | h
  · exact .inl (key _ h)
  · exact .inr (key _ h)
theorem builder_blk {T e : TypeId} {B b : Nat} {bs : List Value} {w : World} (h : Go.Lib.IsBuilderF T e B b bs w) : ∃ cs, w.heap[b]? = some (.cells cs T (0, 0)) := by
  rcases h with ⟨_, v, h, _⟩ | ⟨_, v, h, _⟩
  · exact ⟨_, h⟩
  · exact ⟨_, h⟩
theorem builder_below {T e : TypeId} {B b : Nat} {bs : List Value} {w w1 : World} (h : Go.Lib.IsBuilderF T e B b bs w) (hb : Below w.heap.size w w1) : Go.Lib.IsBuilderF T e B b bs w1 :=
  builder_far h fun k _ _ _ hc _ => hb.block k (Array.getElem?_eq_some_iff.1 hc).1
theorem builder_keep {T e : TypeId} {B b g : Nat} {bs : List Value} {w w1 : World} {cs : Array Value} {t : Nat} (h : Go.Lib.IsBuilderF T e B b bs w) (hk : KeepBut w w1 g none) (hg : w.heap[g]? = some (.cells cs t (0, 0))) (h1 : t ≠ T) (h2 : t ≠ e) : Go.Lib.IsBuilderF T e B b bs w1 := by
  refine builder_far h fun k c q fz hc hq => hk.2 k (Array.getElem?_eq_some_iff.1 hc).1 (fun e' => ?_) (by simp)
  subst e'
  rw [hg] at hc
  simp only [Option.some.injEq, Obj.cells.injEq] at hc
  rcases hq with hq | hq
  · exact h1 (hc.2.1.trans hq)
  · exact h2 (hc.2.1.trans hq)
/-- The lines of a script, one behind the other: the desk and what was said. -/
def impl_Execute.run (k : Nat) : List ByteArray → Int → List (S44) → Int → List UInt8 → Option (Int × List (S44) × Int × List UInt8)
  | [], n, es, o, out => some (n, es, o, out)
  | s :: r, n, es, o, out => (impl_desk_line.f k n es o s).bind fun t => if out.length + t.2.2.2.size + 1 ≤ 1048576 then impl_Execute.run k r t.1 t.2.1 t.2.2.1 (out ++ (t.2.2.2 ++ (⟨#[10]⟩ : ByteArray)).data.toList) else none
def impl_Execute.f (k : Nat) (text : ByteArray) : Option ByteArray :=
  if text.size ≤ 600 then ((strings_Split.f text (⟨#[10]⟩ : ByteArray)).bind fun ls => if ls.length = 0 ∨ 1048576 < ls.length then none else (impl_Execute.run k ls.dropLast 3 [⟨0, 1⟩, ⟨0, 2⟩, ⟨1, 2⟩] 0 []).bind fun t => (strconv_Itoa.f (t.2.1.length : Int)).bind fun d => if t.2.2.2.length + d.size + 7 ≤ 2097152 then some ⟨(t.2.2.2 ++ (((⟨#[101, 100, 103, 101, 115, 32]⟩ : ByteArray) ++ d) ++ (⟨#[10]⟩ : ByteArray)).data.toList).toArray⟩ else none) else none
set_option maxHeartbeats 8000000 in
set_option maxRecDepth 100000 in
theorem impl_Execute.calls (k : Nat) (text : ByteArray) (r : ByteArray) (w : World) (gl : GL w) (h : impl_Execute.f k text = some r) :
    Calls Tryz.prog 10 #[.string text] w fun e w' => e = .returned (.string r) ∧ Below w.heap.size w w' := by
  unfold impl_Execute.f at h
  by_cases c1 : text.size ≤ 600
  case neg => rw [if_neg c1] at h; cases h
  rw [if_pos c1] at h
  replace h := Option.bind_eq_some_iff.mp h
  obtain ⟨ls, h1, h⟩ := h
  by_cases c2 : ls.length = 0 ∨ 1048576 < ls.length
  case pos => rw [if_pos c2] at h; cases h
  rw [if_neg c2] at h
  replace h := Option.bind_eq_some_iff.mp h
  obtain ⟨⟨n', es', o', out'⟩, h2, h⟩ := h
  replace h := Option.bind_eq_some_iff.mp h
  obtain ⟨d, h3, h⟩ := h
  have GLW := Aside0.mk gl
  have A1 := Aside0.mk h1
  have A2 := Aside0.mk h2
  have A3 := Aside0.mk h3
  have A4 := Aside0.mk h
  have C2 := Aside0.mk c2
  have hu28 := Tryz.underlying28
  have hu46 := Tryz.underlying46
  have hu49 := Tryz.underlying49
  have hlen : decide ((600 : Int) < (text.size : Int)) = false := decide_eq_false (by omega)
  have hlen2 : ((600 : Int) < (text.size : Int)) = False := eq_false (by omega)
  have hlen3 : (600 < text.size) = False := eq_false (by omega)
  clear gl h1 h2 h3 h c1 c2
  go_enter Tryz.func10, Tryz.ntmps10
  go_wp2_with (go_at_call 26; refine (strings_Split.calls text _ ls _ A1.out).mono ?_)
  have hE : (((w.alloc (.cells #[.int .i64 0, .int .i64 1, .int .i64 0, .int .i64 2, .int .i64 1, .int .i64 2] 44)).alloc (.cells #[.int .i64 3, .slice (some ⟨w.heap.size, 0, none⟩) 3 3, .int .i64 0] 46)).alloc (.cells #[.pointer none, .slice none 0 0] 49)).heap[w.heap.size]? = some (.cells #[.int .i64 0, .int .i64 1, .int .i64 0, .int .i64 2, .int .i64 1, .int .i64 2] 44 (0, 0)) := blk_alloc (blk_alloc (heap_alloc_new w _) _) _
  have hD : (((w.alloc (.cells #[.int .i64 0, .int .i64 1, .int .i64 0, .int .i64 2, .int .i64 1, .int .i64 2] 44)).alloc (.cells #[.int .i64 3, .slice (some ⟨w.heap.size, 0, none⟩) 3 3, .int .i64 0] 46)).alloc (.cells #[.pointer none, .slice none 0 0] 49)).heap[w.heap.size + 1]? = some (.cells #[.int .i64 3, .slice (some ⟨w.heap.size, 0, none⟩) 3 3, .int .i64 0] 46 (0, 0)) := by
    have h_ := heap_alloc_new (w.alloc (.cells #[.int .i64 0, .int .i64 1, .int .i64 0, .int .i64 2, .int .i64 1, .int .i64 2] 44)) (.cells #[.int .i64 3, .slice (some ⟨w.heap.size, 0, none⟩) 3 3, .int .i64 0] 46)
    refine blk_alloc ?_ _
    simpa using h_
  have hU : (((w.alloc (.cells #[.int .i64 0, .int .i64 1, .int .i64 0, .int .i64 2, .int .i64 1, .int .i64 2] 44)).alloc (.cells #[.int .i64 3, .slice (some ⟨w.heap.size, 0, none⟩) 3 3, .int .i64 0] 46)).alloc (.cells #[.pointer none, .slice none 0 0] 49)).heap[w.heap.size + 1 + 1]? = some (.cells #[.pointer none, .slice none 0 0] 49 (0, 0)) := by
    have h_ := heap_alloc_new ((w.alloc (.cells #[.int .i64 0, .int .i64 1, .int .i64 0, .int .i64 2, .int .i64 1, .int .i64 2] 44)).alloc (.cells #[.int .i64 3, .slice (some ⟨w.heap.size, 0, none⟩) 3 3, .int .i64 0] 46)) (.cells #[.pointer none, .slice none 0 0] 49)
    simpa using h_
  have hW : Below w.heap.size w (((w.alloc (.cells #[.int .i64 0, .int .i64 1, .int .i64 0, .int .i64 2, .int .i64 1, .int .i64 2] 44)).alloc (.cells #[.int .i64 3, .slice (some ⟨w.heap.size, 0, none⟩) 3 3, .int .i64 0] 46)).alloc (.cells #[.pointer none, .slice none 0 0] 49)) := below_alloc (below_alloc (below_alloc (Below.refl _ _) _) _) _
  have hS : (((w.alloc (.cells #[.int .i64 0, .int .i64 1, .int .i64 0, .int .i64 2, .int .i64 1, .int .i64 2] 44)).alloc (.cells #[.int .i64 3, .slice (some ⟨w.heap.size, 0, none⟩) 3 3, .int .i64 0] 46)).alloc (.cells #[.pointer none, .slice none 0 0] 49)).heap.size = w.heap.size + 1 + 1 + 1 := by simp
  generalize (((w.alloc (.cells #[.int .i64 0, .int .i64 1, .int .i64 0, .int .i64 2, .int .i64 1, .int .i64 2] 44)).alloc (.cells #[.int .i64 3, .slice (some ⟨w.heap.size, 0, none⟩) 3 3, .int .i64 0] 46)).alloc (.cells #[.pointer none, .slice none 0 0] 49)) = w3 at hE hD hU hW hS ⊢
  have hdesk : DeskAt w.heap.size (w.heap.size + 1) 3 [⟨0, 1⟩, ⟨0, 2⟩, ⟨1, 2⟩] 0 w3 := ⟨by omega, some ⟨w.heap.size, 0, none⟩, 3, hD, ⟨fun _ _ => trivial, [.int .i64 0, .int .i64 1, .int .i64 0, .int .i64 2, .int .i64 1, .int .i64 2], ⟨rfl, .inr ⟨w.heap.size, 3, _, rfl, Nat.le_refl _, hE, Nat.le_refl _, by decide, rfl, rfl⟩⟩, ((((Reps.none _ k44.sz).snoc (k44_mkM _ _ _ (⟨0, 1⟩ : S44)) rfl).snoc (k44_mkM _ _ _ (⟨0, 2⟩ : S44)) rfl).snoc (k44_mkM _ _ _ (⟨1, 2⟩ : S44)) rfl)⟩⟩
  have hbuild : Go.Lib.IsBuilderF 49 5 w.heap.size (w.heap.size + 1 + 1) (Go.Lib.byteCells []) w3 := .inl ⟨by omega, _, hU, ⟨rfl, .inl ⟨rfl, rfl⟩⟩, by simp [Value.ownBlock]⟩
  clear hE hD hU
  intro e w4 v he hv hb
  subst he
  rw [← hS] at hb hv
  have HB4 := Aside0.mk (below_step hW hb)
  have HD4 := Aside0.mk (DeskAt.below hdesk hb)
  have HU4 := Aside0.mk (builder_below hbuild hb)
  obtain ⟨Al, cl, rfl⟩ := Kd.R_slice hv
  have HL4 := Aside0.mk (Kd.R_reads' hv)
  have HLO := Aside0.mk hv
  obtain ⟨m, hm⟩ : ∃ m : Nat, ls.length = m + 1 := ⟨ls.length - 1, by have := C2.out; omega⟩
  have HM := Aside0.mk hm
  obtain ⟨ji, hji⟩ : ∃ j_ : Int, wrap64 ((ls.length : Int) - 1) = j_ := ⟨_, rfl⟩
  have hjiw : (IntKind.i64.wrap ((ls.length : Int) - 1)) = ji := (i64_w _).trans hji
  have HJ := Aside0.mk (show ji = (m : Int) by rw [← hji]; have := C2.out; unfold wrap64; omega)
  have hj0 := eq_true (show 0 ≤ ji by rw [HJ.out]; omega)
  have hj1 := eq_true (show ji ≤ (cl : Int) by rw [HJ.out]; have := HL4.out.2.1; omega)
  have hown := Kd.own_of_R (enc := Value.string) (h1 := fun _ => rfl) hv
  obtain ⟨bl, cur, hbl, hcur⟩ : ∃ bl cur, Al = some ⟨bl, 0, none⟩ ∧ w4.heap[bl]? = some (.cells cur 9 (0, 0)) ∧ w.heap.size + 1 + 1 + 1 ≤ bl ∧ cur.toList.take ls.length = ls.map Value.string := by
    rcases hown.2 with ⟨_, hz⟩ | ⟨g, cap, cur, he, hge, hh, _, _, _, ht⟩
    · omega
    · simp only [Value.slice.injEq] at he
      exact ⟨g, cur, he.1, hh, by rw [← hS]; exact hge, by simpa [encs] using ht⟩
  subst hbl
  have HC4 := Aside0.mk hcur.1
  have HCG := Aside0.mk hcur.2.1
  have HCT := Aside0.mk hcur.2.2
  clear hW hS hdesk hbuild hv hb hm hown hcur
  go_wp2
  have HR4 := Aside0.mk (show impl_Execute.run k (ls.dropLast.drop 0) 3 [⟨0, 1⟩, ⟨0, 2⟩, ⟨1, 2⟩] 0 [] = some (n', es', o', out') from A2.out)
  go_loopg [25] m (fun kq v25 w' => ∃ (i n o : Int) (es : List (S44)) (out : List UInt8), v25 = .int .i64 i ∧ Aside0 (∃ j : Nat, i = (j : Int) ∧ j + kq = m ∧ impl_Execute.run k (ls.dropLast.drop j) n es o out = some (n', es', o', out')) ∧ Aside0 (out.length ≤ 1048576) ∧ Aside0 (DeskAt w.heap.size (w.heap.size + 1) n es o w') ∧ Aside0 (Go.Lib.IsBuilderF 49 5 w.heap.size (w.heap.size + 1 + 1) (Go.Lib.byteCells out) w') ∧ Aside0 (w'.heap[bl]? = some (.cells cur 9 (0, 0))) ∧ Aside0 (Below w.heap.size w w'))
  case atStart => exact ⟨0, 3, 0, _, [], rfl, ⟨⟨0, rfl, by omega, HR4.out⟩⟩, ⟨by simp⟩, HD4, HU4, HC4, HB4⟩
  case round =>
    clear HR4 HD4 HU4 HC4 HB4
    obtain ⟨i, n, o, es, out, rfl, HX, HO, HD, HU, HC, HB⟩ := hrel
    obtain ⟨⟨j, hx1, hx2, hx3⟩⟩ := HX
    cases gk with
    | succ k1 =>
      have hjm : j < m := by omega
      have hjl : j < ls.length := by have := HM.out; omega
      have hdl : ls.dropLast.length = m := by rw [List.length_dropLast, HM.out]; rfl
      obtain ⟨s, hs⟩ : ∃ s, ls[j]? = some s := ⟨ls[j], List.getElem?_eq_getElem hjl⟩
      have hdj : ls.dropLast.drop j = s :: ls.dropLast.drop (j + 1) := by
        rw [List.drop_eq_getElem_cons (by omega), List.getElem_dropLast]
        rw [List.getElem?_eq_getElem hjl] at hs
        rw [Option.some.inj hs]
      rw [hdj] at hx3
      simp only [impl_Execute.run] at hx3
      replace hx3 := Option.bind_eq_some_iff.mp hx3
      obtain ⟨⟨n2, es2, o2, t⟩, hl, hx3⟩ := hx3
      by_cases hc : out.length + t.size + 1 ≤ 1048576
      case neg => rw [if_neg hc] at hx3; cases hx3
      rw [if_pos hc] at hx3
      replace hx3 : impl_Execute.run k (ls.dropLast.drop (j + 1)) n2 es2 o2 (out ++ (t ++ (⟨#[10]⟩ : ByteArray)).data.toList) = some (n', es', o', out') := hx3
      have AL := Aside0.mk hl
      have AX := Aside0.mk hx3
      have AC := Aside0.mk hc
      have AJ := Aside0.mk (And.intro hx1 hx2)
      have hcell : wr.cell? ⟨bl, i.toNat, none⟩ = some (.string s) := by
        have h1 := HCT.out
        have h2 : (cur.toList.take ls.length)[j]? = some (.string s) := by rw [h1, List.getElem?_map, hs]; rfl
        rw [List.getElem?_take_of_lt hjl] at h2
        have h3 := cell_of_row wr bl j cur 9 (0, 0) HC.out
        rw [hx1, Int.toNat_natCast, h3, ← h2]
        simp
      have c1 : (i < max ji 0) = True := eq_true (by have := HJ.out; omega)
      have c1b : decide (i < max ji 0) = true := decide_eq_true (by have := HJ.out; omega)
      have c2 : (0 ≤ i) = True := eq_true (by omega)
      have c3 : (i < (ji.toNat : Int)) = True := eq_true (by have := HJ.out; omega)
      have c4 : (9223372036854775807 < t.size + 1) = False := eq_false (by omega)
      clear hl hx1 hx2 hx3 hc hdj hjm hjl hdl hs
      go_wp2_with (first
        | (go_at_call 27; refine (Any.Builder_WriteString_k laysWrite laysExtraW w.heap.size (w.heap.size + 1 + 1) (Go.Lib.byteCells out) (t ++ (⟨#[10]⟩ : ByteArray)) _ HU5.out (by rw [Go.Lib.byteCells_length, ByteArray.size_append]; have h1 := AC.out; have h2 : (⟨#[10]⟩ : ByteArray).size = 1 := rfl; omega) HB5.out.size).mono ?_; rintro e w6 ⟨rfl, hA, hb, hk⟩; have HU6 := Aside0.mk (show Go.Lib.IsBuilderF 49 5 w.heap.size (w.heap.size + 1 + 1) (Go.Lib.byteCells (out ++ (t ++ (⟨#[10]⟩ : ByteArray)).data.toList)) w6 from .inr (by have h_ : Go.Lib.byteCells (out ++ (t ++ (⟨#[10]⟩ : ByteArray)).data.toList) = Go.Lib.byteCells out ++ Go.Lib.strCells (t ++ (⟨#[10]⟩ : ByteArray)) := List.map_append; rw [h_]; exact hA)); have HD6 := Aside0.mk (DeskAt.others HL5.out.1 (by omega) (builder_blk HU5.out) hk); have HC6 := Aside0.mk (show w6.heap[bl]? = some (.cells cur 9 (0, 0)) from hk bl _ HC5.out (fun e => by have h1 := HCG.out; have h2 := Option.some.inj e; omega) (fun c fz e => by simp only [Obj.cells.injEq] at e; exact absurd e.2.1 (by decide))); have HB6 := Aside0.mk (HB5.out.trans hb); clear hA hb hk)
        | (go_at_call 28; refine (impl_desk_line.calls k w.heap.size (w.heap.size + 1) n es o s n2 es2 o2 t _ (GL.below GLW.out HB.out) HD.out AL.out).mono ?_; rintro e w5 ⟨rfl, hl⟩; have HL5 := Aside0.mk hl; have HB5 := Aside0.mk (HB.out.trans (hl.2.1.mono (Nat.le_succ _))); have HU5 := Aside0.mk (builder_keep HU.out hl.2.2 (Classical.choose_spec (Classical.choose_spec HD.out.2)).1 (by decide) (by decide)); have HC5 := Aside0.mk ((hl.2.2.2 bl (Array.getElem?_eq_some_iff.1 HC.out).1 (by have := HCG.out; omega) (by simp)).trans HC.out); clear hl))
      go_roundg k1
      case measure => omega
      case rel =>
        refine ⟨wrap64 (i + 1), n2, o2, es2, out ++ (t ++ (⟨#[10]⟩ : ByteArray)).data.toList, (by first | rfl | (simp; done) | (simp [*]; done)), ⟨⟨j + 1, ?_, ?_, AX.out⟩⟩, ⟨?_⟩, HD6, HU6, HC6, HB6⟩
        · have h1 := AJ.out.1
          have h2 := AJ.out.2
          have h3 := HM.out
          have h4 := C2.out
          unfold wrap64
          omega
        · have h2 := AJ.out.2
          omega
        · have h2 := AC.out
          have h3 : (t ++ (⟨#[10]⟩ : ByteArray)).data.toList.length = t.size + 1 := by
            rw [Array.length_toList]
            exact ByteArray.size_append
          rw [List.length_append, h3]
          omega
    | zero =>
      have hjm : j = m := by omega
      have hdl : ls.dropLast.drop j = [] := by rw [List.drop_of_length_le]; rw [List.length_dropLast, HM.out, hjm]; exact Nat.le_refl _
      rw [hdl] at hx3
      simp only [impl_Execute.run, Option.some.injEq, Prod.mk.injEq] at hx3
      obtain ⟨rfl, rfl, rfl, rfl⟩ := hx3
      have c1 : (i < max ji 0) = False := eq_false (by have := HJ.out; omega)
      have c1b : decide (i < max ji 0) = false := decide_eq_false (by have := HJ.out; omega)
      obtain ⟨hBg, Ad, cd, hd1, hd2⟩ := HD.out
      have hv0 : wr.cell? ⟨w.heap.size + 1, 0, none⟩ = some (.int .i64 n) := (blk_cell hd1 0).trans rfl
      have hv1 : wr.cell? ⟨w.heap.size + 1, 1, none⟩ = some (.slice Ad es.length cd) := (blk_cell hd1 1).trans rfl
      clear hx1 hx2 hdl hd1 hd2 hBg
      by_cases c5 : out.length + d.size + 7 ≤ 2097152
      case neg => have h_ := A4.out; simp only [if_neg c5] at h_; cases h_
      have h_ := A4.out
      simp only [if_pos c5] at h_
      obtain rfl := Option.some.inj h_
      clear h_ A4
      have c6 : (9223372036854775807 < 6 + d.size) = False := eq_false (by omega)
      have c7 : (9223372036854775807 < 6 + d.size + 1) = False := eq_false (by omega)
      have C5 := Aside0.mk c5
      clear c5
      go_wp2_with (first
        | (go_at_call 30; refine (Any.Builder_String_any_k laysString laysExtra w.heap.size (w.heap.size + 1 + 1) _ _ HU6.out HB6.out.size).mono ?_; rintro e w7 ⟨rfl, _, hb, _⟩; have HB7 := Aside0.mk (HB6.out.trans hb); clear hb)
        | (go_at_call 27; refine (Any.Builder_WriteString_k laysWrite laysExtraW w.heap.size (w.heap.size + 1 + 1) (Go.Lib.byteCells out) (((⟨#[101, 100, 103, 101, 115, 32]⟩ : ByteArray) ++ d) ++ (⟨#[10]⟩ : ByteArray)) _ HU5.out (by rw [Go.Lib.byteCells_length, ByteArray.size_append, ByteArray.size_append]; have h1 := C5.out; have h2 : (⟨#[10]⟩ : ByteArray).size = 1 := rfl; have h3 : (⟨#[101, 100, 103, 101, 115, 32]⟩ : ByteArray).size = 6 := rfl; omega) HB5.out.size).mono ?_; rintro e w6 ⟨rfl, hA, hb, hk⟩; have HU6 := Aside0.mk (show Go.Lib.IsBuilderF 49 5 w.heap.size (w.heap.size + 1 + 1) (Go.Lib.byteCells (out ++ (((⟨#[101, 100, 103, 101, 115, 32]⟩ : ByteArray) ++ d) ++ (⟨#[10]⟩ : ByteArray)).data.toList)) w6 from .inr (by have h_ : Go.Lib.byteCells (out ++ (((⟨#[101, 100, 103, 101, 115, 32]⟩ : ByteArray) ++ d) ++ (⟨#[10]⟩ : ByteArray)).data.toList) = Go.Lib.byteCells out ++ Go.Lib.strCells (((⟨#[101, 100, 103, 101, 115, 32]⟩ : ByteArray) ++ d) ++ (⟨#[10]⟩ : ByteArray)) := List.map_append; rw [h_]; exact hA)); have HB6 := Aside0.mk (HB5.out.trans hb); clear hA hb hk)
        | (go_at_call 29; refine (strconv_Itoa.calls (es.length : Int) d _ (GL.below GLW.out HB.out) A3.out).mono ?_; rintro e w5 ⟨rfl, hb⟩; have HB5 := Aside0.mk (below_step HB.out hb); have HU5 := Aside0.mk (builder_below HU.out hb); clear hb))
      go_ret
      exact ⟨rfl, HB7.out⟩

end Go.Proofs.YtapdleaemdlgnaaGreatDoor.G
