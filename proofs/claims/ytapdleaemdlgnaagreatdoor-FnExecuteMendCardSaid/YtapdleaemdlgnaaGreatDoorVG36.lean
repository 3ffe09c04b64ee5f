/- For each Go function named below: a plain Lean function of the same name, and the proof that a call of the Go function returns just what the plain function tells, where it tells something. Written by a program of this session with the printer of the kit. -/
import Derived.Test.YtapdleaemdlgnaaGreatDoorVG0
import Derived.Test.YtapdleaemdlgnaaGreatDoorVG8
import Derived.Test.YtapdleaemdlgnaaGreatDoorVG9
import Derived.Test.YtapdleaemdlgnaaGreatDoorVG10
import Derived.Test.YtapdleaemdlgnaaGreatDoorVG13
namespace Go.Proofs.YtapdleaemdlgnaaGreatDoor.G
open Go.RowKit Go.Proofs.YtapdleaemdlgnaaGreatDoorW.PrintWords Go.Proofs.YtapdleaemdlgnaaGreatDoorW.PrintLast Go.Proofs.YtapdleaemdlgnaaGreatDoorW.PrintMore
attribute [local go_sem] max2_int min2_int max_two min_two max_three min_three max_four min_four   -- for this text's walks alone
set_option linter.unusedVariables false
set_option linter.unusedSimpArgs false

/-! ### impl_desk_plain: function 50 -/
-- behind impl_numberText.calls
/-- The desk in a world: its three cells, and its edges in a row that is not it. -/
def DeskAt (B g : Nat) (n : Int) (es : List (S44)) (o : Int) (w : World) : Prop :=
 B ≤ g ∧ ∃ A c, w.heap[g]? = some (.cells #[.int .i64 n, .slice A es.length c, .int .i64 o] 46 (0, 0)) ∧ Kd.R k44 44 w B (fun _ => True) (.slice A es.length c) es
theorem DeskAt.below {B g : Nat} {n o : Int} {es : List (S44)} {w w1 : World} (h : DeskAt B g n es o w) (hb : Below w.heap.size w w1) : DeskAt B g n es o w1 := by
 obtain ⟨hB, A, c, h1, h2⟩ := h
 exact ⟨hB, A, c, blk_below h1 hb, Kd.R_below h2 hb⟩
/-- A line without a rest: what the desk answers (the two questions that are asked here). -/
def impl_desk_plain.f (k : Nat) (n : Int) (es : List (S44)) (o : Int) (s : ByteArray) : Option ByteArray :=
 if s = (⟨#[99, 111, 117, 110, 116]⟩ : ByteArray) then ((impl_PlainCount.f k n es).bind fun t => impl_numberText.f k t.1 t.2)
 else if s = (⟨#[109, 101, 110, 100]⟩ : ByteArray) then ((impl_PathMend.f k n es o).bind fun t => impl_numberText.f k t.1 t.2) else none
set_option maxHeartbeats 8000000 in
set_option maxRecDepth 100000 in
theorem impl_desk_plain.calls (k : Nat) (B g : Nat) (n : Int) (es : List (S44)) (o : Int) (s : ByteArray) (r : ByteArray) (w : World) (gl : GL w) (hd : DeskAt B g n es o w) (h : impl_desk_plain.f k n es o s = some r) :
  Calls Tryz.prog 50 #[.pointer (some ⟨g, 0, none⟩), .string s] w fun e w' => e = .returned (.string r) ∧ Below w.heap.size w w' := by
 obtain ⟨hB, A, c, h1, h2⟩ := hd; have GLW := Aside0.mk gl; have hR := Kd.R_reads' h2; have HC := Aside0.mk hR.2.1; have HR := Aside0.mk hR.2.2; have hu := Tryz.underlying46; have hu2 := Tryz.underlying28; have hz0 : w.cell? ⟨g, 0, none⟩ = some (.int .i64 n) := (blk_cell h1 0).trans rfl; have hz1 : w.cell? ⟨g, 1, none⟩ = some (.slice A es.length c) := (blk_cell h1 1).trans rfl; have hz2 : w.cell? ⟨g, 2, none⟩ = some (.int .i64 o) := (blk_cell h1 2).trans rfl; clear hR h2 h1 gl
 unfold impl_desk_plain.f at h
 by_cases c1 : s = (⟨#[99, 111, 117, 110, 116]⟩ : ByteArray)
 ·rw [if_pos c1] at h
  subst c1; obtain ⟨⟨b1, b2⟩, A1, h⟩ := Option.bind_eq_some_iff.mp h; have A1 := Aside0.mk A1; have A2 := Aside0.mk h; clear h
  go_enter Tryz.func50, Tryz.ntmps50
  go_wp2_with (first
   | (go_at_call 51; refine (impl_numberText.calls k b1 b2 r _ (GL.below GLW.out HB1.out) A2.out).mono ?_; rintro e w2 ⟨rfl, hb2⟩; have HB2 := Aside0.mk (below_step HB1.out hb2))
   | (go_at_call 15; refine (impl_PlainCount.calls k n _ _ es b1 b2 _ HR.out HC.out A1.out).mono ?_; rintro e w1 ⟨rfl, hb1⟩; have HB1 := Aside0.mk hb1; clear hb1))
  go_ret
  exact ⟨rfl, HB2.out⟩
 ·rw [if_neg c1] at h
  by_cases c2 : s = (⟨#[109, 101, 110, 100]⟩ : ByteArray)
  ·rw [if_pos c2] at h
   subst c2; clear c1; obtain ⟨⟨b1, b2⟩, A1, h⟩ := Option.bind_eq_some_iff.mp h; have A1 := Aside0.mk A1; have A2 := Aside0.mk h; clear h
   go_enter Tryz.func50, Tryz.ntmps50
   go_wp2
   go_region_with (first
    | (go_at_call 51; refine (impl_numberText.calls k b1 b2 r _ (GL.below GLW.out HB1.out) A2.out).mono ?_; rintro e w2 ⟨rfl, hb2⟩; have HB2 := Aside0.mk (below_step HB1.out hb2))
    | (go_at_call 20; refine (impl_PathMend.calls k n _ _ es o b1 b2 _ (Kd.C_below HR.out (pw_below_drewN (Below.refl _ _) _)) HC.out A1.out).mono ?_; rintro e w1 ⟨rfl, hb1⟩; have HB1 := Aside0.mk (below_step (pw_below_drewN (Below.refl _ _) _) hb1); clear hb1))
   all_goals (go_wp2; go_ret; exact ⟨rfl, HB2.out⟩)
  ·rw [if_neg c2] at h; cases h

end Go.Proofs.YtapdleaemdlgnaaGreatDoor.G
