/- For each Go function named below: a plain Lean function of the same name, and the proof that a call of the Go function returns just what the plain function tells, where it tells something. Written by a program of this session with the printer of the kit. -/
import Derived.Test.YthoaebnnolbaaaaVG0
import Derived.Test.YthoaebnnolbaaaaVG4
import Derived.Test.YthoaebnnolbaaaaVG5
namespace Go.Proofs.Ythoaebnnolbaaaa.G
open Go.RowKit Go.Proofs.YthoaebnnolbaaaaW.PrintWords Go.Proofs.YthoaebnnolbaaaaW.PrintLast Go.Proofs.YthoaebnnolbaaaaW.PrintMore
attribute [local go_sem] max2_int min2_int max_two min_two max_three min_three max_four min_four   -- for this text's walks alone
set_option linter.unusedVariables false
set_option linter.unusedSimpArgs false

/-! ### impl_outOf: function 49 -/
def impl_outOf.l0 : Nat → List Int → Int → Option (List Int)
 | 0, _, _ => none
 | k + 1, l, x => if x < (l.length : Int) then ((bits_OnesCount.f (IntKind.u64.wrap (rd l x))).bind fun c => impl_outOf.l0 k (l.set x.toNat c) (x + 1)) else some l
def impl_outOf.f (k : Nat) (a0_0 : Int) (l0_1 : List (S69)) (a1 : Int) : Option (List Int) := (impl_nextOf.f k a0_0 l0_1 a1).bind fun l => impl_outOf.l0 k l 0
set_option maxHeartbeats 8000000 in
set_option maxRecDepth 100000 in
theorem impl_outOf.calls (k : Nat) (a0_0 : Int) (A0_1 : Option Addr) (c0_1 : Nat) (l0_1 : List (S69)) (a1 : Int) (r : List Int) (w : World) (hr0_1 : Kd.C k69 w A0_1 l0_1.length l0_1) (hc0_1 : l0_1.length ≤ c0_1) (h : impl_outOf.f k a0_0 l0_1 a1 = some r) :
  Calls Try.prog 49 #[.agg #[.int .i64 a0_0, .slice A0_1 l0_1.length c0_1], .int .i64 a1] w fun e w' => ∃ v0_ : Value, e = .returned (v0_) ∧ Kd.R (Kd.int .i64) 3 w' w.heap.size (fun _ => True) v0_ r ∧ Below w.heap.size w w' := by
 have hu := Try.underlying25; have HR := Aside0.mk hr0_1; have HC := Aside0.mk hc0_1; have hb0 : Below w.heap.size w (w.alloc (.cells #[.int .i64 a0_0, .slice A0_1 l0_1.length c0_1] 25)) := (Below.refl _ _).alloc (Nat.le_refl _) _; have HB0 := Aside0.mk hb0; clear hb0 hr0_1 hc0_1
 unfold impl_outOf.f at h
 obtain ⟨l, A1, h⟩ := Option.bind_eq_some_iff.mp h; have A1' := Aside0.mk A1; have H' := Aside0.mk h; clear A1 h
 go_enter Try.func49, Try.ntmps49
 go_wp2_with fail
 refine (impl_nextOf.calls k a0_0 _ _ l0_1 a1 l _ (Kd.C_below HR.out HB0.out) HC.out A1'.out).mono ?_
 rintro e w1 ⟨v, rfl, ho, hb1⟩
 have HB1 := Aside0.mk (below_step HB0.out hb1); have HO := Aside0.mk (Kd.R_lower ho (below_size HB0.out)); clear ho hb1
 by_cases hl : 0 < l.length
 ·obtain ⟨g, cap, hv, hg, hlt, _⟩ := Kd.R_form HO.out hl
  subst hv; have HG := Aside0.mk hg; have HLn := Aside0.mk ((Kd.R_reads' HO.out).2.2.2.1); clear hg hlt hl
  go_wp2
  go_loopg [13] k (fun kq v13 w' => ∃ (x : Int) (m : List Int), v13 = .int .i64 x ∧ 0 ≤ x ∧ Aside0 (x ≤ (l.length : Int)) ∧ Aside0 (m.length = l.length) ∧ Aside0 (impl_outOf.l0 kq m x = some r) ∧ Aside0 (kq ≤ k) ∧ Aside0 (Kd.R (Kd.int .i64) 3 w' w.heap.size (fun _ => True) (.slice (some ⟨g, 0, none⟩) l.length cap) m) ∧ Aside0 (Below w.heap.size w w'))
  case atStart => exact ⟨0, l, rfl, by omega, ⟨by omega⟩, ⟨rfl⟩, H', ⟨Nat.le_refl _⟩, HO, HB1⟩
  case round =>
   clear H' HO HB1; obtain ⟨x, m, rfl, hx0, HX, HM, HA, HK1, HO, HB⟩ := hrel
   cases gk with
   | zero => exact absurd HA.out (by simp [impl_outOf.l0])
   | succ k1 =>
    have H := HA.out; clear HA
    simp only [impl_outOf.l0] at H
    have hml := HM.out
    rw [hml] at H
    clear hml
    by_cases c1 : x < (l.length : Int)
    ·rw [if_pos c1] at H
     obtain ⟨c, A2, H⟩ := Option.bind_eq_some_iff.mp H; have A2' := Aside0.mk A2; have H' := Aside0.mk H; clear A2 H; obtain ⟨hc0, hf0⟩ := Kd.R_celln 0 HO.out x hx0 c1; have hc1 : wr.cell? ⟨g, x.toNat, none⟩ = some (.int .i64 (rd m x)) := hc0; clear hc0; have HQ := Aside0.mk c1; have hmax : x < 9223372036854775807 := by have := HLn.out; omega
     go_wp2_with fail
     refine (bits_OnesCount.calls _ c _ A2'.out).mono ?_
     rintro e w2 ⟨rfl, ⟨nd, rfl⟩⟩
     have hc2 : (wr.drewN nd).cell? ⟨g, x.toNat, none⟩ = some (.int .i64 (rd m x)) := hc1; have hf2 : (wr.drewN nd).frozen? ⟨g, x.toNat, none⟩ = false := hf0; clear hc1 hf0
     go_wp2
     have HO2 := Aside0.mk (Kd.R_putn (enc := Value.int .i64) (h1 := fun _ => rfl) (Kd.R_drewN HO.out nd) x c); have HB2 := Aside0.mk (below_set (pw_below_drewN HB.out nd) HG.out (j := x.toNat) (v := .int .i64 c))
     go_roundg k1
     case measure => have := HK1.out; omega
     case rel => exact ⟨x + 1, m.set x.toNat c, rfl, by omega, ⟨by have := HQ.out; omega⟩, ⟨by rw [List.length_set]; exact HM.out⟩, H', ⟨by have := HK1.out; omega⟩, HO2, HB2⟩
    ·rw [if_neg c1] at H
     obtain rfl := Option.some.inj H; clear H
     go_wp2
     go_ret
     exact ⟨_, rfl, HO.out, HB.out⟩
 ·have hl0 : l = [] := List.length_eq_zero_iff.1 (by omega)
  subst hl0; obtain ⟨A, c, hv⟩ := Kd.R_slice HO.out; subst hv
  have hr : [] = r := by
   have h := H'.out
   cases k with
   | zero => exact absurd h (by simp [impl_outOf.l0])
   | succ k => simpa [impl_outOf.l0] using h
  subst hr; clear hl
  go_wp2
  refine wp_loop_rounds 1 ?_
  rw [rounds_succ]
  go_wp2
  go_ret
  exact ⟨_, rfl, HO.out, HB1.out⟩

end Go.Proofs.Ythoaebnnolbaaaa.G
