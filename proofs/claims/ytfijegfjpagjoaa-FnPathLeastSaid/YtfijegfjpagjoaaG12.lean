/- For each Go function named below: a plain Lean function of the same name, and the proof that a call of the Go function returns just what the plain function tells, where it tells something. Written by a program of this session with the printer of the kit. -/
import Derived.Test.YtfijegfjpagjoaaG0
import Derived.Test.YtfijegfjpagjoaaG6
import Derived.Test.YtfijegfjpagjoaaG7
namespace Go.Proofs.Ytfijegfjpagjoaa.G
open Go.RowKit Go.Proofs.YtfijegfjpagjoaaW.PrintWords Go.Proofs.YtfijegfjpagjoaaW.PrintLast Go.Proofs.YtfijegfjpagjoaaW.PrintMore
attribute [local go_sem] max2_int min2_int max_two min_two max_three min_three max_four min_four   -- for this text's walks alone
set_option linter.unusedVariables false
set_option linter.unusedSimpArgs false

/-! ### impl_longest: function 73 -/
/-- The longer one of two paths, the first one of two as long. -/
def impl_longest.step (best : List Int) (p : List Int) : List Int := if (best.length : Int) < (p.length : Int) then p else best
/-- The variable best of longest. -/
def impl_longest.I (c : Nat) (best : List Int) (w : World) : Prop :=
 ∃ (A : Addr) (cap : Nat), w.heap[c]? = some (.cells #[.slice (some A) best.length cap] 39 (0, 0)) ∧ best.length ≤ cap ∧ Kd.C (Kd.int .i64) w (some A) best.length best ∧ A.block ≠ c
theorem impl_longest.I_below (c : Nat) : ∀ (a : List Int) (W W' : World), impl_longest.I c a W → Below W.heap.size W W' → impl_longest.I c a W' := by
 rintro a W W' ⟨A, cap, h1, h2, h3, h4⟩ hb
 exact ⟨A, cap, blk_below h1 hb, h2, Kd.C_below h3 hb, h4⟩
set_option maxHeartbeats 8000000 in
set_option maxRecDepth 100000 in
theorem impl_longest_1.tells (c : Nat) : Tells 115 #[.pointer (some ⟨c, 0, none⟩)] c impl_longest.step (impl_longest.I c) := by
 intro a p A cp W hcp hpl hI hr hA hcW; obtain ⟨A0, cap, h1, h2, h3, h4⟩ := hI; have hcn := cell_of_one h1; have hfn := free_of_one h1; have H1 := Aside0.mk h1; have H2 := Aside0.mk h2; have H3 := Aside0.mk h3; have H4 := Aside0.mk h4; have HCP := Aside0.mk hcp; have HR := Aside0.mk hr; have HA := Aside0.mk hA; clear h1 h2 h3 h4 hr hA hcW hcp
 by_cases hp : (a.length : Int) < (p.length : Int)
 ·have hpb : decide ((a.length : Int) < (p.length : Int)) = true := decide_eq_true hp
  have hpn : decide (a.length < p.length) = true := decide_eq_true (Int.ofNat_lt.1 hp); have HP := Aside0.mk hp; clear hp
  go_enter Try.func115, Try.ntmps115
  go_wp2
  go_end0
  refine ⟨rfl, ?_, Keeps.set _ _⟩
  unfold impl_longest.step
  rw [if_pos HP.out]
  exact ⟨A, cp, one_setCell H1.out, HCP.out, (Keeps.set W _).reads HR.out HA.out, by have := HA.out; omega⟩
 ·have hpb : decide ((a.length : Int) < (p.length : Int)) = false := decide_eq_false hp
  have hpn : decide (a.length < p.length) = false := decide_eq_false (fun h => hp (Int.ofNat_lt.2 h)); have HP := Aside0.mk hp; clear hp
  go_enter Try.func115, Try.ntmps115
  go_wp2
  go_end0
  refine ⟨rfl, ?_, Keeps.refl _ _⟩
  unfold impl_longest.step
  rw [if_neg (by have := HP.out; omega)]
  exact ⟨A0, cap, H1.out, H2.out, H3.out, H4.out⟩
def impl_longest.f (k : Nat) (a0_0 : Int) (l0_1 : List (S44)) (a1 : Int) : Option (List Int) := (impl_paths.f impl_longest.step k a0_0 l0_1 a1 []).bind fun l => slices_Clone.f l
theorem impl_longest.mono : ∀ a0 a1 a2 k, LeO (impl_longest.f k a0 a1 a2) (impl_longest.f (k + 1) a0 a1 a2) := by
 intro a0 a1 a2 k
 unfold impl_longest.f
 exact LeO.bind (impl_paths.mono _ _ _ _ _ _) fun _ => LeO.refl _
set_option maxHeartbeats 8000000 in
set_option maxRecDepth 100000 in
theorem impl_longest.calls (k : Nat) (a0_0 : Int) (A0_1 : Option Addr) (c0_1 : Nat) (l0_1 : List (S44)) (a1 : Int) (r : List Int) (w : World) (hr0_1 : Kd.C k44 w A0_1 l0_1.length l0_1) (hc0_1 : l0_1.length ≤ c0_1) (h : impl_longest.f k a0_0 l0_1 a1 = some r) :
  Calls Try.prog 73 #[.agg #[.int .i64 a0_0, .slice A0_1 l0_1.length c0_1], .int .i64 a1] w fun e w' => ∃ v0_ : Value, e = .returned (v0_) ∧ Kd.R (Kd.int .i64) 3 w' w.heap.size (fun _ => True) v0_ r ∧ Below w.heap.size w w' := by
 have hu := Try.underlying30; have hmf : ∀ (fn : Fn) (first cap : Array Value) (w : World), (Instr.makeFunc fn first cap).run Try.prog w = .ok (.func fn first cap) w := fun _ _ _ _ => rfl; have HR := Aside0.mk hr0_1; have HC := Aside0.mk hc0_1; have hb0 : Below w.heap.size w (w.alloc (.cells #[.int .i64 a0_0, .slice A0_1 l0_1.length c0_1] 30)) := (Below.refl _ _).alloc (Nat.le_refl _) _; have hbk : (w.alloc (.cells #[.int .i64 a0_0, .slice A0_1 l0_1.length c0_1] 30)).heap[w.heap.size]? = some (.cells #[.int .i64 a0_0, .slice A0_1 l0_1.length c0_1] 30 (0, 0)) := heap_alloc_new w _; have HB0 := Aside0.mk hb0; have HBK := Aside0.mk hbk; clear hb0 hbk; clear hr0_1 hc0_1
 unfold impl_longest.f at h
 obtain ⟨l, A1, h⟩ := Option.bind_eq_some_iff.mp h; have A1' := Aside0.mk A1; have H' := Aside0.mk h; clear A1 h
 go_enter Try.func73, Try.ntmps73
 go_wp2_with fail
 have hb3 : Below w.heap.size w (((w.alloc (.cells #[.int .i64 a0_0, .slice A0_1 l0_1.length c0_1] 30)).alloc (.cells #[] 3)).alloc (.cells #[.slice (some ⟨w.heap.size + 1, 0, none⟩) 0 0] 39)) := (((Below.refl _ _).alloc (Nat.le_refl _) _).alloc (by simp) _).alloc (by simp; omega) _
 have hI : impl_longest.I (w.heap.size + 1 + 1) [] (((w.alloc (.cells #[.int .i64 a0_0, .slice A0_1 l0_1.length c0_1] 30)).alloc (.cells #[] 3)).alloc (.cells #[.slice (some ⟨w.heap.size + 1, 0, none⟩) 0 0] 39)) := by
  refine ⟨⟨w.heap.size + 1, 0, none⟩, 0, ?_, Nat.le_refl _, ⟨rfl, by simp, fun h => absurd h (Nat.lt_irrefl 0)⟩, by show w.heap.size + 1 ≠ w.heap.size + 1 + 1; omega⟩
  have h_ := heap_alloc_new ((w.alloc (.cells #[.int .i64 a0_0, .slice A0_1 l0_1.length c0_1] 30)).alloc (.cells #[] 3)) (.cells #[.slice (some ⟨w.heap.size + 1, 0, none⟩) 0 0] 39)
  simpa using h_
 refine (impl_paths.calls impl_longest.step (impl_longest.I (w.heap.size + 1 + 1)) (w.heap.size + 1 + 1) 115 Try.f115 #[.pointer (some ⟨w.heap.size + 1 + 1, 0, none⟩)] Try.func115 (by kernel_rfl) rfl (impl_longest_1.tells _) (impl_longest.I_below _) k a0_0 A0_1 c0_1 l0_1 a1 [] l (((w.alloc (.cells #[.int .i64 a0_0, .slice A0_1 l0_1.length c0_1] 30)).alloc (.cells #[] 3)).alloc (.cells #[.slice (some ⟨w.heap.size + 1, 0, none⟩) 0 0] 39)) (Kd.C_below HR.out hb3) HC.out hI (by simp) A1'.out).mono ?_
 rintro e w2 ⟨rfl, hi, hk⟩
 have HB2 := Aside0.mk (Keeps.below hb3 hk (by omega)); obtain ⟨A, cap, h1, h2, h3, h4⟩ := hi; have hcb := cell_of_one h1; have H2 := Aside0.mk h2; have H3 := Aside0.mk h3; clear hk h1 h2 h3 h4 hb3 hI
 go_wp2_with fail
 refine (slices_Clone.calls A cap l r w2 H3.out H2.out H'.out).mono ?_
 rintro e w3 ⟨v, rfl, ho, hb⟩
 have HO := Aside0.mk (Kd.R_lower ho (below_size HB2.out)); have HB3 := Aside0.mk (below_step HB2.out hb); clear ho hb hcb
 go_wp2
 go_ret
 exact ⟨_, rfl, HO.out, HB3.out⟩


end Go.Proofs.Ytfijegfjpagjoaa.G
