/- For each Go function named below: a plain Lean function of the same name, and the proof that a call of the Go function returns just what the plain function tells, where it tells something. Written by a program of this session with the printer of the kit. -/
import Derived.Test.YtfijegfjpagjoaaG0
import Derived.Test.YtfijegfjpagjoaaG2
import Derived.Test.YtfijegfjpagjoaaG44
import Derived.Test.YtfijegfjpagjoaaG50
namespace Go.Proofs.Ytfijegfjpagjoaa.G
open Go.RowKit Go.Proofs.YtfijegfjpagjoaaW.PrintWords Go.Proofs.YtfijegfjpagjoaaW.PrintLast Go.Proofs.YtfijegfjpagjoaaW.PrintMore
attribute [local go_sem] max2_int min2_int max_two min_two max_three min_three max_four min_four   -- for this text's walks alone
set_option linter.unusedVariables false
set_option linter.unusedSimpArgs false

/-! ### impl_KernelMany: function 58 -/
/-- Is there a kernel of the direction o: what the closure asks, from the set x on. -/
def impl_kernelAny.l0 : Nat → Int → Int → Int → Int → List (S44) → Option Bool
 | 0, _, _, _, _, _ => none
 | k + 1, x8, b, o, a0_0, l0_1 => if x8 < b then ((impl_isKernel.f k a0_0 l0_1 o x8).bind fun t => if t = true then some true else impl_kernelAny.l0 k (x8 + 1) b o a0_0 l0_1) else some false
def impl_kernelAny.f (k : Nat) (a0_0 : Int) (l0_1 : List (S44)) (o : Int) : Option Bool := if 0 ≤ a0_0 then (if shl .i64 1 a0_0 ≤ 4294967296 then impl_kernelAny.l0 k 0 (shl .i64 1 a0_0) o a0_0 l0_1 else none) else none
theorem impl_kernelAny.mono_l : ∀ k x8 b o a0 l, LeO (impl_kernelAny.l0 k x8 b o a0 l) (impl_kernelAny.l0 (k + 1) x8 b o a0 l)
 | 0 => fun _ _ _ _ _ r h => by simp [impl_kernelAny.l0] at h
 | k + 1 => by
  have ih0 := impl_kernelAny.mono_l k; intro x8 b o a0 l
  unfold impl_kernelAny.l0
  exact LeO.ite (LeO.bind (impl_isKernel.mono _ _ _ _ _) fun _ => LeO.ite (LeO.refl _) (ih0 _ _ _ _ _)) (LeO.refl _)
theorem impl_kernelAny.mono : ∀ a0 a1 o k, LeO (impl_kernelAny.f k a0 a1 o) (impl_kernelAny.f (k + 1) a0 a1 o) := by
 intro a0 a1 o k
 unfold impl_kernelAny.f
 exact LeO.ite (LeO.ite (impl_kernelAny.mono_l k _ _ _ _ _) (LeO.refl _)) (LeO.refl _)
set_option maxHeartbeats 8000000 in
set_option maxRecDepth 100000 in
theorem impl_KernelMany_1.calls (k : Nat) (gb : Nat) (a0_0 : Int) (A0_1 : Option Addr) (c0_1 : Nat) (l0_1 : List (S44)) (x : Int) (t : Bool) (w : World) (bk : w.heap[gb]? = some (.cells #[.int .i64 a0_0, .slice A0_1 l0_1.length c0_1] 30 (0, 0)))
  (hr0_1 : Kd.C k44 w A0_1 l0_1.length l0_1) (hc0_1 : l0_1.length ≤ c0_1) (h : impl_kernelAny.f k a0_0 l0_1 x = some t) :
  Calls Try.prog 104 #[.int .i64 x, .pointer (some ⟨gb, 0, none⟩)] w fun e w' => e = .returned (.bool t) ∧ Below w.heap.size w w' := by
 have hu := Try.underlying30; have HR := Aside0.mk hr0_1; have HC := Aside0.mk hc0_1; have HBK := Aside0.mk bk; have hcz_0 : w.cell? ⟨gb, 0, none⟩ = some (.int .i64 a0_0) := (blk_cell bk 0).trans rfl; clear hr0_1 hc0_1 bk
 unfold impl_kernelAny.f at h
 by_cases h0 : 0 ≤ a0_0
 ·rw [if_pos h0] at h
  by_cases h1 : shl .i64 1 a0_0 ≤ 4294967296
  ·rw [if_pos h1] at h
   have c0 : decide (0 ≤ a0_0) = true := decide_eq_true h0; have H' := Aside0.mk h; clear h; obtain ⟨ji8, hji8⟩ : ∃ j_ : Int, shl .i64 1 a0_0 = j_ := ⟨_, rfl⟩
   rw [hji8] at H' h1
   have hji8_ : (IntKind.i64.wrap (1 * 2 ^ min a0_0.toNat 64)) = ji8 := hji8; have hji8u : (IntKind.i64.wrap (2 ^ min a0_0.toNat 64)) = ji8 := by have h_ := hji8_; rw [Int.one_mul] at h_; exact h_
   have hji8y : (wrap64 (1 * 2 ^ min a0_0.toNat 64)) = ji8 := (i64_w _).symm.trans hji8_; have hji8x : (wrap64 (2 ^ min a0_0.toNat 64)) = ji8 := (i64_w _).symm.trans hji8u
   go_enter Try.func104, Try.ntmps104
   go_wp2
   clear hji8 hji8_ hji8u hji8y hji8x hcz_0
   go_loopg [8] k (fun kq v8 w' => ∃ (x8 : Int), v8 = .int .i64 x8 ∧ 0 ≤ x8 ∧ x8 ≤ 4294967296 ∧ Aside0 (impl_kernelAny.l0 kq x8 ji8 x a0_0 l0_1 = some t) ∧ Aside0 (kq ≤ k) ∧ Aside0 (Below w.heap.size w w'))
   case atStart => exact ⟨0, rfl, by omega, by omega, H', ⟨Nat.le_refl _⟩, ⟨Below.refl _ _⟩⟩
   case round =>
    clear H'; obtain ⟨x8, rfl, hx0, hx2, HA, HK1, HB⟩ := hrel
    cases gk with
    | zero => exact absurd HA.out (by simp [impl_kernelAny.l0])
    | succ k1 =>
     have H := HA.out; clear HA
     simp only [impl_kernelAny.l0] at H
     have hcz_0 : wr.cell? ⟨gb, 0, none⟩ = some (.int .i64 a0_0) := (blk_cell (blk_below HBK.out HB.out) 0).trans rfl; have hcz_1 : wr.cell? ⟨gb, 1, none⟩ = some (.slice A0_1 l0_1.length c0_1) := (blk_cell (blk_below HBK.out HB.out) 1).trans rfl
     by_cases c1 : x8 < ji8
     ·rw [if_pos c1] at H
      obtain ⟨q, A1, H⟩ := Option.bind_eq_some_iff.mp H; have A1' := Aside0.mk A1; clear A1
      cases q with
      | true =>
       have H1 : true = t := by simpa using H
       subst H1; clear H
       go_wp2_with fail
       refine (impl_isKernel.calls k1 a0_0 _ _ l0_1 x x8 true _ (Kd.C_below HR.out HB.out) HC.out A1'.out).mono ?_
       rintro e w1 ⟨rfl, hb1⟩
       have HB1 := Aside0.mk (below_step HB.out hb1); clear hb1
       go_wp2
       go_ret
       exact ⟨rfl, HB1.out⟩
      | false =>
       have H1 : impl_kernelAny.l0 k1 (x8 + 1) ji8 x a0_0 l0_1 = some t := by simpa using H
       have H' := Aside0.mk H1; clear H H1
       go_wp2_with fail
       refine (impl_isKernel.calls k1 a0_0 _ _ l0_1 x x8 false _ (Kd.C_below HR.out HB.out) HC.out A1'.out).mono ?_
       rintro e w1 ⟨rfl, hb1⟩
       have HB1 := Aside0.mk (below_step HB.out hb1); clear hb1 hcz_0 hcz_1
       go_wp2
       go_roundg k1
       case measure => have := HK1.out; omega
       case rel => exact ⟨x8 + 1, rfl, by omega, by omega, H', ⟨by have := HK1.out; omega⟩, HB1⟩
     ·rw [if_neg c1] at H
      have H1 : false = t := by simpa using H
      subst H1; clear H
      go_wp2
      go_ret
      exact ⟨rfl, HB.out⟩
  ·rw [if_neg h1] at h
   exact absurd h (by simp)
 ·rw [if_neg h0] at h
  exact absurd h (by simp)
def impl_KernelMany.f (k : Nat) (a0_0 : Int) (l0_1 : List (S44)) : Option (Int × Bool) := (impl_WayGraph.f k a0_0 l0_1).bind fun t => (if t = true then ((impl_count.f k (fun j x => impl_kernelAny.f j a0_0 l0_1 x) (shl .i64 1 (l0_1.length : Int))).bind fun n => some (n, true)) else (some (0, false)))
theorem impl_KernelMany.mono : ∀ a0 a1 k, LeO (impl_KernelMany.f k a0 a1) (impl_KernelMany.f (k + 1) a0 a1) := by
 intro a0 a1 k
 unfold impl_KernelMany.f
 exact LeO.bind (impl_WayGraph.mono _ _ _) fun _ => LeO.ite (LeO.bind (impl_count.mono (fun j x => impl_kernelAny.f j a0 a1 x) (fun j x => impl_kernelAny.mono a0 a1 x j) k _) fun _ => LeO.refl _) (LeO.refl _)
set_option maxHeartbeats 8000000 in
set_option maxRecDepth 100000 in
theorem impl_KernelMany.calls (k : Nat) (a0_0 : Int) (A0_1 : Option Addr) (c0_1 : Nat) (l0_1 : List (S44)) (r1 : Int) (r2 : Bool) (w : World) (hr0_1 : Kd.C k44 w A0_1 l0_1.length l0_1) (hc0_1 : l0_1.length ≤ c0_1) (h : impl_KernelMany.f k a0_0 l0_1 = some (r1, r2)) :
  Calls Try.prog 58 #[.agg #[.int .i64 a0_0, .slice A0_1 l0_1.length c0_1]] w fun e w' => e = .returned (.tuple #[.int .i64 r1, .bool r2]) ∧ Below w.heap.size w w' := by
 have hu := Try.underlying30; have hmf : ∀ (fn : Fn) (first cap : Array Value) (w : World), (Instr.makeFunc fn first cap).run Try.prog w = .ok (.func fn first cap) w := fun _ _ _ _ => rfl; have HR := Aside0.mk hr0_1; have HC := Aside0.mk hc0_1; have hb0 : Below w.heap.size w (w.alloc (.cells #[.int .i64 a0_0, .slice A0_1 l0_1.length c0_1] 30)) := (Below.refl _ _).alloc (Nat.le_refl _) _; have hbk : (w.alloc (.cells #[.int .i64 a0_0, .slice A0_1 l0_1.length c0_1] 30)).heap[w.heap.size]? = some (.cells #[.int .i64 a0_0, .slice A0_1 l0_1.length c0_1] 30 (0, 0)) := heap_alloc_new w _; have HB0 := Aside0.mk hb0; have HBK := Aside0.mk hbk; clear hb0 hbk; clear hr0_1 hc0_1
 unfold impl_KernelMany.f at h
 obtain ⟨t, A1, h⟩ := Option.bind_eq_some_iff.mp h; have A1' := Aside0.mk A1; clear A1
 cases t with
 | false =>
  have h1 : r1 = 0 ∧ r2 = false := by simpa [eq_comm] using h
  obtain ⟨rfl, rfl⟩ := h1; clear h
  go_enter Try.func58, Try.ntmps58
  go_wp2_with fail
  refine (impl_WayGraph.calls k a0_0 _ _ l0_1 false _ (Kd.C_below HR.out HB0.out) HC.out A1'.out).mono ?_
  rintro e w1 ⟨rfl, hb1⟩
  have HB1 := Aside0.mk (below_step HB0.out hb1); clear hb1
  go_wp2
  go_ret2
  exact ⟨rfl, HB1.out⟩
 | true =>
  obtain ⟨n, A2, h⟩ := Option.bind_eq_some_iff.mp (show (((impl_count.f k (fun j x => impl_kernelAny.f j a0_0 l0_1 x) (shl .i64 1 (l0_1.length : Int))).bind fun n => some (n, true)) = some (r1, r2)) from h); have h1 : n = r1 ∧ true = r2 := by simpa using h
  obtain ⟨rfl, rfl⟩ := h1; clear h; have A2' := Aside0.mk A2; clear A2
  go_enter Try.func58, Try.ntmps58
  go_wp2_with fail
  refine (impl_WayGraph.calls k a0_0 _ _ l0_1 true _ (Kd.C_below HR.out HB0.out) HC.out A1'.out).mono ?_
  rintro e w1 ⟨rfl, hb1⟩
  have HB1 := Aside0.mk (below_step HB0.out hb1); have HBK1 := Aside0.mk (blk_below HBK.out hb1); clear hb1; have hcz_0 : w1.cell? ⟨w.heap.size, 0, none⟩ = some (.int .i64 a0_0) := (blk_cell HBK1.out 0).trans rfl; have hcz_1 : w1.cell? ⟨w.heap.size, 1, none⟩ = some (.slice A0_1 l0_1.length c0_1) := (blk_cell HBK1.out 1).trans rfl
  go_wp2_with fail
  have e9 : wrap64 (2 ^ min l0_1.length 64) = shl .i64 1 (l0_1.length : Int) := by unfold shl; rw [i64_w, Int.one_mul]; rfl
  rw [e9]
  clear e9
  refine (impl_count.calls k (fun j x => impl_kernelAny.f j a0_0 l0_1 x) 104 Try.f104 #[.pointer (some ⟨w.heap.size, 0, none⟩)] _ n w1 Try.func104 (by kernel_rfl) rfl ?hp A2'.out).mono ?_
  case hp =>
   intro j x t W hx _ hW
   exact impl_KernelMany_1.calls j w.heap.size a0_0 A0_1 c0_1 l0_1 x t W (blk_below HBK1.out hW) (Kd.C_below (Kd.C_below HR.out HB1.out) hW) HC.out hx
  rintro e w2 ⟨rfl, hb2⟩
  have HB2 := Aside0.mk (below_step HB1.out hb2); clear hb2
  go_wp2
  go_ret2
  exact ⟨rfl, HB2.out⟩


end Go.Proofs.Ytfijegfjpagjoaa.G
