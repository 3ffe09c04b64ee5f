/- The program's reachOf, round by round. The sets are of five nodes at most. -/
import Derived.Test.YtfijegfjpagjoaaQNext
import Derived.Test.YtfijegfjpagjoaaG30
namespace Go.Proofs.Ytfijegfjpagjoaa.Q
open Go.RowKit Go.Proofs.Ytfijegfjpagjoaa.G Go.Proofs.YtfijegfjpagjoaaW.PrintWords Go.Proofs.YtfijegfjpagjoaaW.PrintLast Go.Proofs.YtfijegfjpagjoaaW.PrintMore
set_option linter.unusedVariables false
set_option linter.unusedSimpArgs false
/-! ### reachOf -/
/-- One round: to a set, what is reached by one edge; from the node i on, d nodes. -/
def pass (s : List Nat) (f : Nat) : Nat → Nat → Nat → Nat
  | 0, _, r => r
  | d + 1, i, r => pass s f d (i + 1) (cond (Nat.testBit f i) (r ||| s.getD i 0) r)
def reachN (s : List Nat) : Nat → Nat → Option Nat
  | 0, _ => none
  | k + 1, f => if pass s f s.length 0 f = f then some f else reachN s k (pass s f s.length 0 f)
theorem pass_lt {n : Nat} {s : List Nat} (hs : Sets n s) (f : Nat) : ∀ d i r, r < 32 → pass s f d i r < 32
  | 0, _, r, h => h
  | d + 1, i, r, h => by
    simp only [pass]
    refine pass_lt hs f d _ _ ?_
    cases f.testBit i
    · exact h
    · exact or_lt_32 h (hs.getD _)
theorem reach_l1 {n : Nat} (h5 : n ≤ 5) {s : List Nat} (hs : Sets n s) {f : Nat} (hf : f < 32) (r : Int) (k0 : Nat) (he : Ev (fun k => if ((pass s f s.length 0 f : Nat) : Int) = (f : Int) then some (f : Int) else impl_reachOf.l0 k (I s) ((pass s f s.length 0 f : Nat) : Int)) r) :
    ∀ (d i y : Nat), i + d = n → y < 32 → pass s f d i y = pass s f s.length 0 f → Ev (fun k => impl_reachOf.l1 k (I s) (f : Int) (y : Int) (I s) ((I s).length : Int) (i : Int)) r
  | 0, i, y, h, hy, hp => by
    refine Ev.step (fun k => ?_) he
    simp only [impl_reachOf.l1]
    rw [if_neg (by rw [I_length, hs.1]; omega), ← hp]
    rfl
  | d + 1, i, y, h, hy, hp => by
    have h1 := hs.1
    have hi : i < n := by omega
    simp only [pass] at hp
    have hd := hs.getD i
    have e1 : wrap64 ((i : Int) + 1) = ((i + 1 : Nat) : Int) := wrap_add _ (lt62 (by omega))
    cases hb : f.testBit i with
    | false =>
      rw [hb] at hp
      refine Ev.step (fun k => ?_) (reach_l1 h5 hs hf r k0 he d (i + 1) y (by omega) hy hp)
      simp only [impl_reachOf.l1]
      rw [if_pos (by rw [I_length, h1]; omega), if_pos (Int.natCast_nonneg i), if_pos (by rw [I_length, h1]; omega), bit_nat f i (lt62 hf) (by omega), hb, if_neg (by decide), e1]
    | true =>
      rw [hb] at hp
      refine Ev.step (fun k => ?_) (reach_l1 h5 hs hf r k0 he d (i + 1) (y ||| s.getD i 0) (by omega) (or_lt_32 hy hd) hp)
      simp only [impl_reachOf.l1]
      rw [if_pos (by rw [I_length, h1]; omega), if_pos (Int.natCast_nonneg i), if_pos (by rw [I_length, h1]; omega), bit_nat f i (lt62 hf) (by omega), hb, if_pos (by decide), rd_nat, or_nat _ _ (lt62 hy) (lt62 hd), e1]
theorem reach_l0 {n : Nat} (h5 : n ≤ 5) {s : List Nat} (hs : Sets n s) : ∀ (q f r : Nat), f < 32 → reachN s q f = some r → Ev (fun k => impl_reachOf.l0 k (I s) (f : Int)) (r : Int)
  | 0, f, r, hf, h => by simp [reachN] at h
  | q + 1, f, r, hf, h => by
    simp only [reachN] at h
    refine Ev.step (fun k => by simp only [impl_reachOf.l0]; rfl) (reach_l1 h5 hs hf (r : Int) 0 ?_ n 0 f (by omega) hf (by rw [hs.1]))
    by_cases he : pass s f s.length 0 f = f
    · rw [if_pos he] at h
      have : f = r := Option.some.inj h
      subst this
      simp only [he, if_true]
      exact Ev.now _
    · rw [if_neg he] at h
      have : ¬ ((pass s f s.length 0 f : Nat) : Int) = (f : Int) := fun e => he (Int.ofNat.inj e)
      simp only [this, if_false]
      exact reach_l0 h5 hs q _ r (pass_lt hs f _ _ _ hf) h
theorem reachN_lt {n : Nat} {s : List Nat} (hs : Sets n s) : ∀ (q f r : Nat), f < 32 → reachN s q f = some r → r < 32
  | 0, f, r, hf, h => by simp [reachN] at h
  | q + 1, f, r, hf, h => by
    simp only [reachN] at h
    split at h
    · rw [← Option.some.inj h]; exact hf
    · exact reachN_lt hs q _ r (pass_lt hs f _ _ _ hf) h
theorem impl_reachOf_ev {n : Nat} (h5 : n ≤ 5) {s : List Nat} (hs : Sets n s) (q v r : Nat) (hv : v < n) (h : reachN s q (2 ^ v) = some r) : Ev (fun k => impl_reachOf.f k (I s) (v : Int)) (r : Int) := by
  unfold impl_reachOf.f
  simp only [if_pos (Int.natCast_nonneg v), shl_one v (by omega)]
  exact reach_l0 h5 hs q _ r (two_lt_32 (by omega)) h
end Go.Proofs.Ytfijegfjpagjoaa.Q
