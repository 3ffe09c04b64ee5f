/- The number of ones of a small number, by OnesCount and by halving. The number is below 1024. -/
import Derived.Test.YtfijegfjpagjoaaQNext
import Derived.Test.YtfijegfjpagjoaaG32
namespace Go.Proofs.Ytfijegfjpagjoaa.Q
open Go.RowKit Go.Proofs.Ytfijegfjpagjoaa.G Go.Proofs.YtfijegfjpagjoaaW.PrintWords Go.Proofs.YtfijegfjpagjoaaW.PrintLast Go.Proofs.YtfijegfjpagjoaaW.PrintMore
set_option linter.unusedVariables false
set_option linter.unusedSimpArgs false
def popc : Nat → Nat → Nat
  | 0, _ => 0
  | f + 1, x => x % 2 + popc f (x / 2)
def pop (x : Nat) : Nat := popc 10 x
theorem popc_le : ∀ f x, popc f x ≤ f
  | 0, _ => Nat.le_refl _
  | f + 1, x => by have := popc_le f (x / 2); simp only [popc]; omega
theorem popc_zero : ∀ f, popc f 0 = 0
  | 0 => rfl
  | f + 1 => by simp [popc, popc_zero f]
def onesOk : Nat → Nat → Bool
  | _, 0 => true
  | i, d + 1 => (match bits_OnesCount.f (IntKind.u64.wrap (i : Int)) with | some r => decide (r = (pop i : Nat)) | none => false) && onesOk (i + 1) d
theorem onesOk_all : onesOk 0 1024 = true := by decide +kernel
theorem onesOk_of : ∀ d i, onesOk i d = true → ∀ x, i ≤ x → x < i + d → bits_OnesCount.f (IntKind.u64.wrap (x : Int)) = some ((pop x : Nat) : Int)
  | 0, i, _, x, h1, h2 => absurd h2 (by omega)
  | d + 1, i, h, x, h1, h2 => by
    simp only [onesOk, Bool.and_eq_true] at h
    by_cases e : x = i
    · subst e
      have h := h.1
      split at h
      · rename_i r hr
        rw [decide_eq_true_eq] at h
        rw [hr, h]
      · exact absurd h (by decide)
    · exact onesOk_of d (i + 1) h.2 x (by omega) (by omega)
theorem ones_eq (x : Nat) (h : x < 1024) : bits_OnesCount.f (IntKind.u64.wrap (x : Int)) = some ((pop x : Nat) : Int) := onesOk_of 1024 0 onesOk_all x (by omega) (by omega)
/-- A loop that halves. -/
theorem loop_half (Lf : Nat → Int → Int → Option Int) (hs : ∀ (k : Nat) (x c : Int), Lf (k + 1) x c = if x > 0 then Lf k (x / 2) (wrap64 (c + Go.bits .and .i64 x 1)) else some c) :
    ∀ (f x c : Nat), x < 2 ^ f → f + c ≤ 40 → Ev (fun k => Lf k (x : Int) (c : Int)) ((c + popc f x : Nat) : Int)
  | 0, x, c, h, hf => by
    have : x = 0 := by omega
    subst this
    refine Ev.step (f := fun _ => some (c : Int)) (fun k => ?_) (Ev.now _)
    rw [hs, if_neg (by omega)]
  | f + 1, x, c, h, hf => by
    by_cases h0 : x = 0
    · subst h0
      refine Ev.step (f := fun _ => some (c : Int)) (fun k => ?_) (Ev.eq_ (Ev.now _) (by rw [popc_zero, Nat.add_zero]))
      rw [hs, if_neg (by omega)]
    · rw [Nat.pow_succ] at h
      have ih := loop_half Lf hs f (x / 2) (c + x % 2) (by omega) (by omega)
      have hx : x < 2 ^ 62 := Nat.lt_of_lt_of_le h (by rw [← Nat.pow_succ]; exact Nat.pow_le_pow_right (by decide) (by omega))
      have hb := bit_nat x 0 hx (by omega)
      have e0 : shr .i64 (x : Int) ((0 : Nat) : Int) = (x : Int) := by rw [shr_nat x 0 (by omega), Nat.shiftRight_zero]
      rw [e0] at hb
      have e1 : (x.testBit 0).toNat = x % 2 := by rw [Nat.testBit_zero]; rcases Nat.mod_two_eq_zero_or_one x with h | h <;> rw [h] <;> rfl
      rw [e1] at hb
      refine Ev.step (fun k => ?_) (Ev.eq_ ih (by simp only [popc, Nat.add_assoc]))
      rw [hs, if_pos (by omega), hb]
      have e2 : wrap64 ((c : Int) + ((x % 2 : Nat) : Int)) = ((c + x % 2 : Nat) : Int) := by unfold wrap64; omega
      rw [e2]
      rfl
end Go.Proofs.Ytfijegfjpagjoaa.Q
