/- A direction with all edges turned. The graph is valid. -/
import Derived.Test.YtfijegfjpagjoaaQSem
import Derived.Test.YtfijegfjpagjoaaG25
namespace Go.Proofs.Ytfijegfjpagjoaa.Q
open Go.RowKit Go.Proofs.Ytfijegfjpagjoaa.G Go.Proofs.YtfijegfjpagjoaaW.PrintWords Go.Proofs.YtfijegfjpagjoaaW.PrintLast Go.Proofs.YtfijegfjpagjoaaW.PrintMore
set_option linter.unusedVariables false
set_option linter.unusedSimpArgs false
/-! ### turned -/
def swp (e : Nat × Nat) : Nat × Nat := (e.2, e.1)
theorem arcs_turned : ∀ (es : List (Nat × Nat)) (o : Nat), o < 2 ^ es.length → arcs es (2 ^ es.length - 1 - o) = (arcs es o).map swp
  | [], _, _ => rfl
  | e :: t, o, h => by
    rw [List.length_cons, Nat.pow_succ] at h
    have hp := Nat.two_pow_pos t.length
    have h1 : (2 ^ (e :: t).length - 1 - o) / 2 = 2 ^ t.length - 1 - o / 2 := by rw [List.length_cons, Nat.pow_succ]; omega
    have h2 : (2 ^ (e :: t).length - 1 - o) % 2 = 1 - o % 2 := by rw [List.length_cons, Nat.pow_succ]; omega
    simp only [arcs, List.map_cons]
    rw [h1, h2, arcs_turned t (o / 2) (by omega)]
    rcases Nat.mod_two_eq_zero_or_one o with h0 | h0 <;> rw [h0] <;> rfl
theorem xor_all' : ∀ m, m < 11 → ∀ o, o < 2 ^ m → o ^^^ (2 ^ m - 1) = 2 ^ m - 1 - o := by decide +kernel
theorem impl_turned_eq' {n : Nat} {es : List (Nat × Nat)} (hv : Val n es) {o : Nat} (ho : o < 2 ^ es.length) : impl_turned.f n (mkE es) o = some ((2 ^ es.length - 1 - o : Nat) : Int) := by
  have h2 := hv.two
  have hp := Nat.two_pow_pos es.length
  have hx := xor_all' es.length (by have := hv.len; omega) o ho
  unfold impl_turned.f
  rw [shl_len hv]
  generalize 2 ^ es.length = m at *
  have : wrap64 ((m : Int) - 1) = ((m - 1 : Nat) : Int) := by unfold wrap64; omega
  rw [this, xor_nat _ _ (by omega) (by omega), hx]
theorem turn_bits {n : Nat} {es : List (Nat × Nat)} (hv : Val n es) {o : Nat} (ho : o < 2 ^ es.length) (u v : Nat) : ((nxt n (arcs es o)).getD u 0).testBit v = ((nxt n (arcs es (2 ^ es.length - 1 - o))).getD v 0).testBit u := by
  rw [nxt_adj (fun e he => (arcs_mem hv.lt e he).1), nxt_adj (fun e he => (arcs_mem hv.lt e he).1), arcs_turned es o ho, Bool.eq_iff_iff, adj_iff, adj_iff, List.mem_map]
  constructor
  · intro h; exact ⟨_, h, rfl⟩
  · rintro ⟨⟨a, b⟩, h, e⟩
    simp only [swp, Prod.mk.injEq] at e
    rw [← e.1, ← e.2]; exact h
theorem turn_lt (m : Nat) (o : Nat) (h : o < 2 ^ m) : 2 ^ m - 1 - o < 2 ^ m := by omega
end Go.Proofs.Ytfijegfjpagjoaa.Q
