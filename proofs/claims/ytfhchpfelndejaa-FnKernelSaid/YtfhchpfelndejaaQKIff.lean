/- What a kernel is; no kernel holds another one. The graph is valid. -/
import Derived.Test.YtfhchpfelndejaaQKers
namespace Go.Proofs.Ytfhchpfelndejaa.Q
open Go.RowKit
set_option linter.unusedVariables false
set_option linter.unusedSectionVars false
set_option linter.unusedSimpArgs false
theorem sel_nodup (P : Nat → Bool) : ∀ d i, (sel P i d).Nodup
  | 0, _ => by simp [sel]
  | d + 1, i => by
    simp only [sel]
    split
    · rw [List.nodup_cons]
      refine ⟨fun h => ?_, sel_nodup P d (i + 1)⟩
      have := ((sel_mem P i d (i + 1)).1 h).1
      omega
    · exact sel_nodup P d (i + 1)
/-- A node is in the set just if no edge leads from it into the set. -/
def Fix (n : Nat) (es : List (Nat × Nat)) (o K : Nat) : Prop := ∀ v, v < n → (K.testBit v = true ↔ ¬ ∃ u, adj (arcs es o) v u = true ∧ K.testBit u = true)
theorem es_mem_arcs : ∀ (es : List (Nat × Nat)) (o : Nat), ∀ e ∈ es, e ∈ arcs es o ∨ (e.2, e.1) ∈ arcs es o
  | [], _, e, h => absurd h (by simp)
  | x :: t, o, e, h => by
    simp only [arcs, List.mem_cons]
    rw [List.mem_cons] at h
    rcases h with rfl | h
    · by_cases ho : o % 2 = 1
      · rw [if_pos ho]; exact .inr (.inl rfl)
      · rw [if_neg ho]; exact .inl (.inl rfl)
    · exact (es_mem_arcs t (o / 2) e h).imp .inr .inr
section
variable {n : Nat} {es : List (Nat × Nat)} (hv : Val n es)
include hv
theorem free_adj {K : Nat} (o : Nat) : freeB es K = true ↔ ∀ u v, adj (arcs es o) u v = true → ¬ (K.testBit u = true ∧ K.testBit v = true) := by
  rw [freeB, List.all_eq_true]
  constructor
  · intro h u v ha hb
    rcases arcs_mem_es es o _ ((adj_iff _ _ _).1 ha) with hm | hm
    · have := h _ hm; simp only [hb.1, hb.2] at this; exact absurd this (by decide)
    · have := h _ hm; simp only [hb.1, hb.2] at this; exact absurd this (by decide)
  · intro h e he
    rcases es_mem_arcs es o e he with hm | hm
    · have := h e.1 e.2 ((adj_iff _ _ _).2 hm)
      cases h1 : K.testBit e.1 <;> cases h2 : K.testBit e.2 <;> simp_all
    · have := h e.2 e.1 ((adj_iff _ _ _).2 hm)
      cases h1 : K.testBit e.1 <;> cases h2 : K.testBit e.2 <;> simp_all
theorem kernel_iff {o K : Nat} : kernelB n es o K = true ↔ Fix n es o K ∧ ∀ u v, adj (arcs es o) u v = true → ¬ (K.testBit u = true ∧ K.testBit v = true) := by
  have hob : ∀ v u, ((nxt n (arcs es o)).getD v 0).testBit u = adj (arcs es o) v u := fun v u => by
    have h := out_bit hv o v u
    unfold out at h
    exact h
  rw [kernelB, Bool.and_eq_true, free_adj hv o, kerB, List.all_eq_true]
  constructor
  · rintro ⟨hf, hk⟩
    refine ⟨fun v hvn => ⟨fun hb ⟨u, ha, hu⟩ => hf v u ha ⟨hb, hu⟩, fun hno => ?_⟩, hf⟩
    have := hk v (by rw [List.mem_range, (nxt_sets hv o).1]; exact hvn)
    rw [Bool.or_eq_true] at this
    rcases this with h | h
    · exact h
    · obtain ⟨u, h1, h2⟩ := (and_ne_zero _ _).1 h
      rw [hob] at h1
      exact absurd ⟨u, h1, h2⟩ hno
  · rintro ⟨hF, hf⟩
    refine ⟨hf, fun v hvm => ?_⟩
    rw [List.mem_range, (nxt_sets hv o).1] at hvm
    rw [Bool.or_eq_true]
    cases hb : K.testBit v with
    | true => exact .inl rfl
    | false =>
      right
      apply Classical.byContradiction
      intro hno
      have := (hF v hvm).2 fun ⟨u, h1, h2⟩ => hno ((and_ne_zero _ _).2 ⟨u, by rw [hob]; exact h1, h2⟩)
      rw [hb] at this; exact absurd this (by decide)
/-- No kernel holds another one. -/
theorem kernel_apart {o a b : Nat} (ha : kernelB n es o a = true) (hb : kernelB n es o b = true) (han : a < 2 ^ n) (hbn : b < 2 ^ n) (hne : a ≠ b) : a &&& (a ^^^ b) ≠ 0 := by
  intro h0
  have hsub : ∀ v, a.testBit v = true → b.testBit v = true := by
    intro v hva
    have : (a &&& (a ^^^ b)).testBit v = false := by rw [h0, Nat.zero_testBit]
    rw [Nat.testBit_and, Nat.testBit_xor, hva] at this
    cases hb : b.testBit v with
    | true => rfl
    | false => rw [hb] at this; exact absurd this (by decide)
  obtain ⟨hFa, _⟩ := (kernel_iff hv).1 ha
  obtain ⟨_, hfb⟩ := (kernel_iff hv).1 hb
  refine hne (Nat.eq_of_testBit_eq fun v => ?_)
  by_cases hvn : v < n
  · cases hva : a.testBit v with
    | true => exact (hsub v hva).symm
    | false =>
      cases hvb : b.testBit v with
      | false => rfl
      | true =>
        have := (hFa v hvn).2 fun ⟨u, h1, h2⟩ => hfb v u h1 ⟨hvb, hsub u h2⟩
        rw [hva] at this; exact absurd this (by decide)
  · rw [Nat.testBit_lt_two_pow (Nat.lt_of_lt_of_le han (Nat.pow_le_pow_right (by decide) (show n ≤ v by omega))), Nat.testBit_lt_two_pow (Nat.lt_of_lt_of_le hbn (Nat.pow_le_pow_right (by decide) (show n ≤ v by omega)))]
theorem fix_kernel {o K : Nat} (h : Fix n es o K) : kernelB n es o K = true := by
  refine (kernel_iff hv).2 ⟨h, fun u v ha hb => ?_⟩
  exact (h u (adj_lt hv o u v ha).1).1 hb.1 ⟨v, ha, hb.2⟩
theorem kers_mem {o K : Nat} : K ∈ kers n es o ↔ K < 2 ^ n ∧ kernelB n es o K = true := by
  rw [kers, sel_mem]
  constructor
  · rintro ⟨_, h1, h2⟩; exact ⟨by omega, h2⟩
  · rintro ⟨h1, h2⟩; exact ⟨Nat.zero_le _, by omega, h2⟩
end
end Go.Proofs.Ytfhchpfelndejaa.Q
