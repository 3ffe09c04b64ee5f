/- Blocks: nodes that reach each other. The sets are of five nodes at most. -/
import Derived.Test.YtfijegfjpagjoaaQReach
import Derived.Test.YtfijegfjpagjoaaQTurn
namespace Go.Proofs.Ytfijegfjpagjoaa.Q
open Go.RowKit Go.Proofs.Ytfijegfjpagjoaa.G Go.Proofs.YtfijegfjpagjoaaW.PrintWords Go.Proofs.YtfijegfjpagjoaaW.PrintLast Go.Proofs.YtfijegfjpagjoaaW.PrintMore
set_option linter.unusedVariables false
set_option linter.unusedSimpArgs false
set_option linter.unusedSectionVars false
theorem set_ex (P : Nat → Prop) : ∀ n, ∃ C, C < 2 ^ n ∧ ∀ w, C.testBit w = true ↔ w < n ∧ P w
  | 0 => ⟨0, by decide, fun w => by simp⟩
  | n + 1 => by
    obtain ⟨C, h1, h2⟩ := set_ex P n
    have h1' : C < 2 ^ (n + 1) := Nat.lt_trans h1 (Nat.pow_lt_pow_right (by decide) (by omega))
    by_cases hp : P n
    · refine ⟨C ||| 2 ^ n, Nat.or_lt_two_pow h1' (Nat.pow_lt_pow_right (by decide) (by omega)), fun w => ?_⟩
      rw [Nat.testBit_or, Bool.or_eq_true, h2, Nat.testBit_two_pow, decide_eq_true_eq]
      constructor
      · rintro (h | rfl)
        · exact ⟨by omega, h.2⟩
        · exact ⟨by omega, hp⟩
      · rintro ⟨h3, h4⟩
        by_cases e : n = w
        · exact .inr e
        · exact .inl ⟨by omega, h4⟩
    · refine ⟨C, h1', fun w => ?_⟩
      rw [h2]
      constructor
      · rintro ⟨h3, h4⟩; exact ⟨by omega, h4⟩
      · rintro ⟨h3, h4⟩
        refine ⟨?_, h4⟩
        by_cases e : w = n
        · subst e; exact absurd h4 hp
        · omega
theorem least_ex (P : Nat → Prop) (h : ∃ x, P x) : ∃ x, P x ∧ ∀ y, y < x → ¬ P y := by
  obtain ⟨x, hx⟩ := h
  induction x using Nat.strongRecOn with
  | ind x ih =>
    by_cases hy : ∃ y, y < x ∧ P y
    · obtain ⟨y, h1, h2⟩ := hy
      exact ih y h1 h2
    · exact ⟨x, hx, fun y h1 h2 => hy ⟨y, h1, h2⟩⟩
section
variable {n : Nat} (h5 : n ≤ 5) {s t : List Nat} (hs : Sets n s) (ht : Sets n t) (hr : ∀ i w, (s.getD i 0).testBit w = (t.getD w 0).testBit i) (hlt : ∀ i w, (s.getD i 0).testBit w = true → i < n ∧ w < n)
include h5 hs hlt
theorem reach_sub {v w : Nat} (hv : v < n) (hw : w < n) (h : (reach s v).testBit w = true) : ∀ x, (reach s w).testBit x = true → (reach s v).testBit x = true :=
  reach_least hs (by omega) (reach_closed hs (by omega)) h
theorem reach_n {v : Nat} (hv : v < n) : ∀ w, (reach s v).testBit w = true → w < n := by
  obtain ⟨C, h1, h2⟩ := set_ex (fun _ => True) n
  intro w hw
  have := reach_least hs (v := v) (by omega) (C := C) (fun i w _ hb => (h2 w).2 ⟨(hlt i w hb).2, trivial⟩) ((h2 v).2 ⟨hv, trivial⟩) w hw
  exact ((h2 w).1 this).1
include ht hr
theorem rev_imp {u v : Nat} (hu : u < n) (h : (reach t u).testBit v = true) : (reach s v).testBit u = true := by
  obtain ⟨C, h1, h2⟩ := set_ex (fun w => (reach s w).testBit u = true) n
  have := reach_least ht (v := u) (by omega) (C := C) (fun i w hi hb => by
    rw [← hr] at hb
    have hwn := (hlt w i hb).1
    have hin := (hlt w i hb).2
    refine (h2 w).2 ⟨hwn, reach_sub h5 hs hlt hwn hin ?_ u ((h2 i).1 hi).2⟩
    exact reach_closed hs (by omega) w i (reach_self hs (by omega)) hb) ((h2 u).2 ⟨hu, reach_self hs (by omega)⟩) v h
  exact ((h2 v).1 this).2
end
section
variable {n : Nat} (h5 : n ≤ 5) {s t : List Nat} (hs : Sets n s) (ht : Sets n t) (hr : ∀ i w, (s.getD i 0).testBit w = (t.getD w 0).testBit i) (hlt : ∀ i w, (s.getD i 0).testBit w = true → i < n ∧ w < n)
include h5 hs ht hr hlt
theorem rev_iff {u v : Nat} (hu : u < n) (hv : v < n) : (reach t u).testBit v = true ↔ (reach s v).testBit u = true :=
  ⟨rev_imp h5 hs ht hr hlt hu, rev_imp h5 ht hs (fun i w => (hr w i).symm) (fun i w h => by rw [← hr] at h; exact ⟨(hlt w i h).2, (hlt w i h).1⟩) hv⟩
/-- The nodes that reach a node and are reached from it. -/
def blk (s t : List Nat) (v : Nat) : Nat := reach s v &&& reach t v
theorem blk_bit {v : Nat} (hv : v < n) (w : Nat) : (blk s t v).testBit w = true ↔ (reach s v).testBit w = true ∧ (reach s w).testBit v = true := by
  unfold blk
  rw [Nat.testBit_and, Bool.and_eq_true]
  constructor
  · rintro ⟨h1, h2⟩; exact ⟨h1, (rev_iff h5 hs ht hr hlt hv (reach_n h5 hs hlt hv w h1)).1 h2⟩
  · rintro ⟨h1, h2⟩; exact ⟨h1, (rev_iff h5 hs ht hr hlt hv (reach_n h5 hs hlt hv w h1)).2 h2⟩
theorem blk_self {v : Nat} (hv : v < n) : (blk s t v).testBit v = true := (blk_bit h5 hs ht hr hlt hv v).2 ⟨reach_self hs (by omega), reach_self hs (by omega)⟩
theorem blk_n {v : Nat} (hv : v < n) (w : Nat) (h : (blk s t v).testBit w = true) : w < n := reach_n h5 hs hlt hv w ((blk_bit h5 hs ht hr hlt hv w).1 h).1
theorem blk_sym {v w : Nat} (hv : v < n) (h : (blk s t v).testBit w = true) : (blk s t w).testBit v = true := by
  have hw := blk_n h5 hs ht hr hlt hv w h
  rw [blk_bit h5 hs ht hr hlt hv] at h
  exact (blk_bit h5 hs ht hr hlt hw v).2 ⟨h.2, h.1⟩
theorem blk_trans {u v w : Nat} (hu : u < n) (h : (blk s t u).testBit v = true) (k : (blk s t v).testBit w = true) : (blk s t u).testBit w = true := by
  have hv := blk_n h5 hs ht hr hlt hu v h
  have hw := blk_n h5 hs ht hr hlt hv w k
  rw [blk_bit h5 hs ht hr hlt hu] at h
  rw [blk_bit h5 hs ht hr hlt hv] at k
  exact (blk_bit h5 hs ht hr hlt hu w).2 ⟨reach_sub h5 hs hlt hu hv h.1 w k.1, reach_sub h5 hs hlt hw hv k.2 u h.2⟩
theorem blk_lt {v : Nat} (hv : v < n) : blk s t v < 32 := Nat.lt_of_le_of_lt Nat.and_le_left (reach_lt hs (by omega))
/-- The least node of its block. -/
def lstB (s t : List Nat) (v : Nat) : Bool := Nat.beq (blk s t v &&& (2 ^ v - 1)) 0
omit h5 hs ht hr hlt in
theorem lstB_iff (v : Nat) : lstB s t v = true ↔ ∀ u, u < v → (blk s t v).testBit u = false := by
  unfold lstB
  constructor
  · intro h u hu
    have h0 := Nat.eq_of_beq_eq_true h
    have : (blk s t v &&& (2 ^ v - 1)).testBit u = false := by rw [h0, Nat.zero_testBit]
    rw [Nat.testBit_and, Nat.testBit_two_pow_sub_one, decide_eq_true hu, Bool.and_true] at this
    exact this
  · intro h
    have h0 : blk s t v &&& (2 ^ v - 1) = 0 := by
      apply Nat.eq_of_testBit_eq
      intro u
      rw [Nat.testBit_and, Nat.testBit_two_pow_sub_one, Nat.zero_testBit]
      by_cases hu : u < v
      · rw [h u hu, Bool.false_and]
      · rw [decide_eq_false hu, Bool.and_false]
    rw [h0]; rfl
/-- Each node is in the block of a least node that is not greater. -/
theorem lst_ex {v : Nat} (hv : v < n) : ∃ u, u ≤ v ∧ lstB s t u = true ∧ (blk s t u).testBit v = true := by
  obtain ⟨u, h1, h2⟩ := least_ex (fun u => (blk s t v).testBit u = true) ⟨v, blk_self h5 hs ht hr hlt hv⟩
  have hu := blk_n h5 hs ht hr hlt hv u h1
  refine ⟨u, ?_, (lstB_iff u).2 fun w hw => ?_, blk_sym h5 hs ht hr hlt hv h1⟩
  · apply Classical.byContradiction
    intro hn
    exact h2 v (by omega) (blk_self h5 hs ht hr hlt hv)
  · rw [Bool.eq_false_iff]
    intro h
    exact h2 w hw (blk_trans h5 hs ht hr hlt hv h1 h)
theorem lst_not {u v : Nat} (hu : u < n) (huv : u < v) (h : (blk s t u).testBit v = true) : lstB s t v = false := by
  rw [Bool.eq_false_iff]
  intro hl
  have := (lstB_iff v).1 hl u huv
  rw [blk_sym h5 hs ht hr hlt hu h] at this
  exact absurd this (by decide)
/-- No edge leads into the block. -/
theorem root_iff {u : Nat} (hu : u < n) : reach t u = blk s t u ↔ ∀ i w, (s.getD i 0).testBit w = true → (blk s t u).testBit w = true → (blk s t u).testBit i = true := by
  constructor
  · intro h i w hb hw
    rw [← h] at hw ⊢
    exact reach_closed ht (by omega) w i hw (by rw [← hr]; exact hb)
  · intro h
    apply Nat.eq_of_testBit_eq
    intro w
    rw [Bool.eq_iff_iff]
    constructor
    · exact fun hw => reach_least ht (v := u) (by omega) (C := blk s t u) (fun i w hi hb => h w i (by rw [hr]; exact hb) hi) (blk_self h5 hs ht hr hlt hu) w hw
    · intro hw
      unfold blk at hw
      rw [Nat.testBit_and, Bool.and_eq_true] at hw
      exact hw.2
end
end Go.Proofs.Ytfijegfjpagjoaa.Q
