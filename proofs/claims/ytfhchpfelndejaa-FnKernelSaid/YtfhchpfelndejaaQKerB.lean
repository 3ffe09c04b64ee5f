/- A set is a kernel for the program just if it is one for the reference; The graph is valid. -/
import Derived.Test.YtfhchpfelndejaaQSem
import Derived.Test.YtfhchpfelndejaaQKer
namespace Go.Proofs.Ytfhchpfelndejaa.Q
open Go.RowKit Go.Proofs.Ytfhchpfelndejaa.G Go.Proofs.YtfhchpfelndejaaW.PrintWords Go.Proofs.YtfhchpfelndejaaW.PrintLast Go.Proofs.YtfhchpfelndejaaW.PrintMore
set_option linter.unusedVariables false
set_option linter.unusedSimpArgs false
theorem metS_bit (set v : Nat) : ∀ (ar : List (Nat × Nat)) (m : Nat), (ar.foldl (metS set) m).testBit v = (m.testBit v || ar.any fun e => e.1 == v && set.testBit e.2)
  | [], m => by simp
  | e :: t, m => by
    rw [List.foldl_cons, metS_bit set v t, List.any_cons]
    unfold metS
    cases set.testBit e.2 with
    | true =>
      rw [if_pos rfl, Nat.testBit_or, Nat.testBit_two_pow]
      have : decide (e.1 = v) = (e.1 == v) := by rw [Bool.eq_iff_iff]; simp
      rw [this, Bool.and_true, Bool.or_assoc]
    | false => simp
theorem metS_lt (set : Nat) (n : Nat) : ∀ (ar : List (Nat × Nat)) (m : Nat), m < 2 ^ n → (∀ e ∈ ar, e.1 < n) → ar.foldl (metS set) m < 2 ^ n
  | [], m, h, _ => h
  | e :: t, m, h, he => by
    rw [List.foldl_cons]
    refine metS_lt set n t _ ?_ (fun x hx => he x (List.mem_cons_of_mem _ hx))
    unfold metS
    split
    · exact Nat.or_lt_two_pow h (Nat.pow_lt_pow_right (by decide) (he e List.mem_cons_self))
    · exact h
theorem ker_same {n : Nat} {ar : List (Nat × Nat)} (har : ∀ e ∈ ar, e.1 < n ∧ e.2 < n) (hl : (nxt n ar).length = n) {set : Nat} (hs : set < 2 ^ n) : kerB (nxt n ar) set = decide (ar.foldl (metS set) set = 2 ^ n - 1) := by
  rw [Bool.eq_iff_iff, decide_eq_true_eq, full_iff n _ (metS_lt set n ar set hs fun e he => (har e he).1)]
  simp only [kerB, List.all_eq_true, List.mem_range, hl, Bool.or_eq_true, metS_bit, and_ne_zero, nxt_adj (fun e he => (har e he).1)]
  constructor
  · intro h v hv
    rcases h v hv with h | ⟨u, h1, h2⟩
    · exact .inl h
    · right
      rw [List.any_eq_true]
      exact ⟨(v, u), (adj_iff ar v u).1 h1, by simp [h2]⟩
  · intro h v hv
    rcases h v hv with h | h
    · exact .inl h
    · right
      rw [List.any_eq_true] at h
      obtain ⟨⟨a, b⟩, hm, he⟩ := h
      simp only [Bool.and_eq_true, beq_iff_eq] at he
      obtain ⟨rfl, hb⟩ := he
      exact ⟨b, (adj_iff ar a b).2 hm, hb⟩
section
variable {n : Nat} {es : List (Nat × Nat)} (hv : Val n es)
include hv
/-- Is a set a kernel of a direction. -/
def kernelB (n : Nat) (es : List (Nat × Nat)) (o set : Nat) : Bool := freeB es set && kerB (nxt n (arcs es o)) set
theorem spec_l6kIn_ev {o : Nat} (ho : o < 2 ^ es.length) (set : Nat) (hs : set < 2 ^ n) : Ev (fun k => spec_l6kIn.f k n (mkE es) o set) (kernelB n es o set) := by
  have h32 := two_n hv.le
  have h := spec_l6kIn_loop hv ho set (by omega) es.length 0 set (by omega) (by omega)
  refine Ev.congr (fun k => rfl) (Ev.eq_ h ?_)
  rw [kernelB, ker_same (fun e he => have := arcs_mem hv.lt e he; ⟨this.1, this.2.1⟩) (nxt_sets hv o).1 hs]
  rfl
theorem impl_isKernel_ev' {o : Nat} (ho : o < 2 ^ es.length) (set : Nat) (hs : set < 2 ^ n) : Ev (fun k => impl_isKernel.f k n (mkE es) o set) (kernelB n es o set) :=
  impl_isKernel_ev hv ho set (by have := two_n hv.le; omega)
end
end Go.Proofs.Ytfhchpfelndejaa.Q
