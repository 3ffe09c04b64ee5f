/- A set is a kernel for the program just if it is one for the reference; both KernelIn tell the same for all arguments. The numbers are of 64 bits. -/
import Derived.Test.YtlpkagcnkaijlaaQSem
import Derived.Test.YtlpkagcnkaijlaaQKer
namespace Go.Proofs.Ytlpkagcnkaijlaa.Q
open Go.RowKit Go.Proofs.Ytlpkagcnkaijlaa.G Go.Proofs.YtlpkagcnkaijlaaW.PrintWords Go.Proofs.YtlpkagcnkaijlaaW.PrintLast Go.Proofs.YtlpkagcnkaijlaaW.PrintMore
set_option linter.unusedVariables false
set_option linter.unusedSimpArgs false
theorem metS_bit (set v : Nat) : ∀ (ar : List (Nat × Nat)) (m : Nat), (ar.foldl (metS set) m).testBit v = (m.testBit v || ar.any fun e => e.1 == v && set.testBit e.2)
  | [], m => by simp
  | e :: t, m => by
    rw [List.foldl_cons, metS_bit set v t, List.any_cons]
    unfold metS
    cases set.testBit e.2 with
    | true =>
      rw [if_pos rfl, Nat.testBit_or, Nat.testBit_two_pow]
      have : decide (e.1 = v) = (e.1 == v) := by rw [Bool.eq_iff_iff]; simp
      rw [this, Bool.and_true, Bool.or_assoc]
    | false => simp
theorem metS_lt (set : Nat) (n : Nat) : ∀ (ar : List (Nat × Nat)) (m : Nat), m < 2 ^ n → (∀ e ∈ ar, e.1 < n) → ar.foldl (metS set) m < 2 ^ n
  | [], m, h, _ => h
  | e :: t, m, h, he => by
    rw [List.foldl_cons]
    refine metS_lt set n t _ ?_ (fun x hx => he x (List.mem_cons_of_mem _ hx))
    unfold metS
    split
    · exact Nat.or_lt_two_pow h (Nat.pow_lt_pow_right (by decide) (he e List.mem_cons_self))
    · exact h
theorem ker_same {n : Nat} {ar : List (Nat × Nat)} (har : ∀ e ∈ ar, e.1 < n ∧ e.2 < n) (hl : (nxt n ar).length = n) {set : Nat} (hs : set < 2 ^ n) : kerB (nxt n ar) set = decide (ar.foldl (metS set) set = 2 ^ n - 1) := by
  rw [Bool.eq_iff_iff, decide_eq_true_eq, full_iff n _ (metS_lt set n ar set hs fun e he => (har e he).1)]
  simp only [kerB, List.all_eq_true, List.mem_range, hl, Bool.or_eq_true, metS_bit, and_ne_zero, nxt_adj (fun e he => (har e he).1)]
  constructor
  · intro h v hv
    rcases h v hv with h | ⟨u, h1, h2⟩
    · exact .inl h
    · right
      rw [List.any_eq_true]
      exact ⟨(v, u), (adj_iff ar v u).1 h1, by simp [h2]⟩
  · intro h v hv
    rcases h v hv with h | h
    · exact .inl h
    · right
      rw [List.any_eq_true] at h
      obtain ⟨⟨a, b⟩, hm, he⟩ := h
      simp only [Bool.and_eq_true, beq_iff_eq] at he
      obtain ⟨rfl, hb⟩ := he
      exact ⟨b, (adj_iff ar a b).2 hm, hb⟩
section
variable {n : Nat} {es : List (Nat × Nat)} (hv : Val n es)
include hv
/-- Is a set a kernel of a direction. -/
def kernelB (n : Nat) (es : List (Nat × Nat)) (o set : Nat) : Bool := freeB es set && kerB (nxt n (arcs es o)) set
theorem spec_l6kIn_ev {o : Nat} (ho : o < 2 ^ es.length) (set : Nat) (hs : set < 2 ^ n) : Ev (fun k => spec_l6kIn.f k n (mkE es) o set) (kernelB n es o set) := by
  have h32 := two_n hv.le
  have h := spec_l6kIn_loop hv ho set (by omega) es.length 0 set (by omega) (by omega)
  refine Ev.congr (fun k => rfl) (Ev.eq_ h ?_)
  rw [kernelB, ker_same (fun e he => have := arcs_mem hv.lt e he; ⟨this.1, this.2.1⟩) (nxt_sets hv o).1 hs]
  rfl
theorem impl_isKernel_ev' {o : Nat} (ho : o < 2 ^ es.length) (set : Nat) (hs : set < 2 ^ n) : Ev (fun k => impl_isKernel.f k n (mkE es) o set) (kernelB n es o set) :=
  impl_isKernel_ev hv ho set (by have := two_n hv.le; omega)
theorem KernelIn_val {o : Nat} (ho : o < 2 ^ es.length) (x : Int) : ∃ r, Ev (fun k => impl_KernelIn.f k n (mkE es) o x) r ∧ Ev (fun k => spec_KernelIn.f k n (mkE es) o x) r := by
  have hW1 := impl_WayIn_yes hv ho
  have hW2 := spec_WayIn_yes hv ho
  have h32 := two_n hv.le
  have hp := Nat.two_pow_pos n
  have h0 : (0 : Int) ≤ (n : Int) := by omega
  have e1 : wrap64 (((2 ^ n : Nat) : Int) - 1) = ((2 ^ n : Nat) : Int) - 1 := by generalize 2 ^ n = N at *; unfold wrap64; omega
  by_cases h : 0 ≤ x ∧ x < ((2 ^ n : Nat) : Int)
  · obtain ⟨s, rfl⟩ := Int.eq_ofNat_of_zero_le h.1
    have hs : s < 2 ^ n := by omega
    refine ⟨kernelB n es o s, ?_, ?_⟩
    · unfold impl_KernelIn.f
      refine Ev.bind hW1 ?_
      simp only [if_true, ge_iff_le, h.1, h0, shl_n hv, h.2]
      exact Ev.bind (impl_isKernel_ev' hv ho s hs) (Ev.now _)
    · unfold spec_KernelIn.f
      refine Ev.bind hW2 ?_
      simp only [if_true, h0, shl_n hv, e1, spec_l6In_eq, Option.bind_some, h.1, decide_true, Bool.true_and]
      have : decide ((s : Int) ≤ ((2 ^ n : Nat) : Int) - 1) = true := by rw [decide_eq_true_eq]; omega
      simp only [this, if_true]
      exact Ev.bind (spec_l6kIn_ev hv ho s hs) (Ev.now _)
  · refine ⟨false, ?_, ?_⟩
    · unfold impl_KernelIn.f
      refine Ev.bind hW1 ?_
      simp only [if_true, ge_iff_le, h0, shl_n hv]
      by_cases h1 : 0 ≤ x
      · have h2 : ¬ x < ((2 ^ n : Nat) : Int) := fun h2 => h ⟨h1, h2⟩
        simp only [h1, h2, if_true, if_false]
        exact Ev.now _
      · simp only [h1, if_false]
        exact Ev.now _
    · unfold spec_KernelIn.f
      refine Ev.bind hW2 ?_
      simp only [if_true, h0, shl_n hv, e1, spec_l6In_eq, Option.bind_some]
      have : (decide (0 ≤ x) && decide (x ≤ ((2 ^ n : Nat) : Int) - 1)) = false := by
        rw [Bool.and_eq_false_iff, decide_eq_false_iff_not, decide_eq_false_iff_not]; omega
      simp only [this, Bool.false_eq_true, if_false]
      exact Ev.now _
end
theorem KernelIn_no {a : Int} {l : List E} {o : Int} (h1 : Ev (fun k => impl_WayIn.f k a l o) false) (h2 : Ev (fun k => spec_WayIn.f k a l o) false) (x : Int) : ∃ r, Ev (fun k => impl_KernelIn.f k a l o x) r ∧ Ev (fun k => spec_KernelIn.f k a l o x) r := by
  refine ⟨false, ?_, ?_⟩
  · unfold impl_KernelIn.f
    refine Ev.bind h1 ?_
    simp only [Bool.false_eq_true, if_false]
    exact Ev.now _
  · unfold spec_KernelIn.f
    refine Ev.bind h2 ?_
    simp only [Bool.false_eq_true, if_false]
    exact Ev.now _
theorem KernelIn_both {a : Int} (ha : InR a) {l : List E} (hl : WfE l) (o x : Int) : ∃ r, Ev (fun k => impl_KernelIn.f k a l o x) r ∧ Ev (fun k => spec_KernelIn.f k a l o x) r := by
  rcases way_split ha hl o with ⟨n, es, o', rfl, rfl, rfl, hv, ho⟩ | ⟨h1, h2⟩
  · exact KernelIn_val hv ho x
  · exact KernelIn_no h1 h2 x
end Go.Proofs.Ytlpkagcnkaijlaa.Q
