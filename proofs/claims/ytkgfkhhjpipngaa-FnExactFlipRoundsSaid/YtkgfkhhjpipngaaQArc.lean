/- A valid graph has at most ten edges, a part of all pairs in order; both WayIn tell whether a number is one of its directions. -/
import Derived.Test.YtkgfkhhjpipngaaQWay
import Derived.Test.YtkgfkhhjpipngaaG16
namespace Go.Proofs.Ytkgfkhhjpipngaa.Q
open Go.RowKit Go.Proofs.Ytkgfkhhjpipngaa.G Go.Proofs.YtkgfkhhjpipngaaW.PrintWords Go.Proofs.YtkgfkhhjpipngaaW.PrintLast Go.Proofs.YtkgfkhhjpipngaaW.PrintMore
set_option linter.unusedVariables false
set_option linter.unusedSimpArgs false

/-- All pairs of nodes, in order. -/
def pairs : Nat → List (Nat × Nat)
  | 2 => [(0, 1)]
  | 3 => [(0, 1), (0, 2), (1, 2)]
  | 4 => [(0, 1), (0, 2), (0, 3), (1, 2), (1, 3), (2, 3)]
  | 5 => [(0, 1), (0, 2), (0, 3), (0, 4), (1, 2), (1, 3), (1, 4), (2, 3), (2, 4), (3, 4)]
  | _ => []
def plt (a b : Nat × Nat) : Prop := a.1 < b.1 ∨ a.1 = b.1 ∧ a.2 < b.2
theorem pairs_sorted (n : Nat) (h : n ≤ 5) : (pairs n).Pairwise plt := by
  have : n = 0 ∨ n = 1 ∨ n = 2 ∨ n = 3 ∨ n = 4 ∨ n = 5 := by omega
  rcases this with rfl | rfl | rfl | rfl | rfl | rfl <;> simp [pairs, plt]
theorem mem_pairs (n : Nat) (h : n ≤ 5) (a b : Nat) (hab : a < b) (hb : b < n) : (a, b) ∈ pairs n := by
  have hn : n = 0 ∨ n = 1 ∨ n = 2 ∨ n = 3 ∨ n = 4 ∨ n = 5 := by omega
  have ha : a = 0 ∨ a = 1 ∨ a = 2 ∨ a = 3 ∨ a = 4 := by omega
  have hb' : b = 0 ∨ b = 1 ∨ b = 2 ∨ b = 3 ∨ b = 4 := by omega
  rcases hn with rfl | rfl | rfl | rfl | rfl | rfl <;> rcases ha with rfl | rfl | rfl | rfl | rfl <;> rcases hb' with rfl | rfl | rfl | rfl | rfl <;> first | (exfalso; omega) | simp [pairs]
theorem sub_of_sorted : ∀ (m l : List (Nat × Nat)), m.Pairwise plt → l.Pairwise plt → (∀ x ∈ l, x ∈ m) → l.Sublist m
  | [], l, _, _, h => by
    cases l with
    | nil => exact List.Sublist.refl _
    | cons x l => exact absurd (h x List.mem_cons_self) (by simp)
  | y :: m, l, hm, hl, h => by
    rw [List.pairwise_cons] at hm
    cases l with
    | nil => exact List.nil_sublist _
    | cons x l =>
      rw [List.pairwise_cons] at hl
      have hxy := h x List.mem_cons_self
      rw [List.mem_cons] at hxy
      have irr : ∀ z w : Nat × Nat, plt z w → z ≠ w := by
        intro z w h e; subst e; unfold plt at h; omega
      have tr : ∀ z w u : Nat × Nat, plt z w → plt w u → plt z u := by
        intro z w u h1 h2; unfold plt at *; omega
      rcases hxy with rfl | hx
      · refine List.Sublist.cons_cons _ (sub_of_sorted m l hm.2 hl.2 fun z hz => ?_)
        have h1 := h z (List.mem_cons_of_mem _ hz)
        rw [List.mem_cons] at h1
        rcases h1 with rfl | h1
        · exact absurd rfl (irr _ _ (hl.1 _ hz))
        · exact h1
      · refine List.Sublist.cons _ (sub_of_sorted m (x :: l) hm.2 (List.pairwise_cons.2 hl) fun z hz => ?_)
        have h1 := h z hz
        rw [List.mem_cons] at h1
        rcases h1 with rfl | h1
        · rw [List.mem_cons] at hz
          rcases hz with rfl | hz
          · exact absurd rfl (irr _ _ (hm.1 _ hx))
          · exact absurd rfl (irr _ _ (tr _ _ _ (hm.1 _ hx) (hl.1 _ hz)))
        · exact h1
theorem Val.sub {n : Nat} {es : List (Nat × Nat)} (h : Val n es) : es.Sublist (pairs n) :=
  sub_of_sorted _ _ (pairs_sorted n h.le) h.srt (fun x hx => mem_pairs n h.le x.1 x.2 (h.lt x hx).1 (h.lt x hx).2)
theorem pairs_len (n : Nat) (h : n ≤ 5) : (pairs n).length = n * (n - 1) / 2 := by
  have : n = 0 ∨ n = 1 ∨ n = 2 ∨ n = 3 ∨ n = 4 ∨ n = 5 := by omega
  rcases this with rfl | rfl | rfl | rfl | rfl | rfl <;> rfl
theorem Val.len {n : Nat} {es : List (Nat × Nat)} (h : Val n es) : es.length ≤ 10 := by
  have h1 := h.sub.length_le
  have h2 := pairs_len n h.le
  have : n = 1 ∨ n = 2 ∨ n = 3 ∨ n = 4 ∨ n = 5 := by have := h.le; have := h.pos; omega
  rcases this with rfl | rfl | rfl | rfl | rfl <;> omega
theorem Val.wf {n : Nat} {es : List (Nat × Nat)} (h : Val n es) : WfE (mkE es) := by
  refine ⟨by rw [mkE_length]; have := h.len; omega, fun e he => ?_⟩
  obtain ⟨x, hx, rfl⟩ := List.mem_map.1 he
  have := h.lt x hx
  have := h.le
  unfold InR
  simp only
  omega
theorem two_len {m : Nat} (h : m ≤ 10) : 2 ^ m ≤ 1024 := Nat.pow_le_pow_right (by decide) h
theorem Val.two {n : Nat} {es : List (Nat × Nat)} (h : Val n es) : 2 ^ es.length ≤ 1024 := two_len h.len
theorem two_n {n : Nat} (h : n ≤ 5) : 2 ^ n ≤ 32 := Nat.pow_le_pow_right (by decide) h

/-! ### WayIn -/
theorem impl_WayIn_no {a : Int} {l : List E} (hl : WfE l) (h : isG a l = false) (o : Int) : Ev (fun k => impl_WayIn.f k a l o) false := by
  unfold impl_WayIn.f
  refine Ev.bind (h ▸ impl_WayGraph_ev a l hl) ?_
  simp only [Bool.false_eq_true, if_false]
  exact Ev.now _
theorem spec_WayIn_no {a : Int} (ha : InR a) {l : List E} (hl : WfE l) (h : isG a l = false) (o : Int) : Ev (fun k => spec_WayIn.f k a l o) false := by
  unfold spec_WayIn.f
  refine Ev.bind (h ▸ spec_WayGraph_ev a ha l hl) ?_
  simp only [Bool.false_eq_true, if_false]
  exact Ev.now _
section
variable {n : Nat} {es : List (Nat × Nat)} (hv : Val n es)
include hv
theorem InR_n : InR (n : Int) := by have := hv.le; unfold InR; omega
theorem impl_G : Ev (fun k => impl_WayGraph.f k n (mkE es)) true := Ev.eq_ (impl_WayGraph_ev _ _ hv.wf) hv.isG
theorem spec_G : Ev (fun k => spec_WayGraph.f k n (mkE es)) true := Ev.eq_ (spec_WayGraph_ev _ (InR_n hv) _ hv.wf) hv.isG
theorem shl_len : shl .i64 1 ((mkE es).length : Int) = ((2 ^ es.length : Nat) : Int) := by
  rw [mkE_length]; exact shl_one _ (by have := hv.len; omega)
theorem shl_n : shl .i64 1 (n : Int) = ((2 ^ n : Nat) : Int) := shl_one _ (by have := hv.le; omega)
theorem impl_WayIn_ev (o : Int) : Ev (fun k => impl_WayIn.f k n (mkE es) o) (decide (0 ≤ o) && decide (o < ((2 ^ es.length : Nat) : Int))) := by
  unfold impl_WayIn.f
  refine Ev.bind (impl_G hv) ?_
  simp only [if_true, shl_len hv]
  by_cases h : o ≥ 0
  · simp only [h, if_true, decide_true, Bool.true_and]; exact Ev.now _
  · simp only [h, if_false, decide_false, Bool.false_and]; exact Ev.now _
theorem spec_WayIn_ev (o : Int) : Ev (fun k => spec_WayIn.f k n (mkE es) o) (decide (0 ≤ o) && decide (o < ((2 ^ es.length : Nat) : Int))) := by
  unfold spec_WayIn.f
  refine Ev.bind (spec_G hv) ?_
  have h2 := hv.two
  have hp := Nat.two_pow_pos es.length
  simp only [if_true, shl_len hv]
  generalize 2 ^ es.length = m at *
  have e : wrap64 ((m : Int) - 1) = (m : Int) - 1 := by unfold wrap64; omega
  simp only [e, spec_l6In_eq, Option.bind_some]
  refine Ev.eq_ (Ev.now _) ?_
  rw [Bool.eq_iff_iff]
  simp only [Bool.and_eq_true, decide_eq_true_eq]
  omega
end

section
variable {n : Nat} {es : List (Nat × Nat)} (hv : Val n es)
include hv
theorem impl_WayIn_yes {o : Nat} (ho : o < 2 ^ es.length) : Ev (fun k => impl_WayIn.f k n (mkE es) o) true :=
  Ev.eq_ (impl_WayIn_ev hv o) (by rw [Bool.and_eq_true, decide_eq_true_eq, decide_eq_true_eq]; omega)
theorem spec_WayIn_yes {o : Nat} (ho : o < 2 ^ es.length) : Ev (fun k => spec_WayIn.f k n (mkE es) o) true :=
  Ev.eq_ (spec_WayIn_ev hv o) (by rw [Bool.and_eq_true, decide_eq_true_eq, decide_eq_true_eq]; omega)
end
/-- Either the number is a direction of a valid graph, or both WayIn say no. -/
theorem way_split {a : Int} (ha : InR a) {l : List E} (hl : WfE l) (o : Int) : (∃ n es o', a = ((n : Nat) : Int) ∧ l = mkE es ∧ o = ((o' : Nat) : Int) ∧ Val n es ∧ o' < 2 ^ es.length) ∨ (Ev (fun k => impl_WayIn.f k a l o) false ∧ Ev (fun k => spec_WayIn.f k a l o) false) := by
  cases h : isG a l with
  | false => exact .inr ⟨impl_WayIn_no hl h o, spec_WayIn_no ha hl h o⟩
  | true =>
    obtain ⟨n, es, rfl, rfl, hv⟩ := isG_mk h
    by_cases ho : 0 ≤ o ∧ o < ((2 ^ es.length : Nat) : Int)
    · obtain ⟨o', rfl⟩ := Int.eq_ofNat_of_zero_le ho.1
      exact .inl ⟨n, es, o', rfl, rfl, rfl, hv, by omega⟩
    · have : (decide (0 ≤ o) && decide (o < ((2 ^ es.length : Nat) : Int))) = false := by
        rw [Bool.and_eq_false_iff, decide_eq_false_iff_not, decide_eq_false_iff_not]; omega
      exact .inr ⟨Ev.eq_ (impl_WayIn_ev hv o) this, Ev.eq_ (spec_WayIn_ev hv o) this⟩
end Go.Proofs.Ytkgfkhhjpipngaa.Q
