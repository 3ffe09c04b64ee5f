/- The program's list of blocks: the blocks of the least nodes. The graph is valid. -/
import Derived.Test.YtfijegfjpagjoaaQBlk
import Derived.Test.YtfijegfjpagjoaaQKers0
import Derived.Test.YtfijegfjpagjoaaG39
namespace Go.Proofs.Ytfijegfjpagjoaa.Q
open Go.RowKit Go.Proofs.Ytfijegfjpagjoaa.G Go.Proofs.YtfijegfjpagjoaaW.PrintWords Go.Proofs.YtfijegfjpagjoaaW.PrintLast Go.Proofs.YtfijegfjpagjoaaW.PrintMore
set_option linter.unusedVariables false
set_option linter.unusedSimpArgs false
set_option linter.unusedSectionVars false
section
variable {n : Nat} (h5 : n ≤ 5) {s t : List Nat} (hs : Sets n s) (ht : Sets n t) (hr : ∀ i w, (s.getD i 0).testBit w = (t.getD w 0).testBit i) (hlt : ∀ i w, (s.getD i 0).testBit w = true → i < n ∧ w < n)
include h5 hs ht hr hlt
theorem blocks_loop : ∀ (d i m : Nat) (acc : List Nat), i + d = n → acc.length ≤ i → m < 32 → (∀ w, m.testBit w = true ↔ ∃ u, u < i ∧ lstB s t u = true ∧ (blk s t u).testBit w = true) →
    Ev (fun k => impl_blocksOf.l0 k (I s) (I t) (I acc) (m : Int) (n : Int) (i : Int)) (I (acc ++ (sel (lstB s t) i d).map (blk s t)))
  | 0, i, m, acc, hi, ha, hm, hM => by
    refine Ev.step (f := fun _ => some (I acc)) (fun k => ?_) (Ev.eq_ (Ev.now _) (by simp [sel]))
    simp only [impl_blocksOf.l0]
    rw [if_neg (by omega)]
  | d + 1, i, m, acc, hi, ha, hm, hM => by
    have hin : i < n := by omega
    have hi5 : i < 5 := by omega
    have e1 : wrap64 ((i : Int) + 1) = ((i + 1 : Nat) : Int) := wrap_add _ (by omega)
    have hbit := bit_nat m i (lt62 hm) (by omega)
    have hml : m.testBit i = !lstB s t i := by
      cases hl : lstB s t i with
      | true =>
        rw [Bool.not_true, Bool.eq_false_iff]
        intro h
        obtain ⟨u, h1, h2, h3⟩ := (hM i).1 h
        rw [lst_not h5 hs ht hr hlt (by omega) h1 h3] at hl
        exact absurd hl (by decide)
      | false =>
        rw [Bool.not_false, hM]
        obtain ⟨u, h1, h2, h3⟩ := lst_ex h5 hs ht hr hlt hin
        refine ⟨u, ?_, h2, h3⟩
        by_cases e : u = i
        · subst e; rw [h2] at hl; exact absurd hl (by decide)
        · omega
    rw [hml] at hbit
    cases hl : lstB s t i with
    | true =>
      rw [hl] at hbit
      have hb32 := blk_lt h5 hs ht hr hlt (v := i) hin
      have ih := blocks_loop d (i + 1) (m ||| blk s t i) (acc ++ [blk s t i]) (by omega) (by simp; omega) (or_lt_32 hm hb32) (fun w => by
        rw [Nat.testBit_or, Bool.or_eq_true, hM]
        constructor
        · rintro (⟨u, h1, h2⟩ | h)
          · exact ⟨u, by omega, h2⟩
          · exact ⟨i, by omega, hl, h⟩
        · rintro ⟨u, h1, h2, h3⟩
          by_cases e : u = i
          · subst e; exact .inr h3
          · exact .inl ⟨u, by omega, h2, h3⟩)
      have e2 : I acc ++ [((blk s t i : Nat) : Int)] = I (acc ++ [blk s t i]) := by simp [I]
      have hand : Go.bits .and .i64 ((reach s i : Nat) : Int) ((reach t i : Nat) : Int) = ((blk s t i : Nat) : Int) := and_nat _ _ (lt62 (reach_lt hs hi5)) (lt62 (reach_lt ht hi5))
      have hlen : (I acc).length < 17592186044416 := by rw [I_length]; omega
      refine Ev.step (f := fun k => (impl_reachOf.f k (I s) (i : Int)).bind fun a => ((impl_reachOf.f k (I t) (i : Int)).bind fun b => (if (I acc).length < 17592186044416 then impl_blocksOf.l0 k (I s) (I t) (I acc ++ [Go.bits .and .i64 a b]) (Go.bits .or .i64 (m : Int) (Go.bits .and .i64 a b)) (n : Int) ((i + 1 : Nat) : Int) else none))) (fun k => ?_) (Ev.bind (impl_reach_ev h5 hs hin) (Ev.bind (impl_reach_ev h5 ht hin) ?_))
      · simp only [impl_blocksOf.l0]
        rw [if_pos (by omega), if_pos (Int.natCast_nonneg i), hbit, if_pos (by decide), e1]
      · simp only [if_pos hlen, hand, or_nat m _ (lt62 hm) (lt62 hb32), e2]
        refine Ev.eq_ ih ?_
        rw [show sel (lstB s t) i (d + 1) = i :: sel (lstB s t) (i + 1) d by simp [sel, hl], List.map_cons, List.append_assoc]
        rfl
    | false =>
      rw [hl] at hbit
      have ih := blocks_loop d (i + 1) m acc (by omega) (by omega) hm (fun w => by
        rw [hM]
        constructor
        · rintro ⟨u, h1, h2⟩; exact ⟨u, by omega, h2⟩
        · rintro ⟨u, h1, h2, h3⟩
          by_cases e : u = i
          · subst e; rw [h2] at hl; exact absurd hl (by decide)
          · exact ⟨u, by omega, h2, h3⟩)
      refine Ev.step (fun k => ?_) (Ev.eq_ ih (by rw [show sel (lstB s t) i (d + 1) = sel (lstB s t) (i + 1) d by simp [sel, hl]]))
      simp only [impl_blocksOf.l0]
      rw [if_pos (by omega), if_pos (Int.natCast_nonneg i), hbit, if_neg (by decide), e1]
end
/-- The blocks of a direction. -/
def blocks (n : Nat) (s t : List Nat) : List Nat := (sel (lstB s t) 0 n).map (blk s t)
section
variable {n : Nat} {es : List (Nat × Nat)} (hv : Val n es)
include hv
theorem nxt_hlt (o : Nat) : ∀ i w, ((nxt n (arcs es o)).getD i 0).testBit w = true → i < n ∧ w < n := by
  intro i w h
  rw [nxt_adj (fun e he => (arcs_mem hv.lt e he).1), adj_iff] at h
  exact ⟨(arcs_mem hv.lt _ h).1, (arcs_mem hv.lt _ h).2.1⟩
theorem impl_blocksOf_ev {o : Nat} (ho : o < 2 ^ es.length) : Ev (fun k => impl_blocksOf.f k n (mkE es) o) (I (blocks n (nxt n (arcs es o)) (nxt n (arcs es (2 ^ es.length - 1 - o))))) := by
  have h5 := hv.le
  have hT := turn_lt es.length o ho
  unfold impl_blocksOf.f
  refine Ev.bind (impl_nextOf_ev hv ho) ?_
  simp only [impl_turned_eq' hv ho, Option.bind_some]
  refine Ev.bind (impl_nextOf_ev hv hT) ?_
  exact blocks_loop h5 (nxt_sets hv o) (nxt_sets hv _) (turn_bits hv ho) (nxt_hlt hv o) n 0 0 [] (by omega) (by simp) (by decide) (fun w => by simp)
end
end Go.Proofs.Ytfijegfjpagjoaa.Q
