/- The law FnExactScoreFirst returns true: for all arguments, the program's ScoreFirst tells what the reference's tells. The numbers are of 64 bits. -/
import Derived.Test.YtdgnnbbjehdogaaQSFirst
import Derived.Test.YtdgnnbbjehdogaaQLawS
import Derived.Test.YtdgnnbbjehdogaaG34
namespace Go.Proofs.Ytdgnnbbjehdogaa.Q
open Go.RowKit Go.Proofs.Ytdgnnbbjehdogaa.G Go.Proofs.YtdgnnbbjehdogaaW.PrintWords Go.Proofs.YtdgnnbbjehdogaaW.PrintLast Go.Proofs.YtdgnnbbjehdogaaW.PrintMore
theorem toIntS_loop (l : List Int) (hl : l.length ≤ 1048576) : ∀ (d i : Nat) (s : List Int), i + d = l.length → s.length = d → Ev (fun k => laws_toIntS.l0 k l (l.take i ++ s) (i : Int)) l
  | 0, i, s, h, hs => by
    have : s = [] := List.length_eq_zero_iff.1 hs
    subst this
    refine Ev.step (f := fun _ => some (l.take i ++ [])) (fun k => ?_) (Ev.eq_ (Ev.now _) (by rw [List.append_nil, List.take_of_length_le (by omega)]))
    simp only [laws_toIntS.l0]
    rw [if_neg (by omega)]
  | d + 1, i, s, h, hs => by
    have e1 : wrap64 ((i : Int) + 1) = ((i + 1 : Nat) : Int) := by unfold wrap64; omega
    have hi : i < l.length := by omega
    cases s with
    | nil => simp at hs
    | cons x s =>
      have hs' : s.length = d := by simpa using hs
      have htl : (l.take i).length = i := by rw [List.length_take]; omega
      have hr : rd l (i : Int) = l[i] := by unfold rd; rw [Int.toNat_natCast, List.getD_eq_getElem?_getD, List.getElem?_eq_getElem hi]; rfl
      have e3 : (l.take i ++ x :: s).set i l[i] = l.take (i + 1) ++ s := by
        rw [List.set_append_right _ _ (by omega), htl, Nat.sub_self, List.set_cons_zero, List.take_add_one, List.getElem?_eq_getElem hi, List.append_assoc]; rfl
      refine Ev.step (fun k => ?_) (toIntS_loop l hl d (i + 1) s (by omega) hs')
      simp only [laws_toIntS.l0]
      rw [if_pos (by omega), if_pos (Int.natCast_nonneg i), if_pos (by simp; omega), Int.toNat_natCast, hr, e1, e3]
theorem toIntS_ev (l : List Int) (hl : l.length ≤ 1048576) : Ev (fun k => laws_toIntS.f k l) l := by
  have h := toIntS_loop l hl l.length 0 (List.replicate l.length 0) (by omega) (by simp)
  rw [List.take_zero, List.nil_append] at h
  refine Ev.congr (fun k => ?_) h
  unfold laws_toIntS.f
  rw [if_pos (Int.natCast_nonneg _), if_pos (by omega), Int.toNat_natCast]
  rfl
end Go.Proofs.Ytdgnnbbjehdogaa.Q
namespace Go.Proofs.Ytdgnnbbjehdogaa.Pure
open Go.RowKit Go.Proofs.Ytdgnnbbjehdogaa.G Go.Proofs.Ytdgnnbbjehdogaa.Q Go.Proofs.YtdgnnbbjehdogaaW.PrintWords
theorem FnExactScoreFirst : ∀ (a0_0 : Int) (l0_1 : List S78) (l1 : List Int), (Lit.int .i64 a0_0).wf = true → l0_1.length ≤ maxLen → (∀ e ∈ l0_1, (Lit.int .i64 e.f0).wf = true ∧ (Lit.int .i64 e.f1).wf = true) → l1.length ≤ maxLen → l1.length * 8 ≤ 140737488351232 → (∀ x ∈ l1, (Lit.int .i64 x).wf = true) → ∃ k, laws_FnExactScoreFirst.f k a0_0 l0_1 l1 = some true := by
  intro a l row wa hl he _ _ _
  refine Ev.rounds (g := fun k => laws_FnExactScoreFirst.f k a l row) ?_
  obtain ⟨t, ht, hz⟩ := szGraph_eq a l hl
  unfold laws_FnExactScoreFirst.f
  by_cases hrow : (row.length : Int) > 1048576
  · simp only [hrow, if_true]; exact Ev.now _
  · simp only [hrow, if_false, ht, Option.bind_some]
    rcases hz with hz | ⟨hz, h20⟩
    · simp only [hz, if_true]; exact Ev.now _
    · simp only [hz, if_false]
      have hr20 : row.length ≤ 1048576 := by omega
      obtain ⟨r, hi, hs⟩ := ScoreFirst_both (InR.of_wf wa) (conv_wf h20 he) row hr20
      have hI := toIntS_ev row hr20
      refine Ev.bind (toGraph_ev a l h20) (Ev.bind hI (Ev.bind hs (Ev.bind (toGraph_ev a l h20) (Ev.bind hI (Ev.bind hi ?_)))))
      simp only [if_true, bne_self_eq_false]
      refine Ev.step (f := fun k => (laws_toGraph.f k a l).bind fun b => (laws_eqGraph.f k a (l.map conv) b.1 b.2).bind fun t => if t = true then ((laws_toIntS.f k row).bind fun t => (laws_eqIntS.f k row t).bind fun u => if u = true then some true else some false) else some false) (fun k => by simp only [laws_FnExactScoreFirst.j0, Bool.false_eq_true, if_false]) ?_
      refine Ev.bind (toGraph_ev a l h20) (Ev.bind (eqGraph_ev a _ (by simpa using h20)) ?_)
      simp only [if_true]
      refine Ev.bind hI (Ev.bind (eqIntS_ev row hr20) ?_)
      simp only [if_true]
      exact Ev.now _
end Go.Proofs.Ytdgnnbbjehdogaa.Pure
