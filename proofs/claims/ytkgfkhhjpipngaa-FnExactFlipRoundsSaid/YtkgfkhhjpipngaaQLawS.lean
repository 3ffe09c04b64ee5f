/- What an exact law of a list does with the list: it holds it against another one, and marks it. The list has at most a million members. -/
import Derived.Test.YtkgfkhhjpipngaaQLaw
import Derived.Test.YtkgfkhhjpipngaaG39
namespace Go.Proofs.Ytkgfkhhjpipngaa.Q
open Go.RowKit Go.Proofs.Ytkgfkhhjpipngaa.G Go.Proofs.YtkgfkhhjpipngaaW.PrintWords Go.Proofs.YtkgfkhhjpipngaaW.PrintLast Go.Proofs.YtkgfkhhjpipngaaW.PrintMore
set_option linter.unusedVariables false
set_option linter.unusedSimpArgs false
theorem eqIntS_loop (l : List Int) (hl : l.length ≤ 1048576) : ∀ (d i : Nat), i + d = l.length → Ev (fun k => laws_eqIntS.l0 k l l (i : Int)) true
  | 0, i, h => by
    refine Ev.step (f := fun _ => some true) (fun k => ?_) (Ev.now _)
    simp only [laws_eqIntS.l0]
    rw [if_neg (by omega)]
  | d + 1, i, h => by
    have e1 : wrap64 ((i : Int) + 1) = ((i + 1 : Nat) : Int) := by unfold wrap64; omega
    refine Ev.step (fun k => ?_) (eqIntS_loop l hl d (i + 1) (by omega))
    simp only [laws_eqIntS.l0]
    rw [if_pos (by omega), if_pos (by omega), if_pos (by omega), e1]; exact if_pos trivial
theorem eqIntS_ev (l : List Int) (hl : l.length ≤ 1048576) : Ev (fun k => laws_eqIntS.f k l l) true := by
  unfold laws_eqIntS.f
  simp only [if_true]
  exact eqIntS_loop l hl l.length 0 (by omega)
def marks : Nat → Nat → List Int
  | _, 0 => []
  | a, d + 1 => (a : Int) :: marks (a + 1) d
theorem marks_length : ∀ d a, (marks a d).length = d
  | 0, _ => rfl
  | d + 1, a => by simp [marks, marks_length d]
theorem marks_get : ∀ d a i, i < d → (marks a d).getD i 0 = ((a + i : Nat) : Int)
  | d + 1, a, 0, h => by simp [marks]
  | d + 1, a, i + 1, h => by
    simp only [marks, List.getD_cons_succ]
    rw [marks_get d (a + 1) i (by omega)]
    congr 1; omega
theorem markIntS_loop (m : Nat) (hm : m ≤ 1048576) : ∀ (d i : Nat) (p s : List Int), i + d = m → p.length = i → s.length = d → Ev (fun k => laws_markIntS.l0 k (p ++ s) ((i + 1 : Nat) : Int) (i : Int)) (((m + 1 : Nat) : Int), p ++ marks (i + 1) d)
  | 0, i, p, s, h, hp, hs => by
    have : s = [] := List.length_eq_zero_iff.1 hs
    subst this
    refine Ev.step (f := fun _ => some (((i + 1 : Nat) : Int), p ++ [])) (fun k => ?_) (Ev.eq_ (Ev.now _) (by simp [marks]; omega))
    simp only [laws_markIntS.l0]
    rw [if_neg (by simp; omega)]
  | d + 1, i, p, s, h, hp, hs => by
    have e1 : wrap64 ((i : Int) + 1) = ((i + 1 : Nat) : Int) := by unfold wrap64; omega
    have e2 : wrap64 (((i + 1 : Nat) : Int) + 1) = ((i + 1 + 1 : Nat) : Int) := by unfold wrap64; omega
    cases s with
    | nil => simp at hs
    | cons x s =>
      have hs' : s.length = d := by simpa using hs
      have ih := markIntS_loop m hm d (i + 1) (p ++ [((i + 1 : Nat) : Int)]) s (by omega) (by simp [hp]) hs'
      have e3 : (p ++ x :: s).set i ((i + 1 : Nat) : Int) = (p ++ [((i + 1 : Nat) : Int)]) ++ s := by
        rw [List.set_append_right _ _ (by omega), hp, Nat.sub_self, List.set_cons_zero]; simp
      refine Ev.step (fun k => ?_) (Ev.eq_ ih (by simp [marks]))
      simp only [laws_markIntS.l0]
      rw [if_pos (by simp; omega), if_pos (Int.natCast_nonneg i), Int.toNat_natCast, e1, e2, e3]
theorem heldIntS_loop (l : List Int) (hl : l.length ≤ 1048576) (hg : ∀ i, i < l.length → l.getD i 0 = ((1 + i : Nat) : Int)) : ∀ (d i : Nat), i + d = l.length → Ev (fun k => laws_heldIntS.l0 k l ((i + 1 : Nat) : Int) (i : Int)) ((l.length + 1 : Nat) : Int)
  | 0, i, h => by
    refine Ev.step (f := fun _ => some ((i + 1 : Nat) : Int)) (fun k => ?_) (Ev.eq_ (Ev.now _) (by congr 1; omega))
    simp only [laws_heldIntS.l0]
    rw [if_neg (by omega)]
  | d + 1, i, h => by
    have e1 : wrap64 ((i : Int) + 1) = ((i + 1 : Nat) : Int) := by unfold wrap64; omega
    have e2 : wrap64 (((i + 1 : Nat) : Int) + 1) = ((i + 1 + 1 : Nat) : Int) := by unfold wrap64; omega
    have hr : rd l (i : Int) = ((i + 1 : Nat) : Int) := by
      have := hg i (by omega)
      rw [show (1 + i) = i + 1 by omega] at this
      rw [← this]
      simp [rd]
    refine Ev.step (fun k => ?_) (heldIntS_loop l hl hg d (i + 1) (by omega))
    simp only [laws_heldIntS.l0]
    rw [if_pos (by omega), if_pos (Int.natCast_nonneg i), if_pos hr, e1, e2]
theorem markIntS_ev (l : List Int) (hl : l.length ≤ 1048576) : Ev (fun k => laws_markIntS.f k l 1) (((l.length + 1 : Nat) : Int), marks 1 l.length) :=
  markIntS_loop l.length hl l.length 0 [] l (by omega) rfl rfl
theorem heldIntS_ev (m : Nat) (hm : m ≤ 1048576) : Ev (fun k => laws_heldIntS.f k (marks 1 m) 1) ((m + 1 : Nat) : Int) := by
  have hl := marks_length m 1
  have h := heldIntS_loop (marks 1 m) (by omega) (fun i hi => marks_get m 1 i (by omega)) m 0 (by omega)
  rw [hl] at h
  exact h
theorem markEdgeS_loop (m : Nat) (hm : m ≤ 1048576) : ∀ (d i a : Nat) (s : List E), i + d = m → s.length = m → a ≤ 2 * i + 1 → ∃ r, Ev (fun k => laws_markEdgeS.l0 k s (a : Int) (i : Int)) r ∧ 0 ≤ r.1
  | 0, i, a, s, h, hs, ha => by
    refine ⟨((a : Int), s), Ev.step (f := fun _ => some ((a : Int), s)) (fun k => ?_) (Ev.now _), Int.natCast_nonneg a⟩
    simp only [laws_markEdgeS.l0]
    rw [if_neg (by omega)]
  | d + 1, i, a, s, h, hs, ha => by
    have e1 : wrap64 ((i : Int) + 1) = ((i + 1 : Nat) : Int) := by unfold wrap64; omega
    have e2 : wrap64 ((a : Int) + 1) = ((a + 1 : Nat) : Int) := by unfold wrap64; omega
    have e3 : wrap64 (((a + 1 : Nat) : Int) + 1) = ((a + 1 + 1 : Nat) : Int) := by unfold wrap64; omega
    obtain ⟨r, hr, h0⟩ := markEdgeS_loop m hm d (i + 1) (a + 1 + 1) (((s.set i ⟨(a : Int), (rd_T68 s (i : Int)).f1⟩)).set i ⟨(rd_T68 (s.set i ⟨(a : Int), (rd_T68 s (i : Int)).f1⟩) (i : Int)).f0, ((a + 1 : Nat) : Int)⟩) (by omega) (by simp [hs]) (by omega)
    refine ⟨r, Ev.step (fun k => ?_) hr, h0⟩
    simp only [laws_markEdgeS.l0]
    rw [if_pos (by omega), if_pos (Int.natCast_nonneg i), Int.toNat_natCast]
    simp only [Option.bind_some]
    rw [e1, e2, e3]
theorem markGraph_ev (a : Int) (l : List E) (hl : l.length ≤ 1048576) : ∃ r, Ev (fun k => laws_markGraph.f k a l 1) r ∧ ¬ r.1 < 0 := by
  obtain ⟨r, hr, h0⟩ := markEdgeS_loop l.length hl l.length 0 1 l (by omega) rfl (by omega)
  refine ⟨(r.1, r.2), ?_, by simp only; omega⟩
  unfold laws_markGraph.f
  exact Ev.bind hr (Ev.now _)
end Go.Proofs.Ytkgfkhhjpipngaa.Q
