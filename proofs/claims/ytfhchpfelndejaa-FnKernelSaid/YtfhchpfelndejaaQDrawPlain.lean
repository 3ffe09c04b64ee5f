/- The draw of a direction that is plain more often. The code's elements are bytes. -/
import Derived.Test.YtfhchpfelndejaaQDrawOne
import Derived.Test.YtfhchpfelndejaaQNext
import Derived.Test.YtfhchpfelndejaaG30
namespace Go.Proofs.Ytfhchpfelndejaa.Q
open Go.RowKit Go.Proofs.Ytfhchpfelndejaa.G Go.Proofs.YtfhchpfelndejaaW.PrintWords Go.Proofs.YtfhchpfelndejaaW.PrintLast Go.Proofs.YtfhchpfelndejaaW.PrintMore
set_option linter.unusedVariables false
set_option linter.unusedSimpArgs false
theorem l91Plain_l1 {n : Nat} {es : List (Nat × Nat)} (hv : Val n es) (b : List Int) (p : Nat) (ws : List Int) (hw : ws.length = n) : ∀ (d i : Nat) (x : Int), i + d = es.length → ∃ o : Int, Ev (fun k => spec_l91Plain.l1 k x ws (i : Int) b (p : Int) n (mkE es)) (o, (p : Int))
  | 0, i, x, h => by
    refine ⟨x, Ev.step (f := fun _ => some (x, (p : Int))) (fun k => ?_) (Ev.now _)⟩
    simp only [spec_l91Plain.l1]
    rw [if_neg (by rw [mkE_length]; omega)]
  | d + 1, i, x, h => by
    have hi : i < es.length := by omega
    have hl := hv.len
    have e1 : wrap64 ((i : Int) + 1) = ((i + 1 : Nat) : Int) := wrap_add _ (lt62 (by omega))
    have hb := hv.lt _ (List.getElem_mem hi)
    have hg := rdE_mk (es := es) i hi
    generalize es[i] = e at hb hg
    by_cases hc : rd ws (e.1 : Int) > rd ws (e.2 : Int)
    · obtain ⟨o, ho⟩ := l91Plain_l1 hv b p ws hw d (i + 1) (Go.bits .or .i64 x (shl .i64 1 (i : Int))) (by omega)
      refine ⟨o, Ev.step (fun k => ?_) ho⟩
      simp only [spec_l91Plain.l1]
      rw [if_pos (by rw [mkE_length]; omega), if_pos (Int.natCast_nonneg i), hg]
      simp only
      rw [if_pos (Int.natCast_nonneg _), if_pos (by omega), if_pos (Int.natCast_nonneg _), if_pos (by omega), if_pos hc, e1]
    · obtain ⟨o, ho⟩ := l91Plain_l1 hv b p ws hw d (i + 1) x (by omega)
      refine ⟨o, Ev.step (fun k => ?_) ho⟩
      simp only [spec_l91Plain.l1]
      rw [if_pos (by rw [mkE_length]; omega), if_pos (Int.natCast_nonneg i), hg]
      simp only
      rw [if_pos (Int.natCast_nonneg _), if_pos (by omega), if_pos (Int.natCast_nonneg _), if_pos (by omega), if_neg hc, e1]
theorem l91Plain_l0 {n : Nat} {es : List (Nat × Nat)} (hv : Val n es) {b : List Int} (hB : Bytes b) : ∀ (d i : Nat) (ws : List Int) (p : Nat), i + d = n → ws.length = i → p + d ≤ 900000 → ∃ (o : Int) (q : Nat), Ev (fun k => spec_l91Plain.l0 k ws (i : Int) b (p : Int) n (mkE es)) (o, (q : Int)) ∧ q ≤ p + d
  | 0, i, ws, p, h, hw, hp => by
    obtain ⟨o, ho⟩ := l91Plain_l1 hv b p ws (by omega) es.length 0 0 (by omega)
    refine ⟨o, p, Ev.step (fun k => ?_) ho, by omega⟩
    simp only [spec_l91Plain.l0]
    rw [if_neg (by omega)]
    rfl
  | d + 1, i, ws, p, h, hw, hp => by
    have h5 := hv.le
    have e1 : wrap64 ((i : Int) + 1) = ((i + 1 : Nat) : Int) := wrap_add _ (lt62 (by omega))
    obtain ⟨x, hx, _⟩ := pick_ev hB p (by omega) 8 (by omega)
    obtain ⟨o, q, ho, hq⟩ := l91Plain_l0 hv hB d (i + 1) (ws ++ [x]) (p + 1) (by omega) (by simp [hw]) (by omega)
    have h17 : ws.length < 17592186044416 := by omega
    refine ⟨o, q, Ev.step (f := fun k => (spec_l6Rd_pick.f k b (p : Int) 8).bind fun t => spec_l91Plain.l0 k (ws ++ [t.1]) ((i + 1 : Nat) : Int) b t.2 n (mkE es)) (fun k => ?_) (Ev.bind hx ho), by omega⟩
    simp only [spec_l91Plain.l0]
    rw [if_pos (by omega), e1]
    simp only [h17, if_true]
theorem l91Plain_ev {b : List Int} (hB : Bytes b) {n : Nat} {l : List E} {p0 p : Nat} (hd : Drawn n l p0 p) (hp0 : p0 ≤ 100000) : ∃ (o : Int) (q : Nat), Ev (fun k => spec_l91Plain.f k b (p : Int) (n : Int) l) (o, (q : Int)) ∧ q ≤ p + 50 := by
  obtain ⟨o, q, hw, hq⟩ := l91Way_ev hB hd hp0
  have hpq := hd.2.2.2.2
  rcases way_split hd.inR hd.wf o with ⟨m, es, o', hm, rfl, rfl, hv, ho⟩ | ⟨h1, h2⟩
  · have hmn : n = m := by omega
    subst hmn
    have h5 := hv.le
    obtain ⟨x, hx, _⟩ := pick_ev hB q (by omega) 5 (by omega)
    by_cases h0 : x = 0
    · refine ⟨(o' : Int), q + 1, ?_, by omega⟩
      unfold spec_l91Plain.f
      refine Ev.bind hw (Ev.bind (spec_WayIn_yes hv ho) ?_)
      simp only [if_true]
      refine Ev.bind hx ?_
      subst h0
      exact Ev.step (f := fun _ => some ((o' : Int), ((q + 1 : Nat) : Int))) (fun k => by simp [spec_l91Plain.j0]) (Ev.now _)
    · obtain ⟨r, q2, hr, hq2⟩ := l91Plain_l0 hv hB n 0 [] (q + 1) (by omega) rfl (by omega)
      refine ⟨r, q2, ?_, by omega⟩
      unfold spec_l91Plain.f
      refine Ev.bind hw (Ev.bind (spec_WayIn_yes hv ho) ?_)
      simp only [if_true]
      refine Ev.bind hx ?_
      refine Ev.step (fun k => ?_) hr
      have : (x == 0) = false := by rw [beq_eq_false_iff_ne]; exact h0
      simp only [spec_l91Plain.j0, this, Bool.false_eq_true, if_false]
      rfl
  · refine ⟨o, q, ?_, by omega⟩
    unfold spec_l91Plain.f
    refine Ev.bind hw (Ev.bind h2 ?_)
    simp only [Bool.false_eq_true, if_false]
    exact Ev.step (f := fun _ => some (o, (q : Int))) (fun k => by simp [spec_l91Plain.j0]) (Ev.now _)
end Go.Proofs.Ytfhchpfelndejaa.Q
