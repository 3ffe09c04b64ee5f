/- The law FnPathAll returns true. The elements of the code are bytes. -/
import Derived.Test.YtfijegfjpagjoaaQTour
import Derived.Test.YtfijegfjpagjoaaQPAll
import Derived.Test.YtfijegfjpagjoaaQPLongI
import Derived.Test.YtfijegfjpagjoaaQTurn
import Derived.Test.YtfijegfjpagjoaaQPlay
import Derived.Test.YtfijegfjpagjoaaG24
import Derived.Test.YtfijegfjpagjoaaG26
namespace Go.Proofs.Ytfijegfjpagjoaa.Q
open Go.RowKit Go.Proofs.Ytfijegfjpagjoaa.G Go.Proofs.YtfijegfjpagjoaaW.PrintWords Go.Proofs.YtfijegfjpagjoaaW.PrintLast Go.Proofs.YtfijegfjpagjoaaW.PrintMore
set_option linter.unusedVariables false
set_option linter.unusedSimpArgs false
def redei (n o : Nat) : Bool := Nat.beq (fullN (nxt n (arcs (pairs n) o)) n % 2) 1
theorem redei_1 : below (redei 1) 1 = true := by decide +kernel
theorem redei_2 : below (redei 2) 2 = true := by decide +kernel
theorem redei_3 : below (redei 3) 8 = true := by decide +kernel
theorem redei_4 : below (redei 4) 64 = true := by decide +kernel
theorem redei_5 : below (redei 5) 1024 = true := by decide +kernel
theorem redei_all {n : Nat} {es : List (Nat × Nat)} (hv : Val n es) (hw : wholeB n es = true) {o : Nat} (ho : o < 2 ^ es.length) : fullN (nxt n (arcs es o)) n % 2 = 1 := by
  have h := tour_of redei_1 redei_2 redei_3 redei_4 redei_5 hv hw ho
  have he := whole_pairs hv hw
  subst he
  unfold redei at h
  exact Nat.eq_of_beq_eq_true h
theorem impl_WayTurned_ev {n : Nat} {es : List (Nat × Nat)} (hv : Val n es) {o : Nat} (ho : o < 2 ^ es.length) : Ev (fun k => impl_WayTurned.f k n (mkE es) o) (((2 ^ es.length - 1 - o : Nat) : Int), true) := by
  unfold impl_WayTurned.f
  refine Ev.bind (impl_WayIn_yes hv ho) ?_
  simp only [if_true, impl_turned_eq' hv ho, Option.bind_some]
  exact Ev.now _
end Go.Proofs.Ytfijegfjpagjoaa.Q
namespace Go.Proofs.Ytfijegfjpagjoaa.Pure
open Go.RowKit Go.Proofs.Ytfijegfjpagjoaa.G Go.Proofs.Ytfijegfjpagjoaa.Q Go.Proofs.YtfijegfjpagjoaaW.PrintWords Go.Proofs.YtfijegfjpagjoaaW.PrintLast Go.Proofs.YtfijegfjpagjoaaW.PrintMore
set_option linter.unusedVariables false
set_option linter.unusedSimpArgs false
theorem FnPathAll : laws_FnPathAll.Pure := by
  intro code _ _ hcode
  refine Ev.rounds (g := fun k => laws_FnPathAll.f k code) ?_
  obtain ⟨a, l, o, hg, ha, hl⟩ := l92Play_ev hcode
  have hD : Ev (fun k => spec_DrawPathAll.f k code) (a, l, o) := by
    unfold spec_DrawPathAll.f
    exact Ev.bind hg (Ev.now _)
  unfold laws_FnPathAll.f
  by_cases hc : (code.length : Int) > 1048576
  · simp only [hc, if_true]; exact Ev.now _
  · simp only [hc, if_false]
    refine Ev.bind hD ?_
    rcases way_split ha hl o with ⟨n, es, o', rfl, rfl, rfl, hv, ho⟩ | ⟨h1, h2⟩
    · have h5 := hv.le
      have hp := hv.pos
      have hT := turn_lt es.length o' ho
      have hrev := fullN_rev h5 (turn_bits hv ho)
      have hpos := fullN_pos (s := nxt n (arcs es o')) h5 hp
      have hle := longP_len hv o'
      have hodd := fun hw => redei_all hv hw ho
      have hB := fullN_le (nxt n (arcs es o')) h5
      refine Ev.bind (impl_PathAll_ev hv ho) (Ev.bind (spec_PathAll_ev hv ho) ?_)
      simp only [bne_self_eq_false, Bool.false_eq_true, if_false, if_true, Bool.not_true]
      refine Ev.step (fun k => by simp only [laws_FnPathAll.j0, Bool.false_eq_true, if_false]; rfl) ?_
      refine Ev.bind (impl_WayTurned_ev hv ho) (Ev.bind (impl_PathAll_ev hv hT) (Ev.bind (impl_PathLongest_ev hv ho) ?_))
      rw [hrev]
      generalize fullN (nxt n (arcs es o')) n = q at *
      generalize (longP (nxt n (arcs es o')) n).length = t at *
      have hcond : (decide (((q : Nat) : Int) > 0) == (((t : Nat) : Int) == ((n : Nat) : Int))) = true := by
        rw [beq_iff_eq, Bool.eq_iff_iff, decide_eq_true_eq, beq_iff_eq]
        constructor
        · intro h; have := hpos.1 (by omega); omega
        · intro h; have := hpos.2 (by omega); omega
      simp only [if_true, hcond]
      refine Ev.bind (impl_PathWhole_ev hv) ?_
      cases hw : wholeB n es with
      | false => simp only [Bool.false_eq_true, if_false]; exact Ev.now _
      | true =>
        simp only [if_true]
        refine Ev.eq_ (Ev.now _) ?_
        have := hodd hw
        rw [beq_iff_eq, show (2 : Int) = ((2 : Nat) : Int) from rfl, ← Int.ofNat_tmod]
        omega
    · refine Ev.bind (impl_PathAll_no h1) (Ev.bind (spec_PathAll_no h2) ?_)
      simp only [bne_self_eq_false, Bool.false_eq_true, if_false, if_true, Bool.not_false]
      exact Ev.step (f := fun _ => some true) (fun k => by simp [laws_FnPathAll.j0]) (Ev.now _)
end Go.Proofs.Ytfijegfjpagjoaa.Pure
