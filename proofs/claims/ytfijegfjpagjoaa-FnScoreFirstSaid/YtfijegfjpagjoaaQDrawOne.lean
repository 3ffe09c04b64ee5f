/- The draw of a graph and a direction. The code's elements are bytes. -/
import Derived.Test.YtfijegfjpagjoaaQDraw
import Derived.Test.YtfijegfjpagjoaaG19
namespace Go.Proofs.Ytfijegfjpagjoaa.Q
open Go.RowKit Go.Proofs.Ytfijegfjpagjoaa.G Go.Proofs.YtfijegfjpagjoaaW.PrintWords Go.Proofs.YtfijegfjpagjoaaW.PrintLast Go.Proofs.YtfijegfjpagjoaaW.PrintMore
set_option linter.unusedVariables false
set_option linter.unusedSimpArgs false
theorem l91Way_loop {b : List Int} (hb : Bytes b) (a : Int) (l : List E) (hl : l.length ≤ 1000) : ∀ (d i : Nat) (x : Int) (p : Nat), i + d = l.length → p + d ≤ 900000 → ∃ (o : Int) (q : Nat), Ev (fun k => spec_l91Way.l0 k x (i : Int) b (p : Int) a l) (o, (q : Int)) ∧ q ≤ p + d + 2
  | 0, i, x, p, h, hp => by
    obtain ⟨y, hy, _⟩ := pick_ev hb p (by omega) 40 (by omega)
    by_cases h0 : y = 0
    · obtain ⟨z, hz, _⟩ := pick_ev hb (p + 1) (by omega) 2 (by omega)
      refine ⟨wrap64 ((shl .i64 1 (l.length : Int)) - (wrap64 (z * (wrap64 (1 + (shl .i64 1 (l.length : Int))))))), p + 1 + 1, Ev.step (f := fun k => (spec_l6Rd_pick.f k b (p : Int) 40).bind fun t => if t.1 = 0 then (spec_l6Rd_pick.f k b t.2 2).bind fun u => some (wrap64 ((shl .i64 1 (l.length : Int)) - (wrap64 (u.1 * (wrap64 (1 + (shl .i64 1 (l.length : Int))))))), u.2) else some (x, t.2)) (fun k => ?_) (Ev.bind hy ?_), by omega⟩
      · simp only [spec_l91Way.l0]
        rw [if_neg (by omega)]
      · subst h0
        simp only [if_true]
        exact Ev.bind hz (Ev.now _)
    · refine ⟨x, p + 1, Ev.step (f := fun k => (spec_l6Rd_pick.f k b (p : Int) 40).bind fun t => if t.1 = 0 then (spec_l6Rd_pick.f k b t.2 2).bind fun u => some (wrap64 ((shl .i64 1 (l.length : Int)) - (wrap64 (u.1 * (wrap64 (1 + (shl .i64 1 (l.length : Int))))))), u.2) else some (x, t.2)) (fun k => ?_) (Ev.bind hy ?_), by omega⟩
      · simp only [spec_l91Way.l0]
        rw [if_neg (by omega)]
      · simp only [h0, if_false]
        exact Ev.now _
  | d + 1, i, x, p, h, hp => by
    obtain ⟨y, hy, _⟩ := pick_ev hb p (by omega) 2 (by omega)
    have e1 : wrap64 ((i : Int) + 1) = ((i + 1 : Nat) : Int) := by unfold wrap64; omega
    obtain ⟨o, q, ho, hq⟩ := l91Way_loop hb a l hl d (i + 1) (wrap64 (wrap64 (2 * x) + y)) (p + 1) (by omega) (by omega)
    refine ⟨o, q, Ev.step (f := fun k => (spec_l6Rd_pick.f k b (p : Int) 2).bind fun t => spec_l91Way.l0 k (wrap64 (wrap64 (2 * x) + t.1)) ((i + 1 : Nat) : Int) b t.2 a l) (fun k => ?_) (Ev.bind hy ho), by omega⟩
    simp only [spec_l91Way.l0]
    rw [if_pos (by omega), e1]
theorem l91Way_ev {b : List Int} (hb : Bytes b) {n : Nat} {l : List E} {p0 p : Nat} (hd : Drawn n l p0 p) (hp0 : p0 ≤ 100000) : ∃ (o : Int) (q : Nat), Ev (fun k => spec_l91Way.f k b (p : Int) (n : Int) l) (o, (q : Int)) ∧ q ≤ p + 42 := by
  obtain ⟨_, _, h3, _, h5⟩ := hd
  obtain ⟨o, q, h, hq⟩ := l91Way_loop hb (n : Int) l (by omega) l.length 0 0 p (by omega) (by omega)
  exact ⟨o, q, h, by omega⟩
end Go.Proofs.Ytfijegfjpagjoaa.Q
