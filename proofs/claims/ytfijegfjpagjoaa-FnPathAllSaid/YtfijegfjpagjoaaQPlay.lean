/- The draw of a tournament and a direction. The code's elements are bytes. -/
import Derived.Test.YtfijegfjpagjoaaQDrawOne
import Derived.Test.YtfijegfjpagjoaaG24
namespace Go.Proofs.Ytfijegfjpagjoaa.Q
open Go.RowKit Go.Proofs.Ytfijegfjpagjoaa.G Go.Proofs.YtfijegfjpagjoaaW.PrintWords Go.Proofs.YtfijegfjpagjoaaW.PrintLast Go.Proofs.YtfijegfjpagjoaaW.PrintMore
set_option linter.unusedVariables false
set_option linter.unusedSimpArgs false
def Tri (g : Nat → Option (Int × List E × Int)) : Prop := ∃ (a : Int) (l : List E) (o : Int), Ev g (a, l, o) ∧ InR a ∧ WfE l
theorem Tri.step {f g : Nat → Option (Int × List E × Int)} (h : ∀ k, g (k + 1) = f k) (t : Tri f) : Tri g := by
  obtain ⟨a, l, o, h1, h2⟩ := t
  exact ⟨a, l, o, Ev.step h h1, h2⟩
theorem play_end {b : List Int} (hb : Bytes b) (n : Nat) (hn : 1 ≤ n ∧ n ≤ 5) (a : Nat) (ha : ¬ a < n) (l : List E) (hl : l.length ≤ 40) (hs : Small l) (p : Nat) (hp : p ≤ 1000) :
    Tri (fun k => spec_l92Play.l0 k (n : Int) (a : Int) b (p : Int) (n : Int) l) := by
  obtain ⟨x, hx, _⟩ := pick_ev hb p (by omega) 8 (by omega)
  have pre : ∀ k, spec_l92Play.l0 (k + 1) (n : Int) (a : Int) b (p : Int) (n : Int) l = (spec_l6Rd_pick.f k b (p : Int) 8).bind fun t => if t.1 = 0 then ((spec_l91Graph.f k b t.2).bind fun u => ((spec_l91Way.f k b u.2.2 u.1 u.2.1).bind fun v => some (u.1, u.2.1, v.1))) else ((spec_l91Way.f k b t.2 (n : Int) l).bind fun v => some ((n : Int), l, v.1)) := by
    intro k
    simp only [spec_l92Play.l0]
    rw [if_neg (by omega)]
  by_cases h0 : x = 0
  · obtain ⟨m, l', q, hg, hd⟩ := l91Graph_ev hb (p + 1) (by omega)
    have hq := hd.2.2.2.2
    obtain ⟨o, q', hw, _⟩ := l91Way_ev hb hd (by omega)
    refine ⟨(m : Int), l', o, Ev.step pre (Ev.bind hx ?_), hd.inR, hd.wf⟩
    subst h0
    simp only [if_true]
    exact Ev.bind hg (Ev.bind hw (Ev.now _))
  · have hd : Drawn n l (p + 1) (p + 1) := ⟨hn.1, hn.2, hl, hs, by omega⟩
    obtain ⟨o, q', hw, _⟩ := l91Way_ev hb hd (by omega)
    refine ⟨(n : Int), l, o, Ev.step pre (Ev.bind hx ?_), hd.inR, hd.wf⟩
    simp only [h0, if_false]
    exact Ev.bind hw (Ev.now _)
theorem play_in {b : List Int} (n : Nat) (hn : 1 ≤ n ∧ n ≤ 5) (a : Nat) (ha : a < n) (p : Nat)
    (next : ∀ l : List E, l.length ≤ 5 * (a + 1) → Small l → Tri (fun k => spec_l92Play.l0 k (n : Int) ((a + 1 : Nat) : Int) b (p : Int) (n : Int) l)) :
    ∀ (d c : Nat), c + d = n → a < c → ∀ l : List E, l.length ≤ 5 * a + (c - a - 1) → Small l → Tri (fun k => spec_l92Play.l1 k (n : Int) (a : Int) (c : Int) b (p : Int) (n : Int) l)
  | 0, c, h, hac, l, hl, hs => by
    have e1 : wrap64 ((a : Int) + 1) = ((a + 1 : Nat) : Int) := by unfold wrap64; omega
    refine Tri.step (fun k => ?_) (next l (by omega) hs)
    simp only [spec_l92Play.l1]
    rw [if_neg (by omega), e1]
  | d + 1, c, h, hac, l, hl, hs => by
    have e1 : wrap64 ((c : Int) + 1) = ((c + 1 : Nat) : Int) := by unfold wrap64; omega
    refine Tri.step (fun k => ?_) (play_in n hn a ha p next d (c + 1) (by omega) (by omega) (l ++ [⟨(a : Int), (c : Int)⟩]) (by simp; omega) (hs.snoc (by omega) (by omega)))
    simp only [spec_l92Play.l1]
    rw [if_pos (by omega), if_pos (by omega), e1]
theorem play_out {b : List Int} (hb : Bytes b) (n : Nat) (hn : 1 ≤ n ∧ n ≤ 5) (p : Nat) (hp : p ≤ 1000) :
    ∀ (d a : Nat), a + d = n → ∀ l : List E, l.length ≤ 5 * a → Small l → Tri (fun k => spec_l92Play.l0 k (n : Int) (a : Int) b (p : Int) (n : Int) l)
  | 0, a, h, l, hl, hs => play_end hb n hn a (by omega) l (by omega) hs p hp
  | d + 1, a, h, l, hl, hs => by
    have e1 : wrap64 ((a : Int) + 1) = ((a + 1 : Nat) : Int) := by unfold wrap64; omega
    refine Tri.step (fun k => ?_) (play_in n hn a (by omega) p (fun l h1 h2 => play_out hb n hn p hp d (a + 1) (by omega) l h1 h2) (n - (a + 1)) (a + 1) (by omega) (by omega) l (by omega) hs)
    simp only [spec_l92Play.l0]
    rw [if_pos (by omega), e1]
theorem l92Play_ev {code : List Int} (h : ∀ x ∈ code, (Lit.int .u8 x).wf = true) : Tri (fun k => spec_l92Play.f k code) := by
  obtain ⟨b, hb, hB⟩ := l6Open_eq (bytes_of_wf h)
  obtain ⟨x, hx, hx0, hx1⟩ := pick_ev hB 0 (by omega) 5 (by omega)
  obtain ⟨m, rfl⟩ := Int.eq_ofNat_of_zero_le hx0
  have e : wrap64 (1 + (m : Int)) = ((m + 1 : Nat) : Int) := by unfold wrap64; omega
  obtain ⟨a, l, o, h1, h2⟩ := play_out hB (m + 1) (by omega) 1 (by omega) (m + 1) 0 (by omega) [] (by simp) (fun e he => by cases he)
  refine ⟨a, l, o, ?_, h2⟩
  unfold spec_l92Play.f
  simp only [hb, Option.bind_some]
  refine Ev.bind hx ?_
  simp only [e]
  exact h1
end Go.Proofs.Ytfijegfjpagjoaa.Q
