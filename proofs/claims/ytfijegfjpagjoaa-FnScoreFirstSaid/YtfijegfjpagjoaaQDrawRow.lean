/- A drawn graph and row. The elements of the code are bytes. -/
import Derived.Test.YtfijegfjpagjoaaQDrawOne
import Derived.Test.YtfijegfjpagjoaaQOutS
import Derived.Test.YtfijegfjpagjoaaG48
namespace Go.Proofs.Ytfijegfjpagjoaa.Q
open Go.RowKit Go.Proofs.Ytfijegfjpagjoaa.G Go.Proofs.YtfijegfjpagjoaaW.PrintWords Go.Proofs.YtfijegfjpagjoaaW.PrintLast Go.Proofs.YtfijegfjpagjoaaW.PrintMore
set_option linter.unusedVariables false
set_option linter.unusedSimpArgs false
theorem row_turn {x : Int} (h0 : 0 ≤ x) (h : x < 24 ∨ x = 0) : ∃ t : Nat, t ≤ 1 ∧ wrap64 (Int.tdiv x 23) = (t : Int) := by
  obtain ⟨m, rfl⟩ := Int.eq_ofNat_of_zero_le h0
  have hm : m < 24 := by omega
  have : ∀ m, m < 24 → wrap64 (Int.tdiv ((m : Nat) : Int) 23) = ((m / 23 : Nat) : Int) := by decide +kernel
  exact ⟨m / 23, by omega, this m hm⟩
theorem row_wrap (n t : Nat) (hn : n ≤ 5) (ht : t ≤ 1) : wrap64 ((n : Int) + (t : Int)) = ((n + t : Nat) : Int) := by unfold wrap64; omega
theorem row_stop (i n t : Nat) (hi : i = n + 2) (ht : t ≤ 1) : ¬ (i : Int) < ((n + t : Nat) : Int) := by omega
theorem row_loop {b : List Int} (hb : Bytes b) (n : Nat) (hn : n ≤ 5) (l : List E) : ∀ (d i : Nat) (acc : List Int) (p : Nat), i + d = n + 2 → acc.length ≤ i → p + 2 * d ≤ 1000 → ∃ row, Ev (fun k => spec_l92Row.l0 k acc (i : Int) b (p : Int) (n : Int) l) ((n : Int), l, row) ∧ row.length ≤ 10
  | 0, i, acc, p, hi, ha, hp => by
    have f1 : p ≤ 1000000 := by omega
    have f2 : acc.length ≤ 10 := by omega
    have f3 : i = n + 2 := by omega
    clear hi ha hp
    obtain ⟨x, hx, hx0, hx1⟩ := pick_ev hb p f1 24 (by decide)
    obtain ⟨t, ht, hw⟩ := row_turn hx0 hx1
    refine ⟨acc, Ev.step (f := fun k => (spec_l6Rd_pick.f k b (p : Int) 24).bind fun bt => (if (i : Int) < (wrap64 ((n : Int) + (wrap64 (Int.tdiv bt.1 23)))) then ((spec_l6Rd_pick.f k b bt.2 4).bind fun bt2 => (if acc.length < 17592186044416 then (spec_l92Row.l0 k (acc ++ [bt2.1]) (wrap64 ((i : Int) + 1)) b bt2.2 (n : Int) l) else (none))) else (some ((n : Int), l, acc)))) (fun k => by simp only [spec_l92Row.l0]) (Ev.bind hx ?_), f2⟩
    have hc : ¬ (i : Int) < ((n + t : Nat) : Int) := row_stop i n t f3 ht
    simp only [hw, row_wrap n t hn ht, if_neg hc]
    exact Ev.now _
  | d + 1, i, acc, p, hi, ha, hp => by
    have f1 : p ≤ 1000000 := by omega
    have f2 : acc.length ≤ 10 := by omega
    have f3 : p + 1 ≤ 1000000 := by omega
    have f4 : i + 1 + d = n + 2 := by omega
    have f5 : ∀ y : Int, (acc ++ [y]).length ≤ i + 1 := fun y => by simp; omega
    have f6 : p + 2 + 2 * d ≤ 1000 := by omega
    have f7 : i < 2 ^ 62 := by omega
    have hl : acc.length < 17592186044416 := by omega
    clear hi ha hp
    obtain ⟨x, hx, hx0, hx1⟩ := pick_ev hb p f1 24 (by decide)
    obtain ⟨t, ht, hw⟩ := row_turn hx0 hx1
    obtain ⟨y, hy, _⟩ := pick_ev hb (p + 1) f3 4 (by decide)
    by_cases hc : (i : Int) < ((n + t : Nat) : Int)
    · obtain ⟨row, h1, h2⟩ := row_loop hb n hn l d (i + 1) (acc ++ [y]) (p + 2) f4 (f5 y) f6
      have e1 : wrap64 ((i : Int) + 1) = ((i + 1 : Nat) : Int) := wrap_add _ f7
      refine ⟨row, Ev.step (f := fun k => (spec_l6Rd_pick.f k b (p : Int) 24).bind fun bt => (if (i : Int) < (wrap64 ((n : Int) + (wrap64 (Int.tdiv bt.1 23)))) then ((spec_l6Rd_pick.f k b bt.2 4).bind fun bt2 => (if acc.length < 17592186044416 then (spec_l92Row.l0 k (acc ++ [bt2.1]) (wrap64 ((i : Int) + 1)) b bt2.2 (n : Int) l) else (none))) else (some ((n : Int), l, acc)))) (fun k => by simp only [spec_l92Row.l0]) (Ev.bind hx ?_), h2⟩
      simp only [hw, row_wrap n t hn ht, if_pos hc]
      refine Ev.bind hy ?_
      simp only [if_pos hl, e1]
      exact h1
    · refine ⟨acc, Ev.step (f := fun k => (spec_l6Rd_pick.f k b (p : Int) 24).bind fun bt => (if (i : Int) < (wrap64 ((n : Int) + (wrap64 (Int.tdiv bt.1 23)))) then ((spec_l6Rd_pick.f k b bt.2 4).bind fun bt2 => (if acc.length < 17592186044416 then (spec_l92Row.l0 k (acc ++ [bt2.1]) (wrap64 ((i : Int) + 1)) b bt2.2 (n : Int) l) else (none))) else (some ((n : Int), l, acc)))) (fun k => by simp only [spec_l92Row.l0]) (Ev.bind hx ?_), f2⟩
      simp only [hw, row_wrap n t hn ht, if_neg hc]
      exact Ev.now _
theorem row_j0 {b : List Int} (hb : Bytes b) (n : Nat) (hn : n ≤ 5) (l : List E) (row : List Int) (hr : row.length ≤ 10) (q : Bool) (p : Nat) (hp : p ≤ 900) : ∃ row', Ev (fun k => spec_l92Row.j0 k row q b (p : Int) (n : Int) l) ((n : Int), l, row') ∧ row'.length ≤ 10 := by
  cases q with
  | true =>
    obtain ⟨row', h1, h2⟩ := row_loop hb n hn l (n + 2) 0 [] p (by omega) (by simp) (by omega)
    refine ⟨row', Ev.step (fun k => ?_) h1, h2⟩
    simp only [spec_l92Row.j0, if_true]; rfl
  | false =>
    refine ⟨row, Ev.step (f := fun _ => some ((n : Int), l, row)) (fun k => ?_) (Ev.now _), hr⟩
    simp only [spec_l92Row.j0, Bool.false_eq_true, if_false]
theorem l92Row_ev {code : List Int} (h : ∀ x ∈ code, (Lit.int .u8 x).wf = true) : ∃ (a : Int) (l : List E) (row : List Int), Ev (fun k => spec_l92Row.f k code) (a, l, row) ∧ InR a ∧ WfE l ∧ row.length ≤ 10 := by
  obtain ⟨b, hb, hB⟩ := l6Open_eq (bytes_of_wf h)
  obtain ⟨m, l, q, hg, hd⟩ := l91Graph_ev hB 0 (by omega)
  obtain ⟨o, q', hw, hq'⟩ := l91Way_ev hB hd (by omega)
  have hm5 := hd.2.1
  have hq : q ≤ 40 := by have := hd.2.2.2.2; omega
  have hW : ∃ (row : List Int) (ok : Bool), row.length ≤ 10 ∧ Ev (fun k => spec_WayOut.f k (m : Int) l o) (row, ok) := by
    rcases way_split hd.inR hd.wf o with ⟨n, es, o', h1, rfl, rfl, hv, ho⟩ | ⟨h1, h2⟩
    · have h1 : m = n := Int.ofNat.inj h1
      subst h1
      refine ⟨I (deg m (arcs es o')), true, by rw [I_length, deg_len]; omega, ?_⟩
      unfold spec_WayOut.f
      refine Ev.bind (spec_WayIn_yes hv ho) ?_
      simp only [if_true]
      exact Ev.bind (spec_l1Out_ev hv ho) (Ev.now _)
    · refine ⟨[], false, by simp, ?_⟩
      unfold spec_WayOut.f
      refine Ev.bind h2 ?_
      simp only [Bool.false_eq_true, if_false]
      exact Ev.now _
  obtain ⟨row, ok, hr, hW⟩ := hW
  cases ok with
  | true =>
    obtain ⟨x, hx, _⟩ := pick_ev hB q' (by omega) 4 (by decide)
    obtain ⟨row', h1, h2⟩ := row_j0 hB m hm5 l row hr (x == 0) (q' + 1) (by omega)
    refine ⟨(m : Int), l, row', ?_, hd.inR, hd.wf, h2⟩
    unfold spec_l92Row.f
    simp only [hb, Option.bind_some]
    refine Ev.bind hg (Ev.bind hw (Ev.bind hW ?_))
    simp only [if_true]
    exact Ev.bind hx h1
  | false =>
    obtain ⟨row', h1, h2⟩ := row_j0 hB m hm5 l row hr true q' (by omega)
    refine ⟨(m : Int), l, row', ?_, hd.inR, hd.wf, h2⟩
    unfold spec_l92Row.f
    simp only [hb, Option.bind_some]
    refine Ev.bind hg (Ev.bind hw (Ev.bind hW ?_))
    simp only [Bool.false_eq_true, if_false]
    exact h1
end Go.Proofs.Ytfijegfjpagjoaa.Q
