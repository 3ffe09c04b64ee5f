/- The law FnFirst returns true. The elements of the code are bytes. -/
import Derived.Test.YtfijegfjpagjoaaQPFirst
import Derived.Test.YtfijegfjpagjoaaQPLongI
import Derived.Test.YtfijegfjpagjoaaQOne
import Derived.Test.YtfijegfjpagjoaaQLawSame
import Derived.Test.YtfijegfjpagjoaaG21
namespace Go.Proofs.Ytfijegfjpagjoaa.Q
open Go.RowKit Go.Proofs.Ytfijegfjpagjoaa.G Go.Proofs.YtfijegfjpagjoaaW.PrintWords Go.Proofs.YtfijegfjpagjoaaW.PrintLast Go.Proofs.YtfijegfjpagjoaaW.PrintMore
set_option linter.unusedVariables false
set_option linter.unusedSimpArgs false
theorem getE_nat {p : List Nat} {i : Nat} (h : i < p.length) : rd (I p) (i : Int) = ((p[i] : Nat) : Int) := by
  rw [rd_nat, List.getD_eq_getElem?_getD, List.getElem?_eq_getElem h]; rfl
section
variable {n : Nat} {es : List (Nat × Nat)} (hv : Val n es)
include hv
theorem first_l1 {o : Nat} (ho : o < 2 ^ es.length) (p : List Nat) (i : Nat) (hi : i < p.length) (hp5 : p.length ≤ 5) (t m : Int) (r : Bool) (he : Ev (fun k => laws_FnFirst.l0 k (o : Int) (I p) t true m ((i + 1 : Nat) : Int) n (mkE es)) r) :
    ∀ (d e : Nat) (b : Bool), e + d = es.length → (b = true ∨ (1 ≤ i ∧ ∃ j, e ≤ j ∧ (arcs es o)[j]? = some (p.getD (i - 1) 0, p.getD i 0))) → Ev (fun k => laws_FnFirst.l1 k (o : Int) (I p) t true m (i : Int) b (e : Int) n (mkE es)) r
  | 0, e, b, hd, hb => by
    have hbt : b = true := by
      rcases hb with hb | ⟨_, j, hj, h⟩
      · exact hb
      · rw [List.getElem?_eq_none (by rw [arcs_length]; omega)] at h
        exact absurd h (by simp)
    subst hbt
    refine Ev.step (fun k => ?_) he
    simp only [laws_FnFirst.l1]
    rw [if_neg (by rw [mkE_length]; omega), if_pos trivial, wrap_add _ (by omega)]
  | d + 1, e, b, hd, hb => by
    have hee : e < es.length := by omega
    have hl := hv.len
    have e1 : wrap64 ((e : Int) + 1) = ((e + 1 : Nat) : Int) := wrap_add _ (by omega)
    have hlen : (e : Int) < ((mkE es).length : Int) := by rw [mkE_length]; omega
    have ho62 : o < 2 ^ 62 := Nat.lt_of_lt_of_le ho (Nat.le_trans hv.two (by decide))
    have hbit := bit_nat o e ho62 (by omega)
    have hge := arcs_getE (es := es) (o := o) e hee
    have hg : (arcs es o)[e]? = some (if o.testBit e then (es[e].2, es[e].1) else es[e]) := by
      rw [List.getElem?_eq_getElem (by rw [arcs_length]; exact hee), hge]
    cases b with
    | true =>
      have ih := first_l1 ho p i hi hp5 t m r he d (e + 1) true (by omega) (.inl rfl)
      refine Ev.step (fun k => ?_) ih
      simp only [laws_FnFirst.l1]
      rw [if_pos hlen, if_pos (Int.natCast_nonneg e), hbit, e1]
      cases o.testBit e <;> simp
    | false =>
      obtain ⟨h1, j, hj, hjs⟩ : 1 ≤ i ∧ ∃ j, e ≤ j ∧ (arcs es o)[j]? = some (p.getD (i - 1) 0, p.getD i 0) := by
        rcases hb with hb | hb
        · exact absurd hb (by decide)
        · exact hb
      have ew : wrap64 ((i : Int) - 1) = ((i - 1 : Nat) : Int) := by unfold wrap64; omega
      have g1 : rd (I p) ((i - 1 : Nat) : Int) = ((p.getD (i - 1) 0 : Nat) : Int) := rd_nat _ _
      have g2 : rd (I p) (i : Int) = ((p.getD i 0 : Nat) : Int) := rd_nat _ _
      have hnext : ∀ b' : Bool, (b' = true ∨ ¬ (if o.testBit e then (es[e].2, es[e].1) else es[e]) = (p.getD (i - 1) 0, p.getD i 0)) → Ev (fun k => laws_FnFirst.l1 k (o : Int) (I p) t true m (i : Int) b' ((e + 1 : Nat) : Int) n (mkE es)) r := by
        intro b' hb'
        refine first_l1 ho p i hi hp5 t m r he d (e + 1) b' (by omega) ?_
        rcases hb' with hb' | hb'
        · exact .inl hb'
        · refine .inr ⟨h1, j, ?_, hjs⟩
          have : j ≠ e := by
            rintro rfl
            rw [hg] at hjs
            exact hb' (Option.some.inj hjs)
          omega
      have hi0 : (0 : Int) ≤ (i : Int) := Int.natCast_nonneg i
      have hil : (i : Int) < ((I p).length : Int) := by rw [I_length]; omega
      have hlt1 : i - 1 < p.length := by omega
      have hil1 : ((i - 1 : Nat) : Int) < ((I p).length : Int) := by rw [I_length]; omega
      have hi10 : (0 : Int) ≤ ((i - 1 : Nat) : Int) := Int.natCast_nonneg _
      have hrd := rdE_mk (es := es) e hee
      generalize p.getD (i - 1) 0 = x at g1 hnext
      generalize p.getD i 0 = y at g2 hnext
      generalize es[e] = f at hnext hrd
      clear hg hge hjs hb
      cases hb : o.testBit e with
      | true =>
        rw [hb] at hbit hnext
        simp only [if_true] at hnext
        by_cases hx : f.2 = x
        · have h2 := hnext (((f.1 : Nat) : Int) == ((y : Nat) : Int)) (by
            by_cases hy : f.1 = y
            · exact .inl (by rw [hy]; exact beq_self_eq_true _)
            · exact .inr (fun h => hy (congrArg Prod.snd h)))
          refine Ev.step (fun k => ?_) h2
          simp only [laws_FnFirst.l1]
          rw [if_pos hlen, if_pos (Int.natCast_nonneg e), hbit, hrd, ew, g1, g2, e1, hx]
          simp [hi0, hil, hil1, hi10, hi, hlt1]
        · have h2 := hnext false (.inr (fun h => hx (congrArg Prod.fst h)))
          refine Ev.step (fun k => ?_) h2
          have hx' : ¬ ((f.2 : Nat) : Int) = ((x : Nat) : Int) := fun h => hx (Int.ofNat.inj h)
          simp only [laws_FnFirst.l1]
          rw [if_pos hlen, if_pos (Int.natCast_nonneg e), hbit, hrd, ew, g1, g2, e1]
          simp [hi0, hil, hil1, hi10, hx', hx, hi, hlt1]
      | false =>
        rw [hb] at hbit hnext
        simp only [Bool.false_eq_true, if_false] at hnext
        by_cases hx : f.1 = x
        · have h2 := hnext (((f.2 : Nat) : Int) == ((y : Nat) : Int)) (by
            by_cases hy : f.2 = y
            · exact .inl (by rw [hy]; exact beq_self_eq_true _)
            · exact .inr (fun h => hy (congrArg Prod.snd h)))
          refine Ev.step (fun k => ?_) h2
          simp only [laws_FnFirst.l1]
          rw [if_pos hlen, if_pos (Int.natCast_nonneg e), hbit, hrd, ew, g1, g2, e1, hx]
          simp [hi0, hil, hil1, hi10, hi, hlt1]
        · have h2 := hnext false (.inr (fun h => hx (congrArg Prod.fst h)))
          refine Ev.step (fun k => ?_) h2
          have hx' : ¬ ((f.1 : Nat) : Int) = ((x : Nat) : Int) := fun h => hx (Int.ofNat.inj h)
          simp only [laws_FnFirst.l1]
          rw [if_pos hlen, if_pos (Int.natCast_nonneg e), hbit, hrd, ew, g1, g2, e1]
          simp [hi0, hil, hil1, hi10, hx', hx, hi, hlt1]
theorem first_l0 {o : Nat} (ho : o < 2 ^ es.length) (p : List Nat) (hs : SPath (nxt n (arcs es o)) n p) (hp5 : p.length ≤ 5) : ∀ (d i m : Nat), i + d = p.length → m < 32 → (∀ v, m.testBit v = true ↔ v ∈ p.take i) →
    Ev (fun k => laws_FnFirst.l0 k (o : Int) (I p) (p.length : Int) true (m : Int) (i : Int) n (mkE es)) true
  | 0, i, m, hd, hm, hM => by
    refine Ev.step (f := fun _ => some true) (fun k => ?_) (Ev.now _)
    simp only [laws_FnFirst.l0]
    rw [if_neg (by rw [I_length]; omega), if_pos trivial, I_length, beq_self_eq_true]
  | d + 1, i, m, hd, hm, hM => by
    have hi : i < p.length := by omega
    have h5 := hv.le
    have hvn : p[i] < n := hs.lt _ (List.getElem_mem hi)
    have hv5 : p[i] < 5 := by omega
    have hnew : m.testBit p[i] = false := by
      rw [Bool.eq_false_iff]
      intro h
      have h1 := (hM p[i]).1 h
      have h2 := hs.nd
      rw [← List.take_append_drop i p, List.drop_eq_getElem_cons hi, List.nodup_append] at h2
      exact h2.2.2 _ h1 _ List.mem_cons_self rfl
    have hm' : m ||| 2 ^ p[i] < 32 := or_lt_32 hm (two_lt_32 hv5)
    have hM' : ∀ v, (m ||| 2 ^ p[i]).testBit v = true ↔ v ∈ p.take (i + 1) := by
      intro v
      rw [Nat.testBit_or, Bool.or_eq_true, hM, Nat.testBit_two_pow, decide_eq_true_eq, List.take_succ_eq_append_getElem hi, List.mem_append, List.mem_singleton]
      exact or_congr_right eq_comm
    have ih := first_l0 ho p hs hp5 d (i + 1) (m ||| 2 ^ p[i]) (by omega) hm' hM'
    have hadj : ((i : Int) == 0) = true ∨ (1 ≤ i ∧ ∃ j, 0 ≤ j ∧ (arcs es o)[j]? = some (p.getD (i - 1) 0, p.getD i 0)) := by
      by_cases h0 : i = 0
      · subst h0; exact .inl rfl
      · right
        refine ⟨by omega, ?_⟩
        have hi1 : i - 1 < p.length := by omega
        have hch : p = p.take (i - 1) ++ p[i - 1] :: p[i] :: p.drop (i + 1) := by
          conv => lhs; rw [← List.take_append_drop (i - 1) p, List.drop_eq_getElem_cons hi1]
          rw [show i - 1 + 1 = i by omega, List.drop_eq_getElem_cons hi]
        have hbit := hs.ch _ _ _ _ hch
        rw [nxt_adj (fun e he => (arcs_mem hv.lt e he).1), adj_iff] at hbit
        obtain ⟨j, hj, hje⟩ := List.getElem_of_mem hbit
        refine ⟨j, Nat.zero_le _, ?_⟩
        rw [List.getElem?_eq_getElem hj, hje, List.getD_eq_getElem?_getD, List.getD_eq_getElem?_getD, List.getElem?_eq_getElem hi, List.getElem?_eq_getElem hi1]
        rfl
    refine Ev.step (fun k => ?_) (first_l1 hv ho p i hi hp5 (p.length : Int) ((m ||| 2 ^ p[i] : Nat) : Int) true ih es.length 0 ((i : Int) == 0) (by omega) hadj)
    simp only [laws_FnFirst.l0]
    rw [if_pos (by rw [I_length]; omega), if_pos (Int.natCast_nonneg i), getE_nat hi, if_pos (Int.natCast_nonneg _), bit_nat m p[i] (lt62 hm) (by omega), hnew, if_neg (by decide), shl_one p[i] (by omega), or_nat m _ (lt62 hm) (lt62 (two_lt_32 hv5))]
    rfl
end
end Go.Proofs.Ytfijegfjpagjoaa.Q
namespace Go.Proofs.Ytfijegfjpagjoaa.Pure
open Go.RowKit Go.Proofs.Ytfijegfjpagjoaa.G Go.Proofs.Ytfijegfjpagjoaa.Q Go.Proofs.YtfijegfjpagjoaaW.PrintWords Go.Proofs.YtfijegfjpagjoaaW.PrintLast Go.Proofs.YtfijegfjpagjoaaW.PrintMore
set_option linter.unusedVariables false
set_option linter.unusedSimpArgs false
theorem FnFirst : laws_FnFirst.Pure := by
  intro code _ _ hcode
  refine Ev.rounds (g := fun k => laws_FnFirst.f k code) ?_
  obtain ⟨a, l, o, hg, ha, hl⟩ := l91One_ev hcode
  have hD : Ev (fun k => spec_DrawPathFirst.f k code) (a, l, o) := by
    unfold spec_DrawPathFirst.f
    exact Ev.bind hg (Ev.now _)
  unfold laws_FnFirst.f
  by_cases hc : (code.length : Int) > 1048576
  · simp only [hc, if_true]; exact Ev.now _
  · simp only [hc, if_false]
    refine Ev.bind hD ?_
    rcases way_split ha hl o with ⟨n, es, o', rfl, rfl, rfl, hv, ho⟩ | ⟨h1, h2⟩
    · have h5 := hv.le
      have hle := longP_len hv o'
      have hsp := (longP_sp (s := nxt n (arcs es o')) h5 hv.pos).1
      refine Ev.bind (impl_PathFirst_ev hv ho) (Ev.bind (spec_PathFirst_ev hv ho) ?_)
      simp only [bne_self_eq_false, Bool.false_eq_true, if_false, if_true, Bool.not_true]
      refine Ev.bind (sameInts_ev _ (by rw [I_length]; omega)) ?_
      simp only [if_true]
      refine Ev.step (fun k => by simp only [laws_FnFirst.j0, Bool.false_eq_true, if_false]; rfl) ?_
      refine Ev.bind (impl_PathLongest_ev hv ho) ?_
      exact first_l0 hv ho _ hsp (Nat.le_trans hle h5) _ 0 0 (Nat.zero_add _) (by decide) (by simp)
    · refine Ev.bind (impl_PathFirst_no h1) (Ev.bind (spec_PathFirst_no h2) ?_)
      simp only [bne_self_eq_false, Bool.false_eq_true, if_false, if_true, Bool.not_false]
      refine Ev.bind (sameInts_ev [] (by simp)) ?_
      simp only [if_true]
      refine Ev.step (f := fun k => (laws_sameInts.f k [] []).bind fun t => some t) (fun k => by simp [laws_FnFirst.j0]) ?_
      exact Ev.bind (sameInts_ev [] (by simp)) (Ev.now _)
end Go.Proofs.Ytfijegfjpagjoaa.Pure
