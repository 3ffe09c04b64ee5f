/- The reference's longest paths and counts of paths are told from the same list of simple paths. The sets are of five nodes at most. -/
import Derived.Test.YtfijegfjpagjoaaQPathsI
import Derived.Test.YtfijegfjpagjoaaQArcNd
import Derived.Test.YtfijegfjpagjoaaG9
namespace Go.Proofs.Ytfijegfjpagjoaa.Q
open Go.RowKit Go.Proofs.Ytfijegfjpagjoaa.G Go.Proofs.YtfijegfjpagjoaaW.PrintWords Go.Proofs.YtfijegfjpagjoaaW.PrintLast Go.Proofs.YtfijegfjpagjoaaW.PrintMore
set_option linter.unusedVariables false
set_option linter.unusedSimpArgs false
set_option linter.unusedSectionVars false
theorem drop_any {α : Type} {l : List α} (q : α → Bool) {i : Nat} (hi : i < l.length) : (l.drop i).any q = (q l[i] || (l.drop (i + 1)).any q) := by
  rw [List.drop_eq_getElem_cons hi, List.any_cons]
section
variable {n : Nat} {es : List (Nat × Nat)} (hv : Val n es)
include hv
theorem ar_nodup (o : Nat) : (arcs es o).Nodup := arcs_ndP es o hv.srt (fun e he => (hv.lt e he).1)
theorem bit0_int (m b : Nat) (hm : m < 32) (hb : b < 5) : (Go.bits .and .i64 (shr .i64 (m : Int) (b : Int)) 1 == 0) = !m.testBit b := by
  rw [bit_nat m b (lt62 hm) (by omega), toNat_beq0]
theorem longer_l1_step {o : Nat} (ho : o < 2 ^ es.length) (p : List Nat) (m a b : Nat) (hm : m < 32) (hb : b < n) (best : List Nat) (i : Nat) (hi : i < es.length) (k : Nat) :
    spec_l7Longer.l1 (k + 1) (o : Int) (I p) (m : Int) (I best) (a : Int) (b : Int) (i : Int) n (mkE es) = spec_l7Longer.j2 k (o : Int) (I p) (m : Int) (I best) (a : Int) (b : Int) (i : Int) (((arcs es o)[i]'(by rw [arcs_length]; exact hi)).1 == a && ((arcs es o)[i]'(by rw [arcs_length]; exact hi)).2 == b && !m.testBit b) n (mkE es) := by
  have h5 := hv.le
  simp only [spec_l7Longer.l1]
  rw [if_pos (by rw [mkE_length]; exact Int.ofNat_lt.2 hi), spec_ends_eq hv ho i hi, Option.bind_some]
  generalize (arcs es o)[i]'(by rw [arcs_length]; exact hi) = e
  dsimp only
  by_cases h1 : e.1 = a
  · rw [if_pos (by omega)]
    by_cases h2 : e.2 = b
    · rw [if_pos (by omega), if_pos (Int.natCast_nonneg b), bit0_int hv m b hm (by omega), h1, h2]
      simp
    · rw [if_neg (fun h => h2 (by omega)), show (e.1 == a && e.2 == b && !m.testBit b) = false by rw [beq_eq_false_iff_ne.mpr h2, Bool.and_false]; rfl]
  · rw [if_neg (fun h => h1 (by omega)), show (e.1 == a && e.2 == b && !m.testBit b) = false by rw [beq_eq_false_iff_ne.mpr h1]; rfl]
theorem longer_l1 {o : Nat} (ho : o < 2 ^ es.length) (p : List Nat) (m a b : Nat) (hm : m < 32) (hb : b < n) (hp : p.length ≤ 100) (L : List Nat)
    (hL : mayB (nxt n (arcs es o)) a m b = true → Ev (fun k => spec_l7Longer.f k n (mkE es) (o : Int) (I (p ++ [b])) ((m ||| 2 ^ b : Nat) : Int)) (I L)) (r : List Int) :
    ∀ (d i : Nat) (best : List Nat), i + d = es.length → Ev (fun k => spec_l7Longer.l0 k (o : Int) (I p) (m : Int) (I (if (((arcs es o).drop i).any (fun e => e.1 == a && e.2 == b) && !m.testBit b) = true then pickP best L else best)) (a : Int) ((b + 1 : Nat) : Int) n (mkE es)) r → Ev (fun k => spec_l7Longer.l1 k (o : Int) (I p) (m : Int) (I best) (a : Int) (b : Int) (i : Int) n (mkE es)) r
  | 0, i, best, hi, he => by
    have h5 := hv.le
    rw [List.drop_of_length_le (by rw [arcs_length]; omega)] at he
    simp only [List.any_nil, Bool.false_and, Bool.false_eq_true, if_false] at he
    refine Ev.step (fun k => ?_) he
    simp only [spec_l7Longer.l1]
    rw [if_neg (by rw [mkE_length]; omega), wrap_add _ (by omega)]
  | d + 1, i, best, hi, he => by
    have h5 := hv.le
    have hl := hv.len
    have hie : i < es.length := by omega
    have hia : i < (arcs es o).length := by rw [arcs_length]; exact hie
    have e1 : wrap64 ((i : Int) + 1) = ((i + 1 : Nat) : Int) := wrap_add _ (by omega)
    refine Ev.step (fun k => longer_l1_step hv ho p m a b hm hb best i hie k) ?_
    rw [drop_any _ hia] at he
    cases hc : ((arcs es o)[i].1 == a && (arcs es o)[i].2 == b) with
    | false =>
      rw [hc, Bool.false_or] at he
      have ih := longer_l1 ho p m a b hm hb hp L hL r d (i + 1) best (by omega) he
      refine Ev.step (fun k => ?_) ih
      simp only [spec_l7Longer.j2, Bool.false_and]
      rw [if_neg (by decide), e1]
    | true =>
      rw [hc, Bool.true_or, Bool.true_and] at he
      have hmem : (a, b) ∉ (arcs es o).drop (i + 1) := by
        have hnd := (ar_nodup hv o).sublist (List.drop_sublist i (arcs es o))
        rw [List.drop_eq_getElem_cons hia, List.nodup_cons] at hnd
        rw [Bool.and_eq_true, beq_iff_eq, beq_iff_eq] at hc
        intro h
        exact hnd.1 (by rw [show (arcs es o)[i] = (a, b) from Prod.ext hc.1 hc.2]; exact h)
      have hany : ((arcs es o).drop (i + 1)).any (fun e => e.1 == a && e.2 == b) = false := by
        rw [Bool.eq_false_iff]
        intro h
        rw [List.any_eq_true] at h
        obtain ⟨e, h1, h2⟩ := h
        rw [Bool.and_eq_true, beq_iff_eq, beq_iff_eq] at h2
        exact hmem (by rw [← h2.1, ← h2.2]; exact h1)
      cases hbit : m.testBit b with
      | true =>
        rw [hbit] at he
        simp only [Bool.not_true, Bool.false_eq_true, if_false] at he
        have ih := longer_l1 ho p m a b hm hb hp L hL r d (i + 1) best (by omega) (by rw [hany, Bool.false_and]; simpa using he)
        refine Ev.step (fun k => ?_) ih
        simp only [spec_l7Longer.j2, hbit, Bool.not_true, Bool.and_false]
        rw [if_neg (by decide), e1]
      | false =>
        rw [hbit] at he
        simp only [Bool.not_false, if_true] at he
        have hmay : mayB (nxt n (arcs es o)) a m b = true := by
          unfold mayB
          rw [hbit, nxt_adj (fun e he => (arcs_mem hv.lt e he).1), Bool.not_false, Bool.and_true, adj_iff]
          rw [Bool.and_eq_true, beq_iff_eq, beq_iff_eq] at hc
          rw [← show (arcs es o)[i] = (a, b) from Prod.ext hc.1 hc.2]
          exact List.getElem_mem hia
        have ih := longer_l1 ho p m a b hm hb hp L hL r d (i + 1) (pickP best L) (by omega) (by rw [hany, Bool.false_and]; simpa using he)
        refine Ev.step (f := fun k => (spec_l7Longer.f k n (mkE es) (o : Int) (I (p ++ [b])) ((m ||| 2 ^ b : Nat) : Int)).bind fun t => if (t.length : Int) > ((I best).length : Int) then spec_l7Longer.l1 k (o : Int) (I p) (m : Int) t (a : Int) (b : Int) ((i + 1 : Nat) : Int) n (mkE es) else spec_l7Longer.l1 k (o : Int) (I p) (m : Int) (I best) (a : Int) (b : Int) ((i + 1 : Nat) : Int) n (mkE es)) (fun k => ?_) (Ev.bind (hL hmay) ?_)
        · simp only [spec_l7Longer.j2, hbit, Bool.not_false, Bool.and_true, if_true, Option.bind_some, List.length_nil, List.nil_append, Nat.zero_add]
          have hp1 : (I p).length < 17592186044416 := by rw [I_length]; omega
          have hp2 : (I p).length + [(b : Int)].length < 17592186044416 := by rw [I_length]; simp; omega
          rw [if_pos hp1, if_pos hp2, if_pos (Int.natCast_nonneg b), shl_one b (by omega), or_nat m (2 ^ b) (lt62 hm) (lt62 (two_lt_32 (by omega))), I_snoc, e1]
        · rw [I_length, I_length]
          by_cases hlt : best.length < L.length
          · rw [show pickP best L = L by unfold pickP; rw [if_pos hlt]] at ih
            simp only [gt_iff_lt, Int.ofNat_lt, if_pos hlt]
            exact ih
          · rw [show pickP best L = best by unfold pickP; rw [if_neg hlt]] at ih
            simp only [gt_iff_lt, Int.ofNat_lt, if_neg hlt]
            exact ih
theorem longer_ev {o : Nat} (ho : o < 2 ^ es.length) : ∀ (f : Nat) (p : List Nat) (a m : Nat), Met (nxt n (arcs es o)) n p a m → n + 1 ≤ p.length + f → Ev (fun k => spec_l7Longer.f k n (mkE es) (o : Int) (I p) (m : Int)) (I (longF (nxt n (arcs es o)) n f p a m))
  | 0, p, a, m, hM, hf => by have := hM.le hv.le; omega
  | f + 1, p, a, m, hM, hf => by
    have h5 := hv.le
    have hle := hM.le h5
    have hm32 : m < 32 := Nat.lt_of_lt_of_le hM.lt (Nat.pow_le_pow_right (n := 2) (by decide) h5)
    obtain ⟨hl, h0⟩ := last_rd hM.last
    have inner : ∀ (d v : Nat) (best : List Nat), v + d = n → Ev (fun k => spec_l7Longer.l0 k (o : Int) (I p) (m : Int) (I best) (a : Int) (v : Int) n (mkE es)) (I ((List.range' v d).foldl (fun best v => if mayB (nxt n (arcs es o)) a m v = true then pickP best (longF (nxt n (arcs es o)) n f (p ++ [v]) v (m ||| 2 ^ v)) else best) best)) := by
      intro d
      induction d with
      | zero =>
        intro v best hv'
        refine Ev.step (f := fun _ => some (I best)) (fun k => ?_) (Ev.now _)
        simp only [spec_l7Longer.l0]
        rw [if_neg (by omega)]
      | succ d ih =>
        intro v best hv'
        have hvn : v < n := by omega
        rw [List.range'_succ, List.foldl_cons]
        have hany : (((arcs es o).drop 0).any (fun e => e.1 == a && e.2 == v) && !m.testBit v) = mayB (nxt n (arcs es o)) a m v := by
          unfold mayB
          rw [nxt_adj (fun e he => (arcs_mem hv.lt e he).1), List.drop_zero]; rfl
        have h1 := longer_l1 hv ho p m a v hm32 hvn (by omega) (longF (nxt n (arcs es o)) n f (p ++ [v]) v (m ||| 2 ^ v)) (fun hb => longer_ev ho f (p ++ [v]) v (m ||| 2 ^ v) (hM.snoc h5 hvn hb) (by rw [List.length_append, List.length_singleton]; omega)) _ es.length 0 best (by omega) (by rw [hany]; exact ih (v + 1) _ (by omega))
        refine Ev.step (fun k => ?_) h1
        simp only [spec_l7Longer.l0]
        rw [if_pos (Int.ofNat_lt.2 hvn)]; rfl
    simp only [longF]
    refine Ev.step (fun k => ?_) (inner n 0 p (by omega))
    simp only [spec_l7Longer.f]
    have e0 : wrap64 (((I p).length : Int) - 1) = ((I p).length : Int) - 1 := by rw [I_length]; unfold wrap64; omega
    rw [e0, if_pos (by rw [I_length]; omega), if_pos (by rw [I_length]; omega), hl]
    rfl
theorem l7Path_loop {o : Nat} (ho : o < 2 ^ es.length) : ∀ (d v : Nat) (best : List Nat), v + d = n → Ev (fun k => spec_l7Path.l0 k (o : Int) (I best) (v : Int) n (mkE es)) (I ((List.range' v d).foldl (fun best v => pickP best (longF (nxt n (arcs es o)) n n [v] v (2 ^ v))) best))
  | 0, v, best, hd => by
    refine Ev.step (f := fun _ => some (I best)) (fun k => ?_) (Ev.now _)
    simp only [spec_l7Path.l0]
    rw [if_neg (by omega)]
  | d + 1, v, best, hd => by
    have h5 := hv.le
    have hvn : v < n := by omega
    have e1 : wrap64 ((v : Int) + 1) = ((v + 1 : Nat) : Int) := wrap_add _ (by omega)
    have ih := l7Path_loop ho d (v + 1) (pickP best (longF (nxt n (arcs es o)) n n [v] v (2 ^ v))) (by omega)
    rw [List.range'_succ, List.foldl_cons]
    refine Ev.step (f := fun k => (spec_l7Longer.f k n (mkE es) (o : Int) (I [v]) ((2 ^ v : Nat) : Int)).bind fun t => if (t.length : Int) > ((I best).length : Int) then spec_l7Path.l0 k (o : Int) t ((v + 1 : Nat) : Int) n (mkE es) else spec_l7Path.l0 k (o : Int) (I best) ((v + 1 : Nat) : Int) n (mkE es)) (fun k => ?_) (Ev.bind (longer_ev hv ho n [v] v (2 ^ v) (Met.one _ h5 hvn) (by simp; omega)) ?_)
    · simp only [spec_l7Path.l0]
      rw [if_pos (Int.ofNat_lt.2 hvn), if_pos (Int.natCast_nonneg v), shl_one v (by omega), e1]
      rfl
    · generalize longF (nxt n (arcs es o)) n n [v] v (2 ^ v) = L at ih ⊢
      rw [I_length, I_length]
      by_cases hlt : best.length < L.length
      · rw [show pickP best L = L by unfold pickP; rw [if_pos hlt]] at ih ⊢
        simp only [gt_iff_lt, Int.ofNat_lt, if_pos hlt]
        exact ih
      · rw [show pickP best L = best by unfold pickP; rw [if_neg hlt]] at ih ⊢
        simp only [gt_iff_lt, Int.ofNat_lt, if_neg hlt]
        exact ih
theorem spec_l7Path_ev {o : Nat} (ho : o < 2 ^ es.length) : Ev (fun k => spec_l7Path.f k n (mkE es) (o : Int)) (I (longP (nxt n (arcs es o)) n)) := by
  rw [longP_eq]
  exact l7Path_loop hv ho n 0 [] (by omega)
end
end Go.Proofs.Ytfijegfjpagjoaa.Q
