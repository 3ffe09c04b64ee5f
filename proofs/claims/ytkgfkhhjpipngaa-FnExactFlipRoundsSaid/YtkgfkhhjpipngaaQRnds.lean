/- Turned rounds: byRounds and l5Rounds list the same directions. The graph is valid. -/
import Derived.Test.YtkgfkhhjpipngaaQCuts
import Derived.Test.YtkgfkhhjpipngaaG42
import Derived.Test.YtkgfkhhjpipngaaG44
namespace Go.Proofs.Ytkgfkhhjpipngaa.Q
open Go.RowKit Go.Proofs.Ytkgfkhhjpipngaa.G Go.Proofs.YtkgfkhhjpipngaaW.PrintWords Go.Proofs.YtkgfkhhjpipngaaW.PrintLast Go.Proofs.YtkgfkhhjpipngaaW.PrintMore
set_option linter.unusedVariables false
set_option linter.unusedSimpArgs false
set_option linter.unusedSectionVars false
def arcAt (es : List (Nat × Nat)) (o i : Nat) : Nat × Nat := (arcs es o).getD i (0, 0)
/-- All directions with a round turned that goes on from a node, with nodes met and edges that turn; u: how many nodes it may yet meet, and one. -/
def rndL (es : List (Nat × Nat)) (o first : Nat) : Nat → Nat → Nat → Nat → List Int
  | 0, _, _, _ => []
  | u + 1, at_, met, turn => (List.range' 0 es.length).flatMap fun i => if (arcAt es o i).1 = at_ then (if (arcAt es o i).2 = first then [((o ^^^ (turn ||| 2 ^ i) : Nat) : Int)] else if first < (arcAt es o i).2 ∧ met.testBit (arcAt es o i).2 = false then rndL es o first u (arcAt es o i).2 (met ||| 2 ^ (arcAt es o i).2) (turn ||| 2 ^ i) else []) else []
def rndB (es : List (Nat × Nat)) (o first u at_ met turn i : Nat) : List Int := if (arcAt es o i).1 = at_ then (if (arcAt es o i).2 = first then [((o ^^^ (turn ||| 2 ^ i) : Nat) : Int)] else if first < (arcAt es o i).2 ∧ met.testBit (arcAt es o i).2 = false then rndL es o first u (arcAt es o i).2 (met ||| 2 ^ (arcAt es o i).2) (turn ||| 2 ^ i) else []) else []
theorem rndL_succ (es : List (Nat × Nat)) (o first u at_ met turn : Nat) : rndL es o first (u + 1) at_ met turn = (List.range' 0 es.length).flatMap (rndB es o first u at_ met turn) := rfl
theorem flat_len {f : Nat → List Int} {B : Nat} : ∀ l : List Nat, (∀ i ∈ l, (f i).length ≤ B) → (l.flatMap f).length ≤ l.length * B
  | [], _ => by simp
  | x :: r, h => by
    have h1 := h x List.mem_cons_self
    have h2 := flat_len r (fun i hi => h i (List.mem_cons_of_mem _ hi))
    rw [List.flatMap_cons, List.length_append, List.length_cons, Nat.succ_mul]
    omega
theorem rndL_len (es : List (Nat × Nat)) (hes : es.length ≤ 10) (o first : Nat) : ∀ u a b c, (rndL es o first u a b c).length ≤ 11 ^ u
  | 0, _, _, _ => by simp [rndL]
  | u + 1, a, b, c => by
    rw [rndL_succ]
    have hp : 1 ≤ 11 ^ u := Nat.one_le_pow _ _ (by decide)
    have h := flat_len (B := 11 ^ u) (List.range' 0 es.length) (f := rndB es o first u a b c) (fun i _ => by
      unfold rndB
      split
      · split
        · simpa using hp
        · split
          · exact rndL_len es hes o first u _ _ _
          · simp
      · simp)
    rw [List.length_range'] at h
    refine Nat.le_trans h (Nat.le_trans (Nat.mul_le_mul_right _ hes) ?_)
    rw [Nat.pow_succ]
    omega
/-- How many of the nodes are not met. -/
def unm (n met : Nat) : Nat := ((List.range n).filter fun v => !met.testBit v).length
theorem unm_all : ((List.range 6).all fun n => (List.range 32).all fun m => (List.range n).all fun b => m.testBit b || decide (unm n (m ||| 2 ^ b) + 1 = unm n m)) = true := by kernel_rfl
theorem unm_or {n m b : Nat} (hn : n ≤ 5) (hm : m < 32) (hb : b < n) (h : m.testBit b = false) : unm n (m ||| 2 ^ b) + 1 = unm n m := by
  have h1 := List.all_eq_true.1 unm_all n (by simp; omega)
  have h2 := List.all_eq_true.1 h1 m (by simp; omega)
  have h3 := List.all_eq_true.1 h2 b (by simp; omega)
  rw [h, Bool.false_or] at h3
  exact of_decide_eq_true h3
theorem unm_le (n m : Nat) : unm n m ≤ n := by
  have h := List.length_filter_le (fun v => !m.testBit v) (List.range n)
  rw [List.length_range] at h
  exact h
/-- No edge that turns leads from the node where the walk stands; those that it left are met. -/
structure TInv (es : List (Nat × Nat)) (o at_ met turn : Nat) : Prop where
  here : met.testBit at_ = true
  left : ∀ j, turn.testBit j = true → (arcAt es o j).1 ≠ at_ ∧ met.testBit (arcAt es o j).1 = true
theorem TInv.go {es : List (Nat × Nat)} {o at_ met turn i : Nat} (h : TInv es o at_ met turn) (ha : (arcAt es o i).1 = at_) (hb : met.testBit (arcAt es o i).2 = false) : TInv es o (arcAt es o i).2 (met ||| 2 ^ (arcAt es o i).2) (turn ||| 2 ^ i) := by
  refine ⟨by simp [Nat.testBit_or, Nat.testBit_two_pow], fun j hj => ?_⟩
  rw [Nat.testBit_or, Nat.testBit_two_pow] at hj
  have key : (arcAt es o j).1 ≠ (arcAt es o i).2 ∧ met.testBit (arcAt es o j).1 = true := by
    rcases Bool.or_eq_true _ _ ▸ hj with hj | hj
    · obtain ⟨h1, h2⟩ := h.left j hj
      exact ⟨fun e => (by rw [e] at h2; rw [h2] at hb; cases hb), h2⟩
    · have e := of_decide_eq_true hj
      subst e
      rw [ha]
      exact ⟨fun e => (by rw [← e] at hb; rw [h.here] at hb; cases hb), h.here⟩
  exact ⟨key.1, by rw [Nat.testBit_or, key.2, Bool.true_or]⟩
theorem TInv.free {es : List (Nat × Nat)} {o at_ met turn i : Nat} (h : TInv es o at_ met turn) (ha : (arcAt es o i).1 = at_) : turn.testBit i = false := by
  cases e : turn.testBit i with
  | false => rfl
  | true => exact absurd ha (h.left i e).1
theorem TInv.start (es : List (Nat × Nat)) (o v : Nat) : TInv es o v (2 ^ v) 0 := ⟨by simp [Nat.testBit_two_pow], fun j hj => by simp at hj⟩
theorem xor_or {o t i : Nat} (h : t.testBit i = false) : (o ^^^ t) ^^^ 2 ^ i = o ^^^ (t ||| 2 ^ i) := by
  apply Nat.eq_of_testBit_eq
  intro j
  simp only [Nat.testBit_xor, Nat.testBit_or, Nat.testBit_two_pow]
  by_cases e : i = j
  · subst e; simp [h]
  · simp [e]
theorem pow_or_lt {m b : Nat} (hm : m < 32) (hb : b < 5) : m ||| 2 ^ b < 32 := Nat.or_lt_two_pow (n := 5) hm (Nat.lt_of_lt_of_le (Nat.pow_lt_pow_right (by decide) hb) (by decide))
section
variable {n : Nat} {es : List (Nat × Nat)} (hv : Val n es) {o : Nat} (ho : o < 2 ^ es.length)
include hv ho
theorem arcAt_lt {i : Nat} (hi : i < es.length) : (arcAt es o i).1 < n ∧ (arcAt es o i).2 < n := by
  have hb := arcs_bd hv (o := o) i hi
  have e : arcAt es o i = (arcs es o)[i]'(by rw [arcs_length]; exact hi) := by unfold arcAt; rw [List.getD_eq_getElem?_getD, List.getElem?_eq_getElem (by rw [arcs_length]; exact hi)]; rfl
  rw [e]
  exact hb
theorem impl_turn_ev (first : Nat) (hf : first < 5) : ∀ u, u ≤ 6 → ∀ d i at_ met turn out, i + d = es.length → unm n met < u → met < 32 → turn < 1024 → TInv es o at_ met turn → out.length + ((List.range' i d).flatMap (rndB es o first (u - 1) at_ met turn)).length < 100000000 →
    Ev (fun k => impl_turn.f n (mkE es) o first k at_ met turn i out) (out ++ (List.range' i d).flatMap (rndB es o first (u - 1) at_ met turn))
  | 0, _, _, _, _, _, _, _, _, hu, _, _, _, _ => absurd hu (Nat.not_lt_zero _)
  | u + 1, hu6, 0, i, at_, met, turn, out, hi, hu, hm, ht, inv, hl => by
    have : i = es.length := by omega
    subst this
    have hc : (((es.length : Nat) : Int) < ((mkE es).length : Int)) = False := eq_false (by rw [mkE_length]; omega)
    refine Ev.step (fun k => by simp only [impl_turn.f, hc, if_false]; rfl) ?_
    simp only [List.range'_zero, List.flatMap_nil, List.append_nil]
    exact Ev.now _
  | u + 1, hu6, d + 1, i, at_, met, turn, out, hi, hu, hm, ht, inv, hl => by
    have hil : i < es.length := by omega
    have hlen := hv.len
    have h2 := hv.two
    have hc : ((i : Int) < ((mkE es).length : Int)) = True := eq_true (by rw [mkE_length]; omega)
    have z : ((0 : Int) ≤ (i : Int)) = True := eq_true (Int.natCast_nonneg _)
    have e0 : impl_ends.f n (mkE es) o i = some (((arcAt es o i).1 : Int), ((arcAt es o i).2 : Int)) := (ends_getD hv ho i hil).1
    obtain ⟨hb1, hb2⟩ := arcAt_lt hv ho hil
    have hn := hv.le
    rw [List.range'_succ, List.flatMap_cons] at hl ⊢
    simp only [Nat.add_sub_cancel] at hl ⊢
    have key : ∀ out2, out2.length = out.length + (rndB es o first u at_ met turn i).length → Ev (fun k => impl_turn.f n (mkE es) o first k at_ met turn ((i + 1 : Nat) : Int) out2) (out2 ++ (List.range' (i + 1) d).flatMap (rndB es o first u at_ met turn)) := fun out2 ho2 =>
      impl_turn_ev first hf (u + 1) hu6 d (i + 1) at_ met turn out2 (by omega) hu hm ht inv (by simp only [Nat.add_sub_cancel]; rw [List.length_append] at hl; omega)
    rw [List.length_append] at hl
    refine Ev.step (fun k => by simp only [impl_turn.f, hc, z, if_true, e0, Option.bind_some, wrap_add i (lt62 (show i < 32 by omega)), shl_one i (by omega)]; rfl) ?_
    by_cases c1 : (arcAt es o i).1 = at_
    · have c1' : (((arcAt es o i).1 : Int) = (at_ : Int)) = True := eq_true (by rw [c1])
      simp only [c1', if_true]
      have hfree := inv.free c1
      by_cases c2 : (arcAt es o i).2 = first
      · have c2' : (((arcAt es o i).2 : Int) = (first : Int)) = True := eq_true (by rw [c2])
        have hB : rndB es o first u at_ met turn i = [((o ^^^ (turn ||| 2 ^ i) : Nat) : Int)] := by unfold rndB; rw [if_pos c1, if_pos c2]
        have hol : (out.length < 17592186044416) = True := eq_true (by omega)
        have hoi : o < 1024 := by omega
        simp only [c2', if_true, hol, xor_nat o turn (Nat.lt_trans hoi (by decide)) (Nat.lt_trans ht (by decide)), xor_nat (o ^^^ turn) (2 ^ i) (Nat.lt_trans (Nat.xor_lt_two_pow (n := 10) hoi ht) (by decide)) (Nat.lt_trans (Nat.pow_lt_pow_right (by decide) (show i < 20 by omega)) (by decide)), xor_or hfree]
        rw [hB] at key ⊢
        rw [← List.append_assoc]
        exact key _ (by simp)
      · have c2' : (((arcAt es o i).2 : Int) = (first : Int)) = False := eq_false (by omega)
        simp only [c2', if_false]
        by_cases c3 : first < (arcAt es o i).2
        · have c3' : ((first : Int) < ((arcAt es o i).2 : Int)) = True := eq_true (by omega)
          have c4' : ((0 : Int) ≤ ((arcAt es o i).2 : Int)) = True := eq_true (Int.natCast_nonneg _)
          simp only [c3', c4', if_true, bit_nat met (arcAt es o i).2 (lt62 hm) (by omega)]
          cases c5 : met.testBit (arcAt es o i).2 with
          | true =>
            have hB : rndB es o first u at_ met turn i = [] := by unfold rndB; rw [if_pos c1, if_neg c2, if_neg (fun h => by rw [c5] at h; exact absurd h.2 (by decide))]
            simp only [bT, Int.one_ne_zero, if_false]
            rw [hB] at key ⊢
            exact key out (by simp)
          | false =>
            have hB : rndB es o first u at_ met turn i = rndL es o first u (arcAt es o i).2 (met ||| 2 ^ (arcAt es o i).2) (turn ||| 2 ^ i) := by unfold rndB; rw [if_pos c1, if_neg c2, if_pos ⟨c3, c5⟩]
            simp only [bF, if_true]
            have hun := unm_or hn hm hb2 c5
            obtain ⟨u1, rfl⟩ : ∃ u1, u = u1 + 1 := ⟨u - 1, by omega⟩
            have h1 := impl_turn_ev first hf (u1 + 1) (by omega) es.length 0 (arcAt es o i).2 (met ||| 2 ^ (arcAt es o i).2) (turn ||| 2 ^ i) out (by omega) (by omega) (pow_or_lt hm (by omega)) (or_pow_lt ht (by omega)) (inv.go c1 c5)
            simp only [Nat.add_sub_cancel] at h1
            rw [← rndL_succ, ← hB] at h1
            have h1' := h1 (by omega)
            rw [shl_one (arcAt es o i).2 (by omega), or_nat met (2 ^ (arcAt es o i).2) (lt62 hm) (Nat.lt_trans (Nat.pow_lt_pow_right (by decide) (show (arcAt es o i).2 < 20 by omega)) (by decide)), or_nat turn (2 ^ i) (Nat.lt_trans ht (by decide)) (Nat.lt_trans (Nat.pow_lt_pow_right (by decide) (show i < 20 by omega)) (by decide))]
            refine Ev.bind h1' ?_
            rw [← List.append_assoc]
            exact key _ (by simp)
        · have c3' : ((first : Int) < ((arcAt es o i).2 : Int)) = False := eq_false (by omega)
          have hB : rndB es o first u at_ met turn i = [] := by unfold rndB; rw [if_pos c1, if_neg c2, if_neg (fun h => c3 h.1)]
          simp only [c3', if_false]
          rw [hB] at key ⊢
          exact key out (by simp)
    · have c1' : (((arcAt es o i).1 : Int) = (at_ : Int)) = False := eq_false (by omega)
      have hB : rndB es o first u at_ met turn i = [] := by unfold rndB; rw [if_neg c1]
      simp only [c1', if_false]
      rw [hB] at key ⊢
      exact key out (by simp)
theorem spec_walk_ev (first : Nat) (hf : first < 5) : ∀ u, u ≤ 6 → ∀ d i at_ met turn out, i + d = es.length → unm n met < u → met < 32 → turn < 1024 → TInv es o at_ met turn → Asc out → out.length + ((List.range' i d).flatMap (rndB es o first (u - 1) at_ met turn)).length < 100000000 →
    Ev (fun k => spec_l5Walk.l0 k o first at_ met turn out i n (mkE es)) (puts out ((List.range' i d).flatMap (rndB es o first (u - 1) at_ met turn)))
  | 0, _, _, _, _, _, _, _, _, hu, _, _, _, _, _ => absurd hu (Nat.not_lt_zero _)
  | u + 1, hu6, 0, i, at_, met, turn, out, hi, hu, hm, ht, inv, ha, hl => by
    have : i = es.length := by omega
    subst this
    have hc : (((es.length : Nat) : Int) < ((mkE es).length : Int)) = False := eq_false (by rw [mkE_length]; omega)
    refine Ev.step (fun k => by simp only [spec_l5Walk.l0, hc, if_false]; rfl) ?_
    simp only [List.range'_zero, List.flatMap_nil, puts, List.foldl_nil]
    exact Ev.now _
  | u + 1, hu6, d + 1, i, at_, met, turn, out, hi, hu, hm, ht, inv, ha, hl => by
    have hil : i < es.length := by omega
    have hlen := hv.len
    have h2 := hv.two
    have hc : ((i : Int) < ((mkE es).length : Int)) = True := eq_true (by rw [mkE_length]; omega)
    have z : ((0 : Int) ≤ (i : Int)) = True := eq_true (Int.natCast_nonneg _)
    have e0 : spec_l1Ends.f n (mkE es) o i = some (((arcAt es o i).1 : Int), ((arcAt es o i).2 : Int)) := (ends_getD hv ho i hil).1
    obtain ⟨hb1, hb2⟩ := arcAt_lt hv ho hil
    have hn := hv.le
    rw [List.range'_succ, List.flatMap_cons] at hl ⊢
    simp only [Nat.add_sub_cancel] at hl ⊢
    rw [puts_app]
    have key : ∀ out2, Asc out2 → out2.length ≤ out.length + (rndB es o first u at_ met turn i).length → Ev (fun k => spec_l5Walk.l0 k o first at_ met turn out2 ((i + 1 : Nat) : Int) n (mkE es)) (puts out2 ((List.range' (i + 1) d).flatMap (rndB es o first u at_ met turn))) := fun out2 ha2 ho2 =>
      spec_walk_ev first hf (u + 1) hu6 d (i + 1) at_ met turn out2 (by omega) hu hm ht inv ha2 (by simp only [Nat.add_sub_cancel]; rw [List.length_append] at hl; omega)
    rw [List.length_append] at hl
    refine Ev.step (fun k => by simp only [spec_l5Walk.l0, hc, z, if_true, e0, Option.bind_some, wrap_add i (lt62 (show i < 32 by omega)), shl_one i (by omega)]; rfl) ?_
    by_cases c1 : (arcAt es o i).1 = at_
    · have c1' : (((arcAt es o i).1 : Int) = (at_ : Int)) = True := eq_true (by rw [c1])
      simp only [c1', if_true]
      by_cases c2 : (arcAt es o i).2 = first
      · have c2' : (((arcAt es o i).2 : Int) = (first : Int)) = True := eq_true (by rw [c2])
        have c3' : (((arcAt es o i).2 : Int) > (first : Int)) = False := eq_false (by omega)
        have hB : rndB es o first u at_ met turn i = [((o ^^^ (turn ||| 2 ^ i) : Nat) : Int)] := by unfold rndB; rw [if_pos c1, if_pos c2]
        have hoi : o < 1024 := by omega
        simp only [c2', c3', if_true, if_false, or_nat turn (2 ^ i) (Nat.lt_trans ht (by decide)) (Nat.lt_trans (Nat.pow_lt_pow_right (by decide) (show i < 20 by omega)) (by decide)), xor_nat o (turn ||| 2 ^ i) (Nat.lt_trans hoi (by decide)) (Nat.lt_trans (or_pow_lt ht (by omega)) (by decide))]
        rw [hB] at key ⊢
        refine Ev.bind (l5Put_ev ha (by omega) _) ?_
        exact key _ (ha.put _) (put_len _ _)
      · have c2' : (((arcAt es o i).2 : Int) = (first : Int)) = False := eq_false (by omega)
        simp only [c2', if_false]
        by_cases c3 : first < (arcAt es o i).2
        · have c3' : (((arcAt es o i).2 : Int) > (first : Int)) = True := eq_true (by omega)
          have c4' : ((0 : Int) ≤ ((arcAt es o i).2 : Int)) = True := eq_true (Int.natCast_nonneg _)
          simp only [c3', c4', if_true, bit_nat met (arcAt es o i).2 (lt62 hm) (by omega)]
          cases c5 : met.testBit (arcAt es o i).2 with
          | true =>
            have hB : rndB es o first u at_ met turn i = [] := by unfold rndB; rw [if_pos c1, if_neg c2, if_neg (fun h => by rw [c5] at h; exact absurd h.2 (by decide))]
            simp only [bT, Int.one_ne_zero, if_false]
            rw [hB] at key ⊢
            exact key out ha (by simp)
          | false =>
            have hB : rndB es o first u at_ met turn i = rndL es o first u (arcAt es o i).2 (met ||| 2 ^ (arcAt es o i).2) (turn ||| 2 ^ i) := by unfold rndB; rw [if_pos c1, if_neg c2, if_pos ⟨c3, c5⟩]
            simp only [bF, if_true]
            have hun := unm_or hn hm hb2 c5
            obtain ⟨u1, rfl⟩ : ∃ u1, u = u1 + 1 := ⟨u - 1, by omega⟩
            have h1 := spec_walk_ev first hf (u1 + 1) (by omega) es.length 0 (arcAt es o i).2 (met ||| 2 ^ (arcAt es o i).2) (turn ||| 2 ^ i) out (by omega) (by omega) (pow_or_lt hm (by omega)) (or_pow_lt ht (by omega)) (inv.go c1 c5) ha
            simp only [Nat.add_sub_cancel] at h1
            rw [← rndL_succ, ← hB] at h1
            have h1' := h1 (by omega)
            rw [shl_one (arcAt es o i).2 (by omega), or_nat met (2 ^ (arcAt es o i).2) (lt62 hm) (Nat.lt_trans (Nat.pow_lt_pow_right (by decide) (show (arcAt es o i).2 < 20 by omega)) (by decide)), or_nat turn (2 ^ i) (Nat.lt_trans ht (by decide)) (Nat.lt_trans (Nat.pow_lt_pow_right (by decide) (show i < 20 by omega)) (by decide))]
            refine Ev.bind (Ev.step (fun k => by simp only [spec_l5Walk.f]; rfl) h1') ?_
            exact key _ (puts_asc _ ha) (puts_len _ _)
        · have c3' : (((arcAt es o i).2 : Int) > (first : Int)) = False := eq_false (by omega)
          have hB : rndB es o first u at_ met turn i = [] := by unfold rndB; rw [if_pos c1, if_neg c2, if_neg (fun h => c3 h.1)]
          simp only [c3', if_false]
          rw [hB] at key ⊢
          exact key out ha (by simp)
    · have c1' : (((arcAt es o i).1 : Int) = (at_ : Int)) = False := eq_false (by omega)
      have hB : rndB es o first u at_ met turn i = [] := by unfold rndB; rw [if_neg c1]
      simp only [c1', if_false]
      rw [hB] at key ⊢
      exact key out ha (by simp)
omit hv ho in
/-- All rounds whose least node is among those from v on. -/
theorem rnds_len (es : List (Nat × Nat)) (hes : es.length ≤ 10) (o : Nat) (d v : Nat) (hd : d ≤ 5) : ((List.range' v d).flatMap fun v => rndL es o v 6 v (2 ^ v) 0).length ≤ 8857805 := by
  have h := flat_len (B := 11 ^ 6) (List.range' v d) (f := fun v => rndL es o v 6 v (2 ^ v) 0) (fun i _ => rndL_len es hes o i 6 i (2 ^ i) 0)
  rw [List.length_range'] at h
  exact Nat.le_trans h (Nat.le_trans (Nat.mul_le_mul_right _ hd) (by decide))
theorem impl_byRounds_loop : ∀ d v out, v + d = n → out.length + ((List.range' v d).flatMap fun v => rndL es o v 6 v (2 ^ v) 0).length < 100000000 → Ev (fun k => impl_byRounds.l0 n (mkE es) o k v out) (out ++ (List.range' v d).flatMap fun v => rndL es o v 6 v (2 ^ v) 0)
  | 0, v, out, hd, hl => by
    have : v = n := by omega
    subst this
    refine Ev.step (fun k => by simp only [impl_byRounds.l0, Int.lt_irrefl, if_false]; rfl) ?_
    simp only [List.range'_zero, List.flatMap_nil, List.append_nil]
    exact Ev.now _
  | d + 1, v, out, hd, hl => by
    have hn := hv.le
    have c1 : ((v : Int) < (n : Int)) = True := eq_true (by omega)
    have z : ((0 : Int) ≤ (v : Int)) = True := eq_true (Int.natCast_nonneg _)
    rw [List.range'_succ, List.flatMap_cons, List.length_append] at hl
    rw [List.range'_succ, List.flatMap_cons, ← List.append_assoc]
    refine Ev.step (fun k => by simp only [impl_byRounds.l0, c1, z, if_true, shl_one v (by omega), wrap_add v (lt62 (show v < 32 by omega))]; rfl) ?_
    have hu := unm_le n (2 ^ v)
    have e6 : (List.range' 0 es.length).flatMap (rndB es o v (6 - 1) v (2 ^ v) 0) = rndL es o v 6 v (2 ^ v) 0 := rfl
    have h1 := impl_turn_ev hv ho v (by omega) 6 (Nat.le_refl _) es.length 0 v (2 ^ v) 0 out (by omega) (by omega) (Nat.lt_of_lt_of_le (Nat.pow_lt_pow_right (by decide) (show v < 5 by omega)) (by decide)) (by decide) (TInv.start es o v) (by rw [e6]; omega)
    rw [e6] at h1
    refine Ev.bind h1 ?_
    exact impl_byRounds_loop d (v + 1) _ (by omega) (by rw [List.length_append]; omega)
theorem spec_l5Rounds_loop : ∀ d v out, v + d = n → Asc out → out.length + ((List.range' v d).flatMap fun v => rndL es o v 6 v (2 ^ v) 0).length < 100000000 → Ev (fun k => spec_l5Rounds.l0 k o out v n (mkE es)) (puts out ((List.range' v d).flatMap fun v => rndL es o v 6 v (2 ^ v) 0))
  | 0, v, out, hd, ha, hl => by
    have : v = n := by omega
    subst this
    refine Ev.step (fun k => by simp only [spec_l5Rounds.l0, Int.lt_irrefl, if_false]; rfl) ?_
    simp only [List.range'_zero, List.flatMap_nil, puts, List.foldl_nil]
    exact Ev.now _
  | d + 1, v, out, hd, ha, hl => by
    have hn := hv.le
    have c1 : ((v : Int) < (n : Int)) = True := eq_true (by omega)
    have z : ((0 : Int) ≤ (v : Int)) = True := eq_true (Int.natCast_nonneg _)
    rw [List.range'_succ, List.flatMap_cons, List.length_append] at hl
    rw [List.range'_succ, List.flatMap_cons, puts_app]
    refine Ev.step (fun k => by simp only [spec_l5Rounds.l0, c1, z, if_true, shl_one v (by omega), wrap_add v (lt62 (show v < 32 by omega))]; rfl) ?_
    have hu := unm_le n (2 ^ v)
    have e6 : (List.range' 0 es.length).flatMap (rndB es o v (6 - 1) v (2 ^ v) 0) = rndL es o v 6 v (2 ^ v) 0 := rfl
    have h1 := spec_walk_ev hv ho v (by omega) 6 (Nat.le_refl _) es.length 0 v (2 ^ v) 0 out (by omega) (by omega) (Nat.lt_of_lt_of_le (Nat.pow_lt_pow_right (by decide) (show v < 5 by omega)) (by decide)) (by decide) (TInv.start es o v) ha (by rw [e6]; omega)
    rw [e6] at h1
    refine Ev.bind (Ev.step (fun k => by simp only [spec_l5Walk.f]; rfl) h1) ?_
    exact spec_l5Rounds_loop d (v + 1) _ (by omega) (puts_asc _ ha) (by have := puts_len (rndL es o v 6 v (2 ^ v) 0) out; omega)
/-- All directions with one round turned. -/
def rounds (n : Nat) (es : List (Nat × Nat)) (o : Nat) : List Int := puts [] ((List.range' 0 n).flatMap fun v => rndL es o v 6 v (2 ^ v) 0)
theorem impl_byRounds_ev : Ev (fun k => impl_byRounds.f k n (mkE es) o) (rounds n es o) := by
  have h := rnds_len es hv.len o n 0 hv.le
  unfold impl_byRounds.f
  refine Ev.bind (impl_byRounds_loop hv ho n 0 [] (by omega) (by simp only [List.length_nil]; omega)) ?_
  rw [List.nil_append]
  exact Ev.some_ fun k => distinct_eq k _ (by omega)
theorem spec_l5Rounds_ev : Ev (fun k => spec_l5Rounds.f k n (mkE es) o) (rounds n es o) := by
  have h := rnds_len es hv.len o n 0 hv.le
  unfold spec_l5Rounds.f
  exact spec_l5Rounds_loop hv ho n 0 [] (by omega) (by simp [Asc]) (by simp only [List.length_nil]; omega)
end
theorem rounds_len (n : Nat) (es : List (Nat × Nat)) (hes : es.length ≤ 10) (o : Nat) (h : n ≤ 5) : (rounds n es o).length ≤ 8857805 := by
  have h1 := puts_len ((List.range' 0 n).flatMap fun v => rndL es o v 6 v (2 ^ v) 0) []
  have h3 := rnds_len es hes o n 0 h
  unfold rounds
  simp only [List.length_nil] at h1
  omega
theorem or_pow_lt2 {m t i : Nat} (ht : t < 2 ^ m) (hi : i < m) : t ||| 2 ^ i < 2 ^ m := Nat.or_lt_two_pow ht (Nat.pow_lt_pow_right (by decide) hi)
/-- What is listed are directions. -/
theorem rndL_dir (es : List (Nat × Nat)) {o : Nat} (ho : o < 2 ^ es.length) (first : Nat) : ∀ u a m t, t < 2 ^ es.length → ∀ x ∈ rndL es o first u a m t, ∃ y : Nat, x = y ∧ y < 2 ^ es.length
  | 0, _, _, _, _, x, hx => by simp [rndL] at hx
  | u + 1, a, m, t, ht, x, hx => by
    rw [rndL_succ, List.mem_flatMap] at hx
    obtain ⟨i, hi, hx⟩ := hx
    have hi' : i < es.length := by rw [List.mem_range'] at hi; obtain ⟨j, hj, rfl⟩ := hi; omega
    unfold rndB at hx
    split at hx
    · split at hx
      · exact ⟨_, List.mem_singleton.1 hx, Nat.xor_lt_two_pow ho (or_pow_lt2 ht hi')⟩
      · split at hx
        · exact rndL_dir es ho first u _ _ _ (or_pow_lt2 ht hi') x hx
        · simp at hx
    · simp at hx
theorem rounds_dir (n : Nat) {es : List (Nat × Nat)} {o : Nat} (ho : o < 2 ^ es.length) : ∀ x ∈ rounds n es o, ∃ y : Nat, x = y ∧ y < 2 ^ es.length := by
  intro x hx
  rcases (mem_puts _ _ _).1 hx with h | h
  · simp at h
  · obtain ⟨v, _, h⟩ := List.mem_flatMap.1 h
    exact rndL_dir es ho v 6 v (2 ^ v) 0 (Nat.two_pow_pos _) x h
theorem rounds_asc (n : Nat) (es : List (Nat × Nat)) (o : Nat) : Asc (rounds n es o) := puts_asc _ (by simp [Asc])
theorem dirs_len {m : Nat} {l : List Int} (hm : m ≤ 10) (ha : Asc l) (h : ∀ x ∈ l, ∃ y : Nat, x = y ∧ y < 2 ^ m) : l.length ≤ 1024 := by
  have h1 := asc_len (N := 1024) (lo := 0) ha (by decide) (fun x hx => by
    obtain ⟨y, rfl, hy⟩ := h x hx
    have := two_len hm
    omega)
  omega
theorem rounds_len2 {n : Nat} {es : List (Nat × Nat)} (hv : Val n es) {o : Nat} (ho : o < 2 ^ es.length) : (rounds n es o).length ≤ 1000000 := Nat.le_trans (dirs_len hv.len (rounds_asc n es o) (rounds_dir n ho)) (by decide)
end Go.Proofs.Ytkgfkhhjpipngaa.Q
