/- For a plain direction PlainOrder tells the order that sorted finds. The graph is valid. -/
import Derived.Test.YtfijegfjpagjoaaQPlainS
import Derived.Test.YtfijegfjpagjoaaG35
namespace Go.Proofs.Ytfijegfjpagjoaa.Q
open Go.RowKit Go.Proofs.Ytfijegfjpagjoaa.G Go.Proofs.YtfijegfjpagjoaaW.PrintWords Go.Proofs.YtfijegfjpagjoaaW.PrintLast Go.Proofs.YtfijegfjpagjoaaW.PrintMore
set_option linter.unusedVariables false
set_option linter.unusedSimpArgs false
/-- What is left. -/
def rest (n m : Nat) : Nat := (2 ^ n - 1) &&& ((2 ^ n - 1) ^^^ m)
theorem full_bit (n v : Nat) : (2 ^ n - 1).testBit v = decide (v < n) := by rw [Nat.testBit_two_pow_sub_one]
theorem rest_bit (n m v : Nat) : (rest n m).testBit v = (decide (v < n) && !m.testBit v) := by
  unfold rest
  rw [Nat.testBit_and, Nat.testBit_xor, full_bit]
  cases decide (v < n) <;> simp
theorem rest_lt (n m : Nat) : rest n m < 2 ^ n := Nat.lt_of_le_of_lt Nat.and_le_left (Nat.sub_lt (Nat.two_pow_pos n) (by decide))
theorem rest_step (n m v : Nat) : rest n m &&& (rest n m ^^^ 2 ^ v) = rest n (m ||| 2 ^ v) := by
  apply Nat.eq_of_testBit_eq
  intro w
  rw [xor_pow_bit, rest_bit, rest_bit, Nat.testBit_or, Nat.testBit_two_pow]
  cases decide (w < n) <;> cases m.testBit w <;> cases decide (v = w) <;> rfl
section
variable {n : Nat} {es : List (Nat × Nat)} (hv : Val n es)
include hv
theorem free_flag {o : Nat} (ho : o < 2 ^ es.length) {m v : Nat} (hvn : v < n) : ((rest n m).testBit v && !(arcs es o).any (fun e => e.2 == v && (rest n m).testBit e.1)) = rdy (nxt n ((arcs es o).map swp)) m v := by
  rw [Bool.eq_iff_iff, rdy_iff, Bool.and_eq_true, rest_bit, Bool.not_eq_true', List.any_eq_false]
  simp only [hvn, decide_true, Bool.true_and, Bool.not_eq_true']
  constructor
  · rintro ⟨h1, h2⟩
    refine ⟨h1, fun u hu => ?_⟩
    rw [in_bit hv ho] at hu
    have hm := (adj_iff _ _ _).1 hu
    have := h2 (u, v) hm
    have hun := (adj_lt hv o u v hu).1
    simp only [beq_self_eq_true, Bool.true_and, rest_bit, hun, decide_true, Bool.not_eq_true'] at this
    cases hb : m.testBit u with
    | true => rfl
    | false => rw [hb] at this; simp at this
  · rintro ⟨h1, h2⟩
    refine ⟨h1, fun e he hc => ?_⟩
    simp only [Bool.and_eq_true, beq_iff_eq, rest_bit, Bool.not_eq_true', decide_eq_true_eq] at hc
    obtain ⟨rfl, _, hb⟩ := hc
    have := h2 e.1 (by rw [in_bit hv ho]; exact (adj_iff _ _ _).2 he)
    rw [hb] at this; exact absurd this (by decide)
theorem porder_l2 {o : Nat} (ho : o < 2 ^ es.length) (R : Nat) (hR : R < 32) (order : List Int) (c : Int) (v : Nat) (hvn : v < n) (r : List Int × Bool) (fl : Bool) (he : Ev (fun k => spec_PlainOrder.l1 k o order (R : Int) (if fl = true then (v : Int) else c) ((v : Int) - 1) n (mkE es)) r) :
    ∀ (d i : Nat) (b : Bool), i + d = es.length → (b && !((arcs es o).drop i).any (fun e => e.2 == v && R.testBit e.1)) = fl → Ev (fun k => spec_PlainOrder.l2 k o order (R : Int) c (v : Int) b (i : Int) n (mkE es)) r
  | 0, i, b, h, hb => by
    have h5 := hv.le
    rw [List.drop_of_length_le (by rw [arcs_length]; omega)] at hb
    have e1 : wrap64 ((v : Int) - 1) = (v : Int) - 1 := wrap_int _ (by omega) (by omega)
    have hb' : b = fl := by simpa using hb
    subst hb'
    refine Ev.step (fun k => ?_) he
    simp only [spec_PlainOrder.l2]
    rw [if_neg (by rw [mkE_length]; omega), e1]
    cases b <;> simp
  | d + 1, i, b, h, hb => by
    have hi : i < es.length := by omega
    have hl := hv.len
    have h5 := hv.le
    have e1 : wrap64 ((i : Int) + 1) = ((i + 1 : Nat) : Int) := wrap_add _ (lt62 (by omega))
    have hbd := arcs_bd hv (o := o) i hi
    rw [List.drop_eq_getElem_cons (by rw [arcs_length]; exact hi), List.any_cons] at hb
    have hee := spec_ends_eq hv ho i hi
    generalize (arcs es o)[i]'(by rw [arcs_length]; exact hi) = x at hbd hee hb
    have pre : ∀ k, spec_PlainOrder.l2 (k + 1) o order (R : Int) c (v : Int) b (i : Int) n (mkE es) = spec_PlainOrder.l2 k o order (R : Int) c (v : Int) (b && !(x.2 == v && R.testBit x.1)) ((i + 1 : Nat) : Int) n (mkE es) := by
      intro k
      simp only [spec_PlainOrder.l2]
      rw [if_pos (by rw [mkE_length]; omega), hee]
      simp only [Option.bind_some]
      by_cases hx : x.2 = v
      · rw [if_pos (by rw [hx]), if_pos (Int.natCast_nonneg _), bit_nat R x.1 (lt62 hR) (by omega), e1]
        cases hbit : R.testBit x.1 with
        | true => rw [if_pos (by decide)]; simp [hx]
        | false => rw [if_neg (by decide)]; simp
      · rw [if_neg (show ¬ ((x.2 : Nat) : Int) = (v : Int) from fun h => hx (Int.ofNat.inj h)), e1]
        have : (x.2 == v) = false := by rw [beq_eq_false_iff_ne]; exact hx
        simp [this]
    refine Ev.step pre (porder_l2 ho R hR order c v hvn r fl he d (i + 1) _ (by omega) ?_)
    rw [← hb, Bool.not_or, Bool.and_assoc]
theorem porder_l1 {o : Nat} (ho : o < 2 ^ es.length) (m : Nat) (order : List Int) (r : List Int × Bool)
    (he : Ev (fun k => if order.length < 17592186044416 then (if 0 ≤ cand (fstN (nxt n ((arcs es o).map swp)) m 0 n) then spec_PlainOrder.l0 k o (order ++ [cand (fstN (nxt n ((arcs es o).map swp)) m 0 n)]) (Go.bits .andNot .i64 ((rest n m : Nat) : Int) (shl .i64 1 (cand (fstN (nxt n ((arcs es o).map swp)) m 0 n)))) n (mkE es) else none) else none) r) :
    ∀ j : Nat, j ≤ n → Ev (fun k => spec_PlainOrder.l1 k o order ((rest n m : Nat) : Int) (cand (fstN (nxt n ((arcs es o).map swp)) m j (n - j))) ((j : Int) - 1) n (mkE es)) r
  | 0, hj => by
    refine Ev.step (fun k => ?_) he
    simp only [spec_PlainOrder.l1]
    rw [if_neg (by omega)]
    rfl
  | j + 1, hj => by
    have ih := porder_l1 ho m order r he j (by omega)
    have h5 := hv.le
    have hR : rest n m < 32 := Nat.lt_of_lt_of_le (rest_lt n m) (two_n h5)
    have e0 : ((j + 1 : Nat) : Int) - 1 = (j : Int) := by omega
    have hd : n - j = (n - (j + 1)) + 1 := by omega
    have hfst : fstN (nxt n ((arcs es o).map swp)) m j (n - j) = cond (rdy (nxt n ((arcs es o).map swp)) m j) (some j) (fstN (nxt n ((arcs es o).map swp)) m (j + 1) (n - (j + 1))) := by rw [hd]; rfl
    rw [hfst] at ih
    rw [e0]
    have hfl := free_flag hv ho (m := m) (v := j) (by omega)
    refine Ev.step (fun k => ?_) (porder_l2 hv ho (rest n m) hR order (cand (fstN (nxt n ((arcs es o).map swp)) m (j + 1) (n - (j + 1)))) j (by omega) r (rdy (nxt n ((arcs es o).map swp)) m j) ?_ es.length 0 ((rest n m).testBit j) (by omega) (by rw [List.drop_zero]; exact hfl))
    · simp only [spec_PlainOrder.l1]
      rw [if_pos (Int.natCast_nonneg j), if_pos (Int.natCast_nonneg j), bit_nat _ j (lt62 hR) (by omega), toNat_beq1]
      rfl
    · cases hr : rdy (nxt n ((arcs es o).map swp)) m j with
      | true => rw [hr] at ih; simp only [if_true]; exact ih
      | false => rw [hr] at ih; simp only [Bool.false_eq_true, if_false]; exact ih
theorem porder_l0 {o : Nat} (ho : o < 2 ^ es.length) (r : List Nat) (hrn : r.length = n) : ∀ (f : Nat) (l : List Nat) (m : Nat), Srt (nxt n ((arcs es o).map swp)) n l m → sortN (nxt n ((arcs es o).map swp)) n f l m = some r → Ev (fun k => spec_PlainOrder.l0 k o (I l) ((rest n m : Nat) : Int) n (mkE es)) (I r, true)
  | 0, l, m, hS, h => by simp [sortN] at h
  | f + 1, l, m, hS, h => by
    have h5 := hv.le
    have hR : rest n m < 32 := Nat.lt_of_lt_of_le (rest_lt n m) (two_n h5)
    have hll : l.length ≤ 10 := by rw [hS.len]; exact popc_le 10 m
    simp only [sortN] at h
    by_cases h0 : rest n m = 0
    · have hno : fstN (nxt n ((arcs es o).map swp)) m 0 n = none := by
        cases hc : fstN (nxt n ((arcs es o).map swp)) m 0 n with
        | none => rfl
        | some v =>
          have hvn := fstN_lt _ m n 0 v hc
          have h1 := ((rdy_iff _ m v).1 (fstN_some n 0 hc)).1
          have hb := rest_bit n m v
          rw [h0, Nat.zero_testBit, h1] at hb
          simp at hb; omega
      rw [hno] at h
      have : l = r := Option.some.inj h
      subst this
      refine Ev.step (f := fun _ => some (I l, true)) (fun k => ?_) (Ev.now _)
      simp only [spec_PlainOrder.l0]
      rw [h0]
      rfl
    · have e1 : wrap64 ((n : Int) - 1) = (n : Int) - 1 := wrap_int _ (by omega) (by omega)
      have hn0 : fstN (nxt n ((arcs es o).map swp)) m n (n - n) = none := by rw [Nat.sub_self]; rfl
      cases hc : fstN (nxt n ((arcs es o).map swp)) m 0 n with
      | none =>
        rw [hc] at h
        have : l = r := Option.some.inj h
        subst this
        exfalso
        have hp := (pop_bd n (by omega) m hS.lt).2.1 (by rw [← hS.len]; exact hrn)
        apply h0
        apply Nat.eq_of_testBit_eq
        intro w
        rw [rest_bit, hp, full_bit, Nat.zero_testBit]
        cases decide (w < n) <;> rfl
      | some v =>
        rw [hc] at h
        have hvn := fstN_lt _ m n 0 v hc
        refine Ev.step (fun k => ?_) (porder_l1 hv ho m (I l) (I r, true) ?_ n (Nat.le_refl n))
        · simp only [spec_PlainOrder.l0, hn0]
          rw [if_pos (by omega), e1]
          rfl
        · have e3 : (I l).length < 17592186044416 := by rw [I_length]; omega
          have e4 : I l ++ [(v : Int)] = I (l ++ [v]) := by simp [I]
          simp only [hc, cand, e3, if_true, Int.natCast_nonneg, e4, shl_one v (by omega), andNot_nat (rest n m) (2 ^ v) (lt62 hR) (lt62 (two_lt_32 (by omega))), rest_step]
          exact porder_l0 ho r hrn f (l ++ [v]) (m ||| 2 ^ v) (hS.snoc h5 (by omega) (fstN_some n 0 hc)) h
theorem spec_PlainOrder_ev {o : Nat} (ho : o < 2 ^ es.length) (hp : plainB n (arcs es o) = true) : Ev (fun k => spec_PlainOrder.f k n (mkE es) o) (I (order n (arcs es o)), true) := by
  have h5 := hv.le
  have h32 := two_n h5
  have hpos := Nat.two_pow_pos n
  unfold spec_PlainOrder.f
  simp only [Option.bind_some]
  have hP : Ev (fun k => spec_PlainIn.f k n (mkE es) o) true := by
    unfold spec_PlainIn.f
    refine Ev.bind (spec_WayIn_yes hv ho) ?_
    simp only [if_true]
    exact Ev.bind (spec_l2Plain_ev hv ho) (Ev.eq_ (Ev.now _) hp)
  refine Ev.bind hP ?_
  have e : wrap64 (((2 ^ n : Nat) : Int) - 1) = ((2 ^ n - 1 : Nat) : Int) := by generalize 2 ^ n = N at *; unfold wrap64; omega
  simp only [if_true, Int.natCast_nonneg, shl_n hv, e]
  have h0 : Srt (nxt n ((arcs es o).map swp)) n [] 0 := ⟨Nat.two_pow_pos n, fun v => by simp, by decide, by simp, fun l1 v l2 h => by simp at h⟩
  have hr0 : rest n 0 = 2 ^ n - 1 := by unfold rest; rw [Nat.xor_zero, Nat.and_self]
  have h := porder_l0 hv ho (order n (arcs es o)) (Nat.eq_of_beq_eq_true hp) 6 [] 0 h0 (order_facts hv ho).1
  rw [hr0] at h
  exact h
theorem spec_PlainOrder_no {o : Nat} (ho : o < 2 ^ es.length) (hp : plainB n (arcs es o) = false) : Ev (fun k => spec_PlainOrder.f k n (mkE es) o) ([], false) := by
  unfold spec_PlainOrder.f
  simp only [Option.bind_some]
  have hP : Ev (fun k => spec_PlainIn.f k n (mkE es) o) false := by
    unfold spec_PlainIn.f
    refine Ev.bind (spec_WayIn_yes hv ho) ?_
    simp only [if_true]
    exact Ev.bind (spec_l2Plain_ev hv ho) (Ev.eq_ (Ev.now _) hp)
  refine Ev.bind hP ?_
  simp only [Bool.false_eq_true, if_false]
  exact Ev.now _
end
end Go.Proofs.Ytfijegfjpagjoaa.Q
