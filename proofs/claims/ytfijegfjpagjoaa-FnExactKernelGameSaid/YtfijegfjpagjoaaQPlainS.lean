/- Plain directions: l2Plain takes all nodes away just if sorted finds an order of all nodes. The graph is valid. -/
import Derived.Test.YtfijegfjpagjoaaQPlain
import Derived.Test.YtfijegfjpagjoaaG35
namespace Go.Proofs.Ytfijegfjpagjoaa.Q
open Go.RowKit Go.Proofs.Ytfijegfjpagjoaa.G Go.Proofs.YtfijegfjpagjoaaW.PrintWords Go.Proofs.YtfijegfjpagjoaaW.PrintLast Go.Proofs.YtfijegfjpagjoaaW.PrintMore
set_option linter.unusedVariables false
set_option linter.unusedSimpArgs false
/-! ### l2Plain -/
def rmV (s : List Nat) (R v : Nat) : Nat := cond (Nat.beq (Nat.land (s.getD v 0) R) 0) (Nat.land R (Nat.xor R (2 ^ v))) R
def rmAll (s : List Nat) : Nat → Nat → Nat → Nat
  | _, 0, R => R
  | v, d + 1, R => rmAll s (v + 1) d (rmV s R v)
def rmN (s : List Nat) (n : Nat) : Nat → Nat → Nat
  | 0, R => R
  | f + 1, R => rmN s n f (rmAll s 0 n R)
theorem and_lt_32 {a : Nat} (b : Nat) (h : a < 32) : a &&& b < 32 := Nat.lt_of_le_of_lt Nat.and_le_left h
theorem rmV_lt (s : List Nat) {R : Nat} (v : Nat) (h : R < 32) : rmV s R v < 32 := by
  unfold rmV
  cases Nat.beq (Nat.land (s.getD v 0) R) 0
  · exact h
  · exact and_lt_32 _ h
theorem rmAll_lt (s : List Nat) : ∀ (d v R : Nat), R < 32 → rmAll s v d R < 32
  | 0, v, R, h => h
  | d + 1, v, R, h => rmAll_lt s d (v + 1) _ (rmV_lt s v h)
section
variable {n : Nat} {es : List (Nat × Nat)} (hv : Val n es)
include hv
theorem rmV_any (o : Nat) (R v : Nat) : rmV (nxt n (arcs es o)) R v = if (arcs es o).any (fun e => e.1 == v && R.testBit e.2) then R else R &&& (R ^^^ 2 ^ v) := by
  have h1 : (arcs es o).any (fun e => e.1 == v && R.testBit e.2) = (out n es o v &&& R != 0) := by
    rw [Bool.eq_iff_iff, and_ne_zero, List.any_eq_true]
    constructor
    · rintro ⟨⟨a, b⟩, hm, h⟩
      simp only [Bool.and_eq_true, beq_iff_eq] at h
      obtain ⟨rfl, hb⟩ := h
      exact ⟨b, by rw [out_bit hv]; exact (adj_iff _ _ _).2 hm, hb⟩
    · rintro ⟨u, hu, hR⟩
      rw [out_bit hv] at hu
      exact ⟨(v, u), (adj_iff _ _ _).1 hu, by simp [hR]⟩
  have h2 : Nat.beq (Nat.land ((nxt n (arcs es o)).getD v 0) R) 0 = !(out n es o v &&& R != 0) := by
    unfold out
    rw [Bool.eq_iff_iff, Nat.beq_eq, Bool.not_eq_true', bne_eq_false_iff_eq]; rfl
  rw [h1, rmV, h2]
  cases (out n es o v &&& R != 0) <;> rfl
theorem l2Plain_l2 {o : Nat} (ho : o < 2 ^ es.length) (R v x6 : Nat) (hR : R < 32) (hvn : v < n) (r : Bool) (he : Ev (fun k => spec_l2Plain.l1 k o ((rmV (nxt n (arcs es o)) R v : Nat) : Int) (x6 : Int) ((v + 1 : Nat) : Int) n (mkE es)) r) :
    ∀ (d i : Nat) (b : Bool), i + d = es.length → (b && !((arcs es o).drop i).any (fun e => e.1 == v && R.testBit e.2)) = !(arcs es o).any (fun e => e.1 == v && R.testBit e.2) → Ev (fun k => spec_l2Plain.l2 k o (R : Int) (x6 : Int) (v : Int) b (i : Int) n (mkE es)) r
  | 0, i, b, h, hb => by
    have h5 := hv.le
    rw [List.drop_of_length_le (by rw [arcs_length]; omega)] at hb
    have e1 : wrap64 ((v : Int) + 1) = ((v + 1 : Nat) : Int) := wrap_add _ (lt62 (by omega))
    rw [rmV_any hv] at he
    refine Ev.step (fun k => ?_) he
    simp only [spec_l2Plain.l2]
    rw [if_neg (by rw [mkE_length]; omega), e1]
    cases hA : (arcs es o).any (fun e => e.1 == v && R.testBit e.2) with
    | true =>
      rw [hA] at hb
      have : b = false := by simpa using hb
      subst this
      simp only [Bool.false_eq_true, if_false, if_true]
    | false =>
      rw [hA] at hb
      have : b = true := by simpa using hb
      subst this
      simp only [Bool.false_eq_true, if_false, if_true]
      rw [if_pos (Int.natCast_nonneg v), shl_one v (by omega), andNot_nat _ _ (lt62 hR) (lt62 (two_lt_32 (by omega)))]
  | d + 1, i, b, h, hb => by
    have hi : i < es.length := by omega
    have hl := hv.len
    have h5 := hv.le
    have e1 : wrap64 ((i : Int) + 1) = ((i + 1 : Nat) : Int) := wrap_add _ (lt62 (by omega))
    have hbd := arcs_bd hv (o := o) i hi
    rw [List.drop_eq_getElem_cons (by rw [arcs_length]; exact hi), List.any_cons] at hb
    have hee := spec_ends_eq hv ho i hi
    generalize (arcs es o)[i]'(by rw [arcs_length]; exact hi) = x at hbd hee hb
    have pre : ∀ k, spec_l2Plain.l2 (k + 1) o (R : Int) (x6 : Int) (v : Int) b (i : Int) n (mkE es) = spec_l2Plain.l2 k o (R : Int) (x6 : Int) (v : Int) (b && !(x.1 == v && R.testBit x.2)) ((i + 1 : Nat) : Int) n (mkE es) := by
      intro k
      simp only [spec_l2Plain.l2]
      rw [if_pos (by rw [mkE_length]; omega), hee]
      simp only [Option.bind_some]
      by_cases hx : x.1 = v
      · rw [if_pos (by rw [hx]), if_pos (Int.natCast_nonneg _), bit_nat R x.2 (lt62 hR) (by omega), e1]
        cases hbit : R.testBit x.2 with
        | true => rw [if_pos (by decide)]; simp [hx]
        | false => rw [if_neg (by decide)]; simp
      · rw [if_neg (show ¬ ((x.1 : Nat) : Int) = (v : Int) from fun h => hx (Int.ofNat.inj h)), e1]
        have : (x.1 == v) = false := by rw [beq_eq_false_iff_ne]; exact hx
        simp [this]
    refine Ev.step pre (l2Plain_l2 ho R v x6 hR hvn r he d (i + 1) _ (by omega) ?_)
    rw [← hb, Bool.not_or, Bool.and_assoc]
theorem l2Plain_l1 {o : Nat} (ho : o < 2 ^ es.length) (x6 : Nat) (hx6 : x6 < 100) (r : Bool) (C : Nat) (he : Ev (fun k => spec_l2Plain.l0 k o (C : Int) ((x6 + 1 : Nat) : Int) n (mkE es)) r) :
    ∀ (d v R : Nat), v + d = n → R < 32 → rmAll (nxt n (arcs es o)) v d R = C → Ev (fun k => spec_l2Plain.l1 k o (R : Int) (x6 : Int) (v : Int) n (mkE es)) r
  | 0, v, R, h, hR, hC => by
    have e1 : wrap64 ((x6 : Int) + 1) = ((x6 + 1 : Nat) : Int) := wrap_add _ (Nat.lt_trans hx6 (by decide))
    have : R = C := hC
    subst this
    refine Ev.step (fun k => ?_) he
    simp only [spec_l2Plain.l1]
    rw [if_neg (by omega), e1]
  | d + 1, v, R, h, hR, hC => by
    refine Ev.step (fun k => ?_) (l2Plain_l2 hv ho R v x6 hR (by omega) r (l2Plain_l1 ho x6 hx6 r C he d (v + 1) _ (by omega) (rmV_lt _ v hR) hC) es.length 0 true (by omega) (by simp))
    simp only [spec_l2Plain.l1]
    rw [if_pos (by omega)]
    rfl
theorem l2Plain_l0 {o : Nat} (ho : o < 2 ^ es.length) (C : Nat) : ∀ (d x6 R : Nat), x6 + d = n → R < 32 → rmN (nxt n (arcs es o)) n d R = C → Ev (fun k => spec_l2Plain.l0 k o (R : Int) (x6 : Int) n (mkE es)) (Nat.beq C 0)
  | 0, x6, R, h, hR, hC => by
    have : R = C := hC
    subst this
    refine Ev.step (f := fun _ => some ((R : Int) == 0)) (fun k => ?_) (Ev.eq_ (Ev.now _) ?_)
    · simp only [spec_l2Plain.l0]
      rw [if_neg (by omega)]
    · rw [Bool.eq_iff_iff, beq_iff_eq, Nat.beq_eq]; exact Int.ofNat_inj (n := 0)
  | d + 1, x6, R, h, hR, hC => by
    have h5 := hv.le
    refine Ev.step (fun k => ?_) (l2Plain_l1 hv ho x6 (by omega) _ _ (l2Plain_l0 ho C d (x6 + 1) _ (by omega) (rmAll_lt _ n 0 R hR) hC) n 0 R (by omega) hR rfl)
    simp only [spec_l2Plain.l0]
    rw [if_pos (by omega)]
    rfl
end
/-! ### Both are the same -/
theorem xor_pow_bit (R v w : Nat) : (R &&& (R ^^^ 2 ^ v)).testBit w = (R.testBit w && !decide (v = w)) := by
  rw [Nat.testBit_and, Nat.testBit_xor, Nat.testBit_two_pow]
  cases R.testBit w <;> simp
theorem rmV_bit (s : List Nat) (R v w : Nat) : (rmV s R v).testBit w = (R.testBit w && !(decide (v = w) && (s.getD v 0 &&& R == 0))) := by
  unfold rmV
  have h : Nat.beq (Nat.land (s.getD v 0) R) 0 = (s.getD v 0 &&& R == 0) := by
    rw [Bool.eq_iff_iff, Nat.beq_eq, beq_iff_eq]; rfl
  rw [h]
  cases (s.getD v 0 &&& R == 0) with
  | true => rw [cond_true, Bool.and_true]; exact xor_pow_bit R v w
  | false => simp
theorem rmV_sub {s : List Nat} {R v w : Nat} (h : (rmV s R v).testBit w = true) : R.testBit w = true := by
  rw [rmV_bit, Bool.and_eq_true] at h; exact h.1
theorem rmAll_sub {s : List Nat} {w : Nat} : ∀ (d v R : Nat), (rmAll s v d R).testBit w = true → R.testBit w = true
  | 0, v, R, h => h
  | d + 1, v, R, h => rmV_sub (rmAll_sub d (v + 1) _ h)
theorem and_zero_iff (x y : Nat) : (x &&& y == 0) = true ↔ ∀ u, x.testBit u = true → y.testBit u = false := by
  have h := and_ne_zero x y
  constructor
  · intro h0 u hx
    cases hy : y.testBit u with
    | false => rfl
    | true =>
      have := h.2 ⟨u, hx, hy⟩
      rw [beq_iff_eq] at h0
      rw [h0] at this
      exact absurd this (by decide)
  · intro h0
    rw [beq_iff_eq]
    apply Classical.byContradiction
    intro hne
    obtain ⟨u, h1, h2⟩ := h.1 (by simpa using hne)
    rw [h0 u h1] at h2; exact absurd h2 (by decide)
/-- A node without edges into the rest is taken away when its turn comes. -/
theorem rmAll_rm {s : List Nat} {v : Nat} : ∀ (d i R : Nat), i ≤ v → v < i + d → (∀ w, (s.getD v 0).testBit w = true → R.testBit w = false) → (rmAll s i d R).testBit v = false
  | 0, i, R, h1, h2, _ => absurd h2 (by omega)
  | d + 1, i, R, h1, h2, h => by
    simp only [rmAll]
    by_cases e : i = v
    · subst e
      have h0 : (rmV s R i).testBit i = false := by
        rw [rmV_bit, (and_zero_iff _ _).2 h]; simp
      cases hb : (rmAll s (i + 1) d (rmV s R i)).testBit i with
      | false => rfl
      | true => rw [rmAll_sub d (i + 1) _ hb] at h0; exact absurd h0 (by decide)
    · refine rmAll_rm d (i + 1) _ (by omega) (by omega) fun w hw => ?_
      cases hb : (rmV s R i).testBit w with
      | false => rfl
      | true => have := rmV_sub hb; rw [h w hw] at this; exact absurd this (by decide)
/-- What stays: a set into which no edge leads from outside, with a node of each set whose nodes are all led to from the set. -/
structure Stay (s : List Nat) (C : Nat → Prop) (R : Nat) : Prop where
  back : ∀ u v, (s.getD u 0).testBit v = true → R.testBit v = true → R.testBit u = true
  some_ : ∃ v, C v ∧ R.testBit v = true
theorem Stay.rmV {s : List Nat} {C : Nat → Prop} (hC : ∀ v, C v → ∃ u, C u ∧ u ≠ v ∧ (s.getD u 0).testBit v = true) {R : Nat} (h : Stay s C R) (v : Nat) : Stay s C (rmV s R v) := by
  constructor
  · intro u w huw hw
    have hwR := rmV_sub hw
    have huR := h.back u w huw hwR
    rw [rmV_bit, huR, Bool.true_and]
    by_cases e : v = u
    · subst e
      have : ¬ (s.getD v 0 &&& R == 0) = true := by
        rw [and_zero_iff]; intro hz; rw [hz w huw] at hwR; exact absurd hwR (by decide)
      rw [Bool.not_eq_true] at this
      rw [this, Bool.and_false]; rfl
    · simp [e]
  · obtain ⟨w, hw, hwR⟩ := h.some_
    by_cases e : v = w
    · subst e
      obtain ⟨u, hu, hne, huv⟩ := hC v hw
      refine ⟨u, hu, ?_⟩
      rw [rmV_bit, h.back u v huv hwR]
      simp [show ¬ v = u from fun e => hne e.symm]
    · refine ⟨w, hw, ?_⟩
      rw [rmV_bit, hwR]; simp [e]
theorem Stay.rmAll {s : List Nat} {C : Nat → Prop} (hC : ∀ v, C v → ∃ u, C u ∧ u ≠ v ∧ (s.getD u 0).testBit v = true) : ∀ (d v R : Nat), Stay s C R → Stay s C (rmAll s v d R)
  | 0, _, _, h => h
  | d + 1, v, R, h => Stay.rmAll hC d (v + 1) _ (h.rmV hC v)
theorem Stay.rmN {s : List Nat} {n : Nat} {C : Nat → Prop} (hC : ∀ v, C v → ∃ u, C u ∧ u ≠ v ∧ (s.getD u 0).testBit v = true) : ∀ (d R : Nat), Stay s C R → Stay s C (rmN s n d R)
  | 0, _, h => h
  | d + 1, R, h => Stay.rmN hC d _ (Stay.rmAll hC n 0 R h)
section
variable {n : Nat} {es : List (Nat × Nat)} (hv : Val n es)
include hv
theorem plain_same {o : Nat} (ho : o < 2 ^ es.length) : Nat.beq (rmN (nxt n (arcs es o)) n n (2 ^ n - 1)) 0 = plainB n (arcs es o) := by
  have hob : ∀ v u, ((nxt n (arcs es o)).getD v 0).testBit u = adj (arcs es o) v u := fun v u => by
    have h := out_bit hv o v u
    unfold out at h
    exact h
  have h5 := hv.le
  cases hp : plainB n (arcs es o) with
  | true =>
    rw [Nat.beq_eq]
    have key : ∀ (k : Nat) (R : Nat), k ≤ n → R < 2 ^ n → (∀ w ∈ (order n (arcs es o)).drop k, R.testBit w = false) → rmN (nxt n (arcs es o)) n k R = 0 := by
      intro k
      induction k with
      | zero =>
        intro R _ hR hd
        apply Nat.eq_of_testBit_eq
        intro w
        rw [Nat.zero_testBit]
        show R.testBit w = false
        by_cases hw : w < n
        · exact hd w (by simpa using (plain_mem hv ho).1 hp w hw)
        · exact Nat.testBit_lt_two_pow (Nat.lt_of_lt_of_le hR (Nat.pow_le_pow_right (by decide) (show n ≤ w by omega)))
      | succ k ih =>
        intro R hk hR hd
        simp only [rmN]
        refine ih _ (by omega) ?_ fun w hw => ?_
        · apply Classical.byContradiction
          intro hge
          obtain ⟨i, hi, hb⟩ := Nat.exists_ge_and_testBit_of_ge_two_pow (show 2 ^ n ≤ _ from Nat.le_of_not_lt hge)
          have := rmAll_sub n 0 R hb
          rw [Nat.testBit_lt_two_pow (Nat.lt_of_lt_of_le hR (Nat.pow_le_pow_right (by decide) hi))] at this
          exact absurd this (by decide)
        · have hlen : (order n (arcs es o)).length = n := Nat.eq_of_beq_eq_true hp
          have hkl : k < (order n (arcs es o)).length := by omega
          rw [List.drop_eq_getElem_cons hkl, List.mem_cons] at hw
          rcases hw with rfl | hw
          · have hsplit : order n (arcs es o) = (order n (arcs es o)).take k ++ (order n (arcs es o))[k] :: (order n (arcs es o)).drop (k + 1) := by
              rw [← List.drop_eq_getElem_cons hkl, List.take_append_drop]
            refine rmAll_rm n 0 R (Nat.zero_le _) (by have := order_lt hv ho _ (List.getElem_mem hkl); omega) fun w hw => ?_
            rw [hob] at hw
            exact hd w (order_after hv ho hp hsplit w hw)
          · cases hb : (rmAll (nxt n (arcs es o)) 0 n R).testBit w with
            | false => rfl
            | true => have := rmAll_sub n 0 R hb; rw [hd w hw] at this; exact absurd this (by decide)
    refine key n _ (Nat.le_refl n) (by have := Nat.two_pow_pos n; omega) fun w hw => ?_
    rw [List.drop_of_length_le (order_len hv ho)] at hw
    exact absurd hw (by simp)
  | false =>
    have hnp : ¬ plainB n (arcs es o) = true := by rw [hp]; decide
    rw [plain_mem hv ho] at hnp
    have hex : ∃ v, v < n ∧ v ∉ order n (arcs es o) := by
      apply Classical.byContradiction
      intro hno
      exact hnp fun v hvn => Classical.byContradiction fun hm => hno ⟨v, hvn, hm⟩
    obtain ⟨v0, hv0, hv0n⟩ := hex
    obtain ⟨_, m, _, hst⟩ := order_facts hv ho
    have hC : ∀ v, (v < n ∧ v ∉ order n (arcs es o)) → ∃ u, (u < n ∧ u ∉ order n (arcs es o)) ∧ u ≠ v ∧ ((nxt n (arcs es o)).getD u 0).testBit v = true := by
      rintro v ⟨h1, h2⟩
      obtain ⟨u, hu, hun⟩ := hst v h1 h2
      have hl := adj_lt hv o u v hu
      exact ⟨u, ⟨hl.1, hun⟩, hl.2.2, by rw [hob]; exact hu⟩
    have hfull : ∀ v, v < n → (2 ^ n - 1).testBit v = true := (full_iff n (2 ^ n - 1) (by have := Nat.two_pow_pos n; omega)).1 rfl
    have hstay : Stay (nxt n (arcs es o)) (fun v => v < n ∧ v ∉ order n (arcs es o)) (2 ^ n - 1) := ⟨fun u v huv _ => hfull u (by rw [hob] at huv; exact (adj_lt hv o u v huv).1), ⟨v0, ⟨hv0, hv0n⟩, hfull v0 hv0⟩⟩
    obtain ⟨w, _, hw⟩ := (Stay.rmN (n := n) hC n _ hstay).some_
    cases hz : Nat.beq (rmN (nxt n (arcs es o)) n n (2 ^ n - 1)) 0 with
    | false => rfl
    | true =>
      have := Nat.eq_of_beq_eq_true hz
      rw [this, Nat.zero_testBit] at hw
      exact absurd hw (by decide)
theorem spec_l2Plain_ev {o : Nat} (ho : o < 2 ^ es.length) : Ev (fun k => spec_l2Plain.f k n (mkE es) o) (plainB n (arcs es o)) := by
  have h5 := hv.le
  have hp := Nat.two_pow_pos n
  have h32 := two_n hv.le
  have h := l2Plain_l0 hv ho _ n 0 (2 ^ n - 1) (by omega) (by omega) rfl
  rw [plain_same hv ho] at h
  refine Ev.congr (fun k => ?_) h
  unfold spec_l2Plain.f
  rw [if_pos (Int.natCast_nonneg n), shl_n hv]
  have : wrap64 (((2 ^ n : Nat) : Int) - 1) = ((2 ^ n - 1 : Nat) : Int) := by generalize 2 ^ n = m at *; unfold wrap64; omega
  rw [this]
  rfl
end
end Go.Proofs.Ytfijegfjpagjoaa.Q
