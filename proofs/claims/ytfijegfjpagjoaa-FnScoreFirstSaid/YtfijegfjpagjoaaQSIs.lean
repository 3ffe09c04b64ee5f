/- Rows of directions pass ScoreIs. The graph is valid. -/
import Derived.Test.YtfijegfjpagjoaaQOut
import Derived.Test.YtfijegfjpagjoaaG48
namespace Go.Proofs.Ytfijegfjpagjoaa.Q
open Go.RowKit Go.Proofs.Ytfijegfjpagjoaa.G Go.Proofs.YtfijegfjpagjoaaW.PrintWords Go.Proofs.YtfijegfjpagjoaaW.PrintLast Go.Proofs.YtfijegfjpagjoaaW.PrintMore
set_option linter.unusedVariables false
set_option linter.unusedSimpArgs false
set_option linter.unusedSectionVars false
theorem deg_foldC (v : Nat) : ∀ (ar : List (Nat × Nat)) (t : List Nat), (∀ e ∈ ar, e.1 < t.length) → (ar.foldl degStep t).getD v 0 = t.getD v 0 + ar.countP fun e => e.1 == v
  | [], t, _ => by simp
  | e :: r, t, h => by
    have he := h e List.mem_cons_self
    have hl : (degStep t e).length = t.length := by simp [degStep]
    rw [List.foldl_cons, deg_foldC v r _ (fun x hx => by rw [hl]; exact h x (List.mem_cons_of_mem _ hx)), List.countP_cons]
    have hg : (degStep t e).getD v 0 = t.getD v 0 + if (e.1 == v) = true then 1 else 0 := by
      unfold degStep
      by_cases hv : e.1 = v
      · subst hv
        rw [if_pos (by simp), List.getD_eq_getElem?_getD, List.getElem?_set_self he]; rfl
      · rw [if_neg (by simpa using hv), List.getD_eq_getElem?_getD, List.getElem?_set_ne hv, ← List.getD_eq_getElem?_getD]; rfl
    rw [hg]; omega
/-- The sum over the nodes of a set, from the node i on. -/
def sumS (ds : List Nat) (set : Nat) : Nat → Nat → Nat
  | _, 0 => 0
  | i, d + 1 => ds.getD i 0 * (set.testBit i).toNat + sumS ds set (i + 1) d
def sumC (ar : List (Nat × Nat)) (set : Nat) : Nat → Nat → Nat
  | _, 0 => 0
  | i, d + 1 => (ar.countP fun e => e.1 == i) * (set.testBit i).toNat + sumC ar set (i + 1) d
theorem sumC_nil (set : Nat) : ∀ d i, sumC [] set i d = 0
  | 0, _ => rfl
  | d + 1, i => by simp only [sumC]; rw [sumC_nil set d]; simp
theorem sumC_cons (e : Nat × Nat) (t : List (Nat × Nat)) (set : Nat) : ∀ d i, sumC (e :: t) set i d = sumC t set i d + if i ≤ e.1 ∧ e.1 < i + d then (set.testBit e.1).toNat else 0
  | 0, i => by
    have h1 : ¬ (i ≤ e.1 ∧ e.1 < i + 0) := by omega
    simp only [sumC]; rw [if_neg h1]
  | d + 1, i => by
    simp only [sumC]
    rw [sumC_cons e t set d (i + 1), List.countP_cons]
    by_cases h : e.1 = i
    · have h1 : ¬ (i + 1 ≤ e.1 ∧ e.1 < i + 1 + d) := by omega
      have h2 : i ≤ e.1 ∧ e.1 < i + (d + 1) := by omega
      rw [if_neg h1, if_pos h2, if_pos (show (e.1 == i) = true by simpa using h), Nat.add_mul, h]; omega
    · rw [if_neg (show ¬ (e.1 == i) = true by simpa using h), Nat.add_zero]
      by_cases h2 : i + 1 ≤ e.1 ∧ e.1 < i + 1 + d
      · have h3 : i ≤ e.1 ∧ e.1 < i + (d + 1) := by omega
        rw [if_pos h2, if_pos h3]; omega
      · have h3 : ¬ (i ≤ e.1 ∧ e.1 < i + (d + 1)) := by omega
        rw [if_neg h2, if_neg h3]; omega
theorem sumC_count (n set : Nat) : ∀ ar : List (Nat × Nat), (∀ e ∈ ar, e.1 < n) → sumC ar set 0 n = ar.countP fun e => set.testBit e.1
  | [], _ => by rw [sumC_nil]; rfl
  | e :: t, h => by
    have he := h e List.mem_cons_self
    rw [sumC_cons, sumC_count n set t (fun x hx => h x (List.mem_cons_of_mem _ hx)), List.countP_cons, if_pos (by omega)]
    cases set.testBit e.1 <;> simp
def insideN (es : List (Nat × Nat)) (set : Nat) : Nat := es.countP fun e => set.testBit e.1 && set.testBit e.2
theorem inside_le (set : Nat) : ∀ (es : List (Nat × Nat)) (o : Nat), insideN es set ≤ (arcs es o).countP fun e => set.testBit e.1
  | [], _ => by simp [insideN]
  | e :: t, o => by
    have ih := inside_le set t (o / 2)
    unfold insideN at ih ⊢
    simp only [arcs]
    rw [List.countP_cons, List.countP_cons]
    have hb : (if (set.testBit e.1 && set.testBit e.2) = true then 1 else 0) ≤ (if set.testBit (if o % 2 = 1 then (e.2, e.1) else e).1 = true then 1 else 0) := by
      by_cases ho : o % 2 = 1
      · rw [if_pos ho]
        cases set.testBit e.1 <;> cases set.testBit e.2 <;> simp
      · rw [if_neg ho]
        cases set.testBit e.1 <;> cases set.testBit e.2 <;> simp
    omega
theorem two_bits (s a b : Nat) (hs : s < 2 ^ 62) (ha : a ≤ 64) (hb : b ≤ 64) : Go.bits .and .i64 (Go.bits .and .i64 (shr .i64 (s : Int) (a : Int)) (shr .i64 (s : Int) (b : Int))) 1 = (((s.testBit a && s.testBit b).toNat : Nat) : Int) := by
  have h1 : s >>> a < 2 ^ 62 := Nat.lt_of_le_of_lt (Nat.shiftRight_le _ _) hs
  have h2 : s >>> b < 2 ^ 62 := Nat.lt_of_le_of_lt (Nat.shiftRight_le _ _) hs
  have h3 : s >>> a &&& s >>> b < 2 ^ 62 := Nat.lt_of_le_of_lt Nat.and_le_left h1
  rw [shr_nat s a ha, shr_nat s b hb, and_nat _ _ h1 h2, show (1 : Int) = ((1 : Nat) : Int) from rfl, and_nat _ _ h3 (by decide)]
  have := testBit_shift (s >>> a &&& s >>> b) 0
  rw [Nat.shiftRight_zero] at this
  rw [this, Nat.testBit_and, Nat.testBit_shiftRight, Nat.testBit_shiftRight, Nat.add_zero, Nat.add_zero]
theorem wrap_two (a b : Nat) (ha : a ≤ 1000) (hb : b ≤ 1000) : wrap64 ((a : Int) + (b : Int)) = ((a + b : Nat) : Int) := by unfold wrap64; omega
theorem wrap_one (a : Nat) (ha : a ≤ 1000) : wrap64 ((a : Int) + 1) = ((a + 1 : Nat) : Int) := wrap_add _ (by omega)
section
variable {n : Nat} {es : List (Nat × Nat)} (hv : Val n es)
include hv
theorem deg_cnt (o v : Nat) (hvn : v < n) : (deg n (arcs es o)).getD v 0 = (arcs es o).countP fun e => e.1 == v := by
  unfold deg
  rw [deg_foldC v _ _ (fun e he => by rw [List.length_replicate]; exact (arcs_mem hv.lt e he).1)]
  have : (List.replicate n 0).getD v 0 = 0 := by rw [List.getD_eq_getElem?_getD, List.getElem?_replicate]; split <;> rfl
  rw [this, Nat.zero_add]
theorem sumS_C (o set : Nat) : ∀ d i, i + d ≤ n → sumS (deg n (arcs es o)) set i d = sumC (arcs es o) set i d
  | 0, i, _ => rfl
  | d + 1, i, h => by
    simp only [sumS, sumC]
    rw [deg_cnt hv o i (by omega), sumS_C o set d (i + 1) (by omega)]
theorem sumS_eq (o set : Nat) : sumS (deg n (arcs es o)) set 0 n = (arcs es o).countP fun e => set.testBit e.1 := by
  rw [sumS_C hv o set n 0 (by omega), sumC_count n set _ (fun e he => (arcs_mem hv.lt e he).1)]
theorem sumS_full (o : Nat) : sumS (deg n (arcs es o)) (2 ^ n - 1) 0 n = es.length := by
  rw [sumS_eq hv]
  rw [← arcs_length es o, List.countP_eq_length]
  intro e he
  rw [Nat.testBit_two_pow_sub_one, decide_eq_true_eq]
  exact (arcs_mem hv.lt e he).1
theorem deg_le (o v : Nat) (hvn : v < n) : (deg n (arcs es o)).getD v 0 ≤ es.length := by
  rw [deg_cnt hv o v hvn, ← arcs_length es o]; exact List.countP_le_length
theorem sis_l2 (ds : List Nat) (S set : Nat) (hS : S ≤ 1000) (hset : set < 32) (hin : insideN es set ≤ S) (r : Bool) (he : Ev (fun k => impl_ScoreIs.l0 k (I ds) (S : Int) ((2 ^ n : Nat) : Int) ((set + 1 : Nat) : Int) n (mkE es)) r) :
    ∀ (d i c : Nat), i + d = es.length → c ≤ i → c + insideN (es.drop i) set = insideN es set → Ev (fun k => impl_ScoreIs.l2 k (I ds) (S : Int) (set : Int) (c : Int) ((2 ^ n : Nat) : Int) (set : Int) (mkE es) ((mkE es).length : Int) (i : Int) n (mkE es)) r
  | 0, i, c, hi, hc, hI => by
    rw [List.drop_of_length_le (by omega)] at hI
    have hI : c = insideN es set := by simpa [insideN] using hI
    have e1 : wrap64 ((set : Int) + 1) = ((set + 1 : Nat) : Int) := wrap_one _ (Nat.le_of_lt (Nat.lt_trans hset (by decide)))
    refine Ev.step (fun k => ?_) he
    simp only [impl_ScoreIs.l2]
    have hi' : i = es.length := hi
    rw [if_neg (by rw [mkE_length, hi']; exact Int.lt_irrefl _), if_neg (show ¬ (S : Int) < (c : Int) by rw [hI]; exact Int.not_lt.2 (Int.ofNat_le.2 hin)), e1]
  | d + 1, i, c, hi, hc, hI => by
    have hl := hv.len
    have h5 := hv.le
    have hie : i < es.length := by clear hI he hin; omega
    have hi10 : i ≤ 1000 := by clear hI he hin; omega
    have hi1 : i + 1 + d = es.length := by clear hI he hin; omega
    have e1 : wrap64 ((i : Int) + 1) = ((i + 1 : Nat) : Int) := wrap_one _ hi10
    have hbd := hv.lt es[i] (List.getElem_mem hie)
    have hrd := rdE_mk (es := es) i hie
    have hlen : (i : Int) < ((mkE es).length : Int) := by rw [mkE_length]; exact Int.ofNat_lt.2 hie
    rw [List.drop_eq_getElem_cons hie] at hI
    unfold insideN at hI
    rw [List.countP_cons] at hI
    generalize es[i] = e at hbd hrd hI
    have hb := two_bits set e.1 e.2 (lt62 hset) (by clear hI he hin; omega) (by clear hI he hin; omega)
    have hc' : c + (if (set.testBit e.1 && set.testBit e.2) = true then 1 else 0) = c + (set.testBit e.1 && set.testBit e.2).toNat := by
      cases set.testBit e.1 && set.testBit e.2 <;> rfl
    have hb1 : (set.testBit e.1 && set.testBit e.2).toNat ≤ 1 := by cases set.testBit e.1 && set.testBit e.2 <;> decide
    have hI2 : c + (set.testBit e.1 && set.testBit e.2).toNat + insideN (es.drop (i + 1)) set = insideN es set := by
      unfold insideN
      rw [← hc', ← hI]
      omega
    generalize (set.testBit e.1 && set.testBit e.2).toNat = q at hb hb1 hI2
    have hcq : c + q ≤ i + 1 := Nat.add_le_add hc hb1
    have e2 : wrap64 ((c : Int) + (q : Int)) = ((c + q : Nat) : Int) := wrap_two c q (Nat.le_trans hc hi10) (Nat.le_trans hb1 (by decide))
    have ih := sis_l2 ds S set hS hset hin r he d (i + 1) (c + q) hi1 hcq hI2
    refine Ev.step (fun k => ?_) ih
    simp only [impl_ScoreIs.l2]
    rw [if_pos hlen, if_pos (Int.natCast_nonneg i), if_pos hlen, hrd]
    dsimp only
    rw [if_pos (Int.natCast_nonneg _), if_pos (Int.natCast_nonneg _), hb, e2, e1]
theorem sis_l1 (ds : List Nat) (hdl : ds.length = n) (hle : ∀ v, v < n → ds.getD v 0 ≤ es.length) (S set : Nat) (hset : set < 32) (r : Bool) (he : Ev (fun k => impl_ScoreIs.l2 k (I ds) (S : Int) (set : Int) 0 ((2 ^ n : Nat) : Int) (set : Int) (mkE es) ((mkE es).length : Int) 0 n (mkE es)) r) :
    ∀ (d i c : Nat), i + d = n → c ≤ 10 * i → c + sumS ds set i d = S → Ev (fun k => impl_ScoreIs.l1 k (I ds) (c : Int) (set : Int) ((2 ^ n : Nat) : Int) (set : Int) (I ds) ((I ds).length : Int) (i : Int) n (mkE es)) r
  | 0, i, c, hi, hc, hS => by
    have hS : c = S := by simpa [sumS] using hS
    subst hS
    refine Ev.step (fun k => ?_) he
    simp only [impl_ScoreIs.l1]
    have hi' : i = n := hi
    rw [if_neg (by rw [I_length, hdl, hi']; exact Int.lt_irrefl _)]
  | d + 1, i, c, hi, hc, hS => by
    have hl := hv.len
    have h5 := hv.le
    have hin : i < n := by clear hS he; omega
    have hi5 : i ≤ 5 := by clear hS he; omega
    have hi1 : i + 1 + d = n := by clear hS he; omega
    have e1 : wrap64 ((i : Int) + 1) = ((i + 1 : Nat) : Int) := wrap_one _ (Nat.le_trans hi5 (by decide))
    have hd := hle i hin
    have hrd : rd (I ds) (i : Int) = ((ds.getD i 0 : Nat) : Int) := rd_nat _ _
    have hbit := bit_nat set i (lt62 hset) (Nat.le_trans hi5 (by decide))
    have hlen : (i : Int) < ((I ds).length : Int) := by rw [I_length, hdl]; exact Int.ofNat_lt.2 hin
    simp only [sumS] at hS
    generalize ds.getD i 0 = x at hd hrd hS
    have hb1 : (set.testBit i).toNat ≤ 1 := by cases set.testBit i <;> decide
    generalize (set.testBit i).toNat = q at hbit hb1 hS
    have hxq : x * q ≤ 10 := by
      have : x * q ≤ x * 1 := Nat.mul_le_mul_left _ hb1
      omega
    have e2 : wrap64 ((x : Int) * (q : Int)) = ((x * q : Nat) : Int) := by
      rw [← Int.natCast_mul]; exact wrap_nat _ (Nat.lt_of_le_of_lt hxq (by decide))
    have hxl : ¬ (x : Int) > ((mkE es).length : Int) := by rw [mkE_length]; exact Int.not_lt.2 (Int.ofNat_le.2 hd)
    have hx0 : ¬ (x : Int) < 0 := Int.not_lt.2 (Int.natCast_nonneg x)
    generalize x * q = y at hxq e2 hS
    have hcy : c + y ≤ 10 * (i + 1) := by clear hS he e2 hxl hx0 hrd hbit; omega
    have e3 : wrap64 ((c : Int) + (y : Int)) = ((c + y : Nat) : Int) := wrap_two c y (by clear hS he e2 hxl hx0 hrd hbit; omega) (Nat.le_trans hxq (by decide))
    have hS2 : c + y + sumS ds set (i + 1) d = S := by rw [← hS, Nat.add_assoc]
    have ih := sis_l1 ds hdl hle S set hset r he d (i + 1) (c + y) hi1 hcy hS2
    refine Ev.step (fun k => ?_) ih
    simp only [impl_ScoreIs.l1]
    rw [if_pos hlen, if_pos (Int.natCast_nonneg i), if_pos hlen, hrd, if_neg hx0, if_neg hxl, hbit, e2, e3, e1]
theorem sumS_le (ds : List Nat) (hle : ∀ v, v < n → ds.getD v 0 ≤ es.length) (set : Nat) : ∀ d i, i + d ≤ n → sumS ds set i d ≤ 10 * d
  | 0, i, _ => Nat.le_refl _
  | d + 1, i, h => by
    have hl := hv.len
    have ih := sumS_le ds hle set d (i + 1) (by omega)
    have hd := hle i (by omega)
    simp only [sumS]
    have hb1 : (set.testBit i).toNat ≤ 1 := by cases set.testBit i <;> decide
    have hxq : ds.getD i 0 * (set.testBit i).toNat ≤ ds.getD i 0 * 1 := Nat.mul_le_mul_left _ hb1
    omega
theorem sis_l0 (o : Nat) : ∀ (d x s : Nat), x + d = 2 ^ n → (0 < x → s = sumS (deg n (arcs es o)) (x - 1) 0 n) → Ev (fun k => impl_ScoreIs.l0 k (I (deg n (arcs es o))) (s : Int) ((2 ^ n : Nat) : Int) (x : Int) n (mkE es)) true
  | 0, x, s, hx, hs => by
    have hp := Nat.two_pow_pos n
    have hx : x = 2 ^ n := hx
    have hs' := hs (by omega)
    rw [hx, sumS_full hv] at hs'
    refine Ev.step (f := fun _ => some true) (fun k => ?_) (Ev.now _)
    simp only [impl_ScoreIs.l0]
    rw [if_neg (by omega), mkE_length, hs', beq_self_eq_true]
  | d + 1, x, s, hx, hs => by
    have h32 := two_n hv.le
    have h5 := hv.le
    have hx32 : x < 32 := by omega
    have hle := fun v hvn => deg_le hv o v hvn
    have hdl := deg_len n (arcs es o)
    have hin : insideN es x ≤ sumS (deg n (arcs es o)) x 0 n := by rw [sumS_eq hv]; exact inside_le x es o
    have hSle := sumS_le hv (deg n (arcs es o)) hle x n 0 (by omega)
    have ih := sis_l0 o d (x + 1) (sumS (deg n (arcs es o)) x 0 n) (by omega) (fun _ => by rw [Nat.add_sub_cancel])
    have h2 := sis_l2 hv (deg n (arcs es o)) _ x (by omega) hx32 hin true ih es.length 0 0 (Nat.zero_add _) (Nat.le_refl _) (by rw [List.drop_zero, Nat.zero_add])
    have h1 := sis_l1 hv (deg n (arcs es o)) hdl hle _ x hx32 true h2 n 0 0 (Nat.zero_add _) (Nat.zero_le _) (Nat.zero_add _)
    refine Ev.step (fun k => ?_) h1
    simp only [impl_ScoreIs.l0]
    rw [if_pos (by omega)]; rfl
theorem impl_ScoreIs_deg (o : Nat) : Ev (fun k => impl_ScoreIs.f k n (mkE es) (I (deg n (arcs es o)))) true := by
  have hp := Nat.two_pow_pos n
  unfold impl_ScoreIs.f
  refine Ev.bind (impl_G hv) ?_
  have hne : (((I (deg n (arcs es o))).length : Int) != (n : Int)) = false := by rw [I_length, deg_len]; simp
  simp only [if_true, hne]
  refine Ev.step (fun k => ?_) (sis_l0 hv o (2 ^ n) 0 0 (Nat.zero_add _) (fun h => absurd h (Nat.lt_irrefl _)))
  simp only [impl_ScoreIs.j0, Bool.false_eq_true, if_false]
  rw [if_pos (Int.natCast_nonneg n), shl_n hv]; rfl
end
end Go.Proofs.Ytfijegfjpagjoaa.Q
