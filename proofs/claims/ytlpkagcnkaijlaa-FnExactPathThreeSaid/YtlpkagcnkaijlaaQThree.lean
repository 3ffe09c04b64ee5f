/- Both PathThree count the sets of three nodes that are a round. The numbers are of 64 bits. -/
import Derived.Test.YtlpkagcnkaijlaaQBeat
import Derived.Test.YtlpkagcnkaijlaaG20
namespace Go.Proofs.Ytlpkagcnkaijlaa.Q
open Go.RowKit Go.Proofs.Ytlpkagcnkaijlaa.G Go.Proofs.YtlpkagcnkaijlaaW.PrintWords Go.Proofs.YtlpkagcnkaijlaaW.PrintLast Go.Proofs.YtlpkagcnkaijlaaW.PrintMore
set_option linter.unusedVariables false
set_option linter.unusedSimpArgs false
/-- What the program's inmost test says. -/
def thrI (A : Nat → Nat → Bool) (a b c : Nat) : Bool := decide (a < b) && (decide (a < c) && (!decide (b = c) && (A a b && (A b c && A c a))))
def thrS (A : Nat → Nat → Bool) (a b c : Nat) : Bool := (A a b && (A b c && A c a)) || (A a c && (A c b && A b a))
def threeI (A : Nat → Nat → Bool) (n : Nat) : Nat := sm (fun a => sm (fun b => sm (fun c => (thrI A a b c).toNat) 0 n) 0 n) 0 n
def threeS (A : Nat → Nat → Bool) (n : Nat) : Nat := sm (fun a => sm (fun b => sm (fun c => (thrS A a b c).toNat) (b + 1) (n - (b + 1))) (a + 1) (n - (a + 1))) 0 n
theorem thr_eq (A : Nat → Nat → Bool) (has : ∀ a b, A a b = true → A b a = false) (a b c : Nat) : (A a b && (A b c && A c a)).toNat + (A a c && (A c b && A b a)).toNat = (thrS A a b c).toNat := by
  unfold thrS
  cases h1 : A a b with
  | true => rw [has a b h1]; simp
  | false => simp
theorem three_same (A : Nat → Nat → Bool) (has : ∀ a b, A a b = true → A b a = false) {n : Nat} (h1 : 1 ≤ n) (h5 : n ≤ 5) : threeI A n = threeS A n := by
  have T := thr_eq A has
  have hn : n = 1 ∨ n = 2 ∨ n = 3 ∨ n = 4 ∨ n = 5 := by omega
  unfold threeI threeS thrI
  rcases hn with rfl | rfl | rfl | rfl | rfl
  · simp [sm]
  · simp [sm]
  · simp [sm]
    have := T 0 1 2
    omega
  · simp [sm]
    have := T 0 1 2; have := T 0 1 3; have := T 0 2 3; have := T 1 2 3
    omega
  · simp [sm]
    have := T 0 1 2; have := T 0 1 3; have := T 0 1 4; have := T 0 2 3; have := T 0 2 4; have := T 0 3 4; have := T 1 2 3; have := T 1 2 4; have := T 1 3 4; have := T 2 3 4
    omega
theorem sm_toNat_le (f : Nat → Bool) (d i : Nat) : sm (fun c => (f c).toNat) i d ≤ d := by
  have := sm_le (fun c => (f c).toNat) 1 (fun i => by cases f i <;> simp) d i
  omega
theorem threeI_le (A : Nat → Nat → Bool) {n : Nat} (h5 : n ≤ 5) : threeI A n ≤ 1000 := by
  have a1 : ∀ a b, sm (fun c => (thrI A a b c).toNat) 0 n ≤ 5 := fun a b => by have := sm_toNat_le (thrI A a b) n 0; omega
  have a2 : ∀ a, sm (fun b => sm (fun c => (thrI A a b c).toNat) 0 n) 0 n ≤ 25 := fun a => by have := sm_le (fun b => sm (fun c => (thrI A a b c).toNat) 0 n) 5 (a1 a) n 0; omega
  have := sm_le (fun a => sm (fun b => sm (fun c => (thrI A a b c).toNat) 0 n) 0 n) 25 a2 n 0
  unfold threeI; omega
section
variable {n : Nat} {es : List (Nat × Nat)} (hv : Val n es)
include hv
/-- One step of the program's inmost loop. -/
theorem impl_three_step (o a b c acc : Nat) (ha : a < n) (hb : b < n) (hc : c < n) (hacc : acc < 100000) (x19 x20 x24 x25 : Int) (k : Nat) :
    impl_PathThree.l2 (k + 1) (I (nxt n (arcs es o))) (acc : Int) (a : Int) (b : Int) x19 x20 x24 x25 ((I (nxt n (arcs es o))).length : Int) (c : Int) = impl_PathThree.l2 k (I (nxt n (arcs es o))) ((acc + (thrI (adj (arcs es o)) a b c).toNat : Nat) : Int) (a : Int) (b : Int) x19 x20 x24 x25 ((I (nxt n (arcs es o))).length : Int) ((c + 1 : Nat) : Int) := by
  have hS := nxt_sets hv o
  have hl := hS.1
  have h5 := hv.le
  have e1 : wrap64 ((c : Int) + 1) = ((c + 1 : Nat) : Int) := by unfold wrap64; omega
  have e2 : wrap64 ((acc : Int) + 1) = ((acc + 1 : Nat) : Int) := by unfold wrap64; omega
  simp only [impl_PathThree.l2]
  rw [if_pos (by rw [I_length]; omega), e1, e2]
  unfold thrI
  by_cases h1 : a < b
  · rw [if_pos (by omega)]
    by_cases h2 : a < c
    · rw [if_pos (by omega)]
      by_cases h3 : b = c
      · rw [if_pos (by omega)]; simp [h3]
      · rw [if_neg (by omega), if_pos (by omega), if_pos (by rw [I_length]; omega), if_pos (by omega), rd_nat, bit_nat _ _ (by have := hS.getD a; omega) (by omega), nxt_adj (fun e he => (arcs_mem hv.lt e he).1)]
        cases hab : adj (arcs es o) a b with
        | false => rw [if_neg (by simp)]; simp
        | true =>
          rw [if_pos (by rfl), if_pos (by rw [I_length]; omega), if_pos (by omega), rd_nat, bit_nat _ _ (by have := hS.getD b; omega) (by omega), nxt_adj (fun e he => (arcs_mem hv.lt e he).1)]
          cases hbc : adj (arcs es o) b c with
          | false => rw [if_neg (by simp)]; simp
          | true =>
            rw [if_pos (by rfl), if_pos (by rw [I_length]; omega), rd_nat, bit_nat _ _ (by have := hS.getD c; omega) (by omega), nxt_adj (fun e he => (arcs_mem hv.lt e he).1)]
            cases hca : adj (arcs es o) c a with
            | false => rw [if_neg (by simp)]; simp
            | true => rw [if_pos (by rfl)]; simp [h1, h2, h3]
    · rw [if_neg (by omega)]; simp [h2]
  · rw [if_neg (by omega)]; simp [h1]
theorem impl_len (o : Nat) : ((I (nxt n (arcs es o))).length : Int) = (n : Int) := by rw [I_length, (nxt_sets hv o).1]
theorem impl_three_c (o a b acc C : Nat) (ha : a < n) (hb : b < n) (hC : acc + sm (fun c => (thrI (adj (arcs es o)) a b c).toNat) 0 n = C) (hC1 : C ≤ 1000) {r : Int × Bool} (h : Ev (fun k => impl_PathThree.l1 k (I (nxt n (arcs es o))) (C : Int) (a : Int) ((I (nxt n (arcs es o))).length : Int) (a : Int) ((I (nxt n (arcs es o))).length : Int) ((b + 1 : Nat) : Int)) r) :
    Ev (fun k => impl_PathThree.l2 k (I (nxt n (arcs es o))) (acc : Int) (a : Int) (b : Int) ((I (nxt n (arcs es o))).length : Int) (a : Int) ((I (nxt n (arcs es o))).length : Int) (b : Int) ((I (nxt n (arcs es o))).length : Int) ((0 : Nat) : Int)) r := by
  refine loop_sum (fun k acc c => impl_PathThree.l2 k (I (nxt n (arcs es o))) acc (a : Int) (b : Int) ((I (nxt n (arcs es o))).length : Int) (a : Int) ((I (nxt n (arcs es o))).length : Int) (b : Int) ((I (nxt n (arcs es o))).length : Int) c) (fun c => (thrI (adj (arcs es o)) a b c).toNat) n C r ?_ ?_ n 0 acc (Nat.zero_add n) hC
  · intro acc3 c hc hacc3 hn3
    have hA : acc3 ≤ 1000 := Nat.le_trans (Nat.le_trans (Nat.le_add_right _ _) hacc3) hC1
    exact Ev.step (fun k => impl_three_step hv o a b c acc3 ha hb hc (Nat.lt_of_le_of_lt hA (by decide)) _ _ _ _ k) hn3
  · clear hC
    have h5 := hv.le
    have hl := impl_len hv o
    have e2 : wrap64 ((b : Int) + 1) = ((b + 1 : Nat) : Int) := by unfold wrap64; omega
    refine Ev.step (fun k => ?_) h
    simp only [impl_PathThree.l2]
    rw [if_neg (by rw [hl]; exact Int.lt_irrefl _), e2]
theorem impl_three_b (o a acc C : Nat) (ha : a < n) (hC : acc + sm (fun b => sm (fun c => (thrI (adj (arcs es o)) a b c).toNat) 0 n) 0 n = C) (hC1 : C ≤ 1000) {r : Int × Bool} (h : Ev (fun k => impl_PathThree.l0 k (I (nxt n (arcs es o))) (C : Int) ((I (nxt n (arcs es o))).length : Int) ((a + 1 : Nat) : Int)) r) :
    Ev (fun k => impl_PathThree.l1 k (I (nxt n (arcs es o))) (acc : Int) (a : Int) ((I (nxt n (arcs es o))).length : Int) (a : Int) ((I (nxt n (arcs es o))).length : Int) ((0 : Nat) : Int)) r := by
  refine loop_sum (fun k acc b => impl_PathThree.l1 k (I (nxt n (arcs es o))) acc (a : Int) ((I (nxt n (arcs es o))).length : Int) (a : Int) ((I (nxt n (arcs es o))).length : Int) b) (fun b => sm (fun c => (thrI (adj (arcs es o)) a b c).toNat) 0 n) n C r ?_ ?_ n 0 acc (Nat.zero_add n) hC
  · intro acc2 b hb hacc2 hn2
    refine Ev.step (fun k => ?_) (impl_three_c hv o a b acc2 _ ha hb rfl (Nat.le_trans hacc2 hC1) hn2)
    simp only [impl_PathThree.l1]
    rw [if_pos (by rw [impl_len hv o]; exact Int.ofNat_lt.2 hb)]
    rfl
  · clear hC
    have h5 := hv.le
    have hl := impl_len hv o
    have e2 : wrap64 ((a : Int) + 1) = ((a + 1 : Nat) : Int) := by unfold wrap64; omega
    refine Ev.step (fun k => ?_) h
    simp only [impl_PathThree.l1]
    rw [if_neg (by rw [hl]; exact Int.lt_irrefl _), e2]
theorem impl_PathThree_ev {o : Nat} (ho : o < 2 ^ es.length) : Ev (fun k => impl_PathThree.f k n (mkE es) o) (((threeI (adj (arcs es o)) n : Nat) : Int), true) := by
  have hT := threeI_le (adj (arcs es o)) hv.le
  unfold impl_PathThree.f
  refine Ev.bind (impl_WayIn_yes hv ho) ?_
  simp only [if_true]
  refine Ev.bind (impl_nextOf_ev hv ho) ?_
  refine loop_sum (fun k acc a => impl_PathThree.l0 k (I (nxt n (arcs es o))) acc ((I (nxt n (arcs es o))).length : Int) a) (fun a => sm (fun b => sm (fun c => (thrI (adj (arcs es o)) a b c).toNat) 0 n) 0 n) n (threeI (adj (arcs es o)) n) _ ?_ ?_ n 0 0 (Nat.zero_add n) (Nat.zero_add _)
  · intro acc a ha hacc hn
    refine Ev.step (fun k => ?_) (impl_three_b hv o a acc _ ha rfl (Nat.le_trans hacc hT) hn)
    simp only [impl_PathThree.l0]
    rw [if_pos (by rw [impl_len hv o]; exact Int.ofNat_lt.2 ha)]
    rfl
  · refine Ev.step (f := fun _ => some (((threeI (adj (arcs es o)) n : Nat) : Int), true)) (fun k => ?_) (Ev.now _)
    simp only [impl_PathThree.l0]
    rw [if_neg (by rw [impl_len hv o]; exact Int.lt_irrefl _)]
theorem spec_three_step {o : Nat} (ho : o < 2 ^ es.length) (a b c acc : Nat) (ha : a < n) (hb : b < n) (hc : c < n) (hacc : acc < 100000) {r : Int × Bool}
    (h : Ev (fun k => spec_PathThree.l2 k o ((acc + (thrS (adj (arcs es o)) a b c).toNat : Nat) : Int) (a : Int) (b : Int) ((c + 1 : Nat) : Int) n (mkE es)) r) :
    Ev (fun k => spec_PathThree.l2 k o (acc : Int) (a : Int) (b : Int) (c : Int) n (mkE es)) r := by
  have h5 := hv.le
  have e1 : wrap64 ((c : Int) + 1) = ((c + 1 : Nat) : Int) := by unfold wrap64; omega
  have e2 : wrap64 ((acc : Int) + 1) = ((acc + 1 : Nat) : Int) := by unfold wrap64; omega
  have ba := out_lt hv o a
  have bb := out_lt hv o b
  have bc := out_lt hv o c
  have p0 : ∀ m : Nat, (0 : Int) ≤ (m : Int) := fun m => by omega
  have pc : (c : Int) < (n : Int) := by omega
  refine Ev.step (f := fun k => if (c : Int) < (n : Int) then (if (0 : Int) ≤ (a : Int) then ((spec_l7Beaten.f k n (mkE es) o (shl .i64 1 a)).bind fun t321 => (if (0 : Int) ≤ (b : Int) then ((spec_l7Beaten.f k n (mkE es) o (shl .i64 1 b)).bind fun t322 => (if (0 : Int) ≤ (c : Int) then ((spec_l7Beaten.f k n (mkE es) o (shl .i64 1 c)).bind fun t323 => (if (wrap64 ((wrap64 ((Go.bits .and .i64 (shr .i64 t321 b) 1) + (Go.bits .and .i64 (shr .i64 t322 c) 1))) + (Go.bits .and .i64 (shr .i64 t323 a) 1))) = 3 then (spec_PathThree.l2 k o (wrap64 ((acc : Int) + 1)) a b (wrap64 ((c : Int) + 1)) n (mkE es)) else (if (wrap64 ((wrap64 ((Go.bits .and .i64 (shr .i64 t321 c) 1) + (Go.bits .and .i64 (shr .i64 t323 b) 1))) + (Go.bits .and .i64 (shr .i64 t322 a) 1))) = 3 then (spec_PathThree.l2 k o (wrap64 ((acc : Int) + 1)) a b (wrap64 ((c : Int) + 1)) n (mkE es)) else (spec_PathThree.l2 k o acc a b (wrap64 ((c : Int) + 1)) n (mkE es))))) else (none))) else (none))) else (none)) else (spec_PathThree.l1 k o acc a (wrap64 ((b : Int) + 1)) n (mkE es))) (fun k => by simp only [spec_PathThree.l2]) ?_
  simp only [p0, pc, if_true, shl_one a (by omega), shl_one b (by omega), shl_one c (by omega), e1, e2]
  refine Ev.bind (spec_l7Beaten_one hv ho a (by omega)) (Ev.bind (spec_l7Beaten_one hv ho b (by omega)) (Ev.bind (spec_l7Beaten_one hv ho c (by omega)) ?_))
  rw [bit_nat _ _ (by omega) (by omega), bit_nat _ _ (by omega) (by omega), bit_nat _ _ (by omega) (by omega), bit_nat _ _ (by omega) (by omega), bit_nat _ _ (by omega) (by omega), bit_nat _ _ (by omega) (by omega)]
  simp only [out_bit hv] at *
  unfold thrS at h
  cases h1 : adj (arcs es o) a b <;> cases h2 : adj (arcs es o) b c <;> cases h3 : adj (arcs es o) c a <;> cases h4 : adj (arcs es o) a c <;> cases h6 : adj (arcs es o) c b <;> cases h7 : adj (arcs es o) b a <;> simp [h1, h2, h3, h4, h6, h7, wrap64] at h ⊢ <;> exact h
theorem spec_three_c {o : Nat} (ho : o < 2 ^ es.length) (a b acc C : Nat) (ha : a < n) (hb : b < n) (hC : acc + sm (fun c => (thrS (adj (arcs es o)) a b c).toNat) (b + 1) (n - (b + 1)) = C) (hC1 : C ≤ 1000) {r : Int × Bool} (h : Ev (fun k => spec_PathThree.l1 k o (C : Int) (a : Int) ((b + 1 : Nat) : Int) n (mkE es)) r) :
    Ev (fun k => spec_PathThree.l2 k o (acc : Int) (a : Int) (b : Int) ((b + 1 : Nat) : Int) n (mkE es)) r := by
  refine loop_sum (fun k acc c => spec_PathThree.l2 k o acc (a : Int) (b : Int) c n (mkE es)) (fun c => (thrS (adj (arcs es o)) a b c).toNat) n C r ?_ ?_ (n - (b + 1)) (b + 1) acc (Nat.add_sub_cancel' hb) hC
  · intro acc3 c hc hacc3 hn3
    have hA : acc3 ≤ 1000 := Nat.le_trans (Nat.le_trans (Nat.le_add_right _ _) hacc3) hC1
    exact spec_three_step hv ho a b c acc3 ha hb hc (Nat.lt_of_le_of_lt hA (by decide)) hn3
  · clear hC
    have h5 := hv.le
    have e2 : wrap64 ((b : Int) + 1) = ((b + 1 : Nat) : Int) := by unfold wrap64; omega
    refine Ev.step (fun k => ?_) h
    simp only [spec_PathThree.l2]
    rw [if_neg (Int.lt_irrefl _), e2]
theorem spec_three_b {o : Nat} (ho : o < 2 ^ es.length) (a acc C : Nat) (ha : a < n) (hC : acc + sm (fun b => sm (fun c => (thrS (adj (arcs es o)) a b c).toNat) (b + 1) (n - (b + 1))) (a + 1) (n - (a + 1)) = C) (hC1 : C ≤ 1000) {r : Int × Bool} (h : Ev (fun k => spec_PathThree.l0 k o (C : Int) ((a + 1 : Nat) : Int) n (mkE es)) r) :
    Ev (fun k => spec_PathThree.l1 k o (acc : Int) (a : Int) ((a + 1 : Nat) : Int) n (mkE es)) r := by
  refine loop_sum (fun k acc b => spec_PathThree.l1 k o acc (a : Int) b n (mkE es)) (fun b => sm (fun c => (thrS (adj (arcs es o)) a b c).toNat) (b + 1) (n - (b + 1))) n C r ?_ ?_ (n - (a + 1)) (a + 1) acc (Nat.add_sub_cancel' ha) hC
  · intro acc2 b hb hacc2 hn2
    have h5 := hv.le
    have e2 : wrap64 ((b : Int) + 1) = ((b + 1 : Nat) : Int) := by clear hacc2 hC; unfold wrap64; omega
    refine Ev.step (fun k => ?_) (spec_three_c hv ho a b acc2 _ ha hb rfl (Nat.le_trans hacc2 hC1) hn2)
    simp only [spec_PathThree.l1]
    rw [if_pos (Int.ofNat_lt.2 hb), e2]
  · clear hC
    have h5 := hv.le
    have e2 : wrap64 ((a : Int) + 1) = ((a + 1 : Nat) : Int) := by unfold wrap64; omega
    refine Ev.step (fun k => ?_) h
    simp only [spec_PathThree.l1]
    rw [if_neg (Int.lt_irrefl _), e2]
theorem spec_PathThree_ev {o : Nat} (ho : o < 2 ^ es.length) : Ev (fun k => spec_PathThree.f k n (mkE es) o) (((threeS (adj (arcs es o)) n : Nat) : Int), true) := by
  have hT : threeS (adj (arcs es o)) n ≤ 1000 := by
    rw [← three_same (adj (arcs es o)) (adj_asym hv o) hv.pos hv.le]
    exact threeI_le (adj (arcs es o)) hv.le
  unfold spec_PathThree.f
  refine Ev.bind (spec_WayIn_yes hv ho) ?_
  simp only [if_true]
  refine loop_sum (fun k acc a => spec_PathThree.l0 k o acc a n (mkE es)) (fun a => sm (fun b => sm (fun c => (thrS (adj (arcs es o)) a b c).toNat) (b + 1) (n - (b + 1))) (a + 1) (n - (a + 1))) n (threeS (adj (arcs es o)) n) _ ?_ ?_ n 0 0 (Nat.zero_add n) (Nat.zero_add _)
  · intro acc a ha hacc hn
    have h5 := hv.le
    have e2 : wrap64 ((a : Int) + 1) = ((a + 1 : Nat) : Int) := by clear hacc hT; unfold wrap64; omega
    refine Ev.step (fun k => ?_) (spec_three_b hv ho a acc _ ha rfl (Nat.le_trans hacc hT) hn)
    simp only [spec_PathThree.l0]
    rw [if_pos (Int.ofNat_lt.2 ha), e2]
  · refine Ev.step (f := fun _ => some (((threeS (adj (arcs es o)) n : Nat) : Int), true)) (fun k => ?_) (Ev.now _)
    simp only [spec_PathThree.l0]
    rw [if_neg (Int.lt_irrefl _)]
end
theorem PathThree_both {a : Int} (ha : InR a) {l : List E} (hl : WfE l) (o : Int) : ∃ r, Ev (fun k => impl_PathThree.f k a l o) r ∧ Ev (fun k => spec_PathThree.f k a l o) r := by
  rcases way_split ha hl o with ⟨n, es, o', rfl, rfl, rfl, hv, ho⟩ | ⟨h1, h2⟩
  · exact ⟨_, impl_PathThree_ev hv ho, Ev.eq_ (spec_PathThree_ev hv ho) (by rw [three_same _ (adj_asym hv o') hv.pos hv.le])⟩
  · refine ⟨(0, false), ?_, ?_⟩
    · unfold impl_PathThree.f
      refine Ev.bind h1 ?_
      simp only [Bool.false_eq_true, if_false]
      exact Ev.now _
    · unfold spec_PathThree.f
      refine Ev.bind h2 ?_
      simp only [Bool.false_eq_true, if_false]
      exact Ev.now _
end Go.Proofs.Ytlpkagcnkaijlaa.Q
