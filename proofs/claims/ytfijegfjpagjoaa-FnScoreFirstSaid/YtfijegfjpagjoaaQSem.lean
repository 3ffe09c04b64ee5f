/- What the lists of sets and the folds over directed edges mean, bit by bit; counting. No condition but small numbers. -/
import Derived.Test.YtfijegfjpagjoaaQNext
namespace Go.Proofs.Ytfijegfjpagjoaa.Q
open Go.RowKit Go.Proofs.Ytfijegfjpagjoaa.G Go.Proofs.YtfijegfjpagjoaaW.PrintWords Go.Proofs.YtfijegfjpagjoaaW.PrintLast Go.Proofs.YtfijegfjpagjoaaW.PrintMore
set_option linter.unusedVariables false
set_option linter.unusedSimpArgs false
theorem nxt_bit (v u : Nat) : ∀ (ar : List (Nat × Nat)) (s : List Nat), (∀ e ∈ ar, e.1 < s.length) → ((ar.foldl nxtStep s).getD v 0).testBit u = ((s.getD v 0).testBit u || ar.any fun e => e.1 == v && e.2 == u)
  | [], s, _ => by simp
  | e :: t, s, h => by
    rw [List.foldl_cons, nxt_bit v u t (nxtStep s e) (fun x hx => by rw [nxtStep, List.length_set]; exact h x (List.mem_cons_of_mem _ hx)), List.any_cons]
    have he := h e List.mem_cons_self
    have hs : (nxtStep s e).getD v 0 = if e.1 = v then s.getD v 0 ||| 2 ^ e.2 else s.getD v 0 := by
      unfold nxtStep
      rw [List.getD_eq_getElem?_getD, List.getElem?_set]
      by_cases hv : e.1 = v
      · subst hv; rw [if_pos rfl, if_pos he, if_pos rfl]; rfl
      · rw [if_neg hv, if_neg hv]; simp [List.getD_eq_getElem?_getD]
    rw [hs]
    by_cases hv : e.1 = v
    · rw [if_pos hv, Nat.testBit_or, Nat.testBit_two_pow]
      simp only [hv, beq_self_eq_true, Bool.true_and]
      have : decide (e.2 = u) = (e.2 == u) := by rw [Bool.eq_iff_iff]; simp
      rw [this, Bool.or_assoc]
    · rw [if_neg hv]
      have : (e.1 == v) = false := by simpa using hv
      rw [this]; simp
/-- An edge leads from v to u. -/
def adj (ar : List (Nat × Nat)) (v u : Nat) : Bool := ar.any fun e => e.1 == v && e.2 == u
theorem adj_iff (ar : List (Nat × Nat)) (v u : Nat) : adj ar v u = true ↔ (v, u) ∈ ar := by
  simp only [adj, List.any_eq_true, Bool.and_eq_true, beq_iff_eq]
  constructor
  · rintro ⟨⟨a, b⟩, h, rfl, rfl⟩; exact h
  · intro h; exact ⟨(v, u), h, rfl, rfl⟩
theorem nxt_adj {n : Nat} {ar : List (Nat × Nat)} (h : ∀ e ∈ ar, e.1 < n) (v u : Nat) : ((nxt n ar).getD v 0).testBit u = adj ar v u := by
  unfold nxt
  rw [nxt_bit v u ar _ (by simpa using h)]
  have : (List.replicate n 0).getD v 0 = 0 := by
    rw [List.getD_eq_getElem?_getD, List.getElem?_replicate]; split <;> rfl
  rw [this, Nat.zero_testBit, Bool.false_or]; rfl
theorem and_ne_zero (x y : Nat) : (x &&& y != 0) = true ↔ ∃ u, x.testBit u = true ∧ y.testBit u = true := by
  rw [bne_iff_ne]
  constructor
  · intro h
    apply Classical.byContradiction
    intro hn
    apply h
    apply Nat.eq_of_testBit_eq
    intro u
    rw [Nat.testBit_and, Nat.zero_testBit]
    cases hx : x.testBit u with
    | false => rfl
    | true =>
      cases hy : y.testBit u with
      | false => rfl
      | true => exact absurd ⟨u, hx, hy⟩ hn
  · rintro ⟨u, hx, hy⟩ h
    have : (x &&& y).testBit u = true := by rw [Nat.testBit_and, hx, hy]; rfl
    rw [h, Nat.zero_testBit] at this
    cases this
theorem full_iff (n m : Nat) (hm : m < 2 ^ n) : m = 2 ^ n - 1 ↔ ∀ v, v < n → m.testBit v = true := by
  constructor
  · rintro rfl v hv; rw [Nat.testBit_two_pow_sub_one]; simpa using hv
  · intro h
    apply Nat.eq_of_testBit_eq
    intro i
    rw [Nat.testBit_two_pow_sub_one]
    by_cases hi : i < n
    · rw [h i hi]; simp [hi]
    · rw [Nat.testBit_lt_two_pow (Nat.lt_of_lt_of_le hm (Nat.pow_le_pow_right (by decide) (by omega)))]; simp [hi]
/-- How many of the numbers from i on, d of them, are told. -/
def cnt (P : Nat → Bool) : Nat → Nat → Nat
  | _, 0 => 0
  | i, d + 1 => (P i).toNat + cnt P (i + 1) d
theorem cnt_le (P : Nat → Bool) : ∀ d i, cnt P i d ≤ d
  | 0, _ => Nat.le_refl _
  | d + 1, i => by have := cnt_le P d (i + 1); simp only [cnt]; cases P i <;> simp <;> omega
theorem cnt_congr {P P' : Nat → Bool} : ∀ d i, (∀ j, i ≤ j → j < i + d → P j = P' j) → cnt P i d = cnt P' i d
  | 0, _, _ => rfl
  | d + 1, i, h => by simp only [cnt]; rw [h i (by omega) (by omega), cnt_congr d (i + 1) fun j h1 h2 => h j (by omega) (by omega)]
/-- A loop that counts. -/
theorem loop_cnt {β : Type} (Lf : Nat → Int → Int → Option β) (p : Nat → Nat → Option Bool) (P : Nat → Bool) (N : Nat) (fin : Int → β) (hp : ∀ x, x < N → Ev (fun k => p k x) (P x))
    (hs : ∀ (k c i : Nat), i < N → c ≤ i → Lf (k + 1) (c : Int) (i : Int) = (p k i).bind fun t => if t = true then Lf k ((c + 1 : Nat) : Int) ((i + 1 : Nat) : Int) else Lf k (c : Int) ((i + 1 : Nat) : Int))
    (he : ∀ (k c : Nat), Lf (k + 1) (c : Int) (N : Int) = some (fin (c : Int))) : ∀ (d i c : Nat), i + d = N → c ≤ i → Ev (fun k => Lf k (c : Int) (i : Int)) (fin ((c + cnt P i d : Nat) : Int))
  | 0, i, c, h, hc => by
    have : i = N := by omega
    subst this
    exact Ev.step (f := fun _ => some (fin (c : Int))) (fun k => he k c) (Ev.eq_ (Ev.now _) (by simp [cnt]))
  | d + 1, i, c, h, hc => by
    refine Ev.step (fun k => hs k c i (by omega) hc) (Ev.bind (hp i (by omega)) ?_)
    cases hP : P i with
    | true =>
      simp only [if_true]
      exact Ev.eq_ (loop_cnt Lf p P N fin hp hs he d (i + 1) (c + 1) (by omega) (by omega)) (by simp only [cnt, hP, Bool.toNat_true]; congr 2; omega)
    | false =>
      simp only [Bool.false_eq_true, if_false]
      exact Ev.eq_ (loop_cnt Lf p P N fin hp hs he d (i + 1) c (by omega) (by omega)) (by simp only [cnt, hP, Bool.toNat_false, Nat.zero_add])
/-- A sum. -/
def sm (f : Nat → Nat) : Nat → Nat → Nat
  | _, 0 => 0
  | i, d + 1 => f i + sm f (i + 1) d
theorem sm_congr {f g : Nat → Nat} : ∀ d i, (∀ j, i ≤ j → j < i + d → f j = g j) → sm f i d = sm g i d
  | 0, _, _ => rfl
  | d + 1, i, h => by simp only [sm]; rw [h i (by omega) (by omega), sm_congr d (i + 1) fun j h1 h2 => h j (by omega) (by omega)]
theorem sm_le (f : Nat → Nat) (m : Nat) (h : ∀ i, f i ≤ m) : ∀ d i, sm f i d ≤ d * m
  | 0, _ => by simp [sm]
  | d + 1, i => by have := sm_le f m h d (i + 1); have := h i; simp only [sm]; rw [Nat.succ_mul]; omega
/-- A loop that adds. -/
theorem loop_sum {β : Type} (Lf : Nat → Int → Int → Option β) (f : Nat → Nat) (N C : Nat) (r : β)
    (hs : ∀ c i : Nat, i < N → c + f i ≤ C → Ev (fun k => Lf k ((c + f i : Nat) : Int) ((i + 1 : Nat) : Int)) r → Ev (fun k => Lf k (c : Int) (i : Int)) r)
    (he : Ev (fun k => Lf k (C : Int) (N : Int)) r) : ∀ (d i c : Nat), i + d = N → c + sm f i d = C → Ev (fun k => Lf k (c : Int) (i : Int)) r
  | 0, i, c, h, hc => by
    have h1 : i = N := by omega
    have h2 : c = C := by simpa [sm] using hc
    subst h1; subst h2; exact he
  | d + 1, i, c, h, hc => by
    simp only [sm] at hc
    exact hs c i (by omega) (by omega) (loop_sum Lf f N C r hs he d (i + 1) (c + f i) (by omega) (by omega))
/-- No edge leads both ways. -/
theorem arcs_mem_es : ∀ (es : List (Nat × Nat)) (o : Nat), ∀ f ∈ arcs es o, f ∈ es ∨ (f.2, f.1) ∈ es
  | [], _, f, h => by simp [arcs] at h
  | e :: t, o, f, h => by
    simp only [arcs, List.mem_cons] at h
    rcases h with rfl | h
    · split
      · right; simp
      · left; simp
    · rcases arcs_mem_es t (o / 2) f h with h | h
      · exact .inl (List.mem_cons_of_mem _ h)
      · exact .inr (List.mem_cons_of_mem _ h)
theorem arcs_asym : ∀ (es : List (Nat × Nat)) (o : Nat), es.Pairwise plt → (∀ e ∈ es, e.1 < e.2) → ∀ a b, (a, b) ∈ arcs es o → (b, a) ∉ arcs es o
  | [], _, _, _, a, b, h => by simp [arcs] at h
  | e :: t, o, hp, hl, a, b, h => by
    rw [List.pairwise_cons] at hp
    have he := hl e List.mem_cons_self
    -- e's pair stands nowhere behind it, in no order
    have no : ∀ f, (f = e ∨ f = (e.2, e.1)) → f ∉ arcs t (o / 2) := by
      intro f hf hm
      have := arcs_mem_es t (o / 2) f hm
      rcases hf with rfl | rfl
      · rcases this with h1 | h1
        · have := hp.1 _ h1; unfold plt at this; omega
        · have := hl _ (List.mem_cons_of_mem _ h1); simp only at this; omega
      · rcases this with h1 | h1
        · have := hl _ (List.mem_cons_of_mem _ h1); simp only at this; omega
        · have := hp.1 _ h1; unfold plt at this; simp only at this; omega
    simp only [arcs, List.mem_cons, not_or] at h ⊢
    have hd : (if o % 2 = 1 then (e.2, e.1) else e) = e ∨ (if o % 2 = 1 then (e.2, e.1) else e) = (e.2, e.1) := by split <;> simp
    generalize (if o % 2 = 1 then (e.2, e.1) else e) = x at h hd
    rcases h with h | h
    · subst h
      constructor
      · intro h1
        rcases hd with hd | hd
        · rw [← hd] at he; simp only [Prod.mk.injEq] at h1 he; omega
        · simp only [Prod.mk.injEq] at hd h1; omega
      · refine no _ ?_
        rcases hd with hd | hd
        · right; rw [← hd]
        · left; simp only [Prod.mk.injEq] at hd; rw [hd.1, hd.2]
    · refine ⟨?_, arcs_asym t (o / 2) hp.2 (fun e he => hl e (List.mem_cons_of_mem _ he)) a b h⟩
      intro h1
      refine no (a, b) ?_ h
      rcases hd with hd | hd
      · right; rw [← hd, ← h1]
      · left; rw [hd] at h1; simp only [Prod.mk.injEq] at h1; rw [h1.1, h1.2]
theorem adj_asym {n : Nat} {es : List (Nat × Nat)} (hv : Val n es) (o a b : Nat) (h : adj (arcs es o) a b = true) : adj (arcs es o) b a = false := by
  rw [Bool.eq_false_iff]
  intro h1
  exact arcs_asym es o hv.srt (fun e he => (hv.lt e he).1) a b ((adj_iff _ _ _).1 h) ((adj_iff _ _ _).1 h1)
theorem adj_lt {n : Nat} {es : List (Nat × Nat)} (hv : Val n es) (o a b : Nat) (h : adj (arcs es o) a b = true) : a < n ∧ b < n ∧ a ≠ b := arcs_mem hv.lt _ ((adj_iff _ _ _).1 h)
/-- The nodes to which edges lead from v. -/
def out (n : Nat) (es : List (Nat × Nat)) (o v : Nat) : Nat := (nxt n (arcs es o)).getD v 0
theorem rd_out (n : Nat) (es : List (Nat × Nat)) (o v : Nat) : rd (I (nxt n (arcs es o))) (v : Int) = ((out n es o v : Nat) : Int) := rd_nat _ _
theorem out_bit {n : Nat} {es : List (Nat × Nat)} (hv : Val n es) (o v u : Nat) : (out n es o v).testBit u = adj (arcs es o) v u := nxt_adj (fun e he => (arcs_mem hv.lt e he).1) v u
theorem out_lt {n : Nat} {es : List (Nat × Nat)} (hv : Val n es) (o v : Nat) : out n es o v < 32 := (nxt_sets hv o).getD v
attribute [irreducible] out sm cnt
end Go.Proofs.Ytfijegfjpagjoaa.Q
