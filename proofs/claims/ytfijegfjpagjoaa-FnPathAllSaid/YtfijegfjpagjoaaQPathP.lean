/- Simple paths, in the order of lists: how they are listed, the first longest one, and how many have all nodes. The sets are of five nodes at most. -/
import Derived.Test.YtfijegfjpagjoaaQNext
namespace Go.Proofs.Ytfijegfjpagjoaa.Q
open Go.RowKit Go.Proofs.Ytfijegfjpagjoaa.G Go.Proofs.YtfijegfjpagjoaaW.PrintWords Go.Proofs.YtfijegfjpagjoaaW.PrintLast Go.Proofs.YtfijegfjpagjoaaW.PrintMore
set_option linter.unusedVariables false
set_option linter.unusedSimpArgs false
/-- How many nodes a set of at most five nodes has. -/
def pcP (x : Nat) : Nat := x % 2 + (x / 2 % 2 + (x / 4 % 2 + (x / 8 % 2 + x / 16 % 2)))
theorem pcP_or : ∀ s, s < 32 → ∀ b, b < 5 → s.testBit b = false → pcP (s ||| 2 ^ b) = pcP s + 1 := by decide +kernel
theorem pcP_bd : ∀ n, n < 6 → ∀ m, m < 2 ^ n → pcP m ≤ n ∧ (pcP m = n ↔ m = 2 ^ n - 1) := by decide +kernel
/-- May a path that ends at a and has met m go on to v. -/
def mayB (s : List Nat) (a m v : Nat) : Bool := (s.getD a 0).testBit v && !m.testBit v
/-- All paths that begin so, in the order in which they are told. -/
def walkP (s : List Nat) (n : Nat) : Nat → List Nat → Nat → Nat → List (List Nat)
  | 0, _, _, _ => []
  | f + 1, p, a, m => p :: (List.range' 0 n).flatMap fun v => if mayB s a m v = true then walkP s n f (p ++ [v]) v (m ||| 2 ^ v) else []
def allP (s : List Nat) (n : Nat) : List (List Nat) := (List.range' 0 n).flatMap fun v => walkP s n n [v] v (2 ^ v)
/-- The first longest one. -/
def pickP (a b : List Nat) : List Nat := if a.length < b.length then b else a
theorem pickP_nil (b : List Nat) : pickP [] b = b := by
  cases b <;> simp [pickP]
theorem pickP_nil' (b : List Nat) : pickP b [] = b := by simp [pickP]
theorem pickP_assoc (a b c : List Nat) : pickP (pickP a b) c = pickP a (pickP b c) := by
  unfold pickP; split <;> split <;> (repeat' split) <;> first | rfl | omega
theorem pickP_fold (L : List (List Nat)) : ∀ a, L.foldl pickP a = pickP a (L.foldl pickP []) := by
  induction L with
  | nil => intro a; simp [pickP_nil']
  | cons x t ih => intro a; rw [List.foldl_cons, ih, List.foldl_cons, ih (pickP [] x), pickP_nil, pickP_assoc]
theorem foldl_flatMap {α β σ : Type} (h : σ → β → σ) (g : α → List β) : ∀ (l : List α) (st : σ), (l.flatMap g).foldl h st = l.foldl (fun st x => (g x).foldl h st) st
  | [], st => rfl
  | x :: t, st => by rw [List.flatMap_cons, List.foldl_append, foldl_flatMap h g t]; rfl
def longF (s : List Nat) (n : Nat) : Nat → List Nat → Nat → Nat → List Nat
  | 0, _, _, _ => []
  | f + 1, p, a, m => (List.range' 0 n).foldl (fun best v => if mayB s a m v = true then pickP best (longF s n f (p ++ [v]) v (m ||| 2 ^ v)) else best) p
theorem foldl_congr' {α β : Type} {f g : β → α → β} : ∀ (l : List α), (∀ b x, x ∈ l → f b x = g b x) → ∀ b, l.foldl f b = l.foldl g b
  | [], _, _ => rfl
  | x :: t, h, b => by rw [List.foldl_cons, List.foldl_cons, h b x List.mem_cons_self, foldl_congr' t (fun b y hy => h b y (List.mem_cons_of_mem _ hy))]
theorem longF_walk (s : List Nat) (n : Nat) : ∀ f p a m, longF s n f p a m = (walkP s n f p a m).foldl pickP []
  | 0, _, _, _ => rfl
  | f + 1, p, a, m => by
    simp only [longF, walkP]
    rw [List.foldl_cons, pickP_nil, foldl_flatMap]
    refine foldl_congr' _ (fun b v _ => ?_) p
    split
    · rw [longF_walk s n f, ← pickP_fold]
    · rfl
def longP (s : List Nat) (n : Nat) : List Nat := (allP s n).foldl pickP []
theorem longP_eq (s : List Nat) (n : Nat) : longP s n = (List.range' 0 n).foldl (fun best v => pickP best (longF s n n [v] v (2 ^ v))) [] := by
  unfold longP allP
  rw [foldl_flatMap]
  refine foldl_congr' _ (fun b v _ => ?_) []
  rw [longF_walk, ← pickP_fold]
/-! ### counting -/
def fullF (s : List Nat) (n : Nat) : Nat → Nat → Nat → Nat
  | 0, _, _ => 0
  | f + 1, a, m => if m = 2 ^ n - 1 then 1 else ((List.range' 0 n).map fun v => if mayB s a m v = true then fullF s n f v (m ||| 2 ^ v) else 0).sum
theorem countP_flatMap' {α β : Type} (q : β → Bool) (g : α → List β) : ∀ l : List α, (l.flatMap g).countP q = (l.map fun x => (g x).countP q).sum
  | [] => rfl
  | x :: t => by rw [List.flatMap_cons, List.countP_append, countP_flatMap' q g t]; rfl
/-- Edges lead from each node to the next one. -/
def Ch (s : List Nat) (p : List Nat) : Prop := ∀ l1 x y l2, p = l1 ++ x :: y :: l2 → (s.getD x 0).testBit y = true
theorem Ch.single (s : List Nat) (v : Nat) : Ch s [v] := fun l1 x y l2 h => by
  have := congrArg List.length h
  simp at this
  omega
theorem Ch.snoc {s p : List Nat} {a v : Nat} (h : Ch s p) (hl : p.getLast? = some a) (hb : (s.getD a 0).testBit v = true) : Ch s (p ++ [v]) := fun l1 x y l2 e => by
  rcases List.eq_nil_or_concat l2 with rfl | ⟨l3, z, rfl⟩
  · have e1 : p ++ [v] = (l1 ++ [x]) ++ [y] := by rw [e, List.append_assoc]; rfl
    have hv : v = y := by simpa using congrArg List.getLast? e1
    have hp : p = l1 ++ [x] := by simpa using congrArg List.dropLast e1
    rw [hp] at hl
    simp at hl
    subst hl; subst hv; exact hb
  · have e1 : p ++ [v] = (l1 ++ x :: y :: l3) ++ [z] := by rw [e, List.append_assoc]; simp
    exact h l1 x y l3 (by have := congrArg List.dropLast e1; rwa [List.dropLast_concat, List.dropLast_concat] at this)
theorem Ch.rev {s s' : List Nat} (hr : ∀ u v, (s.getD u 0).testBit v = (s'.getD v 0).testBit u) {p : List Nat} (h : Ch s p) : Ch s' p.reverse := fun l1 x y l2 e => by
  have : p = l2.reverse ++ y :: x :: l1.reverse := by
    have := congrArg List.reverse e
    simpa using this
  rw [← hr]; exact h _ _ _ _ this
/-- A path and the set of its nodes. -/
structure Met (s : List Nat) (n : Nat) (p : List Nat) (a m : Nat) : Prop where
  lt : m < 2 ^ n
  len : p.length = pcP m
  bit : ∀ v, m.testBit v = true ↔ v ∈ p
  nd : p.Nodup
  last : p.getLast? = some a
  ch : Ch s p
theorem two_lt (n v : Nat) (h : v < n) : 2 ^ v < 2 ^ n := Nat.pow_lt_pow_right (by decide) h
theorem Met.one (s : List Nat) {n : Nat} (h5 : n ≤ 5) {v : Nat} (hv : v < n) : Met s n [v] v (2 ^ v) where
  lt := two_lt n v hv
  len := by
    have := pcP_or 0 (by decide) v (by omega) (Nat.zero_testBit v)
    rw [Nat.zero_or] at this
    rw [this]; rfl
  bit := fun w => by rw [Nat.testBit_two_pow, decide_eq_true_eq, List.mem_singleton]; exact eq_comm
  nd := List.nodup_cons.2 ⟨List.not_mem_nil, List.nodup_nil⟩
  last := rfl
  ch := Ch.single s v
theorem Met.snoc {s : List Nat} {n : Nat} (h5 : n ≤ 5) {p : List Nat} {a m v : Nat} (h : Met s n p a m) (hv : v < n) (hm : mayB s a m v = true) : Met s n (p ++ [v]) v (m ||| 2 ^ v) := by
  simp only [mayB, Bool.and_eq_true, Bool.not_eq_true'] at hm
  have h32 : m < 32 := Nat.lt_of_lt_of_le h.lt (Nat.pow_le_pow_right (n := 2) (by decide) h5)
  refine ⟨Nat.or_lt_two_pow h.lt (two_lt n v hv), ?_, fun w => ?_, ?_, by simp, ?_⟩
  · rw [List.length_append, List.length_singleton, h.len, pcP_or m h32 v (by omega) hm.2]
  · rw [Nat.testBit_or, Bool.or_eq_true, h.bit, Nat.testBit_two_pow, decide_eq_true_eq, List.mem_append, List.mem_singleton]
    exact or_congr_right eq_comm
  · rw [List.nodup_append]
    refine ⟨h.nd, List.nodup_cons.2 ⟨List.not_mem_nil, List.nodup_nil⟩, ?_⟩
    intro x hx y hy e
    rw [List.mem_singleton] at hy
    subst hy; subst e
    rw [(h.bit x).2 hx] at hm
    exact absurd hm.2 (by decide)
  · exact h.ch.snoc h.last hm.1
theorem Met.full {s : List Nat} {n : Nat} (h5 : n ≤ 5) {p : List Nat} {a m : Nat} (h : Met s n p a m) : p.length = n ↔ m = 2 ^ n - 1 := by
  rw [h.len]; exact (pcP_bd n (by omega) m h.lt).2
theorem Met.le {s : List Nat} {n : Nat} (h5 : n ≤ 5) {p : List Nat} {a m : Nat} (h : Met s n p a m) : p.length ≤ n := by
  rw [h.len]; exact (pcP_bd n (by omega) m h.lt).1
theorem full_may {s : List Nat} {n a v : Nat} (hv : v < n) : mayB s a (2 ^ n - 1) v = false := by
  simp [mayB, Nat.testBit_two_pow_sub_one, hv]
theorem walkP_count {s : List Nat} {n : Nat} (h5 : n ≤ 5) : ∀ f p a m, Met s n p a m → n + 1 ≤ p.length + f → (walkP s n f p a m).countP (fun q => q.length == n) = fullF s n f a m
  | 0, p, a, m, h, hf => by have := h.le h5; omega
  | f + 1, p, a, m, h, hf => by
    simp only [walkP, fullF]
    rw [List.countP_cons, countP_flatMap']
    have hrec : ∀ v ∈ List.range' 0 n, (if mayB s a m v = true then walkP s n f (p ++ [v]) v (m ||| 2 ^ v) else []).countP (fun q => q.length == n) = if mayB s a m v = true then fullF s n f v (m ||| 2 ^ v) else 0 := by
      intro v hv
      have hvn : v < n := by simp at hv; exact hv
      split
      · rename_i hm
        exact walkP_count h5 f _ _ _ (h.snoc h5 hvn hm) (by rw [List.length_append, List.length_singleton]; omega)
      · rfl
    rw [List.map_congr_left hrec]
    by_cases hfull : m = 2 ^ n - 1
    · rw [if_pos hfull]
      have : p.length = n := (h.full h5).2 hfull
      rw [if_pos (by simp [this])]
      have h0 : ∀ v ∈ List.range' 0 n, (if mayB s a m v = true then fullF s n f v (m ||| 2 ^ v) else 0) = 0 := by
        intro v hv
        have hvn : v < n := by simp at hv; exact hv
        rw [hfull, full_may hvn]; rfl
      rw [List.map_congr_left h0]
      have hz : ∀ l : List Nat, (l.map fun _ => 0).sum = 0 := fun l => by induction l with
        | nil => rfl
        | cons x t ih => rw [List.map_cons, List.sum_cons, ih]
      rw [hz]
    · rw [if_neg hfull]
      have : ¬ p.length = n := fun e => hfull ((h.full h5).1 e)
      rw [if_neg (by simpa using this)]; omega
def fullN (s : List Nat) (n : Nat) : Nat := ((List.range' 0 n).map fun v => fullF s n n v (2 ^ v)).sum
theorem allP_count {s : List Nat} {n : Nat} (h5 : n ≤ 5) : (allP s n).countP (fun q => q.length == n) = fullN s n := by
  unfold allP fullN
  rw [countP_flatMap']
  congr 1
  refine List.map_congr_left fun v hv => ?_
  have hvn : v < n := by simp at hv; exact hv
  exact walkP_count h5 n _ _ _ (Met.one s h5 hvn) (by simp; omega)
/-! ### what is listed -/
theorem walkP_met {s : List Nat} {n : Nat} (h5 : n ≤ 5) : ∀ f p a m, Met s n p a m → ∀ q ∈ walkP s n f p a m, ∃ b k, Met s n q b k ∧ ∃ t, q = p ++ t
  | 0, _, _, _, _, q, hq => by simp [walkP] at hq
  | f + 1, p, a, m, h, q, hq => by
    simp only [walkP, List.mem_cons, List.mem_flatMap] at hq
    rcases hq with rfl | ⟨v, hv, hq⟩
    · exact ⟨a, m, h, [], by simp⟩
    · have hvn : v < n := by simp at hv; exact hv
      split at hq
      · rename_i hm
        obtain ⟨b, k, h1, t, h2⟩ := walkP_met h5 f _ _ _ (h.snoc h5 hvn hm) q hq
        exact ⟨b, k, h1, v :: t, by rw [h2, List.append_assoc]; rfl⟩
      · simp at hq
/-- A simple path. -/
structure SPath (s : List Nat) (n : Nat) (p : List Nat) : Prop where
  ne : p ≠ []
  lt : ∀ v ∈ p, v < n
  nd : p.Nodup
  ch : Ch s p
theorem Met.sp {s : List Nat} {n : Nat} {p : List Nat} {a m : Nat} (h : Met s n p a m) : SPath s n p where
  ne := by intro e; have := h.last; rw [e] at this; simp at this
  lt := fun v hv => by
    apply Classical.byContradiction
    intro hn
    have := (h.bit v).2 hv
    rw [Nat.testBit_lt_two_pow (Nat.lt_of_lt_of_le h.lt (Nat.pow_le_pow_right (by decide) (by omega)))] at this
    exact absurd this (by decide)
  nd := h.nd
  ch := h.ch
theorem walkP_has {s : List Nat} {n : Nat} (h5 : n ≤ 5) : ∀ (f : Nat) (t p : List Nat) (a m : Nat), Met s n p a m → n + 1 ≤ p.length + f → SPath s n (p ++ t) → p ++ t ∈ walkP s n f p a m
  | 0, t, p, a, m, h, hf, hs => by have := h.le h5; omega
  | f + 1, [], p, a, m, h, hf, hs => by simp [walkP]
  | f + 1, v :: t, p, a, m, h, hf, hs => by
    have hvn : v < n := hs.lt v (by simp)
    have hm : mayB s a m v = true := by
      simp only [mayB, Bool.and_eq_true, Bool.not_eq_true']
      constructor
      · have hl := h.last
        rcases List.eq_nil_or_concat p with rfl | ⟨p', z, rfl⟩
        · simp at hl
        · simp at hl
          subst hl
          exact hs.ch p' z v t (by simp)
      · have := hs.nd
        rw [List.nodup_append] at this
        cases hb : m.testBit v with
        | false => rfl
        | true => exact absurd rfl (this.2.2 v ((h.bit v).1 hb) v List.mem_cons_self)
    simp only [walkP, List.mem_cons, List.mem_flatMap]
    refine .inr ⟨v, by simp; exact hvn, ?_⟩
    rw [if_pos hm]
    have e : p ++ v :: t = (p ++ [v]) ++ t := by rw [List.append_assoc]; rfl
    rw [e] at hs ⊢
    exact walkP_has h5 f t _ _ _ (h.snoc h5 hvn hm) (by rw [List.length_append, List.length_singleton]; omega) hs
theorem allP_iff {s : List Nat} {n : Nat} (h5 : n ≤ 5) (p : List Nat) : p ∈ allP s n ↔ SPath s n p := by
  constructor
  · intro h
    simp only [allP, List.mem_flatMap] at h
    obtain ⟨v, hv, h⟩ := h
    have hvn : v < n := by simp at hv; exact hv
    obtain ⟨b, k, h1, _⟩ := walkP_met h5 _ _ _ _ (Met.one s h5 hvn) p h
    exact h1.sp
  · intro h
    cases p with
    | nil => exact absurd rfl h.ne
    | cons v t =>
      have hvn : v < n := h.lt v List.mem_cons_self
      simp only [allP, List.mem_flatMap]
      exact ⟨v, by simp; exact hvn, walkP_has h5 n t [v] v _ (Met.one s h5 hvn) (by simp; omega) h⟩
/-! ### no path is listed twice -/
theorem nodup_flatMap {α β : Type} (g : α → List β) : ∀ (l : List α), l.Nodup → (∀ x ∈ l, (g x).Nodup) → (∀ x ∈ l, ∀ y ∈ l, x ≠ y → ∀ b ∈ g x, b ∉ g y) → (l.flatMap g).Nodup
  | [], _, _, _ => by simp
  | x :: t, h, h1, h2 => by
    rw [List.nodup_cons] at h
    rw [List.flatMap_cons, List.nodup_append]
    refine ⟨h1 x List.mem_cons_self, nodup_flatMap g t h.2 (fun y hy => h1 y (List.mem_cons_of_mem _ hy)) (fun y hy z hz => h2 y (List.mem_cons_of_mem _ hy) z (List.mem_cons_of_mem _ hz)), ?_⟩
    intro b hb c hc e
    subst e
    rw [List.mem_flatMap] at hc
    obtain ⟨y, hy, hc⟩ := hc
    exact h2 x List.mem_cons_self y (List.mem_cons_of_mem _ hy) (fun e => h.1 (e ▸ hy)) b hb hc
theorem append_inj_mid {p : List Nat} {v w : Nat} {t u : List Nat} (h : (p ++ [v]) ++ t = (p ++ [w]) ++ u) : v = w := by
  rw [List.append_assoc, List.append_assoc] at h
  have := List.append_cancel_left h
  simp at this
  exact this.1
theorem walkP_nodup {s : List Nat} {n : Nat} (h5 : n ≤ 5) : ∀ f p a m, Met s n p a m → (walkP s n f p a m).Nodup
  | 0, _, _, _, _ => by simp [walkP]
  | f + 1, p, a, m, h => by
    simp only [walkP]
    rw [List.nodup_cons]
    constructor
    · intro hq
      rw [List.mem_flatMap] at hq
      obtain ⟨v, hv, hq⟩ := hq
      have hvn : v < n := by simp at hv; exact hv
      split at hq
      · rename_i hm
        obtain ⟨_, _, _, t, ht⟩ := walkP_met h5 f _ _ _ (h.snoc h5 hvn hm) p hq
        have := congrArg List.length ht
        simp at this
      · simp at hq
    · refine nodup_flatMap _ _ List.nodup_range' (fun v hv => ?_) (fun v hv w hw hne b hb hc => ?_)
      · have hvn : v < n := by simp at hv; exact hv
        split
        · rename_i hm
          exact walkP_nodup h5 f _ _ _ (h.snoc h5 hvn hm)
        · simp
      · have hvn : v < n := by simp at hv; exact hv
        have hwn : w < n := by simp at hw; exact hw
        split at hb
        · rename_i hm
          split at hc
          · rename_i hm'
            obtain ⟨_, _, _, t, ht⟩ := walkP_met h5 f _ _ _ (h.snoc h5 hvn hm) b hb
            obtain ⟨_, _, _, u, hu⟩ := walkP_met h5 f _ _ _ (h.snoc h5 hwn hm') b hc
            exact hne (append_inj_mid (ht.symm.trans hu))
          · simp at hc
        · simp at hb
theorem allP_nodup {s : List Nat} {n : Nat} (h5 : n ≤ 5) : (allP s n).Nodup := by
  refine nodup_flatMap _ _ List.nodup_range' (fun v hv => ?_) (fun v hv w hw hne b hb hc => ?_)
  · have hvn : v < n := by simp at hv; exact hv
    exact walkP_nodup h5 _ _ _ _ (Met.one s h5 hvn)
  · have hvn : v < n := by simp at hv; exact hv
    have hwn : w < n := by simp at hw; exact hw
    obtain ⟨_, _, _, t, ht⟩ := walkP_met h5 _ _ _ _ (Met.one s h5 hvn) b hb
    obtain ⟨_, _, _, u, hu⟩ := walkP_met h5 _ _ _ _ (Met.one s h5 hwn) b hc
    rw [ht] at hu
    simp at hu
    exact hne hu.1
/-! ### turned -/
theorem perm_of {l m : List (List Nat)} (hl : l.Nodup) (hm : m.Nodup) (h : ∀ x, x ∈ l ↔ x ∈ m) : l.Perm m := by
  rw [List.perm_iff_count]
  intro x
  by_cases hx : x ∈ l
  · rw [hl.count, hm.count, if_pos hx, if_pos ((h x).1 hx)]
  · rw [hl.count, hm.count, if_neg hx, if_neg (fun e => hx ((h x).2 e))]
theorem SPath.rev {s s' : List Nat} {n : Nat} (hr : ∀ u v, (s.getD u 0).testBit v = (s'.getD v 0).testBit u) {p : List Nat} (h : SPath s n p) : SPath s' n p.reverse where
  ne := by simpa using h.ne
  lt := fun v hv => h.lt v (by simpa using hv)
  nd := (List.reverse_perm p).nodup_iff.2 h.nd
  ch := h.ch.rev hr
theorem allP_rev {s s' : List Nat} {n : Nat} (h5 : n ≤ 5) (hr : ∀ u v, (s.getD u 0).testBit v = (s'.getD v 0).testBit u) : (allP s' n).Perm ((allP s n).map List.reverse) := by
  refine perm_of (allP_nodup h5) ?_ fun p => ?_
  · refine List.Pairwise.map _ (fun a b hab e => hab ?_) (allP_nodup (s := s) h5)
    have := congrArg List.reverse e
    simpa using this
  · rw [allP_iff h5, List.mem_map]
    constructor
    · intro h
      refine ⟨p.reverse, ?_, by simp⟩
      rw [allP_iff h5]
      exact h.rev (fun u v => (hr v u).symm)
    · rintro ⟨q, hq, rfl⟩
      rw [allP_iff h5] at hq
      exact hq.rev hr
theorem fullN_rev {s s' : List Nat} {n : Nat} (h5 : n ≤ 5) (hr : ∀ u v, (s.getD u 0).testBit v = (s'.getD v 0).testBit u) : fullN s' n = fullN s n := by
  rw [← allP_count h5, ← allP_count h5, (allP_rev h5 hr).countP_eq, List.countP_map]
  congr 1
  funext q
  simp
/-- The first longest path is one, and none is longer. -/
theorem pick_mem : ∀ (L : List (List Nat)) (a : List Nat), L.foldl pickP a ∈ a :: L ∧ ∀ q ∈ a :: L, q.length ≤ (L.foldl pickP a).length
  | [], a => by simp
  | x :: t, a => by
    obtain ⟨h1, h2⟩ := pick_mem t (pickP a x)
    rw [List.foldl_cons]
    have hc : pickP a x = a ∨ pickP a x = x := by unfold pickP; split <;> simp
    have hle : a.length ≤ (pickP a x).length ∧ x.length ≤ (pickP a x).length := by unfold pickP; split <;> omega
    constructor
    · rw [List.mem_cons] at h1 ⊢
      rcases h1 with h1 | h1
      · rcases hc with e | e
        · exact .inl (h1.trans e)
        · exact .inr (by rw [h1, e]; exact List.mem_cons_self)
      · exact .inr (List.mem_cons_of_mem _ h1)
    · intro q hq
      have hb := h2 _ List.mem_cons_self
      rw [List.mem_cons, List.mem_cons] at hq
      rcases hq with rfl | rfl | hq
      · omega
      · omega
      · exact h2 q (List.mem_cons_of_mem _ hq)
theorem SPath.single (s : List Nat) {n v : Nat} (h : v < n) : SPath s n [v] := ⟨by simp, by simpa using h, by simp, Ch.single s v⟩
theorem longP_sp {s : List Nat} {n : Nat} (h5 : n ≤ 5) (h1 : 1 ≤ n) : SPath s n (longP s n) ∧ ∀ q, SPath s n q → q.length ≤ (longP s n).length := by
  obtain ⟨ha, hb⟩ := pick_mem (allP s n) []
  have hb' : ∀ q, SPath s n q → q.length ≤ (longP s n).length := fun q hq => hb q (List.mem_cons_of_mem _ ((allP_iff h5 q).2 hq))
  refine ⟨?_, hb'⟩
  rw [List.mem_cons] at ha
  rcases ha with ha | ha
  · have := hb' _ (SPath.single s h1)
    rw [show longP s n = [] from ha] at this
    simp at this
  · exact (allP_iff h5 _).1 ha
theorem longP_rev {s s' : List Nat} {n : Nat} (h5 : n ≤ 5) (h1 : 1 ≤ n) (hr : ∀ u v, (s.getD u 0).testBit v = (s'.getD v 0).testBit u) : (longP s' n).length = (longP s n).length := by
  obtain ⟨a1, a2⟩ := longP_sp (s := s) h5 h1
  obtain ⟨b1, b2⟩ := longP_sp (s := s') h5 h1
  have x := a2 _ (b1.rev fun u v => (hr v u).symm)
  have y := b2 _ (a1.rev hr)
  rw [List.length_reverse] at x y
  omega
theorem longP_le {s : List Nat} {n : Nat} (h5 : n ≤ 5) : (longP s n).length ≤ n := by
  obtain ⟨ha, _⟩ := pick_mem (allP s n) []
  have h : ∀ q ∈ allP s n, q.length ≤ n := by
    intro q hq
    simp only [allP, List.mem_flatMap] at hq
    obtain ⟨v, hv, hq⟩ := hq
    have hvn : v < n := by simp at hv; exact hv
    obtain ⟨b, k, hm, _⟩ := walkP_met h5 _ _ _ _ (Met.one s h5 hvn) q hq
    exact hm.le h5
  rw [List.mem_cons] at ha
  rcases ha with ha | ha
  · rw [show longP s n = [] from ha]; simp
  · exact h _ ha
theorem fullN_pos {s : List Nat} {n : Nat} (h5 : n ≤ 5) (h1 : 1 ≤ n) : 0 < fullN s n ↔ (longP s n).length = n := by
  rw [← allP_count h5, List.countP_pos_iff]
  obtain ⟨a1, a2⟩ := longP_sp (s := s) h5 h1
  have hle := longP_le (s := s) h5
  constructor
  · rintro ⟨q, hq, e⟩
    have := a2 q ((allP_iff h5 q).1 hq)
    rw [beq_iff_eq] at e
    omega
  · intro e
    exact ⟨_, (allP_iff h5 _).2 a1, by simp [e]⟩
end Go.Proofs.Ytfijegfjpagjoaa.Q
