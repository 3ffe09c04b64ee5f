/- Plain directions: the order that sorted finds. The graph is valid. -/
import Derived.Test.YtfijegfjpagjoaaQOnes
import Derived.Test.YtfijegfjpagjoaaQTurn
import Derived.Test.YtfijegfjpagjoaaG36
import Derived.Test.YtfijegfjpagjoaaG25
namespace Go.Proofs.Ytfijegfjpagjoaa.Q
open Go.RowKit Go.Proofs.Ytfijegfjpagjoaa.G Go.Proofs.YtfijegfjpagjoaaW.PrintWords Go.Proofs.YtfijegfjpagjoaaW.PrintLast Go.Proofs.YtfijegfjpagjoaaW.PrintMore
set_option linter.unusedVariables false
set_option linter.unusedSimpArgs false
/-! ### sorted -/
def rdy (s : List Nat) (m v : Nat) : Bool := cond (Nat.testBit m v) false (Nat.beq (Nat.land (s.getD v 0) (Nat.xor (s.getD v 0) m)) 0)
def fstN (s : List Nat) (m : Nat) : Nat → Nat → Option Nat
  | _, 0 => none
  | i, d + 1 => cond (rdy s m i) (some i) (fstN s m (i + 1) d)
def sortN (s : List Nat) (n : Nat) : Nat → List Nat → Nat → Option (List Nat)
  | 0, _, _ => none
  | f + 1, l, m => match fstN s m 0 n with
    | none => some l
    | some v => sortN s n f (l ++ [v]) (m ||| 2 ^ v)
def cand : Option Nat → Int
  | none => -1
  | some v => (v : Int)
theorem fstN_lt (s : List Nat) (m : Nat) : ∀ d i v, fstN s m i d = some v → v < i + d
  | 0, i, v, h => by simp [fstN] at h
  | d + 1, i, v, h => by
    simp only [fstN] at h
    cases hr : rdy s m i with
    | true => rw [hr] at h; have : i = v := Option.some.inj h; omega
    | false => rw [hr] at h; have := fstN_lt s m d (i + 1) v h; omega
theorem sorted_l1 {n : Nat} (h5 : n ≤ 5) (a : Int) (es : List E) {s : List Nat} (hs : Sets n s) (order : List Int) {m : Nat} (hm : m < 32) (r : List Int)
    (he : Ev (fun k => if cand (fstN s m 0 n) < 0 then some order else if order.length < 17592186044416 then (if 0 ≤ cand (fstN s m 0 n) then impl_sorted.l0 k (I s) (order ++ [cand (fstN s m 0 n)]) (Go.bits .or .i64 (m : Int) (shl .i64 1 (cand (fstN s m 0 n)))) a es else none) else none) r) :
    ∀ j : Nat, j ≤ n → Ev (fun k => impl_sorted.l1 k (I s) order (m : Int) (cand (fstN s m j (n - j))) ((j : Int) - 1) a es) r
  | 0, hj => by
    refine Ev.step (fun k => ?_) he
    simp only [impl_sorted.l1]
    rw [if_neg (by omega)]
    rfl
  | j + 1, hj => by
    have ih := sorted_l1 h5 a es hs order hm r he j (by omega)
    have e0 : ((j + 1 : Nat) : Int) - 1 = (j : Int) := by omega
    have e1 : wrap64 ((j : Int) - 1) = (j : Int) - 1 := wrap_int _ (by omega) (by omega)
    have hd : n - j = (n - (j + 1)) + 1 := by omega
    have hsj := hs.getD j
    have hfst : fstN s m j (n - j) = cond (rdy s m j) (some j) (fstN s m (j + 1) (n - (j + 1))) := by rw [hd]; rfl
    rw [hfst] at ih
    rw [e0]
    refine Ev.step (fun k => ?_) ih
    simp only [impl_sorted.l1]
    rw [if_pos (Int.natCast_nonneg j), if_pos (Int.natCast_nonneg j), bit_nat m j (lt62 hm) (by omega), e1]
    cases hb : m.testBit j with
    | true =>
      have hr : rdy s m j = false := by rw [rdy, hb]; rfl
      rw [if_neg (by decide), hr]; rfl
    | false =>
      rw [if_pos (by decide), if_pos (by rw [I_length, hs.1]; omega), rd_nat, andNot_nat _ _ (lt62 hsj) (lt62 hm)]
      cases hz : Nat.beq (Nat.land (s.getD j 0) (Nat.xor (s.getD j 0) m)) 0 with
      | true =>
        have hr : rdy s m j = true := by rw [rdy, hb, hz]; rfl
        have hz' := Nat.eq_of_beq_eq_true hz
        rw [if_pos (show (((s.getD j 0 &&& (s.getD j 0 ^^^ m) : Nat)) : Int) = 0 from by rw [show s.getD j 0 &&& (s.getD j 0 ^^^ m) = 0 from hz']; rfl), hr]; rfl
      | false =>
        have hr : rdy s m j = false := by rw [rdy, hb, hz]; rfl
        have hz' := Nat.ne_of_beq_eq_false hz
        rw [if_neg (show ¬ (((s.getD j 0 &&& (s.getD j 0 ^^^ m) : Nat)) : Int) = 0 from fun h => hz' (Int.ofNat.inj h)), hr]; rfl
theorem sorted_l0 {n : Nat} (h5 : n ≤ 5) (es : List E) {s : List Nat} (hs : Sets n s) (r : List Nat) : ∀ (f : Nat) (l : List Nat) (m : Nat), m < 32 → l.length + f ≤ 1000 → sortN s n f l m = some r → Ev (fun k => impl_sorted.l0 k (I s) (I l) (m : Int) (n : Int) es) (I r)
  | 0, l, m, hm, hl, h => by simp [sortN] at h
  | f + 1, l, m, hm, hl, h => by
    have e1 : wrap64 ((n : Int) - 1) = (n : Int) - 1 := wrap_int _ (by omega) (by omega)
    have h0 : fstN s m n (n - n) = none := by rw [Nat.sub_self]; rfl
    refine Ev.step (fun k => ?_) (sorted_l1 h5 (n : Int) es hs (I l) hm (I r) ?_ n (Nat.le_refl n))
    · simp only [impl_sorted.l0, e1, h0]; rfl
    · simp only [sortN] at h
      cases hc : fstN s m 0 n with
      | none =>
        rw [hc] at h
        have : l = r := Option.some.inj h
        subst this
        simp only [cand]
        exact Ev.now _
      | some v =>
        rw [hc] at h
        have hv := fstN_lt s m n 0 v hc
        have e2 : ¬ (v : Int) < 0 := by omega
        have e3 : (I l).length < 17592186044416 := by rw [I_length]; omega
        have e4 : I l ++ [(v : Int)] = I (l ++ [v]) := by simp [I]
        simp only [cand, e2, if_false, e3, if_true, Int.natCast_nonneg, e4, shl_one v (by omega), or_nat m (2 ^ v) (lt62 hm) (lt62 (two_lt_32 (by omega)))]
        exact sorted_l0 h5 es hs r f (l ++ [v]) (m ||| 2 ^ v) (or_lt_32 hm (two_lt_32 (by omega))) (by simp; omega) h
/-- The order that sorted finds. -/
def order? (n : Nat) (ar : List (Nat × Nat)) : Option (List Nat) := sortN (nxt n (ar.map swp)) n 6 [] 0
/-- An order: in front of each node are all nodes from which edges lead to it. -/
def Topo (s : List Nat) (l : List Nat) : Prop := ∀ l1 v l2, l = l1 ++ v :: l2 → ∀ u, (s.getD v 0).testBit u = true → u ∈ l1
structure Srt (s : List Nat) (n : Nat) (l : List Nat) (m : Nat) : Prop where
  lt : m < 2 ^ n
  mem : ∀ v, m.testBit v = true ↔ v ∈ l
  len : l.length = pop m
  nd : l.Nodup
  topo : Topo s l
theorem pop_or' : ∀ s, s < 32 → ∀ b, b < 5 → s.testBit b = false → pop (s ||| 2 ^ b) = pop s + 1 := by decide +kernel
theorem pop_bd : ∀ n, n < 6 → ∀ m, m < 2 ^ n → pop m ≤ n ∧ (pop m = n ↔ m = 2 ^ n - 1) := by decide +kernel
theorem fstN_some {s : List Nat} {m v : Nat} : ∀ d i, fstN s m i d = some v → rdy s m v = true
  | 0, i, h => by simp [fstN] at h
  | d + 1, i, h => by
    simp only [fstN] at h
    cases hr : rdy s m i with
    | true => rw [hr] at h; rw [← Option.some.inj (show some i = some v from h)]; exact hr
    | false => rw [hr] at h; exact fstN_some d (i + 1) h
theorem fstN_none {s : List Nat} {m : Nat} : ∀ d i, fstN s m i d = none → ∀ v, i ≤ v → v < i + d → rdy s m v = false
  | 0, i, h, v, h1, h2 => absurd h2 (by omega)
  | d + 1, i, h, v, h1, h2 => by
    simp only [fstN] at h
    cases hr : rdy s m i with
    | true => rw [hr] at h; exact absurd h (by simp)
    | false =>
      rw [hr] at h
      by_cases e : v = i
      · subst e; exact hr
      · exact fstN_none d (i + 1) h v (by omega) (by omega)
theorem rdy_iff (s : List Nat) (m v : Nat) : rdy s m v = true ↔ m.testBit v = false ∧ ∀ u, (s.getD v 0).testBit u = true → m.testBit u = true := by
  unfold rdy
  cases hb : m.testBit v with
  | true => simp
  | false =>
    simp only [cond_false, true_and, Nat.beq_eq]
    have hbit : ∀ u, (Nat.land (s.getD v 0) (Nat.xor (s.getD v 0) m)).testBit u = ((s.getD v 0).testBit u && !m.testBit u) := by
      intro u
      show ((s.getD v 0) &&& ((s.getD v 0) ^^^ m)).testBit u = _
      rw [Nat.testBit_and, Nat.testBit_xor]
      cases (s.getD v 0).testBit u <;> simp
    constructor
    · intro h u hu
      have := hbit u
      rw [h, Nat.zero_testBit, hu, Bool.true_and] at this
      cases hm : m.testBit u with
      | true => rfl
      | false => rw [hm] at this; exact absurd this (by decide)
    · intro h
      apply Nat.eq_of_testBit_eq
      intro u
      rw [hbit, Nat.zero_testBit]
      cases hu : (s.getD v 0).testBit u with
      | false => rfl
      | true => rw [h u hu]; rfl
theorem Srt.snoc {s : List Nat} {n : Nat} (h5 : n ≤ 5) {l : List Nat} {m v : Nat} (h : Srt s n l m) (hv : v < n) (hr : rdy s m v = true) : Srt s n (l ++ [v]) (m ||| 2 ^ v) := by
  obtain ⟨h1, h2⟩ := (rdy_iff s m v).1 hr
  have h32 := two_n h5
  have hnl : v ∉ l := fun hm => by rw [(h.mem v).2 hm] at h1; exact absurd h1 (by decide)
  refine ⟨Nat.or_lt_two_pow h.lt (Nat.pow_lt_pow_right (by decide) hv), fun w => ?_, ?_, ?_, ?_⟩
  · rw [Nat.testBit_or, Nat.testBit_two_pow, Bool.or_eq_true, List.mem_append, List.mem_singleton, h.mem w, decide_eq_true_eq]
    exact ⟨fun h => h.imp id Eq.symm, fun h => h.imp id Eq.symm⟩
  · rw [List.length_append, pop_or' m (Nat.lt_of_lt_of_le h.lt h32) v (by omega) h1, h.len]; rfl
  · rw [List.nodup_append]
    refine ⟨h.nd, by simp, fun a ha b hb => ?_⟩
    rw [List.mem_singleton] at hb
    subst hb
    exact fun e => hnl (e ▸ ha)
  · intro l1 w l2 he u hu
    rcases List.append_eq_append_iff.1 he with ⟨t, rfl, ht⟩ | ⟨t, rfl, ht⟩
    · cases t with
      | nil =>
        simp only [List.nil_append, List.cons.injEq] at ht
        obtain ⟨rfl, _⟩ := ht
        rw [List.append_nil]
        exact (h.mem u).1 (h2 u hu)
      | cons x t =>
        simp at ht
    · cases t with
      | nil =>
        simp only [List.nil_append, List.cons.injEq] at ht
        obtain ⟨rfl, _⟩ := ht
        have := (h.mem u).1 (h2 u hu)
        simpa using this
      | cons x t =>
        simp only [List.cons_append, List.cons.injEq] at ht
        obtain ⟨rfl, _⟩ := ht
        exact h.topo l1 w t rfl u hu
theorem sortN_ok {s : List Nat} {n : Nat} (h5 : n ≤ 5) : ∀ (f : Nat) (l : List Nat) (m : Nat), Srt s n l m → n < l.length + f → ∃ r mr, sortN s n f l m = some r ∧ Srt s n r mr ∧ ∀ v, v < n → v ∉ r → ∃ u, (s.getD v 0).testBit u = true ∧ u ∉ r
  | 0, l, m, h, hf => by
    have := (pop_bd n (by omega) m h.lt).1
    have := h.len
    omega
  | f + 1, l, m, h, hf => by
    simp only [sortN]
    cases hc : fstN s m 0 n with
    | none =>
      refine ⟨l, m, rfl, h, fun v hv hnl => ?_⟩
      have hr := fstN_none n 0 hc v (by omega) (by omega)
      apply Classical.byContradiction
      intro hno
      have : rdy s m v = true := (rdy_iff s m v).2 ⟨by
        cases hb : m.testBit v with
        | false => rfl
        | true => exact absurd ((h.mem v).1 hb) hnl, fun u hu => by
        apply Classical.byContradiction
        intro hm
        exact hno ⟨u, hu, fun hl => hm ((h.mem u).2 hl)⟩⟩
      rw [hr] at this; exact absurd this (by decide)
    | some v =>
      have hvn := fstN_lt s m n 0 v hc
      have hs := h.snoc h5 (by omega) (fstN_some n 0 hc)
      exact sortN_ok h5 f _ _ hs (by simp; omega)
/-- The order that sorted finds; all nodes, when the direction is plain. -/
def order (n : Nat) (ar : List (Nat × Nat)) : List Nat := (order? n ar).getD []
def plainB (n : Nat) (ar : List (Nat × Nat)) : Bool := Nat.beq (order n ar).length n
section
variable {n : Nat} {es : List (Nat × Nat)} (hv : Val n es)
include hv
theorem in_bit {o : Nat} (ho : o < 2 ^ es.length) (v u : Nat) : ((nxt n ((arcs es o).map swp)).getD v 0).testBit u = adj (arcs es o) u v := by
  rw [← arcs_turned es o ho]
  have h := out_bit hv (2 ^ es.length - 1 - o) v u
  unfold out at h
  rw [h, arcs_turned es o ho, Bool.eq_iff_iff, adj_iff, adj_iff, List.mem_map]
  constructor
  · rintro ⟨⟨a, b⟩, hm, he⟩
    simp only [swp, Prod.mk.injEq] at he
    obtain ⟨rfl, rfl⟩ := he
    exact hm
  · intro hm; exact ⟨(u, v), hm, rfl⟩
theorem order_facts {o : Nat} (ho : o < 2 ^ es.length) : order? n (arcs es o) = some (order n (arcs es o)) ∧ ∃ m, Srt (nxt n ((arcs es o).map swp)) n (order n (arcs es o)) m ∧ ∀ v, v < n → v ∉ order n (arcs es o) → ∃ u, adj (arcs es o) u v = true ∧ u ∉ order n (arcs es o) := by
  have h5 := hv.le
  have h0 : Srt (nxt n ((arcs es o).map swp)) n [] 0 := ⟨Nat.two_pow_pos n, fun v => by simp, by decide, by simp, fun l1 v l2 h => by simp at h⟩
  obtain ⟨r, m, h1, h2, h3⟩ := sortN_ok hv.le 6 [] 0 h0 (by simp; omega)
  have e : order n (arcs es o) = r := by unfold order order?; rw [h1]; rfl
  rw [e]
  refine ⟨h1, m, h2, fun v hvn hnr => ?_⟩
  obtain ⟨u, hu, hur⟩ := h3 v hvn hnr
  rw [in_bit hv ho] at hu
  exact ⟨u, hu, hur⟩
theorem order_len {o : Nat} (ho : o < 2 ^ es.length) : (order n (arcs es o)).length ≤ n := by
  obtain ⟨_, m, h, _⟩ := order_facts hv ho
  rw [h.len]; exact (pop_bd n (by have := hv.le; omega) m h.lt).1
theorem order_lt {o : Nat} (ho : o < 2 ^ es.length) : ∀ v ∈ order n (arcs es o), v < n := by
  obtain ⟨_, m, h, _⟩ := order_facts hv ho
  intro v hm
  have hb := (h.mem v).2 hm
  apply Classical.byContradiction
  intro hn
  have := Nat.testBit_lt_two_pow (Nat.lt_of_lt_of_le h.lt (Nat.pow_le_pow_right (by decide) (show n ≤ v by omega)))
  rw [this] at hb; exact absurd hb (by decide)
theorem plain_mem {o : Nat} (ho : o < 2 ^ es.length) : plainB n (arcs es o) = true ↔ ∀ v, v < n → v ∈ order n (arcs es o) := by
  obtain ⟨_, m, h, _⟩ := order_facts hv ho
  rw [plainB, Nat.beq_eq, h.len, (pop_bd n (by have := hv.le; omega) m h.lt).2, full_iff n m h.lt]
  exact ⟨fun h1 v hvn => (h.mem v).1 (h1 v hvn), fun h1 v hvn => (h.mem v).2 (h1 v hvn)⟩
theorem order_topo {o : Nat} (ho : o < 2 ^ es.length) {l1 : List Nat} {v : Nat} {l2 : List Nat} (h : order n (arcs es o) = l1 ++ v :: l2) : ∀ u, adj (arcs es o) u v = true → u ∈ l1 := by
  obtain ⟨_, m, h1, _⟩ := order_facts hv ho
  intro u hu
  exact h1.topo l1 v l2 h u (by rw [in_bit hv ho]; exact hu)
theorem order_after {o : Nat} (ho : o < 2 ^ es.length) (hp : plainB n (arcs es o) = true) {l1 : List Nat} {v : Nat} {l2 : List Nat} (h : order n (arcs es o) = l1 ++ v :: l2) : ∀ w, adj (arcs es o) v w = true → w ∈ l2 := by
  intro w hw
  have hlt := adj_lt hv o v w hw
  have hm := (plain_mem hv ho).1 hp w hlt.2.1
  obtain ⟨_, m, hS, _⟩ := order_facts hv ho
  have hnd := hS.nd
  rw [h, List.mem_append, List.mem_cons] at hm
  rcases hm with hm | rfl | hm
  · obtain ⟨a, b, rfl⟩ := List.append_of_mem hm
    have h2 : order n (arcs es o) = a ++ w :: (b ++ v :: l2) := by rw [h]; simp
    have hva := order_topo hv ho h2 v hw
    rw [h2, List.nodup_append] at hnd
    exact absurd rfl (hnd.2.2 v hva v (by simp))
  · exact absurd rfl hlt.2.2
  · exact hm
theorem impl_sorted_ev {o : Nat} (ho : o < 2 ^ es.length) : Ev (fun k => impl_sorted.f k n (mkE es) o) (I (order n (arcs es o))) := by
  have h := (order_facts hv ho).1
  unfold order? at h
  rw [← arcs_turned es o ho] at h
  unfold impl_sorted.f
  simp only [impl_turned_eq' hv ho, Option.bind_some]
  refine Ev.bind (impl_nextOf_ev hv (by omega)) ?_
  exact sorted_l0 hv.le (mkE es) (nxt_sets hv _) _ 6 [] 0 (by omega) (by simp) h
theorem impl_isPlain_ev {o : Nat} (ho : o < 2 ^ es.length) : Ev (fun k => impl_isPlain.f k n (mkE es) o) (plainB n (arcs es o)) := by
  unfold impl_isPlain.f
  refine Ev.bind (impl_sorted_ev hv ho) (Ev.eq_ (Ev.now _) ?_)
  rw [I_length, plainB, Bool.eq_iff_iff, beq_iff_eq, Nat.beq_eq]; exact Int.ofNat_inj
end
end Go.Proofs.Ytfijegfjpagjoaa.Q
