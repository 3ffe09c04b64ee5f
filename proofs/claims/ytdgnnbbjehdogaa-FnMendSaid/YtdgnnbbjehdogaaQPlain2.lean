/- Plain directions turned are plain; the direction of number 0 is plain. The graph is valid. -/
import Derived.Test.YtdgnnbbjehdogaaQPlain
namespace Go.Proofs.Ytdgnnbbjehdogaa.Q
open Go.RowKit
theorem last_split (P : Nat → Prop) : ∀ l : List Nat, (∃ v ∈ l, P v) → ∃ l1 v l2, l = l1 ++ v :: l2 ∧ P v ∧ ∀ w ∈ l2, ¬ P w
  | [], h => by obtain ⟨v, h, _⟩ := h; exact absurd h (by simp)
  | x :: t, h => by
    by_cases ht : ∃ v ∈ t, P v
    · obtain ⟨l1, v, l2, e, h1, h2⟩ := last_split P t ht
      exact ⟨x :: l1, v, l2, by rw [e]; rfl, h1, h2⟩
    · obtain ⟨v, hv, hP⟩ := h
      rw [List.mem_cons] at hv
      rcases hv with rfl | hv
      · exact ⟨[], v, t, rfl, hP, fun w hw hPw => ht ⟨w, hw, hPw⟩⟩
      · exact absurd ⟨v, hv, hP⟩ ht
section
variable {n : Nat} {es : List (Nat × Nat)} (hv : Val n es)
include hv
omit hv in
theorem adj_turned {o : Nat} (ho : o < 2 ^ es.length) (u v : Nat) : adj (arcs es (2 ^ es.length - 1 - o)) u v = adj (arcs es o) v u := by
  rw [arcs_turned es o ho, Bool.eq_iff_iff, adj_iff, adj_iff, List.mem_map]
  constructor
  · rintro ⟨⟨a, b⟩, hm, he⟩
    simp only [swp, Prod.mk.injEq] at he
    obtain ⟨rfl, rfl⟩ := he
    exact hm
  · intro hm; exact ⟨(v, u), hm, rfl⟩
/-- Not plain: a set of nodes each of which is led to from it. -/
theorem not_plain {o : Nat} (ho : o < 2 ^ es.length) (h : plainB n (arcs es o) = false) : ∃ v, (v < n ∧ v ∉ order n (arcs es o)) := by
  have hnp : ¬ plainB n (arcs es o) = true := by rw [h]; decide
  rw [plain_mem hv ho] at hnp
  apply Classical.byContradiction
  intro hno
  exact hnp fun v hvn => Classical.byContradiction fun hm => hno ⟨v, hvn, hm⟩
theorem plain_turned1 {o : Nat} (ho : o < 2 ^ es.length) (h : plainB n (arcs es o) = true) : plainB n (arcs es (2 ^ es.length - 1 - o)) = true := by
  have ho' : 2 ^ es.length - 1 - o < 2 ^ es.length := by omega
  cases hp : plainB n (arcs es (2 ^ es.length - 1 - o)) with
  | true => rfl
  | false =>
    obtain ⟨v0, hv0, hv0n⟩ := not_plain hv ho' hp
    obtain ⟨_, m, _, hst⟩ := order_facts hv ho'
    obtain ⟨l1, v, l2, e, hPv, hl2⟩ := last_split (fun v => v < n ∧ v ∉ order n (arcs es (2 ^ es.length - 1 - o))) (order n (arcs es o)) ⟨v0, (plain_mem hv ho).1 h v0 hv0, hv0, hv0n⟩
    obtain ⟨u, hu, hun⟩ := hst v hPv.1 hPv.2
    rw [adj_turned ho] at hu
    have hul := order_after hv ho h e u hu
    exact absurd ⟨(adj_lt hv o v u hu).2.1, hun⟩ (hl2 u hul)
theorem plain_turned {o : Nat} (ho : o < 2 ^ es.length) : plainB n (arcs es (2 ^ es.length - 1 - o)) = plainB n (arcs es o) := by
  have ho' : 2 ^ es.length - 1 - o < 2 ^ es.length := by omega
  rw [Bool.eq_iff_iff]
  refine ⟨fun h => ?_, plain_turned1 hv ho⟩
  have := plain_turned1 hv ho' h
  rw [show 2 ^ es.length - 1 - (2 ^ es.length - 1 - o) = o by omega] at this
  exact this
omit hv in
theorem arcs_zero : ∀ es : List (Nat × Nat), arcs es 0 = es
  | [] => rfl
  | e :: t => by simp [arcs, arcs_zero t]
theorem plain_zero : plainB n (arcs es 0) = true := by
  have h0 : 0 < 2 ^ es.length := Nat.two_pow_pos _
  cases hp : plainB n (arcs es 0) with
  | true => rfl
  | false =>
    obtain ⟨v0, hv0, hv0n⟩ := not_plain hv h0 hp
    obtain ⟨_, m, _, hst⟩ := order_facts hv h0
    -- the least such node has no edge to it
    have : ∀ k v, v ≤ k → v < n → v ∉ order n (arcs es 0) → False := by
      intro k
      induction k with
      | zero =>
        intro v hk hvn hno
        obtain ⟨u, hu, hun⟩ := hst v hvn hno
        have hm := (adj_iff _ _ _).1 hu
        rw [arcs_zero] at hm
        have := (hv.lt _ hm).1
        simp only at this; omega
      | succ k ih =>
        intro v hk hvn hno
        obtain ⟨u, hu, hun⟩ := hst v hvn hno
        have hm := (adj_iff _ _ _).1 hu
        rw [arcs_zero] at hm
        have := (hv.lt _ hm).1
        simp only at this
        exact ih u (by omega) (by omega) hun
    exact absurd (this v0 v0 (Nat.le_refl _) hv0 hv0n) id
end
end Go.Proofs.Ytdgnnbbjehdogaa.Q
