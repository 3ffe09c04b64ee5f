/- How an argument that is a graph is read: its number of nodes and its list of edges, all of them whole numbers of 64 bits. No condition. -/
import Derived.Test.YthoaebnnolbaaaaG0
import Derived.Deep.Slices
import Derived.Deep.Fields
import Derived.ChangeSame
import Derived.Lib.SmallJoins
import Derived.OpenShut
namespace Go.Proofs.Ythoaebnnolbaaaa.QRow
open Go.ChangeShapes Go.WideShapes Go.Deep Go.Joins Go.RowKit
open Go.Proofs.Ythoaebnnolbaaaa.G Go.Proofs.YthoaebnnolbaaaaW.PrintWords
set_option linter.unusedVariables false
section
variable {H : Type} {enc : TypeId × Value → H} {P : Program} {w : World} {base : Nat} {spare : Nat → Bool} {held : Bool}
theorem open_slice_fields {t e : TypeId} {fs : Array Field} {fuel : Nat} {cs : List Value} {x : DataW H × List MemPlace} (ht : P.underlying t = some (.slice e)) (he : P.underlying e = some (.struct fs))
    (hone : oneCellFields P fs = true) (hC : P.cellsOf e = fs.size) (h : DataW.trod enc P w base spare held fuel t cs = some x) :
    (cs = [.slice none 0 0] ∧ x = (.nil, [])) ∨
    ∃ (a : Addr) (len cap m : Nat) (D : Nat → DataW H) (Pl : Nat → List MemPlace), cs = [.slice (some a) len cap] ∧ base ≤ a.block ∧ len ≤ cap ∧ cap ≤ maxLen ∧ m = (if spare a.block then cap else len) ∧
      x = (.slice ((List.range len).map D) ((List.range (m - len)).map fun j => D (len + j)), MemPlace.row a (m * fs.size) ++ (List.range m).flatMap Pl) ∧
      ∀ i, i < m → ∃ (ys : List (DataW H × List MemPlace)) (n : Nat), D i = .agg (ys.map (·.1)) ∧ Pl i = ys.flatMap (·.2) ∧ ys.length = fs.size ∧
        ∀ (j : Nat) (f : Field), fs[j]? = some f → ∃ (v : Value) (y : DataW H × List MemPlace), w.cell? (a.add (i * fs.size + j)) = some v ∧ ys[j]? = some y ∧ DataW.trod enc P w base spare held n f.type [v] = some y := by
  rcases open_slice ht h with h0 | ⟨a, len, cap, m, n, D, Pl, hcs, hb, hl, hm, hmm, hx, hi⟩
  · exact .inl h0
  · refine .inr ⟨a, len, cap, m, D, Pl, hcs, hb, hl, hm, hmm, by rw [hC] at hx; exact hx, fun i him => ?_⟩
    obtain ⟨cs', hc, ht'⟩ := hi i him
    rw [hC] at hc
    obtain ⟨ys, n', hn', hy, hlen, hyl, hf⟩ := DataW.trod_struct he ht'
    obtain ⟨_, hcl, hat⟩ := World.cells?_some hc
    simp only [Prod.mk.injEq] at hy
    refine ⟨ys, n', hy.1, hy.2, hyl, fun j f hj => ?_⟩
    obtain ⟨ho, hk⟩ := hone_of hone j f hj
    have hjl : j < fs.size := (Array.getElem?_eq_some_iff.1 hj).1
    have hcell := hat j hjl
    have hv : cs'[j]? = some (cs'[j]'(by omega)) := List.getElem?_eq_getElem (by omega)
    have h1 := hf j f hj
    rw [ho, hk] at h1
    have hone' : (cs'.drop j).take 1 = [cs'[j]'(by omega)] := by
      rw [List.drop_eq_getElem_cons (by omega)]
      rfl
    rw [hone'] at h1
    have hys : ys[j]? = some (ys[j]'(by omega)) := List.getElem?_eq_getElem (by omega)
    refine ⟨_, _, ?_, hys, h1.trans hys⟩
    rw [← Go.Deep.add_add, hcell, hv]
end
theorem list_of {α : Type} {P : Nat → α → Prop} : ∀ n, (∀ i, i < n → ∃ e, P i e) → ∃ l : List α, l.length = n ∧ ∀ i e, l[i]? = some e → P i e
  | 0, _ => ⟨[], rfl, fun i e h => by simp at h⟩
  | n + 1, h => by
    obtain ⟨l, hl, hp⟩ := list_of n (fun i hi => h i (by omega))
    obtain ⟨e, he⟩ := h n (by omega)
    refine ⟨l ++ [e], by simp [hl], fun i e' h' => ?_⟩
    by_cases hi : i < l.length
    · rw [List.getElem?_append_left hi] at h'
      exact hp i e' h'
    · rw [List.getElem?_append_right (by omega)] at h'
      have hz : i - l.length = 0 := by
        rcases Nat.eq_zero_or_pos (i - l.length) with hz | hz
        · exact hz
        · rw [List.getElem?_eq_none (by simp; omega)] at h'
          cases h'
      rw [hz] at h'
      have : e = e' := by simpa using h'
      subst this
      have : i = n := by omega
      subst this
      exact he
section
variable {H : Type} {enc : TypeId × Value → H} {W : World} {base b0 : Nat} {spare : Nat → Bool} {held : Bool} {r : Reach} {v : Value} {d : DataW H} {p : List MemPlace}
set_option maxRecDepth 100000 in
theorem graph_read (hv : Value.okWide Try.prog W r b0 43 v) (h : DataW.Trod enc Try.prog W base spare held 43 v d p) :
    ∃ (a : Int) (A : Option Addr) (c : Nat) (l : List S96), v = .agg #[.int .i64 a, .slice A l.length c] ∧ (Lit.int .i64 a).wf = true ∧ Kd.C k96 W A l.length l ∧ l.length ≤ c ∧ l.length ≤ maxLen ∧
      ∀ e ∈ l, (Lit.int .i64 e.f0).wf = true ∧ (Lit.int .i64 e.f1).wf = true := by
  obtain ⟨c0, c1, y0, y1, m, rfl, rfl, rfl, hy0, hy1⟩ := open_agg2 Try.underlying43 (by kernel_rfl) (by kernel_rfl) hv h
  obtain ⟨a, e0, _, wa⟩ := DataW.trod_int Try.underlying3 hy0
  have e0' : c0 = .int .i64 a := by simpa using e0
  subst e0'
  rcases open_slice_fields Try.underlying41 Try.underlying96 (by kernel_rfl) (by kernel_rfl) hy1 with ⟨hcs, _⟩ | ⟨ad, len, cap, m2, D, Pl, hcs, _, hl, hm, hmm, _, hi⟩
  · have hc1 : c1 = .slice none 0 0 := by simpa using hcs
    subst hc1
    exact ⟨a, none, 0, [], rfl, wa, ⟨rfl, by simp, fun h => absurd h (by simp)⟩, by simp, by simp, fun e he => by cases he⟩
  · have hc1 : c1 = .slice (some ad) len cap := by simpa using hcs
    subst hc1
    have hlm : len ≤ m2 := by rw [hmm]; split <;> omega
    obtain ⟨l, hll, hp⟩ := list_of (α := S96) (P := fun i e => W.cell? (ad.add (i * 2)) = some (.int .i64 e.f0) ∧ W.cell? (ad.add (i * 2 + 1)) = some (.int .i64 e.f1) ∧ (Lit.int .i64 e.f0).wf = true ∧ (Lit.int .i64 e.f1).wf = true) len (fun i hlt => by
      obtain ⟨ys, n, _, _, _, hf⟩ := hi i (by omega)
      obtain ⟨v0, z0, hc0, _, t0⟩ := hf 0 _ rfl
      obtain ⟨v1, z1, hc1, _, t1⟩ := hf 1 _ rfl
      obtain ⟨x, ex, _, wx⟩ := DataW.trod_int Try.underlying3 t0
      obtain ⟨y, ey, _, wy⟩ := DataW.trod_int Try.underlying3 t1
      have ex' : v0 = .int .i64 x := by simpa using ex
      have ey' : v1 = .int .i64 y := by simpa using ey
      subst ex'
      subst ey'
      exact ⟨⟨x, y⟩, hc0, hc1, wx, wy⟩)
    subst hll
    refine ⟨a, some ad, cap, l, rfl, wa, ⟨rfl, ?_, fun _ => ⟨ad, rfl, fun j q hj => ?_⟩⟩, hl, by omega, fun e he => ?_⟩
    · unfold maxLen at hm; omega
    · obtain ⟨h0, h1, _, _⟩ := hp j q hj
      refine ⟨[.int .i64 q.f0, .int .i64 q.f1], rfl, k96_mk W q, fun i u hu => ?_⟩
      match i, hu with
      | 0, hu => obtain rfl := Option.some.inj hu; exact h0
      | 1, hu => obtain rfl := Option.some.inj hu; exact h1
      | (i + 2), hu => simp at hu
    · obtain ⟨j, hj⟩ := List.getElem?_of_mem he
      obtain ⟨_, _, h2, h3⟩ := hp j e hj
      exact ⟨h2, h3⟩
end
end Go.Proofs.Ythoaebnnolbaaaa.QRow
