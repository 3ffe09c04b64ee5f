/- Both KernelGame tell the same values. The numbers are of 64 bits. -/
import Derived.Test.YtfijegfjpagjoaaQPlain
import Derived.Test.YtfijegfjpagjoaaQPlainIn
import Derived.Test.YtfijegfjpagjoaaG35
namespace Go.Proofs.Ytfijegfjpagjoaa.Q
open Go.RowKit Go.Proofs.Ytfijegfjpagjoaa.G Go.Proofs.YtfijegfjpagjoaaW.PrintWords Go.Proofs.YtfijegfjpagjoaaW.PrintLast Go.Proofs.YtfijegfjpagjoaaW.PrintMore
set_option linter.unusedVariables false
set_option linter.unusedSimpArgs false
set_option linter.unusedSectionVars false
/-- The least number that is not in a set, from g on. -/
def mexF (m : Nat) : Nat → Nat → Nat
  | 0, g => g
  | f + 1, g => if m.testBit g then mexF m f (g + 1) else g
def mex (m : Nat) : Nat := mexF m 20 0
/-- The values of the nodes of a set. -/
def gmL (sv : Nat) : List Nat → Nat → Nat → Nat
  | [], _, m => m
  | x :: t, u, m => gmL sv t (u + 1) (if sv.testBit u then m ||| 2 ^ x else m)
theorem gmL_bit (sv g : Nat) : ∀ (t : List Nat) (u m : Nat), (gmL sv t u m).testBit g = true ↔ m.testBit g = true ∨ ∃ j, j < t.length ∧ sv.testBit (u + j) = true ∧ t.getD j 0 = g
  | [], u, m => by simp [gmL]
  | x :: t, u, m => by
    simp only [gmL]
    rw [gmL_bit sv g t (u + 1)]
    have h0 : (if sv.testBit u = true then m ||| 2 ^ x else m).testBit g = true ↔ m.testBit g = true ∨ (sv.testBit u = true ∧ x = g) := by
      by_cases hb : sv.testBit u = true
      · rw [if_pos hb, Nat.testBit_or, Nat.testBit_two_pow, Bool.or_eq_true, decide_eq_true_eq]; simp [hb]
      · rw [if_neg hb]; simp [hb]
    rw [h0]
    constructor
    · rintro ((h | ⟨h1, h2⟩) | ⟨j, h1, h2, h3⟩)
      · exact .inl h
      · exact .inr ⟨0, by simp, h1, by simpa using h2⟩
      · exact .inr ⟨j + 1, by simpa using h1, by rw [show u + (j + 1) = u + 1 + j by omega]; exact h2, by simpa using h3⟩
    · rintro (h | ⟨j, h1, h2, h3⟩)
      · exact .inl (.inl h)
      · cases j with
        | zero => exact .inl (.inr ⟨h2, by simpa using h3⟩)
        | succ j => exact .inr ⟨j, by simpa using h1, by rw [show u + 1 + j = u + (j + 1) by omega]; exact h2, by simpa using h3⟩
theorem gmL_lt (sv B : Nat) : ∀ (t : List Nat) (u m : Nat), (∀ x ∈ t, x < B) → m < 2 ^ B → gmL sv t u m < 2 ^ B
  | [], u, m, _, h => h
  | x :: t, u, m, ht, h => by
    simp only [gmL]
    refine gmL_lt sv B t (u + 1) _ (fun y hy => ht y (List.mem_cons_of_mem _ hy)) ?_
    split
    · exact Nat.or_lt_two_pow h (Nat.pow_lt_pow_right (by decide) (ht x List.mem_cons_self))
    · exact h
theorem mexF_le (m B : Nat) (hm : m < 2 ^ B) : ∀ f g, g ≤ B → mexF m f g ≤ B
  | 0, g, h => h
  | f + 1, g, h => by
    simp only [mexF]
    split
    · rename_i hb
      have : g < B := by
        apply Classical.byContradiction
        intro hn
        rw [Nat.testBit_lt_two_pow (Nat.lt_of_lt_of_le hm (Nat.pow_le_pow_right (by decide) (show B ≤ g by omega)))] at hb
        exact absurd hb (by decide)
      exact mexF_le m B hm f (g + 1) this
    · exact h
theorem mexF_out (m B : Nat) (hm : m < 2 ^ B) : ∀ f g, B < g + f → m.testBit (mexF m f g) = false
  | 0, g, h => Nat.testBit_lt_two_pow (Nat.lt_of_lt_of_le hm (Nat.pow_le_pow_right (by decide) (show B ≤ g by omega)))
  | f + 1, g, h => by
    simp only [mexF]
    split
    · exact mexF_out m B hm f (g + 1) (by omega)
    · rename_i hb; simpa using hb
/-- One node's value is set. -/
def gstep (s : List Nat) (vals : List Nat) (v : Nat) : List Nat := vals.set v (mex (gmL (s.getD v 0) vals 0 0))
section
variable {n : Nat} (h5 : n ≤ 5) {s : List Nat} (hs : Sets n s) (ord : List Nat) (hord : ∀ v ∈ ord, v < n)
include h5 hs hord
theorem game_l2_step (p v : Nat) (hp : p < ord.length) (hp5 : p < 5) (hpv : ord[p] = v) (mask : Nat) (hm62 : mask < 2 ^ 62) (g : Nat) (hg : g < 30) (vals : List Nat) (hvl : vals.length = n) (k : Nat) :
    impl_KernelGame.l2 (k + 1) (I s) (I (vals.set v g)) (I ord) (p : Int) (mask : Int) = if mask.testBit g then impl_KernelGame.l2 k (I s) (I (vals.set v (g + 1))) (I ord) (p : Int) (mask : Int) else impl_KernelGame.l0 k (I s) (I (vals.set v g)) (I ord) ((p : Int) - 1) := by
  have hvn : v < n := hpv ▸ hord _ (List.getElem_mem hp)
  have go : rd (I ord) (p : Int) = (v : Int) := by
    rw [rd_nat, List.getD_eq_getElem?_getD, List.getElem?_eq_getElem hp, Option.getD_some, hpv]
  have hvv : v < vals.length := hvl ▸ hvn
  have gv : rd (I (vals.set v g)) (v : Int) = (g : Int) := by
    rw [rd_nat, List.getD_eq_getElem?_getD, List.getElem?_set_self hvv, Option.getD_some]
  have e1 : wrap64 ((g : Int) + 1) = ((g + 1 : Nat) : Int) := wrap_add _ (lt62 (Nat.lt_trans hg (by decide)))
  have e2 : wrap64 ((p : Int) - 1) = (p : Int) - 1 := by clear hm62 go gv hpv hp; unfold wrap64; omega
  have c1 : (p : Int) < ((I ord).length : Int) := by rw [I_length]; exact Int.ofNat_lt.2 hp
  have c2 : (v : Int) < ((I (vals.set v g)).length : Int) := by rw [I_length, List.length_set]; exact Int.ofNat_lt.2 hvv
  have hg64 : g ≤ 64 := Nat.le_of_lt (Nat.lt_trans hg (by decide))
  simp only [impl_KernelGame.l2]
  rw [if_pos (Int.natCast_nonneg p), if_pos c1, go, if_pos (Int.natCast_nonneg v), if_pos c2, gv, if_pos (Int.natCast_nonneg g), bit_nat mask g hm62 hg64, e1, e2, set_nat, List.set_set]
  cases mask.testBit g <;> rfl
theorem game_l1_step (p v : Nat) (hp : p < ord.length) (hpv : ord[p] = v) (vals : List Nat) (hvl : vals.length = n) (u : Nat) (hu : u < vals.length) (hx : vals[u] < 30) (mask : Nat) (hm62 : mask < 2 ^ 62) (k : Nat) :
    impl_KernelGame.l1 (k + 1) (I s) (I vals) (I ord) (p : Int) (mask : Int) (I vals) ((I vals).length : Int) (u : Int) = impl_KernelGame.l1 k (I s) (I vals) (I ord) (p : Int) ((if (s.getD v 0).testBit u then mask ||| 2 ^ vals[u] else mask : Nat) : Int) (I vals) ((I vals).length : Int) ((u + 1 : Nat) : Int) := by
  have hvn : v < n := hpv ▸ hord _ (List.getElem_mem hp)
  have go : rd (I ord) (p : Int) = (v : Int) := by
    rw [rd_nat, List.getD_eq_getElem?_getD, List.getElem?_eq_getElem hp, Option.getD_some, hpv]
  have gu : rd (I vals) (u : Int) = ((vals[u] : Nat) : Int) := by
    rw [rd_nat, List.getD_eq_getElem?_getD, List.getElem?_eq_getElem hu, Option.getD_some]
  have hu5 : u < 5 := Nat.lt_of_lt_of_le (hvl ▸ hu) h5
  have e1 : wrap64 ((u : Int) + 1) = ((u + 1 : Nat) : Int) := wrap_add _ (lt62 (Nat.lt_trans hu5 (by decide)))
  have c0 : (u : Int) < ((I vals).length : Int) := by rw [I_length]; exact Int.ofNat_lt.2 hu
  have c1 : (p : Int) < ((I ord).length : Int) := by rw [I_length]; exact Int.ofNat_lt.2 hp
  have c2 : (v : Int) < ((I s).length : Int) := by rw [I_length, hs.1]; exact Int.ofNat_lt.2 hvn
  have hx62 : 2 ^ vals[u] < 2 ^ 62 := Nat.pow_lt_pow_right (by decide) (Nat.lt_trans hx (by decide))
  have hu64 : u ≤ 64 := Nat.le_of_lt (Nat.lt_trans hu5 (by decide))
  have hx60 : vals[u] ≤ 60 := Nat.le_of_lt (Nat.lt_trans hx (by decide))
  simp only [impl_KernelGame.l1]
  rw [if_pos c0, if_pos (Int.natCast_nonneg u), if_pos c0, if_pos (Int.natCast_nonneg p), if_pos c1, go, if_pos (Int.natCast_nonneg v), if_pos c2, rd_nat, bit_nat _ u (lt62 (hs.getD v)) hu64, e1, gu]
  cases (s.getD v 0).testBit u with
  | true => rw [if_pos (by decide), if_pos (Int.natCast_nonneg _), shl_one vals[u] hx60, or_nat _ _ hm62 hx62]; rfl
  | false => rw [if_neg (by decide)]; rfl
theorem game_l2 (p v : Nat) (hp : p < ord.length) (hp5 : p < 5) (hpv : ord[p] = v) (mask : Nat) (hm62 : mask < 2 ^ 62) (vals : List Nat) (hvl : vals.length = n) (r : List Int × Bool) :
    ∀ f g : Nat, g + f = 20 → mask.testBit (mexF mask f g) = false → Ev (fun k => impl_KernelGame.l0 k (I s) (I (vals.set v (mexF mask f g))) (I ord) ((p : Int) - 1)) r → Ev (fun k => impl_KernelGame.l2 k (I s) (I (vals.set v g)) (I ord) (p : Int) (mask : Int)) r
  | 0, g, hg, hb, he => by
    have hg30 : g < 30 := by clear hm62 he hb hpv hp; omega
    have hb : mask.testBit g = false := hb
    have he : Ev (fun k => impl_KernelGame.l0 k (I s) (I (vals.set v g)) (I ord) ((p : Int) - 1)) r := he
    refine Ev.step (fun k => ?_) he
    rw [game_l2_step h5 hs ord hord p v hp hp5 hpv mask hm62 g hg30 vals hvl k, hb]; rfl
  | f + 1, g, hg, hb, he => by
    have hg30 : g < 30 := by clear hm62 he hb hpv hp; omega
    have hgf : g + 1 + f = 20 := by clear hm62 he hb hpv hp; omega
    cases hbit : mask.testBit g with
    | true =>
      have hmx : mexF mask (f + 1) g = mexF mask f (g + 1) := by simp only [mexF, hbit, if_true]
      rw [hmx] at he hb
      refine Ev.step (fun k => ?_) (game_l2 p v hp hp5 hpv mask hm62 vals hvl r f (g + 1) hgf hb he)
      rw [game_l2_step h5 hs ord hord p v hp hp5 hpv mask hm62 g hg30 vals hvl k, hbit]; rfl
    | false =>
      have hmx : mexF mask (f + 1) g = g := by simp only [mexF, hbit, Bool.false_eq_true, if_false]
      rw [hmx] at he
      refine Ev.step (fun k => ?_) he
      rw [game_l2_step h5 hs ord hord p v hp hp5 hpv mask hm62 g hg30 vals hvl k, hbit]; rfl
theorem game_l1 (p v : Nat) (hp : p < ord.length) (hpv : ord[p] = v) (vals : List Nat) (hvl : vals.length = n) (hv30 : ∀ x ∈ vals, x < 30) (r : List Int × Bool) (he : Ev (fun k => impl_KernelGame.l2 k (I s) (I vals) (I ord) (p : Int) ((gmL (s.getD v 0) vals 0 0 : Nat) : Int)) r) :
    ∀ (d u mask : Nat), u + d = n → mask < 2 ^ 62 → gmL (s.getD v 0) (vals.drop u) u mask = gmL (s.getD v 0) vals 0 0 → Ev (fun k => impl_KernelGame.l1 k (I s) (I vals) (I ord) (p : Int) (mask : Int) (I vals) ((I vals).length : Int) (u : Int)) r
  | 0, u, mask, hu, hm, hg => by
    have hun : u = vals.length := by rw [hvl]; exact hu
    rw [List.drop_of_length_le (Nat.le_of_eq hun.symm)] at hg
    have hg : mask = gmL (s.getD v 0) vals 0 0 := hg
    rw [← hg] at he
    refine Ev.step (fun k => ?_) he
    simp only [impl_KernelGame.l1]
    rw [if_neg (by rw [I_length, ← hun]; exact Int.lt_irrefl _)]
  | d + 1, u, mask, hu, hm, hg => by
    have hul : u < vals.length := by rw [hvl]; clear hm hg he hpv hp; omega
    have hu1 : u + 1 + d = n := by clear hm hg he hpv hp; omega
    have hx := hv30 vals[u] (List.getElem_mem hul)
    rw [List.drop_eq_getElem_cons hul] at hg
    simp only [gmL] at hg
    have hm' : (if (s.getD v 0).testBit u = true then mask ||| 2 ^ vals[u] else mask) < 2 ^ 62 := by
      split
      · exact Nat.or_lt_two_pow hm (Nat.pow_lt_pow_right (by decide) (Nat.lt_trans hx (by decide)))
      · exact hm
    refine Ev.step (fun k => ?_) (game_l1 p v hp hpv vals hvl hv30 r he d (u + 1) _ hu1 hm' hg)
    rw [game_l1_step h5 hs ord hord p v hp hpv vals hvl u hul hx mask hm k]
omit h5 hord in
theorem gl_dummy : True := trivial
end
/-- The values when the nodes of a list are set, the last one first. -/
def gvals (s : List Nat) (n : Nat) : List Nat → List Nat
  | [] => List.replicate n 0
  | v :: t => gstep s (gvals s n t) v
theorem gvals_len (s : List Nat) (n : Nat) : ∀ l, (gvals s n l).length = n
  | [] => by simp [gvals]
  | v :: t => by simp [gvals, gstep, gvals_len s n t]
theorem gvals_le (s : List Nat) (n : Nat) : ∀ l, l.length ≤ 10 → ∀ x ∈ gvals s n l, x ≤ l.length
  | [], _, x, hx => by
    simp only [gvals, List.mem_replicate] at hx
    rw [hx.2]; exact Nat.zero_le _
  | v :: t, hl, x, hx => by
    have hl' : t.length ≤ 10 := by rw [List.length_cons] at hl; omega
    have ih := gvals_le s n t hl'
    simp only [gvals, gstep] at hx
    rw [List.length_cons]
    rcases List.mem_or_eq_of_mem_set hx with h | rfl
    · exact Nat.le_succ_of_le (ih x h)
    · exact mexF_le _ (t.length + 1) (gmL_lt _ (t.length + 1) _ 0 0 (fun y hy => Nat.lt_succ_of_le (ih y hy)) (Nat.two_pow_pos _)) 20 0 (Nat.zero_le _)
theorem gvals_mask (s : List Nat) (n : Nat) (l : List Nat) (hl : l.length ≤ 10) (v : Nat) : gmL (s.getD v 0) (gvals s n l) 0 0 < 2 ^ 62 ∧ (gmL (s.getD v 0) (gvals s n l) 0 0).testBit (mex (gmL (s.getD v 0) (gvals s n l) 0 0)) = false := by
  have hb := gmL_lt (s.getD v 0) (l.length + 1) (gvals s n l) 0 0 (fun y hy => Nat.lt_succ_of_le (gvals_le s n l hl y hy)) (Nat.two_pow_pos _)
  have h1 : l.length + 1 < 20 := by clear hb; omega
  exact ⟨Nat.lt_of_lt_of_le hb (Nat.pow_le_pow_right (by decide) (by clear hb; omega)), mexF_out _ (l.length + 1) hb 20 0 (by clear hb; omega)⟩
theorem gvals_zero (s : List Nat) (n : Nat) (v : Nat) : ∀ l, v ∉ l → (gvals s n l).getD v 0 = 0
  | [], _ => by
    simp only [gvals]
    rw [List.getD_eq_getElem?_getD, List.getElem?_replicate]; split <;> rfl
  | w :: t, h => by
    rw [List.mem_cons, not_or] at h
    simp only [gvals, gstep]
    rw [List.getD_eq_getElem?_getD, List.getElem?_set_ne (fun e => h.1 e.symm), ← List.getD_eq_getElem?_getD]
    exact gvals_zero s n v t h.2
theorem set_same (l : List Nat) (v x : Nat) (h : l.getD v 0 = x) (hv : v < l.length) : l.set v x = l := by
  rw [List.getD_eq_getElem?_getD, List.getElem?_eq_getElem hv, Option.getD_some] at h
  rw [← h, List.set_getElem_self]
section
variable {n : Nat} (h5 : n ≤ 5) {s : List Nat} (hs : Sets n s) (ord : List Nat) (hord : ∀ v ∈ ord, v < n) (hnd : ord.Nodup) (hlen : ord.length ≤ 5)
include h5 hs hord hnd hlen
theorem game_l0 : ∀ (m : Nat) (l1 l2 : List Nat), ord = l1 ++ l2 → l1.length = m → Ev (fun k => impl_KernelGame.l0 k (I s) (I (gvals s n l2)) (I ord) ((m : Int) - 1)) (I (gvals s n ord), true)
  | 0, l1, l2, he, hm => by
    have : l1 = [] := List.length_eq_zero_iff.1 hm
    subst this
    rw [List.nil_append] at he
    rw [he]
    refine Ev.step (f := fun _ => some (I (gvals s n l2), true)) (fun k => ?_) (Ev.now _)
    simp only [impl_KernelGame.l0]
    rw [if_neg (by decide)]
  | m + 1, l1, l2, he, hm => by
    obtain ⟨l0, v, rfl⟩ : ∃ l0 v, l1 = l0 ++ [v] := ⟨l1.dropLast, l1.getLast (fun h => by rw [h] at hm; simp at hm), (List.dropLast_concat_getLast _).symm⟩
    have hl0 : l0.length = m := by rw [List.length_append, List.length_singleton] at hm; omega
    have he2 : ord = l0 ++ v :: l2 := by rw [he, List.append_assoc]; rfl
    have ih := game_l0 m l0 (v :: l2) he2 hl0
    have hp : m < ord.length := by rw [he2, List.length_append, List.length_cons, hl0]; omega
    have hp5 : m < 5 := Nat.lt_of_lt_of_le hp hlen
    have hl2 : l2.length ≤ 10 := by
      have : ord.length = l0.length + (l2.length + 1) := by rw [he2, List.length_append, List.length_cons]
      omega
    have hpv : ord[m] = v := by
      have : ord[m]? = some v := by rw [he2, List.getElem?_append_right (by rw [hl0]; exact Nat.le_refl _), hl0, Nat.sub_self]; rfl
      rw [List.getElem?_eq_getElem hp] at this
      exact Option.some.inj this
    have hv2 : v ∉ l2 := by
      rw [he2, List.nodup_append] at hnd
      exact (List.nodup_cons.1 hnd.2.1).1
    have hvn : v < n := hord v (by rw [he2]; simp)
    obtain ⟨hm62, hmb⟩ := gvals_mask s n l2 hl2 v
    have hgl := gvals_len s n l2
    have h30 : ∀ x ∈ gvals s n l2, x < 30 := fun x hx => Nat.lt_of_le_of_lt (gvals_le s n l2 hl2 x hx) (by omega)
    have hset : (gvals s n l2).set v 0 = gvals s n l2 := set_same _ v 0 (gvals_zero s n v l2 hv2) (by rw [hgl]; exact hvn)
    have h2 := game_l2 h5 hs ord hord m v hp hp5 hpv (gmL (s.getD v 0) (gvals s n l2) 0 0) hm62 (gvals s n l2) hgl (I (gvals s n ord), true) 20 0 rfl hmb ih
    rw [hset] at h2
    have h1 := game_l1 h5 hs ord hord m v hp hpv (gvals s n l2) hgl h30 (I (gvals s n ord), true) h2 n 0 0 (Nat.zero_add n) (by decide) (by rw [List.drop_zero])
    have e0 : ((m + 1 : Nat) : Int) - 1 = (m : Int) := by omega
    rw [e0]
    refine Ev.step (fun k => ?_) h1
    simp only [impl_KernelGame.l0]
    rw [if_pos (Int.natCast_nonneg m)]
    rfl
end
end Go.Proofs.Ytfijegfjpagjoaa.Q
