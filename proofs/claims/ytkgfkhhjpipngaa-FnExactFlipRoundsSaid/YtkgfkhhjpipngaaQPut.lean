/- Lists of whole numbers in ascending order, each number once: what l5Put and distinct compute. No condition but lengths. -/
import Derived.Test.YtkgfkhhjpipngaaQArc
import Derived.Test.YtkgfkhhjpipngaaG30
import Derived.Test.YtkgfkhhjpipngaaG38
namespace Go.Proofs.Ytkgfkhhjpipngaa.Q
open Go.RowKit Go.Proofs.Ytkgfkhhjpipngaa.G Go.Proofs.YtkgfkhhjpipngaaW.PrintWords Go.Proofs.YtkgfkhhjpipngaaW.PrintLast Go.Proofs.YtkgfkhhjpipngaaW.PrintMore
set_option linter.unusedVariables false
set_option linter.unusedSimpArgs false
/-- A number put into an ascending list, once. -/
def put : List Int → Int → List Int
  | [], x => [x]
  | y :: r, x => if x < y then x :: y :: r else if x = y then y :: r else y :: put r x
theorem mem_put : ∀ (l : List Int) (x z : Int), z ∈ put l x ↔ z = x ∨ z ∈ l
  | [], x, z => by simp [put]
  | y :: r, x, z => by
    unfold put
    split
    · simp
    · split
      · rename_i h; subst h; simp
      · rw [List.mem_cons, mem_put r x z, List.mem_cons]
        constructor
        · rintro (h | h | h)
          · exact .inr (.inl h)
          · exact .inl h
          · exact .inr (.inr h)
        · rintro (h | h | h)
          · exact .inr (.inl h)
          · exact .inl h
          · exact .inr (.inr h)
def Asc (l : List Int) : Prop := l.Pairwise (· < ·)
theorem Asc.put {l : List Int} (h : Asc l) (x : Int) : Asc (put l x) := by
  induction l with
  | nil => simp [Q.put, Asc]
  | cons y r ih =>
    obtain ⟨h1, h2⟩ := List.pairwise_cons.1 h
    unfold Q.put
    split
    · refine List.pairwise_cons.2 ⟨fun z hz => ?_, h⟩
      rcases List.mem_cons.1 hz with rfl | hz
      · assumption
      · have := h1 z hz; omega
    · split
      · exact h
      · refine List.pairwise_cons.2 ⟨fun z hz => ?_, ih h2⟩
        rcases (mem_put r x z).1 hz with rfl | hz
        · omega
        · exact h1 z hz
theorem asc_ext : ∀ {l m : List Int}, Asc l → Asc m → (∀ z, z ∈ l ↔ z ∈ m) → l = m
  | [], [], _, _, _ => rfl
  | [], y :: _, _, _, h => absurd ((h y).2 List.mem_cons_self) (by simp)
  | x :: _, [], _, _, h => absurd ((h x).1 List.mem_cons_self) (by simp)
  | x :: l, y :: m, hl, hm, h => by
    obtain ⟨a1, a2⟩ := List.pairwise_cons.1 hl
    obtain ⟨b1, b2⟩ := List.pairwise_cons.1 hm
    have e : x = y := by
      rcases List.mem_cons.1 ((h x).1 List.mem_cons_self) with e | hx
      · exact e
      · rcases List.mem_cons.1 ((h y).2 List.mem_cons_self) with e | hy
        · exact e.symm
        · have := a1 y hy; have := b1 x hx; omega
    subst e
    congr 1
    refine asc_ext a2 b2 fun z => ⟨fun hz => ?_, fun hz => ?_⟩
    · rcases List.mem_cons.1 ((h z).1 (List.mem_cons_of_mem _ hz)) with e | hz2
      · have := a1 z hz; omega
      · exact hz2
    · rcases List.mem_cons.1 ((h z).2 (List.mem_cons_of_mem _ hz)) with e | hz2
      · have := b1 z hz; omega
      · exact hz2
/-- All numbers of a list put into one that ascends. -/
def puts (acc l : List Int) : List Int := l.foldl put acc
theorem puts_asc : ∀ (l : List Int) {acc : List Int}, Asc acc → Asc (puts acc l)
  | [], _, h => h
  | x :: r, _, h => puts_asc r (h.put x)
theorem mem_puts : ∀ (l acc : List Int) (z : Int), z ∈ puts acc l ↔ z ∈ acc ∨ z ∈ l
  | [], acc, z => by simp [puts]
  | x :: r, acc, z => by
    have h := mem_puts r (put acc x) z
    rw [mem_put] at h
    show z ∈ puts (put acc x) r ↔ _
    rw [h, List.mem_cons]
    constructor
    · rintro ((h | h) | h)
      · exact .inr (.inl h)
      · exact .inl h
      · exact .inr (.inr h)
    · rintro (h | h | h)
      · exact .inl (.inr h)
      · exact .inl (.inl h)
      · exact .inr h
theorem put_len (l : List Int) (x : Int) : (put l x).length ≤ l.length + 1 := by
  induction l with
  | nil => simp [put]
  | cons y r ih =>
    unfold put
    split
    · simp
    · split <;> simp <;> omega
theorem puts_len : ∀ (l acc : List Int), (puts acc l).length ≤ acc.length + l.length
  | [], acc => by simp [puts]
  | x :: r, acc => by
    have h := puts_len r (put acc x)
    have := put_len acc x
    show (puts (put acc x) r).length ≤ _
    simp only [List.length_cons]
    omega
theorem puts_app (acc l m : List Int) : puts acc (l ++ m) = puts (puts acc l) m := by unfold puts; rw [List.foldl_append]
theorem asc_len {N : Int} : ∀ {l : List Int} {lo : Int}, Asc l → lo ≤ N → (∀ x ∈ l, lo ≤ x ∧ x < N) → lo + l.length ≤ N
  | [], lo, _, h, _ => by simpa using h
  | y :: r, lo, ha, h, hm => by
    obtain ⟨h1, h2⟩ := List.pairwise_cons.1 ha
    have h3 := hm y List.mem_cons_self
    have h4 := asc_len (lo := y + 1) h2 (by omega) (fun x hx => ⟨by have := h1 x hx; omega, (hm x (List.mem_cons_of_mem _ hx)).2⟩)
    simp only [List.length_cons]
    omega
/-! ### distinct -/
theorem compact_mem (d : Array Int) : ∀ m, ∀ x, x ∈ Go.Lib.compactUpTo d m ↔ ∃ j, j < m ∧ d[j]! = x
  | 0, x => by simp [Go.Lib.compactUpTo]
  | m + 1, x => by
    rw [Go.Lib.compactUpTo_succ, List.mem_append, compact_mem d m x]
    constructor
    · rintro (⟨j, hj, h⟩ | h)
      · exact ⟨j, by omega, h⟩
      · split at h
        · exact ⟨m, by omega, (List.mem_singleton.1 h).symm⟩
        · simp at h
    · rintro ⟨j, hj, h⟩
      by_cases e : j = m
      · subst e
        by_cases hk : Go.Lib.keeps d j = true
        · right; rw [if_pos hk]; simp [h]
        · left
          have h1 : ¬ (j = 0 ∨ d[j]! ≠ d[j - 1]!) := by simpa [Go.Lib.keeps] using hk
          have h2 : j ≠ 0 := fun e => h1 (.inl e)
          have h3 : d[j]! = d[j - 1]! := Decidable.byContradiction fun e => h1 (.inr e)
          exact ⟨j - 1, by omega, by rw [← h3]; exact h⟩
      · exact .inl ⟨j, by omega, h⟩
theorem compact_asc (d : Array Int) (hs : ∀ i j, i ≤ j → j < d.size → d[i]! ≤ d[j]!) : ∀ m, m ≤ d.size → Asc (Go.Lib.compactUpTo d m)
  | 0, _ => by simp [Go.Lib.compactUpTo, Asc]
  | m + 1, hm => by
    rw [Go.Lib.compactUpTo_succ]
    refine List.pairwise_append.2 ⟨compact_asc d hs m (by omega), ?_, fun a ha b hb => ?_⟩
    · split <;> simp
    · split at hb
      · rename_i hk
        have e := List.mem_singleton.1 hb
        subst e
        obtain ⟨j, hj, e⟩ := (compact_mem d m a).1 ha
        subst e
        have h1 : m = 0 ∨ d[m]! ≠ d[m - 1]! := by simpa [Go.Lib.keeps] using hk
        rcases h1 with h1 | h1
        · omega
        · have h2 := hs j (m - 1) (by omega) (by omega)
          have h3 := hs (m - 1) m (by omega) (by omega)
          omega
      · simp at hb
theorem distinct_eq (k : Nat) (l : List Int) (hl : l.length < 17592186044416) : impl_distinct.f k l = some (puts [] l) := by
  unfold impl_distinct.f
  rw [if_pos hl]
  congr 1
  have hp : (l.mergeSort fun x y => decide (x ≤ y)).Pairwise (fun a b => decide (a ≤ b) = true) := List.pairwise_mergeSort (fun a b c h1 h2 => by simp at *; omega) (fun a b => by simp; omega) l
  have hm : ∀ x, x ∈ (l.mergeSort fun x y => decide (x ≤ y)) ↔ x ∈ l := fun x => List.mem_mergeSort
  generalize (l.mergeSort fun x y => decide (x ≤ y)) = s at hp hm
  refine asc_ext (compact_asc s.toArray ?_ _ (by simp)) (puts_asc l (by simp [Asc])) fun z => ?_
  · intro i j hij hj
    have hj' : j < s.length := by simpa using hj
    have hi' : i < s.length := by omega
    rw [getElem!_pos s.toArray i (by simpa using hi'), getElem!_pos s.toArray j hj]
    rcases Nat.lt_or_ge i j with h | h
    · have := List.pairwise_iff_getElem.1 hp i j hi' hj' h
      simpa using this
    · have : i = j := by omega
      subst this
      exact Int.le_refl _
  · show z ∈ Go.Lib.compactUpTo s.toArray s.length ↔ _
    rw [compact_mem, mem_puts, ← hm z]
    constructor
    · rintro ⟨j, hj, e⟩
      rw [getElem!_pos s.toArray j (by simpa using hj)] at e
      exact .inr (by rw [← e]; simp)
    · rintro (h | h)
      · simp at h
      · obtain ⟨j, hj, e⟩ := List.mem_iff_getElem.1 h
        exact ⟨j, hj, by rw [getElem!_pos s.toArray j (by simpa using hj)]; simpa using e⟩
/-! ### l5Put -/
theorem put_mid : ∀ (A B : List Int) (x : Int), (∀ a ∈ A, a < x) → (∀ b ∈ B, x < b) → put (A ++ B) x = A ++ x :: B
  | [], [], x, _, _ => rfl
  | [], b :: B, x, _, hb => by simp [put, hb b List.mem_cons_self]
  | a :: A, B, x, ha, hb => by
    have h := ha a List.mem_cons_self
    show put (a :: (A ++ B)) x = _
    unfold put
    rw [if_neg (by omega), if_neg (by omega), put_mid A B x (fun z hz => ha z (List.mem_cons_of_mem _ hz)) hb]
    rfl
theorem put_in : ∀ {l : List Int}, Asc l → ∀ x, x ∈ l → put l x = l
  | [], _, x, h => absurd h (by simp)
  | y :: r, hs, x, h => by
    obtain ⟨h1, h2⟩ := List.pairwise_cons.1 hs
    unfold put
    rcases List.mem_cons.1 h with e | h
    · subst e; rw [if_neg (by omega), if_pos rfl]
    · have := h1 x h
      rw [if_neg (by omega), if_neg (by omega), put_in h2 x h]
theorem l5Put_loop {l : List Int} (hs : Asc l) (hl : l.length < 1000000000) (x : Int) : ∀ i : Nat, i ≤ l.length → (∀ j, i ≤ j → (hj : j < l.length) → x < l[j]) → Ev (fun k => spec_l5Put.l0 k l x (i : Int)) (put l x)
  | 0, _, hr => by
    refine Ev.step (fun k => by simp only [spec_l5Put.l0]; rfl) ?_
    have g1 : l.length + 1 < 17592186044416 := by omega
    have g2 : 1 + l.length < 17592186044416 := by omega
    simp [g1, g2]
    have e : put l x = [] ++ x :: l := put_mid [] l x (by simp) (fun b hb => by
      obtain ⟨j, hj, e⟩ := List.mem_iff_getElem.1 hb
      rw [← e]; exact hr j (by omega) hj)
    rw [e]
    exact Ev.now _
  | i + 1, hi, hr => by
    refine Ev.step (fun k => by simp only [spec_l5Put.l0]; rfl) ?_
    have hw : wrap64 (((i + 1 : Nat) : Int) - 1) = (i : Int) := by unfold wrap64; omega
    have hrd : rd l (i : Int) = l[i]'(by omega) := by unfold rd; rw [List.getD_eq_getElem?_getD, Int.toNat_natCast, List.getElem?_eq_getElem (by omega)]; rfl
    have c1 : (((i + 1 : Nat) : Int) > 0) = True := eq_true (by omega)
    have c3 : ((0 : Int) ≤ (i : Int)) = True := eq_true (by omega)
    have c4 : ((i : Int) < (l.length : Int)) = True := eq_true (by omega)
    simp only [c1, hw, c3, c4, hrd, if_true]
    by_cases c : x < l[i]'(by omega)
    · simp only [if_pos c]
      refine l5Put_loop hs hl x i (by omega) fun j hj hjl => ?_
      by_cases e : j = i
      · subst e; exact c
      · exact hr j (by omega) hjl
    · simp only [if_neg c]
      by_cases c2 : l[i]'(by omega) = x
      · simp only [if_pos c2]
        exact Ev.eq_ (Ev.now _) (put_in hs x (by rw [← c2]; exact List.getElem_mem _)).symm
      · simp only [if_neg c2, Option.bind_some, List.length_nil, List.length_append, List.length_take, List.length_cons, List.nil_append, Int.toNat_natCast]
        have c5 : ((0 : Int) ≤ ((i + 1 : Nat) : Int)) = True := eq_true (by omega)
        have c6 : (((i + 1 : Nat) : Int) ≤ (l.length : Int)) = True := eq_true (by omega)
        simp only [c5, c6, if_true]
        have g0 : min (i + 1) l.length = i + 1 := by omega
        have g1 : i + 1 < 17592186044416 := by omega
        have g2 : i + 1 + 1 < 17592186044416 := by omega
        have g3 : i + 1 + 1 + (l.length - (i + 1)) < 17592186044416 := by omega
        have e : put l x = l.take (i + 1) ++ x :: l.drop (i + 1) := by
          have h := put_mid (l.take (i + 1)) (l.drop (i + 1)) x (fun a ha => ?_) (fun b hb => ?_)
          · rw [List.take_append_drop] at h; exact h
          · obtain ⟨j, hj, e⟩ := List.mem_iff_getElem.1 ha
            rw [List.length_take] at hj
            rw [List.getElem_take] at e
            subst e
            by_cases e2 : j = i
            · subst e2; omega
            · have := List.pairwise_iff_getElem.1 hs j i (by omega) (by omega) (by omega)
              omega
          · obtain ⟨j, hj, e⟩ := List.mem_iff_getElem.1 hb
            rw [List.length_drop] at hj
            rw [List.getElem_drop] at e
            subst e
            exact hr _ (by omega) (by omega)
        rw [e]
        simp [g0, g1, g2, g3]
        exact Ev.now _
theorem l5Put_ev {l : List Int} (hs : Asc l) (hl : l.length < 1000000000) (x : Int) : Ev (fun k => spec_l5Put.f k l x) (put l x) := by
  unfold spec_l5Put.f
  exact l5Put_loop hs hl x l.length (Nat.le_refl _) (fun j h1 h2 => by omega)
end Go.Proofs.Ytkgfkhhjpipngaa.Q
