/- Graphs that are valid, as plain lists of pairs of natural numbers; both WayGraph and both WayIn tell just these. The edges' numbers are taken as whole numbers of 64 bits. -/
import Derived.Test.YtkgfkhhjpipngaaQBits
import Derived.Test.YtkgfkhhjpipngaaG4
import Derived.Test.YtkgfkhhjpipngaaG16
namespace Go.Proofs.Ytkgfkhhjpipngaa.Q
open Go.RowKit Go.Proofs.Ytkgfkhhjpipngaa.G Go.Proofs.YtkgfkhhjpipngaaW.PrintWords Go.Proofs.YtkgfkhhjpipngaaW.PrintLast Go.Proofs.YtkgfkhhjpipngaaW.PrintMore
set_option linter.unusedVariables false
set_option linter.unusedSimpArgs false

abbrev E := S68
abbrev zE : E := z68
def InR (x : Int) : Prop := -9223372036854775808 ≤ x ∧ x ≤ 9223372036854775807
theorem InR.of_wf {x : Int} (h : (Lit.int .i64 x).wf = true) : InR x := by
  simp only [Lit.wf, IntKind.min, IntKind.max, IntKind.signed, IntKind.bits, Bool.and_eq_true, decide_eq_true_eq, if_true] at h
  unfold InR
  omega
def WfE (l : List E) : Prop := l.length ≤ 9223372036854775807 ∧ ∀ e ∈ l, InR e.f0 ∧ InR e.f1
def mkE (es : List (Nat × Nat)) : List E := es.map fun e => ⟨(e.1 : Int), (e.2 : Int)⟩
theorem mkE_length (es : List (Nat × Nat)) : (mkE es).length = es.length := by simp [mkE]
structure Val (n : Nat) (es : List (Nat × Nat)) : Prop where
  pos : 1 ≤ n
  le : n ≤ 5
  lt : ∀ e ∈ es, e.1 < e.2 ∧ e.2 < n
  srt : es.Pairwise fun a b => a.1 < b.1 ∨ a.1 = b.1 ∧ a.2 < b.2

def okE (a : Int) (e : E) : Bool := decide (0 ≤ e.f0) && decide (e.f0 < e.f1) && decide (e.f1 < a)
def okP (p e : E) : Bool := decide (p.f0 < e.f0) || (decide (p.f0 = e.f0) && decide (p.f1 < e.f1))
def okAt (a : Int) (l : List E) (i : Nat) : Bool := okE a (l.getD i zE) && (decide (i = 0) || okP (l.getD (i - 1) zE) (l.getD i zE))
def allFrom (p : Nat → Bool) : Nat → Nat → Bool
  | _, 0 => true
  | i, d + 1 => p i && allFrom p (i + 1) d
def isG (a : Int) (l : List E) : Bool := decide (1 ≤ a) && decide (a ≤ 5) && allFrom (okAt a l) 0 l.length
theorem rdE (l : List E) (i : Nat) : rd_T68 l (i : Int) = l.getD i zE := by simp [rd_T68]
theorem InR_getD {l : List E} (h : WfE l) (i : Nat) : InR (l.getD i zE).f0 ∧ InR (l.getD i zE).f1 := by
  rw [List.getD_eq_getElem?_getD]
  cases hi : l[i]? with
  | none => exact ⟨by simp [InR, z68], by simp [InR, z68]⟩
  | some e => exact h.2 e (List.mem_of_getElem? hi)

theorem okE_neg {a : Int} {e : E} (h : e.f0 < 0) : true = !okE a e := by simp [okE]; omega
theorem okE_ge {a : Int} {e : E} (h : e.f0 ≥ e.f1) : true = !okE a e := by simp [okE]; omega
theorem okE_rest {a : Int} {e : E} (h1 : ¬ e.f0 < 0) (h2 : ¬ e.f0 ≥ e.f1) : decide (e.f1 ≥ a) = !okE a e := by rw [Bool.eq_iff_iff]; simp [okE]; omega
theorem impl_WayGraph_loop (a : Int) (l : List E) (hl : WfE l) : ∀ d i : Nat, i + d = l.length → Ev (fun k => impl_WayGraph.l0 k l (l.length : Int) (i : Int) a l) (allFrom (okAt a l) i d)
  | 0, i, h => by
    refine Ev.step (f := fun _ => some true) (fun k => ?_) (Ev.now _)
    simp only [impl_WayGraph.l0]
    rw [if_neg (by omega)]
  | d + 1, i, h => by
    have ih := impl_WayGraph_loop a l hl d (i + 1) (by omega)
    have hlen := hl.1
    have e1 : wrap64 ((i : Int) + 1) = ((i + 1 : Nat) : Int) := by unfold wrap64; omega
    refine Ev.step (f := fun k => impl_WayGraph.j2 k i l l.length i (!okE a (l.getD i zE)) a l (l.getD i zE).f0 (l.getD i zE).f1) (fun k => ?_) ?_
    · simp only [impl_WayGraph.l0]
      rw [if_pos (by omega), if_pos (by omega), if_pos (by omega), rdE]
      by_cases c1 : (l.getD i zE).f0 < 0
      · rw [if_pos c1, okE_neg c1]
      · rw [if_neg c1]
        by_cases c2 : (l.getD i zE).f0 ≥ (l.getD i zE).f1
        · rw [if_pos c2, okE_ge c2]
        · rw [if_neg c2, okE_rest c1 c2]
    · cases hb : okE a (l.getD i zE) with
      | false =>
        refine Ev.step (f := fun _ => some false) (fun k => ?_) (Ev.eq_ (Ev.now _) (by simp only [allFrom, okAt]; rw [hb]; rfl))
        simp only [impl_WayGraph.j2]
        rw [if_pos (by rfl)]
      | true =>
        by_cases hi : i = 0
        · subst hi
          refine Ev.step (f := fun k => impl_WayGraph.l0 k l (l.length : Int) ((0 + 1 : Nat) : Int) a l) (fun k => ?_) (Ev.eq_ ih (by simp only [allFrom, okAt]; rw [hb]; simp))
          simp only [impl_WayGraph.j2]
          rw [if_neg (by simp), if_neg (by simp), e1]
        · have e2 : wrap64 ((i : Int) - 1) = ((i - 1 : Nat) : Int) := by unfold wrap64; omega
          have hR : allFrom (okAt a l) i (d + 1) = (okP (l.getD (i - 1) zE) (l.getD i zE) && allFrom (okAt a l) (i + 1) d) := by
            simp only [allFrom, okAt]; rw [hb]; simp [hi]
          rw [hR]
          cases hp : okP (l.getD (i - 1) zE) (l.getD i zE) with
          | false =>
            refine Ev.step (f := fun _ => some false) (fun k => ?_) (Ev.now _)
            simp only [impl_WayGraph.j2]
            rw [if_neg (by simp), if_pos (by omega), e2, if_pos (by omega), if_pos (by omega), rdE]
            simp only [okP, Bool.or_eq_false_iff, Bool.and_eq_false_iff, decide_eq_false_iff_not] at hp
            by_cases c1 : (l.getD i zE).f0 < (l.getD (i - 1) zE).f0
            · rw [if_pos c1]
            · rw [if_neg c1, if_pos (by omega), if_pos (by omega)]
          | true =>
            refine Ev.step (f := fun k => impl_WayGraph.l0 k l (l.length : Int) ((i + 1 : Nat) : Int) a l) (fun k => ?_) (by simpa using ih)
            simp only [impl_WayGraph.j2]
            rw [if_neg (by simp), if_pos (by omega), e2, if_pos (by omega), if_pos (by omega), rdE, e1]
            simp only [okP, Bool.or_eq_true, Bool.and_eq_true, decide_eq_true_eq] at hp
            rw [if_neg (by omega)]
            by_cases c1 : (l.getD i zE).f0 = (l.getD (i - 1) zE).f0
            · rw [if_pos c1, if_neg (by omega)]
            · rw [if_neg c1]
theorem impl_WayGraph_ev (a : Int) (l : List E) (hl : WfE l) : Ev (fun k => impl_WayGraph.f k a l) (isG a l) := by
  by_cases h : 1 ≤ a ∧ a ≤ 5
  · refine Ev.congr (f := fun k => impl_WayGraph.j0 k false a l) (fun k => ?_) ?_
    · simp only [impl_WayGraph.f]
      rw [if_neg (by omega)]
      congr 1
      simp; omega
    · refine Ev.step (f := fun k => impl_WayGraph.l0 k l (l.length : Int) ((0 : Nat) : Int) a l) (fun k => ?_) (Ev.eq_ (impl_WayGraph_loop a l hl l.length 0 (by omega)) (by simp [isG, h]))
      simp only [impl_WayGraph.j0]
      rw [if_neg (by simp)]
      rfl
  · refine Ev.congr (f := fun k => impl_WayGraph.j0 k true a l) (fun k => ?_) ?_
    · simp only [impl_WayGraph.f]
      by_cases c : a < 1
      · rw [if_pos c]
      · rw [if_neg c]; congr 1; simp; omega
    · refine Ev.step (f := fun _ => some false) (fun k => ?_) (Ev.eq_ (Ev.now _) (by simp only [isG]; rw [Bool.eq_iff_iff]; simp; intro h1 h2; exact absurd ⟨h1, h2⟩ h))
      simp only [impl_WayGraph.j0]
      simp

theorem spec_l6In_eq (a b c : Int) : spec_l6In.f a b c = some (decide (b ≤ a) && decide (a ≤ c)) := by
  unfold spec_l6In.f
  by_cases h : a ≥ b
  · rw [if_pos h]; simp [h]
  · rw [if_neg h]; simp [h]
/-- The reference asks for the number of nodes last. -/
theorem spec_WayGraph_loop (a : Int) (ha : InR a) (l : List E) (hl : WfE l) : ∀ d i : Nat, i + d = l.length → ∃ b, Ev (fun k => spec_WayGraph.l0 k (i : Int) a l) (b && (decide (1 ≤ a) && decide (a ≤ 5))) ∧ (1 ≤ a ∧ a ≤ 5 → b = allFrom (okAt a l) i d)
  | 0, i, h => by
    refine ⟨true, Ev.step (f := fun _ => some (decide (1 ≤ a) && decide (a ≤ 5))) (fun k => ?_) (Ev.eq_ (Ev.now _) (by simp)), fun _ => rfl⟩
    simp only [spec_WayGraph.l0]
    rw [if_neg (by omega), spec_l6In_eq]
    rfl
  | d + 1, i, h => by
    obtain ⟨b, ih, hb⟩ := spec_WayGraph_loop a ha l hl d (i + 1) (by omega)
    have hlen := hl.1
    have e1 : wrap64 ((i : Int) + 1) = ((i + 1 : Nat) : Int) := by unfold wrap64; omega
    have hin := InR_getD hl i
    -- the edge's own test, as the reference makes it
    have key : ∃ t : Bool, (∀ k, spec_WayGraph.l0 (k + 1) (i : Int) a l = spec_WayGraph.j1 k i (!t) a l (l.getD i zE).f0 (l.getD i zE).f1) ∧ (1 ≤ a ∧ a ≤ 5 → t = okE a (l.getD i zE)) := by
      refine ⟨(decide (0 ≤ (l.getD i zE).f0) && decide ((l.getD i zE).f0 ≤ wrap64 (a - 1))) && (decide (wrap64 ((l.getD i zE).f0 + 1) ≤ (l.getD i zE).f1) && decide ((l.getD i zE).f1 ≤ wrap64 (a - 1))), fun k => ?_, fun ha5 => ?_⟩
      · simp only [spec_WayGraph.l0]
        rw [if_pos (by omega), if_pos (by omega), rdE, spec_l6In_eq]
        simp only [Option.bind_some]
        cases hc : (decide (0 ≤ (l.getD i zE).f0) && decide ((l.getD i zE).f0 ≤ wrap64 (a - 1))) with
        | false => rw [if_neg (by simp)]; rfl
        | true => rw [if_pos rfl, spec_l6In_eq]; simp only [Option.bind_some, Bool.true_and]
      · have e2 : wrap64 (a - 1) = a - 1 := by unfold wrap64; omega
        unfold InR at hin
        rw [e2, Bool.eq_iff_iff]
        simp only [okE, Bool.and_eq_true, decide_eq_true_eq]
        by_cases hf : (l.getD i zE).f0 ≤ 5
        · by_cases hg : 0 ≤ (l.getD i zE).f0
          · have e3 : wrap64 ((l.getD i zE).f0 + 1) = (l.getD i zE).f0 + 1 := by unfold wrap64; omega
            rw [e3]; omega
          · omega
        · omega
    obtain ⟨t, ht, hok⟩ := key
    cases t with
    | false =>
      refine ⟨false, Ev.step (f := fun k => spec_WayGraph.j1 k i true a l (l.getD i zE).f0 (l.getD i zE).f1) ht (Ev.step (f := fun _ => some false) (fun k => ?_) (Ev.eq_ (Ev.now _) (by simp))), fun ha5 => ?_⟩
      · simp only [spec_WayGraph.j1]
        simp
      · simp only [allFrom, okAt]; rw [← hok ha5]; simp
    | true =>
      by_cases hi : i = 0
      · subst hi
        refine ⟨b, Ev.step (f := fun k => spec_WayGraph.j1 k _ false a l (l.getD 0 zE).f0 (l.getD 0 zE).f1) ht (Ev.step (f := fun k => spec_WayGraph.l0 k ((0 + 1 : Nat) : Int) a l) (fun k => ?_) ih), fun ha5 => ?_⟩
        · simp only [spec_WayGraph.j1]
          rw [if_neg (by simp), if_neg (by simp), e1]
        · simp only [allFrom, okAt]; rw [← hok ha5, hb ha5]; simp
      · have e2 : wrap64 ((i : Int) - 1) = ((i - 1 : Nat) : Int) := by unfold wrap64; omega
        cases hp : okP (l.getD (i - 1) zE) (l.getD i zE) with
        | false =>
          refine ⟨false, Ev.step (f := fun k => spec_WayGraph.j1 k i false a l (l.getD i zE).f0 (l.getD i zE).f1) ht (Ev.step (f := fun _ => some false) (fun k => ?_) (Ev.eq_ (Ev.now _) (by simp))), fun ha5 => ?_⟩
          · simp only [spec_WayGraph.j1]
            rw [if_neg (by simp), if_pos (by omega), e2, if_pos (by omega), if_pos (by omega), rdE]
            simp only [okP, Bool.or_eq_false_iff, Bool.and_eq_false_iff, decide_eq_false_iff_not] at hp
            by_cases c1 : (l.getD i zE).f0 < (l.getD (i - 1) zE).f0
            · rw [if_pos c1]
            · rw [if_neg c1, if_pos (by omega), if_pos (by omega)]
          · simp only [allFrom, okAt]; rw [hp]; simp [hi]
        | true =>
          refine ⟨b, Ev.step (f := fun k => spec_WayGraph.j1 k i false a l (l.getD i zE).f0 (l.getD i zE).f1) ht (Ev.step (f := fun k => spec_WayGraph.l0 k ((i + 1 : Nat) : Int) a l) (fun k => ?_) ih), fun ha5 => ?_⟩
          · simp only [spec_WayGraph.j1]
            rw [if_neg (by simp), if_pos (by omega), e2, if_pos (by omega), if_pos (by omega), rdE, e1]
            simp only [okP, Bool.or_eq_true, Bool.and_eq_true, decide_eq_true_eq] at hp
            rw [if_neg (by omega)]
            by_cases c1 : (l.getD i zE).f0 = (l.getD (i - 1) zE).f0
            · rw [if_pos c1, if_neg (by omega)]
            · rw [if_neg c1]
          · simp only [allFrom, okAt]; rw [← hok ha5, hb ha5, hp]; simp
theorem spec_WayGraph_ev (a : Int) (ha : InR a) (l : List E) (hl : WfE l) : Ev (fun k => spec_WayGraph.f k a l) (isG a l) := by
  obtain ⟨b, h, hb⟩ := spec_WayGraph_loop a ha l hl l.length 0 (by omega)
  refine Ev.eq_ (Ev.congr (f := fun k => spec_WayGraph.l0 k ((0 : Nat) : Int) a l) (fun k => rfl) h) ?_
  by_cases h5 : 1 ≤ a ∧ a ≤ 5
  · rw [hb h5]; simp [isG, h5]
  · rw [Bool.eq_iff_iff]; simp only [isG, Bool.and_eq_true, decide_eq_true_eq]
    constructor
    · rintro ⟨_, h6⟩; exact absurd h6 h5
    · rintro ⟨h6, _⟩; exact absurd h6 h5

/-- What is told to be a graph is one. -/
theorem allFrom_iff (p : Nat → Bool) : ∀ d i, allFrom p i d = true ↔ ∀ j, i ≤ j → j < i + d → p j = true
  | 0, i => by simp [allFrom]; intro j h1 h2; omega
  | d + 1, i => by
    simp only [allFrom, Bool.and_eq_true, allFrom_iff p d (i + 1)]
    constructor
    · rintro ⟨h0, h⟩ j h1 h2
      by_cases hj : j = i
      · subst hj; exact h0
      · exact h j (by omega) (by omega)
    · exact fun h => ⟨h i (by omega) (by omega), fun j h1 h2 => h j (by omega) (by omega)⟩
theorem isG_mk {a : Int} {l : List E} (h : isG a l = true) : ∃ n es, a = (n : Nat) ∧ l = mkE es ∧ Val n es := by
  simp only [isG, Bool.and_eq_true, decide_eq_true_eq, allFrom_iff] at h
  obtain ⟨⟨h1, h5⟩, h⟩ := h
  have hE : ∀ e ∈ l, okE a e = true := by
    intro e he
    obtain ⟨j, hj⟩ := List.getElem?_of_mem he
    have hjl := (List.getElem?_eq_some_iff.1 hj).1
    have := h j (by omega) (by omega)
    simp only [okAt, Bool.and_eq_true] at this
    rw [List.getD_eq_getElem?_getD, hj] at this
    exact this.1
  refine ⟨a.toNat, l.map fun e => (e.f0.toNat, e.f1.toNat), by omega, ?_, ⟨by omega, by omega, ?_, ?_⟩⟩
  · unfold mkE
    rw [List.map_map]
    conv => lhs; rw [← List.map_id l]
    refine List.map_congr_left fun e he => ?_
    have := hE e he
    simp only [okE, Bool.and_eq_true, decide_eq_true_eq] at this
    obtain ⟨x, y⟩ := e
    simp only [Function.comp, id]
    simp at this ⊢
    constructor <;> omega
  · intro e he
    obtain ⟨e', he', rfl⟩ := List.mem_map.1 he
    have := hE e' he'
    simp only [okE, Bool.and_eq_true, decide_eq_true_eq] at this
    simp only
    omega
  · rw [List.pairwise_iff_getElem]
    have step : ∀ j (hj : j + 1 < l.length), okP (l[j]'(by omega)) (l[j + 1]'hj) = true := by
      intro j hj
      have := h (j + 1) (by omega) (by omega)
      simp only [okAt, Bool.and_eq_true] at this
      have h2 := this.2
      simp only [Bool.or_eq_true, decide_eq_true_eq] at h2
      rcases h2 with h2 | h2
      · omega
      · rw [List.getD_eq_getElem?_getD, List.getD_eq_getElem?_getD, List.getElem?_eq_getElem (by omega), List.getElem?_eq_getElem (by omega)] at h2
        exact h2
    have lt : ∀ j (hj : j < l.length), 0 ≤ (l[j]'hj).f0 ∧ 0 ≤ (l[j]'hj).f1 := by
      intro j hj
      have := hE _ (List.getElem_mem hj)
      simp only [okE, Bool.and_eq_true, decide_eq_true_eq] at this
      omega
    have key : ∀ d j (hj : j + d + 1 < l.length), (l[j]'(by omega)).f0 < (l[j + d + 1]'hj).f0 ∨ (l[j]'(by omega)).f0 = (l[j + d + 1]'hj).f0 ∧ (l[j]'(by omega)).f1 < (l[j + d + 1]'hj).f1 := by
      intro d
      induction d with
      | zero => intro j hj; have := step j hj; simpa [okP] using this
      | succ d ih =>
        intro j hj
        have h1 := ih j (by omega)
        have h2 := step (j + d + 1) hj
        simp only [okP, Bool.or_eq_true, Bool.and_eq_true, decide_eq_true_eq] at h2
        have e : j + (d + 1) + 1 = j + d + 1 + 1 := by omega
        simp only [e]
        omega
    intro i j hi hj hij
    simp only [List.length_map] at hi hj
    have h1 := key (j - i - 1) i (by omega)
    have e : i + (j - i - 1) + 1 = j := by omega
    simp only [e] at h1
    have := lt i hi
    have := lt j hj
    simp only [List.getElem_map]
    omega
theorem Val.isG {n : Nat} {es : List (Nat × Nat)} (h : Val n es) : isG n (mkE es) = true := by
  have hp := h.pos
  have hl := h.le
  simp only [Q.isG, Bool.and_eq_true, decide_eq_true_eq, allFrom_iff]
  refine ⟨⟨by omega, by omega⟩, fun j _ hj => ?_⟩
  have hj' : j < es.length := by simpa [mkE] using hj
  have e1 : ∀ i (hi : i < es.length), (mkE es).getD i zE = ⟨((es[i]'hi).1 : Int), ((es[i]'hi).2 : Int)⟩ := by
    intro i hi
    rw [List.getD_eq_getElem?_getD, List.getElem?_eq_getElem (by simpa [mkE] using hi)]
    simp [mkE]
  simp only [okAt, Bool.and_eq_true]
  constructor
  · rw [e1 j hj']
    have := h.lt _ (List.getElem_mem hj')
    simp only [okE, Bool.and_eq_true, decide_eq_true_eq]
    omega
  · by_cases h0 : j = 0
    · simp [h0]
    · rw [e1 j hj', e1 (j - 1) (by omega)]
      have := List.pairwise_iff_getElem.1 h.srt (j - 1) j (by omega) hj' (by omega)
      simp [h0, okP]
      omega
end Go.Proofs.Ytkgfkhhjpipngaa.Q
