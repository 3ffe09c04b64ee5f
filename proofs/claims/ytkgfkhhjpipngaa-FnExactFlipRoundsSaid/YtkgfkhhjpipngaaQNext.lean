/- Directions of a valid graph: the list of its directed edges, and the sets of nodes to which edges lead; the edges' ends and nextOf tell just these. The graph is valid. -/
import Derived.Test.YtkgfkhhjpipngaaQArc
import Derived.Test.YtkgfkhhjpipngaaG10
import Derived.Test.YtkgfkhhjpipngaaG17
import Derived.Test.YtkgfkhhjpipngaaG11
namespace Go.Proofs.Ytkgfkhhjpipngaa.Q
open Go.RowKit Go.Proofs.Ytkgfkhhjpipngaa.G Go.Proofs.YtkgfkhhjpipngaaW.PrintWords Go.Proofs.YtkgfkhhjpipngaaW.PrintLast Go.Proofs.YtkgfkhhjpipngaaW.PrintMore
set_option linter.unusedVariables false
set_option linter.unusedSimpArgs false

/-! ### directed edges -/
def arcs : List (Nat × Nat) → Nat → List (Nat × Nat)
  | [], _ => []
  | e :: t, o => (if o % 2 = 1 then (e.2, e.1) else e) :: arcs t (o / 2)
theorem arcs_length : ∀ (es : List (Nat × Nat)) (o : Nat), (arcs es o).length = es.length
  | [], _ => rfl
  | e :: t, o => by simp [arcs, arcs_length t]
theorem arcs_get : ∀ (es : List (Nat × Nat)) (o i : Nat), (arcs es o)[i]? = es[i]?.map fun e => if o.testBit i then (e.2, e.1) else e
  | [], _, i => by simp [arcs]
  | e :: t, o, 0 => by simp [arcs, Nat.testBit_zero]
  | e :: t, o, i + 1 => by simp [arcs, arcs_get t, Nat.testBit_succ]
theorem arcs_mem {n : Nat} : ∀ {es : List (Nat × Nat)} {o : Nat}, (∀ e ∈ es, e.1 < e.2 ∧ e.2 < n) → ∀ e ∈ arcs es o, e.1 < n ∧ e.2 < n ∧ e.1 ≠ e.2
  | [], _, _, e, he => by simp [arcs] at he
  | x :: t, o, h, e, he => by
    have hx := h x List.mem_cons_self
    simp only [arcs, List.mem_cons] at he
    rcases he with rfl | he
    · split <;> first | (simp only; omega) | omega
    · exact arcs_mem (fun e he => h e (List.mem_cons_of_mem _ he)) e he
section
variable {n : Nat} {es : List (Nat × Nat)} (hv : Val n es)
include hv
omit hv in
theorem rdE_mk (i : Nat) (hi : i < es.length) : rd_T68 (mkE es) (i : Int) = ⟨(es[i].1 : Int), (es[i].2 : Int)⟩ := by
  rw [rdE, List.getD_eq_getElem?_getD, List.getElem?_eq_getElem (by rw [mkE_length]; exact hi)]
  simp [mkE]
omit hv in
theorem arcs_getE {o : Nat} (i : Nat) (hi : i < es.length) : (arcs es o)[i]'(by rw [arcs_length]; exact hi) = if o.testBit i then (es[i].2, es[i].1) else es[i] := by
  have h := arcs_get es o i
  rw [List.getElem?_eq_getElem (by rw [arcs_length]; exact hi), List.getElem?_eq_getElem hi] at h
  exact Option.some.inj h
theorem impl_ends_eq {o : Nat} (ho : o < 2 ^ es.length) (i : Nat) (hi : i < es.length) :
    impl_ends.f n (mkE es) o i = some ((((arcs es o)[i]'(by rw [arcs_length]; exact hi)).1 : Int), (((arcs es o)[i]'(by rw [arcs_length]; exact hi)).2 : Int)) := by
  have h2 := hv.two
  have hl := hv.len
  unfold impl_ends.f
  rw [if_pos (by omega), if_pos (by rw [mkE_length]; omega), bit_nat o i (by omega) (by omega), rdE_mk i hi, arcs_getE i hi]
  cases o.testBit i <;> simp
theorem spec_ends_eq {o : Nat} (ho : o < 2 ^ es.length) (i : Nat) (hi : i < es.length) :
    spec_l1Ends.f n (mkE es) o i = some ((((arcs es o)[i]'(by rw [arcs_length]; exact hi)).1 : Int), (((arcs es o)[i]'(by rw [arcs_length]; exact hi)).2 : Int)) :=
  impl_ends_eq hv ho i hi
theorem arcs_bd {o : Nat} (i : Nat) (hi : i < es.length) : ((arcs es o)[i]'(by rw [arcs_length]; exact hi)).1 < n ∧ ((arcs es o)[i]'(by rw [arcs_length]; exact hi)).2 < n :=
  have h := arcs_mem (o := o) hv.lt _ (List.getElem_mem (l := arcs es o) (by rw [arcs_length]; exact hi))
  ⟨h.1, h.2.1⟩
end

/-! ### nextOf -/
abbrev I (s : List Nat) : List Int := s.map fun x : Nat => (x : Int)
theorem I_length (s : List Nat) : (I s).length = s.length := by simp
def nxtStep (s : List Nat) (e : Nat × Nat) : List Nat := s.set e.1 (s.getD e.1 0 ||| 2 ^ e.2)
def nxt (n : Nat) (ar : List (Nat × Nat)) : List Nat := ar.foldl nxtStep (List.replicate n 0)
/-- A list of n sets of nodes. -/
def Sets (n : Nat) (s : List Nat) : Prop := s.length = n ∧ ∀ x ∈ s, x < 32
theorem Sets.getD {n : Nat} {s : List Nat} (h : Sets n s) (i : Nat) : s.getD i 0 < 32 := by
  rw [List.getD_eq_getElem?_getD]
  cases hi : s[i]? with
  | none => simp
  | some x => exact h.2 x (List.mem_of_getElem? hi)
theorem or_lt_32 {a b : Nat} (ha : a < 32) (hb : b < 32) : a ||| b < 32 := Nat.or_lt_two_pow (n := 5) ha hb
theorem two_lt_32 {v : Nat} (h : v < 5) : 2 ^ v < 32 := Nat.pow_lt_pow_right (by decide) h
theorem Sets.set {n : Nat} {s : List Nat} (h : Sets n s) (i x : Nat) (hx : x < 32) : Sets n (s.set i x) :=
  ⟨by simp [h.1], fun y hy => by
    rcases List.mem_or_eq_of_mem_set hy with hy | rfl
    · exact h.2 y hy
    · exact hx⟩
theorem Sets.step {n : Nat} {s : List Nat} (h : Sets n s) (e : Nat × Nat) (he : e.2 < 5) : Sets n (nxtStep s e) :=
  h.set _ _ (or_lt_32 (h.getD _) (two_lt_32 he))
theorem Sets.zero (n : Nat) : Sets n (List.replicate n 0) := ⟨by simp, fun x hx => by rw [List.mem_replicate] at hx; omega⟩
theorem Sets.fold {n : Nat} : ∀ (ar : List (Nat × Nat)) {s : List Nat}, Sets n s → (∀ e ∈ ar, e.2 < 5) → Sets n (ar.foldl nxtStep s)
  | [], _, h, _ => h
  | e :: t, _, h, he => Sets.fold t (h.step e (he e List.mem_cons_self)) (fun x hx => he x (List.mem_cons_of_mem _ hx))
section
variable {n : Nat} {es : List (Nat × Nat)} (hv : Val n es)
include hv
theorem nxt_sets (o : Nat) : Sets n (nxt n (arcs es o)) :=
  Sets.fold _ (Sets.zero n) (fun e he => by have := (arcs_mem hv.lt e he).2.1; have := hv.le; omega)
theorem impl_nextOf_loop {o : Nat} (ho : o < 2 ^ es.length) : ∀ (d i : Nat) (s : List Nat), i + d = es.length → Sets n s → Ev (fun k => impl_nextOf.l0 k o (I s) ((mkE es).length : Int) (i : Int) n (mkE es)) (I (((arcs es o).drop i).foldl nxtStep s))
  | 0, i, s, h, hs => by
    refine Ev.step (f := fun _ => some (I s)) (fun k => ?_) (Ev.eq_ (Ev.now _) ?_)
    · simp only [impl_nextOf.l0]
      rw [if_neg (by rw [mkE_length]; omega)]
    · rw [List.drop_of_length_le (by rw [arcs_length]; omega)]; rfl
  | d + 1, i, s, h, hs => by
    have hi : i < es.length := by omega
    have hl := hv.len
    have h5 := hv.le
    have e1 : wrap64 ((i : Int) + 1) = ((i + 1 : Nat) : Int) := by unfold wrap64; omega
    have hb := arcs_bd hv (o := o) i hi
    rw [List.drop_eq_getElem_cons (by rw [arcs_length]; exact hi), List.foldl_cons]
    generalize hx : (arcs es o)[i]'(by rw [arcs_length]; exact hi) = x at hb
    have ih := impl_nextOf_loop ho d (i + 1) (nxtStep s x) (by omega) (hs.step x (by omega))
    refine Ev.step (fun k => ?_) ih
    simp only [impl_nextOf.l0]
    rw [if_pos (by rw [mkE_length]; omega), impl_ends_eq hv ho i hi, hx]
    simp only [Option.bind_some]
    rw [if_pos (by omega), if_pos (by rw [I_length, hs.1]; omega), if_pos (by omega), e1, rd_nat, shl_one _ (by omega), or_nat _ _ (by have := hs.getD x.1; omega) (by have := two_lt_32 (v := x.2) (by omega); omega), set_nat]
    rfl
theorem impl_nextOf_ev {o : Nat} (ho : o < 2 ^ es.length) : Ev (fun k => impl_nextOf.f k n (mkE es) o) (I (nxt n (arcs es o))) := by
  have h := impl_nextOf_loop hv ho es.length 0 (List.replicate n 0) (by omega) (Sets.zero n)
  have h5 := hv.le
  refine Ev.congr (fun k => ?_) h
  unfold impl_nextOf.f
  rw [if_pos (by omega), if_pos (by omega)]
  simp [I]
end
end Go.Proofs.Ytkgfkhhjpipngaa.Q
