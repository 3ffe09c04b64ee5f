/- The program's walk along all simple paths folds what is told over their list. The sets are of five nodes at most. -/
import Derived.Test.YtfijegfjpagjoaaQPathP
import Derived.Test.YtfijegfjpagjoaaQNext
import Derived.Test.YtfijegfjpagjoaaG6
namespace Go.Proofs.Ytfijegfjpagjoaa.Q
open Go.RowKit Go.Proofs.Ytfijegfjpagjoaa.G Go.Proofs.YtfijegfjpagjoaaW.PrintWords Go.Proofs.YtfijegfjpagjoaaW.PrintLast Go.Proofs.YtfijegfjpagjoaaW.PrintMore
set_option linter.unusedVariables false
set_option linter.unusedSimpArgs false
theorem may_int (x m v : Nat) (hx : x < 32) (hm : m < 32) (hv : v < 5) : (Go.bits .and .i64 (shr .i64 (Go.bits .andNot .i64 (x : Int) (m : Int)) (v : Int)) 1 = 1) ↔ (x.testBit v && !m.testBit v) = true := by
  rw [andNot_nat x m (lt62 hx) (lt62 hm), bit_nat _ v (lt62 (Nat.lt_of_le_of_lt Nat.and_le_left hx)) (by omega), toNat_one, Nat.testBit_and, Nat.testBit_xor]
  cases x.testBit v <;> cases m.testBit v <;> simp
theorem last_rd {p : List Nat} {a : Nat} (h : p.getLast? = some a) : rd (I p) (((I p).length : Int) - 1) = (a : Int) ∧ 0 < p.length := by
  have hp : p ≠ [] := by rintro rfl; simp at h
  have h0 : 0 < p.length := List.length_pos_iff.2 hp
  refine ⟨?_, h0⟩
  rw [I_length, show ((p.length : Int) - 1) = ((p.length - 1 : Nat) : Int) by omega, rd_nat, List.getD_eq_getElem?_getD, ← List.getLast?_eq_getElem?, h]
  rfl
theorem I_snoc (p : List Nat) (v : Nat) : I (p ++ [v]) = I p ++ [(v : Int)] := by simp
section
variable {σ : Type} (step : σ → List Int → σ) {n : Nat} (h5 : n ≤ 5) {s : List Nat} (hs : Sets n s)
include h5 hs
theorem walk_step (p : List Nat) (a m v : Nat) (hM : Met s n p a m) (hv : v < n) (k : Nat) (st : σ) :
    impl_walk.f step (I s) n (k + 1) (I p) (m : Int) (some (v : Int)) st = if mayB s a m v = true then ((impl_walk.f step (I s) n k (I (p ++ [v])) ((m ||| 2 ^ v : Nat) : Int) none st).bind fun b => impl_walk.f step (I s) n k (I p) (m : Int) (some ((v + 1 : Nat) : Int)) b) else impl_walk.f step (I s) n k (I p) (m : Int) (some ((v + 1 : Nat) : Int)) st := by
  obtain ⟨hl, h0⟩ := last_rd hM.last
  have han : a < n := hM.sp.lt a (List.mem_of_getLast? hM.last)
  have hm32 : m < 32 := Nat.lt_of_lt_of_le hM.lt (Nat.pow_le_pow_right (n := 2) (by decide) h5)
  have hv5 : v < 5 := by omega
  have c2 : 0 ≤ rd (I p) (((I p).length : Int) - 1) ∧ rd (I p) (((I p).length : Int) - 1) < ((I s).length : Int) := by
    rw [hl, I_length, hs.1]; omega
  simp only [impl_walk.f]
  rw [if_pos (Int.ofNat_lt.2 hv), if_pos c2, hl, rd_nat, shl_one v (by omega), or_nat m (2 ^ v) (lt62 hm32) (lt62 (two_lt_32 hv5)), I_snoc]
  have e1 : (v : Int) + 1 = ((v + 1 : Nat) : Int) := by omega
  rw [e1]
  have hc := may_int (s.getD a 0) m v (hs.getD a) hm32 hv5
  unfold mayB
  by_cases hb : ((s.getD a 0).testBit v && !m.testBit v) = true
  · rw [if_pos (hc.2 hb), if_pos hb]
  · rw [if_neg (fun h => hb (hc.1 h)), if_neg hb]
theorem walk_ev : ∀ (f : Nat) (p : List Nat) (a m : Nat) (st : σ), Met s n p a m → n + 1 ≤ p.length + f →
    Ev (fun k => impl_walk.f step (I s) n k (I p) (m : Int) none st) ((walkP s n f p a m).foldl (fun st p => step st (I p)) st)
  | 0, p, a, m, st, hM, hf => by have := hM.le h5; omega
  | f + 1, p, a, m, st, hM, hf => by
    have inner : ∀ (d v : Nat) (st : σ), v + d = n → Ev (fun k => impl_walk.f step (I s) n k (I p) (m : Int) (some (v : Int)) st) ((List.range' v d).foldl (fun st v => (if mayB s a m v = true then walkP s n f (p ++ [v]) v (m ||| 2 ^ v) else []).foldl (fun st p => step st (I p)) st) st) := by
      intro d
      induction d with
      | zero =>
        intro v st hv
        refine Ev.step (f := fun _ => some st) (fun k => ?_) (Ev.now _)
        simp only [impl_walk.f]
        rw [if_neg (by omega)]
      | succ d ih =>
        intro v st hv
        have hvn : v < n := by omega
        rw [List.range'_succ, List.foldl_cons]
        refine Ev.step (fun k => walk_step step h5 hs p a m v hM hvn k st) ?_
        by_cases hb : mayB s a m v = true
        · simp only [if_pos hb]
          exact Ev.bind (walk_ev f (p ++ [v]) v (m ||| 2 ^ v) st (hM.snoc h5 hvn hb) (by rw [List.length_append, List.length_singleton]; omega)) (ih (v + 1) _ (by omega))
        · simp only [if_neg hb]
          exact ih (v + 1) _ (by omega)
    have h0 := (last_rd hM.last).2
    have hle := hM.le h5
    simp only [walkP]
    rw [List.foldl_cons, foldl_flatMap]
    refine Ev.step (fun k => ?_) (inner n 0 (step st (I p)) (by omega))
    simp only [impl_walk.f]
    rw [if_pos (by rw [I_length]; omega)]
    rfl
theorem paths_loop : ∀ (d v : Nat) (st : σ), v + d = n → Ev (fun k => impl_paths.l0 step (I s) n k (v : Int) st) ((List.range' v d).foldl (fun st v => (walkP s n n [v] v (2 ^ v)).foldl (fun st p => step st (I p)) st) st)
  | 0, v, st, hv => by
    refine Ev.step (f := fun _ => some st) (fun k => ?_) (Ev.now _)
    simp only [impl_paths.l0]
    rw [if_neg (by omega)]
  | d + 1, v, st, hv => by
    have hvn : v < n := by omega
    rw [List.range'_succ, List.foldl_cons]
    refine Ev.step (f := fun k => (impl_walk.f step (I s) n k (I [v]) ((2 ^ v : Nat) : Int) none st).bind fun b => impl_paths.l0 step (I s) n k ((v + 1 : Nat) : Int) b) (fun k => ?_) (Ev.bind (walk_ev step h5 hs n [v] v (2 ^ v) st (Met.one s h5 hvn) (by simp; omega)) (paths_loop d (v + 1) _ (by omega)))
    simp only [impl_paths.l0]
    rw [if_pos (Int.ofNat_lt.2 hvn), shl_one v (by omega)]
    rfl
end
section
variable {n : Nat} {es : List (Nat × Nat)} (hv : Val n es)
include hv
theorem impl_paths_ev {σ : Type} (step : σ → List Int → σ) {o : Nat} (ho : o < 2 ^ es.length) (st : σ) :
    Ev (fun k => impl_paths.f step k n (mkE es) o st) ((allP (nxt n (arcs es o)) n).foldl (fun st p => step st (I p)) st) := by
  have h5 := hv.le
  have h1 := hv.pos
  have hs := nxt_sets hv o
  unfold impl_paths.f
  refine Ev.bind (impl_nextOf_ev hv ho) ?_
  have hc : 0 < (I (nxt n (arcs es o))).length ∧ ((n : Nat) : Int) ≤ 1000 := by rw [I_length, hs.1]; omega
  simp only [if_pos hc]
  unfold allP
  rw [foldl_flatMap]
  exact paths_loop step h5 hs n 0 st (by omega)
end
end Go.Proofs.Ytfijegfjpagjoaa.Q
