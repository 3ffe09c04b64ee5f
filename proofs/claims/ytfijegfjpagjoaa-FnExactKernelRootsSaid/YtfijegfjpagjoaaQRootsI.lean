/- The program's KernelRoots counts the blocks into which no edge leads. The graph is valid. -/
import Derived.Test.YtfijegfjpagjoaaQBlkI
import Derived.Test.YtfijegfjpagjoaaG39
namespace Go.Proofs.Ytfijegfjpagjoaa.Q
open Go.RowKit Go.Proofs.Ytfijegfjpagjoaa.G Go.Proofs.YtfijegfjpagjoaaW.PrintWords Go.Proofs.YtfijegfjpagjoaaW.PrintLast Go.Proofs.YtfijegfjpagjoaaW.PrintMore
set_option linter.unusedVariables false
set_option linter.unusedSimpArgs false
set_option linter.unusedSectionVars false
/-- No edge leads into a set. -/
def rootB (ar : List (Nat × Nat)) (set : Nat) : Bool := !ar.any fun e => set.testBit e.2 && !set.testBit e.1
theorem rootB_iff (ar : List (Nat × Nat)) (set : Nat) : rootB ar set = true ↔ ∀ e ∈ ar, set.testBit e.2 = true → set.testBit e.1 = true := by
  unfold rootB
  rw [Bool.not_eq_true', Bool.eq_false_iff, Ne, List.any_eq_true]
  constructor
  · intro h e he h2
    cases h1 : set.testBit e.1 with
    | true => rfl
    | false => exact absurd ⟨e, he, by rw [h2, h1]; rfl⟩ h
  · rintro h ⟨e, he, h2⟩
    rw [Bool.and_eq_true, Bool.not_eq_true'] at h2
    rw [h e he h2.1] at h2
    exact absurd h2.2 (by decide)
def rootsN (n : Nat) (es : List (Nat × Nat)) (o : Nat) : Nat := (blocks n (nxt n (arcs es o)) (nxt n (arcs es (2 ^ es.length - 1 - o)))).countP (rootB (arcs es o))
section
variable {n : Nat} {es : List (Nat × Nat)} (hv : Val n es)
include hv
theorem blk_root {o : Nat} (ho : o < 2 ^ es.length) {u : Nat} (hu : u < n) : reach (nxt n (arcs es (2 ^ es.length - 1 - o))) u = blk (nxt n (arcs es o)) (nxt n (arcs es (2 ^ es.length - 1 - o))) u ↔ rootB (arcs es o) (blk (nxt n (arcs es o)) (nxt n (arcs es (2 ^ es.length - 1 - o))) u) = true := by
  rw [root_iff hv.le (nxt_sets hv o) (nxt_sets hv _) (turn_bits hv ho) (nxt_hlt hv o) hu, rootB_iff]
  constructor
  · intro h e he h2
    exact h e.1 e.2 (by rw [nxt_adj (fun e he => (arcs_mem hv.lt e he).1), adj_iff]; exact he) h2
  · intro h i w hb h2
    rw [nxt_adj (fun e he => (arcs_mem hv.lt e he).1), adj_iff] at hb
    exact h (i, w) hb h2
theorem iroots_l1 {o : Nat} (ho : o < 2 ^ es.length) (L : List Nat) (j c : Nat) (hj : j ≤ 5) (hc : c ≤ j) (u : Nat) (hu : u < n) (hl : lstB (nxt n (arcs es o)) (nxt n (arcs es (2 ^ es.length - 1 - o))) u = true) (r : Int × Bool)
    (he : Ev (fun k => impl_KernelRoots.l0 k (I (nxt n (arcs es (2 ^ es.length - 1 - o)))) ((if rootB (arcs es o) (blk (nxt n (arcs es o)) (nxt n (arcs es (2 ^ es.length - 1 - o))) u) = true then c + 1 else c : Nat) : Int) (I L) ((I L).length : Int) ((j + 1 : Nat) : Int)) r) :
    ∀ (d x : Nat), x + d = u → Ev (fun k => impl_KernelRoots.l1 k (I (nxt n (arcs es (2 ^ es.length - 1 - o)))) (c : Int) ((blk (nxt n (arcs es o)) (nxt n (arcs es (2 ^ es.length - 1 - o))) u : Nat) : Int) (x : Int) (I L) ((I L).length : Int) (j : Int)) r := by
  have h5 := hv.le
  have hb32 := blk_lt h5 (nxt_sets hv o) (nxt_sets hv (2 ^ es.length - 1 - o)) (turn_bits hv ho) (nxt_hlt hv o) (v := u) hu
  have hself := blk_self h5 (nxt_sets hv o) (nxt_sets hv (2 ^ es.length - 1 - o)) (turn_bits hv ho) (nxt_hlt hv o) (v := u) hu
  have hlow := (lstB_iff u).1 hl
  have hroot := blk_root hv ho hu
  have hre := impl_reach_ev h5 (nxt_sets hv (2 ^ es.length - 1 - o)) hu
  generalize blk (nxt n (arcs es o)) (nxt n (arcs es (2 ^ es.length - 1 - o))) u = B at *
  have ec : wrap64 ((c : Int) + 1) = ((c + 1 : Nat) : Int) := wrap_add _ (by omega)
  have ej : wrap64 ((j : Int) + 1) = ((j + 1 : Nat) : Int) := wrap_add _ (by omega)
  intro d
  induction d with
  | zero =>
    intro x hx
    have hx : x = u := hx
    subst hx
    have hbit := bit_nat B x (lt62 hb32) (by omega)
    rw [hself] at hbit
    refine Ev.step (f := fun k => (impl_reachOf.f k (I (nxt n (arcs es (2 ^ es.length - 1 - o)))) (x : Int)).bind fun t => if t = (B : Int) then impl_KernelRoots.l0 k (I (nxt n (arcs es (2 ^ es.length - 1 - o)))) ((c + 1 : Nat) : Int) (I L) ((I L).length : Int) ((j + 1 : Nat) : Int) else impl_KernelRoots.l0 k (I (nxt n (arcs es (2 ^ es.length - 1 - o)))) (c : Int) (I L) ((I L).length : Int) ((j + 1 : Nat) : Int)) (fun k => ?_) (Ev.bind hre ?_)
    · simp only [impl_KernelRoots.l1]
      rw [if_pos (Int.natCast_nonneg x), hbit, if_neg (by decide), ec, ej]
    · by_cases hq : reach (nxt n (arcs es (2 ^ es.length - 1 - o))) x = B
      · have hq' : ((reach (nxt n (arcs es (2 ^ es.length - 1 - o))) x : Nat) : Int) = (B : Int) := by rw [hq]
        rw [if_pos (hroot.1 hq)] at he
        simp only [if_pos hq']; exact he
      · have hq' : ¬ ((reach (nxt n (arcs es (2 ^ es.length - 1 - o))) x : Nat) : Int) = (B : Int) := fun h => hq (Int.ofNat.inj h)
        rw [if_neg (fun h => hq (hroot.2 h))] at he
        simp only [if_neg hq']; exact he
  | succ d ih =>
    intro x hx
    have hxu : x < u := by omega
    have hbit := bit_nat B x (lt62 hb32) (by omega)
    rw [hlow x hxu] at hbit
    refine Ev.step (fun k => ?_) (ih (x + 1) (by omega))
    simp only [impl_KernelRoots.l1]
    rw [if_pos (Int.natCast_nonneg x), hbit, if_pos (by decide), wrap_add _ (by omega)]
theorem iroots_l0 {o : Nat} (ho : o < 2 ^ es.length) (U : List Nat) (hU : ∀ u ∈ U, u < n ∧ lstB (nxt n (arcs es o)) (nxt n (arcs es (2 ^ es.length - 1 - o))) u = true) (hlen : U.length ≤ 5) :
    ∀ (d j c : Nat), j + d = U.length → c ≤ j → Ev (fun k => impl_KernelRoots.l0 k (I (nxt n (arcs es (2 ^ es.length - 1 - o)))) (c : Int) (I (U.map (blk (nxt n (arcs es o)) (nxt n (arcs es (2 ^ es.length - 1 - o)))))) ((I (U.map (blk (nxt n (arcs es o)) (nxt n (arcs es (2 ^ es.length - 1 - o)))))).length : Int) (j : Int))
      (((c + ((U.drop j).map (blk (nxt n (arcs es o)) (nxt n (arcs es (2 ^ es.length - 1 - o))))).countP (rootB (arcs es o)) : Nat) : Int), true)
  | 0, j, c, hj, hc => by
    rw [List.drop_of_length_le (by omega)]
    refine Ev.step (f := fun _ => some ((c : Int), true)) (fun k => ?_) (Ev.now _)
    simp only [impl_KernelRoots.l0]
    rw [if_neg (by rw [I_length, List.length_map]; omega)]
  | d + 1, j, c, hj, hc => by
    have hjl : j < U.length := by omega
    obtain ⟨hu, hl⟩ := hU U[j] (List.getElem_mem hjl)
    have hg : rd (I (U.map (blk (nxt n (arcs es o)) (nxt n (arcs es (2 ^ es.length - 1 - o)))))) (j : Int) = ((blk (nxt n (arcs es o)) (nxt n (arcs es (2 ^ es.length - 1 - o))) U[j] : Nat) : Int) := by
      rw [rd_nat, List.getD_eq_getElem?_getD, List.getElem?_map, List.getElem?_eq_getElem hjl]; rfl
    rw [List.drop_eq_getElem_cons hjl, List.map_cons, List.countP_cons]
    have ih := iroots_l0 ho U hU hlen d (j + 1) (if rootB (arcs es o) (blk (nxt n (arcs es o)) (nxt n (arcs es (2 ^ es.length - 1 - o))) U[j]) = true then c + 1 else c) (by omega) (by split <;> omega)
    have h1 := iroots_l1 hv ho (U.map (blk (nxt n (arcs es o)) (nxt n (arcs es (2 ^ es.length - 1 - o))))) j c (by omega) hc U[j] hu hl _ ih U[j] 0 (Nat.zero_add _)
    refine Ev.step (fun k => ?_) (Ev.eq_ h1 ?_)
    · simp only [impl_KernelRoots.l0]
      rw [if_pos (by rw [I_length, List.length_map]; omega), if_pos (Int.natCast_nonneg j), if_pos (by rw [I_length, List.length_map]; omega), hg]
      rfl
    · congr 2
      split <;> omega
theorem impl_KernelRoots_ev {o : Nat} (ho : o < 2 ^ es.length) : Ev (fun k => impl_KernelRoots.f k n (mkE es) o) (((rootsN n es o : Nat) : Int), true) := by
  have hT := turn_lt es.length o ho
  unfold impl_KernelRoots.f
  refine Ev.bind (impl_WayIn_yes hv ho) ?_
  simp only [if_true, impl_turned_eq' hv ho, Option.bind_some]
  refine Ev.bind (impl_nextOf_ev hv hT) (Ev.bind (impl_blocksOf_ev hv ho) ?_)
  have h := iroots_l0 hv ho (sel (lstB (nxt n (arcs es o)) (nxt n (arcs es (2 ^ es.length - 1 - o)))) 0 n) (fun u hu => by
    rw [sel_mem] at hu; exact ⟨by omega, hu.2.2⟩) (by rw [sel_len]; exact Nat.le_trans (cnt_le _ _ _) hv.le) _ 0 0 (Nat.zero_add _) (Nat.le_refl _)
  rw [Nat.zero_add, List.drop_zero] at h
  exact h
end
theorem impl_KernelRoots_no {a : Int} {l : List E} {o : Int} (h : Ev (fun k => impl_WayIn.f k a l o) false) : Ev (fun k => impl_KernelRoots.f k a l o) (0, false) := by
  unfold impl_KernelRoots.f
  refine Ev.bind h ?_
  simp only [Bool.false_eq_true, if_false]
  exact Ev.now _
end Go.Proofs.Ytfijegfjpagjoaa.Q
