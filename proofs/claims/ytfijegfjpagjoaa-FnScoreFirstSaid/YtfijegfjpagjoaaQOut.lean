/- The outdegrees of a direction, as outOf tells them. The graph is valid. -/
import Derived.Test.YtfijegfjpagjoaaQOnes
import Derived.Test.YtfijegfjpagjoaaQSem
import Derived.Test.YtfijegfjpagjoaaG43
namespace Go.Proofs.Ytfijegfjpagjoaa.Q
open Go.RowKit Go.Proofs.Ytfijegfjpagjoaa.G Go.Proofs.YtfijegfjpagjoaaW.PrintWords Go.Proofs.YtfijegfjpagjoaaW.PrintLast Go.Proofs.YtfijegfjpagjoaaW.PrintMore
set_option linter.unusedVariables false
set_option linter.unusedSimpArgs false
theorem arcs_nodup : ∀ (es : List (Nat × Nat)) (o : Nat), es.Pairwise plt → (∀ e ∈ es, e.1 < e.2) → (arcs es o).Nodup
  | [], _, _, _ => by simp [arcs]
  | x :: t, o, hp, hl => by
    rw [List.pairwise_cons] at hp
    simp only [arcs, List.nodup_cons]
    refine ⟨fun hm => ?_, arcs_nodup t (o / 2) hp.2 fun e he => hl e (List.mem_cons_of_mem _ he)⟩
    have hx := hl x List.mem_cons_self
    rcases arcs_mem_es t (o / 2) _ hm with h | h
    · by_cases ho : o % 2 = 1
      · rw [if_pos ho] at h
        have := hl _ (List.mem_cons_of_mem _ h)
        simp only at this; omega
      · rw [if_neg ho] at h
        have := hp.1 _ h
        unfold plt at this; omega
    · by_cases ho : o % 2 = 1
      · rw [if_pos ho] at h
        have := hp.1 _ h
        unfold plt at this; simp only at this; omega
      · rw [if_neg ho] at h
        have := hl _ (List.mem_cons_of_mem _ h)
        simp only at this; omega
def degStep (t : List Nat) (e : Nat × Nat) : List Nat := t.set e.1 (t.getD e.1 0 + 1)
/-- The outdegrees. -/
def deg (n : Nat) (ar : List (Nat × Nat)) : List Nat := ar.foldl degStep (List.replicate n 0)
theorem pop_or : ∀ s, s < 32 → ∀ b, b < 5 → s.testBit b = false → pop (s ||| 2 ^ b) = pop s + 1 := by decide +kernel
theorem pop_le (x : Nat) : pop x ≤ 10 := popc_le 10 x
theorem deg_fold {n : Nat} : ∀ (ar : List (Nat × Nat)) (s t : List Nat), ar.Nodup → (∀ e ∈ ar, e.1 < n ∧ e.2 < 5) → (∀ e ∈ ar, (s.getD e.1 0).testBit e.2 = false) → Sets n s → s.map pop = t → (ar.foldl nxtStep s).map pop = ar.foldl degStep t
  | [], s, t, _, _, _, _, h => h
  | e :: ar, s, t, hn, hb, hz, hs, h => by
    rw [List.nodup_cons] at hn
    have he := hb e List.mem_cons_self
    have hze := hz e List.mem_cons_self
    simp only [List.foldl_cons]
    refine deg_fold ar _ _ hn.2 (fun f hf => hb f (List.mem_cons_of_mem _ hf)) (fun f hf => ?_) (hs.step e he.2) ?_
    · have hzf := hz f (List.mem_cons_of_mem _ hf)
      have hfe : f ≠ e := fun h => hn.1 (h ▸ hf)
      unfold nxtStep
      by_cases h1 : f.1 = e.1
      · rw [h1] at hzf ⊢
        rw [List.getD_eq_getElem?_getD, List.getElem?_set_self (by rw [hs.1]; exact he.1)]
        simp only [Option.getD_some]
        rw [Nat.testBit_or, hzf, Bool.false_or, Nat.testBit_two_pow]
        rw [decide_eq_false_iff_not]
        intro h2
        exact hfe (Prod.ext h1 h2.symm)
      · rw [List.getD_eq_getElem?_getD, List.getElem?_set_ne (fun h => h1 h.symm), ← List.getD_eq_getElem?_getD]
        exact hzf
    · unfold nxtStep degStep
      rw [List.map_set, h, pop_or _ (hs.getD _) _ he.2 hze]
      congr 1
      rw [← h, List.getD_eq_getElem?_getD, List.getD_eq_getElem?_getD, List.getElem?_map]
      have hl : e.1 < s.length := by rw [hs.1]; exact he.1
      rw [List.getElem?_eq_getElem hl]
      rfl
theorem deg_eq {n : Nat} {es : List (Nat × Nat)} (hv : Val n es) (o : Nat) : (nxt n (arcs es o)).map pop = deg n (arcs es o) := by
  refine deg_fold (n := n) _ _ _ (arcs_nodup es o hv.srt fun e he => (hv.lt e he).1) (fun e he => ?_) (fun e he => ?_) (Sets.zero n) ?_
  · have := arcs_mem hv.lt e he; have := hv.le; omega
  · rw [List.getD_eq_getElem?_getD, List.getElem?_replicate]; split <;> simp
  · rw [List.map_replicate]; rfl
theorem deg_len_fold : ∀ (ar : List (Nat × Nat)) (t : List Nat), (ar.foldl degStep t).length = t.length
  | [], _ => rfl
  | e :: ar, t => by rw [List.foldl_cons, deg_len_fold ar]; simp [degStep]
theorem deg_len (n : Nat) (ar : List (Nat × Nat)) : (deg n ar).length = n := by rw [deg, deg_len_fold]; simp
section
variable {n : Nat} {es : List (Nat × Nat)} (hv : Val n es)
include hv
theorem deg_get (o v : Nat) (h : v < n) : (deg n (arcs es o)).getD v 0 = pop (out n es o v) := by
  rw [← deg_eq hv, out, List.getD_eq_getElem?_getD, List.getD_eq_getElem?_getD, List.getElem?_map]
  rw [List.getElem?_eq_getElem (by rw [(nxt_sets hv o).1]; exact h)]
  rfl
omit hv in
theorem impl_outOf_loop {s : List Nat} (hs : Sets n s) (h5 : n ≤ 5) : ∀ (d i : Nat), i + d = n → Ev (fun k => impl_outOf.l0 k (I ((s.take i).map pop ++ s.drop i)) (i : Int)) (I (s.map pop))
  | 0, i, h => by
    rw [List.drop_of_length_le (by rw [hs.1]; omega), List.take_of_length_le (by rw [hs.1]; omega), List.append_nil]
    refine Ev.step (f := fun _ => some (I (s.map pop))) (fun k => ?_) (Ev.now _)
    simp only [impl_outOf.l0]
    rw [if_neg (by simp [hs.1]; omega)]
  | d + 1, i, h => by
    have hi : i < s.length := by rw [hs.1]; omega
    have hx : s[i] < 32 := hs.2 _ (List.getElem_mem hi)
    have ih := impl_outOf_loop hs h5 d (i + 1) (by omega)
    have e1 : ((i : Int) + 1) = ((i + 1 : Nat) : Int) := rfl
    have hg : ((s.take i).map pop ++ s.drop i).getD i 0 = s[i] := by
      rw [List.getD_eq_getElem?_getD, List.getElem?_append_right (by simp; omega)]
      simp only [List.length_map, List.length_take, Nat.min_eq_left (Nat.le_of_lt hi), Nat.sub_self, List.getElem?_drop, Nat.add_zero]
      rw [List.getElem?_eq_getElem hi]; rfl
    have hset : ((s.take i).map pop ++ s.drop i).set i (pop s[i]) = (s.take (i + 1)).map pop ++ s.drop (i + 1) := by
      rw [List.set_append_right _ _ (by simp; omega), List.drop_eq_getElem_cons hi]
      simp only [List.length_map, List.length_take, Nat.min_eq_left (Nat.le_of_lt hi), Nat.sub_self, List.set_cons_zero]
      rw [List.take_add_one, List.getElem?_eq_getElem hi, List.map_append, List.append_assoc]
      rfl
    refine Ev.step (fun k => ?_) ih
    simp only [impl_outOf.l0]
    rw [if_pos (by simp [hs.1]; omega), rd_nat, hg, ones_eq _ (by omega)]
    simp only [Option.bind_some]
    rw [set_nat, hset]
    rfl
theorem impl_outOf_ev {o : Nat} (ho : o < 2 ^ es.length) : Ev (fun k => impl_outOf.f k n (mkE es) o) (I (deg n (arcs es o))) := by
  unfold impl_outOf.f
  refine Ev.bind (impl_nextOf_ev hv ho) ?_
  have h := impl_outOf_loop (nxt_sets hv o) hv.le n 0 (by omega)
  rw [deg_eq hv] at h
  simpa using h
end
end Go.Proofs.Ytfijegfjpagjoaa.Q
