/- The reference's blocks are the same. The graph is valid. -/
import Derived.Test.YtfijegfjpagjoaaQBlkI
import Derived.Test.YtfijegfjpagjoaaQAll1
import Derived.Test.YtfijegfjpagjoaaG39
namespace Go.Proofs.Ytfijegfjpagjoaa.Q
open Go.RowKit Go.Proofs.Ytfijegfjpagjoaa.G Go.Proofs.YtfijegfjpagjoaaW.PrintWords Go.Proofs.YtfijegfjpagjoaaW.PrintLast Go.Proofs.YtfijegfjpagjoaaW.PrintMore
set_option linter.unusedVariables false
set_option linter.unusedSimpArgs false
set_option linter.unusedSectionVars false
/-- One pass along all edges. -/
def passE : List (Nat × Nat) → Nat → Nat
  | [], m => m
  | e :: t, m => passE t (if m.testBit e.1 then m ||| 2 ^ e.2 else m)
theorem passE_sup : ∀ (ar : List (Nat × Nat)) (m w : Nat), m.testBit w = true → (passE ar m).testBit w = true
  | [], m, w, h => h
  | e :: t, m, w, h => by
    simp only [passE]
    refine passE_sup t _ w ?_
    split
    · rw [Nat.testBit_or, h, Bool.true_or]
    · exact h
theorem passE_in : ∀ (ar : List (Nat × Nat)) (m : Nat), ∀ e ∈ ar, m.testBit e.1 = true → (passE ar m).testBit e.2 = true
  | [], m, e, h, _ => by simp at h
  | x :: t, m, e, h, hb => by
    simp only [passE]
    rw [List.mem_cons] at h
    rcases h with rfl | h
    · refine passE_sup t _ _ ?_
      rw [if_pos hb, Nat.testBit_or, Nat.testBit_two_pow]; simp
    · refine passE_in t _ e h ?_
      split
      · rw [Nat.testBit_or, hb, Bool.true_or]
      · exact hb
theorem passE_least (C : Nat) : ∀ (ar : List (Nat × Nat)) (m : Nat), (∀ e ∈ ar, C.testBit e.1 = true → C.testBit e.2 = true) → (∀ w, m.testBit w = true → C.testBit w = true) → ∀ w, (passE ar m).testBit w = true → C.testBit w = true
  | [], m, _, h, w, hw => h w hw
  | e :: t, m, hC, h, w, hw => by
    simp only [passE] at hw
    refine passE_least C t _ (fun x hx => hC x (List.mem_cons_of_mem _ hx)) (fun u hu => ?_) w hw
    split at hu
    · rename_i hb
      rw [Nat.testBit_or, Bool.or_eq_true, Nat.testBit_two_pow, decide_eq_true_eq] at hu
      rcases hu with hu | rfl
      · exact h u hu
      · exact hC e List.mem_cons_self (h _ hb)
    · exact h u hu
theorem passE_lt {n : Nat} : ∀ (ar : List (Nat × Nat)) (m : Nat), (∀ e ∈ ar, e.2 < n) → m < 2 ^ n → passE ar m < 2 ^ n
  | [], m, _, h => h
  | e :: t, m, hb, h => by
    simp only [passE]
    refine passE_lt t _ (fun x hx => hb x (List.mem_cons_of_mem _ hx)) ?_
    split
    · exact Nat.or_lt_two_pow h (Nat.pow_lt_pow_right (by decide) (hb e List.mem_cons_self))
    · exact h
def itE (ar : List (Nat × Nat)) : Nat → Nat → Nat
  | 0, m => m
  | d + 1, m => itE ar d (passE ar m)
theorem pop_bdS : ∀ n, n < 6 → ∀ m, m < 2 ^ n → pop m ≤ n := by decide +kernel
theorem pop_one : ∀ v, v < 5 → pop (2 ^ v) = 1 := by decide +kernel
theorem itE_stable (ar : List (Nat × Nat)) : ∀ d m, passE ar m = m → itE ar d m = m
  | 0, m, _ => rfl
  | d + 1, m, h => by simp only [itE]; rw [h]; exact itE_stable ar d m h
theorem itE_fix {n : Nat} (h5 : n ≤ 5) (ar : List (Nat × Nat)) (hb : ∀ e ∈ ar, e.2 < n) : ∀ d m, m < 2 ^ n → n < pop m + d → passE ar (itE ar d m) = itE ar d m
  | 0, m, hm, h => by have := pop_bdS n (by omega) m hm; omega
  | d + 1, m, hm, h => by
    by_cases e : passE ar m = m
    · rw [itE_stable ar (d + 1) m e, e]
    · simp only [itE]
      have hm32 : m < 32 := Nat.lt_of_lt_of_le hm (Nat.pow_le_pow_right (n := 2) (by decide) h5)
      have hp := passE_lt ar m hb hm
      have hp32 : passE ar m < 32 := Nat.lt_of_lt_of_le hp (Nat.pow_le_pow_right (n := 2) (by decide) h5)
      have := pop_sub m hm32 _ hp32 (sub_and (passE_sup ar m)) (fun h => e h.symm)
      exact itE_fix h5 ar hb d _ hp (by omega)
theorem itE_sup (ar : List (Nat × Nat)) : ∀ d m w, m.testBit w = true → (itE ar d m).testBit w = true
  | 0, m, w, h => h
  | d + 1, m, w, h => itE_sup ar d _ w (passE_sup ar m w h)
theorem itE_least (C : Nat) (ar : List (Nat × Nat)) (hC : ∀ e ∈ ar, C.testBit e.1 = true → C.testBit e.2 = true) : ∀ d m, (∀ w, m.testBit w = true → C.testBit w = true) → ∀ w, (itE ar d m).testBit w = true → C.testBit w = true
  | 0, m, h, w, hw => h w hw
  | d + 1, m, h, w, hw => itE_least C ar hC d _ (passE_least C ar m hC h) w hw
theorem itE_lt {n : Nat} (ar : List (Nat × Nat)) (hb : ∀ e ∈ ar, e.2 < n) : ∀ d m, m < 2 ^ n → itE ar d m < 2 ^ n
  | 0, m, h => h
  | d + 1, m, h => itE_lt ar hb d _ (passE_lt ar m hb h)
section
variable {n : Nat} {es : List (Nat × Nat)} (hv : Val n es)
include hv
theorem itE_reach (o : Nat) {v : Nat} (hvn : v < n) : itE (arcs es o) n (2 ^ v) = reach (nxt n (arcs es o)) v := by
  have h5 := hv.le
  have hs := nxt_sets hv o
  have hb : ∀ e ∈ arcs es o, e.2 < n := fun e he => (arcs_mem hv.lt e he).2.1
  have h2v : 2 ^ v < 2 ^ n := Nat.pow_lt_pow_right (by decide) hvn
  have hfix := itE_fix h5 (arcs es o) hb n (2 ^ v) h2v (by rw [pop_one v (by omega)]; omega)
  have hvb : (2 ^ v).testBit v = true := by rw [Nat.testBit_two_pow]; simp
  apply Nat.eq_of_testBit_eq
  intro w
  rw [Bool.eq_iff_iff]
  constructor
  · refine itE_least _ (arcs es o) (fun e he h => ?_) n (2 ^ v) (fun u hu => ?_) w
    · exact reach_closed hs (by omega) e.1 e.2 h (by rw [nxt_adj (fun e he => (arcs_mem hv.lt e he).1), adj_iff]; exact he)
    · rw [Nat.testBit_two_pow, decide_eq_true_eq] at hu
      subst hu; exact reach_self hs (by omega)
  · refine reach_least hs (by omega) (fun i u hi hu => ?_) (itE_sup _ n _ v hvb) w
    rw [nxt_adj (fun e he => (arcs_mem hv.lt e he).1), adj_iff] at hu
    rw [← hfix]
    exact passE_in _ _ (i, u) hu hi
theorem l1Reach_l1 {o : Nat} (ho : o < 2 ^ es.length) (x7 : Nat) (r : Int) (M : Nat) (he : Ev (fun k => spec_l1Reach.l0 k (o : Int) (M : Int) (wrap64 ((x7 : Int) + 1)) n (mkE es)) r) :
    ∀ (d i m : Nat), i + d = es.length → m < 32 → passE ((arcs es o).drop i) m = M → Ev (fun k => spec_l1Reach.l1 k (o : Int) (m : Int) (x7 : Int) (i : Int) n (mkE es)) r
  | 0, i, m, hi, hm, hM => by
    rw [List.drop_of_length_le (by rw [arcs_length]; omega)] at hM
    have hM : m = M := hM
    subst hM
    refine Ev.step (fun k => ?_) he
    simp only [spec_l1Reach.l1]
    rw [if_neg (by rw [mkE_length]; omega)]
  | d + 1, i, m, hi, hm, hM => by
    have h5 := hv.le
    have hl := hv.len
    have hie : i < es.length := by omega
    have hia : i < (arcs es o).length := by rw [arcs_length]; exact hie
    have e1 : wrap64 ((i : Int) + 1) = ((i + 1 : Nat) : Int) := wrap_add _ (by omega)
    have hends := spec_ends_eq hv ho i hie
    have hbd := arcs_bd hv (o := o) i hie
    rw [List.drop_eq_getElem_cons hia] at hM
    simp only [passE] at hM
    generalize (arcs es o)[i] = e at hends hbd hM
    have hbit := bit_nat m e.1 (lt62 hm) (by omega)
    cases hb : m.testBit e.1 with
    | true =>
      rw [hb] at hM hbit
      simp only [if_true] at hM
      refine Ev.step (fun k => ?_) (l1Reach_l1 ho x7 r M he d (i + 1) (m ||| 2 ^ e.2) (by omega) (or_lt_32 hm (two_lt_32 (by omega))) hM)
      simp only [spec_l1Reach.l1]
      rw [if_pos (by rw [mkE_length]; omega), hends, Option.bind_some]
      dsimp only
      rw [if_pos (by omega), hbit, if_pos (by decide), if_pos (by omega), shl_one e.2 (by omega), or_nat m _ (lt62 hm) (lt62 (two_lt_32 (by omega))), e1]
    | false =>
      rw [hb] at hM hbit
      simp only [Bool.false_eq_true, if_false] at hM
      refine Ev.step (fun k => ?_) (l1Reach_l1 ho x7 r M he d (i + 1) m (by omega) hm hM)
      simp only [spec_l1Reach.l1]
      rw [if_pos (by rw [mkE_length]; omega), hends, Option.bind_some]
      dsimp only
      rw [if_pos (by omega), hbit, if_neg (by decide), e1]
theorem l1Reach_l0 {o : Nat} (ho : o < 2 ^ es.length) : ∀ (d x m : Nat), x + d = n → m < 2 ^ n → Ev (fun k => spec_l1Reach.l0 k (o : Int) (m : Int) (x : Int) n (mkE es)) ((itE (arcs es o) d m : Nat) : Int)
  | 0, x, m, hx, hm => by
    refine Ev.step (f := fun _ => some (m : Int)) (fun k => ?_) (Ev.now _)
    simp only [spec_l1Reach.l0]
    rw [if_neg (by omega)]
  | d + 1, x, m, hx, hm => by
    have h5 := hv.le
    have e1 : wrap64 ((x : Int) + 1) = ((x + 1 : Nat) : Int) := wrap_add _ (by clear hm; omega)
    have hm32 : m < 32 := Nat.lt_of_lt_of_le hm (Nat.pow_le_pow_right (n := 2) (by decide) h5)
    have hp := passE_lt (arcs es o) m (fun e he => (arcs_mem hv.lt e he).2.1) hm
    have ih := l1Reach_l0 ho d (x + 1) (passE (arcs es o) m) (by clear hm hp; omega) hp
    refine Ev.step (fun k => ?_) (l1Reach_l1 hv ho x _ (passE (arcs es o) m) (by rw [e1]; exact ih) es.length 0 m (Nat.zero_add _) hm32 (by rw [List.drop_zero]))
    simp only [spec_l1Reach.l0]
    rw [if_pos (by clear hm hp; omega)]; rfl
theorem spec_l1Reach_ev {o : Nat} (ho : o < 2 ^ es.length) {v : Nat} (hvn : v < n) : Ev (fun k => spec_l1Reach.f k n (mkE es) (o : Int) ((2 ^ v : Nat) : Int)) ((reach (nxt n (arcs es o)) v : Nat) : Int) := by
  rw [← itE_reach hv o hvn]
  unfold spec_l1Reach.f
  exact l1Reach_l0 hv ho n 0 (2 ^ v) (Nat.zero_add _) (Nat.pow_lt_pow_right (by decide) hvn)
theorem spec_l3Block_ev {o : Nat} (ho : o < 2 ^ es.length) {v : Nat} (hvn : v < n) : Ev (fun k => spec_l3Block.f k n (mkE es) (o : Int) (v : Int)) ((blk (nxt n (arcs es o)) (nxt n (arcs es (2 ^ es.length - 1 - o))) v : Nat) : Int) := by
  have h5 := hv.le
  have h2 := hv.two
  have hT := turn_lt es.length o ho
  have hR := spec_l1Reach_ev hv ho hvn
  have hB := spec_l1Reach_ev hv hT hvn
  have hand : Go.bits .and .i64 ((reach (nxt n (arcs es o)) v : Nat) : Int) ((reach (nxt n (arcs es (2 ^ es.length - 1 - o))) v : Nat) : Int) = ((blk (nxt n (arcs es o)) (nxt n (arcs es (2 ^ es.length - 1 - o))) v : Nat) : Int) := and_nat _ _ (lt62 (reach_lt (nxt_sets hv o) (by omega))) (lt62 (reach_lt (nxt_sets hv _) (by omega)))
  have hw : wrap64 (((2 ^ es.length - 1 : Nat) : Int) - (o : Int)) = ((2 ^ es.length - 1 - o : Nat) : Int) := by
    generalize 2 ^ es.length = m at *
    clear hR hB hand
    unfold wrap64; omega
  unfold spec_l3Block.f
  simp only [Int.natCast_nonneg, if_true, shl_one v (show v ≤ 60 by omega), spec_l1All_eq' hv, Option.bind_some, hw]
  refine Ev.bind hR (Ev.bind hB ?_)
  rw [hand]; exact Ev.now _
theorem strong_loop {o : Nat} (ho : o < 2 ^ es.length) : ∀ (d i : Nat) (acc : List Nat), i + d = n → acc.length ≤ i → Ev (fun k => spec_StrongBlocks.l0 k (o : Int) (I acc) (i : Int) n (mkE es)) (I (acc ++ (sel (lstB (nxt n (arcs es o)) (nxt n (arcs es (2 ^ es.length - 1 - o)))) i d).map (blk (nxt n (arcs es o)) (nxt n (arcs es (2 ^ es.length - 1 - o))))), true)
  | 0, i, acc, hi, ha => by
    refine Ev.step (f := fun _ => some (I acc, true)) (fun k => ?_) (Ev.eq_ (Ev.now _) (by simp [sel]))
    simp only [spec_StrongBlocks.l0]
    rw [if_neg (by omega)]
  | d + 1, i, acc, hi, ha => by
    have h5 := hv.le
    have hin : i < n := by omega
    have e1 : wrap64 ((i : Int) + 1) = ((i + 1 : Nat) : Int) := wrap_add _ (by omega)
    have hB := spec_l3Block_ev hv ho hin
    have hb32 := blk_lt h5 (nxt_sets hv o) (nxt_sets hv (2 ^ es.length - 1 - o)) (turn_bits hv ho) (nxt_hlt hv o) (v := i) hin
    have e3 : wrap64 (((2 ^ i : Nat) : Int) - 1) = ((2 ^ i - 1 : Nat) : Int) := by
      have h1 : 2 ^ i < 32 := two_lt_32 (by omega)
      have h2 := Nat.two_pow_pos i
      generalize 2 ^ i = q at *
      clear hB hb32
      unfold wrap64; omega
    have hq : 2 ^ i - 1 < 32 := Nat.lt_of_le_of_lt (Nat.sub_le _ _) (two_lt_32 (by omega))
    have hlen : (I acc).length < 17592186044416 := by rw [I_length]; omega
    have ih1 := strong_loop ho d (i + 1) (acc ++ [blk (nxt n (arcs es o)) (nxt n (arcs es (2 ^ es.length - 1 - o))) i]) (by omega) (by simp; omega)
    have ih2 := strong_loop ho d (i + 1) acc (by omega) (by omega)
    have hL : lstB (nxt n (arcs es o)) (nxt n (arcs es (2 ^ es.length - 1 - o))) i = Nat.beq (blk (nxt n (arcs es o)) (nxt n (arcs es (2 ^ es.length - 1 - o))) i &&& (2 ^ i - 1)) 0 := rfl
    generalize hbk : blk (nxt n (arcs es o)) (nxt n (arcs es (2 ^ es.length - 1 - o))) i = B at hB hb32 ih1 hL
    have e2 : I acc ++ [((B : Nat) : Int)] = I (acc ++ [B]) := by simp [I]
    refine Ev.step (f := fun k => (spec_l3Block.f k n (mkE es) (o : Int) (i : Int)).bind fun t => (if (Go.bits .and .i64 t (((2 ^ i - 1 : Nat) : Int))) = 0 then (if (I acc).length < 17592186044416 then spec_StrongBlocks.l0 k (o : Int) (I acc ++ [t]) ((i + 1 : Nat) : Int) n (mkE es) else none) else spec_StrongBlocks.l0 k (o : Int) (I acc) ((i + 1 : Nat) : Int) n (mkE es))) (fun k => ?_) (Ev.bind hB ?_)
    · simp only [spec_StrongBlocks.l0]
      rw [if_pos (by omega), shl_one i (by omega), e3, e1]
      simp only [Int.natCast_nonneg, if_true]
    · simp only [and_nat B _ (lt62 hb32) (lt62 hq), if_pos hlen, e2]
      cases hl : lstB (nxt n (arcs es o)) (nxt n (arcs es (2 ^ es.length - 1 - o))) i with
      | true =>
        rw [hl] at hL
        have h0 := Nat.eq_of_beq_eq_true hL.symm
        have hz : ((B &&& (2 ^ i - 1) : Nat) : Int) = 0 := by rw [h0]; rfl
        simp only [if_pos hz]
        refine Ev.eq_ ih1 ?_
        rw [show sel (lstB (nxt n (arcs es o)) (nxt n (arcs es (2 ^ es.length - 1 - o)))) i (d + 1) = i :: sel (lstB (nxt n (arcs es o)) (nxt n (arcs es (2 ^ es.length - 1 - o)))) (i + 1) d by simp [sel, hl], List.map_cons, List.append_assoc, hbk]
        rfl
      | false =>
        rw [hl] at hL
        have hz : ¬ ((B &&& (2 ^ i - 1) : Nat) : Int) = 0 := by
          intro h
          have h0 : B &&& (2 ^ i - 1) = 0 := Int.ofNat.inj h
          rw [h0] at hL
          exact absurd hL (by decide)
        simp only [if_neg hz]
        refine Ev.eq_ ih2 ?_
        rw [show sel (lstB (nxt n (arcs es o)) (nxt n (arcs es (2 ^ es.length - 1 - o)))) i (d + 1) = sel (lstB (nxt n (arcs es o)) (nxt n (arcs es (2 ^ es.length - 1 - o)))) (i + 1) d by simp [sel, hl]]
theorem spec_StrongBlocks_ev {o : Nat} (ho : o < 2 ^ es.length) : Ev (fun k => spec_StrongBlocks.f k n (mkE es) o) (I (blocks n (nxt n (arcs es o)) (nxt n (arcs es (2 ^ es.length - 1 - o)))), true) := by
  unfold spec_StrongBlocks.f
  simp only [Option.bind_some]
  refine Ev.bind (spec_WayIn_yes hv ho) ?_
  simp only [if_true]
  exact strong_loop hv ho n 0 [] (Nat.zero_add _) (by simp)
end
end Go.Proofs.Ytfijegfjpagjoaa.Q
