/- Both PathAll count the simple paths that have all nodes. The numbers are of 64 bits. -/
import Derived.Test.YtfijegfjpagjoaaQPathsI
import Derived.Test.YtfijegfjpagjoaaQArcNd
import Derived.Test.YtfijegfjpagjoaaG7
import Derived.Test.YtfijegfjpagjoaaG4
namespace Go.Proofs.Ytfijegfjpagjoaa.Q
open Go.RowKit Go.Proofs.Ytfijegfjpagjoaa.G Go.Proofs.YtfijegfjpagjoaaW.PrintWords Go.Proofs.YtfijegfjpagjoaaW.PrintLast Go.Proofs.YtfijegfjpagjoaaW.PrintMore
set_option linter.unusedVariables false
set_option linter.unusedSimpArgs false
set_option linter.unusedSectionVars false
theorem all_fold (n : Nat) : ∀ (L : List (List Nat)) (acc : Nat), acc + L.countP (fun q => q.length == n) < 2 ^ 62 → L.foldl (fun st p => impl_PathAll.step (n : Int) st (I p)) (acc : Int) = ((acc + L.countP (fun q => q.length == n) : Nat) : Int)
  | [], acc, h => by simp
  | x :: t, acc, h => by
    rw [List.countP_cons] at h ⊢
    rw [List.foldl_cons]
    have hs : impl_PathAll.step (n : Int) (acc : Int) (I x) = ((acc + (if (x.length == n) = true then 1 else 0) : Nat) : Int) := by
      unfold impl_PathAll.step
      rw [I_length]
      by_cases e : x.length = n
      · rw [if_pos (by omega), if_pos (by simp [e]), wrap_add _ (by omega)]
      · rw [if_neg (fun h => e (by omega)), if_neg (by simp [e])]; rfl
    rw [hs, all_fold n t _ (by omega)]
    congr 1
    omega
theorem sum_le (g : Nat → Nat) (B : Nat) : ∀ (d i : Nat), (∀ v, g v ≤ B) → ((List.range' i d).map g).sum ≤ d * B
  | 0, i, h => by simp
  | d + 1, i, h => by
    rw [List.range'_succ, List.map_cons, List.sum_cons]
    have := sum_le g B d (i + 1) h
    have := h i
    rw [Nat.succ_mul]; omega
theorem fullF_le (s : List Nat) {n : Nat} (h5 : n ≤ 5) : ∀ f a m, fullF s n f a m ≤ 5 ^ f
  | 0, a, m => by simp [fullF]
  | f + 1, a, m => by
    have hp : 1 ≤ 5 ^ f := Nat.pow_pos (by decide)
    simp only [fullF]
    split
    · rw [Nat.pow_succ]; omega
    · refine Nat.le_trans (sum_le _ (5 ^ f) n 0 fun v => ?_) ?_
      · split
        · exact fullF_le s h5 f v _
        · exact Nat.zero_le _
      · rw [Nat.pow_succ, Nat.mul_comm]; exact Nat.mul_le_mul_left _ h5
theorem fullN_le (s : List Nat) {n : Nat} (h5 : n ≤ 5) : fullN s n ≤ 15625 := by
  have h := sum_le (fun v => fullF s n n v (2 ^ v)) (5 ^ n) n 0 (fun v => fullF_le s h5 n v _)
  have h2 : 5 ^ n ≤ 3125 := Nat.pow_le_pow_right (n := 5) (by decide) h5
  have h3 : n * 5 ^ n ≤ 5 * 3125 := Nat.mul_le_mul h5 h2
  exact Nat.le_trans h h3
theorem sum_single (c : Nat) (y : Nat) : ∀ (d i : Nat), i ≤ y → y < i + d → ((List.range' i d).map fun v => if v = y then c else 0).sum = c
  | 0, i, h1, h2 => absurd h2 (by omega)
  | d + 1, i, h1, h2 => by
    rw [List.range'_succ, List.map_cons, List.sum_cons]
    by_cases e : i = y
    · rw [if_pos e]
      have hz : ∀ (d j : Nat), y < j → ((List.range' j d).map fun v => if v = y then c else 0).sum = 0 := by
        intro d
        induction d with
        | zero => intro j _; rfl
        | succ d ih => intro j hj; rw [List.range'_succ, List.map_cons, List.sum_cons, if_neg (by omega), ih (j + 1) (by omega)]
      rw [hz d (i + 1) (by omega)]; omega
    · rw [if_neg e, sum_single c y d (i + 1) (by omega) (by omega)]; omega
theorem sum_add_ (f g : Nat → Nat) : ∀ l : List Nat, (l.map fun v => f v + g v).sum = (l.map f).sum + (l.map g).sum
  | [] => rfl
  | x :: t => by rw [List.map_cons, List.sum_cons, sum_add_ f g t, List.map_cons, List.sum_cons, List.map_cons, List.sum_cons]; omega
theorem sum_arcs {n : Nat} (a : Nat) (ok : Nat → Bool) (F : Nat → Nat) : ∀ ar : List (Nat × Nat), ar.Nodup → (∀ e ∈ ar, e.2 < n) → (ar.map fun e => if (e.1 == a && ok e.2) = true then F e.2 else 0).sum = ((List.range' 0 n).map fun v => if (adj ar a v && ok v) = true then F v else 0).sum
  | [], _, _ => by
    have hz : ∀ l : List Nat, (l.map fun v => if (adj [] a v && ok v) = true then F v else 0).sum = 0 := fun l => by induction l with
      | nil => rfl
      | cons x t ih => rw [List.map_cons, List.sum_cons, ih]; simp [adj]
    rw [hz]; rfl
  | e :: t, hnd, hlt => by
    rw [List.nodup_cons] at hnd
    have ih := sum_arcs a ok F t hnd.2 (fun x hx => hlt x (List.mem_cons_of_mem _ hx))
    rw [List.map_cons, List.sum_cons, ih]
    by_cases hc : (e.1 == a && ok e.2) = true
    · rw [if_pos hc]
      rw [Bool.and_eq_true, beq_iff_eq] at hc
      have hs : ∀ v ∈ List.range' 0 n, (if (adj (e :: t) a v && ok v) = true then F v else 0) = (if v = e.2 then F e.2 else 0) + (if (adj t a v && ok v) = true then F v else 0) := by
        intro v _
        by_cases hve : v = e.2
        · subst hve
          have h1 : adj (e :: t) a e.2 = true := (adj_iff _ _ _).2 (by rw [← hc.1]; exact List.mem_cons_self)
          have h2 : adj t a e.2 = false := by
            rw [Bool.eq_false_iff]; intro h
            exact hnd.1 (by rw [adj_iff, ← hc.1] at h; exact h)
          rw [h1, h2, hc.2]; simp
        · have h1 : adj (e :: t) a v = adj t a v := by
            rw [Bool.eq_iff_iff, adj_iff, adj_iff, List.mem_cons]
            constructor
            · rintro (h | h)
              · exact absurd (congrArg Prod.snd h) hve
              · exact h
            · exact .inr
          rw [h1, if_neg hve]; omega
      rw [List.map_congr_left hs, sum_add_, sum_single _ _ n 0 (Nat.zero_le _) (by have := hlt e List.mem_cons_self; omega)]
    · rw [if_neg hc]
      have hs : ∀ v ∈ List.range' 0 n, (if (adj (e :: t) a v && ok v) = true then F v else 0) = (if (adj t a v && ok v) = true then F v else 0) := by
        intro v _
        have h1 : (adj (e :: t) a v && ok v) = (adj t a v && ok v) := by
          rw [Bool.eq_iff_iff, Bool.and_eq_true, Bool.and_eq_true, adj_iff, adj_iff, List.mem_cons]
          constructor
          · rintro ⟨h | h, ho⟩
            · exfalso; apply hc; rw [← h]; simp [ho]
            · exact ⟨h, ho⟩
          · rintro ⟨h, ho⟩; exact ⟨.inr h, ho⟩
        rw [h1]
      rw [List.map_congr_left hs]; omega
theorem acc_ok (acc i q : Nat) (h : acc ≤ 4000 * i) (hq : q ≤ 3125) : acc + q ≤ 4000 * (i + 1) := by omega
theorem acc_wrap (acc i q : Nat) (hi : i ≤ 10) (h : acc ≤ 4000 * i) (hq : q ≤ 3125) : wrap64 ((acc : Int) + (q : Int)) = ((acc + q : Nat) : Int) := by unfold wrap64; omega
section
variable {n : Nat} {es : List (Nat × Nat)} (hv : Val n es)
include hv
theorem impl_PathAll_ev {o : Nat} (ho : o < 2 ^ es.length) : Ev (fun k => impl_PathAll.f k n (mkE es) o) (((fullN (nxt n (arcs es o)) n : Nat) : Int), true) := by
  have hle := fullN_le (nxt n (arcs es o)) hv.le
  unfold impl_PathAll.f
  refine Ev.bind (impl_WayIn_yes hv ho) ?_
  simp only [if_true]
  refine Ev.bind (impl_paths_ev hv (impl_PathAll.step (n : Int)) ho (0 : Int)) ?_
  have h := all_fold n (allP (nxt n (arcs es o)) n) 0 (by rw [allP_count hv.le]; omega)
  rw [allP_count hv.le, Nat.zero_add] at h
  rw [show ((0 : Int)) = ((0 : Nat) : Int) from rfl, h]
  exact Ev.now _
theorem l7Count_l0 {o : Nat} (ho : o < 2 ^ es.length) (a m : Nat) (hm : m < 32) (F : Nat → Nat) (hF : ∀ v, F v ≤ 3125)
    (hE : ∀ v, v < n → mayB (nxt n (arcs es o)) a m v = true → Ev (fun k => spec_l7Count.f k n (mkE es) (o : Int) (v : Int) ((m ||| 2 ^ v : Nat) : Int)) ((F v : Nat) : Int)) :
    ∀ (d i acc : Nat), i + d = es.length → acc ≤ 4000 * i → Ev (fun k => spec_l7Count.l0 k (o : Int) (a : Int) (m : Int) (acc : Int) (i : Int) n (mkE es)) ((acc + (((arcs es o).drop i).map fun e => if (e.1 == a && !m.testBit e.2) = true then F e.2 else 0).sum : Nat) : Int)
  | 0, i, acc, hi, hacc => by
    rw [List.drop_of_length_le (by rw [arcs_length]; exact Nat.le_of_eq hi.symm)]
    refine Ev.step (f := fun _ => some (acc : Int)) (fun k => ?_) (Ev.now _)
    simp only [spec_l7Count.l0]
    rw [if_neg (by rw [mkE_length, ← hi]; exact Int.lt_irrefl _)]
  | d + 1, i, acc, hi, hacc => by
    have hie : i < es.length := by omega
    have hi1 : i + 1 + d = es.length := by omega
    have hi10 : i ≤ 10 := by have := hv.len; omega
    have h5 := hv.le
    have hia : i < (arcs es o).length := by rw [arcs_length]; exact hie
    have e1 : wrap64 ((i : Int) + 1) = ((i + 1 : Nat) : Int) := wrap_add _ (by omega)
    have hacc0 : acc ≤ 4000 * (i + 1) := by omega
    rw [List.drop_eq_getElem_cons hia, List.map_cons, List.sum_cons]
    have hends := spec_ends_eq hv ho i hie
    have hbd := (arcs_bd hv (o := o) i hie).2
    have hadj : ((nxt n (arcs es o)).getD (arcs es o)[i].1 0).testBit (arcs es o)[i].2 = true := by
      rw [nxt_adj (fun e he => (arcs_mem hv.lt e he).1), adj_iff]; exact List.getElem_mem hia
    generalize (arcs es o)[i] = e at hends hbd hadj ⊢
    have he5 : e.2 < 5 := Nat.lt_of_lt_of_le hbd h5
    have hbit := bit_nat m e.2 (lt62 hm) (Nat.le_of_lt (Nat.lt_trans he5 (by decide)))
    have hlen : (i : Int) < ((mkE es).length : Int) := by rw [mkE_length]; exact Int.ofNat_lt.2 hie
    by_cases h1 : e.1 = a
    · cases hb : m.testBit e.2 with
      | true =>
        have ih' := l7Count_l0 ho a m hm F hF hE d (i + 1) acc hi1 hacc0
        rw [if_neg (by simp), Nat.zero_add]
        refine Ev.step (fun k => ?_) ih'
        simp only [spec_l7Count.l0]
        rw [if_pos hlen, hends, Option.bind_some]
        dsimp only
        rw [if_pos (by rw [h1]), if_pos (Int.natCast_nonneg _), hbit, hb, if_neg (by decide), e1]
      | false =>
        have hmay : mayB (nxt n (arcs es o)) a m e.2 = true := by unfold mayB; rw [← h1, hadj, hb]; rfl
        have hB := hF e.2
        have ih' := l7Count_l0 ho a m hm F hF hE d (i + 1) (acc + F e.2) hi1 (acc_ok acc i _ hacc hB)
        rw [if_pos (by simp [h1]), ← Nat.add_assoc]
        refine Ev.step (f := fun k => (spec_l7Count.f k n (mkE es) (o : Int) (e.2 : Int) ((m ||| 2 ^ e.2 : Nat) : Int)).bind fun t => spec_l7Count.l0 k (o : Int) (a : Int) (m : Int) (wrap64 ((acc : Int) + t)) ((i + 1 : Nat) : Int) n (mkE es)) (fun k => ?_) (Ev.bind (hE e.2 hbd hmay) ?_)
        · simp only [spec_l7Count.l0]
          rw [if_pos hlen, hends, Option.bind_some]
          dsimp only
          rw [if_pos (by rw [h1]), if_pos (Int.natCast_nonneg _), hbit, hb, if_pos (by decide), shl_one e.2 (Nat.le_of_lt (Nat.lt_trans he5 (by decide))), or_nat m (2 ^ e.2) (lt62 hm) (lt62 (two_lt_32 he5)), e1]
        · rw [acc_wrap acc i _ hi10 hacc hB]; exact ih'
    · have ih' := l7Count_l0 ho a m hm F hF hE d (i + 1) acc hi1 hacc0
      rw [if_neg (by simp [h1]), Nat.zero_add]
      refine Ev.step (fun k => ?_) ih'
      simp only [spec_l7Count.l0]
      rw [if_pos hlen, hends, Option.bind_some]
      dsimp only
      rw [if_neg (show ¬ ((e.1 : Nat) : Int) = (a : Int) from fun h => h1 (Int.ofNat.inj h)), e1]
omit hv in
theorem full_int (h5 : n ≤ 5) : wrap64 (shl .i64 1 (n : Int) - 1) = ((2 ^ n - 1 : Nat) : Int) := by
  have h1 := two_n h5
  have h2 := Nat.two_pow_pos n
  rw [shl_one _ (by omega)]
  generalize 2 ^ n = q at *
  unfold wrap64; omega
theorem l7Count_ev {o : Nat} (ho : o < 2 ^ es.length) : ∀ (f : Nat) (p : List Nat) (a m : Nat), Met (nxt n (arcs es o)) n p a m → n + 1 ≤ p.length + f → f ≤ n → Ev (fun k => spec_l7Count.f k n (mkE es) (o : Int) (a : Int) (m : Int)) ((fullF (nxt n (arcs es o)) n f a m : Nat) : Int)
  | 0, p, a, m, hM, hf, _ => by have := hM.le hv.le; omega
  | f + 1, p, a, m, hM, hf, hfn => by
    have h5 := hv.le
    have hf5 : f ≤ 5 := by omega
    have hfn' : f ≤ n := by omega
    have hf' : ∀ v : Nat, n + 1 ≤ (p ++ [v]).length + f := fun v => by rw [List.length_append, List.length_singleton]; omega
    have hm32 : m < 32 := Nat.lt_of_lt_of_le hM.lt (Nat.pow_le_pow_right (n := 2) (by decide) h5)
    have hF : ∀ v, fullF (nxt n (arcs es o)) n f v (m ||| 2 ^ v) ≤ 3125 := fun v => Nat.le_trans (fullF_le _ h5 f v _) (show 5 ^ f ≤ 5 ^ 5 from Nat.pow_le_pow_right (by decide) hf5)
    have h0 := l7Count_l0 hv ho a m hm32 (fun v => fullF (nxt n (arcs es o)) n f v (m ||| 2 ^ v)) hF (fun v hvn hmay => l7Count_ev ho f (p ++ [v]) v (m ||| 2 ^ v) (hM.snoc h5 hvn hmay) (hf' v) hfn') es.length 0 0 (Nat.zero_add _) (Nat.zero_le _)
    rw [List.drop_zero, Nat.zero_add, sum_arcs (n := n) a (fun v => !m.testBit v) (fun v => fullF (nxt n (arcs es o)) n f v (m ||| 2 ^ v)) (arcs es o) (arcs_ndP es o hv.srt (fun e he => (hv.lt e he).1)) (fun e he => (arcs_mem hv.lt e he).2.1)] at h0
    have hs : ∀ v ∈ List.range' 0 n, (if (adj (arcs es o) a v && !m.testBit v) = true then fullF (nxt n (arcs es o)) n f v (m ||| 2 ^ v) else 0) = (if mayB (nxt n (arcs es o)) a m v = true then fullF (nxt n (arcs es o)) n f v (m ||| 2 ^ v) else 0) := by
      intro v _
      unfold mayB
      rw [nxt_adj (fun e he => (arcs_mem hv.lt e he).1)]
    rw [List.map_congr_left hs] at h0
    have e0 := full_int (n := n) h5
    simp only [fullF]
    by_cases hfull : m = 2 ^ n - 1
    · rw [if_pos hfull]
      refine Ev.step (f := fun _ => some (1 : Int)) (fun k => ?_) (Ev.now _)
      simp only [spec_l7Count.f]
      rw [e0, if_pos (Int.natCast_nonneg n), if_pos (by rw [hfull])]
    · rw [if_neg hfull]
      refine Ev.step (fun k => ?_) h0
      simp only [spec_l7Count.f]
      rw [e0, if_pos (Int.natCast_nonneg n), if_neg (show ¬ ((m : Nat) : Int) = ((2 ^ n - 1 : Nat) : Int) from fun h => hfull (Int.ofNat.inj h))]
      rfl
theorem spec_PathAll_loop {o : Nat} (ho : o < 2 ^ es.length) : ∀ (d v acc : Nat), v + d = n → acc ≤ 4000 * v → Ev (fun k => spec_PathAll.l0 k (o : Int) (acc : Int) (v : Int) n (mkE es)) (((acc + ((List.range' v d).map fun v => fullF (nxt n (arcs es o)) n n v (2 ^ v)).sum : Nat) : Int), true)
  | 0, v, acc, hv', hacc => by
    refine Ev.step (f := fun _ => some ((acc : Int), true)) (fun k => ?_) (Ev.now _)
    simp only [spec_PathAll.l0]
    rw [if_neg (by omega)]
  | d + 1, v, acc, hv', hacc => by
    have h5 := hv.le
    have hvn : v < n := by omega
    have e1 : wrap64 ((v : Int) + 1) = ((v + 1 : Nat) : Int) := wrap_add _ (by omega)
    have hv1 : v + 1 + d = n := by omega
    have hv10 : v ≤ 10 := by omega
    have hv60 : v ≤ 60 := by omega
    have hmet : n + 1 ≤ [v].length + n := by simp; omega
    have hB : fullF (nxt n (arcs es o)) n n v (2 ^ v) ≤ 3125 := Nat.le_trans (fullF_le _ h5 n v _) (Nat.pow_le_pow_right (n := 5) (by decide) h5)
    have ih := spec_PathAll_loop ho d (v + 1) (acc + fullF (nxt n (arcs es o)) n n v (2 ^ v)) hv1 (acc_ok acc v _ hacc hB)
    rw [List.range'_succ, List.map_cons, List.sum_cons, ← Nat.add_assoc]
    refine Ev.step (f := fun k => (spec_l7Count.f k n (mkE es) (o : Int) (v : Int) ((2 ^ v : Nat) : Int)).bind fun t => spec_PathAll.l0 k (o : Int) (wrap64 ((acc : Int) + t)) ((v + 1 : Nat) : Int) n (mkE es)) (fun k => ?_) (Ev.bind (l7Count_ev hv ho n [v] v (2 ^ v) (Met.one _ h5 hvn) hmet (Nat.le_refl _)) ?_)
    · simp only [spec_PathAll.l0]
      rw [if_pos (Int.ofNat_lt.2 hvn), if_pos (Int.natCast_nonneg v), shl_one v hv60, e1]
    · rw [acc_wrap acc v _ hv10 hacc hB]; exact ih
theorem spec_PathAll_ev {o : Nat} (ho : o < 2 ^ es.length) : Ev (fun k => spec_PathAll.f k n (mkE es) o) (((fullN (nxt n (arcs es o)) n : Nat) : Int), true) := by
  unfold spec_PathAll.f
  refine Ev.bind (spec_WayIn_yes hv ho) ?_
  simp only [if_true]
  have h := spec_PathAll_loop hv ho n 0 0 (by omega) (by omega)
  rw [Nat.zero_add] at h
  exact h
end
theorem impl_PathAll_no {a : Int} {l : List E} {o : Int} (h : Ev (fun k => impl_WayIn.f k a l o) false) : Ev (fun k => impl_PathAll.f k a l o) (0, false) := by
  unfold impl_PathAll.f
  refine Ev.bind h ?_
  simp only [Bool.false_eq_true, if_false]
  exact Ev.now _
theorem spec_PathAll_no {a : Int} {l : List E} {o : Int} (h : Ev (fun k => spec_WayIn.f k a l o) false) : Ev (fun k => spec_PathAll.f k a l o) (0, false) := by
  unfold spec_PathAll.f
  refine Ev.bind h ?_
  simp only [Bool.false_eq_true, if_false]
  exact Ev.now _
theorem PathAll_both {a : Int} (ha : InR a) {l : List E} (hl : WfE l) (o : Int) : ∃ r, Ev (fun k => impl_PathAll.f k a l o) r ∧ Ev (fun k => spec_PathAll.f k a l o) r := by
  rcases way_split ha hl o with ⟨n, es, o', rfl, rfl, rfl, hv, ho⟩ | ⟨h1, h2⟩
  · exact ⟨_, impl_PathAll_ev hv ho, spec_PathAll_ev hv ho⟩
  · exact ⟨(0, false), impl_PathAll_no h1, spec_PathAll_no h2⟩
end Go.Proofs.Ytfijegfjpagjoaa.Q
