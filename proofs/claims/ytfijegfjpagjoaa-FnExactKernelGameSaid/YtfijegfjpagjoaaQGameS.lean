/- The reference's KernelGame tells the same values. The graph is valid. -/
import Derived.Test.YtfijegfjpagjoaaQGameI
import Derived.Test.YtfijegfjpagjoaaQOrder
import Derived.Test.YtfijegfjpagjoaaG35
namespace Go.Proofs.Ytfijegfjpagjoaa.Q
open Go.RowKit Go.Proofs.Ytfijegfjpagjoaa.G Go.Proofs.YtfijegfjpagjoaaW.PrintWords Go.Proofs.YtfijegfjpagjoaaW.PrintLast Go.Proofs.YtfijegfjpagjoaaW.PrintMore
set_option linter.unusedVariables false
set_option linter.unusedSimpArgs false
set_option linter.unusedSectionVars false
/-- The values of the nodes to which edges lead. -/
def gmE (v : Nat) (vals : List Nat) : List (Nat × Nat) → Nat → Nat
  | [], m => m
  | e :: t, m => gmE v vals t (if e.1 = v then m ||| 2 ^ vals.getD e.2 0 else m)
theorem gmE_bit (v : Nat) (vals : List Nat) (g : Nat) : ∀ (t : List (Nat × Nat)) (m : Nat), (gmE v vals t m).testBit g = true ↔ m.testBit g = true ∨ ∃ e ∈ t, e.1 = v ∧ vals.getD e.2 0 = g
  | [], m => by simp [gmE]
  | e :: t, m => by
    simp only [gmE]
    rw [gmE_bit v vals g t]
    by_cases h : e.1 = v
    · rw [if_pos h, Nat.testBit_or, Nat.testBit_two_pow, Bool.or_eq_true, decide_eq_true_eq]
      constructor
      · rintro ((h1 | h1) | ⟨x, h1, h2⟩)
        · exact .inl h1
        · exact .inr ⟨e, List.mem_cons_self, h, h1⟩
        · exact .inr ⟨x, List.mem_cons_of_mem _ h1, h2⟩
      · rintro (h1 | ⟨x, h1, h2⟩)
        · exact .inl (.inl h1)
        · rw [List.mem_cons] at h1
          rcases h1 with rfl | h1
          · exact .inl (.inr h2.2)
          · exact .inr ⟨x, h1, h2⟩
    · rw [if_neg h]
      constructor
      · rintro (h1 | ⟨x, h1, h2⟩)
        · exact .inl h1
        · exact .inr ⟨x, List.mem_cons_of_mem _ h1, h2⟩
      · rintro (h1 | ⟨x, h1, h2⟩)
        · exact .inl h1
        · rw [List.mem_cons] at h1
          rcases h1 with rfl | h1
          · exact absurd h2.1 h
          · exact .inr ⟨x, h1, h2⟩
section
variable {n : Nat} {es : List (Nat × Nat)} (hv : Val n es)
include hv
theorem gm_same (o v : Nat) (vals : List Nat) (hl : vals.length = n) : gmE v vals (arcs es o) 0 = gmL ((nxt n (arcs es o)).getD v 0) vals 0 0 := by
  apply Nat.eq_of_testBit_eq
  intro g
  rw [Bool.eq_iff_iff, gmE_bit, gmL_bit]
  constructor
  · rintro (h | ⟨e, h1, h2, h3⟩)
    · exact .inl h
    · have hb := (arcs_mem hv.lt e h1).2.1
      refine .inr ⟨e.2, by rw [hl]; exact hb, ?_, h3⟩
      rw [Nat.zero_add, nxt_adj (fun e he => (arcs_mem hv.lt e he).1), adj_iff, ← h2]
      exact h1
  · rintro (h | ⟨j, h1, h2, h3⟩)
    · exact .inl h
    · rw [Nat.zero_add, nxt_adj (fun e he => (arcs_mem hv.lt e he).1), adj_iff] at h2
      exact .inr ⟨(v, j), h2, rfl, h3⟩
theorem gameS_l1 {o : Nat} (ho : o < 2 ^ es.length) (ord : List Nat) (p v : Nat) (hp : p < ord.length) (hpv : ord[p] = v) (vals : List Nat) (hvl : vals.length = n) (h30 : ∀ x ∈ vals, x < 30) (bb : Bool) (r : List Int × Bool) (M : Nat)
    (he : Ev (fun k => spec_KernelGame.l2 k (o : Int) (I ord) bb (I vals) (p : Int) (M : Int) 0 n (mkE es)) r) :
    ∀ (d i m : Nat), i + d = es.length → m < 2 ^ 62 → gmE v vals ((arcs es o).drop i) m = M → Ev (fun k => spec_KernelGame.l1 k (o : Int) (I ord) bb (I vals) (p : Int) (m : Int) (i : Int) n (mkE es)) r
  | 0, i, m, hi, hm, hM => by
    rw [List.drop_of_length_le (by rw [arcs_length]; exact Nat.le_of_eq hi.symm)] at hM
    have hM : m = M := hM
    subst hM
    refine Ev.step (fun k => ?_) he
    simp only [spec_KernelGame.l1]
    rw [if_neg (by rw [mkE_length, ← hi]; exact Int.lt_irrefl _)]
  | d + 1, i, m, hi, hm, hM => by
    have hie : i < es.length := by clear hm hM he; omega
    have hi1 : i + 1 + d = es.length := by clear hm hM he; omega
    have hi62 : i < 2 ^ 62 := by clear hM he hm; have := hv.len; omega
    have hia : i < (arcs es o).length := by rw [arcs_length]; exact hie
    have e1 : wrap64 ((i : Int) + 1) = ((i + 1 : Nat) : Int) := wrap_add _ hi62
    have hlen : (i : Int) < ((mkE es).length : Int) := by rw [mkE_length]; exact Int.ofNat_lt.2 hie
    have hends := spec_ends_eq hv ho i hie
    have hbd := (arcs_bd hv (o := o) i hie).2
    rw [List.drop_eq_getElem_cons hia] at hM
    simp only [gmE] at hM
    generalize (arcs es o)[i] = e at hends hbd hM
    have go : rd (I ord) (p : Int) = (v : Int) := by
      rw [rd_nat, List.getD_eq_getElem?_getD, List.getElem?_eq_getElem hp, Option.getD_some, hpv]
    have c1 : (p : Int) < ((I ord).length : Int) := by rw [I_length]; exact Int.ofNat_lt.2 hp
    have hev : e.2 < vals.length := by rw [hvl]; exact hbd
    have c2 : (e.2 : Int) < ((I vals).length : Int) := by rw [I_length]; exact Int.ofNat_lt.2 hev
    have gv : rd (I vals) (e.2 : Int) = ((vals.getD e.2 0 : Nat) : Int) := rd_nat _ _
    have hx : vals.getD e.2 0 < 30 := by
      rw [List.getD_eq_getElem?_getD, List.getElem?_eq_getElem hev]; exact h30 _ (List.getElem_mem hev)
    generalize vals.getD e.2 0 = x at gv hx hM
    have hx62 : 2 ^ x < 2 ^ 62 := Nat.pow_lt_pow_right (by decide) (Nat.lt_trans hx (by decide))
    have hx60 : x ≤ 60 := Nat.le_of_lt (Nat.lt_trans hx (by decide))
    by_cases h1 : e.1 = v
    · rw [if_pos h1] at hM
      refine Ev.step (fun k => ?_) (gameS_l1 ho ord p v hp hpv vals hvl h30 bb r M he d (i + 1) (m ||| 2 ^ x) hi1 (Nat.or_lt_two_pow hm hx62) hM)
      simp only [spec_KernelGame.l1]
      rw [if_pos hlen, hends, Option.bind_some]
      dsimp only
      rw [if_pos (Int.natCast_nonneg p), if_pos c1, go, if_pos (by rw [h1]), if_pos (Int.natCast_nonneg _), if_pos c2, gv, if_pos (Int.natCast_nonneg _), shl_one x hx60, or_nat m _ hm hx62, e1]
    · rw [if_neg h1] at hM
      refine Ev.step (fun k => ?_) (gameS_l1 ho ord p v hp hpv vals hvl h30 bb r M he d (i + 1) m hi1 hm hM)
      simp only [spec_KernelGame.l1]
      rw [if_pos hlen, hends, Option.bind_some]
      dsimp only
      rw [if_pos (Int.natCast_nonneg p), if_pos c1, go, if_neg (show ¬ ((e.1 : Nat) : Int) = (v : Int) from fun h => h1 (Int.ofNat.inj h)), e1]
omit hv in
theorem gameS_l2 (o : Nat) (ord : List Nat) (hord : ∀ v ∈ ord, v < n) (p v : Nat) (hp : p < ord.length) (hp5 : p < 5) (hpv : ord[p] = v) (mask : Nat) (hm62 : mask < 2 ^ 62) (vals : List Nat) (hvl : vals.length = n) (bb : Bool) (r : List Int × Bool) :
    ∀ f g : Nat, g + f = 20 → mask.testBit (mexF mask f g) = false → Ev (fun k => spec_KernelGame.l0 k (o : Int) (I ord) bb (I (vals.set v (mexF mask f g))) ((p : Int) - 1) n (mkE es)) r → Ev (fun k => spec_KernelGame.l2 k (o : Int) (I ord) bb (I vals) (p : Int) (mask : Int) (g : Int) n (mkE es)) r := by
  have hvn : v < n := hpv ▸ hord _ (List.getElem_mem hp)
  have go : rd (I ord) (p : Int) = (v : Int) := by
    rw [rd_nat, List.getD_eq_getElem?_getD, List.getElem?_eq_getElem hp, Option.getD_some, hpv]
  have c1 : (p : Int) < ((I ord).length : Int) := by rw [I_length]; exact Int.ofNat_lt.2 hp
  have c2 : (v : Int) < ((I vals).length : Int) := by rw [I_length, hvl]; exact Int.ofNat_lt.2 hvn
  have e2 : wrap64 ((p : Int) - 1) = (p : Int) - 1 := by clear hm62 go hpv hp c1 c2; unfold wrap64; omega
  have stop : ∀ g : Nat, g ≤ 20 → mask.testBit g = false → Ev (fun k => spec_KernelGame.l0 k (o : Int) (I ord) bb (I (vals.set v g)) ((p : Int) - 1) n (mkE es)) r → Ev (fun k => spec_KernelGame.l2 k (o : Int) (I ord) bb (I vals) (p : Int) (mask : Int) (g : Int) n (mkE es)) r := by
    intro g hg hb he
    refine Ev.step (fun k => ?_) he
    simp only [spec_KernelGame.l2]
    rw [if_pos (Int.natCast_nonneg g), bit_nat mask g hm62 (Nat.le_trans hg (by decide)), hb, if_neg (by decide), if_pos (Int.natCast_nonneg p), if_pos c1, go, if_pos (Int.natCast_nonneg v), if_pos c2, e2, set_nat]
  intro f
  induction f with
  | zero =>
    intro g hg hb he
    exact stop g (by clear hm62 go hpv hp c1 c2 hb he; omega) hb he
  | succ f ih =>
    intro g hg hb he
    have hg20 : g ≤ 20 := by clear hm62 go hpv hp c1 c2 hb he; omega
    have hgf : g + 1 + f = 20 := by clear hm62 go hpv hp c1 c2 hb he; omega
    cases hbit : mask.testBit g with
    | true =>
      have hmx : mexF mask (f + 1) g = mexF mask f (g + 1) := by simp only [mexF, hbit, if_true]
      rw [hmx] at he hb
      have e1 : wrap64 ((g : Int) + 1) = ((g + 1 : Nat) : Int) := wrap_add _ (Nat.lt_of_le_of_lt hg20 (by decide))
      refine Ev.step (fun k => ?_) (ih (g + 1) hgf hb he)
      simp only [spec_KernelGame.l2]
      rw [if_pos (Int.natCast_nonneg g), bit_nat mask g hm62 (Nat.le_trans hg20 (by decide)), hbit, if_pos (by decide), e1]
    | false =>
      have hmx : mexF mask (f + 1) g = g := by simp only [mexF, hbit, Bool.false_eq_true, if_false]
      rw [hmx] at he
      exact stop g hg20 hbit he
theorem gameS_l0 {o : Nat} (ho : o < 2 ^ es.length) (ord : List Nat) (hord : ∀ v ∈ ord, v < n) (hnd : ord.Nodup) (hlen : ord.length ≤ 5) : ∀ (m : Nat) (l1 l2 : List Nat), ord = l1 ++ l2 → l1.length = m → Ev (fun k => spec_KernelGame.l0 k (o : Int) (I ord) true (I (gvals (nxt n (arcs es o)) n l2)) ((m : Int) - 1) n (mkE es)) (I (gvals (nxt n (arcs es o)) n ord), true)
  | 0, l1, l2, he, hm => by
    have : l1 = [] := List.length_eq_zero_iff.1 hm
    subst this
    rw [List.nil_append] at he
    rw [he]
    refine Ev.step (f := fun _ => some (I (gvals (nxt n (arcs es o)) n l2), true)) (fun k => ?_) (Ev.now _)
    simp only [spec_KernelGame.l0]
    rw [if_neg (by decide)]
  | m + 1, l1, l2, he, hm => by
    obtain ⟨l0, v, rfl⟩ : ∃ l0 v, l1 = l0 ++ [v] := ⟨l1.dropLast, l1.getLast (fun h => by rw [h] at hm; simp at hm), (List.dropLast_concat_getLast _).symm⟩
    have hl0 : l0.length = m := by rw [List.length_append, List.length_singleton] at hm; omega
    have he2 : ord = l0 ++ v :: l2 := by rw [he, List.append_assoc]; rfl
    have ih := gameS_l0 ho ord hord hnd hlen m l0 (v :: l2) he2 hl0
    have hp : m < ord.length := by rw [he2, List.length_append, List.length_cons, hl0]; omega
    have hp5 : m < 5 := Nat.lt_of_lt_of_le hp hlen
    have hl2 : l2.length ≤ 10 := by
      have : ord.length = l0.length + (l2.length + 1) := by rw [he2, List.length_append, List.length_cons]
      omega
    have hpv : ord[m] = v := by
      have : ord[m]? = some v := by rw [he2, List.getElem?_append_right (by rw [hl0]; exact Nat.le_refl _), hl0, Nat.sub_self]; rfl
      rw [List.getElem?_eq_getElem hp] at this
      exact Option.some.inj this
    obtain ⟨hm62, hmb⟩ := gvals_mask (nxt n (arcs es o)) n l2 hl2 v
    have hgl := gvals_len (nxt n (arcs es o)) n l2
    have h30 : ∀ x ∈ gvals (nxt n (arcs es o)) n l2, x < 30 := fun x hx => Nat.lt_of_le_of_lt (gvals_le (nxt n (arcs es o)) n l2 hl2 x hx) (by omega)
    have h2 := gameS_l2 (es := es) o ord hord m v hp hp5 hpv (gmL ((nxt n (arcs es o)).getD v 0) (gvals (nxt n (arcs es o)) n l2) 0 0) hm62 (gvals (nxt n (arcs es o)) n l2) hgl true (I (gvals (nxt n (arcs es o)) n ord), true) 20 0 rfl hmb ih
    have h1 := gameS_l1 hv ho ord m v hp hpv (gvals (nxt n (arcs es o)) n l2) hgl h30 true (I (gvals (nxt n (arcs es o)) n ord), true) (gmL ((nxt n (arcs es o)).getD v 0) (gvals (nxt n (arcs es o)) n l2) 0 0) h2 es.length 0 0 (Nat.zero_add _) (by decide) (by rw [List.drop_zero]; exact gm_same hv o v _ hgl)
    have e0 : ((m + 1 : Nat) : Int) - 1 = (m : Int) := by clear hm62; omega
    rw [e0]
    refine Ev.step (fun k => ?_) h1
    simp only [spec_KernelGame.l0]
    rw [if_pos (Int.natCast_nonneg m)]
    rfl
theorem spec_KernelGame_ev {o : Nat} (ho : o < 2 ^ es.length) (hp : plainB n (arcs es o) = true) : Ev (fun k => spec_KernelGame.f k n (mkE es) o) (I (gvals (nxt n (arcs es o)) n (order n (arcs es o))), true) := by
  have h5 := hv.le
  obtain ⟨g1, g2, g3⟩ := game_order hv ho
  have hon : (order n (arcs es o)).length = n := Nat.eq_of_beq_eq_true hp
  unfold spec_KernelGame.f
  refine Ev.bind (spec_PlainOrder_ev hv ho hp) ?_
  have hn : (order n (arcs es o)).length ≤ 35184372088832 := by omega
  have e : wrap64 (((I (order n (arcs es o))).length : Int) - 1) = ((order n (arcs es o)).length : Int) - 1 := by rw [I_length]; exact wrap_int _ (by omega) (by omega)
  rw [e, I_length]
  simp only [Int.natCast_nonneg, if_true, Int.toNat_natCast, if_pos hn]
  have h := gameS_l0 hv ho (order n (arcs es o)) g1 g2 g3 (order n (arcs es o)).length (order n (arcs es o)) [] (by simp) rfl
  have hz : List.replicate (order n (arcs es o)).length (0 : Int) = I (gvals (nxt n (arcs es o)) n []) := by rw [hon]; exact I_zero n
  rw [hz]
  exact h
end
theorem specGame_end0 {a : Int} {l : List E} {o : Int} (h : Ev (fun k => spec_PlainOrder.f k a l o) ([], false)) : Ev (fun k => spec_KernelGame.f k a l o) ([], false) := by
  unfold spec_KernelGame.f
  refine Ev.bind h ?_
  simp only [List.length_nil, Int.ofNat_zero, Int.le_refl, if_true, Int.toNat_zero, Nat.zero_le, List.replicate_zero]
  refine Ev.step (f := fun _ => some ([], false)) (fun k => ?_) (Ev.now _)
  simp only [spec_KernelGame.l0]
  rw [if_neg (by decide +kernel)]
theorem spec_KernelGame_no {a : Int} {l : List E} {o : Int} (h : Ev (fun k => spec_WayIn.f k a l o) false) : Ev (fun k => spec_PlainOrder.f k a l o) ([], false) := by
  have hP : Ev (fun k => spec_PlainIn.f k a l o) false := by
    unfold spec_PlainIn.f
    refine Ev.bind h ?_
    simp only [Bool.false_eq_true, if_false]
    exact Ev.now _
  unfold spec_PlainOrder.f
  simp only [Option.bind_some]
  refine Ev.bind hP ?_
  simp only [Bool.false_eq_true, if_false]
  exact Ev.now _
end Go.Proofs.Ytfijegfjpagjoaa.Q
