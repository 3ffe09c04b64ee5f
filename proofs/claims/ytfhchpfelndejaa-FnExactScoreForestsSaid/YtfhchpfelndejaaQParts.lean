/- How many parts the chosen edges of a valid graph leave: partsBy and l1Parts tell the same, by a check of all lists of edges. The graph is valid. -/
import Derived.Test.YtfhchpfelndejaaQAll
import Derived.Test.YtfhchpfelndejaaG22
import Derived.Test.YtfhchpfelndejaaG18
import Derived.Test.YtfhchpfelndejaaG24
namespace Go.Proofs.Ytfhchpfelndejaa.Q
open Go.RowKit Go.Proofs.Ytfhchpfelndejaa.G Go.Proofs.YtfhchpfelndejaaW.PrintWords Go.Proofs.YtfhchpfelndejaaW.PrintLast Go.Proofs.YtfhchpfelndejaaW.PrintMore
set_option linter.unusedVariables false
set_option linter.unusedSimpArgs false
/-- The chosen edges. -/
def pick : List (Nat × Nat) → Nat → List (Nat × Nat)
  | [], _ => []
  | e :: t, x => if x % 2 = 1 then e :: pick t (x / 2) else pick t (x / 2)
theorem pick_sub : ∀ (es : List (Nat × Nat)) (x : Nat), (pick es x).Sublist es
  | [], _ => List.Sublist.refl _
  | e :: t, x => by
    simp only [pick]; split
    · exact (pick_sub t _).cons_cons e
    · exact (pick_sub t _).cons e
theorem pick_shift : ∀ (es : List (Nat × Nat)) (x i : Nat) (hi : i < es.length), pick (es.drop i) (x >>> i) = if x.testBit i then es[i] :: pick (es.drop (i + 1)) (x >>> (i + 1)) else pick (es.drop (i + 1)) (x >>> (i + 1)) := by
  intro es x i hi
  rw [List.drop_eq_getElem_cons hi]
  simp only [pick]
  have h1 : x >>> (i + 1) = x >>> i / 2 := by rw [Nat.shiftRight_succ]
  rw [h1]
  have h2 : ((x >>> i) % 2 = 1) = (x.testBit i = true) := by
    rw [Nat.testBit_eq_decide_div_mod_eq, decide_eq_true_eq, Nat.shiftRight_eq_div_pow]
  simp only [h2]
theorem Val.part {n : Nat} {es l : List (Nat × Nat)} (h : Val n es) (hl : l.Sublist es) : Val n l :=
  ⟨h.pos, h.le, fun e he => h.lt e (hl.subset he), h.srt.sublist hl⟩
/-! ### reachOf -/
/-- One round: to a set, what is reached by one edge; from the node i on, d nodes. -/
def pass (s : List Nat) (f : Nat) : Nat → Nat → Nat → Nat
  | 0, _, r => r
  | d + 1, i, r => pass s f d (i + 1) (cond (Nat.testBit f i) (r ||| s.getD i 0) r)
def reachN (s : List Nat) : Nat → Nat → Option Nat
  | 0, _ => none
  | k + 1, f => if pass s f s.length 0 f = f then some f else reachN s k (pass s f s.length 0 f)
theorem pass_lt {n : Nat} {s : List Nat} (hs : Sets n s) (f : Nat) : ∀ d i r, r < 32 → pass s f d i r < 32
  | 0, _, r, h => h
  | d + 1, i, r, h => by
    simp only [pass]
    refine pass_lt hs f d _ _ ?_
    cases f.testBit i
    · exact h
    · exact or_lt_32 h (hs.getD _)
theorem reach_l1 {n : Nat} (h5 : n ≤ 5) {s : List Nat} (hs : Sets n s) {f : Nat} (hf : f < 32) (r : Int) (k0 : Nat) (he : Ev (fun k => if ((pass s f s.length 0 f : Nat) : Int) = (f : Int) then some (f : Int) else impl_reachOf.l0 k (I s) ((pass s f s.length 0 f : Nat) : Int)) r) :
    ∀ (d i y : Nat), i + d = n → y < 32 → pass s f d i y = pass s f s.length 0 f → Ev (fun k => impl_reachOf.l1 k (I s) (f : Int) (y : Int) (I s) ((I s).length : Int) (i : Int)) r
  | 0, i, y, h, hy, hp => by
    refine Ev.step (fun k => ?_) he
    simp only [impl_reachOf.l1]
    rw [if_neg (by rw [I_length, hs.1]; omega), ← hp]
    rfl
  | d + 1, i, y, h, hy, hp => by
    have h1 := hs.1
    have hi : i < n := by omega
    simp only [pass] at hp
    have hd := hs.getD i
    have e1 : wrap64 ((i : Int) + 1) = ((i + 1 : Nat) : Int) := wrap_add _ (lt62 (by omega))
    cases hb : f.testBit i with
    | false =>
      rw [hb] at hp
      refine Ev.step (fun k => ?_) (reach_l1 h5 hs hf r k0 he d (i + 1) y (by omega) hy hp)
      simp only [impl_reachOf.l1]
      rw [if_pos (by rw [I_length, h1]; omega), if_pos (Int.natCast_nonneg i), if_pos (by rw [I_length, h1]; omega), bit_nat f i (lt62 hf) (by omega), hb, if_neg (by decide), e1]
    | true =>
      rw [hb] at hp
      refine Ev.step (fun k => ?_) (reach_l1 h5 hs hf r k0 he d (i + 1) (y ||| s.getD i 0) (by omega) (or_lt_32 hy hd) hp)
      simp only [impl_reachOf.l1]
      rw [if_pos (by rw [I_length, h1]; omega), if_pos (Int.natCast_nonneg i), if_pos (by rw [I_length, h1]; omega), bit_nat f i (lt62 hf) (by omega), hb, if_pos (by decide), rd_nat, or_nat _ _ (lt62 hy) (lt62 hd), e1]
theorem reach_l0 {n : Nat} (h5 : n ≤ 5) {s : List Nat} (hs : Sets n s) : ∀ (q f r : Nat), f < 32 → reachN s q f = some r → Ev (fun k => impl_reachOf.l0 k (I s) (f : Int)) (r : Int)
  | 0, f, r, hf, h => by simp [reachN] at h
  | q + 1, f, r, hf, h => by
    simp only [reachN] at h
    refine Ev.step (fun k => by simp only [impl_reachOf.l0]; rfl) (reach_l1 h5 hs hf (r : Int) 0 ?_ n 0 f (by omega) hf (by rw [hs.1]))
    by_cases he : pass s f s.length 0 f = f
    · rw [if_pos he] at h
      have : f = r := Option.some.inj h
      subst this
      simp only [he, if_true]
      exact Ev.now _
    · rw [if_neg he] at h
      have : ¬ ((pass s f s.length 0 f : Nat) : Int) = (f : Int) := fun e => he (Int.ofNat.inj e)
      simp only [this, if_false]
      exact reach_l0 h5 hs q _ r (pass_lt hs f _ _ _ hf) h
theorem reachN_lt {n : Nat} {s : List Nat} (hs : Sets n s) : ∀ (q f r : Nat), f < 32 → reachN s q f = some r → r < 32
  | 0, f, r, hf, h => by simp [reachN] at h
  | q + 1, f, r, hf, h => by
    simp only [reachN] at h
    split at h
    · rw [← Option.some.inj h]; exact hf
    · exact reachN_lt hs q _ r (pass_lt hs f _ _ _ hf) h
theorem impl_reachOf_ev {n : Nat} (h5 : n ≤ 5) {s : List Nat} (hs : Sets n s) (q v r : Nat) (hv : v < n) (h : reachN s q (2 ^ v) = some r) : Ev (fun k => impl_reachOf.f k (I s) (v : Int)) (r : Int) := by
  unfold impl_reachOf.f
  simp only [if_pos (Int.natCast_nonneg v), shl_one v (by omega)]
  exact reach_l0 h5 hs q _ r (two_lt_32 (by omega)) h
/-! ### partsBy -/
def linkStep (s : List Nat) (e : Nat × Nat) : List Nat := nxtStep (nxtStep s e) (e.2, e.1)
def link (n : Nat) (l : List (Nat × Nat)) : List Nat := l.foldl linkStep (List.replicate n 0)
def partsN (s : List Nat) : Nat → Nat → Nat → Nat → Option Nat
  | 0, _, c, _ => some c
  | d + 1, i, c, m => if Nat.testBit m i then partsN s d (i + 1) c m else (reachN s 6 (2 ^ i)).bind fun r => partsN s d (i + 1) (c + 1) (m ||| r)
theorem parts_l1 {n : Nat} (h5 : n ≤ 5) {s : List Nat} (hs : Sets n s) (r : Nat) (x : Int) : ∀ (d i c m : Nat), i + d = n → c ≤ i → m < 32 → partsN s d i c m = some r → Ev (fun k => impl_partsBy.l1 k (I s) (c : Int) (m : Int) ((I s).length : Int) (i : Int)) (r : Int)
  | 0, i, c, m, h, hc, hm, hr => by
    refine Ev.step (f := fun _ => some (c : Int)) (fun k => ?_) (Ev.eq_ (Ev.now _) (by rw [← Option.some.inj (show some c = some r from hr)]))
    simp only [impl_partsBy.l1]
    rw [if_neg (by rw [I_length, hs.1]; omega)]
  | d + 1, i, c, m, h, hc, hm, hr => by
    have h1 := hs.1
    have e1 : wrap64 ((i : Int) + 1) = ((i + 1 : Nat) : Int) := wrap_add _ (lt62 (by omega))
    have e2 : wrap64 ((c : Int) + 1) = ((c + 1 : Nat) : Int) := wrap_add _ (lt62 (by omega))
    simp only [partsN] at hr
    cases hb : m.testBit i with
    | true =>
      rw [hb, if_pos rfl] at hr
      refine Ev.step (fun k => ?_) (parts_l1 h5 hs r x d (i + 1) c m (by omega) (by omega) hm hr)
      simp only [impl_partsBy.l1]
      rw [if_pos (by rw [I_length, h1]; omega), if_pos (Int.natCast_nonneg i), bit_nat m i (lt62 hm) (by omega), hb, if_neg (by decide), e1]
    | false =>
      rw [hb, if_neg (by decide)] at hr
      obtain ⟨q, hq, hr⟩ := Option.bind_eq_some_iff.mp hr
      have hq32 := reachN_lt hs _ _ _ (two_lt_32 (by omega)) hq
      refine Ev.step (f := fun k => (impl_reachOf.f k (I s) (i : Int)).bind fun t => impl_partsBy.l1 k (I s) ((c + 1 : Nat) : Int) (Go.bits .or .i64 (m : Int) t) ((I s).length : Int) ((i + 1 : Nat) : Int)) (fun k => ?_) (Ev.bind (impl_reachOf_ev h5 hs 6 i q (by omega) hq) ?_)
      · simp only [impl_partsBy.l1]
        rw [if_pos (by rw [I_length, h1]; omega), if_pos (Int.natCast_nonneg i), bit_nat m i (lt62 hm) (by omega), hb, if_pos (by decide), e1, e2]
      · simp only [or_nat m q (lt62 hm) (lt62 hq32)]
        exact parts_l1 h5 hs r x d (i + 1) (c + 1) (m ||| q) (by omega) (by omega) (or_lt_32 hm hq32) hr
theorem Sets.link {n : Nat} {s : List Nat} (h : Sets n s) (e : Nat × Nat) (h1 : e.1 < 5) (h2 : e.2 < 5) : Sets n (linkStep s e) := (h.step e h2).step _ h1
theorem parts_l0 {n : Nat} {es : List (Nat × Nat)} (hv : Val n es) {x : Nat} (hx : x < 2 ^ es.length) (r : Int) (he : Ev (fun k => impl_partsBy.l1 k (I (link n (pick es x))) 0 0 ((I (link n (pick es x))).length : Int) 0) r) :
    ∀ (d i : Nat) (s : List Nat), i + d = es.length → Sets n s → (pick (es.drop i) (x >>> i)).foldl linkStep s = link n (pick es x) → Ev (fun k => impl_partsBy.l0 k (x : Int) (I s) (mkE es) ((mkE es).length : Int) (i : Int)) r
  | 0, i, s, h, hs, hp => by
    rw [List.drop_of_length_le (by omega)] at hp
    have hp : s = link n (pick es x) := hp
    subst hp
    refine Ev.step (fun k => ?_) he
    simp only [impl_partsBy.l0]
    rw [if_neg (by rw [mkE_length]; omega)]
  | d + 1, i, s, h, hs, hp => by
    have hi : i < es.length := by omega
    have hl := hv.len
    have h5 := hv.le
    have h2 := hv.two
    have e1 : wrap64 ((i : Int) + 1) = ((i + 1 : Nat) : Int) := wrap_add _ (lt62 (by omega))
    have hb := hv.lt _ (List.getElem_mem hi)
    have hx62 : x < 2 ^ 62 := by omega
    clear h2
    rw [pick_shift es x i hi] at hp
    have hg := rdE_mk (es := es) i hi
    generalize es[i] = e at hp hb hg
    cases hbit : x.testBit i with
    | false =>
      rw [hbit, if_neg (by decide)] at hp
      refine Ev.step (fun k => ?_) (parts_l0 hv hx r he d (i + 1) s (by omega) hs hp)
      simp only [impl_partsBy.l0]
      rw [if_pos (by rw [mkE_length]; omega), if_pos (Int.natCast_nonneg i), if_pos (by rw [mkE_length]; omega), bit_nat x i hx62 (by omega), hbit, if_neg (by decide), e1]
    | true =>
      rw [hbit, if_pos rfl] at hp
      have hs1 := hs.step e (by omega)
      refine Ev.step (fun k => ?_) (parts_l0 hv hx r he d (i + 1) (linkStep s e) (by omega) (hs.link e (by omega) (by omega)) hp)
      simp only [impl_partsBy.l0]
      rw [if_pos (by rw [mkE_length]; omega), if_pos (Int.natCast_nonneg i), if_pos (by rw [mkE_length]; omega), bit_nat x i hx62 (by omega), hbit, if_pos (by decide), hg]
      simp only
      rw [if_pos (Int.natCast_nonneg _), if_pos (by rw [I_length, hs.1]; omega), if_pos (Int.natCast_nonneg _), rd_nat, shl_one _ (by omega), or_nat _ _ (lt62 (hs.getD _)) (lt62 (two_lt_32 (by omega))), set_nat]
      simp only [Option.bind_some]
      rw [if_pos (by rw [I_length, hs.1]; omega)]
      have hrd : rd (List.map (fun x : Nat => (x : Int)) (s.set e.1 (s.getD e.1 0 ||| 2 ^ e.2))) (e.2 : Int) = (((nxtStep s e).getD e.2 0 : Nat) : Int) := rd_nat _ _
      rw [hrd, shl_one e.1 (by omega), or_nat _ _ (lt62 (hs1.getD _)) (lt62 (two_lt_32 (by omega))), set_nat, e1]
      rfl
theorem link_sets {n : Nat} : ∀ (l : List (Nat × Nat)) {s : List Nat}, Sets n s → (∀ e ∈ l, e.1 < 5 ∧ e.2 < 5) → Sets n (l.foldl linkStep s)
  | [], _, h, _ => h
  | e :: t, _, h, he => link_sets t (h.link e (he e List.mem_cons_self).1 (he e List.mem_cons_self).2) (fun x hx => he x (List.mem_cons_of_mem _ hx))
theorem impl_partsBy_ev' {n : Nat} {es : List (Nat × Nat)} (hv : Val n es) {x : Nat} (hx : x < 2 ^ es.length) (r : Nat) (hr : partsN (link n (pick es x)) n 0 0 0 = some r) : Ev (fun k => impl_partsBy.f k n (mkE es) x) (r : Int) := by
  have h5 := hv.le
  unfold impl_partsBy.f
  have hs : Sets n (link n (pick es x)) := link_sets _ (Sets.zero n) fun e he => by have := hv.lt e ((pick_sub es x).subset he); omega
  have h := parts_l0 hv hx (r : Int) (parts_l1 h5 hs r 0 n 0 0 0 (by omega) (by omega) (by omega) hr) es.length 0 (List.replicate n 0) (by omega) (Sets.zero n) (by simp only [List.drop_zero, Nat.shiftRight_zero]; rfl)
  refine Ev.congr (fun k => ?_) h
  rw [if_pos (by omega), if_pos (by omega)]
  simp [I]
/-! ### l1Parts -/
/-- All labels b become a. -/
def relab (s : List Nat) (a b : Nat) : List Nat := s.map fun y => if y = b then a else y
def labN : List (Nat × Nat) → List Nat → Nat → Option Nat
  | [], _, c => some c
  | e :: t, s, c => if s.getD e.1 0 = s.getD e.2 0 then labN t s c else if c = 0 then none else labN t (relab s (s.getD e.1 0) (s.getD e.2 0)) (c - 1)
def joinN (n : Nat) (l : List (Nat × Nat)) : Option Nat := labN l (List.range n) n
theorem spec_parts_l2 {n : Nat} (h5 : n ≤ 5) (r : Int) (x : Int) (es : List E) (s : List Nat) (hs : s.length = n) (a b c i : Nat) (he : Ev (fun k => spec_l1Parts.l1 k x (I (relab s a b)) (c : Int) (wrap64 ((i : Int) + 1)) (n : Int) es) r) :
    ∀ (d j : Nat) (s' : List Nat), j + d = n → s'.length = n → (∀ v, v < j → s'.getD v 0 = (relab s a b).getD v 0) → (∀ v, j ≤ v → s'.getD v 0 = s.getD v 0) →
      Ev (fun k => spec_l1Parts.l2 k x (I s') (c : Int) (i : Int) (a : Int) (b : Int) (j : Int) (n : Int) es) r
  | 0, j, s', h, hl, h1, h2 => by
    have e : s' = relab s a b := by
      refine List.ext_getElem (by simp [relab, hl, hs]) fun v hv1 hv2 => ?_
      have := h1 v (by omega)
      rw [List.getD_eq_getElem?_getD, List.getElem?_eq_getElem hv1, List.getD_eq_getElem?_getD, List.getElem?_eq_getElem hv2] at this
      exact this
    subst e
    refine Ev.step (fun k => ?_) he
    simp only [spec_l1Parts.l2]
    rw [if_neg (by omega)]
  | d + 1, j, s', h, hl, h1, h2 => by
    have e1 : wrap64 ((j : Int) + 1) = ((j + 1 : Nat) : Int) := wrap_add _ (lt62 (by omega))
    have hj := h2 j (Nat.le_refl _)
    have hrel : (relab s a b).getD j 0 = if s.getD j 0 = b then a else s.getD j 0 := by
      simp only [relab, List.getD_eq_getElem?_getD, List.getElem?_map]
      rw [List.getElem?_eq_getElem (by omega)]
      rfl
    by_cases hb : s.getD j 0 = b
    · rw [if_pos hb] at hrel
      refine Ev.step (fun k => ?_) (spec_parts_l2 h5 r x es s hs a b c i he d (j + 1) (s'.set j a) (by omega) (by simp [hl]) (fun v hv => ?_) (fun v hv => ?_))
      · simp only [spec_l1Parts.l2]
        rw [if_pos (by omega), if_pos (Int.natCast_nonneg j), if_pos (by rw [I_length]; omega), rd_nat, hj, if_pos (by rw [hb]), set_nat, e1]
      · by_cases hvj : v = j
        · subst hvj
          rw [hrel, List.getD_eq_getElem?_getD, List.getElem?_set_self (by omega)]; rfl
        · rw [← h1 v (by omega), List.getD_eq_getElem?_getD, List.getElem?_set_ne (by omega), ← List.getD_eq_getElem?_getD]
      · rw [← h2 v (by omega), List.getD_eq_getElem?_getD, List.getElem?_set_ne (by omega), ← List.getD_eq_getElem?_getD]
    · rw [if_neg hb] at hrel
      refine Ev.step (fun k => ?_) (spec_parts_l2 h5 r x es s hs a b c i he d (j + 1) s' (by omega) hl (fun v hv => ?_) (fun v hv => h2 v (by omega)))
      · simp only [spec_l1Parts.l2]
        rw [if_pos (by omega), if_pos (Int.natCast_nonneg j), if_pos (by rw [I_length]; omega), rd_nat, hj, if_neg (by omega), e1]
      · by_cases hvj : v = j
        · subst hvj; rw [hrel, hj]
        · exact h1 v (by omega)
theorem relab_len (s : List Nat) (a b : Nat) : (relab s a b).length = s.length := by simp [relab]
theorem spec_parts_l1 {n : Nat} {es : List (Nat × Nat)} (hv : Val n es) {x : Nat} (hx : x < 2 ^ 62) (r : Nat) : ∀ (d i c : Nat) (s : List Nat), i + d = es.length → s.length = n → c ≤ n → labN (pick (es.drop i) (x >>> i)) s c = some r → Ev (fun k => spec_l1Parts.l1 k (x : Int) (I s) (c : Int) (i : Int) (n : Int) (mkE es)) (r : Int)
  | 0, i, c, s, h, hs, hc, hr => by
    rw [List.drop_of_length_le (by omega)] at hr
    refine Ev.step (f := fun _ => some (c : Int)) (fun k => ?_) (Ev.eq_ (Ev.now _) (by rw [← Option.some.inj (show some c = some r from hr)]))
    simp only [spec_l1Parts.l1]
    rw [if_neg (by rw [mkE_length]; omega)]
  | d + 1, i, c, s, h, hs, hc, hr => by
    have hi : i < es.length := by omega
    have hl := hv.len
    have h5 := hv.le
    have hb := hv.lt _ (List.getElem_mem hi)
    have e1 : wrap64 ((i : Int) + 1) = ((i + 1 : Nat) : Int) := wrap_add _ (lt62 (by omega))
    rw [pick_shift es x i hi] at hr
    have hg := rdE_mk (es := es) i hi
    generalize es[i] = e at hr hb hg
    have he1 : rd (I s) (e.1 : Int) = ((s.getD e.1 0 : Nat) : Int) := rd_nat _ _
    have he2 : rd (I s) (e.2 : Int) = ((s.getD e.2 0 : Nat) : Int) := rd_nat _ _
    have pre : ∀ k, spec_l1Parts.l1 (k + 1) (x : Int) (I s) (c : Int) (i : Int) (n : Int) (mkE es) = if (((x.testBit i).toNat : Nat) : Int) = 0 then spec_l1Parts.j2 k (x : Int) (I s) (c : Int) (i : Int) ((s.getD e.1 0 : Nat) : Int) ((s.getD e.2 0 : Nat) : Int) true (n : Int) (mkE es) else spec_l1Parts.j2 k (x : Int) (I s) (c : Int) (i : Int) ((s.getD e.1 0 : Nat) : Int) ((s.getD e.2 0 : Nat) : Int) (((s.getD e.1 0 : Nat) : Int) == ((s.getD e.2 0 : Nat) : Int)) (n : Int) (mkE es) := by
      intro k
      simp only [spec_l1Parts.l1]
      rw [if_pos (by rw [mkE_length]; omega), if_pos (Int.natCast_nonneg i), hg]
      simp only
      rw [if_pos (Int.natCast_nonneg _), if_pos (by rw [I_length, hs]; omega), if_pos (Int.natCast_nonneg _), if_pos (by rw [I_length, hs]; omega), bit_nat x i hx (by omega), he1, he2]
    have goon : Ev (fun k => spec_l1Parts.l1 k (x : Int) (I s) (c : Int) (i : Int) (n : Int) (mkE es)) (r : Int) ↔ Ev (fun k => spec_l1Parts.l1 (k + 1) (x : Int) (I s) (c : Int) (i : Int) (n : Int) (mkE es)) (r : Int) := ⟨fun h => h.imp fun a h k hk => h _ (by omega), fun h => by
      obtain ⟨a, h⟩ := h
      exact ⟨a + 1, fun k hk => by obtain ⟨q, rfl⟩ := Nat.exists_eq_add_of_le hk; have := h (a + q) (by omega); rw [show a + 1 + q = a + q + 1 by omega]; exact this⟩⟩
    rw [goon]
    simp only [pre]
    cases hbit : x.testBit i with
    | false =>
      rw [hbit, if_neg (by decide)] at hr
      have ih := spec_parts_l1 hv hx r d (i + 1) c s (by omega) hs hc hr
      simp only [Bool.toNat_false, Int.natCast_zero, if_true]
      refine Ev.step (fun k => ?_) ih
      simp only [spec_l1Parts.j2, if_true, e1]
    | true =>
      rw [hbit, if_pos rfl] at hr
      simp only [Bool.toNat_true, Int.natCast_one, Int.one_ne_zero, if_false]
      simp only [labN] at hr
      by_cases hab : s.getD e.1 0 = s.getD e.2 0
      · rw [if_pos hab] at hr
        have ih := spec_parts_l1 hv hx r d (i + 1) c s (by omega) hs hc hr
        refine Ev.step (fun k => ?_) ih
        simp only [hab, BEq.rfl, spec_l1Parts.j2, if_true, e1]
      · rw [if_neg hab] at hr
        by_cases hc0 : c = 0
        · rw [if_pos hc0] at hr; exact absurd hr (by simp)
        · rw [if_neg hc0] at hr
          have ih := spec_parts_l1 hv hx r d (i + 1) (c - 1) (relab s (s.getD e.1 0) (s.getD e.2 0)) (by omega) (by rw [relab_len, hs]) (by omega) hr
          have ec : wrap64 ((c : Int) - 1) = ((c - 1 : Nat) : Int) := by unfold wrap64; omega
          have hne : (((s.getD e.1 0 : Nat) : Int) == ((s.getD e.2 0 : Nat) : Int)) = false := by
            rw [beq_eq_false_iff_ne]; exact fun h => hab (Int.ofNat.inj h)
          refine Ev.step (fun k => ?_) (spec_parts_l2 h5 (r : Int) (x : Int) (mkE es) s hs (s.getD e.1 0) (s.getD e.2 0) (c - 1) i (by rw [e1]; exact ih) n 0 s (by omega) hs (fun v hv => absurd hv (by omega)) (fun v _ => rfl))
          simp only [hne, spec_l1Parts.j2, Bool.false_eq_true, if_false, ec]
          rfl
theorem spec_parts_l0 {n : Nat} (h5 : n ≤ 5) (x : Int) (es : List E) (r : Int) (he : Ev (fun k => spec_l1Parts.l1 k x (I (List.range n)) (n : Int) 0 (n : Int) es) r) : ∀ (d i : Nat), i + d = n → Ev (fun k => spec_l1Parts.l0 k x (I (List.range i)) (i : Int) (n : Int) es) r
  | 0, i, h => by
    have : i = n := by omega
    subst this
    refine Ev.step (fun k => ?_) he
    simp only [spec_l1Parts.l0]
    rw [if_neg (by omega)]
  | d + 1, i, h => by
    have e1 : wrap64 ((i : Int) + 1) = ((i + 1 : Nat) : Int) := wrap_add _ (lt62 (by omega))
    have e2 : I (List.range (i + 1)) = I (List.range i) ++ [(i : Int)] := by simp [I, List.range_succ]
    refine Ev.step (fun k => ?_) (spec_parts_l0 h5 x es r he d (i + 1) (by omega))
    simp only [spec_l1Parts.l0]
    rw [if_pos (by omega), if_pos (by rw [I_length, List.length_range]; omega), e1, e2]
theorem spec_l1Parts_ev' {n : Nat} {es : List (Nat × Nat)} (hv : Val n es) {x : Nat} (hx : x < 2 ^ 62) (r : Nat) (hr : joinN n (pick es x) = some r) : Ev (fun k => spec_l1Parts.f k n (mkE es) x) (r : Int) := by
  have h5 := hv.le
  refine spec_parts_l0 h5 _ _ _ (spec_parts_l1 hv hx r es.length 0 n (List.range n) (by omega) (by simp) (by omega) ?_) n 0 (by omega)
  simp only [List.drop_zero, Nat.shiftRight_zero]; exact hr
/-! ### Both are the same -/
/-- The parts of a list of edges. -/
def parts (n : Nat) (l : List (Nat × Nat)) : Nat := (joinN n l).getD 0
def okP2 (n : Nat) (l : List (Nat × Nat)) : Bool := match joinN n l, partsN (link n l) n 0 0 0 with
  | some a, some b => Nat.beq a b && Nat.ble a n && Nat.ble 1 a
  | _, _ => false
theorem okP2_all {n : Nat} {l : List (Nat × Nat)} (hv : Val n l) : okP2 n l = true :=
  graphs_of (P := okP2) (by decide +kernel) (by decide +kernel) (by decide +kernel) (by decide +kernel) (by decide +kernel) hv
theorem parts_two {n : Nat} {l : List (Nat × Nat)} (hv : Val n l) : joinN n l = some (parts n l) ∧ partsN (link n l) n 0 0 0 = some (parts n l) ∧ parts n l ≤ n ∧ 1 ≤ parts n l := by
  have h := okP2_all hv
  unfold okP2 at h
  unfold parts
  split at h
  · rename_i a b h1 h2
    simp only [Bool.and_eq_true, Nat.ble_eq] at h
    have := Nat.eq_of_beq_eq_true h.1.1
    rw [h1, h2]
    exact ⟨rfl, by rw [← this]; rfl, h.1.2, h.2⟩
  · exact absurd h (by simp)
section
variable {n : Nat} {es : List (Nat × Nat)} (hv : Val n es)
include hv
theorem impl_partsBy_ev {x : Nat} (hx : x < 2 ^ es.length) : Ev (fun k => impl_partsBy.f k n (mkE es) x) ((parts n (pick es x) : Nat) : Int) :=
  impl_partsBy_ev' hv hx _ (parts_two (hv.part (pick_sub es x))).2.1
theorem spec_l1Parts_ev {x : Nat} (hx : x < 2 ^ es.length) : Ev (fun k => spec_l1Parts.f k n (mkE es) x) ((parts n (pick es x) : Nat) : Int) :=
  spec_l1Parts_ev' hv (by have := hv.two; omega) _ (parts_two (hv.part (pick_sub es x))).1
end
theorem pick_all : ∀ es : List (Nat × Nat), pick es (2 ^ es.length - 1) = es
  | [] => rfl
  | e :: t => by
    have hp := Nat.two_pow_pos t.length
    have h1 : (2 ^ (e :: t).length - 1) % 2 = 1 := by rw [List.length_cons, Nat.pow_succ]; omega
    have h2 : (2 ^ (e :: t).length - 1) / 2 = 2 ^ t.length - 1 := by rw [List.length_cons, Nat.pow_succ]; omega
    simp only [pick]
    rw [if_pos h1, h2, pick_all t]
end Go.Proofs.Ytfhchpfelndejaa.Q
