/- The law FnKings returns true. The elements of the code are bytes. -/
import Derived.Test.YtfhchpfelndejaaQTour
import Derived.Test.YtfhchpfelndejaaQKings
import Derived.Test.YtfhchpfelndejaaQPlay
import Derived.Test.YtfhchpfelndejaaQWayOut
import Derived.Test.YtfhchpfelndejaaG49
namespace Go.Proofs.Ytfhchpfelndejaa.Q
open Go.RowKit Go.Proofs.Ytfhchpfelndejaa.G Go.Proofs.YtfhchpfelndejaaW.PrintWords Go.Proofs.YtfhchpfelndejaaW.PrintLast Go.Proofs.YtfhchpfelndejaaW.PrintMore
set_option linter.unusedVariables false
set_option linter.unusedSimpArgs false
def mxL (ds : List Nat) (x : Nat) : Nat := ds.foldl (fun x d => max x d) x
def topIn (K m : Nat) : List Nat → Nat → Bool
  | [], _ => true
  | d :: t, i => and (cond (Nat.beq d m) (Nat.testBit K i) true) (topIn K m t (i + 1))
def kingsLaw (n o : Nat) : Bool := and (topIn (kings n (pairs n) o 0 n 0) (mxL (deg n (arcs (pairs n) o)) 0) (deg n (arcs (pairs n) o)) 0)
  (and (Nat.blt 0 (kings n (pairs n) o 0 n 0)) (and (Nat.blt (kings n (pairs n) o 0 n 0) 32) (!(Nat.beq (pop (kings n (pairs n) o 0 n 0)) 2))))
theorem kingsLaw_all {n : Nat} {es : List (Nat × Nat)} (hv : Val n es) (hw : wholeB n es = true) {o : Nat} (ho : o < 2 ^ es.length) : topIn (kings n es o 0 n 0) (mxL (deg n (arcs es o)) 0) (deg n (arcs es o)) 0 = true ∧ 0 < kings n es o 0 n 0 ∧ kings n es o 0 n 0 < 32 ∧ pop (kings n es o 0 n 0) ≠ 2 := by
  have h := tour_of (P := kingsLaw) (by decide +kernel) (by decide +kernel) (by decide +kernel) (by decide +kernel) (by decide +kernel) hv hw ho
  have he := whole_pairs hv hw
  subst he
  simp only [kingsLaw, Bool.and_eq_true, Nat.blt_eq, Bool.not_eq_true'] at h
  exact ⟨h.1, h.2.1, h.2.2.1, fun e => by rw [e] at h; exact absurd h.2.2.2 (by decide)⟩
theorem mx_nat (a b : Nat) : mx (a : Int) (b : Int) = ((max a b : Nat) : Int) := by
  unfold mx
  split <;> omega
theorem kings_l1 (K m : Nat) (hK : K < 32) (hK0 : 0 < K) (hp : pop K ≠ 2) (ds : List Nat) (hl : ds.length ≤ 5) : ∀ (d i : Nat), i + d = ds.length → topIn K m (ds.drop i) i = true → Ev (fun k => laws_FnKings.l1 k (K : Int) (I ds) true (m : Int) (i : Int)) true
  | 0, i, h, ht => by
    refine Ev.step (f := fun k => (laws_bits.f k (K : Int)).bind fun t => some (t != 2)) (fun k => ?_) ?_
    · simp only [laws_FnKings.l1]
      rw [if_neg (by rw [I_length]; omega), if_pos trivial, if_pos (by omega)]
    · have hb := loop_half (fun k x c => laws_bits.l0 k x c) (fun k x c => rfl) 10 K 0 (by omega) (by omega)
      have hb' : Ev (fun k => laws_bits.f k (K : Int)) ((pop K : Nat) : Int) := Ev.eq_ hb (by rw [Nat.zero_add]; rfl)
      refine Ev.bind hb' (Ev.eq_ (Ev.now _) ?_)
      rw [bne_iff_ne]
      exact fun h => hp (Int.ofNat.inj h)
  | d + 1, i, h, ht => by
    have hi : i < ds.length := by omega
    have g1 : ds.getD i 0 = ds[i] := by rw [List.getD_eq_getElem?_getD, List.getElem?_eq_getElem hi]; rfl
    have e1 : wrap64 ((i : Int) + 1) = ((i + 1 : Nat) : Int) := wrap_add _ (lt62 (by omega))
    rw [List.drop_eq_getElem_cons hi] at ht
    simp only [topIn, Bool.and_eq_true] at ht
    refine Ev.step (fun k => ?_) (kings_l1 K m hK hK0 hp ds hl d (i + 1) (by omega) ht.2)
    simp only [laws_FnKings.l1]
    rw [if_pos (by rw [I_length]; omega), if_pos (Int.natCast_nonneg i), rd_nat, g1, bit_nat K i (lt62 hK) (by omega), e1]
    by_cases hm : ds[i] = m
    · have hb := ht.1
      rw [show Nat.beq ds[i] m = true from by rw [Nat.beq_eq]; exact hm, cond_true] at hb
      rw [if_pos (by rw [hm]), hb, if_neg (by decide)]
    · rw [if_neg (show ¬ ((ds[i] : Nat) : Int) = (m : Int) from fun h => hm (Int.ofNat.inj h))]
theorem kings_l0 (K : Nat) (ds : List Nat) (hl : ds.length ≤ 5) (r : Bool) (M : Nat) (he : Ev (fun k => laws_FnKings.l1 k (K : Int) (I ds) true (M : Int) 0) r) : ∀ (d i x : Nat), i + d = ds.length → mxL (ds.drop i) x = M → Ev (fun k => laws_FnKings.l0 k (K : Int) (I ds) true (x : Int) (i : Int)) r
  | 0, i, x, h, hm => by
    rw [List.drop_of_length_le (by omega)] at hm
    have : x = M := hm
    subst this
    refine Ev.step (fun k => ?_) he
    simp only [laws_FnKings.l0]
    rw [if_neg (by rw [I_length]; omega)]
  | d + 1, i, x, h, hm => by
    have hi : i < ds.length := by omega
    have g1 : ds.getD i 0 = ds[i] := by rw [List.getD_eq_getElem?_getD, List.getElem?_eq_getElem hi]; rfl
    have e1 : wrap64 ((i : Int) + 1) = ((i + 1 : Nat) : Int) := wrap_add _ (lt62 (by omega))
    rw [List.drop_eq_getElem_cons hi] at hm
    refine Ev.step (fun k => ?_) (kings_l0 K ds hl r M he d (i + 1) (max x ds[i]) (by omega) hm)
    simp only [laws_FnKings.l0]
    rw [if_pos (by rw [I_length]; omega), if_pos (Int.natCast_nonneg i), rd_nat, g1, mx_nat, e1]
end Go.Proofs.Ytfhchpfelndejaa.Q
namespace Go.Proofs.Ytfhchpfelndejaa.Pure
open Go.RowKit Go.Proofs.Ytfhchpfelndejaa.G Go.Proofs.Ytfhchpfelndejaa.Q Go.Proofs.YtfhchpfelndejaaW.PrintWords Go.Proofs.YtfhchpfelndejaaW.PrintLast Go.Proofs.YtfhchpfelndejaaW.PrintMore
theorem FnKings : laws_FnKings.Pure := by
  intro code _ _ hcode
  refine Ev.rounds (g := fun k => laws_FnKings.f k code) ?_
  obtain ⟨a, l, o, hg, ha, hl⟩ := l92Play_ev hcode
  have hD : Ev (fun k => spec_DrawPathKings.f k code) (a, l, o) := by
    unfold spec_DrawPathKings.f
    exact Ev.bind hg (Ev.now _)
  unfold laws_FnKings.f
  by_cases hc : (code.length : Int) > 1048576
  · simp only [hc, if_true]; exact Ev.now _
  · simp only [hc, if_false]
    refine Ev.bind hD ?_
    have no : ∀ {a : Int} {l : List E} {o : Int}, Ev (fun k => impl_PathKings.f k a l o) (0, false) → Ev (fun k => spec_PathKings.f k a l o) (0, false) → Ev (fun k => (impl_PathKings.f k a l o).bind fun bt873 => ((spec_PathKings.f k a l o).bind fun bt875 => (if (bt873.2 != bt875.2) = true then (laws_FnKings.j0 k o bt873.1 bt873.2 bt875.1 bt875.2 true a l) else (if bt873.1 = bt875.1 then (laws_FnKings.j0 k o bt873.1 bt873.2 bt875.1 bt875.2 (!bt873.2) a l) else (laws_FnKings.j0 k o bt873.1 bt873.2 bt875.1 bt875.2 true a l))))) true := by
      intro a l o h3 h4
      refine Ev.bind h3 (Ev.bind h4 ?_)
      simp only [bne_self_eq_false, Bool.false_eq_true, if_false, if_true, Bool.not_false]
      exact Ev.step (f := fun _ => some true) (fun k => by simp [laws_FnKings.j0]) (Ev.now _)
    rcases way_split ha hl o with ⟨n, es, o', rfl, rfl, rfl, hv, ho⟩ | ⟨h1, h2⟩
    · have hi := impl_PathKings_ev hv ho
      have hs := spec_PathKings_ev hv ho
      unfold kingsR at hi hs
      cases hw : wholeB n es with
      | false =>
        rw [hw] at hi hs
        exact no hi hs
      | true =>
        rw [hw] at hi hs
        simp only [if_true] at hi hs
        refine Ev.bind hi (Ev.bind hs ?_)
        simp only [bne_self_eq_false, Bool.false_eq_true, if_false, if_true, Bool.not_true]
        refine Ev.step (fun k => by simp only [laws_FnKings.j0, Bool.false_eq_true, if_false]; rfl) ?_
        refine Ev.bind (impl_WayOut_ev hv ho) ?_
        obtain ⟨q1, q2, q3, q4⟩ := kingsLaw_all hv hw ho
        have hlen := deg_len n (arcs es o')
        have h5 := hv.le
        exact kings_l0 _ (deg n (arcs es o')) (by omega) true (mxL (deg n (arcs es o')) 0) (kings_l1 _ _ q3 q2 q4 (deg n (arcs es o')) (by omega) n 0 (by omega) q1) n 0 0 (by omega) rfl
    · refine no ?_ ?_
      · unfold impl_PathKings.f
        refine Ev.bind h1 ?_
        simp only [Bool.false_eq_true, if_false]
        exact Ev.step (f := fun _ => some (0, false)) (fun k => by simp [impl_PathKings.j0]) (Ev.now _)
      · unfold spec_PathKings.f
        refine Ev.bind h2 ?_
        simp only [Bool.false_eq_true, if_false]
        exact Ev.step (f := fun _ => some (0, false)) (fun k => by simp [spec_PathKings.j0]) (Ev.now _)
end Go.Proofs.Ytfhchpfelndejaa.Pure
