/- Both PathKings tell the nodes that beat each other one, or one that beats it. The numbers are of 64 bits. -/
import Derived.Test.YtfhchpfelndejaaQBeat
import Derived.Test.YtfhchpfelndejaaQPw
import Derived.Test.YtfhchpfelndejaaG49
namespace Go.Proofs.Ytfhchpfelndejaa.Q
open Go.RowKit Go.Proofs.Ytfhchpfelndejaa.G Go.Proofs.YtfhchpfelndejaaW.PrintWords Go.Proofs.YtfhchpfelndejaaW.PrintLast Go.Proofs.YtfhchpfelndejaaW.PrintMore
set_option linter.unusedVariables false
set_option linter.unusedSimpArgs false
/-- The nodes that v reaches in two steps, as the program adds them: from u on, d of them. -/
def twoI (n : Nat) (es : List (Nat × Nat)) (o v : Nat) : Nat → Nat → Nat → Nat
  | _, 0, s => s
  | u, d + 1, s => twoI n es o v (u + 1) d (if (out n es o v).testBit u then s ||| out n es o u else s)
theorem twoI_bit {n : Nat} {es : List (Nat × Nat)} (o v w : Nat) : ∀ d u s, (twoI n es o v u d s).testBit w = (s.testBit w || (List.range' u d).any fun x => (out n es o v).testBit x && (out n es o x).testBit w)
  | 0, u, s => by simp [twoI]
  | d + 1, u, s => by
    rw [twoI, twoI_bit o v w d (u + 1), List.range'_succ, List.any_cons]
    cases (out n es o v).testBit u with
    | true => rw [if_pos rfl, Nat.testBit_or, Bool.true_and, Bool.or_assoc]
    | false => simp
theorem twoI_lt {n : Nat} {es : List (Nat × Nat)} (hv : Val n es) (o v : Nat) : ∀ d u s, s < 32 → twoI n es o v u d s < 32
  | 0, u, s, h => h
  | d + 1, u, s, h => by
    rw [twoI]
    refine twoI_lt hv o v d (u + 1) _ ?_
    split
    · exact or_lt_32 h (out_lt hv o u)
    · exact h
/-- Is v a king. -/
def kingB (n : Nat) (es : List (Nat × Nat)) (o v : Nat) : Bool := decide (twoI n es o v 0 n (2 ^ v ||| out n es o v) = 2 ^ n - 1)
/-- The kings from v on, d nodes, added to a set. -/
def kings (n : Nat) (es : List (Nat × Nat)) (o : Nat) : Nat → Nat → Nat → Nat
  | _, 0, s => s
  | v, d + 1, s => kings n es o (v + 1) d (if kingB n es o v then s ||| 2 ^ v else s)
section
variable {n : Nat} {es : List (Nat × Nat)} (hv : Val n es)
include hv
theorem two_wrap : wrap64 (((2 ^ n : Nat) : Int) - 1) = ((2 ^ n - 1 : Nat) : Int) := by
  have h32 := two_n hv.le
  have hp := Nat.two_pow_pos n
  generalize 2 ^ n = N at *
  unfold wrap64
  omega
theorem two_same (o v : Nat) : 2 ^ v ||| out n es o v ||| beat es o (out n es o v) = twoI n es o v 0 n (2 ^ v ||| out n es o v) := by
  apply Nat.eq_of_testBit_eq
  intro w
  rw [twoI_bit, Nat.testBit_or]
  congr 1
  rw [beat, beatS_bit, Nat.zero_testBit, Bool.false_or, Bool.eq_iff_iff, List.any_eq_true, List.any_eq_true]
  constructor
  · rintro ⟨⟨a, b⟩, hm, h⟩
    simp only [Bool.and_eq_true, beq_iff_eq] at h
    obtain ⟨h1, rfl⟩ := h
    have hb := arcs_mem hv.lt _ hm
    refine ⟨a, List.mem_range'_1.2 ⟨Nat.zero_le _, by have := hb.1; simp only at this; omega⟩, ?_⟩
    rw [h1, out_bit hv, (adj_iff _ _ _).2 hm]; rfl
  · rintro ⟨x, _, h⟩
    simp only [Bool.and_eq_true] at h
    rw [out_bit hv o x] at h
    exact ⟨(x, w), (adj_iff _ _ _).1 h.2, by simp only [h.1, Bool.true_and, beq_self_eq_true]⟩
theorem impl_kings_in {o : Nat} (v s : Nat) (hvn : v < n) (hs : s < 32) {r : Int × Bool}
    (h : Ev (fun k => impl_PathKings.l0 k (I (nxt n (arcs es o))) ((if kingB n es o v then s ||| 2 ^ v else s : Nat) : Int) ((I (nxt n (arcs es o))).length : Int) ((v + 1 : Nat) : Int) n (mkE es)) r) :
    ∀ (d u m : Nat), u + d = n → m < 32 → kingB n es o v = decide (twoI n es o v u d m = 2 ^ n - 1) →
    Ev (fun k => impl_PathKings.l1 k (I (nxt n (arcs es o))) (s : Int) (v : Int) (m : Int) ((I (nxt n (arcs es o))).length : Int) (v : Int) (I (nxt n (arcs es o))) ((I (nxt n (arcs es o))).length : Int) (u : Int) n (mkE es)) r
  | 0, u, m, hu, hm, hk => by
    have hS := nxt_sets hv o
    have hl : ((I (nxt n (arcs es o))).length : Int) = (n : Int) := by rw [I_length, hS.1]
    have h5 := hv.le
    have h32 := two_n h5
    have hp := Nat.two_pow_pos n
    have h2 := two_lt_32 (v := v) (by omega)
    have e1 : wrap64 ((v : Int) + 1) = ((v + 1 : Nat) : Int) := by unfold wrap64; omega
    have e2 : wrap64 (((2 ^ n : Nat) : Int) - 1) = ((2 ^ n - 1 : Nat) : Int) := by generalize 2 ^ n = N at *; unfold wrap64; omega
    refine Ev.step (fun k => ?_) h
    simp only [impl_PathKings.l1]
    rw [if_neg (by omega), if_pos (by omega), shl_n hv, e2, e1]
    rw [show twoI n es o v u 0 m = m from rfl] at hk
    by_cases hc : m = 2 ^ n - 1
    · rw [if_pos (by rw [hc]), if_pos (by omega), shl_one _ (by omega), or_nat _ _ (by omega) (by omega), hk, hc]
      simp
    · rw [if_neg (by omega), hk]
      simp [hc]
  | d + 1, u, m, hu, hm, hk => by
    have hS := nxt_sets hv o
    have hl : ((I (nxt n (arcs es o))).length : Int) = (n : Int) := by rw [I_length, hS.1]
    have h5 := hv.le
    have e1 : wrap64 ((u : Int) + 1) = ((u + 1 : Nat) : Int) := by unfold wrap64; omega
    have hb := out_lt hv o v
    have hb2 := out_lt hv o u
    refine Ev.step (fun k => ?_) (impl_kings_in v s hvn hs h d (u + 1) (if (out n es o v).testBit u then m ||| out n es o u else m) (by omega) (by split <;> first | exact or_lt_32 hm hb2 | exact hm) hk)
    simp only [impl_PathKings.l1]
    rw [if_pos (by omega), if_pos (by omega), if_pos (by omega), if_pos (by omega), if_pos (by omega), rd_out, bit_nat _ _ (by omega) (by omega), e1]
    cases hc : (out n es o v).testBit u with
    | true => rw [if_pos (by rfl), rd_out, or_nat _ _ (by omega) (by omega), if_pos rfl]
    | false => rw [if_neg (by simp), if_neg (by simp)]
theorem impl_kings_out (o : Nat) : ∀ (d v s : Nat), v + d = n → s < 32 → Ev (fun k => impl_PathKings.l0 k (I (nxt n (arcs es o))) (s : Int) ((I (nxt n (arcs es o))).length : Int) (v : Int) n (mkE es)) (((kings n es o v d s : Nat) : Int), true)
  | 0, v, s, h, hs => by
    have hl : ((I (nxt n (arcs es o))).length : Int) = (n : Int) := by rw [I_length, (nxt_sets hv o).1]
    refine Ev.step (f := fun _ => some ((s : Int), true)) (fun k => ?_) (Ev.now _)
    simp only [impl_PathKings.l0]
    rw [if_neg (by omega)]
  | d + 1, v, s, h, hs => by
    have hl : ((I (nxt n (arcs es o))).length : Int) = (n : Int) := by rw [I_length, (nxt_sets hv o).1]
    have h5 := hv.le
    have hb := out_lt hv o v
    have h2 := two_lt_32 (v := v) (by omega)
    have ih := impl_kings_out o d (v + 1) (if kingB n es o v then s ||| 2 ^ v else s) (by omega) (by split <;> first | exact or_lt_32 hs h2 | exact hs)
    refine Ev.step (fun k => ?_) (impl_kings_in hv v s (by omega) hs ih n 0 (2 ^ v ||| out n es o v) (by omega) (or_lt_32 h2 hb) rfl)
    simp only [impl_PathKings.l0]
    rw [if_pos (by omega), if_pos (by omega), if_pos (by omega), rd_out, shl_one _ (by omega), or_nat _ _ (by omega) (by omega)]
    rfl
theorem spec_kings_out {o : Nat} (ho : o < 2 ^ es.length) : ∀ (d v s : Nat), v + d = n → s < 32 → Ev (fun k => spec_PathKings.l0 k o (s : Int) (v : Int) n (mkE es)) (((kings n es o v d s : Nat) : Int), true)
  | 0, v, s, h, hs => by
    refine Ev.step (f := fun _ => some ((s : Int), true)) (fun k => ?_) (Ev.now _)
    simp only [spec_PathKings.l0]
    rw [if_neg (by omega)]
  | d + 1, v, s, h, hs => by
    have hvn : v < n := by omega
    have hv5 : v < 5 := Nat.lt_of_lt_of_le hvn hv.le
    have hrec : v + 1 + d = n := by omega
    have hv60 : v ≤ 60 := Nat.le_trans (Nat.le_of_lt hv5) (by decide)
    have e1 : wrap64 ((v : Int) + 1) = ((v + 1 : Nat) : Int) := by unfold wrap64; omega
    clear h
    have e2 : wrap64 (((2 ^ n : Nat) : Int) - 1) = ((2 ^ n - 1 : Nat) : Int) := two_wrap hv
    have hb := out_lt hv o v
    have h2 := two_lt_32 hv5
    have hbe := beat_lt hv (o := o) (out n es o v)
    have ih := spec_kings_out ho d (v + 1) (if kingB n es o v then s ||| 2 ^ v else s) hrec (by split <;> first | exact or_lt_32 hs h2 | exact hs)
    have p0 : (0 : Int) ≤ (v : Int) := Int.natCast_nonneg _
    have pn : (0 : Int) ≤ (n : Int) := Int.natCast_nonneg _
    have pl : (v : Int) < (n : Int) := Int.ofNat_lt.2 hvn
    have hor := or_nat (2 ^ v) (out n es o v) (lt62 h2) (lt62 hb)
    have hor2 := or_nat (2 ^ v ||| out n es o v) (beat es o (out n es o v)) (lt62 (or_lt_32 h2 hb)) (lt62 hbe)
    have hor3 := or_nat s (2 ^ v) (lt62 hs) (lt62 h2)
    refine Ev.step (f := fun k => (spec_l7Beaten.f k n (mkE es) o ((2 ^ v : Nat) : Int)).bind fun t => (spec_l7Beaten.f k n (mkE es) o t).bind fun t2 => if Go.bits .or .i64 (Go.bits .or .i64 ((2 ^ v : Nat) : Int) t) t2 = ((2 ^ n - 1 : Nat) : Int) then spec_PathKings.l0 k o (Go.bits .or .i64 (s : Int) ((2 ^ v : Nat) : Int)) ((v + 1 : Nat) : Int) n (mkE es) else spec_PathKings.l0 k o (s : Int) ((v + 1 : Nat) : Int) n (mkE es)) (fun k => ?_) (Ev.bind (spec_l7Beaten_one hv ho v hv5) (Ev.bind (spec_l7Beaten_ev hv ho (out n es o v) hb) ?_))
    · simp only [spec_PathKings.l0]
      rw [if_pos pl, if_pos p0, shl_one v hv60]
      simp only [pn, if_true, shl_n hv, e2, e1]
    · rw [hor, hor2, hor3]
      have hk : kingB n es o v = decide (2 ^ v ||| out n es o v ||| beat es o (out n es o v) = 2 ^ n - 1) := by rw [two_same hv]; rfl
      by_cases hc : 2 ^ v ||| out n es o v ||| beat es o (out n es o v) = 2 ^ n - 1
      · rw [hk] at ih
        simp only [hc, decide_true, if_true] at ih ⊢
        rw [kings, hk]
        simp only [hc, decide_true, if_true]
        exact ih
      · rw [hk] at ih
        have hc' : ¬ ((2 ^ v ||| out n es o v ||| beat es o (out n es o v) : Nat) : Int) = ((2 ^ n - 1 : Nat) : Int) := fun h => hc (Int.ofNat.inj h)
        simp only [hc', if_false]
        rw [kings, hk]
        simp only [hc, decide_false, Bool.false_eq_true, if_false] at ih ⊢
        exact ih
end
/-- The set of the kings, or nothing for other graphs. -/
def kingsR (n : Nat) (es : List (Nat × Nat)) (o : Nat) : Int × Bool := if wholeB n es then (((kings n es o 0 n 0 : Nat) : Int), true) else (0, false)
section
variable {n : Nat} {es : List (Nat × Nat)} (hv : Val n es)
include hv
theorem impl_PathKings_ev {o : Nat} (ho : o < 2 ^ es.length) : Ev (fun k => impl_PathKings.f k n (mkE es) o) (kingsR n es o) := by
  unfold impl_PathKings.f
  refine Ev.bind (impl_WayIn_yes hv ho) ?_
  simp only [if_true]
  refine Ev.bind (impl_PathWhole_ev hv) ?_
  unfold kingsR
  cases hw : wholeB n es with
  | false =>
    refine Ev.step (f := fun _ => some (0, false)) (fun k => ?_) (Ev.now _)
    simp [impl_PathKings.j0]
  | true =>
    refine Ev.step (f := fun k => (impl_nextOf.f k n (mkE es) o).bind fun t => impl_PathKings.l0 k t 0 (t.length : Int) 0 n (mkE es)) (fun k => by simp [impl_PathKings.j0]) (Ev.bind (impl_nextOf_ev hv ho) ?_)
    exact impl_kings_out hv o n 0 0 (by omega) (by omega)
theorem spec_PathKings_ev {o : Nat} (ho : o < 2 ^ es.length) : Ev (fun k => spec_PathKings.f k n (mkE es) o) (kingsR n es o) := by
  unfold spec_PathKings.f
  refine Ev.bind (spec_WayIn_yes hv ho) ?_
  simp only [if_true]
  refine Ev.bind (spec_PathWhole_ev hv) ?_
  unfold kingsR
  cases hw : wholeB n es with
  | false =>
    refine Ev.step (f := fun _ => some (0, false)) (fun k => ?_) (Ev.now _)
    simp [spec_PathKings.j0]
  | true =>
    refine Ev.step (f := fun k => spec_PathKings.l0 k o 0 0 n (mkE es)) (fun k => by simp [spec_PathKings.j0]) ?_
    exact spec_kings_out hv ho n 0 0 (by omega) (by omega)
end
theorem PathKings_both {a : Int} (ha : InR a) {l : List E} (hl : WfE l) (o : Int) : ∃ r, Ev (fun k => impl_PathKings.f k a l o) r ∧ Ev (fun k => spec_PathKings.f k a l o) r := by
  rcases way_split ha hl o with ⟨n, es, o', rfl, rfl, rfl, hv, ho⟩ | ⟨h1, h2⟩
  · exact ⟨_, impl_PathKings_ev hv ho, spec_PathKings_ev hv ho⟩
  · refine ⟨(0, false), ?_, ?_⟩
    · unfold impl_PathKings.f
      refine Ev.bind h1 ?_
      simp only [Bool.false_eq_true, if_false]
      exact Ev.step (f := fun _ => some (0, false)) (fun k => by simp [impl_PathKings.j0]) (Ev.now _)
    · unfold spec_PathKings.f
      refine Ev.bind h2 ?_
      simp only [Bool.false_eq_true, if_false]
      exact Ev.step (f := fun _ => some (0, false)) (fun k => by simp [spec_PathKings.j0]) (Ev.now _)
end Go.Proofs.Ytfhchpfelndejaa.Q
