/- The drawn graphs: the reader of draws always answers, and what it draws is small. The code's elements are bytes. -/
import Derived.Test.YtfijegfjpagjoaaQWay
import Derived.Test.YtfijegfjpagjoaaG18
namespace Go.Proofs.Ytfijegfjpagjoaa.Q
open Go.RowKit Go.Proofs.Ytfijegfjpagjoaa.G Go.Proofs.YtfijegfjpagjoaaW.PrintWords Go.Proofs.YtfijegfjpagjoaaW.PrintLast Go.Proofs.YtfijegfjpagjoaaW.PrintMore
set_option linter.unusedVariables false
set_option linter.unusedSimpArgs false
/-- A reader's bytes. -/
def Bytes (b : List Int) : Prop := b.length ≤ 2000 ∧ ∀ x ∈ b, 0 ≤ x ∧ x ≤ 255
theorem Bytes.rd_bd {b : List Int} (h : Bytes b) (i : Int) : 0 ≤ rd b i ∧ rd b i ≤ 255 := by
  unfold rd
  rw [List.getD_eq_getElem?_getD]
  cases hi : b[i.toNat]? with
  | none => simp
  | some x => exact h.2 x (List.mem_of_getElem? hi)
theorem tmod_bd {x n : Int} (hx : 0 ≤ x) (hn : 1 ≤ n) : 0 ≤ Int.tmod x n ∧ Int.tmod x n < n := by
  rw [Int.tmod_eq_emod_of_nonneg hx]
  exact ⟨Int.emod_nonneg _ (by omega), Int.emod_lt_of_pos _ (by omega)⟩
theorem pick_ev {b : List Int} (hb : Bytes b) (p : Nat) (hp : p ≤ 1000000) (n : Int) (hn : n ≤ 1000000) : ∃ x : Int, Ev (fun k => spec_l6Rd_pick.f k b (p : Int) n) (x, ((p + 1 : Nat) : Int)) ∧ 0 ≤ x ∧ (x < n ∨ x = 0) := by
  have e1 : wrap64 ((p : Int) + 1) = ((p + 1 : Nat) : Int) := by unfold wrap64; omega
  by_cases h1 : n < 1
  · refine ⟨0, Ev.congr (f := fun k => spec_l6Rd_pick.j0 k n true b ((p + 1 : Nat) : Int)) (fun k => ?_) (Ev.step (f := fun _ => some (0, ((p + 1 : Nat) : Int))) (fun k => ?_) (Ev.now _)), by omega, .inr rfl⟩
    · unfold spec_l6Rd_pick.f; rw [if_pos h1, e1]
    · simp [spec_l6Rd_pick.j0]
  · by_cases h2 : b.length = 0
    · refine ⟨0, Ev.congr (f := fun k => spec_l6Rd_pick.j0 k n true b ((p + 1 : Nat) : Int)) (fun k => ?_) (Ev.step (f := fun _ => some (0, ((p + 1 : Nat) : Int))) (fun k => ?_) (Ev.now _)), by omega, .inr rfl⟩
      · unfold spec_l6Rd_pick.f; rw [if_neg h1, e1, h2]; rfl
      · simp [spec_l6Rd_pick.j0]
    · have hl := hb.1
      have e2 : wrap64 (((p + 1 : Nat) : Int) - 1) = (p : Int) := by unfold wrap64; omega
      have hc : Ev (fun k => spec_l6Rd_pick.f k b (p : Int) n) = Ev (fun k => spec_l6Rd_pick.j0 k n false b ((p + 1 : Nat) : Int)) := by
        congr 1; funext k
        unfold spec_l6Rd_pick.f; rw [if_neg h1, e1]
        congr 1
        rw [beq_eq_false_iff_ne]; omega
      rw [hc]
      by_cases h3 : (p : Int) < (b.length : Int)
      · have hr := hb.rd_bd (p : Int)
        have e3 : wrap64 (rd b (p : Int)) = rd b (p : Int) := by unfold wrap64; omega
        have ht := tmod_bd hr.1 (show 1 ≤ n by omega)
        refine ⟨_, Ev.step (f := fun _ => some (Int.tmod (rd b (p : Int)) n, ((p + 1 : Nat) : Int))) (fun k => ?_) (Ev.now _), ht.1, .inl ht.2⟩
        simp only [spec_l6Rd_pick.j0]
        rw [if_neg (by simp), e2, if_pos h3, if_pos (by omega), if_neg (by omega), e3]
      · have hm := tmod_bd (show (0 : Int) ≤ (p : Int) by omega) (show 1 ≤ (b.length : Int) by omega)
        have e7 : wrap64 ((p : Int) * 7) = (p : Int) * 7 := by unfold wrap64; omega
        have e8 : wrap64 ((p : Int) * 7 + 3) = (p : Int) * 7 + 3 := by unfold wrap64; omega
        have hm2 := tmod_bd (show (0 : Int) ≤ (p : Int) * 7 + 3 by omega) (show 1 ≤ (b.length : Int) by omega)
        have hq : 0 ≤ Int.tdiv (p : Int) (b.length : Int) ∧ Int.tdiv (p : Int) (b.length : Int) ≤ 1000000 := by
          rw [Int.tdiv_eq_ediv_of_nonneg (by omega)]
          refine ⟨Int.ediv_nonneg (by omega) (by omega), ?_⟩
          have := Int.ediv_le_self (b.length : Int) (show (0 : Int) ≤ (p : Int) by omega)
          omega
        have hr1 := hb.rd_bd (Int.tmod (p : Int) (b.length : Int))
        have hr2 := hb.rd_bd (Int.tmod ((p : Int) * 7 + 3) (b.length : Int))
        generalize hA : rd b (Int.tmod (p : Int) (b.length : Int)) = A at hr1
        generalize hB : rd b (Int.tmod ((p : Int) * 7 + 3) (b.length : Int)) = B at hr2
        generalize hC : Int.tdiv (p : Int) (b.length : Int) = C at hq
        have f1 : wrap64 A = A := by unfold wrap64; omega
        have f2 : wrap64 (A * 131) = A * 131 := by unfold wrap64; omega
        have f3 : wrap64 B = B := by unfold wrap64; omega
        have f4 : wrap64 (B * 1117) = B * 1117 := by unfold wrap64; omega
        have f5 : wrap64 (A * 131 + B * 1117) = A * 131 + B * 1117 := by unfold wrap64; omega
        have f6 : wrap64 ((p : Int) * 29) = (p : Int) * 29 := by unfold wrap64; omega
        have f7 : wrap64 (A * 131 + B * 1117 + (p : Int) * 29) = A * 131 + B * 1117 + (p : Int) * 29 := by unfold wrap64; omega
        have f8 : wrap64 C = C := by unfold wrap64; omega
        have f9 : wrap64 (C * 53) = C * 53 := by unfold wrap64; omega
        have f10 : wrap64 (A * 131 + B * 1117 + (p : Int) * 29 + C * 53) = A * 131 + B * 1117 + (p : Int) * 29 + C * 53 := by unfold wrap64; omega
        obtain ⟨X, hX⟩ := Int.eq_ofNat_of_zero_le (show 0 ≤ A * 131 + B * 1117 + (p : Int) * 29 + C * 53 by omega)
        have hXb : X < 2 ^ 60 := by omega
        have g1 : wrap64 (Int.tdiv (X : Int) 64) = ((X / 64 : Nat) : Int) := by
          rw [Int.tdiv_eq_ediv_of_nonneg (by omega)]; unfold wrap64; omega
        have hY : Go.bits .xor .i64 (X : Int) ((X / 64 : Nat) : Int) = ((X ^^^ (X / 64) : Nat) : Int) := xor_nat _ _ (by omega) (by omega)
        have ht := tmod_bd (show (0 : Int) ≤ ((X ^^^ (X / 64) : Nat) : Int) by omega) (show 1 ≤ n by omega)
        refine ⟨_, Ev.step (f := fun _ => some (Int.tmod ((X ^^^ (X / 64) : Nat) : Int) n, ((p + 1 : Nat) : Int))) (fun k => ?_) (Ev.now _), ht.1, .inl ht.2⟩
        simp only [spec_l6Rd_pick.j0]
        rw [if_neg (by simp), e2, if_neg h3, if_neg (by omega), if_pos hm.1, if_pos hm.2, e7, e8, if_pos hm2.1, if_pos hm2.2, if_neg (by omega), hA, hB, hC, f1, f2, f3, f4, f5, f6, f7, f8, f9, f10, hX, g1, hY]
/-- Small edges. -/
def Small (l : List E) : Prop := ∀ e ∈ l, 0 ≤ e.f0 ∧ e.f0 ≤ 5 ∧ 0 ≤ e.f1 ∧ e.f1 ≤ 5
theorem Small.snoc {l : List E} (h : Small l) {x y : Int} (hx : 0 ≤ x ∧ x ≤ 5) (hy : 0 ≤ y ∧ y ≤ 5) : Small (l ++ [⟨x, y⟩]) := by
  intro e he
  rw [List.mem_append, List.mem_singleton] at he
  rcases he with he | rfl
  · exact h e he
  · exact ⟨hx.1, hx.2, hy.1, hy.2⟩
/-- What a drawn graph is: nodes, edges, the place behind it. -/
def Drawn (n : Nat) (l : List E) (p q : Nat) : Prop := 1 ≤ n ∧ n ≤ 5 ∧ l.length ≤ 40 ∧ Small l ∧ q ≤ p + 40
def DG (b : List Int) (n p0 : Nat) (g : Nat → Option (Int × List E × Int)) : Prop := ∃ l q, Ev g ((n : Int), l, ((q : Nat) : Int)) ∧ Drawn n l p0 q
theorem l91Graph_end {b : List Int} (hb : Bytes b) (n : Nat) (hn : 1 ≤ n ∧ n ≤ 5) (kind : Int) (p0 : Nat) (hp0 : p0 ≤ 100000) (a : Nat) (ha : ¬ a < n) (ha5 : a ≤ 5) (l : List E) (p : Nat) (hl : l.length ≤ 5 * a) (hs : Small l) (hp : p ≤ p0 + 2 + 5 * a) :
    DG b n p0 (fun k => spec_l91Graph.l0 k (n : Int) kind (a : Int) b (p : Int) (n : Int) l) := by
  obtain ⟨x, hx, hx0, _⟩ := pick_ev hb p (by omega) 40 (by omega)
  have e : wrap64 ((n : Int) - 1) = (n : Int) - 1 := by unfold wrap64; omega
  by_cases h0 : x = 0
  · refine ⟨l ++ [⟨(n : Int) - 1, 0⟩], p + 1, Ev.step (f := fun k => (spec_l6Rd_pick.f k b (p : Int) 40).bind fun t => if t.1 = 0 then (if l.length < 8796093022208 then some ((n : Int), l ++ [(⟨(n : Int) - 1, 0⟩ : E)], t.2) else none) else some ((n : Int), l, t.2)) (fun k => ?_) (Ev.bind hx ?_), hn.1, hn.2, by simp; omega, hs.snoc (by omega) (by omega), by omega⟩
    · simp only [spec_l91Graph.l0]
      rw [if_neg (by omega), e]
    · simp only [h0, if_true]
      rw [show (if l.length < 8796093022208 then some ((n : Int), l ++ [(⟨(n : Int) - 1, 0⟩ : E)], ((p + 1 : Nat) : Int)) else none) = some ((n : Int), l ++ [(⟨(n : Int) - 1, 0⟩ : E)], ((p + 1 : Nat) : Int)) from if_pos (by omega)]
      exact Ev.now _
  · refine ⟨l, p + 1, Ev.step (f := fun k => (spec_l6Rd_pick.f k b (p : Int) 40).bind fun t => if t.1 = 0 then (if l.length < 8796093022208 then some ((n : Int), l ++ [(⟨(n : Int) - 1, 0⟩ : E)], t.2) else none) else some ((n : Int), l, t.2)) (fun k => ?_) (Ev.bind hx ?_), hn.1, hn.2, by omega, hs, by omega⟩
    · simp only [spec_l91Graph.l0]
      rw [if_neg (by omega), e]
    · simp only [h0, if_false]
      exact Ev.now _
/-- The inner loop, given what follows it. -/
theorem l91Graph_in {b : List Int} (hb : Bytes b) (n : Nat) (hn : 1 ≤ n ∧ n ≤ 5) (kind : Int) (p0 : Nat) (hp0 : p0 ≤ 100000) (a : Nat) (ha : a < n)
    (next : ∀ (l : List E) (p : Nat), l.length ≤ 5 * (a + 1) → Small l → p ≤ p0 + 2 + 5 * (a + 1) → DG b n p0 (fun k => spec_l91Graph.l0 k (n : Int) kind ((a + 1 : Nat) : Int) b (p : Int) (n : Int) l)) :
    ∀ (d c : Nat), c + d = n → a < c → ∀ (l : List E) (p : Nat), l.length ≤ 5 * a + (c - a - 1) → Small l → p ≤ p0 + 2 + 5 * a + (c - a - 1) → DG b n p0 (fun k => spec_l91Graph.l1 k (n : Int) kind (a : Int) (c : Int) b (p : Int) (n : Int) l)
  | 0, c, h, hac, l, p, hl, hs, hp => by
    obtain ⟨l', q, h1, h2⟩ := next l p (by omega) hs (by omega)
    refine ⟨l', q, Ev.step (fun k => ?_) h1, h2⟩
    have e1 : wrap64 ((a : Int) + 1) = ((a + 1 : Nat) : Int) := by unfold wrap64; omega
    simp only [spec_l91Graph.l1]
    rw [if_neg (by omega), e1]
  | d + 1, c, h, hac, l, p, hl, hs, hp => by
    have e1 : wrap64 ((c : Int) + 1) = ((c + 1 : Nat) : Int) := by unfold wrap64; omega
    have e2 : wrap64 ((a : Int) + 1) = (a : Int) + 1 := by unfold wrap64; omega
    have e3 : wrap64 ((n : Int) - 1) = (n : Int) - 1 := by unfold wrap64; omega
    have hlen : l.length < 8796093022208 := by omega
    have hsn : Small (l ++ [⟨(a : Int), (c : Int)⟩]) := hs.snoc (by omega) (by omega)
    -- an edge is added
    have add : ∀ p', p' ≤ p + 1 → DG b n p0 (fun k => spec_l91Graph.l1 k (n : Int) kind (a : Int) ((c + 1 : Nat) : Int) b (p' : Int) (n : Int) (l ++ [⟨(a : Int), (c : Int)⟩])) := fun p' hp' =>
      l91Graph_in hb n hn kind p0 hp0 a ha next d (c + 1) (by omega) (by omega) _ p' (by simp; omega) hsn (by omega)
    have skip : ∀ p', p' ≤ p + 1 → DG b n p0 (fun k => spec_l91Graph.l1 k (n : Int) kind (a : Int) ((c + 1 : Nat) : Int) b (p' : Int) (n : Int) l) := fun p' hp' =>
      l91Graph_in hb n hn kind p0 hp0 a ha next d (c + 1) (by omega) (by omega) _ p' (by omega) hs (by omega)
    -- drawn by the reader
    have draw : DG b n p0 (fun k => (spec_l6Rd_pick.f k b (p : Int) 5).bind fun t => if t.1 > 1 then (if l.length < 8796093022208 then spec_l91Graph.l1 k (n : Int) kind (a : Int) ((c + 1 : Nat) : Int) b t.2 (n : Int) (l ++ [(⟨(a : Int), (c : Int)⟩ : E)]) else none) else spec_l91Graph.l1 k (n : Int) kind (a : Int) ((c + 1 : Nat) : Int) b t.2 (n : Int) l) := by
      obtain ⟨x, hx, hx0, _⟩ := pick_ev hb p (by omega) 5 (by omega)
      by_cases h1 : x > 1
      · obtain ⟨l', q, h2, h3⟩ := add (p + 1) (by omega)
        refine ⟨l', q, Ev.bind hx ?_, h3⟩
        simp only [h1, if_true, hlen]
        exact h2
      · obtain ⟨l', q, h2, h3⟩ := skip (p + 1) (by omega)
        refine ⟨l', q, Ev.bind hx ?_, h3⟩
        simp only [h1, if_false]
        exact h2
    by_cases k0 : kind = 0
    · obtain ⟨l', q, h2, h3⟩ := add p (by omega)
      refine ⟨l', q, Ev.step (fun k => ?_) h2, h3⟩
      simp only [spec_l91Graph.l1]
      rw [if_pos (by omega), if_pos k0, if_pos hlen, e1]
    · by_cases k1 : kind = 1
      · have hk : ¬ kind > 1 := by omega
        by_cases hc : c = a + 1
        · obtain ⟨l', q, h2, h3⟩ := add p (by omega)
          refine ⟨l', q, Ev.step (fun k => ?_) h2, h3⟩
          simp only [spec_l91Graph.l1]
          rw [if_pos (by omega), if_neg k0, if_pos k1, e2, if_pos (by omega), if_pos hlen, e1]
        · by_cases ha0 : a = 0
          · by_cases hcn : c = n - 1
            · obtain ⟨l', q, h2, h3⟩ := add p (by omega)
              refine ⟨l', q, Ev.step (fun k => ?_) h2, h3⟩
              simp only [spec_l91Graph.l1]
              rw [if_pos (by omega), if_neg k0, if_pos k1, e2, if_neg (by omega), if_pos (by omega), e3, if_pos (by omega), if_pos hlen, e1]
            · obtain ⟨l', q, h2, h3⟩ := skip p (by omega)
              refine ⟨l', q, Ev.step (fun k => ?_) h2, h3⟩
              simp only [spec_l91Graph.l1]
              rw [if_pos (by omega), if_neg k0, if_pos k1, e2, if_neg (by omega), if_pos (by omega), e3, if_neg (by omega), if_neg hk, e1]
          · obtain ⟨l', q, h2, h3⟩ := skip p (by omega)
            refine ⟨l', q, Ev.step (fun k => ?_) h2, h3⟩
            simp only [spec_l91Graph.l1]
            rw [if_pos (by omega), if_neg k0, if_pos k1, e2, if_neg (by omega), if_neg (by omega), if_neg hk, e1]
      · by_cases hk : kind > 1
        · obtain ⟨l', q, h2, h3⟩ := draw
          refine ⟨l', q, Ev.step (fun k => ?_) h2, h3⟩
          simp only [spec_l91Graph.l1]
          rw [if_pos (by omega), if_neg k0, if_neg k1, if_pos hk, e1]
        · obtain ⟨l', q, h2, h3⟩ := skip p (by omega)
          refine ⟨l', q, Ev.step (fun k => ?_) h2, h3⟩
          simp only [spec_l91Graph.l1]
          rw [if_pos (by omega), if_neg k0, if_neg k1, if_neg hk, e1]
theorem l91Graph_out {b : List Int} (hb : Bytes b) (n : Nat) (hn : 1 ≤ n ∧ n ≤ 5) (kind : Int) (p0 : Nat) (hp0 : p0 ≤ 100000) :
    ∀ (d a : Nat), a + d = n → ∀ (l : List E) (p : Nat), l.length ≤ 5 * a → Small l → p ≤ p0 + 2 + 5 * a → DG b n p0 (fun k => spec_l91Graph.l0 k (n : Int) kind (a : Int) b (p : Int) (n : Int) l)
  | 0, a, h, l, p, hl, hs, hp => l91Graph_end hb n hn kind p0 hp0 a (by omega) (by omega) l p hl hs hp
  | d + 1, a, h, l, p, hl, hs, hp => by
    have e1 : wrap64 ((a : Int) + 1) = ((a + 1 : Nat) : Int) := by unfold wrap64; omega
    obtain ⟨l', q, h2, h3⟩ := l91Graph_in hb n hn kind p0 hp0 a (by omega) (fun l p h1 h2 h3 => l91Graph_out hb n hn kind p0 hp0 d (a + 1) (by omega) l p h1 h2 h3) (n - (a + 1)) (a + 1) (by omega) (by omega) l p (by omega) hs (by omega)
    refine ⟨l', q, Ev.step (fun k => ?_) h2, h3⟩
    simp only [spec_l91Graph.l0]
    rw [if_pos (by omega), e1]
theorem l91Graph_ev {b : List Int} (hb : Bytes b) (p : Nat) (hp : p ≤ 100000) : ∃ n l q, Ev (fun k => spec_l91Graph.f k b (p : Int)) (((n : Nat) : Int), l, ((q : Nat) : Int)) ∧ Drawn n l p q := by
  obtain ⟨x, hx, hx0, hx1⟩ := pick_ev hb p (by omega) 5 (by omega)
  obtain ⟨y, hy, hy0, hy1⟩ := pick_ev hb (p + 1) (by omega) 4 (by omega)
  obtain ⟨m, rfl⟩ := Int.eq_ofNat_of_zero_le hx0
  have e : wrap64 (1 + (m : Int)) = ((m + 1 : Nat) : Int) := by unfold wrap64; omega
  obtain ⟨l, q, h1, h2⟩ := l91Graph_out hb (m + 1) (by omega) y p hp (m + 1) 0 (by omega) [] (p + 2) (by simp) (fun e he => by cases he) (by omega)
  refine ⟨m + 1, l, q, ?_, h2⟩
  unfold spec_l91Graph.f
  refine Ev.bind hx (Ev.bind hy ?_)
  simp only [e]
  exact h1
theorem l6Open_eq {l : List Int} (h : ∀ x ∈ l, 0 ≤ x ∧ x ≤ 255) : ∃ b, spec_l6Open.f l = some (b, 0) ∧ Bytes b := by
  unfold spec_l6Open.f
  by_cases hl : (l.length : Int) > 2000
  · rw [if_pos hl, if_pos (by omega)]
    exact ⟨_, rfl, by simp; omega, fun x hx => h x (List.mem_of_mem_take hx)⟩
  · rw [if_neg hl]
    exact ⟨_, rfl, by omega, h⟩
theorem bytes_of_wf {l : List Int} (h : ∀ x ∈ l, (Lit.int .u8 x).wf = true) : ∀ x ∈ l, 0 ≤ x ∧ x ≤ 255 := by
  intro x hx
  have := h x hx
  simp [Lit.wf, IntKind.min, IntKind.max, IntKind.signed, IntKind.bits] at this
  omega
theorem Drawn.inR {n : Nat} {l : List E} {p q : Nat} (h : Drawn n l p q) : InR (n : Int) := by have := h.2.1; unfold InR; omega
theorem Drawn.wf {n : Nat} {l : List E} {p q : Nat} (h : Drawn n l p q) : WfE l :=
  ⟨by have := h.2.2.1; omega, fun e he => by have := h.2.2.2.1 e he; unfold InR; omega⟩
end Go.Proofs.Ytfijegfjpagjoaa.Q
