/- For each Go function named below: a plain Lean function of the same name, and the proof that a call of the Go function returns just what the plain function tells, where it tells something. Written by a program of this session with the printer of the kit. -/
import Derived.Test.YthoaebnnolbaaaaVG0
import Derived.Test.YthoaebnnolbaaaaVG3
import Derived.Test.YthoaebnnolbaaaaVG6
namespace Go.Proofs.Ythoaebnnolbaaaa.G
open Go.RowKit Go.Proofs.YthoaebnnolbaaaaW.PrintWords Go.Proofs.YthoaebnnolbaaaaW.PrintLast Go.Proofs.YthoaebnnolbaaaaW.PrintMore
attribute [local go_sem] max2_int min2_int max_two min_two max_three min_three max_four min_four   -- for this text's walks alone
set_option linter.unusedVariables false
set_option linter.unusedSimpArgs false

/-! ### impl_ScoreRows: function 14 -/
/-- A row that was not there comes to the end. -/
def rowU (acc : List (List Int)) (x : List Int) : List (List Int) := if x ∈ acc then acc else acc ++ [x]
def pad5 (t : List Int) : List Int := t ++ List.replicate (5 - t.length) 0
def wf5 (x : List Int) : Prop := x.length = 5 ∧ ∀ y ∈ x, (Lit.int .i64 y).wf = true
def keyV (x : List Int) : Value := .agg (x.map (Value.int .i64)).toArray
def keyL (x : List Int) : Lit := .string (keyBytes (x.map (Lit.int .i64)))
theorem rows_arr : Go.WideMaps.ArrKey Try.prog 62 3 5 := ⟨Try.underlying62, by kernel_rfl, by kernel_rfl, by kernel_rfl⟩
theorem rows_law : Go.WideMaps.KeyLaw Try.prog 62 := rows_arr.law
theorem rows_keyed : Go.Maps.Keyed Try.prog 62 := Go.Maps.Keyed.of_law rows_law
theorem rows_types : ∃ m, Try.prog.types.size = m + 1 := by
 have h : 0 < Try.prog.types.size := of_decide_eq_true (by kernel_rfl)
 exact ⟨Try.prog.types.size - 1, by omega⟩
theorem mapM_ints (P : Program) (e : TypeId) (m0 : Nat) (he : P.underlying e = some (.int .i64)) : ∀ (x : List Int) (pre : List Int), (∀ y ∈ x, (Lit.int .i64 y).wf = true) →
  ((List.range' pre.length x.length).mapM fun i => P.keyLits (m0 + 1) e ((((pre ++ x).map (Value.int .i64)).drop (i * 1)).take 1)) = some (x.map fun y => [Lit.int .i64 y])
 | [], pre, _ => by simp
 | y :: r, pre, h => by
  have ih := mapM_ints P e m0 he r (pre ++ [y]) (fun z hz => h z (List.mem_cons_of_mem _ hz)); have hy := h y List.mem_cons_self
  rw [List.length_cons, List.range'_succ, List.mapM_cons]
  have e0 : ((((pre ++ y :: r).map (Value.int .i64)).drop (pre.length * 1)).take 1) = [.int .i64 y] := by
   rw [Nat.mul_one, List.map_append, List.drop_append_of_le_length (by simp), List.drop_of_length_le (by simp)]
   simp
  have e1 : pre ++ y :: r = (pre ++ [y]) ++ r := by simp
  rw [e0, e1]
  have e2 : (pre ++ [y]).length = pre.length + 1 := by simp
  rw [e2] at ih
  rw [ih]
  simp [Program.keyLits, he, hy]
theorem flat_ones : ∀ l : List Int, ((l.map fun y => [Lit.int .i64 y])).flatten = l.map (Lit.int .i64)
 | [] => rfl
 | a :: r => by simp [flat_ones r]
theorem rows_key {x : List Int} (h : wf5 x) : keyOf Try.prog 62 (keyV x) = some (keyL x) := by
 obtain ⟨m0, hm0⟩ := rows_types; have hkt := rows_arr.keyType ⟨m0, hm0⟩
 unfold keyOf keyV
 simp only [rows_arr.hu]
 rw [if_pos (by simp [hkt, Value.formed, rows_arr.hu, rows_arr.size, h.1]), hm0]
 unfold Program.keyLits
 simp only [rows_arr.hu, Value.cells, rows_arr.one]
 rw [if_pos (by rw [rows_arr.size]; simpa using h.1)]
 have hm := mapM_ints Try.prog 3 m0 Try.underlying3 x [] h.2
 simp only [List.nil_append, List.length_nil] at hm
 rw [h.1] at hm
 rw [List.range_eq_range', hm]
 simp [keyL, flat_ones]
theorem keyV_inj : ∀ {x y : List Int}, keyV x = keyV y → x = y := by
 intro x y h
 simp only [keyV, Value.agg.injEq] at h
 have h2 := congrArg Array.toList h
 simp only [List.toList_toArray] at h2
 have h3 : ∀ (a b : List Int), a.map (Value.int .i64) = b.map (Value.int .i64) → a = b := by
  intro a
  induction a with
  | nil => intro b h; cases b with
   | nil => rfl
   | cons _ _ => simp at h
  | cons u v ih => intro b h; cases b with
   | nil => simp at h
   | cons p q =>
    simp only [List.map_cons, List.cons.injEq, Value.int.injEq, true_and] at h
    rw [h.1, ih q h.2]
 exact h3 x y h2
theorem keyL_inj {x y : List Int} (hx : wf5 x) (hy : wf5 y) (h : keyL x = keyL y) : x = y := by
 have h1 := rows_key hx; have h2 := rows_key hy
 rw [h] at h1
 exact keyV_inj (rows_law.inj h1 h2)
theorem keyL_same (x y : List Int) (hx : wf5 x) (hy : wf5 y) : (keyL x).sameKey (keyL y) = decide (x = y) := by
 by_cases e : x = y
 ·subst e
  rw [decide_eq_true rfl]
  simp [keyL, Lit.sameKey]
 ·rw [decide_eq_false e]
  exact Go.Maps.sameKey_ne fun h => e (keyL_inj hx hy h)
theorem rowU_keys : ∀ (xs acc : List (List Int)), (∀ x ∈ xs, wf5 x) → (∀ x ∈ acc, wf5 x) → ((xs.map keyL).foldl Go.Maps.addKey (acc.map keyL)).length = (xs.foldl rowU acc).length
 | [], acc, _, _ => by simp
 | x :: r, acc, hx, ha => by
  have h1 := hx x List.mem_cons_self
  have hany : (acc.map keyL).any (fun y => y.sameKey (keyL x)) = decide (x ∈ acc) := by
   rw [List.any_map, Bool.eq_iff_iff, List.any_eq_true, decide_eq_true_eq]
   constructor
   ·rintro ⟨y, hy, h⟩
    have h : (keyL y).sameKey (keyL x) = true := h
    rw [keyL_same y x (ha y hy) h1, decide_eq_true_eq] at h
    rw [← h]; exact hy
   ·intro h
    exact ⟨x, h, by show (keyL x).sameKey (keyL x) = true; rw [keyL_same x x h1 h1]; simp⟩
  rw [List.map_cons, List.foldl_cons, List.foldl_cons]
  have e : Go.Maps.addKey (acc.map keyL) (keyL x) = (rowU acc x).map keyL := by
   unfold Go.Maps.addKey rowU
   rw [hany]
   by_cases hm : x ∈ acc
   ·rw [if_pos (by simpa using hm), if_pos hm]
   ·rw [if_neg (by simpa using hm), if_neg hm]; simp
  rw [e]
  refine rowU_keys r (rowU acc x) (fun y hy => hx y (List.mem_cons_of_mem _ hy)) fun y hy => ?_
  unfold rowU at hy
  split at hy
  ·exact ha y hy
  ·rw [List.mem_append, List.mem_singleton] at hy
   rcases hy with hy | rfl
   ·exact ha y hy
   ·exact h1
theorem rows_size (xs : List (List Int)) (h : ∀ x ∈ xs, wf5 x) : Go.Maps.size (Go.Maps.setOf (H := Unit) (.lit (.bool true)) (xs.map keyL)) = (xs.foldl rowU []).length := by
 rw [Go.Maps.size_setOf _ _ (fun y hy => by obtain ⟨_, _, rfl⟩ := List.mem_map.1 hy; trivial)]
 exact rowU_keys xs [] h (by simp)
/-- copy(row[:], t) into a block of five noughts. -/
theorem copy_five {P : Program} {w : World} {b c : Nat} {A : Option Addr} {t : List Int} {e e5 tT : TypeId} (hu : P.underlying tT = some (.slice e)) (hs : (P.info? e).map (·.size) = some 1)
  (hb : w.heap[b]? = some (.cells #[.int .i64 0, .int .i64 0, .int .i64 0, .int .i64 0, .int .i64 0] e5 (0, 0))) (hr : Kd.C (Kd.int .i64) w A t.length t) (h1 : 1 ≤ t.length) (h5 : t.length ≤ 5) (ty : TypeId) :
  ∃ w1 cur, (Builtin.copy_ #[tT, tT] ty #[.slice (some ⟨b, 0, none⟩) 5 5, .slice A t.length c]).run P w = .ok (goInt t.length) w1 ∧ w.grownBy w1 (some b) ∧ w1.heap[b]? = some (.cells cur e5 (0, 0)) ∧ cur.toList = (pad5 t).map (Value.int .i64) := by
 have hR := Kd.reads_of_C (d := (0 : Int)) (h1 := fun _ => rfl) hr; obtain ⟨ad, hA, hc⟩ := hR.2.2 (by omega); subst hA; have hcs : (t.map (Value.int .i64)).length = t.length := by simp
 have hrun := run_copy_cells (P := P) w tT tT ty e b 0 5 5 ad t.length c (t.map (Value.int .i64)) hu hs (by rw [hcs]; show t.length = min t.length 5; omega)
  (fun j v hj => by
   have hjl : j < t.length := by
    rcases Nat.lt_or_ge j t.length with h | h
    ·exact h
    ·rw [List.getElem?_eq_none (by rw [hcs]; exact h)] at hj; cases hj
   rw [List.getElem?_map, List.getElem?_eq_getElem hjl] at hj
   have := hc j hjl
   rw [this, ← hj]
   simp [List.getElem?_eq_getElem hjl])
  (fun j hj => by
   rw [cell_of_row w b _ _ e5 (0, 0) hb]
   rw [hcs] at hj
   have : 0 + j < 5 := by omega
   generalize 0 + j = i at this
   have : i = 0 ∨ i = 1 ∨ i = 2 ∨ i = 3 ∨ i = 4 := by omega
   rcases this with rfl | rfl | rfl | rfl | rfl <;> rfl)
  (fun j _ => blk_frozen hb _) (by intro u hu; simp only [List.mem_map] at hu; obtain ⟨q, _, rfl⟩ := hu; rfl)
 obtain ⟨cur', h3, h4, h6⟩ := setCells_row (t.map (Value.int .i64)) 0 w _ hb (by rw [hcs]; show 0 + t.length ≤ 5; omega); obtain ⟨s1, s2, s3, s4⟩ := setCells_same b (t.map (Value.int .i64)) 0 w
 refine ⟨_, cur', by rw [hrun, hcs], ⟨s1, s2, s3, by rw [s4]; exact Nat.le_refl _, fun k _ hk => setCells_far _ _ k (fun he => hk (by rw [he]))⟩, h3, ?_⟩
 rw [h6, hcs]
 unfold pad5
 have : t.length = 1 ∨ t.length = 2 ∨ t.length = 3 ∨ t.length = 4 ∨ t.length = 5 := by omega
 rcases this with h | h | h | h | h <;> simp [h] <;> rfl
theorem five_of {x : List Int} (h : x.length = 5) : ∃ a b c d e, x = [a, b, c, d, e] := by
 match x, h with
 | [a, b, c, d, e], _ => exact ⟨a, b, c, d, e, rfl⟩
/-- A builtin that is known to run, one step of a region. -/
theorem builtin_step_ {P : Program} {ops : Array Oper} {Q : Exit → Act → World → Prop} {oi : Oper} {N : Option Tmp} {a : Act} {w w1 : World} {K : Act → World → Prop} {v : Value} (hw : Region.wanted oi (yielded ops a.tmps) = true) (hN : oi.dst = N) (s x : Operand) (t t' : TypeId)
  (hop : oi.op = .call { callee := .builtin .copy, args := #[s, x], argTypes := #[t, t'] }) (hrun : (Builtin.copy_ #[t, t'] oi.type #[a.eval s, a.eval x]).run P w = .ok v w1) (h : K (a.put N v) w1) : if Region.wanted oi (yielded ops a.tmps) = true then Oper.wp P oi a w K Q else K (a.put N undef) w := by
 rw [if_pos hw]
 subst hN
 unfold Oper.wp execOp
 simp only [hop, resolve, invoke, builtin, Sem.run_bind, Sem.run_pure, Result.andThen_ok, List.map_toArray, List.map_cons, List.map_nil, hrun]
 exact h
def rowOk (t : List Int) : Bool := decide (1 ≤ t.length ∧ t.length ≤ 5) && t.all fun y => (Lit.int .i64 y).wf
def impl_ScoreRows.l0 (n : Int) (es : List (S69)) (N : Int) : Nat → List (List Int) → Int → Option Int
 | 0, _, _ => none
 | k + 1, xs, o => if o < N then (if xs.length < 1048576 then ((impl_outOf.f k n es o).bind fun t => if rowOk t = true then impl_ScoreRows.l0 n es N k (xs ++ [pad5 t]) (wrap64 (o + 1)) else none) else none) else some (((xs.foldl rowU []).length : Nat) : Int)
def impl_ScoreRows.f (k : Nat) (a0_0 : Int) (l0_1 : List (S69)) : Option (Int × Bool) := (impl_WayGraph.f k a0_0 l0_1).bind fun t => (if t = true then ((impl_ScoreRows.l0 a0_0 l0_1 (shl .i64 1 (l0_1.length : Int)) k [] 0).bind fun m => some (m, true)) else some (0, false))
theorem rowOk_wf {t : List Int} (h : rowOk t = true) : wf5 (pad5 t) := by
 simp only [rowOk, Bool.and_eq_true, decide_eq_true_eq, List.all_eq_true] at h
 refine ⟨by simp [pad5]; omega, fun y hy => ?_⟩
 simp only [pad5, List.mem_append, List.mem_replicate] at hy
 rcases hy with hy | ⟨_, rfl⟩
 ·exact h.2 y hy
 ·decide
set_option maxHeartbeats 8000000 in
set_option maxRecDepth 100000 in
theorem impl_ScoreRows.calls (k : Nat) (a0_0 : Int) (A0_1 : Option Addr) (c0_1 : Nat) (l0_1 : List (S69)) (r1 : Int) (r2 : Bool) (w : World) (hr0_1 : Kd.C k69 w A0_1 l0_1.length l0_1) (hc0_1 : l0_1.length ≤ c0_1) (h : impl_ScoreRows.f k a0_0 l0_1 = some (r1, r2)) :
  Calls Try.prog 14 #[.agg #[.int .i64 a0_0, .slice A0_1 l0_1.length c0_1]] w fun e w' => e = .returned (.tuple #[.int .i64 r1, .bool r2]) ∧ Below w.heap.size w w' := by
 have hu := Try.underlying25; have hmm := @run_makeMap Try.prog; have HR := Aside0.mk hr0_1; have HC := Aside0.mk hc0_1; have hb0 : Below w.heap.size w (w.alloc (.cells #[.int .i64 a0_0, .slice A0_1 l0_1.length c0_1] 25)) := (Below.refl _ _).alloc (Nat.le_refl _) _; have hbk : (w.alloc (.cells #[.int .i64 a0_0, .slice A0_1 l0_1.length c0_1] 25)).heap[w.heap.size]? = some (.cells #[.int .i64 a0_0, .slice A0_1 l0_1.length c0_1] 25 (0, 0)) := heap_alloc_new w _; have HB0 := Aside0.mk hb0; have HBK := Aside0.mk hbk; clear hb0 hbk; clear hr0_1 hc0_1
 unfold impl_ScoreRows.f at h
 obtain ⟨t, A1, h⟩ := Option.bind_eq_some_iff.mp h; have A1' := Aside0.mk A1; clear A1
 cases t with
 | false =>
  have h1 : r1 = 0 ∧ r2 = false := by simpa [eq_comm] using h
  obtain ⟨rfl, rfl⟩ := h1; clear h
  go_enter Try.func14, Try.ntmps14
  go_wp2_with fail
  refine (impl_WayGraph.calls k a0_0 _ _ l0_1 false _ (Kd.C_below HR.out HB0.out) HC.out A1'.out).mono ?_
  rintro e w1 ⟨rfl, hb1⟩
  have HB1 := Aside0.mk (below_step HB0.out hb1); clear hb1
  go_wp2
  go_ret2
  exact ⟨rfl, HB1.out⟩
 | true =>
  obtain ⟨m, A2, h⟩ := Option.bind_eq_some_iff.mp (show ((impl_ScoreRows.l0 a0_0 l0_1 (shl .i64 1 (l0_1.length : Int)) k [] 0).bind fun m => some (m, true)) = some (r1, r2) from h); have h1 : m = r1 ∧ true = r2 := by simpa using h
  obtain ⟨rfl, rfl⟩ := h1; clear h; obtain ⟨ji, hji⟩ : ∃ j_ : Int, (shl .i64 1 (l0_1.length : Int)) = j_ := ⟨_, rfl⟩
  rw [hji] at A2
  have hji_ : (IntKind.i64.wrap (1 * 2 ^ min (l0_1.length : Int).toNat 64)) = ji := hji; have hjiu : (IntKind.i64.wrap (2 ^ min (l0_1.length : Int).toNat 64)) = ji := by have h_ := hji_; rw [Int.one_mul] at h_; exact h_
  have hjiy : (wrap64 (1 * 2 ^ min (l0_1.length : Int).toNat 64)) = ji := (i64_w _).symm.trans hji_; have hjin : (IntKind.i64.wrap (2 ^ min l0_1.length 64)) = ji := hjiu; have hjip : wrap64 (2 ^ min l0_1.length 64) = ji := (i64_w _).symm.trans hjin; clear hji; have A2' := Aside0.mk A2; clear A2
  go_enter Try.func14, Try.ntmps14
  go_wp2_with fail
  refine (impl_WayGraph.calls k a0_0 _ _ l0_1 true _ (Kd.C_below HR.out HB0.out) HC.out A1'.out).mono ?_
  rintro e w1 ⟨rfl, hb1⟩
  have HB1 := Aside0.mk (below_step HB0.out hb1); have HBK1 := Aside0.mk (blk_below HBK.out hb1); clear hb1; have hcz_0 : w1.cell? ⟨w.heap.size, 0, none⟩ = some (.int .i64 a0_0) := (blk_cell HBK1.out 0).trans rfl; have hcz_1 : w1.cell? ⟨w.heap.size, 1, none⟩ = some (.slice A0_1 l0_1.length c0_1) := (blk_cell HBK1.out 1).trans rfl; have HBK2 := Aside0.mk (blk_alloc HBK1.out (.map #[] 0)); have hcy_0 : (w1.alloc (.map #[] 0)).cell? ⟨w.heap.size, 0, none⟩ = some (.int .i64 a0_0) := (blk_cell HBK2.out 0).trans rfl; have hcy_1 : (w1.alloc (.map #[] 0)).cell? ⟨w.heap.size, 1, none⟩ = some (.slice A0_1 l0_1.length c0_1) := (blk_cell HBK2.out 1).trans rfl; have HOWN := Aside0.mk (Go.World.ownsMap_made w1 Try.prog 62 (plainElem (H := Unit) Try.prog 4)); have HLT := Aside0.mk (show w.heap.size < w1.heap.size from (Array.getElem?_eq_some_iff.1 HBK1.out).1); have HB2 := Aside0.mk (HB1.out.alloc (Nat.le_of_lt HLT.out) (.map #[] 0))
  go_wp2
  clear hcz_0 hcz_1 hcy_0 hcy_1
  generalize w1.heap.size = bm at HOWN HLT ⊢
  generalize (w1.alloc (.map #[] 0)) = w2 at HOWN HB2 HBK2 ⊢
  clear HB1 HBK1
  go_loopg [15] k (fun kq v15 w' => ∃ (xs : List (List Int)) (o : Int), v15 = .int .i64 o ∧ Aside0 (impl_ScoreRows.l0 a0_0 l0_1 ji kq xs o = some m) ∧ Aside0 (kq ≤ k) ∧ Aside0 (Below w.heap.size w w') ∧ Aside0 (w'.heap[w.heap.size]? = some (.cells #[.int .i64 a0_0, .slice A0_1 l0_1.length c0_1] 25 (0, 0))) ∧ Aside0 (w'.ownsMap Try.prog 62 (plainElem (H := Unit) Try.prog 4) bm xs.length (Go.Maps.setOf (.lit (.bool true)) (xs.map keyL))) ∧ Aside0 (∀ x ∈ xs, wf5 x))
  case atStart => exact ⟨[], 0, rfl, A2', ⟨Nat.le_refl _⟩, HB2, HBK2, HOWN, ⟨by simp⟩⟩
  case round =>
   clear A2' HB2 HBK2 HOWN; obtain ⟨xs, o, rfl, HA, HKQ, HB, HG, HO, HW⟩ := hrel
   cases gk with
   | zero => exact absurd HA.out (by simp [impl_ScoreRows.l0])
   | succ k1 =>
    have H := HA.out; clear HA
    simp only [impl_ScoreRows.l0] at H
    by_cases c1 : o < ji
    ·rw [if_pos c1] at H
     by_cases c2 : xs.length < 1048576
     ·rw [if_pos c2] at H
      obtain ⟨t, A3, H⟩ := Option.bind_eq_some_iff.mp H; have A3' := Aside0.mk A3
      by_cases c3 : rowOk t = true
      ·rw [if_pos c3] at H
       have H' := Aside0.mk H; have HX := Aside0.mk c2; have HRO := Aside0.mk c3; have c1b : decide (o < ji) = true := decide_eq_true c1; clear H A3 c1 c2 c3; have hu62 := Try.underlying62; have hu30 := Try.underlying30
       go_wp2
       have HBa := Aside0.mk (HB.out.alloc HB.out.size (.cells #[.int .i64 0, .int .i64 0, .int .i64 0, .int .i64 0, .int .i64 0] 62)); have HGa := Aside0.mk (blk_alloc HG.out (.cells #[.int .i64 0, .int .i64 0, .int .i64 0, .int .i64 0, .int .i64 0] 62)); have HOa := Aside0.mk (HO.out.alloc (.cells #[.int .i64 0, .int .i64 0, .int .i64 0, .int .i64 0, .int .i64 0] 62)); have HNa := Aside0.mk (heap_alloc_new wr (.cells #[.int .i64 0, .int .i64 0, .int .i64 0, .int .i64 0, .int .i64 0] 62)); have HBM := Aside0.mk HO.out.lt; have HSZ := Aside0.mk HB.out.size
       generalize wr.heap.size = ba at HNa HBM HSZ ⊢
       generalize (wr.alloc (.cells #[.int .i64 0, .int .i64 0, .int .i64 0, .int .i64 0, .int .i64 0] 62)) = wa at HBa HGa HOa HNa ⊢
       clear HB HG HO; have HBd := Aside0.mk (below_step HBa.out (below_drew1 (Below.refl wa.heap.size wa))); have HGd := Aside0.mk (blk_drew HGa.out); have HOd := Aside0.mk (HOa.out.drew); have HNd := Aside0.mk (blk_drew HNa.out); have hW : wa.drew.cell? ⟨w.heap.size, 0, none⟩ = some (.int .i64 a0_0) ∧ wa.drew.cell? ⟨w.heap.size, 1, none⟩ = some (.slice A0_1 l0_1.length c0_1) := ⟨(blk_cell HGd.out 0).trans rfl, (blk_cell HGd.out 1).trans rfl⟩
       refine start_ (n := 5) (S := fun w' => w'.cell? ⟨w.heap.size, 0, none⟩ = some (.int .i64 a0_0) ∧ w'.cell? ⟨w.heap.size, 1, none⟩ = some (.slice A0_1 l0_1.length c0_1)) (ds := []) #[false, false, false, false, false] (by kernel_rfl) rfl rfl hW (fun hHeld => ?_)
       generalize wa.drew = wd at HBd HGd HOd HNd hHeld ⊢
       clear hW HBa HGa HOa HNa
       refine pure_ (i := 0) (N := some 19) (v := ?_) (a' := ?_) #[true, false, false, false, false] rfl rfl (by kernel_rfl) (fun _ _ _ h => h) (Or.inl ⟨by rfl, ?_⟩) ?_ ?_
       rotate_left
       ·intro w'
        go_simp
        with_reducible rfl
       rotate_left
       ·simp only [Act.put, List.setIfInBounds_toArray, List.set_cons_zero, List.set_cons_succ, i64_w, i32_w]
        rfl
       refine take_ (i := 1) (N := some 20) (v := ?_) (a' := ?_) #[true, true, false, false, false] rfl rfl (by kernel_rfl) (fun _ _ _ h => h) (Or.inl ⟨by rfl, ?_⟩) hHeld ?_ ?_
       rotate_left
       ·intro w' s0
        obtain ⟨s0, s1⟩ := s0
        go_simp
        with_reducible rfl
       rotate_left
       ·simp only [Act.put, List.setIfInBounds_toArray, List.set_cons_zero, List.set_cons_succ, i64_w, i32_w]
        rfl
       refine pure_ (i := 2) (N := some 21) (v := ?_) (a' := ?_) #[true, true, true, false, false] rfl rfl (by kernel_rfl) (fun _ _ _ h => h) (Or.inl ⟨by rfl, ?_⟩) ?_ ?_
       rotate_left
       ·intro w'
        go_simp
        with_reducible rfl
       rotate_left
       ·simp only [Act.put, List.setIfInBounds_toArray, List.set_cons_zero, List.set_cons_succ, i64_w, i32_w]
        rfl
       have hHeld0 := Aside0.mk hHeld
       refine one_ (i := 3) (N := some 22) #[true, true, true, true, false] rfl rfl (by kernel_rfl) (by decide) (fun K hK => ?_)
       refine goes_ (f := 49) Try.func49 (by kernel_rfl) rfl #[.agg #[.int .i64 a0_0, .slice A0_1 l0_1.length c0_1], .int .i64 o] (by rfl) rfl rfl (by (try simp only [List.map_toArray, List.map_cons, List.map_nil]); first | done | rfl) ?_
       refine (impl_outOf.calls k1 a0_0 _ _ l0_1 o t wd (Kd.C_below HR.out HBd.out) HC.out A3'.out).mono ?_
       rintro e w5 ⟨v22, rfl, ho, hb⟩
       refine ⟨_, rfl, ?_⟩
       obtain ⟨A22, cc22, hv22⟩ := Kd.R_slice ho; subst hv22; have HV := Aside0.mk (Kd.R_reads' ho).2.2; have HB5 := Aside0.mk (below_step HBd.out hb); have HG5 := Aside0.mk (blk_below HGd.out hb); have HN5 := Aside0.mk (blk_below HNd.out hb); have HO5 := Aside0.mk (Go.World.ownsMap.kept HOd.out (show wd.grownBy w5 none from ⟨hb.os, hb.tape, hb.output, hb.size, fun k hk _ => hb.block k hk⟩) (by simp))
       refine hK.out _ _ ⟨(hb.cell (World.block_lt_of_cell? _ _ hHeld0.out.1)).trans hHeld0.out.1, (hb.cell (World.block_lt_of_cell? _ _ hHeld0.out.2)).trans hHeld0.out.2⟩ (fun hHeld => ?_)
       clear ho hb HBd HGd HNd HOd hHeld0; clear hK K
       refine norm_ (a' := ?_) ?_ ?_
       rotate_left
       ·show Act.put _ (some 22) _ = _
        simp only [Act.put, List.setIfInBounds_toArray, List.set_cons_zero, List.set_cons_succ, i64_w, i32_w]
        rfl
       obtain ⟨w6, cur, hrun, hg6, hN6, hcur⟩ := copy_five (tT := 30) (e := 3) (c := cc22) Try.underlying30 (by kernel_rfl) HN5.out HV.out (by have h_ := HRO.out; simp only [rowOk, Bool.and_eq_true, decide_eq_true_eq] at h_; exact h_.1.1) (by have h_ := HRO.out; simp only [rowOk, Bool.and_eq_true, decide_eq_true_eq] at h_; exact h_.1.2) 3; have HB6 := Aside0.mk (HB5.out.grown hg6 HB5.out.size (fun j hj => by cases hj; exact HSZ.out)); have HG6 := Aside0.mk (blk_grown HG5.out hg6 (fun e_ => by have := HLT.out; have := HBM.out; simp at e_; omega)); have HO6 := Aside0.mk (HO5.out.kept hg6 (fun e_ => by have := HBM.out; simp at e_; omega)); have HN6 := Aside0.mk hN6
       refine one_ (i := 4) (N := some 23) #[true, true, true, true, true] rfl rfl (by kernel_rfl) (by decide) (fun K hK => ?_)
       refine builtin_step_ (by rfl) rfl _ _ _ _ rfl hrun ?_
       refine hK.out _ _ ⟨(blk_cell HG6.out 0).trans rfl, (blk_cell HG6.out 1).trans rfl⟩ (fun hHeld => ?_)
       clear hrun hg6 hN6 HB5 HG5 HN5 HO5; clear hK K
       refine done_ (by kernel_rfl) ?_
       obtain ⟨y0, y1, y2, y3, y4, hy⟩ := five_of (rowOk_wf HRO.out).1
       have hcur2 : cur = #[.int .i64 y0, .int .i64 y1, .int .i64 y2, .int .i64 y3, .int .i64 y4] := by
        apply Array.toList_inj.1
        rw [hcur, hy]; rfl
       subst hcur2; have hx0 := (blk_cell HN6.out 0).trans (rfl : (#[.int .i64 y0, .int .i64 y1, .int .i64 y2, .int .i64 y3, .int .i64 y4] : Array Value)[0]? = some (.int .i64 y0)); have hx1 := (blk_cell HN6.out 1).trans (rfl : (#[.int .i64 y0, .int .i64 y1, .int .i64 y2, .int .i64 y3, .int .i64 y4] : Array Value)[1]? = some (.int .i64 y1)); have hx2 := (blk_cell HN6.out 2).trans (rfl : (#[.int .i64 y0, .int .i64 y1, .int .i64 y2, .int .i64 y3, .int .i64 y4] : Array Value)[2]? = some (.int .i64 y2)); have hx3 := (blk_cell HN6.out 3).trans (rfl : (#[.int .i64 y0, .int .i64 y1, .int .i64 y2, .int .i64 y3, .int .i64 y4] : Array Value)[3]? = some (.int .i64 y3)); have hx4 := (blk_cell HN6.out 4).trans (rfl : (#[.int .i64 y0, .int .i64 y1, .int .i64 y2, .int .i64 y3, .int .i64 y4] : Array Value)[4]? = some (.int .i64 y4)); have HKEY := Aside0.mk (show keyOf Try.prog 62 (.agg #[.int .i64 y0, .int .i64 y1, .int .i64 y2, .int .i64 y3, .int .i64 y4]) = some (keyL (pad5 t)) from by have h_ := rows_key (rowOk_wf HRO.out); rw [hy] at h_ ⊢; exact h_); clear hcur hHeld
       go_wp2_with (at_mapUpdate; refine wpList_mapUpdate_own _ rfl _ _ _ 61 rfl 62 4 rows_keyed Try.underlying61 (plainElem (H := Unit) Try.prog 4) bm xs.length _ rfl HO6.out (by have := HX.out; unfold maxLen; omega) _ _ _ rfl rfl HKEY.out _ [] (plainElem_bool Try.underlying4 true) ?_; intro w7 hown7 hgrow7; have HO7 := Aside0.mk hown7; have HB7 := Aside0.mk (HB6.out.grown hgrow7 HB6.out.size (fun j hj => by cases hj; exact Nat.le_of_lt HLT.out)); have HG7 := Aside0.mk (blk_grown HG6.out hgrow7 (fun e_ => by have := HLT.out; simp at e_; omega)); clear hown7 hgrow7)
       go_roundg k1
       case measure => have := HKQ.out; omega
       case rel => exact ⟨xs ++ [pad5 t], wrap64 (o + 1), by first | rfl | (simp; done), H', ⟨by have := HKQ.out; omega⟩, HB7, HG7, ⟨by have h_ := HO7.out; rw [List.length_append, List.map_append, List.map_cons, List.map_nil, Go.Maps.setOf_snoc]; exact h_⟩, ⟨fun x hx => by
        rw [List.mem_append, List.mem_singleton] at hx
        rcases hx with hx | rfl
        ·exact HW.out x hx
        ·exact rowOk_wf HRO.out⟩⟩
      ·rw [if_neg c3] at H
       exact absurd H (by simp)
     ·rw [if_neg c2] at H
      exact absurd H (by simp)
    ·rw [if_neg c1] at H
     have c1b : decide (o < ji) = false := decide_eq_false c1; have hb : (((xs.foldl rowU []).length : Nat) : Int) = m := Option.some.inj H; clear H c1; have hl := Go.World.ownsMap.len HO.out Try.underlying61 3
     rw [rows_size xs HW.out, hb] at hl
     clear hb
     go_wp2
     go_ret2
     exact ⟨rfl, HB.out⟩

end Go.Proofs.Ythoaebnnolbaaaa.G
