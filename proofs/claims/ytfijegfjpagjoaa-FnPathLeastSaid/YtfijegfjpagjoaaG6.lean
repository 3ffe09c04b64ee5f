/- For each Go function named below: a plain Lean function of the same name, and the proof that a call of the Go function returns just what the plain function tells, where it tells something. Written by a program of this session with the printer of the kit. -/
import Derived.Test.YtfijegfjpagjoaaG0
import Derived.Test.YtfijegfjpagjoaaG2
namespace Go.Proofs.Ytfijegfjpagjoaa.G
open Go.RowKit Go.Proofs.YtfijegfjpagjoaaW.PrintWords Go.Proofs.YtfijegfjpagjoaaW.PrintLast Go.Proofs.YtfijegfjpagjoaaW.PrintMore
attribute [local go_sem] max2_int min2_int max_two min_two max_three min_three max_four min_four   -- for this text's walks alone
set_option linter.unusedVariables false
set_option linter.unusedSimpArgs false

/-! ### impl_paths: function 69 -/
theorem eqnil_in {P : Program} (w : World) (d : Nat) (t e : TypeId) (a : Addr) (n c : Nat) (h : P.underlying t = some (.slice e)) : (Op.equalIn (d + 1) t (.slice (some a) n c) (.slice none 0 0)).run P w = .ok false w := by
 simp [Op.equalIn, run_underlying h]
theorem eqnil_run {P : Program} (w : World) (t e : TypeId) (a : Addr) (n c : Nat) (h : P.underlying t = some (.slice e)) : (binOp .eql t (.slice (some a) n c) (.slice none 0 0)).run P w = .ok (.bool false) w := by
 simp only [binOp]
 simp [Op.equal, Op.maxDepth, eqnil_in w 9999 t e a n c h]
def slices_Clone.f (l : List Int) : Option (List Int) := if l.length < 17592186044416 then some l else none
set_option maxHeartbeats 8000000 in
set_option maxRecDepth 100000 in
theorem slices_Clone.calls (A : Addr) (c : Nat) (l : List Int) (r : List Int) (w : World) (hr : Kd.C (Kd.int .i64) w (some A) l.length l) (hc : l.length ≤ c) (h : slices_Clone.f l = some r) :
  Calls Try.prog 112 #[.slice (some A) l.length c] w fun e w' => ∃ v0_ : Value, e = .returned (v0_) ∧ Kd.R (Kd.int .i64) 3 w' w.heap.size (fun _ => True) v0_ r ∧ Below w.heap.size w w' := by
 have HR := Aside0.mk hr; have HC := Aside0.mk hc; have HB := Aside0.mk (Below.refl w.heap.size w); clear hr hc
 unfold slices_Clone.f at h
 by_cases hl : l.length < 17592186044416
 ·rw [if_pos hl] at h
  have hlr : l = r := Option.some.inj h; subst hlr; have HL := Aside0.mk hl; clear h hl; have hne : ∀ W : World, (binOp .eql 39 (.slice (some A) l.length c) (.slice none 0 0)).run Try.prog W = .ok (.bool false) W := fun W => eqnil_run W 39 3 A l.length c Try.underlying39
  go_enter Try.func112, Try.ntmps112
  go_wp2_with (first
   | ((with_reducible refine gate_dst (N := 5) rfl ?_); refine Kd.R_lit (Kd.int .i64) (w0 := w) w.heap.size 3 ?hg (N := 5) ?hd (xs := ([] : List Int)) (inner := []) (ok := fun _ => True) (okp := fun _ => True) ?hr ?hp (fun _ hk => hk) trivial HB.out (Nat.le_refl _) (by simp) ?_; (case hd => rfl); (case hg => rfl); (case hr => first | (go_simp; done) | (go_simp; rfl)); (case hp => exact (Reps.none _ _)); intro v5 w5 ho5 hb5 hg5 hn5; have HO5 := Aside0.mk ho5; have HB5 := Aside0.mk hb5; clear ho5 hb5 hg5 hn5)
   | ((with_reducible refine gate_builtin (b := .append) (xs := #[.tmp 5, .tmp 6]) rfl ?_); at_builtin; refine Kd.R_append_row (Value.int .i64) (0 : Int) (w0 := w) w.heap.size rfl (.tmp 5) (.tmp 6) 39 3 (.int .i64 0) 8 rfl Try.underlying39 info3 rfl (by decide) v5 ([] : List Int) l (some A) l.length c (fun _ => True) rfl rfl (fun _ _ => trivial) HO5.out (Kd.C_below HR.out HB5.out) HB5.out HB5.out.size (by have := HL.out; simp; omega) ?_; intro v7 w7 ho7 hb7 hg7 ha7; have HO7 := Aside0.mk ho7; have HB7 := Aside0.mk hb7; clear ho7 hb7 hg7 ha7))
  go_ret
  exact ⟨_, rfl, HO7.out, HB7.out⟩
 ·rw [if_neg hl] at h
  exact absurd h (by simp)
theorem add_zero_ (g k : Nat) : (⟨g, 0, none⟩ : Addr).add k = ⟨g, k, none⟩ := by
 simp only [Addr.add]
 split <;> simp_all
/-- A call of a function value that lies in a slot, one step of a region: what it has captured stands behind its arguments. -/
theorem goesVs_ {P : Program} {ops : Array Oper} {Q : Exit → Act → World → Prop} {oi : Oper} {N : Option Tmp} {a : Act} {w : World} {K : Act → World → Prop} {f : FuncId} {fn : Func} {t : Nat} {ar : Array Operand} {ts : Array TypeId} {caps : Array Value}
  (hf : P.funcs[f]? = some fn) (hname : (fn.name == "runtime.NumGoroutine") = false) (hb : fn.body.isSome = true) (args : Array Value)
  (hw : Region.wanted oi (yielded ops a.tmps) = true) (hN : oi.dst = N) (hop : oi.op = .call { callee := .value (.tmp t), args := ar, argTypes := ts }) (hv : a.eval (.tmp t) = .func (.func f) #[] caps) (hargs : ar.map a.eval = args)
  (h : Calls P f (args ++ caps) w fun e w' => ∃ v, e = .returned v ∧ K (a.put N v) w') : if Region.wanted oi (yielded ops a.tmps) = true then Oper.wp P oi a w K Q else K (a.put N undef) w := by
 refine call_ f (args ++ caps) hw hN ?_ h
 have he := enters_ hf hname hb (args ++ caps) w
 unfold execOp
 simp [hop, resolve, hv, Deferred.ofValue, invoke, hargs, he]
theorem hold_ {w w' : World} {b : Nat} {v : Value} (hb : Below w.heap.size w w') (h : w.cell? ⟨b, 0, none⟩ = some v) : w'.cell? ⟨b, 0, none⟩ = some v := (hb.cell (World.block_lt_of_cell? _ _ h)).trans h
/-- Nothing but the block c has turned; new blocks may lie there. -/
def Keeps (c : Nat) (w w' : World) : Prop := Below 0 w w' ∧ KeepBut w w' c none
theorem Keeps.refl (c : Nat) (w : World) : Keeps c w w := ⟨Below.refl _ _, KeepBut.refl _ _ _⟩
theorem Keeps.trans {c : Nat} {w w1 w2 : World} (h : Keeps c w w1) (k : Keeps c w1 w2) : Keeps c w w2 := ⟨h.1.trans k.1, h.2.trans k.2 (.inl rfl)⟩
theorem Keeps.of_below {c : Nat} {w w1 : World} (h : Below w.heap.size w w1) : Keeps c w w1 := ⟨h.mono (Nat.zero_le _), KeepBut.of_below h _ _⟩
theorem Keeps.size {c : Nat} {w w1 : World} (h : Keeps c w w1) : w.heap.size ≤ w1.heap.size := h.2.1
/-- The call's own block c is new: then what was there before is as it was. -/
theorem Keeps.below {c : Nat} {w0 w w1 : World} (h0 : Below w0.heap.size w0 w) (h : Keeps c w w1) (hc : w0.heap.size ≤ c) : Below w0.heap.size w0 w1 :=
 ⟨h.1.os.trans h0.os, h.1.tape.trans h0.tape, h.1.output.trans h0.output, Nat.le_trans h0.size h.size, fun k hk => (h.2.2 k (Nat.lt_of_lt_of_le hk h0.size) (by omega) (by simp)).trans (h0.block k hk)⟩
theorem Keeps.blk {c : Nat} {w w1 : World} {g : Nat} {o : Obj} (h : Keeps c w w1) (hb : w.heap[g]? = some o) (hg : c < g) : w1.heap[g]? = some o := h.2.blk hb (by omega) (by simp)
theorem Keeps.reads {c : Nat} {w w1 : World} {A : Addr} {n : Nat} {l : List Int} (h : Keeps c w w1) (hr : Kd.C (Kd.int .i64) w (some A) n l) (hA : c < A.block) : Kd.C (Kd.int .i64) w1 (some A) n l :=
 Kd.C_keep (0 : Int) hr h.2 (fun ad e _ => by injection e with e; subst e; omega)
/-- The variables that the walk captures, and the sets of next nodes. -/
structure PathEnv (c bt bg bn bw gn cn : Nat) (TF : FuncId) (caps : Array Value) (n : Int) (A0 : Option Addr) (len0 c0 : Nat) (nx : List Int) (w : World) : Prop where
 tell : w.heap[bt]? = some (.cells #[.func (.func TF) #[] caps] 60 (0, 0))
 graph : w.heap[bg]? = some (.cells #[.int .i64 n, .slice A0 len0 c0] 30 (0, 0))
 next : w.heap[bn]? = some (.cells #[.slice (some ⟨gn, 0, none⟩) nx.length cn] 39 (0, 0))
 walk : w.heap[bw]? = some (.cells #[.func (.func 111) #[] #[.pointer (some ⟨bt, 0, none⟩), .pointer (some ⟨bg, 0, none⟩), .pointer (some ⟨bn, 0, none⟩), .pointer (some ⟨bw, 0, none⟩)]] 78 (0, 0))
 row : Kd.C (Kd.int .i64) w (some ⟨gn, 0, none⟩) nx.length nx
 past : c < bt ∧ c < bg ∧ c < bn ∧ c < bw ∧ c < gn
theorem PathEnv.keep {c bt bg bn bw gn cn : Nat} {TF : FuncId} {caps : Array Value} {n : Int} {A0 : Option Addr} {len0 c0 : Nat} {nx : List Int} {w w1 : World} (h : PathEnv c bt bg bn bw gn cn TF caps n A0 len0 c0 nx w) (k : Keeps c w w1) : PathEnv c bt bg bn bw gn cn TF caps n A0 len0 c0 nx w1 :=
 ⟨k.blk h.tell h.past.1, k.blk h.graph h.past.2.1, k.blk h.next h.past.2.2.1, k.blk h.walk h.past.2.2.2.1, k.reads h.row h.past.2.2.2.2, h.past⟩
/-- What the walk computes: v = none: a path is told; v = some x: the nodes from x on are tried. -/
def impl_walk.f {σ : Type} (step : σ → List Int → σ) (nx : List Int) (n : Int) : Nat → List Int → Int → Option Int → σ → Option σ
 | 0, _, _, _, _ => none
 | k + 1, p, m, none, a => if 0 < p.length ∧ p.length < 1000000 then impl_walk.f step nx n k p m (some 0) (step a p) else none
 | k + 1, p, m, some v, a => if v < n then (if 0 ≤ rd p ((p.length : Int) - 1) ∧ rd p ((p.length : Int) - 1) < (nx.length : Int) then (if Go.bits .and .i64 (shr .i64 (Go.bits .andNot .i64 (rd nx (rd p ((p.length : Int) - 1))) m) v) 1 = 1 then ((impl_walk.f step nx n k (p ++ [v]) (Go.bits .or .i64 m (shl .i64 1 v)) none a).bind fun b => impl_walk.f step nx n k p m (some (v + 1)) b) else impl_walk.f step nx n k p m (some (v + 1)) a) else none) else some a
theorem impl_walk.mono {σ : Type} (step : σ → List Int → σ) (nx : List Int) (n : Int) : ∀ k p m v a, LeO (impl_walk.f step nx n k p m v a) (impl_walk.f step nx n (k + 1) p m v a)
 | 0, p, m, v, a => fun r h => by simp [impl_walk.f] at h
 | k + 1, p, m, none, a => by
  unfold impl_walk.f
  exact LeO.ite (impl_walk.mono step nx n k _ _ _ _) (LeO.refl _)
 | k + 1, p, m, some v, a => by
  unfold impl_walk.f
  exact LeO.ite (LeO.ite (LeO.ite (LeO.bind (impl_walk.mono step nx n k _ _ _ _) fun _ => impl_walk.mono step nx n k _ _ _ _) (impl_walk.mono step nx n k _ _ _ _)) (LeO.refl _)) (LeO.refl _)
/-- What a teller does with a path. -/
def Tells {σ : Type} (TF : FuncId) (caps : Array Value) (c : Nat) (step : σ → List Int → σ) (I : σ → World → Prop) : Prop :=
 ∀ (a : σ) (p : List Int) (A : Addr) (cp : Nat) (W : World), p.length ≤ cp → p.length < 1000000 → I a W → Kd.C (Kd.int .i64) W (some A) p.length p → c < A.block → c < W.heap.size →
  Calls Try.prog TF (#[.slice (some A) p.length cp] ++ caps) W fun e w' => e = .returned (.tuple #[]) ∧ I (step a p) w' ∧ Keeps c W w'
set_option maxHeartbeats 8000000 in
set_option maxRecDepth 100000 in
theorem impl_walk.calls {σ : Type} (step : σ → List Int → σ) (I : σ → World → Prop) (c : Nat) (TF : FuncId) (fn : Func) (caps : Array Value)
  (hf : Try.prog.funcs[TF]? = some fn) (hname : (fn.name == "runtime.NumGoroutine") = false) (hbody : fn.body.isSome = true) (hT : Tells TF caps c step I)
  (hI : ∀ a W W', I a W → Below W.heap.size W W' → I a W')
  (bt bg bn bw gn cn : Nat) (n : Int) (A0 : Option Addr) (len0 c0 : Nat) (nx : List Int) (hn : n ≤ 1000) (hnx : nx.length ≤ cn) :
  ∀ (k : Nat) (p : List Int) (m : Int) (a r : σ) (A : Addr) (cp : Nat) (w : World), impl_walk.f step nx n k p m none a = some r → PathEnv c bt bg bn bw gn cn TF caps n A0 len0 c0 nx w → I a w → Kd.C (Kd.int .i64) w (some A) p.length p → p.length ≤ cp → c < A.block → c < w.heap.size →
  Calls Try.prog 111 #[.slice (some A) p.length cp, .int .i64 m, .pointer (some ⟨bt, 0, none⟩), .pointer (some ⟨bg, 0, none⟩), .pointer (some ⟨bn, 0, none⟩), .pointer (some ⟨bw, 0, none⟩)] w fun e w' => e = .returned (.tuple #[]) ∧ I r w' ∧ Keeps c w w' := by
 intro k
 induction k using Nat.strongRecOn with
 | ind k ih =>
  intro p m a r A cp w h env hi hr hcp hA hcw
  cases k with
  | zero => exact absurd h (by simp [impl_walk.f])
  | succ k =>
   simp only [impl_walk.f] at h
   by_cases hl : 0 < p.length ∧ p.length < 1000000
   ·rw [if_pos hl] at h
    have IH := Aside0.mk ih; have HF := Aside0.mk hf; have HN := Aside0.mk hname; have HBD := Aside0.mk hbody; have HT := Aside0.mk hT; have HI := Aside0.mk hI; have EN := Aside0.mk env; have HA := Aside0.mk h; have HR := Aside0.mk hr; have HI0 := Aside0.mk hi; have HL := Aside0.mk hl; have HCP := Aside0.mk hcp; have HCA := Aside0.mk hA; have HCW := Aside0.mk hcw; have HNN := Aside0.mk hn; have hu := Try.underlying30; have hct : w.cell? ⟨bt, 0, none⟩ = some (.func (.func TF) #[] caps) := (blk_cell EN.out.tell 0).trans rfl; clear ih hf hname hbody hT hI env h hr hi hl hcp hA hcw hn
    go_enter Try.func111, Try.ntmps111
    go_wp2_with fail
    rw [enters_ HF.out HN.out HBD.out, Oper.upon_enter]
    refine (HT.out a p A cp w HCP.out HL.out.2 HI0.out HR.out HCA.out HCW.out).mono ?_
    rintro e w1 ⟨rfl, hi1, hk1⟩
    have HK1 := Aside0.mk hk1; have HI1 := Aside0.mk hi1; clear hk1 hi1 hct; have hcg : w1.cell? ⟨bg, 0, none⟩ = some (.int .i64 n) := (blk_cell (EN.out.keep HK1.out).graph 0).trans rfl
    go_wp2
    clear hcg
    go_loopg [14] k (fun kq v14 w' => ∃ (x : Int) (b : σ), v14 = .int .i64 x ∧ 0 ≤ x ∧ Aside0 (x ≤ 2000) ∧ Aside0 (impl_walk.f step nx n kq p m (some x) b = some r) ∧ Aside0 (kq ≤ k) ∧ Aside0 (I b w') ∧ Aside0 (Keeps c w w'))
    case atStart => exact ⟨0, step a p, rfl, by omega, ⟨by omega⟩, HA, ⟨Nat.le_refl _⟩, HI1, HK1⟩
    case round =>
     clear HA HI1 HK1 HI0; obtain ⟨x, b, rfl, hx0, HX, HA, HKQ, HI1, HK1⟩ := hrel
     cases gk with
     | zero => exact absurd HA.out (by simp [impl_walk.f])
     | succ k1 =>
      have H := HA.out; clear HA
      simp only [impl_walk.f] at H
      by_cases c1 : x < n
      ·rw [if_pos c1] at H
       have c1b : decide (x < n) = true := decide_eq_true c1; have hx1 : x < 1000 := by have := HNN.out; omega
       clear c1
       by_cases c2 : 0 ≤ rd p ((p.length : Int) - 1) ∧ rd p ((p.length : Int) - 1) < (nx.length : Int)
       ·rw [if_pos c2] at H
        have e0 : wrap64 ((p.length : Int) - 1) = (p.length : Int) - 1 := by have := HL.out; unfold wrap64; omega
        have hp0 : 0 ≤ (p.length : Int) - 1 := by have := HL.out; omega
        have hp1 : (p.length : Int) - 1 < p.length := by omega
        obtain ⟨ad1, ea1, hx1_0⟩ := Kd.at_int (HK1.out.reads HR.out HCA.out) ((p.length : Int) - 1) hp0 hp1
        cases ea1
        rw [show ((p.length : Int) - 1).toNat = p.length - 1 by omega] at hx1_0
        obtain ⟨ad2, ea2, hx2_0⟩ := Kd.at_int (EN.out.keep HK1.out).row (rd p ((p.length : Int) - 1)) c2.1 c2.2
        cases ea2
        have hcn : wr.cell? ⟨bn, 0, none⟩ = some (.slice (some ⟨gn, 0, none⟩) nx.length cn) := (blk_cell (EN.out.keep HK1.out).next 0).trans rfl; have c2b := eq_true c2.1; have c2c := eq_true c2.2; clear c2
        generalize hq : rd p ((p.length : Int) - 1) = q at *
        have hx2_1 : wr.cell? ⟨gn, q.toNat, none⟩ = some (.int .i64 (rd nx q)) := by rw [← add_zero_]; exact hx2_0
        clear hx2_0; obtain ⟨j, hj⟩ : ∃ j : Int, shr .i64 (Go.bits .andNot .i64 (rd nx q) m) x = j := ⟨_, rfl⟩
        rw [hj] at H
        have hj_ : (Go.bits .andNot .i64 (rd nx q) m / 2 ^ min x.toNat 64) = j := hj; clear hj
        by_cases c3 : Go.bits .and .i64 j 1 = 1
        ·rw [if_pos c3] at H
         have c3b : (Go.bits .and .i64 j 1 == 1) = true := beq_iff_eq.mpr c3; obtain ⟨b1, A1, H⟩ := Option.bind_eq_some_iff.mp H; obtain ⟨ji, hji⟩ : ∃ j_ : Int, (shl .i64 1 x) = j_ := ⟨_, rfl⟩
         rw [hji] at A1
         have A1' := Aside0.mk A1; have H' := Aside0.mk H; have hji_ : (IntKind.i64.wrap (1 * 2 ^ min x.toNat 64)) = ji := hji; have hjiz : x ≤ 64 → (IntKind.i64.wrap (1 * 2 ^ x.toNat)) = ji := shl_small hji; have hjiu : (IntKind.i64.wrap (2 ^ min x.toNat 64)) = ji := by have h_ := hji_; rw [Int.one_mul] at h_; exact h_
         have hjiv : x ≤ 64 → (IntKind.i64.wrap (2 ^ x.toNat)) = ji := fun hle_ => by have h_ := hjiz hle_; rw [Int.one_mul] at h_; exact h_
         have hjiy : (wrap64 (1 * 2 ^ min x.toNat 64)) = ji := (i64_w _).symm.trans hji_; have hjix : x ≤ 64 → (wrap64 (1 * 2 ^ x.toNat)) = ji := fun h_ => (i64_w _).symm.trans (hjiz h_); clear A1 H hji; clear c3
         go_wp2_with fail
         go_region
         all_goals go_wp2_with fail
         -- PURE
         have hW : wr.drew.drew.cell? ⟨bw, 0, none⟩ = some (.func (.func 111) #[] #[.pointer (some ⟨bt, 0, none⟩), .pointer (some ⟨bg, 0, none⟩), .pointer (some ⟨bn, 0, none⟩), .pointer (some ⟨bw, 0, none⟩)]) := (blk_cell (blk_drew (blk_drew (EN.out.keep HK1.out).walk)) 0).trans rfl
         refine start_ (n := 11) (S := fun w' => w'.cell? ⟨bw, 0, none⟩ = some (.func (.func 111) #[] #[.pointer (some ⟨bt, 0, none⟩), .pointer (some ⟨bg, 0, none⟩), .pointer (some ⟨bn, 0, none⟩), .pointer (some ⟨bw, 0, none⟩)])) (ds := []) #[false, false, false, false, false, false, false, false, false, false, false] (by kernel_rfl) rfl rfl hW (fun hHeld => ?_)
         have HRd := Aside0.mk (Kd.C_drew (Kd.C_drew (HK1.out.reads HR.out HCA.out))); have HId := Aside0.mk (HI.out _ _ _ HI1.out (below_drew1 (below_drew1 (Below.refl wr.heap.size wr)))); have HKd := Aside0.mk (HK1.out.trans (Keeps.of_below (below_drew1 (below_drew1 (Below.refl wr.heap.size wr)))))
         generalize wr.drew.drew = wd at HRd HId HKd hHeld ⊢
         clear HI1 HK1 hx1_0 hx2_1 hcn hW
         refine pure_ (i := 1) (N := some 33) (v := ?_) (a' := ?_) #[false, true, false, false, false, false, false, false, false, false, false] rfl rfl (by kernel_rfl) (fun _ _ _ h => h) (Or.inl ⟨by rfl, ?_⟩) ?_ ?_
         rotate_left
         ·intro w'
          go_simp
          with_reducible rfl
         rotate_left
         ·simp only [Act.put, List.setIfInBounds_toArray, List.set_cons_zero, List.set_cons_succ, i64_w, i32_w]
          rfl
         refine pure_ (i := 3) (N := some 35) (v := ?_) (a' := ?_) #[false, true, false, true, false, false, false, false, false, false, false] rfl rfl (by kernel_rfl) (fun _ _ _ h => h) (Or.inl ⟨by rfl, ?_⟩) ?_ ?_
         rotate_left
         ·intro w'
          go_simp
          with_reducible rfl
         rotate_left
         ·simp only [Act.put, List.setIfInBounds_toArray, List.set_cons_zero, List.set_cons_succ, i64_w, i32_w]
          rfl
         refine pure_ (i := 6) (N := some 38) (v := ?_) (a' := ?_) #[false, true, false, true, false, false, true, false, false, false, false] rfl rfl (by kernel_rfl) (fun _ _ _ h => h) (Or.inl ⟨by rfl, ?_⟩) ?_ ?_
         rotate_left
         ·intro w'
          go_simp
          with_reducible rfl
         rotate_left
         ·simp only [Act.put, List.setIfInBounds_toArray, List.set_cons_zero, List.set_cons_succ, i64_w, i32_w]
          rfl
         refine pure_ (i := 7) (N := some 39) (v := ?_) (a' := ?_) #[false, true, false, true, false, false, true, true, false, false, false] rfl rfl (by kernel_rfl) (fun _ _ _ h => h) (Or.inl ⟨by rfl, ?_⟩) ?_ ?_
         rotate_left
         ·intro w'
          go_simp
          with_reducible rfl
         rotate_left
         ·simp only [Act.put, List.setIfInBounds_toArray, List.set_cons_zero, List.set_cons_succ, i64_w, i32_w]
          rfl
         refine pure_ (i := 8) (N := some 40) (v := ?_) (a' := ?_) #[false, true, false, true, false, false, true, true, true, false, false] rfl rfl (by kernel_rfl) (fun _ _ _ h => h) (Or.inl ⟨by rfl, ?_⟩) ?_ ?_
         rotate_left
         ·intro w'
          go_simp
          with_reducible rfl
         rotate_left
         ·simp only [Act.put, List.setIfInBounds_toArray, List.set_cons_zero, List.set_cons_succ, i64_w, i32_w]
          rfl
         refine pure_ (i := 9) (N := some 41) (v := ?_) (a' := ?_) #[false, true, false, true, false, false, true, true, true, true, false] rfl rfl (by kernel_rfl) (fun _ _ _ h => h) (Or.inl ⟨by rfl, ?_⟩) ?_ ?_
         rotate_left
         ·intro w'
          go_simp
          with_reducible rfl
         rotate_left
         ·simp only [Act.put, List.setIfInBounds_toArray, List.set_cons_zero, List.set_cons_succ, i64_w, i32_w]
          rfl
         refine take_ (i := 0) (N := some 32) (v := ?_) (a' := ?_) #[true, true, false, true, false, false, true, true, true, true, false] rfl rfl (by kernel_rfl) (fun _ _ _ h => h) (Or.inl ⟨by rfl, ?_⟩) hHeld ?_ ?_
         rotate_left
         ·intro w' s0
          go_simp
          with_reducible rfl
         rotate_left
         ·simp only [Act.put, List.setIfInBounds_toArray, List.set_cons_zero, List.set_cons_succ, i64_w, i32_w]
          rfl
         have hHeld0 := Aside0.mk hHeld; have hHeld0d := hHeld0; have HB0 := Aside0.mk (Below.refl wd.heap.size wd)
         refine join_ (σ := Value × Value) 2 #[true, true, true, true, true, false, true, true, true, true, false] (fun s_ => [(34, s_.1), (36, s_.2)]) (fun s_ w' => w'.cell? ⟨bw, 0, none⟩ = some (.func (.func 111) #[] #[.pointer (some ⟨bt, 0, none⟩), .pointer (some ⟨bg, 0, none⟩), .pointer (some ⟨bn, 0, none⟩), .pointer (some ⟨bw, 0, none⟩)]) ∧ Kd.R (Kd.int .i64) 3 w' wd.heap.size (fun _ => True) s_.1 p ∧ Kd.R (Kd.int .i64) 3 w' wd.heap.size (fun _ => True) s_.2 [x] ∧ Below wd.heap.size wd w') ?_ ?_
         rotate_left
         ·intro hCont
          refine two_ (i := 2) (j := 4) (Ni := some 34) (Nj := some 36) #[true, true, true, true, false, false, true, true, true, true, false] #[true, true, false, true, true, false, true, true, true, true, false] rfl rfl rfl rfl (by kernel_rfl) (by decide) (by decide) (fun K hK => ?_) (fun K hK => ?_)
          ·skip
           refine goes_ Try.func112 (by kernel_rfl) rfl #[.slice (some A) p.length cp] (by rfl) rfl rfl (by (try simp only [List.map_toArray, List.map_cons, List.map_nil]); first | done | rfl) ?_
           with_reducible refine (slices_Clone.calls A cp p p wd (Kd.C_below HRd.out HB0.out) HCP.out (by unfold slices_Clone.f; rw [if_pos (Nat.lt_trans HL.out.2 (by decide))])).mono ?_
           rintro e w2 ⟨v34, rfl, ho, hb⟩
           refine ⟨_, rfl, ?_⟩
           have HV34 := Aside0.mk (Kd.R_lower ho (below_size HB0.out)); have HB2 := Aside0.mk (below_step HB0.out hb); clear ho hb
           refine hK.out _ _ (hold_ HB2.out hHeld0.out) (fun hHeld => ?_)
           clear hK K
           refine norm_ (a' := ?_) ?_ ?_
           rotate_left
           ·show Act.put _ (some 34) _ = _
            simp only [Act.put, List.setIfInBounds_toArray, List.set_cons_zero, List.set_cons_succ, i64_w, i32_w]
            rfl
           refine one_ (i := 4) (N := some 36) #[true, true, true, true, true, false, true, true, true, true, false] rfl rfl (by kernel_rfl) (by decide) (fun K hK => ?_)
           refine Kd.R_lit_step (Kd.int .i64) _ 3 ?hg (N := 36) ?hd (xs := ([x] : List Int)) (inner := [.int .i64 x]) (ok := fun _ => True) (okp := fun _ => True) ?hr ?hp (fun _ hk => hk) trivial (Below.refl _ _) (Nat.le_refl _) (by simp) ?_; (case hd => rfl); (case hg => rfl); (case hr => first | (go_simp; done) | (go_simp; rfl)); (case hp => exact (Reps.one (show Kd.M (Kd.int .i64) _ _ _ x [.int .i64 x] from rfl) (Reps.none _ _)))
           intro v36 w3 ho hb hg_ hnew_; clear hg_ hnew_; have HV36 := Aside0.mk (Kd.R_lower ho (below_size HB2.out)); have HB3 := Aside0.mk (below_step HB2.out hb); have HV34b := Aside0.mk (Kd.R_below HV34.out hb); clear ho hb
           refine hK.out _ _ (hold_ HB3.out hHeld0.out) (fun hHeld => ?_)
           clear hK K
           refine norm_ (a' := ?_) ?_ ?_
           rotate_left
           ·show Act.put _ (some 36) _ = _
            simp only [Act.put, List.setIfInBounds_toArray, List.set_cons_zero, List.set_cons_succ, i64_w, i32_w]
            rfl
           exact norm_ (by simp only [putAll, Act.put, List.setIfInBounds_toArray, List.set_cons_zero, List.set_cons_succ]) (hCont (v34, v36) _ ⟨hHeld, HV34b.out, HV36.out, HB3.out⟩)
          ·skip
           refine Kd.R_lit_step (Kd.int .i64) _ 3 ?hg (N := 36) ?hd (xs := ([x] : List Int)) (inner := [.int .i64 x]) (ok := fun _ => True) (okp := fun _ => True) ?hr ?hp (fun _ hk => hk) trivial (Below.refl _ _) (Nat.le_refl _) (by simp) ?_; (case hd => rfl); (case hg => rfl); (case hr => first | (go_simp; done) | (go_simp; rfl)); (case hp => exact (Reps.one (show Kd.M (Kd.int .i64) _ _ _ x [.int .i64 x] from rfl) (Reps.none _ _)))
           intro v36 w2 ho hb hg_ hnew_; clear hg_ hnew_; have HV36 := Aside0.mk (Kd.R_lower ho (below_size HB0.out)); have HB2 := Aside0.mk (below_step HB0.out hb); clear ho hb
           refine hK.out _ _ (hold_ HB2.out hHeld0.out) (fun hHeld => ?_)
           clear hK K
           refine norm_ (a' := ?_) ?_ ?_
           rotate_left
           ·show Act.put _ (some 36) _ = _
            simp only [Act.put, List.setIfInBounds_toArray, List.set_cons_zero, List.set_cons_succ, i64_w, i32_w]
            rfl
           refine one_ (i := 2) (N := some 34) #[true, true, true, true, true, false, true, true, true, true, false] rfl rfl (by kernel_rfl) (by decide) (fun K hK => ?_)
           refine goes_ Try.func112 (by kernel_rfl) rfl #[.slice (some A) p.length cp] (by rfl) rfl rfl (by (try simp only [List.map_toArray, List.map_cons, List.map_nil]); first | done | rfl) ?_
           with_reducible refine (slices_Clone.calls A cp p p w2 (Kd.C_below HRd.out HB2.out) HCP.out (by unfold slices_Clone.f; rw [if_pos (Nat.lt_trans HL.out.2 (by decide))])).mono ?_
           rintro e w3 ⟨v34, rfl, ho, hb⟩
           refine ⟨_, rfl, ?_⟩
           have HV34 := Aside0.mk (Kd.R_lower ho (below_size HB2.out)); have HB3 := Aside0.mk (below_step HB2.out hb); have HV36b := Aside0.mk (Kd.R_below HV36.out hb); clear ho hb
           refine hK.out _ _ (hold_ HB3.out hHeld0.out) (fun hHeld => ?_)
           clear hK K
           refine norm_ (a' := ?_) ?_ ?_
           rotate_left
           ·show Act.put _ (some 34) _ = _
            simp only [Act.put, List.setIfInBounds_toArray, List.set_cons_zero, List.set_cons_succ, i64_w, i32_w]
            rfl
           exact norm_ (by simp only [putAll, Act.put, List.setIfInBounds_toArray, List.set_cons_zero, List.set_cons_succ]) (hCont (v34, v36) _ ⟨hHeld, HV34.out, HV36b.out, HB3.out⟩)
         rintro ⟨v34, v36⟩ w3 ⟨hHeld, ho34, ho36, hb3⟩
         have HV34 := Aside0.mk ho34; have HB3 := Aside0.mk hb3; obtain ⟨A36, cc36, hv36⟩ := Kd.R_slice ho36; have hv36' : v36 = .slice A36 [x].length cc36 := hv36; subst hv36'; have HV36 := Aside0.mk (Kd.R_reads' ho36).2.2; clear ho34 ho36 hb3 hv36 hHeld0; have hHeld0 := Aside0.mk hHeld
         refine norm_ (a' := ?_) ?_ ?_
         rotate_left
         ·simp only [putAll, Act.put, List.setIfInBounds_toArray, List.set_cons_zero, List.set_cons_succ]
          rfl
         refine one_ (i := 5) (N := some 37) #[true, true, true, true, true, true, true, true, true, true, false] rfl rfl (by kernel_rfl) (by decide) (fun K hK => ?_)
         refine Kd.R_append_rows_step (Kd.int .i64) (w0 := wd) wd.heap.size (by rfl) (.tmp 34) (.tmp 36) 39 3 (.int .i64 0) 8 rfl Try.underlying39 info3 rfl (by decide) (by omega) v34 p [x] _ _ _ (fun _ => True) (fun _ => False) rfl rfl HV34.out HV36.out (fun _ _ h => h) (fun _ h => h.elim) (fun _ _ => trivial) HB3.out HB3.out.size (by have := HL.out; simp; omega) ?_
         intro v37 w4 ho37 hb4 hg4 hat4; have HV37 := Aside0.mk ho37; have HB4 := Aside0.mk hb4; obtain ⟨g37, cap37, hv37, hge37, hlt37, _⟩ := Kd.R_form ho37 (by simp); have hbs := HKd.out.size; have HG37 := Aside0.mk hge37; clear ho37 hb4 hg4 hat4 hge37 hlt37
         refine hK.out _ _ (hold_ HB4.out hHeld0d.out) (fun hHeld => ?_)
         clear hK K; subst hv37
         refine norm_ (a' := ?_) ?_ ?_
         rotate_left
         ·show Act.put _ (some 37) _ = _
          simp only [Act.put, List.setIfInBounds_toArray, List.set_cons_zero, List.set_cons_succ, i64_w, i32_w]
          rfl
         have HI4 := Aside0.mk (HI.out _ _ _ HId.out HB4.out); have HK4 := Aside0.mk (HKd.out.trans (Keeps.of_below HB4.out))
         refine one_ (i := 10) (N := some 42) #[true, true, true, true, true, true, true, true, true, true, true] rfl rfl (by kernel_rfl) (by decide) (fun K hK => ?_)
         refine goesVs_ (f := 111) (t := 32) Try.func111 (by kernel_rfl) rfl #[.slice (some ⟨g37, 0, none⟩) (p ++ [x]).length cap37, .int .i64 (Go.bits .or .i64 m ji)] (by rfl) rfl rfl (by rfl) (by (try simp only [List.map_toArray, List.map_cons, List.map_nil]); first | done | rfl) ?_
         refine (IH.out k1 (by have := HKQ.out; omega) (p ++ [x]) (Go.bits .or .i64 m ji) b b1 ⟨g37, 0, none⟩ cap37 w4 A1'.out (EN.out.keep HK4.out) HI4.out (Kd.R_reads' HV37.out).2.2 (Kd.R_reads' HV37.out).2.1 (by have := HG37.out; have := HCW.out; have := HKd.out.size; show c < g37; omega) (by have := HCW.out; have := HK4.out.size; omega)).mono ?_
         rintro e w5 ⟨rfl, hi5, hk5⟩
         refine ⟨_, rfl, ?_⟩
         have HI5 := Aside0.mk hi5; have HK5 := Aside0.mk (HK4.out.trans hk5); have hW5 : w5.cell? ⟨bw, 0, none⟩ = some (.func (.func 111) #[] #[.pointer (some ⟨bt, 0, none⟩), .pointer (some ⟨bg, 0, none⟩), .pointer (some ⟨bn, 0, none⟩), .pointer (some ⟨bw, 0, none⟩)]) := (blk_cell (EN.out.keep HK5.out).walk 0).trans rfl; clear hi5 hk5
         refine hK.out _ _ hW5 (fun hHeld => ?_)
         clear hK K
         refine norm_ (a' := ?_) ?_ ?_
         rotate_left
         ·show Act.put _ (some 42) _ = _
          simp only [Act.put, List.setIfInBounds_toArray, List.set_cons_zero, List.set_cons_succ, i64_w, i32_w]
          rfl
         refine done_ (by kernel_rfl) ?_
         clear hW5
         go_wp2
         go_roundg k1
         case measure => have := HKQ.out; omega
         case rel => exact ⟨x + 1, b1, by first | rfl | (simp; done), by omega, ⟨by omega⟩, H', ⟨by have := HKQ.out; omega⟩, HI5, HK5⟩
        ·rw [if_neg c3] at H
         have c3b : (Go.bits .and .i64 j 1 == 1) = false := beq_eq_false_iff_ne.mpr c3; have H' := Aside0.mk H; clear H c3
         go_wp2
         go_region
         all_goals go_wp2
         go_roundg k1
         case measure => have := HKQ.out; omega
         case rel => exact ⟨x + 1, b, by first | rfl | (simp; done), by omega, ⟨by omega⟩, H', ⟨by have := HKQ.out; omega⟩, ⟨HI.out _ _ _ HI1.out (below_drew1 (Below.refl wr.heap.size wr))⟩, ⟨HK1.out.trans (Keeps.of_below (below_drew1 (Below.refl wr.heap.size wr)))⟩⟩
       ·rw [if_neg c2] at H
        exact absurd H (by simp)
      ·rw [if_neg c1] at H
       have c1b : decide (x < n) = false := decide_eq_false c1; have hb : b = r := Option.some.inj H; subst hb; clear H c1
       go_wp2
       go_end0
       exact ⟨rfl, HI1.out, HK1.out⟩
   ·rw [if_neg hl] at h
    exact absurd h (by simp)
def impl_paths.l0 {σ : Type} (step : σ → List Int → σ) (nx : List Int) (n : Int) : Nat → Int → σ → Option σ
 | 0, _, _ => none
 | k + 1, v, a => if v < n then ((impl_walk.f step nx n k [v] (shl .i64 1 v) none a).bind fun b => impl_paths.l0 step nx n k (v + 1) b) else some a
def impl_paths.f {σ : Type} (step : σ → List Int → σ) (k : Nat) (a0_0 : Int) (l0_1 : List (S44)) (a1 : Int) (st : σ) : Option σ := (impl_nextOf.f k a0_0 l0_1 a1).bind fun nx => if 0 < nx.length ∧ a0_0 ≤ 1000 then impl_paths.l0 step nx a0_0 k 0 st else none
theorem impl_paths.mono_l {σ : Type} (step : σ → List Int → σ) (nx : List Int) (n : Int) : ∀ k v a, LeO (impl_paths.l0 step nx n k v a) (impl_paths.l0 step nx n (k + 1) v a)
 | 0, v, a => fun r h => by simp [impl_paths.l0] at h
 | k + 1, v, a => by
  unfold impl_paths.l0
  exact LeO.ite (LeO.bind (impl_walk.mono step nx n k _ _ _ _) fun _ => impl_paths.mono_l step nx n k _ _) (LeO.refl _)
theorem impl_paths.mono {σ : Type} (step : σ → List Int → σ) (st : σ) (a0 : Int) (a1 : List (S44)) (a2 : Int) (k : Nat) : LeO (impl_paths.f step k a0 a1 a2 st) (impl_paths.f step (k + 1) a0 a1 a2 st) := by
 unfold impl_paths.f
 exact LeO.bind (impl_nextOf.mono _ _ _ _) fun _ => LeO.ite (impl_paths.mono_l step _ _ k _ _) (LeO.refl _)
set_option maxHeartbeats 8000000 in
set_option maxRecDepth 100000 in
theorem impl_paths.calls {σ : Type} (step : σ → List Int → σ) (I : σ → World → Prop) (c : Nat) (TF : FuncId) (fn : Func) (caps : Array Value)
  (hf : Try.prog.funcs[TF]? = some fn) (hname : (fn.name == "runtime.NumGoroutine") = false) (hbody : fn.body.isSome = true) (hT : Tells TF caps c step I)
  (hI : ∀ a W W', I a W → Below W.heap.size W W' → I a W')
  (k : Nat) (a0_0 : Int) (A0_1 : Option Addr) (c0_1 : Nat) (l0_1 : List (S44)) (a1 : Int) (st r : σ) (w : World) (hr0_1 : Kd.C k44 w A0_1 l0_1.length l0_1) (hc0_1 : l0_1.length ≤ c0_1) (hst : I st w) (hcw : c < w.heap.size) (h : impl_paths.f step k a0_0 l0_1 a1 st = some r) :
  Calls Try.prog 69 #[.agg #[.int .i64 a0_0, .slice A0_1 l0_1.length c0_1], .int .i64 a1, .func (.func TF) #[] caps] w fun e w' => e = .returned (.tuple #[]) ∧ I r w' ∧ Keeps c w w' := by
 have hu := Try.underlying30; have hmf : ∀ (fn : Fn) (first cap : Array Value) (w : World), (Instr.makeFunc fn first cap).run Try.prog w = .ok (.func fn first cap) w := fun _ _ _ _ => rfl; have hsf : ∀ (a : Addr) (fn : Fn) (first cap : Array Value) (w : World) (m : Mode), (store a (.func fn first cap) m).run Try.prog w = stored Try.prog w a (.func fn first cap) m := fun a fn first cap w m => run_store Try.prog w a _ m rfl
 unfold impl_paths.f at h
 obtain ⟨nx, A1, h⟩ := Option.bind_eq_some_iff.mp h
 by_cases hl : 0 < nx.length ∧ a0_0 ≤ 1000
 ·rw [if_pos hl] at h
  have HF := Aside0.mk hf; have HN := Aside0.mk hname; have HBD := Aside0.mk hbody; have HT := Aside0.mk hT; have HI := Aside0.mk hI; have HR := Aside0.mk hr0_1; have HC := Aside0.mk hc0_1; have A1' := Aside0.mk A1; have HL := Aside0.mk hl; have H' := Aside0.mk h; have HS := Aside0.mk hst; have HCW := Aside0.mk hcw; clear hf hname hbody hT hI hr0_1 hc0_1 A1 hl h hst hcw; have hb0 : Below w.heap.size w ((w.alloc (.cells #[.int .i64 a0_0, .slice A0_1 l0_1.length c0_1] 30)).alloc (.cells #[.func (.func TF) #[] caps] 60)) := ((Below.refl _ _).alloc (Nat.le_refl _) _).alloc (by simp) _; have hbg : ((w.alloc (.cells #[.int .i64 a0_0, .slice A0_1 l0_1.length c0_1] 30)).alloc (.cells #[.func (.func TF) #[] caps] 60)).heap[w.heap.size]? = some (.cells #[.int .i64 a0_0, .slice A0_1 l0_1.length c0_1] 30 (0, 0)) := blk_alloc (heap_alloc_new w _) _
  have hbt : ((w.alloc (.cells #[.int .i64 a0_0, .slice A0_1 l0_1.length c0_1] 30)).alloc (.cells #[.func (.func TF) #[] caps] 60)).heap[w.heap.size + 1]? = some (.cells #[.func (.func TF) #[] caps] 60 (0, 0)) := by
   have h_ := heap_alloc_new (w.alloc (.cells #[.int .i64 a0_0, .slice A0_1 l0_1.length c0_1] 30)) (.cells #[.func (.func TF) #[] caps] 60)
   simpa using h_
  have hsz : ((w.alloc (.cells #[.int .i64 a0_0, .slice A0_1 l0_1.length c0_1] 30)).alloc (.cells #[.func (.func TF) #[] caps] 60)).heap.size = w.heap.size + 2 := by simp
  have HB0 := Aside0.mk hb0; have HBG := Aside0.mk hbg; have HBT := Aside0.mk hbt; have HSZ := Aside0.mk hsz; clear hb0 hbg hbt hsz
  go_enter Try.func69, Try.ntmps69
  go_wp2_with fail
  refine (impl_nextOf.calls k a0_0 _ _ l0_1 a1 nx _ (Kd.C_below HR.out HB0.out) HC.out A1'.out).mono ?_
  rintro e w2 ⟨v, rfl, ho, hb⟩
  obtain ⟨gn, cn, hv, hgn, hgl, _⟩ := Kd.R_form ho HL.out.1; subst hv; have HB2 := Aside0.mk (below_step HB0.out hb); have HBG2 := Aside0.mk (blk_below HBG.out hb); have HBT2 := Aside0.mk (blk_below HBT.out hb); have HNX := Aside0.mk (Kd.R_reads' ho).2; have HGN := Aside0.mk (show w.heap.size + 2 ≤ gn by rw [← HSZ.out]; exact hgn); have HSZ2 := Aside0.mk (show w.heap.size + 2 ≤ w2.heap.size by rw [← HSZ.out]; exact hb.size); clear ho hb hgn hgl HB0 HBG HBT; have hb4 : Below w2.heap.size w2 ((w2.alloc (.cells #[.slice (some ⟨gn, 0, none⟩) nx.length cn] 39)).alloc (.cells #[(.func (.func 111) #[] #[.pointer (some ⟨w.heap.size + 1, 0, none⟩), .pointer (some ⟨w.heap.size, 0, none⟩), .pointer (some ⟨w2.heap.size, 0, none⟩), .pointer (some ⟨w2.heap.size + 1, 0, none⟩)])] 78)) := ((Below.refl _ _).alloc (Nat.le_refl _) _).alloc (by simp) _; have hbn : ((w2.alloc (.cells #[.slice (some ⟨gn, 0, none⟩) nx.length cn] 39)).alloc (.cells #[(.func (.func 111) #[] #[.pointer (some ⟨w.heap.size + 1, 0, none⟩), .pointer (some ⟨w.heap.size, 0, none⟩), .pointer (some ⟨w2.heap.size, 0, none⟩), .pointer (some ⟨w2.heap.size + 1, 0, none⟩)])] 78)).heap[w2.heap.size]? = some (.cells #[.slice (some ⟨gn, 0, none⟩) nx.length cn] 39 (0, 0)) := blk_alloc (heap_alloc_new w2 _) _
  have hbw : ((w2.alloc (.cells #[.slice (some ⟨gn, 0, none⟩) nx.length cn] 39)).alloc (.cells #[(.func (.func 111) #[] #[.pointer (some ⟨w.heap.size + 1, 0, none⟩), .pointer (some ⟨w.heap.size, 0, none⟩), .pointer (some ⟨w2.heap.size, 0, none⟩), .pointer (some ⟨w2.heap.size + 1, 0, none⟩)])] 78)).heap[w2.heap.size + 1]? = some (.cells #[(.func (.func 111) #[] #[.pointer (some ⟨w.heap.size + 1, 0, none⟩), .pointer (some ⟨w.heap.size, 0, none⟩), .pointer (some ⟨w2.heap.size, 0, none⟩), .pointer (some ⟨w2.heap.size + 1, 0, none⟩)])] 78 (0, 0)) := by
   have h_ := heap_alloc_new (w2.alloc (.cells #[.slice (some ⟨gn, 0, none⟩) nx.length cn] 39)) (.cells #[(.func (.func 111) #[] #[.pointer (some ⟨w.heap.size + 1, 0, none⟩), .pointer (some ⟨w.heap.size, 0, none⟩), .pointer (some ⟨w2.heap.size, 0, none⟩), .pointer (some ⟨w2.heap.size + 1, 0, none⟩)])] 78)
   simpa using h_
  have HE := Aside0.mk (show PathEnv c (w.heap.size + 1) w.heap.size w2.heap.size (w2.heap.size + 1) gn cn TF caps a0_0 A0_1 l0_1.length c0_1 nx ((w2.alloc (.cells #[.slice (some ⟨gn, 0, none⟩) nx.length cn] 39)).alloc (.cells #[(.func (.func 111) #[] #[.pointer (some ⟨w.heap.size + 1, 0, none⟩), .pointer (some ⟨w.heap.size, 0, none⟩), .pointer (some ⟨w2.heap.size, 0, none⟩), .pointer (some ⟨w2.heap.size + 1, 0, none⟩)])] 78)) from
   ⟨blk_below HBT2.out hb4, blk_below HBG2.out hb4, hbn, hbw, Kd.C_below HNX.out.2 hb4, by have := HCW.out; have := HGN.out; have := HSZ2.out; omega⟩)
  have HB4 := Aside0.mk (below_step HB2.out hb4); have hcg4 : ((w2.alloc (.cells #[.slice (some ⟨gn, 0, none⟩) nx.length cn] 39)).alloc (.cells #[(.func (.func 111) #[] #[.pointer (some ⟨w.heap.size + 1, 0, none⟩), .pointer (some ⟨w.heap.size, 0, none⟩), .pointer (some ⟨w2.heap.size, 0, none⟩), .pointer (some ⟨w2.heap.size + 1, 0, none⟩)])] 78)).cell? ⟨w.heap.size, 0, none⟩ = some (.int .i64 a0_0) := (blk_cell HE.out.graph 0).trans rfl; clear hb4 hbn hbw
  go_wp2_with fail
  generalize ((w2.alloc (.cells #[.slice (some ⟨gn, 0, none⟩) nx.length cn] 39)).alloc (.cells #[(.func (.func 111) #[] #[.pointer (some ⟨w.heap.size + 1, 0, none⟩), .pointer (some ⟨w.heap.size, 0, none⟩), .pointer (some ⟨w2.heap.size, 0, none⟩), .pointer (some ⟨w2.heap.size + 1, 0, none⟩)])] 78)) = w4 at HE HB4 hcg4 ⊢
  clear HB2 HBG2 HBT2; have HI4 := Aside0.mk (HI.out _ _ _ HS.out HB4.out); have HK4 := Aside0.mk (Keeps.of_below (c := c) HB4.out); have HSZ4 := Aside0.mk HB4.out.size; clear HB4
  try go_wp2
  go_loopg [15] k (fun kq v15 w' => ∃ (x : Int) (b : σ), v15 = .int .i64 x ∧ 0 ≤ x ∧ Aside0 (x ≤ 2000) ∧ Aside0 (impl_paths.l0 step nx a0_0 kq x b = some r) ∧ Aside0 (kq ≤ k) ∧ Aside0 (I b w') ∧ Aside0 (Keeps c w w') ∧ Aside0 (Keeps c w4 w'))
  case atStart => exact ⟨0, st, rfl, by omega, ⟨by omega⟩, H', ⟨Nat.le_refl _⟩, HI4, HK4, ⟨Keeps.refl _ _⟩⟩
  case round =>
   clear H' HI4 HK4; obtain ⟨x, b, rfl, hx0, HX, HA, HKQ, HI1, HK1, HK4⟩ := hrel
   cases gk with
   | zero => exact absurd HA.out (by simp [impl_paths.l0])
   | succ k1 =>
    have H := HA.out; clear HA
    simp only [impl_paths.l0] at H
    clear hcg4
    by_cases c1 : x < a0_0
    ·rw [if_pos c1] at H
     have c1b : decide (x < a0_0) = true := decide_eq_true c1; have hx1 : x < 1000 := by have := HL.out; omega
     clear c1; obtain ⟨b1, A1, H⟩ := Option.bind_eq_some_iff.mp H; obtain ⟨ji, hji⟩ : ∃ j_ : Int, (shl .i64 1 x) = j_ := ⟨_, rfl⟩
     rw [hji] at A1
     have A1' := Aside0.mk A1; have H' := Aside0.mk H; have hji_ : (IntKind.i64.wrap (1 * 2 ^ min x.toNat 64)) = ji := hji; have hjiz : x ≤ 64 → (IntKind.i64.wrap (1 * 2 ^ x.toNat)) = ji := shl_small hji; have hjiu : (IntKind.i64.wrap (2 ^ min x.toNat 64)) = ji := by have h_ := hji_; rw [Int.one_mul] at h_; exact h_
     have hjiv : x ≤ 64 → (IntKind.i64.wrap (2 ^ x.toNat)) = ji := fun hle_ => by have h_ := hjiz hle_; rw [Int.one_mul] at h_; exact h_
     have hjiy : (wrap64 (1 * 2 ^ min x.toNat 64)) = ji := (i64_w _).symm.trans hji_; have hjix : x ≤ 64 → (wrap64 (1 * 2 ^ x.toNat)) = ji := fun h_ => (i64_w _).symm.trans (hjiz h_); clear A1 H hji
     go_wp2_with fail
     have hW : wr.drew.cell? ⟨w2.heap.size + 1, 0, none⟩ = some (.func (.func 111) #[] #[.pointer (some ⟨w.heap.size + 1, 0, none⟩), .pointer (some ⟨w.heap.size, 0, none⟩), .pointer (some ⟨w2.heap.size, 0, none⟩), .pointer (some ⟨w2.heap.size + 1, 0, none⟩)]) := (blk_cell (blk_drew (HE.out.keep HK4.out).walk) 0).trans rfl
     refine start_ (n := 6) (S := fun w' => w'.cell? ⟨w2.heap.size + 1, 0, none⟩ = some (.func (.func 111) #[] #[.pointer (some ⟨w.heap.size + 1, 0, none⟩), .pointer (some ⟨w.heap.size, 0, none⟩), .pointer (some ⟨w2.heap.size, 0, none⟩), .pointer (some ⟨w2.heap.size + 1, 0, none⟩)])) (ds := []) #[false, false, false, false, false, false] (by kernel_rfl) rfl rfl hW (fun hHeld => ?_)
     have HId := Aside0.mk (HI.out _ _ _ HI1.out (below_drew1 (Below.refl wr.heap.size wr))); have HKd := Aside0.mk (HK1.out.trans (Keeps.of_below (below_drew1 (Below.refl wr.heap.size wr)))); have HKe := Aside0.mk (HK4.out.trans (Keeps.of_below (below_drew1 (Below.refl wr.heap.size wr))))
     generalize wr.drew = wd at HId HKd HKe hHeld ⊢
     clear HI1 HK1 HK4 hW
     refine pure_ (i := 1) (N := some 19) (v := ?_) (a' := ?_) #[false, true, false, false, false, false] rfl rfl (by kernel_rfl) (fun _ _ _ h => h) (Or.inl ⟨by rfl, ?_⟩) ?_ ?_
     rotate_left
     ·intro w'
      go_simp
      with_reducible rfl
     rotate_left
     ·simp only [Act.put, List.setIfInBounds_toArray, List.set_cons_zero, List.set_cons_succ, i64_w, i32_w]
      rfl
     refine pure_ (i := 3) (N := some 21) (v := ?_) (a' := ?_) #[false, true, false, true, false, false] rfl rfl (by kernel_rfl) (fun _ _ _ h => h) (Or.inl ⟨by rfl, ?_⟩) ?_ ?_
     rotate_left
     ·intro w'
      go_simp
      with_reducible rfl
     rotate_left
     ·simp only [Act.put, List.setIfInBounds_toArray, List.set_cons_zero, List.set_cons_succ, i64_w, i32_w]
      rfl
     refine pure_ (i := 4) (N := some 22) (v := ?_) (a' := ?_) #[false, true, false, true, true, false] rfl rfl (by kernel_rfl) (fun _ _ _ h => h) (Or.inl ⟨by rfl, ?_⟩) ?_ ?_
     rotate_left
     ·intro w'
      go_simp
      with_reducible rfl
     rotate_left
     ·simp only [Act.put, List.setIfInBounds_toArray, List.set_cons_zero, List.set_cons_succ, i64_w, i32_w]
      rfl
     refine take_ (i := 0) (N := some 18) (v := ?_) (a' := ?_) #[true, true, false, true, true, false] rfl rfl (by kernel_rfl) (fun _ _ _ h => h) (Or.inl ⟨by rfl, ?_⟩) hHeld ?_ ?_
     rotate_left
     ·intro w' s0
      go_simp
      with_reducible rfl
     rotate_left
     ·simp only [Act.put, List.setIfInBounds_toArray, List.set_cons_zero, List.set_cons_succ, i64_w, i32_w]
      rfl
     have hHeld0 := Aside0.mk hHeld
     refine one_ (i := 2) (N := some 20) #[true, true, true, true, true, false] rfl rfl (by kernel_rfl) (by decide) (fun K hK => ?_)
     refine Kd.R_lit_step (Kd.int .i64) _ 3 ?hg (N := 20) ?hd (xs := ([x] : List Int)) (inner := [.int .i64 x]) (ok := fun _ => True) (okp := fun _ => True) ?hr ?hp (fun _ hk => hk) trivial (Below.refl _ _) (Nat.le_refl _) (by simp) ?_; (case hd => rfl); (case hg => rfl); (case hr => first | (go_simp; done) | (go_simp; rfl)); (case hp => exact (Reps.one (show Kd.M (Kd.int .i64) _ _ _ x [.int .i64 x] from rfl) (Reps.none _ _)))
     intro v20 w5 ho hb hg_ hnew_; clear hg_ hnew_; obtain ⟨g20, cap20, hv20, hge20, hlt20, _⟩ := Kd.R_form ho (by simp); have HV20 := Aside0.mk ho; have HB5 := Aside0.mk hb; have HG20 := Aside0.mk hge20; clear ho hb hge20 hlt20
     refine hK.out _ _ (hold_ HB5.out hHeld0.out) (fun hHeld => ?_)
     clear hK K; subst hv20
     refine norm_ (a' := ?_) ?_ ?_
     rotate_left
     ·show Act.put _ (some 20) _ = _
      simp only [Act.put, List.setIfInBounds_toArray, List.set_cons_zero, List.set_cons_succ, i64_w, i32_w]
      rfl
     have HI5 := Aside0.mk (HI.out _ _ _ HId.out HB5.out); have HK5 := Aside0.mk (HKd.out.trans (Keeps.of_below HB5.out)); have HK6 := Aside0.mk (HKe.out.trans (Keeps.of_below HB5.out))
     refine one_ (i := 5) (N := some 23) #[true, true, true, true, true, true] rfl rfl (by kernel_rfl) (by decide) (fun K hK => ?_)
     refine goesVs_ (f := 111) (t := 18) Try.func111 (by kernel_rfl) rfl #[.slice (some ⟨g20, 0, none⟩) [x].length cap20, .int .i64 ji] (by rfl) rfl rfl (by rfl) (by (try simp only [List.map_toArray, List.map_cons, List.map_nil]); first | done | rfl) ?_
     refine (impl_walk.calls step I c TF fn caps HF.out HN.out HBD.out HT.out HI.out (w.heap.size + 1) w.heap.size w2.heap.size (w2.heap.size + 1) gn cn a0_0 A0_1 l0_1.length c0_1 nx HL.out.2 HNX.out.1 k1 [x] ji b b1 ⟨g20, 0, none⟩ cap20 w5 A1'.out (HE.out.keep HK6.out) HI5.out (Kd.R_reads' HV20.out).2.2 (Kd.R_reads' HV20.out).2.1 (by have := HG20.out; have := HCW.out; have := HKd.out.size; show c < g20; omega) (by have := HCW.out; have := HK5.out.size; omega)).mono ?_
     rintro e w6 ⟨rfl, hi6, hk6⟩
     refine ⟨_, rfl, ?_⟩
     have HI7 := Aside0.mk hi6; have HK7 := Aside0.mk (HK5.out.trans hk6); have HK8 := Aside0.mk (HK6.out.trans hk6); have hW5 : w6.cell? ⟨w2.heap.size + 1, 0, none⟩ = some (.func (.func 111) #[] #[.pointer (some ⟨w.heap.size + 1, 0, none⟩), .pointer (some ⟨w.heap.size, 0, none⟩), .pointer (some ⟨w2.heap.size, 0, none⟩), .pointer (some ⟨w2.heap.size + 1, 0, none⟩)]) := (blk_cell (HE.out.keep HK8.out).walk 0).trans rfl; clear hi6 hk6
     refine hK.out _ _ hW5 (fun hHeld => ?_)
     clear hK K
     refine norm_ (a' := ?_) ?_ ?_
     rotate_left
     ·show Act.put _ (some 23) _ = _
      simp only [Act.put, List.setIfInBounds_toArray, List.set_cons_zero, List.set_cons_succ, i64_w, i32_w]
      rfl
     refine done_ (by kernel_rfl) ?_
     clear hW5
     go_wp2
     go_roundg k1
     case measure => have := HKQ.out; omega
     case rel => exact ⟨x + 1, b1, by first | rfl | (simp; done), by omega, ⟨by omega⟩, H', ⟨by have := HKQ.out; omega⟩, HI7, HK7, HK8⟩
    ·rw [if_neg c1] at H
     have c1b : decide (x < a0_0) = false := decide_eq_false c1; have hb : b = r := Option.some.inj H; subst hb; clear H c1
     go_wp2
     go_end0
     exact ⟨rfl, HI1.out, HK1.out⟩
 ·rw [if_neg hl] at h
  exact absurd h (by simp)


end Go.Proofs.Ytfijegfjpagjoaa.G
