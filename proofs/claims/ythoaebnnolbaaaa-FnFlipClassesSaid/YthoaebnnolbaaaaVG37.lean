/- A part of this claim; what it does not use is left out. -/
import Derived.Test.YthoaebnnolbaaaaVG0
namespace Go.Proofs.Ythoaebnnolbaaaa.G
open Go.RowKit Go.Proofs.YthoaebnnolbaaaaW.PrintWords Go.Proofs.YthoaebnnolbaaaaW.PrintLast Go.Proofs.YthoaebnnolbaaaaW.PrintMore
set_option linter.unusedVariables false
set_option linter.unusedSimpArgs false
structure SpEnv (W0 : World) (bg bk : Nat) (n : Int) (A0 : Option Addr) (len0 c0 : Nat) (kind : ByteArray) (vs : Value) (ls : List Bool) (vl : Value) (ll : List Int) (w : World) : Prop where
 below : Below W0.heap.size W0 w
 g : w.heap[bg]? = some (.cells #[.int .i64 n, .slice A0 len0 c0] 25 (0, 0))
 k : w.heap[bk]? = some (.cells #[.string kind] 9 (0, 0))
 s : Kd.R Kd.bool 4 w W0.heap.size (fun _ => True) vs ls
 l : Kd.R (Kd.int .i64) 3 w W0.heap.size (fun _ => True) vl ll
theorem SpEnv.next {W0 : World} {bg bk : Nat} {n : Int} {A0 : Option Addr} {len0 c0 : Nat} {kind : ByteArray} {vs : Value} {ls : List Bool} {vl : Value} {ll : List Int} {w w1 : World} (h : SpEnv W0 bg bk n A0 len0 c0 kind vs ls vl ll w) (hb : Below w.heap.size w w1) : SpEnv W0 bg bk n A0 len0 c0 kind vs ls vl ll w1 :=
 ⟨below_step h.below hb, blk_below h.g hb, blk_below h.k hb, Kd.R_below h.s hb, Kd.R_below h.l hb⟩
theorem SpEnv.mark {W0 : World} {bg bk : Nat} {n : Int} {A0 : Option Addr} {len0 c0 : Nat} {kind : ByteArray} {go co m : Nat} {ls : List Bool} {vl : Value} {ll : List Int} {w : World} (h : SpEnv W0 bg bk n A0 len0 c0 kind (.slice (some ⟨go, 0, none⟩) m co) ls vl ll w) (x : Int) :
  SpEnv W0 bg bk n A0 len0 c0 kind (.slice (some ⟨go, 0, none⟩) m co) (ls.set x.toNat true) vl ll (w.setCell ⟨go, x.toNat, none⟩ (.bool true)) := by
 have hp := Kd.R_putg h.s x true; have hg : w.grownBy (w.setCell ⟨go, x.toNat, none⟩ (.bool true)) (some go) := hp.2
 exact ⟨h.below.setCell (Kd.R_base h.s go (by simp [Value.ownBlock])) _, blk_grown h.g hg (Kd.R_ne h.s h.g (by decide)), blk_grown h.k hg (Kd.R_ne h.s h.k (by decide)), hp.1, Kd.R_mono (Kd.R_over (e' := 4) h.l h.s (by intro q hq; simp [Kd.int, Kd.scalar] at hq; subst hq; decide) hg) (fun _ _ => trivial)⟩
theorem SpEnv.more {W0 : World} {bg bk : Nat} {n : Int} {A0 : Option Addr} {len0 c0 : Nat} {kind : ByteArray} {vs : Value} {ls : List Bool} {vl v1 : Value} {ll l1 : List Int} {w w1 : World} (h : SpEnv W0 bg bk n A0 len0 c0 kind vs ls vl ll w)
  (hl : Kd.R (Kd.int .i64) 3 w1 W0.heap.size (fun _ => True) v1 l1) (hb : Below W0.heap.size W0 w1) (hg : w.grownBy w1 vl.ownBlock) : SpEnv W0 bg bk n A0 len0 c0 kind vs ls v1 l1 w1 :=
 ⟨hb, blk_grown h.g hg (Kd.R_ne h.l h.g (by decide)), blk_grown h.k hg (Kd.R_ne h.l h.k (by decide)), Kd.R_mono (Kd.R_over (e' := 3) h.s h.l (by intro q hq; simp [Kd.bool, Kd.scalar] at hq; subst hq; decide) hg) (fun _ _ => trivial), hl⟩
mutual
def impl_spread.l0 (F : Nat → Int → Option (List Int)) : Nat → List Bool → List Int → Int → Option (Int × List Bool)
 | 0, _, _, _ => none
 | k + 1, ls, ll, i => if i < (ll.length : Int) then (if 0 ≤ i then ((F k (rd ll i)).bind fun t => impl_spread.l1 F k ls ll i t 0) else none) else some ((ll.length : Int), ls)
def impl_spread.l1 (F : Nat → Int → Option (List Int)) : Nat → List Bool → List Int → Int → List Int → Int → Option (Int × List Bool)
 | 0, _, _, _, _, _ => none
 | k + 1, ls, ll, i, t, j => if j < (t.length : Int) then (if 0 ≤ j then (if 0 ≤ rd t j then (if rd t j < (ls.length : Int) then (if rdOf false ls (rd t j) = true then impl_spread.l1 F k ls ll i t (wrap64 (j + 1)) else (if ll.length < 17592186044416 then impl_spread.l1 F k (ls.set (rd t j).toNat true) (ll ++ [rd t j]) i t (wrap64 (j + 1)) else none)) else none) else none) else none) else impl_spread.l0 F k ls ll (wrap64 (i + 1))
end
def impl_spread.f (F : Nat → Int → Option (List Int)) (k : Nat) (a0 : Int) (l1 : List Bool) : Option (Int × List Bool) := if 0 ≤ a0 then (if a0 < (l1.length : Int) then impl_spread.l0 F k (l1.set a0.toNat true) [a0] 0 else none) else none
set_option maxHeartbeats 8000000 in
set_option maxRecDepth 100000 in
theorem impl_spread.calls (W0 : World) (bg bk : Nat) (n : Int) (A0 : Option Addr) (len0 c0 : Nat) (kind : ByteArray) (TF : FuncId) (fn : Func)
  (hf : Try.prog.funcs[TF]? = some fn) (hname : (fn.name == "runtime.NumGoroutine") = false) (hbody : fn.body.isSome = true) (F : Nat → Int → Option (List Int))
  (hT : ∀ (k : Nat) (x : Int) (r : List Int) (W : World), F k x = some r → Below W0.heap.size W0 W → W.heap[bg]? = some (.cells #[.int .i64 n, .slice A0 len0 c0] 25 (0, 0)) → W.heap[bk]? = some (.cells #[.string kind] 9 (0, 0)) →
   Calls Try.prog TF #[.int .i64 x, .pointer (some ⟨bg, 0, none⟩), .pointer (some ⟨bk, 0, none⟩)] W fun e w' => ∃ v, e = .returned v ∧ Kd.R (Kd.int .i64) 3 w' W.heap.size (fun _ => True) v r ∧ Below W.heap.size W w')
  (k : Nat) (a0 : Int) (l1 : List Bool) (r1 : Int) (r2 : List Bool) (vs : Value) (w : World) (hB : Below W0.heap.size W0 w) (hg : w.heap[bg]? = some (.cells #[.int .i64 n, .slice A0 len0 c0] 25 (0, 0))) (hk : w.heap[bk]? = some (.cells #[.string kind] 9 (0, 0)))
  (hs : Kd.R Kd.bool 4 w W0.heap.size (fun _ => True) vs l1) (h : impl_spread.f F k a0 l1 = some (r1, r2)) :
  Calls Try.prog 75 #[.int .i64 a0, vs, .func (.func TF) #[] #[.pointer (some ⟨bg, 0, none⟩), .pointer (some ⟨bk, 0, none⟩)]] w fun e w' => e = .returned (.int .i64 r1) ∧ ∃ vl ll, SpEnv W0 bg bk n A0 len0 c0 kind vs r2 vl ll w' := by
 unfold impl_spread.f at h
 by_cases c0_ : 0 ≤ a0
 case neg => rw [if_neg c0_] at h; exact absurd h (by simp)
 rw [if_pos c0_] at h
 by_cases c1_ : a0 < (l1.length : Int)
 case neg => rw [if_neg c1_] at h; exact absurd h (by simp)
 rw [if_pos c1_] at h
 obtain ⟨go, co, hv, _, _, _⟩ := Kd.R_form hs (by omega); subst hv; have HF := aK hf; have HN := aK hname; have HBD := aK hbody; have HT := aK hT; have H0 := aK h; have HE := aK (show SpEnv W0 bg bk n A0 len0 c0 kind (.slice (some ⟨go, 0, none⟩) l1.length co) l1 (.slice none 0 0) [] w from ⟨hB, hg, hk, hs, Kd.R_nil _ _ _ _ _⟩); have HM := aK (HE.out.mark a0); obtain ⟨hx0, hf0⟩ := Kd.R_celln false hs a0 c0_ c1_; have c0b := eq_true c0_; have c1b := eq_true c1_; have c0d : decide (0 ≤ a0) = true := decide_eq_true c0_; have c1d : decide (a0 < (l1.length : Int)) = true := decide_eq_true c1_; clear hf hname hbody hT h hB hg hk hs c0_ c1_
 go_enter Try.func75, Try.ntmps75
 have HE2 := aK (show SpEnv W0 bg bk n A0 len0 c0 kind (.slice (some ⟨go, 0, none⟩) l1.length co) (l1.set (a0 : Int).toNat true) (.slice (some ⟨w.heap.size, 0, none⟩) 1 1) [a0] ((w.setCell ⟨go, a0.toNat, none⟩ (.bool true)).alloc (.cells #[.int .i64 a0] 3)) from by
  have hb := below_alloc (Below.refl (w.setCell ⟨go, a0.toNat, none⟩ (.bool true)).heap.size _) (.cells #[.int .i64 a0] 3); have hn := HM.out.next hb; have hw : (w.setCell ⟨go, a0.toNat, none⟩ (.bool true)).heap.size = w.heap.size := by simp [World.setCell]
  have hh := heap_alloc_new (w.setCell ⟨go, a0.toNat, none⟩ (.bool true)) (.cells #[.int .i64 a0] 3)
  rw [hw] at hh
  refine ⟨hn.below, hn.g, hn.k, hn.s, Kd.R_of_own (enc := Value.int .i64) (h1 := fun _ => rfl) ⟨by simp [encs], .inr ⟨w.heap.size, 1, #[.int .i64 a0], rfl, HE.out.below.size, hh, Nat.le_refl _, by simp [maxLen], by simp, by simp [encs]⟩⟩ (fun _ _ => trivial)⟩)
 clear HM HE
 go_wp2
 clear hx0 hf0
 generalize ((w.setCell ⟨go, a0.toNat, none⟩ (.bool true)).alloc (.cells #[.int .i64 a0] 3)) = w2 at HE2 ⊢
 go_loopg [7, 8] k (fun kq v7 v8 w' => ∃ (x3 : List Bool) (x9 : List Int) (x10 : Int), v8 = .int .i64 x10 ∧ Aside0 (impl_spread.l0 F kq x3 x9 x10 = some (r1, r2)) ∧ Aside0 (kq ≤ k) ∧ Aside0 (SpEnv W0 bg bk n A0 len0 c0 kind (.slice (some ⟨go, 0, none⟩) l1.length co) x3 v7 x9 w'))
 case atStart => exact ⟨l1.set (a0 : Int).toNat true, [a0], 0, rfl, H0, ⟨Nat.le_refl _⟩, HE2⟩
 case round =>
  clear H0 HE2 c0b c1b c0d c1d; obtain ⟨x3, x9, x10, rfl, HA, HK1, HE⟩ := hrel
  cases gk with
  | zero => exact absurd HA.out (by simp [impl_spread.l0])
  | succ k1 =>
   have H := HA.out; clear HA
   simp only [impl_spread.l0] at H
   by_cases c1 : x10 < (x9.length : Int)
   ·rw [if_pos c1] at H
    by_cases c2 : 0 ≤ x10
    ·rw [if_pos c2] at H
     obtain ⟨t, A1, H⟩ := Option.bind_eq_some_iff.mp H; have A1' := aK A1; have H' := aK H; clear A1 H; obtain ⟨Ao, cl, el⟩ := Kd.R_slice HE.out.l; subst el; obtain ⟨ad, ea, hx⟩ := Kd.at_int (Kd.R_reads' HE.out.l).2.2 x10 c2 c1
     cases ea
     have c1b : decide (x10 < (x9.length : Int)) = true := decide_eq_true c1; have c1c := eq_true c1; have c2b := eq_true c2; have c2d : decide (0 ≤ x10) = true := decide_eq_true c2; clear c1 c2
     go_wp2_with fail
     rw [enters_ HF.out HN.out HBD.out, Oper.upon_enter]
     refine (HT.out k1 (rd x9 x10) t wr A1'.out HE.out.below HE.out.g HE.out.k).mono ?_
     rintro e w5 ⟨v27, rfl, ho, hb⟩
     have HE5 := aK (HE.out.next hb); have HX5 := aK (show Kd.R (Kd.int .i64) 3 w5 W0.heap.size (fun k_ => True ∧ some k_ ≠ (.slice (some ad) x9.length cl : Value).ownBlock) v27 t from Kd.R_lower (Kd.R_new' ho (Kd.R_lt HE.out.l)) HE.out.below.size); obtain ⟨Ax, cx, ex⟩ := Kd.R_slice ho; subst ex; clear ho hb HE hx
     go_wp2
     go_loopg [7, 29] k1 (fun kq v7 v29 w' => ∃ (x3 : List Bool) (x9 : List Int) (x12 : Int), v29 = .int .i64 x12 ∧ Aside0 (impl_spread.l1 F kq x3 x9 x10 t x12 = some (r1, r2)) ∧ Aside0 (kq ≤ k1) ∧ Aside0 (SpEnv W0 bg bk n A0 len0 c0 kind (.slice (some ⟨go, 0, none⟩) l1.length co) x3 v7 x9 w') ∧ Aside0 (Kd.R (Kd.int .i64) 3 w' W0.heap.size (fun k_ => True ∧ some k_ ≠ v7.ownBlock) (.slice Ax t.length cx) t))
     case atStart => exact ⟨x3, x9, 0, rfl, H', ⟨Nat.le_refl _⟩, HE5, HX5⟩
     case round =>
      clear H' HE5 HX5 c1b c1c c2b c2d A1'; obtain ⟨x3, x9, x12, rfl, HA, HK2, HE, HX⟩ := hrel
      cases gk with
      | zero => exact absurd HA.out (by simp [impl_spread.l1])
      | succ k2 =>
       have H := HA.out; clear HA
       simp only [impl_spread.l1] at H
       have hls := (Kd.R_reads' HE.out.s).1
       by_cases d1 : x12 < (t.length : Int)
       ·rw [if_pos d1] at H
        by_cases d2 : 0 ≤ x12
        ·rw [if_pos d2] at H
         by_cases d3 : 0 ≤ rd t x12
         ·rw [if_pos d3] at H
          by_cases d4 : rd t x12 < (x3.length : Int)
          ·rw [if_pos d4] at H
           obtain ⟨adt, eat, hxt⟩ := Kd.at_int (Kd.R_reads' HX.out).2.2 x12 d2 d1
           cases eat
           obtain ⟨hxs, hfs⟩ := Kd.R_celln false HE.out.s (rd t x12) d3 (by rw [hls]; exact d4); have hfs' := hfs; have hxs' := hxs; have d1b : decide (x12 < (t.length : Int)) = true := decide_eq_true d1; have d1c := eq_true d1; have d2b := eq_true d2; have d3b := eq_true d3; have d4b : (rd t x12 < (l1.length : Int)) = True := eq_true (by rw [hls]; exact d4); have d4c : decide (rd t x12 < (l1.length : Int)) = true := decide_eq_true (by rw [hls]; exact d4); have HLS := aK hls; clear d1 d2 d3 d4 hls
           cases hb0 : rdOf false x3 (rd t x12) with
           | true =>
            rw [if_pos hb0] at H
            rw [hb0] at hxs
            have H' := aK H; clear H hb0 hxs' hfs'
            go_wp2
            go_roundg k2
            case measure => have := HK1.out; have := HK2.out; omega
            case rel => exact ⟨x3, x9, wrap64 (x12 + 1), by first | rfl | (simp; done), H', ⟨by have := HK1.out; have := HK2.out; omega⟩, HE, HX⟩
           | false =>
            rw [if_neg (by rw [hb0]; decide)] at H
            rw [hb0] at hxs
            by_cases d5 : x9.length < 17592186044416
            ·rw [if_pos d5] at H
             have LM := aK d5; have H' := aK H; have HM := aK (HE.out.mark (rd t x12)); have HXM := aK (show Kd.R (Kd.int .i64) 3 (wr.setCell ⟨go, (rd t x12).toNat, none⟩ (.bool true)) W0.heap.size (fun k_ => True ∧ some k_ ≠ u7.ownBlock) (.slice (some adt) t.length cx) t from Kd.R_mono (Kd.R_over (e' := 4) HX.out HE.out.s (by intro q hq; simp [Kd.int, Kd.scalar] at hq; subst hq; decide) (Kd.R_putg HE.out.s (rd t x12) true).2) (fun _ h => h)); clear H hb0 d5 hxs' hfs'
             go_wp2_with (first
              | ((with_reducible refine gate_store (t := 4) (p := 40) rfl ?_); refine store_event (t := 4) (p := 40) (v := ?vo_w30) (w1 := (wr.setCell ⟨go, (rd t x12).toNat, none⟩ (.bool true))) ?hg ?ho ?hn ?hr ?_; (case ho => rfl); (case hg => rfl); (case hn => rfl); (case hr => first | (go_simp; done) | (go_simp; rfl)); intro w30 hw; rw [← hw] at HM HXM; clear hw hxs hfs HE HX hxt)
              | (at_builtin; go_loud (refine Kd.R_append (Kd.int .i64) (w0 := W0) W0.heap.size rfl (.tmp 41) (.tmp 43) 30 3 (.int .i64 0) 8 rfl Try.underlying30 info3 rfl (by decide) (by omega) u7 x9 (rd t x12) [.int .i64 (rd t x12)] (fun _ => True) (fun _ => False) rfl rfl ?aP (fun _ hk => hk.elim) ?aF ?aO ?aB ?aS ?aL ?_); (case aP => exact rfl); (case aB => exact HM.out.below); (case aF => exact (fun _ _ => trivial)); (case aO => exact HM.out.l); (case aS => exact HM.out.below.size); (case aL => have := LM.out; omega); intro v44 w31 ho hb hg hat; have HE31 := aK (HM.out.more ho hb hg); have HX31 := aK (Kd.R_after (ok := fun _ => True) HXM.out hg hat); clear ho hb hg hat HM HXM))
             go_roundg k2
             case measure => have := HK1.out; have := HK2.out; omega
             case rel => exact ⟨x3.set (rd t x12).toNat true, x9 ++ [rd t x12], wrap64 (x12 + 1), by first | rfl | (simp; done), H', ⟨by have := HK1.out; have := HK2.out; omega⟩, HE31, HX31⟩
            ·rw [if_neg d5] at H
             exact absurd H (by simp)
          ·rw [if_neg d4] at H
           exact absurd H (by simp)
         ·rw [if_neg d3] at H
          exact absurd H (by simp)
        ·rw [if_neg d2] at H
         exact absurd H (by simp)
       ·rw [if_neg d1] at H
        have d1b : decide (x12 < (t.length : Int)) = false := decide_eq_false d1; have H' := aK H; clear H d1 hls
        go_wp2
        go_roundg k2
        case measure => have := HK1.out; have := HK2.out; omega
        case rel => exact ⟨x3, x9, wrap64 (x10 + 1), by first | rfl | (simp; done), H', ⟨by have := HK1.out; have := HK2.out; omega⟩, HE⟩
    ·rw [if_neg c2] at H
     exact absurd H (by simp)
   ·rw [if_neg c1] at H
    have c1b : decide (x10 < (x9.length : Int)) = false := decide_eq_false c1
    simp only [Option.some.injEq, Prod.mk.injEq] at H
    obtain ⟨rfl, rfl⟩ := H; obtain ⟨Ao, cl, el⟩ := Kd.R_slice HE.out.l; subst el; clear c1
    go_wp2
    go_ret
    exact ⟨by first | rfl | simp, _, _, HE.out⟩
end Go.Proofs.Ythoaebnnolbaaaa.G
