/- A part of this claim; what it does not use is left out. -/
import Derived.Test.YthoaebnnolbaaaaVG0
import Derived.Test.YthoaebnnolbaaaaVG3
import Derived.Test.YthoaebnnolbaaaaVG35
import Derived.Test.YthoaebnnolbaaaaVG37
import Derived.Test.YthoaebnnolbaaaaVG38
namespace Go.Proofs.Ythoaebnnolbaaaa.G
open Go.RowKit Go.Proofs.YthoaebnnolbaaaaW.PrintWords Go.Proofs.YthoaebnnolbaaaaW.PrintLast Go.Proofs.YthoaebnnolbaaaaW.PrintMore
attribute [local go_sem] max2_int min2_int max_two min_two max_three min_three max_four min_four
set_option linter.unusedVariables false
set_option linter.unusedSimpArgs false
set_option maxHeartbeats 8000000 in
set_option maxRecDepth 100000 in
theorem impl_FlipClasses_1.calls (k : Nat) (bg bk : Nat) (a0_0 : Int) (A0_1 : Option Addr) (c0_1 : Nat) (l0_1 : List (S69)) (kind : ByteArray) (x : Int) (r : List Int) (w : World) (hg : w.heap[bg]? = some (.cells #[.int .i64 a0_0, .slice A0_1 l0_1.length c0_1] 25 (0, 0)))
  (hk : w.heap[bk]? = some (.cells #[.string kind] 9 (0, 0))) (hr0_1 : Kd.C k69 w A0_1 l0_1.length l0_1) (hc0_1 : l0_1.length ≤ c0_1) (h : impl_byKind.f k a0_0 l0_1 kind x = some r) :
  Calls Try.prog 80 #[.int .i64 x, .pointer (some ⟨bg, 0, none⟩), .pointer (some ⟨bk, 0, none⟩)] w fun e w' => ∃ v, e = .returned v ∧ Kd.R (Kd.int .i64) 3 w' w.heap.size (fun _ => True) v r ∧ Below w.heap.size w w' := by
 have hu := Try.underlying25; have H := aK h; have HR := aK hr0_1; have HC := aK hc0_1; have hcz_0 : w.cell? ⟨bg, 0, none⟩ = some (.int .i64 a0_0) := (blk_cell hg 0).trans rfl; have hcz_1 : w.cell? ⟨bg, 1, none⟩ = some (.slice A0_1 l0_1.length c0_1) := (blk_cell hg 1).trans rfl; have hcp : w.cell? ⟨bk, 0, none⟩ = some (.string kind) := (blk_cell hk 0).trans rfl; clear h hr0_1 hc0_1 hg hk
 go_enter Try.func80, Try.ntmps80
 go_wp2_with (go_at_call 77; refine (impl_byKind.calls k a0_0 _ _ l0_1 kind x r w HR.out HC.out H.out).mono ?_; rintro e w1 ⟨v, rfl, ho, hb⟩; have HO := aK ho; have HB1 := aK hb; clear ho hb)
 go_ret
 exact ⟨_, rfl, HO.out, HB1.out⟩
def impl_FlipClasses.l0 (F : Nat → Int → Option (List Int)) (N : Int) : Nat → List Bool → Int → Int → Option Int
 | 0, _, _, _ => none
 | k + 1, ls, m, i => if i < N then (if 0 ≤ i ∧ i < (ls.length : Int) then (if rdOf false ls i = true then impl_FlipClasses.l0 F N k ls m (wrap64 (i + 1)) else ((impl_spread.f F k i ls).bind fun b => impl_FlipClasses.l0 F N k b.2 (wrap64 (m + 1)) (wrap64 (i + 1)))) else none) else some m
def impl_FlipClasses.f (k : Nat) (a0_0 : Int) (l0_1 : List (S69)) (a1 : ByteArray) : Option (Int × Bool) := (impl_WayGraph.f k a0_0 l0_1).bind fun t => (if t = true then ((impl_isKind.f a1).bind fun u => (if u = true then (if 0 ≤ shl .i64 1 (l0_1.length : Int) ∧ shl .i64 1 (l0_1.length : Int) ≤ 1048576 then ((impl_FlipClasses.l0 (fun j x => impl_byKind.f j a0_0 l0_1 a1 x) ((shl .i64 1 (l0_1.length : Int)).toNat : Int) k (List.replicate (shl .i64 1 (l0_1.length : Int)).toNat false) 0 0).bind fun m => some (m, true)) else none) else some (0, false))) else some (0, false))
set_option maxHeartbeats 8000000 in
set_option maxRecDepth 100000 in
theorem impl_FlipClasses.calls (k : Nat) (a0_0 : Int) (A0_1 : Option Addr) (c0_1 : Nat) (l0_1 : List (S69)) (a1 : ByteArray) (r1 : Int) (r2 : Bool) (w : World) (hr0_1 : Kd.C k69 w A0_1 l0_1.length l0_1) (hc0_1 : l0_1.length ≤ c0_1) (h : impl_FlipClasses.f k a0_0 l0_1 a1 = some (r1, r2)) :
  Calls Try.prog 39 #[.agg #[.int .i64 a0_0, .slice A0_1 l0_1.length c0_1], .string a1] w fun e w' => e = .returned (.tuple #[.int .i64 r1, .bool r2]) ∧ Below w.heap.size w w' := by
 have hu := Try.underlying25; have hmf : ∀ (fn : Fn) (first cap : Array Value) (w : World), (Instr.makeFunc fn first cap).run Try.prog w = .ok (.func fn first cap) w := fun _ _ _ _ => rfl; have HR := aK hr0_1; have HC := aK hc0_1; have hb0 : Below w.heap.size w ((w.alloc (.cells #[.int .i64 a0_0, .slice A0_1 l0_1.length c0_1] 25)).alloc (.cells #[.string a1] 9)) := ((Below.refl _ _).alloc (Nat.le_refl _) _).alloc (by simp) _; have hbg : ((w.alloc (.cells #[.int .i64 a0_0, .slice A0_1 l0_1.length c0_1] 25)).alloc (.cells #[.string a1] 9)).heap[w.heap.size]? = some (.cells #[.int .i64 a0_0, .slice A0_1 l0_1.length c0_1] 25 (0, 0)) := blk_alloc (heap_alloc_new w _) _
 have hbk : ((w.alloc (.cells #[.int .i64 a0_0, .slice A0_1 l0_1.length c0_1] 25)).alloc (.cells #[.string a1] 9)).heap[w.heap.size + 1]? = some (.cells #[.string a1] 9 (0, 0)) := by
  have h_ := heap_alloc_new (w.alloc (.cells #[.int .i64 a0_0, .slice A0_1 l0_1.length c0_1] 25)) (.cells #[.string a1] 9)
  simpa using h_
 have HB0 := aK hb0; have HG0 := aK hbg; have HK0 := aK hbk; clear hb0 hbg hbk hr0_1 hc0_1
 unfold impl_FlipClasses.f at h
 obtain ⟨t, A1, h⟩ := Option.bind_eq_some_iff.mp h; have A1 := aK A1
 cases t with
 | false =>
  have h1 : r1 = 0 ∧ r2 = false := by simpa [eq_comm] using h
  obtain ⟨rfl, rfl⟩ := h1; clear h
  go_enter Try.func39, Try.ntmps39
  go_wp2_with (go_at_call 48; refine (impl_WayGraph.calls k a0_0 _ _ l0_1 false _ (Kd.C_below HR.out HB0.out) HC.out A1.out).mono ?_; rintro e w1 ⟨rfl, hb_⟩; have HB1 := aK (below_step HB0.out hb_); have HG1 := aK (blk_below HG0.out hb_); have HK1 := aK (blk_below HK0.out hb_); clear hb_; have hg1_0 : w1.cell? ⟨w.heap.size, 0, none⟩ = some (.int .i64 a0_0) := (blk_cell HG1.out 0).trans rfl; have hg1_1 : w1.cell? ⟨w.heap.size, 1, none⟩ = some (.slice A0_1 l0_1.length c0_1) := (blk_cell HG1.out 1).trans rfl; have hk1_0 : w1.cell? ⟨w.heap.size + 1, 0, none⟩ = some (.string a1) := (blk_cell HK1.out 0).trans rfl)
  go_ret2
  exact ⟨rfl, HB1.out⟩
 | true =>
  obtain ⟨u, A2, h⟩ := Option.bind_eq_some_iff.mp (show ((impl_isKind.f a1).bind fun u => (if u = true then (if 0 ≤ shl .i64 1 (l0_1.length : Int) ∧ shl .i64 1 (l0_1.length : Int) ≤ 1048576 then ((impl_FlipClasses.l0 (fun j x => impl_byKind.f j a0_0 l0_1 a1 x) ((shl .i64 1 (l0_1.length : Int)).toNat : Int) k (List.replicate (shl .i64 1 (l0_1.length : Int)).toNat false) 0 0).bind fun m => some (m, true)) else none) else some (0, false))) = some (r1, r2) from h); have A2 := aK A2
  cases u with
  | false =>
   have h1 : r1 = 0 ∧ r2 = false := by simpa [eq_comm] using h
   obtain ⟨rfl, rfl⟩ := h1; clear h
   go_enter Try.func39, Try.ntmps39
   go_wp2_with (first | (go_at_call 48; refine (impl_WayGraph.calls k a0_0 _ _ l0_1 true _ (Kd.C_below HR.out HB0.out) HC.out A1.out).mono ?_; rintro e w1 ⟨rfl, hb_⟩; have HB1 := aK (below_step HB0.out hb_); have HG1 := aK (blk_below HG0.out hb_); have HK1 := aK (blk_below HK0.out hb_); clear hb_; have hg1_0 : w1.cell? ⟨w.heap.size, 0, none⟩ = some (.int .i64 a0_0) := (blk_cell HG1.out 0).trans rfl; have hg1_1 : w1.cell? ⟨w.heap.size, 1, none⟩ = some (.slice A0_1 l0_1.length c0_1) := (blk_cell HG1.out 1).trans rfl; have hk1_0 : w1.cell? ⟨w.heap.size + 1, 0, none⟩ = some (.string a1) := (blk_cell HK1.out 0).trans rfl) | (go_at_call 74; refine (impl_isKind.calls a1 false _ A2.out).mono ?_; rintro e w2 ⟨rfl, hd_⟩; have hb_ := hd_.below; have HB2 := aK (below_step HB1.out hb_); have HG2 := aK (blk_below HG1.out hb_); have HK2 := aK (blk_below HK1.out hb_); clear hb_ hd_; have hg2_0 : w2.cell? ⟨w.heap.size, 0, none⟩ = some (.int .i64 a0_0) := (blk_cell HG2.out 0).trans rfl; have hg2_1 : w2.cell? ⟨w.heap.size, 1, none⟩ = some (.slice A0_1 l0_1.length c0_1) := (blk_cell HG2.out 1).trans rfl; have hk2_0 : w2.cell? ⟨w.heap.size + 1, 0, none⟩ = some (.string a1) := (blk_cell HK2.out 0).trans rfl))
   go_ret2
   exact ⟨rfl, HB2.out⟩
  | true =>
  replace h : (if 0 ≤ shl .i64 1 (l0_1.length : Int) ∧ shl .i64 1 (l0_1.length : Int) ≤ 1048576 then ((impl_FlipClasses.l0 (fun j x => impl_byKind.f j a0_0 l0_1 a1 x) ((shl .i64 1 (l0_1.length : Int)).toNat : Int) k (List.replicate (shl .i64 1 (l0_1.length : Int)).toNat false) 0 0).bind fun m => some (m, true)) else none) = some (r1, r2) := h
  by_cases c1 : 0 ≤ shl .i64 1 (l0_1.length : Int) ∧ shl .i64 1 (l0_1.length : Int) ≤ 1048576
  case neg => rw [if_neg c1] at h; exact absurd h (by simp)
  rw [if_pos c1] at h
  obtain ⟨b1, A3, h⟩ := Option.bind_eq_some_iff.mp h; have h1 : b1 = r1 ∧ true = r2 := by simpa using h
  obtain ⟨rfl, rfl⟩ := h1; clear h; obtain ⟨ji, hji⟩ : ∃ j_ : Int, (shl .i64 1 (l0_1.length : Int)) = j_ := ⟨_, rfl⟩
  rw [hji] at A3 c1
  have hji_ : (IntKind.i64.wrap (1 * 2 ^ min (l0_1.length : Int).toNat 64)) = ji := hji; have hjiu : (IntKind.i64.wrap (2 ^ min (l0_1.length : Int).toNat 64)) = ji := by have h_ := hji_; rw [Int.one_mul] at h_; exact h_
  have hjiy : (wrap64 (1 * 2 ^ min (l0_1.length : Int).toNat 64)) = ji := (i64_w _).symm.trans hji_; have hjin : (IntKind.i64.wrap (2 ^ min l0_1.length 64)) = ji := hjiu; have hjip : wrap64 (2 ^ min l0_1.length 64) = ji := (i64_w _).symm.trans hjin; have HJ := aK c1; clear hji c1; have A3 := aK A3
  go_enter Try.func39, Try.ntmps39
  go_wp2_with (first | (go_at_call 48; refine (impl_WayGraph.calls k a0_0 _ _ l0_1 true _ (Kd.C_below HR.out HB0.out) HC.out A1.out).mono ?_; rintro e w1 ⟨rfl, hb_⟩; have HB1 := aK (below_step HB0.out hb_); have HG1 := aK (blk_below HG0.out hb_); have HK1 := aK (blk_below HK0.out hb_); clear hb_; have hg1_0 : w1.cell? ⟨w.heap.size, 0, none⟩ = some (.int .i64 a0_0) := (blk_cell HG1.out 0).trans rfl; have hg1_1 : w1.cell? ⟨w.heap.size, 1, none⟩ = some (.slice A0_1 l0_1.length c0_1) := (blk_cell HG1.out 1).trans rfl; have hk1_0 : w1.cell? ⟨w.heap.size + 1, 0, none⟩ = some (.string a1) := (blk_cell HK1.out 0).trans rfl) | (go_at_call 74; refine (impl_isKind.calls a1 true _ A2.out).mono ?_; rintro e w2 ⟨rfl, hd_⟩; have hb_ := hd_.below; have HB2 := aK (below_step HB1.out hb_); have HG2 := aK (blk_below HG1.out hb_); have HK2 := aK (blk_below HK1.out hb_); clear hb_ hd_; have hg2_0 : w2.cell? ⟨w.heap.size, 0, none⟩ = some (.int .i64 a0_0) := (blk_cell HG2.out 0).trans rfl; have hg2_1 : w2.cell? ⟨w.heap.size, 1, none⟩ = some (.slice A0_1 l0_1.length c0_1) := (blk_cell HG2.out 1).trans rfl; have hk2_0 : w2.cell? ⟨w.heap.size + 1, 0, none⟩ = some (.string a1) := (blk_cell HK2.out 0).trans rfl) | ((with_reducible refine gate_dst (N := 21) rfl ?_); refine Kd.R_make Kd.bool _ 4 (by rfl) (N := 21) rfl 74 _ _ rfl ji rfl rfl Try.underlying74 (.bool false) 1 info4 rfl (by decide) (by omega) false (ok := fun _ => True) (okp := fun _ => True) rfl (fun _ hk => hk) trivial HJ.out.1 (by have := HJ.out.2; omega) (Below.refl _ _) (Nat.le_refl _) ?_; intro vm w3 ho_ hb_ hg_ hnew_; clear hg_ hnew_; have HM := aK (Kd.R_lower ho_ HB2.out.size); have HB3 := aK (below_step HB2.out hb_); have HG3 := aK (blk_below HG2.out hb_); have HK3 := aK (blk_below HK2.out hb_); clear ho_ hb_; obtain ⟨Am, cm, em⟩ := Kd.R_slice HM.out; rw [List.length_replicate] at em; subst em))
  go_loopg [6, 24] k (fun kq v6 v24 w' => ∃ (ls : List Bool) (m i : Int), v6 = .int .i64 m ∧ v24 = .int .i64 i ∧ Aside0 (impl_FlipClasses.l0 (fun j x => impl_byKind.f j a0_0 l0_1 a1 x) (ji.toNat : Int) kq ls m i = some b1) ∧ Aside0 (kq ≤ k) ∧ Aside0 (Below w.heap.size w w') ∧ Aside0 (w'.heap[w.heap.size]? = some (.cells #[.int .i64 a0_0, .slice A0_1 l0_1.length c0_1] 25 (0, 0))) ∧ Aside0 (w'.heap[w.heap.size + 1]? = some (.cells #[.string a1] 9 (0, 0))) ∧ Aside0 (Kd.R Kd.bool 4 w' w.heap.size (fun _ => True) (.slice Am ji.toNat cm) ls))
  case atStart => exact ⟨List.replicate ji.toNat false, 0, 0, by first | rfl | (simp; done), rfl, A3, ⟨Nat.le_refl _⟩, HB3, HG3, HK3, HM⟩
  case round =>
   clear A3 HB3 HG3 HK3 HM; obtain ⟨ls, m, i, rfl, rfl, HA, HKQ, HB, HG, HK, HM⟩ := hrel
   cases gk with
   | zero => exact absurd HA.out (by simp [impl_FlipClasses.l0])
   | succ k1 =>
    have H := HA.out; clear HA
    simp only [impl_FlipClasses.l0] at H
    have hlen_ := (Kd.R_reads' HM.out).1
    by_cases c1 : i < (ji.toNat : Int)
    ·rw [if_pos c1] at H
     by_cases c2 : 0 ≤ i ∧ i < (ls.length : Int)
     ·rw [if_pos c2] at H
      obtain ⟨ad_, ea_, hx_⟩ := Kd.at_bool (Kd.R_reads' HM.out).2.2 i c2.1 c2.2
      cases ea_
      have c1b : decide (i < (ji.toNat : Int)) = true := decide_eq_true c1; have c1c := eq_true c1; have c2b := eq_true c2.1; have c1d : decide (i < max ji 0) = true := by rw [← Int.ofNat_toNat]; exact c1b
      have c1e : (i < max ji 0) = True := by rw [← Int.ofNat_toNat]; exact c1c
      clear c1 c2 hlen_
      cases hb0 : rdOf false ls i with
      | true =>
       rw [if_pos hb0] at H
       rw [hb0] at hx_
       have H' := aK H; clear H hb0
       go_wp2
       go_roundg k1
       case measure => have := HKQ.out; omega
       case rel => exact ⟨ls, m, wrap64 (i + 1), by first | rfl | (simp; done), by first | rfl | (simp; done), H', ⟨by have := HKQ.out; omega⟩, HB, HG, HK, HM⟩
      | false =>
       rw [if_neg (by rw [hb0]; decide)] at H
       rw [hb0] at hx_
       obtain ⟨⟨b2, b3⟩, A4, H⟩ := Option.bind_eq_some_iff.mp H; have A4 := aK A4; have H' := aK H; clear H hb0
       go_wp2_with (go_at_call 75; refine (impl_spread.calls w w.heap.size (w.heap.size + 1) a0_0 A0_1 l0_1.length c0_1 a1 80 Try.f80 Try.func80 (by kernel_rfl) rfl (fun j x => impl_byKind.f j a0_0 l0_1 a1 x) (fun j x r W hx hb_ hg_ hk_ => impl_FlipClasses_1.calls j w.heap.size (w.heap.size + 1) a0_0 A0_1 c0_1 l0_1 a1 x r W hg_ hk_ (Kd.C_below HR.out hb_) HC.out hx) k1 i ls b2 b3 _ _ HB.out HG.out HK.out HM.out A4.out).mono ?_; rintro e ws ⟨rfl, vl, ll, hse⟩; have HSE := aK hse; clear hse)
       go_roundg k1
       case measure => have := HKQ.out; omega
       case rel => exact ⟨b3, wrap64 (m + 1), wrap64 (i + 1), by first | rfl | (simp; done), by first | rfl | (simp; done), H', ⟨by have := HKQ.out; omega⟩, ⟨HSE.out.below⟩, ⟨HSE.out.g⟩, ⟨HSE.out.k⟩, ⟨HSE.out.s⟩⟩
     ·rw [if_neg c2] at H
      exact absurd H (by simp)
    ·rw [if_neg c1] at H
     have c1b : decide (i < (ji.toNat : Int)) = false := decide_eq_false c1; have c1d : decide (i < max ji 0) = false := by rw [← Int.ofNat_toNat]; exact c1b
     have c1e : (i < max ji 0) = False := by rw [← Int.ofNat_toNat]; exact eq_false c1
     have hb : m = b1 := Option.some.inj H; subst hb; clear H c1
     go_wp2
     go_ret2
     exact ⟨rfl, HB.out⟩
end Go.Proofs.Ythoaebnnolbaaaa.G
