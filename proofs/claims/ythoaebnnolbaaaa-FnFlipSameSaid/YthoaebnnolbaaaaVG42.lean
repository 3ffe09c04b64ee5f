/- For each Go function named below: a plain Lean function of the same name, and the proof that a call of the Go function returns just what the plain function tells, where it tells something. Written by a program of this session with the printer of the kit. -/
import Derived.Test.YthoaebnnolbaaaaVG0
import Derived.Test.YthoaebnnolbaaaaVG14
import Derived.Test.YthoaebnnolbaaaaVG35
import Derived.Test.YthoaebnnolbaaaaVG37
import Derived.Test.YthoaebnnolbaaaaVG38
namespace Go.Proofs.Ythoaebnnolbaaaa.G
open Go.RowKit Go.Proofs.YthoaebnnolbaaaaW.PrintWords Go.Proofs.YthoaebnnolbaaaaW.PrintLast Go.Proofs.YthoaebnnolbaaaaW.PrintMore
attribute [local go_sem] max2_int min2_int max_two min_two max_three min_three max_four min_four   -- for this text's walks alone
set_option linter.unusedVariables false
set_option linter.unusedSimpArgs false

/-! ### impl_FlipSame: function 37 -/
set_option maxHeartbeats 8000000 in
set_option maxRecDepth 100000 in
theorem impl_FlipSame_1.calls (k : Nat) (bg bk : Nat) (a0_0 : Int) (A0_1 : Option Addr) (c0_1 : Nat) (l0_1 : List (S69)) (kind : ByteArray) (x : Int) (r : List Int) (w : World) (hg : w.heap[bg]? = some (.cells #[.int .i64 a0_0, .slice A0_1 l0_1.length c0_1] 25 (0, 0)))
  (hk : w.heap[bk]? = some (.cells #[.string kind] 9 (0, 0))) (hr0_1 : Kd.C k69 w A0_1 l0_1.length l0_1) (hc0_1 : l0_1.length ≤ c0_1) (h : impl_byKind.f k a0_0 l0_1 kind x = some r) :
  Calls Try.prog 79 #[.int .i64 x, .pointer (some ⟨bg, 0, none⟩), .pointer (some ⟨bk, 0, none⟩)] w fun e w' => ∃ v, e = .returned v ∧ Kd.R (Kd.int .i64) 3 w' w.heap.size (fun _ => True) v r ∧ Below w.heap.size w w' := by
 have hu := Try.underlying25; have H := Aside0.mk h; have HR := Aside0.mk hr0_1; have HC := Aside0.mk hc0_1; have hcz_0 : w.cell? ⟨bg, 0, none⟩ = some (.int .i64 a0_0) := (blk_cell hg 0).trans rfl; have hcz_1 : w.cell? ⟨bg, 1, none⟩ = some (.slice A0_1 l0_1.length c0_1) := (blk_cell hg 1).trans rfl; have hcp : w.cell? ⟨bk, 0, none⟩ = some (.string kind) := (blk_cell hk 0).trans rfl; clear h hr0_1 hc0_1 hg hk
 go_enter Try.func79, Try.ntmps79
 go_wp2_with (go_at_call 77; refine (impl_byKind.calls k a0_0 _ _ l0_1 kind x r w HR.out HC.out H.out).mono ?_; rintro e w1 ⟨v, rfl, ho, hb⟩; have HO := Aside0.mk ho; have HB1 := Aside0.mk hb; clear ho hb)
 go_ret
 exact ⟨_, rfl, HO.out, HB1.out⟩
def impl_FlipSame.f (k : Nat) (a0_0 : Int) (l0_1 : List (S69)) (a1 : ByteArray) (a2 : Int) (a3 : Int) : Option Bool := (impl_WayIn.f k a0_0 l0_1 a2).bind fun t => (if t = true then ((impl_WayIn.f k a0_0 l0_1 a3).bind fun t => (if t = true then ((impl_isKind.f a1).bind fun u => (if u = true then (if 0 ≤ shl .i64 1 (l0_1.length : Int) ∧ shl .i64 1 (l0_1.length : Int) ≤ 1048576 then ((impl_spread.f (fun j x => impl_byKind.f j a0_0 l0_1 a1 x) k a2 (List.replicate (shl .i64 1 (l0_1.length : Int)).toNat false)).bind fun b => if 0 ≤ a3 ∧ a3 < (b.2.length : Int) then some (rdOf false b.2 a3) else none) else none) else some false)) else some false)) else some false)
set_option maxHeartbeats 8000000 in
set_option maxRecDepth 100000 in
theorem impl_FlipSame.calls (k : Nat) (a0_0 : Int) (A0_1 : Option Addr) (c0_1 : Nat) (l0_1 : List (S69)) (a1 : ByteArray) (a2 : Int) (a3 : Int) (r : Bool) (w : World) (hr0_1 : Kd.C k69 w A0_1 l0_1.length l0_1) (hc0_1 : l0_1.length ≤ c0_1) (h : impl_FlipSame.f k a0_0 l0_1 a1 a2 a3 = some r) :
  Calls Try.prog 37 #[.agg #[.int .i64 a0_0, .slice A0_1 l0_1.length c0_1], .string a1, .int .i64 a2, .int .i64 a3] w fun e w' => e = .returned (.bool r) ∧ Below w.heap.size w w' := by
 have hu := Try.underlying25; have hmf : ∀ (fn : Fn) (first cap : Array Value) (w : World), (Instr.makeFunc fn first cap).run Try.prog w = .ok (.func fn first cap) w := fun _ _ _ _ => rfl; have HR := Aside0.mk hr0_1; have HC := Aside0.mk hc0_1; have hb0 : Below w.heap.size w ((w.alloc (.cells #[.int .i64 a0_0, .slice A0_1 l0_1.length c0_1] 25)).alloc (.cells #[.string a1] 9)) := ((Below.refl _ _).alloc (Nat.le_refl _) _).alloc (by simp) _; have hbg : ((w.alloc (.cells #[.int .i64 a0_0, .slice A0_1 l0_1.length c0_1] 25)).alloc (.cells #[.string a1] 9)).heap[w.heap.size]? = some (.cells #[.int .i64 a0_0, .slice A0_1 l0_1.length c0_1] 25 (0, 0)) := blk_alloc (heap_alloc_new w _) _
 have hbk : ((w.alloc (.cells #[.int .i64 a0_0, .slice A0_1 l0_1.length c0_1] 25)).alloc (.cells #[.string a1] 9)).heap[w.heap.size + 1]? = some (.cells #[.string a1] 9 (0, 0)) := by
  have h_ := heap_alloc_new (w.alloc (.cells #[.int .i64 a0_0, .slice A0_1 l0_1.length c0_1] 25)) (.cells #[.string a1] 9)
  simpa using h_
 have HB0 := Aside0.mk hb0; have HG0 := Aside0.mk hbg; have HK0 := Aside0.mk hbk; clear hb0 hbg hbk hr0_1 hc0_1
 unfold impl_FlipSame.f at h
 obtain ⟨t, A1, h⟩ := Option.bind_eq_some_iff.mp h; have A1 := Aside0.mk A1
 cases t with
 | false =>
  have h1 : false = r := by simpa using h
  subst h1; clear h
  go_enter Try.func37, Try.ntmps37
  go_wp2_with (go_at_call 60; refine (impl_WayIn.calls k a0_0 _ _ l0_1 a2 false _ (Kd.C_below HR.out HB0.out) HC.out A1.out).mono ?_; rintro e w1 ⟨rfl, hb_⟩; have HB1 := Aside0.mk (below_step HB0.out hb_); have HG1 := Aside0.mk (blk_below HG0.out hb_); have HK1 := Aside0.mk (blk_below HK0.out hb_); clear hb_; have hg1_0 : w1.cell? ⟨w.heap.size, 0, none⟩ = some (.int .i64 a0_0) := (blk_cell HG1.out 0).trans rfl; have hg1_1 : w1.cell? ⟨w.heap.size, 1, none⟩ = some (.slice A0_1 l0_1.length c0_1) := (blk_cell HG1.out 1).trans rfl; have hk1_0 : w1.cell? ⟨w.heap.size + 1, 0, none⟩ = some (.string a1) := (blk_cell HK1.out 0).trans rfl)
  go_ret
  exact ⟨rfl, HB1.out⟩
 | true =>
 obtain ⟨t2, A1', h⟩ := Option.bind_eq_some_iff.mp (show ((impl_WayIn.f k a0_0 l0_1 a3).bind fun t => (if t = true then ((impl_isKind.f a1).bind fun u => (if u = true then (if 0 ≤ shl .i64 1 (l0_1.length : Int) ∧ shl .i64 1 (l0_1.length : Int) ≤ 1048576 then ((impl_spread.f (fun j x => impl_byKind.f j a0_0 l0_1 a1 x) k a2 (List.replicate (shl .i64 1 (l0_1.length : Int)).toNat false)).bind fun b => if 0 ≤ a3 ∧ a3 < (b.2.length : Int) then some (rdOf false b.2 a3) else none) else none) else some false)) else some false)) = some r from h); have A1' := Aside0.mk A1'
 cases t2 with
 | false =>
  have h1 : false = r := by simpa using h
  subst h1; clear h
  go_enter Try.func37, Try.ntmps37
  go_wp2_with (first | (go_at_call 60; refine (impl_WayIn.calls k a0_0 _ _ l0_1 a3 false _ (Kd.C_below HR.out HB1.out) HC.out A1'.out).mono ?_; rintro e w2 ⟨rfl, hb_⟩; have HB2 := Aside0.mk (below_step HB1.out hb_); have HG2 := Aside0.mk (blk_below HG1.out hb_); have HK2 := Aside0.mk (blk_below HK1.out hb_); clear hb_; have hg2_0 : w2.cell? ⟨w.heap.size, 0, none⟩ = some (.int .i64 a0_0) := (blk_cell HG2.out 0).trans rfl; have hg2_1 : w2.cell? ⟨w.heap.size, 1, none⟩ = some (.slice A0_1 l0_1.length c0_1) := (blk_cell HG2.out 1).trans rfl; have hk2_0 : w2.cell? ⟨w.heap.size + 1, 0, none⟩ = some (.string a1) := (blk_cell HK2.out 0).trans rfl) | (go_at_call 60; refine (impl_WayIn.calls k a0_0 _ _ l0_1 a2 true _ (Kd.C_below HR.out HB0.out) HC.out A1.out).mono ?_; rintro e w1 ⟨rfl, hb_⟩; have HB1 := Aside0.mk (below_step HB0.out hb_); have HG1 := Aside0.mk (blk_below HG0.out hb_); have HK1 := Aside0.mk (blk_below HK0.out hb_); clear hb_; have hg1_0 : w1.cell? ⟨w.heap.size, 0, none⟩ = some (.int .i64 a0_0) := (blk_cell HG1.out 0).trans rfl; have hg1_1 : w1.cell? ⟨w.heap.size, 1, none⟩ = some (.slice A0_1 l0_1.length c0_1) := (blk_cell HG1.out 1).trans rfl; have hk1_0 : w1.cell? ⟨w.heap.size + 1, 0, none⟩ = some (.string a1) := (blk_cell HK1.out 0).trans rfl))
  go_ret
  exact ⟨rfl, HB2.out⟩
 | true =>
  obtain ⟨u, A2, h⟩ := Option.bind_eq_some_iff.mp (show ((impl_isKind.f a1).bind fun u => (if u = true then (if 0 ≤ shl .i64 1 (l0_1.length : Int) ∧ shl .i64 1 (l0_1.length : Int) ≤ 1048576 then ((impl_spread.f (fun j x => impl_byKind.f j a0_0 l0_1 a1 x) k a2 (List.replicate (shl .i64 1 (l0_1.length : Int)).toNat false)).bind fun b => if 0 ≤ a3 ∧ a3 < (b.2.length : Int) then some (rdOf false b.2 a3) else none) else none) else some false)) = some r from h); have A2 := Aside0.mk A2
  cases u with
  | false =>
   have h1 : false = r := by simpa using h
   subst h1; clear h
   go_enter Try.func37, Try.ntmps37
   go_wp2_with (first | (go_at_call 60; refine (impl_WayIn.calls k a0_0 _ _ l0_1 a3 true _ (Kd.C_below HR.out HB1.out) HC.out A1'.out).mono ?_; rintro e w2 ⟨rfl, hb_⟩; have HB2 := Aside0.mk (below_step HB1.out hb_); have HG2 := Aside0.mk (blk_below HG1.out hb_); have HK2 := Aside0.mk (blk_below HK1.out hb_); clear hb_; have hg2_0 : w2.cell? ⟨w.heap.size, 0, none⟩ = some (.int .i64 a0_0) := (blk_cell HG2.out 0).trans rfl; have hg2_1 : w2.cell? ⟨w.heap.size, 1, none⟩ = some (.slice A0_1 l0_1.length c0_1) := (blk_cell HG2.out 1).trans rfl; have hk2_0 : w2.cell? ⟨w.heap.size + 1, 0, none⟩ = some (.string a1) := (blk_cell HK2.out 0).trans rfl) | (go_at_call 60; refine (impl_WayIn.calls k a0_0 _ _ l0_1 a2 true _ (Kd.C_below HR.out HB0.out) HC.out A1.out).mono ?_; rintro e w1 ⟨rfl, hb_⟩; have HB1 := Aside0.mk (below_step HB0.out hb_); have HG1 := Aside0.mk (blk_below HG0.out hb_); have HK1 := Aside0.mk (blk_below HK0.out hb_); clear hb_; have hg1_0 : w1.cell? ⟨w.heap.size, 0, none⟩ = some (.int .i64 a0_0) := (blk_cell HG1.out 0).trans rfl; have hg1_1 : w1.cell? ⟨w.heap.size, 1, none⟩ = some (.slice A0_1 l0_1.length c0_1) := (blk_cell HG1.out 1).trans rfl; have hk1_0 : w1.cell? ⟨w.heap.size + 1, 0, none⟩ = some (.string a1) := (blk_cell HK1.out 0).trans rfl) | (go_at_call 74; refine (impl_isKind.calls a1 false _ A2.out).mono ?_; rintro e w3 ⟨rfl, hd_⟩; have hb_ := hd_.below; have HB3 := Aside0.mk (below_step HB2.out hb_); have HG3 := Aside0.mk (blk_below HG2.out hb_); have HK3 := Aside0.mk (blk_below HK2.out hb_); clear hb_ hd_; have hg3_0 : w3.cell? ⟨w.heap.size, 0, none⟩ = some (.int .i64 a0_0) := (blk_cell HG3.out 0).trans rfl; have hg3_1 : w3.cell? ⟨w.heap.size, 1, none⟩ = some (.slice A0_1 l0_1.length c0_1) := (blk_cell HG3.out 1).trans rfl; have hk3_0 : w3.cell? ⟨w.heap.size + 1, 0, none⟩ = some (.string a1) := (blk_cell HK3.out 0).trans rfl))
   go_ret
   exact ⟨rfl, HB3.out⟩
  | true =>
  replace h : (if 0 ≤ shl .i64 1 (l0_1.length : Int) ∧ shl .i64 1 (l0_1.length : Int) ≤ 1048576 then ((impl_spread.f (fun j x => impl_byKind.f j a0_0 l0_1 a1 x) k a2 (List.replicate (shl .i64 1 (l0_1.length : Int)).toNat false)).bind fun b => if 0 ≤ a3 ∧ a3 < (b.2.length : Int) then some (rdOf false b.2 a3) else none) else none) = some r := h
  by_cases c1 : 0 ≤ shl .i64 1 (l0_1.length : Int) ∧ shl .i64 1 (l0_1.length : Int) ≤ 1048576
  case neg => rw [if_neg c1] at h; exact absurd h (by simp)
  rw [if_pos c1] at h
  obtain ⟨⟨b1, b2⟩, A3, h⟩ := Option.bind_eq_some_iff.mp h; replace h : (if 0 ≤ a3 ∧ a3 < (b2.length : Int) then some (rdOf false b2 a3) else none) = some r := h
  by_cases c2 : 0 ≤ a3 ∧ a3 < (b2.length : Int)
  case neg => rw [if_neg c2] at h; exact absurd h (by simp)
  rw [if_pos c2] at h
  have h1 : rdOf false b2 a3 = r := by simpa using h
  subst h1; clear h; have HP := Aside0.mk c2; clear c2; obtain ⟨ji, hji⟩ : ∃ j_ : Int, (shl .i64 1 (l0_1.length : Int)) = j_ := ⟨_, rfl⟩
  rw [hji] at A3 c1
  have hji_ : (IntKind.i64.wrap (1 * 2 ^ min (l0_1.length : Int).toNat 64)) = ji := hji; have hjiu : (IntKind.i64.wrap (2 ^ min (l0_1.length : Int).toNat 64)) = ji := by have h_ := hji_; rw [Int.one_mul] at h_; exact h_
  have hjiy : (wrap64 (1 * 2 ^ min (l0_1.length : Int).toNat 64)) = ji := (i64_w _).symm.trans hji_; have hjin : (IntKind.i64.wrap (2 ^ min l0_1.length 64)) = ji := hjiu; have hjip : wrap64 (2 ^ min l0_1.length 64) = ji := (i64_w _).symm.trans hjin; have HJ := Aside0.mk c1; clear hji c1; have A3 := Aside0.mk A3
  go_enter Try.func37, Try.ntmps37
  go_wp2_with (first | (go_at_call 60; refine (impl_WayIn.calls k a0_0 _ _ l0_1 a3 true _ (Kd.C_below HR.out HB1.out) HC.out A1'.out).mono ?_; rintro e w2 ⟨rfl, hb_⟩; have HB2 := Aside0.mk (below_step HB1.out hb_); have HG2 := Aside0.mk (blk_below HG1.out hb_); have HK2 := Aside0.mk (blk_below HK1.out hb_); clear hb_; have hg2_0 : w2.cell? ⟨w.heap.size, 0, none⟩ = some (.int .i64 a0_0) := (blk_cell HG2.out 0).trans rfl; have hg2_1 : w2.cell? ⟨w.heap.size, 1, none⟩ = some (.slice A0_1 l0_1.length c0_1) := (blk_cell HG2.out 1).trans rfl; have hk2_0 : w2.cell? ⟨w.heap.size + 1, 0, none⟩ = some (.string a1) := (blk_cell HK2.out 0).trans rfl) | (go_at_call 60; refine (impl_WayIn.calls k a0_0 _ _ l0_1 a2 true _ (Kd.C_below HR.out HB0.out) HC.out A1.out).mono ?_; rintro e w1 ⟨rfl, hb_⟩; have HB1 := Aside0.mk (below_step HB0.out hb_); have HG1 := Aside0.mk (blk_below HG0.out hb_); have HK1 := Aside0.mk (blk_below HK0.out hb_); clear hb_; have hg1_0 : w1.cell? ⟨w.heap.size, 0, none⟩ = some (.int .i64 a0_0) := (blk_cell HG1.out 0).trans rfl; have hg1_1 : w1.cell? ⟨w.heap.size, 1, none⟩ = some (.slice A0_1 l0_1.length c0_1) := (blk_cell HG1.out 1).trans rfl; have hk1_0 : w1.cell? ⟨w.heap.size + 1, 0, none⟩ = some (.string a1) := (blk_cell HK1.out 0).trans rfl) | (go_at_call 74; refine (impl_isKind.calls a1 true _ A2.out).mono ?_; rintro e w3 ⟨rfl, hd_⟩; have hb_ := hd_.below; have HB3 := Aside0.mk (below_step HB2.out hb_); have HG3 := Aside0.mk (blk_below HG2.out hb_); have HK3 := Aside0.mk (blk_below HK2.out hb_); clear hb_ hd_; have hg3_0 : w3.cell? ⟨w.heap.size, 0, none⟩ = some (.int .i64 a0_0) := (blk_cell HG3.out 0).trans rfl; have hg3_1 : w3.cell? ⟨w.heap.size, 1, none⟩ = some (.slice A0_1 l0_1.length c0_1) := (blk_cell HG3.out 1).trans rfl; have hk3_0 : w3.cell? ⟨w.heap.size + 1, 0, none⟩ = some (.string a1) := (blk_cell HK3.out 0).trans rfl) | ((with_reducible refine gate_dst (N := 29) rfl ?_); refine Kd.R_make Kd.bool _ 4 (by rfl) (N := 29) rfl 74 _ _ rfl ji rfl rfl Try.underlying74 (.bool false) 1 info4 rfl (by decide) (by omega) false (ok := fun _ => True) (okp := fun _ => True) rfl (fun _ hk => hk) trivial HJ.out.1 (by have := HJ.out.2; omega) (Below.refl _ _) (Nat.le_refl _) ?_; intro vm w4 ho_ hb_ hg_ hnew_; clear hg_ hnew_; have HM := Aside0.mk (Kd.R_lower ho_ HB3.out.size); have HB4 := Aside0.mk (below_step HB3.out hb_); have HG4 := Aside0.mk (blk_below HG3.out hb_); have HK4 := Aside0.mk (blk_below HK3.out hb_); clear ho_ hb_; obtain ⟨Am, cm, em⟩ := Kd.R_slice HM.out; rw [List.length_replicate] at em; subst em) | (go_at_call 75; refine (impl_spread.calls w w.heap.size (w.heap.size + 1) a0_0 A0_1 l0_1.length c0_1 a1 79 Try.f79 Try.func79 (by kernel_rfl) rfl (fun j x => impl_byKind.f j a0_0 l0_1 a1 x) (fun j x r W hx hb_ hg_ hk_ => impl_FlipSame_1.calls j w.heap.size (w.heap.size + 1) a0_0 A0_1 c0_1 l0_1 a1 x r W hg_ hk_ (Kd.C_below HR.out hb_) HC.out hx) k a2 (List.replicate ji.toNat false) b1 b2 _ _ HB4.out HG4.out HK4.out HM.out A3.out).mono ?_; rintro e ws ⟨rfl, vl, ll, hse⟩; have HSE := Aside0.mk hse; clear hse; have hlen_ := (Kd.R_reads' HSE.out.s).1; obtain ⟨ad_, ea_, hx_⟩ := Kd.at_bool (Kd.R_reads' HSE.out.s).2.2 a3 HP.out.1 HP.out.2; cases ea_; have hp1_ := eq_true HP.out.1; have hp3_ : (a3 < (ji.toNat : Int)) = True := eq_true (by rw [hlen_]; exact HP.out.2); have hp4_ : (a3 < max ji 0) = True := (by rw [← Int.ofNat_toNat]; exact hp3_); have hp5_ : (a3 < (b2.length : Int)) = True := eq_true HP.out.2; have hp6_ : ¬ ((b2.length : Int) ≤ a3) := Int.not_le.2 HP.out.2))
  go_ret
  exact ⟨rfl, HSE.out.below⟩

end Go.Proofs.Ythoaebnnolbaaaa.G
