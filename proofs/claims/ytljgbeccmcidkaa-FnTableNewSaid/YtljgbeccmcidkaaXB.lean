/- impl.cellOrder: which of two cells comes first, and how the world grows by the call. Conditions: the plain function answers. -/
import Derived.Test.YtljgbeccmcidkaaXA
import Derived.Sort.Grow
namespace Go.Proofs.Ytljgbeccmcidkaa.P
open Go.RowKit Go.Proofs.YtljgbeccmcidkaaW.PrintWords Go.Proofs.YtljgbeccmcidkaaW.PrintLast Go.Proofs.YtljgbeccmcidkaaW.PrintMore
attribute [local go_sem] max2_int min2_int max_two min_two max_three min_three max_four min_four   -- for this text's walks alone
set_option linter.unusedVariables false
set_option linter.unusedSimpArgs false

attribute [local go_sem ↓] isSome_setCell
/-! ### cmp_isNaN_int: function 67 -/
def cmp_isNaN_int.f (a0 : Int) : Option (Bool) := some (a0 != a0)
set_option maxHeartbeats 8000000 in
set_option maxRecDepth 100000 in
theorem cmp_isNaN_int.calls (a0 : Int) (r : Bool) (w : World) (h : cmp_isNaN_int.f a0 = some r) :
    Calls Try.prog 67 #[.int .i64 a0] w fun e w' => e = .returned (.bool r) ∧ Drawn0 w w' := by
 have H : (some (a0 != a0)) = some r := h
 clear h
 obtain rfl := Option.some.inj H
 go_enter Try.func67, Try.ntmps67
 go_wp2
 go_ret
 exact ⟨by first | rfl | (simp; done) | (simp [*]; done), by repeat (first | exact Drawn0.refl _ | apply Drawn0.step)⟩
end Go.Proofs.Ytljgbeccmcidkaa.P
namespace Go.Proofs.Ytljgbeccmcidkaa.P
open Go.RowKit Go.Proofs.YtljgbeccmcidkaaW.PrintWords Go.Proofs.YtljgbeccmcidkaaW.PrintLast Go.Proofs.YtljgbeccmcidkaaW.PrintMore
attribute [local go_sem] max2_int min2_int max_two min_two max_three min_three max_four min_four   -- for this text's walks alone
set_option linter.unusedVariables false
set_option linter.unusedSimpArgs false

attribute [local go_sem ↓] isSome_setCell
/-! ### cmp_Compare_int: function 60 -/
def cmp_Compare_int.f (a0 : Int) (a1 : Int) : Option (Int) := (cmp_isNaN_int.f a0).bind fun t387 => ((cmp_isNaN_int.f a1).bind fun t388 => (if t387 = true then (if t388 = true then (some 0) else (some (-1))) else (if t388 = true then (some 1) else (if a0 < a1 then (some (-1)) else (if a0 > a1 then (some 1) else (some 0))))))
theorem cmp_Compare_int.z0 {p : Prop} (h : p := by (try simp only [List.map_toArray, List.map_cons, List.map_nil]); first | done | rfl | (simp only [List.length_drop, List.length_take]; rfl)) : p := h
theorem cmp_Compare_int.z1 {p : Prop} (h : p := by repeat (first | exact Drawn0.refl _ | apply Drawn0.step)) : p := h
theorem cmp_Compare_int.z2 {p : Prop} (h : p := by first | rfl | (simp; done) | (simp [*]; done)) : p := h
set_option maxHeartbeats 8000000 in
set_option maxRecDepth 100000 in
theorem cmp_Compare_int.calls (a0 : Int) (a1 : Int) (r : Int) (w : World) (h : cmp_Compare_int.f a0 a1 = some r) :
    Calls Try.prog 60 #[.int .i64 a0, .int .i64 a1] w fun e w' => e = .returned (.int .i64 r) ∧ Drawn0 w w' := by
 have H : ((cmp_isNaN_int.f a0).bind fun t387 => ((cmp_isNaN_int.f a1).bind fun t388 => (if t387 = true then (if t388 = true then (some 0) else (some (-1))) else (if t388 = true then (some 1) else (if a0 < a1 then (some (-1)) else (if a0 > a1 then (some 1) else (some 0))))))) = some r := h
 clear h
 obtain ⟨t387, A3, H⟩ := bnd H
 obtain ⟨t388, A4, H⟩ := bnd H
 obtain rfl | rfl := tf t387
 · rw [if_pos rfl] at H
   obtain rfl | rfl := tf t388
   · rw [if_pos rfl] at H
     obtain rfl := Option.some.inj H
     go_enter Try.func60, Try.ntmps60
     go_wp2_with (first | ((with_reducible refine gate_callee (f := 67) rfl ?_); refine goesL_ (some 8) rfl rfl Try.func67 (by kernel_rfl) rfl #[.int .i64 a0] rfl (z0) ?_; (with_reducible refine (cmp_isNaN_int.calls a0 true _ A3.out).mono ?_); rintro e w' ⟨rfl, ⟨nd, rfl⟩⟩; refine ⟨_, rfl, ?_⟩) | ((with_reducible refine gate_callee (f := 67) rfl ?_); refine goesL_ (some 10) rfl rfl Try.func67 (by kernel_rfl) rfl #[.int .i64 a1] rfl (z0) ?_; (with_reducible refine (cmp_isNaN_int.calls a1 true _ A4.out).mono ?_); rintro e w' ⟨rfl, ⟨nd, rfl⟩⟩; refine ⟨_, rfl, ?_⟩))
     go_ret
     exact ⟨z2, z1⟩
   rw [if_neg Bool.false_ne_true] at H
   obtain rfl := Option.some.inj H
   go_enter Try.func60, Try.ntmps60
   go_wp2_with (first | ((with_reducible refine gate_callee (f := 67) rfl ?_); refine goesL_ (some 8) rfl rfl Try.func67 (by kernel_rfl) rfl #[.int .i64 a0] rfl (z0) ?_; (with_reducible refine (cmp_isNaN_int.calls a0 true _ A3.out).mono ?_); rintro e w' ⟨rfl, ⟨nd, rfl⟩⟩; refine ⟨_, rfl, ?_⟩) | ((with_reducible refine gate_callee (f := 67) rfl ?_); refine goesL_ (some 10) rfl rfl Try.func67 (by kernel_rfl) rfl #[.int .i64 a1] rfl (z0) ?_; (with_reducible refine (cmp_isNaN_int.calls a1 false _ A4.out).mono ?_); rintro e w' ⟨rfl, ⟨nd, rfl⟩⟩; refine ⟨_, rfl, ?_⟩))
   go_ret
   exact ⟨z2, z1⟩
 rw [if_neg Bool.false_ne_true] at H
 obtain rfl | rfl := tf t388
 · rw [if_pos rfl] at H
   obtain rfl := Option.some.inj H
   go_enter Try.func60, Try.ntmps60
   go_wp2_with (first | ((with_reducible refine gate_callee (f := 67) rfl ?_); refine goesL_ (some 8) rfl rfl Try.func67 (by kernel_rfl) rfl #[.int .i64 a0] rfl (z0) ?_; (with_reducible refine (cmp_isNaN_int.calls a0 false _ A3.out).mono ?_); rintro e w' ⟨rfl, ⟨nd, rfl⟩⟩; refine ⟨_, rfl, ?_⟩) | ((with_reducible refine gate_callee (f := 67) rfl ?_); refine goesL_ (some 10) rfl rfl Try.func67 (by kernel_rfl) rfl #[.int .i64 a1] rfl (z0) ?_; (with_reducible refine (cmp_isNaN_int.calls a1 true _ A4.out).mono ?_); rintro e w' ⟨rfl, ⟨nd, rfl⟩⟩; refine ⟨_, rfl, ?_⟩))
   go_ret
   exact ⟨z2, z1⟩
 rw [if_neg Bool.false_ne_true] at H
 by_cases c8 : a0 < a1
 · rw [if_pos c8] at H
   have c8b0 := decide_eq_true c8
   clear c8
   obtain rfl := Option.some.inj H
   go_enter Try.func60, Try.ntmps60
   go_wp2_with (first | ((with_reducible refine gate_callee (f := 67) rfl ?_); refine goesL_ (some 8) rfl rfl Try.func67 (by kernel_rfl) rfl #[.int .i64 a0] rfl (z0) ?_; (with_reducible refine (cmp_isNaN_int.calls a0 false _ A3.out).mono ?_); rintro e w' ⟨rfl, ⟨nd, rfl⟩⟩; refine ⟨_, rfl, ?_⟩) | ((with_reducible refine gate_callee (f := 67) rfl ?_); refine goesL_ (some 10) rfl rfl Try.func67 (by kernel_rfl) rfl #[.int .i64 a1] rfl (z0) ?_; (with_reducible refine (cmp_isNaN_int.calls a1 false _ A4.out).mono ?_); rintro e w' ⟨rfl, ⟨nd, rfl⟩⟩; refine ⟨_, rfl, ?_⟩))
   go_ret
   exact ⟨z2, z1⟩
 rw [if_neg c8] at H
 have c8b0 := decide_eq_false c8
 clear c8
 by_cases c9 : a0 > a1
 · rw [if_pos c9] at H
   have c9b0 := decide_eq_true c9
   clear c9
   obtain rfl := Option.some.inj H
   go_enter Try.func60, Try.ntmps60
   go_wp2_with (first | ((with_reducible refine gate_callee (f := 67) rfl ?_); refine goesL_ (some 8) rfl rfl Try.func67 (by kernel_rfl) rfl #[.int .i64 a0] rfl (z0) ?_; (with_reducible refine (cmp_isNaN_int.calls a0 false _ A3.out).mono ?_); rintro e w' ⟨rfl, ⟨nd, rfl⟩⟩; refine ⟨_, rfl, ?_⟩) | ((with_reducible refine gate_callee (f := 67) rfl ?_); refine goesL_ (some 10) rfl rfl Try.func67 (by kernel_rfl) rfl #[.int .i64 a1] rfl (z0) ?_; (with_reducible refine (cmp_isNaN_int.calls a1 false _ A4.out).mono ?_); rintro e w' ⟨rfl, ⟨nd, rfl⟩⟩; refine ⟨_, rfl, ?_⟩))
   go_ret
   exact ⟨z2, z1⟩
 rw [if_neg c9] at H
 have c9b0 : decide (a1 < a0) = false := decide_eq_false c9
 clear c9
 obtain rfl := Option.some.inj H
 go_enter Try.func60, Try.ntmps60
 go_wp2_with (first | ((with_reducible refine gate_callee (f := 67) rfl ?_); refine goesL_ (some 8) rfl rfl Try.func67 (by kernel_rfl) rfl #[.int .i64 a0] rfl (z0) ?_; (with_reducible refine (cmp_isNaN_int.calls a0 false _ A3.out).mono ?_); rintro e w' ⟨rfl, ⟨nd, rfl⟩⟩; refine ⟨_, rfl, ?_⟩) | ((with_reducible refine gate_callee (f := 67) rfl ?_); refine goesL_ (some 10) rfl rfl Try.func67 (by kernel_rfl) rfl #[.int .i64 a1] rfl (z0) ?_; (with_reducible refine (cmp_isNaN_int.calls a1 false _ A4.out).mono ?_); rintro e w' ⟨rfl, ⟨nd, rfl⟩⟩; refine ⟨_, rfl, ?_⟩))
 go_ret
 exact ⟨z2, z1⟩
end Go.Proofs.Ytljgbeccmcidkaa.P
namespace Go.Proofs.Ytljgbeccmcidkaa.P
open Go.RowKit Go.Proofs.YtljgbeccmcidkaaW.PrintWords Go.Proofs.YtljgbeccmcidkaaW.PrintLast Go.Proofs.YtljgbeccmcidkaaW.PrintMore
attribute [local go_sem] max2_int min2_int max_two min_two max_three min_three max_four min_four   -- for this text's walks alone
set_option linter.unusedVariables false
set_option linter.unusedSimpArgs false

attribute [local go_sem ↓] isSome_setCell
/-! ### cmp_Or_int: function 59 -/
def cmp_Or_int.l0 : Nat → Int → List Int → Int → Int → Option (Int)
  | 0, _, _, _, _ => none
  | k + 1, x3, x6, x7, x8 => if x8 < x7 then (if 0 ≤ x8 then (if x8 < (x6.length : Int) then (if (rd x6 x8) = x3 then (cmp_Or_int.l0 k x3 x6 x7 (wrap64 (x8 + 1))) else (some (rd x6 x8))) else (none)) else (none)) else (some x3)
def cmp_Or_int.f (k : Nat) (l0 : List Int) : Option (Int) := cmp_Or_int.l0 k 0 l0 (l0.length : Int) 0
theorem cmp_Or_int.mono_l : ∀ k, (∀ y0 y1 y2 y3, LeO (cmp_Or_int.l0 k y0 y1 y2 y3) (cmp_Or_int.l0 (k + 1) y0 y1 y2 y3))
  | 0 => fun _ _ _ _ r h => by simp [cmp_Or_int.l0] at h
  | k + 1 => by
    have ih0 := cmp_Or_int.mono_l k
    · intro y0 y1 y2 y3
      unfold cmp_Or_int.l0
      with_reducible repeat' first | exact ih0 _ _ _ _ | exact LeO.refl _ | exact LeO.none _ | refine LeO.ite ?_ ?_ | refine LeO.bind ?_ (fun _ => ?_)
theorem cmp_Or_int.mono : ∀ a0 k, LeO (cmp_Or_int.f k a0) (cmp_Or_int.f (k + 1) a0) := by
  intro a0 k
  have ih0 := cmp_Or_int.mono_l k
  unfold cmp_Or_int.f
  with_reducible repeat' first | exact ih0 _ _ _ _ | exact LeO.refl _ | exact LeO.none _ | refine LeO.ite ?_ ?_ | refine LeO.bind ?_ (fun _ => ?_)
theorem cmp_Or_int.z0 {p : Prop} (h : p := by repeat (first | exact Drawn0.refl _ | apply Drawn0.step)) : p := h
theorem cmp_Or_int.z1 {p : Prop} (h : p := by first | (with_reducible assumption) | assumption) : p := h
theorem cmp_Or_int.z2 {p : Prop} (h : p := by first | rfl | (simp; done) | (simp [*]; done)) : p := h
set_option maxHeartbeats 8000000 in
set_option maxRecDepth 100000 in
theorem cmp_Or_int.calls (k : Nat) (A0 : Option Addr) (c0 : Nat) (l0 : List Int) (r : Int) (w : World) (hr0 : Kd.C (Kd.int .i64) w A0 l0.length l0) (hc0 : l0.length ≤ c0) (h : cmp_Or_int.f k l0 = some r) :
    Calls Try.prog 59 #[.slice A0 l0.length c0] w fun e w' => e = .returned (.int .i64 r) ∧ Drawn0 w w' := by
 have HR0 := Ax hr0
 have HC0 := Ax hc0
 clear hr0 hc0
 have H : (cmp_Or_int.l0 k 0 l0 (l0.length : Int) 0) = some r := h
 clear h
 have H' := Ax H
 clear H
 go_enter Try.func59, Try.ntmps59
 go_wp2
 go_loopg [8] k (fun kq v8 w' => ∃ (x8_1 : Int), v8 = .int .i64 x8_1 ∧ Aside0 (cmp_Or_int.l0 kq 0 l0 (l0.length : Int) x8_1 = some r) ∧ Aside0 (kq ≤ k) ∧ Drawn0 w w')
 case atStart => exact ⟨(0), (z2), H', ⟨Nat.le_refl _⟩, z0⟩
 clear H'
 obtain ⟨x8_1, rfl, HA, HK1, ⟨m1, rfl⟩⟩ := hrel
 cases gk with
 | zero => exact absurd HA.out (by simp [cmp_Or_int.l0])
 | succ k1 =>
  have H := HA.out
  clear HA
  simp only [cmp_Or_int.l0] at H
  by_cases c2 : x8_1 < (l0.length : Int)
  rotate_left
  · rw [if_neg c2] at H
    have c2b0 := decide_eq_false c2
    clear c2
    obtain rfl := Option.some.inj H
    go_wp2
    go_ret
    exact ⟨z2, z0⟩
  rw [if_pos c2] at H
  have c2b0 := decide_eq_true c2
  clear c2
  by_cases c3 : 0 ≤ x8_1
  rotate_left
  · rw [if_neg c3] at H
    exact absurd H (by simp)
  rw [if_pos c3] at H
  have c3b0 := decide_eq_true c3
  clear c3
  by_cases c4 : x8_1 < (l0.length : Int)
  rotate_left
  · rw [if_neg c4] at H
    exact absurd H (by simp)
  rw [if_pos c4] at H
  have c4b0 := decide_eq_true c4
  clear c4
  by_cases c5 : (rd l0 x8_1) = 0
  rotate_left
  · rw [if_neg c5] at H
    have c5b0 : ((rd l0 x8_1) == 0) = false := beq_eq_false_iff_ne.mpr c5
    have c5b1 : ((rd l0 x8_1) != 0) = true := bne_iff_ne.mpr c5
    obtain rfl := Option.some.inj H
    have p386 : 0 ≤ (x8_1 : Int) := of_decide_eq_true (z1)
    have q386 : x8_1 < (l0.length : Int) := of_decide_eq_true (z1)
    obtain ⟨ad386, e386, hx386_0⟩ := Kd.at_int HR0.out x8_1 p386 q386
    cases e386
    replace p386 := eq_true p386
    replace q386 := eq_true q386
    go_wp2
    go_ret
    exact ⟨z2, z0⟩
  rw [if_pos c5] at H
  have c5b0 : ((rd l0 x8_1) == 0) = true := beq_iff_eq.mpr c5
  have c5b1 : ((rd l0 x8_1) != 0) = false := bne_eq_false_iff_eq.mpr c5
  clear c5
  have H' := Ax H
  clear H
  have p386 : 0 ≤ (x8_1 : Int) := of_decide_eq_true (z1)
  have q386 : x8_1 < (l0.length : Int) := of_decide_eq_true (z1)
  obtain ⟨ad386, e386, hx386_0⟩ := Kd.at_int HR0.out x8_1 p386 q386
  cases e386
  replace p386 := eq_true p386
  replace q386 := eq_true q386
  go_wp2
  go_roundg k1
  case measure => have := HK1.out; omega
  exact ⟨(wrap64 (x8_1 + 1)), (z2), H', ⟨by have := HK1.out; omega⟩, z0⟩
end Go.Proofs.Ytljgbeccmcidkaa.P
namespace Go.Proofs.Ytljgbeccmcidkaa.P
open Go.RowKit Go.Proofs.YtljgbeccmcidkaaW.PrintWords Go.Proofs.YtljgbeccmcidkaaW.PrintLast Go.Proofs.YtljgbeccmcidkaaW.PrintMore
attribute [local go_sem] max2_int min2_int max_two min_two max_three min_three max_four min_four   -- for this text's walks alone
set_option linter.unusedVariables false
set_option linter.unusedSimpArgs false

attribute [local go_sem ↓] isSome_setCell
/-! ### impl_cellOrder: function 43 -/
def impl_cellOrder.f (k : Nat) (a0_0 : Int) (a0_1 : Int) (a0_2 : Int) (a0_3 : Int) (l0_4 : List (S61)) (a1_0 : Int) (a1_1 : Int) (a1_2 : Int) (a1_3 : Int) (l1_4 : List (S61)) : Option (Int) := (cmp_Compare_int.f a0_0 a1_0).bind fun t391 => ((cmp_Compare_int.f a0_1 a1_1).bind fun t392 => ((cmp_Or_int.f k (([t391, t392] : List Int))).bind fun t396 => (some t396)))
theorem impl_cellOrder.mono : ∀ a0 a1 a2 a3 a4 a5 a6 a7 a8 a9 k, LeO (impl_cellOrder.f k a0 a1 a2 a3 a4 a5 a6 a7 a8 a9) (impl_cellOrder.f (k + 1) a0 a1 a2 a3 a4 a5 a6 a7 a8 a9) := by
  intro a0 a1 a2 a3 a4 a5 a6 a7 a8 a9 k
  unfold impl_cellOrder.f
  with_reducible repeat' first | exact cmp_Or_int.mono _ _ | exact LeO.refl _ | exact LeO.none _ | refine LeO.ite ?_ ?_ | refine LeO.bind ?_ (fun _ => ?_)
def impl_cellOrder.T1 : Bool × List (List Nat × List Nat) := (true, [([], []), ([0], [0]), ([], []), ([2], [2]), ([1, 3], [1, 3]), ([], []), ([5], [5]), ([], []), ([7], [7]), ([6, 8, 4], [6, 8]), ([4, 9], [4, 9]), ([10, 9], [10]), ([11, 11, 0, 1, 2, 3, 4, 5, 6, 7, 8, 9, 10, 11], [11])])
def impl_cellOrder.B1 : List Nat := [0, 1, 0, 4, 15, 0, 32, 0, 128, 511, 1023, 2047, 4095]
theorem impl_cellOrder.tab1 : rtab .any (opsOf Try.f43 1) = impl_cellOrder.T1 := by kernel_rfl
theorem impl_cellOrder.bits1 : waitsOk impl_cellOrder.T1.2 impl_cellOrder.B1 = true := by kernel_rfl
theorem impl_cellOrder.zHB {p : Prop} (h : p := by repeat (first | (with_reducible first | exact HB.out | apply below_alloc | apply pw_below_drewN | apply below_drew1 | refine below_set ?_ GE389.out | refine below_set ?_ GE390.out) | exact HB.out)) : p := h
theorem impl_cellOrder.zK {p : Prop} (h : p := by repeat' first | (with_reducible first | exact BK389.out | exact BK390.out | apply blk_drewN | apply blk_drew | apply blk_alloc | apply blk_putE) | exact (rfl : List.set _ _ _ = _)) : p := h
theorem impl_cellOrder.z0 {p : Prop} (h : p := by (try simp only [List.map_toArray, List.map_cons, List.map_nil]); first | done | rfl | (simp only [List.length_drop, List.length_take]; rfl)) : p := h
theorem impl_cellOrder.z1 {p : Prop} (h : p := by rw [hg]; exact (below_size (zHB))) : p := h
theorem impl_cellOrder.zy {p : Prop} (h : p := by first | (rw [hy_]; with_reducible exact H) | (have H2_ := (Option.bind_some _ _).symm.trans H; rw [hy_]; with_reducible exact H2_) | (have H2_ := (Option.bind_some _ _).symm.trans H; with_reducible exact H2_) | with_reducible exact H | (rw [hy_]; exact H) | exact H) : p := h
set_option maxHeartbeats 8000000 in
set_option maxRecDepth 100000 in
theorem impl_cellOrder.calls (k : Nat) (a0_0 : Int) (a0_1 : Int) (a0_2 : Int) (a0_3 : Int) (A0_4 : Option Addr) (c0_4 : Nat) (l0_4 : List (S61)) (a1_0 : Int) (a1_1 : Int) (a1_2 : Int) (a1_3 : Int) (A1_4 : Option Addr) (c1_4 : Nat) (l1_4 : List (S61)) (r : Int) (w : World) (hr0_4 : Kd.C k61 w A0_4 l0_4.length l0_4) (hc0_4 : l0_4.length ≤ c0_4) (hr1_4 : Kd.C k61 w A1_4 l1_4.length l1_4) (hc1_4 : l1_4.length ≤ c1_4) (h : impl_cellOrder.f k a0_0 a0_1 a0_2 a0_3 l0_4 a1_0 a1_1 a1_2 a1_3 l1_4 = some r) :
    Calls Try.prog 43 #[.agg #[.int .i64 a0_0, .int .i64 a0_1, .int .i64 a0_2, .int .i64 a0_3, .slice A0_4 l0_4.length c0_4], .agg #[.int .i64 a1_0, .int .i64 a1_1, .int .i64 a1_2, .int .i64 a1_3, .slice A1_4 l1_4.length c1_4]] w fun e w' => e = .returned (.int .i64 r) ∧ Below w.heap.size w w' := by
 have hu30 := Try.underlying30
 have HR0_4 := Ax hr0_4
 have HC0_4 := Ax hc0_4
 clear hr0_4 hc0_4
 have HR1_4 := Ax hr1_4
 have HC1_4 := Ax hc1_4
 clear hr1_4 hc1_4
 have HB := Ax (Below.refl w.heap.size w)
 have H : ((cmp_Compare_int.f a0_0 a1_0).bind fun t391 => ((cmp_Compare_int.f a0_1 a1_1).bind fun t392 => ((cmp_Or_int.f k (([t391, t392] : List Int))).bind fun t396 => (some t396)))) = some r := h
 clear h
 obtain ⟨t391, A3, H⟩ := bnd H
 obtain ⟨t392, A4, H⟩ := bnd H
 obtain ⟨y393, hy_⟩ : ∃ y_ : List Int, y_ = (([t391, t392] : List Int)) := ⟨_, rfl⟩
 replace H : ((cmp_Or_int.f k y393).bind fun t396 => (some t396)) = some r := zy
 have Ny393 := Ax hy_
 clear hy_
 obtain ⟨t396, A5, H⟩ := bnd H
 obtain rfl := Option.some.inj H
 go_enter Try.func43, Try.ntmps43
 try go_wp2_with (first | ((with_reducible refine gate_dst (N := 2) rfl ?_); refine box_event ?hg (N := 2) ?hd (cs := #[.int .i64 a0_0, .int .i64 a0_1, .int .i64 a0_2, .int .i64 a0_3, .slice A0_4 l0_4.length c0_4]) (t := 30) ?hr ?_; (case hd => rfl); (case hg => rfl); (case hr => first | (go_simp; done) | (go_simp; rfl)); intro gb389 hg w6 hbox hb; have BK389 := Ax (hbox); have GW389 := Ax ((z1 : w.heap.size ≤ gb389)); have GE389 := Ax ((z1 : w.heap.size ≤ gb389)); replace HB := Ax (below_step (zHB) hb); clear hb hbox hg) | ((with_reducible refine gate_dst (N := 3) rfl ?_); refine box_event ?hg (N := 3) ?hd (cs := #[.int .i64 a1_0, .int .i64 a1_1, .int .i64 a1_2, .int .i64 a1_3, .slice A1_4 l1_4.length c1_4]) (t := 30) ?hr ?_; (case hd => rfl); (case hg => rfl); (case hr => first | (go_simp; done) | (go_simp; rfl)); intro gb390 hg w7 hbox hb; have BK390 := Ax (hbox); have GW390 := Ax ((z1 : w.heap.size ≤ gb390)); have GE390 := Ax ((z1 : w.heap.size ≤ gb390)); replace HB := Ax (below_step (zHB) hb); have NB389_390 := Ax ((by rw [hg]; exact Nat.ne_of_lt (blk_lt (g := gb389) (zK)) : gb389 ≠ gb390)); have NB390_389 := Ax ((by rw [hg]; exact Nat.ne_of_gt (blk_lt (g := gb389) (zK)) : gb390 ≠ gb389)); replace BK389 := Ax (blk_below (g := gb389) (zK) hb); clear hb hbox hg))
 replace BK389 := Ax (blk_drew BK389.out)
 replace BK390 := Ax (blk_drew BK390.out)
 replace HB := Ax (below_drew1 HB.out)
 refine start_ (n := 13) (S := fun w' => w'.cell? ⟨gb389, 0, none⟩ = some (.int .i64 a0_0) ∧ w'.cell? ⟨gb389, 1, none⟩ = some (.int .i64 a0_1) ∧ w'.cell? ⟨gb389, 2, none⟩ = some (.int .i64 a0_2) ∧ w'.cell? ⟨gb389, 3, none⟩ = some (.int .i64 a0_3) ∧ w'.cell? ⟨gb389, 4, none⟩ = some (.slice A0_4 l0_4.length c0_4) ∧ w'.cell? ⟨gb390, 0, none⟩ = some (.int .i64 a1_0) ∧ w'.cell? ⟨gb390, 1, none⟩ = some (.int .i64 a1_1) ∧ w'.cell? ⟨gb390, 2, none⟩ = some (.int .i64 a1_2) ∧ w'.cell? ⟨gb390, 3, none⟩ = some (.int .i64 a1_3) ∧ w'.cell? ⟨gb390, 4, none⟩ = some (.slice A1_4 l1_4.length c1_4)) (ds := []) #[false, false, false, false, false, false, false, false, false, false, false, false, false] (by kernel_rfl) rfl rfl ⟨(blk_cell BK389.out 0).trans rfl, (blk_cell BK389.out 1).trans rfl, (blk_cell BK389.out 2).trans rfl, (blk_cell BK389.out 3).trans rfl, (blk_cell BK389.out 4).trans rfl, (blk_cell BK390.out 0).trans rfl, (blk_cell BK390.out 1).trans rfl, (blk_cell BK390.out 2).trans rfl, (blk_cell BK390.out 3).trans rfl, (blk_cell BK390.out 4).trans rfl⟩ (fun hHeld => ?_); refine with_tabW impl_cellOrder.tab1 impl_cellOrder.bits1 (fun HT_ HW_ => ?_)
 generalize w7.drew = w8 at BK389 BK390 HB hHeld ⊢
 refine pure_ (i := 0) (N := some 5) (v := ?_) (a' := ?_) (bl 13 1) rfl rfl (any_of HT_.out (by kernel_rfl)) (fun _ _ _ h => h) (Or.inl ⟨by rfl, ?_⟩) ?_ ?_
 rotate_left
 · exact zEv
 rotate_left
 · exact zAct
 refine pure_ (i := 2) (N := some 7) (v := ?_) (a' := ?_) (bl 13 5) rfl rfl (any_of HT_.out (by kernel_rfl)) (fun _ _ _ h => h) (Or.inl ⟨by rfl, ?_⟩) ?_ ?_
 rotate_left
 · exact zEv
 rotate_left
 · exact zAct
 refine pure_ (i := 5) (N := some 10) (v := ?_) (a' := ?_) (bl 13 37) rfl rfl (any_of HT_.out (by kernel_rfl)) (fun _ _ _ h => h) (Or.inl ⟨by rfl, ?_⟩) ?_ ?_
 rotate_left
 · exact zEv
 rotate_left
 · exact zAct
 refine pure_ (i := 7) (N := some 12) (v := ?_) (a' := ?_) (bl 13 165) rfl rfl (any_of HT_.out (by kernel_rfl)) (fun _ _ _ h => h) (Or.inl ⟨by rfl, ?_⟩) ?_ ?_
 rotate_left
 · exact zEv
 rotate_left
 · exact zAct
 refine take_ (i := 1) (N := some 6) (v := ?_) (a' := ?_) (bl 13 167) rfl rfl (take_ofW HT_.out HW_.out (by kernel_rfl)) (fun _ _ _ h => h) (Or.inl ⟨by rfl, ?_⟩) hHeld ?_ ?_
 rotate_left
 · rintro w' ⟨s0, s1, s2, s3, s4, s5, s6, s7, s8, s9⟩
   go_simp
   with_reducible rfl
 rotate_left
 · exact zAct
 refine take_ (i := 3) (N := some 8) (v := ?_) (a' := ?_) (bl 13 175) rfl rfl (take_ofW HT_.out HW_.out (by kernel_rfl)) (fun _ _ _ h => h) (Or.inl ⟨by rfl, ?_⟩) hHeld ?_ ?_
 rotate_left
 · rintro w' ⟨s0, s1, s2, s3, s4, s5, s6, s7, s8, s9⟩
   go_simp
   with_reducible rfl
 rotate_left
 · exact zAct
 refine take_ (i := 6) (N := some 11) (v := ?_) (a' := ?_) (bl 13 239) rfl rfl (take_ofW HT_.out HW_.out (by kernel_rfl)) (fun _ _ _ h => h) (Or.inl ⟨by rfl, ?_⟩) hHeld ?_ ?_
 rotate_left
 · rintro w' ⟨s0, s1, s2, s3, s4, s5, s6, s7, s8, s9⟩
   go_simp
   with_reducible rfl
 rotate_left
 · exact zAct
 refine take_ (i := 8) (N := some 13) (v := ?_) (a' := ?_) (bl 13 495) rfl rfl (take_ofW HT_.out HW_.out (by kernel_rfl)) (fun _ _ _ h => h) (Or.inl ⟨by rfl, ?_⟩) hHeld ?_ ?_
 rotate_left
 · rintro w' ⟨s0, s1, s2, s3, s4, s5, s6, s7, s8, s9⟩
   go_simp
   with_reducible rfl
 rotate_left
 · exact zAct
 refine one_ (i := 4) (N := some 9) (bl 13 511) rfl rfl (one_of HT_.out (by kernel_rfl)) (by decide) (fun K hK => ?_)
 refine goes_ Try.func60 (by kernel_rfl) rfl #[.int .i64 a0_0, .int .i64 a1_0] (by rfl) rfl rfl (z0) ?_
 with_reducible refine (cmp_Compare_int.calls a0_0 a1_0 t391 _ A3.out).mono ?_
 rintro e w' ⟨rfl, ⟨nd, rfl⟩⟩
 refine ⟨_, rfl, ?_⟩
 refine hK.out _ _ ⟨(blk_cell BK389.out 0).trans rfl, (blk_cell BK389.out 1).trans rfl, (blk_cell BK389.out 2).trans rfl, (blk_cell BK389.out 3).trans rfl, (blk_cell BK389.out 4).trans rfl, (blk_cell BK390.out 0).trans rfl, (blk_cell BK390.out 1).trans rfl, (blk_cell BK390.out 2).trans rfl, (blk_cell BK390.out 3).trans rfl, (blk_cell BK390.out 4).trans rfl⟩ (fun hHeld => ?_)
 clear hK K
 refine norm_ (a' := ?_) ?_ ?_
 rotate_left
 · show Act.put _ (some 9) _ = _
   exact zAct
 refine one_ (i := 9) (N := some 14) (bl 13 1023) rfl rfl (one_of HT_.out (by kernel_rfl)) (by decide) (fun K hK => ?_)
 refine goes_ Try.func60 (by kernel_rfl) rfl #[.int .i64 a0_1, .int .i64 a1_1] (by rfl) rfl rfl (z0) ?_
 with_reducible refine (cmp_Compare_int.calls a0_1 a1_1 t392 _ A4.out).mono ?_
 rintro e w' ⟨rfl, ⟨nd, rfl⟩⟩
 refine ⟨_, rfl, ?_⟩
 refine hK.out _ _ ⟨(blk_cell BK389.out 0).trans rfl, (blk_cell BK389.out 1).trans rfl, (blk_cell BK389.out 2).trans rfl, (blk_cell BK389.out 3).trans rfl, (blk_cell BK389.out 4).trans rfl, (blk_cell BK390.out 0).trans rfl, (blk_cell BK390.out 1).trans rfl, (blk_cell BK390.out 2).trans rfl, (blk_cell BK390.out 3).trans rfl, (blk_cell BK390.out 4).trans rfl⟩ (fun hHeld => ?_)
 clear hK K
 refine norm_ (a' := ?_) ?_ ?_
 rotate_left
 · show Act.put _ (some 14) _ = _
   exact zAct
 refine one_ (i := 10) (N := some 15) (bl 13 2047) rfl rfl (one_of HT_.out (by kernel_rfl)) (by decide) (fun K hK => ?_)
 refine Kd.R_lit_step (Kd.int .i64) _ 3 ?hg (N := 15) ?hd (xs := ([t391, t392] : List Int)) (inner := [.int .i64 t391, .int .i64 t392]) (ok := fun _ => True) (okp := fun _ => True) ?hr ?hp (fun _ hk => hk) trivial (Below.refl _ _) (Nat.le_refl _) (by simp) ?_; (case hd => rfl); (case hg => rfl); (case hr => first | (go_simp; done) | (go_simp; rfl)); (case hp => exact (Reps.one (show Kd.M (Kd.int .i64) _ _ _ t391 [.int .i64 t391] from rfl) (Reps.one (show Kd.M (Kd.int .i64) _ _ _ t392 [.int .i64 t392] from rfl) (Reps.none _ _))))
 intro v394 w9 ho10 hb hg_ hnew_
 clear hg_ hnew_
 (first | rw [← Ny393.out] at ho10 | (simp only [Int.reduceToNat] at ho10; rw [← Ny393.out] at ho10))
 have HO395 := Ax (Kd.R_lower ho10 (below_size (zHB)))
 replace BK389 := Ax (blk_below (g := gb389) (zK) hb)
 replace BK390 := Ax (blk_below (g := gb390) (zK) hb)
 replace HB := Ax (below_step (zHB) hb)
 clear hb ho10
 obtain ⟨Ao11, co11, eo11⟩ := Kd.R_slice HO395.out
 (first | subst eo11 | (injection eo11 with f1_ f2_ f3_; have f4_ := f1_.symm; have f5_ := f3_.symm; clear f1_ f2_ f3_; subst f4_; subst f5_))
 refine hK.out _ _ ⟨(blk_cell BK389.out 0).trans rfl, (blk_cell BK389.out 1).trans rfl, (blk_cell BK389.out 2).trans rfl, (blk_cell BK389.out 3).trans rfl, (blk_cell BK389.out 4).trans rfl, (blk_cell BK390.out 0).trans rfl, (blk_cell BK390.out 1).trans rfl, (blk_cell BK390.out 2).trans rfl, (blk_cell BK390.out 3).trans rfl, (blk_cell BK390.out 4).trans rfl⟩ (fun hHeld => ?_)
 clear hK K
 refine norm_ (a' := ?_) ?_ ?_
 rotate_left
 · show Act.put _ (some 15) _ = _
   exact zAct
 refine one_ (i := 11) (N := some 16) (bl 13 4095) rfl rfl (one_of HT_.out (by kernel_rfl)) (by decide) (fun K hK => ?_)
 refine goes_ Try.func59 (by kernel_rfl) rfl #[.slice Ao11 y393.length co11] (by rfl) rfl rfl (z0) ?_
 with_reducible refine (cmp_Or_int.calls k _ _ y393 t396 _ ?side1 ?side2 A5.out).mono ?_
 (case side1 => repeat (first | exact (Kd.R_reads' HO395.out).2.2 | (with_reducible refine Kd.C_alloc ?_ _) | (with_reducible refine Kd.C_drewN ?_ _) | (with_reducible refine Kd.C_drew ?_)))
 (case side2 => exact (Kd.R_reads' HO395.out).2.1)
 rintro e w' ⟨rfl, ⟨nd, rfl⟩⟩
 refine ⟨_, rfl, ?_⟩
 refine hK.out _ _ ⟨(blk_cell BK389.out 0).trans rfl, (blk_cell BK389.out 1).trans rfl, (blk_cell BK389.out 2).trans rfl, (blk_cell BK389.out 3).trans rfl, (blk_cell BK389.out 4).trans rfl, (blk_cell BK390.out 0).trans rfl, (blk_cell BK390.out 1).trans rfl, (blk_cell BK390.out 2).trans rfl, (blk_cell BK390.out 3).trans rfl, (blk_cell BK390.out 4).trans rfl⟩ (fun hHeld => ?_)
 clear hK K
 refine norm_ (a' := ?_) ?_ ?_
 rotate_left
 · show Act.put _ (some 16) _ = _
   exact zAct
 refine pure_ (i := 12) (N := some 4) (v := ?_) (a' := ?_) (bl 13 8191) rfl rfl (any_of HT_.out (by kernel_rfl)) (fun _ _ _ h => h) (Or.inl ⟨by rfl, ?_⟩) ?_ ?_
 rotate_left
 · exact zEv
 rotate_left
 · exact zAct
 refine done_ (done_of HT_.out (by kernel_rfl)) ?_
 try go_wp2
 go_ret
 exact ⟨by first | rfl | (simp [errW_none, errW_some] <;> rfl) | (simp [*, errW_none, errW_some] <;> rfl), zHB⟩
end Go.Proofs.Ytljgbeccmcidkaa.P
namespace Go.Proofs.Ytljgbeccmcidkaa.P
open Go.RowKit Go.Proofs.YtljgbeccmcidkaaW.PrintWords Go.Proofs.YtljgbeccmcidkaaW.PrintLast Go.Proofs.YtljgbeccmcidkaaW.PrintMore
attribute [local go_sem] max2_int min2_int max_two min_two max_three min_three max_four min_four   -- for this text's walks alone
set_option linter.unusedVariables false
set_option linter.unusedSimpArgs false

attribute [local go_sem ↓] isSome_setCell
/-! ### impl_Cell_has: function 63 -/
def impl_Cell_has.f (a0_0 : Int) (a0_1 : Int) (a0_2 : Int) (a0_3 : Int) (l0_4 : List (S61)) (a1 : Int) (a2 : Int) : Option (Bool) := if a1 ≥ a0_0 then (if a1 < (wrap64 (a0_0 + a0_2)) then (if a2 ≥ a0_1 then (some (decide (a2 < (wrap64 (a0_1 + a0_3))))) else (some false)) else (some false)) else (some false)
theorem impl_Cell_has.zHB {p : Prop} (h : p := by repeat (first | (with_reducible first | exact HB.out | apply below_alloc | apply pw_below_drewN | apply below_drew1 | refine below_set ?_ GE857.out) | exact HB.out)) : p := h
theorem impl_Cell_has.z0 {p : Prop} (h : p := by first | rfl | (simp [errW_none, errW_some] <;> rfl) | (simp [*, errW_none, errW_some] <;> rfl)) : p := h
theorem impl_Cell_has.z1 {p : Prop} (h : p := by rw [hg]; exact (below_size (zHB))) : p := h
set_option maxHeartbeats 8000000 in
set_option maxRecDepth 100000 in
theorem impl_Cell_has.calls (a0_0 : Int) (a0_1 : Int) (a0_2 : Int) (a0_3 : Int) (A0_4 : Option Addr) (c0_4 : Nat) (l0_4 : List (S61)) (a1 : Int) (a2 : Int) (r : Bool) (w : World) (hr0_4 : Kd.C k61 w A0_4 l0_4.length l0_4) (hc0_4 : l0_4.length ≤ c0_4) (h : impl_Cell_has.f a0_0 a0_1 a0_2 a0_3 l0_4 a1 a2 = some r) :
    Calls Try.prog 63 #[.agg #[.int .i64 a0_0, .int .i64 a0_1, .int .i64 a0_2, .int .i64 a0_3, .slice A0_4 l0_4.length c0_4], .int .i64 a1, .int .i64 a2] w fun e w' => e = .returned (.bool r) ∧ Below w.heap.size w w' := by
 have hu30 := Try.underlying30
 have HR0_4 := Ax hr0_4
 have HC0_4 := Ax hc0_4
 clear hr0_4 hc0_4
 have HB := Ax (Below.refl w.heap.size w)
 have H : (if a1 ≥ a0_0 then (if a1 < (wrap64 (a0_0 + a0_2)) then (if a2 ≥ a0_1 then (some (decide (a2 < (wrap64 (a0_1 + a0_3))))) else (some false)) else (some false)) else (some false)) = some r := h
 clear h
 by_cases c4 : a1 ≥ a0_0
 rotate_left
 · rw [if_neg c4] at H
   have c4b0 : decide (a0_0 ≤ a1) = false := decide_eq_false c4
   clear c4
   obtain rfl := Option.some.inj H
   go_enter Try.func63, Try.ntmps63
   go_wp2_with (first | ((with_reducible refine gate_dst (N := 3) rfl ?_); refine box_event ?hg (N := 3) ?hd (cs := #[.int .i64 a0_0, .int .i64 a0_1, .int .i64 a0_2, .int .i64 a0_3, .slice A0_4 l0_4.length c0_4]) (t := 30) ?hr ?_; (case hd => rfl); (case hg => rfl); (case hr => first | (go_simp; done) | (go_simp; rfl)); intro gb857 hg w13 hbox hb; have BK857 := Ax (hbox); have GW857 := Ax ((z1 : w.heap.size ≤ gb857)); have GE857 := Ax ((z1 : w.heap.size ≤ gb857)); replace HB := Ax (below_step (zHB) hb); clear hb hbox hg; obtain ⟨_, _, _, _, _, _, _, _, _, _⟩ := cells5 BK857.out))
   go_ret
   exact ⟨z0, zHB⟩
 rw [if_pos c4] at H
 have c4b0 := decide_eq_true c4
 clear c4
 by_cases c5 : a1 < (wrap64 (a0_0 + a0_2))
 rotate_left
 · rw [if_neg c5] at H
   have c5b0 := decide_eq_false c5
   clear c5
   obtain rfl := Option.some.inj H
   go_enter Try.func63, Try.ntmps63
   go_wp2_with (first | ((with_reducible refine gate_dst (N := 3) rfl ?_); refine box_event ?hg (N := 3) ?hd (cs := #[.int .i64 a0_0, .int .i64 a0_1, .int .i64 a0_2, .int .i64 a0_3, .slice A0_4 l0_4.length c0_4]) (t := 30) ?hr ?_; (case hd => rfl); (case hg => rfl); (case hr => first | (go_simp; done) | (go_simp; rfl)); intro gb857 hg w11 hbox hb; have BK857 := Ax (hbox); have GW857 := Ax ((z1 : w.heap.size ≤ gb857)); have GE857 := Ax ((z1 : w.heap.size ≤ gb857)); replace HB := Ax (below_step (zHB) hb); clear hb hbox hg; obtain ⟨_, _, _, _, _, _, _, _, _, _⟩ := cells5 BK857.out))
   go_ret
   exact ⟨z0, zHB⟩
 rw [if_pos c5] at H
 have c5b0 := decide_eq_true c5
 clear c5
 by_cases c6 : a2 ≥ a0_1
 · rw [if_pos c6] at H
   have c6b0 := decide_eq_true c6
   clear c6
   obtain rfl := Option.some.inj H
   go_enter Try.func63, Try.ntmps63
   go_wp2_with (first | ((with_reducible refine gate_dst (N := 3) rfl ?_); refine box_event ?hg (N := 3) ?hd (cs := #[.int .i64 a0_0, .int .i64 a0_1, .int .i64 a0_2, .int .i64 a0_3, .slice A0_4 l0_4.length c0_4]) (t := 30) ?hr ?_; (case hd => rfl); (case hg => rfl); (case hr => first | (go_simp; done) | (go_simp; rfl)); intro gb857 hg w7 hbox hb; have BK857 := Ax (hbox); have GW857 := Ax ((z1 : w.heap.size ≤ gb857)); have GE857 := Ax ((z1 : w.heap.size ≤ gb857)); replace HB := Ax (below_step (zHB) hb); clear hb hbox hg; obtain ⟨_, _, _, _, _, _, _, _, _, _⟩ := cells5 BK857.out))
   go_ret
   exact ⟨z0, zHB⟩
 rw [if_neg c6] at H
 have c6b0 : decide (a0_1 ≤ a2) = false := decide_eq_false c6
 clear c6
 obtain rfl := Option.some.inj H
 go_enter Try.func63, Try.ntmps63
 go_wp2_with (first | ((with_reducible refine gate_dst (N := 3) rfl ?_); refine box_event ?hg (N := 3) ?hd (cs := #[.int .i64 a0_0, .int .i64 a0_1, .int .i64 a0_2, .int .i64 a0_3, .slice A0_4 l0_4.length c0_4]) (t := 30) ?hr ?_; (case hd => rfl); (case hg => rfl); (case hr => first | (go_simp; done) | (go_simp; rfl)); intro gb857 hg w9 hbox hb; have BK857 := Ax (hbox); have GW857 := Ax ((z1 : w.heap.size ≤ gb857)); have GE857 := Ax ((z1 : w.heap.size ≤ gb857)); replace HB := Ax (below_step (zHB) hb); clear hb hbox hg; obtain ⟨_, _, _, _, _, _, _, _, _, _⟩ := cells5 BK857.out))
 go_ret
 exact ⟨z0, zHB⟩
end Go.Proofs.Ytljgbeccmcidkaa.P
namespace Go.Proofs.Ytljgbeccmcidkaa.P
open Go.RowKit Go.Proofs.YtljgbeccmcidkaaW.PrintWords Go.Proofs.YtljgbeccmcidkaaW.PrintLast Go.Proofs.YtljgbeccmcidkaaW.PrintMore
attribute [local go_sem] max2_int min2_int max_two min_two max_three min_three max_four min_four   -- for this text's walks alone
set_option linter.unusedVariables false
set_option linter.unusedSimpArgs false

attribute [local go_sem ↓] isSome_setCell
def sqB (row col : Int) (x : S30) : Bool := decide (row ≥ x.f0) && (decide (row < wrap64 (x.f0 + x.f2)) && (decide (col ≥ x.f1) && decide (col < wrap64 (x.f1 + x.f3))))
theorem has_eq (row col : Int) (x : S30) : impl_Cell_has.f x.f0 x.f1 x.f2 x.f3 x.f4 row col = some (sqB row col x) := by
  unfold impl_Cell_has.f sqB
  by_cases h1 : row ≥ x.f0 <;> by_cases h2 : row < wrap64 (x.f0 + x.f2) <;> by_cases h3 : col ≥ x.f1 <;> simp [h1, h2, h3]
def atZ (row col : Int) : List S30 → Int → Int
  | [], _ => -1
  | c :: l, i => if sqB row col c = true then i else atZ row col l (i + 1)
def impl_Table_at.f (a0_0 : Int) (a0_1 : Int) (l0_2 : List (S30)) (a1 : Int) (a2 : Int) : Option Int := if (l0_2.length : Int) ≤ 9223372036854775807 then some (atZ a1 a2 l0_2 0) else none

set_option maxHeartbeats 8000000 in
set_option maxRecDepth 100000 in
theorem at1_calls (x : S30) (A : Option Addr) (c : Nat) (row col : Int) (g h : Nat) (w : World) (hr : Kd.C k61 w A x.f4.length x.f4) (hc : x.f4.length ≤ c) (hp : w.cell? ⟨g, 0, none⟩ = some (.int .i64 row)) (hq : w.cell? ⟨h, 0, none⟩ = some (.int .i64 col)) (hg : g < w.heap.size) (hh : h < w.heap.size) :
    Calls Try.prog 62 #[.agg #[.int .i64 x.f0, .int .i64 x.f1, .int .i64 x.f2, .int .i64 x.f3, .slice A x.f4.length c], .pointer (some ⟨g, 0, none⟩), .pointer (some ⟨h, 0, none⟩)] w fun e w' => e = .returned (.bool (sqB row col x)) ∧ Below w.heap.size w w' := by
  have hu := Try.underlying30
  have HB := Aside0.mk (Below.refl w.heap.size w)
  have HR := Aside0.mk hr
  have HC := Aside0.mk hc
  clear hr hc
  have n1 : g ≠ w.heap.size := by omega
  have n2 : h ≠ w.heap.size := by omega
  have A1 := Aside0.mk (has_eq row col x)
  go_enter Try.func62, Try.ntmps62
  go_wp2_with (go_at_call 63; (with_reducible refine (impl_Cell_has.calls x.f0 x.f1 x.f2 x.f3 _ _ x.f4 row col (sqB row col x) _ ?side1 ?side2 A1.out).mono ?_); (case side1 => (first | exact HR.out | exact Kd.C_alloc HR.out _)); (case side2 => exact HC.out); rintro e w9 ⟨rfl, hb⟩)
  go_ret
  exact ⟨rfl, below_step (below_alloc HB.out _) hb⟩

theorem drop_ce (l : List S30) (x : Int) (h0 : 0 ≤ x) (h1 : x < (l.length : Int)) : l.drop x.toNat = rd_T30 l x :: l.drop (x + 1).toNat := by
  have hx : x.toNat < l.length := by omega
  rw [List.drop_eq_getElem_cons hx, show (x + 1).toNat = x.toNat + 1 by omega]
  unfold rd_T30
  rw [List.getD_eq_getElem?_getD, List.getElem?_eq_getElem hx]; rfl

set_option maxHeartbeats 8000000 in
set_option maxRecDepth 100000 in
theorem idx_calls (A0 : Option Addr) (c0 : Nat) (l0 : List (S30)) (row col : Int) (g h : Nat) (w : World) (hr : Kd.C k30 w A0 l0.length l0) (hc : l0.length ≤ c0) (hn : (l0.length : Int) ≤ 9223372036854775807) (hp : w.cell? ⟨g, 0, none⟩ = some (.int .i64 row)) (hq : w.cell? ⟨h, 0, none⟩ = some (.int .i64 col)) (hg : g < w.heap.size) (hh : h < w.heap.size) :
    Calls Try.prog 61 #[.slice A0 l0.length c0, .func (.func 62) #[] #[.pointer (some ⟨g, 0, none⟩), .pointer (some ⟨h, 0, none⟩)]] w fun e w' => e = .returned (.int .i64 (atZ row col l0 0)) ∧ Below w.heap.size w w' := by
  have hu := Try.underlying30
  have HB := Aside0.mk (Below.refl w.heap.size w)
  have HR := Aside0.mk hr
  have HC := Aside0.mk hc
  have HP := Aside0.mk hp
  have HQ := Aside0.mk hq
  have HG := Aside0.mk hg
  have HH := Aside0.mk hh
  clear hr hc hp hq hg hh
  go_enter Try.func61, Try.ntmps61
  go_wp2
  go_loopg [5, 8] l0.length (fun kq _ v8 w' => ∃ x : Int, v8 = .int .i64 x ∧ Aside0 (0 ≤ x) ∧ Aside0 (x ≤ (l0.length : Int)) ∧ Aside0 (((l0.length : Int) - x).toNat ≤ kq) ∧ Aside0 (atZ row col (l0.drop x.toNat) x = atZ row col l0 0) ∧ Aside0 (Below w.heap.size w w'))
  case atStart => exact ⟨0, rfl, ⟨Int.le_refl _⟩, ⟨by omega⟩, ⟨by omega⟩, ⟨rfl⟩, HB⟩
  obtain ⟨x, rfl, X0, X1, XG, XA, HB⟩ := hrel
  by_cases hlt : x < (l0.length : Int)
  · have hlb := decide_eq_true hlt
    have E1 := XA.out
    rw [drop_ce l0 x X0.out hlt] at E1
    have XE := Aside0.mk E1
    clear E1
    have p231 : 0 ≤ (x : Int) := X0.out
    have q231 : x < (l0.length : Int) := hlt
    obtain ⟨ad231, A231_4, c231_4, e231, hx231_0, hx231_1, hx231_2, hx231_3, hx231_4, hl231_4, hi231_4⟩ := at_T30 HR.out x p231 q231
    cases e231
    replace hx231_0 := (HB.out.cell (World.block_lt_of_cell? w _ hx231_0)).trans hx231_0
    replace hx231_1 := (HB.out.cell (World.block_lt_of_cell? w _ hx231_1)).trans hx231_1
    replace hx231_2 := (HB.out.cell (World.block_lt_of_cell? w _ hx231_2)).trans hx231_2
    replace hx231_3 := (HB.out.cell (World.block_lt_of_cell? w _ hx231_3)).trans hx231_3
    replace hx231_4 := (HB.out.cell (World.block_lt_of_cell? w _ hx231_4)).trans hx231_4
    have hcall := at1_calls (rd_T30 l0 x) A231_4 c231_4 row col g h _ (Kd.C_below hi231_4 HB.out) hl231_4 ((HB.out.cell HG.out).trans HP.out) ((HB.out.cell HH.out).trans HQ.out) (Nat.lt_of_lt_of_le HG.out HB.out.size) (Nat.lt_of_lt_of_le HH.out HB.out.size)
    replace p231 := eq_true p231
    replace q231 := eq_true q231
    have hwx : wrap64 (x + 1) = x + 1 := by have := X0.out; unfold wrap64; omega
    cases hq : sqB row col (rd_T30 l0 x) with
    | true =>
      rw [hq] at hcall
      go_wp2_with (go_at_call 62; refine hcall.mono ?_; rintro e w' ⟨rfl, hb'⟩)
      go_ret
      refine ⟨?_, below_step HB.out hb'⟩
      have E := XE.out
      simp only [atZ, hq, if_true] at E
      rw [← E]; rfl
    | false =>
      rw [hq] at hcall
      go_wp2_with (go_at_call 62; refine hcall.mono ?_; rintro e w' ⟨rfl, hb'⟩)
      go_roundg (((l0.length : Int) - (x + 1)).toNat)
      case measure => have := XG.out; have := X0.out; omega
      case rel =>
        refine ⟨x + 1, by first | rfl | (simp [hwx]; done), ⟨by have := X0.out; omega⟩, ⟨by omega⟩, ⟨Nat.le_refl _⟩, ⟨?_⟩, ⟨below_step HB.out hb'⟩⟩
        rw [← XE.out]; simp only [atZ, hq, Bool.false_eq_true, if_false]
  · have hlb := decide_eq_false hlt
    have E1 := XA.out
    rw [List.drop_of_length_le (by have := X0.out; omega)] at E1
    have XE := Aside0.mk E1
    clear E1
    go_wp2
    go_ret
    exact ⟨by rw [← XE.out]; rfl, HB.out⟩

theorem cell_new (w : World) (v : Value) (t : TypeId) : (w.alloc (.cells #[v] t)).cell? ⟨w.heap.size, 0, none⟩ = some v := by simp
theorem size_al (w : World) (o : Obj) : (w.alloc o).heap.size = w.heap.size + 1 := by simp
theorem cell_al {w : World} {p : Addr} {v : Value} (o : Obj) (h : w.cell? p = some v) : (w.alloc o).cell? p = some v := (((Below.refl w.heap.size w).alloc (Nat.le_refl _) o).cell (World.block_lt_of_cell? w p h)).trans h

set_option maxHeartbeats 8000000 in
set_option maxRecDepth 100000 in
theorem impl_Table_at.calls (a0_0 : Int) (a0_1 : Int) (A0_2 : Option Addr) (c0_2 : Nat) (l0_2 : List (S30)) (a1 : Int) (a2 : Int) (r : Int) (w : World) (hr0_2 : Kd.C k30 w A0_2 l0_2.length l0_2) (hc0_2 : l0_2.length ≤ c0_2) (h : impl_Table_at.f a0_0 a0_1 l0_2 a1 a2 = some r) :
    Calls Try.prog 44 #[.agg #[.int .i64 a0_0, .int .i64 a0_1, .slice A0_2 l0_2.length c0_2], .int .i64 a1, .int .i64 a2] w fun e w' => e = .returned (.int .i64 r) ∧ Below w.heap.size w w' := by
  have hu := Try.underlying25
  have HB := Aside0.mk (Below.refl w.heap.size w)
  have HR := Aside0.mk hr0_2
  have HC := Aside0.mk hc0_2
  clear hr0_2 hc0_2
  unfold impl_Table_at.f at h
  by_cases hn : (l0_2.length : Int) ≤ 9223372036854775807
  · rw [if_pos hn] at h
    obtain rfl := Option.some.inj h
    clear h
    have HN := Aside0.mk hn
    clear hn
    have hcon := idx_calls A0_2 c0_2 l0_2 a1 a2 (w.heap.size + 1) (w.heap.size + 2) (((w.alloc (.cells #[.int .i64 a0_0, .int .i64 a0_1, .slice A0_2 l0_2.length c0_2] 25)).alloc (.cells #[.int .i64 a1] 3)).alloc (.cells #[.int .i64 a2] 3)) (Kd.C_alloc (Kd.C_alloc (Kd.C_alloc HR.out _) _) _) HC.out HN.out 
      (cell_al _ (by have := cell_new (w.alloc (.cells #[.int .i64 a0_0, .int .i64 a0_1, .slice A0_2 l0_2.length c0_2] 25)) (.int .i64 a1) 3; rwa [size_al] at this))
      (by have := cell_new ((w.alloc (.cells #[.int .i64 a0_0, .int .i64 a0_1, .slice A0_2 l0_2.length c0_2] 25)).alloc (.cells #[.int .i64 a1] 3)) (.int .i64 a2) 3; rwa [size_al, size_al] at this) (by rw [size_al, size_al, size_al]; omega) (by rw [size_al, size_al, size_al]; omega)
    clear HR HC HN
    go_enter Try.func44, Try.ntmps44
    go_wp2_with (go_at_call 61; refine hcon.mono ?_; rintro e w' ⟨rfl, hb⟩)
    go_ret
    exact ⟨rfl, below_step (below_alloc (below_alloc (below_alloc HB.out _) _) _) hb⟩
  · rw [if_neg hn] at h; exact absurd h (by simp)

end Go.Proofs.Ytljgbeccmcidkaa.P
namespace Go.Proofs.Ytljgbeccmcidkaa.P
open Go.RowKit Go.Proofs.YtljgbeccmcidkaaW.PrintWords Go.Proofs.YtljgbeccmcidkaaW.PrintLast Go.Proofs.YtljgbeccmcidkaaW.PrintMore
attribute [local go_sem] max2_int min2_int max_two min_two max_three min_three max_four min_four   -- for this text's walks alone
set_option linter.unusedVariables false
set_option linter.unusedSimpArgs false

attribute [local go_sem ↓] isSome_setCell
/-! ### impl_TableOk: function 15 -/
mutual
def impl_TableOk.j0 : Nat → Bool → Int → Int → List (S30) → Option (Bool)
  | 0, _, _, _, _ => none
  | k + 1, x17, x398000, x398001, x398002 => if x17 = true then (some false) else (impl_TableOk.l0 k 0 x398002 (x398002.length : Int) 0 x398000 x398001 x398002)
def impl_TableOk.l0 : Nat → Int → List (S30) → Int → Int → Int → Int → List (S30) → Option (Bool)
  | 0, _, _, _, _, _, _, _ => none
  | k + 1, x3, x19, x20, x21, x398000, x398001, x398002 => if x21 < x20 then (if 0 ≤ x21 then (if x21 < (x19.length : Int) then ((impl_within.f ((rd_T30 x19 x21).f0) 0 (wrap64 (x398000 - 1))).bind fun t402 => (if t402 = true then ((impl_within.f ((rd_T30 x19 x21).f1) 0 (wrap64 (x398001 - 1))).bind fun t403 => (if t403 = true then ((impl_within.f ((rd_T30 x19 x21).f2) 1 (wrap64 (x398000 - ((rd_T30 x19 x21).f0)))).bind fun t404 => (if t404 = true then ((impl_within.f ((rd_T30 x19 x21).f3) 1 (wrap64 (x398001 - ((rd_T30 x19 x21).f1)))).bind fun t405 => (if t405 = true then ((impl_TextOk.f k ((rd_T30 x19 x21).f4)).bind fun t406 => (impl_TableOk.j2 k x3 x21 x19 x20 x21 (!t406) x398000 x398001 x398002 ((rd_T30 x19 x21).f0) ((rd_T30 x19 x21).f1) ((rd_T30 x19 x21).f2) ((rd_T30 x19 x21).f3) ((rd_T30 x19 x21).f4))) else (impl_TableOk.j2 k x3 x21 x19 x20 x21 true x398000 x398001 x398002 ((rd_T30 x19 x21).f0) ((rd_T30 x19 x21).f1) ((rd_T30 x19 x21).f2) ((rd_T30 x19 x21).f3) ((rd_T30 x19 x21).f4)))) else (impl_TableOk.j2 k x3 x21 x19 x20 x21 true x398000 x398001 x398002 ((rd_T30 x19 x21).f0) ((rd_T30 x19 x21).f1) ((rd_T30 x19 x21).f2) ((rd_T30 x19 x21).f3) ((rd_T30 x19 x21).f4)))) else (impl_TableOk.j2 k x3 x21 x19 x20 x21 true x398000 x398001 x398002 ((rd_T30 x19 x21).f0) ((rd_T30 x19 x21).f1) ((rd_T30 x19 x21).f2) ((rd_T30 x19 x21).f3) ((rd_T30 x19 x21).f4)))) else (impl_TableOk.j2 k x3 x21 x19 x20 x21 true x398000 x398001 x398002 ((rd_T30 x19 x21).f0) ((rd_T30 x19 x21).f1) ((rd_T30 x19 x21).f2) ((rd_T30 x19 x21).f3) ((rd_T30 x19 x21).f4)))) else (none)) else (none)) else (impl_TableOk.l1 k x3 x398000 0 x398000 x398001 x398002)
def impl_TableOk.j2 : Nat → Int → Int → List (S30) → Int → Int → Bool → Int → Int → List (S30) → Int → Int → Int → Int → List (S61) → Option (Bool)
  | 0, _, _, _, _, _, _, _, _, _, _, _, _, _, _ => none
  | k + 1, x3, x4, x19, x20, x21, x69, x398000, x398001, x398002, x402000, x402001, x402002, x402003, x402004 => if x69 = true then (some false) else (if x4 > 0 then (if 0 ≤ (wrap64 (x4 - 1)) then (if (wrap64 (x4 - 1)) < (x398002.length : Int) then ((impl_cellOrder.f k ((rd_T30 x398002 (wrap64 (x4 - 1))).f0) ((rd_T30 x398002 (wrap64 (x4 - 1))).f1) ((rd_T30 x398002 (wrap64 (x4 - 1))).f2) ((rd_T30 x398002 (wrap64 (x4 - 1))).f3) ((rd_T30 x398002 (wrap64 (x4 - 1))).f4) x402000 x402001 x402002 x402003 x402004).bind fun t408 => (if t408 ≥ 0 then (some false) else (impl_TableOk.l0 k (wrap64 (x3 + (wrap64 (x402002 * x402003)))) x19 x20 (wrap64 (x21 + 1)) x398000 x398001 x398002))) else (none)) else (none)) else (impl_TableOk.l0 k (wrap64 (x3 + (wrap64 (x402002 * x402003)))) x19 x20 (wrap64 (x21 + 1)) x398000 x398001 x398002))
def impl_TableOk.l1 : Nat → Int → Int → Int → Int → Int → List (S30) → Option (Bool)
  | 0, _, _, _, _, _, _ => none
  | k + 1, x3, x92, x93, x398000, x398001, x398002 => if x93 < x92 then (impl_TableOk.l2 k x3 x93 x92 x93 x398001 0 x398000 x398001 x398002) else (some (x3 == (wrap64 (x398000 * x398001))))
def impl_TableOk.l2 : Nat → Int → Int → Int → Int → Int → Int → Int → Int → List (S30) → Option (Bool)
  | 0, _, _, _, _, _, _, _, _, _ => none
  | k + 1, x3, x6, x92, x93, x97, x98, x398000, x398001, x398002 => if x98 < x97 then ((impl_Table_at.f x398000 x398001 x398002 x6 x98).bind fun t409 => (if t409 < 0 then (some false) else (impl_TableOk.l2 k x3 x6 x92 x93 x97 (wrap64 (x98 + 1)) x398000 x398001 x398002))) else (impl_TableOk.l1 k x3 x92 (wrap64 (x93 + 1)) x398000 x398001 x398002)
end
def impl_TableOk.f (k : Nat) (a0_0 : Int) (a0_1 : Int) (l0_2 : List (S30)) : Option (Bool) := (impl_within.f a0_0 1 5).bind fun t398 => (if t398 = true then ((impl_within.f a0_1 1 5).bind fun t399 => (impl_TableOk.j0 k (!t399) a0_0 a0_1 l0_2)) else (impl_TableOk.j0 k true a0_0 a0_1 l0_2))
theorem impl_TableOk.mono_l : ∀ k, (∀ y0 y1 y2 y3, LeO (impl_TableOk.j0 k y0 y1 y2 y3) (impl_TableOk.j0 (k + 1) y0 y1 y2 y3)) ∧ (∀ y0 y1 y2 y3 y4 y5 y6, LeO (impl_TableOk.l0 k y0 y1 y2 y3 y4 y5 y6) (impl_TableOk.l0 (k + 1) y0 y1 y2 y3 y4 y5 y6)) ∧ (∀ y0 y1 y2 y3 y4 y5 y6 y7 y8 y9 y10 y11 y12 y13, LeO (impl_TableOk.j2 k y0 y1 y2 y3 y4 y5 y6 y7 y8 y9 y10 y11 y12 y13) (impl_TableOk.j2 (k + 1) y0 y1 y2 y3 y4 y5 y6 y7 y8 y9 y10 y11 y12 y13)) ∧ (∀ y0 y1 y2 y3 y4 y5, LeO (impl_TableOk.l1 k y0 y1 y2 y3 y4 y5) (impl_TableOk.l1 (k + 1) y0 y1 y2 y3 y4 y5)) ∧ (∀ y0 y1 y2 y3 y4 y5 y6 y7 y8, LeO (impl_TableOk.l2 k y0 y1 y2 y3 y4 y5 y6 y7 y8) (impl_TableOk.l2 (k + 1) y0 y1 y2 y3 y4 y5 y6 y7 y8))
  | 0 => by refine ⟨?_, ?_, ?_, ?_, ?_⟩ <;> intros <;> intro r h <;> simp [impl_TableOk.j0, impl_TableOk.l0, impl_TableOk.j2, impl_TableOk.l1, impl_TableOk.l2] at h
  | k + 1 => by
    obtain ⟨ih0, ih1, ih2, ih3, ih4⟩ := impl_TableOk.mono_l k
    refine ⟨?_, ?_, ?_, ?_, ?_⟩ <;> intros <;> (first | unfold impl_TableOk.j0 | unfold impl_TableOk.l0 | unfold impl_TableOk.j2 | unfold impl_TableOk.l1 | unfold impl_TableOk.l2) <;> with_reducible repeat' first | exact ih0 _ _ _ _ | exact ih1 _ _ _ _ _ _ _ | exact ih2 _ _ _ _ _ _ _ _ _ _ _ _ _ _ | exact ih3 _ _ _ _ _ _ | exact ih4 _ _ _ _ _ _ _ _ _ | exact impl_TextOk.mono _ _ | exact impl_cellOrder.mono _ _ _ _ _ _ _ _ _ _ _ | exact LeO.refl _ | exact LeO.none _ | refine LeO.ite ?_ ?_ | refine LeO.bind ?_ (fun _ => ?_)
theorem impl_TableOk.mono : ∀ a0 a1 a2 k, LeO (impl_TableOk.f k a0 a1 a2) (impl_TableOk.f (k + 1) a0 a1 a2) := by
  intro a0 a1 a2 k
  obtain ⟨ih0, ih1, ih2, ih3, ih4⟩ := impl_TableOk.mono_l k
  unfold impl_TableOk.f
  with_reducible repeat' first | exact ih0 _ _ _ _ | exact ih1 _ _ _ _ _ _ _ | exact ih2 _ _ _ _ _ _ _ _ _ _ _ _ _ _ | exact ih3 _ _ _ _ _ _ | exact ih4 _ _ _ _ _ _ _ _ _ | exact impl_TextOk.mono _ _ | exact impl_cellOrder.mono _ _ _ _ _ _ _ _ _ _ _ | exact LeO.refl _ | exact LeO.none _ | refine LeO.ite ?_ ?_ | refine LeO.bind ?_ (fun _ => ?_)
def impl_TableOk.T9 : Bool × List (List Nat × List Nat) := (true, [([], []), ([0], [0]), ([1], [1]), ([2], [2]), ([3, 2], [2, 3]), ([2], [2]), ([5, 2], [2, 5]), ([4, 6, 2], [2, 4, 6]), ([7, 2], [2, 7]), ([2], [2]), ([8, 9, 2, 2], [2, 8, 9]), ([10, 2], [2, 10]), ([2, 11], [2, 11])])
def impl_TableOk.B9 : List Nat := [0, 1, 3, 7, 15, 7, 39, 127, 255, 7, 1023, 2047, 4095]
theorem impl_TableOk.tab9 : rtab .any (opsOf Try.f15 9) = impl_TableOk.T9 := by kernel_rfl
theorem impl_TableOk.bits9 : waitsOk impl_TableOk.T9.2 impl_TableOk.B9 = true := by kernel_rfl
theorem impl_TableOk.zHB {p : Prop} (h : p := by repeat (first | (with_reducible first | exact HB.out | apply below_alloc | apply pw_below_drewN | apply below_drew1 | refine below_set ?_ GE397.out | refine below_set ?_ GE401.out) | exact HB.out)) : p := h
theorem impl_TableOk.zK {p : Prop} (h : p := by repeat' first | (with_reducible first | exact BK397.out | exact BK401.out | apply blk_drewN | apply blk_drew | apply blk_alloc | apply blk_far (hp := NB397_401.out) | apply blk_putE) | exact (rfl : List.set _ _ _ = _)) : p := h
theorem impl_TableOk.z0 {p : Prop} (h : p := by (try simp only [List.map_toArray, List.map_cons, List.map_nil]); first | done | rfl | (simp only [List.length_drop, List.length_take]; rfl)) : p := h
theorem impl_TableOk.z1 {p : Prop} (h : p := by first | rfl | (simp; done) | (simp [*]; done)) : p := h
theorem impl_TableOk.z2 {p : Prop} (h : p := by first | rfl | (simp [errW_none, errW_some] <;> rfl) | (simp [*, errW_none, errW_some] <;> rfl)) : p := h
theorem impl_TableOk.z3 {p : Prop} (h : p := by have := HJ1.out; have := HK2.out; first | omega | exact Nat.le_refl _) : p := h
theorem impl_TableOk.z4 {p : Prop} (h : p := by first | (with_reducible assumption) | assumption) : p := h
theorem impl_TableOk.z5 {p : Prop} (h : p := by (try simp only [List.map_toArray, List.map_cons, List.map_nil]); first | done | (simp only [hji45]; rfl) | rfl | (simp only [List.length_drop, List.length_take]; rfl)) : p := h
theorem impl_TableOk.z6 {p : Prop} (h : p := by rw [hg]; exact (below_size (zHB))) : p := h
theorem impl_TableOk.z7 {p : Prop} (h : p := by have := HJ1.out; have := HK2.out; have := HK3.out; have := HK4.out; omega) : p := h
set_option maxHeartbeats 8000000 in
set_option maxRecDepth 100000 in
theorem impl_TableOk.calls (k : Nat) (a0_0 : Int) (a0_1 : Int) (A0_2 : Option Addr) (c0_2 : Nat) (l0_2 : List (S30)) (r : Bool) (w : World) (hr0_2 : Kd.C k30 w A0_2 l0_2.length l0_2) (hc0_2 : l0_2.length ≤ c0_2) (h : impl_TableOk.f k a0_0 a0_1 l0_2 = some r) :
    Calls Try.prog 15 #[.agg #[.int .i64 a0_0, .int .i64 a0_1, .slice A0_2 l0_2.length c0_2]] w fun e w' => e = .returned (.bool r) ∧ Below w.heap.size w w' := by
 have hu25 := Try.underlying25
 have hu30 := Try.underlying30
 have HR0_2 := Ax hr0_2
 have HC0_2 := Ax hc0_2
 clear hr0_2 hc0_2
 have HB := Ax (Below.refl w.heap.size w)
 have H : ((impl_within.f a0_0 1 5).bind fun t398 => (if t398 = true then ((impl_within.f a0_1 1 5).bind fun t399 => (impl_TableOk.j0 k (!t399) a0_0 a0_1 l0_2)) else (impl_TableOk.j0 k true a0_0 a0_1 l0_2))) = some r := h
 clear h
 have HC2 := Ax H
 clear H
 go_enter Try.func15, Try.ntmps15
 go_upto_region 1 with (first | ((with_reducible refine gate_dst (N := 1) rfl ?_); refine box_event ?hg (N := 1) ?hd (cs := #[.int .i64 a0_0, .int .i64 a0_1, .slice A0_2 l0_2.length c0_2]) (t := 25) ?hr ?_; (case hd => rfl); (case hg => rfl); (case hr => first | (go_simp; done) | (go_simp; rfl)); intro gb397 hg w3 hbox hb; have BK397 := Ax (hbox); have GW397 := Ax ((z6 : w.heap.size ≤ gb397)); have GE397 := Ax ((z6 : w.heap.size ≤ gb397)); replace HB := Ax (below_step (zHB) hb); clear hb hbox hg))
 (try simp only [Act.put, List.setIfInBounds_toArray, List.set_cons_zero, List.set_cons_succ])
 go_cut [17] (fun v17 wc => ∃ (kq : Nat) (x17_1 : Bool), v17 = .bool x17_1 ∧ Aside0 (impl_TableOk.j0 kq x17_1 a0_0 a0_1 l0_2 = some r) ∧ Aside0 (kq ≤ k) ∧ Aside0 (wc.heap[gb397]? = some (.cells #[.int .i64 a0_0, .int .i64 a0_1, (.slice A0_2 l0_2.length c0_2)] 25 (0, 0))) ∧ Aside0 (Below w.heap.size w wc))
 case first =>
  have H := HC2.out
  clear HC2
  obtain ⟨t398, A4, H⟩ := bnd H
  obtain rfl | rfl := tf t398
  · rw [if_pos rfl] at H
    obtain ⟨t399, A6, H⟩ := bnd H
    have H' := Ax H
    clear H
    obtain ⟨_, _, _, _, _, _⟩ := cells3 BK397.out
    go_wp2_with (first | ((with_reducible refine gate_callee (f := 41) rfl ?_); refine goesL_ (some 10) rfl rfl Try.func41 (by kernel_rfl) rfl #[.int .i64 a0_0, .int .i64 1, .int .i64 5] rfl (z0) ?_; (with_reducible refine (impl_within.calls a0_0 1 5 true _ A4.out).mono ?_); rintro e w' ⟨rfl, ⟨nd, rfl⟩⟩; refine ⟨_, rfl, ?_⟩) | (go_at_call 41; (with_reducible refine (impl_within.calls a0_1 1 5 t399 _ A6.out).mono ?_); rintro e w' ⟨rfl, ⟨nd, rfl⟩⟩))
    go_meet
    exact ⟨_, (!t399), (z1), H', ⟨by first | omega | exact Nat.le_refl _⟩, ⟨zK⟩, ⟨zHB⟩⟩
  rw [if_neg Bool.false_ne_true] at H
  have H' := Ax H
  clear H
  obtain ⟨_, _, _, _, _, _⟩ := cells3 BK397.out
  go_wp2_with (first | ((with_reducible refine gate_callee (f := 41) rfl ?_); refine goesL_ (some 10) rfl rfl Try.func41 (by kernel_rfl) rfl #[.int .i64 a0_0, .int .i64 1, .int .i64 5] rfl (z0) ?_; (with_reducible refine (impl_within.calls a0_0 1 5 false _ A4.out).mono ?_); rintro e w' ⟨rfl, ⟨nd, rfl⟩⟩; refine ⟨_, rfl, ?_⟩))
  go_meet
  exact ⟨_, (true), (z1), H', ⟨by first | omega | exact Nat.le_refl _⟩, ⟨zK⟩, ⟨zHB⟩⟩
 clear HC2
 obtain ⟨kq, x17_1, rfl, HA, HJ1, BK397, HB⟩ := hcut
 cases kq with
 | zero => exact absurd HA.out (by simp [impl_TableOk.j0])
 | succ kj1 =>
  have H := HA.out
  clear HA
  simp only [impl_TableOk.j0] at H
  obtain rfl | rfl := tf x17_1
  · rw [if_pos rfl] at H
    obtain rfl := Option.some.inj H
    go_wp2
    go_ret
    exact ⟨z2, zHB⟩
  rw [if_neg Bool.false_ne_true] at H
  have H' := Ax H
  clear H
  obtain ⟨hcz10_0, hcz10_1, hcz10_2, hfz10_0, hfz10_1, hfz10_2⟩ := cells3 BK397.out
  go_wp2
  go_loopg [3, 21] kj1 (fun kq v3 v21 w' => ∃ (x3_2 : Int) (x21_2 : Int), v3 = .int .i64 x3_2 ∧ v21 = .int .i64 x21_2 ∧ Aside0 (impl_TableOk.l0 kq x3_2 l0_2 (l0_2.length : Int) x21_2 a0_0 a0_1 l0_2 = some r) ∧ Aside0 (kq ≤ kj1) ∧ Aside0 (w'.heap[gb397]? = some (.cells #[.int .i64 a0_0, .int .i64 a0_1, (.slice A0_2 l0_2.length c0_2)] 25 (0, 0))) ∧ Aside0 (Below w.heap.size w w'))
  case atStart => exact ⟨(0), (0), (z1), (z1), H', ⟨Nat.le_refl _⟩, ⟨zK⟩, ⟨zHB⟩⟩
  clear H'
  (try clear hcz10_0); (try clear hcz10_1); (try clear hcz10_2); (try clear hfz10_0); (try clear hfz10_1); (try clear hfz10_2)
  obtain ⟨x3_2, x21_2, rfl, rfl, HA, HK2, BK397, HB⟩ := hrel
  cases gk with
  | zero => exact absurd HA.out (by simp [impl_TableOk.l0])
  | succ k2 =>
   have H := HA.out
   clear HA
   simp only [impl_TableOk.l0] at H
   by_cases c11 : x21_2 < (l0_2.length : Int)
   rotate_left
   · rw [if_neg c11] at H
     have c11b0 := decide_eq_false c11
     clear c11
     have H' := Ax H
     clear H
     obtain ⟨hcz59_0, hcz59_1, hcz59_2, hfz59_0, hfz59_1, hfz59_2⟩ := cells3 BK397.out
     go_wp2
     go_loopg [93] k2 (fun kq v93 w' => ∃ (x93_3 : Int), v93 = .int .i64 x93_3 ∧ Aside0 (impl_TableOk.l1 kq x3_2 a0_0 x93_3 a0_0 a0_1 l0_2 = some r) ∧ Aside0 (kq ≤ k2) ∧ Aside0 (w'.heap[gb397]? = some (.cells #[.int .i64 a0_0, .int .i64 a0_1, (.slice A0_2 l0_2.length c0_2)] 25 (0, 0))) ∧ Aside0 (Below w.heap.size w w'))
     case atStart => exact ⟨(0), (z1), H', ⟨Nat.le_refl _⟩, ⟨zK⟩, ⟨zHB⟩⟩
     clear H'
     (try clear c11); (try clear c11b0); (try clear hcz59_0); (try clear hcz59_1); (try clear hcz59_2); (try clear hfz10_0); (try clear hfz10_1); (try clear hfz10_2); (try clear hfz59_0); (try clear hfz59_1); (try clear hfz59_2)
     obtain ⟨x93_3, rfl, HA, HK3, BK397, HB⟩ := hrel
     cases gk with
     | zero => exact absurd HA.out (by simp [impl_TableOk.l1])
     | succ k3 =>
      have H := HA.out
      clear HA
      simp only [impl_TableOk.l1] at H
      by_cases c60 : x93_3 < a0_0
      rotate_left
      · rw [if_neg c60] at H
        have c60b0 := decide_eq_false c60
        clear c60
        obtain rfl := Option.some.inj H
        obtain ⟨_, _, _, _, _, _⟩ := cells3 BK397.out
        go_wp2
        go_ret
        exact ⟨z2, zHB⟩
      rw [if_pos c60] at H
      have c60b0 := decide_eq_true c60
      clear c60
      have H' := Ax H
      clear H
      obtain ⟨hcz61_0, hcz61_1, hcz61_2, hfz61_0, hfz61_1, hfz61_2⟩ := cells3 BK397.out
      go_wp2
      go_loopg [98] k3 (fun kq v98 w' => ∃ (x98_4 : Int), v98 = .int .i64 x98_4 ∧ Aside0 (impl_TableOk.l2 kq x3_2 x93_3 a0_0 x93_3 a0_1 x98_4 a0_0 a0_1 l0_2 = some r) ∧ Aside0 (kq ≤ k3) ∧ Aside0 (w'.heap[gb397]? = some (.cells #[.int .i64 a0_0, .int .i64 a0_1, (.slice A0_2 l0_2.length c0_2)] 25 (0, 0))) ∧ Aside0 (Below w.heap.size w w'))
      case atStart => exact ⟨(0), (z1), H', ⟨Nat.le_refl _⟩, ⟨zK⟩, ⟨zHB⟩⟩
      clear H'
      (try clear c11); (try clear c11b0); (try clear c60); (try clear c60b0); (try clear hcz59_0); (try clear hcz59_1); (try clear hcz59_2); (try clear hcz61_0); (try clear hcz61_1); (try clear hcz61_2); (try clear hfz10_0); (try clear hfz10_1); (try clear hfz10_2); (try clear hfz59_0); (try clear hfz59_1); (try clear hfz59_2); (try clear hfz61_0); (try clear hfz61_1); (try clear hfz61_2)
      obtain ⟨x98_4, rfl, HA, HK4, BK397, HB⟩ := hrel
      cases gk with
      | zero => exact absurd HA.out (by simp [impl_TableOk.l2])
      | succ k4 =>
       have H := HA.out
       clear HA
       simp only [impl_TableOk.l2] at H
       by_cases c62 : x98_4 < a0_1
       rotate_left
       · rw [if_neg c62] at H
         have c62b0 := decide_eq_false c62
         clear c62
         have H' := Ax H
         clear H
         go_wp2
         go_roundg k4
         case measure => have := HJ1.out; have := HK2.out; have := HK3.out; have := HK4.out; omega
         exact ⟨(wrap64 (x93_3 + 1)), (z1), H', ⟨z7⟩, ⟨zK⟩, ⟨zHB⟩⟩
       rw [if_pos c62] at H
       have c62b0 := decide_eq_true c62
       clear c62
       obtain ⟨t409, A63, H⟩ := bnd H
       by_cases c64 : t409 < 0
       · rw [if_pos c64] at H
         have c64b0 := decide_eq_true c64
         clear c64
         obtain rfl := Option.some.inj H
         obtain ⟨_, _, _, _, _, _⟩ := cells3 BK397.out
         go_wp2_with (first | ((with_reducible refine gate_callee (f := 44) rfl ?_); refine goesL_ (some 104) rfl rfl Try.func44 (by kernel_rfl) rfl #[.agg #[.int .i64 a0_0, .int .i64 a0_1, .slice A0_2 l0_2.length c0_2], .int .i64 x93_3, .int .i64 x98_4] rfl (z0) ?_; (with_reducible refine (impl_Table_at.calls a0_0 a0_1 _ _ l0_2 x93_3 x98_4 t409 _ ?side1 ?side2 A63.out).mono ?_); (case side1 => repeat (first | exact (Kd.C_below HR0_2.out HB.out) | (with_reducible refine Kd.C_alloc ?_ _) | (with_reducible refine Kd.C_drewN ?_ _) | (with_reducible refine Kd.C_drew ?_))); (case side2 => exact HC0_2.out); rintro e w66 ⟨rfl, hb⟩; refine ⟨_, rfl, ?_⟩; replace BK397 := Ax (blk_below (g := gb397) (zK) hb); replace HB := Ax (below_step (zHB) hb); (try clear hb); (try clear hb2); (try clear hk); (try clear hi)))
         go_ret
         exact ⟨z2, zHB⟩
       rw [if_neg c64] at H
       have c64b0 := decide_eq_false c64
       clear c64
       have H' := Ax H
       clear H
       obtain ⟨_, _, _, _, _, _⟩ := cells3 BK397.out
       go_wp2_with (first | ((with_reducible refine gate_callee (f := 44) rfl ?_); refine goesL_ (some 104) rfl rfl Try.func44 (by kernel_rfl) rfl #[.agg #[.int .i64 a0_0, .int .i64 a0_1, .slice A0_2 l0_2.length c0_2], .int .i64 x93_3, .int .i64 x98_4] rfl (z0) ?_; (with_reducible refine (impl_Table_at.calls a0_0 a0_1 _ _ l0_2 x93_3 x98_4 t409 _ ?side1 ?side2 A63.out).mono ?_); (case side1 => repeat (first | exact (Kd.C_below HR0_2.out HB.out) | (with_reducible refine Kd.C_alloc ?_ _) | (with_reducible refine Kd.C_drewN ?_ _) | (with_reducible refine Kd.C_drew ?_))); (case side2 => exact HC0_2.out); rintro e w68 ⟨rfl, hb⟩; refine ⟨_, rfl, ?_⟩; replace BK397 := Ax (blk_below (g := gb397) (zK) hb); replace HB := Ax (below_step (zHB) hb); (try clear hb); (try clear hb2); (try clear hk); (try clear hi)))
       go_roundg k4
       case measure => have := HJ1.out; have := HK2.out; have := HK3.out; have := HK4.out; omega
       exact ⟨(wrap64 (x98_4 + 1)), (z1), H', ⟨z7⟩, ⟨zK⟩, ⟨zHB⟩⟩
   rw [if_pos c11] at H
   have c11b0 := decide_eq_true c11
   clear c11
   by_cases c12 : 0 ≤ x21_2
   rotate_left
   · rw [if_neg c12] at H
     exact absurd H (by simp)
   rw [if_pos c12] at H
   have c12b0 := decide_eq_true c12
   clear c12
   by_cases c13 : x21_2 < (l0_2.length : Int)
   rotate_left
   · rw [if_neg c13] at H
     exact absurd H (by simp)
   rw [if_pos c13] at H
   have c13b0 := decide_eq_true c13
   clear c13
   have HC14 := Ax H
   clear H
   have p400 : 0 ≤ (x21_2 : Int) := of_decide_eq_true (z4)
   have q400 : x21_2 < (l0_2.length : Int) := of_decide_eq_true (z4)
   obtain ⟨ad400, A400_4, c400_4, e400, hx400_0, hx400_1, hx400_2, hx400_3, hx400_4, hl400_4, hi400_4⟩ := at_T30 HR0_2.out x21_2 p400 q400
   cases e400
   replace hx400_0 := (HB.out.cell (World.block_lt_of_cell? w _ hx400_0)).trans hx400_0
   replace hx400_1 := (HB.out.cell (World.block_lt_of_cell? w _ hx400_1)).trans hx400_1
   replace hx400_2 := (HB.out.cell (World.block_lt_of_cell? w _ hx400_2)).trans hx400_2
   replace hx400_3 := (HB.out.cell (World.block_lt_of_cell? w _ hx400_3)).trans hx400_3
   replace hx400_4 := (HB.out.cell (World.block_lt_of_cell? w _ hx400_4)).trans hx400_4
   have HR400_4 := Ax hi400_4
   have HC400_4 := Ax hl400_4
   clear hi400_4 hl400_4
   replace p400 := eq_true p400
   replace q400 := eq_true q400
   go_upto_region 7 with (first | ((with_reducible refine gate_dst (N := 5) rfl ?_); refine box_event ?hg (N := 5) ?hd (cs := #[.int .i64 0, .int .i64 0, .int .i64 0, .int .i64 0, .slice none 0 0]) (t := 30) ?hr ?_; (case hd => rfl); (case hg => rfl); (case hr => first | (go_simp; done) | (go_simp; rfl)); intro gb401 hg w15 hbox hb; have BK401 := Ax (hbox); have GW401 := Ax ((z6 : w.heap.size ≤ gb401)); have GE401 := Ax ((z6 : w.heap.size ≤ gb401)); replace HB := Ax (below_step (zHB) hb); have NB397_401 := Ax ((by rw [hg]; exact Nat.ne_of_lt (blk_lt (g := gb397) (zK)) : gb397 ≠ gb401)); have NB401_397 := Ax ((by rw [hg]; exact Nat.ne_of_gt (blk_lt (g := gb397) (zK)) : gb401 ≠ gb397)); replace BK397 := Ax (blk_below (g := gb397) (zK) hb); clear hb hbox hg; have hnb16 := NB401_397.out; have hnc16 := NB397_401.out; obtain ⟨hcz17_0, hcz17_1, hcz17_2, hcz17_3, hcz17_4, hfz17_0, hfz17_1, hfz17_2, hfz17_3, hfz17_4⟩ := cells5 BK401.out))
   (try simp only [Act.put, List.setIfInBounds_toArray, List.set_cons_zero, List.set_cons_succ])
   go_cut [69] (fun v69 wc => ∃ (kq : Nat) (x69_13 : Bool), v69 = .bool x69_13 ∧ Aside0 (impl_TableOk.j2 kq x3_2 x21_2 l0_2 (l0_2.length : Int) x21_2 x69_13 a0_0 a0_1 l0_2 ((rd_T30 l0_2 x21_2).f0) ((rd_T30 l0_2 x21_2).f1) ((rd_T30 l0_2 x21_2).f2) ((rd_T30 l0_2 x21_2).f3) ((rd_T30 l0_2 x21_2).f4) = some r) ∧ Aside0 (kq ≤ k2) ∧ Aside0 (wc.heap[gb397]? = some (.cells #[.int .i64 a0_0, .int .i64 a0_1, (.slice (some ad400) l0_2.length c0_2)] 25 (0, 0))) ∧ Aside0 (wc.heap[gb401]? = some (.cells #[.int .i64 ((rd_T30 l0_2 x21_2).f0), .int .i64 ((rd_T30 l0_2 x21_2).f1), .int .i64 ((rd_T30 l0_2 x21_2).f2), .int .i64 ((rd_T30 l0_2 x21_2).f3), (.slice A400_4 ((rd_T30 l0_2 x21_2).f4).length c400_4)] 30 (0, 0))) ∧ Aside0 (Below w.heap.size w wc))
   case first =>
    have H := HC14.out
    clear HC14
    obtain ⟨t402, A18, H⟩ := bnd H
    obtain rfl | rfl := tf t402
    rotate_left
    · rw [if_neg Bool.false_ne_true] at H
      have H' := Ax H
      clear H
      have hnb40 := NB401_397.out
      have hnc40 := NB397_401.out
      obtain ⟨_, _, _, _, _, _, _, _, _, _⟩ := cells5 BK401.out
      obtain ⟨_, _, _, _, _, _⟩ := cells3 BK397.out
      go_wp2_with (first | ((with_reducible refine gate_callee (f := 41) rfl ?_); refine goesL_ (some 31) rfl rfl Try.func41 (by kernel_rfl) rfl #[.int .i64 ((rd_T30 l0_2 x21_2).f0), .int .i64 0, .int .i64 (wrap64 (a0_0 - 1))] rfl (z0) ?_; (with_reducible refine (impl_within.calls ((rd_T30 l0_2 x21_2).f0) 0 (wrap64 (a0_0 - 1)) false _ A18.out).mono ?_); rintro e w' ⟨rfl, ⟨nd, rfl⟩⟩; refine ⟨_, rfl, ?_⟩))
      go_meet
      exact ⟨_, (true), (z1), H', ⟨z3⟩, ⟨zK⟩, ⟨zK⟩, ⟨zHB⟩⟩
    rw [if_pos rfl] at H
    obtain ⟨t403, A20, H⟩ := bnd H
    obtain rfl | rfl := tf t403
    rotate_left
    · rw [if_neg Bool.false_ne_true] at H
      have H' := Ax H
      clear H
      have hnb37 := NB401_397.out
      have hnc37 := NB397_401.out
      obtain ⟨_, _, _, _, _, _, _, _, _, _⟩ := cells5 BK401.out
      obtain ⟨_, _, _, _, _, _⟩ := cells3 BK397.out
      go_wp2_with (first | ((with_reducible refine gate_callee (f := 41) rfl ?_); refine goesL_ (some 31) rfl rfl Try.func41 (by kernel_rfl) rfl #[.int .i64 ((rd_T30 l0_2 x21_2).f0), .int .i64 0, .int .i64 (wrap64 (a0_0 - 1))] rfl (z0) ?_; (with_reducible refine (impl_within.calls ((rd_T30 l0_2 x21_2).f0) 0 (wrap64 (a0_0 - 1)) true _ A18.out).mono ?_); rintro e w' ⟨rfl, ⟨nd, rfl⟩⟩; refine ⟨_, rfl, ?_⟩) | (go_at_call 41; (with_reducible refine (impl_within.calls ((rd_T30 l0_2 x21_2).f1) 0 (wrap64 (a0_1 - 1)) false _ A20.out).mono ?_); rintro e w' ⟨rfl, ⟨nd, rfl⟩⟩))
      go_meet
      exact ⟨_, (true), (z1), H', ⟨z3⟩, ⟨zK⟩, ⟨zK⟩, ⟨zHB⟩⟩
    rw [if_pos rfl] at H
    obtain ⟨t404, A22, H⟩ := bnd H
    obtain rfl | rfl := tf t404
    rotate_left
    · rw [if_neg Bool.false_ne_true] at H
      have H' := Ax H
      clear H
      have hnb34 := NB401_397.out
      have hnc34 := NB397_401.out
      obtain ⟨_, _, _, _, _, _, _, _, _, _⟩ := cells5 BK401.out
      obtain ⟨_, _, _, _, _, _⟩ := cells3 BK397.out
      go_wp2_with (first | ((with_reducible refine gate_callee (f := 41) rfl ?_); refine goesL_ (some 31) rfl rfl Try.func41 (by kernel_rfl) rfl #[.int .i64 ((rd_T30 l0_2 x21_2).f0), .int .i64 0, .int .i64 (wrap64 (a0_0 - 1))] rfl (z0) ?_; (with_reducible refine (impl_within.calls ((rd_T30 l0_2 x21_2).f0) 0 (wrap64 (a0_0 - 1)) true _ A18.out).mono ?_); rintro e w' ⟨rfl, ⟨nd, rfl⟩⟩; refine ⟨_, rfl, ?_⟩) | (go_at_call 41; (with_reducible refine (impl_within.calls ((rd_T30 l0_2 x21_2).f1) 0 (wrap64 (a0_1 - 1)) true _ A20.out).mono ?_); rintro e w' ⟨rfl, ⟨nd, rfl⟩⟩) | (go_at_call 41; (with_reducible refine (impl_within.calls ((rd_T30 l0_2 x21_2).f2) 1 (wrap64 (a0_0 - ((rd_T30 l0_2 x21_2).f0))) false _ A22.out).mono ?_); rintro e w' ⟨rfl, ⟨nd, rfl⟩⟩))
      go_meet
      exact ⟨_, (true), (z1), H', ⟨z3⟩, ⟨zK⟩, ⟨zK⟩, ⟨zHB⟩⟩
    rw [if_pos rfl] at H
    obtain ⟨t405, A24, H⟩ := bnd H
    obtain rfl | rfl := tf t405
    · rw [if_pos rfl] at H
      obtain ⟨t406, A26, H⟩ := bnd H
      have H' := Ax H
      clear H
      have hnb27 := NB401_397.out
      have hnc27 := NB397_401.out
      obtain ⟨_, _, _, _, _, _, _, _, _, _⟩ := cells5 BK401.out
      obtain ⟨_, _, _, _, _, _⟩ := cells3 BK397.out
      go_wp2_with (first | ((with_reducible refine gate_callee (f := 41) rfl ?_); refine goesL_ (some 31) rfl rfl Try.func41 (by kernel_rfl) rfl #[.int .i64 ((rd_T30 l0_2 x21_2).f0), .int .i64 0, .int .i64 (wrap64 (a0_0 - 1))] rfl (z0) ?_; (with_reducible refine (impl_within.calls ((rd_T30 l0_2 x21_2).f0) 0 (wrap64 (a0_0 - 1)) true _ A18.out).mono ?_); rintro e w' ⟨rfl, ⟨nd, rfl⟩⟩; refine ⟨_, rfl, ?_⟩) | (go_at_call 41; (with_reducible refine (impl_within.calls ((rd_T30 l0_2 x21_2).f1) 0 (wrap64 (a0_1 - 1)) true _ A20.out).mono ?_); rintro e w' ⟨rfl, ⟨nd, rfl⟩⟩) | (go_at_call 41; (with_reducible refine (impl_within.calls ((rd_T30 l0_2 x21_2).f2) 1 (wrap64 (a0_0 - ((rd_T30 l0_2 x21_2).f0))) true _ A22.out).mono ?_); rintro e w' ⟨rfl, ⟨nd, rfl⟩⟩) | (go_at_call 41; (with_reducible refine (impl_within.calls ((rd_T30 l0_2 x21_2).f3) 1 (wrap64 (a0_1 - ((rd_T30 l0_2 x21_2).f1))) true _ A24.out).mono ?_); rintro e w' ⟨rfl, ⟨nd, rfl⟩⟩) | (go_at_call 42; (with_reducible refine (impl_TextOk.calls k2 _ _ ((rd_T30 l0_2 x21_2).f4) t406 _ ?side1 ?side2 A26.out).mono ?_); (case side1 => exact Kd.C_below HR400_4.out (zHB)); (case side2 => exact HC400_4.out); rintro e w30 ⟨rfl, hb⟩; replace BK397 := Ax (blk_below (g := gb397) (zK) hb); replace BK401 := Ax (blk_below (g := gb401) (o := .cells #[.int .i64 ((rd_T30 l0_2 x21_2).f0), .int .i64 ((rd_T30 l0_2 x21_2).f1), .int .i64 ((rd_T30 l0_2 x21_2).f2), .int .i64 ((rd_T30 l0_2 x21_2).f3), .slice A400_4 ((rd_T30 l0_2 x21_2).f4).length c400_4] 30 (0, 0)) (zK) hb); replace HB := Ax (below_step (zHB) hb); (try clear hb); (try clear hb2); (try clear hk); (try clear hi)))
      go_meet
      exact ⟨_, (!t406), (z1), H', ⟨z3⟩, ⟨zK⟩, ⟨zK⟩, ⟨zHB⟩⟩
    rw [if_neg Bool.false_ne_true] at H
    have H' := Ax H
    clear H
    have hnb31 := NB401_397.out
    have hnc31 := NB397_401.out
    obtain ⟨_, _, _, _, _, _, _, _, _, _⟩ := cells5 BK401.out
    obtain ⟨_, _, _, _, _, _⟩ := cells3 BK397.out
    go_wp2_with (first | ((with_reducible refine gate_callee (f := 41) rfl ?_); refine goesL_ (some 31) rfl rfl Try.func41 (by kernel_rfl) rfl #[.int .i64 ((rd_T30 l0_2 x21_2).f0), .int .i64 0, .int .i64 (wrap64 (a0_0 - 1))] rfl (z0) ?_; (with_reducible refine (impl_within.calls ((rd_T30 l0_2 x21_2).f0) 0 (wrap64 (a0_0 - 1)) true _ A18.out).mono ?_); rintro e w' ⟨rfl, ⟨nd, rfl⟩⟩; refine ⟨_, rfl, ?_⟩) | (go_at_call 41; (with_reducible refine (impl_within.calls ((rd_T30 l0_2 x21_2).f1) 0 (wrap64 (a0_1 - 1)) true _ A20.out).mono ?_); rintro e w' ⟨rfl, ⟨nd, rfl⟩⟩) | (go_at_call 41; (with_reducible refine (impl_within.calls ((rd_T30 l0_2 x21_2).f2) 1 (wrap64 (a0_0 - ((rd_T30 l0_2 x21_2).f0))) true _ A22.out).mono ?_); rintro e w' ⟨rfl, ⟨nd, rfl⟩⟩) | (go_at_call 41; (with_reducible refine (impl_within.calls ((rd_T30 l0_2 x21_2).f3) 1 (wrap64 (a0_1 - ((rd_T30 l0_2 x21_2).f1))) false _ A24.out).mono ?_); rintro e w' ⟨rfl, ⟨nd, rfl⟩⟩))
    go_meet
    exact ⟨_, (true), (z1), H', ⟨z3⟩, ⟨zK⟩, ⟨zK⟩, ⟨zHB⟩⟩
   clear HC14
   (try clear c11); (try clear c11b0); (try clear c12); (try clear c12b0); (try clear c13); (try clear c13b0); (try clear hcz10_0); (try clear hcz10_1); (try clear hcz10_2); (try clear hcz17_0); (try clear hcz17_1); (try clear hcz17_2); (try clear hcz17_3); (try clear hcz17_4); (try clear hfz10_0); (try clear hfz10_1); (try clear hfz10_2); (try clear hfz17_0); (try clear hfz17_1); (try clear hfz17_2); (try clear hfz17_3); (try clear hfz17_4); (try clear hx400_0); (try clear hx400_1); (try clear hx400_2); (try clear hx400_3); (try clear hx400_4); (try clear p400); (try clear q400)
   obtain ⟨kq, x69_13, rfl, HA, HJ13, BK397, BK401, HB⟩ := hcut
   cases kq with
   | zero => exact absurd HA.out (by simp [impl_TableOk.j2])
   | succ kj13 =>
    have H := HA.out
    clear HA
    simp only [impl_TableOk.j2] at H
    obtain rfl | rfl := tf x69_13
    · rw [if_pos rfl] at H
      obtain rfl := Option.some.inj H
      go_wp2
      go_ret
      exact ⟨z2, zHB⟩
    rw [if_neg Bool.false_ne_true] at H
    by_cases c44 : x21_2 > 0
    rotate_left
    · rw [if_neg c44] at H
      have c44b0 : decide (0 < x21_2) = false := decide_eq_false c44
      clear c44
      have H' := Ax H
      clear H
      try go_wp2
      replace BK397 := Ax (blk_drew BK397.out)
      replace BK401 := Ax (blk_drew BK401.out)
      replace HB := Ax (below_drew1 HB.out)
      refine start_ (n := 13) (S := fun w' => True) (ds := []) #[false, false, false, false, false, false, false, false, false, false, false, false, false] (by kernel_rfl) rfl rfl trivial (fun hHeld => ?_); refine with_tabW impl_TableOk.tab9 impl_TableOk.bits9 (fun HT_ HW_ => ?_)
      generalize wc.drew = w56 at BK397 BK401 HB hHeld ⊢
      refine pure_ (i := 0) (N := some 70) (v := ?_) (a' := ?_) (bl 13 1) rfl rfl (any_of HT_.out (by kernel_rfl)) (fun _ _ _ h => h) (Or.inl ⟨by rfl, ?_⟩) ?_ ?_
      rotate_left
      · exact zEv
      rotate_left
      · exact zAct
      refine pure_ (i := 1) (N := some 71) (v := ?_) (a' := ?_) (bl 13 3) rfl rfl (any_of HT_.out (by kernel_rfl)) (fun _ _ _ h => h) (Or.inl ⟨by rfl, ?_⟩) ?_ ?_
      rotate_left
      · exact zEv
      rotate_left
      · exact zAct
      refine pure_ (i := 2) (N := some 72) (v := ?_) (a' := ?_) (bl 13 7) rfl rfl (any_of HT_.out (by kernel_rfl)) (fun _ _ _ h => h) (Or.inl ⟨by rfl, ?_⟩) ?_ ?_
      rotate_left
      · exact zEv
      rotate_left
      · exact zAct
      refine pure_ (i := 3) (N := some 73) (v := undef) (a' := ?_) (bl 13 15) rfl rfl (any_of HT_.out (by kernel_rfl)) (fun _ _ _ h => h) (Or.inr ⟨by rfl, rfl⟩) ?_ ?_
      rotate_left
      · exact zAct
      refine pure_ (i := 4) (N := some 74) (v := undef) (a' := ?_) (bl 13 31) rfl rfl (any_of HT_.out (by kernel_rfl)) (fun _ _ _ h => h) (Or.inr ⟨by rfl, rfl⟩) ?_ ?_
      rotate_left
      · exact zAct
      refine pure_ (i := 5) (N := some 75) (v := undef) (a' := ?_) (bl 13 63) rfl rfl (any_of HT_.out (by kernel_rfl)) (fun _ _ _ h => h) (Or.inr ⟨by rfl, rfl⟩) ?_ ?_
      rotate_left
      · exact zAct
      refine pure_ (i := 6) (N := some 76) (v := undef) (a' := ?_) (bl 13 127) rfl rfl (any_of HT_.out (by kernel_rfl)) (fun _ _ _ h => h) (Or.inr ⟨by rfl, rfl⟩) ?_ ?_
      rotate_left
      · exact zAct
      refine pure_ (i := 7) (N := some 77) (v := undef) (a' := ?_) (bl 13 255) rfl rfl (any_of HT_.out (by kernel_rfl)) (fun _ _ _ h => h) (Or.inr ⟨by rfl, rfl⟩) ?_ ?_
      rotate_left
      · exact zAct
      refine pure_ (i := 8) (N := some 78) (v := undef) (a' := ?_) (bl 13 511) rfl rfl (any_of HT_.out (by kernel_rfl)) (fun _ _ _ h => h) (Or.inr ⟨by rfl, rfl⟩) ?_ ?_
      rotate_left
      · exact zAct
      refine pure_ (i := 9) (N := some 79) (v := undef) (a' := ?_) (bl 13 1023) rfl rfl (any_of HT_.out (by kernel_rfl)) (fun _ _ _ h => h) (Or.inr ⟨by rfl, rfl⟩) ?_ ?_
      rotate_left
      · exact zAct
      refine pure_ (i := 10) (N := some 80) (v := undef) (a' := ?_) (bl 13 2047) rfl rfl (any_of HT_.out (by kernel_rfl)) (fun _ _ _ h => h) (Or.inr ⟨by rfl, rfl⟩) ?_ ?_
      rotate_left
      · exact zAct
      refine pure_ (i := 11) (N := some 81) (v := undef) (a' := ?_) (bl 13 4095) rfl rfl (any_of HT_.out (by kernel_rfl)) (fun _ _ _ h => h) (Or.inr ⟨by rfl, rfl⟩) ?_ ?_
      rotate_left
      · exact zAct
      refine pure_ (i := 12) (N := some 82) (v := ?_) (a' := ?_) (bl 13 8191) rfl rfl (any_of HT_.out (by kernel_rfl)) (fun _ _ _ h => h) (Or.inl ⟨by rfl, ?_⟩) ?_ ?_
      rotate_left
      · exact zEv
      rotate_left
      · exact zAct
      refine done_ (done_of HT_.out (by kernel_rfl)) ?_
      have hnb57 := NB401_397.out
      have hnc57 := NB397_401.out
      obtain ⟨_, _, _, _, _, _, _, _, _, _⟩ := cells5 BK401.out
      try go_wp2
      go_roundg kj13
      case measure => have := HJ1.out; have := HK2.out; have := HJ13.out; omega
      exact ⟨(wrap64 (x3_2 + (wrap64 (((rd_T30 l0_2 x21_2).f2) * ((rd_T30 l0_2 x21_2).f3))))), (wrap64 (x21_2 + 1)), (z1), (z1), H', ⟨by have := HJ1.out; have := HK2.out; have := HJ13.out; omega⟩, ⟨zK⟩, ⟨zHB⟩⟩
    rw [if_pos c44] at H
    have c44b0 := decide_eq_true c44
    clear c44
    obtain ⟨ji45, hji45⟩ : ∃ j_ : Int, (wrap64 (x21_2 - 1)) = j_ := ⟨_, rfl⟩
    replace H : (if 0 ≤ (ji45) then (if (ji45) < (l0_2.length : Int) then ((impl_cellOrder.f kj13 ((rd_T30 l0_2 (ji45)).f0) ((rd_T30 l0_2 (ji45)).f1) ((rd_T30 l0_2 (ji45)).f2) ((rd_T30 l0_2 (ji45)).f3) ((rd_T30 l0_2 (ji45)).f4) ((rd_T30 l0_2 x21_2).f0) ((rd_T30 l0_2 x21_2).f1) ((rd_T30 l0_2 x21_2).f2) ((rd_T30 l0_2 x21_2).f3) ((rd_T30 l0_2 x21_2).f4)).bind fun t408 => (if t408 ≥ 0 then (some false) else (impl_TableOk.l0 kj13 (wrap64 (x3_2 + (wrap64 (((rd_T30 l0_2 x21_2).f2) * ((rd_T30 l0_2 x21_2).f3))))) l0_2 (l0_2.length : Int) (wrap64 (x21_2 + 1)) a0_0 a0_1 l0_2))) else (none)) else (none)) = some r := by first | (rw [hji45] at H; exact H) | (simp only [hji45] at H ⊢; exact H)
    have hji45w : (IntKind.i64.wrap (x21_2 - 1)) = ji45 := (i64_w _).trans hji45
    by_cases c46 : 0 ≤ (ji45)
    rotate_left
    · rw [if_neg c46] at H
      exact absurd H (by simp)
    rw [if_pos c46] at H
    have c46b0 := decide_eq_true c46
    clear c46
    by_cases c47 : (ji45) < (l0_2.length : Int)
    rotate_left
    · rw [if_neg c47] at H
      exact absurd H (by simp)
    rw [if_pos c47] at H
    have c47b0 := decide_eq_true c47
    clear c47
    obtain ⟨t408, A48, H⟩ := bnd H
    by_cases c49 : t408 ≥ 0
    · rw [if_pos c49] at H
      have c49b0 := decide_eq_true c49
      clear c49
      obtain rfl := Option.some.inj H
      try go_wp2
      replace BK397 := Ax (blk_drew BK397.out)
      replace BK401 := Ax (blk_drew BK401.out)
      replace HB := Ax (below_drew1 HB.out)
      have p407 : 0 ≤ ((ji45) : Int) := of_decide_eq_true (z4)
      have q407 : (ji45) < (l0_2.length : Int) := of_decide_eq_true (z4)
      obtain ⟨ad407, A407_4, c407_4, e407, hx407_0, hx407_1, hx407_2, hx407_3, hx407_4, hl407_4, hi407_4⟩ := at_T30 HR0_2.out (ji45) p407 q407
      have hw407_4 := hx407_4
      have hw407_3 := hx407_3
      have hw407_2 := hx407_2
      have hw407_1 := hx407_1
      have hw407_0 := hx407_0
      obtain rfl : ad400 = ad407 := (by injection e407)
      replace hx407_0 := (HB.out.cell (World.block_lt_of_cell? w _ hx407_0)).trans hx407_0
      replace hx407_1 := (HB.out.cell (World.block_lt_of_cell? w _ hx407_1)).trans hx407_1
      replace hx407_2 := (HB.out.cell (World.block_lt_of_cell? w _ hx407_2)).trans hx407_2
      replace hx407_3 := (HB.out.cell (World.block_lt_of_cell? w _ hx407_3)).trans hx407_3
      replace hx407_4 := (HB.out.cell (World.block_lt_of_cell? w _ hx407_4)).trans hx407_4
      have HR407_4 := Ax hi407_4
      have HC407_4 := Ax hl407_4
      clear hi407_4 hl407_4
      replace p407 := eq_true p407
      replace q407 := eq_true q407
      refine start_ (n := 13) (S := fun w' => w'.cell? ⟨gb397, 0, none⟩ = some (.int .i64 a0_0) ∧ w'.cell? ⟨gb397, 1, none⟩ = some (.int .i64 a0_1) ∧ w'.cell? ⟨gb397, 2, none⟩ = some (.slice (some ad400) l0_2.length c0_2) ∧ w'.cell? ⟨gb401, 0, none⟩ = some (.int .i64 ((rd_T30 l0_2 x21_2).f0)) ∧ w'.cell? ⟨gb401, 1, none⟩ = some (.int .i64 ((rd_T30 l0_2 x21_2).f1)) ∧ w'.cell? ⟨gb401, 2, none⟩ = some (.int .i64 ((rd_T30 l0_2 x21_2).f2)) ∧ w'.cell? ⟨gb401, 3, none⟩ = some (.int .i64 ((rd_T30 l0_2 x21_2).f3)) ∧ w'.cell? ⟨gb401, 4, none⟩ = some (.slice A400_4 ((rd_T30 l0_2 x21_2).f4).length c400_4) ∧ w'.cell? (ad400.add (((ji45)).toNat * 5)) = some (.int .i64 ((rd_T30 l0_2 (ji45)).f0)) ∧ w'.cell? ⟨(ad400.add (((ji45)).toNat * 5)).block, (ad400.add (((ji45)).toNat * 5)).off + 1, none⟩ = some (.int .i64 ((rd_T30 l0_2 (ji45)).f1)) ∧ w'.cell? ⟨(ad400.add (((ji45)).toNat * 5)).block, (ad400.add (((ji45)).toNat * 5)).off + 2, none⟩ = some (.int .i64 ((rd_T30 l0_2 (ji45)).f2)) ∧ w'.cell? ⟨(ad400.add (((ji45)).toNat * 5)).block, (ad400.add (((ji45)).toNat * 5)).off + 3, none⟩ = some (.int .i64 ((rd_T30 l0_2 (ji45)).f3)) ∧ w'.cell? ⟨(ad400.add (((ji45)).toNat * 5)).block, (ad400.add (((ji45)).toNat * 5)).off + 4, none⟩ = some (.slice A407_4 ((rd_T30 l0_2 (ji45)).f4).length c407_4)) (ds := []) #[false, false, false, false, false, false, false, false, false, false, false, false, false] (by kernel_rfl) rfl rfl ⟨(blk_cell BK397.out 0).trans rfl, (blk_cell BK397.out 1).trans rfl, (blk_cell BK397.out 2).trans rfl, (blk_cell BK401.out 0).trans rfl, (blk_cell BK401.out 1).trans rfl, (blk_cell BK401.out 2).trans rfl, (blk_cell BK401.out 3).trans rfl, (blk_cell BK401.out 4).trans rfl, ((HB.out.cell (World.block_lt_of_cell? w _ hw407_0)).trans hw407_0), ((HB.out.cell (World.block_lt_of_cell? w _ hw407_1)).trans hw407_1), ((HB.out.cell (World.block_lt_of_cell? w _ hw407_2)).trans hw407_2), ((HB.out.cell (World.block_lt_of_cell? w _ hw407_3)).trans hw407_3), ((HB.out.cell (World.block_lt_of_cell? w _ hw407_4)).trans hw407_4)⟩ (fun hHeld => ?_); refine with_tabW impl_TableOk.tab9 impl_TableOk.bits9 (fun HT_ HW_ => ?_)
      generalize wc.drew = w50 at BK397 BK401 HB HR407_4 hx407_0 hx407_1 hx407_2 hx407_3 hx407_4 hHeld ⊢
      refine pure_ (i := 0) (N := some 70) (v := ?_) (a' := ?_) (bl 13 1) rfl rfl (any_of HT_.out (by kernel_rfl)) (fun _ _ _ h => h) (Or.inl ⟨by rfl, ?_⟩) ?_ ?_
      rotate_left
      · exact zEv
      rotate_left
      · exact zAct
      refine pure_ (i := 1) (N := some 71) (v := ?_) (a' := ?_) (bl 13 3) rfl rfl (any_of HT_.out (by kernel_rfl)) (fun _ _ _ h => h) (Or.inl ⟨by rfl, ?_⟩) ?_ ?_
      rotate_left
      · exact zEv
      rotate_left
      · exact zAct
      refine pure_ (i := 2) (N := some 72) (v := ?_) (a' := ?_) (bl 13 7) rfl rfl (any_of HT_.out (by kernel_rfl)) (fun _ _ _ h => h) (Or.inl ⟨by rfl, ?_⟩) ?_ ?_
      rotate_left
      · exact zEv
      rotate_left
      · exact zAct
      refine pure_ (i := 3) (N := some 73) (v := ?_) (a' := ?_) (bl 13 15) rfl rfl (any_of HT_.out (by kernel_rfl)) (fun _ _ _ h => h) (Or.inl ⟨by rfl, ?_⟩) ?_ ?_
      rotate_left
      · exact zEv
      rotate_left
      · exact zAct
      refine pure_ (i := 5) (N := some 75) (v := ?_) (a' := ?_) (bl 13 47) rfl rfl (any_of HT_.out (by kernel_rfl)) (fun _ _ _ h => h) (Or.inl ⟨by rfl, ?_⟩) ?_ ?_
      rotate_left
      · exact zEv
      rotate_left
      · exact zAct
      refine pure_ (i := 6) (N := some 76) (v := ?_) (a' := ?_) (bl 13 111) rfl rfl (any_of HT_.out (by kernel_rfl)) (fun _ _ _ h => h) (Or.inl ⟨by rfl, ?_⟩) ?_ ?_
      rotate_left
      · exact zEv
      rotate_left
      · exact zAct
      refine take_ (i := 4) (N := some 74) (v := ?_) (a' := ?_) (bl 13 127) rfl rfl (take_ofW HT_.out HW_.out (by kernel_rfl)) (fun _ _ _ h => h) (Or.inl ⟨by rfl, ?_⟩) hHeld ?_ ?_
      rotate_left
      · rintro w' ⟨s0, s1, s2, s3, s4, s5, s6, s7, s8, s9, s10, s11, s12⟩
        go_simp
        with_reducible rfl
      rotate_left
      · exact zAct
      refine pure_ (i := 7) (N := some 77) (v := ?_) (a' := ?_) (bl 13 255) rfl rfl (any_of HT_.out (by kernel_rfl)) (fun _ _ _ h => h) (Or.inl ⟨by rfl, ?_⟩) ?_ ?_
      rotate_left
      · exact zEv
      rotate_left
      · exact zAct
      refine take_ (i := 8) (N := some 78) (v := ?_) (a' := ?_) (bl 13 511) rfl rfl (take_ofW HT_.out HW_.out (by kernel_rfl)) (fun _ _ _ h => h) (Or.inl ⟨by rfl, ?_⟩) hHeld ?_ ?_
      rotate_left
      · rintro w' ⟨s0, s1, s2, s3, s4, s5, s6, s7, s8, s9, s10, s11, s12⟩
        go_simp
        with_reducible rfl
      rotate_left
      · exact zAct
      refine take_ (i := 9) (N := some 79) (v := ?_) (a' := ?_) (bl 13 1023) rfl rfl (take_ofW HT_.out HW_.out (by kernel_rfl)) (fun _ _ _ h => h) (Or.inl ⟨by rfl, ?_⟩) hHeld ?_ ?_
      rotate_left
      · rintro w' ⟨s0, s1, s2, s3, s4, s5, s6, s7, s8, s9, s10, s11, s12⟩
        go_simp
        with_reducible rfl
      rotate_left
      · exact zAct
      refine one_ (i := 10) (N := some 80) (bl 13 2047) rfl rfl (one_of HT_.out (by kernel_rfl)) (by decide) (fun K hK => ?_)
      refine goes_ Try.func43 (by kernel_rfl) rfl #[.agg #[.int .i64 ((rd_T30 l0_2 (ji45)).f0), .int .i64 ((rd_T30 l0_2 (ji45)).f1), .int .i64 ((rd_T30 l0_2 (ji45)).f2), .int .i64 ((rd_T30 l0_2 (ji45)).f3), .slice A407_4 ((rd_T30 l0_2 (ji45)).f4).length c407_4], .agg #[.int .i64 ((rd_T30 l0_2 x21_2).f0), .int .i64 ((rd_T30 l0_2 x21_2).f1), .int .i64 ((rd_T30 l0_2 x21_2).f2), .int .i64 ((rd_T30 l0_2 x21_2).f3), .slice A400_4 ((rd_T30 l0_2 x21_2).f4).length c400_4]] (by rfl) rfl rfl (z5) ?_
      with_reducible refine (impl_cellOrder.calls kj13 ((rd_T30 l0_2 (ji45)).f0) ((rd_T30 l0_2 (ji45)).f1) ((rd_T30 l0_2 (ji45)).f2) ((rd_T30 l0_2 (ji45)).f3) _ _ ((rd_T30 l0_2 (ji45)).f4) ((rd_T30 l0_2 x21_2).f0) ((rd_T30 l0_2 x21_2).f1) ((rd_T30 l0_2 x21_2).f2) ((rd_T30 l0_2 x21_2).f3) _ _ ((rd_T30 l0_2 x21_2).f4) t408 _ ?side1 ?side2 ?side3 ?side4 A48.out).mono ?_
      (case side1 => repeat (first | exact (Kd.C_below HR407_4.out HB.out) | (with_reducible refine Kd.C_alloc ?_ _) | (with_reducible refine Kd.C_drewN ?_ _) | (with_reducible refine Kd.C_drew ?_)))
      (case side2 => exact HC407_4.out)
      (case side3 => repeat (first | exact (Kd.C_below HR400_4.out HB.out) | (with_reducible refine Kd.C_alloc ?_ _) | (with_reducible refine Kd.C_drewN ?_ _) | (with_reducible refine Kd.C_drew ?_)))
      (case side4 => exact HC400_4.out)
      rintro e w51 ⟨rfl, hb⟩
      refine ⟨_, rfl, ?_⟩
      replace BK397 := Ax (blk_below (g := gb397) (zK) hb)
      replace BK401 := Ax (blk_below (g := gb401) (zK) hb)
      replace HB := Ax (below_step (zHB) hb)
      (try clear hb)
      refine hK.out _ _ ⟨(blk_cell BK397.out 0).trans rfl, (blk_cell BK397.out 1).trans rfl, (blk_cell BK397.out 2).trans rfl, (blk_cell BK401.out 0).trans rfl, (blk_cell BK401.out 1).trans rfl, (blk_cell BK401.out 2).trans rfl, (blk_cell BK401.out 3).trans rfl, (blk_cell BK401.out 4).trans rfl, ((HB.out.cell (World.block_lt_of_cell? w _ hw407_0)).trans hw407_0), ((HB.out.cell (World.block_lt_of_cell? w _ hw407_1)).trans hw407_1), ((HB.out.cell (World.block_lt_of_cell? w _ hw407_2)).trans hw407_2), ((HB.out.cell (World.block_lt_of_cell? w _ hw407_3)).trans hw407_3), ((HB.out.cell (World.block_lt_of_cell? w _ hw407_4)).trans hw407_4)⟩ (fun hHeld => ?_)
      clear hK K
      refine norm_ (a' := ?_) ?_ ?_
      rotate_left
      · show Act.put _ (some 80) _ = _
        exact zAct
      refine pure_ (i := 11) (N := some 81) (v := ?_) (a' := ?_) (bl 13 4095) rfl rfl (any_of HT_.out (by kernel_rfl)) (fun _ _ _ h => h) (Or.inl ⟨by rfl, ?_⟩) ?_ ?_
      rotate_left
      · exact zEv
      rotate_left
      · exact zAct
      refine pure_ (i := 12) (N := some 82) (v := ?_) (a' := ?_) (bl 13 8191) rfl rfl (any_of HT_.out (by kernel_rfl)) (fun _ _ _ h => h) (Or.inl ⟨by rfl, ?_⟩) ?_ ?_
      rotate_left
      · exact zEv
      rotate_left
      · exact zAct
      refine done_ (done_of HT_.out (by kernel_rfl)) ?_
      try go_wp2
      go_ret
      exact ⟨by first | rfl | (simp [errW_none, errW_some] <;> rfl) | (simp only [← hji45]; first | rfl | (simp [errW_none, errW_some] <;> rfl)) | (simp [*, errW_none, errW_some] <;> rfl), zHB⟩
    rw [if_neg c49] at H
    have c49b0 : decide (0 ≤ t408) = false := decide_eq_false c49
    clear c49
    have H' := Ax H
    clear H
    try go_wp2
    replace BK397 := Ax (blk_drew BK397.out)
    replace BK401 := Ax (blk_drew BK401.out)
    replace HB := Ax (below_drew1 HB.out)
    have p407 : 0 ≤ ((ji45) : Int) := of_decide_eq_true (z4)
    have q407 : (ji45) < (l0_2.length : Int) := of_decide_eq_true (z4)
    obtain ⟨ad407, A407_4, c407_4, e407, hx407_0, hx407_1, hx407_2, hx407_3, hx407_4, hl407_4, hi407_4⟩ := at_T30 HR0_2.out (ji45) p407 q407
    have hw407_4 := hx407_4
    have hw407_3 := hx407_3
    have hw407_2 := hx407_2
    have hw407_1 := hx407_1
    have hw407_0 := hx407_0
    obtain rfl : ad400 = ad407 := (by injection e407)
    replace hx407_0 := (HB.out.cell (World.block_lt_of_cell? w _ hx407_0)).trans hx407_0
    replace hx407_1 := (HB.out.cell (World.block_lt_of_cell? w _ hx407_1)).trans hx407_1
    replace hx407_2 := (HB.out.cell (World.block_lt_of_cell? w _ hx407_2)).trans hx407_2
    replace hx407_3 := (HB.out.cell (World.block_lt_of_cell? w _ hx407_3)).trans hx407_3
    replace hx407_4 := (HB.out.cell (World.block_lt_of_cell? w _ hx407_4)).trans hx407_4
    have HR407_4 := Ax hi407_4
    have HC407_4 := Ax hl407_4
    clear hi407_4 hl407_4
    replace p407 := eq_true p407
    replace q407 := eq_true q407
    refine start_ (n := 13) (S := fun w' => w'.cell? ⟨gb397, 0, none⟩ = some (.int .i64 a0_0) ∧ w'.cell? ⟨gb397, 1, none⟩ = some (.int .i64 a0_1) ∧ w'.cell? ⟨gb397, 2, none⟩ = some (.slice (some ad400) l0_2.length c0_2) ∧ w'.cell? ⟨gb401, 0, none⟩ = some (.int .i64 ((rd_T30 l0_2 x21_2).f0)) ∧ w'.cell? ⟨gb401, 1, none⟩ = some (.int .i64 ((rd_T30 l0_2 x21_2).f1)) ∧ w'.cell? ⟨gb401, 2, none⟩ = some (.int .i64 ((rd_T30 l0_2 x21_2).f2)) ∧ w'.cell? ⟨gb401, 3, none⟩ = some (.int .i64 ((rd_T30 l0_2 x21_2).f3)) ∧ w'.cell? ⟨gb401, 4, none⟩ = some (.slice A400_4 ((rd_T30 l0_2 x21_2).f4).length c400_4) ∧ w'.cell? (ad400.add (((ji45)).toNat * 5)) = some (.int .i64 ((rd_T30 l0_2 (ji45)).f0)) ∧ w'.cell? ⟨(ad400.add (((ji45)).toNat * 5)).block, (ad400.add (((ji45)).toNat * 5)).off + 1, none⟩ = some (.int .i64 ((rd_T30 l0_2 (ji45)).f1)) ∧ w'.cell? ⟨(ad400.add (((ji45)).toNat * 5)).block, (ad400.add (((ji45)).toNat * 5)).off + 2, none⟩ = some (.int .i64 ((rd_T30 l0_2 (ji45)).f2)) ∧ w'.cell? ⟨(ad400.add (((ji45)).toNat * 5)).block, (ad400.add (((ji45)).toNat * 5)).off + 3, none⟩ = some (.int .i64 ((rd_T30 l0_2 (ji45)).f3)) ∧ w'.cell? ⟨(ad400.add (((ji45)).toNat * 5)).block, (ad400.add (((ji45)).toNat * 5)).off + 4, none⟩ = some (.slice A407_4 ((rd_T30 l0_2 (ji45)).f4).length c407_4)) (ds := []) #[false, false, false, false, false, false, false, false, false, false, false, false, false] (by kernel_rfl) rfl rfl ⟨(blk_cell BK397.out 0).trans rfl, (blk_cell BK397.out 1).trans rfl, (blk_cell BK397.out 2).trans rfl, (blk_cell BK401.out 0).trans rfl, (blk_cell BK401.out 1).trans rfl, (blk_cell BK401.out 2).trans rfl, (blk_cell BK401.out 3).trans rfl, (blk_cell BK401.out 4).trans rfl, ((HB.out.cell (World.block_lt_of_cell? w _ hw407_0)).trans hw407_0), ((HB.out.cell (World.block_lt_of_cell? w _ hw407_1)).trans hw407_1), ((HB.out.cell (World.block_lt_of_cell? w _ hw407_2)).trans hw407_2), ((HB.out.cell (World.block_lt_of_cell? w _ hw407_3)).trans hw407_3), ((HB.out.cell (World.block_lt_of_cell? w _ hw407_4)).trans hw407_4)⟩ (fun hHeld => ?_); refine with_tabW impl_TableOk.tab9 impl_TableOk.bits9 (fun HT_ HW_ => ?_)
    generalize wc.drew = w52 at BK397 BK401 HB HR407_4 hx407_0 hx407_1 hx407_2 hx407_3 hx407_4 hHeld ⊢
    refine pure_ (i := 0) (N := some 70) (v := ?_) (a' := ?_) (bl 13 1) rfl rfl (any_of HT_.out (by kernel_rfl)) (fun _ _ _ h => h) (Or.inl ⟨by rfl, ?_⟩) ?_ ?_
    rotate_left
    · exact zEv
    rotate_left
    · exact zAct
    refine pure_ (i := 1) (N := some 71) (v := ?_) (a' := ?_) (bl 13 3) rfl rfl (any_of HT_.out (by kernel_rfl)) (fun _ _ _ h => h) (Or.inl ⟨by rfl, ?_⟩) ?_ ?_
    rotate_left
    · exact zEv
    rotate_left
    · exact zAct
    refine pure_ (i := 2) (N := some 72) (v := ?_) (a' := ?_) (bl 13 7) rfl rfl (any_of HT_.out (by kernel_rfl)) (fun _ _ _ h => h) (Or.inl ⟨by rfl, ?_⟩) ?_ ?_
    rotate_left
    · exact zEv
    rotate_left
    · exact zAct
    refine pure_ (i := 3) (N := some 73) (v := ?_) (a' := ?_) (bl 13 15) rfl rfl (any_of HT_.out (by kernel_rfl)) (fun _ _ _ h => h) (Or.inl ⟨by rfl, ?_⟩) ?_ ?_
    rotate_left
    · exact zEv
    rotate_left
    · exact zAct
    refine pure_ (i := 5) (N := some 75) (v := ?_) (a' := ?_) (bl 13 47) rfl rfl (any_of HT_.out (by kernel_rfl)) (fun _ _ _ h => h) (Or.inl ⟨by rfl, ?_⟩) ?_ ?_
    rotate_left
    · exact zEv
    rotate_left
    · exact zAct
    refine pure_ (i := 6) (N := some 76) (v := ?_) (a' := ?_) (bl 13 111) rfl rfl (any_of HT_.out (by kernel_rfl)) (fun _ _ _ h => h) (Or.inl ⟨by rfl, ?_⟩) ?_ ?_
    rotate_left
    · exact zEv
    rotate_left
    · exact zAct
    refine take_ (i := 4) (N := some 74) (v := ?_) (a' := ?_) (bl 13 127) rfl rfl (take_ofW HT_.out HW_.out (by kernel_rfl)) (fun _ _ _ h => h) (Or.inl ⟨by rfl, ?_⟩) hHeld ?_ ?_
    rotate_left
    · rintro w' ⟨s0, s1, s2, s3, s4, s5, s6, s7, s8, s9, s10, s11, s12⟩
      go_simp
      with_reducible rfl
    rotate_left
    · exact zAct
    refine pure_ (i := 7) (N := some 77) (v := ?_) (a' := ?_) (bl 13 255) rfl rfl (any_of HT_.out (by kernel_rfl)) (fun _ _ _ h => h) (Or.inl ⟨by rfl, ?_⟩) ?_ ?_
    rotate_left
    · exact zEv
    rotate_left
    · exact zAct
    refine take_ (i := 8) (N := some 78) (v := ?_) (a' := ?_) (bl 13 511) rfl rfl (take_ofW HT_.out HW_.out (by kernel_rfl)) (fun _ _ _ h => h) (Or.inl ⟨by rfl, ?_⟩) hHeld ?_ ?_
    rotate_left
    · rintro w' ⟨s0, s1, s2, s3, s4, s5, s6, s7, s8, s9, s10, s11, s12⟩
      go_simp
      with_reducible rfl
    rotate_left
    · exact zAct
    refine take_ (i := 9) (N := some 79) (v := ?_) (a' := ?_) (bl 13 1023) rfl rfl (take_ofW HT_.out HW_.out (by kernel_rfl)) (fun _ _ _ h => h) (Or.inl ⟨by rfl, ?_⟩) hHeld ?_ ?_
    rotate_left
    · rintro w' ⟨s0, s1, s2, s3, s4, s5, s6, s7, s8, s9, s10, s11, s12⟩
      go_simp
      with_reducible rfl
    rotate_left
    · exact zAct
    refine one_ (i := 10) (N := some 80) (bl 13 2047) rfl rfl (one_of HT_.out (by kernel_rfl)) (by decide) (fun K hK => ?_)
    refine goes_ Try.func43 (by kernel_rfl) rfl #[.agg #[.int .i64 ((rd_T30 l0_2 (ji45)).f0), .int .i64 ((rd_T30 l0_2 (ji45)).f1), .int .i64 ((rd_T30 l0_2 (ji45)).f2), .int .i64 ((rd_T30 l0_2 (ji45)).f3), .slice A407_4 ((rd_T30 l0_2 (ji45)).f4).length c407_4], .agg #[.int .i64 ((rd_T30 l0_2 x21_2).f0), .int .i64 ((rd_T30 l0_2 x21_2).f1), .int .i64 ((rd_T30 l0_2 x21_2).f2), .int .i64 ((rd_T30 l0_2 x21_2).f3), .slice A400_4 ((rd_T30 l0_2 x21_2).f4).length c400_4]] (by rfl) rfl rfl (z5) ?_
    with_reducible refine (impl_cellOrder.calls kj13 ((rd_T30 l0_2 (ji45)).f0) ((rd_T30 l0_2 (ji45)).f1) ((rd_T30 l0_2 (ji45)).f2) ((rd_T30 l0_2 (ji45)).f3) _ _ ((rd_T30 l0_2 (ji45)).f4) ((rd_T30 l0_2 x21_2).f0) ((rd_T30 l0_2 x21_2).f1) ((rd_T30 l0_2 x21_2).f2) ((rd_T30 l0_2 x21_2).f3) _ _ ((rd_T30 l0_2 x21_2).f4) t408 _ ?side1 ?side2 ?side3 ?side4 A48.out).mono ?_
    (case side1 => repeat (first | exact (Kd.C_below HR407_4.out HB.out) | (with_reducible refine Kd.C_alloc ?_ _) | (with_reducible refine Kd.C_drewN ?_ _) | (with_reducible refine Kd.C_drew ?_)))
    (case side2 => exact HC407_4.out)
    (case side3 => repeat (first | exact (Kd.C_below HR400_4.out HB.out) | (with_reducible refine Kd.C_alloc ?_ _) | (with_reducible refine Kd.C_drewN ?_ _) | (with_reducible refine Kd.C_drew ?_)))
    (case side4 => exact HC400_4.out)
    rintro e w53 ⟨rfl, hb⟩
    refine ⟨_, rfl, ?_⟩
    replace BK397 := Ax (blk_below (g := gb397) (zK) hb)
    replace BK401 := Ax (blk_below (g := gb401) (zK) hb)
    replace HB := Ax (below_step (zHB) hb)
    (try clear hb)
    refine hK.out _ _ ⟨(blk_cell BK397.out 0).trans rfl, (blk_cell BK397.out 1).trans rfl, (blk_cell BK397.out 2).trans rfl, (blk_cell BK401.out 0).trans rfl, (blk_cell BK401.out 1).trans rfl, (blk_cell BK401.out 2).trans rfl, (blk_cell BK401.out 3).trans rfl, (blk_cell BK401.out 4).trans rfl, ((HB.out.cell (World.block_lt_of_cell? w _ hw407_0)).trans hw407_0), ((HB.out.cell (World.block_lt_of_cell? w _ hw407_1)).trans hw407_1), ((HB.out.cell (World.block_lt_of_cell? w _ hw407_2)).trans hw407_2), ((HB.out.cell (World.block_lt_of_cell? w _ hw407_3)).trans hw407_3), ((HB.out.cell (World.block_lt_of_cell? w _ hw407_4)).trans hw407_4)⟩ (fun hHeld => ?_)
    clear hK K
    refine norm_ (a' := ?_) ?_ ?_
    rotate_left
    · show Act.put _ (some 80) _ = _
      exact zAct
    refine pure_ (i := 11) (N := some 81) (v := ?_) (a' := ?_) (bl 13 4095) rfl rfl (any_of HT_.out (by kernel_rfl)) (fun _ _ _ h => h) (Or.inl ⟨by rfl, ?_⟩) ?_ ?_
    rotate_left
    · exact zEv
    rotate_left
    · exact zAct
    refine pure_ (i := 12) (N := some 82) (v := ?_) (a' := ?_) (bl 13 8191) rfl rfl (any_of HT_.out (by kernel_rfl)) (fun _ _ _ h => h) (Or.inl ⟨by rfl, ?_⟩) ?_ ?_
    rotate_left
    · exact zEv
    rotate_left
    · exact zAct
    refine done_ (done_of HT_.out (by kernel_rfl)) ?_
    have hnb54 := NB401_397.out
    have hnc54 := NB397_401.out
    obtain ⟨_, _, _, _, _, _, _, _, _, _⟩ := cells5 BK401.out
    try go_wp2
    go_roundg kj13
    case measure => have := HJ1.out; have := HK2.out; have := HJ13.out; omega
    exact ⟨(wrap64 (x3_2 + (wrap64 (((rd_T30 l0_2 x21_2).f2) * ((rd_T30 l0_2 x21_2).f3))))), (wrap64 (x21_2 + 1)), (z1), (z1), H', ⟨by have := HJ1.out; have := HK2.out; have := HJ13.out; omega⟩, ⟨zK⟩, ⟨zHB⟩⟩
end Go.Proofs.Ytljgbeccmcidkaa.P
namespace Go.Proofs.Ytljgbeccmcidkaa.P
open Go.RowKit Go.Proofs.YtljgbeccmcidkaaW.PrintWords Go.Proofs.YtljgbeccmcidkaaW.PrintLast Go.Proofs.YtljgbeccmcidkaaW.PrintMore
attribute [local go_sem] max2_int min2_int max_two min_two max_three min_three max_four min_four   -- for this text's walks alone
set_option linter.unusedVariables false
set_option linter.unusedSimpArgs false

attribute [local go_sem ↓] isSome_setCell
/-! ### impl_TableAt: function 17 -/
def impl_TableAt.f (k : Nat) (a0_0 : Int) (a0_1 : Int) (l0_2 : List (S30)) (a1 : Int) (a2 : Int) : Option (Int) := (impl_TableOk.f k a0_0 a0_1 l0_2).bind fun t411 => (if t411 = true then ((impl_Table_at.f a0_0 a0_1 l0_2 a1 a2).bind fun t412 => (some t412)) else (some (-1)))
theorem impl_TableAt.mono : ∀ a0 a1 a2 a3 a4 k, LeO (impl_TableAt.f k a0 a1 a2 a3 a4) (impl_TableAt.f (k + 1) a0 a1 a2 a3 a4) := by
  intro a0 a1 a2 a3 a4 k
  unfold impl_TableAt.f
  with_reducible repeat' first | exact impl_TableOk.mono _ _ _ _ | exact LeO.refl _ | exact LeO.none _ | refine LeO.ite ?_ ?_ | refine LeO.bind ?_ (fun _ => ?_)
theorem impl_TableAt.zHB {p : Prop} (h : p := by repeat (first | (with_reducible first | exact HB.out | apply below_alloc | apply pw_below_drewN | apply below_drew1 | refine below_set ?_ GE410.out) | exact HB.out)) : p := h
theorem impl_TableAt.zK {p : Prop} (h : p := by repeat' first | (with_reducible first | exact BK410.out | apply blk_drewN | apply blk_drew | apply blk_alloc | apply blk_putE) | exact (rfl : List.set _ _ _ = _)) : p := h
theorem impl_TableAt.z0 {p : Prop} (h : p := by (try simp only [List.map_toArray, List.map_cons, List.map_nil]); first | done | rfl | (simp only [List.length_drop, List.length_take]; rfl)) : p := h
theorem impl_TableAt.z1 {p : Prop} (h : p := by rw [hg]; exact (below_size (zHB))) : p := h
theorem impl_TableAt.z2 {p : Prop} (h : p := by first | rfl | (simp [errW_none, errW_some] <;> rfl) | (simp [*, errW_none, errW_some] <;> rfl)) : p := h
set_option maxHeartbeats 8000000 in
set_option maxRecDepth 100000 in
theorem impl_TableAt.calls (k : Nat) (a0_0 : Int) (a0_1 : Int) (A0_2 : Option Addr) (c0_2 : Nat) (l0_2 : List (S30)) (a1 : Int) (a2 : Int) (r : Int) (w : World) (hr0_2 : Kd.C k30 w A0_2 l0_2.length l0_2) (hc0_2 : l0_2.length ≤ c0_2) (h : impl_TableAt.f k a0_0 a0_1 l0_2 a1 a2 = some r) :
    Calls Try.prog 17 #[.agg #[.int .i64 a0_0, .int .i64 a0_1, .slice A0_2 l0_2.length c0_2], .int .i64 a1, .int .i64 a2] w fun e w' => e = .returned (.int .i64 r) ∧ Below w.heap.size w w' := by
 have hu25 := Try.underlying25
 have HR0_2 := Ax hr0_2
 have HC0_2 := Ax hc0_2
 clear hr0_2 hc0_2
 have HB := Ax (Below.refl w.heap.size w)
 have H : ((impl_TableOk.f k a0_0 a0_1 l0_2).bind fun t411 => (if t411 = true then ((impl_Table_at.f a0_0 a0_1 l0_2 a1 a2).bind fun t412 => (some t412)) else (some (-1)))) = some r := h
 clear h
 obtain ⟨t411, A4, H⟩ := bnd H
 obtain rfl | rfl := tf t411
 · rw [if_pos rfl] at H
   obtain ⟨t412, A6, H⟩ := bnd H
   obtain rfl := Option.some.inj H
   go_enter Try.func17, Try.ntmps17
   go_wp2_with (first | ((with_reducible refine gate_dst (N := 3) rfl ?_); refine box_event ?hg (N := 3) ?hd (cs := #[.int .i64 a0_0, .int .i64 a0_1, .slice A0_2 l0_2.length c0_2]) (t := 25) ?hr ?_; (case hd => rfl); (case hg => rfl); (case hr => first | (go_simp; done) | (go_simp; rfl)); intro gb410 hg w7 hbox hb; have BK410 := Ax (hbox); have GW410 := Ax ((z1 : w.heap.size ≤ gb410)); have GE410 := Ax ((z1 : w.heap.size ≤ gb410)); replace HB := Ax (below_step (zHB) hb); clear hb hbox hg; obtain ⟨_, _, _, _, _, _⟩ := cells3 BK410.out) | ((with_reducible refine gate_callee (f := 15) rfl ?_); refine goesL_ (some 8) rfl rfl Try.func15 (by kernel_rfl) rfl #[.agg #[.int .i64 a0_0, .int .i64 a0_1, .slice A0_2 l0_2.length c0_2]] rfl (z0) ?_; (with_reducible refine (impl_TableOk.calls k a0_0 a0_1 _ _ l0_2 true _ ?side1 ?side2 A4.out).mono ?_); (case side1 => repeat (first | exact (Kd.C_below HR0_2.out HB.out) | (with_reducible refine Kd.C_alloc ?_ _) | (with_reducible refine Kd.C_drewN ?_ _) | (with_reducible refine Kd.C_drew ?_))); (case side2 => exact HC0_2.out); rintro e w9 ⟨rfl, hb⟩; refine ⟨_, rfl, ?_⟩; replace BK410 := Ax (blk_below (g := gb410) (zK) hb); replace HB := Ax (below_step (zHB) hb); (try clear hb); (try clear hb2); (try clear hk); (try clear hi); obtain ⟨_, _, _, _, _, _⟩ := cells3 BK410.out) | ((with_reducible refine gate_callee (f := 44) rfl ?_); refine goesL_ (some 13) rfl rfl Try.func44 (by kernel_rfl) rfl #[.agg #[.int .i64 a0_0, .int .i64 a0_1, .slice A0_2 l0_2.length c0_2], .int .i64 a1, .int .i64 a2] rfl (z0) ?_; (with_reducible refine (impl_Table_at.calls a0_0 a0_1 _ _ l0_2 a1 a2 t412 _ ?side1 ?side2 A6.out).mono ?_); (case side1 => repeat (first | exact (Kd.C_below HR0_2.out HB.out) | (with_reducible refine Kd.C_alloc ?_ _) | (with_reducible refine Kd.C_drewN ?_ _) | (with_reducible refine Kd.C_drew ?_))); (case side2 => exact HC0_2.out); rintro e w11 ⟨rfl, hb⟩; refine ⟨_, rfl, ?_⟩; replace BK410 := Ax (blk_below (g := gb410) (zK) hb); replace HB := Ax (below_step (zHB) hb); (try clear hb); (try clear hb2); (try clear hk); (try clear hi)))
   go_ret
   exact ⟨z2, zHB⟩
 rw [if_neg Bool.false_ne_true] at H
 obtain rfl := Option.some.inj H
 go_enter Try.func17, Try.ntmps17
 go_wp2_with (first | ((with_reducible refine gate_dst (N := 3) rfl ?_); refine box_event ?hg (N := 3) ?hd (cs := #[.int .i64 a0_0, .int .i64 a0_1, .slice A0_2 l0_2.length c0_2]) (t := 25) ?hr ?_; (case hd => rfl); (case hg => rfl); (case hr => first | (go_simp; done) | (go_simp; rfl)); intro gb410 hg w12 hbox hb; have BK410 := Ax (hbox); have GW410 := Ax ((z1 : w.heap.size ≤ gb410)); have GE410 := Ax ((z1 : w.heap.size ≤ gb410)); replace HB := Ax (below_step (zHB) hb); clear hb hbox hg; obtain ⟨_, _, _, _, _, _⟩ := cells3 BK410.out) | ((with_reducible refine gate_callee (f := 15) rfl ?_); refine goesL_ (some 8) rfl rfl Try.func15 (by kernel_rfl) rfl #[.agg #[.int .i64 a0_0, .int .i64 a0_1, .slice A0_2 l0_2.length c0_2]] rfl (z0) ?_; (with_reducible refine (impl_TableOk.calls k a0_0 a0_1 _ _ l0_2 false _ ?side1 ?side2 A4.out).mono ?_); (case side1 => repeat (first | exact (Kd.C_below HR0_2.out HB.out) | (with_reducible refine Kd.C_alloc ?_ _) | (with_reducible refine Kd.C_drewN ?_ _) | (with_reducible refine Kd.C_drew ?_))); (case side2 => exact HC0_2.out); rintro e w14 ⟨rfl, hb⟩; refine ⟨_, rfl, ?_⟩; replace BK410 := Ax (blk_below (g := gb410) (zK) hb); replace HB := Ax (below_step (zHB) hb); (try clear hb); (try clear hb2); (try clear hk); (try clear hi)))
 go_ret
 exact ⟨z2, zHB⟩
end Go.Proofs.Ytljgbeccmcidkaa.P
namespace Go.Proofs.Ytljgbeccmcidkaa.P
open Go.RowKit Go.Proofs.YtljgbeccmcidkaaW.PrintWords Go.Proofs.YtljgbeccmcidkaaW.PrintLast Go.Proofs.YtljgbeccmcidkaaW.PrintMore
attribute [local go_sem] max2_int min2_int max_two min_two max_three min_three max_four min_four   -- for this text's walks alone
set_option linter.unusedVariables false
set_option linter.unusedSimpArgs false

attribute [local go_sem ↓] isSome_setCell
open Go.Sort in
def Grw (w w' : World) : Prop := ∃ q os, w' = grow (w.drewN q) os
open Go.Sort in
theorem grw_refl (w : World) : Grw w w := ⟨0, #[], by rw [grow_empty]; rfl⟩
open Go.Sort in
theorem grw_alloc {w W : World} (h : Grw w W) (o : Obj) : Grw w (W.alloc o) := by
  obtain ⟨q, os, rfl⟩ := h
  exact ⟨q, os ++ #[o], by rw [alloc_eq_grow, grow_grow]⟩
open Go.Sort in
theorem grw_drewN {w W : World} (h : Grw w W) (n : Nat) : Grw w (W.drewN n) := by
  obtain ⟨q, os, rfl⟩ := h
  exact ⟨q + n, os, by rw [← World.drewN_drewN]; rfl⟩
theorem grw_drew {w W : World} (h : Grw w W) : Grw w W.drew := grw_drewN h 1
section
variable {P : Program} {ops : Array Oper} {Q : Exit → Act → World → Prop} {rest : List Oper} {o : Oper} {a : Act} {Kc : Act → World → Prop} {α : Type}
theorem box_eventX {W : World} (hgd : o.guard = none) {N : Tmp} (_hd : o.dst = some N) {cs : Array Value} {t : TypeId}
    (hrun : (execOp a.eval o).run P W = .ok (.value (.pointer (some ⟨W.heap.size, 0, none⟩))) (W.alloc (.cells cs t (0, 0))))
    (h : ∀ g, g = W.heap.size → ∀ w1, w1 = W.alloc (.cells cs t (0, 0)) → w1.heap[g]? = some (.cells cs t (0, 0)) → Below W.heap.size W w1 → wpList P ops Q rest (a.put o.dst (.pointer (some ⟨g, 0, none⟩))) w1) : wpList P ops Q (o :: rest) a W :=
  Kd.event_run hgd hrun (h _ rfl _ rfl (blk_new W _) (below_alloc (Below.refl _ _) _))
theorem R_lit_stepX (d : Kd α) {w0 W : World} (base e : Nat) (hw : Region.wanted o (yielded ops a.tmps) = true) {N : Tmp} (_hd : o.dst = some N) {xs : List α} {inner : List Value} {ok okp : Nat → Prop}
    (hrun : (execOp a.eval o).run P W = .ok (.value (.slice (some ⟨W.heap.size, 0, none⟩) xs.length xs.length)) (W.alloc (.cells inner.toArray e)))
    (hrep : Reps (d.M W base okp) d.sz xs inner) (hok : ∀ k, okp k → ok k) (hfresh : ok W.heap.size) (HB : Below base w0 W) (hbase : base ≤ W.heap.size) (hm : xs.length ≤ 9223372036854775807)
    (h : ∀ v1 w1, w1 = W.alloc (.cells inner.toArray e) → d.R e w1 base ok v1 xs → Below base w0 w1 → W.grownBy w1 none → (∃ b, v1.ownBlock = some b ∧ W.heap.size ≤ b) → Kc (a.put o.dst v1) w1) : if Region.wanted o (yielded ops a.tmps) = true then Oper.wp P o a W Kc Q else Kc (a.put o.dst undef) W := by
  have key := Kd.R_lit_step (P := P) (ops := ops) (Q := Q) (o := o) (a := a) (Kc := fun a' w' => ∃ v1, a' = a.put o.dst v1 ∧ d.R e w' base ok v1 xs ∧ Below base w0 w' ∧ W.grownBy w' none ∧ ∃ b, v1.ownBlock = some b ∧ W.heap.size ≤ b) d base e hw _hd hrun hrep hok hfresh HB hbase hm (fun v1 w1 h1 h2 h3 h4 => ⟨v1, rfl, h1, h2, h3, h4⟩)
  rw [if_pos hw] at key ⊢
  unfold Oper.wp at key ⊢
  rw [hrun] at key ⊢
  obtain ⟨v1, e1, h1, h2, h3, h4⟩ := key
  show Kc (a.put o.dst _) _
  rw [e1]
  exact h v1 _ rfl h1 h2 h3 h4
end
theorem impl_cellOrder.grows.zHB {p : Prop} (h : p := by repeat (first | (with_reducible first | exact HB.out | apply below_alloc | apply pw_below_drewN | apply below_drew1 | refine below_set ?_ GE389.out | refine below_set ?_ GE390.out) | exact HB.out)) : p := h
theorem impl_cellOrder.grows.zK {p : Prop} (h : p := by repeat' first | (with_reducible first | exact BK389.out | exact BK390.out | apply blk_drewN | apply blk_drew | apply blk_alloc | apply blk_putE) | exact (rfl : List.set _ _ _ = _)) : p := h
theorem impl_cellOrder.grows.z0 {p : Prop} (h : p := by (try simp only [List.map_toArray, List.map_cons, List.map_nil]); first | done | rfl | (simp only [List.length_drop, List.length_take]; rfl)) : p := h
theorem impl_cellOrder.grows.z1 {p : Prop} (h : p := by rw [hg]; exact (below_size (zHB))) : p := h
set_option maxHeartbeats 8000000 in
set_option maxRecDepth 100000 in
theorem impl_cellOrder.grows (k : Nat) (a0_0 : Int) (a0_1 : Int) (a0_2 : Int) (a0_3 : Int) (A0_4 : Option Addr) (c0_4 : Nat) (l0_4 : List (S61)) (a1_0 : Int) (a1_1 : Int) (a1_2 : Int) (a1_3 : Int) (A1_4 : Option Addr) (c1_4 : Nat) (l1_4 : List (S61)) (r : Int) (w : World) (h : impl_cellOrder.f k a0_0 a0_1 a0_2 a0_3 l0_4 a1_0 a1_1 a1_2 a1_3 l1_4 = some r) :
    Calls Try.prog 43 #[.agg #[.int .i64 a0_0, .int .i64 a0_1, .int .i64 a0_2, .int .i64 a0_3, .slice A0_4 l0_4.length c0_4], .agg #[.int .i64 a1_0, .int .i64 a1_1, .int .i64 a1_2, .int .i64 a1_3, .slice A1_4 l1_4.length c1_4]] w fun e w' => e = .returned (.int .i64 r) ∧ Grw w w' := by
 have hu30 := Try.underlying30
 have HB := Aside0.mk (Below.refl w.heap.size w)
 have GX := Aside0.mk (grw_refl w)
 have H : ((cmp_Compare_int.f a0_0 a1_0).bind fun t391 => ((cmp_Compare_int.f a0_1 a1_1).bind fun t392 => ((cmp_Or_int.f k (([t391, t392] : List Int))).bind fun t396 => (some t396)))) = some r := h
 clear h
 obtain ⟨t391, A3, H⟩ := bnd H
 obtain ⟨t392, A4, H⟩ := bnd H
 obtain ⟨y393, hy393⟩ : ∃ y_ : List Int, y_ = (([t391, t392] : List Int)) := ⟨_, rfl⟩
 replace H : ((cmp_Or_int.f k y393).bind fun t396 => (some t396)) = some r := by first | (rw [hy393]; with_reducible exact H) | (have H2_ := (Option.bind_some _ _).symm.trans H; rw [hy393]; with_reducible exact H2_) | (have H2_ := (Option.bind_some _ _).symm.trans H; with_reducible exact H2_) | with_reducible exact H | (rw [hy393]; exact H) | exact H
 have Ny393 := Aside0.mk hy393
 clear hy393
 obtain ⟨t396, A5, H⟩ := bnd H
 obtain rfl := Option.some.inj H
 go_enter Try.func43, Try.ntmps43
 try go_wp2_with (first | ((with_reducible refine gate_dst (N := 2) rfl ?_); refine box_eventX ?hg (N := 2) ?hd (cs := #[.int .i64 a0_0, .int .i64 a0_1, .int .i64 a0_2, .int .i64 a0_3, .slice A0_4 l0_4.length c0_4]) (t := 30) ?hr ?_; (case hd => rfl); (case hg => rfl); (case hr => first | (go_simp; done) | (go_simp; rfl)); intro gb389 hg w6 hx_ hbox hb; replace GX := Aside0.mk (show Grw w w6 by rw [hx_]; exact grw_alloc GX.out _); clear hx_; have BK389 := Aside0.mk (hbox); have GW389 := Aside0.mk ((z1 : w.heap.size ≤ gb389)); have GE389 := Aside0.mk ((z1 : w.heap.size ≤ gb389)); replace HB := Aside0.mk (below_step (zHB) hb); clear hb hbox hg) | ((with_reducible refine gate_dst (N := 3) rfl ?_); refine box_eventX ?hg (N := 3) ?hd (cs := #[.int .i64 a1_0, .int .i64 a1_1, .int .i64 a1_2, .int .i64 a1_3, .slice A1_4 l1_4.length c1_4]) (t := 30) ?hr ?_; (case hd => rfl); (case hg => rfl); (case hr => first | (go_simp; done) | (go_simp; rfl)); intro gb390 hg w7 hx_ hbox hb; replace GX := Aside0.mk (show Grw w w7 by rw [hx_]; exact grw_alloc GX.out _); clear hx_; have BK390 := Aside0.mk (hbox); have GW390 := Aside0.mk ((z1 : w.heap.size ≤ gb390)); have GE390 := Aside0.mk ((z1 : w.heap.size ≤ gb390)); replace HB := Aside0.mk (below_step (zHB) hb); have NB389_390 := Aside0.mk ((by rw [hg]; exact Nat.ne_of_lt (blk_lt (g := gb389) (zK)) : gb389 ≠ gb390)); have NB390_389 := Aside0.mk ((by rw [hg]; exact Nat.ne_of_gt (blk_lt (g := gb389) (zK)) : gb390 ≠ gb389)); replace BK389 := Aside0.mk (blk_below (g := gb389) (zK) hb); clear hb hbox hg))
 replace BK389 := Aside0.mk (blk_drew BK389.out)
 replace BK390 := Aside0.mk (blk_drew BK390.out)
 replace HB := Aside0.mk (below_drew1 HB.out)
 replace GX := Aside0.mk (grw_drew GX.out)
 refine start_ (n := 13) (S := fun w' => w'.cell? ⟨gb389, 0, none⟩ = some (.int .i64 a0_0) ∧ w'.cell? ⟨gb389, 1, none⟩ = some (.int .i64 a0_1) ∧ w'.cell? ⟨gb389, 2, none⟩ = some (.int .i64 a0_2) ∧ w'.cell? ⟨gb389, 3, none⟩ = some (.int .i64 a0_3) ∧ w'.cell? ⟨gb389, 4, none⟩ = some (.slice A0_4 l0_4.length c0_4) ∧ w'.cell? ⟨gb390, 0, none⟩ = some (.int .i64 a1_0) ∧ w'.cell? ⟨gb390, 1, none⟩ = some (.int .i64 a1_1) ∧ w'.cell? ⟨gb390, 2, none⟩ = some (.int .i64 a1_2) ∧ w'.cell? ⟨gb390, 3, none⟩ = some (.int .i64 a1_3) ∧ w'.cell? ⟨gb390, 4, none⟩ = some (.slice A1_4 l1_4.length c1_4)) (ds := []) #[false, false, false, false, false, false, false, false, false, false, false, false, false] (by kernel_rfl) rfl rfl ⟨(blk_cell BK389.out 0).trans rfl, (blk_cell BK389.out 1).trans rfl, (blk_cell BK389.out 2).trans rfl, (blk_cell BK389.out 3).trans rfl, (blk_cell BK389.out 4).trans rfl, (blk_cell BK390.out 0).trans rfl, (blk_cell BK390.out 1).trans rfl, (blk_cell BK390.out 2).trans rfl, (blk_cell BK390.out 3).trans rfl, (blk_cell BK390.out 4).trans rfl⟩ (fun hHeld => ?_); refine with_tabW impl_cellOrder.tab1 impl_cellOrder.bits1 (fun HT_ HW_ => ?_)
 generalize w7.drew = w8 at BK389 BK390 HB GX hHeld ⊢
 refine pure_ (i := 0) (N := some 5) (v := ?_) (a' := ?_) #[true, false, false, false, false, false, false, false, false, false, false, false, false] rfl rfl (any_of HT_.out (by kernel_rfl)) (fun _ _ _ h => h) (Or.inl ⟨by rfl, ?_⟩) ?_ ?_
 rotate_left
 · intro w'
   go_simp
   with_reducible rfl
 rotate_left
 · simp only [Act.put, List.setIfInBounds_toArray, List.set_cons_zero, List.set_cons_succ, i64_w, i32_w]
   rfl
 refine pure_ (i := 2) (N := some 7) (v := ?_) (a' := ?_) #[true, false, true, false, false, false, false, false, false, false, false, false, false] rfl rfl (any_of HT_.out (by kernel_rfl)) (fun _ _ _ h => h) (Or.inl ⟨by rfl, ?_⟩) ?_ ?_
 rotate_left
 · intro w'
   go_simp
   with_reducible rfl
 rotate_left
 · simp only [Act.put, List.setIfInBounds_toArray, List.set_cons_zero, List.set_cons_succ, i64_w, i32_w]
   rfl
 refine pure_ (i := 5) (N := some 10) (v := ?_) (a' := ?_) #[true, false, true, false, false, true, false, false, false, false, false, false, false] rfl rfl (any_of HT_.out (by kernel_rfl)) (fun _ _ _ h => h) (Or.inl ⟨by rfl, ?_⟩) ?_ ?_
 rotate_left
 · intro w'
   go_simp
   with_reducible rfl
 rotate_left
 · simp only [Act.put, List.setIfInBounds_toArray, List.set_cons_zero, List.set_cons_succ, i64_w, i32_w]
   rfl
 refine pure_ (i := 7) (N := some 12) (v := ?_) (a' := ?_) #[true, false, true, false, false, true, false, true, false, false, false, false, false] rfl rfl (any_of HT_.out (by kernel_rfl)) (fun _ _ _ h => h) (Or.inl ⟨by rfl, ?_⟩) ?_ ?_
 rotate_left
 · intro w'
   go_simp
   with_reducible rfl
 rotate_left
 · simp only [Act.put, List.setIfInBounds_toArray, List.set_cons_zero, List.set_cons_succ, i64_w, i32_w]
   rfl
 refine take_ (i := 1) (N := some 6) (v := ?_) (a' := ?_) #[true, true, true, false, false, true, false, true, false, false, false, false, false] rfl rfl (take_ofW HT_.out HW_.out (by kernel_rfl)) (fun _ _ _ h => h) (Or.inl ⟨by rfl, ?_⟩) hHeld ?_ ?_
 rotate_left
 · rintro w' ⟨s0, s1, s2, s3, s4, s5, s6, s7, s8, s9⟩
   go_simp
   with_reducible rfl
 rotate_left
 · simp only [Act.put, List.setIfInBounds_toArray, List.set_cons_zero, List.set_cons_succ, i64_w, i32_w]
   rfl
 refine take_ (i := 3) (N := some 8) (v := ?_) (a' := ?_) #[true, true, true, true, false, true, false, true, false, false, false, false, false] rfl rfl (take_ofW HT_.out HW_.out (by kernel_rfl)) (fun _ _ _ h => h) (Or.inl ⟨by rfl, ?_⟩) hHeld ?_ ?_
 rotate_left
 · rintro w' ⟨s0, s1, s2, s3, s4, s5, s6, s7, s8, s9⟩
   go_simp
   with_reducible rfl
 rotate_left
 · simp only [Act.put, List.setIfInBounds_toArray, List.set_cons_zero, List.set_cons_succ, i64_w, i32_w]
   rfl
 refine take_ (i := 6) (N := some 11) (v := ?_) (a' := ?_) #[true, true, true, true, false, true, true, true, false, false, false, false, false] rfl rfl (take_ofW HT_.out HW_.out (by kernel_rfl)) (fun _ _ _ h => h) (Or.inl ⟨by rfl, ?_⟩) hHeld ?_ ?_
 rotate_left
 · rintro w' ⟨s0, s1, s2, s3, s4, s5, s6, s7, s8, s9⟩
   go_simp
   with_reducible rfl
 rotate_left
 · simp only [Act.put, List.setIfInBounds_toArray, List.set_cons_zero, List.set_cons_succ, i64_w, i32_w]
   rfl
 refine take_ (i := 8) (N := some 13) (v := ?_) (a' := ?_) #[true, true, true, true, false, true, true, true, true, false, false, false, false] rfl rfl (take_ofW HT_.out HW_.out (by kernel_rfl)) (fun _ _ _ h => h) (Or.inl ⟨by rfl, ?_⟩) hHeld ?_ ?_
 rotate_left
 · rintro w' ⟨s0, s1, s2, s3, s4, s5, s6, s7, s8, s9⟩
   go_simp
   with_reducible rfl
 rotate_left
 · simp only [Act.put, List.setIfInBounds_toArray, List.set_cons_zero, List.set_cons_succ, i64_w, i32_w]
   rfl
 refine one_ (i := 4) (N := some 9) #[true, true, true, true, true, true, true, true, true, false, false, false, false] rfl rfl (one_of HT_.out (by kernel_rfl)) (by decide) (fun K hK => ?_)
 refine goes_ Try.func60 (by kernel_rfl) rfl #[.int .i64 a0_0, .int .i64 a1_0] (by rfl) rfl rfl (z0) ?_
 with_reducible refine (cmp_Compare_int.calls a0_0 a1_0 t391 _ A3.out).mono ?_
 rintro e w' ⟨rfl, ⟨nd, rfl⟩⟩
 refine ⟨_, rfl, ?_⟩
 refine hK.out _ _ ⟨(blk_cell BK389.out 0).trans rfl, (blk_cell BK389.out 1).trans rfl, (blk_cell BK389.out 2).trans rfl, (blk_cell BK389.out 3).trans rfl, (blk_cell BK389.out 4).trans rfl, (blk_cell BK390.out 0).trans rfl, (blk_cell BK390.out 1).trans rfl, (blk_cell BK390.out 2).trans rfl, (blk_cell BK390.out 3).trans rfl, (blk_cell BK390.out 4).trans rfl⟩ (fun hHeld => ?_)
 clear hK K
 refine norm_ (a' := ?_) ?_ ?_
 rotate_left
 · show Act.put _ (some 9) _ = _
   simp only [Act.put, List.setIfInBounds_toArray, List.set_cons_zero, List.set_cons_succ, i64_w, i32_w]
   rfl
 refine one_ (i := 9) (N := some 14) #[true, true, true, true, true, true, true, true, true, true, false, false, false] rfl rfl (one_of HT_.out (by kernel_rfl)) (by decide) (fun K hK => ?_)
 refine goes_ Try.func60 (by kernel_rfl) rfl #[.int .i64 a0_1, .int .i64 a1_1] (by rfl) rfl rfl (z0) ?_
 with_reducible refine (cmp_Compare_int.calls a0_1 a1_1 t392 _ A4.out).mono ?_
 rintro e w' ⟨rfl, ⟨nd, rfl⟩⟩
 refine ⟨_, rfl, ?_⟩
 refine hK.out _ _ ⟨(blk_cell BK389.out 0).trans rfl, (blk_cell BK389.out 1).trans rfl, (blk_cell BK389.out 2).trans rfl, (blk_cell BK389.out 3).trans rfl, (blk_cell BK389.out 4).trans rfl, (blk_cell BK390.out 0).trans rfl, (blk_cell BK390.out 1).trans rfl, (blk_cell BK390.out 2).trans rfl, (blk_cell BK390.out 3).trans rfl, (blk_cell BK390.out 4).trans rfl⟩ (fun hHeld => ?_)
 clear hK K
 refine norm_ (a' := ?_) ?_ ?_
 rotate_left
 · show Act.put _ (some 14) _ = _
   simp only [Act.put, List.setIfInBounds_toArray, List.set_cons_zero, List.set_cons_succ, i64_w, i32_w]
   rfl
 refine one_ (i := 10) (N := some 15) #[true, true, true, true, true, true, true, true, true, true, true, false, false] rfl rfl (one_of HT_.out (by kernel_rfl)) (by decide) (fun K hK => ?_)
 refine R_lit_stepX (Kd.int .i64) _ 3 ?hg (N := 15) ?hd (xs := ([t391, t392] : List Int)) (inner := [.int .i64 t391, .int .i64 t392]) (ok := fun _ => True) (okp := fun _ => True) ?hr ?hp (fun _ hk => hk) trivial (Below.refl _ _) (Nat.le_refl _) (by simp) ?_; (case hd => rfl); (case hg => rfl); (case hr => first | (go_simp; done) | (go_simp; rfl)); (case hp => exact (Reps.one (show Kd.M (Kd.int .i64) _ _ _ t391 [.int .i64 t391] from rfl) (Reps.one (show Kd.M (Kd.int .i64) _ _ _ t392 [.int .i64 t392] from rfl) (Reps.none _ _))))
 intro v394 w9 hx_ ho10 hb hg_ hnew_
 replace GX := Aside0.mk (show Grw w w9 by rw [hx_]; repeat (first | exact GX.out | apply grw_alloc | apply grw_drewN | apply grw_drew))
 clear hx_
 clear hg_ hnew_
 (first | rw [← Ny393.out] at ho10 | (simp only [Int.reduceToNat] at ho10; rw [← Ny393.out] at ho10))
 have HO395 := Aside0.mk (Kd.R_lower ho10 (below_size (zHB)))
 replace BK389 := Aside0.mk (blk_below (g := gb389) (zK) hb)
 replace BK390 := Aside0.mk (blk_below (g := gb390) (zK) hb)
 replace HB := Aside0.mk (below_step (zHB) hb)
 clear hb ho10
 obtain ⟨Ao11, co11, eo11⟩ := Kd.R_slice HO395.out
 (first | subst eo11 | (injection eo11 with f1_ f2_ f3_; have f4_ := f1_.symm; have f5_ := f3_.symm; clear f1_ f2_ f3_; subst f4_; subst f5_))
 refine hK.out _ _ ⟨(blk_cell BK389.out 0).trans rfl, (blk_cell BK389.out 1).trans rfl, (blk_cell BK389.out 2).trans rfl, (blk_cell BK389.out 3).trans rfl, (blk_cell BK389.out 4).trans rfl, (blk_cell BK390.out 0).trans rfl, (blk_cell BK390.out 1).trans rfl, (blk_cell BK390.out 2).trans rfl, (blk_cell BK390.out 3).trans rfl, (blk_cell BK390.out 4).trans rfl⟩ (fun hHeld => ?_)
 clear hK K
 refine norm_ (a' := ?_) ?_ ?_
 rotate_left
 · show Act.put _ (some 15) _ = _
   simp only [Act.put, List.setIfInBounds_toArray, List.set_cons_zero, List.set_cons_succ, i64_w, i32_w]
   rfl
 refine one_ (i := 11) (N := some 16) #[true, true, true, true, true, true, true, true, true, true, true, true, false] rfl rfl (one_of HT_.out (by kernel_rfl)) (by decide) (fun K hK => ?_)
 refine goes_ Try.func59 (by kernel_rfl) rfl #[.slice Ao11 y393.length co11] (by rfl) rfl rfl (z0) ?_
 with_reducible refine (cmp_Or_int.calls k _ _ y393 t396 _ ?side1 ?side2 A5.out).mono ?_
 (case side1 => repeat (first | exact (Kd.R_reads' HO395.out).2.2 | (with_reducible refine Kd.C_alloc ?_ _) | (with_reducible refine Kd.C_drewN ?_ _) | (with_reducible refine Kd.C_drew ?_)))
 (case side2 => exact (Kd.R_reads' HO395.out).2.1)
 rintro e w' ⟨rfl, ⟨nd, rfl⟩⟩
 refine ⟨_, rfl, ?_⟩
 refine hK.out _ _ ⟨(blk_cell BK389.out 0).trans rfl, (blk_cell BK389.out 1).trans rfl, (blk_cell BK389.out 2).trans rfl, (blk_cell BK389.out 3).trans rfl, (blk_cell BK389.out 4).trans rfl, (blk_cell BK390.out 0).trans rfl, (blk_cell BK390.out 1).trans rfl, (blk_cell BK390.out 2).trans rfl, (blk_cell BK390.out 3).trans rfl, (blk_cell BK390.out 4).trans rfl⟩ (fun hHeld => ?_)
 clear hK K
 refine norm_ (a' := ?_) ?_ ?_
 rotate_left
 · show Act.put _ (some 16) _ = _
   simp only [Act.put, List.setIfInBounds_toArray, List.set_cons_zero, List.set_cons_succ, i64_w, i32_w]
   rfl
 refine pure_ (i := 12) (N := some 4) (v := ?_) (a' := ?_) #[true, true, true, true, true, true, true, true, true, true, true, true, true] rfl rfl (any_of HT_.out (by kernel_rfl)) (fun _ _ _ h => h) (Or.inl ⟨by rfl, ?_⟩) ?_ ?_
 rotate_left
 · intro w'
   go_simp
   with_reducible rfl
 rotate_left
 · simp only [Act.put, List.setIfInBounds_toArray, List.set_cons_zero, List.set_cons_succ, i64_w, i32_w]
   rfl
 refine done_ (done_of HT_.out (by kernel_rfl)) ?_
 try go_wp2
 go_ret
 exact ⟨by first | rfl | (simp [errW_none, errW_some] <;> rfl) | (simp [*, errW_none, errW_some] <;> rfl), by repeat (first | exact GX.out | apply grw_alloc | apply grw_drewN | apply grw_drew)⟩
end Go.Proofs.Ytljgbeccmcidkaa.P
