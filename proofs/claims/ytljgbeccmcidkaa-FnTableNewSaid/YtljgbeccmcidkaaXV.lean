/- What the Go functions named below compute, function by function: a plain Lean function with the same answers and the proof that a call comes to them. Conditions: the arguments read as told, the plain function answers. -/
import Derived.Test.YtljgbeccmcidkaaWEqStruct
import Derived.Test.YtljgbeccmcidkaaXA
namespace Go.Proofs.Ytljgbeccmcidkaa.P
open Go.RowKit Go.Proofs.YtljgbeccmcidkaaW.PrintWords Go.Proofs.YtljgbeccmcidkaaW.PrintLast Go.Proofs.YtljgbeccmcidkaaW.PrintMore
attribute [local go_sem] max2_int min2_int max_two min_two max_three min_three max_four min_four   -- for this text's walks alone
set_option linter.unusedVariables false
set_option linter.unusedSimpArgs false

theorem eqA61 (d : Nat) (w : World) (x0 y0 : Int) (x1 y1 : Int) (x2 y2 : Int) :
    (Op.equalIn (d + 2) 61 (.agg #[.int .u8 x0, .int .i64 x1, .int .i64 x2]) (.agg #[.int .u8 y0, .int .i64 y1, .int .i64 y2])).run Try.prog w = .ok (x0 == y0 && (x1 == y1 && (x2 == y2))) w := by
  refine eqA_of Try.underlying61 (by kernel_rfl) ?_
  refine eqf_cons (by rfl) (by go_simp; rfl) (by go_simp; rfl) (by go_simp) ?_
  refine eqf_cons (by rfl) (by go_simp; rfl) (by go_simp; rfl) (by go_simp) ?_
  exact eqf_last (by rfl) (by go_simp; rfl) (by go_simp; rfl) (by go_simp)

end Go.Proofs.Ytljgbeccmcidkaa.P
namespace Go.Proofs.Ytljgbeccmcidkaa.P
open Go.RowKit Go.Proofs.YtljgbeccmcidkaaW.PrintWords Go.Proofs.YtljgbeccmcidkaaW.PrintLast Go.Proofs.YtljgbeccmcidkaaW.PrintMore
attribute [local go_sem] max2_int min2_int max_two min_two max_three min_three max_four min_four   -- for this text's walks alone
set_option linter.unusedVariables false
set_option linter.unusedSimpArgs false

attribute [local go_sem ↓] isSome_setCell
attribute [local go_sem high] eqA61
/-! ### laws_lmSigns: function 27 -/
def laws_lmSigns.l0 : Nat → List (S61) → List (S61) → Int → Option (Bool)
  | 0, _, _, _ => none
  | k + 1, x0, x1, x5 => if x5 < (x0.length : Int) then (if 0 ≤ x5 then (if x5 < (x1.length : Int) then (if (!(((rd_T61 x0 x5).f0) == ((rd_T61 x1 x5).f0)) || (!(((rd_T61 x0 x5).f1) == ((rd_T61 x1 x5).f1)) || (!(((rd_T61 x0 x5).f2) == ((rd_T61 x1 x5).f2))))) = true then (some false) else (laws_lmSigns.l0 k x0 x1 (wrap64 (x5 + 1)))) else (none)) else (none)) else (some true)
def laws_lmSigns.f (k : Nat) (l0 : List (S61)) (l1 : List (S61)) : Option (Bool) := if (l0.length : Int) = (l1.length : Int) then (laws_lmSigns.l0 k l0 l1 0) else (some false)
theorem laws_lmSigns.mono_l : ∀ k, (∀ y0 y1 y2, LeO (laws_lmSigns.l0 k y0 y1 y2) (laws_lmSigns.l0 (k + 1) y0 y1 y2))
  | 0 => fun _ _ _ r h => by simp [laws_lmSigns.l0] at h
  | k + 1 => by
    have ih0 := laws_lmSigns.mono_l k
    · intro y0 y1 y2
      unfold laws_lmSigns.l0
      with_reducible repeat' first | exact ih0 _ _ _ | exact LeO.refl _ | exact LeO.none _ | refine LeO.ite ?_ ?_ | refine LeO.bind ?_ (fun _ => ?_)
theorem laws_lmSigns.mono : ∀ a0 a1 k, LeO (laws_lmSigns.f k a0 a1) (laws_lmSigns.f (k + 1) a0 a1) := by
  intro a0 a1 k
  have ih0 := laws_lmSigns.mono_l k
  unfold laws_lmSigns.f
  with_reducible repeat' first | exact ih0 _ _ _ | exact LeO.refl _ | exact LeO.none _ | refine LeO.ite ?_ ?_ | refine LeO.bind ?_ (fun _ => ?_)
theorem laws_lmSigns.z0 {p : Prop} (h : p := by first | (with_reducible assumption) | assumption) : p := h
theorem laws_lmSigns.z1 {p : Prop} (h : p := by repeat (first | exact Drawn0.refl _ | apply Drawn0.step)) : p := h
theorem laws_lmSigns.z2 {p : Prop} (h : p := by first | rfl | (simp; done) | (simp [*]; done)) : p := h
set_option maxHeartbeats 8000000 in
set_option maxRecDepth 100000 in
theorem laws_lmSigns.calls (k : Nat) (A0 : Option Addr) (c0 : Nat) (l0 : List (S61)) (A1 : Option Addr) (c1 : Nat) (l1 : List (S61)) (r : Bool) (w : World) (hr0 : Kd.C k61 w A0 l0.length l0) (hc0 : l0.length ≤ c0) (hr1 : Kd.C k61 w A1 l1.length l1) (hc1 : l1.length ≤ c1) (h : laws_lmSigns.f k l0 l1 = some r) :
    Calls Try.prog 27 #[.slice A0 l0.length c0, .slice A1 l1.length c1] w fun e w' => e = .returned (.bool r) ∧ Drawn0 w w' := by
 have hu61 := Try.underlying61
 have HR0 := Ax hr0
 have HC0 := Ax hc0
 clear hr0 hc0
 have HR1 := Ax hr1
 have HC1 := Ax hc1
 clear hr1 hc1
 have H : (if (l0.length : Int) = (l1.length : Int) then (laws_lmSigns.l0 k l0 l1 0) else (some false)) = some r := h
 clear h
 by_cases c3 : (l0.length : Int) = (l1.length : Int)
 rotate_left
 · rw [if_neg c3] at H
   have c3b0 : ((l0.length : Int) == (l1.length : Int)) = false := beq_eq_false_iff_ne.mpr c3
   have c3b1 : ((l0.length : Int) != (l1.length : Int)) = true := bne_iff_ne.mpr c3
   have c3b2 : (l0.length == l1.length) = false := by first | simpa using c3 | (simp at c3 ⊢; omega)
   obtain rfl := Option.some.inj H
   go_enter Try.func27, Try.ntmps27
   go_wp2
   repeat (go_quiet (fail); try go_wp2)
   go_ret
   exact ⟨z2, z1⟩
 rw [if_pos c3] at H
 have c3b0 : ((l0.length : Int) == (l1.length : Int)) = true := beq_iff_eq.mpr c3
 have c3b1 : ((l0.length : Int) != (l1.length : Int)) = false := bne_eq_false_iff_eq.mpr c3
 have c3b2 : (l0.length == l1.length) = true := by first | simpa using c3 | (simp at c3 ⊢; omega)
 clear c3
 have H' := Ax H
 clear H
 go_enter Try.func27, Try.ntmps27
 go_wp2
 repeat (go_quiet (fail); try go_wp2)
 go_loopg [5] k (fun kq v5 w' => ∃ (x5_1 : Int), v5 = .int .i64 x5_1 ∧ Aside0 (laws_lmSigns.l0 kq l0 l1 x5_1 = some r) ∧ Aside0 (kq ≤ k) ∧ Drawn0 w w')
 case atStart => exact ⟨(0), (z2), H', ⟨Nat.le_refl _⟩, z1⟩
 clear H'
 (try clear c3); (try clear c3b0); (try clear c3b1); (try clear c3b2)
 obtain ⟨x5_1, rfl, HA, HK1, ⟨m1, rfl⟩⟩ := hrel
 cases gk with
 | zero => exact absurd HA.out (by simp [laws_lmSigns.l0])
 | succ k1 =>
  have H := HA.out
  clear HA
  simp only [laws_lmSigns.l0] at H
  by_cases c4 : x5_1 < (l0.length : Int)
  rotate_left
  · rw [if_neg c4] at H
    have c4b0 := decide_eq_false c4
    clear c4
    obtain rfl := Option.some.inj H
    go_wp2
    repeat (go_quiet (fail); try go_wp2)
    go_ret
    exact ⟨z2, z1⟩
  rw [if_pos c4] at H
  have c4b0 := decide_eq_true c4
  clear c4
  by_cases c5 : 0 ≤ x5_1
  rotate_left
  · rw [if_neg c5] at H
    exact absurd H (by simp)
  rw [if_pos c5] at H
  have c5b0 := decide_eq_true c5
  clear c5
  by_cases c6 : x5_1 < (l1.length : Int)
  rotate_left
  · rw [if_neg c6] at H
    exact absurd H (by simp)
  rw [if_pos c6] at H
  have c6b0 := decide_eq_true c6
  clear c6
  by_cases c7 : (!(((rd_T61 l0 x5_1).f0) == ((rd_T61 l1 x5_1).f0)) || (!(((rd_T61 l0 x5_1).f1) == ((rd_T61 l1 x5_1).f1)) || (!(((rd_T61 l0 x5_1).f2) == ((rd_T61 l1 x5_1).f2))))) = true
  · rw [if_pos c7] at H
    have c7b0 : (!(((rd_T61 l0 x5_1).f0) == ((rd_T61 l1 x5_1).f0)) || (!(((rd_T61 l0 x5_1).f1) == ((rd_T61 l1 x5_1).f1)) || (!(((rd_T61 l0 x5_1).f2) == ((rd_T61 l1 x5_1).f2))))) = true := c7
    clear c7
    obtain rfl := Option.some.inj H
    have p493 : 0 ≤ (x5_1 : Int) := of_decide_eq_true (z0)
    have q493 : x5_1 < (l0.length : Int) := of_decide_eq_true (z0)
    obtain ⟨ad493, e493, hx493_0, hx493_1, hx493_2⟩ := at_T61 HR0.out x5_1 p493 q493
    cases e493
    replace p493 := eq_true p493
    replace q493 := eq_true q493
    have p494 : 0 ≤ (x5_1 : Int) := of_decide_eq_true (z0)
    have q494 : x5_1 < (l1.length : Int) := of_decide_eq_true (z0)
    obtain ⟨ad494, e494, hx494_0, hx494_1, hx494_2⟩ := at_T61 HR1.out x5_1 p494 q494
    cases e494
    replace p494 := eq_true p494
    replace q494 := eq_true q494
    go_wp2
    repeat (go_quiet (fail); try go_wp2)
    go_ret
    exact ⟨z2, z1⟩
  rw [if_neg c7] at H
  have c7b0 : (!(((rd_T61 l0 x5_1).f0) == ((rd_T61 l1 x5_1).f0)) || (!(((rd_T61 l0 x5_1).f1) == ((rd_T61 l1 x5_1).f1)) || (!(((rd_T61 l0 x5_1).f2) == ((rd_T61 l1 x5_1).f2))))) = false := by simpa using c7
  clear c7
  have H' := Ax H
  clear H
  have p493 : 0 ≤ (x5_1 : Int) := of_decide_eq_true (z0)
  have q493 : x5_1 < (l0.length : Int) := of_decide_eq_true (z0)
  obtain ⟨ad493, e493, hx493_0, hx493_1, hx493_2⟩ := at_T61 HR0.out x5_1 p493 q493
  cases e493
  replace p493 := eq_true p493
  replace q493 := eq_true q493
  have p494 : 0 ≤ (x5_1 : Int) := of_decide_eq_true (z0)
  have q494 : x5_1 < (l1.length : Int) := of_decide_eq_true (z0)
  obtain ⟨ad494, e494, hx494_0, hx494_1, hx494_2⟩ := at_T61 HR1.out x5_1 p494 q494
  cases e494
  replace p494 := eq_true p494
  replace q494 := eq_true q494
  go_wp2
  repeat (go_quiet (fail); try go_wp2)
  go_roundg k1
  case measure => have := HK1.out; omega
  exact ⟨(wrap64 (x5_1 + 1)), (z2), H', ⟨by have := HK1.out; omega⟩, z1⟩
end Go.Proofs.Ytljgbeccmcidkaa.P
namespace Go.Proofs.Ytljgbeccmcidkaa.P
open Go.RowKit Go.Proofs.YtljgbeccmcidkaaW.PrintWords Go.Proofs.YtljgbeccmcidkaaW.PrintLast Go.Proofs.YtljgbeccmcidkaaW.PrintMore
attribute [local go_sem] max2_int min2_int max_two min_two max_three min_three max_four min_four   -- for this text's walks alone
set_option linter.unusedVariables false
set_option linter.unusedSimpArgs false

attribute [local go_sem ↓] isSome_setCell
/-! ### laws_lmTable: function 22 -/
mutual
def laws_lmTable.j0 : Nat → Bool → Int → Int → List (S30) → Int → Int → List (S30) → Option (Bool)
  | 0, _, _, _, _, _, _, _ => none
  | k + 1, x28, x496000, x496001, x496002, x497000, x497001, x497002 => if x28 = true then (some false) else (laws_lmTable.l0 k 0 x496000 x496001 x496002 x497000 x497001 x497002)
def laws_lmTable.l0 : Nat → Int → Int → Int → List (S30) → Int → Int → List (S30) → Option (Bool)
  | 0, _, _, _, _, _, _, _ => none
  | k + 1, x5, x496000, x496001, x496002, x497000, x497001, x497002 => if x5 < (x496002.length : Int) then (if 0 ≤ x5 then (if x5 < (x497002.length : Int) then (if ((rd_T30 x496002 x5).f0) = ((rd_T30 x497002 x5).f0) then (if ((rd_T30 x496002 x5).f1) = ((rd_T30 x497002 x5).f1) then (if ((rd_T30 x496002 x5).f2) = ((rd_T30 x497002 x5).f2) then (if ((rd_T30 x496002 x5).f3) = ((rd_T30 x497002 x5).f3) then ((laws_lmSigns.f k ((rd_T30 x496002 x5).f4) ((rd_T30 x497002 x5).f4)).bind fun t501 => (laws_lmTable.j2 k x5 (!t501) x496000 x496001 x496002 x497000 x497001 x497002)) else (laws_lmTable.j2 k x5 true x496000 x496001 x496002 x497000 x497001 x497002)) else (laws_lmTable.j2 k x5 true x496000 x496001 x496002 x497000 x497001 x497002)) else (laws_lmTable.j2 k x5 true x496000 x496001 x496002 x497000 x497001 x497002)) else (laws_lmTable.j2 k x5 true x496000 x496001 x496002 x497000 x497001 x497002)) else (none)) else (none)) else (some true)
def laws_lmTable.j2 : Nat → Int → Bool → Int → Int → List (S30) → Int → Int → List (S30) → Option (Bool)
  | 0, _, _, _, _, _, _, _, _ => none
  | k + 1, x5, x79, x496000, x496001, x496002, x497000, x497001, x497002 => if x79 = true then (some false) else (laws_lmTable.l0 k (wrap64 (x5 + 1)) x496000 x496001 x496002 x497000 x497001 x497002)
end
def laws_lmTable.f (k : Nat) (a0_0 : Int) (a0_1 : Int) (l0_2 : List (S30)) (a1_0 : Int) (a1_1 : Int) (l1_2 : List (S30)) : Option (Bool) := if a0_0 = a1_0 then (if a0_1 = a1_1 then (laws_lmTable.j0 k ((l0_2.length : Int) != (l1_2.length : Int)) a0_0 a0_1 l0_2 a1_0 a1_1 l1_2) else (laws_lmTable.j0 k true a0_0 a0_1 l0_2 a1_0 a1_1 l1_2)) else (laws_lmTable.j0 k true a0_0 a0_1 l0_2 a1_0 a1_1 l1_2)
theorem laws_lmTable.mono_l : ∀ k, (∀ y0 y1 y2 y3 y4 y5 y6, LeO (laws_lmTable.j0 k y0 y1 y2 y3 y4 y5 y6) (laws_lmTable.j0 (k + 1) y0 y1 y2 y3 y4 y5 y6)) ∧ (∀ y0 y1 y2 y3 y4 y5 y6, LeO (laws_lmTable.l0 k y0 y1 y2 y3 y4 y5 y6) (laws_lmTable.l0 (k + 1) y0 y1 y2 y3 y4 y5 y6)) ∧ (∀ y0 y1 y2 y3 y4 y5 y6 y7, LeO (laws_lmTable.j2 k y0 y1 y2 y3 y4 y5 y6 y7) (laws_lmTable.j2 (k + 1) y0 y1 y2 y3 y4 y5 y6 y7))
  | 0 => by refine ⟨?_, ?_, ?_⟩ <;> intros <;> intro r h <;> simp [laws_lmTable.j0, laws_lmTable.l0, laws_lmTable.j2] at h
  | k + 1 => by
    obtain ⟨ih0, ih1, ih2⟩ := laws_lmTable.mono_l k
    refine ⟨?_, ?_, ?_⟩ <;> intros <;> (first | unfold laws_lmTable.j0 | unfold laws_lmTable.l0 | unfold laws_lmTable.j2) <;> with_reducible repeat' first | exact ih0 _ _ _ _ _ _ _ | exact ih1 _ _ _ _ _ _ _ | exact ih2 _ _ _ _ _ _ _ _ | exact laws_lmSigns.mono _ _ _ | exact LeO.refl _ | exact LeO.none _ | refine LeO.ite ?_ ?_ | refine LeO.bind ?_ (fun _ => ?_)
theorem laws_lmTable.mono : ∀ a0 a1 a2 a3 a4 a5 k, LeO (laws_lmTable.f k a0 a1 a2 a3 a4 a5) (laws_lmTable.f (k + 1) a0 a1 a2 a3 a4 a5) := by
  intro a0 a1 a2 a3 a4 a5 k
  obtain ⟨ih0, ih1, ih2⟩ := laws_lmTable.mono_l k
  unfold laws_lmTable.f
  with_reducible repeat' first | exact ih0 _ _ _ _ _ _ _ | exact ih1 _ _ _ _ _ _ _ | exact ih2 _ _ _ _ _ _ _ _ | exact laws_lmSigns.mono _ _ _ | exact LeO.refl _ | exact LeO.none _ | refine LeO.ite ?_ ?_ | refine LeO.bind ?_ (fun _ => ?_)
theorem laws_lmTable.zHB {p : Prop} (h : p := by repeat (first | (with_reducible first | exact HB.out | apply below_alloc | apply pw_below_drewN | apply below_drew1 | refine below_set ?_ GE495.out | refine below_set ?_ GE496.out | refine below_set ?_ GE498.out | refine below_set ?_ GE500.out) | exact HB.out)) : p := h
theorem laws_lmTable.zK {p : Prop} (h : p := by repeat' first | (with_reducible first | exact BK495.out | exact BK496.out | exact BK498.out | exact BK500.out | apply blk_drewN | apply blk_drew | apply blk_alloc | apply blk_far (hp := NB495_498.out) | apply blk_far (hp := NB496_498.out) | apply blk_far (hp := NB495_500.out) | apply blk_far (hp := NB496_500.out) | apply blk_far (hp := NB498_500.out) | apply blk_putE) | exact (rfl : List.set _ _ _ = _)) : p := h
theorem laws_lmTable.z0 {p : Prop} (h : p := by first | (rw [add_block]; exact hn499_0) | (show (Addr.add _ _).block ≠ _; rw [add_block]; exact hn499_0) | exact hn499_0) : p := h
theorem laws_lmTable.z1 {p : Prop} (h : p := by first | (rw [add_block]; exact hn499_1) | (show (Addr.add _ _).block ≠ _; rw [add_block]; exact hn499_1) | exact hn499_1) : p := h
theorem laws_lmTable.z2 {p : Prop} (h : p := by first | (rw [add_block]; exact hn499_2) | (show (Addr.add _ _).block ≠ _; rw [add_block]; exact hn499_2) | exact hn499_2) : p := h
theorem laws_lmTable.z3 {p : Prop} (h : p := by first | (rw [add_block]; exact hn499_3) | (show (Addr.add _ _).block ≠ _; rw [add_block]; exact hn499_3) | exact hn499_3) : p := h
theorem laws_lmTable.z4 {p : Prop} (h : p := by first | (rw [add_block]; exact hn499_4) | (show (Addr.add _ _).block ≠ _; rw [add_block]; exact hn499_4) | exact hn499_4) : p := h
theorem laws_lmTable.z5 {p : Prop} (h : p := by first | rfl | (simp; done) | (simp [*]; done)) : p := h
theorem laws_lmTable.z6 {p : Prop} (h : p := by have := HJ2.out; have := HK2.out; first | omega | exact Nat.le_refl _) : p := h
theorem laws_lmTable.z7 {p : Prop} (h : p := by rw [hg]; exact (below_size (zHB))) : p := h
theorem laws_lmTable.z8 {p : Prop} (h : p := by first | rfl | (simp [errW_none, errW_some] <;> rfl) | (simp [*, errW_none, errW_some] <;> rfl)) : p := h
theorem laws_lmTable.z9 {p : Prop} (h : p := by first | (with_reducible assumption) | assumption) : p := h
theorem laws_lmTable.z10 {p : Prop} (h : p := by rw [hg]; exact Nat.ne_of_lt (blk_lt (g := gb495) (zK))) : p := h
theorem laws_lmTable.z11 {p : Prop} (h : p := by rw [hg]; exact Nat.ne_of_gt (blk_lt (g := gb495) (zK))) : p := h
theorem laws_lmTable.z12 {p : Prop} (h : p := by first | omega | exact Nat.le_refl _) : p := h
set_option maxHeartbeats 8000000 in
set_option maxRecDepth 100000 in
theorem laws_lmTable.calls (k : Nat) (a0_0 : Int) (a0_1 : Int) (A0_2 : Option Addr) (c0_2 : Nat) (l0_2 : List (S30)) (a1_0 : Int) (a1_1 : Int) (A1_2 : Option Addr) (c1_2 : Nat) (l1_2 : List (S30)) (r : Bool) (w : World) (hr0_2 : Kd.C k30 w A0_2 l0_2.length l0_2) (hc0_2 : l0_2.length ≤ c0_2) (hr1_2 : Kd.C k30 w A1_2 l1_2.length l1_2) (hc1_2 : l1_2.length ≤ c1_2) (h : laws_lmTable.f k a0_0 a0_1 l0_2 a1_0 a1_1 l1_2 = some r) :
    Calls Try.prog 22 #[.agg #[.int .i64 a0_0, .int .i64 a0_1, .slice A0_2 l0_2.length c0_2], .agg #[.int .i64 a1_0, .int .i64 a1_1, .slice A1_2 l1_2.length c1_2]] w fun e w' => e = .returned (.bool r) ∧ Below w.heap.size w w' := by
 have hu25 := Try.underlying25
 have hu30 := Try.underlying30
 have HR0_2 := Ax hr0_2
 have HC0_2 := Ax hc0_2
 clear hr0_2 hc0_2
 have HR1_2 := Ax hr1_2
 have HC1_2 := Ax hc1_2
 clear hr1_2 hc1_2
 have HB := Ax (Below.refl w.heap.size w)
 have H : (if a0_0 = a1_0 then (if a0_1 = a1_1 then (laws_lmTable.j0 k ((l0_2.length : Int) != (l1_2.length : Int)) a0_0 a0_1 l0_2 a1_0 a1_1 l1_2) else (laws_lmTable.j0 k true a0_0 a0_1 l0_2 a1_0 a1_1 l1_2)) else (laws_lmTable.j0 k true a0_0 a0_1 l0_2 a1_0 a1_1 l1_2)) = some r := h
 clear h
 have HC3 := Ax H
 clear H
 go_enter Try.func22, Try.ntmps22
 go_upto_region 1 with (first | ((with_reducible refine gate_dst (N := 2) rfl ?_); (try (refine gate_guard (by rfl) ?_; dsimp only)); refine box_event ?hg (N := 2) ?hd (cs := #[.int .i64 a0_0, .int .i64 a0_1, .slice A0_2 l0_2.length c0_2]) (t := 25) ?hr ?_; (case hd => rfl); (case hg => rfl); (case hr => first | (go_simp; done) | (go_simp; rfl)); intro gb495 hg w4 hbox hb; have BK495 := Ax (hbox); have GW495 := Ax ((z7 : w.heap.size ≤ gb495)); have GE495 := Ax ((z7 : w.heap.size ≤ gb495)); replace HB := Ax (below_step (zHB) hb); clear hb hbox hg) | ((with_reducible refine gate_dst (N := 3) rfl ?_); (try (refine gate_guard (by rfl) ?_; dsimp only)); refine box_event ?hg (N := 3) ?hd (cs := #[.int .i64 a1_0, .int .i64 a1_1, .slice A1_2 l1_2.length c1_2]) (t := 25) ?hr ?_; (case hd => rfl); (case hg => rfl); (case hr => first | (go_simp; done) | (go_simp; rfl)); intro gb496 hg w5 hbox hb; have BK496 := Ax (hbox); have GW496 := Ax ((z7 : w.heap.size ≤ gb496)); have GE496 := Ax ((z7 : w.heap.size ≤ gb496)); replace HB := Ax (below_step (zHB) hb); have NB495_496 := Ax ((z10 : gb495 ≠ gb496)); have NB496_495 := Ax ((z11 : gb496 ≠ gb495)); replace BK495 := Ax (blk_below (g := gb495) (zK) hb); clear hb hbox hg))
 (try simp only [Act.put, List.setIfInBounds_toArray, List.set_cons_zero, List.set_cons_succ])
 go_cut [28] (fun v28 wc => ∃ (kq : Nat) (x28_2 : Bool), v28 = .bool x28_2 ∧ Aside0 (laws_lmTable.j0 kq x28_2 a0_0 a0_1 l0_2 a1_0 a1_1 l1_2 = some r) ∧ Aside0 (kq ≤ k) ∧ Aside0 (wc.heap[gb495]? = some (.cells #[.int .i64 a0_0, .int .i64 a0_1, (.slice A0_2 l0_2.length c0_2)] 25 (0, 0))) ∧ Aside0 (wc.heap[gb496]? = some (.cells #[.int .i64 a1_0, .int .i64 a1_1, (.slice A1_2 l1_2.length c1_2)] 25 (0, 0))) ∧ Aside0 (Below w.heap.size w wc))
 case first =>
  have H := HC3.out
  clear HC3
  by_cases c6 : a0_0 = a1_0
  rotate_left
  · rw [if_neg c6] at H
    have c6b0 : (a0_0 == a1_0) = false := beq_eq_false_iff_ne.mpr c6
    have c6b1 : (a0_0 != a1_0) = true := bne_iff_ne.mpr c6
    (first | rw [c6b0] | (simp only [i64_w, i32_w]; rw [c6b0]) | skip)
    have H' := Ax H
    clear H
    have hnb14 := NB495_496.out
    have hnc14 := NB496_495.out
    obtain ⟨_, _, _, _, _, _⟩ := cells3 BK495.out
    obtain ⟨_, _, _, _, _, _⟩ := cells3 BK496.out
    go_wp2
    go_meet
    exact ⟨_, (true), (z5), H', ⟨z12⟩, ⟨zK⟩, ⟨zK⟩, ⟨zHB⟩⟩
  rw [if_pos c6] at H
  have c6b0 : (a0_0 == a1_0) = true := beq_iff_eq.mpr c6
  have c6b1 : (a0_0 != a1_0) = false := bne_eq_false_iff_eq.mpr c6
  clear c6
  (first | rw [c6b0] | (simp only [i64_w, i32_w]; rw [c6b0]) | skip)
  by_cases c7 : a0_1 = a1_1
  · rw [if_pos c7] at H
    have c7b0 : (a0_1 == a1_1) = true := beq_iff_eq.mpr c7
    have c7b1 : (a0_1 != a1_1) = false := bne_eq_false_iff_eq.mpr c7
    clear c7
    have H' := Ax H
    clear H
    have hnb8 := NB495_496.out
    have hnc8 := NB496_495.out
    obtain ⟨_, _, _, _, _, _⟩ := cells3 BK495.out
    obtain ⟨_, _, _, _, _, _⟩ := cells3 BK496.out
    go_wp2
    go_meet
    exact ⟨_, (((l0_2.length : Int) != (l1_2.length : Int))), (z5), H', ⟨z12⟩, ⟨zK⟩, ⟨zK⟩, ⟨zHB⟩⟩
  rw [if_neg c7] at H
  have c7b0 : (a0_1 == a1_1) = false := beq_eq_false_iff_ne.mpr c7
  have c7b1 : (a0_1 != a1_1) = true := bne_iff_ne.mpr c7
  have H' := Ax H
  clear H
  have hnb11 := NB495_496.out
  have hnc11 := NB496_495.out
  obtain ⟨_, _, _, _, _, _⟩ := cells3 BK495.out
  obtain ⟨_, _, _, _, _, _⟩ := cells3 BK496.out
  go_wp2
  go_meet
  exact ⟨_, (true), (z5), H', ⟨z12⟩, ⟨zK⟩, ⟨zK⟩, ⟨zHB⟩⟩
 clear HC3
 obtain ⟨kq, x28_2, rfl, HA, HJ2, BK495, BK496, HB⟩ := hcut
 cases kq with
 | zero => exact absurd HA.out (by simp [laws_lmTable.j0])
 | succ kj2 =>
  have H := HA.out
  clear HA
  simp only [laws_lmTable.j0] at H
  obtain rfl | rfl := tf x28_2
  · rw [if_pos rfl] at H
    obtain rfl := Option.some.inj H
    go_wp2
    go_ret
    exact ⟨z8, zHB⟩
  rw [if_neg Bool.false_ne_true] at H
  have H' := Ax H
  clear H
  go_wp2
  go_loopg [5] kj2 (fun kq v5 w' => ∃ (x5_2 : Int), v5 = .int .i64 x5_2 ∧ Aside0 (laws_lmTable.l0 kq x5_2 a0_0 a0_1 l0_2 a1_0 a1_1 l1_2 = some r) ∧ Aside0 (kq ≤ kj2) ∧ Aside0 (w'.heap[gb495]? = some (.cells #[.int .i64 a0_0, .int .i64 a0_1, (.slice A0_2 l0_2.length c0_2)] 25 (0, 0))) ∧ Aside0 (w'.heap[gb496]? = some (.cells #[.int .i64 a1_0, .int .i64 a1_1, (.slice A1_2 l1_2.length c1_2)] 25 (0, 0))) ∧ Aside0 (Below w.heap.size w w'))
  case atStart => exact ⟨(0), (z5), H', ⟨Nat.le_refl _⟩, ⟨zK⟩, ⟨zK⟩, ⟨zHB⟩⟩
  clear H'
  obtain ⟨x5_2, rfl, HA, HK2, BK495, BK496, HB⟩ := hrel
  cases gk with
  | zero => exact absurd HA.out (by simp [laws_lmTable.l0])
  | succ k2 =>
   have H := HA.out
   clear HA
   simp only [laws_lmTable.l0] at H
   by_cases c18 : x5_2 < (l0_2.length : Int)
   rotate_left
   · rw [if_neg c18] at H
     have c18b0 := decide_eq_false c18
     clear c18
     obtain rfl := Option.some.inj H
     have hnb75 := NB495_496.out
     have hnc75 := NB496_495.out
     obtain ⟨_, _, _, _, _, _⟩ := cells3 BK495.out
     go_wp2
     go_ret
     exact ⟨z8, zHB⟩
   rw [if_pos c18] at H
   have c18b0 := decide_eq_true c18
   clear c18
   by_cases c19 : 0 ≤ x5_2
   rotate_left
   · rw [if_neg c19] at H
     exact absurd H (by simp)
   rw [if_pos c19] at H
   have c19b0 := decide_eq_true c19
   clear c19
   by_cases c20 : x5_2 < (l1_2.length : Int)
   rotate_left
   · rw [if_neg c20] at H
     exact absurd H (by simp)
   rw [if_pos c20] at H
   have c20b0 := decide_eq_true c20
   clear c20
   have HC21 := Ax H
   clear H
   have hnb22 := NB495_496.out
   have hnc22 := NB496_495.out
   obtain ⟨hcz23_0, hcz23_1, hcz23_2, hfz23_0, hfz23_1, hfz23_2⟩ := cells3 BK495.out
   have p497 : 0 ≤ (x5_2 : Int) := of_decide_eq_true (z9)
   have q497 : x5_2 < (l0_2.length : Int) := of_decide_eq_true (z9)
   obtain ⟨ad497, A497_4, c497_4, e497, hx497_0, hx497_1, hx497_2, hx497_3, hx497_4, hl497_4, hi497_4⟩ := at_T30 HR0_2.out x5_2 p497 q497
   cases e497
   replace hx497_0 := (HB.out.cell (World.block_lt_of_cell? w _ hx497_0)).trans hx497_0
   replace hx497_1 := (HB.out.cell (World.block_lt_of_cell? w _ hx497_1)).trans hx497_1
   replace hx497_2 := (HB.out.cell (World.block_lt_of_cell? w _ hx497_2)).trans hx497_2
   replace hx497_3 := (HB.out.cell (World.block_lt_of_cell? w _ hx497_3)).trans hx497_3
   replace hx497_4 := (HB.out.cell (World.block_lt_of_cell? w _ hx497_4)).trans hx497_4
   have HR497_4 := Ax hi497_4
   have HC497_4 := Ax hl497_4
   clear hi497_4 hl497_4
   replace p497 := eq_true p497
   replace q497 := eq_true q497
   go_upto_region 8 with (first | ((with_reducible refine gate_dst (N := 6) rfl ?_); (try (refine gate_guard (by rfl) ?_; dsimp only)); refine box_event ?hg (N := 6) ?hd (cs := #[.int .i64 0, .int .i64 0, .int .i64 0, .int .i64 0, .slice none 0 0]) (t := 30) ?hr ?_; (case hd => rfl); (case hg => rfl); (case hr => first | (go_simp; done) | (go_simp; rfl)); intro gb498 hg w24 hbox hb; have BK498 := Ax (hbox); have GW498 := Ax ((z7 : w.heap.size ≤ gb498)); have GE498 := Ax ((z7 : w.heap.size ≤ gb498)); replace HB := Ax (below_step (zHB) hb); have NB495_498 := Ax ((z10 : gb495 ≠ gb498)); have NB498_495 := Ax ((z11 : gb498 ≠ gb495)); replace BK495 := Ax (blk_below (g := gb495) (zK) hb); have NB496_498 := Ax ((by rw [hg]; exact Nat.ne_of_lt (blk_lt (g := gb496) (zK)) : gb496 ≠ gb498)); have NB498_496 := Ax ((by rw [hg]; exact Nat.ne_of_gt (blk_lt (g := gb496) (zK)) : gb498 ≠ gb496)); replace BK496 := Ax (blk_below (g := gb496) (zK) hb); clear hb hbox hg; have hnb25 := NB498_495.out; have hnc25 := NB495_498.out; have hnb26 := NB498_496.out; have hnc26 := NB496_498.out; obtain ⟨hcz27_0, hcz27_1, hcz27_2, hcz27_3, hcz27_4, hfz27_0, hfz27_1, hfz27_2, hfz27_3, hfz27_4⟩ := cells5 BK498.out; obtain ⟨hcz28_0, hcz28_1, hcz28_2, hfz28_0, hfz28_1, hfz28_2⟩ := cells3 BK496.out; have p499 : 0 ≤ (x5_2 : Int) := of_decide_eq_true (z9); have q499 : x5_2 < (l1_2.length : Int) := of_decide_eq_true (z9); obtain ⟨ad499, A499_4, c499_4, e499, hx499_0, hx499_1, hx499_2, hx499_3, hx499_4, hl499_4, hi499_4⟩ := at_T30 HR1_2.out x5_2 p499 q499; cases e499; have hn499_0 : ad499.block ≠ gb498 := Nat.ne_of_lt (Nat.lt_of_lt_of_le (by have := World.block_lt_of_cell? _ _ hx499_0; first | rwa [add_block] at this | exact this) GW498.out); have hn499_1 : ad499.block ≠ gb498 := Nat.ne_of_lt (Nat.lt_of_lt_of_le (by have := World.block_lt_of_cell? _ _ hx499_0; first | rwa [add_block] at this | exact this) GW498.out); have hn499_2 : ad499.block ≠ gb498 := Nat.ne_of_lt (Nat.lt_of_lt_of_le (by have := World.block_lt_of_cell? _ _ hx499_0; first | rwa [add_block] at this | exact this) GW498.out); have hn499_3 : ad499.block ≠ gb498 := Nat.ne_of_lt (Nat.lt_of_lt_of_le (by have := World.block_lt_of_cell? _ _ hx499_0; first | rwa [add_block] at this | exact this) GW498.out); have hn499_4 : ad499.block ≠ gb498 := Nat.ne_of_lt (Nat.lt_of_lt_of_le (by have := World.block_lt_of_cell? _ _ hx499_0; first | rwa [add_block] at this | exact this) GW498.out); replace hx499_0 := (HB.out.cell (World.block_lt_of_cell? w _ hx499_0)).trans hx499_0; replace hx499_1 := (HB.out.cell (World.block_lt_of_cell? w _ hx499_1)).trans hx499_1; replace hx499_2 := (HB.out.cell (World.block_lt_of_cell? w _ hx499_2)).trans hx499_2; replace hx499_3 := (HB.out.cell (World.block_lt_of_cell? w _ hx499_3)).trans hx499_3; replace hx499_4 := (HB.out.cell (World.block_lt_of_cell? w _ hx499_4)).trans hx499_4; have HR499_4 := Ax hi499_4; have HC499_4 := Ax hl499_4; clear hi499_4 hl499_4; replace hx499_0 := (cell_far (p := ⟨gb498, 0, none⟩) (z0) (.int .i64 ((rd_T30 l0_2 x5_2).f0))).trans hx499_0; replace hx499_1 := (cell_far (p := ⟨gb498, 0, none⟩) (z0) (.int .i64 ((rd_T30 l0_2 x5_2).f0))).trans hx499_1; replace hx499_2 := (cell_far (p := ⟨gb498, 0, none⟩) (z0) (.int .i64 ((rd_T30 l0_2 x5_2).f0))).trans hx499_2; replace hx499_3 := (cell_far (p := ⟨gb498, 0, none⟩) (z0) (.int .i64 ((rd_T30 l0_2 x5_2).f0))).trans hx499_3; replace hx499_4 := (cell_far (p := ⟨gb498, 0, none⟩) (z0) (.int .i64 ((rd_T30 l0_2 x5_2).f0))).trans hx499_4; replace hx499_0 := (cell_far (p := ⟨gb498, 1, none⟩) (z1) (.int .i64 ((rd_T30 l0_2 x5_2).f1))).trans hx499_0; replace hx499_1 := (cell_far (p := ⟨gb498, 1, none⟩) (z1) (.int .i64 ((rd_T30 l0_2 x5_2).f1))).trans hx499_1; replace hx499_2 := (cell_far (p := ⟨gb498, 1, none⟩) (z1) (.int .i64 ((rd_T30 l0_2 x5_2).f1))).trans hx499_2; replace hx499_3 := (cell_far (p := ⟨gb498, 1, none⟩) (z1) (.int .i64 ((rd_T30 l0_2 x5_2).f1))).trans hx499_3; replace hx499_4 := (cell_far (p := ⟨gb498, 1, none⟩) (z1) (.int .i64 ((rd_T30 l0_2 x5_2).f1))).trans hx499_4; replace hx499_0 := (cell_far (p := ⟨gb498, 2, none⟩) (z2) (.int .i64 ((rd_T30 l0_2 x5_2).f2))).trans hx499_0; replace hx499_1 := (cell_far (p := ⟨gb498, 2, none⟩) (z2) (.int .i64 ((rd_T30 l0_2 x5_2).f2))).trans hx499_1; replace hx499_2 := (cell_far (p := ⟨gb498, 2, none⟩) (z2) (.int .i64 ((rd_T30 l0_2 x5_2).f2))).trans hx499_2; replace hx499_3 := (cell_far (p := ⟨gb498, 2, none⟩) (z2) (.int .i64 ((rd_T30 l0_2 x5_2).f2))).trans hx499_3; replace hx499_4 := (cell_far (p := ⟨gb498, 2, none⟩) (z2) (.int .i64 ((rd_T30 l0_2 x5_2).f2))).trans hx499_4; replace hx499_0 := (cell_far (p := ⟨gb498, 3, none⟩) (z3) (.int .i64 ((rd_T30 l0_2 x5_2).f3))).trans hx499_0; replace hx499_1 := (cell_far (p := ⟨gb498, 3, none⟩) (z3) (.int .i64 ((rd_T30 l0_2 x5_2).f3))).trans hx499_1; replace hx499_2 := (cell_far (p := ⟨gb498, 3, none⟩) (z3) (.int .i64 ((rd_T30 l0_2 x5_2).f3))).trans hx499_2; replace hx499_3 := (cell_far (p := ⟨gb498, 3, none⟩) (z3) (.int .i64 ((rd_T30 l0_2 x5_2).f3))).trans hx499_3; replace hx499_4 := (cell_far (p := ⟨gb498, 3, none⟩) (z3) (.int .i64 ((rd_T30 l0_2 x5_2).f3))).trans hx499_4; replace hx499_0 := (cell_far (p := ⟨gb498, 4, none⟩) (z4) (.slice A497_4 ((rd_T30 l0_2 x5_2).f4).length c497_4)).trans hx499_0; replace hx499_1 := (cell_far (p := ⟨gb498, 4, none⟩) (z4) (.slice A497_4 ((rd_T30 l0_2 x5_2).f4).length c497_4)).trans hx499_1; replace hx499_2 := (cell_far (p := ⟨gb498, 4, none⟩) (z4) (.slice A497_4 ((rd_T30 l0_2 x5_2).f4).length c497_4)).trans hx499_2; replace hx499_3 := (cell_far (p := ⟨gb498, 4, none⟩) (z4) (.slice A497_4 ((rd_T30 l0_2 x5_2).f4).length c497_4)).trans hx499_3; replace hx499_4 := (cell_far (p := ⟨gb498, 4, none⟩) (z4) (.slice A497_4 ((rd_T30 l0_2 x5_2).f4).length c497_4)).trans hx499_4; clear hn499_0; clear hn499_1; clear hn499_2; clear hn499_3; clear hn499_4; replace p499 := eq_true p499; replace q499 := eq_true q499) | ((with_reducible refine gate_dst (N := 7) rfl ?_); (try (refine gate_guard (by rfl) ?_; dsimp only)); refine box_event ?hg (N := 7) ?hd (cs := #[.int .i64 0, .int .i64 0, .int .i64 0, .int .i64 0, .slice none 0 0]) (t := 30) ?hr ?_; (case hd => rfl); (case hg => rfl); (case hr => first | (go_simp; done) | (go_simp; rfl)); intro gb500 hg w29 hbox hb; have BK500 := Ax (hbox); have GW500 := Ax ((z7 : w.heap.size ≤ gb500)); have GE500 := Ax ((z7 : w.heap.size ≤ gb500)); replace HB := Ax (below_step (zHB) hb); have NB495_500 := Ax ((z10 : gb495 ≠ gb500)); have NB500_495 := Ax ((z11 : gb500 ≠ gb495)); replace BK495 := Ax (blk_below (g := gb495) (zK) hb); have NB496_500 := Ax ((by rw [hg]; exact Nat.ne_of_lt (blk_lt (g := gb496) (zK)) : gb496 ≠ gb500)); have NB500_496 := Ax ((by rw [hg]; exact Nat.ne_of_gt (blk_lt (g := gb496) (zK)) : gb500 ≠ gb496)); replace BK496 := Ax (blk_below (g := gb496) (zK) hb); have NB498_500 := Ax ((by rw [hg]; exact Nat.ne_of_lt (blk_lt (g := gb498) (o := .cells #[.int .i64 ((rd_T30 l0_2 x5_2).f0), .int .i64 ((rd_T30 l0_2 x5_2).f1), .int .i64 ((rd_T30 l0_2 x5_2).f2), .int .i64 ((rd_T30 l0_2 x5_2).f3), .slice A497_4 ((rd_T30 l0_2 x5_2).f4).length c497_4] 30 (0, 0)) (zK)) : gb498 ≠ gb500)); have NB500_498 := Ax ((by rw [hg]; exact Nat.ne_of_gt (blk_lt (g := gb498) (o := .cells #[.int .i64 ((rd_T30 l0_2 x5_2).f0), .int .i64 ((rd_T30 l0_2 x5_2).f1), .int .i64 ((rd_T30 l0_2 x5_2).f2), .int .i64 ((rd_T30 l0_2 x5_2).f3), .slice A497_4 ((rd_T30 l0_2 x5_2).f4).length c497_4] 30 (0, 0)) (zK)) : gb500 ≠ gb498)); replace BK498 := Ax (blk_below (g := gb498) (o := .cells #[.int .i64 ((rd_T30 l0_2 x5_2).f0), .int .i64 ((rd_T30 l0_2 x5_2).f1), .int .i64 ((rd_T30 l0_2 x5_2).f2), .int .i64 ((rd_T30 l0_2 x5_2).f3), .slice A497_4 ((rd_T30 l0_2 x5_2).f4).length c497_4] 30 (0, 0)) (zK) hb); clear hb hbox hg; have hnb30 := NB500_495.out; have hnc30 := NB495_500.out; have hnb31 := NB500_496.out; have hnc31 := NB496_500.out; have hnb32 := NB500_498.out; have hnc32 := NB498_500.out; obtain ⟨hcz33_0, hcz33_1, hcz33_2, hcz33_3, hcz33_4, hfz33_0, hfz33_1, hfz33_2, hfz33_3, hfz33_4⟩ := cells5 BK500.out))
   (try simp only [Act.put, List.setIfInBounds_toArray, List.set_cons_zero, List.set_cons_succ])
   go_cut [79] (fun v79 wc => ∃ (kq : Nat) (x79_20 : Bool), v79 = .bool x79_20 ∧ Aside0 (laws_lmTable.j2 kq x5_2 x79_20 a0_0 a0_1 l0_2 a1_0 a1_1 l1_2 = some r) ∧ Aside0 (kq ≤ k2) ∧ Aside0 (wc.heap[gb495]? = some (.cells #[.int .i64 a0_0, .int .i64 a0_1, (.slice (some ad497) l0_2.length c0_2)] 25 (0, 0))) ∧ Aside0 (wc.heap[gb496]? = some (.cells #[.int .i64 a1_0, .int .i64 a1_1, (.slice (some ad499) l1_2.length c1_2)] 25 (0, 0))) ∧ Aside0 (wc.heap[gb498]? = some (.cells #[.int .i64 ((rd_T30 l0_2 x5_2).f0), .int .i64 ((rd_T30 l0_2 x5_2).f1), .int .i64 ((rd_T30 l0_2 x5_2).f2), .int .i64 ((rd_T30 l0_2 x5_2).f3), (.slice A497_4 ((rd_T30 l0_2 x5_2).f4).length c497_4)] 30 (0, 0))) ∧ Aside0 (wc.heap[gb500]? = some (.cells #[.int .i64 ((rd_T30 l1_2 x5_2).f0), .int .i64 ((rd_T30 l1_2 x5_2).f1), .int .i64 ((rd_T30 l1_2 x5_2).f2), .int .i64 ((rd_T30 l1_2 x5_2).f3), (.slice A499_4 ((rd_T30 l1_2 x5_2).f4).length c499_4)] 30 (0, 0))) ∧ Aside0 (Below w.heap.size w wc))
   case first =>
    have H := HC21.out
    clear HC21
    by_cases c34 : ((rd_T30 l0_2 x5_2).f0) = ((rd_T30 l1_2 x5_2).f0)
    rotate_left
    · rw [if_neg c34] at H
      have c34b0 : (((rd_T30 l0_2 x5_2).f0) == ((rd_T30 l1_2 x5_2).f0)) = false := beq_eq_false_iff_ne.mpr c34
      have c34b1 : (((rd_T30 l0_2 x5_2).f0) != ((rd_T30 l1_2 x5_2).f0)) = true := bne_iff_ne.mpr c34
      (first | rw [c34b0] | (simp only [i64_w, i32_w]; rw [c34b0]) | skip)
      have H' := Ax H
      clear H
      have hnb67 := NB498_495.out
      have hnc67 := NB495_498.out
      have hnb68 := NB498_496.out
      have hnc68 := NB496_498.out
      have hnb69 := NB498_500.out
      have hnc69 := NB500_498.out
      obtain ⟨_, _, _, _, _, _, _, _, _, _⟩ := cells5 BK498.out
      have hnb71 := NB500_495.out
      have hnc71 := NB495_500.out
      have hnb72 := NB500_496.out
      have hnc72 := NB496_500.out
      obtain ⟨_, _, _, _, _, _, _, _, _, _⟩ := cells5 BK500.out
      go_wp2
      go_meet
      exact ⟨_, (true), (z5), H', ⟨z6⟩, ⟨zK⟩, ⟨zK⟩, ⟨zK⟩, ⟨zK⟩, ⟨zHB⟩⟩
    rw [if_pos c34] at H
    have c34b0 : (((rd_T30 l0_2 x5_2).f0) == ((rd_T30 l1_2 x5_2).f0)) = true := beq_iff_eq.mpr c34
    have c34b1 : (((rd_T30 l0_2 x5_2).f0) != ((rd_T30 l1_2 x5_2).f0)) = false := bne_eq_false_iff_eq.mpr c34
    clear c34
    (first | rw [c34b0] | (simp only [i64_w, i32_w]; rw [c34b0]) | skip)
    by_cases c35 : ((rd_T30 l0_2 x5_2).f1) = ((rd_T30 l1_2 x5_2).f1)
    rotate_left
    · rw [if_neg c35] at H
      have c35b0 : (((rd_T30 l0_2 x5_2).f1) == ((rd_T30 l1_2 x5_2).f1)) = false := beq_eq_false_iff_ne.mpr c35
      have c35b1 : (((rd_T30 l0_2 x5_2).f1) != ((rd_T30 l1_2 x5_2).f1)) = true := bne_iff_ne.mpr c35
      have H' := Ax H
      clear H
      have hnb60 := NB498_495.out
      have hnc60 := NB495_498.out
      have hnb61 := NB498_496.out
      have hnc61 := NB496_498.out
      have hnb62 := NB498_500.out
      have hnc62 := NB500_498.out
      obtain ⟨_, _, _, _, _, _, _, _, _, _⟩ := cells5 BK498.out
      have hnb64 := NB500_495.out
      have hnc64 := NB495_500.out
      have hnb65 := NB500_496.out
      have hnc65 := NB496_500.out
      obtain ⟨_, _, _, _, _, _, _, _, _, _⟩ := cells5 BK500.out
      go_wp2
      go_meet
      exact ⟨_, (true), (z5), H', ⟨z6⟩, ⟨zK⟩, ⟨zK⟩, ⟨zK⟩, ⟨zK⟩, ⟨zHB⟩⟩
    rw [if_pos c35] at H
    have c35b0 : (((rd_T30 l0_2 x5_2).f1) == ((rd_T30 l1_2 x5_2).f1)) = true := beq_iff_eq.mpr c35
    have c35b1 : (((rd_T30 l0_2 x5_2).f1) != ((rd_T30 l1_2 x5_2).f1)) = false := bne_eq_false_iff_eq.mpr c35
    clear c35
    by_cases c36 : ((rd_T30 l0_2 x5_2).f2) = ((rd_T30 l1_2 x5_2).f2)
    rotate_left
    · rw [if_neg c36] at H
      have c36b0 : (((rd_T30 l0_2 x5_2).f2) == ((rd_T30 l1_2 x5_2).f2)) = false := beq_eq_false_iff_ne.mpr c36
      have c36b1 : (((rd_T30 l0_2 x5_2).f2) != ((rd_T30 l1_2 x5_2).f2)) = true := bne_iff_ne.mpr c36
      have H' := Ax H
      clear H
      have hnb53 := NB498_495.out
      have hnc53 := NB495_498.out
      have hnb54 := NB498_496.out
      have hnc54 := NB496_498.out
      have hnb55 := NB498_500.out
      have hnc55 := NB500_498.out
      obtain ⟨_, _, _, _, _, _, _, _, _, _⟩ := cells5 BK498.out
      have hnb57 := NB500_495.out
      have hnc57 := NB495_500.out
      have hnb58 := NB500_496.out
      have hnc58 := NB496_500.out
      obtain ⟨_, _, _, _, _, _, _, _, _, _⟩ := cells5 BK500.out
      go_wp2
      go_meet
      exact ⟨_, (true), (z5), H', ⟨z6⟩, ⟨zK⟩, ⟨zK⟩, ⟨zK⟩, ⟨zK⟩, ⟨zHB⟩⟩
    rw [if_pos c36] at H
    have c36b0 : (((rd_T30 l0_2 x5_2).f2) == ((rd_T30 l1_2 x5_2).f2)) = true := beq_iff_eq.mpr c36
    have c36b1 : (((rd_T30 l0_2 x5_2).f2) != ((rd_T30 l1_2 x5_2).f2)) = false := bne_eq_false_iff_eq.mpr c36
    clear c36
    by_cases c37 : ((rd_T30 l0_2 x5_2).f3) = ((rd_T30 l1_2 x5_2).f3)
    · rw [if_pos c37] at H
      have c37b0 : (((rd_T30 l0_2 x5_2).f3) == ((rd_T30 l1_2 x5_2).f3)) = true := beq_iff_eq.mpr c37
      have c37b1 : (((rd_T30 l0_2 x5_2).f3) != ((rd_T30 l1_2 x5_2).f3)) = false := bne_eq_false_iff_eq.mpr c37
      clear c37
      obtain ⟨t501, A38, H⟩ := bnd H
      have H' := Ax H
      clear H
      have hnb39 := NB498_495.out
      have hnc39 := NB495_498.out
      have hnb40 := NB498_496.out
      have hnc40 := NB496_498.out
      have hnb41 := NB498_500.out
      have hnc41 := NB500_498.out
      obtain ⟨_, _, _, _, _, _, _, _, _, _⟩ := cells5 BK498.out
      have hnb43 := NB500_495.out
      have hnc43 := NB495_500.out
      have hnb44 := NB500_496.out
      have hnc44 := NB496_500.out
      obtain ⟨_, _, _, _, _, _, _, _, _, _⟩ := cells5 BK500.out
      go_wp2_with (first | (go_at_call 27; (with_reducible refine (laws_lmSigns.calls k2 _ _ ((rd_T30 l0_2 x5_2).f4) _ _ ((rd_T30 l1_2 x5_2).f4) t501 _ ?side1 ?side2 ?side3 ?side4 A38.out).mono ?_); (case side1 => exact Kd.C_below HR497_4.out (zHB)); (case side2 => exact HC497_4.out); (case side3 => exact Kd.C_below HR499_4.out (zHB)); (case side4 => exact HC499_4.out); rintro e w' ⟨rfl, ⟨nd, rfl⟩⟩))
      go_meet
      exact ⟨_, (!t501), (z5), H', ⟨z6⟩, ⟨zK⟩, ⟨zK⟩, ⟨zK⟩, ⟨zK⟩, ⟨zHB⟩⟩
    rw [if_neg c37] at H
    have c37b0 : (((rd_T30 l0_2 x5_2).f3) == ((rd_T30 l1_2 x5_2).f3)) = false := beq_eq_false_iff_ne.mpr c37
    have c37b1 : (((rd_T30 l0_2 x5_2).f3) != ((rd_T30 l1_2 x5_2).f3)) = true := bne_iff_ne.mpr c37
    have H' := Ax H
    clear H
    have hnb46 := NB498_495.out
    have hnc46 := NB495_498.out
    have hnb47 := NB498_496.out
    have hnc47 := NB496_498.out
    have hnb48 := NB498_500.out
    have hnc48 := NB500_498.out
    obtain ⟨_, _, _, _, _, _, _, _, _, _⟩ := cells5 BK498.out
    have hnb50 := NB500_495.out
    have hnc50 := NB495_500.out
    have hnb51 := NB500_496.out
    have hnc51 := NB496_500.out
    obtain ⟨_, _, _, _, _, _, _, _, _, _⟩ := cells5 BK500.out
    go_wp2
    go_meet
    exact ⟨_, (true), (z5), H', ⟨z6⟩, ⟨zK⟩, ⟨zK⟩, ⟨zK⟩, ⟨zK⟩, ⟨zHB⟩⟩
   clear HC21
   (try clear c18); (try clear c18b0); (try clear c19); (try clear c19b0); (try clear c20); (try clear c20b0); (try clear hcz23_0); (try clear hcz23_1); (try clear hcz23_2); (try clear hcz27_0); (try clear hcz27_1); (try clear hcz27_2); (try clear hcz27_3); (try clear hcz27_4); (try clear hcz28_0); (try clear hcz28_1); (try clear hcz28_2); (try clear hcz33_0); (try clear hcz33_1); (try clear hcz33_2); (try clear hcz33_3); (try clear hcz33_4); (try clear hfz23_0); (try clear hfz23_1); (try clear hfz23_2); (try clear hfz27_0); (try clear hfz27_1); (try clear hfz27_2); (try clear hfz27_3); (try clear hfz27_4); (try clear hfz28_0); (try clear hfz28_1); (try clear hfz28_2); (try clear hfz33_0); (try clear hfz33_1); (try clear hfz33_2); (try clear hfz33_3); (try clear hfz33_4); (try clear hx497_0); (try clear hx497_1); (try clear hx497_2); (try clear hx497_3); (try clear hx497_4); (try clear hx499_0); (try clear hx499_1); (try clear hx499_2); (try clear hx499_3); (try clear hx499_4); (try clear p497); (try clear p499); (try clear q497); (try clear q499)
   obtain ⟨kq, x79_20, rfl, HA, HJ20, BK495, BK496, BK498, BK500, HB⟩ := hcut
   cases kq with
   | zero => exact absurd HA.out (by simp [laws_lmTable.j2])
   | succ kj20 =>
    have H := HA.out
    clear HA
    simp only [laws_lmTable.j2] at H
    obtain rfl | rfl := tf x79_20
    · rw [if_pos rfl] at H
      obtain rfl := Option.some.inj H
      go_wp2
      go_ret
      exact ⟨z8, zHB⟩
    rw [if_neg Bool.false_ne_true] at H
    have H' := Ax H
    clear H
    go_wp2
    go_roundg kj20
    case measure => have := HJ2.out; have := HK2.out; have := HJ20.out; omega
    exact ⟨(wrap64 (x5_2 + 1)), (z5), H', ⟨by have := HJ2.out; have := HK2.out; have := HJ20.out; omega⟩, ⟨zK⟩, ⟨zK⟩, ⟨zHB⟩⟩
end Go.Proofs.Ytljgbeccmcidkaa.P
