/- What the Go functions named below compute, function by function: a plain Lean function with the same answers and the proof that a call comes to them. Conditions: the arguments read as told, the plain function answers. -/
import Derived.Test.YtljgbeccmcidkaaXA
import Derived.Test.YtljgbeccmcidkaaXG
namespace Go.Proofs.Ytljgbeccmcidkaa.P
open Go.RowKit Go.Proofs.YtljgbeccmcidkaaW.PrintWords Go.Proofs.YtljgbeccmcidkaaW.PrintLast Go.Proofs.YtljgbeccmcidkaaW.PrintMore
attribute [local go_sem] max2_int min2_int max_two min_two max_three min_three max_four min_four   -- for this text's walks alone
set_option linter.unusedVariables false
set_option linter.unusedSimpArgs false

attribute [local go_sem ↓] isSome_setCell
/-! ### spec_l71Spoil: function 40 -/
def spec_l71Spoil.f (k : Nat) (s0_0 : List Int) (s0_1 : Int) (a1_0 : Int) (a1_1 : Int) (l1_2 : List (S30)) : Option (Int × Int × (List (S30)) × Int) := (spec_l2Copy.f k a1_0 a1_1 l1_2).bind fun bt320 => ((spec_l6Rd_pick.f k s0_0 s0_1 (bt320.2.2.length : Int)).bind fun bt325 => ((spec_l6Rd_pick.f k s0_0 bt325.2 7).bind fun bt327 => (if bt327.1 = 0 then ((spec_l6Rd_pick.f k s0_0 bt327.2 7).bind fun bt329 => (if 0 ≤ bt325.1 then (if bt325.1 < (bt320.2.2.length : Int) then (some (bt320.1, bt320.2.1, (bt320.2.2.set (bt325.1 : Int).toNat (⟨(rd_T30 bt320.2.2 bt325.1).f0, (rd_T30 bt320.2.2 bt325.1).f1, wrap64 (bt329.1 - 1), (rd_T30 bt320.2.2 bt325.1).f3, (rd_T30 bt320.2.2 bt325.1).f4⟩ : S30)), bt329.2)) else (none)) else (none))) else (if bt327.1 = 1 then ((spec_l6Rd_pick.f k s0_0 bt327.2 6).bind fun bt332 => (if 0 ≤ bt325.1 then (if bt325.1 < (bt320.2.2.length : Int) then (some (bt320.1, bt320.2.1, (bt320.2.2.set (bt325.1 : Int).toNat (⟨(rd_T30 bt320.2.2 bt325.1).f0, wrap64 (bt332.1 - 1), (rd_T30 bt320.2.2 bt325.1).f2, (rd_T30 bt320.2.2 bt325.1).f3, (rd_T30 bt320.2.2 bt325.1).f4⟩ : S30)), bt332.2)) else (none)) else (none))) else (if bt327.1 = 2 then (if 0 ≤ bt325.1 then (if bt325.1 ≤ (bt320.2.2.length : Int) then (if 0 ≤ (wrap64 (bt325.1 + 1)) then (if (wrap64 (bt325.1 + 1)) ≤ (bt320.2.2.length : Int) then (some (bt320.1, bt320.2.1, (bt320.2.2.eraseIdx (bt325.1 : Int).toNat), bt327.2)) else (none)) else (none)) else (none)) else (none)) else (if bt327.1 = 3 then (if 0 < (bt320.2.2.length : Int) then (if bt320.2.2.length < 2513169434916 then (some (bt320.1, bt320.2.1, (bt320.2.2 ++ [(⟨(rd_T30 bt320.2.2 0).f0, (rd_T30 bt320.2.2 0).f1, (rd_T30 bt320.2.2 0).f2, (rd_T30 bt320.2.2 0).f3, (rd_T30 bt320.2.2 0).f4⟩ : S30)]), bt327.2)) else (none)) else (none)) else (if bt327.1 = 4 then ((spec_l6Rd_pick.f k s0_0 bt327.2 8).bind fun bt352 => (some (wrap64 (bt352.1 - 1), bt320.2.1, bt320.2.2, bt352.2))) else (if bt327.1 = 5 then (if 0 ≤ bt325.1 then (if bt325.1 < (bt320.2.2.length : Int) then ((spec_l71Bad.f k s0_0 bt327.2 (rd_T30 bt320.2.2 bt325.1).f4).bind fun bt355 => (some (bt320.1, bt320.2.1, (bt320.2.2.set (bt325.1 : Int).toNat (⟨(rd_T30 bt320.2.2 bt325.1).f0, (rd_T30 bt320.2.2 bt325.1).f1, (rd_T30 bt320.2.2 bt325.1).f2, (rd_T30 bt320.2.2 bt325.1).f3, bt355.1⟩ : S30)), bt355.2))) else (none)) else (none)) else ((spec_l6Rd_pick.f k s0_0 bt327.2 8).bind fun bt360 => (some (bt320.1, wrap64 (bt360.1 - 1), bt320.2.2, bt360.2)))))))))))
theorem spec_l71Spoil.mono : ∀ a0 a1 a2 a3 a4 k, LeO (spec_l71Spoil.f k a0 a1 a2 a3 a4) (spec_l71Spoil.f (k + 1) a0 a1 a2 a3 a4) := by
  intro a0 a1 a2 a3 a4 k
  unfold spec_l71Spoil.f
  with_reducible repeat' first | exact spec_l2Copy.mono _ _ _ _ | exact spec_l6Rd_pick.mono _ _ _ _ | exact spec_l71Bad.mono _ _ _ _ | exact LeO.refl _ | exact LeO.none _ | refine LeO.ite ?_ ?_ | refine LeO.bind ?_ (fun _ => ?_)
def spec_l71Spoil.T6 : Bool × List (List Nat × List Nat) := (true, [([], []), ([0], [0]), ([], []), ([], []), ([3], [3]), ([4], [4]), ([1, 2, 0, 1, 2, 3, 4, 5], [1, 2]), ([6, 0, 1, 2, 3, 4, 5], [6]), ([7, 5, 4, 0, 1, 2, 3, 4, 5], [5, 7])])
def spec_l71Spoil.B6 : List Nat := [0, 1, 0, 0, 8, 24, 63, 127, 255]
theorem spec_l71Spoil.tab6 : rtab .any (opsOf Try.f40 6) = spec_l71Spoil.T6 := by kernel_rfl
theorem spec_l71Spoil.bits6 : waitsOk spec_l71Spoil.T6.2 spec_l71Spoil.B6 = true := by kernel_rfl
def spec_l71Spoil.T8 : Bool × List (List Nat × List Nat) := (true, [([], []), ([0], [0]), ([], []), ([], []), ([3], [3]), ([4], [4]), ([1, 2, 0, 1, 2, 3, 4, 5], [1, 2]), ([6, 0, 1, 2, 3, 4, 5], [6]), ([7, 5, 4, 0, 1, 2, 3, 4, 5], [5, 7])])
def spec_l71Spoil.B8 : List Nat := [0, 1, 0, 0, 8, 24, 63, 127, 255]
theorem spec_l71Spoil.tab8 : rtab .any (opsOf Try.f40 8) = spec_l71Spoil.T8 := by kernel_rfl
theorem spec_l71Spoil.bits8 : waitsOk spec_l71Spoil.T8.2 spec_l71Spoil.B8 = true := by kernel_rfl
def spec_l71Spoil.T10 : Bool × List (List Nat × List Nat) := (true, [([], []), ([0], [0]), ([], []), ([1, 2], [1, 2]), ([], []), ([4], [4]), ([], []), ([6], [6]), ([5, 7], [5, 7]), ([3, 8], [3, 8]), ([0, 1, 2, 3, 4, 5, 6, 7, 8, 9], []), ([10, 9, 9, 0, 1, 2, 3, 4, 5, 6, 7, 8, 9], [9, 10])])
def spec_l71Spoil.B10 : List Nat := [0, 1, 0, 7, 0, 16, 0, 64, 240, 511, 1023, 2047]
theorem spec_l71Spoil.tab10 : rtab .any (opsOf Try.f40 10) = spec_l71Spoil.T10 := by kernel_rfl
theorem spec_l71Spoil.bits10 : waitsOk spec_l71Spoil.T10.2 spec_l71Spoil.B10 = true := by kernel_rfl
def spec_l71Spoil.T12 : Bool × List (List Nat × List Nat) := (true, [([], []), ([0], [0]), ([], []), ([2], [2]), ([3], [3]), ([4], [4]), ([5], [5]), ([1, 6], [1, 6]), ([0, 1, 2, 3, 4, 5, 6, 7], []), ([8, 7, 7, 0, 1, 2, 3, 4, 5, 6, 7], [7, 8])])
def spec_l71Spoil.B12 : List Nat := [0, 1, 0, 4, 12, 28, 60, 127, 255, 511]
theorem spec_l71Spoil.tab12 : rtab .any (opsOf Try.f40 12) = spec_l71Spoil.T12 := by kernel_rfl
theorem spec_l71Spoil.bits12 : waitsOk spec_l71Spoil.T12.2 spec_l71Spoil.B12 = true := by kernel_rfl
def spec_l71Spoil.T16 : Bool × List (List Nat × List Nat) := (true, [([], []), ([0], [0]), ([], []), ([], []), ([], []), ([4], [4]), ([], []), ([5, 6], [5, 6]), ([7], [7]), ([8], [8]), ([3, 9], [3, 9]), ([1, 2, 0, 1, 2, 3, 4, 5, 6, 7, 8, 9, 10], [1, 2]), ([11, 0, 1, 2, 3, 4, 5, 6, 7, 8, 9, 10], [11]), ([12, 10, 10, 0, 1, 2, 3, 4, 5, 6, 7, 8, 9, 10], [10, 12])])
def spec_l71Spoil.B16 : List Nat := [0, 1, 0, 0, 0, 16, 0, 112, 240, 496, 1016, 2047, 4095, 8191]
theorem spec_l71Spoil.tab16 : rtab .any (opsOf Try.f40 16) = spec_l71Spoil.T16 := by kernel_rfl
theorem spec_l71Spoil.bits16 : waitsOk spec_l71Spoil.T16.2 spec_l71Spoil.B16 = true := by kernel_rfl
theorem spec_l71Spoil.zHB {p : Prop} (h : p := by repeat (first | (with_reducible first | exact HB.out | apply below_alloc | apply pw_below_drewN | apply below_drew1 | refine below_set ?_ (IsS66.ge HI0.out) | refine below_set ?_ GE318.out | refine below_set ?_ GE319.out | refine below_set ?_ (Nat.le_trans HL.out GB10.out) | refine below_set ?_ (Nat.le_trans HL.out GB32.out) | refine below_set ?_ (Nat.le_trans HL.out GB115.out)) | exact HB.out)) : p := h
theorem spec_l71Spoil.zHK {p : Prop} (h : p := by repeat (first | (with_reducible first | exact HK.out | apply KeepBut.set_ | apply keep_drewN | apply keep_drew | apply keep_alloc | refine keep_far ?_ GW318.out _ | refine keep_far ?_ GW319.out _ | refine keep_far ?_ GB10.out _ | refine keep_far ?_ GB32.out _ | refine keep_far ?_ GB115.out _) | exact HK.out)) : p := h
theorem spec_l71Spoil.zHI0 {p : Prop} (h : p := by repeat (first | (with_reducible first | exact HI0.out | apply IsS66.alloc | apply IsS66.drewN | apply IsS66.drew | apply IsS66.set_1 | apply IsS66.far (hne := NB0_318.out) | apply IsS66.far (hne := NB0_319.out) | apply IsS66.far (hne := HN0_go10.out) | apply IsS66.far (hne := HN0_go32.out) | apply IsS66.far (hne := HN0_go115.out)) | exact HI0.out)) : p := h
theorem spec_l71Spoil.zK {p : Prop} (h : p := by repeat' first | (with_reducible first | exact BK318.out | exact BK319.out | apply blk_drewN | apply blk_drew | apply blk_alloc | apply blk_far (hp := NB319_318.out) | apply blk_putE) | exact (rfl : List.set _ _ _ = _)) : p := h
theorem spec_l71Spoil.z0 {p : Prop} (h : p := by (try simp only [List.map_toArray, List.map_cons, List.map_nil]); first | done | rfl | (simp only [List.length_drop, List.length_take]; rfl)) : p := h
theorem spec_l71Spoil.z1 {p : Prop} (h : p := by rw [hg]; exact (keep_size (w := w) (g := g) (row := none) (zHK))) : p := h
theorem spec_l71Spoil.z2 {p : Prop} (h : p := by first | (with_reducible assumption) | assumption) : p := h
theorem spec_l71Spoil.z3 {p : Prop} (h : p := by (with_reducible repeat (first | apply Kd.N_alloc | apply Kd.N_drewN | apply Kd.N_drew)); exact HO324.out) : p := h
theorem spec_l71Spoil.z4 {p : Prop} (h : p := by first | (rw [add_block]; exact Kd.own_blk (IsS66.own_neN HI0.out HO324.out (by decide))) | (show (Addr.add _ _).block ≠ _; rw [add_block]; exact Kd.own_blk (IsS66.own_neN HI0.out HO324.out (by decide))) | exact Kd.own_blk (IsS66.own_neN HI0.out HO324.out (by decide))) : p := h
theorem spec_l71Spoil.z5 {p : Prop} (h : p := by rw [hg]; exact Nat.ne_of_lt (IsS66.lt (show IsS66 w0 _ g s0_0 s0_1 from zHI0))) : p := h
theorem spec_l71Spoil.z6 {p : Prop} (h : p := by rw [hg]; exact Nat.ne_of_gt (IsS66.lt (show IsS66 w0 _ g s0_0 s0_1 from zHI0))) : p := h
theorem spec_l71Spoil.z7 {p : Prop} (h : p := by have h_ : (t325 : Int) < ((t322.length : Int) : Int) := of_decide_eq_true (z2); first | exact h_ | (have e_ := (Kd.N_reads' HO324.out).1; omega) | simpa using h_) : p := h
theorem spec_l71Spoil.z8 {p : Prop} (h : p := by (with_reducible repeat (first | refine blk_drewN ?_ _ | refine blk_drew ?_ | refine blk_alloc ?_ _)); refine blk_far ?_ (by have h_ := Kd.N_away HO324.out (fun _ hk => by first | exact hk.2.2.1 | exact hk.1.2.2.1); intro e_; exact h_ (by rw [e_]; rfl)) _; (with_reducible repeat (first | refine blk_drewN ?_ _ | refine blk_drew ?_ | refine blk_alloc ?_ _)); exact BK319.out) : p := h
theorem spec_l71Spoil.z9 {p : Prop} (h : p := by (with_reducible repeat (first | refine blk_drewN ?_ _ | refine blk_drew ?_ | refine blk_alloc ?_ _)); refine blk_far ?_ (by have h_ := Kd.N_away HO324.out (fun _ hk => by first | exact hk.2.1 | exact hk.1.2.1); intro e_; exact h_ (by rw [e_]; rfl)) _; (with_reducible repeat (first | refine blk_drewN ?_ _ | refine blk_drew ?_ | refine blk_alloc ?_ _)); exact BK318.out) : p := h
theorem spec_l71Spoil.z10 {p : Prop} (h : p := by first | rfl | (simp [errW_none, errW_some] <;> rfl) | (simp [*, errW_none, errW_some] <;> rfl)) : p := h
theorem spec_l71Spoil.z11 {p : Prop} (h : p := by rw [hg]; exact Nat.ne_of_lt (blk_lt (g := gb318) (zK))) : p := h
theorem spec_l71Spoil.z12 {p : Prop} (h : p := by rw [hg]; exact Nat.ne_of_gt (blk_lt (g := gb318) (zK))) : p := h
theorem spec_l71Spoil.z13 {p : Prop} (h : p := by have h_ := IsS66.own_neN HI0.out HO324.out (by decide); intro e_; exact h_ (by rw [e_]; rfl)) : p := h
theorem spec_l71Spoil.zy {p : Prop} (h : p := by first | (rw [hy_]; with_reducible exact H) | (have H2_ := (Option.bind_some _ _).symm.trans H; rw [hy_]; with_reducible exact H2_) | (have H2_ := (Option.bind_some _ _).symm.trans H; with_reducible exact H2_) | with_reducible exact H | (rw [hy_]; exact H) | exact H) : p := h
set_option maxHeartbeats 8000000 in
set_option maxRecDepth 100000 in
theorem spec_l71Spoil.calls (k : Nat) (g : Nat) (s0_0 : List Int) (s0_1 : Int) (a1_0 : Int) (a1_1 : Int) (A1_2 : Option Addr) (c1_2 : Nat) (l1_2 : List (S30)) (r1 : Int) (r2 : Int) (r3 : List (S30)) (r4 : Int) (w0 w : World) (hI : IsS66 w0 w g s0_0 s0_1) (hB : Below w0.heap.size w0 w) (hr1_2 : ∀ W_, KeepBut w W_ g none → Kd.C k30 W_ A1_2 l1_2.length l1_2) (hc1_2 : l1_2.length ≤ c1_2) (h : spec_l71Spoil.f k s0_0 s0_1 a1_0 a1_1 l1_2 = some (r1, r2, r3, r4)) :
    Calls Try.prog 40 #[.pointer (some ⟨g, 0, none⟩), .agg #[.int .i64 a1_0, .int .i64 a1_1, .slice A1_2 l1_2.length c1_2]] w fun e w' => ∃ v2_ : Value, e = .returned (.agg #[.int .i64 r1, .int .i64 r2, v2_]) ∧ Kd.N k30 30 w' w.heap.size (fun k_ => (w.heap.size ≤ k_)) v2_ r3 ∧ IsS66 w0 w' g s0_0 r4 ∧ Below w0.heap.size w0 w' ∧ KeepBut w w' g none := by
 have hu25 := Try.underlying25
 have hu30 := Try.underlying30
 have HR1_2 := Ax hr1_2
 have HC1_2 := Ax hc1_2
 clear hr1_2 hc1_2
 have HI0 := Ax hI
 have HK := Ax (KeepBut.refl w g none)
 have HL := Ax hB.size
 clear hI
 have HW0 := Ax hB.size
 have HB := Ax hB
 clear hB
 have H : ((spec_l2Copy.f k a1_0 a1_1 l1_2).bind fun bt320 => ((spec_l6Rd_pick.f k s0_0 s0_1 (bt320.2.2.length : Int)).bind fun bt325 => ((spec_l6Rd_pick.f k s0_0 bt325.2 7).bind fun bt327 => (if bt327.1 = 0 then ((spec_l6Rd_pick.f k s0_0 bt327.2 7).bind fun bt329 => (if 0 ≤ bt325.1 then (if bt325.1 < (bt320.2.2.length : Int) then (some (bt320.1, bt320.2.1, (bt320.2.2.set (bt325.1 : Int).toNat (⟨(rd_T30 bt320.2.2 bt325.1).f0, (rd_T30 bt320.2.2 bt325.1).f1, wrap64 (bt329.1 - 1), (rd_T30 bt320.2.2 bt325.1).f3, (rd_T30 bt320.2.2 bt325.1).f4⟩ : S30)), bt329.2)) else (none)) else (none))) else (if bt327.1 = 1 then ((spec_l6Rd_pick.f k s0_0 bt327.2 6).bind fun bt332 => (if 0 ≤ bt325.1 then (if bt325.1 < (bt320.2.2.length : Int) then (some (bt320.1, bt320.2.1, (bt320.2.2.set (bt325.1 : Int).toNat (⟨(rd_T30 bt320.2.2 bt325.1).f0, wrap64 (bt332.1 - 1), (rd_T30 bt320.2.2 bt325.1).f2, (rd_T30 bt320.2.2 bt325.1).f3, (rd_T30 bt320.2.2 bt325.1).f4⟩ : S30)), bt332.2)) else (none)) else (none))) else (if bt327.1 = 2 then (if 0 ≤ bt325.1 then (if bt325.1 ≤ (bt320.2.2.length : Int) then (if 0 ≤ (wrap64 (bt325.1 + 1)) then (if (wrap64 (bt325.1 + 1)) ≤ (bt320.2.2.length : Int) then (some (bt320.1, bt320.2.1, (bt320.2.2.eraseIdx (bt325.1 : Int).toNat), bt327.2)) else (none)) else (none)) else (none)) else (none)) else (if bt327.1 = 3 then (if 0 < (bt320.2.2.length : Int) then (if bt320.2.2.length < 2513169434916 then (some (bt320.1, bt320.2.1, (bt320.2.2 ++ [(⟨(rd_T30 bt320.2.2 0).f0, (rd_T30 bt320.2.2 0).f1, (rd_T30 bt320.2.2 0).f2, (rd_T30 bt320.2.2 0).f3, (rd_T30 bt320.2.2 0).f4⟩ : S30)]), bt327.2)) else (none)) else (none)) else (if bt327.1 = 4 then ((spec_l6Rd_pick.f k s0_0 bt327.2 8).bind fun bt352 => (some (wrap64 (bt352.1 - 1), bt320.2.1, bt320.2.2, bt352.2))) else (if bt327.1 = 5 then (if 0 ≤ bt325.1 then (if bt325.1 < (bt320.2.2.length : Int) then ((spec_l71Bad.f k s0_0 bt327.2 (rd_T30 bt320.2.2 bt325.1).f4).bind fun bt355 => (some (bt320.1, bt320.2.1, (bt320.2.2.set (bt325.1 : Int).toNat (⟨(rd_T30 bt320.2.2 bt325.1).f0, (rd_T30 bt320.2.2 bt325.1).f1, (rd_T30 bt320.2.2 bt325.1).f2, (rd_T30 bt320.2.2 bt325.1).f3, bt355.1⟩ : S30)), bt355.2))) else (none)) else (none)) else ((spec_l6Rd_pick.f k s0_0 bt327.2 8).bind fun bt360 => (some (bt320.1, wrap64 (bt360.1 - 1), bt320.2.2, bt360.2)))))))))))) = some (r1, r2, r3, r4) := h
 clear h
 obtain ⟨⟨t320, t321, t322⟩, A3, H⟩ := bnd H
 dsimp only at H
 obtain ⟨⟨t325, t326⟩, A4, H⟩ := bnd H
 dsimp only at H
 obtain ⟨⟨t327, t328⟩, A5, H⟩ := bnd H
 dsimp only at H
 by_cases c6 : t327 = 0
 · rw [if_pos c6] at H
   have c6b0 : (t327 == 0) = true := beq_iff_eq.mpr c6
   have c6b1 : (t327 != 0) = false := bne_eq_false_iff_eq.mpr c6
   clear c6
   obtain ⟨⟨t329, t330⟩, A7, H⟩ := bnd H
   dsimp only at H
   by_cases c8 : 0 ≤ t325
   rotate_left
   · rw [if_neg c8] at H
     exact absurd H (by simp)
   rw [if_pos c8] at H
   have c8b0 := decide_eq_true c8
   clear c8
   by_cases c9 : t325 < (t322.length : Int)
   rotate_left
   · rw [if_neg c9] at H
     exact absurd H (by simp)
   rw [if_pos c9] at H
   have c9b0 := decide_eq_true c9
   clear c9
   obtain ⟨y331, hy_⟩ : ∃ y_ : List (S30), y_ = (t322.set (t325 : Int).toNat (⟨(rd_T30 t322 t325).f0, (rd_T30 t322 t325).f1, wrap64 (t329 - 1), (rd_T30 t322 t325).f3, (rd_T30 t322 t325).f4⟩ : S30)) := ⟨_, rfl⟩
   replace H : (some (t320, t321, y331, t330)) = some (r1, r2, r3, r4) := zy
   have Ny331 := Ax hy_
   clear hy_
   simp only [Option.some.injEq, Prod.mk.injEq] at H
   obtain ⟨rfl, rfl, rfl, rfl⟩ := H
   go_enter Try.func40, Try.ntmps40
   try go_wp2_with (first | ((with_reducible refine gate_dst (N := 3) rfl ?_); refine box_event ?hg (N := 3) ?hd (cs := #[.int .i64 a1_0, .int .i64 a1_1, .slice A1_2 l1_2.length c1_2]) (t := 25) ?hr ?_; (case hd => rfl); (case hg => rfl); (case hr => first | (go_simp; done) | (go_simp; rfl)); intro gb318 hg w11 hbox hb; replace HB := Ax (below_step (zHB) hb); have BK318 := Ax (hbox); have GW318 := Ax ((z1 : w.heap.size ≤ gb318)); have GE318 := Ax ((Nat.le_trans HW0.out (z1 : w.heap.size ≤ gb318) : w0.heap.size ≤ gb318)); replace HK := Ax (KeepBut.trans (zHK) (KeepBut.of_below hb g none) (.inl rfl)); have NB0_318 := Ax ((z5 : g ≠ gb318)); have NB318_0 := Ax ((z6 : gb318 ≠ g)); replace HI0 := Ax (IsS66.below (zHI0) hb); clear hb hbox hg) | ((with_reducible refine gate_dst (N := 4) rfl ?_); refine box_event ?hg (N := 4) ?hd (cs := #[.int .i64 0, .int .i64 0, .slice none 0 0]) (t := 25) ?hr ?_; (case hd => rfl); (case hg => rfl); (case hr => first | (go_simp; done) | (go_simp; rfl)); intro gb319 hg w12 hbox hb; replace HB := Ax (below_step (zHB) hb); have BK319 := Ax (hbox); have GW319 := Ax ((z1 : w.heap.size ≤ gb319)); have GE319 := Ax ((Nat.le_trans HW0.out (z1 : w.heap.size ≤ gb319) : w0.heap.size ≤ gb319)); replace HK := Ax (KeepBut.trans (zHK) (KeepBut.of_below hb g none) (.inl rfl)); have NB318_319 := Ax ((z11 : gb318 ≠ gb319)); have NB319_318 := Ax ((z12 : gb319 ≠ gb318)); replace BK318 := Ax (blk_below (g := gb318) (zK) hb); have NB0_319 := Ax ((z5 : g ≠ gb319)); have NB319_0 := Ax ((z6 : gb319 ≠ g)); replace HI0 := Ax (IsS66.below (zHI0) hb); clear hb hbox hg; have hnb13 := NB318_319.out; have hnc13 := NB319_318.out; have hnb14 := NB318_0.out; have hnc14 := NB0_318.out; obtain ⟨_, _, _, _, _, _⟩ := cells3 BK318.out) | ((with_reducible refine gate_callee (f := 51) rfl ?_); refine goesL_ (some 7) rfl rfl Try.func51 (by kernel_rfl) rfl #[.agg #[.int .i64 a1_0, .int .i64 a1_1, .slice A1_2 l1_2.length c1_2]] rfl (z0) ?_; (with_reducible refine (spec_l2Copy.calls k a1_0 a1_1 _ _ l1_2 t320 t321 t322 _ ?side1 ?side2 A3.out).mono ?_); (case side1 => exact Kd.C_foot_now HR1_2.out (zHK)); (case side2 => exact HC1_2.out); rintro e w16 ⟨v323, rfl, ho0, hb⟩; refine ⟨_, rfl, ?_⟩; have HO324 := Ax (Kd.N_lower (Kd.N_mono (ok' := fun k_ => (w.heap.size ≤ k_) ∧ k_ ≠ gb318 ∧ k_ ≠ gb319 ∧ k_ ≠ g) (Kd.S_N (Kd.S_bound ho0)) (fun k_ hk_ => ⟨(Nat.le_trans (keep_size (w := w) (g := g) (row := none) (zHK)) hk_.2.1), (Kd.freshB (g := gb318) (o := .cells #[.int .i64 a1_0, .int .i64 a1_1, .slice A1_2 l1_2.length c1_2] 25 (0, 0)) (zK) k_ hk_.2.1), (Kd.freshB (g := gb319) (o := .cells #[.int .i64 0, .int .i64 0, .slice none 0 0] 25 (0, 0)) (zK) k_ hk_.2.1), (IsS66.fresh (zHI0) k_ hk_.2.1)⟩)) (keep_size (w := w) (g := g) (row := none) (zHK))); replace BK318 := Ax (blk_below (g := gb318) (zK) hb); replace BK319 := Ax (blk_below (g := gb319) (zK) hb); replace HK := Ax (KeepBut.trans (zHK) (KeepBut.of_below hb g none) (.inl rfl)); replace HB := Ax (below_step (zHB) hb); replace HI0 := Ax (IsS66.below (zHI0) hb); (try clear hb); (try clear hb2); (try clear hk); (try clear hi); (try clear ho0); obtain ⟨_, _, _, _, _, _⟩ := cells3 BK318.out; obtain ⟨Ao18, co18, eo18⟩ := Kd.N_slice HO324.out; subst eo18) | ((with_reducible refine gate_callee (f := 39) rfl ?_); refine goesL_ (some 12) rfl rfl Try.func39 (by kernel_rfl) rfl #[.pointer (some ⟨g, 0, none⟩), .int .i64 (t322.length : Int)] rfl (z0) ?_; (with_reducible refine (spec_l6Rd_pick.calls k g s0_0 s0_1 (t322.length : Int) t325 t326 w0 _ ?side1 ?side2 A4.out).mono ?_); (case side1 => exact zHI0); (case side2 => exact zHB); rintro e w19 ⟨rfl, hi, hb, hk⟩; refine ⟨_, rfl, ?_⟩; replace BK318 := Ax (KeepBut.blk hk (g' := gb318) (o := .cells #[.int .i64 t320, .int .i64 t321, .slice Ao18 t322.length co18] 25 (0, 0)) (zK) NB318_0.out (by simp)); replace BK319 := Ax (KeepBut.blk hk (g' := gb319) (o := .cells #[.int .i64 0, .int .i64 0, .slice none 0 0] 25 (0, 0)) (zK) NB319_0.out (by simp)); replace HO324 := Ax (Kd.N_mono (Kd.N_keep (Kd.N_mono (ok := fun k_ => (((w.heap.size ≤ k_)) ∧ (k_ ≠ gb318 ∧ (k_ ≠ gb319 ∧ k_ ≠ g)))) (by (with_reducible repeat (first | apply Kd.N_alloc | apply Kd.N_drewN | apply Kd.N_drew)); exact (Kd.N_mono (Kd.N_far (p := ⟨gb318, 2, none⟩) (Kd.N_far (p := ⟨gb318, 1, none⟩) (Kd.N_far (p := ⟨gb318, 0, none⟩) (Kd.N_mono HO324.out (fun k_ hk => (⟨hk, hk.2.1⟩ : _ ∧ k_ ≠ gb318))) (fun _ hk => hk.2) (.int .i64 t320)) (fun _ hk => hk.2) (.int .i64 t321)) (fun _ hk => hk.2) (.slice Ao18 t322.length co18)) (fun _ h_ => h_.1))) (fun k_ hk_ => (⟨hk_, hk_.2.2.2⟩ : _ ∧ k_ ≠ g))) hk (fun _ h => h.2)) (fun _ h => h.1)); replace HK := Ax (KeepBut.trans (zHK) hk (.inl rfl)); replace HB := Ax (hb); replace HI0 := Ax (hi); (try clear hb); (try clear hb2); (try clear hk); (try clear hi)) | ((with_reducible refine gate_callee (f := 39) rfl ?_); refine goesL_ (some 14) rfl rfl Try.func39 (by kernel_rfl) rfl #[.pointer (some ⟨g, 0, none⟩), .int .i64 7] rfl (z0) ?_; (with_reducible refine (spec_l6Rd_pick.calls k g s0_0 t326 7 t327 t328 w0 _ ?side1 ?side2 A5.out).mono ?_); (case side1 => exact zHI0); (case side2 => exact zHB); rintro e w20 ⟨rfl, hi, hb, hk⟩; refine ⟨_, rfl, ?_⟩; replace BK318 := Ax (KeepBut.blk hk (g' := gb318) (o := .cells #[.int .i64 t320, .int .i64 t321, .slice Ao18 t322.length co18] 25 (0, 0)) (zK) NB318_0.out (by simp)); replace BK319 := Ax (KeepBut.blk hk (g' := gb319) (o := .cells #[.int .i64 0, .int .i64 0, .slice none 0 0] 25 (0, 0)) (zK) NB319_0.out (by simp)); replace HO324 := Ax (Kd.N_mono (Kd.N_keep (Kd.N_mono (ok := fun k_ => (((w.heap.size ≤ k_)) ∧ (k_ ≠ gb318 ∧ (k_ ≠ gb319 ∧ k_ ≠ g)))) (z3) (fun k_ hk_ => (⟨hk_, hk_.2.2.2⟩ : _ ∧ k_ ≠ g))) hk (fun _ h => h.2)) (fun _ h => h.1)); replace HK := Ax (KeepBut.trans (zHK) hk (.inl rfl)); replace HB := Ax (hb); replace HI0 := Ax (hi); (try clear hb); (try clear hb2); (try clear hk); (try clear hi)))
   replace HO324 := Ax (Kd.N_drew HO324.out)
   replace BK318 := Ax (blk_drew BK318.out)
   replace BK319 := Ax (blk_drew BK319.out)
   replace HI0 := Ax (IsS66.drew HI0.out)
   replace HK := Ax (keep_drew HK.out)
   replace HB := Ax (below_drew1 HB.out)
   refine start_ (n := 9) (S := fun w' => w'.cell? ⟨gb318, 0, none⟩ = some (.int .i64 t320) ∧ w'.cell? ⟨gb318, 1, none⟩ = some (.int .i64 t321) ∧ w'.cell? ⟨gb318, 2, none⟩ = some (.slice Ao18 t322.length co18)) (ds := [8]) #[false, false, false, false, false, false, false, false, false] (by kernel_rfl) rfl rfl ⟨(blk_cell BK318.out 0).trans rfl, (blk_cell BK318.out 1).trans rfl, (blk_cell BK318.out 2).trans rfl⟩ (fun hHeld => ?_); refine with_tabW spec_l71Spoil.tab6 spec_l71Spoil.bits6 (fun HT_ HW_ => ?_)
   generalize w20.drew = w21 at HO324 BK318 BK319 HI0 HK HB hHeld ⊢
   refine pure_ (i := 0) (N := some 21) (v := ?_) (a' := ?_) (bl 9 1) rfl rfl (any_of HT_.out (by kernel_rfl)) (fun _ _ _ h => h) (Or.inl ⟨by rfl, ?_⟩) ?_ ?_
   rotate_left
   · exact zEv
   rotate_left
   · exact zAct
   refine pure_ (i := 2) (N := some 23) (v := ?_) (a' := ?_) (bl 9 5) rfl rfl (any_of HT_.out (by kernel_rfl)) (fun _ _ _ h => h) (Or.inl ⟨by rfl, ?_⟩) ?_ ?_
   rotate_left
   · exact zEv
   rotate_left
   · exact zAct
   refine pure_ (i := 3) (N := some 24) (v := ?_) (a' := ?_) (bl 9 13) rfl rfl (any_of HT_.out (by kernel_rfl)) (fun _ _ _ h => h) (Or.inl ⟨by rfl, ?_⟩) ?_ ?_
   rotate_left
   · exact zEv
   rotate_left
   · exact zAct
   refine take_ (i := 1) (N := some 22) (v := ?_) (a' := ?_) (bl 9 15) rfl rfl (take_ofW HT_.out HW_.out (by kernel_rfl)) (fun _ _ _ h => h) (Or.inl ⟨by rfl, ?_⟩) hHeld ?_ ?_
   rotate_left
   · rintro w' ⟨s0, s1, s2⟩
     go_simp
     with_reducible rfl
   rotate_left
   · exact zAct
   refine one_ (i := 4) (N := some 25) (bl 9 31) rfl rfl (one_of HT_.out (by kernel_rfl)) (by decide) (fun K hK => ?_)
   refine goes_ Try.func39 (by kernel_rfl) rfl #[.pointer (some ⟨g, 0, none⟩), .int .i64 7] (by rfl) rfl rfl (z0) ?_
   with_reducible refine (spec_l6Rd_pick.calls k g s0_0 t328 7 t329 t330 w0 _ ?side1 ?side2 A7.out).mono ?_
   (case side1 => exact zHI0)
   (case side2 => exact zHB)
   rintro e w22 ⟨rfl, hi, hb, hk⟩
   refine ⟨_, rfl, ?_⟩
   replace BK318 := Ax (KeepBut.blk hk (g' := gb318) (o := .cells #[.int .i64 t320, .int .i64 t321, .slice Ao18 t322.length co18] 25 (0, 0)) (zK) NB318_0.out (by simp))
   replace BK319 := Ax (KeepBut.blk hk (g' := gb319) (o := .cells #[.int .i64 0, .int .i64 0, .slice none 0 0] 25 (0, 0)) (zK) NB319_0.out (by simp))
   replace HO324 := Ax (Kd.N_mono (Kd.N_keep (Kd.N_mono (ok := fun k_ => (((w.heap.size ≤ k_)) ∧ (k_ ≠ gb318 ∧ (k_ ≠ gb319 ∧ k_ ≠ g)))) (z3) (fun k_ hk_ => (⟨hk_, hk_.2.2.2⟩ : _ ∧ k_ ≠ g))) hk (fun _ h => h.2)) (fun _ h => h.1))
   replace HK := Ax (KeepBut.trans (zHK) hk (.inl rfl))
   replace HB := Ax (hb)
   replace HI0 := Ax (hi)
   (try clear hb); (try clear hk); (try clear hi)
   have p10 : 0 ≤ (t325 : Int) := of_decide_eq_true (z2)
   have q10 : (t325 : Int) < ((t322.length : Int) : Int) := of_decide_eq_true (z2)
   obtain ⟨go10, co10, eo10, gb10, gl10, cl10, HG10⟩ := Kd.N_form HO324.out (by omega)
   (first | cases eo10 | (injection eo10 with ea_ en_ ec_; (first | subst ea_ | (injection ea_ with ea_; subst ea_)); subst ec_; clear en_))
   have GB10 := Ax gb10
   have GG10 := Ax HG10
   clear gb10 gl10 HG10
   obtain ⟨ce10, hcl10, hM10, hcc10, hfr10⟩ := Kd.N_elem HO324.out z30 (t325 : Int) p10 q10
   obtain ⟨ua10_4, uc10_4, rfl, ul10_4, ge10_4⟩ := k30_openF hM10
   have hx10_0 : World.cell? _ ⟨go10, (t325 : Int).toNat * 5, none⟩ = some (.int .i64 ((rd_T30 t322 t325).f0)) := hcc10 0 _ rfl
   have hx10_1 : World.cell? _ ⟨go10, (t325 : Int).toNat * 5 + 1, none⟩ = some (.int .i64 ((rd_T30 t322 t325).f1)) := hcc10 1 _ rfl
   have hx10_2 : World.cell? _ ⟨go10, (t325 : Int).toNat * 5 + 2, none⟩ = some (.int .i64 ((rd_T30 t322 t325).f2)) := hcc10 2 _ rfl
   have hx10_3 : World.cell? _ ⟨go10, (t325 : Int).toNat * 5 + 3, none⟩ = some (.int .i64 ((rd_T30 t322 t325).f3)) := hcc10 3 _ rfl
   have hx10_4 : World.cell? _ ⟨go10, (t325 : Int).toNat * 5 + 4, none⟩ = some (.slice ua10_4 ((rd_T30 t322 t325).f4).length uc10_4) := hcc10 4 _ rfl
   have hf10_0 : World.frozen? _ ⟨go10, (t325 : Int).toNat * 5, none⟩ = false := hfr10 0
   have hf10_1 : World.frozen? _ ⟨go10, (t325 : Int).toNat * 5 + 1, none⟩ = false := hfr10 1
   have hf10_2 : World.frozen? _ ⟨go10, (t325 : Int).toNat * 5 + 2, none⟩ = false := hfr10 2
   have hf10_3 : World.frozen? _ ⟨go10, (t325 : Int).toNat * 5 + 3, none⟩ = false := hfr10 3
   have hf10_4 : World.frozen? _ ⟨go10, (t325 : Int).toNat * 5 + 4, none⟩ = false := hfr10 4
   clear hcl10 hcc10 hfr10 hM10
   replace p10 := eq_true p10
   replace q10 := eq_true q10
   have HN0_go10 := Ax (show g ≠ go10 from z13)
   have HX23 := Ax (show Kd.N k30 30 _ w.heap.size (fun k_ => (w.heap.size ≤ k_) ∧ k_ ≠ gb318 ∧ k_ ≠ gb319 ∧ k_ ≠ g) (.slice (some ⟨go10, 0, none⟩) t322.length co18) t322 from (Kd.N_mono (HO324.out) (fun k_ hk => ⟨hk.1, ⟨hk.2.1, ⟨hk.2.2.1, hk.2.2.2⟩⟩⟩)))
   obtain ⟨ce23, hcl23, hM23, hcc23, hfr23⟩ := Kd.N_elem HX23.out z30 (t325 : Int) (of_decide_eq_true (z2)) (z7)
   obtain ⟨ua23_4, uc23_4, rfl, ul23_4, ge23_4⟩ := k30_openF hM23
   have HP23 := (Kd.N_seg HX23.out (t325 : Int) (of_decide_eq_true (z2)) (z7) (seg := [.int .i64 (wrap64 (t329 - 1))]) (j := 2) hcl23 hcc23 (show 3 ≤ 5 from by decide) (x' := (⟨(rd_T30 t322 t325).f0, (rd_T30 t322 t325).f1, wrap64 (t329 - 1), (rd_T30 t322 t325).f3, (rd_T30 t322 t325).f4⟩ : S30)) (k30_mkF _ _ (⟨(rd_T30 t322 t325).f0, (rd_T30 t322 t325).f1, wrap64 (t329 - 1), (rd_T30 t322 t325).f3, (rd_T30 t322 t325).f4⟩ : S30) ul23_4 ge23_4) (fun _ hk => hk)).1
   rw [← Ny331.out] at HP23
   have HQ23 := Ax HP23
   clear hcl23 hcc23 hfr23 hM23 HP23
   refine hK.out _ _ ⟨(blk_cell BK318.out 0).trans rfl, (blk_cell BK318.out 1).trans rfl, (blk_cell BK318.out 2).trans rfl⟩ (fun hHeld => ?_)
   clear hK K
   refine norm_ (a' := ?_) ?_ ?_
   rotate_left
   · show Act.put _ (some 25) _ = _
     exact zAct
   refine pure_ (i := 5) (N := some 26) (v := ?_) (a' := ?_) (bl 9 63) rfl rfl (any_of HT_.out (by kernel_rfl)) (fun _ _ _ h => h) (Or.inl ⟨by rfl, ?_⟩) ?_ ?_
   rotate_left
   · exact zEv
   rotate_left
   · exact zAct
   refine pure_ (i := 6) (N := some 27) (v := ?_) (a' := ?_) (bl 9 127) rfl rfl (any_of HT_.out (by kernel_rfl)) (fun _ _ _ h => h) (Or.inl ⟨by rfl, ?_⟩) ?_ ?_
   rotate_left
   · exact zEv
   rotate_left
   · exact zAct
   refine pure_ (i := 7) (N := some 28) (v := ?_) (a' := ?_) (bl 9 255) rfl rfl (any_of HT_.out (by kernel_rfl)) (fun _ _ _ h => h) (Or.inl ⟨by rfl, ?_⟩) ?_ ?_
   rotate_left
   · exact zEv
   rotate_left
   · exact zAct
   refine last_ (i := 8) (N := none) (bl 9 511) rfl rfl (one_of HT_.out (by kernel_rfl)) (by decide) (fun K hK => ?_)
   refine skip_ (w1 := ?_) (by rfl) rfl ?_ ?_
   rotate_left
   · go_simp
     rfl
   refine hK.out _ _ ?_
   clear hK K
   refine done_ (done_of HT_.out (by kernel_rfl)) ?_
   have n0_ : Aside0 (Kd.N k30 30 (w22.setCell ⟨go10, (t325 : Int).toNat * 5 + 2, none⟩ (.int .i64 (wrap64 (t329 - 1)))) w.heap.size (fun k_ => (w.heap.size ≤ k_) ∧ k_ ≠ gb318 ∧ k_ ≠ gb319 ∧ k_ ≠ g) (.slice (some ⟨go10, 0, none⟩) t322.length co18) y331) := ⟨by (with_reducible repeat (first | apply Kd.N_alloc | apply Kd.N_drewN | apply Kd.N_drew)); exact HQ23.out⟩
   have n1_ : Aside0 ((w22.setCell ⟨go10, (t325 : Int).toNat * 5 + 2, none⟩ (.int .i64 (wrap64 (t329 - 1)))).heap[gb318]? = some (.cells #[.int .i64 t320, .int .i64 t321, .slice (some ⟨go10, 0, none⟩) t322.length co18] 25 (0, 0))) := ⟨z9⟩
   have n2_ : Aside0 ((w22.setCell ⟨go10, (t325 : Int).toNat * 5 + 2, none⟩ (.int .i64 (wrap64 (t329 - 1)))).heap[gb319]? = some (.cells #[.int .i64 0, .int .i64 0, .slice none 0 0] 25 (0, 0))) := ⟨z8⟩
   have n3_ : Aside0 (IsS66 w0 (w22.setCell ⟨go10, (t325 : Int).toNat * 5 + 2, none⟩ (.int .i64 (wrap64 (t329 - 1)))) g s0_0 t330) := ⟨zHI0⟩
   have n4_ : Aside0 (KeepBut w (w22.setCell ⟨go10, (t325 : Int).toNat * 5 + 2, none⟩ (.int .i64 (wrap64 (t329 - 1)))) g none) := ⟨zHK⟩
   have n5_ : Aside0 (Below w0.heap.size w0 (w22.setCell ⟨go10, (t325 : Int).toNat * 5 + 2, none⟩ (.int .i64 (wrap64 (t329 - 1))))) := ⟨zHB⟩
   (try clear HO324); (try clear BK318); (try clear BK319); (try clear HI0); (try clear HK); (try clear HB)
   generalize (w22.setCell ⟨go10, (t325 : Int).toNat * 5 + 2, none⟩ (.int .i64 (wrap64 (t329 - 1)))) = w24 at n0_ n1_ n2_ n3_ n4_ n5_ ⊢
   have HO324 := n0_
   have BK318 := n1_
   have BK319 := n2_
   have HI0 := n3_
   have HK := n4_
   have HB := n5_
   clear n0_ n1_ n2_ n3_ n4_ n5_
   obtain ⟨_, _, _, _, _, _⟩ := cells3 BK318.out
   have hnb26 := NB319_0.out
   have hnc26 := NB0_319.out
   obtain ⟨_, _, _, _, _, _⟩ := cells3 BK319.out
   try go_wp2
   refine bodyPost_ret (results_cell_row rfl _ _ gb319 25 #[.int .i64 t320, .int .i64 t321, .slice (some ⟨go10, 0, none⟩) t322.length co18] (0, 0) _ rfl (zK) Try.underlying25 rfl (by kernel_rfl)) rfl ?_
   exact ⟨_, z10, by (with_reducible repeat (first | apply Kd.N_alloc | apply Kd.N_drewN | apply Kd.N_drew)); exact Kd.N_mono (Kd.N_far (p := ⟨gb319, 2, none⟩) (Kd.N_far (p := ⟨gb319, 1, none⟩) (Kd.N_far (p := ⟨gb319, 0, none⟩) (Kd.N_mono HO324.out (fun k_ hk => (⟨hk, hk.2.2.1⟩ : _ ∧ k_ ≠ gb319))) (fun _ hk => hk.2) (.int .i64 t320)) (fun _ hk => hk.2) (.int .i64 t321)) (fun _ hk => hk.2) (.slice (some ⟨go10, 0, none⟩) t322.length co18)) (fun _ hk => hk.1.1), zHI0, zHB, zHK⟩
 rw [if_neg c6] at H
 have c6b0 : (t327 == 0) = false := beq_eq_false_iff_ne.mpr c6
 have c6b1 : (t327 != 0) = true := bne_iff_ne.mpr c6
 by_cases c28 : t327 = 1
 · rw [if_pos c28] at H
   have c28b0 : (t327 == 1) = true := beq_iff_eq.mpr c28
   have c28b1 : (t327 != 1) = false := bne_eq_false_iff_eq.mpr c28
   clear c28
   obtain ⟨⟨t332, t333⟩, A29, H⟩ := bnd H
   dsimp only at H
   by_cases c30 : 0 ≤ t325
   rotate_left
   · rw [if_neg c30] at H
     exact absurd H (by simp)
   rw [if_pos c30] at H
   have c30b0 := decide_eq_true c30
   clear c30
   by_cases c31 : t325 < (t322.length : Int)
   rotate_left
   · rw [if_neg c31] at H
     exact absurd H (by simp)
   rw [if_pos c31] at H
   have c31b0 := decide_eq_true c31
   clear c31
   obtain ⟨y334, hy_⟩ : ∃ y_ : List (S30), y_ = (t322.set (t325 : Int).toNat (⟨(rd_T30 t322 t325).f0, wrap64 (t332 - 1), (rd_T30 t322 t325).f2, (rd_T30 t322 t325).f3, (rd_T30 t322 t325).f4⟩ : S30)) := ⟨_, rfl⟩
   replace H : (some (t320, t321, y334, t333)) = some (r1, r2, r3, r4) := zy
   have Ny334 := Ax hy_
   clear hy_
   simp only [Option.some.injEq, Prod.mk.injEq] at H
   obtain ⟨rfl, rfl, rfl, rfl⟩ := H
   go_enter Try.func40, Try.ntmps40
   try go_wp2_with (first | ((with_reducible refine gate_dst (N := 3) rfl ?_); refine box_event ?hg (N := 3) ?hd (cs := #[.int .i64 a1_0, .int .i64 a1_1, .slice A1_2 l1_2.length c1_2]) (t := 25) ?hr ?_; (case hd => rfl); (case hg => rfl); (case hr => first | (go_simp; done) | (go_simp; rfl)); intro gb318 hg w33 hbox hb; replace HB := Ax (below_step (zHB) hb); have BK318 := Ax (hbox); have GW318 := Ax ((z1 : w.heap.size ≤ gb318)); have GE318 := Ax ((Nat.le_trans HW0.out (z1 : w.heap.size ≤ gb318) : w0.heap.size ≤ gb318)); replace HK := Ax (KeepBut.trans (zHK) (KeepBut.of_below hb g none) (.inl rfl)); have NB0_318 := Ax ((z5 : g ≠ gb318)); have NB318_0 := Ax ((z6 : gb318 ≠ g)); replace HI0 := Ax (IsS66.below (zHI0) hb); clear hb hbox hg) | ((with_reducible refine gate_dst (N := 4) rfl ?_); refine box_event ?hg (N := 4) ?hd (cs := #[.int .i64 0, .int .i64 0, .slice none 0 0]) (t := 25) ?hr ?_; (case hd => rfl); (case hg => rfl); (case hr => first | (go_simp; done) | (go_simp; rfl)); intro gb319 hg w34 hbox hb; replace HB := Ax (below_step (zHB) hb); have BK319 := Ax (hbox); have GW319 := Ax ((z1 : w.heap.size ≤ gb319)); have GE319 := Ax ((Nat.le_trans HW0.out (z1 : w.heap.size ≤ gb319) : w0.heap.size ≤ gb319)); replace HK := Ax (KeepBut.trans (zHK) (KeepBut.of_below hb g none) (.inl rfl)); have NB318_319 := Ax ((z11 : gb318 ≠ gb319)); have NB319_318 := Ax ((z12 : gb319 ≠ gb318)); replace BK318 := Ax (blk_below (g := gb318) (zK) hb); have NB0_319 := Ax ((z5 : g ≠ gb319)); have NB319_0 := Ax ((z6 : gb319 ≠ g)); replace HI0 := Ax (IsS66.below (zHI0) hb); clear hb hbox hg; have hnb35 := NB318_319.out; have hnc35 := NB319_318.out; have hnb36 := NB318_0.out; have hnc36 := NB0_318.out; obtain ⟨_, _, _, _, _, _⟩ := cells3 BK318.out) | ((with_reducible refine gate_callee (f := 51) rfl ?_); refine goesL_ (some 7) rfl rfl Try.func51 (by kernel_rfl) rfl #[.agg #[.int .i64 a1_0, .int .i64 a1_1, .slice A1_2 l1_2.length c1_2]] rfl (z0) ?_; (with_reducible refine (spec_l2Copy.calls k a1_0 a1_1 _ _ l1_2 t320 t321 t322 _ ?side1 ?side2 A3.out).mono ?_); (case side1 => exact Kd.C_foot_now HR1_2.out (zHK)); (case side2 => exact HC1_2.out); rintro e w38 ⟨v323, rfl, ho0, hb⟩; refine ⟨_, rfl, ?_⟩; have HO324 := Ax (Kd.N_lower (Kd.N_mono (ok' := fun k_ => (w.heap.size ≤ k_) ∧ k_ ≠ gb318 ∧ k_ ≠ gb319 ∧ k_ ≠ g) (Kd.S_N (Kd.S_bound ho0)) (fun k_ hk_ => ⟨(Nat.le_trans (keep_size (w := w) (g := g) (row := none) (zHK)) hk_.2.1), (Kd.freshB (g := gb318) (o := .cells #[.int .i64 a1_0, .int .i64 a1_1, .slice A1_2 l1_2.length c1_2] 25 (0, 0)) (zK) k_ hk_.2.1), (Kd.freshB (g := gb319) (o := .cells #[.int .i64 0, .int .i64 0, .slice none 0 0] 25 (0, 0)) (zK) k_ hk_.2.1), (IsS66.fresh (zHI0) k_ hk_.2.1)⟩)) (keep_size (w := w) (g := g) (row := none) (zHK))); replace BK318 := Ax (blk_below (g := gb318) (zK) hb); replace BK319 := Ax (blk_below (g := gb319) (zK) hb); replace HK := Ax (KeepBut.trans (zHK) (KeepBut.of_below hb g none) (.inl rfl)); replace HB := Ax (below_step (zHB) hb); replace HI0 := Ax (IsS66.below (zHI0) hb); (try clear hb); (try clear hb2); (try clear hk); (try clear hi); (try clear ho0); obtain ⟨_, _, _, _, _, _⟩ := cells3 BK318.out; obtain ⟨Ao40, co40, eo40⟩ := Kd.N_slice HO324.out; subst eo40) | ((with_reducible refine gate_callee (f := 39) rfl ?_); refine goesL_ (some 12) rfl rfl Try.func39 (by kernel_rfl) rfl #[.pointer (some ⟨g, 0, none⟩), .int .i64 (t322.length : Int)] rfl (z0) ?_; (with_reducible refine (spec_l6Rd_pick.calls k g s0_0 s0_1 (t322.length : Int) t325 t326 w0 _ ?side1 ?side2 A4.out).mono ?_); (case side1 => exact zHI0); (case side2 => exact zHB); rintro e w41 ⟨rfl, hi, hb, hk⟩; refine ⟨_, rfl, ?_⟩; replace BK318 := Ax (KeepBut.blk hk (g' := gb318) (o := .cells #[.int .i64 t320, .int .i64 t321, .slice Ao40 t322.length co40] 25 (0, 0)) (zK) NB318_0.out (by simp)); replace BK319 := Ax (KeepBut.blk hk (g' := gb319) (o := .cells #[.int .i64 0, .int .i64 0, .slice none 0 0] 25 (0, 0)) (zK) NB319_0.out (by simp)); replace HO324 := Ax (Kd.N_mono (Kd.N_keep (Kd.N_mono (ok := fun k_ => (((w.heap.size ≤ k_)) ∧ (k_ ≠ gb318 ∧ (k_ ≠ gb319 ∧ k_ ≠ g)))) (by (with_reducible repeat (first | apply Kd.N_alloc | apply Kd.N_drewN | apply Kd.N_drew)); exact (Kd.N_mono (Kd.N_far (p := ⟨gb318, 2, none⟩) (Kd.N_far (p := ⟨gb318, 1, none⟩) (Kd.N_far (p := ⟨gb318, 0, none⟩) (Kd.N_mono HO324.out (fun k_ hk => (⟨hk, hk.2.1⟩ : _ ∧ k_ ≠ gb318))) (fun _ hk => hk.2) (.int .i64 t320)) (fun _ hk => hk.2) (.int .i64 t321)) (fun _ hk => hk.2) (.slice Ao40 t322.length co40)) (fun _ h_ => h_.1))) (fun k_ hk_ => (⟨hk_, hk_.2.2.2⟩ : _ ∧ k_ ≠ g))) hk (fun _ h => h.2)) (fun _ h => h.1)); replace HK := Ax (KeepBut.trans (zHK) hk (.inl rfl)); replace HB := Ax (hb); replace HI0 := Ax (hi); (try clear hb); (try clear hb2); (try clear hk); (try clear hi)) | ((with_reducible refine gate_callee (f := 39) rfl ?_); refine goesL_ (some 14) rfl rfl Try.func39 (by kernel_rfl) rfl #[.pointer (some ⟨g, 0, none⟩), .int .i64 7] rfl (z0) ?_; (with_reducible refine (spec_l6Rd_pick.calls k g s0_0 t326 7 t327 t328 w0 _ ?side1 ?side2 A5.out).mono ?_); (case side1 => exact zHI0); (case side2 => exact zHB); rintro e w42 ⟨rfl, hi, hb, hk⟩; refine ⟨_, rfl, ?_⟩; replace BK318 := Ax (KeepBut.blk hk (g' := gb318) (o := .cells #[.int .i64 t320, .int .i64 t321, .slice Ao40 t322.length co40] 25 (0, 0)) (zK) NB318_0.out (by simp)); replace BK319 := Ax (KeepBut.blk hk (g' := gb319) (o := .cells #[.int .i64 0, .int .i64 0, .slice none 0 0] 25 (0, 0)) (zK) NB319_0.out (by simp)); replace HO324 := Ax (Kd.N_mono (Kd.N_keep (Kd.N_mono (ok := fun k_ => (((w.heap.size ≤ k_)) ∧ (k_ ≠ gb318 ∧ (k_ ≠ gb319 ∧ k_ ≠ g)))) (z3) (fun k_ hk_ => (⟨hk_, hk_.2.2.2⟩ : _ ∧ k_ ≠ g))) hk (fun _ h => h.2)) (fun _ h => h.1)); replace HK := Ax (KeepBut.trans (zHK) hk (.inl rfl)); replace HB := Ax (hb); replace HI0 := Ax (hi); (try clear hb); (try clear hb2); (try clear hk); (try clear hi)))
   replace HO324 := Ax (Kd.N_drew HO324.out)
   replace BK318 := Ax (blk_drew BK318.out)
   replace BK319 := Ax (blk_drew BK319.out)
   replace HI0 := Ax (IsS66.drew HI0.out)
   replace HK := Ax (keep_drew HK.out)
   replace HB := Ax (below_drew1 HB.out)
   refine start_ (n := 9) (S := fun w' => w'.cell? ⟨gb318, 0, none⟩ = some (.int .i64 t320) ∧ w'.cell? ⟨gb318, 1, none⟩ = some (.int .i64 t321) ∧ w'.cell? ⟨gb318, 2, none⟩ = some (.slice Ao40 t322.length co40)) (ds := [8]) #[false, false, false, false, false, false, false, false, false] (by kernel_rfl) rfl rfl ⟨(blk_cell BK318.out 0).trans rfl, (blk_cell BK318.out 1).trans rfl, (blk_cell BK318.out 2).trans rfl⟩ (fun hHeld => ?_); refine with_tabW spec_l71Spoil.tab8 spec_l71Spoil.bits8 (fun HT_ HW_ => ?_)
   generalize w42.drew = w43 at HO324 BK318 BK319 HI0 HK HB hHeld ⊢
   refine pure_ (i := 0) (N := some 31) (v := ?_) (a' := ?_) (bl 9 1) rfl rfl (any_of HT_.out (by kernel_rfl)) (fun _ _ _ h => h) (Or.inl ⟨by rfl, ?_⟩) ?_ ?_
   rotate_left
   · exact zEv
   rotate_left
   · exact zAct
   refine pure_ (i := 2) (N := some 33) (v := ?_) (a' := ?_) (bl 9 5) rfl rfl (any_of HT_.out (by kernel_rfl)) (fun _ _ _ h => h) (Or.inl ⟨by rfl, ?_⟩) ?_ ?_
   rotate_left
   · exact zEv
   rotate_left
   · exact zAct
   refine pure_ (i := 3) (N := some 34) (v := ?_) (a' := ?_) (bl 9 13) rfl rfl (any_of HT_.out (by kernel_rfl)) (fun _ _ _ h => h) (Or.inl ⟨by rfl, ?_⟩) ?_ ?_
   rotate_left
   · exact zEv
   rotate_left
   · exact zAct
   refine take_ (i := 1) (N := some 32) (v := ?_) (a' := ?_) (bl 9 15) rfl rfl (take_ofW HT_.out HW_.out (by kernel_rfl)) (fun _ _ _ h => h) (Or.inl ⟨by rfl, ?_⟩) hHeld ?_ ?_
   rotate_left
   · rintro w' ⟨s0, s1, s2⟩
     go_simp
     with_reducible rfl
   rotate_left
   · exact zAct
   refine one_ (i := 4) (N := some 35) (bl 9 31) rfl rfl (one_of HT_.out (by kernel_rfl)) (by decide) (fun K hK => ?_)
   refine goes_ Try.func39 (by kernel_rfl) rfl #[.pointer (some ⟨g, 0, none⟩), .int .i64 6] (by rfl) rfl rfl (z0) ?_
   with_reducible refine (spec_l6Rd_pick.calls k g s0_0 t328 6 t332 t333 w0 _ ?side1 ?side2 A29.out).mono ?_
   (case side1 => exact zHI0)
   (case side2 => exact zHB)
   rintro e w44 ⟨rfl, hi, hb, hk⟩
   refine ⟨_, rfl, ?_⟩
   replace BK318 := Ax (KeepBut.blk hk (g' := gb318) (o := .cells #[.int .i64 t320, .int .i64 t321, .slice Ao40 t322.length co40] 25 (0, 0)) (zK) NB318_0.out (by simp))
   replace BK319 := Ax (KeepBut.blk hk (g' := gb319) (o := .cells #[.int .i64 0, .int .i64 0, .slice none 0 0] 25 (0, 0)) (zK) NB319_0.out (by simp))
   replace HO324 := Ax (Kd.N_mono (Kd.N_keep (Kd.N_mono (ok := fun k_ => (((w.heap.size ≤ k_)) ∧ (k_ ≠ gb318 ∧ (k_ ≠ gb319 ∧ k_ ≠ g)))) (z3) (fun k_ hk_ => (⟨hk_, hk_.2.2.2⟩ : _ ∧ k_ ≠ g))) hk (fun _ h => h.2)) (fun _ h => h.1))
   replace HK := Ax (KeepBut.trans (zHK) hk (.inl rfl))
   replace HB := Ax (hb)
   replace HI0 := Ax (hi)
   (try clear hb); (try clear hk); (try clear hi)
   have p32 : 0 ≤ (t325 : Int) := of_decide_eq_true (z2)
   have q32 : (t325 : Int) < ((t322.length : Int) : Int) := of_decide_eq_true (z2)
   obtain ⟨go32, co32, eo32, gb32, gl32, cl32, HG32⟩ := Kd.N_form HO324.out (by omega)
   (first | cases eo32 | (injection eo32 with ea_ en_ ec_; (first | subst ea_ | (injection ea_ with ea_; subst ea_)); subst ec_; clear en_))
   have GB32 := Ax gb32
   have GG32 := Ax HG32
   clear gb32 gl32 HG32
   obtain ⟨ce32, hcl32, hM32, hcc32, hfr32⟩ := Kd.N_elem HO324.out z30 (t325 : Int) p32 q32
   obtain ⟨ua32_4, uc32_4, rfl, ul32_4, ge32_4⟩ := k30_openF hM32
   have hx32_0 : World.cell? _ ⟨go32, (t325 : Int).toNat * 5, none⟩ = some (.int .i64 ((rd_T30 t322 t325).f0)) := hcc32 0 _ rfl
   have hx32_1 : World.cell? _ ⟨go32, (t325 : Int).toNat * 5 + 1, none⟩ = some (.int .i64 ((rd_T30 t322 t325).f1)) := hcc32 1 _ rfl
   have hx32_2 : World.cell? _ ⟨go32, (t325 : Int).toNat * 5 + 2, none⟩ = some (.int .i64 ((rd_T30 t322 t325).f2)) := hcc32 2 _ rfl
   have hx32_3 : World.cell? _ ⟨go32, (t325 : Int).toNat * 5 + 3, none⟩ = some (.int .i64 ((rd_T30 t322 t325).f3)) := hcc32 3 _ rfl
   have hx32_4 : World.cell? _ ⟨go32, (t325 : Int).toNat * 5 + 4, none⟩ = some (.slice ua32_4 ((rd_T30 t322 t325).f4).length uc32_4) := hcc32 4 _ rfl
   have hf32_0 : World.frozen? _ ⟨go32, (t325 : Int).toNat * 5, none⟩ = false := hfr32 0
   have hf32_1 : World.frozen? _ ⟨go32, (t325 : Int).toNat * 5 + 1, none⟩ = false := hfr32 1
   have hf32_2 : World.frozen? _ ⟨go32, (t325 : Int).toNat * 5 + 2, none⟩ = false := hfr32 2
   have hf32_3 : World.frozen? _ ⟨go32, (t325 : Int).toNat * 5 + 3, none⟩ = false := hfr32 3
   have hf32_4 : World.frozen? _ ⟨go32, (t325 : Int).toNat * 5 + 4, none⟩ = false := hfr32 4
   clear hcl32 hcc32 hfr32 hM32
   replace p32 := eq_true p32
   replace q32 := eq_true q32
   have HN0_go32 := Ax (show g ≠ go32 from z13)
   have HX45 := Ax (show Kd.N k30 30 _ w.heap.size (fun k_ => (w.heap.size ≤ k_) ∧ k_ ≠ gb318 ∧ k_ ≠ gb319 ∧ k_ ≠ g) (.slice (some ⟨go32, 0, none⟩) t322.length co40) t322 from (Kd.N_mono (HO324.out) (fun k_ hk => ⟨hk.1, ⟨hk.2.1, ⟨hk.2.2.1, hk.2.2.2⟩⟩⟩)))
   obtain ⟨ce45, hcl45, hM45, hcc45, hfr45⟩ := Kd.N_elem HX45.out z30 (t325 : Int) (of_decide_eq_true (z2)) (z7)
   obtain ⟨ua45_4, uc45_4, rfl, ul45_4, ge45_4⟩ := k30_openF hM45
   have HP45 := (Kd.N_seg HX45.out (t325 : Int) (of_decide_eq_true (z2)) (z7) (seg := [.int .i64 (wrap64 (t332 - 1))]) (j := 1) hcl45 hcc45 (show 2 ≤ 5 from by decide) (x' := (⟨(rd_T30 t322 t325).f0, wrap64 (t332 - 1), (rd_T30 t322 t325).f2, (rd_T30 t322 t325).f3, (rd_T30 t322 t325).f4⟩ : S30)) (k30_mkF _ _ (⟨(rd_T30 t322 t325).f0, wrap64 (t332 - 1), (rd_T30 t322 t325).f2, (rd_T30 t322 t325).f3, (rd_T30 t322 t325).f4⟩ : S30) ul45_4 ge45_4) (fun _ hk => hk)).1
   rw [← Ny334.out] at HP45
   have HQ45 := Ax HP45
   clear hcl45 hcc45 hfr45 hM45 HP45
   refine hK.out _ _ ⟨(blk_cell BK318.out 0).trans rfl, (blk_cell BK318.out 1).trans rfl, (blk_cell BK318.out 2).trans rfl⟩ (fun hHeld => ?_)
   clear hK K
   refine norm_ (a' := ?_) ?_ ?_
   rotate_left
   · show Act.put _ (some 35) _ = _
     exact zAct
   refine pure_ (i := 5) (N := some 36) (v := ?_) (a' := ?_) (bl 9 63) rfl rfl (any_of HT_.out (by kernel_rfl)) (fun _ _ _ h => h) (Or.inl ⟨by rfl, ?_⟩) ?_ ?_
   rotate_left
   · exact zEv
   rotate_left
   · exact zAct
   refine pure_ (i := 6) (N := some 37) (v := ?_) (a' := ?_) (bl 9 127) rfl rfl (any_of HT_.out (by kernel_rfl)) (fun _ _ _ h => h) (Or.inl ⟨by rfl, ?_⟩) ?_ ?_
   rotate_left
   · exact zEv
   rotate_left
   · exact zAct
   refine pure_ (i := 7) (N := some 38) (v := ?_) (a' := ?_) (bl 9 255) rfl rfl (any_of HT_.out (by kernel_rfl)) (fun _ _ _ h => h) (Or.inl ⟨by rfl, ?_⟩) ?_ ?_
   rotate_left
   · exact zEv
   rotate_left
   · exact zAct
   refine last_ (i := 8) (N := none) (bl 9 511) rfl rfl (one_of HT_.out (by kernel_rfl)) (by decide) (fun K hK => ?_)
   refine skip_ (w1 := ?_) (by rfl) rfl ?_ ?_
   rotate_left
   · go_simp
     rfl
   refine hK.out _ _ ?_
   clear hK K
   refine done_ (done_of HT_.out (by kernel_rfl)) ?_
   have n0_ : Aside0 (Kd.N k30 30 (w44.setCell ⟨go32, (t325 : Int).toNat * 5 + 1, none⟩ (.int .i64 (wrap64 (t332 - 1)))) w.heap.size (fun k_ => (w.heap.size ≤ k_) ∧ k_ ≠ gb318 ∧ k_ ≠ gb319 ∧ k_ ≠ g) (.slice (some ⟨go32, 0, none⟩) t322.length co40) y334) := ⟨by (with_reducible repeat (first | apply Kd.N_alloc | apply Kd.N_drewN | apply Kd.N_drew)); exact HQ45.out⟩
   have n1_ : Aside0 ((w44.setCell ⟨go32, (t325 : Int).toNat * 5 + 1, none⟩ (.int .i64 (wrap64 (t332 - 1)))).heap[gb318]? = some (.cells #[.int .i64 t320, .int .i64 t321, .slice (some ⟨go32, 0, none⟩) t322.length co40] 25 (0, 0))) := ⟨z9⟩
   have n2_ : Aside0 ((w44.setCell ⟨go32, (t325 : Int).toNat * 5 + 1, none⟩ (.int .i64 (wrap64 (t332 - 1)))).heap[gb319]? = some (.cells #[.int .i64 0, .int .i64 0, .slice none 0 0] 25 (0, 0))) := ⟨z8⟩
   have n3_ : Aside0 (IsS66 w0 (w44.setCell ⟨go32, (t325 : Int).toNat * 5 + 1, none⟩ (.int .i64 (wrap64 (t332 - 1)))) g s0_0 t333) := ⟨zHI0⟩
   have n4_ : Aside0 (KeepBut w (w44.setCell ⟨go32, (t325 : Int).toNat * 5 + 1, none⟩ (.int .i64 (wrap64 (t332 - 1)))) g none) := ⟨zHK⟩
   have n5_ : Aside0 (Below w0.heap.size w0 (w44.setCell ⟨go32, (t325 : Int).toNat * 5 + 1, none⟩ (.int .i64 (wrap64 (t332 - 1))))) := ⟨zHB⟩
   (try clear HO324); (try clear BK318); (try clear BK319); (try clear HI0); (try clear HK); (try clear HB)
   generalize (w44.setCell ⟨go32, (t325 : Int).toNat * 5 + 1, none⟩ (.int .i64 (wrap64 (t332 - 1)))) = w46 at n0_ n1_ n2_ n3_ n4_ n5_ ⊢
   have HO324 := n0_
   have BK318 := n1_
   have BK319 := n2_
   have HI0 := n3_
   have HK := n4_
   have HB := n5_
   clear n0_ n1_ n2_ n3_ n4_ n5_
   obtain ⟨_, _, _, _, _, _⟩ := cells3 BK318.out
   have hnb48 := NB319_0.out
   have hnc48 := NB0_319.out
   obtain ⟨_, _, _, _, _, _⟩ := cells3 BK319.out
   try go_wp2
   refine bodyPost_ret (results_cell_row rfl _ _ gb319 25 #[.int .i64 t320, .int .i64 t321, .slice (some ⟨go32, 0, none⟩) t322.length co40] (0, 0) _ rfl (zK) Try.underlying25 rfl (by kernel_rfl)) rfl ?_
   exact ⟨_, z10, by (with_reducible repeat (first | apply Kd.N_alloc | apply Kd.N_drewN | apply Kd.N_drew)); exact Kd.N_mono (Kd.N_far (p := ⟨gb319, 2, none⟩) (Kd.N_far (p := ⟨gb319, 1, none⟩) (Kd.N_far (p := ⟨gb319, 0, none⟩) (Kd.N_mono HO324.out (fun k_ hk => (⟨hk, hk.2.2.1⟩ : _ ∧ k_ ≠ gb319))) (fun _ hk => hk.2) (.int .i64 t320)) (fun _ hk => hk.2) (.int .i64 t321)) (fun _ hk => hk.2) (.slice (some ⟨go32, 0, none⟩) t322.length co40)) (fun _ hk => hk.1.1), zHI0, zHB, zHK⟩
 rw [if_neg c28] at H
 have c28b0 : (t327 == 1) = false := beq_eq_false_iff_ne.mpr c28
 have c28b1 : (t327 != 1) = true := bne_iff_ne.mpr c28
 by_cases c50 : t327 = 2
 · rw [if_pos c50] at H
   have c50b0 : (t327 == 2) = true := beq_iff_eq.mpr c50
   have c50b1 : (t327 != 2) = false := bne_eq_false_iff_eq.mpr c50
   clear c50
   by_cases c51 : 0 ≤ t325
   rotate_left
   · rw [if_neg c51] at H
     exact absurd H (by simp)
   rw [if_pos c51] at H
   have c51b0 := eq_true c51
   have c51b1 := decide_eq_true c51
   clear c51
   by_cases c52 : t325 ≤ (t322.length : Int)
   rotate_left
   · rw [if_neg c52] at H
     exact absurd H (by simp)
   rw [if_pos c52] at H
   have c52b0 := eq_true c52
   have c52b1 := decide_eq_true c52
   clear c52
   obtain ⟨y335, hy_⟩ : ∃ y_ : List (S30), y_ = (t322.take (t325 : Int).toNat) := ⟨_, rfl⟩
   replace H : (if 0 ≤ (wrap64 (t325 + 1)) then (if (wrap64 (t325 + 1)) ≤ (t322.length : Int) then (some (t320, t321, (t322.eraseIdx (t325 : Int).toNat), t328)) else (none)) else (none)) = some (r1, r2, r3, r4) := zy
   have Ny335 := Ax hy_
   clear hy_
   obtain ⟨ji53, hji53⟩ : ∃ j_ : Int, (wrap64 (t325 + 1)) = j_ := ⟨_, rfl⟩
   replace H : (if 0 ≤ (ji53) then (if (ji53) ≤ (t322.length : Int) then (some (t320, t321, (t322.eraseIdx (t325 : Int).toNat), t328)) else (none)) else (none)) = some (r1, r2, r3, r4) := by first | (rw [hji53] at H; exact H) | (simp only [hji53] at H ⊢; exact H)
   (try rw [hji53] at A3)
   (try rw [hji53] at A4)
   (try rw [hji53] at A5)
   have hji53w : (IntKind.i64.wrap (t325 + 1)) = ji53 := (i64_w _).trans hji53
   by_cases c54 : 0 ≤ (ji53)
   rotate_left
   · rw [if_neg c54] at H
     exact absurd H (by simp)
   rw [if_pos c54] at H
   have c54b0 := eq_true c54
   have c54b1 := decide_eq_true c54
   clear c54
   by_cases c55 : (ji53) ≤ (t322.length : Int)
   rotate_left
   · rw [if_neg c55] at H
     exact absurd H (by simp)
   rw [if_pos c55] at H
   have c55b0 := eq_true c55
   have c55b1 := decide_eq_true c55
   clear c55
   obtain ⟨y340, hy_⟩ : ∃ y_ : List (S30), y_ = (t322.drop ((ji53) : Int).toNat) := ⟨_, rfl⟩
   replace H : (some (t320, t321, (t322.eraseIdx (t325 : Int).toNat), t328)) = some (r1, r2, r3, r4) := zy
   have Ny340 := Ax hy_
   clear hy_
   obtain ⟨y345, hy_⟩ : ∃ y_ : List (S30), y_ = (t322.eraseIdx (t325 : Int).toNat) := ⟨_, rfl⟩
   replace H : (some (t320, t321, y345, t328)) = some (r1, r2, r3, r4) := zy
   have Ny345 := Ax hy_
   clear hy_
   simp only [Option.some.injEq, Prod.mk.injEq] at H
   obtain ⟨rfl, rfl, rfl, rfl⟩ := H
   go_enter Try.func40, Try.ntmps40
   try go_wp2_with (first | ((with_reducible refine gate_dst (N := 3) rfl ?_); refine box_event ?hg (N := 3) ?hd (cs := #[.int .i64 a1_0, .int .i64 a1_1, .slice A1_2 l1_2.length c1_2]) (t := 25) ?hr ?_; (case hd => rfl); (case hg => rfl); (case hr => first | (go_simp; done) | (go_simp; rfl)); intro gb318 hg w56 hbox hb; replace HB := Ax (below_step (zHB) hb); have BK318 := Ax (hbox); have GW318 := Ax ((z1 : w.heap.size ≤ gb318)); have GE318 := Ax ((Nat.le_trans HW0.out (z1 : w.heap.size ≤ gb318) : w0.heap.size ≤ gb318)); replace HK := Ax (KeepBut.trans (zHK) (KeepBut.of_below hb g none) (.inl rfl)); have NB0_318 := Ax ((z5 : g ≠ gb318)); have NB318_0 := Ax ((z6 : gb318 ≠ g)); replace HI0 := Ax (IsS66.below (zHI0) hb); clear hb hbox hg) | ((with_reducible refine gate_dst (N := 4) rfl ?_); refine box_event ?hg (N := 4) ?hd (cs := #[.int .i64 0, .int .i64 0, .slice none 0 0]) (t := 25) ?hr ?_; (case hd => rfl); (case hg => rfl); (case hr => first | (go_simp; done) | (go_simp; rfl)); intro gb319 hg w57 hbox hb; replace HB := Ax (below_step (zHB) hb); have BK319 := Ax (hbox); have GW319 := Ax ((z1 : w.heap.size ≤ gb319)); have GE319 := Ax ((Nat.le_trans HW0.out (z1 : w.heap.size ≤ gb319) : w0.heap.size ≤ gb319)); replace HK := Ax (KeepBut.trans (zHK) (KeepBut.of_below hb g none) (.inl rfl)); have NB318_319 := Ax ((z11 : gb318 ≠ gb319)); have NB319_318 := Ax ((z12 : gb319 ≠ gb318)); replace BK318 := Ax (blk_below (g := gb318) (zK) hb); have NB0_319 := Ax ((z5 : g ≠ gb319)); have NB319_0 := Ax ((z6 : gb319 ≠ g)); replace HI0 := Ax (IsS66.below (zHI0) hb); clear hb hbox hg; have hnb58 := NB318_319.out; have hnc58 := NB319_318.out; have hnb59 := NB318_0.out; have hnc59 := NB0_318.out; obtain ⟨_, _, _, _, _, _⟩ := cells3 BK318.out) | ((with_reducible refine gate_callee (f := 51) rfl ?_); refine goesL_ (some 7) rfl rfl Try.func51 (by kernel_rfl) rfl #[.agg #[.int .i64 a1_0, .int .i64 a1_1, .slice A1_2 l1_2.length c1_2]] rfl (z0) ?_; (with_reducible refine (spec_l2Copy.calls k a1_0 a1_1 _ _ l1_2 t320 t321 t322 _ ?side1 ?side2 A3.out).mono ?_); (case side1 => exact Kd.C_foot_now HR1_2.out (zHK)); (case side2 => exact HC1_2.out); rintro e w61 ⟨v323, rfl, ho0, hb⟩; refine ⟨_, rfl, ?_⟩; have HO324 := Ax (Kd.N_lower (Kd.N_mono (ok' := fun k_ => (w.heap.size ≤ k_) ∧ k_ ≠ gb318 ∧ k_ ≠ gb319 ∧ k_ ≠ g) (Kd.S_N (Kd.S_bound ho0)) (fun k_ hk_ => ⟨(Nat.le_trans (keep_size (w := w) (g := g) (row := none) (zHK)) hk_.2.1), (Kd.freshB (g := gb318) (o := .cells #[.int .i64 a1_0, .int .i64 a1_1, .slice A1_2 l1_2.length c1_2] 25 (0, 0)) (zK) k_ hk_.2.1), (Kd.freshB (g := gb319) (o := .cells #[.int .i64 0, .int .i64 0, .slice none 0 0] 25 (0, 0)) (zK) k_ hk_.2.1), (IsS66.fresh (zHI0) k_ hk_.2.1)⟩)) (keep_size (w := w) (g := g) (row := none) (zHK))); replace BK318 := Ax (blk_below (g := gb318) (zK) hb); replace BK319 := Ax (blk_below (g := gb319) (zK) hb); replace HK := Ax (KeepBut.trans (zHK) (KeepBut.of_below hb g none) (.inl rfl)); replace HB := Ax (below_step (zHB) hb); replace HI0 := Ax (IsS66.below (zHI0) hb); (try clear hb); (try clear hb2); (try clear hk); (try clear hi); (try clear ho0); obtain ⟨_, _, _, _, _, _⟩ := cells3 BK318.out; obtain ⟨Ao63, co63, eo63⟩ := Kd.N_slice HO324.out; subst eo63) | ((with_reducible refine gate_callee (f := 39) rfl ?_); refine goesL_ (some 12) rfl rfl Try.func39 (by kernel_rfl) rfl #[.pointer (some ⟨g, 0, none⟩), .int .i64 (t322.length : Int)] rfl (z0) ?_; (with_reducible refine (spec_l6Rd_pick.calls k g s0_0 s0_1 (t322.length : Int) t325 t326 w0 _ ?side1 ?side2 A4.out).mono ?_); (case side1 => exact zHI0); (case side2 => exact zHB); rintro e w64 ⟨rfl, hi, hb, hk⟩; refine ⟨_, rfl, ?_⟩; replace BK318 := Ax (KeepBut.blk hk (g' := gb318) (o := .cells #[.int .i64 t320, .int .i64 t321, .slice Ao63 t322.length co63] 25 (0, 0)) (zK) NB318_0.out (by simp)); replace BK319 := Ax (KeepBut.blk hk (g' := gb319) (o := .cells #[.int .i64 0, .int .i64 0, .slice none 0 0] 25 (0, 0)) (zK) NB319_0.out (by simp)); replace HO324 := Ax (Kd.N_mono (Kd.N_keep (Kd.N_mono (ok := fun k_ => (((w.heap.size ≤ k_)) ∧ (k_ ≠ gb318 ∧ (k_ ≠ gb319 ∧ k_ ≠ g)))) (by (with_reducible repeat (first | apply Kd.N_alloc | apply Kd.N_drewN | apply Kd.N_drew)); exact (Kd.N_mono (Kd.N_far (p := ⟨gb318, 2, none⟩) (Kd.N_far (p := ⟨gb318, 1, none⟩) (Kd.N_far (p := ⟨gb318, 0, none⟩) (Kd.N_mono HO324.out (fun k_ hk => (⟨hk, hk.2.1⟩ : _ ∧ k_ ≠ gb318))) (fun _ hk => hk.2) (.int .i64 t320)) (fun _ hk => hk.2) (.int .i64 t321)) (fun _ hk => hk.2) (.slice Ao63 t322.length co63)) (fun _ h_ => h_.1))) (fun k_ hk_ => (⟨hk_, hk_.2.2.2⟩ : _ ∧ k_ ≠ g))) hk (fun _ h => h.2)) (fun _ h => h.1)); replace HK := Ax (KeepBut.trans (zHK) hk (.inl rfl)); replace HB := Ax (hb); replace HI0 := Ax (hi); (try clear hb); (try clear hb2); (try clear hk); (try clear hi)) | ((with_reducible refine gate_callee (f := 39) rfl ?_); refine goesL_ (some 14) rfl rfl Try.func39 (by kernel_rfl) rfl #[.pointer (some ⟨g, 0, none⟩), .int .i64 7] rfl (z0) ?_; (with_reducible refine (spec_l6Rd_pick.calls k g s0_0 t326 7 t327 t328 w0 _ ?side1 ?side2 A5.out).mono ?_); (case side1 => exact zHI0); (case side2 => exact zHB); rintro e w65 ⟨rfl, hi, hb, hk⟩; refine ⟨_, rfl, ?_⟩; replace BK318 := Ax (KeepBut.blk hk (g' := gb318) (o := .cells #[.int .i64 t320, .int .i64 t321, .slice Ao63 t322.length co63] 25 (0, 0)) (zK) NB318_0.out (by simp)); replace BK319 := Ax (KeepBut.blk hk (g' := gb319) (o := .cells #[.int .i64 0, .int .i64 0, .slice none 0 0] 25 (0, 0)) (zK) NB319_0.out (by simp)); replace HO324 := Ax (Kd.N_mono (Kd.N_keep (Kd.N_mono (ok := fun k_ => (((w.heap.size ≤ k_)) ∧ (k_ ≠ gb318 ∧ (k_ ≠ gb319 ∧ k_ ≠ g)))) (z3) (fun k_ hk_ => (⟨hk_, hk_.2.2.2⟩ : _ ∧ k_ ≠ g))) hk (fun _ h => h.2)) (fun _ h => h.1)); replace HK := Ax (KeepBut.trans (zHK) hk (.inl rfl)); replace HB := Ax (hb); replace HI0 := Ax (hi); (try clear hb); (try clear hb2); (try clear hk); (try clear hi)))
   replace HO324 := Ax (Kd.N_drew HO324.out)
   replace BK318 := Ax (blk_drew BK318.out)
   replace BK319 := Ax (blk_drew BK319.out)
   replace HI0 := Ax (IsS66.drew HI0.out)
   replace HK := Ax (keep_drew HK.out)
   replace HB := Ax (below_drew1 HB.out)
   have q67 : (t325 : Int) ≤ ((t322.length : Int) : Int) := of_decide_eq_true (z2)
   obtain ⟨i067, hi067, _, hsz67, _⟩ := info_parts info30
   have hroom67 : t322.length ≤ co63 := (Kd.N_reads' HO324.out).2.1
   have hC67 : Kd.F k30 _ _ Ao63 t322.length t322 := (Kd.V_at (base := w.heap.size) (Kd.N_V HO324.out)).2.2
   have hcut67 := cut_to (P := Try.prog) 23 30 .i64 Try.underlying23 hi067 Ao63 t322.length co63 t325 (of_decide_eq_true (z2)) q67 hroom67
   have hr67 := Kd.F_take (m := (t325 : Int).toNat) hC67 (by omega)
   have hy67 : y335.length = (t325 : Int).toNat := (by rw [Ny335.out, List.length_take]; omega)
   rw [← Ny335.out] at hr67
   rw [← hy67] at hcut67
   have HO339 := Ax (show Kd.V k30 30 _ w.heap.size _ (.slice Ao63 y335.length co63) y335 from Kd.V_mk (by omega) hr67)
   have HC339 := Ax (show y335.length ≤ co63 from by omega)
   clear hr67 hC67 hroom67 hi067 hsz67
   have KY67 := Ax hy67
   clear hy67
   replace q67 := eq_true q67
   have q68 : ((ji53) : Int) ≤ ((t322.length : Int) : Int) := of_decide_eq_true (z2)
   obtain ⟨i068, hi068, _, hsz68, _⟩ := info_parts info30
   have hroom68 : t322.length ≤ co63 := (Kd.N_reads' HO324.out).2.1
   have hC68 : Kd.F k30 _ _ Ao63 t322.length t322 := (Kd.V_at (base := w.heap.size) (Kd.N_V HO324.out)).2.2
   have q068 : (0 : Int) ≤ ((ji53) : Int) := of_decide_eq_true (z2)
   have hcut68 := cut_from (P := Try.prog) 23 30 .i64 Try.underlying23 hi068 5 hsz68 Ao63 t322.length co63 (ji53) q068 q68
   have hr68 := Kd.F_cut (m := ((ji53) : Int).toNat) (c := co63) hC68 (by omega) hroom68
   obtain ⟨A68, hA68⟩ : ∃ A1, A1 = (if co63 = ((ji53) : Int).toNat then Ao63 else (Ao63 : Option Addr).map (·.add (((ji53) : Int).toNat * 5))) := ⟨_, rfl⟩
   obtain ⟨c68, hc68⟩ : ∃ c1, c1 = co63 - ((ji53) : Int).toNat := ⟨_, rfl⟩
   have hy68 : y340.length = t322.length - ((ji53) : Int).toNat := (by rw [Ny340.out, List.length_drop] <;> omega)
   rw [show (t322).drop ((ji53) : Int).toNat = y340 from Ny340.out.symm] at hr68
   replace hr68 : Kd.F k30 _ _ A68 y340.length y340 := (by rw [hA68]; exact hr68)
   rw [← hy68, ← hA68, ← hc68] at hcut68
   have HO344 := Ax (show Kd.V k30 30 _ w.heap.size _ (.slice A68 y340.length c68) y340 from Kd.V_mk (by rw [hy68, hc68]; exact Nat.sub_le_sub_right hroom68 _) hr68)
   have HC344 := Ax (show y340.length ≤ c68 from by rw [hy68, hc68]; exact Nat.sub_le_sub_right hroom68 _)
   clear hr68 hC68 hroom68 hi068 hsz68 hc68
   have KY68 := Ax hy68
   have KA68 := Ax hA68
   clear hy68 hA68
   replace q68 := eq_true q68
   obtain ⟨go70, co70, eo70, gb70, gl70, cl70, HG70⟩ := Kd.N_form HO324.out (by have hj_ : 0 ≤ (t325 : Int) := of_decide_eq_true (z2); have hl_ : (ji53 : Int) ≤ (t322.length : Int) := of_decide_eq_true (z2); have hh_ : (t325 : Int) ≤ (t322.length : Int) := of_decide_eq_true (z2); rw [← hji53] at hl_; unfold wrap64 at hl_; omega)
   (first | cases eo70 | (injection eo70 with ea_ en_ ec_; (first | subst ea_ | (injection ea_ with ea_; subst ea_)); subst ec_; clear en_))
   have GB70 := Ax gb70
   have GG70 := Ax HG70
   clear gb70 gl70 HG70
   refine start_ (n := 12) (S := fun w' => w'.cell? ⟨gb318, 0, none⟩ = some (.int .i64 t320) ∧ w'.cell? ⟨gb318, 1, none⟩ = some (.int .i64 t321) ∧ w'.cell? ⟨gb318, 2, none⟩ = some (.slice (some ⟨go70, 0, none⟩) t322.length co63)) (ds := [11]) #[false, false, false, false, false, false, false, false, false, false, false, false] (by kernel_rfl) rfl rfl ⟨(blk_cell BK318.out 0).trans rfl, (blk_cell BK318.out 1).trans rfl, (blk_cell BK318.out 2).trans rfl⟩ (fun hHeld => ?_); refine with_tabW spec_l71Spoil.tab10 spec_l71Spoil.bits10 (fun HT_ HW_ => ?_)
   generalize w65.drew = w66 at HO324 BK318 BK319 HI0 HK HB GG70 HO339 HO344 hHeld ⊢
   refine pure_ (i := 0) (N := some 41) (v := ?_) (a' := ?_) (bl 12 1) rfl rfl (any_of HT_.out (by kernel_rfl)) (fun _ _ _ h => h) (Or.inl ⟨by rfl, ?_⟩) ?_ ?_
   rotate_left
   · exact zEv
   rotate_left
   · exact zAct
   refine pure_ (i := 2) (N := some 43) (v := ?_) (a' := ?_) (bl 12 5) rfl rfl (any_of HT_.out (by kernel_rfl)) (fun _ _ _ h => h) (Or.inl ⟨by rfl, ?_⟩) ?_ ?_
   rotate_left
   · exact zEv
   rotate_left
   · exact zAct
   refine pure_ (i := 4) (N := some 45) (v := ?_) (a' := ?_) (bl 12 21) rfl rfl (any_of HT_.out (by kernel_rfl)) (fun _ _ _ h => h) (Or.inl ⟨by rfl, ?_⟩) ?_ ?_
   rotate_left
   · exact zEv
   rotate_left
   · exact zAct
   refine pure_ (i := 6) (N := some 47) (v := ?_) (a' := ?_) (bl 12 85) rfl rfl (any_of HT_.out (by kernel_rfl)) (fun _ _ _ h => h) (Or.inl ⟨by rfl, ?_⟩) ?_ ?_
   rotate_left
   · exact zEv
   rotate_left
   · exact zAct
   refine pure_ (i := 7) (N := some 48) (v := ?_) (a' := ?_) (bl 12 213) rfl rfl (any_of HT_.out (by kernel_rfl)) (fun _ _ _ h => h) (Or.inl ⟨by rfl, ?_⟩) ?_ ?_
   rotate_left
   · exact zEv
   rotate_left
   · exact zAct
   refine take_ (i := 1) (N := some 42) (v := ?_) (a' := ?_) (bl 12 215) rfl rfl (take_ofW HT_.out HW_.out (by kernel_rfl)) (fun _ _ _ h => h) (Or.inl ⟨by rfl, ?_⟩) hHeld ?_ ?_
   rotate_left
   · rintro w' ⟨s0, s1, s2⟩
     go_simp
     with_reducible rfl
   rotate_left
   · exact zAct
   refine pure_ (i := 3) (N := some 44) (v := ?_) (a' := ?_) (bl 12 223) rfl rfl (any_of HT_.out (by kernel_rfl)) (fun _ _ _ h => h) (Or.inl ⟨by rfl, ?_⟩) ?_ ?_
   rotate_left
   · exact zEv
   rotate_left
   · exact zAct
   refine take_ (i := 5) (N := some 46) (v := ?_) (a' := ?_) (bl 12 255) rfl rfl (take_ofW HT_.out HW_.out (by kernel_rfl)) (fun _ _ _ h => h) (Or.inl ⟨by rfl, ?_⟩) hHeld ?_ ?_
   rotate_left
   · rintro w' ⟨s0, s1, s2⟩
     go_simp
     with_reducible rfl
   rotate_left
   · exact zAct
   refine pure_ (i := 8) (N := some 49) (v := ?_) (a' := ?_) (bl 12 511) rfl rfl (any_of HT_.out (by kernel_rfl)) (fun _ _ _ h => h) (Or.inl ⟨by rfl, ?_⟩) ?_ ?_
   rotate_left
   · exact zEv
   rotate_left
   · exact zAct
   refine one_ (i := 9) (N := some 50) (bl 12 1023) rfl rfl (one_of HT_.out (by kernel_rfl)) (by decide) (fun K hK => ?_)
   have hj_ : 0 ≤ (t325 : Int) := of_decide_eq_true (z2)
   have hl_ : (ji53 : Int) ≤ (t322.length : Int) := of_decide_eq_true (z2)
   have hh_ : (t325 : Int) ≤ (t322.length : Int) := of_decide_eq_true (z2)
   have hb_ := (Kd.N_reads' HO324.out).2.2.2.1
   have h0_ : (0 : Int) ≤ (ji53 : Int) := of_decide_eq_true (z2)
   have hy1_ := KY67.out
   have hk_ : (ji53 : Int).toNat = y335.length + 1 := (by have hw_ : (ji53 : Int) = t325 + 1 := (by have h00_ := h0_; rw [← hji53] at h00_ ⊢; unfold wrap64 at h00_ ⊢; omega); rw [hw_]; omega)
   refine Kd.N_delete_step k30 w.heap.size (by rfl) (.tmp 44) (.tmp 49) 23 30 rfl Try.underlying23 (by kernel_rfl) (g := go70) (n := t322.length) (c := co63) (k := y335.length) rfl rfl ?hA ?hm (z3) ?hk (Below.refl _ _) (keep_size (w := w) (g := g) (row := none) (zHK)) ?_
   (case hA => have ha_ := KA68.out; rw [hk_] at ha_; exact ha_)
   (case hm => have ha_ := KY68.out; omega)
   (case hk => omega)
   intro w69 ho hb hg
   clear hj_ hl_ hh_ hb_ hk_ h0_
   rw [hy1_, ← Ny345.out] at ho
   clear hy1_
   have hn_ : t322.length - 1 = y345.length := (by have := (Kd.N_reads' ho).1; omega)
   rw [hn_] at ho ⊢
   clear hn_
   replace BK318 := Ax (blk_grown (g := gb318) (zK) hg (Kd.N_ne HO324.out BK318.out (by decide)))
   replace BK319 := Ax (blk_grown (g := gb319) (zK) hg (Kd.N_ne HO324.out BK319.out (by decide)))
   replace HB := Ax (below_weaken (zHB) HL.out hb)
   replace HI0 := Ax (IsS66.grown (zHI0) hg (IsS66.own_neN HI0.out HO324.out (by decide)))
   replace HK := Ax (KeepBut.trans (zHK) (KeepBut.of_grown hg g) (Kd.N_base2 HO324.out))
   replace HO324 := Ax (ho)
   clear ho hb hg
   refine hK.out _ _ ⟨(blk_cell BK318.out 0).trans rfl, (blk_cell BK318.out 1).trans rfl, (blk_cell BK318.out 2).trans rfl⟩ (fun hHeld => ?_)
   clear hK K
   refine norm_ (a' := ?_) ?_ ?_
   rotate_left
   · show Act.put _ (some 50) _ = _
     exact zAct
   refine pure_ (i := 10) (N := some 51) (v := ?_) (a' := ?_) (bl 12 2047) rfl rfl (any_of HT_.out (by kernel_rfl)) (fun _ _ _ h => h) (Or.inl ⟨by rfl, ?_⟩) ?_ ?_
   rotate_left
   · exact zEv
   rotate_left
   · exact zAct
   refine last_ (i := 11) (N := none) (bl 12 4095) rfl rfl (one_of HT_.out (by kernel_rfl)) (by decide) (fun K hK => ?_)
   have hs71 : w69.cell? ⟨gb318, 2, none⟩ = some (.slice (some ⟨go70, 0, none⟩) t322.length co63) := (blk_cell BK318.out 2).trans rfl
   have hfs71 := blk_frozen BK318.out 2
   have hns71_1 := NB319_318.out
   have hms71_1 := NB318_319.out
   refine skip_ (w1 := ?_) (by rfl) rfl ?_ ?_
   rotate_left
   · go_simp
     rfl
   refine hK.out _ _ ?_
   clear hK K
   refine done_ (done_of HT_.out (by kernel_rfl)) ?_
   obtain ⟨_, _, _, _, _, _⟩ := cells3 BK318.out
   have hnb73 := NB319_0.out
   have hnc73 := NB0_319.out
   obtain ⟨_, _, _, _, _, _⟩ := cells3 BK319.out
   try go_wp2
   refine bodyPost_ret (results_cell_row rfl _ _ gb319 25 #[.int .i64 t320, .int .i64 t321, .slice (some ⟨go70, 0, none⟩) y345.length co63] (0, 0) _ rfl (zK) Try.underlying25 rfl (by kernel_rfl)) rfl ?_
   exact ⟨_, by first | rfl | (simp [errW_none, errW_some] <;> rfl) | (simp only [← hji53]; first | rfl | (simp [errW_none, errW_some] <;> rfl)) | (simp [*, errW_none, errW_some] <;> rfl), by (with_reducible repeat (first | apply Kd.N_alloc | apply Kd.N_drewN | apply Kd.N_drew)); exact Kd.N_mono (Kd.N_far (p := ⟨gb319, 2, none⟩) (Kd.N_far (p := ⟨gb319, 1, none⟩) (Kd.N_far (p := ⟨gb319, 0, none⟩) (Kd.N_far (p := ⟨gb318, 2, none⟩) (Kd.N_mono (Kd.N_mono HO324.out (fun k_ hk => (⟨hk, hk.2.1⟩ : _ ∧ k_ ≠ gb318))) (fun k_ hk => (⟨hk, hk.1.2.2.1⟩ : _ ∧ k_ ≠ gb319))) (fun _ hk => hk.1.2) (.slice (some ⟨go70, 0, none⟩) y345.length co63)) (fun _ hk => hk.2) (.int .i64 t320)) (fun _ hk => hk.2) (.int .i64 t321)) (fun _ hk => hk.2) (.slice (some ⟨go70, 0, none⟩) y345.length co63)) (fun _ hk => hk.1.1.1), zHI0, zHB, zHK⟩
 rw [if_neg c50] at H
 have c50b0 : (t327 == 2) = false := beq_eq_false_iff_ne.mpr c50
 have c50b1 : (t327 != 2) = true := bne_iff_ne.mpr c50
 by_cases c75 : t327 = 3
 · rw [if_pos c75] at H
   have c75b0 : (t327 == 3) = true := beq_iff_eq.mpr c75
   have c75b1 : (t327 != 3) = false := bne_eq_false_iff_eq.mpr c75
   clear c75
   by_cases c76 : 0 < (t322.length : Int)
   rotate_left
   · rw [if_neg c76] at H
     exact absurd H (by simp)
   rw [if_pos c76] at H
   have c76b0 := decide_eq_true c76
   have c76b1 : decide (0 < t322.length) = true := decide_eq_true (by omega)
   clear c76
   by_cases c77 : t322.length < 2513169434916
   rotate_left
   · rw [if_neg c77] at H
     exact absurd H (by simp)
   rw [if_pos c77] at H
   have LMc77 := Ax c77
   clear c77
   obtain ⟨y349, hy_⟩ : ∃ y_ : List (S30), y_ = (t322 ++ [(⟨(rd_T30 t322 0).f0, (rd_T30 t322 0).f1, (rd_T30 t322 0).f2, (rd_T30 t322 0).f3, (rd_T30 t322 0).f4⟩ : S30)]) := ⟨_, rfl⟩
   replace H : (some (t320, t321, y349, t328)) = some (r1, r2, r3, r4) := zy
   have Ny349 := Ax hy_
   clear hy_
   simp only [Option.some.injEq, Prod.mk.injEq] at H
   obtain ⟨rfl, rfl, rfl, rfl⟩ := H
   go_enter Try.func40, Try.ntmps40
   try go_wp2_with (first | ((with_reducible refine gate_dst (N := 3) rfl ?_); refine box_event ?hg (N := 3) ?hd (cs := #[.int .i64 a1_0, .int .i64 a1_1, .slice A1_2 l1_2.length c1_2]) (t := 25) ?hr ?_; (case hd => rfl); (case hg => rfl); (case hr => first | (go_simp; done) | (go_simp; rfl)); intro gb318 hg w78 hbox hb; replace HB := Ax (below_step (zHB) hb); have BK318 := Ax (hbox); have GW318 := Ax ((z1 : w.heap.size ≤ gb318)); have GE318 := Ax ((Nat.le_trans HW0.out (z1 : w.heap.size ≤ gb318) : w0.heap.size ≤ gb318)); replace HK := Ax (KeepBut.trans (zHK) (KeepBut.of_below hb g none) (.inl rfl)); have NB0_318 := Ax ((z5 : g ≠ gb318)); have NB318_0 := Ax ((z6 : gb318 ≠ g)); replace HI0 := Ax (IsS66.below (zHI0) hb); clear hb hbox hg) | ((with_reducible refine gate_dst (N := 4) rfl ?_); refine box_event ?hg (N := 4) ?hd (cs := #[.int .i64 0, .int .i64 0, .slice none 0 0]) (t := 25) ?hr ?_; (case hd => rfl); (case hg => rfl); (case hr => first | (go_simp; done) | (go_simp; rfl)); intro gb319 hg w79 hbox hb; replace HB := Ax (below_step (zHB) hb); have BK319 := Ax (hbox); have GW319 := Ax ((z1 : w.heap.size ≤ gb319)); have GE319 := Ax ((Nat.le_trans HW0.out (z1 : w.heap.size ≤ gb319) : w0.heap.size ≤ gb319)); replace HK := Ax (KeepBut.trans (zHK) (KeepBut.of_below hb g none) (.inl rfl)); have NB318_319 := Ax ((z11 : gb318 ≠ gb319)); have NB319_318 := Ax ((z12 : gb319 ≠ gb318)); replace BK318 := Ax (blk_below (g := gb318) (zK) hb); have NB0_319 := Ax ((z5 : g ≠ gb319)); have NB319_0 := Ax ((z6 : gb319 ≠ g)); replace HI0 := Ax (IsS66.below (zHI0) hb); clear hb hbox hg; have hnb80 := NB318_319.out; have hnc80 := NB319_318.out; have hnb81 := NB318_0.out; have hnc81 := NB0_318.out; obtain ⟨_, _, _, _, _, _⟩ := cells3 BK318.out) | ((with_reducible refine gate_callee (f := 51) rfl ?_); refine goesL_ (some 7) rfl rfl Try.func51 (by kernel_rfl) rfl #[.agg #[.int .i64 a1_0, .int .i64 a1_1, .slice A1_2 l1_2.length c1_2]] rfl (z0) ?_; (with_reducible refine (spec_l2Copy.calls k a1_0 a1_1 _ _ l1_2 t320 t321 t322 _ ?side1 ?side2 A3.out).mono ?_); (case side1 => exact Kd.C_foot_now HR1_2.out (zHK)); (case side2 => exact HC1_2.out); rintro e w83 ⟨v323, rfl, ho0, hb⟩; refine ⟨_, rfl, ?_⟩; have HO324 := Ax (Kd.N_lower (Kd.N_mono (ok' := fun k_ => (w.heap.size ≤ k_) ∧ k_ ≠ gb318 ∧ k_ ≠ gb319 ∧ k_ ≠ g) (Kd.S_N (Kd.S_bound ho0)) (fun k_ hk_ => ⟨(Nat.le_trans (keep_size (w := w) (g := g) (row := none) (zHK)) hk_.2.1), (Kd.freshB (g := gb318) (o := .cells #[.int .i64 a1_0, .int .i64 a1_1, .slice A1_2 l1_2.length c1_2] 25 (0, 0)) (zK) k_ hk_.2.1), (Kd.freshB (g := gb319) (o := .cells #[.int .i64 0, .int .i64 0, .slice none 0 0] 25 (0, 0)) (zK) k_ hk_.2.1), (IsS66.fresh (zHI0) k_ hk_.2.1)⟩)) (keep_size (w := w) (g := g) (row := none) (zHK))); replace BK318 := Ax (blk_below (g := gb318) (zK) hb); replace BK319 := Ax (blk_below (g := gb319) (zK) hb); replace HK := Ax (KeepBut.trans (zHK) (KeepBut.of_below hb g none) (.inl rfl)); replace HB := Ax (below_step (zHB) hb); replace HI0 := Ax (IsS66.below (zHI0) hb); (try clear hb); (try clear hb2); (try clear hk); (try clear hi); (try clear ho0); obtain ⟨_, _, _, _, _, _⟩ := cells3 BK318.out; obtain ⟨Ao85, co85, eo85⟩ := Kd.N_slice HO324.out; subst eo85) | ((with_reducible refine gate_callee (f := 39) rfl ?_); refine goesL_ (some 12) rfl rfl Try.func39 (by kernel_rfl) rfl #[.pointer (some ⟨g, 0, none⟩), .int .i64 (t322.length : Int)] rfl (z0) ?_; (with_reducible refine (spec_l6Rd_pick.calls k g s0_0 s0_1 (t322.length : Int) t325 t326 w0 _ ?side1 ?side2 A4.out).mono ?_); (case side1 => exact zHI0); (case side2 => exact zHB); rintro e w86 ⟨rfl, hi, hb, hk⟩; refine ⟨_, rfl, ?_⟩; replace BK318 := Ax (KeepBut.blk hk (g' := gb318) (o := .cells #[.int .i64 t320, .int .i64 t321, .slice Ao85 t322.length co85] 25 (0, 0)) (zK) NB318_0.out (by simp)); replace BK319 := Ax (KeepBut.blk hk (g' := gb319) (o := .cells #[.int .i64 0, .int .i64 0, .slice none 0 0] 25 (0, 0)) (zK) NB319_0.out (by simp)); replace HO324 := Ax (Kd.N_mono (Kd.N_keep (Kd.N_mono (ok := fun k_ => (((w.heap.size ≤ k_)) ∧ (k_ ≠ gb318 ∧ (k_ ≠ gb319 ∧ k_ ≠ g)))) (by (with_reducible repeat (first | apply Kd.N_alloc | apply Kd.N_drewN | apply Kd.N_drew)); exact (Kd.N_mono (Kd.N_far (p := ⟨gb318, 2, none⟩) (Kd.N_far (p := ⟨gb318, 1, none⟩) (Kd.N_far (p := ⟨gb318, 0, none⟩) (Kd.N_mono HO324.out (fun k_ hk => (⟨hk, hk.2.1⟩ : _ ∧ k_ ≠ gb318))) (fun _ hk => hk.2) (.int .i64 t320)) (fun _ hk => hk.2) (.int .i64 t321)) (fun _ hk => hk.2) (.slice Ao85 t322.length co85)) (fun _ h_ => h_.1))) (fun k_ hk_ => (⟨hk_, hk_.2.2.2⟩ : _ ∧ k_ ≠ g))) hk (fun _ h => h.2)) (fun _ h => h.1)); replace HK := Ax (KeepBut.trans (zHK) hk (.inl rfl)); replace HB := Ax (hb); replace HI0 := Ax (hi); (try clear hb); (try clear hb2); (try clear hk); (try clear hi)) | ((with_reducible refine gate_callee (f := 39) rfl ?_); refine goesL_ (some 14) rfl rfl Try.func39 (by kernel_rfl) rfl #[.pointer (some ⟨g, 0, none⟩), .int .i64 7] rfl (z0) ?_; (with_reducible refine (spec_l6Rd_pick.calls k g s0_0 t326 7 t327 t328 w0 _ ?side1 ?side2 A5.out).mono ?_); (case side1 => exact zHI0); (case side2 => exact zHB); rintro e w87 ⟨rfl, hi, hb, hk⟩; refine ⟨_, rfl, ?_⟩; replace BK318 := Ax (KeepBut.blk hk (g' := gb318) (o := .cells #[.int .i64 t320, .int .i64 t321, .slice Ao85 t322.length co85] 25 (0, 0)) (zK) NB318_0.out (by simp)); replace BK319 := Ax (KeepBut.blk hk (g' := gb319) (o := .cells #[.int .i64 0, .int .i64 0, .slice none 0 0] 25 (0, 0)) (zK) NB319_0.out (by simp)); replace HO324 := Ax (Kd.N_mono (Kd.N_keep (Kd.N_mono (ok := fun k_ => (((w.heap.size ≤ k_)) ∧ (k_ ≠ gb318 ∧ (k_ ≠ gb319 ∧ k_ ≠ g)))) (z3) (fun k_ hk_ => (⟨hk_, hk_.2.2.2⟩ : _ ∧ k_ ≠ g))) hk (fun _ h => h.2)) (fun _ h => h.1)); replace HK := Ax (KeepBut.trans (zHK) hk (.inl rfl)); replace HB := Ax (hb); replace HI0 := Ax (hi); (try clear hb); (try clear hb2); (try clear hk); (try clear hi)))
   replace HO324 := Ax (Kd.N_drew HO324.out)
   replace BK318 := Ax (blk_drew BK318.out)
   replace BK319 := Ax (blk_drew BK319.out)
   replace HI0 := Ax (IsS66.drew HI0.out)
   replace HK := Ax (keep_drew HK.out)
   replace HB := Ax (below_drew1 HB.out)
   have p348 : 0 ≤ (0 : Int) := (by omega)
   have q348 : 0 < (t322.length : Int) := of_decide_eq_true (z2)
   obtain ⟨ad348, A348_4, c348_4, e348, hx348_0, hx348_1, hx348_2, hx348_3, hx348_4, hl348_4, hi348_4⟩ := at_T30 (Kd.N_reads' HO324.out).2.2 0 p348 q348
   cases e348
   obtain ⟨ce348, hce348, hMe348, hcc348⟩ := Kd.N_get HO324.out z30 0 p348 (by first | exact q348 | exact of_decide_eq_true (z2) | (have e_ := (Kd.N_reads' HO324.out).1; omega))
   obtain ⟨ua348_4, uc348_4, rfl, ul348_4, ge348_4⟩ := k30_openF hMe348
   have hv348_4 := hcc348 4 _ rfl
   rw [add_field _ _ 4 (by omega)] at hv348_4
   replace hv348_4 := Option.some.inj (hv348_4.symm.trans hx348_4)
   injection hv348_4 with hva_ hvn_ hvc_
   rw [hva_] at ge348_4
   rw [hvc_] at ul348_4
   have HL348_4 := Ax (show Kd.V k61 61 _ w.heap.size _ _ ((rd_T30 t322 0).f4) from Kd.V_mk ul348_4 ge348_4)
   clear hva_ hvn_ hvc_ ge348_4 ul348_4
   clear hcc348 hce348
   have qi348 : (0 < t322.length) = True := eq_true (by omega)
   (try rw [show ((0 : Int)).toNat = 0 from rfl] at hx348_0)
   (try rw [show 0 * 5 = 0 from rfl] at hx348_0)
   (try rw [Addr.add_zero'] at hx348_0)
   (try rw [show ((0 : Int)).toNat = 0 from rfl] at hx348_1)
   (try rw [show 0 * 5 = 0 from rfl] at hx348_1)
   (try rw [Addr.add_zero'] at hx348_1)
   (try rw [show ((0 : Int)).toNat = 0 from rfl] at hx348_2)
   (try rw [show 0 * 5 = 0 from rfl] at hx348_2)
   (try rw [Addr.add_zero'] at hx348_2)
   (try rw [show ((0 : Int)).toNat = 0 from rfl] at hx348_3)
   (try rw [show 0 * 5 = 0 from rfl] at hx348_3)
   (try rw [Addr.add_zero'] at hx348_3)
   (try rw [show ((0 : Int)).toNat = 0 from rfl] at hx348_4)
   (try rw [show 0 * 5 = 0 from rfl] at hx348_4)
   (try rw [Addr.add_zero'] at hx348_4)
   have HR348_4 := Ax hi348_4
   have HC348_4 := Ax hl348_4
   clear hi348_4 hl348_4
   replace p348 := eq_true p348
   replace q348 := eq_true q348
   refine start_ (n := 10) (S := fun w' => w'.cell? ⟨gb318, 0, none⟩ = some (.int .i64 t320) ∧ w'.cell? ⟨gb318, 1, none⟩ = some (.int .i64 t321) ∧ w'.cell? ⟨gb318, 2, none⟩ = some (.slice (some ad348) t322.length co85) ∧ w'.cell? ad348 = some (.int .i64 ((rd_T30 t322 0).f0)) ∧ w'.cell? ⟨ad348.block, ad348.off + 1, none⟩ = some (.int .i64 ((rd_T30 t322 0).f1)) ∧ w'.cell? ⟨ad348.block, ad348.off + 2, none⟩ = some (.int .i64 ((rd_T30 t322 0).f2)) ∧ w'.cell? ⟨ad348.block, ad348.off + 3, none⟩ = some (.int .i64 ((rd_T30 t322 0).f3)) ∧ w'.cell? ⟨ad348.block, ad348.off + 4, none⟩ = some (.slice A348_4 ((rd_T30 t322 0).f4).length c348_4)) (ds := [7, 9]) #[false, false, false, false, false, false, false, false, false, false] (by kernel_rfl) rfl rfl ⟨(blk_cell BK318.out 0).trans rfl, (blk_cell BK318.out 1).trans rfl, (blk_cell BK318.out 2).trans rfl, hx348_0, hx348_1, hx348_2, hx348_3, hx348_4⟩ (fun hHeld => ?_); refine with_tabW spec_l71Spoil.tab12 spec_l71Spoil.bits12 (fun HT_ HW_ => ?_)
   generalize w87.drew = w88 at HO324 BK318 BK319 HI0 HK HB HL348_4 HR348_4 hx348_0 hx348_1 hx348_2 hx348_3 hx348_4 hHeld ⊢
   refine pure_ (i := 0) (N := some 54) (v := ?_) (a' := ?_) (bl 10 1) rfl rfl (any_of HT_.out (by kernel_rfl)) (fun _ _ _ h => h) (Or.inl ⟨by rfl, ?_⟩) ?_ ?_
   rotate_left
   · exact zEv
   rotate_left
   · exact zAct
   refine pure_ (i := 2) (N := some 56) (v := ?_) (a' := ?_) (bl 10 5) rfl rfl (any_of HT_.out (by kernel_rfl)) (fun _ _ _ h => h) (Or.inl ⟨by rfl, ?_⟩) ?_ ?_
   rotate_left
   · exact zEv
   rotate_left
   · exact zAct
   refine take_ (i := 1) (N := some 55) (v := ?_) (a' := ?_) (bl 10 7) rfl rfl (take_ofW HT_.out HW_.out (by kernel_rfl)) (fun _ _ _ h => h) (Or.inl ⟨by rfl, ?_⟩) hHeld ?_ ?_
   rotate_left
   · rintro w' ⟨s0, s1, s2, s3, s4, s5, s6, s7⟩
     go_simp
     with_reducible rfl
   rotate_left
   · exact zAct
   refine take_ (i := 3) (N := some 57) (v := ?_) (a' := ?_) (bl 10 15) rfl rfl (take_ofW HT_.out HW_.out (by kernel_rfl)) (fun _ _ _ h => h) (Or.inl ⟨by rfl, ?_⟩) hHeld ?_ ?_
   rotate_left
   · rintro w' ⟨s0, s1, s2, s3, s4, s5, s6, s7⟩
     go_simp
     with_reducible rfl
   rotate_left
   · exact zAct
   refine pure_ (i := 4) (N := some 58) (v := ?_) (a' := ?_) (bl 10 31) rfl rfl (any_of HT_.out (by kernel_rfl)) (fun _ _ _ h => h) (Or.inl ⟨by rfl, ?_⟩) ?_ ?_
   rotate_left
   · exact zEv
   rotate_left
   · exact zAct
   refine take_ (i := 5) (N := some 59) (v := ?_) (a' := ?_) (bl 10 63) rfl rfl (take_ofW HT_.out HW_.out (by kernel_rfl)) (fun _ _ _ h => h) (Or.inl ⟨by rfl, ?_⟩) hHeld ?_ ?_
   rotate_left
   · rintro w' ⟨s0, s1, s2, s3, s4, s5, s6, s7⟩
     go_simp
     with_reducible rfl
   rotate_left
   · exact zAct
   refine one_ (i := 6) (N := some 60) (bl 10 127) rfl rfl (one_of HT_.out (by kernel_rfl)) (by decide) (fun K hK => ?_)
   refine value_ (w1 := ?_) (v := ?_) (by rfl) rfl ?_ ?_
   rotate_left 2
   · go_simp
     constructor
     · rfl
     rfl
   refine hK.out _ _ ⟨(blk_cell (blk_alloc BK318.out _) 0).trans rfl, (blk_cell (blk_alloc BK318.out _) 1).trans rfl, (blk_cell (blk_alloc BK318.out _) 2).trans rfl, (World.cell?_alloc_lt _ _ _ (World.block_lt_of_cell? _ _ (hHeld.2.2.2.1))).trans (hHeld.2.2.2.1), (World.cell?_alloc_lt _ _ _ (World.block_lt_of_cell? _ _ (hHeld.2.2.2.2.1))).trans (hHeld.2.2.2.2.1), (World.cell?_alloc_lt _ _ _ (World.block_lt_of_cell? _ _ (hHeld.2.2.2.2.2.1))).trans (hHeld.2.2.2.2.2.1), (World.cell?_alloc_lt _ _ _ (World.block_lt_of_cell? _ _ (hHeld.2.2.2.2.2.2.1))).trans (hHeld.2.2.2.2.2.2.1), (World.cell?_alloc_lt _ _ _ (World.block_lt_of_cell? _ _ (hHeld.2.2.2.2.2.2.2))).trans (hHeld.2.2.2.2.2.2.2)⟩ (fun hHeld => ?_)
   clear hK K
   refine norm_ (a' := ?_) ?_ ?_
   rotate_left
   · show Act.put _ (some 60) _ = _
     exact zAct
   refine last_ (i := 7) (N := some 61) (bl 10 255) rfl rfl (one_of HT_.out (by kernel_rfl)) (by decide) (fun K hK => ?_)
   refine Kd.N_append_step k30 w.heap.size (by rfl) (.tmp 55) (.tmp 60) 23 30 (.agg #[(.int .i64 0), (.int .i64 0), (.int .i64 0), (.int .i64 0), (.slice none 0 0)]) 56 rfl Try.underlying23 info30 rfl (by decide) (by omega) (.slice (some ad348) t322.length co85) t322 (⟨(rd_T30 t322 0).f0, (rd_T30 t322 0).f1, (rd_T30 t322 0).f2, (rd_T30 t322 0).f3, (rd_T30 t322 0).f4⟩ : S30) [.int .i64 ((rd_T30 t322 0).f0), .int .i64 ((rd_T30 t322 0).f1), .int .i64 ((rd_T30 t322 0).f2), .int .i64 ((rd_T30 t322 0).f3), .slice A348_4 ((rd_T30 t322 0).f4).length c348_4] (fun k_ => (w.heap.size ≤ k_) ∧ k_ ≠ gb318 ∧ k_ ≠ gb319 ∧ k_ ≠ g) (fun k_ => ((fun k_ => (w.heap.size ≤ k_) ∧ k_ ≠ gb318 ∧ k_ ≠ gb319 ∧ k_ ≠ g)) k_ ∧ some k_ ≠ (.slice (some ad348) t322.length co85 : Value).ownBlock) rfl rfl ?aP (fun _ hk => hk) ?aF ?aO (Below.refl _ _) ?aS ?aL ?_
   (case aP => exact (k30_mkF _ _ (⟨(rd_T30 t322 0).f0, (rd_T30 t322 0).f1, (rd_T30 t322 0).f2, (rd_T30 t322 0).f3, (rd_T30 t322 0).f4⟩ : S30) (Kd.V_reads' (Kd.V_mono (ok' := (fun k_ => ((fun k_ => (w.heap.size ≤ k_) ∧ k_ ≠ gb318 ∧ k_ ≠ gb319 ∧ k_ ≠ g)) k_ ∧ some k_ ≠ (.slice (some ad348) t322.length co85 : Value).ownBlock)) (HL348_4.out) (fun k_ hk => ⟨⟨hk.1.1, ⟨hk.1.2.1, ⟨hk.1.2.2.1, hk.1.2.2.2⟩⟩⟩, hk.2⟩))).2.1 (Kd.V_F (Kd.V_mono (ok' := (fun k_ => ((fun k_ => (w.heap.size ≤ k_) ∧ k_ ≠ gb318 ∧ k_ ≠ gb319 ∧ k_ ≠ g)) k_ ∧ some k_ ≠ (.slice (some ad348) t322.length co85 : Value).ownBlock)) (HL348_4.out) (fun k_ hk => ⟨⟨hk.1.1, ⟨hk.1.2.1, ⟨hk.1.2.2.1, hk.1.2.2.2⟩⟩⟩, hk.2⟩)))))
   (case aF => exact (fun k_ hk => ⟨(Nat.le_trans (keep_size (w := w) (g := g) (row := none) (zHK)) hk), Kd.freshB (g := gb318) (o := .cells #[.int .i64 t320, .int .i64 t321, .slice (some ad348) t322.length co85] 25 (0, 0)) (zK) k_ hk, Kd.freshB (g := gb319) (o := .cells #[.int .i64 0, .int .i64 0, .slice none 0 0] 25 (0, 0)) (zK) k_ hk, IsS66.fresh (zHI0) k_ hk⟩))
   (case aO => exact (z3))
   (case aS => exact (keep_size (w := w) (g := g) (row := none) (zHK)))
   (case aL => have := LMc77.out; omega)
   intro v350 w89 ho hb hg hat
   rw [← Ny349.out] at ho
   replace BK318 := Ax (blk_grown (g := gb318) (zK) hg (Kd.N_ne HO324.out BK318.out (by decide)))
   replace BK319 := Ax (blk_grown (g := gb319) (zK) hg (Kd.N_ne HO324.out BK319.out (by decide)))
   replace HL348_4 := Ax (Kd.V_afterv (ok := (fun k_ => (w.heap.size ≤ k_) ∧ k_ ≠ gb318 ∧ k_ ≠ gb319 ∧ k_ ≠ g)) (by (with_reducible repeat (first | apply Kd.V_alloc | apply Kd.V_drewN | apply Kd.V_drew)); exact HL348_4.out) hg hat)
   replace HB := Ax (below_weaken (zHB) HL.out hb)
   replace HI0 := Ax (IsS66.grown (zHI0) hg (IsS66.own_neN HI0.out HO324.out (by decide)))
   replace HK := Ax (KeepBut.trans (zHK) (KeepBut.of_grown hg g) (Kd.N_base2 HO324.out))
   have HO351 := Ax (ho)
   clear HO324
   clear ho hb hg hat
   obtain ⟨Ao90, co90, eo90⟩ := Kd.N_slice HO351.out
   (first | subst eo90 | (injection eo90 with f1_ f2_ f3_; have f4_ := f1_.symm; have f5_ := f3_.symm; clear f1_ f2_ f3_; subst f4_; subst f5_))
   refine hK.out _ _ ?_
   clear hK K
   refine norm_ (a' := ?_) ?_ ?_
   rotate_left
   · show Act.put _ (some 61) _ = _
     exact zAct
   refine pure_ (i := 8) (N := some 62) (v := ?_) (a' := ?_) (bl 10 511) rfl rfl (any_of HT_.out (by kernel_rfl)) (fun _ _ _ h => h) (Or.inl ⟨by rfl, ?_⟩) ?_ ?_
   rotate_left
   · exact zEv
   rotate_left
   · exact zAct
   refine last_ (i := 9) (N := none) (bl 10 1023) rfl rfl (one_of HT_.out (by kernel_rfl)) (by decide) (fun K hK => ?_)
   have hs91 : w89.cell? ⟨gb318, 2, none⟩ = some (.slice (some ad348) t322.length co85) := (blk_cell BK318.out 2).trans rfl
   have hfs91 := blk_frozen BK318.out 2
   have hns91_1 := NB319_318.out
   have hms91_1 := NB318_319.out
   refine skip_ (w1 := ?_) (by rfl) rfl ?_ ?_
   rotate_left
   · go_simp
     rfl
   refine hK.out _ _ ?_
   clear hK K
   refine done_ (done_of HT_.out (by kernel_rfl)) ?_
   obtain ⟨_, _, _, _, _, _⟩ := cells3 BK318.out
   have hnb93 := NB319_0.out
   have hnc93 := NB0_319.out
   obtain ⟨_, _, _, _, _, _⟩ := cells3 BK319.out
   try go_wp2
   refine bodyPost_ret (results_cell_row rfl _ _ gb319 25 #[.int .i64 t320, .int .i64 t321, .slice Ao90 y349.length co90] (0, 0) _ rfl (zK) Try.underlying25 rfl (by kernel_rfl)) rfl ?_
   exact ⟨_, z10, by (with_reducible repeat (first | apply Kd.N_alloc | apply Kd.N_drewN | apply Kd.N_drew)); exact Kd.N_mono (Kd.N_far (p := ⟨gb319, 2, none⟩) (Kd.N_far (p := ⟨gb319, 1, none⟩) (Kd.N_far (p := ⟨gb319, 0, none⟩) (Kd.N_far (p := ⟨gb318, 2, none⟩) (Kd.N_mono (Kd.N_mono HO351.out (fun k_ hk => (⟨hk, hk.2.1⟩ : _ ∧ k_ ≠ gb318))) (fun k_ hk => (⟨hk, hk.1.2.2.1⟩ : _ ∧ k_ ≠ gb319))) (fun _ hk => hk.1.2) (.slice Ao90 y349.length co90)) (fun _ hk => hk.2) (.int .i64 t320)) (fun _ hk => hk.2) (.int .i64 t321)) (fun _ hk => hk.2) (.slice Ao90 y349.length co90)) (fun _ hk => hk.1.1.1), zHI0, zHB, zHK⟩
 rw [if_neg c75] at H
 have c75b0 : (t327 == 3) = false := beq_eq_false_iff_ne.mpr c75
 have c75b1 : (t327 != 3) = true := bne_iff_ne.mpr c75
 by_cases c95 : t327 = 4
 · rw [if_pos c95] at H
   have c95b0 : (t327 == 4) = true := beq_iff_eq.mpr c95
   have c95b1 : (t327 != 4) = false := bne_eq_false_iff_eq.mpr c95
   clear c95
   obtain ⟨⟨t352, t353⟩, A96, H⟩ := bnd H
   dsimp only at H
   simp only [Option.some.injEq, Prod.mk.injEq] at H
   obtain ⟨rfl, rfl, rfl, rfl⟩ := H
   go_enter Try.func40, Try.ntmps40
   go_wp2_with (first | ((with_reducible refine gate_dst (N := 3) rfl ?_); refine box_event ?hg (N := 3) ?hd (cs := #[.int .i64 a1_0, .int .i64 a1_1, .slice A1_2 l1_2.length c1_2]) (t := 25) ?hr ?_; (case hd => rfl); (case hg => rfl); (case hr => first | (go_simp; done) | (go_simp; rfl)); intro gb318 hg w97 hbox hb; replace HB := Ax (below_step (zHB) hb); have BK318 := Ax (hbox); have GW318 := Ax ((z1 : w.heap.size ≤ gb318)); have GE318 := Ax ((Nat.le_trans HW0.out (z1 : w.heap.size ≤ gb318) : w0.heap.size ≤ gb318)); replace HK := Ax (KeepBut.trans (zHK) (KeepBut.of_below hb g none) (.inl rfl)); have NB0_318 := Ax ((z5 : g ≠ gb318)); have NB318_0 := Ax ((z6 : gb318 ≠ g)); replace HI0 := Ax (IsS66.below (zHI0) hb); clear hb hbox hg) | ((with_reducible refine gate_dst (N := 4) rfl ?_); refine box_event ?hg (N := 4) ?hd (cs := #[.int .i64 0, .int .i64 0, .slice none 0 0]) (t := 25) ?hr ?_; (case hd => rfl); (case hg => rfl); (case hr => first | (go_simp; done) | (go_simp; rfl)); intro gb319 hg w98 hbox hb; replace HB := Ax (below_step (zHB) hb); have BK319 := Ax (hbox); have GW319 := Ax ((z1 : w.heap.size ≤ gb319)); have GE319 := Ax ((Nat.le_trans HW0.out (z1 : w.heap.size ≤ gb319) : w0.heap.size ≤ gb319)); replace HK := Ax (KeepBut.trans (zHK) (KeepBut.of_below hb g none) (.inl rfl)); have NB318_319 := Ax ((z11 : gb318 ≠ gb319)); have NB319_318 := Ax ((z12 : gb319 ≠ gb318)); replace BK318 := Ax (blk_below (g := gb318) (zK) hb); have NB0_319 := Ax ((z5 : g ≠ gb319)); have NB319_0 := Ax ((z6 : gb319 ≠ g)); replace HI0 := Ax (IsS66.below (zHI0) hb); clear hb hbox hg; have hnb99 := NB318_319.out; have hnc99 := NB319_318.out; have hnb100 := NB318_0.out; have hnc100 := NB0_318.out; obtain ⟨_, _, _, _, _, _⟩ := cells3 BK318.out) | ((with_reducible refine gate_callee (f := 51) rfl ?_); refine goesL_ (some 7) rfl rfl Try.func51 (by kernel_rfl) rfl #[.agg #[.int .i64 a1_0, .int .i64 a1_1, .slice A1_2 l1_2.length c1_2]] rfl (z0) ?_; (with_reducible refine (spec_l2Copy.calls k a1_0 a1_1 _ _ l1_2 t320 t321 t322 _ ?side1 ?side2 A3.out).mono ?_); (case side1 => exact Kd.C_foot_now HR1_2.out (zHK)); (case side2 => exact HC1_2.out); rintro e w102 ⟨v323, rfl, ho0, hb⟩; refine ⟨_, rfl, ?_⟩; have HO324 := Ax (Kd.N_lower (Kd.N_mono (ok' := fun k_ => (w.heap.size ≤ k_) ∧ k_ ≠ gb318 ∧ k_ ≠ gb319 ∧ k_ ≠ g) (Kd.S_N (Kd.S_bound ho0)) (fun k_ hk_ => ⟨(Nat.le_trans (keep_size (w := w) (g := g) (row := none) (zHK)) hk_.2.1), (Kd.freshB (g := gb318) (o := .cells #[.int .i64 a1_0, .int .i64 a1_1, .slice A1_2 l1_2.length c1_2] 25 (0, 0)) (zK) k_ hk_.2.1), (Kd.freshB (g := gb319) (o := .cells #[.int .i64 0, .int .i64 0, .slice none 0 0] 25 (0, 0)) (zK) k_ hk_.2.1), (IsS66.fresh (zHI0) k_ hk_.2.1)⟩)) (keep_size (w := w) (g := g) (row := none) (zHK))); replace BK318 := Ax (blk_below (g := gb318) (zK) hb); replace BK319 := Ax (blk_below (g := gb319) (zK) hb); replace HK := Ax (KeepBut.trans (zHK) (KeepBut.of_below hb g none) (.inl rfl)); replace HB := Ax (below_step (zHB) hb); replace HI0 := Ax (IsS66.below (zHI0) hb); (try clear hb); (try clear hb2); (try clear hk); (try clear hi); (try clear ho0); obtain ⟨_, _, _, _, _, _⟩ := cells3 BK318.out; obtain ⟨Ao104, co104, eo104⟩ := Kd.N_slice HO324.out; subst eo104) | ((with_reducible refine gate_callee (f := 39) rfl ?_); refine goesL_ (some 12) rfl rfl Try.func39 (by kernel_rfl) rfl #[.pointer (some ⟨g, 0, none⟩), .int .i64 (t322.length : Int)] rfl (z0) ?_; (with_reducible refine (spec_l6Rd_pick.calls k g s0_0 s0_1 (t322.length : Int) t325 t326 w0 _ ?side1 ?side2 A4.out).mono ?_); (case side1 => exact zHI0); (case side2 => exact zHB); rintro e w105 ⟨rfl, hi, hb, hk⟩; refine ⟨_, rfl, ?_⟩; replace BK318 := Ax (KeepBut.blk hk (g' := gb318) (o := .cells #[.int .i64 t320, .int .i64 t321, .slice Ao104 t322.length co104] 25 (0, 0)) (zK) NB318_0.out (by simp)); replace BK319 := Ax (KeepBut.blk hk (g' := gb319) (o := .cells #[.int .i64 0, .int .i64 0, .slice none 0 0] 25 (0, 0)) (zK) NB319_0.out (by simp)); replace HO324 := Ax (Kd.N_mono (Kd.N_keep (Kd.N_mono (ok := fun k_ => (((w.heap.size ≤ k_)) ∧ (k_ ≠ gb318 ∧ (k_ ≠ gb319 ∧ k_ ≠ g)))) (by (with_reducible repeat (first | apply Kd.N_alloc | apply Kd.N_drewN | apply Kd.N_drew)); exact (Kd.N_mono (Kd.N_far (p := ⟨gb318, 2, none⟩) (Kd.N_far (p := ⟨gb318, 1, none⟩) (Kd.N_far (p := ⟨gb318, 0, none⟩) (Kd.N_mono HO324.out (fun k_ hk => (⟨hk, hk.2.1⟩ : _ ∧ k_ ≠ gb318))) (fun _ hk => hk.2) (.int .i64 t320)) (fun _ hk => hk.2) (.int .i64 t321)) (fun _ hk => hk.2) (.slice Ao104 t322.length co104)) (fun _ h_ => h_.1))) (fun k_ hk_ => (⟨hk_, hk_.2.2.2⟩ : _ ∧ k_ ≠ g))) hk (fun _ h => h.2)) (fun _ h => h.1)); replace HK := Ax (KeepBut.trans (zHK) hk (.inl rfl)); replace HB := Ax (hb); replace HI0 := Ax (hi); (try clear hb); (try clear hb2); (try clear hk); (try clear hi)) | ((with_reducible refine gate_callee (f := 39) rfl ?_); refine goesL_ (some 14) rfl rfl Try.func39 (by kernel_rfl) rfl #[.pointer (some ⟨g, 0, none⟩), .int .i64 7] rfl (z0) ?_; (with_reducible refine (spec_l6Rd_pick.calls k g s0_0 t326 7 t327 t328 w0 _ ?side1 ?side2 A5.out).mono ?_); (case side1 => exact zHI0); (case side2 => exact zHB); rintro e w106 ⟨rfl, hi, hb, hk⟩; refine ⟨_, rfl, ?_⟩; replace BK318 := Ax (KeepBut.blk hk (g' := gb318) (o := .cells #[.int .i64 t320, .int .i64 t321, .slice Ao104 t322.length co104] 25 (0, 0)) (zK) NB318_0.out (by simp)); replace BK319 := Ax (KeepBut.blk hk (g' := gb319) (o := .cells #[.int .i64 0, .int .i64 0, .slice none 0 0] 25 (0, 0)) (zK) NB319_0.out (by simp)); replace HO324 := Ax (Kd.N_mono (Kd.N_keep (Kd.N_mono (ok := fun k_ => (((w.heap.size ≤ k_)) ∧ (k_ ≠ gb318 ∧ (k_ ≠ gb319 ∧ k_ ≠ g)))) (z3) (fun k_ hk_ => (⟨hk_, hk_.2.2.2⟩ : _ ∧ k_ ≠ g))) hk (fun _ h => h.2)) (fun _ h => h.1)); replace HK := Ax (KeepBut.trans (zHK) hk (.inl rfl)); replace HB := Ax (hb); replace HI0 := Ax (hi); (try clear hb); (try clear hb2); (try clear hk); (try clear hi)) | ((with_reducible refine gate_callee (f := 39) rfl ?_); refine goesL_ (some 66) rfl rfl Try.func39 (by kernel_rfl) rfl #[.pointer (some ⟨g, 0, none⟩), .int .i64 8] rfl (z0) ?_; (with_reducible refine (spec_l6Rd_pick.calls k g s0_0 t328 8 t352 t353 w0 _ ?side1 ?side2 A96.out).mono ?_); (case side1 => exact zHI0); (case side2 => exact zHB); rintro e w107 ⟨rfl, hi, hb, hk⟩; refine ⟨_, rfl, ?_⟩; replace BK318 := Ax (KeepBut.blk hk (g' := gb318) (o := .cells #[.int .i64 t320, .int .i64 t321, .slice Ao104 t322.length co104] 25 (0, 0)) (zK) NB318_0.out (by simp)); replace BK319 := Ax (KeepBut.blk hk (g' := gb319) (o := .cells #[.int .i64 0, .int .i64 0, .slice none 0 0] 25 (0, 0)) (zK) NB319_0.out (by simp)); replace HO324 := Ax (Kd.N_mono (Kd.N_keep (Kd.N_mono (ok := fun k_ => (((w.heap.size ≤ k_)) ∧ (k_ ≠ gb318 ∧ (k_ ≠ gb319 ∧ k_ ≠ g)))) (z3) (fun k_ hk_ => (⟨hk_, hk_.2.2.2⟩ : _ ∧ k_ ≠ g))) hk (fun _ h => h.2)) (fun _ h => h.1)); replace HK := Ax (KeepBut.trans (zHK) hk (.inl rfl)); replace HB := Ax (hb); replace HI0 := Ax (hi); (try clear hb); (try clear hb2); (try clear hk); (try clear hi); obtain ⟨_, _, _, _, _, _⟩ := cells3 BK318.out; have hnb109 := NB319_0.out; have hnc109 := NB0_319.out; obtain ⟨_, _, _, _, _, _⟩ := cells3 BK319.out))
   refine bodyPost_ret (results_cell_row rfl _ _ gb319 25 #[.int .i64 (wrap64 (t352 - 1)), .int .i64 t321, .slice Ao104 t322.length co104] (0, 0) _ rfl (zK) Try.underlying25 rfl (by kernel_rfl)) rfl ?_
   exact ⟨_, z10, by (with_reducible repeat (first | apply Kd.N_alloc | apply Kd.N_drewN | apply Kd.N_drew)); exact Kd.N_mono (Kd.N_far (p := ⟨gb319, 2, none⟩) (Kd.N_far (p := ⟨gb319, 1, none⟩) (Kd.N_far (p := ⟨gb319, 0, none⟩) (Kd.N_far (p := ⟨gb318, 0, none⟩) (Kd.N_mono (Kd.N_mono HO324.out (fun k_ hk => (⟨hk, hk.2.1⟩ : _ ∧ k_ ≠ gb318))) (fun k_ hk => (⟨hk, hk.1.2.2.1⟩ : _ ∧ k_ ≠ gb319))) (fun _ hk => hk.1.2) (.int .i64 (wrap64 (t352 - 1)))) (fun _ hk => hk.2) (.int .i64 (wrap64 (t352 - 1)))) (fun _ hk => hk.2) (.int .i64 t321)) (fun _ hk => hk.2) (.slice Ao104 t322.length co104)) (fun _ hk => hk.1.1.1), zHI0, zHB, zHK⟩
 rw [if_neg c95] at H
 have c95b0 : (t327 == 4) = false := beq_eq_false_iff_ne.mpr c95
 have c95b1 : (t327 != 4) = true := bne_iff_ne.mpr c95
 by_cases c111 : t327 = 5
 rotate_left
 · rw [if_neg c111] at H
   have c111b0 : (t327 == 5) = false := beq_eq_false_iff_ne.mpr c111
   have c111b1 : (t327 != 5) = true := bne_iff_ne.mpr c111
   obtain ⟨⟨t360, t361⟩, A133, H⟩ := bnd H
   dsimp only at H
   simp only [Option.some.injEq, Prod.mk.injEq] at H
   obtain ⟨rfl, rfl, rfl, rfl⟩ := H
   go_enter Try.func40, Try.ntmps40
   go_wp2_with (first | ((with_reducible refine gate_dst (N := 3) rfl ?_); refine box_event ?hg (N := 3) ?hd (cs := #[.int .i64 a1_0, .int .i64 a1_1, .slice A1_2 l1_2.length c1_2]) (t := 25) ?hr ?_; (case hd => rfl); (case hg => rfl); (case hr => first | (go_simp; done) | (go_simp; rfl)); intro gb318 hg w134 hbox hb; replace HB := Ax (below_step (zHB) hb); have BK318 := Ax (hbox); have GW318 := Ax ((z1 : w.heap.size ≤ gb318)); have GE318 := Ax ((Nat.le_trans HW0.out (z1 : w.heap.size ≤ gb318) : w0.heap.size ≤ gb318)); replace HK := Ax (KeepBut.trans (zHK) (KeepBut.of_below hb g none) (.inl rfl)); have NB0_318 := Ax ((z5 : g ≠ gb318)); have NB318_0 := Ax ((z6 : gb318 ≠ g)); replace HI0 := Ax (IsS66.below (zHI0) hb); clear hb hbox hg) | ((with_reducible refine gate_dst (N := 4) rfl ?_); refine box_event ?hg (N := 4) ?hd (cs := #[.int .i64 0, .int .i64 0, .slice none 0 0]) (t := 25) ?hr ?_; (case hd => rfl); (case hg => rfl); (case hr => first | (go_simp; done) | (go_simp; rfl)); intro gb319 hg w135 hbox hb; replace HB := Ax (below_step (zHB) hb); have BK319 := Ax (hbox); have GW319 := Ax ((z1 : w.heap.size ≤ gb319)); have GE319 := Ax ((Nat.le_trans HW0.out (z1 : w.heap.size ≤ gb319) : w0.heap.size ≤ gb319)); replace HK := Ax (KeepBut.trans (zHK) (KeepBut.of_below hb g none) (.inl rfl)); have NB318_319 := Ax ((z11 : gb318 ≠ gb319)); have NB319_318 := Ax ((z12 : gb319 ≠ gb318)); replace BK318 := Ax (blk_below (g := gb318) (zK) hb); have NB0_319 := Ax ((z5 : g ≠ gb319)); have NB319_0 := Ax ((z6 : gb319 ≠ g)); replace HI0 := Ax (IsS66.below (zHI0) hb); clear hb hbox hg; have hnb136 := NB318_319.out; have hnc136 := NB319_318.out; have hnb137 := NB318_0.out; have hnc137 := NB0_318.out; obtain ⟨_, _, _, _, _, _⟩ := cells3 BK318.out) | ((with_reducible refine gate_callee (f := 51) rfl ?_); refine goesL_ (some 7) rfl rfl Try.func51 (by kernel_rfl) rfl #[.agg #[.int .i64 a1_0, .int .i64 a1_1, .slice A1_2 l1_2.length c1_2]] rfl (z0) ?_; (with_reducible refine (spec_l2Copy.calls k a1_0 a1_1 _ _ l1_2 t320 t321 t322 _ ?side1 ?side2 A3.out).mono ?_); (case side1 => exact Kd.C_foot_now HR1_2.out (zHK)); (case side2 => exact HC1_2.out); rintro e w139 ⟨v323, rfl, ho0, hb⟩; refine ⟨_, rfl, ?_⟩; have HO324 := Ax (Kd.N_lower (Kd.N_mono (ok' := fun k_ => (w.heap.size ≤ k_) ∧ k_ ≠ gb318 ∧ k_ ≠ gb319 ∧ k_ ≠ g) (Kd.S_N (Kd.S_bound ho0)) (fun k_ hk_ => ⟨(Nat.le_trans (keep_size (w := w) (g := g) (row := none) (zHK)) hk_.2.1), (Kd.freshB (g := gb318) (o := .cells #[.int .i64 a1_0, .int .i64 a1_1, .slice A1_2 l1_2.length c1_2] 25 (0, 0)) (zK) k_ hk_.2.1), (Kd.freshB (g := gb319) (o := .cells #[.int .i64 0, .int .i64 0, .slice none 0 0] 25 (0, 0)) (zK) k_ hk_.2.1), (IsS66.fresh (zHI0) k_ hk_.2.1)⟩)) (keep_size (w := w) (g := g) (row := none) (zHK))); replace BK318 := Ax (blk_below (g := gb318) (zK) hb); replace BK319 := Ax (blk_below (g := gb319) (zK) hb); replace HK := Ax (KeepBut.trans (zHK) (KeepBut.of_below hb g none) (.inl rfl)); replace HB := Ax (below_step (zHB) hb); replace HI0 := Ax (IsS66.below (zHI0) hb); (try clear hb); (try clear hb2); (try clear hk); (try clear hi); (try clear ho0); obtain ⟨_, _, _, _, _, _⟩ := cells3 BK318.out; obtain ⟨Ao141, co141, eo141⟩ := Kd.N_slice HO324.out; subst eo141) | ((with_reducible refine gate_callee (f := 39) rfl ?_); refine goesL_ (some 12) rfl rfl Try.func39 (by kernel_rfl) rfl #[.pointer (some ⟨g, 0, none⟩), .int .i64 (t322.length : Int)] rfl (z0) ?_; (with_reducible refine (spec_l6Rd_pick.calls k g s0_0 s0_1 (t322.length : Int) t325 t326 w0 _ ?side1 ?side2 A4.out).mono ?_); (case side1 => exact zHI0); (case side2 => exact zHB); rintro e w142 ⟨rfl, hi, hb, hk⟩; refine ⟨_, rfl, ?_⟩; replace BK318 := Ax (KeepBut.blk hk (g' := gb318) (o := .cells #[.int .i64 t320, .int .i64 t321, .slice Ao141 t322.length co141] 25 (0, 0)) (zK) NB318_0.out (by simp)); replace BK319 := Ax (KeepBut.blk hk (g' := gb319) (o := .cells #[.int .i64 0, .int .i64 0, .slice none 0 0] 25 (0, 0)) (zK) NB319_0.out (by simp)); replace HO324 := Ax (Kd.N_mono (Kd.N_keep (Kd.N_mono (ok := fun k_ => (((w.heap.size ≤ k_)) ∧ (k_ ≠ gb318 ∧ (k_ ≠ gb319 ∧ k_ ≠ g)))) (by (with_reducible repeat (first | apply Kd.N_alloc | apply Kd.N_drewN | apply Kd.N_drew)); exact (Kd.N_mono (Kd.N_far (p := ⟨gb318, 2, none⟩) (Kd.N_far (p := ⟨gb318, 1, none⟩) (Kd.N_far (p := ⟨gb318, 0, none⟩) (Kd.N_mono HO324.out (fun k_ hk => (⟨hk, hk.2.1⟩ : _ ∧ k_ ≠ gb318))) (fun _ hk => hk.2) (.int .i64 t320)) (fun _ hk => hk.2) (.int .i64 t321)) (fun _ hk => hk.2) (.slice Ao141 t322.length co141)) (fun _ h_ => h_.1))) (fun k_ hk_ => (⟨hk_, hk_.2.2.2⟩ : _ ∧ k_ ≠ g))) hk (fun _ h => h.2)) (fun _ h => h.1)); replace HK := Ax (KeepBut.trans (zHK) hk (.inl rfl)); replace HB := Ax (hb); replace HI0 := Ax (hi); (try clear hb); (try clear hb2); (try clear hk); (try clear hi)) | ((with_reducible refine gate_callee (f := 39) rfl ?_); refine goesL_ (some 14) rfl rfl Try.func39 (by kernel_rfl) rfl #[.pointer (some ⟨g, 0, none⟩), .int .i64 7] rfl (z0) ?_; (with_reducible refine (spec_l6Rd_pick.calls k g s0_0 t326 7 t327 t328 w0 _ ?side1 ?side2 A5.out).mono ?_); (case side1 => exact zHI0); (case side2 => exact zHB); rintro e w143 ⟨rfl, hi, hb, hk⟩; refine ⟨_, rfl, ?_⟩; replace BK318 := Ax (KeepBut.blk hk (g' := gb318) (o := .cells #[.int .i64 t320, .int .i64 t321, .slice Ao141 t322.length co141] 25 (0, 0)) (zK) NB318_0.out (by simp)); replace BK319 := Ax (KeepBut.blk hk (g' := gb319) (o := .cells #[.int .i64 0, .int .i64 0, .slice none 0 0] 25 (0, 0)) (zK) NB319_0.out (by simp)); replace HO324 := Ax (Kd.N_mono (Kd.N_keep (Kd.N_mono (ok := fun k_ => (((w.heap.size ≤ k_)) ∧ (k_ ≠ gb318 ∧ (k_ ≠ gb319 ∧ k_ ≠ g)))) (z3) (fun k_ hk_ => (⟨hk_, hk_.2.2.2⟩ : _ ∧ k_ ≠ g))) hk (fun _ h => h.2)) (fun _ h => h.1)); replace HK := Ax (KeepBut.trans (zHK) hk (.inl rfl)); replace HB := Ax (hb); replace HI0 := Ax (hi); (try clear hb); (try clear hb2); (try clear hk); (try clear hi)) | ((with_reducible refine gate_callee (f := 39) rfl ?_); refine goesL_ (some 16) rfl rfl Try.func39 (by kernel_rfl) rfl #[.pointer (some ⟨g, 0, none⟩), .int .i64 8] rfl (z0) ?_; (with_reducible refine (spec_l6Rd_pick.calls k g s0_0 t328 8 t360 t361 w0 _ ?side1 ?side2 A133.out).mono ?_); (case side1 => exact zHI0); (case side2 => exact zHB); rintro e w144 ⟨rfl, hi, hb, hk⟩; refine ⟨_, rfl, ?_⟩; replace BK318 := Ax (KeepBut.blk hk (g' := gb318) (o := .cells #[.int .i64 t320, .int .i64 t321, .slice Ao141 t322.length co141] 25 (0, 0)) (zK) NB318_0.out (by simp)); replace BK319 := Ax (KeepBut.blk hk (g' := gb319) (o := .cells #[.int .i64 0, .int .i64 0, .slice none 0 0] 25 (0, 0)) (zK) NB319_0.out (by simp)); replace HO324 := Ax (Kd.N_mono (Kd.N_keep (Kd.N_mono (ok := fun k_ => (((w.heap.size ≤ k_)) ∧ (k_ ≠ gb318 ∧ (k_ ≠ gb319 ∧ k_ ≠ g)))) (z3) (fun k_ hk_ => (⟨hk_, hk_.2.2.2⟩ : _ ∧ k_ ≠ g))) hk (fun _ h => h.2)) (fun _ h => h.1)); replace HK := Ax (KeepBut.trans (zHK) hk (.inl rfl)); replace HB := Ax (hb); replace HI0 := Ax (hi); (try clear hb); (try clear hb2); (try clear hk); (try clear hi); obtain ⟨_, _, _, _, _, _⟩ := cells3 BK318.out; have hnb146 := NB319_0.out; have hnc146 := NB0_319.out; obtain ⟨_, _, _, _, _, _⟩ := cells3 BK319.out))
   refine bodyPost_ret (results_cell_row rfl _ _ gb319 25 #[.int .i64 t320, .int .i64 (wrap64 (t360 - 1)), .slice Ao141 t322.length co141] (0, 0) _ rfl (zK) Try.underlying25 rfl (by kernel_rfl)) rfl ?_
   exact ⟨_, z10, by (with_reducible repeat (first | apply Kd.N_alloc | apply Kd.N_drewN | apply Kd.N_drew)); exact Kd.N_mono (Kd.N_far (p := ⟨gb319, 2, none⟩) (Kd.N_far (p := ⟨gb319, 1, none⟩) (Kd.N_far (p := ⟨gb319, 0, none⟩) (Kd.N_far (p := ⟨gb318, 1, none⟩) (Kd.N_mono (Kd.N_mono HO324.out (fun k_ hk => (⟨hk, hk.2.1⟩ : _ ∧ k_ ≠ gb318))) (fun k_ hk => (⟨hk, hk.1.2.2.1⟩ : _ ∧ k_ ≠ gb319))) (fun _ hk => hk.1.2) (.int .i64 (wrap64 (t360 - 1)))) (fun _ hk => hk.2) (.int .i64 t320)) (fun _ hk => hk.2) (.int .i64 (wrap64 (t360 - 1)))) (fun _ hk => hk.2) (.slice Ao141 t322.length co141)) (fun _ hk => hk.1.1.1), zHI0, zHB, zHK⟩
 rw [if_pos c111] at H
 have c111b0 : (t327 == 5) = true := beq_iff_eq.mpr c111
 have c111b1 : (t327 != 5) = false := bne_eq_false_iff_eq.mpr c111
 clear c111
 by_cases c112 : 0 ≤ t325
 rotate_left
 · rw [if_neg c112] at H
   exact absurd H (by simp)
 rw [if_pos c112] at H
 have c112b0 := decide_eq_true c112
 clear c112
 by_cases c113 : t325 < (t322.length : Int)
 rotate_left
 · rw [if_neg c113] at H
   exact absurd H (by simp)
 rw [if_pos c113] at H
 have c113b0 := decide_eq_true c113
 clear c113
 obtain ⟨⟨t355, t358⟩, A114, H⟩ := bnd H
 dsimp only at H
 obtain ⟨y359, hy_⟩ : ∃ y_ : List (S30), y_ = (t322.set (t325 : Int).toNat (⟨(rd_T30 t322 t325).f0, (rd_T30 t322 t325).f1, (rd_T30 t322 t325).f2, (rd_T30 t322 t325).f3, t355⟩ : S30)) := ⟨_, rfl⟩
 replace H : (some (t320, t321, y359, t358)) = some (r1, r2, r3, r4) := zy
 have Ny359 := Ax hy_
 clear hy_
 simp only [Option.some.injEq, Prod.mk.injEq] at H
 obtain ⟨rfl, rfl, rfl, rfl⟩ := H
 go_enter Try.func40, Try.ntmps40
 try go_wp2_with (first | ((with_reducible refine gate_dst (N := 3) rfl ?_); refine box_event ?hg (N := 3) ?hd (cs := #[.int .i64 a1_0, .int .i64 a1_1, .slice A1_2 l1_2.length c1_2]) (t := 25) ?hr ?_; (case hd => rfl); (case hg => rfl); (case hr => first | (go_simp; done) | (go_simp; rfl)); intro gb318 hg w116 hbox hb; replace HB := Ax (below_step (zHB) hb); have BK318 := Ax (hbox); have GW318 := Ax ((z1 : w.heap.size ≤ gb318)); have GE318 := Ax ((Nat.le_trans HW0.out (z1 : w.heap.size ≤ gb318) : w0.heap.size ≤ gb318)); replace HK := Ax (KeepBut.trans (zHK) (KeepBut.of_below hb g none) (.inl rfl)); have NB0_318 := Ax ((z5 : g ≠ gb318)); have NB318_0 := Ax ((z6 : gb318 ≠ g)); replace HI0 := Ax (IsS66.below (zHI0) hb); clear hb hbox hg) | ((with_reducible refine gate_dst (N := 4) rfl ?_); refine box_event ?hg (N := 4) ?hd (cs := #[.int .i64 0, .int .i64 0, .slice none 0 0]) (t := 25) ?hr ?_; (case hd => rfl); (case hg => rfl); (case hr => first | (go_simp; done) | (go_simp; rfl)); intro gb319 hg w117 hbox hb; replace HB := Ax (below_step (zHB) hb); have BK319 := Ax (hbox); have GW319 := Ax ((z1 : w.heap.size ≤ gb319)); have GE319 := Ax ((Nat.le_trans HW0.out (z1 : w.heap.size ≤ gb319) : w0.heap.size ≤ gb319)); replace HK := Ax (KeepBut.trans (zHK) (KeepBut.of_below hb g none) (.inl rfl)); have NB318_319 := Ax ((z11 : gb318 ≠ gb319)); have NB319_318 := Ax ((z12 : gb319 ≠ gb318)); replace BK318 := Ax (blk_below (g := gb318) (zK) hb); have NB0_319 := Ax ((z5 : g ≠ gb319)); have NB319_0 := Ax ((z6 : gb319 ≠ g)); replace HI0 := Ax (IsS66.below (zHI0) hb); clear hb hbox hg; have hnb118 := NB318_319.out; have hnc118 := NB319_318.out; have hnb119 := NB318_0.out; have hnc119 := NB0_318.out; obtain ⟨_, _, _, _, _, _⟩ := cells3 BK318.out) | ((with_reducible refine gate_callee (f := 51) rfl ?_); refine goesL_ (some 7) rfl rfl Try.func51 (by kernel_rfl) rfl #[.agg #[.int .i64 a1_0, .int .i64 a1_1, .slice A1_2 l1_2.length c1_2]] rfl (z0) ?_; (with_reducible refine (spec_l2Copy.calls k a1_0 a1_1 _ _ l1_2 t320 t321 t322 _ ?side1 ?side2 A3.out).mono ?_); (case side1 => exact Kd.C_foot_now HR1_2.out (zHK)); (case side2 => exact HC1_2.out); rintro e w121 ⟨v323, rfl, ho0, hb⟩; refine ⟨_, rfl, ?_⟩; have HS324 := Ax (Kd.S_lower (Kd.S_mono (ok' := fun k_ => (w.heap.size ≤ k_) ∧ k_ ≠ gb318 ∧ k_ ≠ gb319 ∧ k_ ≠ g) (Kd.S_bound ho0) (fun k_ hk_ => ⟨(Nat.le_trans (keep_size (w := w) (g := g) (row := none) (zHK)) hk_.2.1), (Kd.freshB (g := gb318) (o := .cells #[.int .i64 a1_0, .int .i64 a1_1, .slice A1_2 l1_2.length c1_2] 25 (0, 0)) (zK) k_ hk_.2.1), (Kd.freshB (g := gb319) (o := .cells #[.int .i64 0, .int .i64 0, .slice none 0 0] 25 (0, 0)) (zK) k_ hk_.2.1), (IsS66.fresh (zHI0) k_ hk_.2.1)⟩)) (keep_size (w := w) (g := g) (row := none) (zHK))); have HO324 := Ax (Kd.N_lower (Kd.N_mono (ok' := fun k_ => (w.heap.size ≤ k_) ∧ k_ ≠ gb318 ∧ k_ ≠ gb319 ∧ k_ ≠ g) (Kd.S_N (Kd.S_bound ho0)) (fun k_ hk_ => ⟨(Nat.le_trans (keep_size (w := w) (g := g) (row := none) (zHK)) hk_.2.1), (Kd.freshB (g := gb318) (o := .cells #[.int .i64 a1_0, .int .i64 a1_1, .slice A1_2 l1_2.length c1_2] 25 (0, 0)) (zK) k_ hk_.2.1), (Kd.freshB (g := gb319) (o := .cells #[.int .i64 0, .int .i64 0, .slice none 0 0] 25 (0, 0)) (zK) k_ hk_.2.1), (IsS66.fresh (zHI0) k_ hk_.2.1)⟩)) (keep_size (w := w) (g := g) (row := none) (zHK))); replace BK318 := Ax (blk_below (g := gb318) (zK) hb); replace BK319 := Ax (blk_below (g := gb319) (zK) hb); replace HK := Ax (KeepBut.trans (zHK) (KeepBut.of_below hb g none) (.inl rfl)); replace HB := Ax (below_step (zHB) hb); replace HI0 := Ax (IsS66.below (zHI0) hb); (try clear hb); (try clear hb2); (try clear hk); (try clear hi); (try clear ho0); obtain ⟨_, _, _, _, _, _⟩ := cells3 BK318.out; obtain ⟨Ao123, co123, eo123⟩ := Kd.N_slice HO324.out; subst eo123) | ((with_reducible refine gate_callee (f := 39) rfl ?_); refine goesL_ (some 12) rfl rfl Try.func39 (by kernel_rfl) rfl #[.pointer (some ⟨g, 0, none⟩), .int .i64 (t322.length : Int)] rfl (z0) ?_; (with_reducible refine (spec_l6Rd_pick.calls k g s0_0 s0_1 (t322.length : Int) t325 t326 w0 _ ?side1 ?side2 A4.out).mono ?_); (case side1 => exact zHI0); (case side2 => exact zHB); rintro e w124 ⟨rfl, hi, hb, hk⟩; refine ⟨_, rfl, ?_⟩; replace BK318 := Ax (KeepBut.blk hk (g' := gb318) (o := .cells #[.int .i64 t320, .int .i64 t321, .slice Ao123 t322.length co123] 25 (0, 0)) (zK) NB318_0.out (by simp)); replace BK319 := Ax (KeepBut.blk hk (g' := gb319) (o := .cells #[.int .i64 0, .int .i64 0, .slice none 0 0] 25 (0, 0)) (zK) NB319_0.out (by simp)); replace HS324 := Ax (Kd.S_mono (Kd.S_keep (Kd.S_mono (ok := fun k_ => (((w.heap.size ≤ k_)) ∧ (k_ ≠ gb318 ∧ (k_ ≠ gb319 ∧ k_ ≠ g)))) (by (with_reducible repeat (first | apply Kd.S_alloc | apply Kd.S_drewN | apply Kd.S_drew)); exact (Kd.S_mono (Kd.S_far (p := ⟨gb318, 2, none⟩) (Kd.S_far (p := ⟨gb318, 1, none⟩) (Kd.S_far (p := ⟨gb318, 0, none⟩) (Kd.S_mono HS324.out (fun k_ hk => (⟨hk, hk.2.1⟩ : _ ∧ k_ ≠ gb318))) (fun _ hk => hk.2) (.int .i64 t320)) (fun _ hk => hk.2) (.int .i64 t321)) (fun _ hk => hk.2) (.slice Ao123 t322.length co123)) (fun _ h_ => h_.1))) (fun k_ hk_ => (⟨hk_, hk_.2.2.2⟩ : _ ∧ k_ ≠ g))) hk (fun _ h => h.2)) (fun _ h => h.1)); replace HO324 := Ax (Kd.N_mono (Kd.N_keep (Kd.N_mono (ok := fun k_ => (((w.heap.size ≤ k_)) ∧ (k_ ≠ gb318 ∧ (k_ ≠ gb319 ∧ k_ ≠ g)))) (by (with_reducible repeat (first | apply Kd.N_alloc | apply Kd.N_drewN | apply Kd.N_drew)); exact (Kd.N_mono (Kd.N_far (p := ⟨gb318, 2, none⟩) (Kd.N_far (p := ⟨gb318, 1, none⟩) (Kd.N_far (p := ⟨gb318, 0, none⟩) (Kd.N_mono HO324.out (fun k_ hk => (⟨hk, hk.2.1⟩ : _ ∧ k_ ≠ gb318))) (fun _ hk => hk.2) (.int .i64 t320)) (fun _ hk => hk.2) (.int .i64 t321)) (fun _ hk => hk.2) (.slice Ao123 t322.length co123)) (fun _ h_ => h_.1))) (fun k_ hk_ => (⟨hk_, hk_.2.2.2⟩ : _ ∧ k_ ≠ g))) hk (fun _ h => h.2)) (fun _ h => h.1)); replace HK := Ax (KeepBut.trans (zHK) hk (.inl rfl)); replace HB := Ax (hb); replace HI0 := Ax (hi); (try clear hb); (try clear hb2); (try clear hk); (try clear hi)) | ((with_reducible refine gate_callee (f := 39) rfl ?_); refine goesL_ (some 14) rfl rfl Try.func39 (by kernel_rfl) rfl #[.pointer (some ⟨g, 0, none⟩), .int .i64 7] rfl (z0) ?_; (with_reducible refine (spec_l6Rd_pick.calls k g s0_0 t326 7 t327 t328 w0 _ ?side1 ?side2 A5.out).mono ?_); (case side1 => exact zHI0); (case side2 => exact zHB); rintro e w125 ⟨rfl, hi, hb, hk⟩; refine ⟨_, rfl, ?_⟩; replace BK318 := Ax (KeepBut.blk hk (g' := gb318) (o := .cells #[.int .i64 t320, .int .i64 t321, .slice Ao123 t322.length co123] 25 (0, 0)) (zK) NB318_0.out (by simp)); replace BK319 := Ax (KeepBut.blk hk (g' := gb319) (o := .cells #[.int .i64 0, .int .i64 0, .slice none 0 0] 25 (0, 0)) (zK) NB319_0.out (by simp)); replace HS324 := Ax (Kd.S_mono (Kd.S_keep (Kd.S_mono (ok := fun k_ => (((w.heap.size ≤ k_)) ∧ (k_ ≠ gb318 ∧ (k_ ≠ gb319 ∧ k_ ≠ g)))) (by (with_reducible repeat (first | apply Kd.S_alloc | apply Kd.S_drewN | apply Kd.S_drew)); exact HS324.out) (fun k_ hk_ => (⟨hk_, hk_.2.2.2⟩ : _ ∧ k_ ≠ g))) hk (fun _ h => h.2)) (fun _ h => h.1)); replace HO324 := Ax (Kd.N_mono (Kd.N_keep (Kd.N_mono (ok := fun k_ => (((w.heap.size ≤ k_)) ∧ (k_ ≠ gb318 ∧ (k_ ≠ gb319 ∧ k_ ≠ g)))) (z3) (fun k_ hk_ => (⟨hk_, hk_.2.2.2⟩ : _ ∧ k_ ≠ g))) hk (fun _ h => h.2)) (fun _ h => h.1)); replace HK := Ax (KeepBut.trans (zHK) hk (.inl rfl)); replace HB := Ax (hb); replace HI0 := Ax (hi); (try clear hb); (try clear hb2); (try clear hk); (try clear hi)))
 replace HS324 := Ax (Kd.S_drew HS324.out)
 replace HO324 := Ax (Kd.N_drew HO324.out)
 replace BK318 := Ax (blk_drew BK318.out)
 replace BK319 := Ax (blk_drew BK319.out)
 replace HI0 := Ax (IsS66.drew HI0.out)
 replace HK := Ax (keep_drew HK.out)
 replace HB := Ax (below_drew1 HB.out)
 have p354 : 0 ≤ (t325 : Int) := of_decide_eq_true (z2)
 have q354 : t325 < (t322.length : Int) := of_decide_eq_true (z2)
 obtain ⟨ad354, A354_4, c354_4, e354, hx354_0, hx354_1, hx354_2, hx354_3, hx354_4, hl354_4, hi354_4⟩ := at_T30 (Kd.N_reads' HO324.out).2.2 t325 p354 q354
 cases e354
 obtain ⟨ce354, hce354, hMe354, hcc354⟩ := Kd.N_get HO324.out z30 t325 p354 (by first | exact q354 | exact of_decide_eq_true (z2) | (have e_ := (Kd.N_reads' HO324.out).1; omega))
 obtain ⟨ua354_4, uc354_4, rfl, ul354_4, ge354_4⟩ := k30_openF hMe354
 have hv354_4 := hcc354 4 _ rfl
 rw [add_field _ _ 4 (by omega)] at hv354_4
 replace hv354_4 := Option.some.inj (hv354_4.symm.trans hx354_4)
 injection hv354_4 with hva_ hvn_ hvc_
 rw [hva_] at ge354_4
 rw [hvc_] at ul354_4
 have HL354_4 := Ax (show Kd.V k61 61 _ w.heap.size _ _ ((rd_T30 t322 t325).f4) from Kd.V_mk ul354_4 ge354_4)
 clear hva_ hvn_ hvc_ ge354_4 ul354_4
 clear hcc354 hce354
 have HR354_4 := Ax hi354_4
 have HC354_4 := Ax hl354_4
 clear hi354_4 hl354_4
 obtain ⟨go115, coS_, eoS, _, _, _, _⟩ := Kd.S_form HS324.out (by omega)
 injection eoS with ea_ en_ ec_
 injection ea_ with ea_
 have EAS := Ax ea_
 clear ea_ en_ ec_ coS_
 replace p354 := eq_true p354
 replace q354 := eq_true q354
 refine start_ (n := 14) (S := fun w' => w'.cell? ⟨gb318, 0, none⟩ = some (.int .i64 t320) ∧ w'.cell? ⟨gb318, 1, none⟩ = some (.int .i64 t321) ∧ w'.cell? ⟨gb318, 2, none⟩ = some (.slice (some ad354) t322.length co123) ∧ w'.cell? (ad354.add ((t325).toNat * 5)) = some (.int .i64 ((rd_T30 t322 t325).f0)) ∧ w'.cell? ⟨(ad354.add ((t325).toNat * 5)).block, (ad354.add ((t325).toNat * 5)).off + 1, none⟩ = some (.int .i64 ((rd_T30 t322 t325).f1)) ∧ w'.cell? ⟨(ad354.add ((t325).toNat * 5)).block, (ad354.add ((t325).toNat * 5)).off + 2, none⟩ = some (.int .i64 ((rd_T30 t322 t325).f2)) ∧ w'.cell? ⟨(ad354.add ((t325).toNat * 5)).block, (ad354.add ((t325).toNat * 5)).off + 3, none⟩ = some (.int .i64 ((rd_T30 t322 t325).f3)) ∧ w'.cell? ⟨(ad354.add ((t325).toNat * 5)).block, (ad354.add ((t325).toNat * 5)).off + 4, none⟩ = some (.slice A354_4 ((rd_T30 t322 t325).f4).length c354_4)) (ds := [13]) #[false, false, false, false, false, false, false, false, false, false, false, false, false, false] (by kernel_rfl) rfl rfl ⟨(blk_cell BK318.out 0).trans rfl, (blk_cell BK318.out 1).trans rfl, (blk_cell BK318.out 2).trans rfl, hx354_0, hx354_1, hx354_2, hx354_3, hx354_4⟩ (fun hHeld => ?_); refine with_tabW spec_l71Spoil.tab16 spec_l71Spoil.bits16 (fun HT_ HW_ => ?_)
 generalize w125.drew = w126 at HS324 HO324 BK318 BK319 HI0 HK HB HL354_4 HR354_4 hx354_0 hx354_1 hx354_2 hx354_3 hx354_4 hHeld ⊢
 refine pure_ (i := 0) (N := some 71) (v := ?_) (a' := ?_) (bl 14 1) rfl rfl (any_of HT_.out (by kernel_rfl)) (fun _ _ _ h => h) (Or.inl ⟨by rfl, ?_⟩) ?_ ?_
 rotate_left
 · exact zEv
 rotate_left
 · exact zAct
 refine pure_ (i := 2) (N := some 73) (v := ?_) (a' := ?_) (bl 14 5) rfl rfl (any_of HT_.out (by kernel_rfl)) (fun _ _ _ h => h) (Or.inl ⟨by rfl, ?_⟩) ?_ ?_
 rotate_left
 · exact zEv
 rotate_left
 · exact zAct
 refine pure_ (i := 3) (N := some 74) (v := ?_) (a' := ?_) (bl 14 13) rfl rfl (any_of HT_.out (by kernel_rfl)) (fun _ _ _ h => h) (Or.inl ⟨by rfl, ?_⟩) ?_ ?_
 rotate_left
 · exact zEv
 rotate_left
 · exact zAct
 refine pure_ (i := 4) (N := some 75) (v := ?_) (a' := ?_) (bl 14 29) rfl rfl (any_of HT_.out (by kernel_rfl)) (fun _ _ _ h => h) (Or.inl ⟨by rfl, ?_⟩) ?_ ?_
 rotate_left
 · exact zEv
 rotate_left
 · exact zAct
 refine pure_ (i := 6) (N := some 77) (v := ?_) (a' := ?_) (bl 14 93) rfl rfl (any_of HT_.out (by kernel_rfl)) (fun _ _ _ h => h) (Or.inl ⟨by rfl, ?_⟩) ?_ ?_
 rotate_left
 · exact zEv
 rotate_left
 · exact zAct
 refine take_ (i := 1) (N := some 72) (v := ?_) (a' := ?_) (bl 14 95) rfl rfl (take_ofW HT_.out HW_.out (by kernel_rfl)) (fun _ _ _ h => h) (Or.inl ⟨by rfl, ?_⟩) hHeld ?_ ?_
 rotate_left
 · rintro w' ⟨s0, s1, s2, s3, s4, s5, s6, s7⟩
   go_simp
   with_reducible rfl
 rotate_left
 · exact zAct
 refine take_ (i := 5) (N := some 76) (v := ?_) (a' := ?_) (bl 14 127) rfl rfl (take_ofW HT_.out HW_.out (by kernel_rfl)) (fun _ _ _ h => h) (Or.inl ⟨by rfl, ?_⟩) hHeld ?_ ?_
 rotate_left
 · rintro w' ⟨s0, s1, s2, s3, s4, s5, s6, s7⟩
   go_simp
   with_reducible rfl
 rotate_left
 · exact zAct
 refine pure_ (i := 7) (N := some 78) (v := ?_) (a' := ?_) (bl 14 255) rfl rfl (any_of HT_.out (by kernel_rfl)) (fun _ _ _ h => h) (Or.inl ⟨by rfl, ?_⟩) ?_ ?_
 rotate_left
 · exact zEv
 rotate_left
 · exact zAct
 refine pure_ (i := 8) (N := some 79) (v := ?_) (a' := ?_) (bl 14 511) rfl rfl (any_of HT_.out (by kernel_rfl)) (fun _ _ _ h => h) (Or.inl ⟨by rfl, ?_⟩) ?_ ?_
 rotate_left
 · exact zEv
 rotate_left
 · exact zAct
 refine take_ (i := 9) (N := some 80) (v := ?_) (a' := ?_) (bl 14 1023) rfl rfl (take_ofW HT_.out HW_.out (by kernel_rfl)) (fun _ _ _ h => h) (Or.inl ⟨by rfl, ?_⟩) hHeld ?_ ?_
 rotate_left
 · rintro w' ⟨s0, s1, s2, s3, s4, s5, s6, s7⟩
   go_simp
   with_reducible rfl
 rotate_left
 · exact zAct
 refine one_ (i := 10) (N := some 81) (bl 14 2047) rfl rfl (one_of HT_.out (by kernel_rfl)) (by decide) (fun K hK => ?_)
 have HS2 := HS324.out
 rw [EAS.out] at HS2
 obtain ⟨okS, ceS, hclS, hMS, hccS, _, hokS, HHS⟩ := Kd.S_elem HS2 z30 (t325 : Int) (of_decide_eq_true (z2)) (of_decide_eq_true (z2))
 have hgS := (Kd.S_R HS2).1 go115 (by simp [Value.ownBlock])
 clear HS2
 obtain ⟨veS, rfl, geS⟩ := k30_openM hMS
 have hvS := hccS 4 _ rfl
 have hxS := hHeld.2.2.2.2.2.2.2
 rw [EAS.out] at hxS
 simp only [add_plain] at hxS
 obtain rfl := Option.some.inj (hvS.symm.trans hxS)
 clear hxS hvS hccS hclS hMS
 refine goes_ Try.func57 (by kernel_rfl) rfl #[.pointer (some ⟨g, 0, none⟩), .slice A354_4 ((rd_T30 t322 t325).f4).length c354_4] (by rfl) rfl rfl (z0) ?_
 refine (spec_l71Bad.calls k g s0_0 t328 okS (.slice A354_4 ((rd_T30 t322 t325).f4).length c354_4) ((rd_T30 t322 t325).f4) t355 t358 w0 _ ?side1 ?side2 (Kd.R_lower geS HW0.out) A114.out).mono ?_
 (case side1 => exact zHI0)
 (case side2 => exact zHB)
 rintro e w127 ⟨v356, rfl, hoB, hi, hb, hkB⟩
 have ea_ := EAS.out
 subst ea_
 have hneG : ¬ (okS go115 ∨ go115 = g) := fun h => h.elim (fun h => (hokS _ h).2 rfl) hgS.2.2.2
 have HS3_ := cell_kept (hHeld.2.2.2.1) hkB (by show ¬ (okS (Addr.add _ _).block ∨ (Addr.add _ _).block = g); rw [add_block]; exact hneG)
 have HS4_ := cell_kept (hHeld.2.2.2.2.1) hkB (by show ¬ (okS (Addr.add _ _).block ∨ (Addr.add _ _).block = g); rw [add_block]; exact hneG)
 have HS5_ := cell_kept (hHeld.2.2.2.2.2.1) hkB (by show ¬ (okS (Addr.add _ _).block ∨ (Addr.add _ _).block = g); rw [add_block]; exact hneG)
 have HS6_ := cell_kept (hHeld.2.2.2.2.2.2.1) hkB (by show ¬ (okS (Addr.add _ _).block ∨ (Addr.add _ _).block = g); rw [add_block]; exact hneG)
 have HS7_ := cell_kept (hHeld.2.2.2.2.2.2.2) hkB (by show ¬ (okS (Addr.add _ _).block ∨ (Addr.add _ _).block = g); rw [add_block]; exact hneG)
 refine ⟨_, rfl, ?_⟩
 have hne1 : ¬ (okS gb318 ∨ gb318 = g) := fun h => h.elim (fun h => (hokS _ h).1.2.1 rfl) NB318_0.out
 have hne2 : ¬ (okS gb319 ∨ gb319 = g) := fun h => h.elim (fun h => (hokS _ h).1.2.2.1 rfl) NB319_0.out
 have fr1 := Kd.freshB (g := gb318) (o := .cells #[.int .i64 t320, .int .i64 t321, .slice (some ⟨go115, 0, none⟩) t322.length co123] 25 (0, 0)) (zK)
 have fr2 := Kd.freshB (g := gb319) (o := .cells #[.int .i64 0, .int .i64 0, .slice none 0 0] 25 (0, 0)) (zK)
 have frg := IsS66.fresh (zHI0)
 have hwS := keep_size (w := w) (g := g) (row := none) (zHK)
 have HR61 := Kd.R_mono (ok' := fun k_ => okS k_ ∨ ((w.heap.size ≤ k_) ∧ k_ ≠ gb318 ∧ k_ ≠ gb319 ∧ k_ ≠ g) ∧ _ ≤ k_) (Kd.R_raise (b' := w.heap.size) (fun w_ ok_ x_ cs_ h_ => by obtain rfl := k61_openM h_; exact k61_mkM _ _ _ _) hoB (fun k_ hk_ => (hoB.1 k_ hk_).elim (fun h_ => (hokS k_ h_).1.1) (fun h_ => Nat.le_trans hwS h_))) (fun k_ h_ => h_.elim (fun h1_ => .inl h1_) (fun h2_ => .inr ⟨⟨Nat.le_trans hwS h2_, fr1 k_ h2_, fr2 k_ h2_, frg k_ h2_⟩, h2_⟩))
 obtain ⟨Ao_, co_, ev_⟩ := Kd.R_slice HR61
 subst ev_
 have HH2 := Kd.H_step (w1 := w127) (Kd.H_widen HHS) (fun k_ ho_ hn_ hlt_ => hkB.2 k_ hlt_ (fun h_ => h_.elim (fun h1_ => hn_ (.inl h1_)) (fun h2_ => ho_.2.2.2 h2_)))
 obtain ⟨rowsS, _, hrawS, _, _, hcS, _⟩ := Kd.H_raw HH2 (of_decide_eq_true (z2)) (of_decide_eq_true (z2))
 obtain ⟨_, _, _, _, hfr115⟩ := Kd.R_elem hrawS [] (t325 : Int) (of_decide_eq_true (z2)) (of_decide_eq_true (z2))
 have hx115_0 : World.cell? _ ⟨go115, (t325 : Int).toNat * 5, none⟩ = some _ := hcS 0 _ rfl
 have hx115_1 : World.cell? _ ⟨go115, (t325 : Int).toNat * 5 + 1, none⟩ = some _ := hcS 1 _ rfl
 have hx115_2 : World.cell? _ ⟨go115, (t325 : Int).toNat * 5 + 2, none⟩ = some _ := hcS 2 _ rfl
 have hx115_3 : World.cell? _ ⟨go115, (t325 : Int).toNat * 5 + 3, none⟩ = some _ := hcS 3 _ rfl
 have hx115_4 : World.cell? _ ⟨go115, (t325 : Int).toNat * 5 + 4, none⟩ = some _ := hcS 4 _ rfl
 have hf115_0 : World.frozen? _ ⟨go115, (t325 : Int).toNat * 5, none⟩ = false := hfr115 0
 have hf115_1 : World.frozen? _ ⟨go115, (t325 : Int).toNat * 5 + 1, none⟩ = false := hfr115 1
 have hf115_2 : World.frozen? _ ⟨go115, (t325 : Int).toNat * 5 + 2, none⟩ = false := hfr115 2
 have hf115_3 : World.frozen? _ ⟨go115, (t325 : Int).toNat * 5 + 3, none⟩ = false := hfr115 3
 have hf115_4 : World.frozen? _ ⟨go115, (t325 : Int).toNat * 5 + 4, none⟩ = false := hfr115 4
 have GB115 := Ax hgS.1
 have HN0_go115 := Ax (fun e_ : g = go115 => hgS.2.2.2 e_.symm)
 have HP128 := Kd.S_N (Kd.S_seg0 HH2 (of_decide_eq_true (z2)) (of_decide_eq_true (z2)) (seg := [(Value.slice Ao_ t355.length co_)]) (j := 4) (show 4 + 1 ≤ 5 from by decide) (x' := (⟨(rd_T30 t322 t325).f0, (rd_T30 t322 t325).f1, (rd_T30 t322 t325).f2, (rd_T30 t322 t325).f3, t355⟩ : S30)) (k30_mkM _ _ _ (⟨(rd_T30 t322 t325).f0, (rd_T30 t322 t325).f1, (rd_T30 t322 t325).f2, (rd_T30 t322 t325).f3, t355⟩ : S30) HR61) (fun _ hk => hk)).1
 rw [← Ny359.out] at HP128
 have HQ128 := Ax HP128
 replace BK318 := Ax (blk_kept (g := gb318) (o := .cells #[.int .i64 t320, .int .i64 t321, .slice (some ⟨go115, 0, none⟩) t322.length co123] 25 (0, 0)) (zK) hkB hne1)
 replace BK319 := Ax (blk_kept (g := gb319) (o := .cells #[.int .i64 0, .int .i64 0, .slice none 0 0] 25 (0, 0)) (zK) hkB hne2)
 replace HK : Aside0 (KeepBut w w127 g none) := Ax ⟨Nat.le_trans hwS hkB.1, fun i_ hi_ hg_ hr_ => (hkB.2 i_ (Nat.lt_of_lt_of_le hi_ hwS) (fun h_ => h_.elim (fun h1_ => Nat.lt_irrefl _ (Nat.lt_of_lt_of_le hi_ (hokS i_ h1_).1.1)) hg_)).trans ((show KeepBut w _ g none from zHK).2 i_ hi_ hg_ hr_)⟩
 replace HB := Ax hb
 replace HI0 := Ax hi
 clear hb hi hkB hoB HR61 HH2 HHS hrawS hcS hfr115 HP128 fr1 fr2 frg hwS hne1 hne2 hneG hgS hokS geS HS324
 refine hK.out _ _ ⟨(blk_cell BK318.out 0).trans rfl, (blk_cell BK318.out 1).trans rfl, (blk_cell BK318.out 2).trans rfl, HS3_, HS4_, HS5_, HS6_, HS7_⟩ (fun hHeld => ?_)
 clear hK K
 refine norm_ (a' := ?_) ?_ ?_
 rotate_left
 · show Act.put _ (some 81) _ = _
   exact zAct
 refine pure_ (i := 11) (N := some 82) (v := ?_) (a' := ?_) (bl 14 4095) rfl rfl (any_of HT_.out (by kernel_rfl)) (fun _ _ _ h => h) (Or.inl ⟨by rfl, ?_⟩) ?_ ?_
 rotate_left
 · exact zEv
 rotate_left
 · exact zAct
 refine pure_ (i := 12) (N := some 83) (v := ?_) (a' := ?_) (bl 14 8191) rfl rfl (any_of HT_.out (by kernel_rfl)) (fun _ _ _ h => h) (Or.inl ⟨by rfl, ?_⟩) ?_ ?_
 rotate_left
 · exact zEv
 rotate_left
 · exact zAct
 refine last_ (i := 13) (N := none) (bl 14 16383) rfl rfl (one_of HT_.out (by kernel_rfl)) (by decide) (fun K hK => ?_)
 refine skip_ (w1 := ?_) (by rfl) rfl ?_ ?_
 rotate_left
 · go_simp
   rfl
 refine hK.out _ _ ?_
 clear hK K
 refine done_ (done_of HT_.out (by kernel_rfl)) ?_
 have n0_ : Aside0 (Kd.N k30 30 (w127.setCell ⟨go115, (t325 : Int).toNat * 5 + 4, none⟩ ((Value.slice Ao_ t355.length co_))) w.heap.size (fun k_ => (w.heap.size ≤ k_) ∧ k_ ≠ gb318 ∧ k_ ≠ gb319 ∧ k_ ≠ g) (.slice (some ⟨go115, 0, none⟩) t322.length co123) y359) := ⟨by (with_reducible repeat (first | apply Kd.N_alloc | apply Kd.N_drewN | apply Kd.N_drew)); exact HQ128.out⟩
 have n2_ : Aside0 ((w127.setCell ⟨go115, (t325 : Int).toNat * 5 + 4, none⟩ ((Value.slice Ao_ t355.length co_))).heap[gb318]? = some (.cells #[.int .i64 t320, .int .i64 t321, .slice (some ⟨go115, 0, none⟩) t322.length co123] 25 (0, 0))) := ⟨z9⟩
 have n3_ : Aside0 ((w127.setCell ⟨go115, (t325 : Int).toNat * 5 + 4, none⟩ ((Value.slice Ao_ t355.length co_))).heap[gb319]? = some (.cells #[.int .i64 0, .int .i64 0, .slice none 0 0] 25 (0, 0))) := ⟨z8⟩
 have n4_ : Aside0 (IsS66 w0 (w127.setCell ⟨go115, (t325 : Int).toNat * 5 + 4, none⟩ ((Value.slice Ao_ t355.length co_))) g s0_0 t358) := ⟨zHI0⟩
 have n5_ : Aside0 (KeepBut w (w127.setCell ⟨go115, (t325 : Int).toNat * 5 + 4, none⟩ ((Value.slice Ao_ t355.length co_))) g none) := ⟨zHK⟩
 have n6_ : Aside0 (Below w0.heap.size w0 (w127.setCell ⟨go115, (t325 : Int).toNat * 5 + 4, none⟩ ((Value.slice Ao_ t355.length co_)))) := ⟨zHB⟩
 (try clear HO324); (try clear HL354_4); (try clear BK318); (try clear BK319); (try clear HI0); (try clear HK); (try clear HB)
 generalize (w127.setCell ⟨go115, (t325 : Int).toNat * 5 + 4, none⟩ ((Value.slice Ao_ t355.length co_))) = w129 at n0_ n2_ n3_ n4_ n5_ n6_ ⊢
 have HO324 := n0_
 have BK318 := n2_
 have BK319 := n3_
 have HI0 := n4_
 have HK := n5_
 have HB := n6_
 clear n0_ n2_ n3_ n4_ n5_ n6_
 obtain ⟨_, _, _, _, _, _⟩ := cells3 BK318.out
 have hnb131 := NB319_0.out
 have hnc131 := NB0_319.out
 obtain ⟨_, _, _, _, _, _⟩ := cells3 BK319.out
 try go_wp2
 refine bodyPost_ret (results_cell_row rfl _ _ gb319 25 #[.int .i64 t320, .int .i64 t321, .slice (some ⟨go115, 0, none⟩) t322.length co123] (0, 0) _ rfl (zK) Try.underlying25 rfl (by kernel_rfl)) rfl ?_
 exact ⟨_, z10, by (with_reducible repeat (first | apply Kd.N_alloc | apply Kd.N_drewN | apply Kd.N_drew)); exact Kd.N_mono (Kd.N_far (p := ⟨gb319, 2, none⟩) (Kd.N_far (p := ⟨gb319, 1, none⟩) (Kd.N_far (p := ⟨gb319, 0, none⟩) (Kd.N_mono HO324.out (fun k_ hk => (⟨hk, hk.2.2.1⟩ : _ ∧ k_ ≠ gb319))) (fun _ hk => hk.2) (.int .i64 t320)) (fun _ hk => hk.2) (.int .i64 t321)) (fun _ hk => hk.2) (.slice (some ⟨go115, 0, none⟩) t322.length co123)) (fun _ hk => hk.1.1), zHI0, zHB, zHK⟩
end Go.Proofs.Ytljgbeccmcidkaa.P
