/- What the Go functions named below compute, function by function: a plain Lean function with the same answers and the proof that a call comes to them. Conditions: the arguments read as told, the plain function answers. -/
import Derived.Test.YtalmpbmgmijdkaaXA
namespace Go.Proofs.Ytalmpbmgmijdkaa.P
open Go.RowKit Go.Proofs.YtalmpbmgmijdkaaW.PrintWords Go.Proofs.YtalmpbmgmijdkaaW.PrintLast Go.Proofs.YtalmpbmgmijdkaaW.PrintMore
attribute [local go_sem] max2_int min2_int max_two min_two max_three min_three max_four min_four   -- for this text's walks alone
set_option linter.unusedVariables false
set_option linter.unusedSimpArgs false

attribute [local go_sem ↓] isSome_setCell
/-! ### spec_l2In: function 34 -/
def spec_l2In.f (a0_0 : Int) (a0_1 : Int) (a0_2 : Int) (a0_3 : Int) (l0_4 : List (S66)) (a1 : Int) (a2 : Int) : Option (Bool) := if a1 ≥ a0_0 then (if a1 < (wrap64 (a0_0 + a0_2)) then (if a2 ≥ a0_1 then (some (decide (a2 < (wrap64 (a0_1 + a0_3))))) else (some false)) else (some false)) else (some false)
theorem spec_l2In.zHB {p : Prop} (h : p := by repeat (first | (with_reducible first | exact HB.out | apply below_alloc | apply pw_below_drewN | apply below_drew1 | refine below_set ?_ GE125.out) | exact HB.out)) : p := h
theorem spec_l2In.z0 {p : Prop} (h : p := by first | rfl | (simp [errW_none, errW_some] <;> rfl) | (simp [*, errW_none, errW_some] <;> rfl)) : p := h
theorem spec_l2In.z1 {p : Prop} (h : p := by rw [hg]; exact (below_size (zHB))) : p := h
set_option maxHeartbeats 8000000 in
set_option maxRecDepth 100000 in
theorem spec_l2In.calls (a0_0 : Int) (a0_1 : Int) (a0_2 : Int) (a0_3 : Int) (A0_4 : Option Addr) (c0_4 : Nat) (l0_4 : List (S66)) (a1 : Int) (a2 : Int) (r : Bool) (w : World) (hr0_4 : Kd.C k66 w A0_4 l0_4.length l0_4) (hc0_4 : l0_4.length ≤ c0_4) (h : spec_l2In.f a0_0 a0_1 a0_2 a0_3 l0_4 a1 a2 = some r) :
    Calls Try.prog 34 #[.agg #[.int .i64 a0_0, .int .i64 a0_1, .int .i64 a0_2, .int .i64 a0_3, .slice A0_4 l0_4.length c0_4], .int .i64 a1, .int .i64 a2] w fun e w' => e = .returned (.bool r) ∧ Below w.heap.size w w' := by
 have hu48 := Try.underlying48
 have HR0_4 := Aside0.mk hr0_4
 have HC0_4 := Aside0.mk hc0_4
 clear hr0_4 hc0_4
 have HB := Aside0.mk (Below.refl w.heap.size w)
 have H : (if a1 ≥ a0_0 then (if a1 < (wrap64 (a0_0 + a0_2)) then (if a2 ≥ a0_1 then (some (decide (a2 < (wrap64 (a0_1 + a0_3))))) else (some false)) else (some false)) else (some false)) = some r := h
 clear h
 by_cases c4 : a1 ≥ a0_0
 · rw [if_pos c4] at H
   have c4b0 := decide_eq_true c4
   clear c4
   by_cases c5 : a1 < (wrap64 (a0_0 + a0_2))
   · rw [if_pos c5] at H
     have c5b0 := decide_eq_true c5
     clear c5
     by_cases c6 : a2 ≥ a0_1
     · rw [if_pos c6] at H
       have c6b0 := decide_eq_true c6
       clear c6
       obtain rfl := Option.some.inj H
       go_enter Try.func34, Try.ntmps34
       go_wp2_with (first | ((with_reducible refine gate_dst (N := 3) rfl ?_); refine box_event ?hg (N := 3) ?hd (cs := #[.int .i64 a0_0, .int .i64 a0_1, .int .i64 a0_2, .int .i64 a0_3, .slice A0_4 l0_4.length c0_4]) (t := 48) ?hr ?_; (case hd => rfl); (case hg => rfl); (case hr => first | (go_simp; done) | (go_simp; rfl)); intro gb125 hg w7 hbox hb; have BK125 := Aside0.mk (hbox); have GW125 := Aside0.mk ((z1 : w.heap.size ≤ gb125)); have GE125 := Aside0.mk ((z1 : w.heap.size ≤ gb125)); replace HB := Aside0.mk (below_step (zHB) hb); clear hb hbox hg; obtain ⟨hcz8_0, hcz8_1, hcz8_2, hcz8_3, hcz8_4, hfz8_0, hfz8_1, hfz8_2, hfz8_3, hfz8_4⟩ := cells5 BK125.out))
       go_ret
       exact ⟨z0, zHB⟩
     rw [if_neg c6] at H
     have c6b0 : decide (a0_1 ≤ a2) = false := decide_eq_false c6
     clear c6
     obtain rfl := Option.some.inj H
     go_enter Try.func34, Try.ntmps34
     go_wp2_with (first | ((with_reducible refine gate_dst (N := 3) rfl ?_); refine box_event ?hg (N := 3) ?hd (cs := #[.int .i64 a0_0, .int .i64 a0_1, .int .i64 a0_2, .int .i64 a0_3, .slice A0_4 l0_4.length c0_4]) (t := 48) ?hr ?_; (case hd => rfl); (case hg => rfl); (case hr => first | (go_simp; done) | (go_simp; rfl)); intro gb125 hg w9 hbox hb; have BK125 := Aside0.mk (hbox); have GW125 := Aside0.mk ((z1 : w.heap.size ≤ gb125)); have GE125 := Aside0.mk ((z1 : w.heap.size ≤ gb125)); replace HB := Aside0.mk (below_step (zHB) hb); clear hb hbox hg; obtain ⟨hcz10_0, hcz10_1, hcz10_2, hcz10_3, hcz10_4, hfz10_0, hfz10_1, hfz10_2, hfz10_3, hfz10_4⟩ := cells5 BK125.out))
     go_ret
     exact ⟨z0, zHB⟩
   rw [if_neg c5] at H
   have c5b0 : decide (a1 < (wrap64 (a0_0 + a0_2))) = false := decide_eq_false c5
   clear c5
   obtain rfl := Option.some.inj H
   go_enter Try.func34, Try.ntmps34
   go_wp2_with (first | ((with_reducible refine gate_dst (N := 3) rfl ?_); refine box_event ?hg (N := 3) ?hd (cs := #[.int .i64 a0_0, .int .i64 a0_1, .int .i64 a0_2, .int .i64 a0_3, .slice A0_4 l0_4.length c0_4]) (t := 48) ?hr ?_; (case hd => rfl); (case hg => rfl); (case hr => first | (go_simp; done) | (go_simp; rfl)); intro gb125 hg w11 hbox hb; have BK125 := Aside0.mk (hbox); have GW125 := Aside0.mk ((z1 : w.heap.size ≤ gb125)); have GE125 := Aside0.mk ((z1 : w.heap.size ≤ gb125)); replace HB := Aside0.mk (below_step (zHB) hb); clear hb hbox hg; obtain ⟨hcz12_0, hcz12_1, hcz12_2, hcz12_3, hcz12_4, hfz12_0, hfz12_1, hfz12_2, hfz12_3, hfz12_4⟩ := cells5 BK125.out))
   go_ret
   exact ⟨z0, zHB⟩
 rw [if_neg c4] at H
 have c4b0 : decide (a0_0 ≤ a1) = false := decide_eq_false c4
 clear c4
 obtain rfl := Option.some.inj H
 go_enter Try.func34, Try.ntmps34
 go_wp2_with (first | ((with_reducible refine gate_dst (N := 3) rfl ?_); refine box_event ?hg (N := 3) ?hd (cs := #[.int .i64 a0_0, .int .i64 a0_1, .int .i64 a0_2, .int .i64 a0_3, .slice A0_4 l0_4.length c0_4]) (t := 48) ?hr ?_; (case hd => rfl); (case hg => rfl); (case hr => first | (go_simp; done) | (go_simp; rfl)); intro gb125 hg w13 hbox hb; have BK125 := Aside0.mk (hbox); have GW125 := Aside0.mk ((z1 : w.heap.size ≤ gb125)); have GE125 := Aside0.mk ((z1 : w.heap.size ≤ gb125)); replace HB := Aside0.mk (below_step (zHB) hb); clear hb hbox hg; obtain ⟨hcz14_0, hcz14_1, hcz14_2, hcz14_3, hcz14_4, hfz14_0, hfz14_1, hfz14_2, hfz14_3, hfz14_4⟩ := cells5 BK125.out))
 go_ret
 exact ⟨z0, zHB⟩
end Go.Proofs.Ytalmpbmgmijdkaa.P
namespace Go.Proofs.Ytalmpbmgmijdkaa.P
open Go.RowKit Go.Proofs.YtalmpbmgmijdkaaW.PrintWords Go.Proofs.YtalmpbmgmijdkaaW.PrintLast Go.Proofs.YtalmpbmgmijdkaaW.PrintMore
attribute [local go_sem] max2_int min2_int max_two min_two max_three min_three max_four min_four   -- for this text's walks alone
set_option linter.unusedVariables false
set_option linter.unusedSimpArgs false

attribute [local go_sem ↓] isSome_setCell
/-! ### spec_l2Form: function 33 -/
mutual
def spec_l2Form.j0 : Nat → Bool → Int → Int → List (S48) → Option (Bool)
  | 0, _, _, _, _ => none
  | k + 1, x20, x113000, x113001, x113002 => if x20 = true then (some false) else (spec_l2Form.l0 k 0 x113000 x113001 x113002)
def spec_l2Form.l0 : Nat → Int → Int → Int → List (S48) → Option (Bool)
  | 0, _, _, _, _ => none
  | k + 1, x3, x113000, x113001, x113002 => if x3 < (x113002.length : Int) then (if 0 ≤ x3 then ((spec_l6In.f ((rd_T48 x113002 x3).f0) 0 (wrap64 (x113000 - 1))).bind fun t117 => (if t117 = true then ((spec_l6In.f ((rd_T48 x113002 x3).f1) 0 (wrap64 (x113001 - 1))).bind fun t118 => (if t118 = true then ((spec_l6In.f ((rd_T48 x113002 x3).f2) 1 (wrap64 (x113000 - ((rd_T48 x113002 x3).f0)))).bind fun t119 => (if t119 = true then ((spec_l6In.f ((rd_T48 x113002 x3).f3) 1 (wrap64 (x113001 - ((rd_T48 x113002 x3).f1)))).bind fun t120 => (if t120 = true then ((spec_TextOk.f k ((rd_T48 x113002 x3).f4)).bind fun t121 => (spec_l2Form.j2 k x3 (!t121) x113000 x113001 x113002 ((rd_T48 x113002 x3).f0) ((rd_T48 x113002 x3).f1) ((rd_T48 x113002 x3).f2) ((rd_T48 x113002 x3).f3) ((rd_T48 x113002 x3).f4))) else (spec_l2Form.j2 k x3 true x113000 x113001 x113002 ((rd_T48 x113002 x3).f0) ((rd_T48 x113002 x3).f1) ((rd_T48 x113002 x3).f2) ((rd_T48 x113002 x3).f3) ((rd_T48 x113002 x3).f4)))) else (spec_l2Form.j2 k x3 true x113000 x113001 x113002 ((rd_T48 x113002 x3).f0) ((rd_T48 x113002 x3).f1) ((rd_T48 x113002 x3).f2) ((rd_T48 x113002 x3).f3) ((rd_T48 x113002 x3).f4)))) else (spec_l2Form.j2 k x3 true x113000 x113001 x113002 ((rd_T48 x113002 x3).f0) ((rd_T48 x113002 x3).f1) ((rd_T48 x113002 x3).f2) ((rd_T48 x113002 x3).f3) ((rd_T48 x113002 x3).f4)))) else (spec_l2Form.j2 k x3 true x113000 x113001 x113002 ((rd_T48 x113002 x3).f0) ((rd_T48 x113002 x3).f1) ((rd_T48 x113002 x3).f2) ((rd_T48 x113002 x3).f3) ((rd_T48 x113002 x3).f4)))) else (none)) else (some true)
def spec_l2Form.j2 : Nat → Int → Bool → Int → Int → List (S48) → Int → Int → Int → Int → List (S66) → Option (Bool)
  | 0, _, _, _, _, _, _, _, _, _, _ => none
  | k + 1, x3, x76, x113000, x113001, x113002, x117000, x117001, x117002, x117003, x117004 => if x76 = true then (some false) else (if x3 > 0 then (if 0 ≤ (wrap64 (x3 - 1)) then (if (wrap64 (x3 - 1)) < (x113002.length : Int) then (if ((rd_T48 x113002 (wrap64 (x3 - 1))).f0) > x117000 then (spec_l2Form.j3 k x3 true x113000 x113001 x113002) else (if ((rd_T48 x113002 (wrap64 (x3 - 1))).f0) = x117000 then (spec_l2Form.j3 k x3 (decide (((rd_T48 x113002 (wrap64 (x3 - 1))).f1) ≥ x117001)) x113000 x113001 x113002) else (spec_l2Form.j3 k x3 false x113000 x113001 x113002))) else (none)) else (none)) else (spec_l2Form.j3 k x3 false x113000 x113001 x113002))
def spec_l2Form.j3 : Nat → Int → Bool → Int → Int → List (S48) → Option (Bool)
  | 0, _, _, _, _, _ => none
  | k + 1, x3, x114, x113000, x113001, x113002 => if x114 = true then (some false) else (spec_l2Form.l0 k (wrap64 (x3 + 1)) x113000 x113001 x113002)
end
def spec_l2Form.f (k : Nat) (a0_0 : Int) (a0_1 : Int) (l0_2 : List (S48)) : Option (Bool) := (spec_l6In.f a0_0 1 5).bind fun t113 => (if t113 = true then ((spec_l6In.f a0_1 1 5).bind fun t114 => (if t114 = true then (spec_l2Form.j0 k (decide ((l0_2.length : Int) > 25)) a0_0 a0_1 l0_2) else (spec_l2Form.j0 k true a0_0 a0_1 l0_2))) else (spec_l2Form.j0 k true a0_0 a0_1 l0_2))
theorem spec_l2Form.mono_l : ∀ k, (∀ y0 y1 y2 y3, LeO (spec_l2Form.j0 k y0 y1 y2 y3) (spec_l2Form.j0 (k + 1) y0 y1 y2 y3)) ∧ (∀ y0 y1 y2 y3, LeO (spec_l2Form.l0 k y0 y1 y2 y3) (spec_l2Form.l0 (k + 1) y0 y1 y2 y3)) ∧ (∀ y0 y1 y2 y3 y4 y5 y6 y7 y8 y9, LeO (spec_l2Form.j2 k y0 y1 y2 y3 y4 y5 y6 y7 y8 y9) (spec_l2Form.j2 (k + 1) y0 y1 y2 y3 y4 y5 y6 y7 y8 y9)) ∧ (∀ y0 y1 y2 y3 y4, LeO (spec_l2Form.j3 k y0 y1 y2 y3 y4) (spec_l2Form.j3 (k + 1) y0 y1 y2 y3 y4))
  | 0 => by refine ⟨?_, ?_, ?_, ?_⟩ <;> intros <;> intro r h <;> simp [spec_l2Form.j0, spec_l2Form.l0, spec_l2Form.j2, spec_l2Form.j3] at h
  | k + 1 => by
    obtain ⟨ih0, ih1, ih2, ih3⟩ := spec_l2Form.mono_l k
    refine ⟨?_, ?_, ?_, ?_⟩ <;> intros <;> (first | unfold spec_l2Form.j0 | unfold spec_l2Form.l0 | unfold spec_l2Form.j2 | unfold spec_l2Form.j3) <;> with_reducible repeat' first | exact ih0 _ _ _ _ | exact ih1 _ _ _ _ | exact ih2 _ _ _ _ _ _ _ _ _ _ | exact ih3 _ _ _ _ _ | exact spec_TextOk.mono _ _ | exact LeO.refl _ | exact LeO.none _ | refine LeO.ite ?_ ?_ | refine LeO.bind ?_ (fun _ => ?_)
theorem spec_l2Form.mono : ∀ a0 a1 a2 k, LeO (spec_l2Form.f k a0 a1 a2) (spec_l2Form.f (k + 1) a0 a1 a2) := by
  intro a0 a1 a2 k
  obtain ⟨ih0, ih1, ih2, ih3⟩ := spec_l2Form.mono_l k
  unfold spec_l2Form.f
  with_reducible repeat' first | exact ih0 _ _ _ _ | exact ih1 _ _ _ _ | exact ih2 _ _ _ _ _ _ _ _ _ _ | exact ih3 _ _ _ _ _ | exact spec_TextOk.mono _ _ | exact LeO.refl _ | exact LeO.none _ | refine LeO.ite ?_ ?_ | refine LeO.bind ?_ (fun _ => ?_)
theorem spec_l2Form.zHB {p : Prop} (h : p := by repeat (first | (with_reducible first | exact HB.out | apply below_alloc | apply pw_below_drewN | apply below_drew1 | refine below_set ?_ GE112.out | refine below_set ?_ GE116.out) | exact HB.out)) : p := h
theorem spec_l2Form.zK {p : Prop} (h : p := by repeat' first | (with_reducible first | exact BK112.out | exact BK116.out | apply blk_drewN | apply blk_drew | apply blk_alloc | apply blk_far (hp := NB112_116.out) | apply blk_putE) | exact (rfl : List.set _ _ _ = _)) : p := h
theorem spec_l2Form.z0 {p : Prop} (h : p := by first | (with_reducible assumption) | assumption) : p := h
theorem spec_l2Form.z1 {p : Prop} (h : p := by first | rfl | (simp; done) | (simp [*]; done)) : p := h
theorem spec_l2Form.z2 {p : Prop} (h : p := by rw [hg]; exact (below_size (zHB))) : p := h
theorem spec_l2Form.z3 {p : Prop} (h : p := by first | rfl | (simp [errW_none, errW_some] <;> rfl) | (simp [*, errW_none, errW_some] <;> rfl)) : p := h
theorem spec_l2Form.z4 {p : Prop} (h : p := by have := HJ1.out; have := HK2.out; first | omega | exact Nat.le_refl _) : p := h
theorem spec_l2Form.z5 {p : Prop} (h : p := by have := HJ1.out; have := HK2.out; have := HJ13.out; first | omega | exact Nat.le_refl _) : p := h
theorem spec_l2Form.z6 {p : Prop} (h : p := by rw [hg]; exact Nat.ne_of_lt (blk_lt (g := gb112) (zK))) : p := h
theorem spec_l2Form.z7 {p : Prop} (h : p := by rw [hg]; exact Nat.ne_of_gt (blk_lt (g := gb112) (zK))) : p := h
theorem spec_l2Form.z8 {p : Prop} (h : p := by first | omega | exact Nat.le_refl _) : p := h
set_option maxHeartbeats 8000000 in
set_option maxRecDepth 100000 in
theorem spec_l2Form.calls (k : Nat) (a0_0 : Int) (a0_1 : Int) (A0_2 : Option Addr) (c0_2 : Nat) (l0_2 : List (S48)) (r : Bool) (w : World) (hr0_2 : Kd.C k48 w A0_2 l0_2.length l0_2) (hc0_2 : l0_2.length ≤ c0_2) (h : spec_l2Form.f k a0_0 a0_1 l0_2 = some r) :
    Calls Try.prog 33 #[.agg #[.int .i64 a0_0, .int .i64 a0_1, .slice A0_2 l0_2.length c0_2]] w fun e w' => e = .returned (.bool r) ∧ Below w.heap.size w w' := by
 have hu29 := Try.underlying29
 have hu48 := Try.underlying48
 have HR0_2 := Aside0.mk hr0_2
 have HC0_2 := Aside0.mk hc0_2
 clear hr0_2 hc0_2
 have HB := Aside0.mk (Below.refl w.heap.size w)
 have H : ((spec_l6In.f a0_0 1 5).bind fun t113 => (if t113 = true then ((spec_l6In.f a0_1 1 5).bind fun t114 => (if t114 = true then (spec_l2Form.j0 k (decide ((l0_2.length : Int) > 25)) a0_0 a0_1 l0_2) else (spec_l2Form.j0 k true a0_0 a0_1 l0_2))) else (spec_l2Form.j0 k true a0_0 a0_1 l0_2))) = some r := h
 clear h
 have HC2 := Aside0.mk H
 clear H
 go_enter Try.func33, Try.ntmps33
 go_upto_region 1 with (first | ((with_reducible refine gate_dst (N := 1) rfl ?_); (try (refine gate_guard (by rfl) ?_; dsimp only)); refine box_event ?hg (N := 1) ?hd (cs := #[.int .i64 a0_0, .int .i64 a0_1, .slice A0_2 l0_2.length c0_2]) (t := 29) ?hr ?_; (case hd => rfl); (case hg => rfl); (case hr => first | (go_simp; done) | (go_simp; rfl)); intro gb112 hg w3 hbox hb; have BK112 := Aside0.mk (hbox); have GW112 := Aside0.mk ((z2 : w.heap.size ≤ gb112)); have GE112 := Aside0.mk ((z2 : w.heap.size ≤ gb112)); replace HB := Aside0.mk (below_step (zHB) hb); clear hb hbox hg))
 repeat (go_quiet (first | ((with_reducible refine gate_dst (N := 1) rfl ?_); (try (refine gate_guard (by rfl) ?_; dsimp only)); refine box_event ?hg (N := 1) ?hd (cs := #[.int .i64 a0_0, .int .i64 a0_1, .slice A0_2 l0_2.length c0_2]) (t := 29) ?hr ?_; (case hd => rfl); (case hg => rfl); (case hr => first | (go_simp; done) | (go_simp; rfl)); intro gb112 hg w3 hbox hb; have BK112 := Aside0.mk (hbox); have GW112 := Aside0.mk ((z2 : w.heap.size ≤ gb112)); have GE112 := Aside0.mk ((z2 : w.heap.size ≤ gb112)); replace HB := Aside0.mk (below_step (zHB) hb); clear hb hbox hg)); go_upto_region 1 with (first | ((with_reducible refine gate_dst (N := 1) rfl ?_); (try (refine gate_guard (by rfl) ?_; dsimp only)); refine box_event ?hg (N := 1) ?hd (cs := #[.int .i64 a0_0, .int .i64 a0_1, .slice A0_2 l0_2.length c0_2]) (t := 29) ?hr ?_; (case hd => rfl); (case hg => rfl); (case hr => first | (go_simp; done) | (go_simp; rfl)); intro gb112 hg w3 hbox hb; have BK112 := Aside0.mk (hbox); have GW112 := Aside0.mk ((z2 : w.heap.size ≤ gb112)); have GE112 := Aside0.mk ((z2 : w.heap.size ≤ gb112)); replace HB := Aside0.mk (below_step (zHB) hb); clear hb hbox hg)))
 (try simp only [Act.put, List.setIfInBounds_toArray, List.set_cons_zero, List.set_cons_succ])
 go_cut [20] (fun v20 wc => ∃ (kq : Nat) (x20_1 : Bool), v20 = .bool x20_1 ∧ Aside0 (spec_l2Form.j0 kq x20_1 a0_0 a0_1 l0_2 = some r) ∧ Aside0 (kq ≤ k) ∧ Aside0 (wc.heap[gb112]? = some (.cells #[.int .i64 a0_0, .int .i64 a0_1, (.slice A0_2 l0_2.length c0_2)] 29 (0, 0))) ∧ Aside0 (Below w.heap.size w wc))
 case first =>
  have H := HC2.out
  clear HC2
  obtain ⟨t113, A4, H⟩ := bnd H
  obtain rfl | rfl := tf t113
  · rw [if_pos rfl] at H
    obtain ⟨t114, A6, H⟩ := bnd H
    obtain rfl | rfl := tf t114
    · rw [if_pos rfl] at H
      have H' := Aside0.mk H
      clear H
      obtain ⟨hcz8_0, hcz8_1, hcz8_2, hfz8_0, hfz8_1, hfz8_2⟩ := cells3 BK112.out
      go_wp2_with (first | (go_at_call 41; (with_reducible refine (spec_l6In.calls a0_0 1 5 true _ A4.out).mono ?_); rintro e w' ⟨rfl, ⟨nd, rfl⟩⟩; (try first | exact ⟨rfl, _, World.drewN_drewN _ _ _⟩ | exact ⟨rfl, _, Eq.trans (World.drewN_drewN _ _ _) (congrArg (World.drewN _) (Nat.add_assoc _ _ _))⟩)) | (go_at_call 41; (with_reducible refine (spec_l6In.calls a0_1 1 5 true _ A6.out).mono ?_); rintro e w' ⟨rfl, ⟨nd, rfl⟩⟩; (try first | exact ⟨rfl, _, World.drewN_drewN _ _ _⟩ | exact ⟨rfl, _, Eq.trans (World.drewN_drewN _ _ _) (congrArg (World.drewN _) (Nat.add_assoc _ _ _))⟩)))
      repeat (go_quiet (first | (go_at_call 41; (with_reducible refine (spec_l6In.calls a0_0 1 5 true _ A4.out).mono ?_); rintro e w' ⟨rfl, ⟨nd, rfl⟩⟩; (try first | exact ⟨rfl, _, World.drewN_drewN _ _ _⟩ | exact ⟨rfl, _, Eq.trans (World.drewN_drewN _ _ _) (congrArg (World.drewN _) (Nat.add_assoc _ _ _))⟩)) | (go_at_call 41; (with_reducible refine (spec_l6In.calls a0_1 1 5 true _ A6.out).mono ?_); rintro e w' ⟨rfl, ⟨nd, rfl⟩⟩; (try first | exact ⟨rfl, _, World.drewN_drewN _ _ _⟩ | exact ⟨rfl, _, Eq.trans (World.drewN_drewN _ _ _) (congrArg (World.drewN _) (Nat.add_assoc _ _ _))⟩))); try go_wp2_with (first | (go_at_call 41; (with_reducible refine (spec_l6In.calls a0_0 1 5 true _ A4.out).mono ?_); rintro e w' ⟨rfl, ⟨nd, rfl⟩⟩; (try first | exact ⟨rfl, _, World.drewN_drewN _ _ _⟩ | exact ⟨rfl, _, Eq.trans (World.drewN_drewN _ _ _) (congrArg (World.drewN _) (Nat.add_assoc _ _ _))⟩)) | (go_at_call 41; (with_reducible refine (spec_l6In.calls a0_1 1 5 true _ A6.out).mono ?_); rintro e w' ⟨rfl, ⟨nd, rfl⟩⟩; (try first | exact ⟨rfl, _, World.drewN_drewN _ _ _⟩ | exact ⟨rfl, _, Eq.trans (World.drewN_drewN _ _ _) (congrArg (World.drewN _) (Nat.add_assoc _ _ _))⟩))))
      go_meet
      exact ⟨_, (decide ((l0_2.length : Int) > 25)), (z1), H', ⟨z8⟩, ⟨zK⟩, ⟨zHB⟩⟩
    rw [if_neg Bool.false_ne_true] at H
    have H' := Aside0.mk H
    clear H
    obtain ⟨hcz9_0, hcz9_1, hcz9_2, hfz9_0, hfz9_1, hfz9_2⟩ := cells3 BK112.out
    go_wp2_with (first | (go_at_call 41; (with_reducible refine (spec_l6In.calls a0_0 1 5 true _ A4.out).mono ?_); rintro e w' ⟨rfl, ⟨nd, rfl⟩⟩; (try first | exact ⟨rfl, _, World.drewN_drewN _ _ _⟩ | exact ⟨rfl, _, Eq.trans (World.drewN_drewN _ _ _) (congrArg (World.drewN _) (Nat.add_assoc _ _ _))⟩)) | (go_at_call 41; (with_reducible refine (spec_l6In.calls a0_1 1 5 false _ A6.out).mono ?_); rintro e w' ⟨rfl, ⟨nd, rfl⟩⟩; (try first | exact ⟨rfl, _, World.drewN_drewN _ _ _⟩ | exact ⟨rfl, _, Eq.trans (World.drewN_drewN _ _ _) (congrArg (World.drewN _) (Nat.add_assoc _ _ _))⟩)))
    repeat (go_quiet (first | (go_at_call 41; (with_reducible refine (spec_l6In.calls a0_0 1 5 true _ A4.out).mono ?_); rintro e w' ⟨rfl, ⟨nd, rfl⟩⟩; (try first | exact ⟨rfl, _, World.drewN_drewN _ _ _⟩ | exact ⟨rfl, _, Eq.trans (World.drewN_drewN _ _ _) (congrArg (World.drewN _) (Nat.add_assoc _ _ _))⟩)) | (go_at_call 41; (with_reducible refine (spec_l6In.calls a0_1 1 5 false _ A6.out).mono ?_); rintro e w' ⟨rfl, ⟨nd, rfl⟩⟩; (try first | exact ⟨rfl, _, World.drewN_drewN _ _ _⟩ | exact ⟨rfl, _, Eq.trans (World.drewN_drewN _ _ _) (congrArg (World.drewN _) (Nat.add_assoc _ _ _))⟩))); try go_wp2_with (first | (go_at_call 41; (with_reducible refine (spec_l6In.calls a0_0 1 5 true _ A4.out).mono ?_); rintro e w' ⟨rfl, ⟨nd, rfl⟩⟩; (try first | exact ⟨rfl, _, World.drewN_drewN _ _ _⟩ | exact ⟨rfl, _, Eq.trans (World.drewN_drewN _ _ _) (congrArg (World.drewN _) (Nat.add_assoc _ _ _))⟩)) | (go_at_call 41; (with_reducible refine (spec_l6In.calls a0_1 1 5 false _ A6.out).mono ?_); rintro e w' ⟨rfl, ⟨nd, rfl⟩⟩; (try first | exact ⟨rfl, _, World.drewN_drewN _ _ _⟩ | exact ⟨rfl, _, Eq.trans (World.drewN_drewN _ _ _) (congrArg (World.drewN _) (Nat.add_assoc _ _ _))⟩))))
    go_meet
    exact ⟨_, (true), (z1), H', ⟨z8⟩, ⟨zK⟩, ⟨zHB⟩⟩
  rw [if_neg Bool.false_ne_true] at H
  have H' := Aside0.mk H
  clear H
  obtain ⟨hcz10_0, hcz10_1, hcz10_2, hfz10_0, hfz10_1, hfz10_2⟩ := cells3 BK112.out
  go_wp2_with (first | (go_at_call 41; (with_reducible refine (spec_l6In.calls a0_0 1 5 false _ A4.out).mono ?_); rintro e w' ⟨rfl, ⟨nd, rfl⟩⟩; (try first | exact ⟨rfl, _, World.drewN_drewN _ _ _⟩ | exact ⟨rfl, _, Eq.trans (World.drewN_drewN _ _ _) (congrArg (World.drewN _) (Nat.add_assoc _ _ _))⟩)))
  repeat (go_quiet (first | (go_at_call 41; (with_reducible refine (spec_l6In.calls a0_0 1 5 false _ A4.out).mono ?_); rintro e w' ⟨rfl, ⟨nd, rfl⟩⟩; (try first | exact ⟨rfl, _, World.drewN_drewN _ _ _⟩ | exact ⟨rfl, _, Eq.trans (World.drewN_drewN _ _ _) (congrArg (World.drewN _) (Nat.add_assoc _ _ _))⟩))); try go_wp2_with (first | (go_at_call 41; (with_reducible refine (spec_l6In.calls a0_0 1 5 false _ A4.out).mono ?_); rintro e w' ⟨rfl, ⟨nd, rfl⟩⟩; (try first | exact ⟨rfl, _, World.drewN_drewN _ _ _⟩ | exact ⟨rfl, _, Eq.trans (World.drewN_drewN _ _ _) (congrArg (World.drewN _) (Nat.add_assoc _ _ _))⟩))))
  go_meet
  exact ⟨_, (true), (z1), H', ⟨z8⟩, ⟨zK⟩, ⟨zHB⟩⟩
 clear HC2
 obtain ⟨kq, x20_1, rfl, HA, HJ1, BK112, HB⟩ := hcut
 cases kq with
 | zero => exact absurd HA.out (by simp [spec_l2Form.j0])
 | succ kj1 =>
  have H := HA.out
  clear HA
  simp only [spec_l2Form.j0] at H
  obtain rfl | rfl := tf x20_1
  · rw [if_pos rfl] at H
    obtain rfl := Option.some.inj H
    go_wp2
    repeat (go_quiet (fail); try go_wp2)
    go_ret
    exact ⟨z3, zHB⟩
  rw [if_neg Bool.false_ne_true] at H
  have H' := Aside0.mk H
  clear H
  go_wp2
  repeat (go_quiet (fail); try go_wp2)
  go_loopg [3] kj1 (fun kq v3 w' => ∃ (x3_2 : Int), v3 = .int .i64 x3_2 ∧ Aside0 (spec_l2Form.l0 kq x3_2 a0_0 a0_1 l0_2 = some r) ∧ Aside0 (kq ≤ kj1) ∧ Aside0 (w'.heap[gb112]? = some (.cells #[.int .i64 a0_0, .int .i64 a0_1, (.slice A0_2 l0_2.length c0_2)] 29 (0, 0))) ∧ Aside0 (Below w.heap.size w w'))
  case atStart => exact ⟨(0), (z1), H', ⟨Nat.le_refl _⟩, ⟨zK⟩, ⟨zHB⟩⟩
  clear H'
  obtain ⟨x3_2, rfl, HA, HK2, BK112, HB⟩ := hrel
  cases gk with
  | zero => exact absurd HA.out (by simp [spec_l2Form.l0])
  | succ k2 =>
   have H := HA.out
   clear HA
   simp only [spec_l2Form.l0] at H
   by_cases c12 : x3_2 < (l0_2.length : Int)
   · rw [if_pos c12] at H
     have c12b0 := decide_eq_true c12
     clear c12
     by_cases c13 : 0 ≤ x3_2
     · rw [if_pos c13] at H
       have c13b0 := decide_eq_true c13
       clear c13
       have HC14 := Aside0.mk H
       clear H
       obtain ⟨hcz15_0, hcz15_1, hcz15_2, hfz15_0, hfz15_1, hfz15_2⟩ := cells3 BK112.out
       have p115 : 0 ≤ (x3_2 : Int) := of_decide_eq_true (z0)
       have q115 : x3_2 < (l0_2.length : Int) := of_decide_eq_true (z0)
       obtain ⟨ad115, A115_4, c115_4, e115, hx115_0, hx115_1, hx115_2, hx115_3, hx115_4, hl115_4, hi115_4⟩ := at_T48 HR0_2.out x3_2 p115 q115
       cases e115
       replace hx115_0 := (HB.out.cell (World.block_lt_of_cell? w _ hx115_0)).trans hx115_0
       replace hx115_1 := (HB.out.cell (World.block_lt_of_cell? w _ hx115_1)).trans hx115_1
       replace hx115_2 := (HB.out.cell (World.block_lt_of_cell? w _ hx115_2)).trans hx115_2
       replace hx115_3 := (HB.out.cell (World.block_lt_of_cell? w _ hx115_3)).trans hx115_3
       replace hx115_4 := (HB.out.cell (World.block_lt_of_cell? w _ hx115_4)).trans hx115_4
       have HR115_4 := Aside0.mk hi115_4
       have HC115_4 := Aside0.mk hl115_4
       clear hi115_4 hl115_4
       replace p115 := eq_true p115
       replace q115 := eq_true q115
       go_upto_region 7 with (first | ((with_reducible refine gate_dst (N := 4) rfl ?_); (try (refine gate_guard (by rfl) ?_; dsimp only)); refine box_event ?hg (N := 4) ?hd (cs := #[.int .i64 0, .int .i64 0, .int .i64 0, .int .i64 0, .slice none 0 0]) (t := 48) ?hr ?_; (case hd => rfl); (case hg => rfl); (case hr => first | (go_simp; done) | (go_simp; rfl)); intro gb116 hg w16 hbox hb; have BK116 := Aside0.mk (hbox); have GW116 := Aside0.mk ((z2 : w.heap.size ≤ gb116)); have GE116 := Aside0.mk ((z2 : w.heap.size ≤ gb116)); replace HB := Aside0.mk (below_step (zHB) hb); have NB112_116 := Aside0.mk ((z6 : gb112 ≠ gb116)); have NB116_112 := Aside0.mk ((z7 : gb116 ≠ gb112)); replace BK112 := Aside0.mk (blk_below (g := gb112) (zK) hb); clear hb hbox hg; have hnb17 := NB116_112.out; have hnc17 := NB112_116.out; obtain ⟨hcz18_0, hcz18_1, hcz18_2, hcz18_3, hcz18_4, hfz18_0, hfz18_1, hfz18_2, hfz18_3, hfz18_4⟩ := cells5 BK116.out))
       repeat (go_quiet (first | ((with_reducible refine gate_dst (N := 4) rfl ?_); (try (refine gate_guard (by rfl) ?_; dsimp only)); refine box_event ?hg (N := 4) ?hd (cs := #[.int .i64 0, .int .i64 0, .int .i64 0, .int .i64 0, .slice none 0 0]) (t := 48) ?hr ?_; (case hd => rfl); (case hg => rfl); (case hr => first | (go_simp; done) | (go_simp; rfl)); intro gb116 hg w16 hbox hb; have BK116 := Aside0.mk (hbox); have GW116 := Aside0.mk ((z2 : w.heap.size ≤ gb116)); have GE116 := Aside0.mk ((z2 : w.heap.size ≤ gb116)); replace HB := Aside0.mk (below_step (zHB) hb); have NB112_116 := Aside0.mk ((z6 : gb112 ≠ gb116)); have NB116_112 := Aside0.mk ((z7 : gb116 ≠ gb112)); replace BK112 := Aside0.mk (blk_below (g := gb112) (zK) hb); clear hb hbox hg; have hnb17 := NB116_112.out; have hnc17 := NB112_116.out; obtain ⟨hcz18_0, hcz18_1, hcz18_2, hcz18_3, hcz18_4, hfz18_0, hfz18_1, hfz18_2, hfz18_3, hfz18_4⟩ := cells5 BK116.out)); go_upto_region 7 with (first | ((with_reducible refine gate_dst (N := 4) rfl ?_); (try (refine gate_guard (by rfl) ?_; dsimp only)); refine box_event ?hg (N := 4) ?hd (cs := #[.int .i64 0, .int .i64 0, .int .i64 0, .int .i64 0, .slice none 0 0]) (t := 48) ?hr ?_; (case hd => rfl); (case hg => rfl); (case hr => first | (go_simp; done) | (go_simp; rfl)); intro gb116 hg w16 hbox hb; have BK116 := Aside0.mk (hbox); have GW116 := Aside0.mk ((z2 : w.heap.size ≤ gb116)); have GE116 := Aside0.mk ((z2 : w.heap.size ≤ gb116)); replace HB := Aside0.mk (below_step (zHB) hb); have NB112_116 := Aside0.mk ((z6 : gb112 ≠ gb116)); have NB116_112 := Aside0.mk ((z7 : gb116 ≠ gb112)); replace BK112 := Aside0.mk (blk_below (g := gb112) (zK) hb); clear hb hbox hg; have hnb17 := NB116_112.out; have hnc17 := NB112_116.out; obtain ⟨hcz18_0, hcz18_1, hcz18_2, hcz18_3, hcz18_4, hfz18_0, hfz18_1, hfz18_2, hfz18_3, hfz18_4⟩ := cells5 BK116.out)))
       (try simp only [Act.put, List.setIfInBounds_toArray, List.set_cons_zero, List.set_cons_succ])
       go_cut [76] (fun v76 wc => ∃ (kq : Nat) (x76_13 : Bool), v76 = .bool x76_13 ∧ Aside0 (spec_l2Form.j2 kq x3_2 x76_13 a0_0 a0_1 l0_2 ((rd_T48 l0_2 x3_2).f0) ((rd_T48 l0_2 x3_2).f1) ((rd_T48 l0_2 x3_2).f2) ((rd_T48 l0_2 x3_2).f3) ((rd_T48 l0_2 x3_2).f4) = some r) ∧ Aside0 (kq ≤ k2) ∧ Aside0 (wc.heap[gb112]? = some (.cells #[.int .i64 a0_0, .int .i64 a0_1, (.slice (some ad115) l0_2.length c0_2)] 29 (0, 0))) ∧ Aside0 (wc.heap[gb116]? = some (.cells #[.int .i64 ((rd_T48 l0_2 x3_2).f0), .int .i64 ((rd_T48 l0_2 x3_2).f1), .int .i64 ((rd_T48 l0_2 x3_2).f2), .int .i64 ((rd_T48 l0_2 x3_2).f3), (.slice A115_4 ((rd_T48 l0_2 x3_2).f4).length c115_4)] 48 (0, 0))) ∧ Aside0 (Below w.heap.size w wc))
       case first =>
        have H := HC14.out
        clear HC14
        obtain ⟨t117, A19, H⟩ := bnd H
        obtain rfl | rfl := tf t117
        · rw [if_pos rfl] at H
          obtain ⟨t118, A21, H⟩ := bnd H
          obtain rfl | rfl := tf t118
          · rw [if_pos rfl] at H
            obtain ⟨t119, A23, H⟩ := bnd H
            obtain rfl | rfl := tf t119
            · rw [if_pos rfl] at H
              obtain ⟨t120, A25, H⟩ := bnd H
              obtain rfl | rfl := tf t120
              · rw [if_pos rfl] at H
                obtain ⟨t121, A27, H⟩ := bnd H
                have H' := Aside0.mk H
                clear H
                have hnb28 := NB116_112.out
                have hnc28 := NB112_116.out
                obtain ⟨hcz29_0, hcz29_1, hcz29_2, hcz29_3, hcz29_4, hfz29_0, hfz29_1, hfz29_2, hfz29_3, hfz29_4⟩ := cells5 BK116.out
                obtain ⟨hcz30_0, hcz30_1, hcz30_2, hfz30_0, hfz30_1, hfz30_2⟩ := cells3 BK112.out
                go_wp2_with (first | (go_at_call 41; (with_reducible refine (spec_l6In.calls ((rd_T48 l0_2 x3_2).f0) 0 (wrap64 (a0_0 - 1)) true _ A19.out).mono ?_); rintro e w' ⟨rfl, ⟨nd, rfl⟩⟩; (try first | exact ⟨rfl, _, World.drewN_drewN _ _ _⟩ | exact ⟨rfl, _, Eq.trans (World.drewN_drewN _ _ _) (congrArg (World.drewN _) (Nat.add_assoc _ _ _))⟩)) | (go_at_call 41; (with_reducible refine (spec_l6In.calls ((rd_T48 l0_2 x3_2).f1) 0 (wrap64 (a0_1 - 1)) true _ A21.out).mono ?_); rintro e w' ⟨rfl, ⟨nd, rfl⟩⟩; (try first | exact ⟨rfl, _, World.drewN_drewN _ _ _⟩ | exact ⟨rfl, _, Eq.trans (World.drewN_drewN _ _ _) (congrArg (World.drewN _) (Nat.add_assoc _ _ _))⟩)) | (go_at_call 41; (with_reducible refine (spec_l6In.calls ((rd_T48 l0_2 x3_2).f2) 1 (wrap64 (a0_0 - ((rd_T48 l0_2 x3_2).f0))) true _ A23.out).mono ?_); rintro e w' ⟨rfl, ⟨nd, rfl⟩⟩; (try first | exact ⟨rfl, _, World.drewN_drewN _ _ _⟩ | exact ⟨rfl, _, Eq.trans (World.drewN_drewN _ _ _) (congrArg (World.drewN _) (Nat.add_assoc _ _ _))⟩)) | (go_at_call 41; (with_reducible refine (spec_l6In.calls ((rd_T48 l0_2 x3_2).f3) 1 (wrap64 (a0_1 - ((rd_T48 l0_2 x3_2).f1))) true _ A25.out).mono ?_); rintro e w' ⟨rfl, ⟨nd, rfl⟩⟩; (try first | exact ⟨rfl, _, World.drewN_drewN _ _ _⟩ | exact ⟨rfl, _, Eq.trans (World.drewN_drewN _ _ _) (congrArg (World.drewN _) (Nat.add_assoc _ _ _))⟩)) | (go_at_call 49; (with_reducible refine (spec_TextOk.calls k2 _ _ ((rd_T48 l0_2 x3_2).f4) t121 _ ?side1 ?side2 A27.out).mono ?_); (case side1 => exact Kd.C_below HR115_4.out (zHB)); (case side2 => exact HC115_4.out); rintro e w31 ⟨rfl, hb⟩; replace BK112 := Aside0.mk (blk_below (g := gb112) (zK) hb); replace BK116 := Aside0.mk (blk_below (g := gb116) (o := .cells #[.int .i64 ((rd_T48 l0_2 x3_2).f0), .int .i64 ((rd_T48 l0_2 x3_2).f1), .int .i64 ((rd_T48 l0_2 x3_2).f2), .int .i64 ((rd_T48 l0_2 x3_2).f3), .slice A115_4 ((rd_T48 l0_2 x3_2).f4).length c115_4] 48 (0, 0)) (zK) hb); replace HB := Aside0.mk (below_step (zHB) hb); (try clear hb); (try clear hb2); (try clear hk); (try clear hi)))
                repeat (go_quiet (first | (go_at_call 41; (with_reducible refine (spec_l6In.calls ((rd_T48 l0_2 x3_2).f0) 0 (wrap64 (a0_0 - 1)) true _ A19.out).mono ?_); rintro e w' ⟨rfl, ⟨nd, rfl⟩⟩; (try first | exact ⟨rfl, _, World.drewN_drewN _ _ _⟩ | exact ⟨rfl, _, Eq.trans (World.drewN_drewN _ _ _) (congrArg (World.drewN _) (Nat.add_assoc _ _ _))⟩)) | (go_at_call 41; (with_reducible refine (spec_l6In.calls ((rd_T48 l0_2 x3_2).f1) 0 (wrap64 (a0_1 - 1)) true _ A21.out).mono ?_); rintro e w' ⟨rfl, ⟨nd, rfl⟩⟩; (try first | exact ⟨rfl, _, World.drewN_drewN _ _ _⟩ | exact ⟨rfl, _, Eq.trans (World.drewN_drewN _ _ _) (congrArg (World.drewN _) (Nat.add_assoc _ _ _))⟩)) | (go_at_call 41; (with_reducible refine (spec_l6In.calls ((rd_T48 l0_2 x3_2).f2) 1 (wrap64 (a0_0 - ((rd_T48 l0_2 x3_2).f0))) true _ A23.out).mono ?_); rintro e w' ⟨rfl, ⟨nd, rfl⟩⟩; (try first | exact ⟨rfl, _, World.drewN_drewN _ _ _⟩ | exact ⟨rfl, _, Eq.trans (World.drewN_drewN _ _ _) (congrArg (World.drewN _) (Nat.add_assoc _ _ _))⟩)) | (go_at_call 41; (with_reducible refine (spec_l6In.calls ((rd_T48 l0_2 x3_2).f3) 1 (wrap64 (a0_1 - ((rd_T48 l0_2 x3_2).f1))) true _ A25.out).mono ?_); rintro e w' ⟨rfl, ⟨nd, rfl⟩⟩; (try first | exact ⟨rfl, _, World.drewN_drewN _ _ _⟩ | exact ⟨rfl, _, Eq.trans (World.drewN_drewN _ _ _) (congrArg (World.drewN _) (Nat.add_assoc _ _ _))⟩)) | (go_at_call 49; (with_reducible refine (spec_TextOk.calls k2 _ _ ((rd_T48 l0_2 x3_2).f4) t121 _ ?side1 ?side2 A27.out).mono ?_); (case side1 => exact Kd.C_below HR115_4.out (zHB)); (case side2 => exact HC115_4.out); rintro e w31 ⟨rfl, hb⟩; replace BK112 := Aside0.mk (blk_below (g := gb112) (zK) hb); replace BK116 := Aside0.mk (blk_below (g := gb116) (o := .cells #[.int .i64 ((rd_T48 l0_2 x3_2).f0), .int .i64 ((rd_T48 l0_2 x3_2).f1), .int .i64 ((rd_T48 l0_2 x3_2).f2), .int .i64 ((rd_T48 l0_2 x3_2).f3), .slice A115_4 ((rd_T48 l0_2 x3_2).f4).length c115_4] 48 (0, 0)) (zK) hb); replace HB := Aside0.mk (below_step (zHB) hb); (try clear hb); (try clear hb2); (try clear hk); (try clear hi))); try go_wp2_with (first | (go_at_call 41; (with_reducible refine (spec_l6In.calls ((rd_T48 l0_2 x3_2).f0) 0 (wrap64 (a0_0 - 1)) true _ A19.out).mono ?_); rintro e w' ⟨rfl, ⟨nd, rfl⟩⟩; (try first | exact ⟨rfl, _, World.drewN_drewN _ _ _⟩ | exact ⟨rfl, _, Eq.trans (World.drewN_drewN _ _ _) (congrArg (World.drewN _) (Nat.add_assoc _ _ _))⟩)) | (go_at_call 41; (with_reducible refine (spec_l6In.calls ((rd_T48 l0_2 x3_2).f1) 0 (wrap64 (a0_1 - 1)) true _ A21.out).mono ?_); rintro e w' ⟨rfl, ⟨nd, rfl⟩⟩; (try first | exact ⟨rfl, _, World.drewN_drewN _ _ _⟩ | exact ⟨rfl, _, Eq.trans (World.drewN_drewN _ _ _) (congrArg (World.drewN _) (Nat.add_assoc _ _ _))⟩)) | (go_at_call 41; (with_reducible refine (spec_l6In.calls ((rd_T48 l0_2 x3_2).f2) 1 (wrap64 (a0_0 - ((rd_T48 l0_2 x3_2).f0))) true _ A23.out).mono ?_); rintro e w' ⟨rfl, ⟨nd, rfl⟩⟩; (try first | exact ⟨rfl, _, World.drewN_drewN _ _ _⟩ | exact ⟨rfl, _, Eq.trans (World.drewN_drewN _ _ _) (congrArg (World.drewN _) (Nat.add_assoc _ _ _))⟩)) | (go_at_call 41; (with_reducible refine (spec_l6In.calls ((rd_T48 l0_2 x3_2).f3) 1 (wrap64 (a0_1 - ((rd_T48 l0_2 x3_2).f1))) true _ A25.out).mono ?_); rintro e w' ⟨rfl, ⟨nd, rfl⟩⟩; (try first | exact ⟨rfl, _, World.drewN_drewN _ _ _⟩ | exact ⟨rfl, _, Eq.trans (World.drewN_drewN _ _ _) (congrArg (World.drewN _) (Nat.add_assoc _ _ _))⟩)) | (go_at_call 49; (with_reducible refine (spec_TextOk.calls k2 _ _ ((rd_T48 l0_2 x3_2).f4) t121 _ ?side1 ?side2 A27.out).mono ?_); (case side1 => exact Kd.C_below HR115_4.out (zHB)); (case side2 => exact HC115_4.out); rintro e w31 ⟨rfl, hb⟩; replace BK112 := Aside0.mk (blk_below (g := gb112) (zK) hb); replace BK116 := Aside0.mk (blk_below (g := gb116) (o := .cells #[.int .i64 ((rd_T48 l0_2 x3_2).f0), .int .i64 ((rd_T48 l0_2 x3_2).f1), .int .i64 ((rd_T48 l0_2 x3_2).f2), .int .i64 ((rd_T48 l0_2 x3_2).f3), .slice A115_4 ((rd_T48 l0_2 x3_2).f4).length c115_4] 48 (0, 0)) (zK) hb); replace HB := Aside0.mk (below_step (zHB) hb); (try clear hb); (try clear hb2); (try clear hk); (try clear hi))))
                go_meet
                exact ⟨_, (!t121), (z1), H', ⟨z4⟩, ⟨zK⟩, ⟨zK⟩, ⟨zHB⟩⟩
              rw [if_neg Bool.false_ne_true] at H
              have H' := Aside0.mk H
              clear H
              have hnb32 := NB116_112.out
              have hnc32 := NB112_116.out
              obtain ⟨hcz33_0, hcz33_1, hcz33_2, hcz33_3, hcz33_4, hfz33_0, hfz33_1, hfz33_2, hfz33_3, hfz33_4⟩ := cells5 BK116.out
              obtain ⟨hcz34_0, hcz34_1, hcz34_2, hfz34_0, hfz34_1, hfz34_2⟩ := cells3 BK112.out
              go_wp2_with (first | (go_at_call 41; (with_reducible refine (spec_l6In.calls ((rd_T48 l0_2 x3_2).f0) 0 (wrap64 (a0_0 - 1)) true _ A19.out).mono ?_); rintro e w' ⟨rfl, ⟨nd, rfl⟩⟩; (try first | exact ⟨rfl, _, World.drewN_drewN _ _ _⟩ | exact ⟨rfl, _, Eq.trans (World.drewN_drewN _ _ _) (congrArg (World.drewN _) (Nat.add_assoc _ _ _))⟩)) | (go_at_call 41; (with_reducible refine (spec_l6In.calls ((rd_T48 l0_2 x3_2).f1) 0 (wrap64 (a0_1 - 1)) true _ A21.out).mono ?_); rintro e w' ⟨rfl, ⟨nd, rfl⟩⟩; (try first | exact ⟨rfl, _, World.drewN_drewN _ _ _⟩ | exact ⟨rfl, _, Eq.trans (World.drewN_drewN _ _ _) (congrArg (World.drewN _) (Nat.add_assoc _ _ _))⟩)) | (go_at_call 41; (with_reducible refine (spec_l6In.calls ((rd_T48 l0_2 x3_2).f2) 1 (wrap64 (a0_0 - ((rd_T48 l0_2 x3_2).f0))) true _ A23.out).mono ?_); rintro e w' ⟨rfl, ⟨nd, rfl⟩⟩; (try first | exact ⟨rfl, _, World.drewN_drewN _ _ _⟩ | exact ⟨rfl, _, Eq.trans (World.drewN_drewN _ _ _) (congrArg (World.drewN _) (Nat.add_assoc _ _ _))⟩)) | (go_at_call 41; (with_reducible refine (spec_l6In.calls ((rd_T48 l0_2 x3_2).f3) 1 (wrap64 (a0_1 - ((rd_T48 l0_2 x3_2).f1))) false _ A25.out).mono ?_); rintro e w' ⟨rfl, ⟨nd, rfl⟩⟩; (try first | exact ⟨rfl, _, World.drewN_drewN _ _ _⟩ | exact ⟨rfl, _, Eq.trans (World.drewN_drewN _ _ _) (congrArg (World.drewN _) (Nat.add_assoc _ _ _))⟩)))
              repeat (go_quiet (first | (go_at_call 41; (with_reducible refine (spec_l6In.calls ((rd_T48 l0_2 x3_2).f0) 0 (wrap64 (a0_0 - 1)) true _ A19.out).mono ?_); rintro e w' ⟨rfl, ⟨nd, rfl⟩⟩; (try first | exact ⟨rfl, _, World.drewN_drewN _ _ _⟩ | exact ⟨rfl, _, Eq.trans (World.drewN_drewN _ _ _) (congrArg (World.drewN _) (Nat.add_assoc _ _ _))⟩)) | (go_at_call 41; (with_reducible refine (spec_l6In.calls ((rd_T48 l0_2 x3_2).f1) 0 (wrap64 (a0_1 - 1)) true _ A21.out).mono ?_); rintro e w' ⟨rfl, ⟨nd, rfl⟩⟩; (try first | exact ⟨rfl, _, World.drewN_drewN _ _ _⟩ | exact ⟨rfl, _, Eq.trans (World.drewN_drewN _ _ _) (congrArg (World.drewN _) (Nat.add_assoc _ _ _))⟩)) | (go_at_call 41; (with_reducible refine (spec_l6In.calls ((rd_T48 l0_2 x3_2).f2) 1 (wrap64 (a0_0 - ((rd_T48 l0_2 x3_2).f0))) true _ A23.out).mono ?_); rintro e w' ⟨rfl, ⟨nd, rfl⟩⟩; (try first | exact ⟨rfl, _, World.drewN_drewN _ _ _⟩ | exact ⟨rfl, _, Eq.trans (World.drewN_drewN _ _ _) (congrArg (World.drewN _) (Nat.add_assoc _ _ _))⟩)) | (go_at_call 41; (with_reducible refine (spec_l6In.calls ((rd_T48 l0_2 x3_2).f3) 1 (wrap64 (a0_1 - ((rd_T48 l0_2 x3_2).f1))) false _ A25.out).mono ?_); rintro e w' ⟨rfl, ⟨nd, rfl⟩⟩; (try first | exact ⟨rfl, _, World.drewN_drewN _ _ _⟩ | exact ⟨rfl, _, Eq.trans (World.drewN_drewN _ _ _) (congrArg (World.drewN _) (Nat.add_assoc _ _ _))⟩))); try go_wp2_with (first | (go_at_call 41; (with_reducible refine (spec_l6In.calls ((rd_T48 l0_2 x3_2).f0) 0 (wrap64 (a0_0 - 1)) true _ A19.out).mono ?_); rintro e w' ⟨rfl, ⟨nd, rfl⟩⟩; (try first | exact ⟨rfl, _, World.drewN_drewN _ _ _⟩ | exact ⟨rfl, _, Eq.trans (World.drewN_drewN _ _ _) (congrArg (World.drewN _) (Nat.add_assoc _ _ _))⟩)) | (go_at_call 41; (with_reducible refine (spec_l6In.calls ((rd_T48 l0_2 x3_2).f1) 0 (wrap64 (a0_1 - 1)) true _ A21.out).mono ?_); rintro e w' ⟨rfl, ⟨nd, rfl⟩⟩; (try first | exact ⟨rfl, _, World.drewN_drewN _ _ _⟩ | exact ⟨rfl, _, Eq.trans (World.drewN_drewN _ _ _) (congrArg (World.drewN _) (Nat.add_assoc _ _ _))⟩)) | (go_at_call 41; (with_reducible refine (spec_l6In.calls ((rd_T48 l0_2 x3_2).f2) 1 (wrap64 (a0_0 - ((rd_T48 l0_2 x3_2).f0))) true _ A23.out).mono ?_); rintro e w' ⟨rfl, ⟨nd, rfl⟩⟩; (try first | exact ⟨rfl, _, World.drewN_drewN _ _ _⟩ | exact ⟨rfl, _, Eq.trans (World.drewN_drewN _ _ _) (congrArg (World.drewN _) (Nat.add_assoc _ _ _))⟩)) | (go_at_call 41; (with_reducible refine (spec_l6In.calls ((rd_T48 l0_2 x3_2).f3) 1 (wrap64 (a0_1 - ((rd_T48 l0_2 x3_2).f1))) false _ A25.out).mono ?_); rintro e w' ⟨rfl, ⟨nd, rfl⟩⟩; (try first | exact ⟨rfl, _, World.drewN_drewN _ _ _⟩ | exact ⟨rfl, _, Eq.trans (World.drewN_drewN _ _ _) (congrArg (World.drewN _) (Nat.add_assoc _ _ _))⟩))))
              go_meet
              exact ⟨_, (true), (z1), H', ⟨z4⟩, ⟨zK⟩, ⟨zK⟩, ⟨zHB⟩⟩
            rw [if_neg Bool.false_ne_true] at H
            have H' := Aside0.mk H
            clear H
            have hnb35 := NB116_112.out
            have hnc35 := NB112_116.out
            obtain ⟨hcz36_0, hcz36_1, hcz36_2, hcz36_3, hcz36_4, hfz36_0, hfz36_1, hfz36_2, hfz36_3, hfz36_4⟩ := cells5 BK116.out
            obtain ⟨hcz37_0, hcz37_1, hcz37_2, hfz37_0, hfz37_1, hfz37_2⟩ := cells3 BK112.out
            go_wp2_with (first | (go_at_call 41; (with_reducible refine (spec_l6In.calls ((rd_T48 l0_2 x3_2).f0) 0 (wrap64 (a0_0 - 1)) true _ A19.out).mono ?_); rintro e w' ⟨rfl, ⟨nd, rfl⟩⟩; (try first | exact ⟨rfl, _, World.drewN_drewN _ _ _⟩ | exact ⟨rfl, _, Eq.trans (World.drewN_drewN _ _ _) (congrArg (World.drewN _) (Nat.add_assoc _ _ _))⟩)) | (go_at_call 41; (with_reducible refine (spec_l6In.calls ((rd_T48 l0_2 x3_2).f1) 0 (wrap64 (a0_1 - 1)) true _ A21.out).mono ?_); rintro e w' ⟨rfl, ⟨nd, rfl⟩⟩; (try first | exact ⟨rfl, _, World.drewN_drewN _ _ _⟩ | exact ⟨rfl, _, Eq.trans (World.drewN_drewN _ _ _) (congrArg (World.drewN _) (Nat.add_assoc _ _ _))⟩)) | (go_at_call 41; (with_reducible refine (spec_l6In.calls ((rd_T48 l0_2 x3_2).f2) 1 (wrap64 (a0_0 - ((rd_T48 l0_2 x3_2).f0))) false _ A23.out).mono ?_); rintro e w' ⟨rfl, ⟨nd, rfl⟩⟩; (try first | exact ⟨rfl, _, World.drewN_drewN _ _ _⟩ | exact ⟨rfl, _, Eq.trans (World.drewN_drewN _ _ _) (congrArg (World.drewN _) (Nat.add_assoc _ _ _))⟩)))
            repeat (go_quiet (first | (go_at_call 41; (with_reducible refine (spec_l6In.calls ((rd_T48 l0_2 x3_2).f0) 0 (wrap64 (a0_0 - 1)) true _ A19.out).mono ?_); rintro e w' ⟨rfl, ⟨nd, rfl⟩⟩; (try first | exact ⟨rfl, _, World.drewN_drewN _ _ _⟩ | exact ⟨rfl, _, Eq.trans (World.drewN_drewN _ _ _) (congrArg (World.drewN _) (Nat.add_assoc _ _ _))⟩)) | (go_at_call 41; (with_reducible refine (spec_l6In.calls ((rd_T48 l0_2 x3_2).f1) 0 (wrap64 (a0_1 - 1)) true _ A21.out).mono ?_); rintro e w' ⟨rfl, ⟨nd, rfl⟩⟩; (try first | exact ⟨rfl, _, World.drewN_drewN _ _ _⟩ | exact ⟨rfl, _, Eq.trans (World.drewN_drewN _ _ _) (congrArg (World.drewN _) (Nat.add_assoc _ _ _))⟩)) | (go_at_call 41; (with_reducible refine (spec_l6In.calls ((rd_T48 l0_2 x3_2).f2) 1 (wrap64 (a0_0 - ((rd_T48 l0_2 x3_2).f0))) false _ A23.out).mono ?_); rintro e w' ⟨rfl, ⟨nd, rfl⟩⟩; (try first | exact ⟨rfl, _, World.drewN_drewN _ _ _⟩ | exact ⟨rfl, _, Eq.trans (World.drewN_drewN _ _ _) (congrArg (World.drewN _) (Nat.add_assoc _ _ _))⟩))); try go_wp2_with (first | (go_at_call 41; (with_reducible refine (spec_l6In.calls ((rd_T48 l0_2 x3_2).f0) 0 (wrap64 (a0_0 - 1)) true _ A19.out).mono ?_); rintro e w' ⟨rfl, ⟨nd, rfl⟩⟩; (try first | exact ⟨rfl, _, World.drewN_drewN _ _ _⟩ | exact ⟨rfl, _, Eq.trans (World.drewN_drewN _ _ _) (congrArg (World.drewN _) (Nat.add_assoc _ _ _))⟩)) | (go_at_call 41; (with_reducible refine (spec_l6In.calls ((rd_T48 l0_2 x3_2).f1) 0 (wrap64 (a0_1 - 1)) true _ A21.out).mono ?_); rintro e w' ⟨rfl, ⟨nd, rfl⟩⟩; (try first | exact ⟨rfl, _, World.drewN_drewN _ _ _⟩ | exact ⟨rfl, _, Eq.trans (World.drewN_drewN _ _ _) (congrArg (World.drewN _) (Nat.add_assoc _ _ _))⟩)) | (go_at_call 41; (with_reducible refine (spec_l6In.calls ((rd_T48 l0_2 x3_2).f2) 1 (wrap64 (a0_0 - ((rd_T48 l0_2 x3_2).f0))) false _ A23.out).mono ?_); rintro e w' ⟨rfl, ⟨nd, rfl⟩⟩; (try first | exact ⟨rfl, _, World.drewN_drewN _ _ _⟩ | exact ⟨rfl, _, Eq.trans (World.drewN_drewN _ _ _) (congrArg (World.drewN _) (Nat.add_assoc _ _ _))⟩))))
            go_meet
            exact ⟨_, (true), (z1), H', ⟨z4⟩, ⟨zK⟩, ⟨zK⟩, ⟨zHB⟩⟩
          rw [if_neg Bool.false_ne_true] at H
          have H' := Aside0.mk H
          clear H
          have hnb38 := NB116_112.out
          have hnc38 := NB112_116.out
          obtain ⟨hcz39_0, hcz39_1, hcz39_2, hcz39_3, hcz39_4, hfz39_0, hfz39_1, hfz39_2, hfz39_3, hfz39_4⟩ := cells5 BK116.out
          obtain ⟨hcz40_0, hcz40_1, hcz40_2, hfz40_0, hfz40_1, hfz40_2⟩ := cells3 BK112.out
          go_wp2_with (first | (go_at_call 41; (with_reducible refine (spec_l6In.calls ((rd_T48 l0_2 x3_2).f0) 0 (wrap64 (a0_0 - 1)) true _ A19.out).mono ?_); rintro e w' ⟨rfl, ⟨nd, rfl⟩⟩; (try first | exact ⟨rfl, _, World.drewN_drewN _ _ _⟩ | exact ⟨rfl, _, Eq.trans (World.drewN_drewN _ _ _) (congrArg (World.drewN _) (Nat.add_assoc _ _ _))⟩)) | (go_at_call 41; (with_reducible refine (spec_l6In.calls ((rd_T48 l0_2 x3_2).f1) 0 (wrap64 (a0_1 - 1)) false _ A21.out).mono ?_); rintro e w' ⟨rfl, ⟨nd, rfl⟩⟩; (try first | exact ⟨rfl, _, World.drewN_drewN _ _ _⟩ | exact ⟨rfl, _, Eq.trans (World.drewN_drewN _ _ _) (congrArg (World.drewN _) (Nat.add_assoc _ _ _))⟩)))
          repeat (go_quiet (first | (go_at_call 41; (with_reducible refine (spec_l6In.calls ((rd_T48 l0_2 x3_2).f0) 0 (wrap64 (a0_0 - 1)) true _ A19.out).mono ?_); rintro e w' ⟨rfl, ⟨nd, rfl⟩⟩; (try first | exact ⟨rfl, _, World.drewN_drewN _ _ _⟩ | exact ⟨rfl, _, Eq.trans (World.drewN_drewN _ _ _) (congrArg (World.drewN _) (Nat.add_assoc _ _ _))⟩)) | (go_at_call 41; (with_reducible refine (spec_l6In.calls ((rd_T48 l0_2 x3_2).f1) 0 (wrap64 (a0_1 - 1)) false _ A21.out).mono ?_); rintro e w' ⟨rfl, ⟨nd, rfl⟩⟩; (try first | exact ⟨rfl, _, World.drewN_drewN _ _ _⟩ | exact ⟨rfl, _, Eq.trans (World.drewN_drewN _ _ _) (congrArg (World.drewN _) (Nat.add_assoc _ _ _))⟩))); try go_wp2_with (first | (go_at_call 41; (with_reducible refine (spec_l6In.calls ((rd_T48 l0_2 x3_2).f0) 0 (wrap64 (a0_0 - 1)) true _ A19.out).mono ?_); rintro e w' ⟨rfl, ⟨nd, rfl⟩⟩; (try first | exact ⟨rfl, _, World.drewN_drewN _ _ _⟩ | exact ⟨rfl, _, Eq.trans (World.drewN_drewN _ _ _) (congrArg (World.drewN _) (Nat.add_assoc _ _ _))⟩)) | (go_at_call 41; (with_reducible refine (spec_l6In.calls ((rd_T48 l0_2 x3_2).f1) 0 (wrap64 (a0_1 - 1)) false _ A21.out).mono ?_); rintro e w' ⟨rfl, ⟨nd, rfl⟩⟩; (try first | exact ⟨rfl, _, World.drewN_drewN _ _ _⟩ | exact ⟨rfl, _, Eq.trans (World.drewN_drewN _ _ _) (congrArg (World.drewN _) (Nat.add_assoc _ _ _))⟩))))
          go_meet
          exact ⟨_, (true), (z1), H', ⟨z4⟩, ⟨zK⟩, ⟨zK⟩, ⟨zHB⟩⟩
        rw [if_neg Bool.false_ne_true] at H
        have H' := Aside0.mk H
        clear H
        have hnb41 := NB116_112.out
        have hnc41 := NB112_116.out
        obtain ⟨hcz42_0, hcz42_1, hcz42_2, hcz42_3, hcz42_4, hfz42_0, hfz42_1, hfz42_2, hfz42_3, hfz42_4⟩ := cells5 BK116.out
        obtain ⟨hcz43_0, hcz43_1, hcz43_2, hfz43_0, hfz43_1, hfz43_2⟩ := cells3 BK112.out
        go_wp2_with (first | (go_at_call 41; (with_reducible refine (spec_l6In.calls ((rd_T48 l0_2 x3_2).f0) 0 (wrap64 (a0_0 - 1)) false _ A19.out).mono ?_); rintro e w' ⟨rfl, ⟨nd, rfl⟩⟩; (try first | exact ⟨rfl, _, World.drewN_drewN _ _ _⟩ | exact ⟨rfl, _, Eq.trans (World.drewN_drewN _ _ _) (congrArg (World.drewN _) (Nat.add_assoc _ _ _))⟩)))
        repeat (go_quiet (first | (go_at_call 41; (with_reducible refine (spec_l6In.calls ((rd_T48 l0_2 x3_2).f0) 0 (wrap64 (a0_0 - 1)) false _ A19.out).mono ?_); rintro e w' ⟨rfl, ⟨nd, rfl⟩⟩; (try first | exact ⟨rfl, _, World.drewN_drewN _ _ _⟩ | exact ⟨rfl, _, Eq.trans (World.drewN_drewN _ _ _) (congrArg (World.drewN _) (Nat.add_assoc _ _ _))⟩))); try go_wp2_with (first | (go_at_call 41; (with_reducible refine (spec_l6In.calls ((rd_T48 l0_2 x3_2).f0) 0 (wrap64 (a0_0 - 1)) false _ A19.out).mono ?_); rintro e w' ⟨rfl, ⟨nd, rfl⟩⟩; (try first | exact ⟨rfl, _, World.drewN_drewN _ _ _⟩ | exact ⟨rfl, _, Eq.trans (World.drewN_drewN _ _ _) (congrArg (World.drewN _) (Nat.add_assoc _ _ _))⟩))))
        go_meet
        exact ⟨_, (true), (z1), H', ⟨z4⟩, ⟨zK⟩, ⟨zK⟩, ⟨zHB⟩⟩
       clear HC14
       (try clear c12); (try clear c12b0); (try clear c13); (try clear c13b0); (try clear hcz15_0); (try clear hcz15_1); (try clear hcz15_2); (try clear hcz18_0); (try clear hcz18_1); (try clear hcz18_2); (try clear hcz18_3); (try clear hcz18_4); (try clear hfz15_0); (try clear hfz15_1); (try clear hfz15_2); (try clear hfz18_0); (try clear hfz18_1); (try clear hfz18_2); (try clear hfz18_3); (try clear hfz18_4); (try clear hx115_0); (try clear hx115_1); (try clear hx115_2); (try clear hx115_3); (try clear hx115_4); (try clear p115); (try clear q115)
       obtain ⟨kq, x76_13, rfl, HA, HJ13, BK112, BK116, HB⟩ := hcut
       cases kq with
       | zero => exact absurd HA.out (by simp [spec_l2Form.j2])
       | succ kj13 =>
        have H := HA.out
        clear HA
        simp only [spec_l2Form.j2] at H
        obtain rfl | rfl := tf x76_13
        · rw [if_pos rfl] at H
          obtain rfl := Option.some.inj H
          go_wp2
          repeat (go_quiet (fail); try go_wp2)
          go_ret
          exact ⟨z3, zHB⟩
        rw [if_neg Bool.false_ne_true] at H
        have HC45 := Aside0.mk H
        clear H
        go_upto_region 9 with (fail)
        repeat (go_quiet (fail); go_upto_region 9 with (fail))
        go_cut [114] (fun v114 wc => ∃ (kq : Nat) (x114_44 : Bool), v114 = .bool x114_44 ∧ Aside0 (spec_l2Form.j3 kq x3_2 x114_44 a0_0 a0_1 l0_2 = some r) ∧ Aside0 (kq ≤ kj13) ∧ Aside0 (wc.heap[gb112]? = some (.cells #[.int .i64 a0_0, .int .i64 a0_1, (.slice (some ad115) l0_2.length c0_2)] 29 (0, 0))) ∧ Aside0 (wc.heap[gb116]? = some (.cells #[.int .i64 ((rd_T48 l0_2 x3_2).f0), .int .i64 ((rd_T48 l0_2 x3_2).f1), .int .i64 ((rd_T48 l0_2 x3_2).f2), .int .i64 ((rd_T48 l0_2 x3_2).f3), (.slice A115_4 ((rd_T48 l0_2 x3_2).f4).length c115_4)] 48 (0, 0))) ∧ Aside0 (Below w.heap.size w wc))
        case first =>
         have H := HC45.out
         clear HC45
         by_cases c46 : x3_2 > 0
         · rw [if_pos c46] at H
           have c46b0 := decide_eq_true c46
           clear c46
           (first | rw [c46b0] | (simp only [i64_w, i32_w]; rw [c46b0]) | skip)
           obtain ⟨ji47, hji47⟩ : ∃ j_ : Int, (wrap64 (x3_2 - 1)) = j_ := ⟨_, rfl⟩
           replace H : (if 0 ≤ (ji47) then (if (ji47) < (l0_2.length : Int) then (if ((rd_T48 l0_2 (ji47)).f0) > ((rd_T48 l0_2 x3_2).f0) then (spec_l2Form.j3 kj13 x3_2 true a0_0 a0_1 l0_2) else (if ((rd_T48 l0_2 (ji47)).f0) = ((rd_T48 l0_2 x3_2).f0) then (spec_l2Form.j3 kj13 x3_2 (decide (((rd_T48 l0_2 (ji47)).f1) ≥ ((rd_T48 l0_2 x3_2).f1))) a0_0 a0_1 l0_2) else (spec_l2Form.j3 kj13 x3_2 false a0_0 a0_1 l0_2))) else (none)) else (none)) = some r := by first | (rw [hji47] at H; exact H) | (simp only [hji47] at H ⊢; exact H)
           have hji47w : (IntKind.i64.wrap (x3_2 - 1)) = ji47 := (i64_w _).trans hji47
           by_cases c48 : 0 ≤ (ji47)
           · rw [if_pos c48] at H
             have c48b0 := decide_eq_true c48
             clear c48
             by_cases c49 : (ji47) < (l0_2.length : Int)
             · rw [if_pos c49] at H
               have c49b0 := decide_eq_true c49
               clear c49
               by_cases c50 : ((rd_T48 l0_2 (ji47)).f0) > ((rd_T48 l0_2 x3_2).f0)
               · rw [if_pos c50] at H
                 have c50b0 := decide_eq_true c50
                 clear c50
                 have H' := Aside0.mk H
                 clear H
                 have hnb51 := NB112_116.out
                 have hnc51 := NB116_112.out
                 obtain ⟨hcz52_0, hcz52_1, hcz52_2, hfz52_0, hfz52_1, hfz52_2⟩ := cells3 BK112.out
                 have p122 : 0 ≤ ((ji47) : Int) := of_decide_eq_true (z0)
                 have q122 : (ji47) < (l0_2.length : Int) := of_decide_eq_true (z0)
                 obtain ⟨ad122, A122_4, c122_4, e122, hx122_0, hx122_1, hx122_2, hx122_3, hx122_4, hl122_4, hi122_4⟩ := at_T48 HR0_2.out (ji47) p122 q122
                 obtain rfl : ad115 = ad122 := (by injection e122)
                 replace hx122_0 := (HB.out.cell (World.block_lt_of_cell? w _ hx122_0)).trans hx122_0
                 replace hx122_1 := (HB.out.cell (World.block_lt_of_cell? w _ hx122_1)).trans hx122_1
                 replace hx122_2 := (HB.out.cell (World.block_lt_of_cell? w _ hx122_2)).trans hx122_2
                 replace hx122_3 := (HB.out.cell (World.block_lt_of_cell? w _ hx122_3)).trans hx122_3
                 replace hx122_4 := (HB.out.cell (World.block_lt_of_cell? w _ hx122_4)).trans hx122_4
                 have HR122_4 := Aside0.mk hi122_4
                 have HC122_4 := Aside0.mk hl122_4
                 clear hi122_4 hl122_4
                 replace p122 := eq_true p122
                 replace q122 := eq_true q122
                 obtain ⟨hcz53_0, hcz53_1, hcz53_2, hcz53_3, hcz53_4, hfz53_0, hfz53_1, hfz53_2, hfz53_3, hfz53_4⟩ := cells5 BK116.out
                 go_wp2
                 repeat (go_quiet (fail); try go_wp2)
                 go_meet
                 exact ⟨_, (true), (z1), H', ⟨z5⟩, ⟨zK⟩, ⟨zK⟩, ⟨zHB⟩⟩
               rw [if_neg c50] at H
               have c50b0 : decide (((rd_T48 l0_2 x3_2).f0) < ((rd_T48 l0_2 (ji47)).f0)) = false := decide_eq_false c50
               clear c50
               by_cases c54 : ((rd_T48 l0_2 (ji47)).f0) = ((rd_T48 l0_2 x3_2).f0)
               · rw [if_pos c54] at H
                 have c54b0 : (((rd_T48 l0_2 (ji47)).f0) == ((rd_T48 l0_2 x3_2).f0)) = true := beq_iff_eq.mpr c54
                 have c54b1 : (((rd_T48 l0_2 (ji47)).f0) != ((rd_T48 l0_2 x3_2).f0)) = false := bne_eq_false_iff_eq.mpr c54
                 clear c54
                 have H' := Aside0.mk H
                 clear H
                 have hnb55 := NB112_116.out
                 have hnc55 := NB116_112.out
                 obtain ⟨hcz56_0, hcz56_1, hcz56_2, hfz56_0, hfz56_1, hfz56_2⟩ := cells3 BK112.out
                 have p122 : 0 ≤ ((ji47) : Int) := of_decide_eq_true (z0)
                 have q122 : (ji47) < (l0_2.length : Int) := of_decide_eq_true (z0)
                 obtain ⟨ad122, A122_4, c122_4, e122, hx122_0, hx122_1, hx122_2, hx122_3, hx122_4, hl122_4, hi122_4⟩ := at_T48 HR0_2.out (ji47) p122 q122
                 obtain rfl : ad115 = ad122 := (by injection e122)
                 replace hx122_0 := (HB.out.cell (World.block_lt_of_cell? w _ hx122_0)).trans hx122_0
                 replace hx122_1 := (HB.out.cell (World.block_lt_of_cell? w _ hx122_1)).trans hx122_1
                 replace hx122_2 := (HB.out.cell (World.block_lt_of_cell? w _ hx122_2)).trans hx122_2
                 replace hx122_3 := (HB.out.cell (World.block_lt_of_cell? w _ hx122_3)).trans hx122_3
                 replace hx122_4 := (HB.out.cell (World.block_lt_of_cell? w _ hx122_4)).trans hx122_4
                 have HR122_4 := Aside0.mk hi122_4
                 have HC122_4 := Aside0.mk hl122_4
                 clear hi122_4 hl122_4
                 replace p122 := eq_true p122
                 replace q122 := eq_true q122
                 obtain ⟨hcz57_0, hcz57_1, hcz57_2, hcz57_3, hcz57_4, hfz57_0, hfz57_1, hfz57_2, hfz57_3, hfz57_4⟩ := cells5 BK116.out
                 have p123 : 0 ≤ ((ji47) : Int) := of_decide_eq_true (z0)
                 have q123 : (ji47) < (l0_2.length : Int) := of_decide_eq_true (z0)
                 obtain ⟨ad123, A123_4, c123_4, e123, hx123_0, hx123_1, hx123_2, hx123_3, hx123_4, hl123_4, hi123_4⟩ := at_T48 HR0_2.out (ji47) p123 q123
                 obtain rfl : ad115 = ad123 := (by injection e123)
                 replace hx123_0 := (HB.out.cell (World.block_lt_of_cell? w _ hx123_0)).trans hx123_0
                 replace hx123_1 := (HB.out.cell (World.block_lt_of_cell? w _ hx123_1)).trans hx123_1
                 replace hx123_2 := (HB.out.cell (World.block_lt_of_cell? w _ hx123_2)).trans hx123_2
                 replace hx123_3 := (HB.out.cell (World.block_lt_of_cell? w _ hx123_3)).trans hx123_3
                 replace hx123_4 := (HB.out.cell (World.block_lt_of_cell? w _ hx123_4)).trans hx123_4
                 have HR123_4 := Aside0.mk hi123_4
                 have HC123_4 := Aside0.mk hl123_4
                 clear hi123_4 hl123_4
                 replace p123 := eq_true p123
                 replace q123 := eq_true q123
                 have ea_ := Option.some.inj (hx122_4.symm.trans hx123_4)
                 injection ea_ with ea_ en_ ec_
                 subst ea_
                 subst ec_
                 clear en_
                 have p124 : 0 ≤ ((ji47) : Int) := of_decide_eq_true (z0)
                 have q124 : (ji47) < (l0_2.length : Int) := of_decide_eq_true (z0)
                 obtain ⟨ad124, A124_4, c124_4, e124, hx124_0, hx124_1, hx124_2, hx124_3, hx124_4, hl124_4, hi124_4⟩ := at_T48 HR0_2.out (ji47) p124 q124
                 obtain rfl : ad115 = ad124 := (by injection e124)
                 replace hx124_0 := (HB.out.cell (World.block_lt_of_cell? w _ hx124_0)).trans hx124_0
                 replace hx124_1 := (HB.out.cell (World.block_lt_of_cell? w _ hx124_1)).trans hx124_1
                 replace hx124_2 := (HB.out.cell (World.block_lt_of_cell? w _ hx124_2)).trans hx124_2
                 replace hx124_3 := (HB.out.cell (World.block_lt_of_cell? w _ hx124_3)).trans hx124_3
                 replace hx124_4 := (HB.out.cell (World.block_lt_of_cell? w _ hx124_4)).trans hx124_4
                 have HR124_4 := Aside0.mk hi124_4
                 have HC124_4 := Aside0.mk hl124_4
                 clear hi124_4 hl124_4
                 replace p124 := eq_true p124
                 replace q124 := eq_true q124
                 have ea_ := Option.some.inj (hx122_4.symm.trans hx124_4)
                 injection ea_ with ea_ en_ ec_
                 subst ea_
                 subst ec_
                 clear en_
                 go_wp2
                 repeat (go_quiet (fail); try go_wp2)
                 go_meet
                 exact ⟨_, (decide (((rd_T48 l0_2 (ji47)).f1) ≥ ((rd_T48 l0_2 x3_2).f1))), (by first | rfl | (simp; done) | (simp only [← hji47] <;> (first | rfl | simp)) | (simp [*]; done)), H', ⟨z5⟩, ⟨zK⟩, ⟨zK⟩, ⟨zHB⟩⟩
               rw [if_neg c54] at H
               have c54b0 : (((rd_T48 l0_2 (ji47)).f0) == ((rd_T48 l0_2 x3_2).f0)) = false := beq_eq_false_iff_ne.mpr c54
               have c54b1 : (((rd_T48 l0_2 (ji47)).f0) != ((rd_T48 l0_2 x3_2).f0)) = true := bne_iff_ne.mpr c54
               have H' := Aside0.mk H
               clear H
               have hnb58 := NB112_116.out
               have hnc58 := NB116_112.out
               obtain ⟨hcz59_0, hcz59_1, hcz59_2, hfz59_0, hfz59_1, hfz59_2⟩ := cells3 BK112.out
               have p122 : 0 ≤ ((ji47) : Int) := of_decide_eq_true (z0)
               have q122 : (ji47) < (l0_2.length : Int) := of_decide_eq_true (z0)
               obtain ⟨ad122, A122_4, c122_4, e122, hx122_0, hx122_1, hx122_2, hx122_3, hx122_4, hl122_4, hi122_4⟩ := at_T48 HR0_2.out (ji47) p122 q122
               obtain rfl : ad115 = ad122 := (by injection e122)
               replace hx122_0 := (HB.out.cell (World.block_lt_of_cell? w _ hx122_0)).trans hx122_0
               replace hx122_1 := (HB.out.cell (World.block_lt_of_cell? w _ hx122_1)).trans hx122_1
               replace hx122_2 := (HB.out.cell (World.block_lt_of_cell? w _ hx122_2)).trans hx122_2
               replace hx122_3 := (HB.out.cell (World.block_lt_of_cell? w _ hx122_3)).trans hx122_3
               replace hx122_4 := (HB.out.cell (World.block_lt_of_cell? w _ hx122_4)).trans hx122_4
               have HR122_4 := Aside0.mk hi122_4
               have HC122_4 := Aside0.mk hl122_4
               clear hi122_4 hl122_4
               replace p122 := eq_true p122
               replace q122 := eq_true q122
               obtain ⟨hcz60_0, hcz60_1, hcz60_2, hcz60_3, hcz60_4, hfz60_0, hfz60_1, hfz60_2, hfz60_3, hfz60_4⟩ := cells5 BK116.out
               have p123 : 0 ≤ ((ji47) : Int) := of_decide_eq_true (z0)
               have q123 : (ji47) < (l0_2.length : Int) := of_decide_eq_true (z0)
               obtain ⟨ad123, A123_4, c123_4, e123, hx123_0, hx123_1, hx123_2, hx123_3, hx123_4, hl123_4, hi123_4⟩ := at_T48 HR0_2.out (ji47) p123 q123
               obtain rfl : ad115 = ad123 := (by injection e123)
               replace hx123_0 := (HB.out.cell (World.block_lt_of_cell? w _ hx123_0)).trans hx123_0
               replace hx123_1 := (HB.out.cell (World.block_lt_of_cell? w _ hx123_1)).trans hx123_1
               replace hx123_2 := (HB.out.cell (World.block_lt_of_cell? w _ hx123_2)).trans hx123_2
               replace hx123_3 := (HB.out.cell (World.block_lt_of_cell? w _ hx123_3)).trans hx123_3
               replace hx123_4 := (HB.out.cell (World.block_lt_of_cell? w _ hx123_4)).trans hx123_4
               have HR123_4 := Aside0.mk hi123_4
               have HC123_4 := Aside0.mk hl123_4
               clear hi123_4 hl123_4
               replace p123 := eq_true p123
               replace q123 := eq_true q123
               have ea_ := Option.some.inj (hx122_4.symm.trans hx123_4)
               injection ea_ with ea_ en_ ec_
               subst ea_
               subst ec_
               clear en_
               go_wp2
               repeat (go_quiet (fail); try go_wp2)
               go_meet
               exact ⟨_, (false), (z1), H', ⟨z5⟩, ⟨zK⟩, ⟨zK⟩, ⟨zHB⟩⟩
             rw [if_neg c49] at H
             exact absurd H (by simp)
           rw [if_neg c48] at H
           exact absurd H (by simp)
         rw [if_neg c46] at H
         have c46b0 : decide (0 < x3_2) = false := decide_eq_false c46
         clear c46
         (first | rw [c46b0] | (simp only [i64_w, i32_w]; rw [c46b0]) | skip)
         have H' := Aside0.mk H
         clear H
         go_wp2
         repeat (go_quiet (fail); try go_wp2)
         go_meet
         exact ⟨_, (false), (z1), H', ⟨z5⟩, ⟨zK⟩, ⟨zK⟩, ⟨zHB⟩⟩
        clear HC45
        (try clear c12); (try clear c12b0); (try clear c13); (try clear c13b0); (try clear hcz15_0); (try clear hcz15_1); (try clear hcz15_2); (try clear hcz18_0); (try clear hcz18_1); (try clear hcz18_2); (try clear hcz18_3); (try clear hcz18_4); (try clear hfz15_0); (try clear hfz15_1); (try clear hfz15_2); (try clear hfz18_0); (try clear hfz18_1); (try clear hfz18_2); (try clear hfz18_3); (try clear hfz18_4); (try clear hx115_0); (try clear hx115_1); (try clear hx115_2); (try clear hx115_3); (try clear hx115_4); (try clear p115); (try clear q115)
        obtain ⟨kq, x114_44, rfl, HA, HJ44, BK112, BK116, HB⟩ := hcut
        cases kq with
        | zero => exact absurd HA.out (by simp [spec_l2Form.j3])
        | succ kj44 =>
         have H := HA.out
         clear HA
         simp only [spec_l2Form.j3] at H
         obtain rfl | rfl := tf x114_44
         · rw [if_pos rfl] at H
           obtain rfl := Option.some.inj H
           go_wp2
           repeat (go_quiet (fail); try go_wp2)
           go_ret
           exact ⟨z3, zHB⟩
         rw [if_neg Bool.false_ne_true] at H
         have H' := Aside0.mk H
         clear H
         go_wp2
         repeat (go_quiet (fail); try go_wp2)
         go_roundg kj44
         case measure => have := HJ1.out; have := HK2.out; have := HJ13.out; have := HJ44.out; omega
         exact ⟨(wrap64 (x3_2 + 1)), (z1), H', ⟨by have := HJ1.out; have := HK2.out; have := HJ13.out; have := HJ44.out; omega⟩, ⟨zK⟩, ⟨zHB⟩⟩
     rw [if_neg c13] at H
     exact absurd H (by simp)
   rw [if_neg c12] at H
   have c12b0 : decide (x3_2 < (l0_2.length : Int)) = false := decide_eq_false c12
   clear c12
   obtain rfl := Option.some.inj H
   obtain ⟨hcz62_0, hcz62_1, hcz62_2, hfz62_0, hfz62_1, hfz62_2⟩ := cells3 BK112.out
   go_wp2
   repeat (go_quiet (fail); try go_wp2)
   go_ret
   exact ⟨z3, zHB⟩
end Go.Proofs.Ytalmpbmgmijdkaa.P
namespace Go.Proofs.Ytalmpbmgmijdkaa.P
open Go.RowKit Go.Proofs.YtalmpbmgmijdkaaW.PrintWords Go.Proofs.YtalmpbmgmijdkaaW.PrintLast Go.Proofs.YtalmpbmgmijdkaaW.PrintMore
attribute [local go_sem] max2_int min2_int max_two min_two max_three min_three max_four min_four   -- for this text's walks alone
set_option linter.unusedVariables false
set_option linter.unusedSimpArgs false

attribute [local go_sem ↓] isSome_setCell
/-! ### spec_TableOk: function 12 -/
mutual
def spec_TableOk.l0 : Nat → Int → Int → Int → List (S48) → Option (Bool)
  | 0, _, _, _, _ => none
  | k + 1, x3, x127000, x127001, x127002 => if x3 < x127000 then (spec_TableOk.l1 k x3 0 x127000 x127001 x127002) else (some true)
def spec_TableOk.l1 : Nat → Int → Int → Int → Int → List (S48) → Option (Bool)
  | 0, _, _, _, _, _ => none
  | k + 1, x3, x4, x127000, x127001, x127002 => if x4 < x127001 then (spec_TableOk.l2 k x3 x4 0 0 x127000 x127001 x127002) else (spec_TableOk.l0 k (wrap64 (x3 + 1)) x127000 x127001 x127002)
def spec_TableOk.l2 : Nat → Int → Int → Int → Int → Int → Int → List (S48) → Option (Bool)
  | 0, _, _, _, _, _, _, _ => none
  | k + 1, x3, x4, x5, x6, x127000, x127001, x127002 => if x6 < (x127002.length : Int) then (if 0 ≤ x6 then ((spec_l2In.f ((rd_T48 x127002 x6).f0) ((rd_T48 x127002 x6).f1) ((rd_T48 x127002 x6).f2) ((rd_T48 x127002 x6).f3) ((rd_T48 x127002 x6).f4) x3 x4).bind fun t129 => (if t129 = true then (spec_TableOk.l2 k x3 x4 (wrap64 (x5 + 1)) (wrap64 (x6 + 1)) x127000 x127001 x127002) else (spec_TableOk.l2 k x3 x4 x5 (wrap64 (x6 + 1)) x127000 x127001 x127002))) else (none)) else (if x5 = 1 then (spec_TableOk.l1 k x3 (wrap64 (x4 + 1)) x127000 x127001 x127002) else (some false))
end
def spec_TableOk.f (k : Nat) (a0_0 : Int) (a0_1 : Int) (l0_2 : List (S48)) : Option (Bool) := (spec_l2Form.f k a0_0 a0_1 l0_2).bind fun t127 => (if t127 = true then (spec_TableOk.l0 k 0 a0_0 a0_1 l0_2) else (some false))
theorem spec_TableOk.mono_l : ∀ k, (∀ y0 y1 y2 y3, LeO (spec_TableOk.l0 k y0 y1 y2 y3) (spec_TableOk.l0 (k + 1) y0 y1 y2 y3)) ∧ (∀ y0 y1 y2 y3 y4, LeO (spec_TableOk.l1 k y0 y1 y2 y3 y4) (spec_TableOk.l1 (k + 1) y0 y1 y2 y3 y4)) ∧ (∀ y0 y1 y2 y3 y4 y5 y6, LeO (spec_TableOk.l2 k y0 y1 y2 y3 y4 y5 y6) (spec_TableOk.l2 (k + 1) y0 y1 y2 y3 y4 y5 y6))
  | 0 => by refine ⟨?_, ?_, ?_⟩ <;> intros <;> intro r h <;> simp [spec_TableOk.l0, spec_TableOk.l1, spec_TableOk.l2] at h
  | k + 1 => by
    obtain ⟨ih0, ih1, ih2⟩ := spec_TableOk.mono_l k
    refine ⟨?_, ?_, ?_⟩ <;> intros <;> (first | unfold spec_TableOk.l0 | unfold spec_TableOk.l1 | unfold spec_TableOk.l2) <;> with_reducible repeat' first | exact ih0 _ _ _ _ | exact ih1 _ _ _ _ _ | exact ih2 _ _ _ _ _ _ _ | exact spec_l2Form.mono _ _ _ _ | exact LeO.refl _ | exact LeO.none _ | refine LeO.ite ?_ ?_ | refine LeO.bind ?_ (fun _ => ?_)
theorem spec_TableOk.mono : ∀ a0 a1 a2 k, LeO (spec_TableOk.f k a0 a1 a2) (spec_TableOk.f (k + 1) a0 a1 a2) := by
  intro a0 a1 a2 k
  obtain ⟨ih0, ih1, ih2⟩ := spec_TableOk.mono_l k
  unfold spec_TableOk.f
  with_reducible repeat' first | exact ih0 _ _ _ _ | exact ih1 _ _ _ _ _ | exact ih2 _ _ _ _ _ _ _ | exact spec_l2Form.mono _ _ _ _ | exact LeO.refl _ | exact LeO.none _ | refine LeO.ite ?_ ?_ | refine LeO.bind ?_ (fun _ => ?_)
theorem spec_TableOk.zHB {p : Prop} (h : p := by repeat (first | (with_reducible first | exact HB.out | apply below_alloc | apply pw_below_drewN | apply below_drew1 | refine below_set ?_ GE126.out) | exact HB.out)) : p := h
theorem spec_TableOk.zK {p : Prop} (h : p := by repeat' first | (with_reducible first | exact BK126.out | apply blk_drewN | apply blk_drew | apply blk_alloc | apply blk_putE) | exact (rfl : List.set _ _ _ = _)) : p := h
theorem spec_TableOk.z0 {p : Prop} (h : p := by (try simp only [List.map_toArray, List.map_cons, List.map_nil]); first | done | rfl | (simp only [List.length_drop, List.length_take]; rfl)) : p := h
theorem spec_TableOk.z1 {p : Prop} (h : p := by first | rfl | (simp; done) | (simp [*]; done)) : p := h
theorem spec_TableOk.z2 {p : Prop} (h : p := by first | rfl | (simp [errW_none, errW_some] <;> rfl) | (simp [*, errW_none, errW_some] <;> rfl)) : p := h
theorem spec_TableOk.z3 {p : Prop} (h : p := by first | (with_reducible assumption) | assumption) : p := h
theorem spec_TableOk.z4 {p : Prop} (h : p := by have := HK1.out; have := HK2.out; have := HK3.out; omega) : p := h
theorem spec_TableOk.z5 {p : Prop} (h : p := by rw [hg]; exact (below_size (zHB))) : p := h
set_option maxHeartbeats 8000000 in
set_option maxRecDepth 100000 in
theorem spec_TableOk.calls (k : Nat) (a0_0 : Int) (a0_1 : Int) (A0_2 : Option Addr) (c0_2 : Nat) (l0_2 : List (S48)) (r : Bool) (w : World) (hr0_2 : Kd.C k48 w A0_2 l0_2.length l0_2) (hc0_2 : l0_2.length ≤ c0_2) (h : spec_TableOk.f k a0_0 a0_1 l0_2 = some r) :
    Calls Try.prog 12 #[.agg #[.int .i64 a0_0, .int .i64 a0_1, .slice A0_2 l0_2.length c0_2]] w fun e w' => e = .returned (.bool r) ∧ Below w.heap.size w w' := by
 have hu29 := Try.underlying29
 have hu48 := Try.underlying48
 have HR0_2 := Aside0.mk hr0_2
 have HC0_2 := Aside0.mk hc0_2
 clear hr0_2 hc0_2
 have HB := Aside0.mk (Below.refl w.heap.size w)
 have H : ((spec_l2Form.f k a0_0 a0_1 l0_2).bind fun t127 => (if t127 = true then (spec_TableOk.l0 k 0 a0_0 a0_1 l0_2) else (some false))) = some r := h
 clear h
 obtain ⟨t127, A2, H⟩ := bnd H
 obtain rfl | rfl := tf t127
 · rw [if_pos rfl] at H
   have H' := Aside0.mk H
   clear H
   go_enter Try.func12, Try.ntmps12
   go_wp2_with (first | ((with_reducible refine gate_dst (N := 1) rfl ?_); refine box_event ?hg (N := 1) ?hd (cs := #[.int .i64 a0_0, .int .i64 a0_1, .slice A0_2 l0_2.length c0_2]) (t := 29) ?hr ?_; (case hd => rfl); (case hg => rfl); (case hr => first | (go_simp; done) | (go_simp; rfl)); intro gb126 hg w4 hbox hb; have BK126 := Aside0.mk (hbox); have GW126 := Aside0.mk ((z5 : w.heap.size ≤ gb126)); have GE126 := Aside0.mk ((z5 : w.heap.size ≤ gb126)); replace HB := Aside0.mk (below_step (zHB) hb); clear hb hbox hg; obtain ⟨hcz5_0, hcz5_1, hcz5_2, hfz5_0, hfz5_1, hfz5_2⟩ := cells3 BK126.out) | ((with_reducible refine gate_callee (f := 33) rfl ?_); refine goesL_ (some 8) rfl rfl Try.func33 (by kernel_rfl) rfl #[.agg #[.int .i64 a0_0, .int .i64 a0_1, .slice A0_2 l0_2.length c0_2]] rfl (z0) ?_; (with_reducible refine (spec_l2Form.calls k a0_0 a0_1 _ _ l0_2 true _ ?side1 ?side2 A2.out).mono ?_); (case side1 => repeat (first | exact (Kd.C_below HR0_2.out HB.out) | (with_reducible refine Kd.C_alloc ?_ _) | (with_reducible refine Kd.C_drewN ?_ _) | (with_reducible refine Kd.C_drew ?_))); (case side2 => exact HC0_2.out); rintro e w6 ⟨rfl, hb⟩; refine ⟨_, rfl, ?_⟩; replace BK126 := Aside0.mk (blk_below (g := gb126) (zK) hb); replace HB := Aside0.mk (below_step (zHB) hb); (try clear hb); (try clear hb2); (try clear hk); (try clear hi)))
   go_loopg [3] k (fun kq v3 w' => ∃ (x3_1 : Int), v3 = .int .i64 x3_1 ∧ Aside0 (spec_TableOk.l0 kq x3_1 a0_0 a0_1 l0_2 = some r) ∧ Aside0 (kq ≤ k) ∧ Aside0 (w'.heap[gb126]? = some (.cells #[.int .i64 a0_0, .int .i64 a0_1, (.slice A0_2 l0_2.length c0_2)] 29 (0, 0))) ∧ Aside0 (Below w.heap.size w w'))
   case atStart => exact ⟨(0), (z1), H', ⟨Nat.le_refl _⟩, ⟨zK⟩, ⟨zHB⟩⟩
   clear H'
   (try clear hcz5_0); (try clear hcz5_1); (try clear hcz5_2); (try clear hfz5_0); (try clear hfz5_1); (try clear hfz5_2)
   obtain ⟨x3_1, rfl, HA, HK1, BK126, HB⟩ := hrel
   cases gk with
   | zero => exact absurd HA.out (by simp [spec_TableOk.l0])
   | succ k1 =>
    have H := HA.out
    clear HA
    simp only [spec_TableOk.l0] at H
    by_cases c7 : x3_1 < a0_0
    · rw [if_pos c7] at H
      have c7b0 := decide_eq_true c7
      clear c7
      have H' := Aside0.mk H
      clear H
      obtain ⟨hcz8_0, hcz8_1, hcz8_2, hfz8_0, hfz8_1, hfz8_2⟩ := cells3 BK126.out
      go_wp2
      go_loopg [4] k1 (fun kq v4 w' => ∃ (x4_2 : Int), v4 = .int .i64 x4_2 ∧ Aside0 (spec_TableOk.l1 kq x3_1 x4_2 a0_0 a0_1 l0_2 = some r) ∧ Aside0 (kq ≤ k1) ∧ Aside0 (w'.heap[gb126]? = some (.cells #[.int .i64 a0_0, .int .i64 a0_1, (.slice A0_2 l0_2.length c0_2)] 29 (0, 0))) ∧ Aside0 (Below w.heap.size w w'))
      case atStart => exact ⟨(0), (z1), H', ⟨Nat.le_refl _⟩, ⟨zK⟩, ⟨zHB⟩⟩
      clear H'
      (try clear c7); (try clear c7b0); (try clear hcz5_0); (try clear hcz5_1); (try clear hcz5_2); (try clear hcz8_0); (try clear hcz8_1); (try clear hcz8_2); (try clear hfz5_0); (try clear hfz5_1); (try clear hfz5_2); (try clear hfz8_0); (try clear hfz8_1); (try clear hfz8_2)
      obtain ⟨x4_2, rfl, HA, HK2, BK126, HB⟩ := hrel
      cases gk with
      | zero => exact absurd HA.out (by simp [spec_TableOk.l1])
      | succ k2 =>
       have H := HA.out
       clear HA
       simp only [spec_TableOk.l1] at H
       by_cases c9 : x4_2 < a0_1
       · rw [if_pos c9] at H
         have c9b0 := decide_eq_true c9
         clear c9
         have H' := Aside0.mk H
         clear H
         obtain ⟨hcz10_0, hcz10_1, hcz10_2, hfz10_0, hfz10_1, hfz10_2⟩ := cells3 BK126.out
         go_wp2
         go_loopg [5, 6] k2 (fun kq v5 v6 w' => ∃ (x5_3 : Int) (x6_3 : Int), v5 = .int .i64 x5_3 ∧ v6 = .int .i64 x6_3 ∧ Aside0 (spec_TableOk.l2 kq x3_1 x4_2 x5_3 x6_3 a0_0 a0_1 l0_2 = some r) ∧ Aside0 (kq ≤ k2) ∧ Aside0 (w'.heap[gb126]? = some (.cells #[.int .i64 a0_0, .int .i64 a0_1, (.slice A0_2 l0_2.length c0_2)] 29 (0, 0))) ∧ Aside0 (Below w.heap.size w w'))
         case atStart => exact ⟨(0), (0), (z1), (z1), H', ⟨Nat.le_refl _⟩, ⟨zK⟩, ⟨zHB⟩⟩
         clear H'
         (try clear c7); (try clear c7b0); (try clear c9); (try clear c9b0); (try clear hcz10_0); (try clear hcz10_1); (try clear hcz10_2); (try clear hcz5_0); (try clear hcz5_1); (try clear hcz5_2); (try clear hcz8_0); (try clear hcz8_1); (try clear hcz8_2); (try clear hfz10_0); (try clear hfz10_1); (try clear hfz10_2); (try clear hfz5_0); (try clear hfz5_1); (try clear hfz5_2); (try clear hfz8_0); (try clear hfz8_1); (try clear hfz8_2)
         obtain ⟨x5_3, x6_3, rfl, rfl, HA, HK3, BK126, HB⟩ := hrel
         cases gk with
         | zero => exact absurd HA.out (by simp [spec_TableOk.l2])
         | succ k3 =>
          have H := HA.out
          clear HA
          simp only [spec_TableOk.l2] at H
          by_cases c11 : x6_3 < (l0_2.length : Int)
          · rw [if_pos c11] at H
            have c11b0 := decide_eq_true c11
            clear c11
            by_cases c12 : 0 ≤ x6_3
            · rw [if_pos c12] at H
              have c12b0 := decide_eq_true c12
              clear c12
              obtain ⟨t129, A13, H⟩ := bnd H
              obtain rfl | rfl := tf t129
              · rw [if_pos rfl] at H
                have H' := Aside0.mk H
                clear H
                obtain ⟨hcz15_0, hcz15_1, hcz15_2, hfz15_0, hfz15_1, hfz15_2⟩ := cells3 BK126.out
                have p128 : 0 ≤ (x6_3 : Int) := of_decide_eq_true (z3)
                have q128 : x6_3 < (l0_2.length : Int) := of_decide_eq_true (z3)
                obtain ⟨ad128, A128_4, c128_4, e128, hx128_0, hx128_1, hx128_2, hx128_3, hx128_4, hl128_4, hi128_4⟩ := at_T48 HR0_2.out x6_3 p128 q128
                cases e128
                replace hx128_0 := (HB.out.cell (World.block_lt_of_cell? w _ hx128_0)).trans hx128_0
                replace hx128_1 := (HB.out.cell (World.block_lt_of_cell? w _ hx128_1)).trans hx128_1
                replace hx128_2 := (HB.out.cell (World.block_lt_of_cell? w _ hx128_2)).trans hx128_2
                replace hx128_3 := (HB.out.cell (World.block_lt_of_cell? w _ hx128_3)).trans hx128_3
                replace hx128_4 := (HB.out.cell (World.block_lt_of_cell? w _ hx128_4)).trans hx128_4
                have HR128_4 := Aside0.mk hi128_4
                have HC128_4 := Aside0.mk hl128_4
                clear hi128_4 hl128_4
                replace p128 := eq_true p128
                replace q128 := eq_true q128
                go_wp2_with (first | ((with_reducible refine gate_callee (f := 34) rfl ?_); refine goesL_ (some 36) rfl rfl Try.func34 (by kernel_rfl) rfl #[.agg #[.int .i64 ((rd_T48 l0_2 x6_3).f0), .int .i64 ((rd_T48 l0_2 x6_3).f1), .int .i64 ((rd_T48 l0_2 x6_3).f2), .int .i64 ((rd_T48 l0_2 x6_3).f3), .slice A128_4 ((rd_T48 l0_2 x6_3).f4).length c128_4], .int .i64 x3_1, .int .i64 x4_2] rfl (z0) ?_; (with_reducible refine (spec_l2In.calls ((rd_T48 l0_2 x6_3).f0) ((rd_T48 l0_2 x6_3).f1) ((rd_T48 l0_2 x6_3).f2) ((rd_T48 l0_2 x6_3).f3) _ _ ((rd_T48 l0_2 x6_3).f4) x3_1 x4_2 true _ ?side1 ?side2 A13.out).mono ?_); (case side1 => repeat (first | exact (Kd.C_below HR128_4.out HB.out) | (with_reducible refine Kd.C_alloc ?_ _) | (with_reducible refine Kd.C_drewN ?_ _) | (with_reducible refine Kd.C_drew ?_))); (case side2 => exact HC128_4.out); rintro e w16 ⟨rfl, hb⟩; refine ⟨_, rfl, ?_⟩; replace BK126 := Aside0.mk (blk_below (g := gb126) (zK) hb); replace HB := Aside0.mk (below_step (zHB) hb); (try clear hb); (try clear hb2); (try clear hk); (try clear hi)))
                go_roundg k3
                case measure => have := HK1.out; have := HK2.out; have := HK3.out; omega
                exact ⟨(wrap64 (x5_3 + 1)), (wrap64 (x6_3 + 1)), (z1), (z1), H', ⟨z4⟩, ⟨zK⟩, ⟨zHB⟩⟩
              rw [if_neg Bool.false_ne_true] at H
              have H' := Aside0.mk H
              clear H
              obtain ⟨hcz17_0, hcz17_1, hcz17_2, hfz17_0, hfz17_1, hfz17_2⟩ := cells3 BK126.out
              have p128 : 0 ≤ (x6_3 : Int) := of_decide_eq_true (z3)
              have q128 : x6_3 < (l0_2.length : Int) := of_decide_eq_true (z3)
              obtain ⟨ad128, A128_4, c128_4, e128, hx128_0, hx128_1, hx128_2, hx128_3, hx128_4, hl128_4, hi128_4⟩ := at_T48 HR0_2.out x6_3 p128 q128
              cases e128
              replace hx128_0 := (HB.out.cell (World.block_lt_of_cell? w _ hx128_0)).trans hx128_0
              replace hx128_1 := (HB.out.cell (World.block_lt_of_cell? w _ hx128_1)).trans hx128_1
              replace hx128_2 := (HB.out.cell (World.block_lt_of_cell? w _ hx128_2)).trans hx128_2
              replace hx128_3 := (HB.out.cell (World.block_lt_of_cell? w _ hx128_3)).trans hx128_3
              replace hx128_4 := (HB.out.cell (World.block_lt_of_cell? w _ hx128_4)).trans hx128_4
              have HR128_4 := Aside0.mk hi128_4
              have HC128_4 := Aside0.mk hl128_4
              clear hi128_4 hl128_4
              replace p128 := eq_true p128
              replace q128 := eq_true q128
              go_wp2_with (first | ((with_reducible refine gate_callee (f := 34) rfl ?_); refine goesL_ (some 36) rfl rfl Try.func34 (by kernel_rfl) rfl #[.agg #[.int .i64 ((rd_T48 l0_2 x6_3).f0), .int .i64 ((rd_T48 l0_2 x6_3).f1), .int .i64 ((rd_T48 l0_2 x6_3).f2), .int .i64 ((rd_T48 l0_2 x6_3).f3), .slice A128_4 ((rd_T48 l0_2 x6_3).f4).length c128_4], .int .i64 x3_1, .int .i64 x4_2] rfl (z0) ?_; (with_reducible refine (spec_l2In.calls ((rd_T48 l0_2 x6_3).f0) ((rd_T48 l0_2 x6_3).f1) ((rd_T48 l0_2 x6_3).f2) ((rd_T48 l0_2 x6_3).f3) _ _ ((rd_T48 l0_2 x6_3).f4) x3_1 x4_2 false _ ?side1 ?side2 A13.out).mono ?_); (case side1 => repeat (first | exact (Kd.C_below HR128_4.out HB.out) | (with_reducible refine Kd.C_alloc ?_ _) | (with_reducible refine Kd.C_drewN ?_ _) | (with_reducible refine Kd.C_drew ?_))); (case side2 => exact HC128_4.out); rintro e w18 ⟨rfl, hb⟩; refine ⟨_, rfl, ?_⟩; replace BK126 := Aside0.mk (blk_below (g := gb126) (zK) hb); replace HB := Aside0.mk (below_step (zHB) hb); (try clear hb); (try clear hb2); (try clear hk); (try clear hi)))
              go_roundg k3
              case measure => have := HK1.out; have := HK2.out; have := HK3.out; omega
              exact ⟨(x5_3), (wrap64 (x6_3 + 1)), (z1), (z1), H', ⟨z4⟩, ⟨zK⟩, ⟨zHB⟩⟩
            rw [if_neg c12] at H
            exact absurd H (by simp)
          rw [if_neg c11] at H
          have c11b0 : decide (x6_3 < (l0_2.length : Int)) = false := decide_eq_false c11
          clear c11
          by_cases c19 : x5_3 = 1
          · rw [if_pos c19] at H
            have c19b0 : (x5_3 == 1) = true := beq_iff_eq.mpr c19
            have c19b1 : (x5_3 != 1) = false := bne_eq_false_iff_eq.mpr c19
            clear c19
            have H' := Aside0.mk H
            clear H
            obtain ⟨hcz20_0, hcz20_1, hcz20_2, hfz20_0, hfz20_1, hfz20_2⟩ := cells3 BK126.out
            go_wp2
            go_roundg k3
            case measure => have := HK1.out; have := HK2.out; have := HK3.out; omega
            exact ⟨(wrap64 (x4_2 + 1)), (z1), H', ⟨z4⟩, ⟨zK⟩, ⟨zHB⟩⟩
          rw [if_neg c19] at H
          have c19b0 : (x5_3 == 1) = false := beq_eq_false_iff_ne.mpr c19
          have c19b1 : (x5_3 != 1) = true := bne_iff_ne.mpr c19
          obtain rfl := Option.some.inj H
          obtain ⟨hcz21_0, hcz21_1, hcz21_2, hfz21_0, hfz21_1, hfz21_2⟩ := cells3 BK126.out
          go_wp2
          go_ret
          exact ⟨z2, zHB⟩
       rw [if_neg c9] at H
       have c9b0 : decide (x4_2 < a0_1) = false := decide_eq_false c9
       clear c9
       have H' := Aside0.mk H
       clear H
       obtain ⟨hcz22_0, hcz22_1, hcz22_2, hfz22_0, hfz22_1, hfz22_2⟩ := cells3 BK126.out
       go_wp2
       go_roundg k2
       case measure => have := HK1.out; have := HK2.out; omega
       exact ⟨(wrap64 (x3_1 + 1)), (z1), H', ⟨by have := HK1.out; have := HK2.out; omega⟩, ⟨zK⟩, ⟨zHB⟩⟩
    rw [if_neg c7] at H
    have c7b0 : decide (x3_1 < a0_0) = false := decide_eq_false c7
    clear c7
    obtain rfl := Option.some.inj H
    obtain ⟨hcz23_0, hcz23_1, hcz23_2, hfz23_0, hfz23_1, hfz23_2⟩ := cells3 BK126.out
    go_wp2
    go_ret
    exact ⟨z2, zHB⟩
 rw [if_neg Bool.false_ne_true] at H
 obtain rfl := Option.some.inj H
 go_enter Try.func12, Try.ntmps12
 go_wp2_with (first | ((with_reducible refine gate_dst (N := 1) rfl ?_); refine box_event ?hg (N := 1) ?hd (cs := #[.int .i64 a0_0, .int .i64 a0_1, .slice A0_2 l0_2.length c0_2]) (t := 29) ?hr ?_; (case hd => rfl); (case hg => rfl); (case hr => first | (go_simp; done) | (go_simp; rfl)); intro gb126 hg w24 hbox hb; have BK126 := Aside0.mk (hbox); have GW126 := Aside0.mk ((z5 : w.heap.size ≤ gb126)); have GE126 := Aside0.mk ((z5 : w.heap.size ≤ gb126)); replace HB := Aside0.mk (below_step (zHB) hb); clear hb hbox hg; obtain ⟨hcz25_0, hcz25_1, hcz25_2, hfz25_0, hfz25_1, hfz25_2⟩ := cells3 BK126.out) | ((with_reducible refine gate_callee (f := 33) rfl ?_); refine goesL_ (some 8) rfl rfl Try.func33 (by kernel_rfl) rfl #[.agg #[.int .i64 a0_0, .int .i64 a0_1, .slice A0_2 l0_2.length c0_2]] rfl (z0) ?_; (with_reducible refine (spec_l2Form.calls k a0_0 a0_1 _ _ l0_2 false _ ?side1 ?side2 A2.out).mono ?_); (case side1 => repeat (first | exact (Kd.C_below HR0_2.out HB.out) | (with_reducible refine Kd.C_alloc ?_ _) | (with_reducible refine Kd.C_drewN ?_ _) | (with_reducible refine Kd.C_drew ?_))); (case side2 => exact HC0_2.out); rintro e w26 ⟨rfl, hb⟩; refine ⟨_, rfl, ?_⟩; replace BK126 := Aside0.mk (blk_below (g := gb126) (zK) hb); replace HB := Aside0.mk (below_step (zHB) hb); (try clear hb); (try clear hb2); (try clear hk); (try clear hi)))
 go_ret
 exact ⟨z2, zHB⟩
end Go.Proofs.Ytalmpbmgmijdkaa.P
namespace Go.Proofs.Ytalmpbmgmijdkaa.P
open Go.RowKit Go.Proofs.YtalmpbmgmijdkaaW.PrintWords Go.Proofs.YtalmpbmgmijdkaaW.PrintLast Go.Proofs.YtalmpbmgmijdkaaW.PrintMore
attribute [local go_sem] max2_int min2_int max_two min_two max_three min_three max_four min_four   -- for this text's walks alone
set_option linter.unusedVariables false
set_option linter.unusedSimpArgs false

attribute [local go_sem ↓] isSome_setCell
/-! ### spec_TableAt: function 16 -/
mutual
def spec_TableAt.l0 : Nat → Int → Int → Int → Int → Int → List (S48) → Option (Int)
  | 0, _, _, _, _, _, _ => none
  | k + 1, x1, x2, x7, x230000, x230001, x230002 => if x7 < (x230002.length : Int) then ((spec_TableOk.f k x230000 x230001 x230002).bind fun t230 => (spec_TableAt.j1 k x1 x2 x7 t230 x230000 x230001 x230002)) else (spec_TableAt.j1 k x1 x2 x7 false x230000 x230001 x230002)
def spec_TableAt.j1 : Nat → Int → Int → Int → Bool → Int → Int → List (S48) → Option (Int)
  | 0, _, _, _, _, _, _, _ => none
  | k + 1, x1, x2, x7, x16, x230000, x230001, x230002 => if x16 = true then (if 0 ≤ x7 then (if x7 < (x230002.length : Int) then ((spec_l2In.f ((rd_T48 x230002 x7).f0) ((rd_T48 x230002 x7).f1) ((rd_T48 x230002 x7).f2) ((rd_T48 x230002 x7).f3) ((rd_T48 x230002 x7).f4) x1 x2).bind fun t232 => (if t232 = true then (some x7) else (spec_TableAt.l0 k x1 x2 (wrap64 (x7 + 1)) x230000 x230001 x230002))) else (none)) else (none)) else (some (-1))
end
def spec_TableAt.f (k : Nat) (a0_0 : Int) (a0_1 : Int) (l0_2 : List (S48)) (a1 : Int) (a2 : Int) : Option (Int) := spec_TableAt.l0 k a1 a2 0 a0_0 a0_1 l0_2
theorem spec_TableAt.mono_l : ∀ k, (∀ y0 y1 y2 y3 y4 y5, LeO (spec_TableAt.l0 k y0 y1 y2 y3 y4 y5) (spec_TableAt.l0 (k + 1) y0 y1 y2 y3 y4 y5)) ∧ (∀ y0 y1 y2 y3 y4 y5 y6, LeO (spec_TableAt.j1 k y0 y1 y2 y3 y4 y5 y6) (spec_TableAt.j1 (k + 1) y0 y1 y2 y3 y4 y5 y6))
  | 0 => by refine ⟨?_, ?_⟩ <;> intros <;> intro r h <;> simp [spec_TableAt.l0, spec_TableAt.j1] at h
  | k + 1 => by
    obtain ⟨ih0, ih1⟩ := spec_TableAt.mono_l k
    refine ⟨?_, ?_⟩ <;> intros <;> (first | unfold spec_TableAt.l0 | unfold spec_TableAt.j1) <;> with_reducible repeat' first | exact ih0 _ _ _ _ _ _ | exact ih1 _ _ _ _ _ _ _ | exact spec_TableOk.mono _ _ _ _ | exact LeO.refl _ | exact LeO.none _ | refine LeO.ite ?_ ?_ | refine LeO.bind ?_ (fun _ => ?_)
theorem spec_TableAt.mono : ∀ a0 a1 a2 a3 a4 k, LeO (spec_TableAt.f k a0 a1 a2 a3 a4) (spec_TableAt.f (k + 1) a0 a1 a2 a3 a4) := by
  intro a0 a1 a2 a3 a4 k
  obtain ⟨ih0, ih1⟩ := spec_TableAt.mono_l k
  unfold spec_TableAt.f
  with_reducible repeat' first | exact ih0 _ _ _ _ _ _ | exact ih1 _ _ _ _ _ _ _ | exact spec_TableOk.mono _ _ _ _ | exact LeO.refl _ | exact LeO.none _ | refine LeO.ite ?_ ?_ | refine LeO.bind ?_ (fun _ => ?_)
theorem spec_TableAt.zHB {p : Prop} (h : p := by repeat (first | (with_reducible first | exact HB.out | apply below_alloc | apply pw_below_drewN | apply below_drew1 | refine below_set ?_ GE229.out) | exact HB.out)) : p := h
theorem spec_TableAt.zK {p : Prop} (h : p := by repeat' first | (with_reducible first | exact BK229.out | apply blk_drewN | apply blk_drew | apply blk_alloc | apply blk_putE) | exact (rfl : List.set _ _ _ = _)) : p := h
theorem spec_TableAt.z0 {p : Prop} (h : p := by first | (with_reducible assumption) | assumption) : p := h
theorem spec_TableAt.z1 {p : Prop} (h : p := by (try simp only [List.map_toArray, List.map_cons, List.map_nil]); first | done | rfl | (simp only [List.length_drop, List.length_take]; rfl)) : p := h
theorem spec_TableAt.z2 {p : Prop} (h : p := by first | rfl | (simp; done) | (simp [*]; done)) : p := h
theorem spec_TableAt.z3 {p : Prop} (h : p := by first | rfl | (simp [errW_none, errW_some] <;> rfl) | (simp [*, errW_none, errW_some] <;> rfl)) : p := h
set_option maxHeartbeats 8000000 in
set_option maxRecDepth 100000 in
theorem spec_TableAt.calls (k : Nat) (a0_0 : Int) (a0_1 : Int) (A0_2 : Option Addr) (c0_2 : Nat) (l0_2 : List (S48)) (a1 : Int) (a2 : Int) (r : Int) (w : World) (hr0_2 : Kd.C k48 w A0_2 l0_2.length l0_2) (hc0_2 : l0_2.length ≤ c0_2) (h : spec_TableAt.f k a0_0 a0_1 l0_2 a1 a2 = some r) :
    Calls Try.prog 16 #[.agg #[.int .i64 a0_0, .int .i64 a0_1, .slice A0_2 l0_2.length c0_2], .int .i64 a1, .int .i64 a2] w fun e w' => e = .returned (.int .i64 r) ∧ Below w.heap.size w w' := by
 have hu29 := Try.underlying29
 have hu48 := Try.underlying48
 have HR0_2 := Aside0.mk hr0_2
 have HC0_2 := Aside0.mk hc0_2
 clear hr0_2 hc0_2
 have HB := Aside0.mk (Below.refl w.heap.size w)
 have H : (spec_TableAt.l0 k a1 a2 0 a0_0 a0_1 l0_2) = some r := h
 clear h
 have H' := Aside0.mk H
 clear H
 go_enter Try.func16, Try.ntmps16
 go_wp2_with (first | ((with_reducible refine gate_dst (N := 3) rfl ?_); refine box_event ?hg (N := 3) ?hd (cs := #[.int .i64 a0_0, .int .i64 a0_1, .slice A0_2 l0_2.length c0_2]) (t := 29) ?hr ?_; (case hd => rfl); (case hg => rfl); (case hr => first | (go_simp; done) | (go_simp; rfl)); intro gb229 hg w4 hbox hb; have BK229 := Aside0.mk (hbox); have GW229 := Aside0.mk ((by rw [hg]; exact (below_size (zHB)) : w.heap.size ≤ gb229)); have GE229 := Aside0.mk ((by rw [hg]; exact (below_size (zHB)) : w.heap.size ≤ gb229)); replace HB := Aside0.mk (below_step (zHB) hb); clear hb hbox hg))
 go_loopg [7] k (fun kq v7 w' => ∃ (x7_1 : Int), v7 = .int .i64 x7_1 ∧ Aside0 (spec_TableAt.l0 kq a1 a2 x7_1 a0_0 a0_1 l0_2 = some r) ∧ Aside0 (kq ≤ k) ∧ Aside0 (w'.heap[gb229]? = some (.cells #[.int .i64 a0_0, .int .i64 a0_1, (.slice A0_2 l0_2.length c0_2)] 29 (0, 0))) ∧ Aside0 (Below w.heap.size w w'))
 case atStart => exact ⟨(0), (z2), H', ⟨Nat.le_refl _⟩, ⟨zK⟩, ⟨zHB⟩⟩
 clear H'
 obtain ⟨x7_1, rfl, HA, HK1, BK229, HB⟩ := hrel
 cases gk with
 | zero => exact absurd HA.out (by simp [spec_TableAt.l0])
 | succ k1 =>
  have H := HA.out
  clear HA
  simp only [spec_TableAt.l0] at H
  have HC5 := Aside0.mk H
  clear H
  go_upto_region 2 with (fail)
  go_cut [16] (fun v16 wc => ∃ (kq : Nat) (x16_4 : Bool), v16 = .bool x16_4 ∧ Aside0 (spec_TableAt.j1 kq a1 a2 x7_1 x16_4 a0_0 a0_1 l0_2 = some r) ∧ Aside0 (kq ≤ k1) ∧ Aside0 (wc.heap[gb229]? = some (.cells #[.int .i64 a0_0, .int .i64 a0_1, (.slice A0_2 l0_2.length c0_2)] 29 (0, 0))) ∧ Aside0 (Below w.heap.size w wc))
  case first =>
   have H := HC5.out
   clear HC5
   by_cases c6 : x7_1 < (l0_2.length : Int)
   · rw [if_pos c6] at H
     have c6b0 := decide_eq_true c6
     clear c6
     (first | rw [c6b0] | (simp only [i64_w, i32_w]; rw [c6b0]) | skip)
     obtain ⟨t230, A7, H⟩ := bnd H
     have H' := Aside0.mk H
     clear H
     obtain ⟨hcz8_0, hcz8_1, hcz8_2, hfz8_0, hfz8_1, hfz8_2⟩ := cells3 BK229.out
     go_wp2_with (first | (go_at_call 12; (with_reducible refine (spec_TableOk.calls k1 a0_0 a0_1 _ _ l0_2 t230 _ ?side1 ?side2 A7.out).mono ?_); (case side1 => repeat (first | exact (Kd.C_below HR0_2.out HB.out) | (with_reducible refine Kd.C_alloc ?_ _) | (with_reducible refine Kd.C_drewN ?_ _) | (with_reducible refine Kd.C_drew ?_))); (case side2 => exact HC0_2.out); rintro e w9 ⟨rfl, hb⟩; replace BK229 := Aside0.mk (blk_below (g := gb229) (zK) hb); replace HB := Aside0.mk (below_step (zHB) hb); (try clear hb); (try clear hb2); (try clear hk); (try clear hi)))
     go_meet
     exact ⟨_, (t230), (z2), H', ⟨by have := HK1.out; first | omega | exact Nat.le_refl _⟩, ⟨zK⟩, ⟨zHB⟩⟩
   rw [if_neg c6] at H
   have c6b0 : decide (x7_1 < (l0_2.length : Int)) = false := decide_eq_false c6
   clear c6
   (first | rw [c6b0] | (simp only [i64_w, i32_w]; rw [c6b0]) | skip)
   have H' := Aside0.mk H
   clear H
   obtain ⟨hcz10_0, hcz10_1, hcz10_2, hfz10_0, hfz10_1, hfz10_2⟩ := cells3 BK229.out
   go_wp2
   go_meet
   exact ⟨_, (false), (z2), H', ⟨by have := HK1.out; first | omega | exact Nat.le_refl _⟩, ⟨zK⟩, ⟨zHB⟩⟩
  clear HC5
  obtain ⟨kq, x16_4, rfl, HA, HJ4, BK229, HB⟩ := hcut
  cases kq with
  | zero => exact absurd HA.out (by simp [spec_TableAt.j1])
  | succ kj4 =>
   have H := HA.out
   clear HA
   simp only [spec_TableAt.j1] at H
   obtain rfl | rfl := tf x16_4
   · rw [if_pos rfl] at H
     by_cases c12 : 0 ≤ x7_1
     · rw [if_pos c12] at H
       have c12b0 := decide_eq_true c12
       clear c12
       by_cases c13 : x7_1 < (l0_2.length : Int)
       · rw [if_pos c13] at H
         have c13b0 := decide_eq_true c13
         clear c13
         obtain ⟨t232, A14, H⟩ := bnd H
         obtain rfl | rfl := tf t232
         · rw [if_pos rfl] at H
           obtain rfl := Option.some.inj H
           obtain ⟨hcz16_0, hcz16_1, hcz16_2, hfz16_0, hfz16_1, hfz16_2⟩ := cells3 BK229.out
           have p231 : 0 ≤ (x7_1 : Int) := of_decide_eq_true (z0)
           have q231 : x7_1 < (l0_2.length : Int) := of_decide_eq_true (z0)
           obtain ⟨ad231, A231_4, c231_4, e231, hx231_0, hx231_1, hx231_2, hx231_3, hx231_4, hl231_4, hi231_4⟩ := at_T48 HR0_2.out x7_1 p231 q231
           cases e231
           replace hx231_0 := (HB.out.cell (World.block_lt_of_cell? w _ hx231_0)).trans hx231_0
           replace hx231_1 := (HB.out.cell (World.block_lt_of_cell? w _ hx231_1)).trans hx231_1
           replace hx231_2 := (HB.out.cell (World.block_lt_of_cell? w _ hx231_2)).trans hx231_2
           replace hx231_3 := (HB.out.cell (World.block_lt_of_cell? w _ hx231_3)).trans hx231_3
           replace hx231_4 := (HB.out.cell (World.block_lt_of_cell? w _ hx231_4)).trans hx231_4
           have HR231_4 := Aside0.mk hi231_4
           have HC231_4 := Aside0.mk hl231_4
           clear hi231_4 hl231_4
           replace p231 := eq_true p231
           replace q231 := eq_true q231
           go_wp2_with (first | ((with_reducible refine gate_callee (f := 34) rfl ?_); refine goesL_ (some 26) rfl rfl Try.func34 (by kernel_rfl) rfl #[.agg #[.int .i64 ((rd_T48 l0_2 x7_1).f0), .int .i64 ((rd_T48 l0_2 x7_1).f1), .int .i64 ((rd_T48 l0_2 x7_1).f2), .int .i64 ((rd_T48 l0_2 x7_1).f3), .slice A231_4 ((rd_T48 l0_2 x7_1).f4).length c231_4], .int .i64 a1, .int .i64 a2] rfl (z1) ?_; (with_reducible refine (spec_l2In.calls ((rd_T48 l0_2 x7_1).f0) ((rd_T48 l0_2 x7_1).f1) ((rd_T48 l0_2 x7_1).f2) ((rd_T48 l0_2 x7_1).f3) _ _ ((rd_T48 l0_2 x7_1).f4) a1 a2 true _ ?side1 ?side2 A14.out).mono ?_); (case side1 => repeat (first | exact (Kd.C_below HR231_4.out HB.out) | (with_reducible refine Kd.C_alloc ?_ _) | (with_reducible refine Kd.C_drewN ?_ _) | (with_reducible refine Kd.C_drew ?_))); (case side2 => exact HC231_4.out); rintro e w17 ⟨rfl, hb⟩; refine ⟨_, rfl, ?_⟩; replace BK229 := Aside0.mk (blk_below (g := gb229) (zK) hb); replace HB := Aside0.mk (below_step (zHB) hb); (try clear hb); (try clear hb2); (try clear hk); (try clear hi)))
           go_ret
           exact ⟨z3, zHB⟩
         rw [if_neg Bool.false_ne_true] at H
         have H' := Aside0.mk H
         clear H
         obtain ⟨hcz18_0, hcz18_1, hcz18_2, hfz18_0, hfz18_1, hfz18_2⟩ := cells3 BK229.out
         have p231 : 0 ≤ (x7_1 : Int) := of_decide_eq_true (z0)
         have q231 : x7_1 < (l0_2.length : Int) := of_decide_eq_true (z0)
         obtain ⟨ad231, A231_4, c231_4, e231, hx231_0, hx231_1, hx231_2, hx231_3, hx231_4, hl231_4, hi231_4⟩ := at_T48 HR0_2.out x7_1 p231 q231
         cases e231
         replace hx231_0 := (HB.out.cell (World.block_lt_of_cell? w _ hx231_0)).trans hx231_0
         replace hx231_1 := (HB.out.cell (World.block_lt_of_cell? w _ hx231_1)).trans hx231_1
         replace hx231_2 := (HB.out.cell (World.block_lt_of_cell? w _ hx231_2)).trans hx231_2
         replace hx231_3 := (HB.out.cell (World.block_lt_of_cell? w _ hx231_3)).trans hx231_3
         replace hx231_4 := (HB.out.cell (World.block_lt_of_cell? w _ hx231_4)).trans hx231_4
         have HR231_4 := Aside0.mk hi231_4
         have HC231_4 := Aside0.mk hl231_4
         clear hi231_4 hl231_4
         replace p231 := eq_true p231
         replace q231 := eq_true q231
         go_wp2_with (first | ((with_reducible refine gate_callee (f := 34) rfl ?_); refine goesL_ (some 26) rfl rfl Try.func34 (by kernel_rfl) rfl #[.agg #[.int .i64 ((rd_T48 l0_2 x7_1).f0), .int .i64 ((rd_T48 l0_2 x7_1).f1), .int .i64 ((rd_T48 l0_2 x7_1).f2), .int .i64 ((rd_T48 l0_2 x7_1).f3), .slice A231_4 ((rd_T48 l0_2 x7_1).f4).length c231_4], .int .i64 a1, .int .i64 a2] rfl (z1) ?_; (with_reducible refine (spec_l2In.calls ((rd_T48 l0_2 x7_1).f0) ((rd_T48 l0_2 x7_1).f1) ((rd_T48 l0_2 x7_1).f2) ((rd_T48 l0_2 x7_1).f3) _ _ ((rd_T48 l0_2 x7_1).f4) a1 a2 false _ ?side1 ?side2 A14.out).mono ?_); (case side1 => repeat (first | exact (Kd.C_below HR231_4.out HB.out) | (with_reducible refine Kd.C_alloc ?_ _) | (with_reducible refine Kd.C_drewN ?_ _) | (with_reducible refine Kd.C_drew ?_))); (case side2 => exact HC231_4.out); rintro e w19 ⟨rfl, hb⟩; refine ⟨_, rfl, ?_⟩; replace BK229 := Aside0.mk (blk_below (g := gb229) (zK) hb); replace HB := Aside0.mk (below_step (zHB) hb); (try clear hb); (try clear hb2); (try clear hk); (try clear hi)))
         go_roundg kj4
         case measure => have := HK1.out; have := HJ4.out; omega
         exact ⟨(wrap64 (x7_1 + 1)), (z2), H', ⟨by have := HK1.out; have := HJ4.out; omega⟩, ⟨zK⟩, ⟨zHB⟩⟩
       rw [if_neg c13] at H
       exact absurd H (by simp)
     rw [if_neg c12] at H
     exact absurd H (by simp)
   rw [if_neg Bool.false_ne_true] at H
   obtain rfl := Option.some.inj H
   go_wp2
   go_ret
   exact ⟨z3, zHB⟩
end Go.Proofs.Ytalmpbmgmijdkaa.P
