/- What the Go functions named below compute, function by function: a plain Lean function with the same answers and the proof that a call comes to them. Conditions: the arguments read as told, the plain function answers. -/
import Derived.Test.YtljgbeccmcidkaaXA
namespace Go.Proofs.Ytljgbeccmcidkaa.P
open Go.RowKit Go.Proofs.YtljgbeccmcidkaaW.PrintWords Go.Proofs.YtljgbeccmcidkaaW.PrintLast Go.Proofs.YtljgbeccmcidkaaW.PrintMore
attribute [local go_sem] max2_int min2_int max_two min_two max_three min_three max_four min_four   -- for this text's walks alone
set_option linter.unusedVariables false
set_option linter.unusedSimpArgs false

attribute [local go_sem ↓] isSome_setCell
/-! ### spec_l2In: function 46 -/
def spec_l2In.f (a0_0 : Int) (a0_1 : Int) (a0_2 : Int) (a0_3 : Int) (l0_4 : List (S61)) (a1 : Int) (a2 : Int) : Option (Bool) := if a1 ≥ a0_0 then (if a1 < (wrap64 (a0_0 + a0_2)) then (if a2 ≥ a0_1 then (some (decide (a2 < (wrap64 (a0_1 + a0_3))))) else (some false)) else (some false)) else (some false)
theorem spec_l2In.zHB {p : Prop} (h : p := by repeat (first | (with_reducible first | exact HB.out | apply below_alloc | apply pw_below_drewN | apply below_drew1 | refine below_set ?_ GE132.out) | exact HB.out)) : p := h
theorem spec_l2In.z0 {p : Prop} (h : p := by first | rfl | (simp [errW_none, errW_some] <;> rfl) | (simp [*, errW_none, errW_some] <;> rfl)) : p := h
theorem spec_l2In.z1 {p : Prop} (h : p := by rw [hg]; exact (below_size (zHB))) : p := h
set_option maxHeartbeats 8000000 in
set_option maxRecDepth 100000 in
theorem spec_l2In.calls (a0_0 : Int) (a0_1 : Int) (a0_2 : Int) (a0_3 : Int) (A0_4 : Option Addr) (c0_4 : Nat) (l0_4 : List (S61)) (a1 : Int) (a2 : Int) (r : Bool) (w : World) (hr0_4 : Kd.C k61 w A0_4 l0_4.length l0_4) (hc0_4 : l0_4.length ≤ c0_4) (h : spec_l2In.f a0_0 a0_1 a0_2 a0_3 l0_4 a1 a2 = some r) :
    Calls Try.prog 46 #[.agg #[.int .i64 a0_0, .int .i64 a0_1, .int .i64 a0_2, .int .i64 a0_3, .slice A0_4 l0_4.length c0_4], .int .i64 a1, .int .i64 a2] w fun e w' => e = .returned (.bool r) ∧ Below w.heap.size w w' := by
 have hu30 := Try.underlying30
 have HR0_4 := Ax hr0_4
 have HC0_4 := Ax hc0_4
 clear hr0_4 hc0_4
 have HB := Ax (Below.refl w.heap.size w)
 have H : (if a1 ≥ a0_0 then (if a1 < (wrap64 (a0_0 + a0_2)) then (if a2 ≥ a0_1 then (some (decide (a2 < (wrap64 (a0_1 + a0_3))))) else (some false)) else (some false)) else (some false)) = some r := h
 clear h
 by_cases c4 : a1 ≥ a0_0
 rotate_left
 · rw [if_neg c4] at H
   have c4b0 : decide (a0_0 ≤ a1) = false := decide_eq_false c4
   clear c4
   obtain rfl := Option.some.inj H
   go_enter Try.func46, Try.ntmps46
   go_wp2_with (first | ((with_reducible refine gate_dst (N := 3) rfl ?_); refine box_event ?hg (N := 3) ?hd (cs := #[.int .i64 a0_0, .int .i64 a0_1, .int .i64 a0_2, .int .i64 a0_3, .slice A0_4 l0_4.length c0_4]) (t := 30) ?hr ?_; (case hd => rfl); (case hg => rfl); (case hr => first | (go_simp; done) | (go_simp; rfl)); intro gb132 hg w13 hbox hb; have BK132 := Ax (hbox); have GW132 := Ax ((z1 : w.heap.size ≤ gb132)); have GE132 := Ax ((z1 : w.heap.size ≤ gb132)); replace HB := Ax (below_step (zHB) hb); clear hb hbox hg; obtain ⟨_, _, _, _, _, _, _, _, _, _⟩ := cells5 BK132.out))
   go_ret
   exact ⟨z0, zHB⟩
 rw [if_pos c4] at H
 have c4b0 := decide_eq_true c4
 clear c4
 by_cases c5 : a1 < (wrap64 (a0_0 + a0_2))
 rotate_left
 · rw [if_neg c5] at H
   have c5b0 := decide_eq_false c5
   clear c5
   obtain rfl := Option.some.inj H
   go_enter Try.func46, Try.ntmps46
   go_wp2_with (first | ((with_reducible refine gate_dst (N := 3) rfl ?_); refine box_event ?hg (N := 3) ?hd (cs := #[.int .i64 a0_0, .int .i64 a0_1, .int .i64 a0_2, .int .i64 a0_3, .slice A0_4 l0_4.length c0_4]) (t := 30) ?hr ?_; (case hd => rfl); (case hg => rfl); (case hr => first | (go_simp; done) | (go_simp; rfl)); intro gb132 hg w11 hbox hb; have BK132 := Ax (hbox); have GW132 := Ax ((z1 : w.heap.size ≤ gb132)); have GE132 := Ax ((z1 : w.heap.size ≤ gb132)); replace HB := Ax (below_step (zHB) hb); clear hb hbox hg; obtain ⟨_, _, _, _, _, _, _, _, _, _⟩ := cells5 BK132.out))
   go_ret
   exact ⟨z0, zHB⟩
 rw [if_pos c5] at H
 have c5b0 := decide_eq_true c5
 clear c5
 by_cases c6 : a2 ≥ a0_1
 · rw [if_pos c6] at H
   have c6b0 := decide_eq_true c6
   clear c6
   obtain rfl := Option.some.inj H
   go_enter Try.func46, Try.ntmps46
   go_wp2_with (first | ((with_reducible refine gate_dst (N := 3) rfl ?_); refine box_event ?hg (N := 3) ?hd (cs := #[.int .i64 a0_0, .int .i64 a0_1, .int .i64 a0_2, .int .i64 a0_3, .slice A0_4 l0_4.length c0_4]) (t := 30) ?hr ?_; (case hd => rfl); (case hg => rfl); (case hr => first | (go_simp; done) | (go_simp; rfl)); intro gb132 hg w7 hbox hb; have BK132 := Ax (hbox); have GW132 := Ax ((z1 : w.heap.size ≤ gb132)); have GE132 := Ax ((z1 : w.heap.size ≤ gb132)); replace HB := Ax (below_step (zHB) hb); clear hb hbox hg; obtain ⟨_, _, _, _, _, _, _, _, _, _⟩ := cells5 BK132.out))
   go_ret
   exact ⟨z0, zHB⟩
 rw [if_neg c6] at H
 have c6b0 : decide (a0_1 ≤ a2) = false := decide_eq_false c6
 clear c6
 obtain rfl := Option.some.inj H
 go_enter Try.func46, Try.ntmps46
 go_wp2_with (first | ((with_reducible refine gate_dst (N := 3) rfl ?_); refine box_event ?hg (N := 3) ?hd (cs := #[.int .i64 a0_0, .int .i64 a0_1, .int .i64 a0_2, .int .i64 a0_3, .slice A0_4 l0_4.length c0_4]) (t := 30) ?hr ?_; (case hd => rfl); (case hg => rfl); (case hr => first | (go_simp; done) | (go_simp; rfl)); intro gb132 hg w9 hbox hb; have BK132 := Ax (hbox); have GW132 := Ax ((z1 : w.heap.size ≤ gb132)); have GE132 := Ax ((z1 : w.heap.size ≤ gb132)); replace HB := Ax (below_step (zHB) hb); clear hb hbox hg; obtain ⟨_, _, _, _, _, _, _, _, _, _⟩ := cells5 BK132.out))
 go_ret
 exact ⟨z0, zHB⟩
end Go.Proofs.Ytljgbeccmcidkaa.P
namespace Go.Proofs.Ytljgbeccmcidkaa.P
open Go.RowKit Go.Proofs.YtljgbeccmcidkaaW.PrintWords Go.Proofs.YtljgbeccmcidkaaW.PrintLast Go.Proofs.YtljgbeccmcidkaaW.PrintMore
attribute [local go_sem] max2_int min2_int max_two min_two max_three min_three max_four min_four   -- for this text's walks alone
set_option linter.unusedVariables false
set_option linter.unusedSimpArgs false

attribute [local go_sem ↓] isSome_setCell
/-! ### spec_l2Form: function 45 -/
mutual
def spec_l2Form.j0 : Nat → Bool → Int → Int → List (S30) → Option (Bool)
  | 0, _, _, _, _ => none
  | k + 1, x20, x120000, x120001, x120002 => if x20 = true then (some false) else (spec_l2Form.l0 k 0 x120000 x120001 x120002)
def spec_l2Form.l0 : Nat → Int → Int → Int → List (S30) → Option (Bool)
  | 0, _, _, _, _ => none
  | k + 1, x3, x120000, x120001, x120002 => if x3 < (x120002.length : Int) then (if 0 ≤ x3 then ((spec_l6In.f ((rd_T30 x120002 x3).f0) 0 (wrap64 (x120000 - 1))).bind fun t124 => (if t124 = true then ((spec_l6In.f ((rd_T30 x120002 x3).f1) 0 (wrap64 (x120001 - 1))).bind fun t125 => (if t125 = true then ((spec_l6In.f ((rd_T30 x120002 x3).f2) 1 (wrap64 (x120000 - ((rd_T30 x120002 x3).f0)))).bind fun t126 => (if t126 = true then ((spec_l6In.f ((rd_T30 x120002 x3).f3) 1 (wrap64 (x120001 - ((rd_T30 x120002 x3).f1)))).bind fun t127 => (if t127 = true then ((spec_TextOk.f k ((rd_T30 x120002 x3).f4)).bind fun t128 => (spec_l2Form.j2 k x3 (!t128) x120000 x120001 x120002 ((rd_T30 x120002 x3).f0) ((rd_T30 x120002 x3).f1) ((rd_T30 x120002 x3).f2) ((rd_T30 x120002 x3).f3) ((rd_T30 x120002 x3).f4))) else (spec_l2Form.j2 k x3 true x120000 x120001 x120002 ((rd_T30 x120002 x3).f0) ((rd_T30 x120002 x3).f1) ((rd_T30 x120002 x3).f2) ((rd_T30 x120002 x3).f3) ((rd_T30 x120002 x3).f4)))) else (spec_l2Form.j2 k x3 true x120000 x120001 x120002 ((rd_T30 x120002 x3).f0) ((rd_T30 x120002 x3).f1) ((rd_T30 x120002 x3).f2) ((rd_T30 x120002 x3).f3) ((rd_T30 x120002 x3).f4)))) else (spec_l2Form.j2 k x3 true x120000 x120001 x120002 ((rd_T30 x120002 x3).f0) ((rd_T30 x120002 x3).f1) ((rd_T30 x120002 x3).f2) ((rd_T30 x120002 x3).f3) ((rd_T30 x120002 x3).f4)))) else (spec_l2Form.j2 k x3 true x120000 x120001 x120002 ((rd_T30 x120002 x3).f0) ((rd_T30 x120002 x3).f1) ((rd_T30 x120002 x3).f2) ((rd_T30 x120002 x3).f3) ((rd_T30 x120002 x3).f4)))) else (none)) else (some true)
def spec_l2Form.j2 : Nat → Int → Bool → Int → Int → List (S30) → Int → Int → Int → Int → List (S61) → Option (Bool)
  | 0, _, _, _, _, _, _, _, _, _, _ => none
  | k + 1, x3, x76, x120000, x120001, x120002, x124000, x124001, x124002, x124003, x124004 => if x76 = true then (some false) else (if x3 > 0 then (if 0 ≤ (wrap64 (x3 - 1)) then (if (wrap64 (x3 - 1)) < (x120002.length : Int) then (if ((rd_T30 x120002 (wrap64 (x3 - 1))).f0) > x124000 then (spec_l2Form.j3 k x3 true x120000 x120001 x120002) else (if ((rd_T30 x120002 (wrap64 (x3 - 1))).f0) = x124000 then (spec_l2Form.j3 k x3 (decide (((rd_T30 x120002 (wrap64 (x3 - 1))).f1) ≥ x124001)) x120000 x120001 x120002) else (spec_l2Form.j3 k x3 false x120000 x120001 x120002))) else (none)) else (none)) else (spec_l2Form.j3 k x3 false x120000 x120001 x120002))
def spec_l2Form.j3 : Nat → Int → Bool → Int → Int → List (S30) → Option (Bool)
  | 0, _, _, _, _, _ => none
  | k + 1, x3, x114, x120000, x120001, x120002 => if x114 = true then (some false) else (spec_l2Form.l0 k (wrap64 (x3 + 1)) x120000 x120001 x120002)
end
def spec_l2Form.f (k : Nat) (a0_0 : Int) (a0_1 : Int) (l0_2 : List (S30)) : Option (Bool) := (spec_l6In.f a0_0 1 5).bind fun t120 => (if t120 = true then ((spec_l6In.f a0_1 1 5).bind fun t121 => (if t121 = true then (spec_l2Form.j0 k (decide ((l0_2.length : Int) > 25)) a0_0 a0_1 l0_2) else (spec_l2Form.j0 k true a0_0 a0_1 l0_2))) else (spec_l2Form.j0 k true a0_0 a0_1 l0_2))
theorem spec_l2Form.mono_l : ∀ k, (∀ y0 y1 y2 y3, LeO (spec_l2Form.j0 k y0 y1 y2 y3) (spec_l2Form.j0 (k + 1) y0 y1 y2 y3)) ∧ (∀ y0 y1 y2 y3, LeO (spec_l2Form.l0 k y0 y1 y2 y3) (spec_l2Form.l0 (k + 1) y0 y1 y2 y3)) ∧ (∀ y0 y1 y2 y3 y4 y5 y6 y7 y8 y9, LeO (spec_l2Form.j2 k y0 y1 y2 y3 y4 y5 y6 y7 y8 y9) (spec_l2Form.j2 (k + 1) y0 y1 y2 y3 y4 y5 y6 y7 y8 y9)) ∧ (∀ y0 y1 y2 y3 y4, LeO (spec_l2Form.j3 k y0 y1 y2 y3 y4) (spec_l2Form.j3 (k + 1) y0 y1 y2 y3 y4))
  | 0 => by refine ⟨?_, ?_, ?_, ?_⟩ <;> intros <;> intro r h <;> simp [spec_l2Form.j0, spec_l2Form.l0, spec_l2Form.j2, spec_l2Form.j3] at h
  | k + 1 => by
    obtain ⟨ih0, ih1, ih2, ih3⟩ := spec_l2Form.mono_l k
    refine ⟨?_, ?_, ?_, ?_⟩ <;> intros <;> (first | unfold spec_l2Form.j0 | unfold spec_l2Form.l0 | unfold spec_l2Form.j2 | unfold spec_l2Form.j3) <;> with_reducible repeat' first | exact ih0 _ _ _ _ | exact ih1 _ _ _ _ | exact ih2 _ _ _ _ _ _ _ _ _ _ | exact ih3 _ _ _ _ _ | exact spec_TextOk.mono _ _ | exact LeO.refl _ | exact LeO.none _ | refine LeO.ite ?_ ?_ | refine LeO.bind ?_ (fun _ => ?_)
theorem spec_l2Form.mono : ∀ a0 a1 a2 k, LeO (spec_l2Form.f k a0 a1 a2) (spec_l2Form.f (k + 1) a0 a1 a2) := by
  intro a0 a1 a2 k
  obtain ⟨ih0, ih1, ih2, ih3⟩ := spec_l2Form.mono_l k
  unfold spec_l2Form.f
  with_reducible repeat' first | exact ih0 _ _ _ _ | exact ih1 _ _ _ _ | exact ih2 _ _ _ _ _ _ _ _ _ _ | exact ih3 _ _ _ _ _ | exact spec_TextOk.mono _ _ | exact LeO.refl _ | exact LeO.none _ | refine LeO.ite ?_ ?_ | refine LeO.bind ?_ (fun _ => ?_)
theorem spec_l2Form.zHB {p : Prop} (h : p := by repeat (first | (with_reducible first | exact HB.out | apply below_alloc | apply pw_below_drewN | apply below_drew1 | refine below_set ?_ GE119.out | refine below_set ?_ GE123.out) | exact HB.out)) : p := h
theorem spec_l2Form.zK {p : Prop} (h : p := by repeat' first | (with_reducible first | exact BK119.out | exact BK123.out | apply blk_drewN | apply blk_drew | apply blk_alloc | apply blk_far (hp := NB119_123.out) | apply blk_putE) | exact (rfl : List.set _ _ _ = _)) : p := h
theorem spec_l2Form.z0 {p : Prop} (h : p := by first | (with_reducible assumption) | assumption) : p := h
theorem spec_l2Form.z1 {p : Prop} (h : p := by first | rfl | (simp; done) | (simp [*]; done)) : p := h
theorem spec_l2Form.z2 {p : Prop} (h : p := by rw [hg]; exact (below_size (zHB))) : p := h
theorem spec_l2Form.z3 {p : Prop} (h : p := by first | rfl | (simp [errW_none, errW_some] <;> rfl) | (simp [*, errW_none, errW_some] <;> rfl)) : p := h
theorem spec_l2Form.z4 {p : Prop} (h : p := by have := HJ1.out; have := HK2.out; first | omega | exact Nat.le_refl _) : p := h
theorem spec_l2Form.z5 {p : Prop} (h : p := by have := HJ1.out; have := HK2.out; have := HJ13.out; first | omega | exact Nat.le_refl _) : p := h
theorem spec_l2Form.z6 {p : Prop} (h : p := by rw [hg]; exact Nat.ne_of_lt (blk_lt (g := gb119) (zK))) : p := h
theorem spec_l2Form.z7 {p : Prop} (h : p := by rw [hg]; exact Nat.ne_of_gt (blk_lt (g := gb119) (zK))) : p := h
theorem spec_l2Form.z8 {p : Prop} (h : p := by first | omega | exact Nat.le_refl _) : p := h
set_option maxHeartbeats 8000000 in
set_option maxRecDepth 100000 in
theorem spec_l2Form.calls (k : Nat) (a0_0 : Int) (a0_1 : Int) (A0_2 : Option Addr) (c0_2 : Nat) (l0_2 : List (S30)) (r : Bool) (w : World) (hr0_2 : Kd.C k30 w A0_2 l0_2.length l0_2) (hc0_2 : l0_2.length ≤ c0_2) (h : spec_l2Form.f k a0_0 a0_1 l0_2 = some r) :
    Calls Try.prog 45 #[.agg #[.int .i64 a0_0, .int .i64 a0_1, .slice A0_2 l0_2.length c0_2]] w fun e w' => e = .returned (.bool r) ∧ Below w.heap.size w w' := by
 have hu25 := Try.underlying25
 have hu30 := Try.underlying30
 have HR0_2 := Ax hr0_2
 have HC0_2 := Ax hc0_2
 clear hr0_2 hc0_2
 have HB := Ax (Below.refl w.heap.size w)
 have H : ((spec_l6In.f a0_0 1 5).bind fun t120 => (if t120 = true then ((spec_l6In.f a0_1 1 5).bind fun t121 => (if t121 = true then (spec_l2Form.j0 k (decide ((l0_2.length : Int) > 25)) a0_0 a0_1 l0_2) else (spec_l2Form.j0 k true a0_0 a0_1 l0_2))) else (spec_l2Form.j0 k true a0_0 a0_1 l0_2))) = some r := h
 clear h
 have HC2 := Ax H
 clear H
 go_enter Try.func45, Try.ntmps45
 go_upto_region 1 with (first | ((with_reducible refine gate_dst (N := 1) rfl ?_); (try (refine gate_guard (by rfl) ?_; dsimp only)); refine box_event ?hg (N := 1) ?hd (cs := #[.int .i64 a0_0, .int .i64 a0_1, .slice A0_2 l0_2.length c0_2]) (t := 25) ?hr ?_; (case hd => rfl); (case hg => rfl); (case hr => first | (go_simp; done) | (go_simp; rfl)); intro gb119 hg w3 hbox hb; have BK119 := Ax (hbox); have GW119 := Ax ((z2 : w.heap.size ≤ gb119)); have GE119 := Ax ((z2 : w.heap.size ≤ gb119)); replace HB := Ax (below_step (zHB) hb); clear hb hbox hg))
 repeat (go_quiet (first | ((with_reducible refine gate_dst (N := 1) rfl ?_); (try (refine gate_guard (by rfl) ?_; dsimp only)); refine box_event ?hg (N := 1) ?hd (cs := #[.int .i64 a0_0, .int .i64 a0_1, .slice A0_2 l0_2.length c0_2]) (t := 25) ?hr ?_; (case hd => rfl); (case hg => rfl); (case hr => first | (go_simp; done) | (go_simp; rfl)); intro gb119 hg w3 hbox hb; have BK119 := Ax (hbox); have GW119 := Ax ((z2 : w.heap.size ≤ gb119)); have GE119 := Ax ((z2 : w.heap.size ≤ gb119)); replace HB := Ax (below_step (zHB) hb); clear hb hbox hg)); go_upto_region 1 with (first | ((with_reducible refine gate_dst (N := 1) rfl ?_); (try (refine gate_guard (by rfl) ?_; dsimp only)); refine box_event ?hg (N := 1) ?hd (cs := #[.int .i64 a0_0, .int .i64 a0_1, .slice A0_2 l0_2.length c0_2]) (t := 25) ?hr ?_; (case hd => rfl); (case hg => rfl); (case hr => first | (go_simp; done) | (go_simp; rfl)); intro gb119 hg w3 hbox hb; have BK119 := Ax (hbox); have GW119 := Ax ((z2 : w.heap.size ≤ gb119)); have GE119 := Ax ((z2 : w.heap.size ≤ gb119)); replace HB := Ax (below_step (zHB) hb); clear hb hbox hg)))
 (try simp only [Act.put, List.setIfInBounds_toArray, List.set_cons_zero, List.set_cons_succ])
 go_cut [20] (fun v20 wc => ∃ (kq : Nat) (x20_1 : Bool), v20 = .bool x20_1 ∧ Aside0 (spec_l2Form.j0 kq x20_1 a0_0 a0_1 l0_2 = some r) ∧ Aside0 (kq ≤ k) ∧ Aside0 (wc.heap[gb119]? = some (.cells #[.int .i64 a0_0, .int .i64 a0_1, (.slice A0_2 l0_2.length c0_2)] 25 (0, 0))) ∧ Aside0 (Below w.heap.size w wc))
 case first =>
  have H := HC2.out
  clear HC2
  obtain ⟨t120, A4, H⟩ := bnd H
  obtain rfl | rfl := tf t120
  rotate_left
  · rw [if_neg Bool.false_ne_true] at H
    have H' := Ax H
    clear H
    obtain ⟨_, _, _, _, _, _⟩ := cells3 BK119.out
    go_wp2_with (first | (go_at_call 49; (with_reducible refine (spec_l6In.calls a0_0 1 5 false _ A4.out).mono ?_); rintro e w' ⟨rfl, ⟨nd, rfl⟩⟩; (try first | exact ⟨rfl, _, World.drewN_drewN _ _ _⟩ | exact ⟨rfl, _, Eq.trans (World.drewN_drewN _ _ _) (congrArg (World.drewN _) (Nat.add_assoc _ _ _))⟩)))
    repeat (go_quiet (first | (go_at_call 49; (with_reducible refine (spec_l6In.calls a0_0 1 5 false _ A4.out).mono ?_); rintro e w' ⟨rfl, ⟨nd, rfl⟩⟩; (try first | exact ⟨rfl, _, World.drewN_drewN _ _ _⟩ | exact ⟨rfl, _, Eq.trans (World.drewN_drewN _ _ _) (congrArg (World.drewN _) (Nat.add_assoc _ _ _))⟩))); try go_wp2_with (first | (go_at_call 49; (with_reducible refine (spec_l6In.calls a0_0 1 5 false _ A4.out).mono ?_); rintro e w' ⟨rfl, ⟨nd, rfl⟩⟩; (try first | exact ⟨rfl, _, World.drewN_drewN _ _ _⟩ | exact ⟨rfl, _, Eq.trans (World.drewN_drewN _ _ _) (congrArg (World.drewN _) (Nat.add_assoc _ _ _))⟩))))
    go_meet
    exact ⟨_, (true), (z1), H', ⟨z8⟩, ⟨zK⟩, ⟨zHB⟩⟩
  rw [if_pos rfl] at H
  obtain ⟨t121, A6, H⟩ := bnd H
  obtain rfl | rfl := tf t121
  · rw [if_pos rfl] at H
    have H' := Ax H
    clear H
    obtain ⟨_, _, _, _, _, _⟩ := cells3 BK119.out
    go_wp2_with (first | (go_at_call 49; (with_reducible refine (spec_l6In.calls a0_0 1 5 true _ A4.out).mono ?_); rintro e w' ⟨rfl, ⟨nd, rfl⟩⟩; (try first | exact ⟨rfl, _, World.drewN_drewN _ _ _⟩ | exact ⟨rfl, _, Eq.trans (World.drewN_drewN _ _ _) (congrArg (World.drewN _) (Nat.add_assoc _ _ _))⟩)) | (go_at_call 49; (with_reducible refine (spec_l6In.calls a0_1 1 5 true _ A6.out).mono ?_); rintro e w' ⟨rfl, ⟨nd, rfl⟩⟩; (try first | exact ⟨rfl, _, World.drewN_drewN _ _ _⟩ | exact ⟨rfl, _, Eq.trans (World.drewN_drewN _ _ _) (congrArg (World.drewN _) (Nat.add_assoc _ _ _))⟩)))
    repeat (go_quiet (first | (go_at_call 49; (with_reducible refine (spec_l6In.calls a0_0 1 5 true _ A4.out).mono ?_); rintro e w' ⟨rfl, ⟨nd, rfl⟩⟩; (try first | exact ⟨rfl, _, World.drewN_drewN _ _ _⟩ | exact ⟨rfl, _, Eq.trans (World.drewN_drewN _ _ _) (congrArg (World.drewN _) (Nat.add_assoc _ _ _))⟩)) | (go_at_call 49; (with_reducible refine (spec_l6In.calls a0_1 1 5 true _ A6.out).mono ?_); rintro e w' ⟨rfl, ⟨nd, rfl⟩⟩; (try first | exact ⟨rfl, _, World.drewN_drewN _ _ _⟩ | exact ⟨rfl, _, Eq.trans (World.drewN_drewN _ _ _) (congrArg (World.drewN _) (Nat.add_assoc _ _ _))⟩))); try go_wp2_with (first | (go_at_call 49; (with_reducible refine (spec_l6In.calls a0_0 1 5 true _ A4.out).mono ?_); rintro e w' ⟨rfl, ⟨nd, rfl⟩⟩; (try first | exact ⟨rfl, _, World.drewN_drewN _ _ _⟩ | exact ⟨rfl, _, Eq.trans (World.drewN_drewN _ _ _) (congrArg (World.drewN _) (Nat.add_assoc _ _ _))⟩)) | (go_at_call 49; (with_reducible refine (spec_l6In.calls a0_1 1 5 true _ A6.out).mono ?_); rintro e w' ⟨rfl, ⟨nd, rfl⟩⟩; (try first | exact ⟨rfl, _, World.drewN_drewN _ _ _⟩ | exact ⟨rfl, _, Eq.trans (World.drewN_drewN _ _ _) (congrArg (World.drewN _) (Nat.add_assoc _ _ _))⟩))))
    go_meet
    exact ⟨_, (decide ((l0_2.length : Int) > 25)), (z1), H', ⟨z8⟩, ⟨zK⟩, ⟨zHB⟩⟩
  rw [if_neg Bool.false_ne_true] at H
  have H' := Ax H
  clear H
  obtain ⟨_, _, _, _, _, _⟩ := cells3 BK119.out
  go_wp2_with (first | (go_at_call 49; (with_reducible refine (spec_l6In.calls a0_0 1 5 true _ A4.out).mono ?_); rintro e w' ⟨rfl, ⟨nd, rfl⟩⟩; (try first | exact ⟨rfl, _, World.drewN_drewN _ _ _⟩ | exact ⟨rfl, _, Eq.trans (World.drewN_drewN _ _ _) (congrArg (World.drewN _) (Nat.add_assoc _ _ _))⟩)) | (go_at_call 49; (with_reducible refine (spec_l6In.calls a0_1 1 5 false _ A6.out).mono ?_); rintro e w' ⟨rfl, ⟨nd, rfl⟩⟩; (try first | exact ⟨rfl, _, World.drewN_drewN _ _ _⟩ | exact ⟨rfl, _, Eq.trans (World.drewN_drewN _ _ _) (congrArg (World.drewN _) (Nat.add_assoc _ _ _))⟩)))
  repeat (go_quiet (first | (go_at_call 49; (with_reducible refine (spec_l6In.calls a0_0 1 5 true _ A4.out).mono ?_); rintro e w' ⟨rfl, ⟨nd, rfl⟩⟩; (try first | exact ⟨rfl, _, World.drewN_drewN _ _ _⟩ | exact ⟨rfl, _, Eq.trans (World.drewN_drewN _ _ _) (congrArg (World.drewN _) (Nat.add_assoc _ _ _))⟩)) | (go_at_call 49; (with_reducible refine (spec_l6In.calls a0_1 1 5 false _ A6.out).mono ?_); rintro e w' ⟨rfl, ⟨nd, rfl⟩⟩; (try first | exact ⟨rfl, _, World.drewN_drewN _ _ _⟩ | exact ⟨rfl, _, Eq.trans (World.drewN_drewN _ _ _) (congrArg (World.drewN _) (Nat.add_assoc _ _ _))⟩))); try go_wp2_with (first | (go_at_call 49; (with_reducible refine (spec_l6In.calls a0_0 1 5 true _ A4.out).mono ?_); rintro e w' ⟨rfl, ⟨nd, rfl⟩⟩; (try first | exact ⟨rfl, _, World.drewN_drewN _ _ _⟩ | exact ⟨rfl, _, Eq.trans (World.drewN_drewN _ _ _) (congrArg (World.drewN _) (Nat.add_assoc _ _ _))⟩)) | (go_at_call 49; (with_reducible refine (spec_l6In.calls a0_1 1 5 false _ A6.out).mono ?_); rintro e w' ⟨rfl, ⟨nd, rfl⟩⟩; (try first | exact ⟨rfl, _, World.drewN_drewN _ _ _⟩ | exact ⟨rfl, _, Eq.trans (World.drewN_drewN _ _ _) (congrArg (World.drewN _) (Nat.add_assoc _ _ _))⟩))))
  go_meet
  exact ⟨_, (true), (z1), H', ⟨z8⟩, ⟨zK⟩, ⟨zHB⟩⟩
 clear HC2
 obtain ⟨kq, x20_1, rfl, HA, HJ1, BK119, HB⟩ := hcut
 cases kq with
 | zero => exact absurd HA.out (by simp [spec_l2Form.j0])
 | succ kj1 =>
  have H := HA.out
  clear HA
  simp only [spec_l2Form.j0] at H
  obtain rfl | rfl := tf x20_1
  · rw [if_pos rfl] at H
    obtain rfl := Option.some.inj H
    go_wp2
    repeat (go_quiet (fail); try go_wp2)
    go_ret
    exact ⟨z3, zHB⟩
  rw [if_neg Bool.false_ne_true] at H
  have H' := Ax H
  clear H
  go_wp2
  repeat (go_quiet (fail); try go_wp2)
  go_loopg [3] kj1 (fun kq v3 w' => ∃ (x3_2 : Int), v3 = .int .i64 x3_2 ∧ Aside0 (spec_l2Form.l0 kq x3_2 a0_0 a0_1 l0_2 = some r) ∧ Aside0 (kq ≤ kj1) ∧ Aside0 (w'.heap[gb119]? = some (.cells #[.int .i64 a0_0, .int .i64 a0_1, (.slice A0_2 l0_2.length c0_2)] 25 (0, 0))) ∧ Aside0 (Below w.heap.size w w'))
  case atStart => exact ⟨(0), (z1), H', ⟨Nat.le_refl _⟩, ⟨zK⟩, ⟨zHB⟩⟩
  clear H'
  obtain ⟨x3_2, rfl, HA, HK2, BK119, HB⟩ := hrel
  cases gk with
  | zero => exact absurd HA.out (by simp [spec_l2Form.l0])
  | succ k2 =>
   have H := HA.out
   clear HA
   simp only [spec_l2Form.l0] at H
   by_cases c12 : x3_2 < (l0_2.length : Int)
   rotate_left
   · rw [if_neg c12] at H
     have c12b0 := decide_eq_false c12
     clear c12
     obtain rfl := Option.some.inj H
     obtain ⟨_, _, _, _, _, _⟩ := cells3 BK119.out
     go_wp2
     repeat (go_quiet (fail); try go_wp2)
     go_ret
     exact ⟨z3, zHB⟩
   rw [if_pos c12] at H
   have c12b0 := decide_eq_true c12
   clear c12
   by_cases c13 : 0 ≤ x3_2
   rotate_left
   · rw [if_neg c13] at H
     exact absurd H (by simp)
   rw [if_pos c13] at H
   have c13b0 := decide_eq_true c13
   clear c13
   have HC14 := Ax H
   clear H
   obtain ⟨hcz15_0, hcz15_1, hcz15_2, hfz15_0, hfz15_1, hfz15_2⟩ := cells3 BK119.out
   have p122 : 0 ≤ (x3_2 : Int) := of_decide_eq_true (z0)
   have q122 : x3_2 < (l0_2.length : Int) := of_decide_eq_true (z0)
   obtain ⟨ad122, A122_4, c122_4, e122, hx122_0, hx122_1, hx122_2, hx122_3, hx122_4, hl122_4, hi122_4⟩ := at_T30 HR0_2.out x3_2 p122 q122
   cases e122
   replace hx122_0 := (HB.out.cell (World.block_lt_of_cell? w _ hx122_0)).trans hx122_0
   replace hx122_1 := (HB.out.cell (World.block_lt_of_cell? w _ hx122_1)).trans hx122_1
   replace hx122_2 := (HB.out.cell (World.block_lt_of_cell? w _ hx122_2)).trans hx122_2
   replace hx122_3 := (HB.out.cell (World.block_lt_of_cell? w _ hx122_3)).trans hx122_3
   replace hx122_4 := (HB.out.cell (World.block_lt_of_cell? w _ hx122_4)).trans hx122_4
   have HR122_4 := Ax hi122_4
   have HC122_4 := Ax hl122_4
   clear hi122_4 hl122_4
   replace p122 := eq_true p122
   replace q122 := eq_true q122
   go_upto_region 7 with (first | ((with_reducible refine gate_dst (N := 4) rfl ?_); (try (refine gate_guard (by rfl) ?_; dsimp only)); refine box_event ?hg (N := 4) ?hd (cs := #[.int .i64 0, .int .i64 0, .int .i64 0, .int .i64 0, .slice none 0 0]) (t := 30) ?hr ?_; (case hd => rfl); (case hg => rfl); (case hr => first | (go_simp; done) | (go_simp; rfl)); intro gb123 hg w16 hbox hb; have BK123 := Ax (hbox); have GW123 := Ax ((z2 : w.heap.size ≤ gb123)); have GE123 := Ax ((z2 : w.heap.size ≤ gb123)); replace HB := Ax (below_step (zHB) hb); have NB119_123 := Ax ((z6 : gb119 ≠ gb123)); have NB123_119 := Ax ((z7 : gb123 ≠ gb119)); replace BK119 := Ax (blk_below (g := gb119) (zK) hb); clear hb hbox hg; have hnb17 := NB123_119.out; have hnc17 := NB119_123.out; obtain ⟨hcz18_0, hcz18_1, hcz18_2, hcz18_3, hcz18_4, hfz18_0, hfz18_1, hfz18_2, hfz18_3, hfz18_4⟩ := cells5 BK123.out))
   repeat (go_quiet (first | ((with_reducible refine gate_dst (N := 4) rfl ?_); (try (refine gate_guard (by rfl) ?_; dsimp only)); refine box_event ?hg (N := 4) ?hd (cs := #[.int .i64 0, .int .i64 0, .int .i64 0, .int .i64 0, .slice none 0 0]) (t := 30) ?hr ?_; (case hd => rfl); (case hg => rfl); (case hr => first | (go_simp; done) | (go_simp; rfl)); intro gb123 hg w16 hbox hb; have BK123 := Ax (hbox); have GW123 := Ax ((z2 : w.heap.size ≤ gb123)); have GE123 := Ax ((z2 : w.heap.size ≤ gb123)); replace HB := Ax (below_step (zHB) hb); have NB119_123 := Ax ((z6 : gb119 ≠ gb123)); have NB123_119 := Ax ((z7 : gb123 ≠ gb119)); replace BK119 := Ax (blk_below (g := gb119) (zK) hb); clear hb hbox hg; have hnb17 := NB123_119.out; have hnc17 := NB119_123.out; obtain ⟨hcz18_0, hcz18_1, hcz18_2, hcz18_3, hcz18_4, hfz18_0, hfz18_1, hfz18_2, hfz18_3, hfz18_4⟩ := cells5 BK123.out)); go_upto_region 7 with (first | ((with_reducible refine gate_dst (N := 4) rfl ?_); (try (refine gate_guard (by rfl) ?_; dsimp only)); refine box_event ?hg (N := 4) ?hd (cs := #[.int .i64 0, .int .i64 0, .int .i64 0, .int .i64 0, .slice none 0 0]) (t := 30) ?hr ?_; (case hd => rfl); (case hg => rfl); (case hr => first | (go_simp; done) | (go_simp; rfl)); intro gb123 hg w16 hbox hb; have BK123 := Ax (hbox); have GW123 := Ax ((z2 : w.heap.size ≤ gb123)); have GE123 := Ax ((z2 : w.heap.size ≤ gb123)); replace HB := Ax (below_step (zHB) hb); have NB119_123 := Ax ((z6 : gb119 ≠ gb123)); have NB123_119 := Ax ((z7 : gb123 ≠ gb119)); replace BK119 := Ax (blk_below (g := gb119) (zK) hb); clear hb hbox hg; have hnb17 := NB123_119.out; have hnc17 := NB119_123.out; obtain ⟨hcz18_0, hcz18_1, hcz18_2, hcz18_3, hcz18_4, hfz18_0, hfz18_1, hfz18_2, hfz18_3, hfz18_4⟩ := cells5 BK123.out)))
   (try simp only [Act.put, List.setIfInBounds_toArray, List.set_cons_zero, List.set_cons_succ])
   go_cut [76] (fun v76 wc => ∃ (kq : Nat) (x76_13 : Bool), v76 = .bool x76_13 ∧ Aside0 (spec_l2Form.j2 kq x3_2 x76_13 a0_0 a0_1 l0_2 ((rd_T30 l0_2 x3_2).f0) ((rd_T30 l0_2 x3_2).f1) ((rd_T30 l0_2 x3_2).f2) ((rd_T30 l0_2 x3_2).f3) ((rd_T30 l0_2 x3_2).f4) = some r) ∧ Aside0 (kq ≤ k2) ∧ Aside0 (wc.heap[gb119]? = some (.cells #[.int .i64 a0_0, .int .i64 a0_1, (.slice (some ad122) l0_2.length c0_2)] 25 (0, 0))) ∧ Aside0 (wc.heap[gb123]? = some (.cells #[.int .i64 ((rd_T30 l0_2 x3_2).f0), .int .i64 ((rd_T30 l0_2 x3_2).f1), .int .i64 ((rd_T30 l0_2 x3_2).f2), .int .i64 ((rd_T30 l0_2 x3_2).f3), (.slice A122_4 ((rd_T30 l0_2 x3_2).f4).length c122_4)] 30 (0, 0))) ∧ Aside0 (Below w.heap.size w wc))
   case first =>
    have H := HC14.out
    clear HC14
    obtain ⟨t124, A19, H⟩ := bnd H
    obtain rfl | rfl := tf t124
    rotate_left
    · rw [if_neg Bool.false_ne_true] at H
      have H' := Ax H
      clear H
      have hnb41 := NB123_119.out
      have hnc41 := NB119_123.out
      obtain ⟨_, _, _, _, _, _, _, _, _, _⟩ := cells5 BK123.out
      obtain ⟨_, _, _, _, _, _⟩ := cells3 BK119.out
      go_wp2_with (first | (go_at_call 49; (with_reducible refine (spec_l6In.calls ((rd_T30 l0_2 x3_2).f0) 0 (wrap64 (a0_0 - 1)) false _ A19.out).mono ?_); rintro e w' ⟨rfl, ⟨nd, rfl⟩⟩; (try first | exact ⟨rfl, _, World.drewN_drewN _ _ _⟩ | exact ⟨rfl, _, Eq.trans (World.drewN_drewN _ _ _) (congrArg (World.drewN _) (Nat.add_assoc _ _ _))⟩)))
      repeat (go_quiet (first | (go_at_call 49; (with_reducible refine (spec_l6In.calls ((rd_T30 l0_2 x3_2).f0) 0 (wrap64 (a0_0 - 1)) false _ A19.out).mono ?_); rintro e w' ⟨rfl, ⟨nd, rfl⟩⟩; (try first | exact ⟨rfl, _, World.drewN_drewN _ _ _⟩ | exact ⟨rfl, _, Eq.trans (World.drewN_drewN _ _ _) (congrArg (World.drewN _) (Nat.add_assoc _ _ _))⟩))); try go_wp2_with (first | (go_at_call 49; (with_reducible refine (spec_l6In.calls ((rd_T30 l0_2 x3_2).f0) 0 (wrap64 (a0_0 - 1)) false _ A19.out).mono ?_); rintro e w' ⟨rfl, ⟨nd, rfl⟩⟩; (try first | exact ⟨rfl, _, World.drewN_drewN _ _ _⟩ | exact ⟨rfl, _, Eq.trans (World.drewN_drewN _ _ _) (congrArg (World.drewN _) (Nat.add_assoc _ _ _))⟩))))
      go_meet
      exact ⟨_, (true), (z1), H', ⟨z4⟩, ⟨zK⟩, ⟨zK⟩, ⟨zHB⟩⟩
    rw [if_pos rfl] at H
    obtain ⟨t125, A21, H⟩ := bnd H
    obtain rfl | rfl := tf t125
    rotate_left
    · rw [if_neg Bool.false_ne_true] at H
      have H' := Ax H
      clear H
      have hnb38 := NB123_119.out
      have hnc38 := NB119_123.out
      obtain ⟨_, _, _, _, _, _, _, _, _, _⟩ := cells5 BK123.out
      obtain ⟨_, _, _, _, _, _⟩ := cells3 BK119.out
      go_wp2_with (first | (go_at_call 49; (with_reducible refine (spec_l6In.calls ((rd_T30 l0_2 x3_2).f0) 0 (wrap64 (a0_0 - 1)) true _ A19.out).mono ?_); rintro e w' ⟨rfl, ⟨nd, rfl⟩⟩; (try first | exact ⟨rfl, _, World.drewN_drewN _ _ _⟩ | exact ⟨rfl, _, Eq.trans (World.drewN_drewN _ _ _) (congrArg (World.drewN _) (Nat.add_assoc _ _ _))⟩)) | (go_at_call 49; (with_reducible refine (spec_l6In.calls ((rd_T30 l0_2 x3_2).f1) 0 (wrap64 (a0_1 - 1)) false _ A21.out).mono ?_); rintro e w' ⟨rfl, ⟨nd, rfl⟩⟩; (try first | exact ⟨rfl, _, World.drewN_drewN _ _ _⟩ | exact ⟨rfl, _, Eq.trans (World.drewN_drewN _ _ _) (congrArg (World.drewN _) (Nat.add_assoc _ _ _))⟩)))
      repeat (go_quiet (first | (go_at_call 49; (with_reducible refine (spec_l6In.calls ((rd_T30 l0_2 x3_2).f0) 0 (wrap64 (a0_0 - 1)) true _ A19.out).mono ?_); rintro e w' ⟨rfl, ⟨nd, rfl⟩⟩; (try first | exact ⟨rfl, _, World.drewN_drewN _ _ _⟩ | exact ⟨rfl, _, Eq.trans (World.drewN_drewN _ _ _) (congrArg (World.drewN _) (Nat.add_assoc _ _ _))⟩)) | (go_at_call 49; (with_reducible refine (spec_l6In.calls ((rd_T30 l0_2 x3_2).f1) 0 (wrap64 (a0_1 - 1)) false _ A21.out).mono ?_); rintro e w' ⟨rfl, ⟨nd, rfl⟩⟩; (try first | exact ⟨rfl, _, World.drewN_drewN _ _ _⟩ | exact ⟨rfl, _, Eq.trans (World.drewN_drewN _ _ _) (congrArg (World.drewN _) (Nat.add_assoc _ _ _))⟩))); try go_wp2_with (first | (go_at_call 49; (with_reducible refine (spec_l6In.calls ((rd_T30 l0_2 x3_2).f0) 0 (wrap64 (a0_0 - 1)) true _ A19.out).mono ?_); rintro e w' ⟨rfl, ⟨nd, rfl⟩⟩; (try first | exact ⟨rfl, _, World.drewN_drewN _ _ _⟩ | exact ⟨rfl, _, Eq.trans (World.drewN_drewN _ _ _) (congrArg (World.drewN _) (Nat.add_assoc _ _ _))⟩)) | (go_at_call 49; (with_reducible refine (spec_l6In.calls ((rd_T30 l0_2 x3_2).f1) 0 (wrap64 (a0_1 - 1)) false _ A21.out).mono ?_); rintro e w' ⟨rfl, ⟨nd, rfl⟩⟩; (try first | exact ⟨rfl, _, World.drewN_drewN _ _ _⟩ | exact ⟨rfl, _, Eq.trans (World.drewN_drewN _ _ _) (congrArg (World.drewN _) (Nat.add_assoc _ _ _))⟩))))
      go_meet
      exact ⟨_, (true), (z1), H', ⟨z4⟩, ⟨zK⟩, ⟨zK⟩, ⟨zHB⟩⟩
    rw [if_pos rfl] at H
    obtain ⟨t126, A23, H⟩ := bnd H
    obtain rfl | rfl := tf t126
    rotate_left
    · rw [if_neg Bool.false_ne_true] at H
      have H' := Ax H
      clear H
      have hnb35 := NB123_119.out
      have hnc35 := NB119_123.out
      obtain ⟨_, _, _, _, _, _, _, _, _, _⟩ := cells5 BK123.out
      obtain ⟨_, _, _, _, _, _⟩ := cells3 BK119.out
      go_wp2_with (first | (go_at_call 49; (with_reducible refine (spec_l6In.calls ((rd_T30 l0_2 x3_2).f0) 0 (wrap64 (a0_0 - 1)) true _ A19.out).mono ?_); rintro e w' ⟨rfl, ⟨nd, rfl⟩⟩; (try first | exact ⟨rfl, _, World.drewN_drewN _ _ _⟩ | exact ⟨rfl, _, Eq.trans (World.drewN_drewN _ _ _) (congrArg (World.drewN _) (Nat.add_assoc _ _ _))⟩)) | (go_at_call 49; (with_reducible refine (spec_l6In.calls ((rd_T30 l0_2 x3_2).f1) 0 (wrap64 (a0_1 - 1)) true _ A21.out).mono ?_); rintro e w' ⟨rfl, ⟨nd, rfl⟩⟩; (try first | exact ⟨rfl, _, World.drewN_drewN _ _ _⟩ | exact ⟨rfl, _, Eq.trans (World.drewN_drewN _ _ _) (congrArg (World.drewN _) (Nat.add_assoc _ _ _))⟩)) | (go_at_call 49; (with_reducible refine (spec_l6In.calls ((rd_T30 l0_2 x3_2).f2) 1 (wrap64 (a0_0 - ((rd_T30 l0_2 x3_2).f0))) false _ A23.out).mono ?_); rintro e w' ⟨rfl, ⟨nd, rfl⟩⟩; (try first | exact ⟨rfl, _, World.drewN_drewN _ _ _⟩ | exact ⟨rfl, _, Eq.trans (World.drewN_drewN _ _ _) (congrArg (World.drewN _) (Nat.add_assoc _ _ _))⟩)))
      repeat (go_quiet (first | (go_at_call 49; (with_reducible refine (spec_l6In.calls ((rd_T30 l0_2 x3_2).f0) 0 (wrap64 (a0_0 - 1)) true _ A19.out).mono ?_); rintro e w' ⟨rfl, ⟨nd, rfl⟩⟩; (try first | exact ⟨rfl, _, World.drewN_drewN _ _ _⟩ | exact ⟨rfl, _, Eq.trans (World.drewN_drewN _ _ _) (congrArg (World.drewN _) (Nat.add_assoc _ _ _))⟩)) | (go_at_call 49; (with_reducible refine (spec_l6In.calls ((rd_T30 l0_2 x3_2).f1) 0 (wrap64 (a0_1 - 1)) true _ A21.out).mono ?_); rintro e w' ⟨rfl, ⟨nd, rfl⟩⟩; (try first | exact ⟨rfl, _, World.drewN_drewN _ _ _⟩ | exact ⟨rfl, _, Eq.trans (World.drewN_drewN _ _ _) (congrArg (World.drewN _) (Nat.add_assoc _ _ _))⟩)) | (go_at_call 49; (with_reducible refine (spec_l6In.calls ((rd_T30 l0_2 x3_2).f2) 1 (wrap64 (a0_0 - ((rd_T30 l0_2 x3_2).f0))) false _ A23.out).mono ?_); rintro e w' ⟨rfl, ⟨nd, rfl⟩⟩; (try first | exact ⟨rfl, _, World.drewN_drewN _ _ _⟩ | exact ⟨rfl, _, Eq.trans (World.drewN_drewN _ _ _) (congrArg (World.drewN _) (Nat.add_assoc _ _ _))⟩))); try go_wp2_with (first | (go_at_call 49; (with_reducible refine (spec_l6In.calls ((rd_T30 l0_2 x3_2).f0) 0 (wrap64 (a0_0 - 1)) true _ A19.out).mono ?_); rintro e w' ⟨rfl, ⟨nd, rfl⟩⟩; (try first | exact ⟨rfl, _, World.drewN_drewN _ _ _⟩ | exact ⟨rfl, _, Eq.trans (World.drewN_drewN _ _ _) (congrArg (World.drewN _) (Nat.add_assoc _ _ _))⟩)) | (go_at_call 49; (with_reducible refine (spec_l6In.calls ((rd_T30 l0_2 x3_2).f1) 0 (wrap64 (a0_1 - 1)) true _ A21.out).mono ?_); rintro e w' ⟨rfl, ⟨nd, rfl⟩⟩; (try first | exact ⟨rfl, _, World.drewN_drewN _ _ _⟩ | exact ⟨rfl, _, Eq.trans (World.drewN_drewN _ _ _) (congrArg (World.drewN _) (Nat.add_assoc _ _ _))⟩)) | (go_at_call 49; (with_reducible refine (spec_l6In.calls ((rd_T30 l0_2 x3_2).f2) 1 (wrap64 (a0_0 - ((rd_T30 l0_2 x3_2).f0))) false _ A23.out).mono ?_); rintro e w' ⟨rfl, ⟨nd, rfl⟩⟩; (try first | exact ⟨rfl, _, World.drewN_drewN _ _ _⟩ | exact ⟨rfl, _, Eq.trans (World.drewN_drewN _ _ _) (congrArg (World.drewN _) (Nat.add_assoc _ _ _))⟩))))
      go_meet
      exact ⟨_, (true), (z1), H', ⟨z4⟩, ⟨zK⟩, ⟨zK⟩, ⟨zHB⟩⟩
    rw [if_pos rfl] at H
    obtain ⟨t127, A25, H⟩ := bnd H
    obtain rfl | rfl := tf t127
    · rw [if_pos rfl] at H
      obtain ⟨t128, A27, H⟩ := bnd H
      have H' := Ax H
      clear H
      have hnb28 := NB123_119.out
      have hnc28 := NB119_123.out
      obtain ⟨_, _, _, _, _, _, _, _, _, _⟩ := cells5 BK123.out
      obtain ⟨_, _, _, _, _, _⟩ := cells3 BK119.out
      go_wp2_with (first | (go_at_call 49; (with_reducible refine (spec_l6In.calls ((rd_T30 l0_2 x3_2).f0) 0 (wrap64 (a0_0 - 1)) true _ A19.out).mono ?_); rintro e w' ⟨rfl, ⟨nd, rfl⟩⟩; (try first | exact ⟨rfl, _, World.drewN_drewN _ _ _⟩ | exact ⟨rfl, _, Eq.trans (World.drewN_drewN _ _ _) (congrArg (World.drewN _) (Nat.add_assoc _ _ _))⟩)) | (go_at_call 49; (with_reducible refine (spec_l6In.calls ((rd_T30 l0_2 x3_2).f1) 0 (wrap64 (a0_1 - 1)) true _ A21.out).mono ?_); rintro e w' ⟨rfl, ⟨nd, rfl⟩⟩; (try first | exact ⟨rfl, _, World.drewN_drewN _ _ _⟩ | exact ⟨rfl, _, Eq.trans (World.drewN_drewN _ _ _) (congrArg (World.drewN _) (Nat.add_assoc _ _ _))⟩)) | (go_at_call 49; (with_reducible refine (spec_l6In.calls ((rd_T30 l0_2 x3_2).f2) 1 (wrap64 (a0_0 - ((rd_T30 l0_2 x3_2).f0))) true _ A23.out).mono ?_); rintro e w' ⟨rfl, ⟨nd, rfl⟩⟩; (try first | exact ⟨rfl, _, World.drewN_drewN _ _ _⟩ | exact ⟨rfl, _, Eq.trans (World.drewN_drewN _ _ _) (congrArg (World.drewN _) (Nat.add_assoc _ _ _))⟩)) | (go_at_call 49; (with_reducible refine (spec_l6In.calls ((rd_T30 l0_2 x3_2).f3) 1 (wrap64 (a0_1 - ((rd_T30 l0_2 x3_2).f1))) true _ A25.out).mono ?_); rintro e w' ⟨rfl, ⟨nd, rfl⟩⟩; (try first | exact ⟨rfl, _, World.drewN_drewN _ _ _⟩ | exact ⟨rfl, _, Eq.trans (World.drewN_drewN _ _ _) (congrArg (World.drewN _) (Nat.add_assoc _ _ _))⟩)) | (go_at_call 64; (with_reducible refine (spec_TextOk.calls k2 _ _ ((rd_T30 l0_2 x3_2).f4) t128 _ ?side1 ?side2 A27.out).mono ?_); (case side1 => exact Kd.C_below HR122_4.out (zHB)); (case side2 => exact HC122_4.out); rintro e w31 ⟨rfl, hb⟩; replace BK119 := Ax (blk_below (g := gb119) (zK) hb); replace BK123 := Ax (blk_below (g := gb123) (o := .cells #[.int .i64 ((rd_T30 l0_2 x3_2).f0), .int .i64 ((rd_T30 l0_2 x3_2).f1), .int .i64 ((rd_T30 l0_2 x3_2).f2), .int .i64 ((rd_T30 l0_2 x3_2).f3), .slice A122_4 ((rd_T30 l0_2 x3_2).f4).length c122_4] 30 (0, 0)) (zK) hb); replace HB := Ax (below_step (zHB) hb); (try clear hb); (try clear hb2); (try clear hk); (try clear hi)))
      repeat (go_quiet (first | (go_at_call 49; (with_reducible refine (spec_l6In.calls ((rd_T30 l0_2 x3_2).f0) 0 (wrap64 (a0_0 - 1)) true _ A19.out).mono ?_); rintro e w' ⟨rfl, ⟨nd, rfl⟩⟩; (try first | exact ⟨rfl, _, World.drewN_drewN _ _ _⟩ | exact ⟨rfl, _, Eq.trans (World.drewN_drewN _ _ _) (congrArg (World.drewN _) (Nat.add_assoc _ _ _))⟩)) | (go_at_call 49; (with_reducible refine (spec_l6In.calls ((rd_T30 l0_2 x3_2).f1) 0 (wrap64 (a0_1 - 1)) true _ A21.out).mono ?_); rintro e w' ⟨rfl, ⟨nd, rfl⟩⟩; (try first | exact ⟨rfl, _, World.drewN_drewN _ _ _⟩ | exact ⟨rfl, _, Eq.trans (World.drewN_drewN _ _ _) (congrArg (World.drewN _) (Nat.add_assoc _ _ _))⟩)) | (go_at_call 49; (with_reducible refine (spec_l6In.calls ((rd_T30 l0_2 x3_2).f2) 1 (wrap64 (a0_0 - ((rd_T30 l0_2 x3_2).f0))) true _ A23.out).mono ?_); rintro e w' ⟨rfl, ⟨nd, rfl⟩⟩; (try first | exact ⟨rfl, _, World.drewN_drewN _ _ _⟩ | exact ⟨rfl, _, Eq.trans (World.drewN_drewN _ _ _) (congrArg (World.drewN _) (Nat.add_assoc _ _ _))⟩)) | (go_at_call 49; (with_reducible refine (spec_l6In.calls ((rd_T30 l0_2 x3_2).f3) 1 (wrap64 (a0_1 - ((rd_T30 l0_2 x3_2).f1))) true _ A25.out).mono ?_); rintro e w' ⟨rfl, ⟨nd, rfl⟩⟩; (try first | exact ⟨rfl, _, World.drewN_drewN _ _ _⟩ | exact ⟨rfl, _, Eq.trans (World.drewN_drewN _ _ _) (congrArg (World.drewN _) (Nat.add_assoc _ _ _))⟩)) | (go_at_call 64; (with_reducible refine (spec_TextOk.calls k2 _ _ ((rd_T30 l0_2 x3_2).f4) t128 _ ?side1 ?side2 A27.out).mono ?_); (case side1 => exact Kd.C_below HR122_4.out (zHB)); (case side2 => exact HC122_4.out); rintro e w31 ⟨rfl, hb⟩; replace BK119 := Ax (blk_below (g := gb119) (zK) hb); replace BK123 := Ax (blk_below (g := gb123) (o := .cells #[.int .i64 ((rd_T30 l0_2 x3_2).f0), .int .i64 ((rd_T30 l0_2 x3_2).f1), .int .i64 ((rd_T30 l0_2 x3_2).f2), .int .i64 ((rd_T30 l0_2 x3_2).f3), .slice A122_4 ((rd_T30 l0_2 x3_2).f4).length c122_4] 30 (0, 0)) (zK) hb); replace HB := Ax (below_step (zHB) hb); (try clear hb); (try clear hb2); (try clear hk); (try clear hi))); try go_wp2_with (first | (go_at_call 49; (with_reducible refine (spec_l6In.calls ((rd_T30 l0_2 x3_2).f0) 0 (wrap64 (a0_0 - 1)) true _ A19.out).mono ?_); rintro e w' ⟨rfl, ⟨nd, rfl⟩⟩; (try first | exact ⟨rfl, _, World.drewN_drewN _ _ _⟩ | exact ⟨rfl, _, Eq.trans (World.drewN_drewN _ _ _) (congrArg (World.drewN _) (Nat.add_assoc _ _ _))⟩)) | (go_at_call 49; (with_reducible refine (spec_l6In.calls ((rd_T30 l0_2 x3_2).f1) 0 (wrap64 (a0_1 - 1)) true _ A21.out).mono ?_); rintro e w' ⟨rfl, ⟨nd, rfl⟩⟩; (try first | exact ⟨rfl, _, World.drewN_drewN _ _ _⟩ | exact ⟨rfl, _, Eq.trans (World.drewN_drewN _ _ _) (congrArg (World.drewN _) (Nat.add_assoc _ _ _))⟩)) | (go_at_call 49; (with_reducible refine (spec_l6In.calls ((rd_T30 l0_2 x3_2).f2) 1 (wrap64 (a0_0 - ((rd_T30 l0_2 x3_2).f0))) true _ A23.out).mono ?_); rintro e w' ⟨rfl, ⟨nd, rfl⟩⟩; (try first | exact ⟨rfl, _, World.drewN_drewN _ _ _⟩ | exact ⟨rfl, _, Eq.trans (World.drewN_drewN _ _ _) (congrArg (World.drewN _) (Nat.add_assoc _ _ _))⟩)) | (go_at_call 49; (with_reducible refine (spec_l6In.calls ((rd_T30 l0_2 x3_2).f3) 1 (wrap64 (a0_1 - ((rd_T30 l0_2 x3_2).f1))) true _ A25.out).mono ?_); rintro e w' ⟨rfl, ⟨nd, rfl⟩⟩; (try first | exact ⟨rfl, _, World.drewN_drewN _ _ _⟩ | exact ⟨rfl, _, Eq.trans (World.drewN_drewN _ _ _) (congrArg (World.drewN _) (Nat.add_assoc _ _ _))⟩)) | (go_at_call 64; (with_reducible refine (spec_TextOk.calls k2 _ _ ((rd_T30 l0_2 x3_2).f4) t128 _ ?side1 ?side2 A27.out).mono ?_); (case side1 => exact Kd.C_below HR122_4.out (zHB)); (case side2 => exact HC122_4.out); rintro e w31 ⟨rfl, hb⟩; replace BK119 := Ax (blk_below (g := gb119) (zK) hb); replace BK123 := Ax (blk_below (g := gb123) (o := .cells #[.int .i64 ((rd_T30 l0_2 x3_2).f0), .int .i64 ((rd_T30 l0_2 x3_2).f1), .int .i64 ((rd_T30 l0_2 x3_2).f2), .int .i64 ((rd_T30 l0_2 x3_2).f3), .slice A122_4 ((rd_T30 l0_2 x3_2).f4).length c122_4] 30 (0, 0)) (zK) hb); replace HB := Ax (below_step (zHB) hb); (try clear hb); (try clear hb2); (try clear hk); (try clear hi))))
      go_meet
      exact ⟨_, (!t128), (z1), H', ⟨z4⟩, ⟨zK⟩, ⟨zK⟩, ⟨zHB⟩⟩
    rw [if_neg Bool.false_ne_true] at H
    have H' := Ax H
    clear H
    have hnb32 := NB123_119.out
    have hnc32 := NB119_123.out
    obtain ⟨_, _, _, _, _, _, _, _, _, _⟩ := cells5 BK123.out
    obtain ⟨_, _, _, _, _, _⟩ := cells3 BK119.out
    go_wp2_with (first | (go_at_call 49; (with_reducible refine (spec_l6In.calls ((rd_T30 l0_2 x3_2).f0) 0 (wrap64 (a0_0 - 1)) true _ A19.out).mono ?_); rintro e w' ⟨rfl, ⟨nd, rfl⟩⟩; (try first | exact ⟨rfl, _, World.drewN_drewN _ _ _⟩ | exact ⟨rfl, _, Eq.trans (World.drewN_drewN _ _ _) (congrArg (World.drewN _) (Nat.add_assoc _ _ _))⟩)) | (go_at_call 49; (with_reducible refine (spec_l6In.calls ((rd_T30 l0_2 x3_2).f1) 0 (wrap64 (a0_1 - 1)) true _ A21.out).mono ?_); rintro e w' ⟨rfl, ⟨nd, rfl⟩⟩; (try first | exact ⟨rfl, _, World.drewN_drewN _ _ _⟩ | exact ⟨rfl, _, Eq.trans (World.drewN_drewN _ _ _) (congrArg (World.drewN _) (Nat.add_assoc _ _ _))⟩)) | (go_at_call 49; (with_reducible refine (spec_l6In.calls ((rd_T30 l0_2 x3_2).f2) 1 (wrap64 (a0_0 - ((rd_T30 l0_2 x3_2).f0))) true _ A23.out).mono ?_); rintro e w' ⟨rfl, ⟨nd, rfl⟩⟩; (try first | exact ⟨rfl, _, World.drewN_drewN _ _ _⟩ | exact ⟨rfl, _, Eq.trans (World.drewN_drewN _ _ _) (congrArg (World.drewN _) (Nat.add_assoc _ _ _))⟩)) | (go_at_call 49; (with_reducible refine (spec_l6In.calls ((rd_T30 l0_2 x3_2).f3) 1 (wrap64 (a0_1 - ((rd_T30 l0_2 x3_2).f1))) false _ A25.out).mono ?_); rintro e w' ⟨rfl, ⟨nd, rfl⟩⟩; (try first | exact ⟨rfl, _, World.drewN_drewN _ _ _⟩ | exact ⟨rfl, _, Eq.trans (World.drewN_drewN _ _ _) (congrArg (World.drewN _) (Nat.add_assoc _ _ _))⟩)))
    repeat (go_quiet (first | (go_at_call 49; (with_reducible refine (spec_l6In.calls ((rd_T30 l0_2 x3_2).f0) 0 (wrap64 (a0_0 - 1)) true _ A19.out).mono ?_); rintro e w' ⟨rfl, ⟨nd, rfl⟩⟩; (try first | exact ⟨rfl, _, World.drewN_drewN _ _ _⟩ | exact ⟨rfl, _, Eq.trans (World.drewN_drewN _ _ _) (congrArg (World.drewN _) (Nat.add_assoc _ _ _))⟩)) | (go_at_call 49; (with_reducible refine (spec_l6In.calls ((rd_T30 l0_2 x3_2).f1) 0 (wrap64 (a0_1 - 1)) true _ A21.out).mono ?_); rintro e w' ⟨rfl, ⟨nd, rfl⟩⟩; (try first | exact ⟨rfl, _, World.drewN_drewN _ _ _⟩ | exact ⟨rfl, _, Eq.trans (World.drewN_drewN _ _ _) (congrArg (World.drewN _) (Nat.add_assoc _ _ _))⟩)) | (go_at_call 49; (with_reducible refine (spec_l6In.calls ((rd_T30 l0_2 x3_2).f2) 1 (wrap64 (a0_0 - ((rd_T30 l0_2 x3_2).f0))) true _ A23.out).mono ?_); rintro e w' ⟨rfl, ⟨nd, rfl⟩⟩; (try first | exact ⟨rfl, _, World.drewN_drewN _ _ _⟩ | exact ⟨rfl, _, Eq.trans (World.drewN_drewN _ _ _) (congrArg (World.drewN _) (Nat.add_assoc _ _ _))⟩)) | (go_at_call 49; (with_reducible refine (spec_l6In.calls ((rd_T30 l0_2 x3_2).f3) 1 (wrap64 (a0_1 - ((rd_T30 l0_2 x3_2).f1))) false _ A25.out).mono ?_); rintro e w' ⟨rfl, ⟨nd, rfl⟩⟩; (try first | exact ⟨rfl, _, World.drewN_drewN _ _ _⟩ | exact ⟨rfl, _, Eq.trans (World.drewN_drewN _ _ _) (congrArg (World.drewN _) (Nat.add_assoc _ _ _))⟩))); try go_wp2_with (first | (go_at_call 49; (with_reducible refine (spec_l6In.calls ((rd_T30 l0_2 x3_2).f0) 0 (wrap64 (a0_0 - 1)) true _ A19.out).mono ?_); rintro e w' ⟨rfl, ⟨nd, rfl⟩⟩; (try first | exact ⟨rfl, _, World.drewN_drewN _ _ _⟩ | exact ⟨rfl, _, Eq.trans (World.drewN_drewN _ _ _) (congrArg (World.drewN _) (Nat.add_assoc _ _ _))⟩)) | (go_at_call 49; (with_reducible refine (spec_l6In.calls ((rd_T30 l0_2 x3_2).f1) 0 (wrap64 (a0_1 - 1)) true _ A21.out).mono ?_); rintro e w' ⟨rfl, ⟨nd, rfl⟩⟩; (try first | exact ⟨rfl, _, World.drewN_drewN _ _ _⟩ | exact ⟨rfl, _, Eq.trans (World.drewN_drewN _ _ _) (congrArg (World.drewN _) (Nat.add_assoc _ _ _))⟩)) | (go_at_call 49; (with_reducible refine (spec_l6In.calls ((rd_T30 l0_2 x3_2).f2) 1 (wrap64 (a0_0 - ((rd_T30 l0_2 x3_2).f0))) true _ A23.out).mono ?_); rintro e w' ⟨rfl, ⟨nd, rfl⟩⟩; (try first | exact ⟨rfl, _, World.drewN_drewN _ _ _⟩ | exact ⟨rfl, _, Eq.trans (World.drewN_drewN _ _ _) (congrArg (World.drewN _) (Nat.add_assoc _ _ _))⟩)) | (go_at_call 49; (with_reducible refine (spec_l6In.calls ((rd_T30 l0_2 x3_2).f3) 1 (wrap64 (a0_1 - ((rd_T30 l0_2 x3_2).f1))) false _ A25.out).mono ?_); rintro e w' ⟨rfl, ⟨nd, rfl⟩⟩; (try first | exact ⟨rfl, _, World.drewN_drewN _ _ _⟩ | exact ⟨rfl, _, Eq.trans (World.drewN_drewN _ _ _) (congrArg (World.drewN _) (Nat.add_assoc _ _ _))⟩))))
    go_meet
    exact ⟨_, (true), (z1), H', ⟨z4⟩, ⟨zK⟩, ⟨zK⟩, ⟨zHB⟩⟩
   clear HC14
   (try clear c12); (try clear c12b0); (try clear c13); (try clear c13b0); (try clear hcz15_0); (try clear hcz15_1); (try clear hcz15_2); (try clear hcz18_0); (try clear hcz18_1); (try clear hcz18_2); (try clear hcz18_3); (try clear hcz18_4); (try clear hfz15_0); (try clear hfz15_1); (try clear hfz15_2); (try clear hfz18_0); (try clear hfz18_1); (try clear hfz18_2); (try clear hfz18_3); (try clear hfz18_4); (try clear hx122_0); (try clear hx122_1); (try clear hx122_2); (try clear hx122_3); (try clear hx122_4); (try clear p122); (try clear q122)
   obtain ⟨kq, x76_13, rfl, HA, HJ13, BK119, BK123, HB⟩ := hcut
   cases kq with
   | zero => exact absurd HA.out (by simp [spec_l2Form.j2])
   | succ kj13 =>
    have H := HA.out
    clear HA
    simp only [spec_l2Form.j2] at H
    obtain rfl | rfl := tf x76_13
    · rw [if_pos rfl] at H
      obtain rfl := Option.some.inj H
      go_wp2
      repeat (go_quiet (fail); try go_wp2)
      go_ret
      exact ⟨z3, zHB⟩
    rw [if_neg Bool.false_ne_true] at H
    have HC45 := Ax H
    clear H
    go_upto_region 9 with (fail)
    repeat (go_quiet (fail); go_upto_region 9 with (fail))
    go_cut [114] (fun v114 wc => ∃ (kq : Nat) (x114_44 : Bool), v114 = .bool x114_44 ∧ Aside0 (spec_l2Form.j3 kq x3_2 x114_44 a0_0 a0_1 l0_2 = some r) ∧ Aside0 (kq ≤ kj13) ∧ Aside0 (wc.heap[gb119]? = some (.cells #[.int .i64 a0_0, .int .i64 a0_1, (.slice (some ad122) l0_2.length c0_2)] 25 (0, 0))) ∧ Aside0 (wc.heap[gb123]? = some (.cells #[.int .i64 ((rd_T30 l0_2 x3_2).f0), .int .i64 ((rd_T30 l0_2 x3_2).f1), .int .i64 ((rd_T30 l0_2 x3_2).f2), .int .i64 ((rd_T30 l0_2 x3_2).f3), (.slice A122_4 ((rd_T30 l0_2 x3_2).f4).length c122_4)] 30 (0, 0))) ∧ Aside0 (Below w.heap.size w wc))
    case first =>
     have H := HC45.out
     clear HC45
     by_cases c46 : x3_2 > 0
     rotate_left
     · rw [if_neg c46] at H
       have c46b0 : decide (0 < x3_2) = false := decide_eq_false c46
       clear c46
       (first | rw [c46b0] | (simp only [i64_w, i32_w]; rw [c46b0]) | skip)
       have H' := Ax H
       clear H
       go_wp2
       repeat (go_quiet (fail); try go_wp2)
       go_meet
       exact ⟨_, (false), (z1), H', ⟨z5⟩, ⟨zK⟩, ⟨zK⟩, ⟨zHB⟩⟩
     rw [if_pos c46] at H
     have c46b0 := decide_eq_true c46
     clear c46
     (first | rw [c46b0] | (simp only [i64_w, i32_w]; rw [c46b0]) | skip)
     obtain ⟨ji47, hji47⟩ : ∃ j_ : Int, (wrap64 (x3_2 - 1)) = j_ := ⟨_, rfl⟩
     replace H : (if 0 ≤ (ji47) then (if (ji47) < (l0_2.length : Int) then (if ((rd_T30 l0_2 (ji47)).f0) > ((rd_T30 l0_2 x3_2).f0) then (spec_l2Form.j3 kj13 x3_2 true a0_0 a0_1 l0_2) else (if ((rd_T30 l0_2 (ji47)).f0) = ((rd_T30 l0_2 x3_2).f0) then (spec_l2Form.j3 kj13 x3_2 (decide (((rd_T30 l0_2 (ji47)).f1) ≥ ((rd_T30 l0_2 x3_2).f1))) a0_0 a0_1 l0_2) else (spec_l2Form.j3 kj13 x3_2 false a0_0 a0_1 l0_2))) else (none)) else (none)) = some r := by first | (rw [hji47] at H; exact H) | (simp only [hji47] at H ⊢; exact H)
     have hji47w : (IntKind.i64.wrap (x3_2 - 1)) = ji47 := (i64_w _).trans hji47
     by_cases c48 : 0 ≤ (ji47)
     rotate_left
     · rw [if_neg c48] at H
       exact absurd H (by simp)
     rw [if_pos c48] at H
     have c48b0 := decide_eq_true c48
     clear c48
     by_cases c49 : (ji47) < (l0_2.length : Int)
     rotate_left
     · rw [if_neg c49] at H
       exact absurd H (by simp)
     rw [if_pos c49] at H
     have c49b0 := decide_eq_true c49
     clear c49
     by_cases c50 : ((rd_T30 l0_2 (ji47)).f0) > ((rd_T30 l0_2 x3_2).f0)
     · rw [if_pos c50] at H
       have c50b0 := decide_eq_true c50
       clear c50
       have H' := Ax H
       clear H
       have hnb51 := NB119_123.out
       have hnc51 := NB123_119.out
       obtain ⟨_, _, _, _, _, _⟩ := cells3 BK119.out
       have p129 : 0 ≤ ((ji47) : Int) := of_decide_eq_true (z0)
       have q129 : (ji47) < (l0_2.length : Int) := of_decide_eq_true (z0)
       obtain ⟨ad129, A129_4, c129_4, e129, hx129_0, hx129_1, hx129_2, hx129_3, hx129_4, hl129_4, hi129_4⟩ := at_T30 HR0_2.out (ji47) p129 q129
       obtain rfl : ad122 = ad129 := (by injection e129)
       replace hx129_0 := (HB.out.cell (World.block_lt_of_cell? w _ hx129_0)).trans hx129_0
       replace hx129_1 := (HB.out.cell (World.block_lt_of_cell? w _ hx129_1)).trans hx129_1
       replace hx129_2 := (HB.out.cell (World.block_lt_of_cell? w _ hx129_2)).trans hx129_2
       replace hx129_3 := (HB.out.cell (World.block_lt_of_cell? w _ hx129_3)).trans hx129_3
       replace hx129_4 := (HB.out.cell (World.block_lt_of_cell? w _ hx129_4)).trans hx129_4
       have HR129_4 := Ax hi129_4
       have HC129_4 := Ax hl129_4
       clear hi129_4 hl129_4
       replace p129 := eq_true p129
       replace q129 := eq_true q129
       obtain ⟨_, _, _, _, _, _, _, _, _, _⟩ := cells5 BK123.out
       go_wp2
       repeat (go_quiet (fail); try go_wp2)
       go_meet
       exact ⟨_, (true), (z1), H', ⟨z5⟩, ⟨zK⟩, ⟨zK⟩, ⟨zHB⟩⟩
     rw [if_neg c50] at H
     have c50b0 : decide (((rd_T30 l0_2 x3_2).f0) < ((rd_T30 l0_2 (ji47)).f0)) = false := decide_eq_false c50
     clear c50
     by_cases c54 : ((rd_T30 l0_2 (ji47)).f0) = ((rd_T30 l0_2 x3_2).f0)
     rotate_left
     · rw [if_neg c54] at H
       have c54b0 : (((rd_T30 l0_2 (ji47)).f0) == ((rd_T30 l0_2 x3_2).f0)) = false := beq_eq_false_iff_ne.mpr c54
       have c54b1 : (((rd_T30 l0_2 (ji47)).f0) != ((rd_T30 l0_2 x3_2).f0)) = true := bne_iff_ne.mpr c54
       have H' := Ax H
       clear H
       have hnb58 := NB119_123.out
       have hnc58 := NB123_119.out
       obtain ⟨_, _, _, _, _, _⟩ := cells3 BK119.out
       have p129 : 0 ≤ ((ji47) : Int) := of_decide_eq_true (z0)
       have q129 : (ji47) < (l0_2.length : Int) := of_decide_eq_true (z0)
       obtain ⟨ad129, A129_4, c129_4, e129, hx129_0, hx129_1, hx129_2, hx129_3, hx129_4, hl129_4, hi129_4⟩ := at_T30 HR0_2.out (ji47) p129 q129
       obtain rfl : ad122 = ad129 := (by injection e129)
       replace hx129_0 := (HB.out.cell (World.block_lt_of_cell? w _ hx129_0)).trans hx129_0
       replace hx129_1 := (HB.out.cell (World.block_lt_of_cell? w _ hx129_1)).trans hx129_1
       replace hx129_2 := (HB.out.cell (World.block_lt_of_cell? w _ hx129_2)).trans hx129_2
       replace hx129_3 := (HB.out.cell (World.block_lt_of_cell? w _ hx129_3)).trans hx129_3
       replace hx129_4 := (HB.out.cell (World.block_lt_of_cell? w _ hx129_4)).trans hx129_4
       have HR129_4 := Ax hi129_4
       have HC129_4 := Ax hl129_4
       clear hi129_4 hl129_4
       replace p129 := eq_true p129
       replace q129 := eq_true q129
       obtain ⟨_, _, _, _, _, _, _, _, _, _⟩ := cells5 BK123.out
       have p130 : 0 ≤ ((ji47) : Int) := of_decide_eq_true (z0)
       have q130 : (ji47) < (l0_2.length : Int) := of_decide_eq_true (z0)
       obtain ⟨ad130, A130_4, c130_4, e130, hx130_0, hx130_1, hx130_2, hx130_3, hx130_4, hl130_4, hi130_4⟩ := at_T30 HR0_2.out (ji47) p130 q130
       obtain rfl : ad122 = ad130 := (by injection e130)
       replace hx130_0 := (HB.out.cell (World.block_lt_of_cell? w _ hx130_0)).trans hx130_0
       replace hx130_1 := (HB.out.cell (World.block_lt_of_cell? w _ hx130_1)).trans hx130_1
       replace hx130_2 := (HB.out.cell (World.block_lt_of_cell? w _ hx130_2)).trans hx130_2
       replace hx130_3 := (HB.out.cell (World.block_lt_of_cell? w _ hx130_3)).trans hx130_3
       replace hx130_4 := (HB.out.cell (World.block_lt_of_cell? w _ hx130_4)).trans hx130_4
       have HR130_4 := Ax hi130_4
       have HC130_4 := Ax hl130_4
       clear hi130_4 hl130_4
       replace p130 := eq_true p130
       replace q130 := eq_true q130
       have ea_ := Option.some.inj (hx129_4.symm.trans hx130_4)
       injection ea_ with ea_ en_ ec_
       subst ea_
       subst ec_
       clear en_
       go_wp2
       repeat (go_quiet (fail); try go_wp2)
       go_meet
       exact ⟨_, (false), (z1), H', ⟨z5⟩, ⟨zK⟩, ⟨zK⟩, ⟨zHB⟩⟩
     rw [if_pos c54] at H
     have c54b0 : (((rd_T30 l0_2 (ji47)).f0) == ((rd_T30 l0_2 x3_2).f0)) = true := beq_iff_eq.mpr c54
     have c54b1 : (((rd_T30 l0_2 (ji47)).f0) != ((rd_T30 l0_2 x3_2).f0)) = false := bne_eq_false_iff_eq.mpr c54
     clear c54
     have H' := Ax H
     clear H
     have hnb55 := NB119_123.out
     have hnc55 := NB123_119.out
     obtain ⟨_, _, _, _, _, _⟩ := cells3 BK119.out
     have p129 : 0 ≤ ((ji47) : Int) := of_decide_eq_true (z0)
     have q129 : (ji47) < (l0_2.length : Int) := of_decide_eq_true (z0)
     obtain ⟨ad129, A129_4, c129_4, e129, hx129_0, hx129_1, hx129_2, hx129_3, hx129_4, hl129_4, hi129_4⟩ := at_T30 HR0_2.out (ji47) p129 q129
     obtain rfl : ad122 = ad129 := (by injection e129)
     replace hx129_0 := (HB.out.cell (World.block_lt_of_cell? w _ hx129_0)).trans hx129_0
     replace hx129_1 := (HB.out.cell (World.block_lt_of_cell? w _ hx129_1)).trans hx129_1
     replace hx129_2 := (HB.out.cell (World.block_lt_of_cell? w _ hx129_2)).trans hx129_2
     replace hx129_3 := (HB.out.cell (World.block_lt_of_cell? w _ hx129_3)).trans hx129_3
     replace hx129_4 := (HB.out.cell (World.block_lt_of_cell? w _ hx129_4)).trans hx129_4
     have HR129_4 := Ax hi129_4
     have HC129_4 := Ax hl129_4
     clear hi129_4 hl129_4
     replace p129 := eq_true p129
     replace q129 := eq_true q129
     obtain ⟨_, _, _, _, _, _, _, _, _, _⟩ := cells5 BK123.out
     have p130 : 0 ≤ ((ji47) : Int) := of_decide_eq_true (z0)
     have q130 : (ji47) < (l0_2.length : Int) := of_decide_eq_true (z0)
     obtain ⟨ad130, A130_4, c130_4, e130, hx130_0, hx130_1, hx130_2, hx130_3, hx130_4, hl130_4, hi130_4⟩ := at_T30 HR0_2.out (ji47) p130 q130
     obtain rfl : ad122 = ad130 := (by injection e130)
     replace hx130_0 := (HB.out.cell (World.block_lt_of_cell? w _ hx130_0)).trans hx130_0
     replace hx130_1 := (HB.out.cell (World.block_lt_of_cell? w _ hx130_1)).trans hx130_1
     replace hx130_2 := (HB.out.cell (World.block_lt_of_cell? w _ hx130_2)).trans hx130_2
     replace hx130_3 := (HB.out.cell (World.block_lt_of_cell? w _ hx130_3)).trans hx130_3
     replace hx130_4 := (HB.out.cell (World.block_lt_of_cell? w _ hx130_4)).trans hx130_4
     have HR130_4 := Ax hi130_4
     have HC130_4 := Ax hl130_4
     clear hi130_4 hl130_4
     replace p130 := eq_true p130
     replace q130 := eq_true q130
     have ea_ := Option.some.inj (hx129_4.symm.trans hx130_4)
     injection ea_ with ea_ en_ ec_
     subst ea_
     subst ec_
     clear en_
     have p131 : 0 ≤ ((ji47) : Int) := of_decide_eq_true (z0)
     have q131 : (ji47) < (l0_2.length : Int) := of_decide_eq_true (z0)
     obtain ⟨ad131, A131_4, c131_4, e131, hx131_0, hx131_1, hx131_2, hx131_3, hx131_4, hl131_4, hi131_4⟩ := at_T30 HR0_2.out (ji47) p131 q131
     obtain rfl : ad122 = ad131 := (by injection e131)
     replace hx131_0 := (HB.out.cell (World.block_lt_of_cell? w _ hx131_0)).trans hx131_0
     replace hx131_1 := (HB.out.cell (World.block_lt_of_cell? w _ hx131_1)).trans hx131_1
     replace hx131_2 := (HB.out.cell (World.block_lt_of_cell? w _ hx131_2)).trans hx131_2
     replace hx131_3 := (HB.out.cell (World.block_lt_of_cell? w _ hx131_3)).trans hx131_3
     replace hx131_4 := (HB.out.cell (World.block_lt_of_cell? w _ hx131_4)).trans hx131_4
     have HR131_4 := Ax hi131_4
     have HC131_4 := Ax hl131_4
     clear hi131_4 hl131_4
     replace p131 := eq_true p131
     replace q131 := eq_true q131
     have ea_ := Option.some.inj (hx129_4.symm.trans hx131_4)
     injection ea_ with ea_ en_ ec_
     subst ea_
     subst ec_
     clear en_
     go_wp2
     repeat (go_quiet (fail); try go_wp2)
     go_meet
     exact ⟨_, (decide (((rd_T30 l0_2 (ji47)).f1) ≥ ((rd_T30 l0_2 x3_2).f1))), (by first | rfl | (simp; done) | (simp only [← hji47] <;> (first | rfl | simp)) | (simp [*]; done)), H', ⟨z5⟩, ⟨zK⟩, ⟨zK⟩, ⟨zHB⟩⟩
    clear HC45
    (try clear c12); (try clear c12b0); (try clear c13); (try clear c13b0); (try clear hcz15_0); (try clear hcz15_1); (try clear hcz15_2); (try clear hcz18_0); (try clear hcz18_1); (try clear hcz18_2); (try clear hcz18_3); (try clear hcz18_4); (try clear hfz15_0); (try clear hfz15_1); (try clear hfz15_2); (try clear hfz18_0); (try clear hfz18_1); (try clear hfz18_2); (try clear hfz18_3); (try clear hfz18_4); (try clear hx122_0); (try clear hx122_1); (try clear hx122_2); (try clear hx122_3); (try clear hx122_4); (try clear p122); (try clear q122)
    obtain ⟨kq, x114_44, rfl, HA, HJ44, BK119, BK123, HB⟩ := hcut
    cases kq with
    | zero => exact absurd HA.out (by simp [spec_l2Form.j3])
    | succ kj44 =>
     have H := HA.out
     clear HA
     simp only [spec_l2Form.j3] at H
     obtain rfl | rfl := tf x114_44
     · rw [if_pos rfl] at H
       obtain rfl := Option.some.inj H
       go_wp2
       repeat (go_quiet (fail); try go_wp2)
       go_ret
       exact ⟨z3, zHB⟩
     rw [if_neg Bool.false_ne_true] at H
     have H' := Ax H
     clear H
     go_wp2
     repeat (go_quiet (fail); try go_wp2)
     go_roundg kj44
     case measure => have := HJ1.out; have := HK2.out; have := HJ13.out; have := HJ44.out; omega
     exact ⟨(wrap64 (x3_2 + 1)), (z1), H', ⟨by have := HJ1.out; have := HK2.out; have := HJ13.out; have := HJ44.out; omega⟩, ⟨zK⟩, ⟨zHB⟩⟩
end Go.Proofs.Ytljgbeccmcidkaa.P
namespace Go.Proofs.Ytljgbeccmcidkaa.P
open Go.RowKit Go.Proofs.YtljgbeccmcidkaaW.PrintWords Go.Proofs.YtljgbeccmcidkaaW.PrintLast Go.Proofs.YtljgbeccmcidkaaW.PrintMore
attribute [local go_sem] max2_int min2_int max_two min_two max_three min_three max_four min_four   -- for this text's walks alone
set_option linter.unusedVariables false
set_option linter.unusedSimpArgs false

attribute [local go_sem ↓] isSome_setCell
/-! ### spec_TableOk: function 16 -/
mutual
def spec_TableOk.l0 : Nat → Int → Int → Int → List (S30) → Option (Bool)
  | 0, _, _, _, _ => none
  | k + 1, x3, x134000, x134001, x134002 => if x3 < x134000 then (spec_TableOk.l1 k x3 0 x134000 x134001 x134002) else (some true)
def spec_TableOk.l1 : Nat → Int → Int → Int → Int → List (S30) → Option (Bool)
  | 0, _, _, _, _, _ => none
  | k + 1, x3, x4, x134000, x134001, x134002 => if x4 < x134001 then (spec_TableOk.l2 k x3 x4 0 0 x134000 x134001 x134002) else (spec_TableOk.l0 k (wrap64 (x3 + 1)) x134000 x134001 x134002)
def spec_TableOk.l2 : Nat → Int → Int → Int → Int → Int → Int → List (S30) → Option (Bool)
  | 0, _, _, _, _, _, _, _ => none
  | k + 1, x3, x4, x5, x6, x134000, x134001, x134002 => if x6 < (x134002.length : Int) then (if 0 ≤ x6 then ((spec_l2In.f ((rd_T30 x134002 x6).f0) ((rd_T30 x134002 x6).f1) ((rd_T30 x134002 x6).f2) ((rd_T30 x134002 x6).f3) ((rd_T30 x134002 x6).f4) x3 x4).bind fun t136 => (if t136 = true then (spec_TableOk.l2 k x3 x4 (wrap64 (x5 + 1)) (wrap64 (x6 + 1)) x134000 x134001 x134002) else (spec_TableOk.l2 k x3 x4 x5 (wrap64 (x6 + 1)) x134000 x134001 x134002))) else (none)) else (if x5 = 1 then (spec_TableOk.l1 k x3 (wrap64 (x4 + 1)) x134000 x134001 x134002) else (some false))
end
def spec_TableOk.f (k : Nat) (a0_0 : Int) (a0_1 : Int) (l0_2 : List (S30)) : Option (Bool) := (spec_l2Form.f k a0_0 a0_1 l0_2).bind fun t134 => (if t134 = true then (spec_TableOk.l0 k 0 a0_0 a0_1 l0_2) else (some false))
theorem spec_TableOk.mono_l : ∀ k, (∀ y0 y1 y2 y3, LeO (spec_TableOk.l0 k y0 y1 y2 y3) (spec_TableOk.l0 (k + 1) y0 y1 y2 y3)) ∧ (∀ y0 y1 y2 y3 y4, LeO (spec_TableOk.l1 k y0 y1 y2 y3 y4) (spec_TableOk.l1 (k + 1) y0 y1 y2 y3 y4)) ∧ (∀ y0 y1 y2 y3 y4 y5 y6, LeO (spec_TableOk.l2 k y0 y1 y2 y3 y4 y5 y6) (spec_TableOk.l2 (k + 1) y0 y1 y2 y3 y4 y5 y6))
  | 0 => by refine ⟨?_, ?_, ?_⟩ <;> intros <;> intro r h <;> simp [spec_TableOk.l0, spec_TableOk.l1, spec_TableOk.l2] at h
  | k + 1 => by
    obtain ⟨ih0, ih1, ih2⟩ := spec_TableOk.mono_l k
    refine ⟨?_, ?_, ?_⟩ <;> intros <;> (first | unfold spec_TableOk.l0 | unfold spec_TableOk.l1 | unfold spec_TableOk.l2) <;> with_reducible repeat' first | exact ih0 _ _ _ _ | exact ih1 _ _ _ _ _ | exact ih2 _ _ _ _ _ _ _ | exact spec_l2Form.mono _ _ _ _ | exact LeO.refl _ | exact LeO.none _ | refine LeO.ite ?_ ?_ | refine LeO.bind ?_ (fun _ => ?_)
theorem spec_TableOk.mono : ∀ a0 a1 a2 k, LeO (spec_TableOk.f k a0 a1 a2) (spec_TableOk.f (k + 1) a0 a1 a2) := by
  intro a0 a1 a2 k
  obtain ⟨ih0, ih1, ih2⟩ := spec_TableOk.mono_l k
  unfold spec_TableOk.f
  with_reducible repeat' first | exact ih0 _ _ _ _ | exact ih1 _ _ _ _ _ | exact ih2 _ _ _ _ _ _ _ | exact spec_l2Form.mono _ _ _ _ | exact LeO.refl _ | exact LeO.none _ | refine LeO.ite ?_ ?_ | refine LeO.bind ?_ (fun _ => ?_)
theorem spec_TableOk.zHB {p : Prop} (h : p := by repeat (first | (with_reducible first | exact HB.out | apply below_alloc | apply pw_below_drewN | apply below_drew1 | refine below_set ?_ GE133.out) | exact HB.out)) : p := h
theorem spec_TableOk.zK {p : Prop} (h : p := by repeat' first | (with_reducible first | exact BK133.out | apply blk_drewN | apply blk_drew | apply blk_alloc | apply blk_putE) | exact (rfl : List.set _ _ _ = _)) : p := h
theorem spec_TableOk.z0 {p : Prop} (h : p := by (try simp only [List.map_toArray, List.map_cons, List.map_nil]); first | done | rfl | (simp only [List.length_drop, List.length_take]; rfl)) : p := h
theorem spec_TableOk.z1 {p : Prop} (h : p := by first | rfl | (simp; done) | (simp [*]; done)) : p := h
theorem spec_TableOk.z2 {p : Prop} (h : p := by first | rfl | (simp [errW_none, errW_some] <;> rfl) | (simp [*, errW_none, errW_some] <;> rfl)) : p := h
theorem spec_TableOk.z3 {p : Prop} (h : p := by first | (with_reducible assumption) | assumption) : p := h
theorem spec_TableOk.z4 {p : Prop} (h : p := by have := HK1.out; have := HK2.out; have := HK3.out; omega) : p := h
theorem spec_TableOk.z5 {p : Prop} (h : p := by rw [hg]; exact (below_size (zHB))) : p := h
set_option maxHeartbeats 8000000 in
set_option maxRecDepth 100000 in
theorem spec_TableOk.calls (k : Nat) (a0_0 : Int) (a0_1 : Int) (A0_2 : Option Addr) (c0_2 : Nat) (l0_2 : List (S30)) (r : Bool) (w : World) (hr0_2 : Kd.C k30 w A0_2 l0_2.length l0_2) (hc0_2 : l0_2.length ≤ c0_2) (h : spec_TableOk.f k a0_0 a0_1 l0_2 = some r) :
    Calls Try.prog 16 #[.agg #[.int .i64 a0_0, .int .i64 a0_1, .slice A0_2 l0_2.length c0_2]] w fun e w' => e = .returned (.bool r) ∧ Below w.heap.size w w' := by
 have hu25 := Try.underlying25
 have hu30 := Try.underlying30
 have HR0_2 := Ax hr0_2
 have HC0_2 := Ax hc0_2
 clear hr0_2 hc0_2
 have HB := Ax (Below.refl w.heap.size w)
 have H : ((spec_l2Form.f k a0_0 a0_1 l0_2).bind fun t134 => (if t134 = true then (spec_TableOk.l0 k 0 a0_0 a0_1 l0_2) else (some false))) = some r := h
 clear h
 obtain ⟨t134, A2, H⟩ := bnd H
 obtain rfl | rfl := tf t134
 rotate_left
 · rw [if_neg Bool.false_ne_true] at H
   obtain rfl := Option.some.inj H
   go_enter Try.func16, Try.ntmps16
   go_wp2_with (first | ((with_reducible refine gate_dst (N := 1) rfl ?_); refine box_event ?hg (N := 1) ?hd (cs := #[.int .i64 a0_0, .int .i64 a0_1, .slice A0_2 l0_2.length c0_2]) (t := 25) ?hr ?_; (case hd => rfl); (case hg => rfl); (case hr => first | (go_simp; done) | (go_simp; rfl)); intro gb133 hg w24 hbox hb; have BK133 := Ax (hbox); have GW133 := Ax ((z5 : w.heap.size ≤ gb133)); have GE133 := Ax ((z5 : w.heap.size ≤ gb133)); replace HB := Ax (below_step (zHB) hb); clear hb hbox hg; obtain ⟨_, _, _, _, _, _⟩ := cells3 BK133.out) | ((with_reducible refine gate_callee (f := 45) rfl ?_); refine goesL_ (some 8) rfl rfl Try.func45 (by kernel_rfl) rfl #[.agg #[.int .i64 a0_0, .int .i64 a0_1, .slice A0_2 l0_2.length c0_2]] rfl (z0) ?_; (with_reducible refine (spec_l2Form.calls k a0_0 a0_1 _ _ l0_2 false _ ?side1 ?side2 A2.out).mono ?_); (case side1 => repeat (first | exact (Kd.C_below HR0_2.out HB.out) | (with_reducible refine Kd.C_alloc ?_ _) | (with_reducible refine Kd.C_drewN ?_ _) | (with_reducible refine Kd.C_drew ?_))); (case side2 => exact HC0_2.out); rintro e w26 ⟨rfl, hb⟩; refine ⟨_, rfl, ?_⟩; replace BK133 := Ax (blk_below (g := gb133) (zK) hb); replace HB := Ax (below_step (zHB) hb); (try clear hb); (try clear hb2); (try clear hk); (try clear hi)))
   go_ret
   exact ⟨z2, zHB⟩
 rw [if_pos rfl] at H
 have H' := Ax H
 clear H
 go_enter Try.func16, Try.ntmps16
 go_wp2_with (first | ((with_reducible refine gate_dst (N := 1) rfl ?_); refine box_event ?hg (N := 1) ?hd (cs := #[.int .i64 a0_0, .int .i64 a0_1, .slice A0_2 l0_2.length c0_2]) (t := 25) ?hr ?_; (case hd => rfl); (case hg => rfl); (case hr => first | (go_simp; done) | (go_simp; rfl)); intro gb133 hg w4 hbox hb; have BK133 := Ax (hbox); have GW133 := Ax ((z5 : w.heap.size ≤ gb133)); have GE133 := Ax ((z5 : w.heap.size ≤ gb133)); replace HB := Ax (below_step (zHB) hb); clear hb hbox hg; obtain ⟨hcz5_0, hcz5_1, hcz5_2, hfz5_0, hfz5_1, hfz5_2⟩ := cells3 BK133.out) | ((with_reducible refine gate_callee (f := 45) rfl ?_); refine goesL_ (some 8) rfl rfl Try.func45 (by kernel_rfl) rfl #[.agg #[.int .i64 a0_0, .int .i64 a0_1, .slice A0_2 l0_2.length c0_2]] rfl (z0) ?_; (with_reducible refine (spec_l2Form.calls k a0_0 a0_1 _ _ l0_2 true _ ?side1 ?side2 A2.out).mono ?_); (case side1 => repeat (first | exact (Kd.C_below HR0_2.out HB.out) | (with_reducible refine Kd.C_alloc ?_ _) | (with_reducible refine Kd.C_drewN ?_ _) | (with_reducible refine Kd.C_drew ?_))); (case side2 => exact HC0_2.out); rintro e w6 ⟨rfl, hb⟩; refine ⟨_, rfl, ?_⟩; replace BK133 := Ax (blk_below (g := gb133) (zK) hb); replace HB := Ax (below_step (zHB) hb); (try clear hb); (try clear hb2); (try clear hk); (try clear hi)))
 go_loopg [3] k (fun kq v3 w' => ∃ (x3_1 : Int), v3 = .int .i64 x3_1 ∧ Aside0 (spec_TableOk.l0 kq x3_1 a0_0 a0_1 l0_2 = some r) ∧ Aside0 (kq ≤ k) ∧ Aside0 (w'.heap[gb133]? = some (.cells #[.int .i64 a0_0, .int .i64 a0_1, (.slice A0_2 l0_2.length c0_2)] 25 (0, 0))) ∧ Aside0 (Below w.heap.size w w'))
 case atStart => exact ⟨(0), (z1), H', ⟨Nat.le_refl _⟩, ⟨zK⟩, ⟨zHB⟩⟩
 clear H'
 (try clear hcz5_0); (try clear hcz5_1); (try clear hcz5_2); (try clear hfz5_0); (try clear hfz5_1); (try clear hfz5_2)
 obtain ⟨x3_1, rfl, HA, HK1, BK133, HB⟩ := hrel
 cases gk with
 | zero => exact absurd HA.out (by simp [spec_TableOk.l0])
 | succ k1 =>
  have H := HA.out
  clear HA
  simp only [spec_TableOk.l0] at H
  by_cases c7 : x3_1 < a0_0
  rotate_left
  · rw [if_neg c7] at H
    have c7b0 := decide_eq_false c7
    clear c7
    obtain rfl := Option.some.inj H
    obtain ⟨_, _, _, _, _, _⟩ := cells3 BK133.out
    go_wp2
    go_ret
    exact ⟨z2, zHB⟩
  rw [if_pos c7] at H
  have c7b0 := decide_eq_true c7
  clear c7
  have H' := Ax H
  clear H
  obtain ⟨hcz8_0, hcz8_1, hcz8_2, hfz8_0, hfz8_1, hfz8_2⟩ := cells3 BK133.out
  go_wp2
  go_loopg [4] k1 (fun kq v4 w' => ∃ (x4_2 : Int), v4 = .int .i64 x4_2 ∧ Aside0 (spec_TableOk.l1 kq x3_1 x4_2 a0_0 a0_1 l0_2 = some r) ∧ Aside0 (kq ≤ k1) ∧ Aside0 (w'.heap[gb133]? = some (.cells #[.int .i64 a0_0, .int .i64 a0_1, (.slice A0_2 l0_2.length c0_2)] 25 (0, 0))) ∧ Aside0 (Below w.heap.size w w'))
  case atStart => exact ⟨(0), (z1), H', ⟨Nat.le_refl _⟩, ⟨zK⟩, ⟨zHB⟩⟩
  clear H'
  (try clear c7); (try clear c7b0); (try clear hcz5_0); (try clear hcz5_1); (try clear hcz5_2); (try clear hcz8_0); (try clear hcz8_1); (try clear hcz8_2); (try clear hfz5_0); (try clear hfz5_1); (try clear hfz5_2); (try clear hfz8_0); (try clear hfz8_1); (try clear hfz8_2)
  obtain ⟨x4_2, rfl, HA, HK2, BK133, HB⟩ := hrel
  cases gk with
  | zero => exact absurd HA.out (by simp [spec_TableOk.l1])
  | succ k2 =>
   have H := HA.out
   clear HA
   simp only [spec_TableOk.l1] at H
   by_cases c9 : x4_2 < a0_1
   rotate_left
   · rw [if_neg c9] at H
     have c9b0 := decide_eq_false c9
     clear c9
     have H' := Ax H
     clear H
     obtain ⟨_, _, _, _, _, _⟩ := cells3 BK133.out
     go_wp2
     go_roundg k2
     case measure => have := HK1.out; have := HK2.out; omega
     exact ⟨(wrap64 (x3_1 + 1)), (z1), H', ⟨by have := HK1.out; have := HK2.out; omega⟩, ⟨zK⟩, ⟨zHB⟩⟩
   rw [if_pos c9] at H
   have c9b0 := decide_eq_true c9
   clear c9
   have H' := Ax H
   clear H
   obtain ⟨hcz10_0, hcz10_1, hcz10_2, hfz10_0, hfz10_1, hfz10_2⟩ := cells3 BK133.out
   go_wp2
   go_loopg [5, 6] k2 (fun kq v5 v6 w' => ∃ (x5_3 : Int) (x6_3 : Int), v5 = .int .i64 x5_3 ∧ v6 = .int .i64 x6_3 ∧ Aside0 (spec_TableOk.l2 kq x3_1 x4_2 x5_3 x6_3 a0_0 a0_1 l0_2 = some r) ∧ Aside0 (kq ≤ k2) ∧ Aside0 (w'.heap[gb133]? = some (.cells #[.int .i64 a0_0, .int .i64 a0_1, (.slice A0_2 l0_2.length c0_2)] 25 (0, 0))) ∧ Aside0 (Below w.heap.size w w'))
   case atStart => exact ⟨(0), (0), (z1), (z1), H', ⟨Nat.le_refl _⟩, ⟨zK⟩, ⟨zHB⟩⟩
   clear H'
   (try clear c7); (try clear c7b0); (try clear c9); (try clear c9b0); (try clear hcz10_0); (try clear hcz10_1); (try clear hcz10_2); (try clear hcz5_0); (try clear hcz5_1); (try clear hcz5_2); (try clear hcz8_0); (try clear hcz8_1); (try clear hcz8_2); (try clear hfz10_0); (try clear hfz10_1); (try clear hfz10_2); (try clear hfz5_0); (try clear hfz5_1); (try clear hfz5_2); (try clear hfz8_0); (try clear hfz8_1); (try clear hfz8_2)
   obtain ⟨x5_3, x6_3, rfl, rfl, HA, HK3, BK133, HB⟩ := hrel
   cases gk with
   | zero => exact absurd HA.out (by simp [spec_TableOk.l2])
   | succ k3 =>
    have H := HA.out
    clear HA
    simp only [spec_TableOk.l2] at H
    by_cases c11 : x6_3 < (l0_2.length : Int)
    rotate_left
    · rw [if_neg c11] at H
      have c11b0 := decide_eq_false c11
      clear c11
      by_cases c19 : x5_3 = 1
      rotate_left
      · rw [if_neg c19] at H
        have c19b0 : (x5_3 == 1) = false := beq_eq_false_iff_ne.mpr c19
        have c19b1 : (x5_3 != 1) = true := bne_iff_ne.mpr c19
        obtain rfl := Option.some.inj H
        obtain ⟨_, _, _, _, _, _⟩ := cells3 BK133.out
        go_wp2
        go_ret
        exact ⟨z2, zHB⟩
      rw [if_pos c19] at H
      have c19b0 : (x5_3 == 1) = true := beq_iff_eq.mpr c19
      have c19b1 : (x5_3 != 1) = false := bne_eq_false_iff_eq.mpr c19
      clear c19
      have H' := Ax H
      clear H
      obtain ⟨_, _, _, _, _, _⟩ := cells3 BK133.out
      go_wp2
      go_roundg k3
      case measure => have := HK1.out; have := HK2.out; have := HK3.out; omega
      exact ⟨(wrap64 (x4_2 + 1)), (z1), H', ⟨z4⟩, ⟨zK⟩, ⟨zHB⟩⟩
    rw [if_pos c11] at H
    have c11b0 := decide_eq_true c11
    clear c11
    by_cases c12 : 0 ≤ x6_3
    rotate_left
    · rw [if_neg c12] at H
      exact absurd H (by simp)
    rw [if_pos c12] at H
    have c12b0 := decide_eq_true c12
    clear c12
    obtain ⟨t136, A13, H⟩ := bnd H
    obtain rfl | rfl := tf t136
    · rw [if_pos rfl] at H
      have H' := Ax H
      clear H
      obtain ⟨_, _, _, _, _, _⟩ := cells3 BK133.out
      have p135 : 0 ≤ (x6_3 : Int) := of_decide_eq_true (z3)
      have q135 : x6_3 < (l0_2.length : Int) := of_decide_eq_true (z3)
      obtain ⟨ad135, A135_4, c135_4, e135, hx135_0, hx135_1, hx135_2, hx135_3, hx135_4, hl135_4, hi135_4⟩ := at_T30 HR0_2.out x6_3 p135 q135
      cases e135
      replace hx135_0 := (HB.out.cell (World.block_lt_of_cell? w _ hx135_0)).trans hx135_0
      replace hx135_1 := (HB.out.cell (World.block_lt_of_cell? w _ hx135_1)).trans hx135_1
      replace hx135_2 := (HB.out.cell (World.block_lt_of_cell? w _ hx135_2)).trans hx135_2
      replace hx135_3 := (HB.out.cell (World.block_lt_of_cell? w _ hx135_3)).trans hx135_3
      replace hx135_4 := (HB.out.cell (World.block_lt_of_cell? w _ hx135_4)).trans hx135_4
      have HR135_4 := Ax hi135_4
      have HC135_4 := Ax hl135_4
      clear hi135_4 hl135_4
      replace p135 := eq_true p135
      replace q135 := eq_true q135
      go_wp2_with (first | ((with_reducible refine gate_callee (f := 46) rfl ?_); refine goesL_ (some 36) rfl rfl Try.func46 (by kernel_rfl) rfl #[.agg #[.int .i64 ((rd_T30 l0_2 x6_3).f0), .int .i64 ((rd_T30 l0_2 x6_3).f1), .int .i64 ((rd_T30 l0_2 x6_3).f2), .int .i64 ((rd_T30 l0_2 x6_3).f3), .slice A135_4 ((rd_T30 l0_2 x6_3).f4).length c135_4], .int .i64 x3_1, .int .i64 x4_2] rfl (z0) ?_; (with_reducible refine (spec_l2In.calls ((rd_T30 l0_2 x6_3).f0) ((rd_T30 l0_2 x6_3).f1) ((rd_T30 l0_2 x6_3).f2) ((rd_T30 l0_2 x6_3).f3) _ _ ((rd_T30 l0_2 x6_3).f4) x3_1 x4_2 true _ ?side1 ?side2 A13.out).mono ?_); (case side1 => repeat (first | exact (Kd.C_below HR135_4.out HB.out) | (with_reducible refine Kd.C_alloc ?_ _) | (with_reducible refine Kd.C_drewN ?_ _) | (with_reducible refine Kd.C_drew ?_))); (case side2 => exact HC135_4.out); rintro e w16 ⟨rfl, hb⟩; refine ⟨_, rfl, ?_⟩; replace BK133 := Ax (blk_below (g := gb133) (zK) hb); replace HB := Ax (below_step (zHB) hb); (try clear hb); (try clear hb2); (try clear hk); (try clear hi)))
      go_roundg k3
      case measure => have := HK1.out; have := HK2.out; have := HK3.out; omega
      exact ⟨(wrap64 (x5_3 + 1)), (wrap64 (x6_3 + 1)), (z1), (z1), H', ⟨z4⟩, ⟨zK⟩, ⟨zHB⟩⟩
    rw [if_neg Bool.false_ne_true] at H
    have H' := Ax H
    clear H
    obtain ⟨_, _, _, _, _, _⟩ := cells3 BK133.out
    have p135 : 0 ≤ (x6_3 : Int) := of_decide_eq_true (z3)
    have q135 : x6_3 < (l0_2.length : Int) := of_decide_eq_true (z3)
    obtain ⟨ad135, A135_4, c135_4, e135, hx135_0, hx135_1, hx135_2, hx135_3, hx135_4, hl135_4, hi135_4⟩ := at_T30 HR0_2.out x6_3 p135 q135
    cases e135
    replace hx135_0 := (HB.out.cell (World.block_lt_of_cell? w _ hx135_0)).trans hx135_0
    replace hx135_1 := (HB.out.cell (World.block_lt_of_cell? w _ hx135_1)).trans hx135_1
    replace hx135_2 := (HB.out.cell (World.block_lt_of_cell? w _ hx135_2)).trans hx135_2
    replace hx135_3 := (HB.out.cell (World.block_lt_of_cell? w _ hx135_3)).trans hx135_3
    replace hx135_4 := (HB.out.cell (World.block_lt_of_cell? w _ hx135_4)).trans hx135_4
    have HR135_4 := Ax hi135_4
    have HC135_4 := Ax hl135_4
    clear hi135_4 hl135_4
    replace p135 := eq_true p135
    replace q135 := eq_true q135
    go_wp2_with (first | ((with_reducible refine gate_callee (f := 46) rfl ?_); refine goesL_ (some 36) rfl rfl Try.func46 (by kernel_rfl) rfl #[.agg #[.int .i64 ((rd_T30 l0_2 x6_3).f0), .int .i64 ((rd_T30 l0_2 x6_3).f1), .int .i64 ((rd_T30 l0_2 x6_3).f2), .int .i64 ((rd_T30 l0_2 x6_3).f3), .slice A135_4 ((rd_T30 l0_2 x6_3).f4).length c135_4], .int .i64 x3_1, .int .i64 x4_2] rfl (z0) ?_; (with_reducible refine (spec_l2In.calls ((rd_T30 l0_2 x6_3).f0) ((rd_T30 l0_2 x6_3).f1) ((rd_T30 l0_2 x6_3).f2) ((rd_T30 l0_2 x6_3).f3) _ _ ((rd_T30 l0_2 x6_3).f4) x3_1 x4_2 false _ ?side1 ?side2 A13.out).mono ?_); (case side1 => repeat (first | exact (Kd.C_below HR135_4.out HB.out) | (with_reducible refine Kd.C_alloc ?_ _) | (with_reducible refine Kd.C_drewN ?_ _) | (with_reducible refine Kd.C_drew ?_))); (case side2 => exact HC135_4.out); rintro e w18 ⟨rfl, hb⟩; refine ⟨_, rfl, ?_⟩; replace BK133 := Ax (blk_below (g := gb133) (zK) hb); replace HB := Ax (below_step (zHB) hb); (try clear hb); (try clear hb2); (try clear hk); (try clear hi)))
    go_roundg k3
    case measure => have := HK1.out; have := HK2.out; have := HK3.out; omega
    exact ⟨(x5_3), (wrap64 (x6_3 + 1)), (z1), (z1), H', ⟨z4⟩, ⟨zK⟩, ⟨zHB⟩⟩
end Go.Proofs.Ytljgbeccmcidkaa.P
namespace Go.Proofs.Ytljgbeccmcidkaa.P
open Go.RowKit Go.Proofs.YtljgbeccmcidkaaW.PrintWords Go.Proofs.YtljgbeccmcidkaaW.PrintLast Go.Proofs.YtljgbeccmcidkaaW.PrintMore
attribute [local go_sem] max2_int min2_int max_two min_two max_three min_three max_four min_four   -- for this text's walks alone
set_option linter.unusedVariables false
set_option linter.unusedSimpArgs false

attribute [local go_sem ↓] isSome_setCell
/-! ### spec_TableAt: function 19 -/
mutual
def spec_TableAt.l0 : Nat → Int → Int → Int → Int → Int → List (S30) → Option (Int)
  | 0, _, _, _, _, _, _ => none
  | k + 1, x1, x2, x7, x456000, x456001, x456002 => if x7 < (x456002.length : Int) then ((spec_TableOk.f k x456000 x456001 x456002).bind fun t456 => (spec_TableAt.j1 k x1 x2 x7 t456 x456000 x456001 x456002)) else (spec_TableAt.j1 k x1 x2 x7 false x456000 x456001 x456002)
def spec_TableAt.j1 : Nat → Int → Int → Int → Bool → Int → Int → List (S30) → Option (Int)
  | 0, _, _, _, _, _, _, _ => none
  | k + 1, x1, x2, x7, x16, x456000, x456001, x456002 => if x16 = true then (if 0 ≤ x7 then (if x7 < (x456002.length : Int) then ((spec_l2In.f ((rd_T30 x456002 x7).f0) ((rd_T30 x456002 x7).f1) ((rd_T30 x456002 x7).f2) ((rd_T30 x456002 x7).f3) ((rd_T30 x456002 x7).f4) x1 x2).bind fun t458 => (if t458 = true then (some x7) else (spec_TableAt.l0 k x1 x2 (wrap64 (x7 + 1)) x456000 x456001 x456002))) else (none)) else (none)) else (some (-1))
end
def spec_TableAt.f (k : Nat) (a0_0 : Int) (a0_1 : Int) (l0_2 : List (S30)) (a1 : Int) (a2 : Int) : Option (Int) := spec_TableAt.l0 k a1 a2 0 a0_0 a0_1 l0_2
theorem spec_TableAt.mono_l : ∀ k, (∀ y0 y1 y2 y3 y4 y5, LeO (spec_TableAt.l0 k y0 y1 y2 y3 y4 y5) (spec_TableAt.l0 (k + 1) y0 y1 y2 y3 y4 y5)) ∧ (∀ y0 y1 y2 y3 y4 y5 y6, LeO (spec_TableAt.j1 k y0 y1 y2 y3 y4 y5 y6) (spec_TableAt.j1 (k + 1) y0 y1 y2 y3 y4 y5 y6))
  | 0 => by refine ⟨?_, ?_⟩ <;> intros <;> intro r h <;> simp [spec_TableAt.l0, spec_TableAt.j1] at h
  | k + 1 => by
    obtain ⟨ih0, ih1⟩ := spec_TableAt.mono_l k
    refine ⟨?_, ?_⟩ <;> intros <;> (first | unfold spec_TableAt.l0 | unfold spec_TableAt.j1) <;> with_reducible repeat' first | exact ih0 _ _ _ _ _ _ | exact ih1 _ _ _ _ _ _ _ | exact spec_TableOk.mono _ _ _ _ | exact LeO.refl _ | exact LeO.none _ | refine LeO.ite ?_ ?_ | refine LeO.bind ?_ (fun _ => ?_)
theorem spec_TableAt.mono : ∀ a0 a1 a2 a3 a4 k, LeO (spec_TableAt.f k a0 a1 a2 a3 a4) (spec_TableAt.f (k + 1) a0 a1 a2 a3 a4) := by
  intro a0 a1 a2 a3 a4 k
  obtain ⟨ih0, ih1⟩ := spec_TableAt.mono_l k
  unfold spec_TableAt.f
  with_reducible repeat' first | exact ih0 _ _ _ _ _ _ | exact ih1 _ _ _ _ _ _ _ | exact spec_TableOk.mono _ _ _ _ | exact LeO.refl _ | exact LeO.none _ | refine LeO.ite ?_ ?_ | refine LeO.bind ?_ (fun _ => ?_)
theorem spec_TableAt.zHB {p : Prop} (h : p := by repeat (first | (with_reducible first | exact HB.out | apply below_alloc | apply pw_below_drewN | apply below_drew1 | refine below_set ?_ GE455.out) | exact HB.out)) : p := h
theorem spec_TableAt.zK {p : Prop} (h : p := by repeat' first | (with_reducible first | exact BK455.out | apply blk_drewN | apply blk_drew | apply blk_alloc | apply blk_putE) | exact (rfl : List.set _ _ _ = _)) : p := h
theorem spec_TableAt.z0 {p : Prop} (h : p := by first | (with_reducible assumption) | assumption) : p := h
theorem spec_TableAt.z1 {p : Prop} (h : p := by (try simp only [List.map_toArray, List.map_cons, List.map_nil]); first | done | rfl | (simp only [List.length_drop, List.length_take]; rfl)) : p := h
theorem spec_TableAt.z2 {p : Prop} (h : p := by first | rfl | (simp; done) | (simp [*]; done)) : p := h
theorem spec_TableAt.z3 {p : Prop} (h : p := by first | rfl | (simp [errW_none, errW_some] <;> rfl) | (simp [*, errW_none, errW_some] <;> rfl)) : p := h
set_option maxHeartbeats 8000000 in
set_option maxRecDepth 100000 in
theorem spec_TableAt.calls (k : Nat) (a0_0 : Int) (a0_1 : Int) (A0_2 : Option Addr) (c0_2 : Nat) (l0_2 : List (S30)) (a1 : Int) (a2 : Int) (r : Int) (w : World) (hr0_2 : Kd.C k30 w A0_2 l0_2.length l0_2) (hc0_2 : l0_2.length ≤ c0_2) (h : spec_TableAt.f k a0_0 a0_1 l0_2 a1 a2 = some r) :
    Calls Try.prog 19 #[.agg #[.int .i64 a0_0, .int .i64 a0_1, .slice A0_2 l0_2.length c0_2], .int .i64 a1, .int .i64 a2] w fun e w' => e = .returned (.int .i64 r) ∧ Below w.heap.size w w' := by
 have hu25 := Try.underlying25
 have hu30 := Try.underlying30
 have HR0_2 := Ax hr0_2
 have HC0_2 := Ax hc0_2
 clear hr0_2 hc0_2
 have HB := Ax (Below.refl w.heap.size w)
 have H : (spec_TableAt.l0 k a1 a2 0 a0_0 a0_1 l0_2) = some r := h
 clear h
 have H' := Ax H
 clear H
 go_enter Try.func19, Try.ntmps19
 go_wp2_with (first | ((with_reducible refine gate_dst (N := 3) rfl ?_); refine box_event ?hg (N := 3) ?hd (cs := #[.int .i64 a0_0, .int .i64 a0_1, .slice A0_2 l0_2.length c0_2]) (t := 25) ?hr ?_; (case hd => rfl); (case hg => rfl); (case hr => first | (go_simp; done) | (go_simp; rfl)); intro gb455 hg w4 hbox hb; have BK455 := Ax (hbox); have GW455 := Ax ((by rw [hg]; exact (below_size (zHB)) : w.heap.size ≤ gb455)); have GE455 := Ax ((by rw [hg]; exact (below_size (zHB)) : w.heap.size ≤ gb455)); replace HB := Ax (below_step (zHB) hb); clear hb hbox hg))
 go_loopg [7] k (fun kq v7 w' => ∃ (x7_1 : Int), v7 = .int .i64 x7_1 ∧ Aside0 (spec_TableAt.l0 kq a1 a2 x7_1 a0_0 a0_1 l0_2 = some r) ∧ Aside0 (kq ≤ k) ∧ Aside0 (w'.heap[gb455]? = some (.cells #[.int .i64 a0_0, .int .i64 a0_1, (.slice A0_2 l0_2.length c0_2)] 25 (0, 0))) ∧ Aside0 (Below w.heap.size w w'))
 case atStart => exact ⟨(0), (z2), H', ⟨Nat.le_refl _⟩, ⟨zK⟩, ⟨zHB⟩⟩
 clear H'
 obtain ⟨x7_1, rfl, HA, HK1, BK455, HB⟩ := hrel
 cases gk with
 | zero => exact absurd HA.out (by simp [spec_TableAt.l0])
 | succ k1 =>
  have H := HA.out
  clear HA
  simp only [spec_TableAt.l0] at H
  have HC5 := Ax H
  clear H
  go_upto_region 2 with (fail)
  go_cut [16] (fun v16 wc => ∃ (kq : Nat) (x16_4 : Bool), v16 = .bool x16_4 ∧ Aside0 (spec_TableAt.j1 kq a1 a2 x7_1 x16_4 a0_0 a0_1 l0_2 = some r) ∧ Aside0 (kq ≤ k1) ∧ Aside0 (wc.heap[gb455]? = some (.cells #[.int .i64 a0_0, .int .i64 a0_1, (.slice A0_2 l0_2.length c0_2)] 25 (0, 0))) ∧ Aside0 (Below w.heap.size w wc))
  case first =>
   have H := HC5.out
   clear HC5
   by_cases c6 : x7_1 < (l0_2.length : Int)
   · rw [if_pos c6] at H
     have c6b0 := decide_eq_true c6
     clear c6
     (first | rw [c6b0] | (simp only [i64_w, i32_w]; rw [c6b0]) | skip)
     obtain ⟨t456, A7, H⟩ := bnd H
     have H' := Ax H
     clear H
     obtain ⟨_, _, _, _, _, _⟩ := cells3 BK455.out
     go_wp2_with (first | (go_at_call 16; (with_reducible refine (spec_TableOk.calls k1 a0_0 a0_1 _ _ l0_2 t456 _ ?side1 ?side2 A7.out).mono ?_); (case side1 => repeat (first | exact (Kd.C_below HR0_2.out HB.out) | (with_reducible refine Kd.C_alloc ?_ _) | (with_reducible refine Kd.C_drewN ?_ _) | (with_reducible refine Kd.C_drew ?_))); (case side2 => exact HC0_2.out); rintro e w9 ⟨rfl, hb⟩; replace BK455 := Ax (blk_below (g := gb455) (zK) hb); replace HB := Ax (below_step (zHB) hb); (try clear hb); (try clear hb2); (try clear hk); (try clear hi)))
     go_meet
     exact ⟨_, (t456), (z2), H', ⟨by have := HK1.out; first | omega | exact Nat.le_refl _⟩, ⟨zK⟩, ⟨zHB⟩⟩
   rw [if_neg c6] at H
   have c6b0 := decide_eq_false c6
   clear c6
   (first | rw [c6b0] | (simp only [i64_w, i32_w]; rw [c6b0]) | skip)
   have H' := Ax H
   clear H
   obtain ⟨_, _, _, _, _, _⟩ := cells3 BK455.out
   go_wp2
   go_meet
   exact ⟨_, (false), (z2), H', ⟨by have := HK1.out; first | omega | exact Nat.le_refl _⟩, ⟨zK⟩, ⟨zHB⟩⟩
  clear HC5
  obtain ⟨kq, x16_4, rfl, HA, HJ4, BK455, HB⟩ := hcut
  cases kq with
  | zero => exact absurd HA.out (by simp [spec_TableAt.j1])
  | succ kj4 =>
   have H := HA.out
   clear HA
   simp only [spec_TableAt.j1] at H
   obtain rfl | rfl := tf x16_4
   rotate_left
   · rw [if_neg Bool.false_ne_true] at H
     obtain rfl := Option.some.inj H
     go_wp2
     go_ret
     exact ⟨z3, zHB⟩
   rw [if_pos rfl] at H
   by_cases c12 : 0 ≤ x7_1
   rotate_left
   · rw [if_neg c12] at H
     exact absurd H (by simp)
   rw [if_pos c12] at H
   have c12b0 := decide_eq_true c12
   clear c12
   by_cases c13 : x7_1 < (l0_2.length : Int)
   rotate_left
   · rw [if_neg c13] at H
     exact absurd H (by simp)
   rw [if_pos c13] at H
   have c13b0 := decide_eq_true c13
   clear c13
   obtain ⟨t458, A14, H⟩ := bnd H
   obtain rfl | rfl := tf t458
   · rw [if_pos rfl] at H
     obtain rfl := Option.some.inj H
     obtain ⟨_, _, _, _, _, _⟩ := cells3 BK455.out
     have p457 : 0 ≤ (x7_1 : Int) := of_decide_eq_true (z0)
     have q457 : x7_1 < (l0_2.length : Int) := of_decide_eq_true (z0)
     obtain ⟨ad457, A457_4, c457_4, e457, hx457_0, hx457_1, hx457_2, hx457_3, hx457_4, hl457_4, hi457_4⟩ := at_T30 HR0_2.out x7_1 p457 q457
     cases e457
     replace hx457_0 := (HB.out.cell (World.block_lt_of_cell? w _ hx457_0)).trans hx457_0
     replace hx457_1 := (HB.out.cell (World.block_lt_of_cell? w _ hx457_1)).trans hx457_1
     replace hx457_2 := (HB.out.cell (World.block_lt_of_cell? w _ hx457_2)).trans hx457_2
     replace hx457_3 := (HB.out.cell (World.block_lt_of_cell? w _ hx457_3)).trans hx457_3
     replace hx457_4 := (HB.out.cell (World.block_lt_of_cell? w _ hx457_4)).trans hx457_4
     have HR457_4 := Ax hi457_4
     have HC457_4 := Ax hl457_4
     clear hi457_4 hl457_4
     replace p457 := eq_true p457
     replace q457 := eq_true q457
     go_wp2_with (first | ((with_reducible refine gate_callee (f := 46) rfl ?_); refine goesL_ (some 26) rfl rfl Try.func46 (by kernel_rfl) rfl #[.agg #[.int .i64 ((rd_T30 l0_2 x7_1).f0), .int .i64 ((rd_T30 l0_2 x7_1).f1), .int .i64 ((rd_T30 l0_2 x7_1).f2), .int .i64 ((rd_T30 l0_2 x7_1).f3), .slice A457_4 ((rd_T30 l0_2 x7_1).f4).length c457_4], .int .i64 a1, .int .i64 a2] rfl (z1) ?_; (with_reducible refine (spec_l2In.calls ((rd_T30 l0_2 x7_1).f0) ((rd_T30 l0_2 x7_1).f1) ((rd_T30 l0_2 x7_1).f2) ((rd_T30 l0_2 x7_1).f3) _ _ ((rd_T30 l0_2 x7_1).f4) a1 a2 true _ ?side1 ?side2 A14.out).mono ?_); (case side1 => repeat (first | exact (Kd.C_below HR457_4.out HB.out) | (with_reducible refine Kd.C_alloc ?_ _) | (with_reducible refine Kd.C_drewN ?_ _) | (with_reducible refine Kd.C_drew ?_))); (case side2 => exact HC457_4.out); rintro e w17 ⟨rfl, hb⟩; refine ⟨_, rfl, ?_⟩; replace BK455 := Ax (blk_below (g := gb455) (zK) hb); replace HB := Ax (below_step (zHB) hb); (try clear hb); (try clear hb2); (try clear hk); (try clear hi)))
     go_ret
     exact ⟨z3, zHB⟩
   rw [if_neg Bool.false_ne_true] at H
   have H' := Ax H
   clear H
   obtain ⟨_, _, _, _, _, _⟩ := cells3 BK455.out
   have p457 : 0 ≤ (x7_1 : Int) := of_decide_eq_true (z0)
   have q457 : x7_1 < (l0_2.length : Int) := of_decide_eq_true (z0)
   obtain ⟨ad457, A457_4, c457_4, e457, hx457_0, hx457_1, hx457_2, hx457_3, hx457_4, hl457_4, hi457_4⟩ := at_T30 HR0_2.out x7_1 p457 q457
   cases e457
   replace hx457_0 := (HB.out.cell (World.block_lt_of_cell? w _ hx457_0)).trans hx457_0
   replace hx457_1 := (HB.out.cell (World.block_lt_of_cell? w _ hx457_1)).trans hx457_1
   replace hx457_2 := (HB.out.cell (World.block_lt_of_cell? w _ hx457_2)).trans hx457_2
   replace hx457_3 := (HB.out.cell (World.block_lt_of_cell? w _ hx457_3)).trans hx457_3
   replace hx457_4 := (HB.out.cell (World.block_lt_of_cell? w _ hx457_4)).trans hx457_4
   have HR457_4 := Ax hi457_4
   have HC457_4 := Ax hl457_4
   clear hi457_4 hl457_4
   replace p457 := eq_true p457
   replace q457 := eq_true q457
   go_wp2_with (first | ((with_reducible refine gate_callee (f := 46) rfl ?_); refine goesL_ (some 26) rfl rfl Try.func46 (by kernel_rfl) rfl #[.agg #[.int .i64 ((rd_T30 l0_2 x7_1).f0), .int .i64 ((rd_T30 l0_2 x7_1).f1), .int .i64 ((rd_T30 l0_2 x7_1).f2), .int .i64 ((rd_T30 l0_2 x7_1).f3), .slice A457_4 ((rd_T30 l0_2 x7_1).f4).length c457_4], .int .i64 a1, .int .i64 a2] rfl (z1) ?_; (with_reducible refine (spec_l2In.calls ((rd_T30 l0_2 x7_1).f0) ((rd_T30 l0_2 x7_1).f1) ((rd_T30 l0_2 x7_1).f2) ((rd_T30 l0_2 x7_1).f3) _ _ ((rd_T30 l0_2 x7_1).f4) a1 a2 false _ ?side1 ?side2 A14.out).mono ?_); (case side1 => repeat (first | exact (Kd.C_below HR457_4.out HB.out) | (with_reducible refine Kd.C_alloc ?_ _) | (with_reducible refine Kd.C_drewN ?_ _) | (with_reducible refine Kd.C_drew ?_))); (case side2 => exact HC457_4.out); rintro e w19 ⟨rfl, hb⟩; refine ⟨_, rfl, ?_⟩; replace BK455 := Ax (blk_below (g := gb455) (zK) hb); replace HB := Ax (below_step (zHB) hb); (try clear hb); (try clear hb2); (try clear hk); (try clear hi)))
   go_roundg kj4
   case measure => have := HK1.out; have := HJ4.out; omega
   exact ⟨(wrap64 (x7_1 + 1)), (z2), H', ⟨by have := HK1.out; have := HJ4.out; omega⟩, ⟨zK⟩, ⟨zHB⟩⟩
end Go.Proofs.Ytljgbeccmcidkaa.P
