/- What the Go functions named below compute, function by function: a plain Lean function with the same answers and the proof that a call comes to them. Conditions: the arguments read as told, the plain function answers. -/
import Derived.Test.YtljgbeccmcidkaaXA
import Derived.Test.YtljgbeccmcidkaaXC
import Derived.Test.YtljgbeccmcidkaaXG
namespace Go.Proofs.Ytljgbeccmcidkaa.P
open Go.RowKit Go.Proofs.YtljgbeccmcidkaaW.PrintWords Go.Proofs.YtljgbeccmcidkaaW.PrintLast Go.Proofs.YtljgbeccmcidkaaW.PrintMore
attribute [local go_sem] max2_int min2_int max_two min_two max_three min_three max_four min_four   -- for this text's walks alone
set_option linter.unusedVariables false
set_option linter.unusedSimpArgs false

attribute [local go_sem ↓] isSome_setCell
/-! ### spec_TableMerge: function 55 -/
mutual
def spec_TableMerge.j0 : Nat → Int → Int → Int → Int → Bool → Int → Int → List (S30) → Option (Int × Int × (List (S30)) × Bool)
  | 0, _, _, _, _, _, _, _, _ => none
  | k + 1, x1, x2, x3, x4, x56, x166000, x166001, x166002 => if x56 = true then (some (0, 0, ([] : List (S30)), false)) else (spec_TableMerge.l0 k 0 0 x166000 x166001 x166002 x1 x2 x3 x4 ([] : List (S61)) x166000 x166001 ([] : List (S30)))
def spec_TableMerge.l0 : Nat → Int → Int → Int → Int → List (S30) → Int → Int → Int → Int → List (S61) → Int → Int → List (S30) → Option (Int × Int × (List (S30)) × Bool)
  | 0, _, _, _, _, _, _, _, _, _, _, _, _, _ => none
  | k + 1, x14, x15, x166000, x166001, x166002, x173000, x173001, x173002, x173003, x173004, x174000, x174001, x174002 => if x15 < (x166002.length : Int) then (if 0 ≤ x15 then (spec_TableMerge.l1 k x14 x15 0 ((rd_T30 x166002 x15).f0) x166000 x166001 x166002 x173000 x173001 x173002 x173003 x173004 x174000 x174001 x174002 ((rd_T30 x166002 x15).f0) ((rd_T30 x166002 x15).f1) ((rd_T30 x166002 x15).f2) ((rd_T30 x166002 x15).f3) ((rd_T30 x166002 x15).f4)) else (none)) else (if x14 < 2 then (some (0, 0, ([] : List (S30)), false)) else ((spec_TextOk.f k x173004).bind fun t189 => (if t189 = true then (if x174002.length < 2513169434916 then ((spec_l2Sort.f k (x174002 ++ [(⟨x173000, x173001, x173002, x173003, x173004⟩ : S30)])).bind fun t193 => (some (x174000, x174001, t193, true))) else (none)) else (some (0, 0, ([] : List (S30)), false)))))
def spec_TableMerge.l1 : Nat → Int → Int → Int → Int → Int → Int → List (S30) → Int → Int → Int → Int → List (S61) → Int → Int → List (S30) → Int → Int → Int → Int → List (S61) → Option (Int × Int × (List (S30)) × Bool)
  | 0, _, _, _, _, _, _, _, _, _, _, _, _, _, _, _, _, _, _, _, _ => none
  | k + 1, x14, x15, x17, x18, x166000, x166001, x166002, x173000, x173001, x173002, x173003, x173004, x174000, x174001, x174002, x176000, x176001, x176002, x176003, x176004 => if x18 < (wrap64 (x176000 + x176002)) then (spec_TableMerge.l2 k x14 x15 x17 x18 x176001 x166000 x166001 x166002 x173000 x173001 x173002 x173003 x173004 x174000 x174001 x174002 x176000 x176001 x176002 x176003 x176004) else (if x17 = 0 then ((some (([] : List (S61)) : List (S61))).bind fun y177 => (if y177.length + x176004.length < 5864062014805 then (if x174002.length < 2513169434916 then (spec_TableMerge.l0 k x14 (wrap64 (x15 + 1)) x166000 x166001 x166002 x173000 x173001 x173002 x173003 x173004 x174000 x174001 (x174002 ++ [(⟨x176000, x176001, x176002, x176003, (y177 ++ x176004)⟩ : S30)])) else (none)) else (none))) else (if x17 = (wrap64 (x176002 * x176003)) then (if x173004.length + x176004.length < 5864062014805 then (spec_TableMerge.l0 k (wrap64 (x14 + 1)) (wrap64 (x15 + 1)) x166000 x166001 x166002 x173000 x173001 x173002 x173003 (x173004 ++ x176004) x174000 x174001 x174002) else (none)) else (some (0, 0, ([] : List (S30)), false))))
def spec_TableMerge.l2 : Nat → Int → Int → Int → Int → Int → Int → Int → List (S30) → Int → Int → Int → Int → List (S61) → Int → Int → List (S30) → Int → Int → Int → Int → List (S61) → Option (Int × Int × (List (S30)) × Bool)
  | 0, _, _, _, _, _, _, _, _, _, _, _, _, _, _, _, _, _, _, _, _, _ => none
  | k + 1, x14, x15, x17, x18, x19, x166000, x166001, x166002, x173000, x173001, x173002, x173003, x173004, x174000, x174001, x174002, x176000, x176001, x176002, x176003, x176004 => if x19 < (wrap64 (x176001 + x176003)) then ((spec_l2In.f x173000 x173001 x173002 x173003 x173004 x18 x19).bind fun t176 => (if t176 = true then (spec_TableMerge.l2 k x14 x15 (wrap64 (x17 + 1)) x18 (wrap64 (x19 + 1)) x166000 x166001 x166002 x173000 x173001 x173002 x173003 x173004 x174000 x174001 x174002 x176000 x176001 x176002 x176003 x176004) else (spec_TableMerge.l2 k x14 x15 x17 x18 (wrap64 (x19 + 1)) x166000 x166001 x166002 x173000 x173001 x173002 x173003 x173004 x174000 x174001 x174002 x176000 x176001 x176002 x176003 x176004))) else (spec_TableMerge.l1 k x14 x15 x17 (wrap64 (x18 + 1)) x166000 x166001 x166002 x173000 x173001 x173002 x173003 x173004 x174000 x174001 x174002 x176000 x176001 x176002 x176003 x176004)
end
def spec_TableMerge.f (k : Nat) (a0_0 : Int) (a0_1 : Int) (l0_2 : List (S30)) (a1 : Int) (a2 : Int) (a3 : Int) (a4 : Int) : Option (Int × Int × (List (S30)) × Bool) := (spec_TableOk.f k a0_0 a0_1 l0_2).bind fun t167 => (if t167 = true then ((spec_l6In.f a1 0 (wrap64 (a0_0 - 1))).bind fun t168 => (if t168 = true then ((spec_l6In.f a2 0 (wrap64 (a0_1 - 1))).bind fun t169 => (if t169 = true then ((spec_l6In.f a3 1 (wrap64 (a0_0 - a1))).bind fun t170 => (if t170 = true then ((spec_l6In.f a4 1 (wrap64 (a0_1 - a2))).bind fun t171 => (spec_TableMerge.j0 k a1 a2 a3 a4 (!t171) a0_0 a0_1 l0_2)) else (spec_TableMerge.j0 k a1 a2 a3 a4 true a0_0 a0_1 l0_2))) else (spec_TableMerge.j0 k a1 a2 a3 a4 true a0_0 a0_1 l0_2))) else (spec_TableMerge.j0 k a1 a2 a3 a4 true a0_0 a0_1 l0_2))) else (spec_TableMerge.j0 k a1 a2 a3 a4 true a0_0 a0_1 l0_2))
theorem spec_TableMerge.mono_l : ∀ k, (∀ y0 y1 y2 y3 y4 y5 y6 y7, LeO (spec_TableMerge.j0 k y0 y1 y2 y3 y4 y5 y6 y7) (spec_TableMerge.j0 (k + 1) y0 y1 y2 y3 y4 y5 y6 y7)) ∧ (∀ y0 y1 y2 y3 y4 y5 y6 y7 y8 y9 y10 y11 y12, LeO (spec_TableMerge.l0 k y0 y1 y2 y3 y4 y5 y6 y7 y8 y9 y10 y11 y12) (spec_TableMerge.l0 (k + 1) y0 y1 y2 y3 y4 y5 y6 y7 y8 y9 y10 y11 y12)) ∧ (∀ y0 y1 y2 y3 y4 y5 y6 y7 y8 y9 y10 y11 y12 y13 y14 y15 y16 y17 y18 y19, LeO (spec_TableMerge.l1 k y0 y1 y2 y3 y4 y5 y6 y7 y8 y9 y10 y11 y12 y13 y14 y15 y16 y17 y18 y19) (spec_TableMerge.l1 (k + 1) y0 y1 y2 y3 y4 y5 y6 y7 y8 y9 y10 y11 y12 y13 y14 y15 y16 y17 y18 y19)) ∧ (∀ y0 y1 y2 y3 y4 y5 y6 y7 y8 y9 y10 y11 y12 y13 y14 y15 y16 y17 y18 y19 y20, LeO (spec_TableMerge.l2 k y0 y1 y2 y3 y4 y5 y6 y7 y8 y9 y10 y11 y12 y13 y14 y15 y16 y17 y18 y19 y20) (spec_TableMerge.l2 (k + 1) y0 y1 y2 y3 y4 y5 y6 y7 y8 y9 y10 y11 y12 y13 y14 y15 y16 y17 y18 y19 y20))
  | 0 => by refine ⟨?_, ?_, ?_, ?_⟩ <;> intros <;> intro r h <;> simp [spec_TableMerge.j0, spec_TableMerge.l0, spec_TableMerge.l1, spec_TableMerge.l2] at h
  | k + 1 => by
    obtain ⟨ih0, ih1, ih2, ih3⟩ := spec_TableMerge.mono_l k
    refine ⟨?_, ?_, ?_, ?_⟩ <;> intros <;> (first | unfold spec_TableMerge.j0 | unfold spec_TableMerge.l0 | unfold spec_TableMerge.l1 | unfold spec_TableMerge.l2) <;> with_reducible repeat' first | exact ih0 _ _ _ _ _ _ _ _ | exact ih1 _ _ _ _ _ _ _ _ _ _ _ _ _ | exact ih2 _ _ _ _ _ _ _ _ _ _ _ _ _ _ _ _ _ _ _ _ | exact ih3 _ _ _ _ _ _ _ _ _ _ _ _ _ _ _ _ _ _ _ _ _ | exact spec_TableOk.mono _ _ _ _ | exact spec_TextOk.mono _ _ | exact spec_l2Sort.mono _ _ | exact LeO.refl _ | exact LeO.none _ | refine LeO.ite ?_ ?_ | refine LeO.bind ?_ (fun _ => ?_)
theorem spec_TableMerge.mono : ∀ a0 a1 a2 a3 a4 a5 a6 k, LeO (spec_TableMerge.f k a0 a1 a2 a3 a4 a5 a6) (spec_TableMerge.f (k + 1) a0 a1 a2 a3 a4 a5 a6) := by
  intro a0 a1 a2 a3 a4 a5 a6 k
  obtain ⟨ih0, ih1, ih2, ih3⟩ := spec_TableMerge.mono_l k
  unfold spec_TableMerge.f
  with_reducible repeat' first | exact ih0 _ _ _ _ _ _ _ _ | exact ih1 _ _ _ _ _ _ _ _ _ _ _ _ _ | exact ih2 _ _ _ _ _ _ _ _ _ _ _ _ _ _ _ _ _ _ _ _ | exact ih3 _ _ _ _ _ _ _ _ _ _ _ _ _ _ _ _ _ _ _ _ _ | exact spec_TableOk.mono _ _ _ _ | exact spec_TextOk.mono _ _ | exact spec_l2Sort.mono _ _ | exact LeO.refl _ | exact LeO.none _ | refine LeO.ite ?_ ?_ | refine LeO.bind ?_ (fun _ => ?_)
theorem spec_TableMerge.zHB {p : Prop} (h : p := by repeat (first | (with_reducible first | exact HB.out | apply below_alloc | apply pw_below_drewN | apply below_drew1 | refine below_set ?_ GE165.out | refine below_set ?_ GE166.out | refine below_set ?_ GE172.out | refine below_set ?_ GE173.out | refine below_set ?_ GE175.out) | exact HB.out)) : p := h
theorem spec_TableMerge.zK {p : Prop} (h : p := by repeat' first | (with_reducible first | exact BK165.out | exact BK166.out | exact BK172.out | exact BK173.out | exact BK175.out | apply blk_drewN | apply blk_drew | apply blk_alloc | apply blk_far (hp := NB165_172.out) | apply blk_far (hp := NB166_172.out) | apply blk_far (hp := NB165_173.out) | apply blk_far (hp := NB166_173.out) | apply blk_far (hp := NB172_173.out) | apply blk_far (hp := NB165_175.out) | apply blk_far (hp := NB166_175.out) | apply blk_far (hp := NB172_175.out) | apply blk_far (hp := NB173_175.out) | apply blk_far (hp := NB173_172.out) | apply blk_putE) | exact (rfl : List.set _ _ _ = _)) : p := h
theorem spec_TableMerge.z0 {p : Prop} (h : p := by (with_reducible repeat (first | apply Kd.R_alloc | apply Kd.R_drewN | apply Kd.R_drew)); exact HO_173004.out) : p := h
theorem spec_TableMerge.z1 {p : Prop} (h : p := by (with_reducible repeat (first | apply Kd.N_alloc | apply Kd.N_drewN | apply Kd.N_drew)); exact HO_174002.out) : p := h
theorem spec_TableMerge.z2 {p : Prop} (h : p := by (try simp only [List.map_toArray, List.map_cons, List.map_nil]); first | done | rfl | (simp only [List.length_drop, List.length_take]; rfl)) : p := h
theorem spec_TableMerge.z3 {p : Prop} (h : p := by first | rfl | (simp; done) | (simp [*]; done)) : p := h
theorem spec_TableMerge.z4 {p : Prop} (h : p := by first | exact Kd.S_nil _ _ _ _ _ | exact Kd.N_nil _ _ _ _ _ | exact Kd.V_nil _ _ _ _ _ | exact Kd.Q_nil _ _ _ _ _ | exact Kd.R_nil _ _ _ _ _) : p := h
theorem spec_TableMerge.z5 {p : Prop} (h : p := by first | rfl | (simp [errW_none, errW_some] <;> rfl) | (simp [*, errW_none, errW_some] <;> rfl)) : p := h
theorem spec_TableMerge.z6 {p : Prop} (h : p := by rw [hg]; exact (below_size (zHB))) : p := h
theorem spec_TableMerge.z7 {p : Prop} (h : p := by rw [hg]; exact Nat.ne_of_lt (blk_lt (g := gb165) (zK))) : p := h
theorem spec_TableMerge.z8 {p : Prop} (h : p := by rw [hg]; exact Nat.ne_of_gt (blk_lt (g := gb165) (zK))) : p := h
theorem spec_TableMerge.z9 {p : Prop} (h : p := by have := HJ5.out; have := HK2.out; have := HK3.out; have := HK4.out; omega) : p := h
theorem spec_TableMerge.z10 {p : Prop} (h : p := by first | omega | exact Nat.le_refl _) : p := h
theorem spec_TableMerge.z11 {p : Prop} (h : p := by rw [hg]; exact Nat.ne_of_lt (blk_lt (g := gb166) (zK))) : p := h
theorem spec_TableMerge.z12 {p : Prop} (h : p := by rw [hg]; exact Nat.ne_of_gt (blk_lt (g := gb166) (zK))) : p := h
theorem spec_TableMerge.zy {p : Prop} (h : p := by first | (rw [hy_]; with_reducible exact H) | (have H2_ := (Option.bind_some _ _).symm.trans H; rw [hy_]; with_reducible exact H2_) | (have H2_ := (Option.bind_some _ _).symm.trans H; with_reducible exact H2_) | with_reducible exact H | (rw [hy_]; exact H) | exact H) : p := h
set_option maxHeartbeats 8000000 in
set_option maxRecDepth 100000 in
theorem spec_TableMerge.calls (k : Nat) (a0_0 : Int) (a0_1 : Int) (A0_2 : Option Addr) (c0_2 : Nat) (l0_2 : List (S30)) (a1 : Int) (a2 : Int) (a3 : Int) (a4 : Int) (r1 : Int) (r2 : Int) (r3 : List (S30)) (r4 : Bool) (w : World) (hr0_2 : Kd.C k30 w A0_2 l0_2.length l0_2) (hc0_2 : l0_2.length ≤ c0_2) (h : spec_TableMerge.f k a0_0 a0_1 l0_2 a1 a2 a3 a4 = some (r1, r2, r3, r4)) :
    Calls Try.prog 55 #[.agg #[.int .i64 a0_0, .int .i64 a0_1, .slice A0_2 l0_2.length c0_2], .int .i64 a1, .int .i64 a2, .int .i64 a3, .int .i64 a4] w fun e w' => ∃ v2_ : Value, e = .returned (.tuple #[.agg #[.int .i64 r1, .int .i64 r2, v2_], .bool r4]) ∧ Kd.N k30 30 w' w.heap.size (fun k_ => (w.heap.size ≤ k_)) v2_ r3 ∧ Below w.heap.size w w' := by
 have hu25 := Try.underlying25
 have hu30 := Try.underlying30
 have HR0_2 := Ax hr0_2
 have HC0_2 := Ax hc0_2
 clear hr0_2 hc0_2
 have HB := Ax (Below.refl w.heap.size w)
 have H : ((spec_TableOk.f k a0_0 a0_1 l0_2).bind fun t167 => (if t167 = true then ((spec_l6In.f a1 0 (wrap64 (a0_0 - 1))).bind fun t168 => (if t168 = true then ((spec_l6In.f a2 0 (wrap64 (a0_1 - 1))).bind fun t169 => (if t169 = true then ((spec_l6In.f a3 1 (wrap64 (a0_0 - a1))).bind fun t170 => (if t170 = true then ((spec_l6In.f a4 1 (wrap64 (a0_1 - a2))).bind fun t171 => (spec_TableMerge.j0 k a1 a2 a3 a4 (!t171) a0_0 a0_1 l0_2)) else (spec_TableMerge.j0 k a1 a2 a3 a4 true a0_0 a0_1 l0_2))) else (spec_TableMerge.j0 k a1 a2 a3 a4 true a0_0 a0_1 l0_2))) else (spec_TableMerge.j0 k a1 a2 a3 a4 true a0_0 a0_1 l0_2))) else (spec_TableMerge.j0 k a1 a2 a3 a4 true a0_0 a0_1 l0_2))) = some (r1, r2, r3, r4) := h
 clear h
 have HC6 := Ax H
 clear H
 go_enter Try.func55, Try.ntmps55
 go_upto_region 1 with (first | ((with_reducible refine gate_dst (N := 5) rfl ?_); refine box_event ?hg (N := 5) ?hd (cs := #[.int .i64 a0_0, .int .i64 a0_1, .slice A0_2 l0_2.length c0_2]) (t := 25) ?hr ?_; (case hd => rfl); (case hg => rfl); (case hr => first | (go_simp; done) | (go_simp; rfl)); intro gb165 hg w7 hbox hb; have BK165 := Ax (hbox); have GW165 := Ax ((z6 : w.heap.size ≤ gb165)); have GE165 := Ax ((z6 : w.heap.size ≤ gb165)); replace HB := Ax (below_step (zHB) hb); clear hb hbox hg) | ((with_reducible refine gate_dst (N := 10) rfl ?_); refine box_event ?hg (N := 10) ?hd (cs := #[.int .i64 0, .int .i64 0, .slice none 0 0]) (t := 25) ?hr ?_; (case hd => rfl); (case hg => rfl); (case hr => first | (go_simp; done) | (go_simp; rfl)); intro gb166 hg w8 hbox hb; have BK166 := Ax (hbox); have GW166 := Ax ((z6 : w.heap.size ≤ gb166)); have GE166 := Ax ((z6 : w.heap.size ≤ gb166)); replace HB := Ax (below_step (zHB) hb); have NB165_166 := Ax ((z7 : gb165 ≠ gb166)); have NB166_165 := Ax ((z8 : gb166 ≠ gb165)); replace BK165 := Ax (blk_below (g := gb165) (zK) hb); clear hb hbox hg))
 (try simp only [Act.put, List.setIfInBounds_toArray, List.set_cons_zero, List.set_cons_succ])
 go_cut [56] (fun v56 wc => ∃ (kq : Nat) (x56_5 : Bool), v56 = .bool x56_5 ∧ Aside0 (spec_TableMerge.j0 kq a1 a2 a3 a4 x56_5 a0_0 a0_1 l0_2 = some (r1, r2, r3, r4)) ∧ Aside0 (kq ≤ k) ∧ Aside0 (wc.heap[gb165]? = some (.cells #[.int .i64 a0_0, .int .i64 a0_1, (.slice A0_2 l0_2.length c0_2)] 25 (0, 0))) ∧ Aside0 (wc.heap[gb166]? = some (.cells #[.int .i64 0, .int .i64 0, (.slice none 0 0)] 25 (0, 0))) ∧ Aside0 (Below w.heap.size w wc))
 case first =>
  have H := HC6.out
  clear HC6
  obtain ⟨t167, A9, H⟩ := bnd H
  obtain rfl | rfl := tf t167
  rotate_left
  · rw [if_neg Bool.false_ne_true] at H
    have H' := Ax H
    clear H
    have hnb34 := NB165_166.out
    have hnc34 := NB166_165.out
    obtain ⟨_, _, _, _, _, _⟩ := cells3 BK165.out
    go_wp2_with (first | ((with_reducible refine gate_callee (f := 16) rfl ?_); refine goesL_ (some 21) rfl rfl Try.func16 (by kernel_rfl) rfl #[.agg #[.int .i64 a0_0, .int .i64 a0_1, .slice A0_2 l0_2.length c0_2]] rfl (z2) ?_; (with_reducible refine (spec_TableOk.calls k a0_0 a0_1 _ _ l0_2 false _ ?side1 ?side2 A9.out).mono ?_); (case side1 => repeat (first | exact (Kd.C_below HR0_2.out HB.out) | (with_reducible refine Kd.C_alloc ?_ _) | (with_reducible refine Kd.C_drewN ?_ _) | (with_reducible refine Kd.C_drew ?_))); (case side2 => exact HC0_2.out); rintro e w36 ⟨rfl, hb⟩; refine ⟨_, rfl, ?_⟩; replace BK165 := Ax (blk_below (g := gb165) (zK) hb); replace BK166 := Ax (blk_below (g := gb166) (zK) hb); replace HB := Ax (below_step (zHB) hb); (try clear hb); (try clear hb2); (try clear hk); (try clear hi)))
    go_meet
    exact ⟨_, (true), (z3), H', ⟨z10⟩, ⟨zK⟩, ⟨zK⟩, ⟨zHB⟩⟩
  rw [if_pos rfl] at H
  obtain ⟨t168, A11, H⟩ := bnd H
  obtain rfl | rfl := tf t168
  rotate_left
  · rw [if_neg Bool.false_ne_true] at H
    have H' := Ax H
    clear H
    have hnb30 := NB165_166.out
    have hnc30 := NB166_165.out
    obtain ⟨_, _, _, _, _, _⟩ := cells3 BK165.out
    go_wp2_with (first | ((with_reducible refine gate_callee (f := 16) rfl ?_); refine goesL_ (some 21) rfl rfl Try.func16 (by kernel_rfl) rfl #[.agg #[.int .i64 a0_0, .int .i64 a0_1, .slice A0_2 l0_2.length c0_2]] rfl (z2) ?_; (with_reducible refine (spec_TableOk.calls k a0_0 a0_1 _ _ l0_2 true _ ?side1 ?side2 A9.out).mono ?_); (case side1 => repeat (first | exact (Kd.C_below HR0_2.out HB.out) | (with_reducible refine Kd.C_alloc ?_ _) | (with_reducible refine Kd.C_drewN ?_ _) | (with_reducible refine Kd.C_drew ?_))); (case side2 => exact HC0_2.out); rintro e w32 ⟨rfl, hb⟩; refine ⟨_, rfl, ?_⟩; replace BK165 := Ax (blk_below (g := gb165) (zK) hb); replace BK166 := Ax (blk_below (g := gb166) (zK) hb); replace HB := Ax (below_step (zHB) hb); (try clear hb); (try clear hb2); (try clear hk); (try clear hi); obtain ⟨_, _, _, _, _, _⟩ := cells3 BK165.out) | (go_at_call 49; (with_reducible refine (spec_l6In.calls a1 0 (wrap64 (a0_0 - 1)) false _ A11.out).mono ?_); rintro e w' ⟨rfl, ⟨nd, rfl⟩⟩))
    go_meet
    exact ⟨_, (true), (z3), H', ⟨z10⟩, ⟨zK⟩, ⟨zK⟩, ⟨zHB⟩⟩
  rw [if_pos rfl] at H
  obtain ⟨t169, A13, H⟩ := bnd H
  obtain rfl | rfl := tf t169
  rotate_left
  · rw [if_neg Bool.false_ne_true] at H
    have H' := Ax H
    clear H
    have hnb26 := NB165_166.out
    have hnc26 := NB166_165.out
    obtain ⟨_, _, _, _, _, _⟩ := cells3 BK165.out
    go_wp2_with (first | ((with_reducible refine gate_callee (f := 16) rfl ?_); refine goesL_ (some 21) rfl rfl Try.func16 (by kernel_rfl) rfl #[.agg #[.int .i64 a0_0, .int .i64 a0_1, .slice A0_2 l0_2.length c0_2]] rfl (z2) ?_; (with_reducible refine (spec_TableOk.calls k a0_0 a0_1 _ _ l0_2 true _ ?side1 ?side2 A9.out).mono ?_); (case side1 => repeat (first | exact (Kd.C_below HR0_2.out HB.out) | (with_reducible refine Kd.C_alloc ?_ _) | (with_reducible refine Kd.C_drewN ?_ _) | (with_reducible refine Kd.C_drew ?_))); (case side2 => exact HC0_2.out); rintro e w28 ⟨rfl, hb⟩; refine ⟨_, rfl, ?_⟩; replace BK165 := Ax (blk_below (g := gb165) (zK) hb); replace BK166 := Ax (blk_below (g := gb166) (zK) hb); replace HB := Ax (below_step (zHB) hb); (try clear hb); (try clear hb2); (try clear hk); (try clear hi); obtain ⟨_, _, _, _, _, _⟩ := cells3 BK165.out) | (go_at_call 49; (with_reducible refine (spec_l6In.calls a1 0 (wrap64 (a0_0 - 1)) true _ A11.out).mono ?_); rintro e w' ⟨rfl, ⟨nd, rfl⟩⟩) | (go_at_call 49; (with_reducible refine (spec_l6In.calls a2 0 (wrap64 (a0_1 - 1)) false _ A13.out).mono ?_); rintro e w' ⟨rfl, ⟨nd, rfl⟩⟩))
    go_meet
    exact ⟨_, (true), (z3), H', ⟨z10⟩, ⟨zK⟩, ⟨zK⟩, ⟨zHB⟩⟩
  rw [if_pos rfl] at H
  obtain ⟨t170, A15, H⟩ := bnd H
  obtain rfl | rfl := tf t170
  · rw [if_pos rfl] at H
    obtain ⟨t171, A17, H⟩ := bnd H
    have H' := Ax H
    clear H
    have hnb18 := NB165_166.out
    have hnc18 := NB166_165.out
    obtain ⟨_, _, _, _, _, _⟩ := cells3 BK165.out
    go_wp2_with (first | ((with_reducible refine gate_callee (f := 16) rfl ?_); refine goesL_ (some 21) rfl rfl Try.func16 (by kernel_rfl) rfl #[.agg #[.int .i64 a0_0, .int .i64 a0_1, .slice A0_2 l0_2.length c0_2]] rfl (z2) ?_; (with_reducible refine (spec_TableOk.calls k a0_0 a0_1 _ _ l0_2 true _ ?side1 ?side2 A9.out).mono ?_); (case side1 => repeat (first | exact (Kd.C_below HR0_2.out HB.out) | (with_reducible refine Kd.C_alloc ?_ _) | (with_reducible refine Kd.C_drewN ?_ _) | (with_reducible refine Kd.C_drew ?_))); (case side2 => exact HC0_2.out); rintro e w20 ⟨rfl, hb⟩; refine ⟨_, rfl, ?_⟩; replace BK165 := Ax (blk_below (g := gb165) (zK) hb); replace BK166 := Ax (blk_below (g := gb166) (zK) hb); replace HB := Ax (below_step (zHB) hb); (try clear hb); (try clear hb2); (try clear hk); (try clear hi); obtain ⟨_, _, _, _, _, _⟩ := cells3 BK165.out) | (go_at_call 49; (with_reducible refine (spec_l6In.calls a1 0 (wrap64 (a0_0 - 1)) true _ A11.out).mono ?_); rintro e w' ⟨rfl, ⟨nd, rfl⟩⟩) | (go_at_call 49; (with_reducible refine (spec_l6In.calls a2 0 (wrap64 (a0_1 - 1)) true _ A13.out).mono ?_); rintro e w' ⟨rfl, ⟨nd, rfl⟩⟩) | (go_at_call 49; (with_reducible refine (spec_l6In.calls a3 1 (wrap64 (a0_0 - a1)) true _ A15.out).mono ?_); rintro e w' ⟨rfl, ⟨nd, rfl⟩⟩) | (go_at_call 49; (with_reducible refine (spec_l6In.calls a4 1 (wrap64 (a0_1 - a2)) t171 _ A17.out).mono ?_); rintro e w' ⟨rfl, ⟨nd, rfl⟩⟩))
    go_meet
    exact ⟨_, (!t171), (z3), H', ⟨z10⟩, ⟨zK⟩, ⟨zK⟩, ⟨zHB⟩⟩
  rw [if_neg Bool.false_ne_true] at H
  have H' := Ax H
  clear H
  have hnb22 := NB165_166.out
  have hnc22 := NB166_165.out
  obtain ⟨_, _, _, _, _, _⟩ := cells3 BK165.out
  go_wp2_with (first | ((with_reducible refine gate_callee (f := 16) rfl ?_); refine goesL_ (some 21) rfl rfl Try.func16 (by kernel_rfl) rfl #[.agg #[.int .i64 a0_0, .int .i64 a0_1, .slice A0_2 l0_2.length c0_2]] rfl (z2) ?_; (with_reducible refine (spec_TableOk.calls k a0_0 a0_1 _ _ l0_2 true _ ?side1 ?side2 A9.out).mono ?_); (case side1 => repeat (first | exact (Kd.C_below HR0_2.out HB.out) | (with_reducible refine Kd.C_alloc ?_ _) | (with_reducible refine Kd.C_drewN ?_ _) | (with_reducible refine Kd.C_drew ?_))); (case side2 => exact HC0_2.out); rintro e w24 ⟨rfl, hb⟩; refine ⟨_, rfl, ?_⟩; replace BK165 := Ax (blk_below (g := gb165) (zK) hb); replace BK166 := Ax (blk_below (g := gb166) (zK) hb); replace HB := Ax (below_step (zHB) hb); (try clear hb); (try clear hb2); (try clear hk); (try clear hi); obtain ⟨_, _, _, _, _, _⟩ := cells3 BK165.out) | (go_at_call 49; (with_reducible refine (spec_l6In.calls a1 0 (wrap64 (a0_0 - 1)) true _ A11.out).mono ?_); rintro e w' ⟨rfl, ⟨nd, rfl⟩⟩) | (go_at_call 49; (with_reducible refine (spec_l6In.calls a2 0 (wrap64 (a0_1 - 1)) true _ A13.out).mono ?_); rintro e w' ⟨rfl, ⟨nd, rfl⟩⟩) | (go_at_call 49; (with_reducible refine (spec_l6In.calls a3 1 (wrap64 (a0_0 - a1)) false _ A15.out).mono ?_); rintro e w' ⟨rfl, ⟨nd, rfl⟩⟩))
  go_meet
  exact ⟨_, (true), (z3), H', ⟨z10⟩, ⟨zK⟩, ⟨zK⟩, ⟨zHB⟩⟩
 clear HC6
 obtain ⟨kq, x56_5, rfl, HA, HJ5, BK165, BK166, HB⟩ := hcut
 cases kq with
 | zero => exact absurd HA.out (by simp [spec_TableMerge.j0])
 | succ kj5 =>
  have H := HA.out
  clear HA
  simp only [spec_TableMerge.j0] at H
  obtain rfl | rfl := tf x56_5
  · rw [if_pos rfl] at H
    simp only [Option.some.injEq, Prod.mk.injEq] at H
    obtain ⟨rfl, rfl, rfl, rfl⟩ := H
    have hnb38 := NB166_165.out
    have hnc38 := NB165_166.out
    obtain ⟨_, _, _, _, _, _⟩ := cells3 BK166.out
    go_wp2
    refine bodyPost_ret (results_ct rfl _ _ gb166 25 #[.int .i64 0, .int .i64 0, .slice none 0 0] (0, 0) _ rfl (zK) Try.underlying25 rfl (by kernel_rfl)) rfl ?_
    exact ⟨_, z5, z4, zHB⟩
  rw [if_neg Bool.false_ne_true] at H
  have H' := Ax H
  clear H
  go_wp2_with (first | ((with_reducible refine gate_dst (N := 12) rfl ?_); refine box_event ?hg (N := 12) ?hd (cs := #[.int .i64 0, .int .i64 0, .int .i64 0, .int .i64 0, .slice none 0 0]) (t := 30) ?hr ?_; (case hd => rfl); (case hg => rfl); (case hr => first | (go_simp; done) | (go_simp; rfl)); intro gb172 hg w40 hbox hb; have BK172 := Ax (hbox); have GW172 := Ax ((z6 : w.heap.size ≤ gb172)); have GE172 := Ax ((z6 : w.heap.size ≤ gb172)); replace HB := Ax (below_step (zHB) hb); have NB165_172 := Ax ((z7 : gb165 ≠ gb172)); have NB172_165 := Ax ((z8 : gb172 ≠ gb165)); replace BK165 := Ax (blk_below (g := gb165) (zK) hb); have NB166_172 := Ax ((z11 : gb166 ≠ gb172)); have NB172_166 := Ax ((z12 : gb172 ≠ gb166)); replace BK166 := Ax (blk_below (g := gb166) (zK) hb); clear hb hbox hg; have hnb41 := NB172_165.out; have hnc41 := NB165_172.out; have hnb42 := NB172_166.out; have hnc42 := NB166_172.out; obtain ⟨hcz43_0, hcz43_1, hcz43_2, hcz43_3, hcz43_4, hfz43_0, hfz43_1, hfz43_2, hfz43_3, hfz43_4⟩ := cells5 BK172.out; have hnb44 := NB165_166.out; have hnc44 := NB166_165.out; obtain ⟨hcz45_0, hcz45_1, hcz45_2, hfz45_0, hfz45_1, hfz45_2⟩ := cells3 BK165.out) | ((with_reducible refine gate_dst (N := 13) rfl ?_); refine box_event ?hg (N := 13) ?hd (cs := #[.int .i64 0, .int .i64 0, .slice none 0 0]) (t := 25) ?hr ?_; (case hd => rfl); (case hg => rfl); (case hr => first | (go_simp; done) | (go_simp; rfl)); intro gb173 hg w46 hbox hb; have BK173 := Ax (hbox); have GW173 := Ax ((z6 : w.heap.size ≤ gb173)); have GE173 := Ax ((z6 : w.heap.size ≤ gb173)); replace HB := Ax (below_step (zHB) hb); have NB165_173 := Ax ((z7 : gb165 ≠ gb173)); have NB173_165 := Ax ((z8 : gb173 ≠ gb165)); replace BK165 := Ax (blk_below (g := gb165) (zK) hb); have NB166_173 := Ax ((z11 : gb166 ≠ gb173)); have NB173_166 := Ax ((z12 : gb173 ≠ gb166)); replace BK166 := Ax (blk_below (g := gb166) (zK) hb); have NB172_173 := Ax ((by rw [hg]; exact Nat.ne_of_lt (blk_lt (g := gb172) (o := .cells #[.int .i64 a1, .int .i64 a2, .int .i64 a3, .int .i64 a4, .slice none 0 0] 30 (0, 0)) (zK)) : gb172 ≠ gb173)); have NB173_172 := Ax ((by rw [hg]; exact Nat.ne_of_gt (blk_lt (g := gb172) (o := .cells #[.int .i64 a1, .int .i64 a2, .int .i64 a3, .int .i64 a4, .slice none 0 0] 30 (0, 0)) (zK)) : gb173 ≠ gb172)); replace BK172 := Ax (blk_below (g := gb172) (o := .cells #[.int .i64 a1, .int .i64 a2, .int .i64 a3, .int .i64 a4, .slice none 0 0] 30 (0, 0)) (zK) hb); clear hb hbox hg; have hnb47 := NB173_165.out; have hnc47 := NB165_173.out; have hnb48 := NB173_166.out; have hnc48 := NB166_173.out; have hnb49 := NB173_172.out; have hnc49 := NB172_173.out; obtain ⟨hcz50_0, hcz50_1, hcz50_2, hfz50_0, hfz50_1, hfz50_2⟩ := cells3 BK173.out))
  go_loopg [14, 15] kj5 (fun kq v14 v15 w' => ∃ (x14_2 : Int) (x15_2 : Int) (x167000_2 : Int) (x167001_2 : Int) (x173004_2 : List (S61)) (x174002_2 : List (S30)) (u173004 : Value) (u174002 : Value), v14 = .int .i64 x14_2 ∧ v15 = .int .i64 x15_2 ∧ Aside0 (spec_TableMerge.l0 kq x14_2 x15_2 a0_0 a0_1 l0_2 a1 a2 a3 a4 x173004_2 a0_0 a0_1 x174002_2 = some (r1, r2, r3, r4)) ∧ Aside0 (kq ≤ kj5) ∧ Aside0 (Kd.R k61 61 w' w.heap.size (fun k_ => (w.heap.size ≤ k_)) u173004 x173004_2) ∧ Aside0 (Kd.N k30 30 w' w.heap.size (fun k_ => (w.heap.size ≤ k_) ∧ some k_ ≠ (u173004 : Value).ownBlock ∧ k_ ≠ gb165 ∧ k_ ≠ gb166 ∧ k_ ≠ gb172 ∧ k_ ≠ gb173) u174002 x174002_2) ∧ Aside0 (w'.heap[gb165]? = some (.cells #[.int .i64 a0_0, .int .i64 a0_1, (.slice A0_2 l0_2.length c0_2)] 25 (0, 0))) ∧ Aside0 (w'.heap[gb166]? = some (.cells #[.int .i64 x167000_2, .int .i64 x167001_2, (.slice none 0 0)] 25 (0, 0))) ∧ Aside0 (w'.heap[gb172]? = some (.cells #[.int .i64 a1, .int .i64 a2, .int .i64 a3, .int .i64 a4, u173004] 30 (0, 0))) ∧ Aside0 (w'.heap[gb173]? = some (.cells #[.int .i64 a0_0, .int .i64 a0_1, u174002] 25 (0, 0))) ∧ Aside0 (Below w.heap.size w w'))
  case atStart => exact ⟨(0), (0), (0), (0), (([] : List (S61))), (([] : List (S30))), (.slice none 0 0), (.slice none 0 0), (z3), (z3), H', ⟨Nat.le_refl _⟩, ⟨by first | exact Kd.R_nil _ _ _ _ _ | exact Kd.N_nil _ _ _ _ _ | exact Kd.V_nil _ _ _ _ _ | exact Kd.Q_nil _ _ _ _ _ | exact Kd.S_nil _ _ _ _ _⟩, ⟨z4⟩, ⟨zK⟩, ⟨zK⟩, ⟨zK⟩, ⟨zK⟩, ⟨zHB⟩⟩
  clear H'
  (try clear hcz43_0); (try clear hcz43_1); (try clear hcz43_2); (try clear hcz43_3); (try clear hcz43_4); (try clear hcz45_0); (try clear hcz45_1); (try clear hcz45_2); (try clear hcz50_0); (try clear hcz50_1); (try clear hcz50_2); (try clear hfz43_0); (try clear hfz43_1); (try clear hfz43_2); (try clear hfz43_3); (try clear hfz43_4); (try clear hfz45_0); (try clear hfz45_1); (try clear hfz45_2); (try clear hfz50_0); (try clear hfz50_1); (try clear hfz50_2)
  obtain ⟨x14_2, x15_2, x167000_2, x167001_2, x173004_2, x174002_2, u173004, u174002, rfl, rfl, HA, HK2, HO_173004, HO_174002, BK165, BK166, BK172, BK173, HB⟩ := hrel
  cases gk with
  | zero => exact absurd HA.out (by simp [spec_TableMerge.l0])
  | succ k2 =>
   have H := HA.out
   clear HA
   simp only [spec_TableMerge.l0] at H
   by_cases c51 : x15_2 < (l0_2.length : Int)
   rotate_left
   · rw [if_neg c51] at H
     have c51b0 := decide_eq_false c51
     clear c51
     by_cases c145 : x14_2 < 2
     · rw [if_pos c145] at H
       have c145b0 := decide_eq_true c145
       clear c145
       simp only [Option.some.injEq, Prod.mk.injEq] at H
       obtain ⟨rfl, rfl, rfl, rfl⟩ := H
       have hnb146 := NB165_166.out
       have hnc146 := NB166_165.out
       have hnb147 := NB165_172.out
       have hnc147 := NB172_165.out
       have hnb148 := NB165_173.out
       have hnc148 := NB173_165.out
       obtain ⟨_, _, _, _, _, _⟩ := cells3 BK165.out
       have hnb150 := NB166_172.out
       have hnc150 := NB172_166.out
       have hnb151 := NB166_173.out
       have hnc151 := NB173_166.out
       obtain ⟨_, _, _, _, _, _⟩ := cells3 BK166.out
       go_wp2
       refine bodyPost_ret (results_ct rfl _ _ gb166 25 #[.int .i64 0, .int .i64 0, .slice none 0 0] (0, 0) _ rfl (zK) Try.underlying25 rfl (by kernel_rfl)) rfl ?_
       exact ⟨_, z5, z4, zHB⟩
     rw [if_neg c145] at H
     have c145b0 := decide_eq_false c145
     clear c145
     obtain ⟨t189, A153, H⟩ := bnd H
     obtain rfl | rfl := tf t189
     rotate_left
     · rw [if_neg Bool.false_ne_true] at H
       simp only [Option.some.injEq, Prod.mk.injEq] at H
       obtain ⟨rfl, rfl, rfl, rfl⟩ := H
       have hnb175 := NB165_166.out
       have hnc175 := NB166_165.out
       have hnb176 := NB165_172.out
       have hnc176 := NB172_165.out
       have hnb177 := NB165_173.out
       have hnc177 := NB173_165.out
       obtain ⟨_, _, _, _, _, _⟩ := cells3 BK165.out
       have hnb179 := NB172_166.out
       have hnc179 := NB166_172.out
       have hnb180 := NB172_173.out
       have hnc180 := NB173_172.out
       obtain ⟨_, _, _, _, _, _, _, _, _, _⟩ := cells5 BK172.out
       obtain ⟨Ao182, co182, eo182⟩ := Kd.R_slice HO_173004.out
       subst eo182
       go_wp2_with (first | (go_at_call 64; (with_reducible refine (spec_TextOk.calls k2 _ _ x173004_2 false _ ?side1 ?side2 A153.out).mono ?_); (case side1 => repeat (first | exact (Kd.R_reads' HO_173004.out).2.2 | (with_reducible refine Kd.C_alloc ?_ _) | (with_reducible refine Kd.C_drewN ?_ _) | (with_reducible refine Kd.C_drew ?_))); (case side2 => exact (Kd.R_reads' HO_173004.out).2.1); rintro e w183 ⟨rfl, hb⟩; replace HO_173004 := Ax (Kd.R_below (z0) hb); replace HO_174002 := Ax (Kd.N_below (z1) hb); replace BK165 := Ax (blk_below (g := gb165) (zK) hb); replace BK166 := Ax (blk_below (g := gb166) (zK) hb); replace BK172 := Ax (blk_below (g := gb172) (zK) hb); replace BK173 := Ax (blk_below (g := gb173) (zK) hb); replace HB := Ax (below_step (zHB) hb); (try clear hb); (try clear hb2); (try clear hk); (try clear hi); have hnb184 := NB166_173.out; have hnc184 := NB173_166.out; obtain ⟨_, _, _, _, _, _⟩ := cells3 BK166.out))
       refine bodyPost_ret (results_ct rfl _ _ gb166 25 #[.int .i64 0, .int .i64 0, .slice none 0 0] (0, 0) _ rfl (zK) Try.underlying25 rfl (by kernel_rfl)) rfl ?_
       exact ⟨_, z5, z4, zHB⟩
     rw [if_pos rfl] at H
     by_cases c155 : x174002_2.length < 2513169434916
     rotate_left
     · rw [if_neg c155] at H
       exact absurd H (by simp)
     rw [if_pos c155] at H
     have LMc155 := Ax c155
     clear c155
     obtain ⟨y190, hy_⟩ : ∃ y_ : List (S30), y_ = (x174002_2 ++ [(⟨a1, a2, a3, a4, x173004_2⟩ : S30)]) := ⟨_, rfl⟩
     replace H : ((spec_l2Sort.f k2 y190).bind fun t193 => (some (a0_0, a0_1, t193, true))) = some (r1, r2, r3, r4) := zy
     have Ny190 := Ax hy_
     clear hy_
     obtain ⟨t193, A156, H⟩ := bnd H
     simp only [Option.some.injEq, Prod.mk.injEq] at H
     obtain ⟨rfl, rfl, rfl, rfl⟩ := H
     have hnb157 := NB165_166.out
     have hnc157 := NB166_165.out
     have hnb158 := NB165_172.out
     have hnc158 := NB172_165.out
     have hnb159 := NB165_173.out
     have hnc159 := NB173_165.out
     obtain ⟨_, _, _, _, _, _⟩ := cells3 BK165.out
     have hnb161 := NB172_166.out
     have hnc161 := NB166_172.out
     have hnb162 := NB172_173.out
     have hnc162 := NB173_172.out
     obtain ⟨_, _, _, _, _, _, _, _, _, _⟩ := cells5 BK172.out
     obtain ⟨Ao164, co164, eo164⟩ := Kd.R_slice HO_173004.out
     subst eo164
     go_wp2_with (first | (go_at_call 64; (with_reducible refine (spec_TextOk.calls k2 _ _ x173004_2 true _ ?side1 ?side2 A153.out).mono ?_); (case side1 => repeat (first | exact (Kd.R_reads' HO_173004.out).2.2 | (with_reducible refine Kd.C_alloc ?_ _) | (with_reducible refine Kd.C_drewN ?_ _) | (with_reducible refine Kd.C_drew ?_))); (case side2 => exact (Kd.R_reads' HO_173004.out).2.1); rintro e w165 ⟨rfl, hb⟩; replace HO_173004 := Ax (Kd.R_below (z0) hb); replace HO_174002 := Ax (Kd.N_below (z1) hb); replace BK165 := Ax (blk_below (g := gb165) (zK) hb); replace BK166 := Ax (blk_below (g := gb166) (zK) hb); replace BK172 := Ax (blk_below (g := gb172) (zK) hb); replace BK173 := Ax (blk_below (g := gb173) (zK) hb); replace HB := Ax (below_step (zHB) hb); (try clear hb); (try clear hb2); (try clear hk); (try clear hi); have hnb166 := NB173_166.out; have hnc166 := NB166_173.out; obtain ⟨_, _, _, _, _, _⟩ := cells3 BK173.out; obtain ⟨_, _, _, _, _, _, _, _, _, _⟩ := cells5 BK172.out) | ((with_reducible refine gate_builtin (b := .append) (xs := #[.tmp 148, .tmp 150]) rfl ?_); at_builtin; refine Kd.N_append k30 (w0 := w) w.heap.size rfl (.tmp 148) (.tmp 150) 23 30 (.agg #[(.int .i64 0), (.int .i64 0), (.int .i64 0), (.int .i64 0), (.slice none 0 0)]) 56 rfl Try.underlying23 info30 rfl (by decide) (by omega) u174002 x174002_2 (⟨a1, a2, a3, a4, x173004_2⟩ : S30) [.int .i64 a1, .int .i64 a2, .int .i64 a3, .int .i64 a4, .slice Ao164 x173004_2.length co164] (fun k_ => (w.heap.size ≤ k_) ∧ k_ ≠ gb165 ∧ k_ ≠ gb166 ∧ k_ ≠ gb172 ∧ k_ ≠ gb173) (fun k_ => ((fun k_ => (w.heap.size ≤ k_) ∧ k_ ≠ gb165 ∧ k_ ≠ gb166 ∧ k_ ≠ gb172 ∧ k_ ≠ gb173)) k_ ∧ some k_ ≠ (u174002 : Value).ownBlock) rfl rfl ?aP (fun _ hk => hk) ?aF ?aO ?aB ?aS ?aL ?_; (case aP => exact (k30_mkF _ _ (⟨a1, a2, a3, a4, x173004_2⟩ : S30) (Kd.R_reads' (Kd.R_mono (ok' := (fun k_ => ((fun k_ => (w.heap.size ≤ k_) ∧ k_ ≠ gb165 ∧ k_ ≠ gb166 ∧ k_ ≠ gb172 ∧ k_ ≠ gb173)) k_ ∧ some k_ ≠ (u174002 : Value).ownBlock)) (Kd.R_types (Kd.R_types (Kd.R_types (Kd.R_types (Kd.R_apart' (HO_173004.out) (Kd.N_typed HO_174002.out) (by decide)) BK165.out (by decide)) BK166.out (by decide)) BK172.out (by decide)) BK173.out (by decide)) (fun k_ hk => ⟨⟨hk.1.1.1.1.1, ⟨hk.1.1.1.2, ⟨hk.1.1.2, ⟨hk.1.2, hk.2⟩⟩⟩⟩, hk.1.1.1.1.2⟩))).2.1 (Kd.R_F (Kd.R_mono (ok' := (fun k_ => ((fun k_ => (w.heap.size ≤ k_) ∧ k_ ≠ gb165 ∧ k_ ≠ gb166 ∧ k_ ≠ gb172 ∧ k_ ≠ gb173)) k_ ∧ some k_ ≠ (u174002 : Value).ownBlock)) (Kd.R_types (Kd.R_types (Kd.R_types (Kd.R_types (Kd.R_apart' (HO_173004.out) (Kd.N_typed HO_174002.out) (by decide)) BK165.out (by decide)) BK166.out (by decide)) BK172.out (by decide)) BK173.out (by decide)) (fun k_ hk => ⟨⟨hk.1.1.1.1.1, ⟨hk.1.1.1.2, ⟨hk.1.1.2, ⟨hk.1.2, hk.2⟩⟩⟩⟩, hk.1.1.1.1.2⟩))))); (case aB => exact (zHB)); (case aF => exact (fun k_ hk => ⟨(Nat.le_trans (below_size (zHB)) hk), Kd.freshB (g := gb165) (o := .cells #[.int .i64 a0_0, .int .i64 a0_1, .slice A0_2 l0_2.length c0_2] 25 (0, 0)) (zK) k_ hk, Kd.freshB (g := gb166) (o := .cells #[.int .i64 x167000_2, .int .i64 x167001_2, .slice none 0 0] 25 (0, 0)) (zK) k_ hk, Kd.freshB (g := gb172) (o := .cells #[.int .i64 a1, .int .i64 a2, .int .i64 a3, .int .i64 a4, .slice Ao164 x173004_2.length co164] 30 (0, 0)) (zK) k_ hk, Kd.freshB (g := gb173) (o := .cells #[.int .i64 a0_0, .int .i64 a0_1, u174002] 25 (0, 0)) (zK) k_ hk⟩)); (case aO => exact (by (with_reducible repeat (first | apply Kd.N_alloc | apply Kd.N_drewN | apply Kd.N_drew)); exact Kd.N_mono HO_174002.out (fun _ hk => ⟨hk.1, ⟨hk.2.2.1, ⟨hk.2.2.2.1, ⟨hk.2.2.2.2.1, hk.2.2.2.2.2⟩⟩⟩⟩))); (case aS => exact (below_size (zHB))); (case aL => have := LMc155.out; omega); intro v191 w169 ho hb hg hat; rw [← Ny190.out] at ho; replace BK165 := Ax (blk_grown (g := gb165) (zK) hg (Kd.N_ne HO_174002.out BK165.out (by decide))); replace BK166 := Ax (blk_grown (g := gb166) (zK) hg (Kd.N_ne HO_174002.out BK166.out (by decide))); replace BK172 := Ax (blk_grown (g := gb172) (zK) hg (Kd.N_away HO_174002.out (fun _ hk => by first | exact hk.2.2.2.2.1 | exact hk.1.2.2.2.2.1))); replace BK173 := Ax (blk_grown (g := gb173) (zK) hg (Kd.N_ne HO_174002.out BK173.out (by decide))); replace HB := Ax (hb); have HO192 := Ax (ho); clear HO_174002 HO_173004; clear ho hb hg hat; obtain ⟨Ao170, co170, eo170⟩ := Kd.N_slice HO192.out; subst eo170) | ((with_reducible refine gate_callee (f := 52) rfl ?_); refine goesL_ (some 152) rfl rfl Try.func52 (by kernel_rfl) rfl #[.slice Ao170 y190.length co170] rfl (z2) ?_; (with_reducible refine (spec_l2Sort.calls k2 (fun k_ => ((w.heap.size ≤ k_) ∧ (k_ ≠ gb165 ∧ (k_ ≠ gb166 ∧ (k_ ≠ gb172 ∧ k_ ≠ gb173))))) _ _ y190 t193 _ ?side1 A156.out).mono ?_); (case side1 => exact Kd.N_V (HO192.out)); rintro e w171 ⟨v194, rfl, ho0, hb⟩; refine ⟨_, rfl, ?_⟩; replace HO192 := Ax (Kd.N_elder' (by (with_reducible repeat (first | apply Kd.N_alloc | apply Kd.N_drewN | apply Kd.N_drew)); exact HO192.out) (Kd.N_base ho0) hb); have HO195 := Ax (Kd.N_lower (Kd.N_mono (ok' := fun k_ => (w.heap.size ≤ k_) ∧ k_ ≠ gb165 ∧ k_ ≠ gb166 ∧ k_ ≠ gb172 ∧ k_ ≠ gb173) ho0 (fun k_ hk_ => ⟨Or.elim hk_ (fun hs_ => hs_.1) (fun hn_ => (Nat.le_trans (below_size (zHB)) hn_)), Or.elim hk_ (fun hs_ => hs_.2.1) (fun hn_ => (Kd.freshB (g := gb165) (o := .cells #[.int .i64 a0_0, .int .i64 a0_1, .slice A0_2 l0_2.length c0_2] 25 (0, 0)) (zK) k_ hn_)), Or.elim hk_ (fun hs_ => hs_.2.2.1) (fun hn_ => (Kd.freshB (g := gb166) (o := .cells #[.int .i64 x167000_2, .int .i64 x167001_2, .slice none 0 0] 25 (0, 0)) (zK) k_ hn_)), Or.elim hk_ (fun hs_ => hs_.2.2.2.1) (fun hn_ => (Kd.freshB (g := gb172) (o := .cells #[.int .i64 a1, .int .i64 a2, .int .i64 a3, .int .i64 a4, .slice Ao164 x173004_2.length co164] 30 (0, 0)) (zK) k_ hn_)), Or.elim hk_ (fun hs_ => hs_.2.2.2.2) (fun hn_ => (Kd.freshB (g := gb173) (o := .cells #[.int .i64 a0_0, .int .i64 a0_1, u174002] 25 (0, 0)) (zK) k_ hn_))⟩)) (below_size (zHB))); replace BK165 := Ax (blk_below (g := gb165) (zK) hb); replace BK166 := Ax (blk_below (g := gb166) (zK) hb); replace BK172 := Ax (blk_below (g := gb172) (zK) hb); replace BK173 := Ax (blk_below (g := gb173) (zK) hb); replace HB := Ax (below_step (zHB) hb); (try clear hb); (try clear hb2); (try clear hk); (try clear hi); (try clear ho0); obtain ⟨Ao172, co172, eo172⟩ := Kd.N_slice HO195.out; subst eo172; obtain ⟨_, _, _, _, _, _⟩ := cells3 BK173.out; obtain ⟨_, _, _, _, _, _⟩ := cells3 BK166.out))
     refine bodyPost_ret (results_ct rfl _ _ gb166 25 #[.int .i64 a0_0, .int .i64 a0_1, .slice Ao172 t193.length co172] (0, 0) _ rfl (zK) Try.underlying25 rfl (by kernel_rfl)) rfl ?_
     exact ⟨_, z5, by (with_reducible repeat (first | apply Kd.N_alloc | apply Kd.N_drewN | apply Kd.N_drew)); exact Kd.N_mono (Kd.N_far (p := ⟨gb166, 2, none⟩) (Kd.N_far (p := ⟨gb166, 1, none⟩) (Kd.N_far (p := ⟨gb166, 0, none⟩) (Kd.N_far (p := ⟨gb173, 2, none⟩) (Kd.N_mono (Kd.N_mono HO195.out (fun k_ hk => (⟨hk, hk.2.2.2.2⟩ : _ ∧ k_ ≠ gb173))) (fun k_ hk => (⟨hk, hk.1.2.2.1⟩ : _ ∧ k_ ≠ gb166))) (fun _ hk => hk.1.2) (.slice Ao172 t193.length co172)) (fun _ hk => hk.2) (.int .i64 a0_0)) (fun _ hk => hk.2) (.int .i64 a0_1)) (fun _ hk => hk.2) (.slice Ao172 t193.length co172)) (fun _ hk => hk.1.1.1), zHB⟩
   rw [if_pos c51] at H
   have c51b0 := decide_eq_true c51
   clear c51
   by_cases c52 : 0 ≤ x15_2
   rotate_left
   · rw [if_neg c52] at H
     exact absurd H (by simp)
   rw [if_pos c52] at H
   have c52b0 := decide_eq_true c52
   clear c52
   have H' := Ax H
   clear H
   have hnb53 := NB165_166.out
   have hnc53 := NB166_165.out
   have hnb54 := NB165_172.out
   have hnc54 := NB172_165.out
   have hnb55 := NB165_173.out
   have hnc55 := NB173_165.out
   obtain ⟨hcz56_0, hcz56_1, hcz56_2, hfz56_0, hfz56_1, hfz56_2⟩ := cells3 BK165.out
   have p174 : 0 ≤ (x15_2 : Int) := of_decide_eq_true (by first | (with_reducible assumption) | assumption)
   have q174 : x15_2 < (l0_2.length : Int) := of_decide_eq_true (by first | (with_reducible assumption) | assumption)
   obtain ⟨ad174, A174_4, c174_4, e174, hx174_0, hx174_1, hx174_2, hx174_3, hx174_4, hl174_4, hi174_4⟩ := at_T30 HR0_2.out x15_2 p174 q174
   cases e174
   replace hx174_0 := (HB.out.cell (World.block_lt_of_cell? w _ hx174_0)).trans hx174_0
   replace hx174_1 := (HB.out.cell (World.block_lt_of_cell? w _ hx174_1)).trans hx174_1
   replace hx174_2 := (HB.out.cell (World.block_lt_of_cell? w _ hx174_2)).trans hx174_2
   replace hx174_3 := (HB.out.cell (World.block_lt_of_cell? w _ hx174_3)).trans hx174_3
   replace hx174_4 := (HB.out.cell (World.block_lt_of_cell? w _ hx174_4)).trans hx174_4
   have HR174_4 := Ax hi174_4
   have HC174_4 := Ax hl174_4
   clear hi174_4 hl174_4
   replace p174 := eq_true p174
   replace q174 := eq_true q174
   go_wp2_with (first | ((with_reducible refine gate_dst (N := 16) rfl ?_); refine box_event ?hg (N := 16) ?hd (cs := #[.int .i64 0, .int .i64 0, .int .i64 0, .int .i64 0, .slice none 0 0]) (t := 30) ?hr ?_; (case hd => rfl); (case hg => rfl); (case hr => first | (go_simp; done) | (go_simp; rfl)); intro gb175 hg w57 hbox hb; replace HO_173004 := Ax (Kd.R_below (z0) hb); replace HO_174002 := Ax (Kd.N_below (Kd.N_elderB (z1) gb175 (Nat.le_of_eq hg.symm)) hb); have BK175 := Ax (hbox); have GW175 := Ax ((z6 : w.heap.size ≤ gb175)); have GE175 := Ax ((z6 : w.heap.size ≤ gb175)); replace HB := Ax (below_step (zHB) hb); have NB165_175 := Ax ((z7 : gb165 ≠ gb175)); have NB175_165 := Ax ((z8 : gb175 ≠ gb165)); replace BK165 := Ax (blk_below (g := gb165) (zK) hb); have NB166_175 := Ax ((z11 : gb166 ≠ gb175)); have NB175_166 := Ax ((z12 : gb175 ≠ gb166)); replace BK166 := Ax (blk_below (g := gb166) (zK) hb); have NB172_175 := Ax ((by rw [hg]; exact Nat.ne_of_lt (blk_lt (g := gb172) (zK)) : gb172 ≠ gb175)); have NB175_172 := Ax ((by rw [hg]; exact Nat.ne_of_gt (blk_lt (g := gb172) (zK)) : gb175 ≠ gb172)); replace BK172 := Ax (blk_below (g := gb172) (zK) hb); have NB173_175 := Ax ((by rw [hg]; exact Nat.ne_of_lt (blk_lt (g := gb173) (zK)) : gb173 ≠ gb175)); have NB175_173 := Ax ((by rw [hg]; exact Nat.ne_of_gt (blk_lt (g := gb173) (zK)) : gb175 ≠ gb173)); replace BK173 := Ax (blk_below (g := gb173) (zK) hb); clear hb hbox hg; have hnb58 := NB175_165.out; have hnc58 := NB165_175.out; have hnb59 := NB175_166.out; have hnc59 := NB166_175.out; have hnb60 := NB175_172.out; have hnc60 := NB172_175.out; have hnb61 := NB175_173.out; have hnc61 := NB173_175.out; obtain ⟨hcz62_0, hcz62_1, hcz62_2, hcz62_3, hcz62_4, hfz62_0, hfz62_1, hfz62_2, hfz62_3, hfz62_4⟩ := cells5 BK175.out))
   go_loopg [17, 18] k2 (fun kq v17 v18 w' => ∃ (x17_3 : Int) (x18_3 : Int), v17 = .int .i64 x17_3 ∧ v18 = .int .i64 x18_3 ∧ Aside0 (spec_TableMerge.l1 kq x14_2 x15_2 x17_3 x18_3 a0_0 a0_1 l0_2 a1 a2 a3 a4 x173004_2 a0_0 a0_1 x174002_2 ((rd_T30 l0_2 x15_2).f0) ((rd_T30 l0_2 x15_2).f1) ((rd_T30 l0_2 x15_2).f2) ((rd_T30 l0_2 x15_2).f3) ((rd_T30 l0_2 x15_2).f4) = some (r1, r2, r3, r4)) ∧ Aside0 (kq ≤ k2) ∧ Aside0 (Kd.R k61 61 w' w.heap.size (fun k_ => (w.heap.size ≤ k_)) u173004 x173004_2) ∧ Aside0 (Kd.N k30 30 w' w.heap.size (fun k_ => (w.heap.size ≤ k_) ∧ some k_ ≠ (u173004 : Value).ownBlock ∧ k_ ≠ gb165 ∧ k_ ≠ gb166 ∧ k_ ≠ gb172 ∧ k_ ≠ gb173 ∧ k_ ≠ gb175) u174002 x174002_2) ∧ Aside0 (w'.heap[gb165]? = some (.cells #[.int .i64 a0_0, .int .i64 a0_1, (.slice (some ad174) l0_2.length c0_2)] 25 (0, 0))) ∧ Aside0 (w'.heap[gb166]? = some (.cells #[.int .i64 x167000_2, .int .i64 x167001_2, (.slice none 0 0)] 25 (0, 0))) ∧ Aside0 (w'.heap[gb172]? = some (.cells #[.int .i64 a1, .int .i64 a2, .int .i64 a3, .int .i64 a4, u173004] 30 (0, 0))) ∧ Aside0 (w'.heap[gb173]? = some (.cells #[.int .i64 a0_0, .int .i64 a0_1, u174002] 25 (0, 0))) ∧ Aside0 (w'.heap[gb175]? = some (.cells #[.int .i64 ((rd_T30 l0_2 x15_2).f0), .int .i64 ((rd_T30 l0_2 x15_2).f1), .int .i64 ((rd_T30 l0_2 x15_2).f2), .int .i64 ((rd_T30 l0_2 x15_2).f3), (.slice A174_4 ((rd_T30 l0_2 x15_2).f4).length c174_4)] 30 (0, 0))) ∧ Aside0 (Below w.heap.size w w'))
   case atStart => exact ⟨(0), ((rd_T30 l0_2 x15_2).f0), (z3), (z3), H', ⟨Nat.le_refl _⟩, ⟨by (with_reducible repeat (first | apply Kd.R_alloc | apply Kd.R_drewN | apply Kd.R_drew)); exact Kd.R_mono (Kd.R_far (p := ⟨gb175, 4, none⟩) (Kd.R_far (p := ⟨gb175, 3, none⟩) (Kd.R_far (p := ⟨gb175, 2, none⟩) (Kd.R_far (p := ⟨gb175, 1, none⟩) (Kd.R_far (p := ⟨gb175, 0, none⟩) (Kd.R_types HO_173004.out BK175.out (by decide)) (fun _ hk => hk.2) (.int .i64 ((rd_T30 l0_2 x15_2).f0))) (fun _ hk => hk.2) (.int .i64 ((rd_T30 l0_2 x15_2).f1))) (fun _ hk => hk.2) (.int .i64 ((rd_T30 l0_2 x15_2).f2))) (fun _ hk => hk.2) (.int .i64 ((rd_T30 l0_2 x15_2).f3))) (fun _ hk => hk.2) (.slice A174_4 ((rd_T30 l0_2 x15_2).f4).length c174_4)) (fun _ hk => hk.1)⟩, ⟨by (with_reducible repeat (first | apply Kd.N_alloc | apply Kd.N_drewN | apply Kd.N_drew)); exact Kd.N_mono (Kd.N_far (p := ⟨gb175, 4, none⟩) (Kd.N_far (p := ⟨gb175, 3, none⟩) (Kd.N_far (p := ⟨gb175, 2, none⟩) (Kd.N_far (p := ⟨gb175, 1, none⟩) (Kd.N_far (p := ⟨gb175, 0, none⟩) (Kd.N_mono HO_174002.out (fun k_ hk => (⟨hk, hk.2⟩ : _ ∧ k_ ≠ gb175))) (fun _ hk => hk.2) (.int .i64 ((rd_T30 l0_2 x15_2).f0))) (fun _ hk => hk.2) (.int .i64 ((rd_T30 l0_2 x15_2).f1))) (fun _ hk => hk.2) (.int .i64 ((rd_T30 l0_2 x15_2).f2))) (fun _ hk => hk.2) (.int .i64 ((rd_T30 l0_2 x15_2).f3))) (fun _ hk => hk.2) (.slice A174_4 ((rd_T30 l0_2 x15_2).f4).length c174_4)) (fun _ hk => ⟨hk.1.1.1, ⟨hk.1.1.2.1, ⟨hk.1.1.2.2.1, ⟨hk.1.1.2.2.2.1, ⟨hk.1.1.2.2.2.2.1, ⟨hk.1.1.2.2.2.2.2, hk.1.2⟩⟩⟩⟩⟩⟩)⟩, ⟨zK⟩, ⟨zK⟩, ⟨zK⟩, ⟨zK⟩, ⟨zK⟩, ⟨zHB⟩⟩
   clear H'
   (try clear c51); (try clear c51b0); (try clear c52); (try clear c52b0); (try clear hcz43_0); (try clear hcz43_1); (try clear hcz43_2); (try clear hcz43_3); (try clear hcz43_4); (try clear hcz45_0); (try clear hcz45_1); (try clear hcz45_2); (try clear hcz50_0); (try clear hcz50_1); (try clear hcz50_2); (try clear hcz56_0); (try clear hcz56_1); (try clear hcz56_2); (try clear hcz62_0); (try clear hcz62_1); (try clear hcz62_2); (try clear hcz62_3); (try clear hcz62_4); (try clear hfz43_0); (try clear hfz43_1); (try clear hfz43_2); (try clear hfz43_3); (try clear hfz43_4); (try clear hfz45_0); (try clear hfz45_1); (try clear hfz45_2); (try clear hfz50_0); (try clear hfz50_1); (try clear hfz50_2); (try clear hfz56_0); (try clear hfz56_1); (try clear hfz56_2); (try clear hfz62_0); (try clear hfz62_1); (try clear hfz62_2); (try clear hfz62_3); (try clear hfz62_4); (try clear hx174_0); (try clear hx174_1); (try clear hx174_2); (try clear hx174_3); (try clear hx174_4); (try clear p174); (try clear q174)
   obtain ⟨x17_3, x18_3, rfl, rfl, HA, HK3, HO_173004, HO_174002, BK165, BK166, BK172, BK173, BK175, HB⟩ := hrel
   cases gk with
   | zero => exact absurd HA.out (by simp [spec_TableMerge.l1])
   | succ k3 =>
    have H := HA.out
    clear HA
    simp only [spec_TableMerge.l1] at H
    by_cases c63 : x18_3 < (wrap64 (((rd_T30 l0_2 x15_2).f0) + ((rd_T30 l0_2 x15_2).f2)))
    · rw [if_pos c63] at H
      have c63b0 := decide_eq_true c63
      clear c63
      have H' := Ax H
      clear H
      have hnb64 := NB175_165.out
      have hnc64 := NB165_175.out
      have hnb65 := NB175_166.out
      have hnc65 := NB166_175.out
      have hnb66 := NB175_172.out
      have hnc66 := NB172_175.out
      have hnb67 := NB175_173.out
      have hnc67 := NB173_175.out
      obtain ⟨hcz68_0, hcz68_1, hcz68_2, hcz68_3, hcz68_4, hfz68_0, hfz68_1, hfz68_2, hfz68_3, hfz68_4⟩ := cells5 BK175.out
      go_wp2
      go_loopg [17, 19] k3 (fun kq v17 v19 w' => ∃ (x17_4 : Int) (x19_4 : Int), v17 = .int .i64 x17_4 ∧ v19 = .int .i64 x19_4 ∧ Aside0 (spec_TableMerge.l2 kq x14_2 x15_2 x17_4 x18_3 x19_4 a0_0 a0_1 l0_2 a1 a2 a3 a4 x173004_2 a0_0 a0_1 x174002_2 ((rd_T30 l0_2 x15_2).f0) ((rd_T30 l0_2 x15_2).f1) ((rd_T30 l0_2 x15_2).f2) ((rd_T30 l0_2 x15_2).f3) ((rd_T30 l0_2 x15_2).f4) = some (r1, r2, r3, r4)) ∧ Aside0 (kq ≤ k3) ∧ Aside0 (Kd.R k61 61 w' w.heap.size (fun k_ => (w.heap.size ≤ k_)) u173004 x173004_2) ∧ Aside0 (Kd.N k30 30 w' w.heap.size (fun k_ => (w.heap.size ≤ k_) ∧ some k_ ≠ (u173004 : Value).ownBlock ∧ k_ ≠ gb165 ∧ k_ ≠ gb166 ∧ k_ ≠ gb172 ∧ k_ ≠ gb173 ∧ k_ ≠ gb175) u174002 x174002_2) ∧ Aside0 (w'.heap[gb165]? = some (.cells #[.int .i64 a0_0, .int .i64 a0_1, (.slice (some ad174) l0_2.length c0_2)] 25 (0, 0))) ∧ Aside0 (w'.heap[gb166]? = some (.cells #[.int .i64 x167000_2, .int .i64 x167001_2, (.slice none 0 0)] 25 (0, 0))) ∧ Aside0 (w'.heap[gb172]? = some (.cells #[.int .i64 a1, .int .i64 a2, .int .i64 a3, .int .i64 a4, u173004] 30 (0, 0))) ∧ Aside0 (w'.heap[gb173]? = some (.cells #[.int .i64 a0_0, .int .i64 a0_1, u174002] 25 (0, 0))) ∧ Aside0 (w'.heap[gb175]? = some (.cells #[.int .i64 ((rd_T30 l0_2 x15_2).f0), .int .i64 ((rd_T30 l0_2 x15_2).f1), .int .i64 ((rd_T30 l0_2 x15_2).f2), .int .i64 ((rd_T30 l0_2 x15_2).f3), (.slice A174_4 ((rd_T30 l0_2 x15_2).f4).length c174_4)] 30 (0, 0))) ∧ Aside0 (Below w.heap.size w w'))
      case atStart => exact ⟨(x17_3), (((rd_T30 l0_2 x15_2).f1)), (z3), (z3), H', ⟨Nat.le_refl _⟩, ⟨z0⟩, ⟨z1⟩, ⟨zK⟩, ⟨zK⟩, ⟨zK⟩, ⟨zK⟩, ⟨zK⟩, ⟨zHB⟩⟩
      clear H'
      (try clear c51); (try clear c51b0); (try clear c52); (try clear c52b0); (try clear c63); (try clear c63b0); (try clear hcz43_0); (try clear hcz43_1); (try clear hcz43_2); (try clear hcz43_3); (try clear hcz43_4); (try clear hcz45_0); (try clear hcz45_1); (try clear hcz45_2); (try clear hcz50_0); (try clear hcz50_1); (try clear hcz50_2); (try clear hcz56_0); (try clear hcz56_1); (try clear hcz56_2); (try clear hcz62_0); (try clear hcz62_1); (try clear hcz62_2); (try clear hcz62_3); (try clear hcz62_4); (try clear hcz68_0); (try clear hcz68_1); (try clear hcz68_2); (try clear hcz68_3); (try clear hcz68_4); (try clear hfz43_0); (try clear hfz43_1); (try clear hfz43_2); (try clear hfz43_3); (try clear hfz43_4); (try clear hfz45_0); (try clear hfz45_1); (try clear hfz45_2); (try clear hfz50_0); (try clear hfz50_1); (try clear hfz50_2); (try clear hfz56_0); (try clear hfz56_1); (try clear hfz56_2); (try clear hfz62_0); (try clear hfz62_1); (try clear hfz62_2); (try clear hfz62_3); (try clear hfz62_4); (try clear hfz68_0); (try clear hfz68_1); (try clear hfz68_2); (try clear hfz68_3); (try clear hfz68_4); (try clear hx174_0); (try clear hx174_1); (try clear hx174_2); (try clear hx174_3); (try clear hx174_4); (try clear p174); (try clear q174)
      obtain ⟨x17_4, x19_4, rfl, rfl, HA, HK4, HO_173004, HO_174002, BK165, BK166, BK172, BK173, BK175, HB⟩ := hrel
      cases gk with
      | zero => exact absurd HA.out (by simp [spec_TableMerge.l2])
      | succ k4 =>
       have H := HA.out
       clear HA
       simp only [spec_TableMerge.l2] at H
       by_cases c69 : x19_4 < (wrap64 (((rd_T30 l0_2 x15_2).f1) + ((rd_T30 l0_2 x15_2).f3)))
       rotate_left
       · rw [if_neg c69] at H
         have c69b0 := decide_eq_false c69
         clear c69
         have H' := Ax H
         clear H
         have hnb94 := NB175_165.out
         have hnc94 := NB165_175.out
         have hnb95 := NB175_166.out
         have hnc95 := NB166_175.out
         have hnb96 := NB175_172.out
         have hnc96 := NB172_175.out
         have hnb97 := NB175_173.out
         have hnc97 := NB173_175.out
         obtain ⟨_, _, _, _, _, _, _, _, _, _⟩ := cells5 BK175.out
         go_wp2
         go_roundg k4
         case measure => have := HJ5.out; have := HK2.out; have := HK3.out; have := HK4.out; omega
         exact ⟨(x17_4), (wrap64 (x18_3 + 1)), (z3), (z3), H', ⟨z9⟩, ⟨z0⟩, ⟨z1⟩, ⟨zK⟩, ⟨zK⟩, ⟨zK⟩, ⟨zK⟩, ⟨zK⟩, ⟨zHB⟩⟩
       rw [if_pos c69] at H
       have c69b0 := decide_eq_true c69
       clear c69
       obtain ⟨t176, A70, H⟩ := bnd H
       obtain rfl | rfl := tf t176
       · rw [if_pos rfl] at H
         have H' := Ax H
         clear H
         have hnb72 := NB175_165.out
         have hnc72 := NB165_175.out
         have hnb73 := NB175_166.out
         have hnc73 := NB166_175.out
         have hnb74 := NB175_172.out
         have hnc74 := NB172_175.out
         have hnb75 := NB175_173.out
         have hnc75 := NB173_175.out
         obtain ⟨_, _, _, _, _, _, _, _, _, _⟩ := cells5 BK175.out
         have hnb77 := NB172_165.out
         have hnc77 := NB165_172.out
         have hnb78 := NB172_166.out
         have hnc78 := NB166_172.out
         have hnb79 := NB172_173.out
         have hnc79 := NB173_172.out
         obtain ⟨_, _, _, _, _, _, _, _, _, _⟩ := cells5 BK172.out
         obtain ⟨Ao81, co81, eo81⟩ := Kd.R_slice HO_173004.out
         subst eo81
         go_wp2_with (first | ((with_reducible refine gate_callee (f := 46) rfl ?_); refine goesL_ (some 105) rfl rfl Try.func46 (by kernel_rfl) rfl #[.agg #[.int .i64 a1, .int .i64 a2, .int .i64 a3, .int .i64 a4, .slice Ao81 x173004_2.length co81], .int .i64 x18_3, .int .i64 x19_4] rfl (z2) ?_; (with_reducible refine (spec_l2In.calls a1 a2 a3 a4 _ _ x173004_2 x18_3 x19_4 true _ ?side1 ?side2 A70.out).mono ?_); (case side1 => repeat (first | exact (Kd.R_reads' HO_173004.out).2.2 | (with_reducible refine Kd.C_alloc ?_ _) | (with_reducible refine Kd.C_drewN ?_ _) | (with_reducible refine Kd.C_drew ?_))); (case side2 => exact (Kd.R_reads' HO_173004.out).2.1); rintro e w82 ⟨rfl, hb⟩; refine ⟨_, rfl, ?_⟩; replace HO_173004 := Ax (Kd.R_below (z0) hb); replace HO_174002 := Ax (Kd.N_below (z1) hb); replace BK165 := Ax (blk_below (g := gb165) (zK) hb); replace BK166 := Ax (blk_below (g := gb166) (zK) hb); replace BK172 := Ax (blk_below (g := gb172) (zK) hb); replace BK173 := Ax (blk_below (g := gb173) (zK) hb); replace BK175 := Ax (blk_below (g := gb175) (zK) hb); replace HB := Ax (below_step (zHB) hb); (try clear hb); (try clear hb2); (try clear hk); (try clear hi)))
         go_roundg k4
         case measure => have := HJ5.out; have := HK2.out; have := HK3.out; have := HK4.out; omega
         exact ⟨(wrap64 (x17_4 + 1)), (wrap64 (x19_4 + 1)), (z3), (z3), H', ⟨z9⟩, ⟨z0⟩, ⟨z1⟩, ⟨zK⟩, ⟨zK⟩, ⟨zK⟩, ⟨zK⟩, ⟨zK⟩, ⟨zHB⟩⟩
       rw [if_neg Bool.false_ne_true] at H
       have H' := Ax H
       clear H
       have hnb83 := NB175_165.out
       have hnc83 := NB165_175.out
       have hnb84 := NB175_166.out
       have hnc84 := NB166_175.out
       have hnb85 := NB175_172.out
       have hnc85 := NB172_175.out
       have hnb86 := NB175_173.out
       have hnc86 := NB173_175.out
       obtain ⟨_, _, _, _, _, _, _, _, _, _⟩ := cells5 BK175.out
       have hnb88 := NB172_165.out
       have hnc88 := NB165_172.out
       have hnb89 := NB172_166.out
       have hnc89 := NB166_172.out
       have hnb90 := NB172_173.out
       have hnc90 := NB173_172.out
       obtain ⟨_, _, _, _, _, _, _, _, _, _⟩ := cells5 BK172.out
       obtain ⟨Ao92, co92, eo92⟩ := Kd.R_slice HO_173004.out
       subst eo92
       go_wp2_with (first | ((with_reducible refine gate_callee (f := 46) rfl ?_); refine goesL_ (some 105) rfl rfl Try.func46 (by kernel_rfl) rfl #[.agg #[.int .i64 a1, .int .i64 a2, .int .i64 a3, .int .i64 a4, .slice Ao92 x173004_2.length co92], .int .i64 x18_3, .int .i64 x19_4] rfl (z2) ?_; (with_reducible refine (spec_l2In.calls a1 a2 a3 a4 _ _ x173004_2 x18_3 x19_4 false _ ?side1 ?side2 A70.out).mono ?_); (case side1 => repeat (first | exact (Kd.R_reads' HO_173004.out).2.2 | (with_reducible refine Kd.C_alloc ?_ _) | (with_reducible refine Kd.C_drewN ?_ _) | (with_reducible refine Kd.C_drew ?_))); (case side2 => exact (Kd.R_reads' HO_173004.out).2.1); rintro e w93 ⟨rfl, hb⟩; refine ⟨_, rfl, ?_⟩; replace HO_173004 := Ax (Kd.R_below (z0) hb); replace HO_174002 := Ax (Kd.N_below (z1) hb); replace BK165 := Ax (blk_below (g := gb165) (zK) hb); replace BK166 := Ax (blk_below (g := gb166) (zK) hb); replace BK172 := Ax (blk_below (g := gb172) (zK) hb); replace BK173 := Ax (blk_below (g := gb173) (zK) hb); replace BK175 := Ax (blk_below (g := gb175) (zK) hb); replace HB := Ax (below_step (zHB) hb); (try clear hb); (try clear hb2); (try clear hk); (try clear hi)))
       go_roundg k4
       case measure => have := HJ5.out; have := HK2.out; have := HK3.out; have := HK4.out; omega
       exact ⟨(x17_4), (wrap64 (x19_4 + 1)), (z3), (z3), H', ⟨z9⟩, ⟨z0⟩, ⟨z1⟩, ⟨zK⟩, ⟨zK⟩, ⟨zK⟩, ⟨zK⟩, ⟨zK⟩, ⟨zHB⟩⟩
    rw [if_neg c63] at H
    have c63b0 := decide_eq_false c63
    clear c63
    by_cases c99 : x17_3 = 0
    · rw [if_pos c99] at H
      have c99b0 : (x17_3 == 0) = true := beq_iff_eq.mpr c99
      have c99b1 : (x17_3 != 0) = false := bne_eq_false_iff_eq.mpr c99
      clear c99
      obtain ⟨y177, hy_⟩ : ∃ y_ : List (S61), y_ = (([] : List (S61))) := ⟨_, rfl⟩
      replace H : (if y177.length + ((rd_T30 l0_2 x15_2).f4).length < 5864062014805 then (if x174002_2.length < 2513169434916 then (spec_TableMerge.l0 k3 x14_2 (wrap64 (x15_2 + 1)) a0_0 a0_1 l0_2 a1 a2 a3 a4 x173004_2 a0_0 a0_1 (x174002_2 ++ [(⟨((rd_T30 l0_2 x15_2).f0), ((rd_T30 l0_2 x15_2).f1), ((rd_T30 l0_2 x15_2).f2), ((rd_T30 l0_2 x15_2).f3), (y177 ++ ((rd_T30 l0_2 x15_2).f4))⟩ : S30)])) else (none)) else (none)) = some (r1, r2, r3, r4) := zy
      have Ny177 := Ax hy_
      clear hy_
      by_cases c100 : y177.length + ((rd_T30 l0_2 x15_2).f4).length < 5864062014805
      rotate_left
      · rw [if_neg c100] at H
        exact absurd H (by simp)
      rw [if_pos c100] at H
      have LMc100 := Ax c100
      clear c100
      obtain ⟨y180, hy_⟩ : ∃ y_ : List (S61), y_ = (y177 ++ ((rd_T30 l0_2 x15_2).f4)) := ⟨_, rfl⟩
      replace H : (if x174002_2.length < 2513169434916 then (spec_TableMerge.l0 k3 x14_2 (wrap64 (x15_2 + 1)) a0_0 a0_1 l0_2 a1 a2 a3 a4 x173004_2 a0_0 a0_1 (x174002_2 ++ [(⟨((rd_T30 l0_2 x15_2).f0), ((rd_T30 l0_2 x15_2).f1), ((rd_T30 l0_2 x15_2).f2), ((rd_T30 l0_2 x15_2).f3), y180⟩ : S30)])) else (none)) = some (r1, r2, r3, r4) := zy
      have Ny180 := Ax hy_
      clear hy_
      by_cases c101 : x174002_2.length < 2513169434916
      rotate_left
      · rw [if_neg c101] at H
        exact absurd H (by simp)
      rw [if_pos c101] at H
      have LMc101 := Ax c101
      clear c101
      obtain ⟨y183, hy_⟩ : ∃ y_ : List (S30), y_ = (x174002_2 ++ [(⟨((rd_T30 l0_2 x15_2).f0), ((rd_T30 l0_2 x15_2).f1), ((rd_T30 l0_2 x15_2).f2), ((rd_T30 l0_2 x15_2).f3), y180⟩ : S30)]) := ⟨_, rfl⟩
      replace H : (spec_TableMerge.l0 k3 x14_2 (wrap64 (x15_2 + 1)) a0_0 a0_1 l0_2 a1 a2 a3 a4 x173004_2 a0_0 a0_1 y183) = some (r1, r2, r3, r4) := zy
      have Ny183 := Ax hy_
      clear hy_
      have H' := Ax H
      clear H
      have hnb102 := NB175_165.out
      have hnc102 := NB165_175.out
      have hnb103 := NB175_166.out
      have hnc103 := NB166_175.out
      have hnb104 := NB175_172.out
      have hnc104 := NB172_175.out
      have hnb105 := NB175_173.out
      have hnc105 := NB173_175.out
      obtain ⟨_, _, _, _, _, _, _, _, _, _⟩ := cells5 BK175.out
      go_wp2_with (first | ((with_reducible refine gate_dst (N := 112) rfl ?_); refine Kd.R_lit k61 _ 61 ?hg (N := 112) ?hd (xs := ([] : List (S61))) (inner := []) (ok := fun _ => True) (okp := fun _ => True) ?hr ?hp (fun _ hk => hk) trivial (Below.refl _ _) (Nat.le_refl _) (by simp) ?_; (case hd => rfl); (case hg => rfl); (case hr => first | (go_simp; done) | (go_simp; rfl)); (case hp => exact (Reps.none _ _)); intro v178 w107 ho108 hb hg_ hnew_; clear hg_ hnew_; (first | rw [← Ny177.out] at ho108 | (simp only [Int.reduceToNat] at ho108; rw [← Ny177.out] at ho108)); replace HO_174002 := Ax (Kd.N_elder' (z1) (Kd.R_base ho108) hb); have HO179 := Ax (Kd.R_lower (Kd.R_new' (Kd.R_newM (M := fun k_ => (w.heap.size ≤ k_)) ho108 (below_size (zHB)) (fun k_ h_ => h_)) (Kd.R_lt (z0))) (below_size (zHB))); replace HO_173004 := Ax (Kd.R_elder' (z0) (Kd.R_base ho108) hb); replace BK165 := Ax (blk_below (g := gb165) (zK) hb); replace BK166 := Ax (blk_below (g := gb166) (zK) hb); replace BK172 := Ax (blk_below (g := gb172) (zK) hb); replace BK173 := Ax (blk_below (g := gb173) (zK) hb); replace BK175 := Ax (blk_below (g := gb175) (zK) hb); replace HB := Ax (below_step (zHB) hb); clear hb ho108; obtain ⟨_, _, _, _, _, _, _, _, _, _⟩ := cells5 BK175.out) | ((with_reducible refine gate_builtin (b := .append) (xs := #[.tmp 112, .tmp 114]) rfl ?_); at_builtin; refine Kd.R_append_rows k61 (w0 := w) w.heap.size rfl (.tmp 112) (.tmp 114) 28 61 (.agg #[(.int .u8 0), (.int .i64 0), (.int .i64 0)]) 24 rfl Try.underlying28 info61 rfl (by decide) (by omega) v178 y177 ((rd_T30 l0_2 x15_2).f4) _ _ _ (fun k_ => (w.heap.size ≤ k_) ∧ some k_ ≠ (u173004 : Value).ownBlock) (fun _ => False) rfl rfl ?aO ?aR (fun _ _ h => h) (fun _ h => h.elim) ?aF ?aB ?aS ?aL ?_; (case aR => repeat (first | exact (Kd.C_below HR174_4.out HB.out) | (with_reducible refine Kd.C_alloc ?_ _) | (with_reducible refine Kd.C_drewN ?_ _) | (with_reducible refine Kd.C_drew ?_))); (case aB => exact (zHB)); (case aF => exact (fun k_ hk => ⟨(Nat.le_trans (below_size (zHB)) hk), Kd.fresh' (Kd.R_lt (z0)) k_ hk⟩)); (case aO => exact (by (with_reducible repeat (first | apply Kd.R_alloc | apply Kd.R_drewN | apply Kd.R_drew)); exact Kd.R_mono HO179.out (fun _ hk => ⟨hk.1.1, hk.2⟩))); (case aS => exact (below_size (zHB))); (case aL => have := LMc100.out; omega); intro v181 w110 ho hb hg hat; rw [← Ny180.out] at ho; replace HO_173004 := Ax (Kd.R_after (ok := (fun k_ => (w.heap.size ≤ k_))) (z0) hg hat); replace HO_174002 := Ax (Kd.N_afterv (ok := (fun k_ => (w.heap.size ≤ k_) ∧ some k_ ≠ (u173004 : Value).ownBlock ∧ k_ ≠ gb165 ∧ k_ ≠ gb166 ∧ k_ ≠ gb172 ∧ k_ ≠ gb173 ∧ k_ ≠ gb175)) (z1) hg hat); replace BK165 := Ax (blk_grown (g := gb165) (zK) hg (Kd.R_ne HO179.out BK165.out (by decide))); replace BK166 := Ax (blk_grown (g := gb166) (zK) hg (Kd.R_ne HO179.out BK166.out (by decide))); replace BK172 := Ax (blk_grown (g := gb172) (zK) hg (Kd.R_ne HO179.out BK172.out (by decide))); replace BK173 := Ax (blk_grown (g := gb173) (zK) hg (Kd.R_ne HO179.out BK173.out (by decide))); replace BK175 := Ax (blk_grown (g := gb175) (zK) hg (Kd.R_ne HO179.out BK175.out (by decide))); replace HB := Ax (hb); have HO182 := Ax (ho); clear HO179; clear ho hb hg hat; obtain ⟨Ao111, co111, eo111⟩ := Kd.R_slice HO182.out; subst eo111; obtain ⟨_, _, _, _, _, _, _, _, _, _⟩ := cells5 BK175.out) | ((with_reducible refine gate_store (t := 28) (p := 116) rfl ?_); refine store_event (t := 28) (p := 116) (v := ?vo_w113) (w1 := (w110.setCell ⟨gb175, 4, none⟩ (.slice Ao111 y180.length co111))) ?hg ?ho ?hn ?hr ?_; (case ho => rfl); (case hg => rfl); (case hn => rfl); (case hr => first | (go_simp; done) | (go_simp; rfl)); intro w113 hw; replace HO_173004 : Aside0 (Kd.R k61 61 w113 w.heap.size (fun k_ => (w.heap.size ≤ k_) ∧ some k_ ≠ (.slice Ao111 y180.length co111 : Value).ownBlock) u173004 x173004_2) := ⟨(by rw [hw]; exact (by (with_reducible repeat (first | apply Kd.R_alloc | apply Kd.R_drewN | apply Kd.R_drew)); exact Kd.R_mono (Kd.R_far (p := ⟨gb175, 4, none⟩) (Kd.R_types HO_173004.out BK175.out (by decide)) (fun _ hk => hk.2) (.slice Ao111 y180.length co111)) (fun _ hk => ⟨hk.1.1, hk.1.2⟩)))⟩; replace HO_174002 : Aside0 (Kd.N k30 30 w113 w.heap.size (fun k_ => (w.heap.size ≤ k_) ∧ some k_ ≠ (u173004 : Value).ownBlock ∧ some k_ ≠ (.slice Ao111 y180.length co111 : Value).ownBlock ∧ k_ ≠ gb165 ∧ k_ ≠ gb166 ∧ k_ ≠ gb172 ∧ k_ ≠ gb173 ∧ k_ ≠ gb175) u174002 x174002_2) := ⟨(by rw [hw]; exact (by (with_reducible repeat (first | apply Kd.N_alloc | apply Kd.N_drewN | apply Kd.N_drew)); exact Kd.N_mono (Kd.N_far (p := ⟨gb175, 4, none⟩) (Kd.N_mono HO_174002.out (fun k_ hk => (⟨hk, hk.1.2.2.2.2.2.2⟩ : _ ∧ k_ ≠ gb175))) (fun _ hk => hk.2) (.slice Ao111 y180.length co111)) (fun _ hk => ⟨hk.1.1.1, ⟨hk.1.1.2.1, ⟨hk.1.2, ⟨hk.1.1.2.2.1, ⟨hk.1.1.2.2.2.1, ⟨hk.1.1.2.2.2.2.1, ⟨hk.1.1.2.2.2.2.2.1, hk.1.1.2.2.2.2.2.2⟩⟩⟩⟩⟩⟩⟩)))⟩; replace HO182 : Aside0 (Kd.R k61 61 w113 w.heap.size (fun k_ => (w.heap.size ≤ k_) ∧ some k_ ≠ (u173004 : Value).ownBlock) (.slice Ao111 y180.length co111) y180) := ⟨(by rw [hw]; exact (by (with_reducible repeat (first | apply Kd.R_alloc | apply Kd.R_drewN | apply Kd.R_drew)); exact Kd.R_mono (Kd.R_far (p := ⟨gb175, 4, none⟩) (Kd.R_types HO182.out BK175.out (by decide)) (fun _ hk => hk.2) (.slice Ao111 y180.length co111)) (fun _ hk => ⟨hk.1.1, hk.1.2⟩)))⟩; replace BK165 : Aside0 (w113.heap[gb165]? = some (.cells #[.int .i64 a0_0, .int .i64 a0_1, .slice (some ad174) l0_2.length c0_2] 25 (0, 0))) := ⟨(by rw [hw]; exact (zK))⟩; replace BK166 : Aside0 (w113.heap[gb166]? = some (.cells #[.int .i64 x167000_2, .int .i64 x167001_2, .slice none 0 0] 25 (0, 0))) := ⟨(by rw [hw]; exact (zK))⟩; replace BK172 : Aside0 (w113.heap[gb172]? = some (.cells #[.int .i64 a1, .int .i64 a2, .int .i64 a3, .int .i64 a4, u173004] 30 (0, 0))) := ⟨(by rw [hw]; exact (zK))⟩; replace BK173 : Aside0 (w113.heap[gb173]? = some (.cells #[.int .i64 a0_0, .int .i64 a0_1, u174002] 25 (0, 0))) := ⟨(by rw [hw]; exact (zK))⟩; replace BK175 : Aside0 (w113.heap[gb175]? = some (.cells #[.int .i64 ((rd_T30 l0_2 x15_2).f0), .int .i64 ((rd_T30 l0_2 x15_2).f1), .int .i64 ((rd_T30 l0_2 x15_2).f2), .int .i64 ((rd_T30 l0_2 x15_2).f3), .slice Ao111 y180.length co111] 30 (0, 0))) := ⟨(by rw [hw]; exact (zK))⟩; replace HB : Aside0 (Below w.heap.size w w113) := ⟨(by rw [hw]; exact (zHB))⟩; clear hw; have hnb114 := NB173_165.out; have hnc114 := NB165_173.out; have hnb115 := NB173_166.out; have hnc115 := NB166_173.out; have hnb116 := NB173_172.out; have hnc116 := NB172_173.out; obtain ⟨_, _, _, _, _, _⟩ := cells3 BK173.out; obtain ⟨_, _, _, _, _, _, _, _, _, _⟩ := cells5 BK175.out) | ((with_reducible refine gate_builtin (b := .append) (xs := #[.tmp 118, .tmp 120]) rfl ?_); at_builtin; refine Kd.N_append k30 (w0 := w) w.heap.size rfl (.tmp 118) (.tmp 120) 23 30 (.agg #[(.int .i64 0), (.int .i64 0), (.int .i64 0), (.int .i64 0), (.slice none 0 0)]) 56 rfl Try.underlying23 info30 rfl (by decide) (by omega) u174002 x174002_2 (⟨((rd_T30 l0_2 x15_2).f0), ((rd_T30 l0_2 x15_2).f1), ((rd_T30 l0_2 x15_2).f2), ((rd_T30 l0_2 x15_2).f3), y180⟩ : S30) [.int .i64 ((rd_T30 l0_2 x15_2).f0), .int .i64 ((rd_T30 l0_2 x15_2).f1), .int .i64 ((rd_T30 l0_2 x15_2).f2), .int .i64 ((rd_T30 l0_2 x15_2).f3), .slice Ao111 y180.length co111] (fun k_ => (w.heap.size ≤ k_) ∧ some k_ ≠ (u173004 : Value).ownBlock ∧ k_ ≠ gb165 ∧ k_ ≠ gb166 ∧ k_ ≠ gb172 ∧ k_ ≠ gb173 ∧ k_ ≠ gb175) (fun k_ => ((fun k_ => (w.heap.size ≤ k_) ∧ some k_ ≠ (u173004 : Value).ownBlock ∧ k_ ≠ gb165 ∧ k_ ≠ gb166 ∧ k_ ≠ gb172 ∧ k_ ≠ gb173 ∧ k_ ≠ gb175)) k_ ∧ some k_ ≠ (u174002 : Value).ownBlock) rfl rfl ?aP (fun _ hk => hk) ?aF ?aO ?aB ?aS ?aL ?_; (case aP => exact (k30_mkF _ _ (⟨((rd_T30 l0_2 x15_2).f0), ((rd_T30 l0_2 x15_2).f1), ((rd_T30 l0_2 x15_2).f2), ((rd_T30 l0_2 x15_2).f3), y180⟩ : S30) (Kd.R_reads' (Kd.R_mono (ok' := (fun k_ => ((fun k_ => (w.heap.size ≤ k_) ∧ some k_ ≠ (u173004 : Value).ownBlock ∧ k_ ≠ gb165 ∧ k_ ≠ gb166 ∧ k_ ≠ gb172 ∧ k_ ≠ gb173 ∧ k_ ≠ gb175)) k_ ∧ some k_ ≠ (u174002 : Value).ownBlock)) (Kd.R_types (Kd.R_types (Kd.R_types (Kd.R_types (Kd.R_types (Kd.R_apart' (HO182.out) (Kd.N_typed HO_174002.out) (by decide)) BK165.out (by decide)) BK166.out (by decide)) BK172.out (by decide)) BK173.out (by decide)) BK175.out (by decide)) (fun k_ hk => ⟨⟨hk.1.1.1.1.1.1.1, ⟨hk.1.1.1.1.1.1.2, ⟨hk.1.1.1.1.2, ⟨hk.1.1.1.2, ⟨hk.1.1.2, ⟨hk.1.2, hk.2⟩⟩⟩⟩⟩⟩, hk.1.1.1.1.1.2⟩))).2.1 (Kd.R_F (Kd.R_mono (ok' := (fun k_ => ((fun k_ => (w.heap.size ≤ k_) ∧ some k_ ≠ (u173004 : Value).ownBlock ∧ k_ ≠ gb165 ∧ k_ ≠ gb166 ∧ k_ ≠ gb172 ∧ k_ ≠ gb173 ∧ k_ ≠ gb175)) k_ ∧ some k_ ≠ (u174002 : Value).ownBlock)) (Kd.R_types (Kd.R_types (Kd.R_types (Kd.R_types (Kd.R_types (Kd.R_apart' (HO182.out) (Kd.N_typed HO_174002.out) (by decide)) BK165.out (by decide)) BK166.out (by decide)) BK172.out (by decide)) BK173.out (by decide)) BK175.out (by decide)) (fun k_ hk => ⟨⟨hk.1.1.1.1.1.1.1, ⟨hk.1.1.1.1.1.1.2, ⟨hk.1.1.1.1.2, ⟨hk.1.1.1.2, ⟨hk.1.1.2, ⟨hk.1.2, hk.2⟩⟩⟩⟩⟩⟩, hk.1.1.1.1.1.2⟩))))); (case aB => exact (zHB)); (case aF => exact (fun k_ hk => ⟨(Nat.le_trans (below_size (zHB)) hk), Kd.fresh' (Kd.R_lt (z0)) k_ hk, Kd.freshB (g := gb165) (o := .cells #[.int .i64 a0_0, .int .i64 a0_1, .slice (some ad174) l0_2.length c0_2] 25 (0, 0)) (zK) k_ hk, Kd.freshB (g := gb166) (o := .cells #[.int .i64 x167000_2, .int .i64 x167001_2, .slice none 0 0] 25 (0, 0)) (zK) k_ hk, Kd.freshB (g := gb172) (o := .cells #[.int .i64 a1, .int .i64 a2, .int .i64 a3, .int .i64 a4, u173004] 30 (0, 0)) (zK) k_ hk, Kd.freshB (g := gb173) (o := .cells #[.int .i64 a0_0, .int .i64 a0_1, u174002] 25 (0, 0)) (zK) k_ hk, Kd.freshB (g := gb175) (o := .cells #[.int .i64 ((rd_T30 l0_2 x15_2).f0), .int .i64 ((rd_T30 l0_2 x15_2).f1), .int .i64 ((rd_T30 l0_2 x15_2).f2), .int .i64 ((rd_T30 l0_2 x15_2).f3), .slice Ao111 y180.length co111] 30 (0, 0)) (zK) k_ hk⟩)); (case aO => exact (by (with_reducible repeat (first | apply Kd.N_alloc | apply Kd.N_drewN | apply Kd.N_drew)); exact Kd.N_mono HO_174002.out (fun _ hk => ⟨hk.1, ⟨hk.2.1, ⟨hk.2.2.2.1, ⟨hk.2.2.2.2.1, ⟨hk.2.2.2.2.2.1, ⟨hk.2.2.2.2.2.2.1, hk.2.2.2.2.2.2.2⟩⟩⟩⟩⟩⟩))); (case aS => exact (below_size (zHB))); (case aL => have := LMc101.out; omega); intro v184 w119 ho hb hg hat; rw [← Ny183.out] at ho; replace HO_173004 := Ax (Kd.R_over' (z0) (Kd.N_typed (z1)) (by decide) hg); replace BK165 := Ax (blk_grown (g := gb165) (zK) hg (Kd.N_ne HO_174002.out BK165.out (by decide))); replace BK166 := Ax (blk_grown (g := gb166) (zK) hg (Kd.N_ne HO_174002.out BK166.out (by decide))); replace BK172 := Ax (blk_grown (g := gb172) (zK) hg (Kd.N_away HO_174002.out (fun _ hk => by first | exact hk.2.2.2.2.2.1 | exact hk.1.2.2.2.2.2.1))); replace BK173 := Ax (blk_grown (g := gb173) (zK) hg (Kd.N_ne HO_174002.out BK173.out (by decide))); replace BK175 := Ax (blk_grown (g := gb175) (zK) hg (Kd.N_away HO_174002.out (fun _ hk => by first | exact hk.2.2.2.2.2.2.2 | exact hk.1.2.2.2.2.2.2.2))); replace HB := Ax (hb); have HO185 := Ax (ho); clear HO_174002 HO182; clear ho hb hg hat; obtain ⟨Ao120, co120, eo120⟩ := Kd.N_slice HO185.out; subst eo120; obtain ⟨_, _, _, _, _, _⟩ := cells3 BK173.out))
      go_roundg k3
      case measure => have := HJ5.out; have := HK2.out; have := HK3.out; omega
      exact ⟨(x14_2), (wrap64 (x15_2 + 1)), (x167000_2), (x167001_2), (x173004_2), (y183), (u173004), (.slice Ao120 y183.length co120), (z3), (z3), H', ⟨by have := HJ5.out; have := HK2.out; have := HK3.out; omega⟩, ⟨by (with_reducible repeat (first | apply Kd.R_alloc | apply Kd.R_drewN | apply Kd.R_drew)); exact Kd.R_mono (Kd.R_far (p := ⟨gb173, 2, none⟩) (Kd.R_types HO_173004.out BK173.out (by decide)) (fun _ hk => hk.2) (.slice Ao120 y183.length co120)) (fun _ hk => hk.1.1)⟩, ⟨by (with_reducible repeat (first | apply Kd.N_alloc | apply Kd.N_drewN | apply Kd.N_drew)); exact Kd.N_mono (Kd.N_far (p := ⟨gb173, 2, none⟩) (Kd.N_mono HO185.out (fun k_ hk => (⟨hk, hk.2.2.2.2.2.1⟩ : _ ∧ k_ ≠ gb173))) (fun _ hk => hk.2) (.slice Ao120 y183.length co120)) (fun _ hk => ⟨hk.1.1, ⟨hk.1.2.1, ⟨hk.1.2.2.1, ⟨hk.1.2.2.2.1, ⟨hk.1.2.2.2.2.1, hk.1.2.2.2.2.2.1⟩⟩⟩⟩⟩)⟩, ⟨zK⟩, ⟨zK⟩, ⟨zK⟩, ⟨zK⟩, ⟨zHB⟩⟩
    rw [if_neg c99] at H
    have c99b0 : (x17_3 == 0) = false := beq_eq_false_iff_ne.mpr c99
    have c99b1 : (x17_3 != 0) = true := bne_iff_ne.mpr c99
    by_cases c122 : x17_3 = (wrap64 (((rd_T30 l0_2 x15_2).f2) * ((rd_T30 l0_2 x15_2).f3)))
    rotate_left
    · rw [if_neg c122] at H
      have c122b0 : (x17_3 == (wrap64 (((rd_T30 l0_2 x15_2).f2) * ((rd_T30 l0_2 x15_2).f3)))) = false := beq_eq_false_iff_ne.mpr c122
      have c122b1 : (x17_3 != (wrap64 (((rd_T30 l0_2 x15_2).f2) * ((rd_T30 l0_2 x15_2).f3)))) = true := bne_iff_ne.mpr c122
      simp only [Option.some.injEq, Prod.mk.injEq] at H
      obtain ⟨rfl, rfl, rfl, rfl⟩ := H
      have hnb136 := NB175_165.out
      have hnc136 := NB165_175.out
      have hnb137 := NB175_166.out
      have hnc137 := NB166_175.out
      have hnb138 := NB175_172.out
      have hnc138 := NB172_175.out
      have hnb139 := NB175_173.out
      have hnc139 := NB173_175.out
      obtain ⟨_, _, _, _, _, _, _, _, _, _⟩ := cells5 BK175.out
      have hnb141 := NB166_165.out
      have hnc141 := NB165_166.out
      have hnb142 := NB166_172.out
      have hnc142 := NB172_166.out
      have hnb143 := NB166_173.out
      have hnc143 := NB173_166.out
      obtain ⟨_, _, _, _, _, _⟩ := cells3 BK166.out
      go_wp2
      refine bodyPost_ret (results_ct rfl _ _ gb166 25 #[.int .i64 0, .int .i64 0, .slice none 0 0] (0, 0) _ rfl (zK) Try.underlying25 rfl (by kernel_rfl)) rfl ?_
      exact ⟨_, z5, z4, zHB⟩
    rw [if_pos c122] at H
    have c122b0 : (x17_3 == (wrap64 (((rd_T30 l0_2 x15_2).f2) * ((rd_T30 l0_2 x15_2).f3)))) = true := beq_iff_eq.mpr c122
    have c122b1 : (x17_3 != (wrap64 (((rd_T30 l0_2 x15_2).f2) * ((rd_T30 l0_2 x15_2).f3)))) = false := bne_eq_false_iff_eq.mpr c122
    clear c122
    by_cases c123 : x173004_2.length + ((rd_T30 l0_2 x15_2).f4).length < 5864062014805
    rotate_left
    · rw [if_neg c123] at H
      exact absurd H (by simp)
    rw [if_pos c123] at H
    have LMc123 := Ax c123
    clear c123
    obtain ⟨y186, hy_⟩ : ∃ y_ : List (S61), y_ = (x173004_2 ++ ((rd_T30 l0_2 x15_2).f4)) := ⟨_, rfl⟩
    replace H : (spec_TableMerge.l0 k3 (wrap64 (x14_2 + 1)) (wrap64 (x15_2 + 1)) a0_0 a0_1 l0_2 a1 a2 a3 a4 y186 a0_0 a0_1 x174002_2) = some (r1, r2, r3, r4) := zy
    have Ny186 := Ax hy_
    clear hy_
    have H' := Ax H
    clear H
    have hnb124 := NB175_165.out
    have hnc124 := NB165_175.out
    have hnb125 := NB175_166.out
    have hnc125 := NB166_175.out
    have hnb126 := NB175_172.out
    have hnc126 := NB172_175.out
    have hnb127 := NB175_173.out
    have hnc127 := NB173_175.out
    obtain ⟨_, _, _, _, _, _, _, _, _, _⟩ := cells5 BK175.out
    have hnb129 := NB172_165.out
    have hnc129 := NB165_172.out
    have hnb130 := NB172_166.out
    have hnc130 := NB166_172.out
    have hnb131 := NB172_173.out
    have hnc131 := NB173_172.out
    obtain ⟨_, _, _, _, _, _, _, _, _, _⟩ := cells5 BK172.out
    go_wp2_with (first | ((with_reducible refine gate_builtin (b := .append) (xs := #[.tmp 131, .tmp 133]) rfl ?_); at_builtin; refine Kd.R_append_rows k61 (w0 := w) w.heap.size rfl (.tmp 131) (.tmp 133) 28 61 (.agg #[(.int .u8 0), (.int .i64 0), (.int .i64 0)]) 24 rfl Try.underlying28 info61 rfl (by decide) (by omega) u173004 x173004_2 ((rd_T30 l0_2 x15_2).f4) _ _ _ (fun k_ => (w.heap.size ≤ k_)) (fun _ => False) rfl rfl ?aO ?aR (fun _ _ h => h) (fun _ h => h.elim) ?aF ?aB ?aS ?aL ?_; (case aR => repeat (first | exact (Kd.C_below HR174_4.out HB.out) | (with_reducible refine Kd.C_alloc ?_ _) | (with_reducible refine Kd.C_drewN ?_ _) | (with_reducible refine Kd.C_drew ?_))); (case aB => exact (zHB)); (case aF => exact (fun k_ hk => (Nat.le_trans (below_size (zHB)) hk))); (case aO => exact (z0)); (case aS => exact (below_size (zHB))); (case aL => have := LMc123.out; omega); intro v187 w133 ho hb hg hat; rw [← Ny186.out] at ho; replace HO_174002 := Ax (Kd.N_afterv (ok := (fun k_ => (w.heap.size ≤ k_) ∧ k_ ≠ gb165 ∧ k_ ≠ gb166 ∧ k_ ≠ gb172 ∧ k_ ≠ gb173 ∧ k_ ≠ gb175)) (by (with_reducible repeat (first | apply Kd.N_alloc | apply Kd.N_drewN | apply Kd.N_drew)); exact Kd.N_mono HO_174002.out (fun _ hk => ⟨⟨hk.1, ⟨hk.2.2.1, ⟨hk.2.2.2.1, ⟨hk.2.2.2.2.1, ⟨hk.2.2.2.2.2.1, hk.2.2.2.2.2.2⟩⟩⟩⟩⟩, hk.2.1⟩)) hg hat); replace BK165 := Ax (blk_grown (g := gb165) (zK) hg (Kd.R_ne HO_173004.out BK165.out (by decide))); replace BK166 := Ax (blk_grown (g := gb166) (zK) hg (Kd.R_ne HO_173004.out BK166.out (by decide))); replace BK172 := Ax (blk_grown (g := gb172) (zK) hg (Kd.R_ne HO_173004.out BK172.out (by decide))); replace BK173 := Ax (blk_grown (g := gb173) (zK) hg (Kd.R_ne HO_173004.out BK173.out (by decide))); replace BK175 := Ax (blk_grown (g := gb175) (zK) hg (Kd.R_ne HO_173004.out BK175.out (by decide))); replace HB := Ax (hb); have HO188 := Ax (ho); clear HO_173004; clear ho hb hg hat; obtain ⟨Ao134, co134, eo134⟩ := Kd.R_slice HO188.out; subst eo134; obtain ⟨_, _, _, _, _, _, _, _, _, _⟩ := cells5 BK172.out))
    go_roundg k3
    case measure => have := HJ5.out; have := HK2.out; have := HK3.out; omega
    exact ⟨(wrap64 (x14_2 + 1)), (wrap64 (x15_2 + 1)), (x167000_2), (x167001_2), (y186), (x174002_2), (.slice Ao134 y186.length co134), (u174002), (z3), (z3), H', ⟨by have := HJ5.out; have := HK2.out; have := HK3.out; omega⟩, ⟨by (with_reducible repeat (first | apply Kd.R_alloc | apply Kd.R_drewN | apply Kd.R_drew)); exact Kd.R_mono (Kd.R_far (p := ⟨gb172, 4, none⟩) (Kd.R_types HO188.out BK172.out (by decide)) (fun _ hk => hk.2) (.slice Ao134 y186.length co134)) (fun _ hk => hk.1)⟩, ⟨by (with_reducible repeat (first | apply Kd.N_alloc | apply Kd.N_drewN | apply Kd.N_drew)); exact Kd.N_mono (Kd.N_far (p := ⟨gb172, 4, none⟩) (Kd.N_mono HO_174002.out (fun k_ hk => (⟨hk, hk.1.2.2.2.1⟩ : _ ∧ k_ ≠ gb172))) (fun _ hk => hk.2) (.slice Ao134 y186.length co134)) (fun _ hk => ⟨hk.1.1.1, ⟨hk.1.2, ⟨hk.1.1.2.1, ⟨hk.1.1.2.2.1, ⟨hk.1.1.2.2.2.1, hk.1.1.2.2.2.2.1⟩⟩⟩⟩⟩)⟩, ⟨zK⟩, ⟨zK⟩, ⟨zK⟩, ⟨zK⟩, ⟨zHB⟩⟩
end Go.Proofs.Ytljgbeccmcidkaa.P
