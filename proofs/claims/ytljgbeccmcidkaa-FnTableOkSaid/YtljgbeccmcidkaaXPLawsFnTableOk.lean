/- What the Go functions named below compute, function by function: a plain Lean function with the same answers and the proof that a call comes to them. Conditions: the arguments read as told, the plain function answers. -/
import Derived.Test.YtljgbeccmcidkaaXA
import Derived.Test.YtljgbeccmcidkaaXN
import Derived.Test.YtljgbeccmcidkaaXB
import Derived.Test.YtljgbeccmcidkaaXC
namespace Go.Proofs.Ytljgbeccmcidkaa.P
open Go.RowKit Go.Proofs.YtljgbeccmcidkaaW.PrintWords Go.Proofs.YtljgbeccmcidkaaW.PrintLast Go.Proofs.YtljgbeccmcidkaaW.PrintMore
attribute [local go_sem] max2_int min2_int max_two min_two max_three min_three max_four min_four   -- for this text's walks alone
set_option linter.unusedVariables false
set_option linter.unusedSimpArgs false

attribute [local go_sem ↓] isSome_setCell
/-! ### laws_FnTableOk: function 3 -/
mutual
def laws_FnTableOk.j0 : Nat → Bool → Bool → Int → Int → List (S30) → Option (Bool)
  | 0, _, _, _, _, _ => none
  | k + 1, x4, x23, x419000, x419001, x419002 => if x23 = true then ((spec_TableOk.f k x419000 x419001 x419002).bind fun t421 => (some (x4 == t421))) else (laws_FnTableOk.l0 k 0 0 x419000 x419001 x419002)
def laws_FnTableOk.l0 : Nat → Int → Int → Int → Int → List (S30) → Option (Bool)
  | 0, _, _, _, _, _ => none
  | k + 1, x5, x6, x419000, x419001, x419002 => if x6 < (x419002.length : Int) then (if 0 ≤ x6 then (laws_FnTableOk.l0 k (wrap64 (x5 + (wrap64 (((rd_T30 x419002 x6).f2) * ((rd_T30 x419002 x6).f3))))) (wrap64 (x6 + 1)) x419000 x419001 x419002) else (none)) else (laws_FnTableOk.l1 k x5 0 x419000 x419001 x419002)
def laws_FnTableOk.l1 : Nat → Int → Int → Int → Int → List (S30) → Option (Bool)
  | 0, _, _, _, _, _ => none
  | k + 1, x5, x7, x419000, x419001, x419002 => if x7 < x419000 then (laws_FnTableOk.l2 k x5 x7 0 x419000 x419001 x419002) else (some (x5 == (wrap64 (x419000 * x419001))))
def laws_FnTableOk.l2 : Nat → Int → Int → Int → Int → Int → List (S30) → Option (Bool)
  | 0, _, _, _, _, _, _ => none
  | k + 1, x5, x7, x8, x419000, x419001, x419002 => if x8 < x419001 then ((impl_TableAt.f k x419000 x419001 x419002 x7 x8).bind fun t424 => (if t424 < 0 then (some false) else (laws_FnTableOk.l2 k x5 x7 (wrap64 (x8 + 1)) x419000 x419001 x419002))) else (laws_FnTableOk.l1 k x5 (wrap64 (x7 + 1)) x419000 x419001 x419002)
end
def laws_FnTableOk.f (k : Nat) (l0 : List Int) : Option (Bool) := if (l0.length : Int) > 1048576 then (some true) else ((spec_DrawTableOk.f k l0).bind fun bt413 => ((impl_TableOk.f k bt413.1 bt413.2.1 bt413.2.2).bind fun t419 => ((spec_TableOk.f k bt413.1 bt413.2.1 bt413.2.2).bind fun t420 => (if (t419 != t420) = true then (laws_FnTableOk.j0 k t419 true bt413.1 bt413.2.1 bt413.2.2) else (laws_FnTableOk.j0 k t419 (!t419) bt413.1 bt413.2.1 bt413.2.2)))))
theorem laws_FnTableOk.mono_l : ∀ k, (∀ y0 y1 y2 y3 y4, LeO (laws_FnTableOk.j0 k y0 y1 y2 y3 y4) (laws_FnTableOk.j0 (k + 1) y0 y1 y2 y3 y4)) ∧ (∀ y0 y1 y2 y3 y4, LeO (laws_FnTableOk.l0 k y0 y1 y2 y3 y4) (laws_FnTableOk.l0 (k + 1) y0 y1 y2 y3 y4)) ∧ (∀ y0 y1 y2 y3 y4, LeO (laws_FnTableOk.l1 k y0 y1 y2 y3 y4) (laws_FnTableOk.l1 (k + 1) y0 y1 y2 y3 y4)) ∧ (∀ y0 y1 y2 y3 y4 y5, LeO (laws_FnTableOk.l2 k y0 y1 y2 y3 y4 y5) (laws_FnTableOk.l2 (k + 1) y0 y1 y2 y3 y4 y5))
  | 0 => by refine ⟨?_, ?_, ?_, ?_⟩ <;> intros <;> intro r h <;> simp [laws_FnTableOk.j0, laws_FnTableOk.l0, laws_FnTableOk.l1, laws_FnTableOk.l2] at h
  | k + 1 => by
    obtain ⟨ih0, ih1, ih2, ih3⟩ := laws_FnTableOk.mono_l k
    refine ⟨?_, ?_, ?_, ?_⟩ <;> intros <;> (first | unfold laws_FnTableOk.j0 | unfold laws_FnTableOk.l0 | unfold laws_FnTableOk.l1 | unfold laws_FnTableOk.l2) <;> with_reducible repeat' first | exact ih0 _ _ _ _ _ | exact ih1 _ _ _ _ _ | exact ih2 _ _ _ _ _ | exact ih3 _ _ _ _ _ _ | exact impl_TableAt.mono _ _ _ _ _ _ | exact impl_TableOk.mono _ _ _ _ | exact spec_DrawTableOk.mono _ _ | exact spec_TableOk.mono _ _ _ _ | exact LeO.refl _ | exact LeO.none _ | refine LeO.ite ?_ ?_ | refine LeO.bind ?_ (fun _ => ?_)
theorem laws_FnTableOk.mono : ∀ a0 k, LeO (laws_FnTableOk.f k a0) (laws_FnTableOk.f (k + 1) a0) := by
  intro a0 k
  obtain ⟨ih0, ih1, ih2, ih3⟩ := laws_FnTableOk.mono_l k
  unfold laws_FnTableOk.f
  with_reducible repeat' first | exact ih0 _ _ _ _ _ | exact ih1 _ _ _ _ _ | exact ih2 _ _ _ _ _ | exact ih3 _ _ _ _ _ _ | exact impl_TableAt.mono _ _ _ _ _ _ | exact impl_TableOk.mono _ _ _ _ | exact spec_DrawTableOk.mono _ _ | exact spec_TableOk.mono _ _ _ _ | exact LeO.refl _ | exact LeO.none _ | refine LeO.ite ?_ ?_ | refine LeO.bind ?_ (fun _ => ?_)
theorem laws_FnTableOk.zHB {p : Prop} (h : p := by repeat (first | (with_reducible first | exact HB.out | apply below_alloc | apply pw_below_drewN | apply below_drew1 | refine below_set ?_ GE418.out) | exact HB.out)) : p := h
theorem laws_FnTableOk.zK {p : Prop} (h : p := by repeat' first | (with_reducible first | exact BK418.out | apply blk_drewN | apply blk_drew | apply blk_alloc | apply blk_putE) | exact (rfl : List.set _ _ _ = _)) : p := h
theorem laws_FnTableOk.z0 {p : Prop} (h : p := by (with_reducible repeat (first | apply Kd.N_alloc | apply Kd.N_drewN | apply Kd.N_drew)); exact (Kd.N_mono (Kd.N_far (p := ⟨gb418, 2, none⟩) (Kd.N_far (p := ⟨gb418, 1, none⟩) (Kd.N_far (p := ⟨gb418, 0, none⟩) (Kd.N_mono HO417.out (fun k_ hk => (⟨hk, hk.2⟩ : _ ∧ k_ ≠ gb418))) (fun _ hk => hk.2) (.int .i64 t413)) (fun _ hk => hk.2) (.int .i64 t414)) (fun _ hk => hk.2) (.slice Ao9 t415.length co9)) (fun _ h_ => h_.1))) : p := h
theorem laws_FnTableOk.z1 {p : Prop} (h : p := by (with_reducible repeat (first | apply Kd.N_alloc | apply Kd.N_drewN | apply Kd.N_drew)); exact HO_419002.out) : p := h
theorem laws_FnTableOk.z2 {p : Prop} (h : p := by (with_reducible repeat (first | apply Kd.N_alloc | apply Kd.N_drewN | apply Kd.N_drew)); exact HO417.out) : p := h
theorem laws_FnTableOk.z3 {p : Prop} (h : p := by first | rfl | (simp; done) | (simp [*]; done)) : p := h
theorem laws_FnTableOk.z4 {p : Prop} (h : p := by first | rfl | (simp [errW_none, errW_some] <;> rfl) | (simp [*, errW_none, errW_some] <;> rfl)) : p := h
theorem laws_FnTableOk.z5 {p : Prop} (h : p := by first | (with_reducible assumption) | assumption) : p := h
theorem laws_FnTableOk.z6 {p : Prop} (h : p := by rw [hg]; exact (below_size (zHB))) : p := h
theorem laws_FnTableOk.z7 {p : Prop} (h : p := by (with_reducible repeat (first | apply Kd.N_alloc | apply Kd.N_drewN | apply Kd.N_drew)); exact Kd.N_mono HO417.out (fun _ hk => hk.2)) : p := h
theorem laws_FnTableOk.z8 {p : Prop} (h : p := by have := HJ4.out; have := HK2.out; have := HK3.out; have := HK4.out; omega) : p := h
set_option maxHeartbeats 8000000 in
set_option maxRecDepth 100000 in
theorem laws_FnTableOk.calls (k : Nat) (A0 : Option Addr) (c0 : Nat) (l0 : List Int) (r : Bool) (w : World) (hr0 : Kd.C (Kd.int .u8) w A0 l0.length l0) (hc0 : l0.length ≤ c0) (h : laws_FnTableOk.f k l0 = some r) :
    Calls Try.prog 3 #[.slice A0 l0.length c0] w fun e w' => e = .returned (.bool r) ∧ Below w.heap.size w w' := by
 have hu25 := Try.underlying25
 have HR0 := Ax hr0
 have HC0 := Ax hc0
 clear hr0 hc0
 have HB := Ax (Below.refl w.heap.size w)
 have H : (if (l0.length : Int) > 1048576 then (some true) else ((spec_DrawTableOk.f k l0).bind fun bt413 => ((impl_TableOk.f k bt413.1 bt413.2.1 bt413.2.2).bind fun t419 => ((spec_TableOk.f k bt413.1 bt413.2.1 bt413.2.2).bind fun t420 => (if (t419 != t420) = true then (laws_FnTableOk.j0 k t419 true bt413.1 bt413.2.1 bt413.2.2) else (laws_FnTableOk.j0 k t419 (!t419) bt413.1 bt413.2.1 bt413.2.2)))))) = some r := h
 clear h
 by_cases c2 : (l0.length : Int) > 1048576
 · rw [if_pos c2] at H
   have c2b0 : decide (1048576 < (l0.length : Int)) = true := decide_eq_true c2
   have c2b1 : decide (1048576 < l0.length) = true := decide_eq_true (by omega)
   clear c2
   obtain rfl := Option.some.inj H
   go_enter Try.func3, Try.ntmps3
   go_wp2
   repeat (go_quiet (fail); try go_wp2)
   go_ret
   exact ⟨z4, zHB⟩
 rw [if_neg c2] at H
 have c2b0 : decide (1048576 < (l0.length : Int)) = false := decide_eq_false c2
 have c2b1 : decide (1048576 < l0.length) = false := decide_eq_false (by omega)
 clear c2
 obtain ⟨⟨t413, t414, t415⟩, A3, H⟩ := bnd H
 dsimp only at H
 obtain ⟨t419, A4, H⟩ := bnd H
 have HC5 := Ax H
 clear H
 go_enter Try.func3, Try.ntmps3
 go_upto_region 5 with (first | (go_at_call 14; (with_reducible refine (spec_DrawTableOk.calls k _ _ l0 t413 t414 t415 _ ?side1 ?side2 A3.out).mono ?_); (case side1 => repeat (first | exact HR0.out | (with_reducible refine Kd.C_alloc ?_ _) | (with_reducible refine Kd.C_drewN ?_ _) | (with_reducible refine Kd.C_drew ?_))); (case side2 => exact HC0.out); rintro e w6 ⟨v416, rfl, ho0, hb⟩; have HO417 := Ax (Kd.N_lower (Kd.N_mono (ok' := fun k_ => True) ho0 (fun k_ hk_ => trivial)) (below_size (zHB))); replace HB := Ax (below_step (zHB) hb); (try clear hb); (try clear hb2); (try clear hk); (try clear hi); (try clear ho0)) | ((with_reducible refine gate_dst (N := 3) rfl ?_); refine box_event ?hg (N := 3) ?hd (cs := #[.int .i64 0, .int .i64 0, .slice none 0 0]) (t := 25) ?hr ?_; (case hd => rfl); (case hg => rfl); (case hr => first | (go_simp; done) | (go_simp; rfl)); intro gb418 hg w7 hbox hb; replace HO417 := Ax (Kd.N_below (Kd.N_elderB (z2) gb418 (Nat.le_of_eq hg.symm)) hb); have BK418 := Ax (hbox); have GW418 := Ax ((z6 : w.heap.size ≤ gb418)); have GE418 := Ax ((z6 : w.heap.size ≤ gb418)); replace HB := Ax (below_step (zHB) hb); clear hb hbox hg; obtain ⟨hcz8_0, hcz8_1, hcz8_2, hfz8_0, hfz8_1, hfz8_2⟩ := cells3 BK418.out; obtain ⟨Ao9, co9, eo9⟩ := Kd.N_slice HO417.out; subst eo9) | (go_at_call 15; (with_reducible refine (impl_TableOk.calls k t413 t414 _ _ t415 t419 _ ?side1 ?side2 A4.out).mono ?_); (case side1 => refine (Kd.N_reads' (e := 30) (base := w.heap.size) (ok := fun k_ => (True ∧ k_ ≠ gb418)) (n := t415.length) (c := co9) ?_).2.2; exact (z0)); (case side2 => exact (Kd.N_reads' HO417.out).2.1); rintro e w10 ⟨rfl, hb⟩; replace HO417 := Ax (Kd.N_below (z0) hb); replace BK418 := Ax (blk_below (g := gb418) (o := .cells #[.int .i64 t413, .int .i64 t414, .slice Ao9 t415.length co9] 25 (0, 0)) (zK) hb); replace HB := Ax (below_step (zHB) hb); (try clear hb); (try clear hb2); (try clear hk); (try clear hi)))
 repeat (go_quiet (first | (go_at_call 14; (with_reducible refine (spec_DrawTableOk.calls k _ _ l0 t413 t414 t415 _ ?side1 ?side2 A3.out).mono ?_); (case side1 => repeat (first | exact HR0.out | (with_reducible refine Kd.C_alloc ?_ _) | (with_reducible refine Kd.C_drewN ?_ _) | (with_reducible refine Kd.C_drew ?_))); (case side2 => exact HC0.out); rintro e w6 ⟨v416, rfl, ho0, hb⟩; have HO417 := Ax (Kd.N_lower (Kd.N_mono (ok' := fun k_ => True) ho0 (fun k_ hk_ => trivial)) (below_size (zHB))); replace HB := Ax (below_step (zHB) hb); (try clear hb); (try clear hb2); (try clear hk); (try clear hi); (try clear ho0)) | ((with_reducible refine gate_dst (N := 3) rfl ?_); refine box_event ?hg (N := 3) ?hd (cs := #[.int .i64 0, .int .i64 0, .slice none 0 0]) (t := 25) ?hr ?_; (case hd => rfl); (case hg => rfl); (case hr => first | (go_simp; done) | (go_simp; rfl)); intro gb418 hg w7 hbox hb; replace HO417 := Ax (Kd.N_below (Kd.N_elderB (z2) gb418 (Nat.le_of_eq hg.symm)) hb); have BK418 := Ax (hbox); have GW418 := Ax ((z6 : w.heap.size ≤ gb418)); have GE418 := Ax ((z6 : w.heap.size ≤ gb418)); replace HB := Ax (below_step (zHB) hb); clear hb hbox hg; obtain ⟨hcz8_0, hcz8_1, hcz8_2, hfz8_0, hfz8_1, hfz8_2⟩ := cells3 BK418.out; obtain ⟨Ao9, co9, eo9⟩ := Kd.N_slice HO417.out; subst eo9) | (go_at_call 15; (with_reducible refine (impl_TableOk.calls k t413 t414 _ _ t415 t419 _ ?side1 ?side2 A4.out).mono ?_); (case side1 => refine (Kd.N_reads' (e := 30) (base := w.heap.size) (ok := fun k_ => (True ∧ k_ ≠ gb418)) (n := t415.length) (c := co9) ?_).2.2; exact (z0)); (case side2 => exact (Kd.N_reads' HO417.out).2.1); rintro e w10 ⟨rfl, hb⟩; replace HO417 := Ax (Kd.N_below (z0) hb); replace BK418 := Ax (blk_below (g := gb418) (o := .cells #[.int .i64 t413, .int .i64 t414, .slice Ao9 t415.length co9] 25 (0, 0)) (zK) hb); replace HB := Ax (below_step (zHB) hb); (try clear hb); (try clear hb2); (try clear hk); (try clear hi))); go_upto_region 5 with (first | (go_at_call 14; (with_reducible refine (spec_DrawTableOk.calls k _ _ l0 t413 t414 t415 _ ?side1 ?side2 A3.out).mono ?_); (case side1 => repeat (first | exact HR0.out | (with_reducible refine Kd.C_alloc ?_ _) | (with_reducible refine Kd.C_drewN ?_ _) | (with_reducible refine Kd.C_drew ?_))); (case side2 => exact HC0.out); rintro e w6 ⟨v416, rfl, ho0, hb⟩; have HO417 := Ax (Kd.N_lower (Kd.N_mono (ok' := fun k_ => True) ho0 (fun k_ hk_ => trivial)) (below_size (zHB))); replace HB := Ax (below_step (zHB) hb); (try clear hb); (try clear hb2); (try clear hk); (try clear hi); (try clear ho0)) | ((with_reducible refine gate_dst (N := 3) rfl ?_); refine box_event ?hg (N := 3) ?hd (cs := #[.int .i64 0, .int .i64 0, .slice none 0 0]) (t := 25) ?hr ?_; (case hd => rfl); (case hg => rfl); (case hr => first | (go_simp; done) | (go_simp; rfl)); intro gb418 hg w7 hbox hb; replace HO417 := Ax (Kd.N_below (Kd.N_elderB (z2) gb418 (Nat.le_of_eq hg.symm)) hb); have BK418 := Ax (hbox); have GW418 := Ax ((z6 : w.heap.size ≤ gb418)); have GE418 := Ax ((z6 : w.heap.size ≤ gb418)); replace HB := Ax (below_step (zHB) hb); clear hb hbox hg; obtain ⟨hcz8_0, hcz8_1, hcz8_2, hfz8_0, hfz8_1, hfz8_2⟩ := cells3 BK418.out; obtain ⟨Ao9, co9, eo9⟩ := Kd.N_slice HO417.out; subst eo9) | (go_at_call 15; (with_reducible refine (impl_TableOk.calls k t413 t414 _ _ t415 t419 _ ?side1 ?side2 A4.out).mono ?_); (case side1 => refine (Kd.N_reads' (e := 30) (base := w.heap.size) (ok := fun k_ => (True ∧ k_ ≠ gb418)) (n := t415.length) (c := co9) ?_).2.2; exact (z0)); (case side2 => exact (Kd.N_reads' HO417.out).2.1); rintro e w10 ⟨rfl, hb⟩; replace HO417 := Ax (Kd.N_below (z0) hb); replace BK418 := Ax (blk_below (g := gb418) (o := .cells #[.int .i64 t413, .int .i64 t414, .slice Ao9 t415.length co9] 25 (0, 0)) (zK) hb); replace HB := Ax (below_step (zHB) hb); (try clear hb); (try clear hb2); (try clear hk); (try clear hi))))
 (try simp only [Act.put, List.setIfInBounds_toArray, List.set_cons_zero, List.set_cons_succ])
 go_cut [23] (fun v23 wc => ∃ (kq : Nat) (x23_4 : Bool), v23 = .bool x23_4 ∧ Aside0 (laws_FnTableOk.j0 kq t419 x23_4 t413 t414 t415 = some r) ∧ Aside0 (kq ≤ k) ∧ Aside0 (Kd.N k30 30 wc w.heap.size (fun k_ => k_ ≠ gb418) (.slice Ao9 t415.length co9) t415) ∧ Aside0 (wc.heap[gb418]? = some (.cells #[.int .i64 t413, .int .i64 t414, (.slice Ao9 t415.length co9)] 25 (0, 0))) ∧ Aside0 (Below w.heap.size w wc))
 case first =>
  have H := HC5.out
  clear HC5
  obtain ⟨t420, A11, H⟩ := bnd H
  by_cases c12 : (t419 != t420) = true
  · rw [if_pos c12] at H
    have c12b0 : (t419 != t420) = true := c12
    (try (have c12b1 : decide (t419 = t420) = false := by simpa using c12))
    (try (have c12b2 : (t419 == t420) = false := by simpa using c12))
    (try (have c12b3 : ¬ (t419 = t420) := by simpa using c12))
    clear c12
    (first | rw [c12b0] | (simp only [i64_w, i32_w]; rw [c12b0]) | skip)
    have H' := Ax H
    clear H
    obtain ⟨_, _, _, _, _, _⟩ := cells3 BK418.out
    go_wp2_with (first | (go_at_call 16; (with_reducible refine (spec_TableOk.calls k t413 t414 _ _ t415 t420 _ ?side1 ?side2 A11.out).mono ?_); (case side1 => repeat (first | exact (Kd.N_reads' HO417.out).2.2 | (with_reducible refine Kd.C_alloc ?_ _) | (with_reducible refine Kd.C_drewN ?_ _) | (with_reducible refine Kd.C_drew ?_))); (case side2 => exact (Kd.N_reads' HO417.out).2.1); rintro e w14 ⟨rfl, hb⟩; replace HO417 := Ax (Kd.N_below (z2) hb); replace BK418 := Ax (blk_below (g := gb418) (zK) hb); replace HB := Ax (below_step (zHB) hb); (try clear hb); (try clear hb2); (try clear hk); (try clear hi)))
    repeat (go_quiet (first | (go_at_call 16; (with_reducible refine (spec_TableOk.calls k t413 t414 _ _ t415 t420 _ ?side1 ?side2 A11.out).mono ?_); (case side1 => repeat (first | exact (Kd.N_reads' HO417.out).2.2 | (with_reducible refine Kd.C_alloc ?_ _) | (with_reducible refine Kd.C_drewN ?_ _) | (with_reducible refine Kd.C_drew ?_))); (case side2 => exact (Kd.N_reads' HO417.out).2.1); rintro e w14 ⟨rfl, hb⟩; replace HO417 := Ax (Kd.N_below (z2) hb); replace BK418 := Ax (blk_below (g := gb418) (zK) hb); replace HB := Ax (below_step (zHB) hb); (try clear hb); (try clear hb2); (try clear hk); (try clear hi))); try go_wp2_with (first | (go_at_call 16; (with_reducible refine (spec_TableOk.calls k t413 t414 _ _ t415 t420 _ ?side1 ?side2 A11.out).mono ?_); (case side1 => repeat (first | exact (Kd.N_reads' HO417.out).2.2 | (with_reducible refine Kd.C_alloc ?_ _) | (with_reducible refine Kd.C_drewN ?_ _) | (with_reducible refine Kd.C_drew ?_))); (case side2 => exact (Kd.N_reads' HO417.out).2.1); rintro e w14 ⟨rfl, hb⟩; replace HO417 := Ax (Kd.N_below (z2) hb); replace BK418 := Ax (blk_below (g := gb418) (zK) hb); replace HB := Ax (below_step (zHB) hb); (try clear hb); (try clear hb2); (try clear hk); (try clear hi))))
    go_meet
    exact ⟨_, (true), (z3), H', ⟨by first | omega | exact Nat.le_refl _⟩, ⟨z7⟩, ⟨zK⟩, ⟨zHB⟩⟩
  rw [if_neg c12] at H
  have c12b0 : (t419 != t420) = false := by simpa using c12
  (try (have c12b1 : decide (t419 = t420) = true := by simpa using c12))
  (try (have c12b2 : (t419 == t420) = true := by simpa using c12))
  clear c12
  (first | rw [c12b0] | (simp only [i64_w, i32_w]; rw [c12b0]) | skip)
  have H' := Ax H
  clear H
  obtain ⟨_, _, _, _, _, _⟩ := cells3 BK418.out
  go_wp2_with (first | (go_at_call 16; (with_reducible refine (spec_TableOk.calls k t413 t414 _ _ t415 t420 _ ?side1 ?side2 A11.out).mono ?_); (case side1 => repeat (first | exact (Kd.N_reads' HO417.out).2.2 | (with_reducible refine Kd.C_alloc ?_ _) | (with_reducible refine Kd.C_drewN ?_ _) | (with_reducible refine Kd.C_drew ?_))); (case side2 => exact (Kd.N_reads' HO417.out).2.1); rintro e w16 ⟨rfl, hb⟩; replace HO417 := Ax (Kd.N_below (z2) hb); replace BK418 := Ax (blk_below (g := gb418) (zK) hb); replace HB := Ax (below_step (zHB) hb); (try clear hb); (try clear hb2); (try clear hk); (try clear hi)))
  repeat (go_quiet (first | (go_at_call 16; (with_reducible refine (spec_TableOk.calls k t413 t414 _ _ t415 t420 _ ?side1 ?side2 A11.out).mono ?_); (case side1 => repeat (first | exact (Kd.N_reads' HO417.out).2.2 | (with_reducible refine Kd.C_alloc ?_ _) | (with_reducible refine Kd.C_drewN ?_ _) | (with_reducible refine Kd.C_drew ?_))); (case side2 => exact (Kd.N_reads' HO417.out).2.1); rintro e w16 ⟨rfl, hb⟩; replace HO417 := Ax (Kd.N_below (z2) hb); replace BK418 := Ax (blk_below (g := gb418) (zK) hb); replace HB := Ax (below_step (zHB) hb); (try clear hb); (try clear hb2); (try clear hk); (try clear hi))); try go_wp2_with (first | (go_at_call 16; (with_reducible refine (spec_TableOk.calls k t413 t414 _ _ t415 t420 _ ?side1 ?side2 A11.out).mono ?_); (case side1 => repeat (first | exact (Kd.N_reads' HO417.out).2.2 | (with_reducible refine Kd.C_alloc ?_ _) | (with_reducible refine Kd.C_drewN ?_ _) | (with_reducible refine Kd.C_drew ?_))); (case side2 => exact (Kd.N_reads' HO417.out).2.1); rintro e w16 ⟨rfl, hb⟩; replace HO417 := Ax (Kd.N_below (z2) hb); replace BK418 := Ax (blk_below (g := gb418) (zK) hb); replace HB := Ax (below_step (zHB) hb); (try clear hb); (try clear hb2); (try clear hk); (try clear hi))))
  go_meet
  exact ⟨_, (!t419), (z3), H', ⟨by first | omega | exact Nat.le_refl _⟩, ⟨z7⟩, ⟨zK⟩, ⟨zHB⟩⟩
 clear HC5
 (try clear c2); (try clear c2b0); (try clear c2b1); (try clear hcz8_0); (try clear hcz8_1); (try clear hcz8_2); (try clear hfz8_0); (try clear hfz8_1); (try clear hfz8_2)
 obtain ⟨kq, x23_4, rfl, HA, HJ4, HO_419002, BK418, HB⟩ := hcut
 cases kq with
 | zero => exact absurd HA.out (by simp [laws_FnTableOk.j0])
 | succ kj4 =>
  have H := HA.out
  clear HA
  simp only [laws_FnTableOk.j0] at H
  obtain rfl | rfl := tf x23_4
  · rw [if_pos rfl] at H
    obtain ⟨t421, A18, H⟩ := bnd H
    obtain rfl := Option.some.inj H
    obtain ⟨_, _, _, _, _, _⟩ := cells3 BK418.out
    go_wp2_with (first | (go_at_call 16; (with_reducible refine (spec_TableOk.calls kj4 t413 t414 _ _ t415 t421 _ ?side1 ?side2 A18.out).mono ?_); (case side1 => repeat (first | exact (Kd.N_reads' HO_419002.out).2.2 | (with_reducible refine Kd.C_alloc ?_ _) | (with_reducible refine Kd.C_drewN ?_ _) | (with_reducible refine Kd.C_drew ?_))); (case side2 => exact (Kd.N_reads' HO_419002.out).2.1); rintro e w20 ⟨rfl, hb⟩; replace HO_419002 := Ax (Kd.N_below (z1) hb); replace BK418 := Ax (blk_below (g := gb418) (zK) hb); replace HB := Ax (below_step (zHB) hb); (try clear hb); (try clear hb2); (try clear hk); (try clear hi)))
    repeat (go_quiet (first | (go_at_call 16; (with_reducible refine (spec_TableOk.calls kj4 t413 t414 _ _ t415 t421 _ ?side1 ?side2 A18.out).mono ?_); (case side1 => repeat (first | exact (Kd.N_reads' HO_419002.out).2.2 | (with_reducible refine Kd.C_alloc ?_ _) | (with_reducible refine Kd.C_drewN ?_ _) | (with_reducible refine Kd.C_drew ?_))); (case side2 => exact (Kd.N_reads' HO_419002.out).2.1); rintro e w20 ⟨rfl, hb⟩; replace HO_419002 := Ax (Kd.N_below (z1) hb); replace BK418 := Ax (blk_below (g := gb418) (zK) hb); replace HB := Ax (below_step (zHB) hb); (try clear hb); (try clear hb2); (try clear hk); (try clear hi))); try go_wp2_with (first | (go_at_call 16; (with_reducible refine (spec_TableOk.calls kj4 t413 t414 _ _ t415 t421 _ ?side1 ?side2 A18.out).mono ?_); (case side1 => repeat (first | exact (Kd.N_reads' HO_419002.out).2.2 | (with_reducible refine Kd.C_alloc ?_ _) | (with_reducible refine Kd.C_drewN ?_ _) | (with_reducible refine Kd.C_drew ?_))); (case side2 => exact (Kd.N_reads' HO_419002.out).2.1); rintro e w20 ⟨rfl, hb⟩; replace HO_419002 := Ax (Kd.N_below (z1) hb); replace BK418 := Ax (blk_below (g := gb418) (zK) hb); replace HB := Ax (below_step (zHB) hb); (try clear hb); (try clear hb2); (try clear hk); (try clear hi))))
    go_ret
    exact ⟨z4, zHB⟩
  rw [if_neg Bool.false_ne_true] at H
  have H' := Ax H
  clear H
  go_wp2
  repeat (go_quiet (fail); try go_wp2)
  go_loopg [5, 6] kj4 (fun kq v5 v6 w' => ∃ (x5_2 : Int) (x6_2 : Int), v5 = .int .i64 x5_2 ∧ v6 = .int .i64 x6_2 ∧ Aside0 (laws_FnTableOk.l0 kq x5_2 x6_2 t413 t414 t415 = some r) ∧ Aside0 (kq ≤ kj4) ∧ Aside0 (Kd.N k30 30 w' w.heap.size (fun k_ => k_ ≠ gb418) (.slice Ao9 t415.length co9) t415) ∧ Aside0 (w'.heap[gb418]? = some (.cells #[.int .i64 t413, .int .i64 t414, (.slice Ao9 t415.length co9)] 25 (0, 0))) ∧ Aside0 (Below w.heap.size w w'))
  case atStart => exact ⟨(0), (0), (z3), (z3), H', ⟨Nat.le_refl _⟩, ⟨z1⟩, ⟨zK⟩, ⟨zHB⟩⟩
  clear H'
  (try clear c2); (try clear c2b0); (try clear c2b1); (try clear hcz8_0); (try clear hcz8_1); (try clear hcz8_2); (try clear hfz8_0); (try clear hfz8_1); (try clear hfz8_2)
  obtain ⟨x5_2, x6_2, rfl, rfl, HA, HK2, HO_419002, BK418, HB⟩ := hrel
  cases gk with
  | zero => exact absurd HA.out (by simp [laws_FnTableOk.l0])
  | succ k2 =>
   have H := HA.out
   clear HA
   simp only [laws_FnTableOk.l0] at H
   by_cases c21 : x6_2 < (t415.length : Int)
   · rw [if_pos c21] at H
     have c21b0 := decide_eq_true c21
     clear c21
     by_cases c22 : 0 ≤ x6_2
     rotate_left
     · rw [if_neg c22] at H
       exact absurd H (by simp)
     rw [if_pos c22] at H
     have c22b0 := decide_eq_true c22
     clear c22
     have H' := Ax H
     clear H
     obtain ⟨_, _, _, _, _, _⟩ := cells3 BK418.out
     have p422 : 0 ≤ (x6_2 : Int) := of_decide_eq_true (z5)
     have q422 : x6_2 < (t415.length : Int) := of_decide_eq_true (z5)
     obtain ⟨ad422, A422_4, c422_4, e422, hx422_0, hx422_1, hx422_2, hx422_3, hx422_4, hl422_4, hi422_4⟩ := at_T30 (Kd.N_reads' HO_419002.out).2.2 x6_2 p422 q422
     cases e422
     obtain ⟨ce422, hce422, hMe422, hcc422⟩ := Kd.N_get HO_419002.out z30 x6_2 p422 (by first | exact q422 | exact of_decide_eq_true (z5) | (have e_ := (Kd.N_reads' HO_419002.out).1; omega))
     obtain ⟨ua422_4, uc422_4, rfl, ul422_4, ge422_4⟩ := k30_openF hMe422
     have hv422_4 := hcc422 4 _ rfl
     rw [add_field _ _ 4 (by omega)] at hv422_4
     replace hv422_4 := Option.some.inj (hv422_4.symm.trans hx422_4)
     injection hv422_4 with hva_ hvn_ hvc_
     rw [hva_] at ge422_4
     rw [hvc_] at ul422_4
     have HL422_4 := Ax (show Kd.V k61 61 _ w.heap.size _ _ ((rd_T30 t415 x6_2).f4) from Kd.V_mk ul422_4 ge422_4)
     clear hva_ hvn_ hvc_ ge422_4 ul422_4
     clear hcc422 hce422
     have HR422_4 := Ax hi422_4
     have HC422_4 := Ax hl422_4
     clear hi422_4 hl422_4
     replace p422 := eq_true p422
     replace q422 := eq_true q422
     have p423 : 0 ≤ (x6_2 : Int) := of_decide_eq_true (z5)
     have q423 : x6_2 < (t415.length : Int) := of_decide_eq_true (z5)
     obtain ⟨ad423, A423_4, c423_4, e423, hx423_0, hx423_1, hx423_2, hx423_3, hx423_4, hl423_4, hi423_4⟩ := at_T30 (Kd.N_reads' HO_419002.out).2.2 x6_2 p423 q423
     obtain rfl : ad422 = ad423 := (by injection e423)
     obtain ⟨ce423, hce423, hMe423, hcc423⟩ := Kd.N_get HO_419002.out z30 x6_2 p423 (by first | exact q423 | exact of_decide_eq_true (z5) | (have e_ := (Kd.N_reads' HO_419002.out).1; omega))
     obtain ⟨ua423_4, uc423_4, rfl, ul423_4, ge423_4⟩ := k30_openF hMe423
     have hv423_4 := hcc423 4 _ rfl
     rw [add_field _ _ 4 (by omega)] at hv423_4
     replace hv423_4 := Option.some.inj (hv423_4.symm.trans hx423_4)
     injection hv423_4 with hva_ hvn_ hvc_
     rw [hva_] at ge423_4
     rw [hvc_] at ul423_4
     have HL423_4 := Ax (show Kd.V k61 61 _ w.heap.size _ _ ((rd_T30 t415 x6_2).f4) from Kd.V_mk ul423_4 ge423_4)
     clear hva_ hvn_ hvc_ ge423_4 ul423_4
     clear hcc423 hce423
     have HR423_4 := Ax hi423_4
     have HC423_4 := Ax hl423_4
     clear hi423_4 hl423_4
     replace p423 := eq_true p423
     replace q423 := eq_true q423
     have ea_ := Option.some.inj (hx422_4.symm.trans hx423_4)
     injection ea_ with ea_ en_ ec_
     subst ea_
     subst ec_
     clear en_
     go_wp2
     repeat (go_quiet (fail); try go_wp2)
     go_roundg k2
     case measure => have := HJ4.out; have := HK2.out; omega
     exact ⟨(wrap64 (x5_2 + (wrap64 (((rd_T30 t415 x6_2).f2) * ((rd_T30 t415 x6_2).f3))))), (wrap64 (x6_2 + 1)), (z3), (z3), H', ⟨by have := HJ4.out; have := HK2.out; omega⟩, ⟨z1⟩, ⟨zK⟩, ⟨zHB⟩⟩
   rw [if_neg c21] at H
   have c21b0 := decide_eq_false c21
   clear c21
   have H' := Ax H
   clear H
   obtain ⟨hcz24_0, hcz24_1, hcz24_2, hfz24_0, hfz24_1, hfz24_2⟩ := cells3 BK418.out
   go_wp2
   repeat (go_quiet (fail); try go_wp2)
   go_loopg [7] k2 (fun kq v7 w' => ∃ (x7_3 : Int), v7 = .int .i64 x7_3 ∧ Aside0 (laws_FnTableOk.l1 kq x5_2 x7_3 t413 t414 t415 = some r) ∧ Aside0 (kq ≤ k2) ∧ Aside0 (Kd.N k30 30 w' w.heap.size (fun k_ => k_ ≠ gb418) (.slice Ao9 t415.length co9) t415) ∧ Aside0 (w'.heap[gb418]? = some (.cells #[.int .i64 t413, .int .i64 t414, (.slice Ao9 t415.length co9)] 25 (0, 0))) ∧ Aside0 (Below w.heap.size w w'))
   case atStart => exact ⟨(0), (z3), H', ⟨Nat.le_refl _⟩, ⟨z1⟩, ⟨zK⟩, ⟨zHB⟩⟩
   clear H'
   (try clear c2); (try clear c2b0); (try clear c2b1); (try clear c21); (try clear c21b0); (try clear hcz24_0); (try clear hcz24_1); (try clear hcz24_2); (try clear hcz8_0); (try clear hcz8_1); (try clear hcz8_2); (try clear hfz24_0); (try clear hfz24_1); (try clear hfz24_2); (try clear hfz8_0); (try clear hfz8_1); (try clear hfz8_2)
   obtain ⟨x7_3, rfl, HA, HK3, HO_419002, BK418, HB⟩ := hrel
   cases gk with
   | zero => exact absurd HA.out (by simp [laws_FnTableOk.l1])
   | succ k3 =>
    have H := HA.out
    clear HA
    simp only [laws_FnTableOk.l1] at H
    by_cases c25 : x7_3 < t413
    rotate_left
    · rw [if_neg c25] at H
      have c25b0 := decide_eq_false c25
      clear c25
      obtain rfl := Option.some.inj H
      obtain ⟨_, _, _, _, _, _⟩ := cells3 BK418.out
      go_wp2
      repeat (go_quiet (fail); try go_wp2)
      go_ret
      exact ⟨z4, zHB⟩
    rw [if_pos c25] at H
    have c25b0 := decide_eq_true c25
    clear c25
    have H' := Ax H
    clear H
    obtain ⟨hcz26_0, hcz26_1, hcz26_2, hfz26_0, hfz26_1, hfz26_2⟩ := cells3 BK418.out
    go_wp2
    repeat (go_quiet (fail); try go_wp2)
    go_loopg [8] k3 (fun kq v8 w' => ∃ (x8_4 : Int), v8 = .int .i64 x8_4 ∧ Aside0 (laws_FnTableOk.l2 kq x5_2 x7_3 x8_4 t413 t414 t415 = some r) ∧ Aside0 (kq ≤ k3) ∧ Aside0 (Kd.N k30 30 w' w.heap.size (fun k_ => k_ ≠ gb418) (.slice Ao9 t415.length co9) t415) ∧ Aside0 (w'.heap[gb418]? = some (.cells #[.int .i64 t413, .int .i64 t414, (.slice Ao9 t415.length co9)] 25 (0, 0))) ∧ Aside0 (Below w.heap.size w w'))
    case atStart => exact ⟨(0), (z3), H', ⟨Nat.le_refl _⟩, ⟨z1⟩, ⟨zK⟩, ⟨zHB⟩⟩
    clear H'
    (try clear c2); (try clear c2b0); (try clear c2b1); (try clear c21); (try clear c21b0); (try clear c25); (try clear c25b0); (try clear hcz24_0); (try clear hcz24_1); (try clear hcz24_2); (try clear hcz26_0); (try clear hcz26_1); (try clear hcz26_2); (try clear hcz8_0); (try clear hcz8_1); (try clear hcz8_2); (try clear hfz24_0); (try clear hfz24_1); (try clear hfz24_2); (try clear hfz26_0); (try clear hfz26_1); (try clear hfz26_2); (try clear hfz8_0); (try clear hfz8_1); (try clear hfz8_2)
    obtain ⟨x8_4, rfl, HA, HK4, HO_419002, BK418, HB⟩ := hrel
    cases gk with
    | zero => exact absurd HA.out (by simp [laws_FnTableOk.l2])
    | succ k4 =>
     have H := HA.out
     clear HA
     simp only [laws_FnTableOk.l2] at H
     by_cases c27 : x8_4 < t414
     rotate_left
     · rw [if_neg c27] at H
       have c27b0 := decide_eq_false c27
       clear c27
       have H' := Ax H
       clear H
       obtain ⟨_, _, _, _, _, _⟩ := cells3 BK418.out
       go_wp2
       repeat (go_quiet (fail); try go_wp2)
       go_roundg k4
       case measure => have := HJ4.out; have := HK2.out; have := HK3.out; have := HK4.out; omega
       exact ⟨(wrap64 (x7_3 + 1)), (z3), H', ⟨z8⟩, ⟨z1⟩, ⟨zK⟩, ⟨zHB⟩⟩
     rw [if_pos c27] at H
     have c27b0 := decide_eq_true c27
     clear c27
     obtain ⟨t424, A28, H⟩ := bnd H
     by_cases c29 : t424 < 0
     · rw [if_pos c29] at H
       have c29b0 := decide_eq_true c29
       clear c29
       obtain rfl := Option.some.inj H
       obtain ⟨_, _, _, _, _, _⟩ := cells3 BK418.out
       go_wp2_with (first | (go_at_call 17; (with_reducible refine (impl_TableAt.calls k4 t413 t414 _ _ t415 x7_3 x8_4 t424 _ ?side1 ?side2 A28.out).mono ?_); (case side1 => repeat (first | exact (Kd.N_reads' HO_419002.out).2.2 | (with_reducible refine Kd.C_alloc ?_ _) | (with_reducible refine Kd.C_drewN ?_ _) | (with_reducible refine Kd.C_drew ?_))); (case side2 => exact (Kd.N_reads' HO_419002.out).2.1); rintro e w31 ⟨rfl, hb⟩; replace HO_419002 := Ax (Kd.N_below (z1) hb); replace BK418 := Ax (blk_below (g := gb418) (zK) hb); replace HB := Ax (below_step (zHB) hb); (try clear hb); (try clear hb2); (try clear hk); (try clear hi)))
       repeat (go_quiet (first | (go_at_call 17; (with_reducible refine (impl_TableAt.calls k4 t413 t414 _ _ t415 x7_3 x8_4 t424 _ ?side1 ?side2 A28.out).mono ?_); (case side1 => repeat (first | exact (Kd.N_reads' HO_419002.out).2.2 | (with_reducible refine Kd.C_alloc ?_ _) | (with_reducible refine Kd.C_drewN ?_ _) | (with_reducible refine Kd.C_drew ?_))); (case side2 => exact (Kd.N_reads' HO_419002.out).2.1); rintro e w31 ⟨rfl, hb⟩; replace HO_419002 := Ax (Kd.N_below (z1) hb); replace BK418 := Ax (blk_below (g := gb418) (zK) hb); replace HB := Ax (below_step (zHB) hb); (try clear hb); (try clear hb2); (try clear hk); (try clear hi))); try go_wp2_with (first | (go_at_call 17; (with_reducible refine (impl_TableAt.calls k4 t413 t414 _ _ t415 x7_3 x8_4 t424 _ ?side1 ?side2 A28.out).mono ?_); (case side1 => repeat (first | exact (Kd.N_reads' HO_419002.out).2.2 | (with_reducible refine Kd.C_alloc ?_ _) | (with_reducible refine Kd.C_drewN ?_ _) | (with_reducible refine Kd.C_drew ?_))); (case side2 => exact (Kd.N_reads' HO_419002.out).2.1); rintro e w31 ⟨rfl, hb⟩; replace HO_419002 := Ax (Kd.N_below (z1) hb); replace BK418 := Ax (blk_below (g := gb418) (zK) hb); replace HB := Ax (below_step (zHB) hb); (try clear hb); (try clear hb2); (try clear hk); (try clear hi))))
       go_ret
       exact ⟨z4, zHB⟩
     rw [if_neg c29] at H
     have c29b0 := decide_eq_false c29
     clear c29
     have H' := Ax H
     clear H
     obtain ⟨_, _, _, _, _, _⟩ := cells3 BK418.out
     go_wp2_with (first | (go_at_call 17; (with_reducible refine (impl_TableAt.calls k4 t413 t414 _ _ t415 x7_3 x8_4 t424 _ ?side1 ?side2 A28.out).mono ?_); (case side1 => repeat (first | exact (Kd.N_reads' HO_419002.out).2.2 | (with_reducible refine Kd.C_alloc ?_ _) | (with_reducible refine Kd.C_drewN ?_ _) | (with_reducible refine Kd.C_drew ?_))); (case side2 => exact (Kd.N_reads' HO_419002.out).2.1); rintro e w33 ⟨rfl, hb⟩; replace HO_419002 := Ax (Kd.N_below (z1) hb); replace BK418 := Ax (blk_below (g := gb418) (zK) hb); replace HB := Ax (below_step (zHB) hb); (try clear hb); (try clear hb2); (try clear hk); (try clear hi)))
     repeat (go_quiet (first | (go_at_call 17; (with_reducible refine (impl_TableAt.calls k4 t413 t414 _ _ t415 x7_3 x8_4 t424 _ ?side1 ?side2 A28.out).mono ?_); (case side1 => repeat (first | exact (Kd.N_reads' HO_419002.out).2.2 | (with_reducible refine Kd.C_alloc ?_ _) | (with_reducible refine Kd.C_drewN ?_ _) | (with_reducible refine Kd.C_drew ?_))); (case side2 => exact (Kd.N_reads' HO_419002.out).2.1); rintro e w33 ⟨rfl, hb⟩; replace HO_419002 := Ax (Kd.N_below (z1) hb); replace BK418 := Ax (blk_below (g := gb418) (zK) hb); replace HB := Ax (below_step (zHB) hb); (try clear hb); (try clear hb2); (try clear hk); (try clear hi))); try go_wp2_with (first | (go_at_call 17; (with_reducible refine (impl_TableAt.calls k4 t413 t414 _ _ t415 x7_3 x8_4 t424 _ ?side1 ?side2 A28.out).mono ?_); (case side1 => repeat (first | exact (Kd.N_reads' HO_419002.out).2.2 | (with_reducible refine Kd.C_alloc ?_ _) | (with_reducible refine Kd.C_drewN ?_ _) | (with_reducible refine Kd.C_drew ?_))); (case side2 => exact (Kd.N_reads' HO_419002.out).2.1); rintro e w33 ⟨rfl, hb⟩; replace HO_419002 := Ax (Kd.N_below (z1) hb); replace BK418 := Ax (blk_below (g := gb418) (zK) hb); replace HB := Ax (below_step (zHB) hb); (try clear hb); (try clear hb2); (try clear hk); (try clear hi))))
     go_roundg k4
     case measure => have := HJ4.out; have := HK2.out; have := HK3.out; have := HK4.out; omega
     exact ⟨(wrap64 (x8_4 + 1)), (z3), H', ⟨z8⟩, ⟨z1⟩, ⟨zK⟩, ⟨zHB⟩⟩
/-- THE ONE PURE STATEMENT of laws_FnTableOk: yours. -/
def laws_FnTableOk.Pure : Prop := ∀ (l0 : List Int), l0.length ≤ maxLen → l0.length * 1 ≤ 140737488351232 → (∀ x ∈ l0, (Lit.int .u8 x).wf = true) → ∃ k, laws_FnTableOk.f k l0 = some true
theorem laws_FnTableOk.walk (P : laws_FnTableOk.Pure) (a0 : Option Addr) (len0 cap0 : Nat) (z0 : List Int) (w : World) (w0 : (a0 = none ∧ len0 = 0 ∧ cap0 = 0 ∧ z0 = []) ∨ ∃ x, a0 = some x ∧ len0 ≤ cap0 ∧ cap0 ≤ maxLen ∧ z0.length = cap0 ∧ (∀ i, i < z0.length → w.cell? (x.add i) = some (.int .u8 (z0.getD i 0))) ∧ ∀ n ∈ z0, (Lit.int .u8 n).wf = true) (y0 : len0 * 1 ≤ 140737488351232) :
    Calls Try.prog 3 #[.slice a0 len0 cap0] w fun e w' => e = .returned (.bool true) ∧ Below w.heap.size w w' := by
  obtain ⟨l0, rfl, hr0, hm0, hw0, hc0⟩ := ReadsInt.ofRowC w0
  obtain ⟨k, h⟩ := P l0 hm0 y0 hw0
  refine (laws_FnTableOk.calls k _ _ l0 true w (Kd.C_of_reads (d := (0 : Int)) (h1 := fun _ => rfl) hr0) hc0 h).mono ?_
  rintro e w' ⟨rfl, hd⟩
  exact ⟨rfl, hd⟩

end Go.Proofs.Ytljgbeccmcidkaa.P
