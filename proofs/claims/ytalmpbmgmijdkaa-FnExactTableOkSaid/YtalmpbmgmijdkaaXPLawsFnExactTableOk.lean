/- What the Go functions named below compute, function by function: a plain Lean function with the same answers and the proof that a call comes to them. Conditions: the arguments read as told, the plain function answers. -/
import Derived.Test.YtalmpbmgmijdkaaXA
import Derived.Test.YtalmpbmgmijdkaaXD
import Derived.Test.YtalmpbmgmijdkaaXC
import Derived.Test.YtalmpbmgmijdkaaXB
namespace Go.Proofs.Ytalmpbmgmijdkaa.P
open Go.RowKit Go.Proofs.YtalmpbmgmijdkaaW.PrintWords Go.Proofs.YtalmpbmgmijdkaaW.PrintLast Go.Proofs.YtalmpbmgmijdkaaW.PrintMore
attribute [local go_sem] max2_int min2_int max_two min_two max_three min_three max_four min_four   -- for this text's walks alone
set_option linter.unusedVariables false
set_option linter.unusedSimpArgs false

attribute [local go_sem ↓] isSome_setCell
/-! ### laws_FnExactTableOk: function 3 -/
def laws_FnExactTableOk.f (k : Nat) (a0_0 : Int) (a0_1 : Int) (l0_2 : List (S63)) : Option (Bool) := (laws_szTable.f k a0_0 a0_1 l0_2 1048576).bind fun t209 => (if t209 < 0 then (some true) else ((laws_toTable.f k a0_0 a0_1 l0_2).bind fun bt210 => ((spec_TableOk.f k bt210.1 bt210.2.1 bt210.2.2).bind fun t215 => ((laws_toTable.f k a0_0 a0_1 l0_2).bind fun bt216 => ((impl_TableOk.f k bt216.1 bt216.2.1 bt216.2.2).bind fun t222 => (if (t222 != t215) = true then (some false) else ((laws_toTable.f k a0_0 a0_1 l0_2).bind fun bt223 => ((laws_eqTable.f k bt216.1 bt216.2.1 bt216.2.2 bt223.1 bt223.2.1 bt223.2.2).bind fun t228 => (if t228 = true then (some true) else (some false))))))))))
theorem laws_FnExactTableOk.mono : ∀ a0 a1 a2 k, LeO (laws_FnExactTableOk.f k a0 a1 a2) (laws_FnExactTableOk.f (k + 1) a0 a1 a2) := by
  intro a0 a1 a2 k
  unfold laws_FnExactTableOk.f
  with_reducible repeat' first | exact impl_TableOk.mono _ _ _ _ | exact laws_eqTable.mono _ _ _ _ _ _ _ | exact laws_szTable.mono _ _ _ _ _ | exact laws_toTable.mono _ _ _ _ | exact spec_TableOk.mono _ _ _ _ | exact LeO.refl _ | exact LeO.none _ | refine LeO.ite ?_ ?_ | refine LeO.bind ?_ (fun _ => ?_)
theorem laws_FnExactTableOk.zHB {p : Prop} (h : p := by repeat (first | (with_reducible first | exact HB.out | apply below_alloc | apply pw_below_drewN | apply below_drew1 | refine below_set ?_ GE208.out | refine below_set ?_ GE221.out) | exact HB.out)) : p := h
theorem laws_FnExactTableOk.zK {p : Prop} (h : p := by repeat' first | (with_reducible first | exact BK208.out | exact BK221.out | apply blk_drewN | apply blk_drew | apply blk_alloc | apply blk_far (hp := NB208_221.out) | apply blk_putE) | exact (rfl : List.set _ _ _ = _)) : p := h
theorem laws_FnExactTableOk.z0 {p : Prop} (h : p := by (try simp only [List.map_toArray, List.map_cons, List.map_nil]); first | done | rfl | (simp only [List.length_drop, List.length_take]; rfl)) : p := h
theorem laws_FnExactTableOk.z1 {p : Prop} (h : p := by (with_reducible repeat (first | apply Kd.S_alloc | apply Kd.S_drewN | apply Kd.S_drew)); exact HO214.out) : p := h
theorem laws_FnExactTableOk.z2 {p : Prop} (h : p := by (with_reducible repeat (first | apply Kd.S_alloc | apply Kd.S_drewN | apply Kd.S_drew)); exact HO220.out) : p := h
theorem laws_FnExactTableOk.z3 {p : Prop} (h : p := by rw [hg]; exact (below_size (zHB))) : p := h
theorem laws_FnExactTableOk.z4 {p : Prop} (h : p := by (with_reducible repeat (first | apply Kd.S_alloc | apply Kd.S_drewN | apply Kd.S_drew)); exact (Kd.S_mono (Kd.S_far (p := ⟨gb221, 2, none⟩) (Kd.S_far (p := ⟨gb221, 1, none⟩) (Kd.S_far (p := ⟨gb221, 0, none⟩) (Kd.S_types HO220.out BK221.out (by decide)) (fun _ hk => hk.2) (.int .i64 t216)) (fun _ hk => hk.2) (.int .i64 t217)) (fun _ hk => hk.2) (.slice Ao24 t218.length co24)) (fun _ h_ => h_.1))) : p := h
theorem laws_FnExactTableOk.z5 {p : Prop} (h : p := by (with_reducible repeat (first | apply Kd.S_alloc | apply Kd.S_drewN | apply Kd.S_drew)); exact (Kd.S_mono (Kd.S_far (p := ⟨gb221, 2, none⟩) (Kd.S_far (p := ⟨gb221, 1, none⟩) (Kd.S_far (p := ⟨gb221, 0, none⟩) (Kd.S_types HO220.out BK221.out (by decide)) (fun _ hk => hk.2) (.int .i64 t216)) (fun _ hk => hk.2) (.int .i64 t217)) (fun _ hk => hk.2) (.slice Ao41 t218.length co41)) (fun _ h_ => h_.1))) : p := h
theorem laws_FnExactTableOk.z6 {p : Prop} (h : p := by (with_reducible repeat (first | apply Kd.S_alloc | apply Kd.S_drewN | apply Kd.S_drew)); exact (Kd.S_mono (Kd.S_far (p := ⟨gb221, 2, none⟩) (Kd.S_far (p := ⟨gb221, 1, none⟩) (Kd.S_far (p := ⟨gb221, 0, none⟩) (Kd.S_types HO220.out BK221.out (by decide)) (fun _ hk => hk.2) (.int .i64 t216)) (fun _ hk => hk.2) (.int .i64 t217)) (fun _ hk => hk.2) (.slice Ao59 t218.length co59)) (fun _ h_ => h_.1))) : p := h
theorem laws_FnExactTableOk.z7 {p : Prop} (h : p := by first | rfl | (simp [errW_none, errW_some] <;> rfl) | (simp [*, errW_none, errW_some] <;> rfl)) : p := h
theorem laws_FnExactTableOk.z8 {p : Prop} (h : p := by rw [hg]; exact Nat.ne_of_lt (blk_lt (g := gb208) (zK))) : p := h
theorem laws_FnExactTableOk.z9 {p : Prop} (h : p := by rw [hg]; exact Nat.ne_of_gt (blk_lt (g := gb208) (zK))) : p := h
theorem laws_FnExactTableOk.z10 {p : Prop} (h : p := by (with_reducible repeat (first | apply Kd.S_alloc | apply Kd.S_drewN | apply Kd.S_drew)); exact HO227.out) : p := h
set_option maxHeartbeats 8000000 in
set_option maxRecDepth 100000 in
theorem laws_FnExactTableOk.calls (k : Nat) (a0_0 : Int) (a0_1 : Int) (A0_2 : Option Addr) (c0_2 : Nat) (l0_2 : List (S63)) (r : Bool) (w : World) (hr0_2 : Kd.C k63 w A0_2 l0_2.length l0_2) (hc0_2 : l0_2.length ≤ c0_2) (h : laws_FnExactTableOk.f k a0_0 a0_1 l0_2 = some r) :
    Calls Try.prog 3 #[.agg #[.int .i64 a0_0, .int .i64 a0_1, .slice A0_2 l0_2.length c0_2]] w fun e w' => e = .returned (.bool r) ∧ Below w.heap.size w w' := by
 have hu24 := Try.underlying24
 have hu29 := Try.underlying29
 have HR0_2 := Aside0.mk hr0_2
 have HC0_2 := Aside0.mk hc0_2
 clear hr0_2 hc0_2
 have HB := Aside0.mk (Below.refl w.heap.size w)
 have H : ((laws_szTable.f k a0_0 a0_1 l0_2 1048576).bind fun t209 => (if t209 < 0 then (some true) else ((laws_toTable.f k a0_0 a0_1 l0_2).bind fun bt210 => ((spec_TableOk.f k bt210.1 bt210.2.1 bt210.2.2).bind fun t215 => ((laws_toTable.f k a0_0 a0_1 l0_2).bind fun bt216 => ((impl_TableOk.f k bt216.1 bt216.2.1 bt216.2.2).bind fun t222 => (if (t222 != t215) = true then (some false) else ((laws_toTable.f k a0_0 a0_1 l0_2).bind fun bt223 => ((laws_eqTable.f k bt216.1 bt216.2.1 bt216.2.2 bt223.1 bt223.2.1 bt223.2.2).bind fun t228 => (if t228 = true then (some true) else (some false))))))))))) = some r := h
 clear h
 obtain ⟨t209, A2, H⟩ := bnd H
 by_cases c3 : t209 < 0
 · rw [if_pos c3] at H
   have c3b0 := decide_eq_true c3
   clear c3
   obtain rfl := Option.some.inj H
   go_enter Try.func3, Try.ntmps3
   go_wp2_with (first | ((with_reducible refine gate_dst (N := 1) rfl ?_); refine box_event ?hg (N := 1) ?hd (cs := #[.int .i64 a0_0, .int .i64 a0_1, .slice A0_2 l0_2.length c0_2]) (t := 24) ?hr ?_; (case hd => rfl); (case hg => rfl); (case hr => first | (go_simp; done) | (go_simp; rfl)); intro gb208 hg w4 hbox hb; have BK208 := Aside0.mk (hbox); have GW208 := Aside0.mk ((z3 : w.heap.size ≤ gb208)); have GE208 := Aside0.mk ((z3 : w.heap.size ≤ gb208)); replace HB := Aside0.mk (below_step (zHB) hb); clear hb hbox hg; obtain ⟨hcz5_0, hcz5_1, hcz5_2, hfz5_0, hfz5_1, hfz5_2⟩ := cells3 BK208.out) | ((with_reducible refine gate_callee (f := 11) rfl ?_); refine goesL_ (some 9) rfl rfl Try.func11 (by kernel_rfl) rfl #[.agg #[.int .i64 a0_0, .int .i64 a0_1, .slice A0_2 l0_2.length c0_2], .int .i64 1048576] rfl (z0) ?_; (with_reducible refine (laws_szTable.calls k a0_0 a0_1 _ _ l0_2 1048576 t209 _ ?side1 ?side2 A2.out).mono ?_); (case side1 => repeat (first | exact (Kd.C_below HR0_2.out HB.out) | (with_reducible refine Kd.C_alloc ?_ _) | (with_reducible refine Kd.C_drewN ?_ _) | (with_reducible refine Kd.C_drew ?_))); (case side2 => exact HC0_2.out); rintro e w6 ⟨rfl, hb⟩; refine ⟨_, rfl, ?_⟩; replace BK208 := Aside0.mk (blk_below (g := gb208) (zK) hb); replace HB := Aside0.mk (below_step (zHB) hb); (try clear hb); (try clear hb2); (try clear hk); (try clear hi)))
   go_ret
   exact ⟨z7, zHB⟩
 rw [if_neg c3] at H
 have c3b0 : decide (t209 < 0) = false := decide_eq_false c3
 clear c3
 obtain ⟨⟨t210, t211, t212⟩, A7, H⟩ := bnd H
 dsimp only at H
 obtain ⟨t215, A8, H⟩ := bnd H
 obtain ⟨⟨t216, t217, t218⟩, A9, H⟩ := bnd H
 dsimp only at H
 obtain ⟨t222, A10, H⟩ := bnd H
 by_cases c11 : (t222 != t215) = true
 · rw [if_pos c11] at H
   have c11b0 : (t222 != t215) = true := c11
   (try (have c11b1 : decide (t222 = t215) = false := by simpa using c11))
   (try (have c11b2 : (t222 == t215) = false := by simpa using c11))
   (try (have c11b3 : ¬ (t222 = t215) := by simpa using c11))
   clear c11
   obtain rfl := Option.some.inj H
   go_enter Try.func3, Try.ntmps3
   go_wp2_with (first | ((with_reducible refine gate_dst (N := 1) rfl ?_); refine box_event ?hg (N := 1) ?hd (cs := #[.int .i64 a0_0, .int .i64 a0_1, .slice A0_2 l0_2.length c0_2]) (t := 24) ?hr ?_; (case hd => rfl); (case hg => rfl); (case hr => first | (go_simp; done) | (go_simp; rfl)); intro gb208 hg w12 hbox hb; have BK208 := Aside0.mk (hbox); have GW208 := Aside0.mk ((z3 : w.heap.size ≤ gb208)); have GE208 := Aside0.mk ((z3 : w.heap.size ≤ gb208)); replace HB := Aside0.mk (below_step (zHB) hb); clear hb hbox hg; obtain ⟨hcz13_0, hcz13_1, hcz13_2, hfz13_0, hfz13_1, hfz13_2⟩ := cells3 BK208.out) | ((with_reducible refine gate_callee (f := 11) rfl ?_); refine goesL_ (some 9) rfl rfl Try.func11 (by kernel_rfl) rfl #[.agg #[.int .i64 a0_0, .int .i64 a0_1, .slice A0_2 l0_2.length c0_2], .int .i64 1048576] rfl (z0) ?_; (with_reducible refine (laws_szTable.calls k a0_0 a0_1 _ _ l0_2 1048576 t209 _ ?side1 ?side2 A2.out).mono ?_); (case side1 => repeat (first | exact (Kd.C_below HR0_2.out HB.out) | (with_reducible refine Kd.C_alloc ?_ _) | (with_reducible refine Kd.C_drewN ?_ _) | (with_reducible refine Kd.C_drew ?_))); (case side2 => exact HC0_2.out); rintro e w14 ⟨rfl, hb⟩; refine ⟨_, rfl, ?_⟩; replace BK208 := Aside0.mk (blk_below (g := gb208) (zK) hb); replace HB := Aside0.mk (below_step (zHB) hb); (try clear hb); (try clear hb2); (try clear hk); (try clear hi); obtain ⟨hcz15_0, hcz15_1, hcz15_2, hfz15_0, hfz15_1, hfz15_2⟩ := cells3 BK208.out) | ((with_reducible refine gate_callee (f := 13) rfl ?_); refine goesL_ (some 13) rfl rfl Try.func13 (by kernel_rfl) rfl #[.agg #[.int .i64 a0_0, .int .i64 a0_1, .slice A0_2 l0_2.length c0_2]] rfl (z0) ?_; (with_reducible refine (laws_toTable.calls k a0_0 a0_1 _ _ l0_2 t210 t211 t212 _ ?side1 ?side2 A7.out).mono ?_); (case side1 => repeat (first | exact (Kd.C_below HR0_2.out HB.out) | (with_reducible refine Kd.C_alloc ?_ _) | (with_reducible refine Kd.C_drewN ?_ _) | (with_reducible refine Kd.C_drew ?_))); (case side2 => exact HC0_2.out); rintro e w16 ⟨v213, rfl, ho0, hb⟩; refine ⟨_, rfl, ?_⟩; have HO214 := Aside0.mk (Kd.S_lower ho0 (below_size (zHB))); replace BK208 := Aside0.mk (blk_below (g := gb208) (zK) hb); replace HB := Aside0.mk (below_step (zHB) hb); (try clear hb); (try clear hb2); (try clear hk); (try clear hi); (try clear ho0); obtain ⟨Ao17, co17, eo17⟩ := Kd.S_slice HO214.out; subst eo17) | ((with_reducible refine gate_callee (f := 12) rfl ?_); refine goesL_ (some 14) rfl rfl Try.func12 (by kernel_rfl) rfl #[.agg #[.int .i64 t210, .int .i64 t211, .slice Ao17 t212.length co17]] rfl (z0) ?_; (with_reducible refine (spec_TableOk.calls k t210 t211 _ _ t212 t215 _ ?side1 ?side2 A8.out).mono ?_); (case side1 => repeat (first | exact (Kd.S_reads' HO214.out).2.2 | (with_reducible refine Kd.C_alloc ?_ _) | (with_reducible refine Kd.C_drewN ?_ _) | (with_reducible refine Kd.C_drew ?_))); (case side2 => exact (Kd.S_reads' HO214.out).2.1); rintro e w18 ⟨rfl, hb⟩; refine ⟨_, rfl, ?_⟩; replace HO214 := Aside0.mk (Kd.S_below (z1) hb); replace BK208 := Aside0.mk (blk_below (g := gb208) (zK) hb); replace HB := Aside0.mk (below_step (zHB) hb); (try clear hb); (try clear hb2); (try clear hk); (try clear hi); obtain ⟨hcz19_0, hcz19_1, hcz19_2, hfz19_0, hfz19_1, hfz19_2⟩ := cells3 BK208.out) | ((with_reducible refine gate_callee (f := 13) rfl ?_); refine goesL_ (some 16) rfl rfl Try.func13 (by kernel_rfl) rfl #[.agg #[.int .i64 a0_0, .int .i64 a0_1, .slice A0_2 l0_2.length c0_2]] rfl (z0) ?_; (with_reducible refine (laws_toTable.calls k a0_0 a0_1 _ _ l0_2 t216 t217 t218 _ ?side1 ?side2 A9.out).mono ?_); (case side1 => repeat (first | exact (Kd.C_below HR0_2.out HB.out) | (with_reducible refine Kd.C_alloc ?_ _) | (with_reducible refine Kd.C_drewN ?_ _) | (with_reducible refine Kd.C_drew ?_))); (case side2 => exact HC0_2.out); rintro e w20 ⟨v219, rfl, ho0, hb⟩; refine ⟨_, rfl, ?_⟩; have HO220 := Aside0.mk (Kd.S_lower (Kd.S_new' ho0 (Kd.S_lt (z1))) (below_size (zHB))); replace HO214 := Aside0.mk (Kd.S_elder' (z1) (Kd.S_base ho0) hb); replace BK208 := Aside0.mk (blk_below (g := gb208) (zK) hb); replace HB := Aside0.mk (below_step (zHB) hb); (try clear hb); (try clear hb2); (try clear hk); (try clear hi); (try clear ho0)) | ((with_reducible refine gate_dst (N := 5) rfl ?_); refine box_event ?hg (N := 5) ?hd (cs := #[.int .i64 0, .int .i64 0, .slice none 0 0]) (t := 29) ?hr ?_; (case hd => rfl); (case hg => rfl); (case hr => first | (go_simp; done) | (go_simp; rfl)); intro gb221 hg w21 hbox hb; replace HO214 := Aside0.mk (Kd.S_below (z1) hb); replace HO220 := Aside0.mk (Kd.S_below (z2) hb); have BK221 := Aside0.mk (hbox); have GW221 := Aside0.mk ((z3 : w.heap.size ≤ gb221)); have GE221 := Aside0.mk ((z3 : w.heap.size ≤ gb221)); replace HB := Aside0.mk (below_step (zHB) hb); have NB208_221 := Aside0.mk ((z8 : gb208 ≠ gb221)); have NB221_208 := Aside0.mk ((z9 : gb221 ≠ gb208)); replace BK208 := Aside0.mk (blk_below (g := gb208) (zK) hb); clear hb hbox hg; have hnb22 := NB221_208.out; have hnc22 := NB208_221.out; obtain ⟨hcz23_0, hcz23_1, hcz23_2, hfz23_0, hfz23_1, hfz23_2⟩ := cells3 BK221.out; obtain ⟨Ao24, co24, eo24⟩ := Kd.S_slice HO220.out; subst eo24) | ((with_reducible refine gate_callee (f := 14) rfl ?_); refine goesL_ (some 18) rfl rfl Try.func14 (by kernel_rfl) rfl #[.agg #[.int .i64 t216, .int .i64 t217, .slice Ao24 t218.length co24]] rfl (z0) ?_; (with_reducible refine (impl_TableOk.calls k t216 t217 _ _ t218 t222 _ ?side1 ?side2 A10.out).mono ?_); (case side1 => refine (Kd.S_reads' (e := 48) (base := w.heap.size) (ok := fun k_ => (True ∧ some k_ ≠ (.slice Ao17 t212.length co17 : Value).ownBlock)) (n := t218.length) (c := co24) ?_).2.2; exact (z4)); (case side2 => exact (Kd.S_reads' HO220.out).2.1); rintro e w25 ⟨rfl, hb⟩; refine ⟨_, rfl, ?_⟩; replace HO214 := Aside0.mk (Kd.S_below (by (with_reducible repeat (first | apply Kd.S_alloc | apply Kd.S_drewN | apply Kd.S_drew)); exact (Kd.S_mono (Kd.S_far (p := ⟨gb221, 2, none⟩) (Kd.S_far (p := ⟨gb221, 1, none⟩) (Kd.S_far (p := ⟨gb221, 0, none⟩) (Kd.S_types HO214.out BK221.out (by decide)) (fun _ hk => hk.2) (.int .i64 t216)) (fun _ hk => hk.2) (.int .i64 t217)) (fun _ hk => hk.2) (.slice Ao24 t218.length co24)) (fun _ h_ => h_.1))) hb); replace HO220 := Aside0.mk (Kd.S_below (z4) hb); replace BK208 := Aside0.mk (blk_below (g := gb208) (zK) hb); replace BK221 := Aside0.mk (blk_below (g := gb221) (o := .cells #[.int .i64 t216, .int .i64 t217, .slice Ao24 t218.length co24] 29 (0, 0)) (zK) hb); replace HB := Aside0.mk (below_step (zHB) hb); (try clear hb); (try clear hb2); (try clear hk); (try clear hi)))
   go_ret
   exact ⟨z7, zHB⟩
 rw [if_neg c11] at H
 have c11b0 : (t222 != t215) = false := by simpa using c11
 (try (have c11b1 : decide (t222 = t215) = true := by simpa using c11))
 (try (have c11b2 : (t222 == t215) = true := by simpa using c11))
 clear c11
 obtain ⟨⟨t223, t224, t225⟩, A26, H⟩ := bnd H
 dsimp only at H
 obtain ⟨t228, A27, H⟩ := bnd H
 obtain rfl | rfl := tf t228
 · rw [if_pos rfl] at H
   obtain rfl := Option.some.inj H
   go_enter Try.func3, Try.ntmps3
   try go_wp2_with (first | ((with_reducible refine gate_dst (N := 1) rfl ?_); refine box_event ?hg (N := 1) ?hd (cs := #[.int .i64 a0_0, .int .i64 a0_1, .slice A0_2 l0_2.length c0_2]) (t := 24) ?hr ?_; (case hd => rfl); (case hg => rfl); (case hr => first | (go_simp; done) | (go_simp; rfl)); intro gb208 hg w29 hbox hb; have BK208 := Aside0.mk (hbox); have GW208 := Aside0.mk ((z3 : w.heap.size ≤ gb208)); have GE208 := Aside0.mk ((z3 : w.heap.size ≤ gb208)); replace HB := Aside0.mk (below_step (zHB) hb); clear hb hbox hg; obtain ⟨hcz30_0, hcz30_1, hcz30_2, hfz30_0, hfz30_1, hfz30_2⟩ := cells3 BK208.out) | ((with_reducible refine gate_callee (f := 11) rfl ?_); refine goesL_ (some 9) rfl rfl Try.func11 (by kernel_rfl) rfl #[.agg #[.int .i64 a0_0, .int .i64 a0_1, .slice A0_2 l0_2.length c0_2], .int .i64 1048576] rfl (z0) ?_; (with_reducible refine (laws_szTable.calls k a0_0 a0_1 _ _ l0_2 1048576 t209 _ ?side1 ?side2 A2.out).mono ?_); (case side1 => repeat (first | exact (Kd.C_below HR0_2.out HB.out) | (with_reducible refine Kd.C_alloc ?_ _) | (with_reducible refine Kd.C_drewN ?_ _) | (with_reducible refine Kd.C_drew ?_))); (case side2 => exact HC0_2.out); rintro e w31 ⟨rfl, hb⟩; refine ⟨_, rfl, ?_⟩; replace BK208 := Aside0.mk (blk_below (g := gb208) (zK) hb); replace HB := Aside0.mk (below_step (zHB) hb); (try clear hb); (try clear hb2); (try clear hk); (try clear hi); obtain ⟨hcz32_0, hcz32_1, hcz32_2, hfz32_0, hfz32_1, hfz32_2⟩ := cells3 BK208.out) | ((with_reducible refine gate_callee (f := 13) rfl ?_); refine goesL_ (some 13) rfl rfl Try.func13 (by kernel_rfl) rfl #[.agg #[.int .i64 a0_0, .int .i64 a0_1, .slice A0_2 l0_2.length c0_2]] rfl (z0) ?_; (with_reducible refine (laws_toTable.calls k a0_0 a0_1 _ _ l0_2 t210 t211 t212 _ ?side1 ?side2 A7.out).mono ?_); (case side1 => repeat (first | exact (Kd.C_below HR0_2.out HB.out) | (with_reducible refine Kd.C_alloc ?_ _) | (with_reducible refine Kd.C_drewN ?_ _) | (with_reducible refine Kd.C_drew ?_))); (case side2 => exact HC0_2.out); rintro e w33 ⟨v213, rfl, ho0, hb⟩; refine ⟨_, rfl, ?_⟩; have HO214 := Aside0.mk (Kd.S_lower ho0 (below_size (zHB))); replace BK208 := Aside0.mk (blk_below (g := gb208) (zK) hb); replace HB := Aside0.mk (below_step (zHB) hb); (try clear hb); (try clear hb2); (try clear hk); (try clear hi); (try clear ho0); obtain ⟨Ao34, co34, eo34⟩ := Kd.S_slice HO214.out; subst eo34) | ((with_reducible refine gate_callee (f := 12) rfl ?_); refine goesL_ (some 14) rfl rfl Try.func12 (by kernel_rfl) rfl #[.agg #[.int .i64 t210, .int .i64 t211, .slice Ao34 t212.length co34]] rfl (z0) ?_; (with_reducible refine (spec_TableOk.calls k t210 t211 _ _ t212 t215 _ ?side1 ?side2 A8.out).mono ?_); (case side1 => repeat (first | exact (Kd.S_reads' HO214.out).2.2 | (with_reducible refine Kd.C_alloc ?_ _) | (with_reducible refine Kd.C_drewN ?_ _) | (with_reducible refine Kd.C_drew ?_))); (case side2 => exact (Kd.S_reads' HO214.out).2.1); rintro e w35 ⟨rfl, hb⟩; refine ⟨_, rfl, ?_⟩; replace HO214 := Aside0.mk (Kd.S_below (z1) hb); replace BK208 := Aside0.mk (blk_below (g := gb208) (zK) hb); replace HB := Aside0.mk (below_step (zHB) hb); (try clear hb); (try clear hb2); (try clear hk); (try clear hi); obtain ⟨hcz36_0, hcz36_1, hcz36_2, hfz36_0, hfz36_1, hfz36_2⟩ := cells3 BK208.out) | ((with_reducible refine gate_callee (f := 13) rfl ?_); refine goesL_ (some 16) rfl rfl Try.func13 (by kernel_rfl) rfl #[.agg #[.int .i64 a0_0, .int .i64 a0_1, .slice A0_2 l0_2.length c0_2]] rfl (z0) ?_; (with_reducible refine (laws_toTable.calls k a0_0 a0_1 _ _ l0_2 t216 t217 t218 _ ?side1 ?side2 A9.out).mono ?_); (case side1 => repeat (first | exact (Kd.C_below HR0_2.out HB.out) | (with_reducible refine Kd.C_alloc ?_ _) | (with_reducible refine Kd.C_drewN ?_ _) | (with_reducible refine Kd.C_drew ?_))); (case side2 => exact HC0_2.out); rintro e w37 ⟨v219, rfl, ho0, hb⟩; refine ⟨_, rfl, ?_⟩; have HO220 := Aside0.mk (Kd.S_lower (Kd.S_new' ho0 (Kd.S_lt (z1))) (below_size (zHB))); replace HO214 := Aside0.mk (Kd.S_elder' (z1) (Kd.S_base ho0) hb); replace BK208 := Aside0.mk (blk_below (g := gb208) (zK) hb); replace HB := Aside0.mk (below_step (zHB) hb); (try clear hb); (try clear hb2); (try clear hk); (try clear hi); (try clear ho0)) | ((with_reducible refine gate_dst (N := 5) rfl ?_); refine box_event ?hg (N := 5) ?hd (cs := #[.int .i64 0, .int .i64 0, .slice none 0 0]) (t := 29) ?hr ?_; (case hd => rfl); (case hg => rfl); (case hr => first | (go_simp; done) | (go_simp; rfl)); intro gb221 hg w38 hbox hb; replace HO214 := Aside0.mk (Kd.S_below (z1) hb); replace HO220 := Aside0.mk (Kd.S_below (z2) hb); have BK221 := Aside0.mk (hbox); have GW221 := Aside0.mk ((z3 : w.heap.size ≤ gb221)); have GE221 := Aside0.mk ((z3 : w.heap.size ≤ gb221)); replace HB := Aside0.mk (below_step (zHB) hb); have NB208_221 := Aside0.mk ((z8 : gb208 ≠ gb221)); have NB221_208 := Aside0.mk ((z9 : gb221 ≠ gb208)); replace BK208 := Aside0.mk (blk_below (g := gb208) (zK) hb); clear hb hbox hg; have hnb39 := NB221_208.out; have hnc39 := NB208_221.out; obtain ⟨hcz40_0, hcz40_1, hcz40_2, hfz40_0, hfz40_1, hfz40_2⟩ := cells3 BK221.out; obtain ⟨Ao41, co41, eo41⟩ := Kd.S_slice HO220.out; subst eo41) | ((with_reducible refine gate_callee (f := 14) rfl ?_); refine goesL_ (some 18) rfl rfl Try.func14 (by kernel_rfl) rfl #[.agg #[.int .i64 t216, .int .i64 t217, .slice Ao41 t218.length co41]] rfl (z0) ?_; (with_reducible refine (impl_TableOk.calls k t216 t217 _ _ t218 t222 _ ?side1 ?side2 A10.out).mono ?_); (case side1 => refine (Kd.S_reads' (e := 48) (base := w.heap.size) (ok := fun k_ => (True ∧ some k_ ≠ (.slice Ao34 t212.length co34 : Value).ownBlock)) (n := t218.length) (c := co41) ?_).2.2; exact (z5)); (case side2 => exact (Kd.S_reads' HO220.out).2.1); rintro e w42 ⟨rfl, hb⟩; refine ⟨_, rfl, ?_⟩; replace HO214 := Aside0.mk (Kd.S_below (by (with_reducible repeat (first | apply Kd.S_alloc | apply Kd.S_drewN | apply Kd.S_drew)); exact (Kd.S_mono (Kd.S_far (p := ⟨gb221, 2, none⟩) (Kd.S_far (p := ⟨gb221, 1, none⟩) (Kd.S_far (p := ⟨gb221, 0, none⟩) (Kd.S_types HO214.out BK221.out (by decide)) (fun _ hk => hk.2) (.int .i64 t216)) (fun _ hk => hk.2) (.int .i64 t217)) (fun _ hk => hk.2) (.slice Ao41 t218.length co41)) (fun _ h_ => h_.1))) hb); replace HO220 := Aside0.mk (Kd.S_below (z5) hb); replace BK208 := Aside0.mk (blk_below (g := gb208) (zK) hb); replace BK221 := Aside0.mk (blk_below (g := gb221) (o := .cells #[.int .i64 t216, .int .i64 t217, .slice Ao41 t218.length co41] 29 (0, 0)) (zK) hb); replace HB := Aside0.mk (below_step (zHB) hb); (try clear hb); (try clear hb2); (try clear hk); (try clear hi)))
   replace HO214 := Aside0.mk (Kd.S_drew HO214.out)
   replace HO220 := Aside0.mk (Kd.S_drew HO220.out)
   replace BK208 := Aside0.mk (blk_drew BK208.out)
   replace BK221 := Aside0.mk (blk_drew BK221.out)
   replace HB := Aside0.mk (below_drew1 HB.out)
   refine start_ (n := 5) (S := fun w' => w'.cell? ⟨gb221, 0, none⟩ = some (.int .i64 t216) ∧ w'.cell? ⟨gb221, 1, none⟩ = some (.int .i64 t217) ∧ w'.cell? ⟨gb221, 2, none⟩ = some (.slice Ao41 t218.length co41) ∧ w'.cell? ⟨gb208, 0, none⟩ = some (.int .i64 a0_0) ∧ w'.cell? ⟨gb208, 1, none⟩ = some (.int .i64 a0_1) ∧ w'.cell? ⟨gb208, 2, none⟩ = some (.slice A0_2 l0_2.length c0_2)) (ds := []) #[false, false, false, false, false] (by kernel_rfl) rfl rfl ⟨(blk_cell BK221.out 0).trans rfl, (blk_cell BK221.out 1).trans rfl, (blk_cell BK221.out 2).trans rfl, (blk_cell BK208.out 0).trans rfl, (blk_cell BK208.out 1).trans rfl, (blk_cell BK208.out 2).trans rfl⟩ (fun hHeld => ?_)
   generalize w42.drew = w43 at HO214 HO220 BK208 BK221 HB hHeld ⊢
   refine take_ (i := 0) (N := some 22) (v := ?_) (a' := ?_) #[true, false, false, false, false] rfl rfl (by kernel_rfl) (fun _ _ _ h => h) (Or.inl ⟨by rfl, ?_⟩) hHeld ?_ ?_
   rotate_left
   · rintro w' ⟨s0, s1, s2, s3, s4, s5⟩
     go_simp
     with_reducible rfl
   rotate_left
   · simp only [Act.put, List.setIfInBounds_toArray, List.set_cons_zero, List.set_cons_succ, i64_w, i32_w]
     rfl
   refine take_ (i := 1) (N := some 23) (v := ?_) (a' := ?_) #[true, true, false, false, false] rfl rfl (by kernel_rfl) (fun _ _ _ h => h) (Or.inl ⟨by rfl, ?_⟩) hHeld ?_ ?_
   rotate_left
   · rintro w' ⟨s0, s1, s2, s3, s4, s5⟩
     go_simp
     with_reducible rfl
   rotate_left
   · simp only [Act.put, List.setIfInBounds_toArray, List.set_cons_zero, List.set_cons_succ, i64_w, i32_w]
     rfl
   refine one_ (i := 2) (N := some 24) #[true, true, true, false, false] rfl rfl (by kernel_rfl) (by decide) (fun K hK => ?_)
   refine goes_ Try.func13 (by kernel_rfl) rfl #[.agg #[.int .i64 a0_0, .int .i64 a0_1, .slice A0_2 l0_2.length c0_2]] (by rfl) rfl rfl (z0) ?_
   with_reducible refine (laws_toTable.calls k a0_0 a0_1 _ _ l0_2 t223 t224 t225 _ ?side1 ?side2 A26.out).mono ?_
   (case side1 => repeat (first | exact (Kd.C_below HR0_2.out HB.out) | (with_reducible refine Kd.C_alloc ?_ _) | (with_reducible refine Kd.C_drewN ?_ _) | (with_reducible refine Kd.C_drew ?_)))
   (case side2 => exact HC0_2.out)
   rintro e w44 ⟨v226, rfl, ho0, hb⟩
   refine ⟨_, rfl, ?_⟩
   have HO227 := Aside0.mk (Kd.S_lower (Kd.S_new' (Kd.S_new' ho0 (Kd.S_lt (z1))) (Kd.S_lt (z2))) (below_size (zHB)))
   replace HO214 := Aside0.mk (Kd.S_elder' (z1) (Kd.S_base ho0) hb)
   replace HO220 := Aside0.mk (Kd.S_elder' (z2) (Kd.S_base ho0) hb)
   replace BK208 := Aside0.mk (blk_below (g := gb208) (zK) hb)
   replace BK221 := Aside0.mk (blk_below (g := gb221) (zK) hb)
   replace HB := Aside0.mk (below_step (zHB) hb)
   (try clear hb); (try clear hk); (try clear ho0)
   obtain ⟨Ao45, co45, eo45⟩ := Kd.S_slice HO227.out
   (first | subst eo45 | (injection eo45 with f1_ f2_ f3_; have f4_ := f1_.symm; have f5_ := f3_.symm; clear f1_ f2_ f3_; subst f4_; subst f5_))
   refine hK.out _ _ ⟨(blk_cell BK221.out 0).trans rfl, (blk_cell BK221.out 1).trans rfl, (blk_cell BK221.out 2).trans rfl, (blk_cell BK208.out 0).trans rfl, (blk_cell BK208.out 1).trans rfl, (blk_cell BK208.out 2).trans rfl⟩ (fun hHeld => ?_)
   clear hK K
   refine norm_ (a' := ?_) ?_ ?_
   rotate_left
   · show Act.put _ (some 24) _ = _
     simp only [Act.put, List.setIfInBounds_toArray, List.set_cons_zero, List.set_cons_succ, i64_w, i32_w]
     rfl
   refine one_ (i := 3) (N := some 25) #[true, true, true, true, false] rfl rfl (by kernel_rfl) (by decide) (fun K hK => ?_)
   refine goes_ Try.func15 (by kernel_rfl) rfl #[.agg #[.int .i64 t216, .int .i64 t217, .slice Ao41 t218.length co41], .agg #[.int .i64 t223, .int .i64 t224, .slice Ao45 t225.length co45]] (by rfl) rfl rfl (z0) ?_
   with_reducible refine (laws_eqTable.calls k t216 t217 _ _ t218 t223 t224 _ _ t225 true _ ?side1 ?side2 ?side3 ?side4 A27.out).mono ?_
   (case side1 => repeat (first | exact (Kd.S_reads' HO220.out).2.2 | (with_reducible refine Kd.C_alloc ?_ _) | (with_reducible refine Kd.C_drewN ?_ _) | (with_reducible refine Kd.C_drew ?_)))
   (case side2 => exact (Kd.S_reads' HO220.out).2.1)
   (case side3 => repeat (first | exact (Kd.S_reads' HO227.out).2.2 | (with_reducible refine Kd.C_alloc ?_ _) | (with_reducible refine Kd.C_drewN ?_ _) | (with_reducible refine Kd.C_drew ?_)))
   (case side4 => exact (Kd.S_reads' HO227.out).2.1)
   rintro e w46 ⟨rfl, hb⟩
   refine ⟨_, rfl, ?_⟩
   replace HO214 := Aside0.mk (Kd.S_below (z1) hb)
   replace HO220 := Aside0.mk (Kd.S_below (z2) hb)
   replace HO227 := Aside0.mk (Kd.S_below (z10) hb)
   replace BK208 := Aside0.mk (blk_below (g := gb208) (zK) hb)
   replace BK221 := Aside0.mk (blk_below (g := gb221) (zK) hb)
   replace HB := Aside0.mk (below_step (zHB) hb)
   (try clear hb); (try clear hk)
   refine hK.out _ _ ⟨(blk_cell BK221.out 0).trans rfl, (blk_cell BK221.out 1).trans rfl, (blk_cell BK221.out 2).trans rfl, (blk_cell BK208.out 0).trans rfl, (blk_cell BK208.out 1).trans rfl, (blk_cell BK208.out 2).trans rfl⟩ (fun hHeld => ?_)
   clear hK K
   refine norm_ (a' := ?_) ?_ ?_
   rotate_left
   · show Act.put _ (some 25) _ = _
     simp only [Act.put, List.setIfInBounds_toArray, List.set_cons_zero, List.set_cons_succ, i64_w, i32_w]
     rfl
   refine pure_ (i := 4) (N := some 26) (v := ?_) (a' := ?_) #[true, true, true, true, true] rfl rfl (by kernel_rfl) (fun _ _ _ h => h) (Or.inl ⟨by rfl, ?_⟩) ?_ ?_
   rotate_left
   · intro w'
     go_simp
     with_reducible rfl
   rotate_left
   · simp only [Act.put, List.setIfInBounds_toArray, List.set_cons_zero, List.set_cons_succ, i64_w, i32_w]
     rfl
   refine done_ (by kernel_rfl) ?_
   try go_wp2
   go_ret
   exact ⟨z7, zHB⟩
 rw [if_neg Bool.false_ne_true] at H
 obtain rfl := Option.some.inj H
 go_enter Try.func3, Try.ntmps3
 try go_wp2_with (first | ((with_reducible refine gate_dst (N := 1) rfl ?_); refine box_event ?hg (N := 1) ?hd (cs := #[.int .i64 a0_0, .int .i64 a0_1, .slice A0_2 l0_2.length c0_2]) (t := 24) ?hr ?_; (case hd => rfl); (case hg => rfl); (case hr => first | (go_simp; done) | (go_simp; rfl)); intro gb208 hg w47 hbox hb; have BK208 := Aside0.mk (hbox); have GW208 := Aside0.mk ((z3 : w.heap.size ≤ gb208)); have GE208 := Aside0.mk ((z3 : w.heap.size ≤ gb208)); replace HB := Aside0.mk (below_step (zHB) hb); clear hb hbox hg; obtain ⟨hcz48_0, hcz48_1, hcz48_2, hfz48_0, hfz48_1, hfz48_2⟩ := cells3 BK208.out) | ((with_reducible refine gate_callee (f := 11) rfl ?_); refine goesL_ (some 9) rfl rfl Try.func11 (by kernel_rfl) rfl #[.agg #[.int .i64 a0_0, .int .i64 a0_1, .slice A0_2 l0_2.length c0_2], .int .i64 1048576] rfl (z0) ?_; (with_reducible refine (laws_szTable.calls k a0_0 a0_1 _ _ l0_2 1048576 t209 _ ?side1 ?side2 A2.out).mono ?_); (case side1 => repeat (first | exact (Kd.C_below HR0_2.out HB.out) | (with_reducible refine Kd.C_alloc ?_ _) | (with_reducible refine Kd.C_drewN ?_ _) | (with_reducible refine Kd.C_drew ?_))); (case side2 => exact HC0_2.out); rintro e w49 ⟨rfl, hb⟩; refine ⟨_, rfl, ?_⟩; replace BK208 := Aside0.mk (blk_below (g := gb208) (zK) hb); replace HB := Aside0.mk (below_step (zHB) hb); (try clear hb); (try clear hb2); (try clear hk); (try clear hi); obtain ⟨hcz50_0, hcz50_1, hcz50_2, hfz50_0, hfz50_1, hfz50_2⟩ := cells3 BK208.out) | ((with_reducible refine gate_callee (f := 13) rfl ?_); refine goesL_ (some 13) rfl rfl Try.func13 (by kernel_rfl) rfl #[.agg #[.int .i64 a0_0, .int .i64 a0_1, .slice A0_2 l0_2.length c0_2]] rfl (z0) ?_; (with_reducible refine (laws_toTable.calls k a0_0 a0_1 _ _ l0_2 t210 t211 t212 _ ?side1 ?side2 A7.out).mono ?_); (case side1 => repeat (first | exact (Kd.C_below HR0_2.out HB.out) | (with_reducible refine Kd.C_alloc ?_ _) | (with_reducible refine Kd.C_drewN ?_ _) | (with_reducible refine Kd.C_drew ?_))); (case side2 => exact HC0_2.out); rintro e w51 ⟨v213, rfl, ho0, hb⟩; refine ⟨_, rfl, ?_⟩; have HO214 := Aside0.mk (Kd.S_lower ho0 (below_size (zHB))); replace BK208 := Aside0.mk (blk_below (g := gb208) (zK) hb); replace HB := Aside0.mk (below_step (zHB) hb); (try clear hb); (try clear hb2); (try clear hk); (try clear hi); (try clear ho0); obtain ⟨Ao52, co52, eo52⟩ := Kd.S_slice HO214.out; subst eo52) | ((with_reducible refine gate_callee (f := 12) rfl ?_); refine goesL_ (some 14) rfl rfl Try.func12 (by kernel_rfl) rfl #[.agg #[.int .i64 t210, .int .i64 t211, .slice Ao52 t212.length co52]] rfl (z0) ?_; (with_reducible refine (spec_TableOk.calls k t210 t211 _ _ t212 t215 _ ?side1 ?side2 A8.out).mono ?_); (case side1 => repeat (first | exact (Kd.S_reads' HO214.out).2.2 | (with_reducible refine Kd.C_alloc ?_ _) | (with_reducible refine Kd.C_drewN ?_ _) | (with_reducible refine Kd.C_drew ?_))); (case side2 => exact (Kd.S_reads' HO214.out).2.1); rintro e w53 ⟨rfl, hb⟩; refine ⟨_, rfl, ?_⟩; replace HO214 := Aside0.mk (Kd.S_below (z1) hb); replace BK208 := Aside0.mk (blk_below (g := gb208) (zK) hb); replace HB := Aside0.mk (below_step (zHB) hb); (try clear hb); (try clear hb2); (try clear hk); (try clear hi); obtain ⟨hcz54_0, hcz54_1, hcz54_2, hfz54_0, hfz54_1, hfz54_2⟩ := cells3 BK208.out) | ((with_reducible refine gate_callee (f := 13) rfl ?_); refine goesL_ (some 16) rfl rfl Try.func13 (by kernel_rfl) rfl #[.agg #[.int .i64 a0_0, .int .i64 a0_1, .slice A0_2 l0_2.length c0_2]] rfl (z0) ?_; (with_reducible refine (laws_toTable.calls k a0_0 a0_1 _ _ l0_2 t216 t217 t218 _ ?side1 ?side2 A9.out).mono ?_); (case side1 => repeat (first | exact (Kd.C_below HR0_2.out HB.out) | (with_reducible refine Kd.C_alloc ?_ _) | (with_reducible refine Kd.C_drewN ?_ _) | (with_reducible refine Kd.C_drew ?_))); (case side2 => exact HC0_2.out); rintro e w55 ⟨v219, rfl, ho0, hb⟩; refine ⟨_, rfl, ?_⟩; have HO220 := Aside0.mk (Kd.S_lower (Kd.S_new' ho0 (Kd.S_lt (z1))) (below_size (zHB))); replace HO214 := Aside0.mk (Kd.S_elder' (z1) (Kd.S_base ho0) hb); replace BK208 := Aside0.mk (blk_below (g := gb208) (zK) hb); replace HB := Aside0.mk (below_step (zHB) hb); (try clear hb); (try clear hb2); (try clear hk); (try clear hi); (try clear ho0)) | ((with_reducible refine gate_dst (N := 5) rfl ?_); refine box_event ?hg (N := 5) ?hd (cs := #[.int .i64 0, .int .i64 0, .slice none 0 0]) (t := 29) ?hr ?_; (case hd => rfl); (case hg => rfl); (case hr => first | (go_simp; done) | (go_simp; rfl)); intro gb221 hg w56 hbox hb; replace HO214 := Aside0.mk (Kd.S_below (z1) hb); replace HO220 := Aside0.mk (Kd.S_below (z2) hb); have BK221 := Aside0.mk (hbox); have GW221 := Aside0.mk ((z3 : w.heap.size ≤ gb221)); have GE221 := Aside0.mk ((z3 : w.heap.size ≤ gb221)); replace HB := Aside0.mk (below_step (zHB) hb); have NB208_221 := Aside0.mk ((z8 : gb208 ≠ gb221)); have NB221_208 := Aside0.mk ((z9 : gb221 ≠ gb208)); replace BK208 := Aside0.mk (blk_below (g := gb208) (zK) hb); clear hb hbox hg; have hnb57 := NB221_208.out; have hnc57 := NB208_221.out; obtain ⟨hcz58_0, hcz58_1, hcz58_2, hfz58_0, hfz58_1, hfz58_2⟩ := cells3 BK221.out; obtain ⟨Ao59, co59, eo59⟩ := Kd.S_slice HO220.out; subst eo59) | ((with_reducible refine gate_callee (f := 14) rfl ?_); refine goesL_ (some 18) rfl rfl Try.func14 (by kernel_rfl) rfl #[.agg #[.int .i64 t216, .int .i64 t217, .slice Ao59 t218.length co59]] rfl (z0) ?_; (with_reducible refine (impl_TableOk.calls k t216 t217 _ _ t218 t222 _ ?side1 ?side2 A10.out).mono ?_); (case side1 => refine (Kd.S_reads' (e := 48) (base := w.heap.size) (ok := fun k_ => (True ∧ some k_ ≠ (.slice Ao52 t212.length co52 : Value).ownBlock)) (n := t218.length) (c := co59) ?_).2.2; exact (z6)); (case side2 => exact (Kd.S_reads' HO220.out).2.1); rintro e w60 ⟨rfl, hb⟩; refine ⟨_, rfl, ?_⟩; replace HO214 := Aside0.mk (Kd.S_below (by (with_reducible repeat (first | apply Kd.S_alloc | apply Kd.S_drewN | apply Kd.S_drew)); exact (Kd.S_mono (Kd.S_far (p := ⟨gb221, 2, none⟩) (Kd.S_far (p := ⟨gb221, 1, none⟩) (Kd.S_far (p := ⟨gb221, 0, none⟩) (Kd.S_types HO214.out BK221.out (by decide)) (fun _ hk => hk.2) (.int .i64 t216)) (fun _ hk => hk.2) (.int .i64 t217)) (fun _ hk => hk.2) (.slice Ao59 t218.length co59)) (fun _ h_ => h_.1))) hb); replace HO220 := Aside0.mk (Kd.S_below (z6) hb); replace BK208 := Aside0.mk (blk_below (g := gb208) (zK) hb); replace BK221 := Aside0.mk (blk_below (g := gb221) (o := .cells #[.int .i64 t216, .int .i64 t217, .slice Ao59 t218.length co59] 29 (0, 0)) (zK) hb); replace HB := Aside0.mk (below_step (zHB) hb); (try clear hb); (try clear hb2); (try clear hk); (try clear hi)))
 replace HO214 := Aside0.mk (Kd.S_drew HO214.out)
 replace HO220 := Aside0.mk (Kd.S_drew HO220.out)
 replace BK208 := Aside0.mk (blk_drew BK208.out)
 replace BK221 := Aside0.mk (blk_drew BK221.out)
 replace HB := Aside0.mk (below_drew1 HB.out)
 refine start_ (n := 5) (S := fun w' => w'.cell? ⟨gb221, 0, none⟩ = some (.int .i64 t216) ∧ w'.cell? ⟨gb221, 1, none⟩ = some (.int .i64 t217) ∧ w'.cell? ⟨gb221, 2, none⟩ = some (.slice Ao59 t218.length co59) ∧ w'.cell? ⟨gb208, 0, none⟩ = some (.int .i64 a0_0) ∧ w'.cell? ⟨gb208, 1, none⟩ = some (.int .i64 a0_1) ∧ w'.cell? ⟨gb208, 2, none⟩ = some (.slice A0_2 l0_2.length c0_2)) (ds := []) #[false, false, false, false, false] (by kernel_rfl) rfl rfl ⟨(blk_cell BK221.out 0).trans rfl, (blk_cell BK221.out 1).trans rfl, (blk_cell BK221.out 2).trans rfl, (blk_cell BK208.out 0).trans rfl, (blk_cell BK208.out 1).trans rfl, (blk_cell BK208.out 2).trans rfl⟩ (fun hHeld => ?_)
 generalize w60.drew = w61 at HO214 HO220 BK208 BK221 HB hHeld ⊢
 refine take_ (i := 0) (N := some 22) (v := ?_) (a' := ?_) #[true, false, false, false, false] rfl rfl (by kernel_rfl) (fun _ _ _ h => h) (Or.inl ⟨by rfl, ?_⟩) hHeld ?_ ?_
 rotate_left
 · rintro w' ⟨s0, s1, s2, s3, s4, s5⟩
   go_simp
   with_reducible rfl
 rotate_left
 · simp only [Act.put, List.setIfInBounds_toArray, List.set_cons_zero, List.set_cons_succ, i64_w, i32_w]
   rfl
 refine take_ (i := 1) (N := some 23) (v := ?_) (a' := ?_) #[true, true, false, false, false] rfl rfl (by kernel_rfl) (fun _ _ _ h => h) (Or.inl ⟨by rfl, ?_⟩) hHeld ?_ ?_
 rotate_left
 · rintro w' ⟨s0, s1, s2, s3, s4, s5⟩
   go_simp
   with_reducible rfl
 rotate_left
 · simp only [Act.put, List.setIfInBounds_toArray, List.set_cons_zero, List.set_cons_succ, i64_w, i32_w]
   rfl
 refine one_ (i := 2) (N := some 24) #[true, true, true, false, false] rfl rfl (by kernel_rfl) (by decide) (fun K hK => ?_)
 refine goes_ Try.func13 (by kernel_rfl) rfl #[.agg #[.int .i64 a0_0, .int .i64 a0_1, .slice A0_2 l0_2.length c0_2]] (by rfl) rfl rfl (z0) ?_
 with_reducible refine (laws_toTable.calls k a0_0 a0_1 _ _ l0_2 t223 t224 t225 _ ?side1 ?side2 A26.out).mono ?_
 (case side1 => repeat (first | exact (Kd.C_below HR0_2.out HB.out) | (with_reducible refine Kd.C_alloc ?_ _) | (with_reducible refine Kd.C_drewN ?_ _) | (with_reducible refine Kd.C_drew ?_)))
 (case side2 => exact HC0_2.out)
 rintro e w62 ⟨v226, rfl, ho0, hb⟩
 refine ⟨_, rfl, ?_⟩
 have HO227 := Aside0.mk (Kd.S_lower (Kd.S_new' (Kd.S_new' ho0 (Kd.S_lt (z1))) (Kd.S_lt (z2))) (below_size (zHB)))
 replace HO214 := Aside0.mk (Kd.S_elder' (z1) (Kd.S_base ho0) hb)
 replace HO220 := Aside0.mk (Kd.S_elder' (z2) (Kd.S_base ho0) hb)
 replace BK208 := Aside0.mk (blk_below (g := gb208) (zK) hb)
 replace BK221 := Aside0.mk (blk_below (g := gb221) (zK) hb)
 replace HB := Aside0.mk (below_step (zHB) hb)
 (try clear hb); (try clear hk); (try clear ho0)
 obtain ⟨Ao63, co63, eo63⟩ := Kd.S_slice HO227.out
 (first | subst eo63 | (injection eo63 with f1_ f2_ f3_; have f4_ := f1_.symm; have f5_ := f3_.symm; clear f1_ f2_ f3_; subst f4_; subst f5_))
 refine hK.out _ _ ⟨(blk_cell BK221.out 0).trans rfl, (blk_cell BK221.out 1).trans rfl, (blk_cell BK221.out 2).trans rfl, (blk_cell BK208.out 0).trans rfl, (blk_cell BK208.out 1).trans rfl, (blk_cell BK208.out 2).trans rfl⟩ (fun hHeld => ?_)
 clear hK K
 refine norm_ (a' := ?_) ?_ ?_
 rotate_left
 · show Act.put _ (some 24) _ = _
   simp only [Act.put, List.setIfInBounds_toArray, List.set_cons_zero, List.set_cons_succ, i64_w, i32_w]
   rfl
 refine one_ (i := 3) (N := some 25) #[true, true, true, true, false] rfl rfl (by kernel_rfl) (by decide) (fun K hK => ?_)
 refine goes_ Try.func15 (by kernel_rfl) rfl #[.agg #[.int .i64 t216, .int .i64 t217, .slice Ao59 t218.length co59], .agg #[.int .i64 t223, .int .i64 t224, .slice Ao63 t225.length co63]] (by rfl) rfl rfl (z0) ?_
 with_reducible refine (laws_eqTable.calls k t216 t217 _ _ t218 t223 t224 _ _ t225 false _ ?side1 ?side2 ?side3 ?side4 A27.out).mono ?_
 (case side1 => repeat (first | exact (Kd.S_reads' HO220.out).2.2 | (with_reducible refine Kd.C_alloc ?_ _) | (with_reducible refine Kd.C_drewN ?_ _) | (with_reducible refine Kd.C_drew ?_)))
 (case side2 => exact (Kd.S_reads' HO220.out).2.1)
 (case side3 => repeat (first | exact (Kd.S_reads' HO227.out).2.2 | (with_reducible refine Kd.C_alloc ?_ _) | (with_reducible refine Kd.C_drewN ?_ _) | (with_reducible refine Kd.C_drew ?_)))
 (case side4 => exact (Kd.S_reads' HO227.out).2.1)
 rintro e w64 ⟨rfl, hb⟩
 refine ⟨_, rfl, ?_⟩
 replace HO214 := Aside0.mk (Kd.S_below (z1) hb)
 replace HO220 := Aside0.mk (Kd.S_below (z2) hb)
 replace HO227 := Aside0.mk (Kd.S_below (z10) hb)
 replace BK208 := Aside0.mk (blk_below (g := gb208) (zK) hb)
 replace BK221 := Aside0.mk (blk_below (g := gb221) (zK) hb)
 replace HB := Aside0.mk (below_step (zHB) hb)
 (try clear hb); (try clear hk)
 refine hK.out _ _ ⟨(blk_cell BK221.out 0).trans rfl, (blk_cell BK221.out 1).trans rfl, (blk_cell BK221.out 2).trans rfl, (blk_cell BK208.out 0).trans rfl, (blk_cell BK208.out 1).trans rfl, (blk_cell BK208.out 2).trans rfl⟩ (fun hHeld => ?_)
 clear hK K
 refine norm_ (a' := ?_) ?_ ?_
 rotate_left
 · show Act.put _ (some 25) _ = _
   simp only [Act.put, List.setIfInBounds_toArray, List.set_cons_zero, List.set_cons_succ, i64_w, i32_w]
   rfl
 refine pure_ (i := 4) (N := some 26) (v := ?_) (a' := ?_) #[true, true, true, true, true] rfl rfl (by kernel_rfl) (fun _ _ _ h => h) (Or.inl ⟨by rfl, ?_⟩) ?_ ?_
 rotate_left
 · intro w'
   go_simp
   with_reducible rfl
 rotate_left
 · simp only [Act.put, List.setIfInBounds_toArray, List.set_cons_zero, List.set_cons_succ, i64_w, i32_w]
   rfl
 refine done_ (by kernel_rfl) ?_
 try go_wp2
 go_ret
 exact ⟨z7, zHB⟩
end Go.Proofs.Ytalmpbmgmijdkaa.P
