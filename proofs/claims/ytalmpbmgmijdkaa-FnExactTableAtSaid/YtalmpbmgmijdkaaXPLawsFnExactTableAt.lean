/- What the Go functions named below compute, function by function: a plain Lean function with the same answers and the proof that a call comes to them. Conditions: the arguments read as told, the plain function answers. -/
import Derived.Test.YtalmpbmgmijdkaaXA
import Derived.Test.YtalmpbmgmijdkaaXD
import Derived.Test.YtalmpbmgmijdkaaXC
import Derived.Test.YtalmpbmgmijdkaaXB
namespace Go.Proofs.Ytalmpbmgmijdkaa.P
open Go.RowKit Go.Proofs.YtalmpbmgmijdkaaW.PrintWords Go.Proofs.YtalmpbmgmijdkaaW.PrintLast Go.Proofs.YtalmpbmgmijdkaaW.PrintMore
attribute [local go_sem] max2_int min2_int max_two min_two max_three min_three max_four min_four   -- for this text's walks alone
set_option linter.unusedVariables false
set_option linter.unusedSimpArgs false

attribute [local go_sem ↓] isSome_setCell
/-! ### laws_FnExactTableAt: function 4 -/
def laws_FnExactTableAt.f (k : Nat) (a0_0 : Int) (a0_1 : Int) (l0_2 : List (S63)) (a1 : Int) (a2 : Int) : Option (Bool) := (laws_szTable.f k a0_0 a0_1 l0_2 1048576).bind fun t237 => (if t237 < 0 then (some true) else ((laws_toTable.f k a0_0 a0_1 l0_2).bind fun bt238 => ((spec_TableAt.f k bt238.1 bt238.2.1 bt238.2.2 a1 a2).bind fun t243 => ((laws_toTable.f k a0_0 a0_1 l0_2).bind fun bt244 => ((impl_TableAt.f k bt244.1 bt244.2.1 bt244.2.2 a1 a2).bind fun t250 => (if t250 = t243 then ((laws_toTable.f k a0_0 a0_1 l0_2).bind fun bt251 => ((laws_eqTable.f k bt244.1 bt244.2.1 bt244.2.2 bt251.1 bt251.2.1 bt251.2.2).bind fun t256 => (if t256 = true then (some true) else (some false)))) else (some false)))))))
theorem laws_FnExactTableAt.mono : ∀ a0 a1 a2 a3 a4 k, LeO (laws_FnExactTableAt.f k a0 a1 a2 a3 a4) (laws_FnExactTableAt.f (k + 1) a0 a1 a2 a3 a4) := by
  intro a0 a1 a2 a3 a4 k
  unfold laws_FnExactTableAt.f
  with_reducible repeat' first | exact impl_TableAt.mono _ _ _ _ _ _ | exact laws_eqTable.mono _ _ _ _ _ _ _ | exact laws_szTable.mono _ _ _ _ _ | exact laws_toTable.mono _ _ _ _ | exact spec_TableAt.mono _ _ _ _ _ _ | exact LeO.refl _ | exact LeO.none _ | refine LeO.ite ?_ ?_ | refine LeO.bind ?_ (fun _ => ?_)
theorem laws_FnExactTableAt.zHB {p : Prop} (h : p := by repeat (first | (with_reducible first | exact HB.out | apply below_alloc | apply pw_below_drewN | apply below_drew1 | refine below_set ?_ GE236.out | refine below_set ?_ GE249.out) | exact HB.out)) : p := h
theorem laws_FnExactTableAt.zK {p : Prop} (h : p := by repeat' first | (with_reducible first | exact BK236.out | exact BK249.out | apply blk_drewN | apply blk_drew | apply blk_alloc | apply blk_far (hp := NB236_249.out) | apply blk_putE) | exact (rfl : List.set _ _ _ = _)) : p := h
theorem laws_FnExactTableAt.z0 {p : Prop} (h : p := by (try simp only [List.map_toArray, List.map_cons, List.map_nil]); first | done | rfl | (simp only [List.length_drop, List.length_take]; rfl)) : p := h
theorem laws_FnExactTableAt.z1 {p : Prop} (h : p := by (with_reducible repeat (first | apply Kd.S_alloc | apply Kd.S_drewN | apply Kd.S_drew)); exact HO242.out) : p := h
theorem laws_FnExactTableAt.z2 {p : Prop} (h : p := by (with_reducible repeat (first | apply Kd.S_alloc | apply Kd.S_drewN | apply Kd.S_drew)); exact HO248.out) : p := h
theorem laws_FnExactTableAt.z3 {p : Prop} (h : p := by rw [hg]; exact (below_size (zHB))) : p := h
theorem laws_FnExactTableAt.z4 {p : Prop} (h : p := by (with_reducible repeat (first | apply Kd.S_alloc | apply Kd.S_drewN | apply Kd.S_drew)); exact (Kd.S_mono (Kd.S_far (p := ⟨gb249, 2, none⟩) (Kd.S_far (p := ⟨gb249, 1, none⟩) (Kd.S_far (p := ⟨gb249, 0, none⟩) (Kd.S_types HO248.out BK249.out (by decide)) (fun _ hk => hk.2) (.int .i64 t244)) (fun _ hk => hk.2) (.int .i64 t245)) (fun _ hk => hk.2) (.slice Ao29 t246.length co29)) (fun _ h_ => h_.1))) : p := h
theorem laws_FnExactTableAt.z5 {p : Prop} (h : p := by (with_reducible repeat (first | apply Kd.S_alloc | apply Kd.S_drewN | apply Kd.S_drew)); exact (Kd.S_mono (Kd.S_far (p := ⟨gb249, 2, none⟩) (Kd.S_far (p := ⟨gb249, 1, none⟩) (Kd.S_far (p := ⟨gb249, 0, none⟩) (Kd.S_types HO248.out BK249.out (by decide)) (fun _ hk => hk.2) (.int .i64 t244)) (fun _ hk => hk.2) (.int .i64 t245)) (fun _ hk => hk.2) (.slice Ao47 t246.length co47)) (fun _ h_ => h_.1))) : p := h
theorem laws_FnExactTableAt.z6 {p : Prop} (h : p := by (with_reducible repeat (first | apply Kd.S_alloc | apply Kd.S_drewN | apply Kd.S_drew)); exact (Kd.S_mono (Kd.S_far (p := ⟨gb249, 2, none⟩) (Kd.S_far (p := ⟨gb249, 1, none⟩) (Kd.S_far (p := ⟨gb249, 0, none⟩) (Kd.S_types HO248.out BK249.out (by decide)) (fun _ hk => hk.2) (.int .i64 t244)) (fun _ hk => hk.2) (.int .i64 t245)) (fun _ hk => hk.2) (.slice Ao65 t246.length co65)) (fun _ h_ => h_.1))) : p := h
theorem laws_FnExactTableAt.z7 {p : Prop} (h : p := by first | rfl | (simp [errW_none, errW_some] <;> rfl) | (simp [*, errW_none, errW_some] <;> rfl)) : p := h
theorem laws_FnExactTableAt.z8 {p : Prop} (h : p := by rw [hg]; exact Nat.ne_of_lt (blk_lt (g := gb236) (zK))) : p := h
theorem laws_FnExactTableAt.z9 {p : Prop} (h : p := by rw [hg]; exact Nat.ne_of_gt (blk_lt (g := gb236) (zK))) : p := h
theorem laws_FnExactTableAt.z10 {p : Prop} (h : p := by (with_reducible repeat (first | apply Kd.S_alloc | apply Kd.S_drewN | apply Kd.S_drew)); exact HO255.out) : p := h
set_option maxHeartbeats 8000000 in
set_option maxRecDepth 100000 in
theorem laws_FnExactTableAt.calls (k : Nat) (a0_0 : Int) (a0_1 : Int) (A0_2 : Option Addr) (c0_2 : Nat) (l0_2 : List (S63)) (a1 : Int) (a2 : Int) (r : Bool) (w : World) (hr0_2 : Kd.C k63 w A0_2 l0_2.length l0_2) (hc0_2 : l0_2.length ≤ c0_2) (h : laws_FnExactTableAt.f k a0_0 a0_1 l0_2 a1 a2 = some r) :
    Calls Try.prog 4 #[.agg #[.int .i64 a0_0, .int .i64 a0_1, .slice A0_2 l0_2.length c0_2], .int .i64 a1, .int .i64 a2] w fun e w' => e = .returned (.bool r) ∧ Below w.heap.size w w' := by
 have hu24 := Try.underlying24
 have hu29 := Try.underlying29
 have HR0_2 := Aside0.mk hr0_2
 have HC0_2 := Aside0.mk hc0_2
 clear hr0_2 hc0_2
 have HB := Aside0.mk (Below.refl w.heap.size w)
 have H : ((laws_szTable.f k a0_0 a0_1 l0_2 1048576).bind fun t237 => (if t237 < 0 then (some true) else ((laws_toTable.f k a0_0 a0_1 l0_2).bind fun bt238 => ((spec_TableAt.f k bt238.1 bt238.2.1 bt238.2.2 a1 a2).bind fun t243 => ((laws_toTable.f k a0_0 a0_1 l0_2).bind fun bt244 => ((impl_TableAt.f k bt244.1 bt244.2.1 bt244.2.2 a1 a2).bind fun t250 => (if t250 = t243 then ((laws_toTable.f k a0_0 a0_1 l0_2).bind fun bt251 => ((laws_eqTable.f k bt244.1 bt244.2.1 bt244.2.2 bt251.1 bt251.2.1 bt251.2.2).bind fun t256 => (if t256 = true then (some true) else (some false)))) else (some false)))))))) = some r := h
 clear h
 obtain ⟨t237, A4, H⟩ := bnd H
 by_cases c5 : t237 < 0
 · rw [if_pos c5] at H
   have c5b0 := decide_eq_true c5
   clear c5
   obtain rfl := Option.some.inj H
   go_enter Try.func4, Try.ntmps4
   go_wp2_with (first | ((with_reducible refine gate_dst (N := 3) rfl ?_); refine box_event ?hg (N := 3) ?hd (cs := #[.int .i64 a0_0, .int .i64 a0_1, .slice A0_2 l0_2.length c0_2]) (t := 24) ?hr ?_; (case hd => rfl); (case hg => rfl); (case hr => first | (go_simp; done) | (go_simp; rfl)); intro gb236 hg w6 hbox hb; have BK236 := Aside0.mk (hbox); have GW236 := Aside0.mk ((z3 : w.heap.size ≤ gb236)); have GE236 := Aside0.mk ((z3 : w.heap.size ≤ gb236)); replace HB := Aside0.mk (below_step (zHB) hb); clear hb hbox hg; obtain ⟨hcz7_0, hcz7_1, hcz7_2, hfz7_0, hfz7_1, hfz7_2⟩ := cells3 BK236.out) | ((with_reducible refine gate_callee (f := 11) rfl ?_); refine goesL_ (some 13) rfl rfl Try.func11 (by kernel_rfl) rfl #[.agg #[.int .i64 a0_0, .int .i64 a0_1, .slice A0_2 l0_2.length c0_2], .int .i64 1048576] rfl (z0) ?_; (with_reducible refine (laws_szTable.calls k a0_0 a0_1 _ _ l0_2 1048576 t237 _ ?side1 ?side2 A4.out).mono ?_); (case side1 => repeat (first | exact (Kd.C_below HR0_2.out HB.out) | (with_reducible refine Kd.C_alloc ?_ _) | (with_reducible refine Kd.C_drewN ?_ _) | (with_reducible refine Kd.C_drew ?_))); (case side2 => exact HC0_2.out); rintro e w8 ⟨rfl, hb⟩; refine ⟨_, rfl, ?_⟩; replace BK236 := Aside0.mk (blk_below (g := gb236) (zK) hb); replace HB := Aside0.mk (below_step (zHB) hb); (try clear hb); (try clear hb2); (try clear hk); (try clear hi)))
   go_ret
   exact ⟨z7, zHB⟩
 rw [if_neg c5] at H
 have c5b0 : decide (t237 < 0) = false := decide_eq_false c5
 clear c5
 obtain ⟨⟨t238, t239, t240⟩, A9, H⟩ := bnd H
 dsimp only at H
 obtain ⟨t243, A10, H⟩ := bnd H
 obtain ⟨⟨t244, t245, t246⟩, A11, H⟩ := bnd H
 dsimp only at H
 obtain ⟨t250, A12, H⟩ := bnd H
 by_cases c13 : t250 = t243
 · rw [if_pos c13] at H
   have c13b0 : (t250 == t243) = true := beq_iff_eq.mpr c13
   have c13b1 : (t250 != t243) = false := bne_eq_false_iff_eq.mpr c13
   clear c13
   obtain ⟨⟨t251, t252, t253⟩, A14, H⟩ := bnd H
   dsimp only at H
   obtain ⟨t256, A15, H⟩ := bnd H
   obtain rfl | rfl := tf t256
   · rw [if_pos rfl] at H
     obtain rfl := Option.some.inj H
     go_enter Try.func4, Try.ntmps4
     try go_wp2_with (first | ((with_reducible refine gate_dst (N := 3) rfl ?_); refine box_event ?hg (N := 3) ?hd (cs := #[.int .i64 a0_0, .int .i64 a0_1, .slice A0_2 l0_2.length c0_2]) (t := 24) ?hr ?_; (case hd => rfl); (case hg => rfl); (case hr => first | (go_simp; done) | (go_simp; rfl)); intro gb236 hg w17 hbox hb; have BK236 := Aside0.mk (hbox); have GW236 := Aside0.mk ((z3 : w.heap.size ≤ gb236)); have GE236 := Aside0.mk ((z3 : w.heap.size ≤ gb236)); replace HB := Aside0.mk (below_step (zHB) hb); clear hb hbox hg; obtain ⟨hcz18_0, hcz18_1, hcz18_2, hfz18_0, hfz18_1, hfz18_2⟩ := cells3 BK236.out) | ((with_reducible refine gate_callee (f := 11) rfl ?_); refine goesL_ (some 13) rfl rfl Try.func11 (by kernel_rfl) rfl #[.agg #[.int .i64 a0_0, .int .i64 a0_1, .slice A0_2 l0_2.length c0_2], .int .i64 1048576] rfl (z0) ?_; (with_reducible refine (laws_szTable.calls k a0_0 a0_1 _ _ l0_2 1048576 t237 _ ?side1 ?side2 A4.out).mono ?_); (case side1 => repeat (first | exact (Kd.C_below HR0_2.out HB.out) | (with_reducible refine Kd.C_alloc ?_ _) | (with_reducible refine Kd.C_drewN ?_ _) | (with_reducible refine Kd.C_drew ?_))); (case side2 => exact HC0_2.out); rintro e w19 ⟨rfl, hb⟩; refine ⟨_, rfl, ?_⟩; replace BK236 := Aside0.mk (blk_below (g := gb236) (zK) hb); replace HB := Aside0.mk (below_step (zHB) hb); (try clear hb); (try clear hb2); (try clear hk); (try clear hi); obtain ⟨hcz20_0, hcz20_1, hcz20_2, hfz20_0, hfz20_1, hfz20_2⟩ := cells3 BK236.out) | ((with_reducible refine gate_callee (f := 13) rfl ?_); refine goesL_ (some 17) rfl rfl Try.func13 (by kernel_rfl) rfl #[.agg #[.int .i64 a0_0, .int .i64 a0_1, .slice A0_2 l0_2.length c0_2]] rfl (z0) ?_; (with_reducible refine (laws_toTable.calls k a0_0 a0_1 _ _ l0_2 t238 t239 t240 _ ?side1 ?side2 A9.out).mono ?_); (case side1 => repeat (first | exact (Kd.C_below HR0_2.out HB.out) | (with_reducible refine Kd.C_alloc ?_ _) | (with_reducible refine Kd.C_drewN ?_ _) | (with_reducible refine Kd.C_drew ?_))); (case side2 => exact HC0_2.out); rintro e w21 ⟨v241, rfl, ho0, hb⟩; refine ⟨_, rfl, ?_⟩; have HO242 := Aside0.mk (Kd.S_lower ho0 (below_size (zHB))); replace BK236 := Aside0.mk (blk_below (g := gb236) (zK) hb); replace HB := Aside0.mk (below_step (zHB) hb); (try clear hb); (try clear hb2); (try clear hk); (try clear hi); (try clear ho0); obtain ⟨Ao22, co22, eo22⟩ := Kd.S_slice HO242.out; subst eo22) | ((with_reducible refine gate_callee (f := 16) rfl ?_); refine goesL_ (some 20) rfl rfl Try.func16 (by kernel_rfl) rfl #[.agg #[.int .i64 t238, .int .i64 t239, .slice Ao22 t240.length co22], .int .i64 a1, .int .i64 a2] rfl (z0) ?_; (with_reducible refine (spec_TableAt.calls k t238 t239 _ _ t240 a1 a2 t243 _ ?side1 ?side2 A10.out).mono ?_); (case side1 => repeat (first | exact (Kd.S_reads' HO242.out).2.2 | (with_reducible refine Kd.C_alloc ?_ _) | (with_reducible refine Kd.C_drewN ?_ _) | (with_reducible refine Kd.C_drew ?_))); (case side2 => exact (Kd.S_reads' HO242.out).2.1); rintro e w23 ⟨rfl, hb⟩; refine ⟨_, rfl, ?_⟩; replace HO242 := Aside0.mk (Kd.S_below (z1) hb); replace BK236 := Aside0.mk (blk_below (g := gb236) (zK) hb); replace HB := Aside0.mk (below_step (zHB) hb); (try clear hb); (try clear hb2); (try clear hk); (try clear hi); obtain ⟨hcz24_0, hcz24_1, hcz24_2, hfz24_0, hfz24_1, hfz24_2⟩ := cells3 BK236.out) | ((with_reducible refine gate_callee (f := 13) rfl ?_); refine goesL_ (some 22) rfl rfl Try.func13 (by kernel_rfl) rfl #[.agg #[.int .i64 a0_0, .int .i64 a0_1, .slice A0_2 l0_2.length c0_2]] rfl (z0) ?_; (with_reducible refine (laws_toTable.calls k a0_0 a0_1 _ _ l0_2 t244 t245 t246 _ ?side1 ?side2 A11.out).mono ?_); (case side1 => repeat (first | exact (Kd.C_below HR0_2.out HB.out) | (with_reducible refine Kd.C_alloc ?_ _) | (with_reducible refine Kd.C_drewN ?_ _) | (with_reducible refine Kd.C_drew ?_))); (case side2 => exact HC0_2.out); rintro e w25 ⟨v247, rfl, ho0, hb⟩; refine ⟨_, rfl, ?_⟩; have HO248 := Aside0.mk (Kd.S_lower (Kd.S_new' ho0 (Kd.S_lt (z1))) (below_size (zHB))); replace HO242 := Aside0.mk (Kd.S_elder' (z1) (Kd.S_base ho0) hb); replace BK236 := Aside0.mk (blk_below (g := gb236) (zK) hb); replace HB := Aside0.mk (below_step (zHB) hb); (try clear hb); (try clear hb2); (try clear hk); (try clear hi); (try clear ho0)) | ((with_reducible refine gate_dst (N := 9) rfl ?_); refine box_event ?hg (N := 9) ?hd (cs := #[.int .i64 0, .int .i64 0, .slice none 0 0]) (t := 29) ?hr ?_; (case hd => rfl); (case hg => rfl); (case hr => first | (go_simp; done) | (go_simp; rfl)); intro gb249 hg w26 hbox hb; replace HO242 := Aside0.mk (Kd.S_below (z1) hb); replace HO248 := Aside0.mk (Kd.S_below (z2) hb); have BK249 := Aside0.mk (hbox); have GW249 := Aside0.mk ((z3 : w.heap.size ≤ gb249)); have GE249 := Aside0.mk ((z3 : w.heap.size ≤ gb249)); replace HB := Aside0.mk (below_step (zHB) hb); have NB236_249 := Aside0.mk ((z8 : gb236 ≠ gb249)); have NB249_236 := Aside0.mk ((z9 : gb249 ≠ gb236)); replace BK236 := Aside0.mk (blk_below (g := gb236) (zK) hb); clear hb hbox hg; have hnb27 := NB249_236.out; have hnc27 := NB236_249.out; obtain ⟨hcz28_0, hcz28_1, hcz28_2, hfz28_0, hfz28_1, hfz28_2⟩ := cells3 BK249.out; obtain ⟨Ao29, co29, eo29⟩ := Kd.S_slice HO248.out; subst eo29) | ((with_reducible refine gate_callee (f := 17) rfl ?_); refine goesL_ (some 26) rfl rfl Try.func17 (by kernel_rfl) rfl #[.agg #[.int .i64 t244, .int .i64 t245, .slice Ao29 t246.length co29], .int .i64 a1, .int .i64 a2] rfl (z0) ?_; (with_reducible refine (impl_TableAt.calls k t244 t245 _ _ t246 a1 a2 t250 _ ?side1 ?side2 A12.out).mono ?_); (case side1 => refine (Kd.S_reads' (e := 48) (base := w.heap.size) (ok := fun k_ => (True ∧ some k_ ≠ (.slice Ao22 t240.length co22 : Value).ownBlock)) (n := t246.length) (c := co29) ?_).2.2; exact (z4)); (case side2 => exact (Kd.S_reads' HO248.out).2.1); rintro e w30 ⟨rfl, hb⟩; refine ⟨_, rfl, ?_⟩; replace HO242 := Aside0.mk (Kd.S_below (by (with_reducible repeat (first | apply Kd.S_alloc | apply Kd.S_drewN | apply Kd.S_drew)); exact (Kd.S_mono (Kd.S_far (p := ⟨gb249, 2, none⟩) (Kd.S_far (p := ⟨gb249, 1, none⟩) (Kd.S_far (p := ⟨gb249, 0, none⟩) (Kd.S_types HO242.out BK249.out (by decide)) (fun _ hk => hk.2) (.int .i64 t244)) (fun _ hk => hk.2) (.int .i64 t245)) (fun _ hk => hk.2) (.slice Ao29 t246.length co29)) (fun _ h_ => h_.1))) hb); replace HO248 := Aside0.mk (Kd.S_below (z4) hb); replace BK236 := Aside0.mk (blk_below (g := gb236) (zK) hb); replace BK249 := Aside0.mk (blk_below (g := gb249) (o := .cells #[.int .i64 t244, .int .i64 t245, .slice Ao29 t246.length co29] 29 (0, 0)) (zK) hb); replace HB := Aside0.mk (below_step (zHB) hb); (try clear hb); (try clear hb2); (try clear hk); (try clear hi)))
     replace HO242 := Aside0.mk (Kd.S_drew HO242.out)
     replace HO248 := Aside0.mk (Kd.S_drew HO248.out)
     replace BK236 := Aside0.mk (blk_drew BK236.out)
     replace BK249 := Aside0.mk (blk_drew BK249.out)
     replace HB := Aside0.mk (below_drew1 HB.out)
     refine start_ (n := 5) (S := fun w' => w'.cell? ⟨gb249, 0, none⟩ = some (.int .i64 t244) ∧ w'.cell? ⟨gb249, 1, none⟩ = some (.int .i64 t245) ∧ w'.cell? ⟨gb249, 2, none⟩ = some (.slice Ao29 t246.length co29) ∧ w'.cell? ⟨gb236, 0, none⟩ = some (.int .i64 a0_0) ∧ w'.cell? ⟨gb236, 1, none⟩ = some (.int .i64 a0_1) ∧ w'.cell? ⟨gb236, 2, none⟩ = some (.slice A0_2 l0_2.length c0_2)) (ds := []) #[false, false, false, false, false] (by kernel_rfl) rfl rfl ⟨(blk_cell BK249.out 0).trans rfl, (blk_cell BK249.out 1).trans rfl, (blk_cell BK249.out 2).trans rfl, (blk_cell BK236.out 0).trans rfl, (blk_cell BK236.out 1).trans rfl, (blk_cell BK236.out 2).trans rfl⟩ (fun hHeld => ?_)
     generalize w30.drew = w31 at HO242 HO248 BK236 BK249 HB hHeld ⊢
     refine take_ (i := 0) (N := some 30) (v := ?_) (a' := ?_) #[true, false, false, false, false] rfl rfl (by kernel_rfl) (fun _ _ _ h => h) (Or.inl ⟨by rfl, ?_⟩) hHeld ?_ ?_
     rotate_left
     · rintro w' ⟨s0, s1, s2, s3, s4, s5⟩
       go_simp
       with_reducible rfl
     rotate_left
     · simp only [Act.put, List.setIfInBounds_toArray, List.set_cons_zero, List.set_cons_succ, i64_w, i32_w]
       rfl
     refine take_ (i := 1) (N := some 31) (v := ?_) (a' := ?_) #[true, true, false, false, false] rfl rfl (by kernel_rfl) (fun _ _ _ h => h) (Or.inl ⟨by rfl, ?_⟩) hHeld ?_ ?_
     rotate_left
     · rintro w' ⟨s0, s1, s2, s3, s4, s5⟩
       go_simp
       with_reducible rfl
     rotate_left
     · simp only [Act.put, List.setIfInBounds_toArray, List.set_cons_zero, List.set_cons_succ, i64_w, i32_w]
       rfl
     refine one_ (i := 2) (N := some 32) #[true, true, true, false, false] rfl rfl (by kernel_rfl) (by decide) (fun K hK => ?_)
     refine goes_ Try.func13 (by kernel_rfl) rfl #[.agg #[.int .i64 a0_0, .int .i64 a0_1, .slice A0_2 l0_2.length c0_2]] (by rfl) rfl rfl (z0) ?_
     with_reducible refine (laws_toTable.calls k a0_0 a0_1 _ _ l0_2 t251 t252 t253 _ ?side1 ?side2 A14.out).mono ?_
     (case side1 => repeat (first | exact (Kd.C_below HR0_2.out HB.out) | (with_reducible refine Kd.C_alloc ?_ _) | (with_reducible refine Kd.C_drewN ?_ _) | (with_reducible refine Kd.C_drew ?_)))
     (case side2 => exact HC0_2.out)
     rintro e w32 ⟨v254, rfl, ho0, hb⟩
     refine ⟨_, rfl, ?_⟩
     have HO255 := Aside0.mk (Kd.S_lower (Kd.S_new' (Kd.S_new' ho0 (Kd.S_lt (z1))) (Kd.S_lt (z2))) (below_size (zHB)))
     replace HO242 := Aside0.mk (Kd.S_elder' (z1) (Kd.S_base ho0) hb)
     replace HO248 := Aside0.mk (Kd.S_elder' (z2) (Kd.S_base ho0) hb)
     replace BK236 := Aside0.mk (blk_below (g := gb236) (zK) hb)
     replace BK249 := Aside0.mk (blk_below (g := gb249) (zK) hb)
     replace HB := Aside0.mk (below_step (zHB) hb)
     (try clear hb); (try clear hk); (try clear ho0)
     obtain ⟨Ao33, co33, eo33⟩ := Kd.S_slice HO255.out
     (first | subst eo33 | (injection eo33 with f1_ f2_ f3_; have f4_ := f1_.symm; have f5_ := f3_.symm; clear f1_ f2_ f3_; subst f4_; subst f5_))
     refine hK.out _ _ ⟨(blk_cell BK249.out 0).trans rfl, (blk_cell BK249.out 1).trans rfl, (blk_cell BK249.out 2).trans rfl, (blk_cell BK236.out 0).trans rfl, (blk_cell BK236.out 1).trans rfl, (blk_cell BK236.out 2).trans rfl⟩ (fun hHeld => ?_)
     clear hK K
     refine norm_ (a' := ?_) ?_ ?_
     rotate_left
     · show Act.put _ (some 32) _ = _
       simp only [Act.put, List.setIfInBounds_toArray, List.set_cons_zero, List.set_cons_succ, i64_w, i32_w]
       rfl
     refine one_ (i := 3) (N := some 33) #[true, true, true, true, false] rfl rfl (by kernel_rfl) (by decide) (fun K hK => ?_)
     refine goes_ Try.func15 (by kernel_rfl) rfl #[.agg #[.int .i64 t244, .int .i64 t245, .slice Ao29 t246.length co29], .agg #[.int .i64 t251, .int .i64 t252, .slice Ao33 t253.length co33]] (by rfl) rfl rfl (z0) ?_
     with_reducible refine (laws_eqTable.calls k t244 t245 _ _ t246 t251 t252 _ _ t253 true _ ?side1 ?side2 ?side3 ?side4 A15.out).mono ?_
     (case side1 => repeat (first | exact (Kd.S_reads' HO248.out).2.2 | (with_reducible refine Kd.C_alloc ?_ _) | (with_reducible refine Kd.C_drewN ?_ _) | (with_reducible refine Kd.C_drew ?_)))
     (case side2 => exact (Kd.S_reads' HO248.out).2.1)
     (case side3 => repeat (first | exact (Kd.S_reads' HO255.out).2.2 | (with_reducible refine Kd.C_alloc ?_ _) | (with_reducible refine Kd.C_drewN ?_ _) | (with_reducible refine Kd.C_drew ?_)))
     (case side4 => exact (Kd.S_reads' HO255.out).2.1)
     rintro e w34 ⟨rfl, hb⟩
     refine ⟨_, rfl, ?_⟩
     replace HO242 := Aside0.mk (Kd.S_below (z1) hb)
     replace HO248 := Aside0.mk (Kd.S_below (z2) hb)
     replace HO255 := Aside0.mk (Kd.S_below (z10) hb)
     replace BK236 := Aside0.mk (blk_below (g := gb236) (zK) hb)
     replace BK249 := Aside0.mk (blk_below (g := gb249) (zK) hb)
     replace HB := Aside0.mk (below_step (zHB) hb)
     (try clear hb); (try clear hk)
     refine hK.out _ _ ⟨(blk_cell BK249.out 0).trans rfl, (blk_cell BK249.out 1).trans rfl, (blk_cell BK249.out 2).trans rfl, (blk_cell BK236.out 0).trans rfl, (blk_cell BK236.out 1).trans rfl, (blk_cell BK236.out 2).trans rfl⟩ (fun hHeld => ?_)
     clear hK K
     refine norm_ (a' := ?_) ?_ ?_
     rotate_left
     · show Act.put _ (some 33) _ = _
       simp only [Act.put, List.setIfInBounds_toArray, List.set_cons_zero, List.set_cons_succ, i64_w, i32_w]
       rfl
     refine pure_ (i := 4) (N := some 34) (v := ?_) (a' := ?_) #[true, true, true, true, true] rfl rfl (by kernel_rfl) (fun _ _ _ h => h) (Or.inl ⟨by rfl, ?_⟩) ?_ ?_
     rotate_left
     · intro w'
       go_simp
       with_reducible rfl
     rotate_left
     · simp only [Act.put, List.setIfInBounds_toArray, List.set_cons_zero, List.set_cons_succ, i64_w, i32_w]
       rfl
     refine done_ (by kernel_rfl) ?_
     try go_wp2
     go_ret
     exact ⟨z7, zHB⟩
   rw [if_neg Bool.false_ne_true] at H
   obtain rfl := Option.some.inj H
   go_enter Try.func4, Try.ntmps4
   try go_wp2_with (first | ((with_reducible refine gate_dst (N := 3) rfl ?_); refine box_event ?hg (N := 3) ?hd (cs := #[.int .i64 a0_0, .int .i64 a0_1, .slice A0_2 l0_2.length c0_2]) (t := 24) ?hr ?_; (case hd => rfl); (case hg => rfl); (case hr => first | (go_simp; done) | (go_simp; rfl)); intro gb236 hg w35 hbox hb; have BK236 := Aside0.mk (hbox); have GW236 := Aside0.mk ((z3 : w.heap.size ≤ gb236)); have GE236 := Aside0.mk ((z3 : w.heap.size ≤ gb236)); replace HB := Aside0.mk (below_step (zHB) hb); clear hb hbox hg; obtain ⟨hcz36_0, hcz36_1, hcz36_2, hfz36_0, hfz36_1, hfz36_2⟩ := cells3 BK236.out) | ((with_reducible refine gate_callee (f := 11) rfl ?_); refine goesL_ (some 13) rfl rfl Try.func11 (by kernel_rfl) rfl #[.agg #[.int .i64 a0_0, .int .i64 a0_1, .slice A0_2 l0_2.length c0_2], .int .i64 1048576] rfl (z0) ?_; (with_reducible refine (laws_szTable.calls k a0_0 a0_1 _ _ l0_2 1048576 t237 _ ?side1 ?side2 A4.out).mono ?_); (case side1 => repeat (first | exact (Kd.C_below HR0_2.out HB.out) | (with_reducible refine Kd.C_alloc ?_ _) | (with_reducible refine Kd.C_drewN ?_ _) | (with_reducible refine Kd.C_drew ?_))); (case side2 => exact HC0_2.out); rintro e w37 ⟨rfl, hb⟩; refine ⟨_, rfl, ?_⟩; replace BK236 := Aside0.mk (blk_below (g := gb236) (zK) hb); replace HB := Aside0.mk (below_step (zHB) hb); (try clear hb); (try clear hb2); (try clear hk); (try clear hi); obtain ⟨hcz38_0, hcz38_1, hcz38_2, hfz38_0, hfz38_1, hfz38_2⟩ := cells3 BK236.out) | ((with_reducible refine gate_callee (f := 13) rfl ?_); refine goesL_ (some 17) rfl rfl Try.func13 (by kernel_rfl) rfl #[.agg #[.int .i64 a0_0, .int .i64 a0_1, .slice A0_2 l0_2.length c0_2]] rfl (z0) ?_; (with_reducible refine (laws_toTable.calls k a0_0 a0_1 _ _ l0_2 t238 t239 t240 _ ?side1 ?side2 A9.out).mono ?_); (case side1 => repeat (first | exact (Kd.C_below HR0_2.out HB.out) | (with_reducible refine Kd.C_alloc ?_ _) | (with_reducible refine Kd.C_drewN ?_ _) | (with_reducible refine Kd.C_drew ?_))); (case side2 => exact HC0_2.out); rintro e w39 ⟨v241, rfl, ho0, hb⟩; refine ⟨_, rfl, ?_⟩; have HO242 := Aside0.mk (Kd.S_lower ho0 (below_size (zHB))); replace BK236 := Aside0.mk (blk_below (g := gb236) (zK) hb); replace HB := Aside0.mk (below_step (zHB) hb); (try clear hb); (try clear hb2); (try clear hk); (try clear hi); (try clear ho0); obtain ⟨Ao40, co40, eo40⟩ := Kd.S_slice HO242.out; subst eo40) | ((with_reducible refine gate_callee (f := 16) rfl ?_); refine goesL_ (some 20) rfl rfl Try.func16 (by kernel_rfl) rfl #[.agg #[.int .i64 t238, .int .i64 t239, .slice Ao40 t240.length co40], .int .i64 a1, .int .i64 a2] rfl (z0) ?_; (with_reducible refine (spec_TableAt.calls k t238 t239 _ _ t240 a1 a2 t243 _ ?side1 ?side2 A10.out).mono ?_); (case side1 => repeat (first | exact (Kd.S_reads' HO242.out).2.2 | (with_reducible refine Kd.C_alloc ?_ _) | (with_reducible refine Kd.C_drewN ?_ _) | (with_reducible refine Kd.C_drew ?_))); (case side2 => exact (Kd.S_reads' HO242.out).2.1); rintro e w41 ⟨rfl, hb⟩; refine ⟨_, rfl, ?_⟩; replace HO242 := Aside0.mk (Kd.S_below (z1) hb); replace BK236 := Aside0.mk (blk_below (g := gb236) (zK) hb); replace HB := Aside0.mk (below_step (zHB) hb); (try clear hb); (try clear hb2); (try clear hk); (try clear hi); obtain ⟨hcz42_0, hcz42_1, hcz42_2, hfz42_0, hfz42_1, hfz42_2⟩ := cells3 BK236.out) | ((with_reducible refine gate_callee (f := 13) rfl ?_); refine goesL_ (some 22) rfl rfl Try.func13 (by kernel_rfl) rfl #[.agg #[.int .i64 a0_0, .int .i64 a0_1, .slice A0_2 l0_2.length c0_2]] rfl (z0) ?_; (with_reducible refine (laws_toTable.calls k a0_0 a0_1 _ _ l0_2 t244 t245 t246 _ ?side1 ?side2 A11.out).mono ?_); (case side1 => repeat (first | exact (Kd.C_below HR0_2.out HB.out) | (with_reducible refine Kd.C_alloc ?_ _) | (with_reducible refine Kd.C_drewN ?_ _) | (with_reducible refine Kd.C_drew ?_))); (case side2 => exact HC0_2.out); rintro e w43 ⟨v247, rfl, ho0, hb⟩; refine ⟨_, rfl, ?_⟩; have HO248 := Aside0.mk (Kd.S_lower (Kd.S_new' ho0 (Kd.S_lt (z1))) (below_size (zHB))); replace HO242 := Aside0.mk (Kd.S_elder' (z1) (Kd.S_base ho0) hb); replace BK236 := Aside0.mk (blk_below (g := gb236) (zK) hb); replace HB := Aside0.mk (below_step (zHB) hb); (try clear hb); (try clear hb2); (try clear hk); (try clear hi); (try clear ho0)) | ((with_reducible refine gate_dst (N := 9) rfl ?_); refine box_event ?hg (N := 9) ?hd (cs := #[.int .i64 0, .int .i64 0, .slice none 0 0]) (t := 29) ?hr ?_; (case hd => rfl); (case hg => rfl); (case hr => first | (go_simp; done) | (go_simp; rfl)); intro gb249 hg w44 hbox hb; replace HO242 := Aside0.mk (Kd.S_below (z1) hb); replace HO248 := Aside0.mk (Kd.S_below (z2) hb); have BK249 := Aside0.mk (hbox); have GW249 := Aside0.mk ((z3 : w.heap.size ≤ gb249)); have GE249 := Aside0.mk ((z3 : w.heap.size ≤ gb249)); replace HB := Aside0.mk (below_step (zHB) hb); have NB236_249 := Aside0.mk ((z8 : gb236 ≠ gb249)); have NB249_236 := Aside0.mk ((z9 : gb249 ≠ gb236)); replace BK236 := Aside0.mk (blk_below (g := gb236) (zK) hb); clear hb hbox hg; have hnb45 := NB249_236.out; have hnc45 := NB236_249.out; obtain ⟨hcz46_0, hcz46_1, hcz46_2, hfz46_0, hfz46_1, hfz46_2⟩ := cells3 BK249.out; obtain ⟨Ao47, co47, eo47⟩ := Kd.S_slice HO248.out; subst eo47) | ((with_reducible refine gate_callee (f := 17) rfl ?_); refine goesL_ (some 26) rfl rfl Try.func17 (by kernel_rfl) rfl #[.agg #[.int .i64 t244, .int .i64 t245, .slice Ao47 t246.length co47], .int .i64 a1, .int .i64 a2] rfl (z0) ?_; (with_reducible refine (impl_TableAt.calls k t244 t245 _ _ t246 a1 a2 t250 _ ?side1 ?side2 A12.out).mono ?_); (case side1 => refine (Kd.S_reads' (e := 48) (base := w.heap.size) (ok := fun k_ => (True ∧ some k_ ≠ (.slice Ao40 t240.length co40 : Value).ownBlock)) (n := t246.length) (c := co47) ?_).2.2; exact (z5)); (case side2 => exact (Kd.S_reads' HO248.out).2.1); rintro e w48 ⟨rfl, hb⟩; refine ⟨_, rfl, ?_⟩; replace HO242 := Aside0.mk (Kd.S_below (by (with_reducible repeat (first | apply Kd.S_alloc | apply Kd.S_drewN | apply Kd.S_drew)); exact (Kd.S_mono (Kd.S_far (p := ⟨gb249, 2, none⟩) (Kd.S_far (p := ⟨gb249, 1, none⟩) (Kd.S_far (p := ⟨gb249, 0, none⟩) (Kd.S_types HO242.out BK249.out (by decide)) (fun _ hk => hk.2) (.int .i64 t244)) (fun _ hk => hk.2) (.int .i64 t245)) (fun _ hk => hk.2) (.slice Ao47 t246.length co47)) (fun _ h_ => h_.1))) hb); replace HO248 := Aside0.mk (Kd.S_below (z5) hb); replace BK236 := Aside0.mk (blk_below (g := gb236) (zK) hb); replace BK249 := Aside0.mk (blk_below (g := gb249) (o := .cells #[.int .i64 t244, .int .i64 t245, .slice Ao47 t246.length co47] 29 (0, 0)) (zK) hb); replace HB := Aside0.mk (below_step (zHB) hb); (try clear hb); (try clear hb2); (try clear hk); (try clear hi)))
   replace HO242 := Aside0.mk (Kd.S_drew HO242.out)
   replace HO248 := Aside0.mk (Kd.S_drew HO248.out)
   replace BK236 := Aside0.mk (blk_drew BK236.out)
   replace BK249 := Aside0.mk (blk_drew BK249.out)
   replace HB := Aside0.mk (below_drew1 HB.out)
   refine start_ (n := 5) (S := fun w' => w'.cell? ⟨gb249, 0, none⟩ = some (.int .i64 t244) ∧ w'.cell? ⟨gb249, 1, none⟩ = some (.int .i64 t245) ∧ w'.cell? ⟨gb249, 2, none⟩ = some (.slice Ao47 t246.length co47) ∧ w'.cell? ⟨gb236, 0, none⟩ = some (.int .i64 a0_0) ∧ w'.cell? ⟨gb236, 1, none⟩ = some (.int .i64 a0_1) ∧ w'.cell? ⟨gb236, 2, none⟩ = some (.slice A0_2 l0_2.length c0_2)) (ds := []) #[false, false, false, false, false] (by kernel_rfl) rfl rfl ⟨(blk_cell BK249.out 0).trans rfl, (blk_cell BK249.out 1).trans rfl, (blk_cell BK249.out 2).trans rfl, (blk_cell BK236.out 0).trans rfl, (blk_cell BK236.out 1).trans rfl, (blk_cell BK236.out 2).trans rfl⟩ (fun hHeld => ?_)
   generalize w48.drew = w49 at HO242 HO248 BK236 BK249 HB hHeld ⊢
   refine take_ (i := 0) (N := some 30) (v := ?_) (a' := ?_) #[true, false, false, false, false] rfl rfl (by kernel_rfl) (fun _ _ _ h => h) (Or.inl ⟨by rfl, ?_⟩) hHeld ?_ ?_
   rotate_left
   · rintro w' ⟨s0, s1, s2, s3, s4, s5⟩
     go_simp
     with_reducible rfl
   rotate_left
   · simp only [Act.put, List.setIfInBounds_toArray, List.set_cons_zero, List.set_cons_succ, i64_w, i32_w]
     rfl
   refine take_ (i := 1) (N := some 31) (v := ?_) (a' := ?_) #[true, true, false, false, false] rfl rfl (by kernel_rfl) (fun _ _ _ h => h) (Or.inl ⟨by rfl, ?_⟩) hHeld ?_ ?_
   rotate_left
   · rintro w' ⟨s0, s1, s2, s3, s4, s5⟩
     go_simp
     with_reducible rfl
   rotate_left
   · simp only [Act.put, List.setIfInBounds_toArray, List.set_cons_zero, List.set_cons_succ, i64_w, i32_w]
     rfl
   refine one_ (i := 2) (N := some 32) #[true, true, true, false, false] rfl rfl (by kernel_rfl) (by decide) (fun K hK => ?_)
   refine goes_ Try.func13 (by kernel_rfl) rfl #[.agg #[.int .i64 a0_0, .int .i64 a0_1, .slice A0_2 l0_2.length c0_2]] (by rfl) rfl rfl (z0) ?_
   with_reducible refine (laws_toTable.calls k a0_0 a0_1 _ _ l0_2 t251 t252 t253 _ ?side1 ?side2 A14.out).mono ?_
   (case side1 => repeat (first | exact (Kd.C_below HR0_2.out HB.out) | (with_reducible refine Kd.C_alloc ?_ _) | (with_reducible refine Kd.C_drewN ?_ _) | (with_reducible refine Kd.C_drew ?_)))
   (case side2 => exact HC0_2.out)
   rintro e w50 ⟨v254, rfl, ho0, hb⟩
   refine ⟨_, rfl, ?_⟩
   have HO255 := Aside0.mk (Kd.S_lower (Kd.S_new' (Kd.S_new' ho0 (Kd.S_lt (z1))) (Kd.S_lt (z2))) (below_size (zHB)))
   replace HO242 := Aside0.mk (Kd.S_elder' (z1) (Kd.S_base ho0) hb)
   replace HO248 := Aside0.mk (Kd.S_elder' (z2) (Kd.S_base ho0) hb)
   replace BK236 := Aside0.mk (blk_below (g := gb236) (zK) hb)
   replace BK249 := Aside0.mk (blk_below (g := gb249) (zK) hb)
   replace HB := Aside0.mk (below_step (zHB) hb)
   (try clear hb); (try clear hk); (try clear ho0)
   obtain ⟨Ao51, co51, eo51⟩ := Kd.S_slice HO255.out
   (first | subst eo51 | (injection eo51 with f1_ f2_ f3_; have f4_ := f1_.symm; have f5_ := f3_.symm; clear f1_ f2_ f3_; subst f4_; subst f5_))
   refine hK.out _ _ ⟨(blk_cell BK249.out 0).trans rfl, (blk_cell BK249.out 1).trans rfl, (blk_cell BK249.out 2).trans rfl, (blk_cell BK236.out 0).trans rfl, (blk_cell BK236.out 1).trans rfl, (blk_cell BK236.out 2).trans rfl⟩ (fun hHeld => ?_)
   clear hK K
   refine norm_ (a' := ?_) ?_ ?_
   rotate_left
   · show Act.put _ (some 32) _ = _
     simp only [Act.put, List.setIfInBounds_toArray, List.set_cons_zero, List.set_cons_succ, i64_w, i32_w]
     rfl
   refine one_ (i := 3) (N := some 33) #[true, true, true, true, false] rfl rfl (by kernel_rfl) (by decide) (fun K hK => ?_)
   refine goes_ Try.func15 (by kernel_rfl) rfl #[.agg #[.int .i64 t244, .int .i64 t245, .slice Ao47 t246.length co47], .agg #[.int .i64 t251, .int .i64 t252, .slice Ao51 t253.length co51]] (by rfl) rfl rfl (z0) ?_
   with_reducible refine (laws_eqTable.calls k t244 t245 _ _ t246 t251 t252 _ _ t253 false _ ?side1 ?side2 ?side3 ?side4 A15.out).mono ?_
   (case side1 => repeat (first | exact (Kd.S_reads' HO248.out).2.2 | (with_reducible refine Kd.C_alloc ?_ _) | (with_reducible refine Kd.C_drewN ?_ _) | (with_reducible refine Kd.C_drew ?_)))
   (case side2 => exact (Kd.S_reads' HO248.out).2.1)
   (case side3 => repeat (first | exact (Kd.S_reads' HO255.out).2.2 | (with_reducible refine Kd.C_alloc ?_ _) | (with_reducible refine Kd.C_drewN ?_ _) | (with_reducible refine Kd.C_drew ?_)))
   (case side4 => exact (Kd.S_reads' HO255.out).2.1)
   rintro e w52 ⟨rfl, hb⟩
   refine ⟨_, rfl, ?_⟩
   replace HO242 := Aside0.mk (Kd.S_below (z1) hb)
   replace HO248 := Aside0.mk (Kd.S_below (z2) hb)
   replace HO255 := Aside0.mk (Kd.S_below (z10) hb)
   replace BK236 := Aside0.mk (blk_below (g := gb236) (zK) hb)
   replace BK249 := Aside0.mk (blk_below (g := gb249) (zK) hb)
   replace HB := Aside0.mk (below_step (zHB) hb)
   (try clear hb); (try clear hk)
   refine hK.out _ _ ⟨(blk_cell BK249.out 0).trans rfl, (blk_cell BK249.out 1).trans rfl, (blk_cell BK249.out 2).trans rfl, (blk_cell BK236.out 0).trans rfl, (blk_cell BK236.out 1).trans rfl, (blk_cell BK236.out 2).trans rfl⟩ (fun hHeld => ?_)
   clear hK K
   refine norm_ (a' := ?_) ?_ ?_
   rotate_left
   · show Act.put _ (some 33) _ = _
     simp only [Act.put, List.setIfInBounds_toArray, List.set_cons_zero, List.set_cons_succ, i64_w, i32_w]
     rfl
   refine pure_ (i := 4) (N := some 34) (v := ?_) (a' := ?_) #[true, true, true, true, true] rfl rfl (by kernel_rfl) (fun _ _ _ h => h) (Or.inl ⟨by rfl, ?_⟩) ?_ ?_
   rotate_left
   · intro w'
     go_simp
     with_reducible rfl
   rotate_left
   · simp only [Act.put, List.setIfInBounds_toArray, List.set_cons_zero, List.set_cons_succ, i64_w, i32_w]
     rfl
   refine done_ (by kernel_rfl) ?_
   try go_wp2
   go_ret
   exact ⟨z7, zHB⟩
 rw [if_neg c13] at H
 have c13b0 : (t250 == t243) = false := beq_eq_false_iff_ne.mpr c13
 have c13b1 : (t250 != t243) = true := bne_iff_ne.mpr c13
 obtain rfl := Option.some.inj H
 go_enter Try.func4, Try.ntmps4
 go_wp2_with (first | ((with_reducible refine gate_dst (N := 3) rfl ?_); refine box_event ?hg (N := 3) ?hd (cs := #[.int .i64 a0_0, .int .i64 a0_1, .slice A0_2 l0_2.length c0_2]) (t := 24) ?hr ?_; (case hd => rfl); (case hg => rfl); (case hr => first | (go_simp; done) | (go_simp; rfl)); intro gb236 hg w53 hbox hb; have BK236 := Aside0.mk (hbox); have GW236 := Aside0.mk ((z3 : w.heap.size ≤ gb236)); have GE236 := Aside0.mk ((z3 : w.heap.size ≤ gb236)); replace HB := Aside0.mk (below_step (zHB) hb); clear hb hbox hg; obtain ⟨hcz54_0, hcz54_1, hcz54_2, hfz54_0, hfz54_1, hfz54_2⟩ := cells3 BK236.out) | ((with_reducible refine gate_callee (f := 11) rfl ?_); refine goesL_ (some 13) rfl rfl Try.func11 (by kernel_rfl) rfl #[.agg #[.int .i64 a0_0, .int .i64 a0_1, .slice A0_2 l0_2.length c0_2], .int .i64 1048576] rfl (z0) ?_; (with_reducible refine (laws_szTable.calls k a0_0 a0_1 _ _ l0_2 1048576 t237 _ ?side1 ?side2 A4.out).mono ?_); (case side1 => repeat (first | exact (Kd.C_below HR0_2.out HB.out) | (with_reducible refine Kd.C_alloc ?_ _) | (with_reducible refine Kd.C_drewN ?_ _) | (with_reducible refine Kd.C_drew ?_))); (case side2 => exact HC0_2.out); rintro e w55 ⟨rfl, hb⟩; refine ⟨_, rfl, ?_⟩; replace BK236 := Aside0.mk (blk_below (g := gb236) (zK) hb); replace HB := Aside0.mk (below_step (zHB) hb); (try clear hb); (try clear hb2); (try clear hk); (try clear hi); obtain ⟨hcz56_0, hcz56_1, hcz56_2, hfz56_0, hfz56_1, hfz56_2⟩ := cells3 BK236.out) | ((with_reducible refine gate_callee (f := 13) rfl ?_); refine goesL_ (some 17) rfl rfl Try.func13 (by kernel_rfl) rfl #[.agg #[.int .i64 a0_0, .int .i64 a0_1, .slice A0_2 l0_2.length c0_2]] rfl (z0) ?_; (with_reducible refine (laws_toTable.calls k a0_0 a0_1 _ _ l0_2 t238 t239 t240 _ ?side1 ?side2 A9.out).mono ?_); (case side1 => repeat (first | exact (Kd.C_below HR0_2.out HB.out) | (with_reducible refine Kd.C_alloc ?_ _) | (with_reducible refine Kd.C_drewN ?_ _) | (with_reducible refine Kd.C_drew ?_))); (case side2 => exact HC0_2.out); rintro e w57 ⟨v241, rfl, ho0, hb⟩; refine ⟨_, rfl, ?_⟩; have HO242 := Aside0.mk (Kd.S_lower ho0 (below_size (zHB))); replace BK236 := Aside0.mk (blk_below (g := gb236) (zK) hb); replace HB := Aside0.mk (below_step (zHB) hb); (try clear hb); (try clear hb2); (try clear hk); (try clear hi); (try clear ho0); obtain ⟨Ao58, co58, eo58⟩ := Kd.S_slice HO242.out; subst eo58) | ((with_reducible refine gate_callee (f := 16) rfl ?_); refine goesL_ (some 20) rfl rfl Try.func16 (by kernel_rfl) rfl #[.agg #[.int .i64 t238, .int .i64 t239, .slice Ao58 t240.length co58], .int .i64 a1, .int .i64 a2] rfl (z0) ?_; (with_reducible refine (spec_TableAt.calls k t238 t239 _ _ t240 a1 a2 t243 _ ?side1 ?side2 A10.out).mono ?_); (case side1 => repeat (first | exact (Kd.S_reads' HO242.out).2.2 | (with_reducible refine Kd.C_alloc ?_ _) | (with_reducible refine Kd.C_drewN ?_ _) | (with_reducible refine Kd.C_drew ?_))); (case side2 => exact (Kd.S_reads' HO242.out).2.1); rintro e w59 ⟨rfl, hb⟩; refine ⟨_, rfl, ?_⟩; replace HO242 := Aside0.mk (Kd.S_below (z1) hb); replace BK236 := Aside0.mk (blk_below (g := gb236) (zK) hb); replace HB := Aside0.mk (below_step (zHB) hb); (try clear hb); (try clear hb2); (try clear hk); (try clear hi); obtain ⟨hcz60_0, hcz60_1, hcz60_2, hfz60_0, hfz60_1, hfz60_2⟩ := cells3 BK236.out) | ((with_reducible refine gate_callee (f := 13) rfl ?_); refine goesL_ (some 22) rfl rfl Try.func13 (by kernel_rfl) rfl #[.agg #[.int .i64 a0_0, .int .i64 a0_1, .slice A0_2 l0_2.length c0_2]] rfl (z0) ?_; (with_reducible refine (laws_toTable.calls k a0_0 a0_1 _ _ l0_2 t244 t245 t246 _ ?side1 ?side2 A11.out).mono ?_); (case side1 => repeat (first | exact (Kd.C_below HR0_2.out HB.out) | (with_reducible refine Kd.C_alloc ?_ _) | (with_reducible refine Kd.C_drewN ?_ _) | (with_reducible refine Kd.C_drew ?_))); (case side2 => exact HC0_2.out); rintro e w61 ⟨v247, rfl, ho0, hb⟩; refine ⟨_, rfl, ?_⟩; have HO248 := Aside0.mk (Kd.S_lower (Kd.S_new' ho0 (Kd.S_lt (z1))) (below_size (zHB))); replace HO242 := Aside0.mk (Kd.S_elder' (z1) (Kd.S_base ho0) hb); replace BK236 := Aside0.mk (blk_below (g := gb236) (zK) hb); replace HB := Aside0.mk (below_step (zHB) hb); (try clear hb); (try clear hb2); (try clear hk); (try clear hi); (try clear ho0)) | ((with_reducible refine gate_dst (N := 9) rfl ?_); refine box_event ?hg (N := 9) ?hd (cs := #[.int .i64 0, .int .i64 0, .slice none 0 0]) (t := 29) ?hr ?_; (case hd => rfl); (case hg => rfl); (case hr => first | (go_simp; done) | (go_simp; rfl)); intro gb249 hg w62 hbox hb; replace HO242 := Aside0.mk (Kd.S_below (z1) hb); replace HO248 := Aside0.mk (Kd.S_below (z2) hb); have BK249 := Aside0.mk (hbox); have GW249 := Aside0.mk ((z3 : w.heap.size ≤ gb249)); have GE249 := Aside0.mk ((z3 : w.heap.size ≤ gb249)); replace HB := Aside0.mk (below_step (zHB) hb); have NB236_249 := Aside0.mk ((z8 : gb236 ≠ gb249)); have NB249_236 := Aside0.mk ((z9 : gb249 ≠ gb236)); replace BK236 := Aside0.mk (blk_below (g := gb236) (zK) hb); clear hb hbox hg; have hnb63 := NB249_236.out; have hnc63 := NB236_249.out; obtain ⟨hcz64_0, hcz64_1, hcz64_2, hfz64_0, hfz64_1, hfz64_2⟩ := cells3 BK249.out; obtain ⟨Ao65, co65, eo65⟩ := Kd.S_slice HO248.out; subst eo65) | ((with_reducible refine gate_callee (f := 17) rfl ?_); refine goesL_ (some 26) rfl rfl Try.func17 (by kernel_rfl) rfl #[.agg #[.int .i64 t244, .int .i64 t245, .slice Ao65 t246.length co65], .int .i64 a1, .int .i64 a2] rfl (z0) ?_; (with_reducible refine (impl_TableAt.calls k t244 t245 _ _ t246 a1 a2 t250 _ ?side1 ?side2 A12.out).mono ?_); (case side1 => refine (Kd.S_reads' (e := 48) (base := w.heap.size) (ok := fun k_ => (True ∧ some k_ ≠ (.slice Ao58 t240.length co58 : Value).ownBlock)) (n := t246.length) (c := co65) ?_).2.2; exact (z6)); (case side2 => exact (Kd.S_reads' HO248.out).2.1); rintro e w66 ⟨rfl, hb⟩; refine ⟨_, rfl, ?_⟩; replace HO242 := Aside0.mk (Kd.S_below (by (with_reducible repeat (first | apply Kd.S_alloc | apply Kd.S_drewN | apply Kd.S_drew)); exact (Kd.S_mono (Kd.S_far (p := ⟨gb249, 2, none⟩) (Kd.S_far (p := ⟨gb249, 1, none⟩) (Kd.S_far (p := ⟨gb249, 0, none⟩) (Kd.S_types HO242.out BK249.out (by decide)) (fun _ hk => hk.2) (.int .i64 t244)) (fun _ hk => hk.2) (.int .i64 t245)) (fun _ hk => hk.2) (.slice Ao65 t246.length co65)) (fun _ h_ => h_.1))) hb); replace HO248 := Aside0.mk (Kd.S_below (z6) hb); replace BK236 := Aside0.mk (blk_below (g := gb236) (zK) hb); replace BK249 := Aside0.mk (blk_below (g := gb249) (o := .cells #[.int .i64 t244, .int .i64 t245, .slice Ao65 t246.length co65] 29 (0, 0)) (zK) hb); replace HB := Aside0.mk (below_step (zHB) hb); (try clear hb); (try clear hb2); (try clear hk); (try clear hi)))
 go_ret
 exact ⟨z7, zHB⟩
end Go.Proofs.Ytalmpbmgmijdkaa.P
