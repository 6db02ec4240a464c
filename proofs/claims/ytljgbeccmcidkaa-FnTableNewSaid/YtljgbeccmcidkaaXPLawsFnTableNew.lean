/- What the Go functions named below compute, function by function: a plain Lean function with the same answers and the proof that a call comes to them. Conditions: the arguments read as told, the plain function answers. -/
import Derived.Test.YtljgbeccmcidkaaXA
import Derived.Test.YtljgbeccmcidkaaXB
import Derived.Test.YtljgbeccmcidkaaXU
import Derived.Test.YtljgbeccmcidkaaXT
import Derived.Test.YtljgbeccmcidkaaXV
namespace Go.Proofs.Ytljgbeccmcidkaa.P
open Go.RowKit Go.Proofs.YtljgbeccmcidkaaW.PrintWords Go.Proofs.YtljgbeccmcidkaaW.PrintLast Go.Proofs.YtljgbeccmcidkaaW.PrintMore
attribute [local go_sem] max2_int min2_int max_two min_two max_three min_three max_four min_four   -- for this text's walks alone
set_option linter.unusedVariables false
set_option linter.unusedSimpArgs false

attribute [local go_sem ↓] isSome_setCell
theorem laws_FnTableNew.fld0 (a b : Int) (v : Value) (w : World) : Sem.run Try.prog (Instr.field 25 (.agg #[.int .i64 a, .int .i64 b, v]) 0) w = .ok (.int .i64 a) w := by
  have h := Try.underlying25
  unfold Instr.field
  simp [go_sem, h, Try.underlying3, run_asAgg]
theorem laws_FnTableNew.fld2 (a b : Int) (v : Value) (w : World) : Sem.run Try.prog (Instr.field 25 (.agg #[.int .i64 a, .int .i64 b, v]) 2) w = .ok v w := by
  have h := Try.underlying25
  unfold Instr.field
  simp [go_sem, h, Try.underlying23, run_asAgg]
attribute [local go_sem] laws_FnTableNew.fld0 laws_FnTableNew.fld2
/-! ### laws_FnTableNew: function 5 -/
def laws_FnTableNew.f (k : Nat) (l0 : List Int) : Option (Bool) := if (l0.length : Int) > 1048576 then (some true) else ((spec_DrawTableNew.f k l0).bind fun bt535 => ((impl_TableNew.f k bt535.1 bt535.2).bind fun bt537 => ((spec_TableNew.f k bt535.1 bt535.2).bind fun bt543 => ((laws_lmTable.f k bt537.1 bt537.2.1 bt537.2.2 bt543.1 bt543.2.1 bt543.2.2).bind fun t548 => (if t548 = true then ((spec_TableNew.f k bt535.1 bt535.2).bind fun bt549 => (if bt549.1 = 0 then (if bt537.1 = 0 then (some ((bt537.2.2.length : Int) == 0)) else (some false)) else ((impl_TableOk.f k bt537.1 bt537.2.1 bt537.2.2).bind fun t554 => (if t554 = true then (if (bt537.2.2.length : Int) = (wrap64 (bt535.1 * bt535.2)) then (if bt537.1 = bt535.1 then ((impl_TableTurn.f k bt537.1 bt537.2.1 bt537.2.2).bind fun bt555 => ((impl_TableNew.f k bt535.2 bt535.1).bind fun bt560 => ((laws_lmTable.f k bt555.1 bt555.2.1 bt555.2.2 bt560.1 bt560.2.1 bt560.2.2).bind fun t565 => (some t565)))) else (some false)) else (some false)) else (some false))))) else (some false))))))
theorem laws_FnTableNew.zHB {p : Prop} (h : p := by repeat (first | (with_reducible first | exact HB.out | apply below_alloc | apply pw_below_drewN | apply below_drew1 | refine below_set ?_ GE542.out) | exact HB.out)) : p := h
theorem laws_FnTableNew.zK {p : Prop} (h : p := by repeat' first | (with_reducible first | exact BK542.out | apply blk_drewN | apply blk_drew | apply blk_alloc | apply blk_putE) | exact (rfl : List.set _ _ _ = _)) : p := h
theorem laws_FnTableNew.z0 {p : Prop} (h : p := by (try simp only [List.map_toArray, List.map_cons, List.map_nil]); first | done | rfl | (simp only [List.length_drop, List.length_take]; rfl)) : p := h
theorem laws_FnTableNew.z1 {p : Prop} (h : p := by (with_reducible repeat (first | apply Kd.S_alloc | apply Kd.S_drewN | apply Kd.S_drew)); exact HO541.out) : p := h
theorem laws_FnTableNew.z2 {p : Prop} (h : p := by (with_reducible repeat (first | apply Kd.S_alloc | apply Kd.S_drewN | apply Kd.S_drew)); exact HO547.out) : p := h
theorem laws_FnTableNew.z3 {p : Prop} (h : p := by (with_reducible repeat (first | apply Kd.S_alloc | apply Kd.S_drewN | apply Kd.S_drew)); exact HO553.out) : p := h
theorem laws_FnTableNew.z4 {p : Prop} (h : p := by first | rfl | (simp [errW_none, errW_some] <;> rfl) | (simp [*, errW_none, errW_some] <;> rfl)) : p := h
theorem laws_FnTableNew.z5 {p : Prop} (h : p := by rw [hg]; exact (below_size (zHB))) : p := h
theorem laws_FnTableNew.z6 {p : Prop} (h : p := by (with_reducible repeat (first | apply Kd.S_alloc | apply Kd.S_drewN | apply Kd.S_drew)); exact HO559.out) : p := h
set_option maxHeartbeats 8000000 in
set_option maxRecDepth 100000 in
theorem laws_FnTableNew.calls (k : Nat) (A0 : Option Addr) (c0 : Nat) (l0 : List Int) (r : Bool) (w : World) (hr0 : Kd.C (Kd.int .u8) w A0 l0.length l0) (hc0 : l0.length ≤ c0) (h : laws_FnTableNew.f k l0 = some r) :
    Calls Try.prog 5 #[.slice A0 l0.length c0] w fun e w' => e = .returned (.bool r) ∧ Below w.heap.size w w' := by
 have huq := Try.underlying23
 have hu25 := Try.underlying25
 have HR0 := Ax hr0
 have HC0 := Ax hc0
 clear hr0 hc0
 have HB := Ax (Below.refl w.heap.size w)
 have H : (if (l0.length : Int) > 1048576 then (some true) else ((spec_DrawTableNew.f k l0).bind fun bt535 => ((impl_TableNew.f k bt535.1 bt535.2).bind fun bt537 => ((spec_TableNew.f k bt535.1 bt535.2).bind fun bt543 => ((laws_lmTable.f k bt537.1 bt537.2.1 bt537.2.2 bt543.1 bt543.2.1 bt543.2.2).bind fun t548 => (if t548 = true then ((spec_TableNew.f k bt535.1 bt535.2).bind fun bt549 => (if bt549.1 = 0 then (if bt537.1 = 0 then (some ((bt537.2.2.length : Int) == 0)) else (some false)) else ((impl_TableOk.f k bt537.1 bt537.2.1 bt537.2.2).bind fun t554 => (if t554 = true then (if (bt537.2.2.length : Int) = (wrap64 (bt535.1 * bt535.2)) then (if bt537.1 = bt535.1 then ((impl_TableTurn.f k bt537.1 bt537.2.1 bt537.2.2).bind fun bt555 => ((impl_TableNew.f k bt535.2 bt535.1).bind fun bt560 => ((laws_lmTable.f k bt555.1 bt555.2.1 bt555.2.2 bt560.1 bt560.2.1 bt560.2.2).bind fun t565 => (some t565)))) else (some false)) else (some false)) else (some false))))) else (some false))))))) = some r := h
 clear h
 by_cases c2 : (l0.length : Int) > 1048576
 · rw [if_pos c2] at H
   have c2b0 : decide (1048576 < (l0.length : Int)) = true := decide_eq_true c2
   have c2b1 : decide (1048576 < l0.length) = true := decide_eq_true (by omega)
   clear c2
   obtain rfl := Option.some.inj H
   go_enter Try.func5, Try.ntmps5
   go_wp2
   go_ret
   exact ⟨z4, zHB⟩
 rw [if_neg c2] at H
 have c2b0 : decide (1048576 < (l0.length : Int)) = false := decide_eq_false c2
 have c2b1 : decide (1048576 < l0.length) = false := decide_eq_false (by omega)
 clear c2
 obtain ⟨⟨t535, t536⟩, A3, H⟩ := bnd H
 dsimp only at H
 obtain ⟨⟨t537, t538, t539⟩, A4, H⟩ := bnd H
 dsimp only at H
 obtain ⟨⟨t543, t544, t545⟩, A5, H⟩ := bnd H
 dsimp only at H
 obtain ⟨t548, A6, H⟩ := bnd H
 obtain rfl | rfl := tf t548
 rotate_left
 · rw [if_neg Bool.false_ne_true] at H
   obtain rfl := Option.some.inj H
   go_enter Try.func5, Try.ntmps5
   try go_wp2_with (first | ((with_reducible refine gate_callee (f := 20) rfl ?_); refine goesL_ (some 11) rfl rfl Try.func20 (by kernel_rfl) rfl #[.slice A0 l0.length c0] rfl (z0) ?_; (with_reducible refine (spec_DrawTableNew.calls k _ _ l0 t535 t536 _ ?side1 ?side2 A3.out).mono ?_); (case side1 => repeat (first | exact HR0.out | (with_reducible refine Kd.C_alloc ?_ _) | (with_reducible refine Kd.C_drewN ?_ _) | (with_reducible refine Kd.C_drew ?_))); (case side2 => exact HC0.out); rintro e w102 ⟨rfl, hb⟩; refine ⟨_, rfl, ?_⟩; replace HB := Ax (below_step (zHB) hb); (try clear hb); (try clear hb2); (try clear hk); (try clear hi)) | ((with_reducible refine gate_callee (f := 21) rfl ?_); refine goesL_ (some 16) rfl rfl Try.func21 (by kernel_rfl) rfl #[.int .i64 t535, .int .i64 t536] rfl (z0) ?_; (with_reducible refine (impl_TableNew.calls k t535 t536 t537 t538 t539 _ A4.out).mono ?_); rintro e w103 ⟨v540, rfl, ho0, hb⟩; refine ⟨_, rfl, ?_⟩; have HO541 := Ax (Kd.S_lower ho0 (below_size (zHB))); replace HB := Ax (below_step (zHB) hb); (try clear hb); (try clear hb2); (try clear hk); (try clear hi); (try clear ho0)) | ((with_reducible refine gate_dst (N := 5) rfl ?_); (try (refine gate_guard (by rfl) ?_; dsimp only)); refine box_event ?hg (N := 5) ?hd (cs := #[.int .i64 0, .int .i64 0, .slice none 0 0]) (t := 25) ?hr ?_; (case hd => rfl); (case hg => rfl); (case hr => first | (go_simp; done) | (go_simp; rfl)); intro gb542 hg w104 hbox hb; replace HO541 := Ax (Kd.S_below (z1) hb); have BK542 := Ax (hbox); have GW542 := Ax ((z5 : w.heap.size ≤ gb542)); have GE542 := Ax ((z5 : w.heap.size ≤ gb542)); replace HB := Ax (below_step (zHB) hb); clear hb hbox hg; obtain ⟨_, _, _, _, _, _⟩ := cells3 BK542.out; obtain ⟨Ao106, co106, eo106⟩ := Kd.S_slice HO541.out; subst eo106))
   have n0_ : Aside0 (Kd.S k30 30 (((w104.setCell ⟨gb542, 0, none⟩ (.int .i64 t537)).setCell ⟨gb542, 1, none⟩ (.int .i64 t538)).setCell ⟨gb542, 2, none⟩ (.slice Ao106 t539.length co106)) w.heap.size (fun _ => True) (.slice Ao106 t539.length co106) t539) := ⟨by (with_reducible repeat (first | apply Kd.S_alloc | apply Kd.S_drewN | apply Kd.S_drew)); exact Kd.S_mono (Kd.S_far (p := ⟨gb542, 2, none⟩) (Kd.S_far (p := ⟨gb542, 1, none⟩) (Kd.S_far (p := ⟨gb542, 0, none⟩) (Kd.S_types HO541.out BK542.out (by decide)) (fun _ hk => hk.2) (.int .i64 t537)) (fun _ hk => hk.2) (.int .i64 t538)) (fun _ hk => hk.2) (.slice Ao106 t539.length co106)) (fun _ hk => trivial)⟩
   have n1_ : Aside0 ((((w104.setCell ⟨gb542, 0, none⟩ (.int .i64 t537)).setCell ⟨gb542, 1, none⟩ (.int .i64 t538)).setCell ⟨gb542, 2, none⟩ (.slice Ao106 t539.length co106)).heap[gb542]? = some (.cells #[.int .i64 t537, .int .i64 t538, .slice Ao106 t539.length co106] 25 (0, 0))) := ⟨zK⟩
   have n2_ : Aside0 (Below w.heap.size w (((w104.setCell ⟨gb542, 0, none⟩ (.int .i64 t537)).setCell ⟨gb542, 1, none⟩ (.int .i64 t538)).setCell ⟨gb542, 2, none⟩ (.slice Ao106 t539.length co106))) := ⟨zHB⟩
   (try clear HO541); (try clear BK542); (try clear HB)
   generalize (((w104.setCell ⟨gb542, 0, none⟩ (.int .i64 t537)).setCell ⟨gb542, 1, none⟩ (.int .i64 t538)).setCell ⟨gb542, 2, none⟩ (.slice Ao106 t539.length co106)) = w107 at n0_ n1_ n2_ ⊢
   have HO541 := n0_
   have BK542 := n1_
   have HB := n2_
   clear n0_ n1_ n2_
   replace HO541 := Ax (Kd.S_drew HO541.out)
   replace BK542 := Ax (blk_drew BK542.out)
   replace HB := Ax (below_drew1 HB.out)
   refine start_ (n := 6) (S := fun w' => w'.cell? ⟨gb542, 0, none⟩ = some (.int .i64 t537) ∧ w'.cell? ⟨gb542, 1, none⟩ = some (.int .i64 t538) ∧ w'.cell? ⟨gb542, 2, none⟩ = some (.slice Ao106 t539.length co106)) (ds := []) #[false, false, false, false, false, false] (by kernel_rfl) rfl rfl ⟨(blk_cell BK542.out 0).trans rfl, (blk_cell BK542.out 1).trans rfl, (blk_cell BK542.out 2).trans rfl⟩ (fun hHeld => ?_)
   generalize w107.drew = w108 at HO541 BK542 HB hHeld ⊢
   refine pure_ (i := 1) (N := some 18) (v := ?_) (a' := ?_) (bl 6 2) rfl rfl (by kernel_rfl) (fun _ _ _ h => h) (Or.inl ⟨by rfl, ?_⟩) ?_ ?_
   rotate_left
   · exact zEv
   rotate_left
   · exact zAct
   refine pure_ (i := 2) (N := some 19) (v := ?_) (a' := ?_) (bl 6 6) rfl rfl (by kernel_rfl) (fun _ _ _ h => h) (Or.inl ⟨by rfl, ?_⟩) ?_ ?_
   rotate_left
   · exact zEv
   rotate_left
   · exact zAct
   refine take_ (i := 0) (N := some 17) (v := ?_) (a' := ?_) (bl 6 7) rfl rfl (by kernel_rfl) (fun _ _ _ h => h) (Or.inl ⟨by rfl, ?_⟩) hHeld ?_ ?_
   rotate_left
   · rintro w' ⟨s0, s1, s2⟩
     go_simp
     with_reducible rfl
   rotate_left
   · exact zAct
   refine one_ (i := 3) (N := some 20) (bl 6 15) rfl rfl (by kernel_rfl) (by decide) (fun K hK => ?_)
   refine goes_ Try.func23 (by kernel_rfl) rfl #[.int .i64 t535, .int .i64 t536] (by rfl) rfl rfl (z0) ?_
   with_reducible refine (spec_TableNew.calls k t535 t536 t543 t544 t545 _ A5.out).mono ?_
   rintro e w109 ⟨v546, rfl, ho0, hb⟩
   refine ⟨_, rfl, ?_⟩
   have HO547 := Ax (Kd.S_lower (Kd.S_new' ho0 (Kd.S_lt (z1))) (below_size (zHB)))
   replace HO541 := Ax (Kd.S_elder' (z1) (Kd.S_base ho0) hb)
   replace BK542 := Ax (blk_below (g := gb542) (zK) hb)
   replace HB := Ax (below_step (zHB) hb)
   (try clear hb); (try clear hk); (try clear ho0)
   obtain ⟨Ao110, co110, eo110⟩ := Kd.S_slice HO547.out
   (first | subst eo110 | (injection eo110 with f1_ f2_ f3_; have f4_ := f1_.symm; have f5_ := f3_.symm; clear f1_ f2_ f3_; subst f4_; subst f5_))
   refine hK.out _ _ ⟨(blk_cell BK542.out 0).trans rfl, (blk_cell BK542.out 1).trans rfl, (blk_cell BK542.out 2).trans rfl⟩ (fun hHeld => ?_)
   clear hK K
   refine norm_ (a' := ?_) ?_ ?_
   rotate_left
   · show Act.put _ (some 20) _ = _
     exact zAct
   refine one_ (i := 4) (N := some 21) (bl 6 31) rfl rfl (by kernel_rfl) (by decide) (fun K hK => ?_)
   refine goes_ Try.func22 (by kernel_rfl) rfl #[.agg #[.int .i64 t537, .int .i64 t538, .slice Ao106 t539.length co106], .agg #[.int .i64 t543, .int .i64 t544, .slice Ao110 t545.length co110]] (by rfl) rfl rfl (z0) ?_
   with_reducible refine (laws_lmTable.calls k t537 t538 _ _ t539 t543 t544 _ _ t545 false _ ?side1 ?side2 ?side3 ?side4 A6.out).mono ?_
   (case side1 => repeat (first | exact (Kd.S_reads' HO541.out).2.2 | (with_reducible refine Kd.C_alloc ?_ _) | (with_reducible refine Kd.C_drewN ?_ _) | (with_reducible refine Kd.C_drew ?_)))
   (case side2 => exact (Kd.S_reads' HO541.out).2.1)
   (case side3 => repeat (first | exact (Kd.S_reads' HO547.out).2.2 | (with_reducible refine Kd.C_alloc ?_ _) | (with_reducible refine Kd.C_drewN ?_ _) | (with_reducible refine Kd.C_drew ?_)))
   (case side4 => exact (Kd.S_reads' HO547.out).2.1)
   rintro e w111 ⟨rfl, hb⟩
   refine ⟨_, rfl, ?_⟩
   replace HO541 := Ax (Kd.S_below (z1) hb)
   replace HO547 := Ax (Kd.S_below (z2) hb)
   replace BK542 := Ax (blk_below (g := gb542) (zK) hb)
   replace HB := Ax (below_step (zHB) hb)
   (try clear hb); (try clear hk)
   refine hK.out _ _ ⟨(blk_cell BK542.out 0).trans rfl, (blk_cell BK542.out 1).trans rfl, (blk_cell BK542.out 2).trans rfl⟩ (fun hHeld => ?_)
   clear hK K
   refine norm_ (a' := ?_) ?_ ?_
   rotate_left
   · show Act.put _ (some 21) _ = _
     exact zAct
   refine pure_ (i := 5) (N := some 22) (v := ?_) (a' := ?_) (bl 6 63) rfl rfl (by kernel_rfl) (fun _ _ _ h => h) (Or.inl ⟨by rfl, ?_⟩) ?_ ?_
   rotate_left
   · exact zEv
   rotate_left
   · exact zAct
   refine done_ (by kernel_rfl) ?_
   try go_wp2
   go_ret
   exact ⟨z4, zHB⟩
 rw [if_pos rfl] at H
 obtain ⟨⟨t549, t550, t551⟩, A8, H⟩ := bnd H
 dsimp only at H
 by_cases c9 : t549 = 0
 · rw [if_pos c9] at H
   have c9b0 : (t549 == 0) = true := beq_iff_eq.mpr c9
   have c9b1 : (t549 != 0) = false := bne_eq_false_iff_eq.mpr c9
   clear c9
   by_cases c10 : t537 = 0
   · rw [if_pos c10] at H
     have c10b0 : (t537 == 0) = true := beq_iff_eq.mpr c10
     have c10b1 : (t537 != 0) = false := bne_eq_false_iff_eq.mpr c10
     clear c10
     obtain rfl := Option.some.inj H
     go_enter Try.func5, Try.ntmps5
     try go_wp2_with (first | ((with_reducible refine gate_callee (f := 20) rfl ?_); refine goesL_ (some 11) rfl rfl Try.func20 (by kernel_rfl) rfl #[.slice A0 l0.length c0] rfl (z0) ?_; (with_reducible refine (spec_DrawTableNew.calls k _ _ l0 t535 t536 _ ?side1 ?side2 A3.out).mono ?_); (case side1 => repeat (first | exact HR0.out | (with_reducible refine Kd.C_alloc ?_ _) | (with_reducible refine Kd.C_drewN ?_ _) | (with_reducible refine Kd.C_drew ?_))); (case side2 => exact HC0.out); rintro e w11 ⟨rfl, hb⟩; refine ⟨_, rfl, ?_⟩; replace HB := Ax (below_step (zHB) hb); (try clear hb); (try clear hb2); (try clear hk); (try clear hi)) | ((with_reducible refine gate_callee (f := 21) rfl ?_); refine goesL_ (some 16) rfl rfl Try.func21 (by kernel_rfl) rfl #[.int .i64 t535, .int .i64 t536] rfl (z0) ?_; (with_reducible refine (impl_TableNew.calls k t535 t536 t537 t538 t539 _ A4.out).mono ?_); rintro e w12 ⟨v540, rfl, ho0, hb⟩; refine ⟨_, rfl, ?_⟩; have HO541 := Ax (Kd.S_lower ho0 (below_size (zHB))); replace HB := Ax (below_step (zHB) hb); (try clear hb); (try clear hb2); (try clear hk); (try clear hi); (try clear ho0)) | ((with_reducible refine gate_dst (N := 5) rfl ?_); (try (refine gate_guard (by rfl) ?_; dsimp only)); refine box_event ?hg (N := 5) ?hd (cs := #[.int .i64 0, .int .i64 0, .slice none 0 0]) (t := 25) ?hr ?_; (case hd => rfl); (case hg => rfl); (case hr => first | (go_simp; done) | (go_simp; rfl)); intro gb542 hg w13 hbox hb; replace HO541 := Ax (Kd.S_below (z1) hb); have BK542 := Ax (hbox); have GW542 := Ax ((z5 : w.heap.size ≤ gb542)); have GE542 := Ax ((z5 : w.heap.size ≤ gb542)); replace HB := Ax (below_step (zHB) hb); clear hb hbox hg; obtain ⟨_, _, _, _, _, _⟩ := cells3 BK542.out; obtain ⟨Ao15, co15, eo15⟩ := Kd.S_slice HO541.out; subst eo15))
     have n0_ : Aside0 (Kd.S k30 30 (((w13.setCell ⟨gb542, 0, none⟩ (.int .i64 t537)).setCell ⟨gb542, 1, none⟩ (.int .i64 t538)).setCell ⟨gb542, 2, none⟩ (.slice Ao15 t539.length co15)) w.heap.size (fun _ => True) (.slice Ao15 t539.length co15) t539) := ⟨by (with_reducible repeat (first | apply Kd.S_alloc | apply Kd.S_drewN | apply Kd.S_drew)); exact Kd.S_mono (Kd.S_far (p := ⟨gb542, 2, none⟩) (Kd.S_far (p := ⟨gb542, 1, none⟩) (Kd.S_far (p := ⟨gb542, 0, none⟩) (Kd.S_types HO541.out BK542.out (by decide)) (fun _ hk => hk.2) (.int .i64 t537)) (fun _ hk => hk.2) (.int .i64 t538)) (fun _ hk => hk.2) (.slice Ao15 t539.length co15)) (fun _ hk => trivial)⟩
     have n1_ : Aside0 ((((w13.setCell ⟨gb542, 0, none⟩ (.int .i64 t537)).setCell ⟨gb542, 1, none⟩ (.int .i64 t538)).setCell ⟨gb542, 2, none⟩ (.slice Ao15 t539.length co15)).heap[gb542]? = some (.cells #[.int .i64 t537, .int .i64 t538, .slice Ao15 t539.length co15] 25 (0, 0))) := ⟨zK⟩
     have n2_ : Aside0 (Below w.heap.size w (((w13.setCell ⟨gb542, 0, none⟩ (.int .i64 t537)).setCell ⟨gb542, 1, none⟩ (.int .i64 t538)).setCell ⟨gb542, 2, none⟩ (.slice Ao15 t539.length co15))) := ⟨zHB⟩
     (try clear HO541); (try clear BK542); (try clear HB)
     generalize (((w13.setCell ⟨gb542, 0, none⟩ (.int .i64 t537)).setCell ⟨gb542, 1, none⟩ (.int .i64 t538)).setCell ⟨gb542, 2, none⟩ (.slice Ao15 t539.length co15)) = w16 at n0_ n1_ n2_ ⊢
     have HO541 := n0_
     have BK542 := n1_
     have HB := n2_
     clear n0_ n1_ n2_
     replace HO541 := Ax (Kd.S_drew HO541.out)
     replace BK542 := Ax (blk_drew BK542.out)
     replace HB := Ax (below_drew1 HB.out)
     refine start_ (n := 6) (S := fun w' => w'.cell? ⟨gb542, 0, none⟩ = some (.int .i64 t537) ∧ w'.cell? ⟨gb542, 1, none⟩ = some (.int .i64 t538) ∧ w'.cell? ⟨gb542, 2, none⟩ = some (.slice Ao15 t539.length co15)) (ds := []) #[false, false, false, false, false, false] (by kernel_rfl) rfl rfl ⟨(blk_cell BK542.out 0).trans rfl, (blk_cell BK542.out 1).trans rfl, (blk_cell BK542.out 2).trans rfl⟩ (fun hHeld => ?_)
     generalize w16.drew = w17 at HO541 BK542 HB hHeld ⊢
     refine pure_ (i := 1) (N := some 18) (v := ?_) (a' := ?_) (bl 6 2) rfl rfl (by kernel_rfl) (fun _ _ _ h => h) (Or.inl ⟨by rfl, ?_⟩) ?_ ?_
     rotate_left
     · exact zEv
     rotate_left
     · exact zAct
     refine pure_ (i := 2) (N := some 19) (v := ?_) (a' := ?_) (bl 6 6) rfl rfl (by kernel_rfl) (fun _ _ _ h => h) (Or.inl ⟨by rfl, ?_⟩) ?_ ?_
     rotate_left
     · exact zEv
     rotate_left
     · exact zAct
     refine take_ (i := 0) (N := some 17) (v := ?_) (a' := ?_) (bl 6 7) rfl rfl (by kernel_rfl) (fun _ _ _ h => h) (Or.inl ⟨by rfl, ?_⟩) hHeld ?_ ?_
     rotate_left
     · rintro w' ⟨s0, s1, s2⟩
       go_simp
       with_reducible rfl
     rotate_left
     · exact zAct
     refine one_ (i := 3) (N := some 20) (bl 6 15) rfl rfl (by kernel_rfl) (by decide) (fun K hK => ?_)
     refine goes_ Try.func23 (by kernel_rfl) rfl #[.int .i64 t535, .int .i64 t536] (by rfl) rfl rfl (z0) ?_
     with_reducible refine (spec_TableNew.calls k t535 t536 t543 t544 t545 _ A5.out).mono ?_
     rintro e w18 ⟨v546, rfl, ho0, hb⟩
     refine ⟨_, rfl, ?_⟩
     have HO547 := Ax (Kd.S_lower (Kd.S_new' ho0 (Kd.S_lt (z1))) (below_size (zHB)))
     replace HO541 := Ax (Kd.S_elder' (z1) (Kd.S_base ho0) hb)
     replace BK542 := Ax (blk_below (g := gb542) (zK) hb)
     replace HB := Ax (below_step (zHB) hb)
     (try clear hb); (try clear hk); (try clear ho0)
     obtain ⟨Ao19, co19, eo19⟩ := Kd.S_slice HO547.out
     (first | subst eo19 | (injection eo19 with f1_ f2_ f3_; have f4_ := f1_.symm; have f5_ := f3_.symm; clear f1_ f2_ f3_; subst f4_; subst f5_))
     refine hK.out _ _ ⟨(blk_cell BK542.out 0).trans rfl, (blk_cell BK542.out 1).trans rfl, (blk_cell BK542.out 2).trans rfl⟩ (fun hHeld => ?_)
     clear hK K
     refine norm_ (a' := ?_) ?_ ?_
     rotate_left
     · show Act.put _ (some 20) _ = _
       exact zAct
     refine one_ (i := 4) (N := some 21) (bl 6 31) rfl rfl (by kernel_rfl) (by decide) (fun K hK => ?_)
     refine goes_ Try.func22 (by kernel_rfl) rfl #[.agg #[.int .i64 t537, .int .i64 t538, .slice Ao15 t539.length co15], .agg #[.int .i64 t543, .int .i64 t544, .slice Ao19 t545.length co19]] (by rfl) rfl rfl (z0) ?_
     with_reducible refine (laws_lmTable.calls k t537 t538 _ _ t539 t543 t544 _ _ t545 true _ ?side1 ?side2 ?side3 ?side4 A6.out).mono ?_
     (case side1 => repeat (first | exact (Kd.S_reads' HO541.out).2.2 | (with_reducible refine Kd.C_alloc ?_ _) | (with_reducible refine Kd.C_drewN ?_ _) | (with_reducible refine Kd.C_drew ?_)))
     (case side2 => exact (Kd.S_reads' HO541.out).2.1)
     (case side3 => repeat (first | exact (Kd.S_reads' HO547.out).2.2 | (with_reducible refine Kd.C_alloc ?_ _) | (with_reducible refine Kd.C_drewN ?_ _) | (with_reducible refine Kd.C_drew ?_)))
     (case side4 => exact (Kd.S_reads' HO547.out).2.1)
     rintro e w20 ⟨rfl, hb⟩
     refine ⟨_, rfl, ?_⟩
     replace HO541 := Ax (Kd.S_below (z1) hb)
     replace HO547 := Ax (Kd.S_below (z2) hb)
     replace BK542 := Ax (blk_below (g := gb542) (zK) hb)
     replace HB := Ax (below_step (zHB) hb)
     (try clear hb); (try clear hk)
     refine hK.out _ _ ⟨(blk_cell BK542.out 0).trans rfl, (blk_cell BK542.out 1).trans rfl, (blk_cell BK542.out 2).trans rfl⟩ (fun hHeld => ?_)
     clear hK K
     refine norm_ (a' := ?_) ?_ ?_
     rotate_left
     · show Act.put _ (some 21) _ = _
       exact zAct
     refine pure_ (i := 5) (N := some 22) (v := ?_) (a' := ?_) (bl 6 63) rfl rfl (by kernel_rfl) (fun _ _ _ h => h) (Or.inl ⟨by rfl, ?_⟩) ?_ ?_
     rotate_left
     · exact zEv
     rotate_left
     · exact zAct
     refine done_ (by kernel_rfl) ?_
     try go_wp2_with (first | ((with_reducible refine gate_callee (f := 23) rfl ?_); refine goesL_ (some 25) rfl rfl Try.func23 (by kernel_rfl) rfl #[.int .i64 t535, .int .i64 t536] rfl (z0) ?_; (with_reducible refine (spec_TableNew.calls k t535 t536 t549 t550 t551 _ A8.out).mono ?_); rintro e w21 ⟨v552, rfl, ho0, hb⟩; refine ⟨_, rfl, ?_⟩; obtain ⟨Aq_, cq_, eq_⟩ := Kd.S_slice ho0; subst eq_; have HO553 := Ax (Kd.S_lower (Kd.S_new' (Kd.S_new' ho0 (Kd.S_lt (z1))) (Kd.S_lt (z2))) (below_size (zHB))); replace HO541 := Ax (Kd.S_elder' (z1) (Kd.S_base ho0) hb); replace HO547 := Ax (Kd.S_elder' (z2) (Kd.S_base ho0) hb); replace BK542 := Ax (blk_below (g := gb542) (zK) hb); replace HB := Ax (below_step (zHB) hb); (try clear hb); (try clear hb2); (try clear hk); (try clear hi); (try clear ho0); obtain ⟨_, _, _, _, _, _⟩ := cells3 BK542.out))
     go_ret
     exact ⟨z4, zHB⟩
   rw [if_neg c10] at H
   have c10b0 : (t537 == 0) = false := beq_eq_false_iff_ne.mpr c10
   have c10b1 : (t537 != 0) = true := bne_iff_ne.mpr c10
   obtain rfl := Option.some.inj H
   go_enter Try.func5, Try.ntmps5
   try go_wp2_with (first | ((with_reducible refine gate_callee (f := 20) rfl ?_); refine goesL_ (some 11) rfl rfl Try.func20 (by kernel_rfl) rfl #[.slice A0 l0.length c0] rfl (z0) ?_; (with_reducible refine (spec_DrawTableNew.calls k _ _ l0 t535 t536 _ ?side1 ?side2 A3.out).mono ?_); (case side1 => repeat (first | exact HR0.out | (with_reducible refine Kd.C_alloc ?_ _) | (with_reducible refine Kd.C_drewN ?_ _) | (with_reducible refine Kd.C_drew ?_))); (case side2 => exact HC0.out); rintro e w23 ⟨rfl, hb⟩; refine ⟨_, rfl, ?_⟩; replace HB := Ax (below_step (zHB) hb); (try clear hb); (try clear hb2); (try clear hk); (try clear hi)) | ((with_reducible refine gate_callee (f := 21) rfl ?_); refine goesL_ (some 16) rfl rfl Try.func21 (by kernel_rfl) rfl #[.int .i64 t535, .int .i64 t536] rfl (z0) ?_; (with_reducible refine (impl_TableNew.calls k t535 t536 t537 t538 t539 _ A4.out).mono ?_); rintro e w24 ⟨v540, rfl, ho0, hb⟩; refine ⟨_, rfl, ?_⟩; have HO541 := Ax (Kd.S_lower ho0 (below_size (zHB))); replace HB := Ax (below_step (zHB) hb); (try clear hb); (try clear hb2); (try clear hk); (try clear hi); (try clear ho0)) | ((with_reducible refine gate_dst (N := 5) rfl ?_); (try (refine gate_guard (by rfl) ?_; dsimp only)); refine box_event ?hg (N := 5) ?hd (cs := #[.int .i64 0, .int .i64 0, .slice none 0 0]) (t := 25) ?hr ?_; (case hd => rfl); (case hg => rfl); (case hr => first | (go_simp; done) | (go_simp; rfl)); intro gb542 hg w25 hbox hb; replace HO541 := Ax (Kd.S_below (z1) hb); have BK542 := Ax (hbox); have GW542 := Ax ((z5 : w.heap.size ≤ gb542)); have GE542 := Ax ((z5 : w.heap.size ≤ gb542)); replace HB := Ax (below_step (zHB) hb); clear hb hbox hg; obtain ⟨_, _, _, _, _, _⟩ := cells3 BK542.out; obtain ⟨Ao27, co27, eo27⟩ := Kd.S_slice HO541.out; subst eo27))
   have n0_ : Aside0 (Kd.S k30 30 (((w25.setCell ⟨gb542, 0, none⟩ (.int .i64 t537)).setCell ⟨gb542, 1, none⟩ (.int .i64 t538)).setCell ⟨gb542, 2, none⟩ (.slice Ao27 t539.length co27)) w.heap.size (fun _ => True) (.slice Ao27 t539.length co27) t539) := ⟨by (with_reducible repeat (first | apply Kd.S_alloc | apply Kd.S_drewN | apply Kd.S_drew)); exact Kd.S_mono (Kd.S_far (p := ⟨gb542, 2, none⟩) (Kd.S_far (p := ⟨gb542, 1, none⟩) (Kd.S_far (p := ⟨gb542, 0, none⟩) (Kd.S_types HO541.out BK542.out (by decide)) (fun _ hk => hk.2) (.int .i64 t537)) (fun _ hk => hk.2) (.int .i64 t538)) (fun _ hk => hk.2) (.slice Ao27 t539.length co27)) (fun _ hk => trivial)⟩
   have n1_ : Aside0 ((((w25.setCell ⟨gb542, 0, none⟩ (.int .i64 t537)).setCell ⟨gb542, 1, none⟩ (.int .i64 t538)).setCell ⟨gb542, 2, none⟩ (.slice Ao27 t539.length co27)).heap[gb542]? = some (.cells #[.int .i64 t537, .int .i64 t538, .slice Ao27 t539.length co27] 25 (0, 0))) := ⟨zK⟩
   have n2_ : Aside0 (Below w.heap.size w (((w25.setCell ⟨gb542, 0, none⟩ (.int .i64 t537)).setCell ⟨gb542, 1, none⟩ (.int .i64 t538)).setCell ⟨gb542, 2, none⟩ (.slice Ao27 t539.length co27))) := ⟨zHB⟩
   (try clear HO541); (try clear BK542); (try clear HB)
   generalize (((w25.setCell ⟨gb542, 0, none⟩ (.int .i64 t537)).setCell ⟨gb542, 1, none⟩ (.int .i64 t538)).setCell ⟨gb542, 2, none⟩ (.slice Ao27 t539.length co27)) = w28 at n0_ n1_ n2_ ⊢
   have HO541 := n0_
   have BK542 := n1_
   have HB := n2_
   clear n0_ n1_ n2_
   replace HO541 := Ax (Kd.S_drew HO541.out)
   replace BK542 := Ax (blk_drew BK542.out)
   replace HB := Ax (below_drew1 HB.out)
   refine start_ (n := 6) (S := fun w' => w'.cell? ⟨gb542, 0, none⟩ = some (.int .i64 t537) ∧ w'.cell? ⟨gb542, 1, none⟩ = some (.int .i64 t538) ∧ w'.cell? ⟨gb542, 2, none⟩ = some (.slice Ao27 t539.length co27)) (ds := []) #[false, false, false, false, false, false] (by kernel_rfl) rfl rfl ⟨(blk_cell BK542.out 0).trans rfl, (blk_cell BK542.out 1).trans rfl, (blk_cell BK542.out 2).trans rfl⟩ (fun hHeld => ?_)
   generalize w28.drew = w29 at HO541 BK542 HB hHeld ⊢
   refine pure_ (i := 1) (N := some 18) (v := ?_) (a' := ?_) (bl 6 2) rfl rfl (by kernel_rfl) (fun _ _ _ h => h) (Or.inl ⟨by rfl, ?_⟩) ?_ ?_
   rotate_left
   · exact zEv
   rotate_left
   · exact zAct
   refine pure_ (i := 2) (N := some 19) (v := ?_) (a' := ?_) (bl 6 6) rfl rfl (by kernel_rfl) (fun _ _ _ h => h) (Or.inl ⟨by rfl, ?_⟩) ?_ ?_
   rotate_left
   · exact zEv
   rotate_left
   · exact zAct
   refine take_ (i := 0) (N := some 17) (v := ?_) (a' := ?_) (bl 6 7) rfl rfl (by kernel_rfl) (fun _ _ _ h => h) (Or.inl ⟨by rfl, ?_⟩) hHeld ?_ ?_
   rotate_left
   · rintro w' ⟨s0, s1, s2⟩
     go_simp
     with_reducible rfl
   rotate_left
   · exact zAct
   refine one_ (i := 3) (N := some 20) (bl 6 15) rfl rfl (by kernel_rfl) (by decide) (fun K hK => ?_)
   refine goes_ Try.func23 (by kernel_rfl) rfl #[.int .i64 t535, .int .i64 t536] (by rfl) rfl rfl (z0) ?_
   with_reducible refine (spec_TableNew.calls k t535 t536 t543 t544 t545 _ A5.out).mono ?_
   rintro e w30 ⟨v546, rfl, ho0, hb⟩
   refine ⟨_, rfl, ?_⟩
   have HO547 := Ax (Kd.S_lower (Kd.S_new' ho0 (Kd.S_lt (z1))) (below_size (zHB)))
   replace HO541 := Ax (Kd.S_elder' (z1) (Kd.S_base ho0) hb)
   replace BK542 := Ax (blk_below (g := gb542) (zK) hb)
   replace HB := Ax (below_step (zHB) hb)
   (try clear hb); (try clear hk); (try clear ho0)
   obtain ⟨Ao31, co31, eo31⟩ := Kd.S_slice HO547.out
   (first | subst eo31 | (injection eo31 with f1_ f2_ f3_; have f4_ := f1_.symm; have f5_ := f3_.symm; clear f1_ f2_ f3_; subst f4_; subst f5_))
   refine hK.out _ _ ⟨(blk_cell BK542.out 0).trans rfl, (blk_cell BK542.out 1).trans rfl, (blk_cell BK542.out 2).trans rfl⟩ (fun hHeld => ?_)
   clear hK K
   refine norm_ (a' := ?_) ?_ ?_
   rotate_left
   · show Act.put _ (some 20) _ = _
     exact zAct
   refine one_ (i := 4) (N := some 21) (bl 6 31) rfl rfl (by kernel_rfl) (by decide) (fun K hK => ?_)
   refine goes_ Try.func22 (by kernel_rfl) rfl #[.agg #[.int .i64 t537, .int .i64 t538, .slice Ao27 t539.length co27], .agg #[.int .i64 t543, .int .i64 t544, .slice Ao31 t545.length co31]] (by rfl) rfl rfl (z0) ?_
   with_reducible refine (laws_lmTable.calls k t537 t538 _ _ t539 t543 t544 _ _ t545 true _ ?side1 ?side2 ?side3 ?side4 A6.out).mono ?_
   (case side1 => repeat (first | exact (Kd.S_reads' HO541.out).2.2 | (with_reducible refine Kd.C_alloc ?_ _) | (with_reducible refine Kd.C_drewN ?_ _) | (with_reducible refine Kd.C_drew ?_)))
   (case side2 => exact (Kd.S_reads' HO541.out).2.1)
   (case side3 => repeat (first | exact (Kd.S_reads' HO547.out).2.2 | (with_reducible refine Kd.C_alloc ?_ _) | (with_reducible refine Kd.C_drewN ?_ _) | (with_reducible refine Kd.C_drew ?_)))
   (case side4 => exact (Kd.S_reads' HO547.out).2.1)
   rintro e w32 ⟨rfl, hb⟩
   refine ⟨_, rfl, ?_⟩
   replace HO541 := Ax (Kd.S_below (z1) hb)
   replace HO547 := Ax (Kd.S_below (z2) hb)
   replace BK542 := Ax (blk_below (g := gb542) (zK) hb)
   replace HB := Ax (below_step (zHB) hb)
   (try clear hb); (try clear hk)
   refine hK.out _ _ ⟨(blk_cell BK542.out 0).trans rfl, (blk_cell BK542.out 1).trans rfl, (blk_cell BK542.out 2).trans rfl⟩ (fun hHeld => ?_)
   clear hK K
   refine norm_ (a' := ?_) ?_ ?_
   rotate_left
   · show Act.put _ (some 21) _ = _
     exact zAct
   refine pure_ (i := 5) (N := some 22) (v := ?_) (a' := ?_) (bl 6 63) rfl rfl (by kernel_rfl) (fun _ _ _ h => h) (Or.inl ⟨by rfl, ?_⟩) ?_ ?_
   rotate_left
   · exact zEv
   rotate_left
   · exact zAct
   refine done_ (by kernel_rfl) ?_
   try go_wp2_with (first | ((with_reducible refine gate_callee (f := 23) rfl ?_); refine goesL_ (some 25) rfl rfl Try.func23 (by kernel_rfl) rfl #[.int .i64 t535, .int .i64 t536] rfl (z0) ?_; (with_reducible refine (spec_TableNew.calls k t535 t536 t549 t550 t551 _ A8.out).mono ?_); rintro e w33 ⟨v552, rfl, ho0, hb⟩; refine ⟨_, rfl, ?_⟩; obtain ⟨Aq_, cq_, eq_⟩ := Kd.S_slice ho0; subst eq_; have HO553 := Ax (Kd.S_lower (Kd.S_new' (Kd.S_new' ho0 (Kd.S_lt (z1))) (Kd.S_lt (z2))) (below_size (zHB))); replace HO541 := Ax (Kd.S_elder' (z1) (Kd.S_base ho0) hb); replace HO547 := Ax (Kd.S_elder' (z2) (Kd.S_base ho0) hb); replace BK542 := Ax (blk_below (g := gb542) (zK) hb); replace HB := Ax (below_step (zHB) hb); (try clear hb); (try clear hb2); (try clear hk); (try clear hi); (try clear ho0); obtain ⟨_, _, _, _, _, _⟩ := cells3 BK542.out))
   go_ret
   exact ⟨z4, zHB⟩
 rw [if_neg c9] at H
 have c9b0 : (t549 == 0) = false := beq_eq_false_iff_ne.mpr c9
 have c9b1 : (t549 != 0) = true := bne_iff_ne.mpr c9
 obtain ⟨t554, A35, H⟩ := bnd H
 obtain rfl | rfl := tf t554
 rotate_left
 · rw [if_neg Bool.false_ne_true] at H
   obtain rfl := Option.some.inj H
   go_enter Try.func5, Try.ntmps5
   try go_wp2_with (first | ((with_reducible refine gate_callee (f := 20) rfl ?_); refine goesL_ (some 11) rfl rfl Try.func20 (by kernel_rfl) rfl #[.slice A0 l0.length c0] rfl (z0) ?_; (with_reducible refine (spec_DrawTableNew.calls k _ _ l0 t535 t536 _ ?side1 ?side2 A3.out).mono ?_); (case side1 => repeat (first | exact HR0.out | (with_reducible refine Kd.C_alloc ?_ _) | (with_reducible refine Kd.C_drewN ?_ _) | (with_reducible refine Kd.C_drew ?_))); (case side2 => exact HC0.out); rintro e w89 ⟨rfl, hb⟩; refine ⟨_, rfl, ?_⟩; replace HB := Ax (below_step (zHB) hb); (try clear hb); (try clear hb2); (try clear hk); (try clear hi)) | ((with_reducible refine gate_callee (f := 21) rfl ?_); refine goesL_ (some 16) rfl rfl Try.func21 (by kernel_rfl) rfl #[.int .i64 t535, .int .i64 t536] rfl (z0) ?_; (with_reducible refine (impl_TableNew.calls k t535 t536 t537 t538 t539 _ A4.out).mono ?_); rintro e w90 ⟨v540, rfl, ho0, hb⟩; refine ⟨_, rfl, ?_⟩; have HO541 := Ax (Kd.S_lower ho0 (below_size (zHB))); replace HB := Ax (below_step (zHB) hb); (try clear hb); (try clear hb2); (try clear hk); (try clear hi); (try clear ho0)) | ((with_reducible refine gate_dst (N := 5) rfl ?_); (try (refine gate_guard (by rfl) ?_; dsimp only)); refine box_event ?hg (N := 5) ?hd (cs := #[.int .i64 0, .int .i64 0, .slice none 0 0]) (t := 25) ?hr ?_; (case hd => rfl); (case hg => rfl); (case hr => first | (go_simp; done) | (go_simp; rfl)); intro gb542 hg w91 hbox hb; replace HO541 := Ax (Kd.S_below (z1) hb); have BK542 := Ax (hbox); have GW542 := Ax ((z5 : w.heap.size ≤ gb542)); have GE542 := Ax ((z5 : w.heap.size ≤ gb542)); replace HB := Ax (below_step (zHB) hb); clear hb hbox hg; obtain ⟨_, _, _, _, _, _⟩ := cells3 BK542.out; obtain ⟨Ao93, co93, eo93⟩ := Kd.S_slice HO541.out; subst eo93))
   have n0_ : Aside0 (Kd.S k30 30 (((w91.setCell ⟨gb542, 0, none⟩ (.int .i64 t537)).setCell ⟨gb542, 1, none⟩ (.int .i64 t538)).setCell ⟨gb542, 2, none⟩ (.slice Ao93 t539.length co93)) w.heap.size (fun _ => True) (.slice Ao93 t539.length co93) t539) := ⟨by (with_reducible repeat (first | apply Kd.S_alloc | apply Kd.S_drewN | apply Kd.S_drew)); exact Kd.S_mono (Kd.S_far (p := ⟨gb542, 2, none⟩) (Kd.S_far (p := ⟨gb542, 1, none⟩) (Kd.S_far (p := ⟨gb542, 0, none⟩) (Kd.S_types HO541.out BK542.out (by decide)) (fun _ hk => hk.2) (.int .i64 t537)) (fun _ hk => hk.2) (.int .i64 t538)) (fun _ hk => hk.2) (.slice Ao93 t539.length co93)) (fun _ hk => trivial)⟩
   have n1_ : Aside0 ((((w91.setCell ⟨gb542, 0, none⟩ (.int .i64 t537)).setCell ⟨gb542, 1, none⟩ (.int .i64 t538)).setCell ⟨gb542, 2, none⟩ (.slice Ao93 t539.length co93)).heap[gb542]? = some (.cells #[.int .i64 t537, .int .i64 t538, .slice Ao93 t539.length co93] 25 (0, 0))) := ⟨zK⟩
   have n2_ : Aside0 (Below w.heap.size w (((w91.setCell ⟨gb542, 0, none⟩ (.int .i64 t537)).setCell ⟨gb542, 1, none⟩ (.int .i64 t538)).setCell ⟨gb542, 2, none⟩ (.slice Ao93 t539.length co93))) := ⟨zHB⟩
   (try clear HO541); (try clear BK542); (try clear HB)
   generalize (((w91.setCell ⟨gb542, 0, none⟩ (.int .i64 t537)).setCell ⟨gb542, 1, none⟩ (.int .i64 t538)).setCell ⟨gb542, 2, none⟩ (.slice Ao93 t539.length co93)) = w94 at n0_ n1_ n2_ ⊢
   have HO541 := n0_
   have BK542 := n1_
   have HB := n2_
   clear n0_ n1_ n2_
   replace HO541 := Ax (Kd.S_drew HO541.out)
   replace BK542 := Ax (blk_drew BK542.out)
   replace HB := Ax (below_drew1 HB.out)
   refine start_ (n := 6) (S := fun w' => w'.cell? ⟨gb542, 0, none⟩ = some (.int .i64 t537) ∧ w'.cell? ⟨gb542, 1, none⟩ = some (.int .i64 t538) ∧ w'.cell? ⟨gb542, 2, none⟩ = some (.slice Ao93 t539.length co93)) (ds := []) #[false, false, false, false, false, false] (by kernel_rfl) rfl rfl ⟨(blk_cell BK542.out 0).trans rfl, (blk_cell BK542.out 1).trans rfl, (blk_cell BK542.out 2).trans rfl⟩ (fun hHeld => ?_)
   generalize w94.drew = w95 at HO541 BK542 HB hHeld ⊢
   refine pure_ (i := 1) (N := some 18) (v := ?_) (a' := ?_) (bl 6 2) rfl rfl (by kernel_rfl) (fun _ _ _ h => h) (Or.inl ⟨by rfl, ?_⟩) ?_ ?_
   rotate_left
   · exact zEv
   rotate_left
   · exact zAct
   refine pure_ (i := 2) (N := some 19) (v := ?_) (a' := ?_) (bl 6 6) rfl rfl (by kernel_rfl) (fun _ _ _ h => h) (Or.inl ⟨by rfl, ?_⟩) ?_ ?_
   rotate_left
   · exact zEv
   rotate_left
   · exact zAct
   refine take_ (i := 0) (N := some 17) (v := ?_) (a' := ?_) (bl 6 7) rfl rfl (by kernel_rfl) (fun _ _ _ h => h) (Or.inl ⟨by rfl, ?_⟩) hHeld ?_ ?_
   rotate_left
   · rintro w' ⟨s0, s1, s2⟩
     go_simp
     with_reducible rfl
   rotate_left
   · exact zAct
   refine one_ (i := 3) (N := some 20) (bl 6 15) rfl rfl (by kernel_rfl) (by decide) (fun K hK => ?_)
   refine goes_ Try.func23 (by kernel_rfl) rfl #[.int .i64 t535, .int .i64 t536] (by rfl) rfl rfl (z0) ?_
   with_reducible refine (spec_TableNew.calls k t535 t536 t543 t544 t545 _ A5.out).mono ?_
   rintro e w96 ⟨v546, rfl, ho0, hb⟩
   refine ⟨_, rfl, ?_⟩
   have HO547 := Ax (Kd.S_lower (Kd.S_new' ho0 (Kd.S_lt (z1))) (below_size (zHB)))
   replace HO541 := Ax (Kd.S_elder' (z1) (Kd.S_base ho0) hb)
   replace BK542 := Ax (blk_below (g := gb542) (zK) hb)
   replace HB := Ax (below_step (zHB) hb)
   (try clear hb); (try clear hk); (try clear ho0)
   obtain ⟨Ao97, co97, eo97⟩ := Kd.S_slice HO547.out
   (first | subst eo97 | (injection eo97 with f1_ f2_ f3_; have f4_ := f1_.symm; have f5_ := f3_.symm; clear f1_ f2_ f3_; subst f4_; subst f5_))
   refine hK.out _ _ ⟨(blk_cell BK542.out 0).trans rfl, (blk_cell BK542.out 1).trans rfl, (blk_cell BK542.out 2).trans rfl⟩ (fun hHeld => ?_)
   clear hK K
   refine norm_ (a' := ?_) ?_ ?_
   rotate_left
   · show Act.put _ (some 20) _ = _
     exact zAct
   refine one_ (i := 4) (N := some 21) (bl 6 31) rfl rfl (by kernel_rfl) (by decide) (fun K hK => ?_)
   refine goes_ Try.func22 (by kernel_rfl) rfl #[.agg #[.int .i64 t537, .int .i64 t538, .slice Ao93 t539.length co93], .agg #[.int .i64 t543, .int .i64 t544, .slice Ao97 t545.length co97]] (by rfl) rfl rfl (z0) ?_
   with_reducible refine (laws_lmTable.calls k t537 t538 _ _ t539 t543 t544 _ _ t545 true _ ?side1 ?side2 ?side3 ?side4 A6.out).mono ?_
   (case side1 => repeat (first | exact (Kd.S_reads' HO541.out).2.2 | (with_reducible refine Kd.C_alloc ?_ _) | (with_reducible refine Kd.C_drewN ?_ _) | (with_reducible refine Kd.C_drew ?_)))
   (case side2 => exact (Kd.S_reads' HO541.out).2.1)
   (case side3 => repeat (first | exact (Kd.S_reads' HO547.out).2.2 | (with_reducible refine Kd.C_alloc ?_ _) | (with_reducible refine Kd.C_drewN ?_ _) | (with_reducible refine Kd.C_drew ?_)))
   (case side4 => exact (Kd.S_reads' HO547.out).2.1)
   rintro e w98 ⟨rfl, hb⟩
   refine ⟨_, rfl, ?_⟩
   replace HO541 := Ax (Kd.S_below (z1) hb)
   replace HO547 := Ax (Kd.S_below (z2) hb)
   replace BK542 := Ax (blk_below (g := gb542) (zK) hb)
   replace HB := Ax (below_step (zHB) hb)
   (try clear hb); (try clear hk)
   refine hK.out _ _ ⟨(blk_cell BK542.out 0).trans rfl, (blk_cell BK542.out 1).trans rfl, (blk_cell BK542.out 2).trans rfl⟩ (fun hHeld => ?_)
   clear hK K
   refine norm_ (a' := ?_) ?_ ?_
   rotate_left
   · show Act.put _ (some 21) _ = _
     exact zAct
   refine pure_ (i := 5) (N := some 22) (v := ?_) (a' := ?_) (bl 6 63) rfl rfl (by kernel_rfl) (fun _ _ _ h => h) (Or.inl ⟨by rfl, ?_⟩) ?_ ?_
   rotate_left
   · exact zEv
   rotate_left
   · exact zAct
   refine done_ (by kernel_rfl) ?_
   try go_wp2_with (first | ((with_reducible refine gate_callee (f := 23) rfl ?_); refine goesL_ (some 25) rfl rfl Try.func23 (by kernel_rfl) rfl #[.int .i64 t535, .int .i64 t536] rfl (z0) ?_; (with_reducible refine (spec_TableNew.calls k t535 t536 t549 t550 t551 _ A8.out).mono ?_); rintro e w99 ⟨v552, rfl, ho0, hb⟩; refine ⟨_, rfl, ?_⟩; obtain ⟨Aq_, cq_, eq_⟩ := Kd.S_slice ho0; subst eq_; have HO553 := Ax (Kd.S_lower (Kd.S_new' (Kd.S_new' ho0 (Kd.S_lt (z1))) (Kd.S_lt (z2))) (below_size (zHB))); replace HO541 := Ax (Kd.S_elder' (z1) (Kd.S_base ho0) hb); replace HO547 := Ax (Kd.S_elder' (z2) (Kd.S_base ho0) hb); replace BK542 := Ax (blk_below (g := gb542) (zK) hb); replace HB := Ax (below_step (zHB) hb); (try clear hb); (try clear hb2); (try clear hk); (try clear hi); (try clear ho0); obtain ⟨_, _, _, _, _, _⟩ := cells3 BK542.out) | ((with_reducible refine gate_callee (f := 15) rfl ?_); refine goesL_ (some 38) rfl rfl Try.func15 (by kernel_rfl) rfl #[.agg #[.int .i64 t537, .int .i64 t538, .slice Ao93 t539.length co93]] rfl (z0) ?_; (with_reducible refine (impl_TableOk.calls k t537 t538 _ _ t539 false _ ?side1 ?side2 A35.out).mono ?_); (case side1 => repeat (first | exact (Kd.S_reads' HO541.out).2.2 | (with_reducible refine Kd.C_alloc ?_ _) | (with_reducible refine Kd.C_drewN ?_ _) | (with_reducible refine Kd.C_drew ?_))); (case side2 => exact (Kd.S_reads' HO541.out).2.1); rintro e w101 ⟨rfl, hb⟩; refine ⟨_, rfl, ?_⟩; replace HO541 := Ax (Kd.S_below (z1) hb); replace HO547 := Ax (Kd.S_below (z2) hb); replace HO553 := Ax (Kd.S_below (z3) hb); replace BK542 := Ax (blk_below (g := gb542) (zK) hb); replace HB := Ax (below_step (zHB) hb); (try clear hb); (try clear hb2); (try clear hk); (try clear hi)))
   go_ret
   exact ⟨z4, zHB⟩
 rw [if_pos rfl] at H
 by_cases c37 : (t539.length : Int) = (wrap64 (t535 * t536))
 rotate_left
 · rw [if_neg c37] at H
   have c37b0 : ((t539.length : Int) == (wrap64 (t535 * t536))) = false := beq_eq_false_iff_ne.mpr c37
   have c37b1 : ((t539.length : Int) != (wrap64 (t535 * t536))) = true := bne_iff_ne.mpr c37
   obtain rfl := Option.some.inj H
   go_enter Try.func5, Try.ntmps5
   try go_wp2_with (first | ((with_reducible refine gate_callee (f := 20) rfl ?_); refine goesL_ (some 11) rfl rfl Try.func20 (by kernel_rfl) rfl #[.slice A0 l0.length c0] rfl (z0) ?_; (with_reducible refine (spec_DrawTableNew.calls k _ _ l0 t535 t536 _ ?side1 ?side2 A3.out).mono ?_); (case side1 => repeat (first | exact HR0.out | (with_reducible refine Kd.C_alloc ?_ _) | (with_reducible refine Kd.C_drewN ?_ _) | (with_reducible refine Kd.C_drew ?_))); (case side2 => exact HC0.out); rintro e w75 ⟨rfl, hb⟩; refine ⟨_, rfl, ?_⟩; replace HB := Ax (below_step (zHB) hb); (try clear hb); (try clear hb2); (try clear hk); (try clear hi)) | ((with_reducible refine gate_callee (f := 21) rfl ?_); refine goesL_ (some 16) rfl rfl Try.func21 (by kernel_rfl) rfl #[.int .i64 t535, .int .i64 t536] rfl (z0) ?_; (with_reducible refine (impl_TableNew.calls k t535 t536 t537 t538 t539 _ A4.out).mono ?_); rintro e w76 ⟨v540, rfl, ho0, hb⟩; refine ⟨_, rfl, ?_⟩; have HO541 := Ax (Kd.S_lower ho0 (below_size (zHB))); replace HB := Ax (below_step (zHB) hb); (try clear hb); (try clear hb2); (try clear hk); (try clear hi); (try clear ho0)) | ((with_reducible refine gate_dst (N := 5) rfl ?_); (try (refine gate_guard (by rfl) ?_; dsimp only)); refine box_event ?hg (N := 5) ?hd (cs := #[.int .i64 0, .int .i64 0, .slice none 0 0]) (t := 25) ?hr ?_; (case hd => rfl); (case hg => rfl); (case hr => first | (go_simp; done) | (go_simp; rfl)); intro gb542 hg w77 hbox hb; replace HO541 := Ax (Kd.S_below (z1) hb); have BK542 := Ax (hbox); have GW542 := Ax ((z5 : w.heap.size ≤ gb542)); have GE542 := Ax ((z5 : w.heap.size ≤ gb542)); replace HB := Ax (below_step (zHB) hb); clear hb hbox hg; obtain ⟨_, _, _, _, _, _⟩ := cells3 BK542.out; obtain ⟨Ao79, co79, eo79⟩ := Kd.S_slice HO541.out; subst eo79))
   have n0_ : Aside0 (Kd.S k30 30 (((w77.setCell ⟨gb542, 0, none⟩ (.int .i64 t537)).setCell ⟨gb542, 1, none⟩ (.int .i64 t538)).setCell ⟨gb542, 2, none⟩ (.slice Ao79 t539.length co79)) w.heap.size (fun _ => True) (.slice Ao79 t539.length co79) t539) := ⟨by (with_reducible repeat (first | apply Kd.S_alloc | apply Kd.S_drewN | apply Kd.S_drew)); exact Kd.S_mono (Kd.S_far (p := ⟨gb542, 2, none⟩) (Kd.S_far (p := ⟨gb542, 1, none⟩) (Kd.S_far (p := ⟨gb542, 0, none⟩) (Kd.S_types HO541.out BK542.out (by decide)) (fun _ hk => hk.2) (.int .i64 t537)) (fun _ hk => hk.2) (.int .i64 t538)) (fun _ hk => hk.2) (.slice Ao79 t539.length co79)) (fun _ hk => trivial)⟩
   have n1_ : Aside0 ((((w77.setCell ⟨gb542, 0, none⟩ (.int .i64 t537)).setCell ⟨gb542, 1, none⟩ (.int .i64 t538)).setCell ⟨gb542, 2, none⟩ (.slice Ao79 t539.length co79)).heap[gb542]? = some (.cells #[.int .i64 t537, .int .i64 t538, .slice Ao79 t539.length co79] 25 (0, 0))) := ⟨zK⟩
   have n2_ : Aside0 (Below w.heap.size w (((w77.setCell ⟨gb542, 0, none⟩ (.int .i64 t537)).setCell ⟨gb542, 1, none⟩ (.int .i64 t538)).setCell ⟨gb542, 2, none⟩ (.slice Ao79 t539.length co79))) := ⟨zHB⟩
   (try clear HO541); (try clear BK542); (try clear HB)
   generalize (((w77.setCell ⟨gb542, 0, none⟩ (.int .i64 t537)).setCell ⟨gb542, 1, none⟩ (.int .i64 t538)).setCell ⟨gb542, 2, none⟩ (.slice Ao79 t539.length co79)) = w80 at n0_ n1_ n2_ ⊢
   have HO541 := n0_
   have BK542 := n1_
   have HB := n2_
   clear n0_ n1_ n2_
   replace HO541 := Ax (Kd.S_drew HO541.out)
   replace BK542 := Ax (blk_drew BK542.out)
   replace HB := Ax (below_drew1 HB.out)
   refine start_ (n := 6) (S := fun w' => w'.cell? ⟨gb542, 0, none⟩ = some (.int .i64 t537) ∧ w'.cell? ⟨gb542, 1, none⟩ = some (.int .i64 t538) ∧ w'.cell? ⟨gb542, 2, none⟩ = some (.slice Ao79 t539.length co79)) (ds := []) #[false, false, false, false, false, false] (by kernel_rfl) rfl rfl ⟨(blk_cell BK542.out 0).trans rfl, (blk_cell BK542.out 1).trans rfl, (blk_cell BK542.out 2).trans rfl⟩ (fun hHeld => ?_)
   generalize w80.drew = w81 at HO541 BK542 HB hHeld ⊢
   refine pure_ (i := 1) (N := some 18) (v := ?_) (a' := ?_) (bl 6 2) rfl rfl (by kernel_rfl) (fun _ _ _ h => h) (Or.inl ⟨by rfl, ?_⟩) ?_ ?_
   rotate_left
   · exact zEv
   rotate_left
   · exact zAct
   refine pure_ (i := 2) (N := some 19) (v := ?_) (a' := ?_) (bl 6 6) rfl rfl (by kernel_rfl) (fun _ _ _ h => h) (Or.inl ⟨by rfl, ?_⟩) ?_ ?_
   rotate_left
   · exact zEv
   rotate_left
   · exact zAct
   refine take_ (i := 0) (N := some 17) (v := ?_) (a' := ?_) (bl 6 7) rfl rfl (by kernel_rfl) (fun _ _ _ h => h) (Or.inl ⟨by rfl, ?_⟩) hHeld ?_ ?_
   rotate_left
   · rintro w' ⟨s0, s1, s2⟩
     go_simp
     with_reducible rfl
   rotate_left
   · exact zAct
   refine one_ (i := 3) (N := some 20) (bl 6 15) rfl rfl (by kernel_rfl) (by decide) (fun K hK => ?_)
   refine goes_ Try.func23 (by kernel_rfl) rfl #[.int .i64 t535, .int .i64 t536] (by rfl) rfl rfl (z0) ?_
   with_reducible refine (spec_TableNew.calls k t535 t536 t543 t544 t545 _ A5.out).mono ?_
   rintro e w82 ⟨v546, rfl, ho0, hb⟩
   refine ⟨_, rfl, ?_⟩
   have HO547 := Ax (Kd.S_lower (Kd.S_new' ho0 (Kd.S_lt (z1))) (below_size (zHB)))
   replace HO541 := Ax (Kd.S_elder' (z1) (Kd.S_base ho0) hb)
   replace BK542 := Ax (blk_below (g := gb542) (zK) hb)
   replace HB := Ax (below_step (zHB) hb)
   (try clear hb); (try clear hk); (try clear ho0)
   obtain ⟨Ao83, co83, eo83⟩ := Kd.S_slice HO547.out
   (first | subst eo83 | (injection eo83 with f1_ f2_ f3_; have f4_ := f1_.symm; have f5_ := f3_.symm; clear f1_ f2_ f3_; subst f4_; subst f5_))
   refine hK.out _ _ ⟨(blk_cell BK542.out 0).trans rfl, (blk_cell BK542.out 1).trans rfl, (blk_cell BK542.out 2).trans rfl⟩ (fun hHeld => ?_)
   clear hK K
   refine norm_ (a' := ?_) ?_ ?_
   rotate_left
   · show Act.put _ (some 20) _ = _
     exact zAct
   refine one_ (i := 4) (N := some 21) (bl 6 31) rfl rfl (by kernel_rfl) (by decide) (fun K hK => ?_)
   refine goes_ Try.func22 (by kernel_rfl) rfl #[.agg #[.int .i64 t537, .int .i64 t538, .slice Ao79 t539.length co79], .agg #[.int .i64 t543, .int .i64 t544, .slice Ao83 t545.length co83]] (by rfl) rfl rfl (z0) ?_
   with_reducible refine (laws_lmTable.calls k t537 t538 _ _ t539 t543 t544 _ _ t545 true _ ?side1 ?side2 ?side3 ?side4 A6.out).mono ?_
   (case side1 => repeat (first | exact (Kd.S_reads' HO541.out).2.2 | (with_reducible refine Kd.C_alloc ?_ _) | (with_reducible refine Kd.C_drewN ?_ _) | (with_reducible refine Kd.C_drew ?_)))
   (case side2 => exact (Kd.S_reads' HO541.out).2.1)
   (case side3 => repeat (first | exact (Kd.S_reads' HO547.out).2.2 | (with_reducible refine Kd.C_alloc ?_ _) | (with_reducible refine Kd.C_drewN ?_ _) | (with_reducible refine Kd.C_drew ?_)))
   (case side4 => exact (Kd.S_reads' HO547.out).2.1)
   rintro e w84 ⟨rfl, hb⟩
   refine ⟨_, rfl, ?_⟩
   replace HO541 := Ax (Kd.S_below (z1) hb)
   replace HO547 := Ax (Kd.S_below (z2) hb)
   replace BK542 := Ax (blk_below (g := gb542) (zK) hb)
   replace HB := Ax (below_step (zHB) hb)
   (try clear hb); (try clear hk)
   refine hK.out _ _ ⟨(blk_cell BK542.out 0).trans rfl, (blk_cell BK542.out 1).trans rfl, (blk_cell BK542.out 2).trans rfl⟩ (fun hHeld => ?_)
   clear hK K
   refine norm_ (a' := ?_) ?_ ?_
   rotate_left
   · show Act.put _ (some 21) _ = _
     exact zAct
   refine pure_ (i := 5) (N := some 22) (v := ?_) (a' := ?_) (bl 6 63) rfl rfl (by kernel_rfl) (fun _ _ _ h => h) (Or.inl ⟨by rfl, ?_⟩) ?_ ?_
   rotate_left
   · exact zEv
   rotate_left
   · exact zAct
   refine done_ (by kernel_rfl) ?_
   try go_wp2_with (first | ((with_reducible refine gate_callee (f := 23) rfl ?_); refine goesL_ (some 25) rfl rfl Try.func23 (by kernel_rfl) rfl #[.int .i64 t535, .int .i64 t536] rfl (z0) ?_; (with_reducible refine (spec_TableNew.calls k t535 t536 t549 t550 t551 _ A8.out).mono ?_); rintro e w85 ⟨v552, rfl, ho0, hb⟩; refine ⟨_, rfl, ?_⟩; obtain ⟨Aq_, cq_, eq_⟩ := Kd.S_slice ho0; subst eq_; have HO553 := Ax (Kd.S_lower (Kd.S_new' (Kd.S_new' ho0 (Kd.S_lt (z1))) (Kd.S_lt (z2))) (below_size (zHB))); replace HO541 := Ax (Kd.S_elder' (z1) (Kd.S_base ho0) hb); replace HO547 := Ax (Kd.S_elder' (z2) (Kd.S_base ho0) hb); replace BK542 := Ax (blk_below (g := gb542) (zK) hb); replace HB := Ax (below_step (zHB) hb); (try clear hb); (try clear hb2); (try clear hk); (try clear hi); (try clear ho0); obtain ⟨_, _, _, _, _, _⟩ := cells3 BK542.out) | ((with_reducible refine gate_callee (f := 15) rfl ?_); refine goesL_ (some 38) rfl rfl Try.func15 (by kernel_rfl) rfl #[.agg #[.int .i64 t537, .int .i64 t538, .slice Ao79 t539.length co79]] rfl (z0) ?_; (with_reducible refine (impl_TableOk.calls k t537 t538 _ _ t539 true _ ?side1 ?side2 A35.out).mono ?_); (case side1 => repeat (first | exact (Kd.S_reads' HO541.out).2.2 | (with_reducible refine Kd.C_alloc ?_ _) | (with_reducible refine Kd.C_drewN ?_ _) | (with_reducible refine Kd.C_drew ?_))); (case side2 => exact (Kd.S_reads' HO541.out).2.1); rintro e w87 ⟨rfl, hb⟩; refine ⟨_, rfl, ?_⟩; replace HO541 := Ax (Kd.S_below (z1) hb); replace HO547 := Ax (Kd.S_below (z2) hb); replace HO553 := Ax (Kd.S_below (z3) hb); replace BK542 := Ax (blk_below (g := gb542) (zK) hb); replace HB := Ax (below_step (zHB) hb); (try clear hb); (try clear hb2); (try clear hk); (try clear hi); obtain ⟨_, _, _, _, _, _⟩ := cells3 BK542.out))
   go_ret
   exact ⟨z4, zHB⟩
 rw [if_pos c37] at H
 have c37b0 : ((t539.length : Int) == (wrap64 (t535 * t536))) = true := beq_iff_eq.mpr c37
 have c37b1 : ((t539.length : Int) != (wrap64 (t535 * t536))) = false := bne_eq_false_iff_eq.mpr c37
 clear c37
 by_cases c38 : t537 = t535
 rotate_left
 · rw [if_neg c38] at H
   have c38b0 : (t537 == t535) = false := beq_eq_false_iff_ne.mpr c38
   have c38b1 : (t537 != t535) = true := bne_iff_ne.mpr c38
   obtain rfl := Option.some.inj H
   go_enter Try.func5, Try.ntmps5
   try go_wp2_with (first | ((with_reducible refine gate_callee (f := 20) rfl ?_); refine goesL_ (some 11) rfl rfl Try.func20 (by kernel_rfl) rfl #[.slice A0 l0.length c0] rfl (z0) ?_; (with_reducible refine (spec_DrawTableNew.calls k _ _ l0 t535 t536 _ ?side1 ?side2 A3.out).mono ?_); (case side1 => repeat (first | exact HR0.out | (with_reducible refine Kd.C_alloc ?_ _) | (with_reducible refine Kd.C_drewN ?_ _) | (with_reducible refine Kd.C_drew ?_))); (case side2 => exact HC0.out); rintro e w61 ⟨rfl, hb⟩; refine ⟨_, rfl, ?_⟩; replace HB := Ax (below_step (zHB) hb); (try clear hb); (try clear hb2); (try clear hk); (try clear hi)) | ((with_reducible refine gate_callee (f := 21) rfl ?_); refine goesL_ (some 16) rfl rfl Try.func21 (by kernel_rfl) rfl #[.int .i64 t535, .int .i64 t536] rfl (z0) ?_; (with_reducible refine (impl_TableNew.calls k t535 t536 t537 t538 t539 _ A4.out).mono ?_); rintro e w62 ⟨v540, rfl, ho0, hb⟩; refine ⟨_, rfl, ?_⟩; have HO541 := Ax (Kd.S_lower ho0 (below_size (zHB))); replace HB := Ax (below_step (zHB) hb); (try clear hb); (try clear hb2); (try clear hk); (try clear hi); (try clear ho0)) | ((with_reducible refine gate_dst (N := 5) rfl ?_); (try (refine gate_guard (by rfl) ?_; dsimp only)); refine box_event ?hg (N := 5) ?hd (cs := #[.int .i64 0, .int .i64 0, .slice none 0 0]) (t := 25) ?hr ?_; (case hd => rfl); (case hg => rfl); (case hr => first | (go_simp; done) | (go_simp; rfl)); intro gb542 hg w63 hbox hb; replace HO541 := Ax (Kd.S_below (z1) hb); have BK542 := Ax (hbox); have GW542 := Ax ((z5 : w.heap.size ≤ gb542)); have GE542 := Ax ((z5 : w.heap.size ≤ gb542)); replace HB := Ax (below_step (zHB) hb); clear hb hbox hg; obtain ⟨_, _, _, _, _, _⟩ := cells3 BK542.out; obtain ⟨Ao65, co65, eo65⟩ := Kd.S_slice HO541.out; subst eo65))
   have n0_ : Aside0 (Kd.S k30 30 (((w63.setCell ⟨gb542, 0, none⟩ (.int .i64 t537)).setCell ⟨gb542, 1, none⟩ (.int .i64 t538)).setCell ⟨gb542, 2, none⟩ (.slice Ao65 t539.length co65)) w.heap.size (fun _ => True) (.slice Ao65 t539.length co65) t539) := ⟨by (with_reducible repeat (first | apply Kd.S_alloc | apply Kd.S_drewN | apply Kd.S_drew)); exact Kd.S_mono (Kd.S_far (p := ⟨gb542, 2, none⟩) (Kd.S_far (p := ⟨gb542, 1, none⟩) (Kd.S_far (p := ⟨gb542, 0, none⟩) (Kd.S_types HO541.out BK542.out (by decide)) (fun _ hk => hk.2) (.int .i64 t537)) (fun _ hk => hk.2) (.int .i64 t538)) (fun _ hk => hk.2) (.slice Ao65 t539.length co65)) (fun _ hk => trivial)⟩
   have n1_ : Aside0 ((((w63.setCell ⟨gb542, 0, none⟩ (.int .i64 t537)).setCell ⟨gb542, 1, none⟩ (.int .i64 t538)).setCell ⟨gb542, 2, none⟩ (.slice Ao65 t539.length co65)).heap[gb542]? = some (.cells #[.int .i64 t537, .int .i64 t538, .slice Ao65 t539.length co65] 25 (0, 0))) := ⟨zK⟩
   have n2_ : Aside0 (Below w.heap.size w (((w63.setCell ⟨gb542, 0, none⟩ (.int .i64 t537)).setCell ⟨gb542, 1, none⟩ (.int .i64 t538)).setCell ⟨gb542, 2, none⟩ (.slice Ao65 t539.length co65))) := ⟨zHB⟩
   (try clear HO541); (try clear BK542); (try clear HB)
   generalize (((w63.setCell ⟨gb542, 0, none⟩ (.int .i64 t537)).setCell ⟨gb542, 1, none⟩ (.int .i64 t538)).setCell ⟨gb542, 2, none⟩ (.slice Ao65 t539.length co65)) = w66 at n0_ n1_ n2_ ⊢
   have HO541 := n0_
   have BK542 := n1_
   have HB := n2_
   clear n0_ n1_ n2_
   replace HO541 := Ax (Kd.S_drew HO541.out)
   replace BK542 := Ax (blk_drew BK542.out)
   replace HB := Ax (below_drew1 HB.out)
   refine start_ (n := 6) (S := fun w' => w'.cell? ⟨gb542, 0, none⟩ = some (.int .i64 t537) ∧ w'.cell? ⟨gb542, 1, none⟩ = some (.int .i64 t538) ∧ w'.cell? ⟨gb542, 2, none⟩ = some (.slice Ao65 t539.length co65)) (ds := []) #[false, false, false, false, false, false] (by kernel_rfl) rfl rfl ⟨(blk_cell BK542.out 0).trans rfl, (blk_cell BK542.out 1).trans rfl, (blk_cell BK542.out 2).trans rfl⟩ (fun hHeld => ?_)
   generalize w66.drew = w67 at HO541 BK542 HB hHeld ⊢
   refine pure_ (i := 1) (N := some 18) (v := ?_) (a' := ?_) (bl 6 2) rfl rfl (by kernel_rfl) (fun _ _ _ h => h) (Or.inl ⟨by rfl, ?_⟩) ?_ ?_
   rotate_left
   · exact zEv
   rotate_left
   · exact zAct
   refine pure_ (i := 2) (N := some 19) (v := ?_) (a' := ?_) (bl 6 6) rfl rfl (by kernel_rfl) (fun _ _ _ h => h) (Or.inl ⟨by rfl, ?_⟩) ?_ ?_
   rotate_left
   · exact zEv
   rotate_left
   · exact zAct
   refine take_ (i := 0) (N := some 17) (v := ?_) (a' := ?_) (bl 6 7) rfl rfl (by kernel_rfl) (fun _ _ _ h => h) (Or.inl ⟨by rfl, ?_⟩) hHeld ?_ ?_
   rotate_left
   · rintro w' ⟨s0, s1, s2⟩
     go_simp
     with_reducible rfl
   rotate_left
   · exact zAct
   refine one_ (i := 3) (N := some 20) (bl 6 15) rfl rfl (by kernel_rfl) (by decide) (fun K hK => ?_)
   refine goes_ Try.func23 (by kernel_rfl) rfl #[.int .i64 t535, .int .i64 t536] (by rfl) rfl rfl (z0) ?_
   with_reducible refine (spec_TableNew.calls k t535 t536 t543 t544 t545 _ A5.out).mono ?_
   rintro e w68 ⟨v546, rfl, ho0, hb⟩
   refine ⟨_, rfl, ?_⟩
   have HO547 := Ax (Kd.S_lower (Kd.S_new' ho0 (Kd.S_lt (z1))) (below_size (zHB)))
   replace HO541 := Ax (Kd.S_elder' (z1) (Kd.S_base ho0) hb)
   replace BK542 := Ax (blk_below (g := gb542) (zK) hb)
   replace HB := Ax (below_step (zHB) hb)
   (try clear hb); (try clear hk); (try clear ho0)
   obtain ⟨Ao69, co69, eo69⟩ := Kd.S_slice HO547.out
   (first | subst eo69 | (injection eo69 with f1_ f2_ f3_; have f4_ := f1_.symm; have f5_ := f3_.symm; clear f1_ f2_ f3_; subst f4_; subst f5_))
   refine hK.out _ _ ⟨(blk_cell BK542.out 0).trans rfl, (blk_cell BK542.out 1).trans rfl, (blk_cell BK542.out 2).trans rfl⟩ (fun hHeld => ?_)
   clear hK K
   refine norm_ (a' := ?_) ?_ ?_
   rotate_left
   · show Act.put _ (some 20) _ = _
     exact zAct
   refine one_ (i := 4) (N := some 21) (bl 6 31) rfl rfl (by kernel_rfl) (by decide) (fun K hK => ?_)
   refine goes_ Try.func22 (by kernel_rfl) rfl #[.agg #[.int .i64 t537, .int .i64 t538, .slice Ao65 t539.length co65], .agg #[.int .i64 t543, .int .i64 t544, .slice Ao69 t545.length co69]] (by rfl) rfl rfl (z0) ?_
   with_reducible refine (laws_lmTable.calls k t537 t538 _ _ t539 t543 t544 _ _ t545 true _ ?side1 ?side2 ?side3 ?side4 A6.out).mono ?_
   (case side1 => repeat (first | exact (Kd.S_reads' HO541.out).2.2 | (with_reducible refine Kd.C_alloc ?_ _) | (with_reducible refine Kd.C_drewN ?_ _) | (with_reducible refine Kd.C_drew ?_)))
   (case side2 => exact (Kd.S_reads' HO541.out).2.1)
   (case side3 => repeat (first | exact (Kd.S_reads' HO547.out).2.2 | (with_reducible refine Kd.C_alloc ?_ _) | (with_reducible refine Kd.C_drewN ?_ _) | (with_reducible refine Kd.C_drew ?_)))
   (case side4 => exact (Kd.S_reads' HO547.out).2.1)
   rintro e w70 ⟨rfl, hb⟩
   refine ⟨_, rfl, ?_⟩
   replace HO541 := Ax (Kd.S_below (z1) hb)
   replace HO547 := Ax (Kd.S_below (z2) hb)
   replace BK542 := Ax (blk_below (g := gb542) (zK) hb)
   replace HB := Ax (below_step (zHB) hb)
   (try clear hb); (try clear hk)
   refine hK.out _ _ ⟨(blk_cell BK542.out 0).trans rfl, (blk_cell BK542.out 1).trans rfl, (blk_cell BK542.out 2).trans rfl⟩ (fun hHeld => ?_)
   clear hK K
   refine norm_ (a' := ?_) ?_ ?_
   rotate_left
   · show Act.put _ (some 21) _ = _
     exact zAct
   refine pure_ (i := 5) (N := some 22) (v := ?_) (a' := ?_) (bl 6 63) rfl rfl (by kernel_rfl) (fun _ _ _ h => h) (Or.inl ⟨by rfl, ?_⟩) ?_ ?_
   rotate_left
   · exact zEv
   rotate_left
   · exact zAct
   refine done_ (by kernel_rfl) ?_
   try go_wp2_with (first | ((with_reducible refine gate_callee (f := 23) rfl ?_); refine goesL_ (some 25) rfl rfl Try.func23 (by kernel_rfl) rfl #[.int .i64 t535, .int .i64 t536] rfl (z0) ?_; (with_reducible refine (spec_TableNew.calls k t535 t536 t549 t550 t551 _ A8.out).mono ?_); rintro e w71 ⟨v552, rfl, ho0, hb⟩; refine ⟨_, rfl, ?_⟩; obtain ⟨Aq_, cq_, eq_⟩ := Kd.S_slice ho0; subst eq_; have HO553 := Ax (Kd.S_lower (Kd.S_new' (Kd.S_new' ho0 (Kd.S_lt (z1))) (Kd.S_lt (z2))) (below_size (zHB))); replace HO541 := Ax (Kd.S_elder' (z1) (Kd.S_base ho0) hb); replace HO547 := Ax (Kd.S_elder' (z2) (Kd.S_base ho0) hb); replace BK542 := Ax (blk_below (g := gb542) (zK) hb); replace HB := Ax (below_step (zHB) hb); (try clear hb); (try clear hb2); (try clear hk); (try clear hi); (try clear ho0); obtain ⟨_, _, _, _, _, _⟩ := cells3 BK542.out) | ((with_reducible refine gate_callee (f := 15) rfl ?_); refine goesL_ (some 38) rfl rfl Try.func15 (by kernel_rfl) rfl #[.agg #[.int .i64 t537, .int .i64 t538, .slice Ao65 t539.length co65]] rfl (z0) ?_; (with_reducible refine (impl_TableOk.calls k t537 t538 _ _ t539 true _ ?side1 ?side2 A35.out).mono ?_); (case side1 => repeat (first | exact (Kd.S_reads' HO541.out).2.2 | (with_reducible refine Kd.C_alloc ?_ _) | (with_reducible refine Kd.C_drewN ?_ _) | (with_reducible refine Kd.C_drew ?_))); (case side2 => exact (Kd.S_reads' HO541.out).2.1); rintro e w73 ⟨rfl, hb⟩; refine ⟨_, rfl, ?_⟩; replace HO541 := Ax (Kd.S_below (z1) hb); replace HO547 := Ax (Kd.S_below (z2) hb); replace HO553 := Ax (Kd.S_below (z3) hb); replace BK542 := Ax (blk_below (g := gb542) (zK) hb); replace HB := Ax (below_step (zHB) hb); (try clear hb); (try clear hb2); (try clear hk); (try clear hi); obtain ⟨_, _, _, _, _, _⟩ := cells3 BK542.out))
   go_ret
   exact ⟨z4, zHB⟩
 rw [if_pos c38] at H
 have c38b0 : (t537 == t535) = true := beq_iff_eq.mpr c38
 have c38b1 : (t537 != t535) = false := bne_eq_false_iff_eq.mpr c38
 clear c38
 obtain ⟨⟨t555, t556, t557⟩, A39, H⟩ := bnd H
 dsimp only at H
 obtain ⟨⟨t560, t561, t562⟩, A40, H⟩ := bnd H
 dsimp only at H
 obtain ⟨t565, A41, H⟩ := bnd H
 obtain rfl := Option.some.inj H
 go_enter Try.func5, Try.ntmps5
 try go_wp2_with (first | ((with_reducible refine gate_callee (f := 20) rfl ?_); refine goesL_ (some 11) rfl rfl Try.func20 (by kernel_rfl) rfl #[.slice A0 l0.length c0] rfl (z0) ?_; (with_reducible refine (spec_DrawTableNew.calls k _ _ l0 t535 t536 _ ?side1 ?side2 A3.out).mono ?_); (case side1 => repeat (first | exact HR0.out | (with_reducible refine Kd.C_alloc ?_ _) | (with_reducible refine Kd.C_drewN ?_ _) | (with_reducible refine Kd.C_drew ?_))); (case side2 => exact HC0.out); rintro e w42 ⟨rfl, hb⟩; refine ⟨_, rfl, ?_⟩; replace HB := Ax (below_step (zHB) hb); (try clear hb); (try clear hb2); (try clear hk); (try clear hi)) | ((with_reducible refine gate_callee (f := 21) rfl ?_); refine goesL_ (some 16) rfl rfl Try.func21 (by kernel_rfl) rfl #[.int .i64 t535, .int .i64 t536] rfl (z0) ?_; (with_reducible refine (impl_TableNew.calls k t535 t536 t537 t538 t539 _ A4.out).mono ?_); rintro e w43 ⟨v540, rfl, ho0, hb⟩; refine ⟨_, rfl, ?_⟩; have HO541 := Ax (Kd.S_lower ho0 (below_size (zHB))); replace HB := Ax (below_step (zHB) hb); (try clear hb); (try clear hb2); (try clear hk); (try clear hi); (try clear ho0)) | ((with_reducible refine gate_dst (N := 5) rfl ?_); (try (refine gate_guard (by rfl) ?_; dsimp only)); refine box_event ?hg (N := 5) ?hd (cs := #[.int .i64 0, .int .i64 0, .slice none 0 0]) (t := 25) ?hr ?_; (case hd => rfl); (case hg => rfl); (case hr => first | (go_simp; done) | (go_simp; rfl)); intro gb542 hg w44 hbox hb; replace HO541 := Ax (Kd.S_below (z1) hb); have BK542 := Ax (hbox); have GW542 := Ax ((z5 : w.heap.size ≤ gb542)); have GE542 := Ax ((z5 : w.heap.size ≤ gb542)); replace HB := Ax (below_step (zHB) hb); clear hb hbox hg; obtain ⟨_, _, _, _, _, _⟩ := cells3 BK542.out; obtain ⟨Ao46, co46, eo46⟩ := Kd.S_slice HO541.out; subst eo46))
 have n0_ : Aside0 (Kd.S k30 30 (((w44.setCell ⟨gb542, 0, none⟩ (.int .i64 t537)).setCell ⟨gb542, 1, none⟩ (.int .i64 t538)).setCell ⟨gb542, 2, none⟩ (.slice Ao46 t539.length co46)) w.heap.size (fun _ => True) (.slice Ao46 t539.length co46) t539) := ⟨by (with_reducible repeat (first | apply Kd.S_alloc | apply Kd.S_drewN | apply Kd.S_drew)); exact Kd.S_mono (Kd.S_far (p := ⟨gb542, 2, none⟩) (Kd.S_far (p := ⟨gb542, 1, none⟩) (Kd.S_far (p := ⟨gb542, 0, none⟩) (Kd.S_types HO541.out BK542.out (by decide)) (fun _ hk => hk.2) (.int .i64 t537)) (fun _ hk => hk.2) (.int .i64 t538)) (fun _ hk => hk.2) (.slice Ao46 t539.length co46)) (fun _ hk => trivial)⟩
 have n1_ : Aside0 ((((w44.setCell ⟨gb542, 0, none⟩ (.int .i64 t537)).setCell ⟨gb542, 1, none⟩ (.int .i64 t538)).setCell ⟨gb542, 2, none⟩ (.slice Ao46 t539.length co46)).heap[gb542]? = some (.cells #[.int .i64 t537, .int .i64 t538, .slice Ao46 t539.length co46] 25 (0, 0))) := ⟨zK⟩
 have n2_ : Aside0 (Below w.heap.size w (((w44.setCell ⟨gb542, 0, none⟩ (.int .i64 t537)).setCell ⟨gb542, 1, none⟩ (.int .i64 t538)).setCell ⟨gb542, 2, none⟩ (.slice Ao46 t539.length co46))) := ⟨zHB⟩
 (try clear HO541); (try clear BK542); (try clear HB)
 generalize (((w44.setCell ⟨gb542, 0, none⟩ (.int .i64 t537)).setCell ⟨gb542, 1, none⟩ (.int .i64 t538)).setCell ⟨gb542, 2, none⟩ (.slice Ao46 t539.length co46)) = w47 at n0_ n1_ n2_ ⊢
 have HO541 := n0_
 have BK542 := n1_
 have HB := n2_
 clear n0_ n1_ n2_
 replace HO541 := Ax (Kd.S_drew HO541.out)
 replace BK542 := Ax (blk_drew BK542.out)
 replace HB := Ax (below_drew1 HB.out)
 refine start_ (n := 6) (S := fun w' => w'.cell? ⟨gb542, 0, none⟩ = some (.int .i64 t537) ∧ w'.cell? ⟨gb542, 1, none⟩ = some (.int .i64 t538) ∧ w'.cell? ⟨gb542, 2, none⟩ = some (.slice Ao46 t539.length co46)) (ds := []) #[false, false, false, false, false, false] (by kernel_rfl) rfl rfl ⟨(blk_cell BK542.out 0).trans rfl, (blk_cell BK542.out 1).trans rfl, (blk_cell BK542.out 2).trans rfl⟩ (fun hHeld => ?_)
 generalize w47.drew = w48 at HO541 BK542 HB hHeld ⊢
 refine pure_ (i := 1) (N := some 18) (v := ?_) (a' := ?_) (bl 6 2) rfl rfl (by kernel_rfl) (fun _ _ _ h => h) (Or.inl ⟨by rfl, ?_⟩) ?_ ?_
 rotate_left
 · exact zEv
 rotate_left
 · exact zAct
 refine pure_ (i := 2) (N := some 19) (v := ?_) (a' := ?_) (bl 6 6) rfl rfl (by kernel_rfl) (fun _ _ _ h => h) (Or.inl ⟨by rfl, ?_⟩) ?_ ?_
 rotate_left
 · exact zEv
 rotate_left
 · exact zAct
 refine take_ (i := 0) (N := some 17) (v := ?_) (a' := ?_) (bl 6 7) rfl rfl (by kernel_rfl) (fun _ _ _ h => h) (Or.inl ⟨by rfl, ?_⟩) hHeld ?_ ?_
 rotate_left
 · rintro w' ⟨s0, s1, s2⟩
   go_simp
   with_reducible rfl
 rotate_left
 · exact zAct
 refine one_ (i := 3) (N := some 20) (bl 6 15) rfl rfl (by kernel_rfl) (by decide) (fun K hK => ?_)
 refine goes_ Try.func23 (by kernel_rfl) rfl #[.int .i64 t535, .int .i64 t536] (by rfl) rfl rfl (z0) ?_
 with_reducible refine (spec_TableNew.calls k t535 t536 t543 t544 t545 _ A5.out).mono ?_
 rintro e w49 ⟨v546, rfl, ho0, hb⟩
 refine ⟨_, rfl, ?_⟩
 have HO547 := Ax (Kd.S_lower (Kd.S_new' ho0 (Kd.S_lt (z1))) (below_size (zHB)))
 replace HO541 := Ax (Kd.S_elder' (z1) (Kd.S_base ho0) hb)
 replace BK542 := Ax (blk_below (g := gb542) (zK) hb)
 replace HB := Ax (below_step (zHB) hb)
 (try clear hb); (try clear hk); (try clear ho0)
 obtain ⟨Ao50, co50, eo50⟩ := Kd.S_slice HO547.out
 (first | subst eo50 | (injection eo50 with f1_ f2_ f3_; have f4_ := f1_.symm; have f5_ := f3_.symm; clear f1_ f2_ f3_; subst f4_; subst f5_))
 refine hK.out _ _ ⟨(blk_cell BK542.out 0).trans rfl, (blk_cell BK542.out 1).trans rfl, (blk_cell BK542.out 2).trans rfl⟩ (fun hHeld => ?_)
 clear hK K
 refine norm_ (a' := ?_) ?_ ?_
 rotate_left
 · show Act.put _ (some 20) _ = _
   exact zAct
 refine one_ (i := 4) (N := some 21) (bl 6 31) rfl rfl (by kernel_rfl) (by decide) (fun K hK => ?_)
 refine goes_ Try.func22 (by kernel_rfl) rfl #[.agg #[.int .i64 t537, .int .i64 t538, .slice Ao46 t539.length co46], .agg #[.int .i64 t543, .int .i64 t544, .slice Ao50 t545.length co50]] (by rfl) rfl rfl (z0) ?_
 with_reducible refine (laws_lmTable.calls k t537 t538 _ _ t539 t543 t544 _ _ t545 true _ ?side1 ?side2 ?side3 ?side4 A6.out).mono ?_
 (case side1 => repeat (first | exact (Kd.S_reads' HO541.out).2.2 | (with_reducible refine Kd.C_alloc ?_ _) | (with_reducible refine Kd.C_drewN ?_ _) | (with_reducible refine Kd.C_drew ?_)))
 (case side2 => exact (Kd.S_reads' HO541.out).2.1)
 (case side3 => repeat (first | exact (Kd.S_reads' HO547.out).2.2 | (with_reducible refine Kd.C_alloc ?_ _) | (with_reducible refine Kd.C_drewN ?_ _) | (with_reducible refine Kd.C_drew ?_)))
 (case side4 => exact (Kd.S_reads' HO547.out).2.1)
 rintro e w51 ⟨rfl, hb⟩
 refine ⟨_, rfl, ?_⟩
 replace HO541 := Ax (Kd.S_below (z1) hb)
 replace HO547 := Ax (Kd.S_below (z2) hb)
 replace BK542 := Ax (blk_below (g := gb542) (zK) hb)
 replace HB := Ax (below_step (zHB) hb)
 (try clear hb); (try clear hk)
 refine hK.out _ _ ⟨(blk_cell BK542.out 0).trans rfl, (blk_cell BK542.out 1).trans rfl, (blk_cell BK542.out 2).trans rfl⟩ (fun hHeld => ?_)
 clear hK K
 refine norm_ (a' := ?_) ?_ ?_
 rotate_left
 · show Act.put _ (some 21) _ = _
   exact zAct
 refine pure_ (i := 5) (N := some 22) (v := ?_) (a' := ?_) (bl 6 63) rfl rfl (by kernel_rfl) (fun _ _ _ h => h) (Or.inl ⟨by rfl, ?_⟩) ?_ ?_
 rotate_left
 · exact zEv
 rotate_left
 · exact zAct
 refine done_ (by kernel_rfl) ?_
 try go_wp2_with (first | ((with_reducible refine gate_callee (f := 23) rfl ?_); refine goesL_ (some 25) rfl rfl Try.func23 (by kernel_rfl) rfl #[.int .i64 t535, .int .i64 t536] rfl (z0) ?_; (with_reducible refine (spec_TableNew.calls k t535 t536 t549 t550 t551 _ A8.out).mono ?_); rintro e w52 ⟨v552, rfl, ho0, hb⟩; refine ⟨_, rfl, ?_⟩; obtain ⟨Aq_, cq_, eq_⟩ := Kd.S_slice ho0; subst eq_; have HO553 := Ax (Kd.S_lower (Kd.S_new' (Kd.S_new' ho0 (Kd.S_lt (z1))) (Kd.S_lt (z2))) (below_size (zHB))); replace HO541 := Ax (Kd.S_elder' (z1) (Kd.S_base ho0) hb); replace HO547 := Ax (Kd.S_elder' (z2) (Kd.S_base ho0) hb); replace BK542 := Ax (blk_below (g := gb542) (zK) hb); replace HB := Ax (below_step (zHB) hb); (try clear hb); (try clear hb2); (try clear hk); (try clear hi); (try clear ho0); obtain ⟨_, _, _, _, _, _⟩ := cells3 BK542.out) | ((with_reducible refine gate_callee (f := 15) rfl ?_); refine goesL_ (some 38) rfl rfl Try.func15 (by kernel_rfl) rfl #[.agg #[.int .i64 t537, .int .i64 t538, .slice Ao46 t539.length co46]] rfl (z0) ?_; (with_reducible refine (impl_TableOk.calls k t537 t538 _ _ t539 true _ ?side1 ?side2 A35.out).mono ?_); (case side1 => repeat (first | exact (Kd.S_reads' HO541.out).2.2 | (with_reducible refine Kd.C_alloc ?_ _) | (with_reducible refine Kd.C_drewN ?_ _) | (with_reducible refine Kd.C_drew ?_))); (case side2 => exact (Kd.S_reads' HO541.out).2.1); rintro e w54 ⟨rfl, hb⟩; refine ⟨_, rfl, ?_⟩; replace HO541 := Ax (Kd.S_below (z1) hb); replace HO547 := Ax (Kd.S_below (z2) hb); replace HO553 := Ax (Kd.S_below (z3) hb); replace BK542 := Ax (blk_below (g := gb542) (zK) hb); replace HB := Ax (below_step (zHB) hb); (try clear hb); (try clear hb2); (try clear hk); (try clear hi); obtain ⟨_, _, _, _, _, _⟩ := cells3 BK542.out) | (go_at_call 24; (with_reducible refine (impl_TableTurn.calls k t537 t538 _ _ t539 t555 t556 t557 _ ?side1 ?side2 A39.out).mono ?_); (case side1 => repeat (first | exact (Kd.S_reads' HO541.out).2.2 | (with_reducible refine Kd.C_alloc ?_ _) | (with_reducible refine Kd.C_drewN ?_ _) | (with_reducible refine Kd.C_drew ?_))); (case side2 => exact (Kd.S_reads' HO541.out).2.1); rintro e w56 ⟨v558, rfl, ho0, hb⟩; have HO559 := Ax (Kd.S_lower (Kd.S_new' (Kd.S_new' (Kd.S_new' ho0 (Kd.S_lt (z1))) (Kd.S_lt (z2))) (Kd.S_lt (z3))) (below_size (zHB))); replace HO541 := Ax (Kd.S_elder' (z1) (Kd.S_base ho0) hb); replace HO547 := Ax (Kd.S_elder' (z2) (Kd.S_base ho0) hb); replace HO553 := Ax (Kd.S_elder' (z3) (Kd.S_base ho0) hb); replace BK542 := Ax (blk_below (g := gb542) (zK) hb); replace HB := Ax (below_step (zHB) hb); (try clear hb); (try clear hb2); (try clear hk); (try clear hi); (try clear ho0)) | (go_at_call 21; (with_reducible refine (impl_TableNew.calls k t536 t535 t560 t561 t562 _ A40.out).mono ?_); rintro e w57 ⟨v563, rfl, ho0, hb⟩; have HO564 := Ax (Kd.S_lower (Kd.S_new' (Kd.S_new' (Kd.S_new' (Kd.S_new' ho0 (Kd.S_lt (z1))) (Kd.S_lt (z2))) (Kd.S_lt (z3))) (Kd.S_lt (z6))) (below_size (zHB))); replace HO541 := Ax (Kd.S_elder' (z1) (Kd.S_base ho0) hb); replace HO547 := Ax (Kd.S_elder' (z2) (Kd.S_base ho0) hb); replace HO553 := Ax (Kd.S_elder' (z3) (Kd.S_base ho0) hb); replace HO559 := Ax (Kd.S_elder' (z6) (Kd.S_base ho0) hb); replace BK542 := Ax (blk_below (g := gb542) (zK) hb); replace HB := Ax (below_step (zHB) hb); (try clear hb); (try clear hb2); (try clear hk); (try clear hi); (try clear ho0); obtain ⟨Ao58, co58, eo58⟩ := Kd.S_slice HO559.out; subst eo58; obtain ⟨Ao59, co59, eo59⟩ := Kd.S_slice HO564.out; subst eo59) | (go_at_call 22; (with_reducible refine (laws_lmTable.calls k t555 t556 _ _ t557 t560 t561 _ _ t562 t565 _ ?side1 ?side2 ?side3 ?side4 A41.out).mono ?_); (case side1 => repeat (first | exact (Kd.S_reads' HO559.out).2.2 | (with_reducible refine Kd.C_alloc ?_ _) | (with_reducible refine Kd.C_drewN ?_ _) | (with_reducible refine Kd.C_drew ?_))); (case side2 => exact (Kd.S_reads' HO559.out).2.1); (case side3 => repeat (first | exact (Kd.S_reads' HO564.out).2.2 | (with_reducible refine Kd.C_alloc ?_ _) | (with_reducible refine Kd.C_drewN ?_ _) | (with_reducible refine Kd.C_drew ?_))); (case side4 => exact (Kd.S_reads' HO564.out).2.1); rintro e w60 ⟨rfl, hb⟩; replace HO541 := Ax (Kd.S_below (z1) hb); replace HO547 := Ax (Kd.S_below (z2) hb); replace HO553 := Ax (Kd.S_below (z3) hb); replace HO559 := Ax (Kd.S_below (z6) hb); replace HO564 := Ax (Kd.S_below (by (with_reducible repeat (first | apply Kd.S_alloc | apply Kd.S_drewN | apply Kd.S_drew)); exact HO564.out) hb); replace BK542 := Ax (blk_below (g := gb542) (zK) hb); replace HB := Ax (below_step (zHB) hb); (try clear hb); (try clear hb2); (try clear hk); (try clear hi)))
 go_ret
 exact ⟨z4, zHB⟩
/-- THE ONE PURE STATEMENT of laws_FnTableNew: yours. -/
def laws_FnTableNew.Pure : Prop := ∀ (l0 : List Int), l0.length ≤ maxLen → l0.length * 1 ≤ 140737488351232 → (∀ x ∈ l0, (Lit.int .u8 x).wf = true) → ∃ k, laws_FnTableNew.f k l0 = some true
theorem laws_FnTableNew.walk (P : laws_FnTableNew.Pure) (a0 : Option Addr) (len0 cap0 : Nat) (z0 : List Int) (w : World) (w0 : (a0 = none ∧ len0 = 0 ∧ cap0 = 0 ∧ z0 = []) ∨ ∃ x, a0 = some x ∧ len0 ≤ cap0 ∧ cap0 ≤ maxLen ∧ z0.length = cap0 ∧ (∀ i, i < z0.length → w.cell? (x.add i) = some (.int .u8 (z0.getD i 0))) ∧ ∀ n ∈ z0, (Lit.int .u8 n).wf = true) (y0 : len0 * 1 ≤ 140737488351232) :
    Calls Try.prog 5 #[.slice a0 len0 cap0] w fun e w' => e = .returned (.bool true) ∧ Below w.heap.size w w' := by
  obtain ⟨l0, rfl, hr0, hm0, hw0, hc0⟩ := ReadsInt.ofRowC w0
  obtain ⟨k, h⟩ := P l0 hm0 y0 hw0
  refine (laws_FnTableNew.calls k _ _ l0 true w (Kd.C_of_reads (d := (0 : Int)) (h1 := fun _ => rfl) hr0) hc0 h).mono ?_
  rintro e w' ⟨rfl, hd⟩
  exact ⟨rfl, hd⟩

end Go.Proofs.Ytljgbeccmcidkaa.P
