/- What the Go functions below compute, and that a call comes to it. Conditions: the arguments read as told, the plain function answers. -/
import Derived.Test.YtljgbeccmcidkaaXA
import Derived.Test.YtljgbeccmcidkaaXC
import Derived.Test.YtljgbeccmcidkaaXB
import Derived.Test.YtljgbeccmcidkaaXO
namespace Go.Proofs.Ytljgbeccmcidkaa.P
open Go.RowKit Go.Proofs.YtljgbeccmcidkaaW.PrintWords Go.Proofs.YtljgbeccmcidkaaW.PrintLast Go.Proofs.YtljgbeccmcidkaaW.PrintMore
attribute [local go_sem] max2_int min2_int max_two min_two max_three min_three max_four min_four

attribute [local go_sem ↓] isSome_setCell
mutual
def laws_FnTableAt.j0 : Nat → Int → Int → Int → Bool → Int → Int → List (S30) → Option (Bool)
  | 0, _, _, _, _, _, _, _ => none
  | k + 1, x4, x5, x6, x31, x467000, x467001, x467002 => if x31 = true then ((spec_TableAt.f k x467000 x467001 x467002 x4 x5).bind fun t470 => (some (x6 == t470))) else (if x4 < 0 then (laws_FnTableAt.j1 k x4 x5 x6 true x467000 x467001 x467002) else (if x5 < 0 then (laws_FnTableAt.j1 k x4 x5 x6 true x467000 x467001 x467002) else (if x4 ≥ x467000 then (laws_FnTableAt.j1 k x4 x5 x6 true x467000 x467001 x467002) else (laws_FnTableAt.j1 k x4 x5 x6 (decide (x5 ≥ x467001)) x467000 x467001 x467002))))
def laws_FnTableAt.j1 : Nat → Int → Int → Int → Bool → Int → Int → List (S30) → Option (Bool)
  | 0, _, _, _, _, _, _, _ => none
  | k + 1, x4, x5, x6, x55, x467000, x467001, x467002 => if x55 = true then (some (x6 == (-1))) else (if 0 ≤ x6 then (if x6 < (x467002.length : Int) then (if x4 ≥ ((rd_T30 x467002 x6).f0) then (if x4 < (wrap64 (((rd_T30 x467002 x6).f0) + ((rd_T30 x467002 x6).f2))) then (if x5 ≥ ((rd_T30 x467002 x6).f1) then (some (decide (x5 < (wrap64 (((rd_T30 x467002 x6).f1) + ((rd_T30 x467002 x6).f3)))))) else (some false)) else (some false)) else (some false)) else (none)) else (none))
end
def laws_FnTableAt.f (k : Nat) (l0 : List Int) : Option (Bool) := if (l0.length : Int) > 1048576 then (some true) else ((spec_DrawTableAt.f k l0).bind fun bt459 => ((impl_TableAt.f k bt459.1 bt459.2.1 bt459.2.2.1 bt459.2.2.2.1 bt459.2.2.2.2).bind fun t467 => ((spec_TableAt.f k bt459.1 bt459.2.1 bt459.2.2.1 bt459.2.2.2.1 bt459.2.2.2.2).bind fun t468 => (if t467 = t468 then ((spec_TableOk.f k bt459.1 bt459.2.1 bt459.2.2.1).bind fun t469 => (laws_FnTableAt.j0 k bt459.2.2.2.1 bt459.2.2.2.2 t467 (!t469) bt459.1 bt459.2.1 bt459.2.2.1)) else (laws_FnTableAt.j0 k bt459.2.2.2.1 bt459.2.2.2.2 t467 true bt459.1 bt459.2.1 bt459.2.2.1)))))
theorem laws_FnTableAt.zHB {p : Prop} (h : p := by repeat (first | (with_reducible first | exact HB.out | apply below_alloc | apply pw_below_drewN | apply below_drew1 | refine below_set ?_ GE466.out | refine below_set ?_ GE472.out) | exact HB.out)) : p := h
theorem laws_FnTableAt.zK {p : Prop} (h : p := by repeat' first | (with_reducible first | exact BK466.out | apply blk_drewN | apply blk_drew | apply blk_alloc | apply blk_putE) | exact (rfl : List.set _ _ _ = _)) : p := h
theorem laws_FnTableAt.z0 {p : Prop} (h : p := by (with_reducible repeat (first | apply Kd.N_alloc | apply Kd.N_drewN | apply Kd.N_drew)); exact HO_467002.out) : p := h
theorem laws_FnTableAt.z1 {p : Prop} (h : p := by repeat (first | (with_reducible exact HR471_4.out) | (with_reducible refine Kd.C_alloc ?_ _) | (with_reducible refine Kd.C_drewN ?_ _) | (with_reducible refine Kd.C_drew ?_) | exact HR471_4.out)) : p := h
theorem laws_FnTableAt.z2 {p : Prop} (h : p := by first | rfl | (simp [errW_none, errW_some] <;> rfl) | (simp [*, errW_none, errW_some] <;> rfl)) : p := h
theorem laws_FnTableAt.z3 {p : Prop} (h : p := by (try simp only [List.map_toArray, List.map_cons, List.map_nil]); first | done | rfl | (simp only [List.length_drop, List.length_take]; rfl)) : p := h
theorem laws_FnTableAt.z4 {p : Prop} (h : p := by first | (with_reducible assumption) | assumption) : p := h
theorem laws_FnTableAt.z5 {p : Prop} (h : p := by (with_reducible repeat (first | apply Kd.N_alloc | apply Kd.N_drewN | apply Kd.N_drew)); exact (Kd.N_mono (Kd.N_far (p := ⟨gb466, 2, none⟩) (Kd.N_far (p := ⟨gb466, 1, none⟩) (Kd.N_far (p := ⟨gb466, 0, none⟩) (Kd.N_mono HO463.out (fun k_ hk => (⟨hk, hk.2⟩ : _ ∧ k_ ≠ gb466))) (fun _ hk => hk.2) (.int .i64 t459)) (fun _ hk => hk.2) (.int .i64 t460)) (fun _ hk => hk.2) (.slice Ao9 t461.length co9)) (fun _ h_ => h_.1))) : p := h
theorem laws_FnTableAt.z6 {p : Prop} (h : p := by (with_reducible repeat (first | apply Kd.V_alloc | apply Kd.V_drewN | apply Kd.V_drew)); exact HL471_4.out) : p := h
theorem laws_FnTableAt.z7 {p : Prop} (h : p := by (with_reducible repeat (first | apply Kd.N_alloc | apply Kd.N_drewN | apply Kd.N_drew)); exact HO463.out) : p := h
theorem laws_FnTableAt.z8 {p : Prop} (h : p := by first | exact q471 | exact of_decide_eq_true (z4) | (have e_ := (Kd.N_reads' HO_467002.out).1; omega)) : p := h
theorem laws_FnTableAt.z9 {p : Prop} (h : p := by rw [hg]; exact (below_size (zHB))) : p := h
theorem laws_FnTableAt.z10 {p : Prop} (h : p := by first | rfl | (simp; done) | (simp [*]; done)) : p := h
theorem laws_FnTableAt.z11 {p : Prop} (h : p := by rw [hg]; exact Nat.ne_of_lt (blk_lt (g := gb466) (zK))) : p := h
theorem laws_FnTableAt.z12 {p : Prop} (h : p := by rw [hg]; exact Nat.ne_of_gt (blk_lt (g := gb466) (zK))) : p := h
theorem laws_FnTableAt.z13 {p : Prop} (h : p := by have := HJ4.out; first | omega | exact Nat.le_refl _) : p := h
theorem laws_FnTableAt.z14 {p : Prop} (h : p := by (with_reducible repeat (first | apply Kd.N_alloc | apply Kd.N_drewN | apply Kd.N_drew)); exact Kd.N_mono HO463.out (fun _ hk => hk.2)) : p := h
set_option maxHeartbeats 8000000 in
set_option maxRecDepth 100000 in
theorem laws_FnTableAt.calls (k : Nat) (A0 : Option Addr) (c0 : Nat) (l0 : List Int) (r : Bool) (w : World) (hr0 : Kd.C (Kd.int .u8) w A0 l0.length l0) (hc0 : l0.length ≤ c0) (h : laws_FnTableAt.f k l0 = some r) :
    Calls Try.prog 4 #[.slice A0 l0.length c0] w fun e w' => e = .returned (.bool r) ∧ Below w.heap.size w w' := by
 have hu25 := Try.underlying25
 have hu30 := Try.underlying30
 have HR0 := Ax hr0
 have HC0 := Ax hc0
 clear hr0 hc0
 have HB := Ax (Below.refl w.heap.size w)
 have H : (if (l0.length : Int) > 1048576 then (some true) else ((spec_DrawTableAt.f k l0).bind fun bt459 => ((impl_TableAt.f k bt459.1 bt459.2.1 bt459.2.2.1 bt459.2.2.2.1 bt459.2.2.2.2).bind fun t467 => ((spec_TableAt.f k bt459.1 bt459.2.1 bt459.2.2.1 bt459.2.2.2.1 bt459.2.2.2.2).bind fun t468 => (if t467 = t468 then ((spec_TableOk.f k bt459.1 bt459.2.1 bt459.2.2.1).bind fun t469 => (laws_FnTableAt.j0 k bt459.2.2.2.1 bt459.2.2.2.2 t467 (!t469) bt459.1 bt459.2.1 bt459.2.2.1)) else (laws_FnTableAt.j0 k bt459.2.2.2.1 bt459.2.2.2.2 t467 true bt459.1 bt459.2.1 bt459.2.2.1)))))) = some r := h
 clear h
 by_cases c2 : (l0.length : Int) > 1048576
 · rw [if_pos c2] at H
   have c2b0 : decide (1048576 < (l0.length : Int)) = true := decide_eq_true c2
   have c2b1 : decide (1048576 < l0.length) = true := decide_eq_true (by omega)
   clear c2
   obtain rfl := Option.some.inj H
   go_enter Try.func4, Try.ntmps4
   go_wp2
   go_ret
   exact ⟨z2, zHB⟩
 rw [if_neg c2] at H
 have c2b0 : decide (1048576 < (l0.length : Int)) = false := decide_eq_false c2
 have c2b1 : decide (1048576 < l0.length) = false := decide_eq_false (by omega)
 clear c2
 obtain ⟨⟨t459, t460, t461, t464, t465⟩, A3, H⟩ := bnd H
 dsimp only at H
 obtain ⟨t467, A4, H⟩ := bnd H
 have HC5 := Ax H
 clear H
 go_enter Try.func4, Try.ntmps4
 go_upto_region 5 with (first | ((with_reducible refine gate_callee (f := 18) rfl ?_); refine goesL_ (some 13) rfl rfl Try.func18 (by kernel_rfl) rfl #[.slice A0 l0.length c0] rfl (z3) ?_; (with_reducible refine (spec_DrawTableAt.calls k _ _ l0 t459 t460 t461 t464 t465 _ ?side1 ?side2 A3.out).mono ?_); (case side1 => repeat (first | exact HR0.out | (with_reducible refine Kd.C_alloc ?_ _) | (with_reducible refine Kd.C_drewN ?_ _) | (with_reducible refine Kd.C_drew ?_))); (case side2 => exact HC0.out); rintro e w6 ⟨v462, rfl, ho0, hb⟩; refine ⟨_, rfl, ?_⟩; have HO463 := Ax (Kd.N_lower (Kd.N_mono (ok' := fun k_ => True) ho0 (fun k_ hk_ => trivial)) (below_size (zHB))); replace HB := Ax (below_step (zHB) hb); (try clear hb); (try clear hb2); (try clear hk); (try clear hi); (try clear ho0)) | ((with_reducible refine gate_dst (N := 3) rfl ?_); refine box_event ?hg (N := 3) ?hd (cs := #[.int .i64 0, .int .i64 0, .slice none 0 0]) (t := 25) ?hr ?_; (case hd => rfl); (case hg => rfl); (case hr => first | (go_simp; done) | (go_simp; rfl)); intro gb466 hg w7 hbox hb; replace HO463 := Ax (Kd.N_below (Kd.N_elderB (z7) gb466 (Nat.le_of_eq hg.symm)) hb); have BK466 := Ax (hbox); have GW466 := Ax ((z9 : w.heap.size ≤ gb466)); have GE466 := Ax ((z9 : w.heap.size ≤ gb466)); replace HB := Ax (below_step (zHB) hb); clear hb hbox hg; obtain ⟨hcz8_0, hcz8_1, hcz8_2, hfz8_0, hfz8_1, hfz8_2⟩ := cells3 BK466.out; obtain ⟨Ao9, co9, eo9⟩ := Kd.N_slice HO463.out; subst eo9) | ((with_reducible refine gate_callee (f := 17) rfl ?_); refine goesL_ (some 20) rfl rfl Try.func17 (by kernel_rfl) rfl #[.agg #[.int .i64 t459, .int .i64 t460, .slice Ao9 t461.length co9], .int .i64 t464, .int .i64 t465] rfl (z3) ?_; (with_reducible refine (impl_TableAt.calls k t459 t460 _ _ t461 t464 t465 t467 _ ?side1 ?side2 A4.out).mono ?_); (case side1 => refine (Kd.N_reads' (e := 30) (base := w.heap.size) (ok := fun k_ => (True ∧ k_ ≠ gb466)) (n := t461.length) (c := co9) ?_).2.2; exact (z5)); (case side2 => exact (Kd.N_reads' HO463.out).2.1); rintro e w10 ⟨rfl, hb⟩; refine ⟨_, rfl, ?_⟩; replace HO463 := Ax (Kd.N_below (z5) hb); replace BK466 := Ax (blk_below (g := gb466) (o := .cells #[.int .i64 t459, .int .i64 t460, .slice Ao9 t461.length co9] 25 (0, 0)) (zK) hb); replace HB := Ax (below_step (zHB) hb); (try clear hb); (try clear hb2); (try clear hk); (try clear hi)))
 (try simp only [Act.put, List.setIfInBounds_toArray, List.set_cons_zero, List.set_cons_succ])
 go_cut [31] (fun v31 wc => ∃ (kq : Nat) (x31_4 : Bool), v31 = .bool x31_4 ∧ Aside0 (laws_FnTableAt.j0 kq t464 t465 t467 x31_4 t459 t460 t461 = some r) ∧ Aside0 (kq ≤ k) ∧ Aside0 (Kd.N k30 30 wc w.heap.size (fun k_ => k_ ≠ gb466) (.slice Ao9 t461.length co9) t461) ∧ Aside0 (wc.heap[gb466]? = some (.cells #[.int .i64 t459, .int .i64 t460, (.slice Ao9 t461.length co9)] 25 (0, 0))) ∧ Aside0 (Below w.heap.size w wc))
 case first =>
  have H := HC5.out
  clear HC5
  obtain ⟨t468, A11, H⟩ := bnd H
  by_cases c12 : t467 = t468
  · rw [if_pos c12] at H
    have c12b0 : (t467 == t468) = true := beq_iff_eq.mpr c12
    have c12b1 : (t467 != t468) = false := bne_eq_false_iff_eq.mpr c12
    clear c12
    (first | rw [c12b0] | (simp only [i64_w, i32_w]; rw [c12b0]) | skip)
    obtain ⟨t469, A13, H⟩ := bnd H
    have H' := Ax H
    clear H
    obtain ⟨_, _, _, _, _, _⟩ := cells3 BK466.out
    go_wp2_with (first | ((with_reducible refine gate_callee (f := 19) rfl ?_); refine goesL_ (some 25) rfl rfl Try.func19 (by kernel_rfl) rfl #[.agg #[.int .i64 t459, .int .i64 t460, .slice Ao9 t461.length co9], .int .i64 t464, .int .i64 t465] rfl (z3) ?_; (with_reducible refine (spec_TableAt.calls k t459 t460 _ _ t461 t464 t465 t468 _ ?side1 ?side2 A11.out).mono ?_); (case side1 => repeat (first | exact (Kd.N_reads' HO463.out).2.2 | (with_reducible refine Kd.C_alloc ?_ _) | (with_reducible refine Kd.C_drewN ?_ _) | (with_reducible refine Kd.C_drew ?_))); (case side2 => exact (Kd.N_reads' HO463.out).2.1); rintro e w15 ⟨rfl, hb⟩; refine ⟨_, rfl, ?_⟩; replace HO463 := Ax (Kd.N_below (z7) hb); replace BK466 := Ax (blk_below (g := gb466) (zK) hb); replace HB := Ax (below_step (zHB) hb); (try clear hb); (try clear hb2); (try clear hk); (try clear hi); obtain ⟨_, _, _, _, _, _⟩ := cells3 BK466.out) | (go_at_call 16; (with_reducible refine (spec_TableOk.calls k t459 t460 _ _ t461 t469 _ ?side1 ?side2 A13.out).mono ?_); (case side1 => repeat (first | exact (Kd.N_reads' HO463.out).2.2 | (with_reducible refine Kd.C_alloc ?_ _) | (with_reducible refine Kd.C_drewN ?_ _) | (with_reducible refine Kd.C_drew ?_))); (case side2 => exact (Kd.N_reads' HO463.out).2.1); rintro e w17 ⟨rfl, hb⟩; replace HO463 := Ax (Kd.N_below (z7) hb); replace BK466 := Ax (blk_below (g := gb466) (zK) hb); replace HB := Ax (below_step (zHB) hb); (try clear hb); (try clear hb2); (try clear hk); (try clear hi)))
    go_meet
    exact ⟨_, (!t469), (z10), H', ⟨by first | omega | exact Nat.le_refl _⟩, ⟨z14⟩, ⟨zK⟩, ⟨zHB⟩⟩
  rw [if_neg c12] at H
  have c12b0 : (t467 == t468) = false := beq_eq_false_iff_ne.mpr c12
  have c12b1 : (t467 != t468) = true := bne_iff_ne.mpr c12
  (first | rw [c12b0] | (simp only [i64_w, i32_w]; rw [c12b0]) | skip)
  have H' := Ax H
  clear H
  obtain ⟨_, _, _, _, _, _⟩ := cells3 BK466.out
  go_wp2_with (first | ((with_reducible refine gate_callee (f := 19) rfl ?_); refine goesL_ (some 25) rfl rfl Try.func19 (by kernel_rfl) rfl #[.agg #[.int .i64 t459, .int .i64 t460, .slice Ao9 t461.length co9], .int .i64 t464, .int .i64 t465] rfl (z3) ?_; (with_reducible refine (spec_TableAt.calls k t459 t460 _ _ t461 t464 t465 t468 _ ?side1 ?side2 A11.out).mono ?_); (case side1 => repeat (first | exact (Kd.N_reads' HO463.out).2.2 | (with_reducible refine Kd.C_alloc ?_ _) | (with_reducible refine Kd.C_drewN ?_ _) | (with_reducible refine Kd.C_drew ?_))); (case side2 => exact (Kd.N_reads' HO463.out).2.1); rintro e w19 ⟨rfl, hb⟩; refine ⟨_, rfl, ?_⟩; replace HO463 := Ax (Kd.N_below (z7) hb); replace BK466 := Ax (blk_below (g := gb466) (zK) hb); replace HB := Ax (below_step (zHB) hb); (try clear hb); (try clear hb2); (try clear hk); (try clear hi)))
  go_meet
  exact ⟨_, (true), (z10), H', ⟨by first | omega | exact Nat.le_refl _⟩, ⟨z14⟩, ⟨zK⟩, ⟨zHB⟩⟩
 clear HC5
 (try clear c2); (try clear c2b0); (try clear c2b1); (try clear hcz8_0); (try clear hcz8_1); (try clear hcz8_2); (try clear hfz8_0); (try clear hfz8_1); (try clear hfz8_2)
 obtain ⟨kq, x31_4, rfl, HA, HJ4, HO_467002, BK466, HB⟩ := hcut
 cases kq with
 | zero => exact absurd HA.out (by simp [laws_FnTableAt.j0])
 | succ kj4 =>
  have H := HA.out
  clear HA
  simp only [laws_FnTableAt.j0] at H
  obtain rfl | rfl := tf x31_4
  · rw [if_pos rfl] at H
    obtain ⟨t470, A21, H⟩ := bnd H
    obtain rfl := Option.some.inj H
    obtain ⟨_, _, _, _, _, _⟩ := cells3 BK466.out
    go_wp2_with (first | ((with_reducible refine gate_callee (f := 19) rfl ?_); refine goesL_ (some 36) rfl rfl Try.func19 (by kernel_rfl) rfl #[.agg #[.int .i64 t459, .int .i64 t460, .slice Ao9 t461.length co9], .int .i64 t464, .int .i64 t465] rfl (z3) ?_; (with_reducible refine (spec_TableAt.calls kj4 t459 t460 _ _ t461 t464 t465 t470 _ ?side1 ?side2 A21.out).mono ?_); (case side1 => repeat (first | exact (Kd.N_reads' HO_467002.out).2.2 | (with_reducible refine Kd.C_alloc ?_ _) | (with_reducible refine Kd.C_drewN ?_ _) | (with_reducible refine Kd.C_drew ?_))); (case side2 => exact (Kd.N_reads' HO_467002.out).2.1); rintro e w23 ⟨rfl, hb⟩; refine ⟨_, rfl, ?_⟩; replace HO_467002 := Ax (Kd.N_below (z0) hb); replace BK466 := Ax (blk_below (g := gb466) (zK) hb); replace HB := Ax (below_step (zHB) hb); (try clear hb); (try clear hb2); (try clear hk); (try clear hi)))
    go_ret
    exact ⟨z2, zHB⟩
  rw [if_neg Bool.false_ne_true] at H
  have HC24 := Ax H
  clear H
  go_upto_region 7 with (fail)
  go_cut [55] (fun v55 wc => ∃ (kq : Nat) (x55_23 : Bool), v55 = .bool x55_23 ∧ Aside0 (laws_FnTableAt.j1 kq t464 t465 t467 x55_23 t459 t460 t461 = some r) ∧ Aside0 (kq ≤ kj4) ∧ Aside0 (Kd.N k30 30 wc w.heap.size (fun k_ => k_ ≠ gb466) (.slice Ao9 t461.length co9) t461) ∧ Aside0 (wc.heap[gb466]? = some (.cells #[.int .i64 t459, .int .i64 t460, (.slice Ao9 t461.length co9)] 25 (0, 0))) ∧ Aside0 (Below w.heap.size w wc))
  case first =>
   have H := HC24.out
   clear HC24
   by_cases c25 : t464 < 0
   · rw [if_pos c25] at H
     have c25b0 := decide_eq_true c25
     clear c25
     (first | rw [c25b0] | (simp only [i64_w, i32_w]; rw [c25b0]) | skip)
     have H' := Ax H
     clear H
     go_wp2
     go_meet
     exact ⟨_, (true), (z10), H', ⟨z13⟩, ⟨z0⟩, ⟨zK⟩, ⟨zHB⟩⟩
   rw [if_neg c25] at H
   have c25b0 := decide_eq_false c25
   clear c25
   (first | rw [c25b0] | (simp only [i64_w, i32_w]; rw [c25b0]) | skip)
   by_cases c26 : t465 < 0
   · rw [if_pos c26] at H
     have c26b0 := decide_eq_true c26
     clear c26
     have H' := Ax H
     clear H
     go_wp2
     go_meet
     exact ⟨_, (true), (z10), H', ⟨z13⟩, ⟨z0⟩, ⟨zK⟩, ⟨zHB⟩⟩
   rw [if_neg c26] at H
   have c26b0 := decide_eq_false c26
   clear c26
   by_cases c27 : t464 ≥ t459
   · rw [if_pos c27] at H
     have c27b0 := decide_eq_true c27
     clear c27
     have H' := Ax H
     clear H
     obtain ⟨_, _, _, _, _, _⟩ := cells3 BK466.out
     go_wp2
     go_meet
     exact ⟨_, (true), (z10), H', ⟨z13⟩, ⟨z0⟩, ⟨zK⟩, ⟨zHB⟩⟩
   rw [if_neg c27] at H
   have c27b0 : decide (t459 ≤ t464) = false := decide_eq_false c27
   clear c27
   have H' := Ax H
   clear H
   obtain ⟨_, _, _, _, _, _⟩ := cells3 BK466.out
   go_wp2
   go_meet
   exact ⟨_, (decide (t465 ≥ t460)), (z10), H', ⟨z13⟩, ⟨z0⟩, ⟨zK⟩, ⟨zHB⟩⟩
  clear HC24
  (try clear c2); (try clear c2b0); (try clear c2b1); (try clear hcz8_0); (try clear hcz8_1); (try clear hcz8_2); (try clear hfz8_0); (try clear hfz8_1); (try clear hfz8_2)
  obtain ⟨kq, x55_23, rfl, HA, HJ23, HO_467002, BK466, HB⟩ := hcut
  cases kq with
  | zero => exact absurd HA.out (by simp [laws_FnTableAt.j1])
  | succ kj23 =>
   have H := HA.out
   clear HA
   simp only [laws_FnTableAt.j1] at H
   obtain rfl | rfl := tf x55_23
   · rw [if_pos rfl] at H
     obtain rfl := Option.some.inj H
     go_wp2
     go_ret
     exact ⟨z2, zHB⟩
   rw [if_neg Bool.false_ne_true] at H
   by_cases c31 : 0 ≤ t467
   rotate_left
   · rw [if_neg c31] at H
     exact absurd H (by simp)
   rw [if_pos c31] at H
   have c31b0 := decide_eq_true c31
   clear c31
   by_cases c32 : t467 < (t461.length : Int)
   rotate_left
   · rw [if_neg c32] at H
     exact absurd H (by simp)
   rw [if_pos c32] at H
   have c32b0 := decide_eq_true c32
   clear c32
   by_cases c33 : t464 ≥ ((rd_T30 t461 t467).f0)
   rotate_left
   · rw [if_neg c33] at H
     have c33b0 : decide (((rd_T30 t461 t467).f0) ≤ t464) = false := decide_eq_false c33
     clear c33
     obtain rfl := Option.some.inj H
     obtain ⟨_, _, _, _, _, _⟩ := cells3 BK466.out
     have p471 : 0 ≤ (t467 : Int) := of_decide_eq_true (z4)
     have q471 : t467 < (t461.length : Int) := of_decide_eq_true (z4)
     obtain ⟨ad471, A471_4, c471_4, e471, hx471_0, hx471_1, hx471_2, hx471_3, hx471_4, hl471_4, hi471_4⟩ := at_T30 (Kd.N_reads' HO_467002.out).2.2 t467 p471 q471
     cases e471
     obtain ⟨ce471, hce471, hMe471, hcc471⟩ := Kd.N_get HO_467002.out z30 t467 p471 (z8)
     obtain ⟨ua471_4, uc471_4, rfl, ul471_4, ge471_4⟩ := k30_openF hMe471
     have hv471_4 := hcc471 4 _ rfl
     rw [add_field _ _ 4 (by omega)] at hv471_4
     replace hv471_4 := Option.some.inj (hv471_4.symm.trans hx471_4)
     injection hv471_4 with hva_ hvn_ hvc_
     rw [hva_] at ge471_4
     rw [hvc_] at ul471_4
     have HL471_4 := Ax (show Kd.V k61 61 _ w.heap.size _ _ ((rd_T30 t461 t467).f4) from Kd.V_mk ul471_4 ge471_4)
     clear hva_ hvn_ hvc_ ge471_4 ul471_4
     clear hcc471 hce471
     have HR471_4 := Ax hi471_4
     have HC471_4 := Ax hl471_4
     clear hi471_4 hl471_4
     replace p471 := eq_true p471
     replace q471 := eq_true q471
     go_wp2_with (first | ((with_reducible refine gate_dst (N := 7) rfl ?_); refine box_event ?hg (N := 7) ?hd (cs := #[.int .i64 0, .int .i64 0, .int .i64 0, .int .i64 0, .slice none 0 0]) (t := 30) ?hr ?_; (case hd => rfl); (case hg => rfl); (case hr => first | (go_simp; done) | (go_simp; rfl)); intro gb472 hg w49 hbox hb; replace HO_467002 := Ax (Kd.N_below (Kd.N_elderB (z0) gb472 (Nat.le_of_eq hg.symm)) hb); replace HL471_4 := Ax (Kd.V_below (Kd.V_elderB (z6) gb472 (Nat.le_of_eq hg.symm)) hb); replace HR471_4 := Ax (Kd.C_below (z1) hb); have BK472 := Ax (hbox); have GW472 := Ax ((z9 : w.heap.size ≤ gb472)); have GE472 := Ax ((z9 : w.heap.size ≤ gb472)); replace HB := Ax (below_step (zHB) hb); have NB466_472 := Ax ((z11 : gb466 ≠ gb472)); have NB472_466 := Ax ((z12 : gb472 ≠ gb466)); replace BK466 := Ax (blk_below (g := gb466) (zK) hb); clear hb hbox hg; have hnb50 := NB472_466.out; have hnc50 := NB466_472.out; obtain ⟨_, _, _, _, _, _, _, _, _, _⟩ := cells5 BK472.out))
     go_ret
     exact ⟨z2, zHB⟩
   rw [if_pos c33] at H
   have c33b0 := decide_eq_true c33
   clear c33
   by_cases c34 : t464 < (wrap64 (((rd_T30 t461 t467).f0) + ((rd_T30 t461 t467).f2)))
   rotate_left
   · rw [if_neg c34] at H
     have c34b0 := decide_eq_false c34
     clear c34
     obtain rfl := Option.some.inj H
     obtain ⟨_, _, _, _, _, _⟩ := cells3 BK466.out
     have p471 : 0 ≤ (t467 : Int) := of_decide_eq_true (z4)
     have q471 : t467 < (t461.length : Int) := of_decide_eq_true (z4)
     obtain ⟨ad471, A471_4, c471_4, e471, hx471_0, hx471_1, hx471_2, hx471_3, hx471_4, hl471_4, hi471_4⟩ := at_T30 (Kd.N_reads' HO_467002.out).2.2 t467 p471 q471
     cases e471
     obtain ⟨ce471, hce471, hMe471, hcc471⟩ := Kd.N_get HO_467002.out z30 t467 p471 (z8)
     obtain ⟨ua471_4, uc471_4, rfl, ul471_4, ge471_4⟩ := k30_openF hMe471
     have hv471_4 := hcc471 4 _ rfl
     rw [add_field _ _ 4 (by omega)] at hv471_4
     replace hv471_4 := Option.some.inj (hv471_4.symm.trans hx471_4)
     injection hv471_4 with hva_ hvn_ hvc_
     rw [hva_] at ge471_4
     rw [hvc_] at ul471_4
     have HL471_4 := Ax (show Kd.V k61 61 _ w.heap.size _ _ ((rd_T30 t461 t467).f4) from Kd.V_mk ul471_4 ge471_4)
     clear hva_ hvn_ hvc_ ge471_4 ul471_4
     clear hcc471 hce471
     have HR471_4 := Ax hi471_4
     have HC471_4 := Ax hl471_4
     clear hi471_4 hl471_4
     replace p471 := eq_true p471
     replace q471 := eq_true q471
     go_wp2_with (first | ((with_reducible refine gate_dst (N := 7) rfl ?_); refine box_event ?hg (N := 7) ?hd (cs := #[.int .i64 0, .int .i64 0, .int .i64 0, .int .i64 0, .slice none 0 0]) (t := 30) ?hr ?_; (case hd => rfl); (case hg => rfl); (case hr => first | (go_simp; done) | (go_simp; rfl)); intro gb472 hg w45 hbox hb; replace HO_467002 := Ax (Kd.N_below (Kd.N_elderB (z0) gb472 (Nat.le_of_eq hg.symm)) hb); replace HL471_4 := Ax (Kd.V_below (Kd.V_elderB (z6) gb472 (Nat.le_of_eq hg.symm)) hb); replace HR471_4 := Ax (Kd.C_below (z1) hb); have BK472 := Ax (hbox); have GW472 := Ax ((z9 : w.heap.size ≤ gb472)); have GE472 := Ax ((z9 : w.heap.size ≤ gb472)); replace HB := Ax (below_step (zHB) hb); have NB466_472 := Ax ((z11 : gb466 ≠ gb472)); have NB472_466 := Ax ((z12 : gb472 ≠ gb466)); replace BK466 := Ax (blk_below (g := gb466) (zK) hb); clear hb hbox hg; have hnb46 := NB472_466.out; have hnc46 := NB466_472.out; obtain ⟨_, _, _, _, _, _, _, _, _, _⟩ := cells5 BK472.out))
     go_ret
     exact ⟨z2, zHB⟩
   rw [if_pos c34] at H
   have c34b0 := decide_eq_true c34
   clear c34
   by_cases c35 : t465 ≥ ((rd_T30 t461 t467).f1)
   · rw [if_pos c35] at H
     have c35b0 := decide_eq_true c35
     clear c35
     obtain rfl := Option.some.inj H
     obtain ⟨_, _, _, _, _, _⟩ := cells3 BK466.out
     have p471 : 0 ≤ (t467 : Int) := of_decide_eq_true (z4)
     have q471 : t467 < (t461.length : Int) := of_decide_eq_true (z4)
     obtain ⟨ad471, A471_4, c471_4, e471, hx471_0, hx471_1, hx471_2, hx471_3, hx471_4, hl471_4, hi471_4⟩ := at_T30 (Kd.N_reads' HO_467002.out).2.2 t467 p471 q471
     cases e471
     obtain ⟨ce471, hce471, hMe471, hcc471⟩ := Kd.N_get HO_467002.out z30 t467 p471 (z8)
     obtain ⟨ua471_4, uc471_4, rfl, ul471_4, ge471_4⟩ := k30_openF hMe471
     have hv471_4 := hcc471 4 _ rfl
     rw [add_field _ _ 4 (by omega)] at hv471_4
     replace hv471_4 := Option.some.inj (hv471_4.symm.trans hx471_4)
     injection hv471_4 with hva_ hvn_ hvc_
     rw [hva_] at ge471_4
     rw [hvc_] at ul471_4
     have HL471_4 := Ax (show Kd.V k61 61 _ w.heap.size _ _ ((rd_T30 t461 t467).f4) from Kd.V_mk ul471_4 ge471_4)
     clear hva_ hvn_ hvc_ ge471_4 ul471_4
     clear hcc471 hce471
     have HR471_4 := Ax hi471_4
     have HC471_4 := Ax hl471_4
     clear hi471_4 hl471_4
     replace p471 := eq_true p471
     replace q471 := eq_true q471
     go_wp2_with (first | ((with_reducible refine gate_dst (N := 7) rfl ?_); refine box_event ?hg (N := 7) ?hd (cs := #[.int .i64 0, .int .i64 0, .int .i64 0, .int .i64 0, .slice none 0 0]) (t := 30) ?hr ?_; (case hd => rfl); (case hg => rfl); (case hr => first | (go_simp; done) | (go_simp; rfl)); intro gb472 hg w37 hbox hb; replace HO_467002 := Ax (Kd.N_below (Kd.N_elderB (z0) gb472 (Nat.le_of_eq hg.symm)) hb); replace HL471_4 := Ax (Kd.V_below (Kd.V_elderB (z6) gb472 (Nat.le_of_eq hg.symm)) hb); replace HR471_4 := Ax (Kd.C_below (z1) hb); have BK472 := Ax (hbox); have GW472 := Ax ((z9 : w.heap.size ≤ gb472)); have GE472 := Ax ((z9 : w.heap.size ≤ gb472)); replace HB := Ax (below_step (zHB) hb); have NB466_472 := Ax ((z11 : gb466 ≠ gb472)); have NB472_466 := Ax ((z12 : gb472 ≠ gb466)); replace BK466 := Ax (blk_below (g := gb466) (zK) hb); clear hb hbox hg; have hnb38 := NB472_466.out; have hnc38 := NB466_472.out; obtain ⟨_, _, _, _, _, _, _, _, _, _⟩ := cells5 BK472.out))
     go_ret
     exact ⟨z2, zHB⟩
   rw [if_neg c35] at H
   have c35b0 : decide (((rd_T30 t461 t467).f1) ≤ t465) = false := decide_eq_false c35
   clear c35
   obtain rfl := Option.some.inj H
   obtain ⟨_, _, _, _, _, _⟩ := cells3 BK466.out
   have p471 : 0 ≤ (t467 : Int) := of_decide_eq_true (z4)
   have q471 : t467 < (t461.length : Int) := of_decide_eq_true (z4)
   obtain ⟨ad471, A471_4, c471_4, e471, hx471_0, hx471_1, hx471_2, hx471_3, hx471_4, hl471_4, hi471_4⟩ := at_T30 (Kd.N_reads' HO_467002.out).2.2 t467 p471 q471
   cases e471
   obtain ⟨ce471, hce471, hMe471, hcc471⟩ := Kd.N_get HO_467002.out z30 t467 p471 (z8)
   obtain ⟨ua471_4, uc471_4, rfl, ul471_4, ge471_4⟩ := k30_openF hMe471
   have hv471_4 := hcc471 4 _ rfl
   rw [add_field _ _ 4 (by omega)] at hv471_4
   replace hv471_4 := Option.some.inj (hv471_4.symm.trans hx471_4)
   injection hv471_4 with hva_ hvn_ hvc_
   rw [hva_] at ge471_4
   rw [hvc_] at ul471_4
   have HL471_4 := Ax (show Kd.V k61 61 _ w.heap.size _ _ ((rd_T30 t461 t467).f4) from Kd.V_mk ul471_4 ge471_4)
   clear hva_ hvn_ hvc_ ge471_4 ul471_4
   clear hcc471 hce471
   have HR471_4 := Ax hi471_4
   have HC471_4 := Ax hl471_4
   clear hi471_4 hl471_4
   replace p471 := eq_true p471
   replace q471 := eq_true q471
   go_wp2_with (first | ((with_reducible refine gate_dst (N := 7) rfl ?_); refine box_event ?hg (N := 7) ?hd (cs := #[.int .i64 0, .int .i64 0, .int .i64 0, .int .i64 0, .slice none 0 0]) (t := 30) ?hr ?_; (case hd => rfl); (case hg => rfl); (case hr => first | (go_simp; done) | (go_simp; rfl)); intro gb472 hg w41 hbox hb; replace HO_467002 := Ax (Kd.N_below (Kd.N_elderB (z0) gb472 (Nat.le_of_eq hg.symm)) hb); replace HL471_4 := Ax (Kd.V_below (Kd.V_elderB (z6) gb472 (Nat.le_of_eq hg.symm)) hb); replace HR471_4 := Ax (Kd.C_below (z1) hb); have BK472 := Ax (hbox); have GW472 := Ax ((z9 : w.heap.size ≤ gb472)); have GE472 := Ax ((z9 : w.heap.size ≤ gb472)); replace HB := Ax (below_step (zHB) hb); have NB466_472 := Ax ((z11 : gb466 ≠ gb472)); have NB472_466 := Ax ((z12 : gb472 ≠ gb466)); replace BK466 := Ax (blk_below (g := gb466) (zK) hb); clear hb hbox hg; have hnb42 := NB472_466.out; have hnc42 := NB466_472.out; obtain ⟨_, _, _, _, _, _, _, _, _, _⟩ := cells5 BK472.out))
   go_ret
   exact ⟨z2, zHB⟩
/-- THE ONE PURE STATEMENT of laws_FnTableAt: yours. -/
def laws_FnTableAt.Pure : Prop := ∀ (l0 : List Int), l0.length ≤ maxLen → l0.length * 1 ≤ 140737488351232 → (∀ x ∈ l0, (Lit.int .u8 x).wf = true) → ∃ k, laws_FnTableAt.f k l0 = some true
theorem laws_FnTableAt.walk (P : laws_FnTableAt.Pure) (a0 : Option Addr) (len0 cap0 : Nat) (z0 : List Int) (w : World) (w0 : (a0 = none ∧ len0 = 0 ∧ cap0 = 0 ∧ z0 = []) ∨ ∃ x, a0 = some x ∧ len0 ≤ cap0 ∧ cap0 ≤ maxLen ∧ z0.length = cap0 ∧ (∀ i, i < z0.length → w.cell? (x.add i) = some (.int .u8 (z0.getD i 0))) ∧ ∀ n ∈ z0, (Lit.int .u8 n).wf = true) (y0 : len0 * 1 ≤ 140737488351232) :
    Calls Try.prog 4 #[.slice a0 len0 cap0] w fun e w' => e = .returned (.bool true) ∧ Below w.heap.size w w' := by
  obtain ⟨l0, rfl, hr0, hm0, hw0, hc0⟩ := ReadsInt.ofRowC w0
  obtain ⟨k, h⟩ := P l0 hm0 y0 hw0
  refine (laws_FnTableAt.calls k _ _ l0 true w (Kd.C_of_reads (d := (0 : Int)) (h1 := fun _ => rfl) hr0) hc0 h).mono ?_
  rintro e w' ⟨rfl, hd⟩
  exact ⟨rfl, hd⟩

end Go.Proofs.Ytljgbeccmcidkaa.P
