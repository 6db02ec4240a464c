/- What the Go functions named below compute, function by function: a plain Lean function with the same answers and the proof that a call comes to them. Conditions: the arguments read as told, the plain function answers. -/
import Derived.Test.YtljgbeccmcidkaaXA
import Derived.Test.YtljgbeccmcidkaaXS
import Derived.Test.YtljgbeccmcidkaaXB
namespace Go.Proofs.Ytljgbeccmcidkaa.P
open Go.RowKit Go.Proofs.YtljgbeccmcidkaaW.PrintWords Go.Proofs.YtljgbeccmcidkaaW.PrintLast Go.Proofs.YtljgbeccmcidkaaW.PrintMore
attribute [local go_sem] max2_int min2_int max_two min_two max_three min_three max_four min_four   -- for this text's walks alone
set_option linter.unusedVariables false
set_option linter.unusedSimpArgs false

attribute [local go_sem ↓] isSome_setCell
/-! ### impl_TableNew: function 21 -/
def impl_TableNew.f (k : Nat) (a0 : Int) (a1 : Int) : Option (Int × Int × (List (S30))) := (impl_within.f a0 1 5).bind fun t483 => (if t483 = true then ((impl_within.f a1 1 5).bind fun t484 => (if t484 = true then ((impl_Table_blank.f k a0 a1 (([] : List (S30)))).bind fun bt488 => (some (bt488.1, bt488.2.1, bt488.2.2))) else (some (0, 0, ([] : List (S30)))))) else (some (0, 0, ([] : List (S30)))))
theorem impl_TableNew.mono : ∀ a0 a1 k, LeO (impl_TableNew.f k a0 a1) (impl_TableNew.f (k + 1) a0 a1) := by
  intro a0 a1 k
  unfold impl_TableNew.f
  with_reducible repeat' first | exact impl_Table_blank.mono _ _ _ _ | exact LeO.refl _ | exact LeO.none _ | refine LeO.ite ?_ ?_ | refine LeO.bind ?_ (fun _ => ?_)
theorem impl_TableNew.zHB {p : Prop} (h : p := by repeat (first | (with_reducible first | exact HB.out | apply below_alloc | apply pw_below_drewN | apply below_drew1 | refine below_set ?_ GE482.out) | exact HB.out)) : p := h
theorem impl_TableNew.zK {p : Prop} (h : p := by repeat' first | (with_reducible first | exact BK482.out | apply blk_drewN | apply blk_drew | apply blk_alloc | apply blk_putE) | exact (rfl : List.set _ _ _ = _)) : p := h
theorem impl_TableNew.z0 {p : Prop} (h : p := by (try simp only [List.map_toArray, List.map_cons, List.map_nil]); first | done | rfl | (simp only [List.length_drop, List.length_take]; rfl)) : p := h
theorem impl_TableNew.z1 {p : Prop} (h : p := by first | rfl | (simp [errW_none, errW_some] <;> rfl) | (simp [*, errW_none, errW_some] <;> rfl)) : p := h
theorem impl_TableNew.z2 {p : Prop} (h : p := by rw [hg]; exact (below_size (zHB))) : p := h
theorem impl_TableNew.z3 {p : Prop} (h : p := by first | exact Kd.S_nil _ _ _ _ _ | exact Kd.N_nil _ _ _ _ _ | exact Kd.V_nil _ _ _ _ _ | exact Kd.Q_nil _ _ _ _ _ | exact Kd.R_nil _ _ _ _ _) : p := h
theorem impl_TableNew.zy {p : Prop} (h : p := by first | (rw [hy_]; with_reducible exact H) | (have H2_ := (Option.bind_some _ _).symm.trans H; rw [hy_]; with_reducible exact H2_) | (have H2_ := (Option.bind_some _ _).symm.trans H; with_reducible exact H2_) | with_reducible exact H | (rw [hy_]; exact H) | exact H) : p := h
set_option maxHeartbeats 8000000 in
set_option maxRecDepth 100000 in
theorem impl_TableNew.calls (k : Nat) (a0 : Int) (a1 : Int) (r1 : Int) (r2 : Int) (r3 : List (S30)) (w : World) (h : impl_TableNew.f k a0 a1 = some (r1, r2, r3)) :
    Calls Try.prog 21 #[.int .i64 a0, .int .i64 a1] w fun e w' => ∃ v2_ : Value, e = .returned (.agg #[.int .i64 r1, .int .i64 r2, v2_]) ∧ Kd.S k30 30 w' w.heap.size (fun _ => True) v2_ r3 ∧ Below w.heap.size w w' := by
 have hu25 := Try.underlying25
 have HB := Ax (Below.refl w.heap.size w)
 have H : ((impl_within.f a0 1 5).bind fun t483 => (if t483 = true then ((impl_within.f a1 1 5).bind fun t484 => (if t484 = true then ((impl_Table_blank.f k a0 a1 (([] : List (S30)))).bind fun bt488 => (some (bt488.1, bt488.2.1, bt488.2.2))) else (some (0, 0, ([] : List (S30)))))) else (some (0, 0, ([] : List (S30)))))) = some (r1, r2, r3) := h
 clear h
 obtain ⟨t483, A3, H⟩ := bnd H
 obtain rfl | rfl := tf t483
 rotate_left
 · rw [if_neg Bool.false_ne_true] at H
   simp only [Option.some.injEq, Prod.mk.injEq] at H
   obtain ⟨rfl, rfl, rfl⟩ := H
   go_enter Try.func21, Try.ntmps21
   go_wp2_with (first | ((with_reducible refine gate_dst (N := 4) rfl ?_); refine box_event ?hg (N := 4) ?hd (cs := #[.int .i64 0, .int .i64 0, .slice none 0 0]) (t := 25) ?hr ?_; (case hd => rfl); (case hg => rfl); (case hr => first | (go_simp; done) | (go_simp; rfl)); intro gb482 hg w17 hbox hb; have BK482 := Ax (hbox); have GW482 := Ax ((z2 : w.heap.size ≤ gb482)); have GE482 := Ax ((z2 : w.heap.size ≤ gb482)); replace HB := Ax (below_step (zHB) hb); clear hb hbox hg) | ((with_reducible refine gate_callee (f := 41) rfl ?_); refine goesL_ (some 6) rfl rfl Try.func41 (by kernel_rfl) rfl #[.int .i64 a0, .int .i64 1, .int .i64 5] rfl (z0) ?_; (with_reducible refine (impl_within.calls a0 1 5 false _ A3.out).mono ?_); rintro e w' ⟨rfl, ⟨nd, rfl⟩⟩; refine ⟨_, rfl, ?_⟩; (try (rw [drewN_self w17]; generalize hq_ : World.drewN w17 _ = w17; replace BK482 : Aside0 (w17.heap[gb482]? = some (.cells #[.int .i64 0, .int .i64 0, .slice none 0 0] 25 (0, 0))) := ⟨by rw [← hq_]; exact (zK)⟩; replace HB : Aside0 (Below w.heap.size w w17) := ⟨by rw [← hq_]; exact (zHB)⟩; clear hq_)); obtain ⟨_, _, _, _, _, _⟩ := cells3 BK482.out))
   refine bodyPost_ret (results_cell_row rfl _ _ gb482 25 #[.int .i64 0, .int .i64 0, .slice none 0 0] (0, 0) _ rfl (zK) Try.underlying25 rfl (by kernel_rfl)) rfl ?_
   exact ⟨_, z1, z3, zHB⟩
 rw [if_pos rfl] at H
 obtain ⟨t484, A5, H⟩ := bnd H
 obtain rfl | rfl := tf t484
 rotate_left
 · rw [if_neg Bool.false_ne_true] at H
   simp only [Option.some.injEq, Prod.mk.injEq] at H
   obtain ⟨rfl, rfl, rfl⟩ := H
   go_enter Try.func21, Try.ntmps21
   go_wp2_with (first | ((with_reducible refine gate_dst (N := 4) rfl ?_); refine box_event ?hg (N := 4) ?hd (cs := #[.int .i64 0, .int .i64 0, .slice none 0 0]) (t := 25) ?hr ?_; (case hd => rfl); (case hg => rfl); (case hr => first | (go_simp; done) | (go_simp; rfl)); intro gb482 hg w15 hbox hb; have BK482 := Ax (hbox); have GW482 := Ax ((z2 : w.heap.size ≤ gb482)); have GE482 := Ax ((z2 : w.heap.size ≤ gb482)); replace HB := Ax (below_step (zHB) hb); clear hb hbox hg) | ((with_reducible refine gate_callee (f := 41) rfl ?_); refine goesL_ (some 6) rfl rfl Try.func41 (by kernel_rfl) rfl #[.int .i64 a0, .int .i64 1, .int .i64 5] rfl (z0) ?_; (with_reducible refine (impl_within.calls a0 1 5 true _ A3.out).mono ?_); rintro e w' ⟨rfl, ⟨nd, rfl⟩⟩; refine ⟨_, rfl, ?_⟩; (try (rw [drewN_self w15]; generalize hq_ : World.drewN w15 _ = w15; replace BK482 : Aside0 (w15.heap[gb482]? = some (.cells #[.int .i64 0, .int .i64 0, .slice none 0 0] 25 (0, 0))) := ⟨by rw [← hq_]; exact (zK)⟩; replace HB : Aside0 (Below w.heap.size w w15) := ⟨by rw [← hq_]; exact (zHB)⟩; clear hq_))) | (go_at_call 41; (with_reducible refine (impl_within.calls a1 1 5 false _ A5.out).mono ?_); rintro e w' ⟨rfl, ⟨nd, rfl⟩⟩; (try (rw [drewN_self w15]; generalize hq_ : World.drewN w15 _ = w15; replace BK482 : Aside0 (w15.heap[gb482]? = some (.cells #[.int .i64 0, .int .i64 0, .slice none 0 0] 25 (0, 0))) := ⟨by rw [← hq_]; exact (zK)⟩; replace HB : Aside0 (Below w.heap.size w w15) := ⟨by rw [← hq_]; exact (zHB)⟩; clear hq_)); obtain ⟨_, _, _, _, _, _⟩ := cells3 BK482.out))
   refine bodyPost_ret (results_cell_row rfl _ _ gb482 25 #[.int .i64 0, .int .i64 0, .slice none 0 0] (0, 0) _ rfl (zK) Try.underlying25 rfl (by kernel_rfl)) rfl ?_
   exact ⟨_, z1, z3, zHB⟩
 rw [if_pos rfl] at H
 obtain ⟨y485, hy_⟩ : ∃ y_ : List (S30), y_ = (([] : List (S30))) := ⟨_, rfl⟩
 replace H : ((impl_Table_blank.f k a0 a1 y485).bind fun bt488 => (some (bt488.1, bt488.2.1, bt488.2.2))) = some (r1, r2, r3) := zy
 have Ny485 := Ax hy_
 clear hy_
 obtain ⟨⟨t488, t489, t490⟩, A7, H⟩ := bnd H
 dsimp only at H
 simp only [Option.some.injEq, Prod.mk.injEq] at H
 obtain ⟨rfl, rfl, rfl⟩ := H
 go_enter Try.func21, Try.ntmps21
 go_wp2_with (first | ((with_reducible refine gate_dst (N := 4) rfl ?_); refine box_event ?hg (N := 4) ?hd (cs := #[.int .i64 0, .int .i64 0, .slice none 0 0]) (t := 25) ?hr ?_; (case hd => rfl); (case hg => rfl); (case hr => first | (go_simp; done) | (go_simp; rfl)); intro gb482 hg w8 hbox hb; have BK482 := Ax (hbox); have GW482 := Ax ((z2 : w.heap.size ≤ gb482)); have GE482 := Ax ((z2 : w.heap.size ≤ gb482)); replace HB := Ax (below_step (zHB) hb); clear hb hbox hg) | ((with_reducible refine gate_callee (f := 41) rfl ?_); refine goesL_ (some 6) rfl rfl Try.func41 (by kernel_rfl) rfl #[.int .i64 a0, .int .i64 1, .int .i64 5] rfl (z0) ?_; (with_reducible refine (impl_within.calls a0 1 5 true _ A3.out).mono ?_); rintro e w' ⟨rfl, ⟨nd, rfl⟩⟩; refine ⟨_, rfl, ?_⟩; (try (rw [drewN_self w8]; generalize hq_ : World.drewN w8 _ = w8; replace BK482 : Aside0 (w8.heap[gb482]? = some (.cells #[.int .i64 0, .int .i64 0, .slice none 0 0] 25 (0, 0))) := ⟨by rw [← hq_]; exact (zK)⟩; replace HB : Aside0 (Below w.heap.size w w8) := ⟨by rw [← hq_]; exact (zHB)⟩; clear hq_))) | (go_at_call 41; (with_reducible refine (impl_within.calls a1 1 5 true _ A5.out).mono ?_); rintro e w' ⟨rfl, ⟨nd, rfl⟩⟩; (try (rw [drewN_self w8]; generalize hq_ : World.drewN w8 _ = w8; replace BK482 : Aside0 (w8.heap[gb482]? = some (.cells #[.int .i64 0, .int .i64 0, .slice none 0 0] 25 (0, 0))) := ⟨by rw [← hq_]; exact (zK)⟩; replace HB : Aside0 (Below w.heap.size w w8) := ⟨by rw [← hq_]; exact (zHB)⟩; clear hq_))) | ((with_reducible refine gate_dst (N := 16) rfl ?_); refine Kd.S_lit k30 _ 30 ?hg (N := 16) ?hd (xs := ([] : List (S30))) (inner := []) (ok := fun _ => True) (okp := fun _ => True) ?hr ?hp (fun _ hk => hk) trivial (Below.refl _ _) (Nat.le_refl _) (by simp) ?_; (case hd => rfl); (case hg => rfl); (case hr => first | (go_simp; done) | (go_simp; rfl)); (case hp => exact (Reps.none _ _)); intro v486 w9 ho10 hb hg_ hnew_; clear hg_ hnew_; (first | rw [← Ny485.out] at ho10 | (simp only [Int.reduceToNat] at ho10; rw [← Ny485.out] at ho10)); have HO487 := Ax (Kd.S_lower ho10 (below_size (zHB))); replace BK482 := Ax (blk_below (g := gb482) (zK) hb); replace HB := Ax (below_step (zHB) hb); clear hb ho10; obtain ⟨Ao11, co11, eo11⟩ := Kd.S_slice HO487.out; subst eo11) | ((with_reducible refine gate_callee (f := 48) rfl ?_); refine goesL_ (some 18) rfl rfl Try.func48 (by kernel_rfl) rfl #[.agg #[.int .i64 a0, .int .i64 a1, .slice Ao11 y485.length co11]] rfl (z0) ?_; (with_reducible refine (impl_Table_blank.calls k a0 a1 _ _ y485 t488 t489 t490 w _ ?side1 ?side2 A7.out).mono ?_); (case side1 => exact (zHB)); (case side2 => exact Kd.S_mono (by (with_reducible repeat (first | apply Kd.S_alloc | apply Kd.S_drewN | apply Kd.S_drew)); exact HO487.out) (fun _ _ => trivial)); rintro e w12 ⟨v491, rfl, ho0, hb, hk⟩; refine ⟨_, rfl, ?_⟩; have HO492 := Ax ho0; replace BK482 := Ax (blk_kept (g := gb482) (o := .cells #[.int .i64 0, .int .i64 0, .slice none 0 0] 25 (0, 0)) (zK) hk (Kd.S_ne HO487.out BK482.out (by decide))); replace HO487 := Ax trivial; replace HB := Ax hb; (try clear hb); (try clear hb2); (try clear hk); (try clear hi); (try clear ho0); obtain ⟨_, _, _, _, _, _⟩ := cells3 BK482.out; obtain ⟨Ao14, co14, eo14⟩ := Kd.S_slice HO492.out; subst eo14))
 refine bodyPost_ret (results_cell_row rfl _ _ gb482 25 #[.int .i64 t488, .int .i64 t489, .slice Ao14 t490.length co14] (0, 0) _ rfl (zK) Try.underlying25 rfl (by kernel_rfl)) rfl ?_
 exact ⟨_, z1, by (with_reducible repeat (first | apply Kd.S_alloc | apply Kd.S_drewN | apply Kd.S_drew)); exact Kd.S_mono (Kd.S_far (p := ⟨gb482, 2, none⟩) (Kd.S_far (p := ⟨gb482, 1, none⟩) (Kd.S_far (p := ⟨gb482, 0, none⟩) (Kd.S_types HO492.out BK482.out (by decide)) (fun _ hk => hk.2) (.int .i64 t488)) (fun _ hk => hk.2) (.int .i64 t489)) (fun _ hk => hk.2) (.slice Ao14 t490.length co14)) (fun _ hk => trivial), zHB⟩
end Go.Proofs.Ytljgbeccmcidkaa.P
namespace Go.Proofs.Ytljgbeccmcidkaa.P
open Go.RowKit Go.Proofs.YtljgbeccmcidkaaW.PrintWords Go.Proofs.YtljgbeccmcidkaaW.PrintLast Go.Proofs.YtljgbeccmcidkaaW.PrintMore
attribute [local go_sem] max2_int min2_int max_two min_two max_three min_three max_four min_four   -- for this text's walks alone
set_option linter.unusedVariables false
set_option linter.unusedSimpArgs false

attribute [local go_sem ↓] isSome_setCell
/-! ### impl_Table_turn: function 50 -/
def impl_Table_turn.l0 : Nat → List (S30) → Int → Int → Int → Int → List (S30) → Option (Int × Int × (List (S30)))
  | 0, _, _, _, _, _, _ => none
  | k + 1, x13, x14, x15, x514000, x514001, x514002 => if x15 < x14 then (if 0 ≤ x15 then (if x15 < (x13.length : Int) then ((impl_cloneText.f ((rd_T30 x13 x15).f4)).bind fun t516 => (if x514002.length < 2513169434916 then (impl_Table_turn.l0 k x13 x14 (wrap64 (x15 + 1)) x514000 x514001 (x514002 ++ [(⟨(rd_T30 x13 x15).f1, (rd_T30 x13 x15).f0, (rd_T30 x13 x15).f3, (rd_T30 x13 x15).f2, t516⟩ : S30)])) else (none))) else (none)) else (none)) else ((impl_Table_blank.f k x514000 x514001 x514002).bind fun bt522 => (some (bt522.1, bt522.2.1, bt522.2.2)))
def impl_Table_turn.f (k : Nat) (a0_0 : Int) (a0_1 : Int) (l0_2 : List (S30)) : Option (Int × Int × (List (S30))) := impl_Table_turn.l0 k l0_2 (l0_2.length : Int) 0 a0_1 a0_0 (([] : List (S30)))
theorem impl_Table_turn.mono_l : ∀ k, (∀ y0 y1 y2 y3 y4 y5, LeO (impl_Table_turn.l0 k y0 y1 y2 y3 y4 y5) (impl_Table_turn.l0 (k + 1) y0 y1 y2 y3 y4 y5))
  | 0 => fun _ _ _ _ _ _ r h => by simp [impl_Table_turn.l0] at h
  | k + 1 => by
    have ih0 := impl_Table_turn.mono_l k
    · intro y0 y1 y2 y3 y4 y5
      unfold impl_Table_turn.l0
      with_reducible repeat' first | exact ih0 _ _ _ _ _ _ | exact impl_Table_blank.mono _ _ _ _ | exact LeO.refl _ | exact LeO.none _ | refine LeO.ite ?_ ?_ | refine LeO.bind ?_ (fun _ => ?_)
theorem impl_Table_turn.mono : ∀ a0 a1 a2 k, LeO (impl_Table_turn.f k a0 a1 a2) (impl_Table_turn.f (k + 1) a0 a1 a2) := by
  intro a0 a1 a2 k
  have ih0 := impl_Table_turn.mono_l k
  unfold impl_Table_turn.f
  with_reducible repeat' first | exact ih0 _ _ _ _ _ _ | exact impl_Table_blank.mono _ _ _ _ | exact LeO.refl _ | exact LeO.none _ | refine LeO.ite ?_ ?_ | refine LeO.bind ?_ (fun _ => ?_)
def impl_Table_turn.T5 : Bool × List (List Nat × List Nat) := (true, [([], []), ([0], [0]), ([], []), ([2], [2]), ([], []), ([4], [4]), ([], []), ([6], [6]), ([], []), ([8], [8]), ([], []), ([10], [10]), ([11], [11]), ([3, 5, 7, 9, 12], [3, 5, 7, 9, 12]), ([13], [13]), ([1, 14, 12], [1, 14]), ([0, 1, 2, 3, 4, 5, 6, 7, 8, 9, 10, 11, 12, 13, 14, 15], []), ([16, 15, 15, 0, 1, 2, 3, 4, 5, 6, 7, 8, 9, 10, 11, 12, 13, 14, 15], [15, 16])])
def impl_Table_turn.B5 : List Nat := [0, 1, 0, 4, 0, 16, 0, 64, 0, 256, 0, 1024, 3072, 8188, 16380, 32767, 65535, 131071]
theorem impl_Table_turn.tab5 : rtab .any (opsOf Try.f50 5) = impl_Table_turn.T5 := by kernel_rfl
theorem impl_Table_turn.bits5 : waitsOk impl_Table_turn.T5.2 impl_Table_turn.B5 = true := by kernel_rfl
theorem impl_Table_turn.zHB {p : Prop} (h : p := by repeat (first | (with_reducible first | exact HB.out | apply below_alloc | apply pw_below_drewN | apply below_drew1 | refine below_set ?_ GE508.out | refine below_set ?_ GE509.out | refine below_set ?_ GE513.out | refine below_set ?_ GE515.out) | exact HB.out)) : p := h
theorem impl_Table_turn.zK {p : Prop} (h : p := by repeat' first | (with_reducible first | exact BK508.out | exact BK509.out | exact BK513.out | exact BK515.out | apply blk_drewN | apply blk_drew | apply blk_alloc | apply blk_far (hp := NB508_513.out) | apply blk_far (hp := NB509_513.out) | apply blk_far (hp := NB508_515.out) | apply blk_far (hp := NB509_515.out) | apply blk_far (hp := NB513_515.out) | apply blk_putE) | exact (rfl : List.set _ _ _ = _)) : p := h
theorem impl_Table_turn.z0 {p : Prop} (h : p := by rw [hg]; exact (below_size (zHB))) : p := h
theorem impl_Table_turn.z1 {p : Prop} (h : p := by (with_reducible repeat (first | apply Kd.S_alloc | apply Kd.S_drewN | apply Kd.S_drew)); exact HO_514002.out) : p := h
theorem impl_Table_turn.z2 {p : Prop} (h : p := by (try simp only [List.map_toArray, List.map_cons, List.map_nil]); first | done | rfl | (simp only [List.length_drop, List.length_take]; rfl)) : p := h
theorem impl_Table_turn.z3 {p : Prop} (h : p := by rw [hg]; exact Nat.ne_of_lt (blk_lt (g := gb508) (zK))) : p := h
theorem impl_Table_turn.z4 {p : Prop} (h : p := by rw [hg]; exact Nat.ne_of_gt (blk_lt (g := gb508) (zK))) : p := h
theorem impl_Table_turn.zy {p : Prop} (h : p := by first | (rw [hy_]; with_reducible exact H) | (have H2_ := (Option.bind_some _ _).symm.trans H; rw [hy_]; with_reducible exact H2_) | (have H2_ := (Option.bind_some _ _).symm.trans H; with_reducible exact H2_) | with_reducible exact H | (rw [hy_]; exact H) | exact H) : p := h
set_option maxHeartbeats 8000000 in
set_option maxRecDepth 100000 in
theorem impl_Table_turn.calls (k : Nat) (a0_0 : Int) (a0_1 : Int) (A0_2 : Option Addr) (c0_2 : Nat) (l0_2 : List (S30)) (r1 : Int) (r2 : Int) (r3 : List (S30)) (w : World) (hr0_2 : Kd.C k30 w A0_2 l0_2.length l0_2) (hc0_2 : l0_2.length ≤ c0_2) (h : impl_Table_turn.f k a0_0 a0_1 l0_2 = some (r1, r2, r3)) :
    Calls Try.prog 50 #[.agg #[.int .i64 a0_0, .int .i64 a0_1, .slice A0_2 l0_2.length c0_2]] w fun e w' => ∃ v2_ : Value, e = .returned (.agg #[.int .i64 r1, .int .i64 r2, v2_]) ∧ Kd.S k30 30 w' w.heap.size (fun _ => True) v2_ r3 ∧ Below w.heap.size w w' := by
 have hu25 := Try.underlying25
 have hu30 := Try.underlying30
 have HR0_2 := Ax hr0_2
 have HC0_2 := Ax hc0_2
 clear hr0_2 hc0_2
 have HB := Ax (Below.refl w.heap.size w)
 have H : (impl_Table_turn.l0 k l0_2 (l0_2.length : Int) 0 a0_1 a0_0 (([] : List (S30)))) = some (r1, r2, r3) := h
 clear h
 obtain ⟨y510, hy_⟩ : ∃ y_ : List (S30), y_ = (([] : List (S30))) := ⟨_, rfl⟩
 replace H : (impl_Table_turn.l0 k l0_2 (l0_2.length : Int) 0 a0_1 a0_0 y510) = some (r1, r2, r3) := zy
 have Ny510 := Ax hy_
 clear hy_
 have H' := Ax H
 clear H
 go_enter Try.func50, Try.ntmps50
 go_wp2_with (first | ((with_reducible refine gate_dst (N := 1) rfl ?_); refine box_event ?hg (N := 1) ?hd (cs := #[.int .i64 a0_0, .int .i64 a0_1, .slice A0_2 l0_2.length c0_2]) (t := 25) ?hr ?_; (case hd => rfl); (case hg => rfl); (case hr => first | (go_simp; done) | (go_simp; rfl)); intro gb508 hg w2 hbox hb; have BK508 := Ax (hbox); have GW508 := Ax ((z0 : w.heap.size ≤ gb508)); have GE508 := Ax ((z0 : w.heap.size ≤ gb508)); replace HB := Ax (below_step (zHB) hb); clear hb hbox hg) | ((with_reducible refine gate_dst (N := 2) rfl ?_); refine box_event ?hg (N := 2) ?hd (cs := #[.int .i64 0, .int .i64 0, .slice none 0 0]) (t := 25) ?hr ?_; (case hd => rfl); (case hg => rfl); (case hr => first | (go_simp; done) | (go_simp; rfl)); intro gb509 hg w3 hbox hb; have BK509 := Ax (hbox); have GW509 := Ax ((z0 : w.heap.size ≤ gb509)); have GE509 := Ax ((z0 : w.heap.size ≤ gb509)); replace HB := Ax (below_step (zHB) hb); have NB508_509 := Ax ((z3 : gb508 ≠ gb509)); have NB509_508 := Ax ((z4 : gb509 ≠ gb508)); replace BK508 := Ax (blk_below (g := gb508) (zK) hb); clear hb hbox hg; have hnb4 := NB508_509.out; have hnc4 := NB509_508.out; obtain ⟨hcz5_0, hcz5_1, hcz5_2, hfz5_0, hfz5_1, hfz5_2⟩ := cells3 BK508.out) | ((with_reducible refine gate_dst (N := 10) rfl ?_); refine Kd.S_lit k30 _ 30 ?hg (N := 10) ?hd (xs := ([] : List (S30))) (inner := []) (ok := fun _ => True) (okp := fun _ => True) ?hr ?hp (fun _ hk => hk) trivial (Below.refl _ _) (Nat.le_refl _) (by simp) ?_; (case hd => rfl); (case hg => rfl); (case hr => first | (go_simp; done) | (go_simp; rfl)); (case hp => exact (Reps.none _ _)); intro v511 w6 ho7 hb hg_ hnew_; clear hg_ hnew_; (first | rw [← Ny510.out] at ho7 | (simp only [Int.reduceToNat] at ho7; rw [← Ny510.out] at ho7)); have HO512 := Ax (Kd.S_lower ho7 (below_size (zHB))); replace BK508 := Ax (blk_below (g := gb508) (zK) hb); replace BK509 := Ax (blk_below (g := gb509) (zK) hb); replace HB := Ax (below_step (zHB) hb); clear hb ho7; obtain ⟨Ao8, co8, eo8⟩ := Kd.S_slice HO512.out; subst eo8) | ((with_reducible refine gate_dst (N := 3) rfl ?_); refine box_event ?hg (N := 3) ?hd (cs := #[.int .i64 0, .int .i64 0, .slice none 0 0]) (t := 25) ?hr ?_; (case hd => rfl); (case hg => rfl); (case hr => first | (go_simp; done) | (go_simp; rfl)); intro gb513 hg w9 hbox hb; replace HO512 := Ax (Kd.S_below (by (with_reducible repeat (first | apply Kd.S_alloc | apply Kd.S_drewN | apply Kd.S_drew)); exact HO512.out) hb); have BK513 := Ax (hbox); have GW513 := Ax ((z0 : w.heap.size ≤ gb513)); have GE513 := Ax ((z0 : w.heap.size ≤ gb513)); replace HB := Ax (below_step (zHB) hb); have NB508_513 := Ax ((z3 : gb508 ≠ gb513)); have NB513_508 := Ax ((z4 : gb513 ≠ gb508)); replace BK508 := Ax (blk_below (g := gb508) (zK) hb); have NB509_513 := Ax ((by rw [hg]; exact Nat.ne_of_lt (blk_lt (g := gb509) (zK)) : gb509 ≠ gb513)); have NB513_509 := Ax ((by rw [hg]; exact Nat.ne_of_gt (blk_lt (g := gb509) (zK)) : gb513 ≠ gb509)); replace BK509 := Ax (blk_below (g := gb509) (zK) hb); clear hb hbox hg; have hnb10 := NB513_508.out; have hnc10 := NB508_513.out; have hnb11 := NB513_509.out; have hnc11 := NB509_513.out; obtain ⟨hcz12_0, hcz12_1, hcz12_2, hfz12_0, hfz12_1, hfz12_2⟩ := cells3 BK513.out; obtain ⟨hcz13_0, hcz13_1, hcz13_2, hfz13_0, hfz13_1, hfz13_2⟩ := cells3 BK508.out))
 go_loopg [15] k (fun kq v15 w' => ∃ (x15_1 : Int) (x514002_1 : List (S30)) (u514002 : Value), v15 = .int .i64 x15_1 ∧ Aside0 (impl_Table_turn.l0 kq l0_2 (l0_2.length : Int) x15_1 a0_1 a0_0 x514002_1 = some (r1, r2, r3)) ∧ Aside0 (kq ≤ k) ∧ Aside0 (Kd.S k30 30 w' w.heap.size (fun _ => True) u514002 x514002_1) ∧ Aside0 (w'.heap[gb508]? = some (.cells #[.int .i64 a0_0, .int .i64 a0_1, (.slice A0_2 l0_2.length c0_2)] 25 (0, 0))) ∧ Aside0 (w'.heap[gb509]? = some (.cells #[.int .i64 0, .int .i64 0, (.slice none 0 0)] 25 (0, 0))) ∧ Aside0 (w'.heap[gb513]? = some (.cells #[.int .i64 a0_1, .int .i64 a0_0, u514002] 25 (0, 0))) ∧ Aside0 (Below w.heap.size w w'))
 case atStart => exact ⟨(0), (y510), (.slice Ao8 y510.length co8), (by first | rfl | (simp; done) | (simp [*]; done)), H', ⟨Nat.le_refl _⟩, ⟨by (with_reducible repeat (first | apply Kd.S_alloc | apply Kd.S_drewN | apply Kd.S_drew)); exact Kd.S_mono (Kd.S_far (p := ⟨gb513, 2, none⟩) (Kd.S_far (p := ⟨gb513, 1, none⟩) (Kd.S_far (p := ⟨gb513, 0, none⟩) (Kd.S_types HO512.out BK513.out (by decide)) (fun _ hk => hk.2) (.int .i64 a0_1)) (fun _ hk => hk.2) (.int .i64 a0_0)) (fun _ hk => hk.2) (.slice Ao8 y510.length co8)) (fun _ hk => trivial)⟩, ⟨zK⟩, ⟨zK⟩, ⟨zK⟩, ⟨zHB⟩⟩
 clear H'
 (try clear hcz12_0); (try clear hcz12_1); (try clear hcz12_2); (try clear hcz13_0); (try clear hcz13_1); (try clear hcz13_2); (try clear hcz5_0); (try clear hcz5_1); (try clear hcz5_2); (try clear hfz12_0); (try clear hfz12_1); (try clear hfz12_2); (try clear hfz13_0); (try clear hfz13_1); (try clear hfz13_2); (try clear hfz5_0); (try clear hfz5_1); (try clear hfz5_2)
 obtain ⟨x15_1, x514002_1, u514002, rfl, HA, HK1, HO_514002, BK508, BK509, BK513, HB⟩ := hrel
 cases gk with
 | zero => exact absurd HA.out (by simp [impl_Table_turn.l0])
 | succ k1 =>
  have H := HA.out
  clear HA
  simp only [impl_Table_turn.l0] at H
  by_cases c14 : x15_1 < (l0_2.length : Int)
  rotate_left
  · rw [if_neg c14] at H
    have c14b0 := decide_eq_false c14
    clear c14
    obtain ⟨⟨t522, t523, t524⟩, A31, H⟩ := bnd H
    dsimp only at H
    simp only [Option.some.injEq, Prod.mk.injEq] at H
    obtain ⟨rfl, rfl, rfl⟩ := H
    have hnb32 := NB513_508.out
    have hnc32 := NB508_513.out
    have hnb33 := NB513_509.out
    have hnc33 := NB509_513.out
    obtain ⟨_, _, _, _, _, _⟩ := cells3 BK513.out
    obtain ⟨Ao35, co35, eo35⟩ := Kd.S_slice HO_514002.out
    subst eo35
    go_wp2_with (first | ((with_reducible refine gate_callee (f := 48) rfl ?_); refine goesL_ (some 38) rfl rfl Try.func48 (by kernel_rfl) rfl #[.agg #[.int .i64 a0_1, .int .i64 a0_0, .slice Ao35 x514002_1.length co35]] rfl (z2) ?_; (with_reducible refine (impl_Table_blank.calls k1 a0_1 a0_0 _ _ x514002_1 t522 t523 t524 w _ ?side1 ?side2 A31.out).mono ?_); (case side1 => exact (zHB)); (case side2 => exact Kd.S_mono (z1) (fun _ _ => trivial)); rintro e w36 ⟨v525, rfl, ho0, hb, hk⟩; refine ⟨_, rfl, ?_⟩; have HO526 := Ax ho0; replace BK508 := Ax (blk_kept (g := gb508) (o := .cells #[.int .i64 a0_0, .int .i64 a0_1, .slice A0_2 l0_2.length c0_2] 25 (0, 0)) (zK) hk (Kd.S_ne HO_514002.out BK508.out (by decide))); replace BK509 := Ax (blk_kept (g := gb509) (o := .cells #[.int .i64 0, .int .i64 0, .slice none 0 0] 25 (0, 0)) (zK) hk (Kd.S_ne HO_514002.out BK509.out (by decide))); replace BK513 := Ax (blk_kept (g := gb513) (o := .cells #[.int .i64 a0_1, .int .i64 a0_0, .slice Ao35 x514002_1.length co35] 25 (0, 0)) (zK) hk (Kd.S_ne HO_514002.out BK513.out (by decide))); replace HO_514002 := Ax trivial; replace HB := Ax hb; (try clear hb); (try clear hb2); (try clear hk); (try clear hi); (try clear ho0); have hnb37 := NB509_508.out; have hnc37 := NB508_509.out; obtain ⟨_, _, _, _, _, _⟩ := cells3 BK509.out; obtain ⟨Ao39, co39, eo39⟩ := Kd.S_slice HO526.out; subst eo39))
    refine bodyPost_ret (results_cell_row rfl _ _ gb509 25 #[.int .i64 t522, .int .i64 t523, .slice Ao39 t524.length co39] (0, 0) _ rfl (zK) Try.underlying25 rfl (by kernel_rfl)) rfl ?_
    exact ⟨_, by first | rfl | (simp [errW_none, errW_some] <;> rfl) | (simp [*, errW_none, errW_some] <;> rfl), by (with_reducible repeat (first | apply Kd.S_alloc | apply Kd.S_drewN | apply Kd.S_drew)); exact Kd.S_mono (Kd.S_far (p := ⟨gb509, 2, none⟩) (Kd.S_far (p := ⟨gb509, 1, none⟩) (Kd.S_far (p := ⟨gb509, 0, none⟩) (Kd.S_types HO526.out BK509.out (by decide)) (fun _ hk => hk.2) (.int .i64 t522)) (fun _ hk => hk.2) (.int .i64 t523)) (fun _ hk => hk.2) (.slice Ao39 t524.length co39)) (fun _ hk => trivial), zHB⟩
  rw [if_pos c14] at H
  have c14b0 := decide_eq_true c14
  clear c14
  by_cases c15 : 0 ≤ x15_1
  rotate_left
  · rw [if_neg c15] at H
    exact absurd H (by simp)
  rw [if_pos c15] at H
  have c15b0 := decide_eq_true c15
  clear c15
  by_cases c16 : x15_1 < (l0_2.length : Int)
  rotate_left
  · rw [if_neg c16] at H
    exact absurd H (by simp)
  rw [if_pos c16] at H
  have c16b0 := decide_eq_true c16
  clear c16
  obtain ⟨t516, A17, H⟩ := bnd H
  by_cases c18 : x514002_1.length < 2513169434916
  rotate_left
  · rw [if_neg c18] at H
    exact absurd H (by simp)
  rw [if_pos c18] at H
  have LMc18 := Ax c18
  clear c18
  obtain ⟨y519, hy_⟩ : ∃ y_ : List (S30), y_ = (x514002_1 ++ [(⟨(rd_T30 l0_2 x15_1).f1, (rd_T30 l0_2 x15_1).f0, (rd_T30 l0_2 x15_1).f3, (rd_T30 l0_2 x15_1).f2, t516⟩ : S30)]) := ⟨_, rfl⟩
  replace H : (impl_Table_turn.l0 k1 l0_2 (l0_2.length : Int) (wrap64 (x15_1 + 1)) a0_1 a0_0 y519) = some (r1, r2, r3) := zy
  have Ny519 := Ax hy_
  clear hy_
  have H' := Ax H
  clear H
  have p514 : 0 ≤ (x15_1 : Int) := of_decide_eq_true (by first | (with_reducible assumption) | assumption)
  have q514 : x15_1 < (l0_2.length : Int) := of_decide_eq_true (by first | (with_reducible assumption) | assumption)
  obtain ⟨ad514, A514_4, c514_4, e514, hx514_0, hx514_1, hx514_2, hx514_3, hx514_4, hl514_4, hi514_4⟩ := at_T30 HR0_2.out x15_1 p514 q514
  cases e514
  replace hx514_0 := (HB.out.cell (World.block_lt_of_cell? w _ hx514_0)).trans hx514_0
  replace hx514_1 := (HB.out.cell (World.block_lt_of_cell? w _ hx514_1)).trans hx514_1
  replace hx514_2 := (HB.out.cell (World.block_lt_of_cell? w _ hx514_2)).trans hx514_2
  replace hx514_3 := (HB.out.cell (World.block_lt_of_cell? w _ hx514_3)).trans hx514_3
  replace hx514_4 := (HB.out.cell (World.block_lt_of_cell? w _ hx514_4)).trans hx514_4
  have HR514_4 := Ax hi514_4
  have HC514_4 := Ax hl514_4
  clear hi514_4 hl514_4
  replace p514 := eq_true p514
  replace q514 := eq_true q514
  try go_wp2_with (first | ((with_reducible refine gate_dst (N := 5) rfl ?_); refine box_event ?hg (N := 5) ?hd (cs := #[.int .i64 0, .int .i64 0, .int .i64 0, .int .i64 0, .slice none 0 0]) (t := 30) ?hr ?_; (case hd => rfl); (case hg => rfl); (case hr => first | (go_simp; done) | (go_simp; rfl)); intro gb515 hg w19 hbox hb; replace HO_514002 := Ax (Kd.S_below (Kd.S_elderB (z1) gb515 (Nat.le_of_eq hg.symm)) hb); have BK515 := Ax (hbox); have GW515 := Ax ((z0 : w.heap.size ≤ gb515)); have GE515 := Ax ((z0 : w.heap.size ≤ gb515)); replace HB := Ax (below_step (zHB) hb); have NB508_515 := Ax ((z3 : gb508 ≠ gb515)); have NB515_508 := Ax ((z4 : gb515 ≠ gb508)); replace BK508 := Ax (blk_below (g := gb508) (zK) hb); have NB509_515 := Ax ((by rw [hg]; exact Nat.ne_of_lt (blk_lt (g := gb509) (zK)) : gb509 ≠ gb515)); have NB515_509 := Ax ((by rw [hg]; exact Nat.ne_of_gt (blk_lt (g := gb509) (zK)) : gb515 ≠ gb509)); replace BK509 := Ax (blk_below (g := gb509) (zK) hb); have NB513_515 := Ax ((by rw [hg]; exact Nat.ne_of_lt (blk_lt (g := gb513) (zK)) : gb513 ≠ gb515)); have NB515_513 := Ax ((by rw [hg]; exact Nat.ne_of_gt (blk_lt (g := gb513) (zK)) : gb515 ≠ gb513)); replace BK513 := Ax (blk_below (g := gb513) (zK) hb); clear hb hbox hg; have hnb20 := NB515_508.out; have hnc20 := NB508_515.out; have hnb21 := NB515_509.out; have hnc21 := NB509_515.out; have hnb22 := NB515_513.out; have hnc22 := NB513_515.out; obtain ⟨_, _, _, _, _, _, _, _, _, _⟩ := cells5 BK515.out))
  have n0_ : Aside0 (Kd.S k30 30 (((((w19.setCell ⟨gb515, 0, none⟩ (.int .i64 ((rd_T30 l0_2 x15_1).f0))).setCell ⟨gb515, 1, none⟩ (.int .i64 ((rd_T30 l0_2 x15_1).f1))).setCell ⟨gb515, 2, none⟩ (.int .i64 ((rd_T30 l0_2 x15_1).f2))).setCell ⟨gb515, 3, none⟩ (.int .i64 ((rd_T30 l0_2 x15_1).f3))).setCell ⟨gb515, 4, none⟩ (.slice A514_4 ((rd_T30 l0_2 x15_1).f4).length c514_4)) w.heap.size (fun k_ => k_ ≠ gb515) u514002 x514002_1) := ⟨by (with_reducible repeat (first | apply Kd.S_alloc | apply Kd.S_drewN | apply Kd.S_drew)); exact Kd.S_mono (Kd.S_far (p := ⟨gb515, 4, none⟩) (Kd.S_far (p := ⟨gb515, 3, none⟩) (Kd.S_far (p := ⟨gb515, 2, none⟩) (Kd.S_far (p := ⟨gb515, 1, none⟩) (Kd.S_far (p := ⟨gb515, 0, none⟩) (Kd.S_mono HO_514002.out (fun k_ hk => (⟨hk, hk.2⟩ : _ ∧ k_ ≠ gb515))) (fun _ hk => hk.2) (.int .i64 ((rd_T30 l0_2 x15_1).f0))) (fun _ hk => hk.2) (.int .i64 ((rd_T30 l0_2 x15_1).f1))) (fun _ hk => hk.2) (.int .i64 ((rd_T30 l0_2 x15_1).f2))) (fun _ hk => hk.2) (.int .i64 ((rd_T30 l0_2 x15_1).f3))) (fun _ hk => hk.2) (.slice A514_4 ((rd_T30 l0_2 x15_1).f4).length c514_4)) (fun _ hk => hk.1.2)⟩
  have n1_ : Aside0 ((((((w19.setCell ⟨gb515, 0, none⟩ (.int .i64 ((rd_T30 l0_2 x15_1).f0))).setCell ⟨gb515, 1, none⟩ (.int .i64 ((rd_T30 l0_2 x15_1).f1))).setCell ⟨gb515, 2, none⟩ (.int .i64 ((rd_T30 l0_2 x15_1).f2))).setCell ⟨gb515, 3, none⟩ (.int .i64 ((rd_T30 l0_2 x15_1).f3))).setCell ⟨gb515, 4, none⟩ (.slice A514_4 ((rd_T30 l0_2 x15_1).f4).length c514_4)).heap[gb508]? = some (.cells #[.int .i64 a0_0, .int .i64 a0_1, .slice (some ad514) l0_2.length c0_2] 25 (0, 0))) := ⟨zK⟩
  have n2_ : Aside0 ((((((w19.setCell ⟨gb515, 0, none⟩ (.int .i64 ((rd_T30 l0_2 x15_1).f0))).setCell ⟨gb515, 1, none⟩ (.int .i64 ((rd_T30 l0_2 x15_1).f1))).setCell ⟨gb515, 2, none⟩ (.int .i64 ((rd_T30 l0_2 x15_1).f2))).setCell ⟨gb515, 3, none⟩ (.int .i64 ((rd_T30 l0_2 x15_1).f3))).setCell ⟨gb515, 4, none⟩ (.slice A514_4 ((rd_T30 l0_2 x15_1).f4).length c514_4)).heap[gb509]? = some (.cells #[.int .i64 0, .int .i64 0, .slice none 0 0] 25 (0, 0))) := ⟨zK⟩
  have n3_ : Aside0 ((((((w19.setCell ⟨gb515, 0, none⟩ (.int .i64 ((rd_T30 l0_2 x15_1).f0))).setCell ⟨gb515, 1, none⟩ (.int .i64 ((rd_T30 l0_2 x15_1).f1))).setCell ⟨gb515, 2, none⟩ (.int .i64 ((rd_T30 l0_2 x15_1).f2))).setCell ⟨gb515, 3, none⟩ (.int .i64 ((rd_T30 l0_2 x15_1).f3))).setCell ⟨gb515, 4, none⟩ (.slice A514_4 ((rd_T30 l0_2 x15_1).f4).length c514_4)).heap[gb513]? = some (.cells #[.int .i64 a0_1, .int .i64 a0_0, u514002] 25 (0, 0))) := ⟨zK⟩
  have n4_ : Aside0 ((((((w19.setCell ⟨gb515, 0, none⟩ (.int .i64 ((rd_T30 l0_2 x15_1).f0))).setCell ⟨gb515, 1, none⟩ (.int .i64 ((rd_T30 l0_2 x15_1).f1))).setCell ⟨gb515, 2, none⟩ (.int .i64 ((rd_T30 l0_2 x15_1).f2))).setCell ⟨gb515, 3, none⟩ (.int .i64 ((rd_T30 l0_2 x15_1).f3))).setCell ⟨gb515, 4, none⟩ (.slice A514_4 ((rd_T30 l0_2 x15_1).f4).length c514_4)).heap[gb515]? = some (.cells #[.int .i64 ((rd_T30 l0_2 x15_1).f0), .int .i64 ((rd_T30 l0_2 x15_1).f1), .int .i64 ((rd_T30 l0_2 x15_1).f2), .int .i64 ((rd_T30 l0_2 x15_1).f3), .slice A514_4 ((rd_T30 l0_2 x15_1).f4).length c514_4] 30 (0, 0))) := ⟨zK⟩
  have n5_ : Aside0 (Below w.heap.size w (((((w19.setCell ⟨gb515, 0, none⟩ (.int .i64 ((rd_T30 l0_2 x15_1).f0))).setCell ⟨gb515, 1, none⟩ (.int .i64 ((rd_T30 l0_2 x15_1).f1))).setCell ⟨gb515, 2, none⟩ (.int .i64 ((rd_T30 l0_2 x15_1).f2))).setCell ⟨gb515, 3, none⟩ (.int .i64 ((rd_T30 l0_2 x15_1).f3))).setCell ⟨gb515, 4, none⟩ (.slice A514_4 ((rd_T30 l0_2 x15_1).f4).length c514_4))) := ⟨zHB⟩
  (try clear HO_514002); (try clear BK508); (try clear BK509); (try clear BK513); (try clear BK515); (try clear HB)
  generalize (((((w19.setCell ⟨gb515, 0, none⟩ (.int .i64 ((rd_T30 l0_2 x15_1).f0))).setCell ⟨gb515, 1, none⟩ (.int .i64 ((rd_T30 l0_2 x15_1).f1))).setCell ⟨gb515, 2, none⟩ (.int .i64 ((rd_T30 l0_2 x15_1).f2))).setCell ⟨gb515, 3, none⟩ (.int .i64 ((rd_T30 l0_2 x15_1).f3))).setCell ⟨gb515, 4, none⟩ (.slice A514_4 ((rd_T30 l0_2 x15_1).f4).length c514_4)) = w24 at n0_ n1_ n2_ n3_ n4_ n5_ ⊢
  have HO_514002 := n0_
  have BK508 := n1_
  have BK509 := n2_
  have BK513 := n3_
  have BK515 := n4_
  have HB := n5_
  clear n0_ n1_ n2_ n3_ n4_ n5_
  replace HO_514002 := Ax (Kd.S_drew HO_514002.out)
  replace BK508 := Ax (blk_drew BK508.out)
  replace BK509 := Ax (blk_drew BK509.out)
  replace BK513 := Ax (blk_drew BK513.out)
  replace BK515 := Ax (blk_drew BK515.out)
  replace HB := Ax (below_drew1 HB.out)
  refine start_ (n := 18) (S := fun w' => w'.cell? ⟨gb513, 0, none⟩ = some (.int .i64 a0_1) ∧ w'.cell? ⟨gb513, 1, none⟩ = some (.int .i64 a0_0) ∧ w'.cell? ⟨gb513, 2, none⟩ = some (u514002) ∧ w'.cell? ⟨gb515, 0, none⟩ = some (.int .i64 ((rd_T30 l0_2 x15_1).f0)) ∧ w'.cell? ⟨gb515, 1, none⟩ = some (.int .i64 ((rd_T30 l0_2 x15_1).f1)) ∧ w'.cell? ⟨gb515, 2, none⟩ = some (.int .i64 ((rd_T30 l0_2 x15_1).f2)) ∧ w'.cell? ⟨gb515, 3, none⟩ = some (.int .i64 ((rd_T30 l0_2 x15_1).f3)) ∧ w'.cell? ⟨gb515, 4, none⟩ = some (.slice A514_4 ((rd_T30 l0_2 x15_1).f4).length c514_4)) (ds := [17]) #[false, false, false, false, false, false, false, false, false, false, false, false, false, false, false, false, false, false] (by kernel_rfl) rfl rfl ⟨(blk_cell BK513.out 0).trans rfl, (blk_cell BK513.out 1).trans rfl, (blk_cell BK513.out 2).trans rfl, (blk_cell BK515.out 0).trans rfl, (blk_cell BK515.out 1).trans rfl, (blk_cell BK515.out 2).trans rfl, (blk_cell BK515.out 3).trans rfl, (blk_cell BK515.out 4).trans rfl⟩ (fun hHeld => ?_); refine with_tabW impl_Table_turn.tab5 impl_Table_turn.bits5 (fun HT_ HW_ => ?_)
  generalize w24.drew = w25 at HO_514002 BK508 BK509 BK513 BK515 HB hHeld ⊢
  refine pure_ (i := 0) (N := some 19) (v := ?_) (a' := ?_) (bl 18 1) rfl rfl (any_of HT_.out (by kernel_rfl)) (fun _ _ _ h => h) (Or.inl ⟨by rfl, ?_⟩) ?_ ?_
  rotate_left
  · exact zEv
  rotate_left
  · exact zAct
  refine pure_ (i := 2) (N := some 21) (v := ?_) (a' := ?_) (bl 18 5) rfl rfl (any_of HT_.out (by kernel_rfl)) (fun _ _ _ h => h) (Or.inl ⟨by rfl, ?_⟩) ?_ ?_
  rotate_left
  · exact zEv
  rotate_left
  · exact zAct
  refine pure_ (i := 4) (N := some 23) (v := ?_) (a' := ?_) (bl 18 21) rfl rfl (any_of HT_.out (by kernel_rfl)) (fun _ _ _ h => h) (Or.inl ⟨by rfl, ?_⟩) ?_ ?_
  rotate_left
  · exact zEv
  rotate_left
  · exact zAct
  refine pure_ (i := 6) (N := some 25) (v := ?_) (a' := ?_) (bl 18 85) rfl rfl (any_of HT_.out (by kernel_rfl)) (fun _ _ _ h => h) (Or.inl ⟨by rfl, ?_⟩) ?_ ?_
  rotate_left
  · exact zEv
  rotate_left
  · exact zAct
  refine pure_ (i := 8) (N := some 27) (v := ?_) (a' := ?_) (bl 18 341) rfl rfl (any_of HT_.out (by kernel_rfl)) (fun _ _ _ h => h) (Or.inl ⟨by rfl, ?_⟩) ?_ ?_
  rotate_left
  · exact zEv
  rotate_left
  · exact zAct
  refine pure_ (i := 10) (N := some 29) (v := ?_) (a' := ?_) (bl 18 1365) rfl rfl (any_of HT_.out (by kernel_rfl)) (fun _ _ _ h => h) (Or.inl ⟨by rfl, ?_⟩) ?_ ?_
  rotate_left
  · exact zEv
  rotate_left
  · exact zAct
  refine take_ (i := 1) (N := some 20) (v := ?_) (a' := ?_) (bl 18 1367) rfl rfl (take_ofW HT_.out HW_.out (by kernel_rfl)) (fun _ _ _ h => h) (Or.inl ⟨by rfl, ?_⟩) hHeld ?_ ?_
  rotate_left
  · rintro w' ⟨s0, s1, s2, s3, s4, s5, s6, s7⟩
    go_simp
    with_reducible rfl
  rotate_left
  · exact zAct
  refine take_ (i := 3) (N := some 22) (v := ?_) (a' := ?_) (bl 18 1375) rfl rfl (take_ofW HT_.out HW_.out (by kernel_rfl)) (fun _ _ _ h => h) (Or.inl ⟨by rfl, ?_⟩) hHeld ?_ ?_
  rotate_left
  · rintro w' ⟨s0, s1, s2, s3, s4, s5, s6, s7⟩
    go_simp
    with_reducible rfl
  rotate_left
  · exact zAct
  refine take_ (i := 5) (N := some 24) (v := ?_) (a' := ?_) (bl 18 1407) rfl rfl (take_ofW HT_.out HW_.out (by kernel_rfl)) (fun _ _ _ h => h) (Or.inl ⟨by rfl, ?_⟩) hHeld ?_ ?_
  rotate_left
  · rintro w' ⟨s0, s1, s2, s3, s4, s5, s6, s7⟩
    go_simp
    with_reducible rfl
  rotate_left
  · exact zAct
  refine take_ (i := 7) (N := some 26) (v := ?_) (a' := ?_) (bl 18 1535) rfl rfl (take_ofW HT_.out HW_.out (by kernel_rfl)) (fun _ _ _ h => h) (Or.inl ⟨by rfl, ?_⟩) hHeld ?_ ?_
  rotate_left
  · rintro w' ⟨s0, s1, s2, s3, s4, s5, s6, s7⟩
    go_simp
    with_reducible rfl
  rotate_left
  · exact zAct
  refine take_ (i := 9) (N := some 28) (v := ?_) (a' := ?_) (bl 18 2047) rfl rfl (take_ofW HT_.out HW_.out (by kernel_rfl)) (fun _ _ _ h => h) (Or.inl ⟨by rfl, ?_⟩) hHeld ?_ ?_
  rotate_left
  · rintro w' ⟨s0, s1, s2, s3, s4, s5, s6, s7⟩
    go_simp
    with_reducible rfl
  rotate_left
  · exact zAct
  refine take_ (i := 11) (N := some 30) (v := ?_) (a' := ?_) (bl 18 4095) rfl rfl (take_ofW HT_.out HW_.out (by kernel_rfl)) (fun _ _ _ h => h) (Or.inl ⟨by rfl, ?_⟩) hHeld ?_ ?_
  rotate_left
  · rintro w' ⟨s0, s1, s2, s3, s4, s5, s6, s7⟩
    go_simp
    with_reducible rfl
  rotate_left
  · exact zAct
  refine one_ (i := 12) (N := some 31) (bl 18 8191) rfl rfl (one_of HT_.out (by kernel_rfl)) (by decide) (fun K hK => ?_)
  refine goes_ Try.func66 (by kernel_rfl) rfl #[.slice A514_4 ((rd_T30 l0_2 x15_1).f4).length c514_4] (by rfl) rfl rfl (z2) ?_
  with_reducible refine (impl_cloneText.calls _ _ ((rd_T30 l0_2 x15_1).f4) t516 _ ?side1 ?side2 A17.out).mono ?_
  (case side1 => repeat (first | exact (Kd.C_below HR514_4.out HB.out) | (with_reducible refine Kd.C_alloc ?_ _) | (with_reducible refine Kd.C_drewN ?_ _) | (with_reducible refine Kd.C_drew ?_)))
  (case side2 => exact HC514_4.out)
  rintro e w26 ⟨v517, rfl, ho0, hb⟩
  refine ⟨_, rfl, ?_⟩
  replace HO_514002 := Ax (Kd.S_elder' (z1) (Kd.R_base ho0) hb)
  have HO518 := Ax (Kd.R_lower ho0 (below_size (zHB)))
  replace BK508 := Ax (blk_below (g := gb508) (zK) hb)
  replace BK509 := Ax (blk_below (g := gb509) (zK) hb)
  replace BK513 := Ax (blk_below (g := gb513) (zK) hb)
  replace BK515 := Ax (blk_below (g := gb515) (zK) hb)
  replace HB := Ax (below_step (zHB) hb)
  (try clear hb); (try clear hk); (try clear ho0)
  obtain ⟨Ao27, co27, eo27⟩ := Kd.R_slice HO518.out
  (first | subst eo27 | (injection eo27 with f1_ f2_ f3_; have f4_ := f1_.symm; have f5_ := f3_.symm; clear f1_ f2_ f3_; subst f4_; subst f5_))
  refine hK.out _ _ ⟨(blk_cell BK513.out 0).trans rfl, (blk_cell BK513.out 1).trans rfl, (blk_cell BK513.out 2).trans rfl, (blk_cell BK515.out 0).trans rfl, (blk_cell BK515.out 1).trans rfl, (blk_cell BK515.out 2).trans rfl, (blk_cell BK515.out 3).trans rfl, (blk_cell BK515.out 4).trans rfl⟩ (fun hHeld => ?_)
  clear hK K
  refine norm_ (a' := ?_) ?_ ?_
  rotate_left
  · show Act.put _ (some 31) _ = _
    exact zAct
  refine pure_ (i := 13) (N := some 32) (v := ?_) (a' := ?_) (bl 18 16383) rfl rfl (any_of HT_.out (by kernel_rfl)) (fun _ _ _ h => h) (Or.inl ⟨by rfl, ?_⟩) ?_ ?_
  rotate_left
  · exact zEv
  rotate_left
  · exact zAct
  refine one_ (i := 14) (N := some 33) (bl 18 32767) rfl rfl (one_of HT_.out (by kernel_rfl)) (by decide) (fun K hK => ?_)
  refine value_ (w1 := ?_) (v := ?_) (by rfl) rfl ?_ ?_
  rotate_left 2
  · go_simp
    constructor
    · rfl
    rfl
  refine hK.out _ _ ⟨(blk_cell (blk_alloc BK513.out _) 0).trans rfl, (blk_cell (blk_alloc BK513.out _) 1).trans rfl, (blk_cell (blk_alloc BK513.out _) 2).trans rfl, (blk_cell (blk_alloc BK515.out _) 0).trans rfl, (blk_cell (blk_alloc BK515.out _) 1).trans rfl, (blk_cell (blk_alloc BK515.out _) 2).trans rfl, (blk_cell (blk_alloc BK515.out _) 3).trans rfl, (blk_cell (blk_alloc BK515.out _) 4).trans rfl⟩ (fun hHeld => ?_)
  clear hK K
  refine norm_ (a' := ?_) ?_ ?_
  rotate_left
  · show Act.put _ (some 33) _ = _
    exact zAct
  refine one_ (i := 15) (N := some 34) (bl 18 65535) rfl rfl (one_of HT_.out (by kernel_rfl)) (by decide) (fun K hK => ?_)
  refine Kd.S_append_step k30 (w0 := w) w.heap.size (by rfl) (.tmp 20) (.tmp 33) 23 30 (.agg #[(.int .i64 0), (.int .i64 0), (.int .i64 0), (.int .i64 0), (.slice none 0 0)]) 56 rfl Try.underlying23 info30 rfl (by decide) (by omega) u514002 x514002_1 (⟨(rd_T30 l0_2 x15_1).f1, (rd_T30 l0_2 x15_1).f0, (rd_T30 l0_2 x15_1).f3, (rd_T30 l0_2 x15_1).f2, t516⟩ : S30) [.int .i64 ((rd_T30 l0_2 x15_1).f1), .int .i64 ((rd_T30 l0_2 x15_1).f0), .int .i64 ((rd_T30 l0_2 x15_1).f3), .int .i64 ((rd_T30 l0_2 x15_1).f2), .slice Ao27 t516.length co27] (fun k_ => k_ ≠ gb515) (fun k_ => some k_ = (.slice Ao27 t516.length co27 : Value).ownBlock) rfl rfl ?aP (fun k_ hk_ => ((Kd.R_mono (ok' := fun k_ => ((fun k_ => k_ ≠ gb515)) k_ ∧ some k_ ≠ (u514002 : Value).ownBlock) (Kd.R_types (Kd.R_apart' (HO518.out) (Kd.S_typed HO_514002.out) (by decide)) BK515.out (by decide)) (fun k_ hk => ⟨hk.2, hk.1.2⟩))).1 k_ hk_.symm) ?aF ?aO ?aB ?aS ?aL ?_
  (case aP => exact k30_mkM _ _ _ (⟨(rd_T30 l0_2 x15_1).f1, (rd_T30 l0_2 x15_1).f0, (rd_T30 l0_2 x15_1).f3, (rd_T30 l0_2 x15_1).f2, t516⟩ : S30) (Kd.R_mono (Kd.R_tight rfl (Kd.R_mono (ok' := fun k_ => ((fun k_ => k_ ≠ gb515)) k_ ∧ some k_ ≠ (u514002 : Value).ownBlock) (Kd.R_types (Kd.R_apart' (HO518.out) (Kd.S_typed HO_514002.out) (by decide)) BK515.out (by decide)) (fun k_ hk => ⟨hk.2, hk.1.2⟩))) (fun _ h_ => h_)))
  (case aB => exact (zHB))
  (case aF => exact (fun k_ hk => Kd.freshB (g := gb515) (o := .cells #[.int .i64 ((rd_T30 l0_2 x15_1).f0), .int .i64 ((rd_T30 l0_2 x15_1).f1), .int .i64 ((rd_T30 l0_2 x15_1).f2), .int .i64 ((rd_T30 l0_2 x15_1).f3), .slice A514_4 ((rd_T30 l0_2 x15_1).f4).length c514_4] 30 (0, 0)) (zK) k_ hk))
  (case aO => exact (by (with_reducible repeat (first | apply Kd.S_alloc | apply Kd.S_drewN | apply Kd.S_drew)); exact Kd.S_mono HO_514002.out (fun k_ hk => ⟨hk.1, fun e_ => hk.2 e_⟩)))
  (case aS => exact (below_size (zHB)))
  (case aL => have := LMc18.out; omega)
  intro v520 w28 ho hb hg hat
  rw [← Ny519.out] at ho
  replace BK508 := Ax (blk_grown (g := gb508) (zK) hg (Kd.S_ne HO_514002.out BK508.out (by decide)))
  replace BK509 := Ax (blk_grown (g := gb509) (zK) hg (Kd.S_ne HO_514002.out BK509.out (by decide)))
  replace BK513 := Ax (blk_grown (g := gb513) (zK) hg (Kd.S_ne HO_514002.out BK513.out (by decide)))
  replace BK515 := Ax (blk_grown (g := gb515) (zK) hg (Kd.S_away HO_514002.out (fun _ hk => hk.1)))
  replace HB := Ax (hb)
  have HO521 := Ax (ho)
  clear HO_514002 HO518
  clear ho hb hg hat
  obtain ⟨Ao29, co29, eo29⟩ := Kd.S_slice HO521.out
  (first | subst eo29 | (injection eo29 with f1_ f2_ f3_; have f4_ := f1_.symm; have f5_ := f3_.symm; clear f1_ f2_ f3_; subst f4_; subst f5_))
  refine hK.out _ _ ⟨(blk_cell BK513.out 0).trans rfl, (blk_cell BK513.out 1).trans rfl, (blk_cell BK513.out 2).trans rfl, (blk_cell BK515.out 0).trans rfl, (blk_cell BK515.out 1).trans rfl, (blk_cell BK515.out 2).trans rfl, (blk_cell BK515.out 3).trans rfl, (blk_cell BK515.out 4).trans rfl⟩ (fun hHeld => ?_)
  clear hK K
  refine norm_ (a' := ?_) ?_ ?_
  rotate_left
  · show Act.put _ (some 34) _ = _
    exact zAct
  refine pure_ (i := 16) (N := some 35) (v := ?_) (a' := ?_) (bl 18 131071) rfl rfl (any_of HT_.out (by kernel_rfl)) (fun _ _ _ h => h) (Or.inl ⟨by rfl, ?_⟩) ?_ ?_
  rotate_left
  · exact zEv
  rotate_left
  · exact zAct
  refine last_ (i := 17) (N := none) (bl 18 262143) rfl rfl (one_of HT_.out (by kernel_rfl)) (by decide) (fun K hK => ?_)
  have hs30 : w28.cell? ⟨gb513, 2, none⟩ = some (u514002) := (blk_cell BK513.out 2).trans rfl
  have hfs30 := blk_frozen BK513.out 2
  have hns30_0 := NB508_513.out
  have hns30_1 := NB509_513.out
  have hns30_3 := NB515_513.out
  have hms30_0 := NB513_508.out
  have hms30_1 := NB513_509.out
  have hms30_3 := NB513_515.out
  refine skip_ (w1 := ?_) (by rfl) rfl ?_ ?_
  rotate_left
  · go_simp
    rfl
  refine hK.out _ _ ?_
  clear hK K
  refine done_ (done_of HT_.out (by kernel_rfl)) ?_
  try go_wp2
  go_roundg k1
  case measure => have := HK1.out; omega
  exact ⟨(wrap64 (x15_1 + 1)), (y519), (.slice Ao29 y519.length co29), (by first | rfl | (simp; done) | (simp [*]; done)), H', ⟨by have := HK1.out; omega⟩, ⟨by (with_reducible repeat (first | apply Kd.S_alloc | apply Kd.S_drewN | apply Kd.S_drew)); exact Kd.S_mono (Kd.S_far (p := ⟨gb513, 2, none⟩) (Kd.S_types HO521.out BK513.out (by decide)) (fun _ hk => hk.2) (.slice Ao29 y519.length co29)) (fun _ hk => trivial)⟩, ⟨zK⟩, ⟨zK⟩, ⟨zK⟩, ⟨zHB⟩⟩
end Go.Proofs.Ytljgbeccmcidkaa.P
namespace Go.Proofs.Ytljgbeccmcidkaa.P
open Go.RowKit Go.Proofs.YtljgbeccmcidkaaW.PrintWords Go.Proofs.YtljgbeccmcidkaaW.PrintLast Go.Proofs.YtljgbeccmcidkaaW.PrintMore
attribute [local go_sem] max2_int min2_int max_two min_two max_three min_three max_four min_four   -- for this text's walks alone
set_option linter.unusedVariables false
set_option linter.unusedSimpArgs false

attribute [local go_sem ↓] isSome_setCell
/-! ### impl_TableTurn: function 24 -/
def impl_TableTurn.f (k : Nat) (a0_0 : Int) (a0_1 : Int) (l0_2 : List (S30)) : Option (Int × Int × (List (S30))) := (impl_TableOk.f k a0_0 a0_1 l0_2).bind fun t529 => (if t529 = true then ((impl_Table_turn.f k a0_0 a0_1 l0_2).bind fun bt530 => (some (bt530.1, bt530.2.1, bt530.2.2))) else (some (0, 0, ([] : List (S30)))))
theorem impl_TableTurn.mono : ∀ a0 a1 a2 k, LeO (impl_TableTurn.f k a0 a1 a2) (impl_TableTurn.f (k + 1) a0 a1 a2) := by
  intro a0 a1 a2 k
  unfold impl_TableTurn.f
  with_reducible repeat' first | exact impl_TableOk.mono _ _ _ _ | exact impl_Table_turn.mono _ _ _ _ | exact LeO.refl _ | exact LeO.none _ | refine LeO.ite ?_ ?_ | refine LeO.bind ?_ (fun _ => ?_)
theorem impl_TableTurn.zHB {p : Prop} (h : p := by repeat (first | (with_reducible first | exact HB.out | apply below_alloc | apply pw_below_drewN | apply below_drew1 | refine below_set ?_ GE527.out | refine below_set ?_ GE528.out) | exact HB.out)) : p := h
theorem impl_TableTurn.zK {p : Prop} (h : p := by repeat' first | (with_reducible first | exact BK527.out | exact BK528.out | apply blk_drewN | apply blk_drew | apply blk_alloc | apply blk_putE) | exact (rfl : List.set _ _ _ = _)) : p := h
theorem impl_TableTurn.z0 {p : Prop} (h : p := by (try simp only [List.map_toArray, List.map_cons, List.map_nil]); first | done | rfl | (simp only [List.length_drop, List.length_take]; rfl)) : p := h
theorem impl_TableTurn.z1 {p : Prop} (h : p := by rw [hg]; exact (below_size (zHB))) : p := h
theorem impl_TableTurn.z2 {p : Prop} (h : p := by first | rfl | (simp [errW_none, errW_some] <;> rfl) | (simp [*, errW_none, errW_some] <;> rfl)) : p := h
set_option maxHeartbeats 8000000 in
set_option maxRecDepth 100000 in
theorem impl_TableTurn.calls (k : Nat) (a0_0 : Int) (a0_1 : Int) (A0_2 : Option Addr) (c0_2 : Nat) (l0_2 : List (S30)) (r1 : Int) (r2 : Int) (r3 : List (S30)) (w : World) (hr0_2 : Kd.C k30 w A0_2 l0_2.length l0_2) (hc0_2 : l0_2.length ≤ c0_2) (h : impl_TableTurn.f k a0_0 a0_1 l0_2 = some (r1, r2, r3)) :
    Calls Try.prog 24 #[.agg #[.int .i64 a0_0, .int .i64 a0_1, .slice A0_2 l0_2.length c0_2]] w fun e w' => ∃ v2_ : Value, e = .returned (.agg #[.int .i64 r1, .int .i64 r2, v2_]) ∧ Kd.S k30 30 w' w.heap.size (fun _ => True) v2_ r3 ∧ Below w.heap.size w w' := by
 have hu25 := Try.underlying25
 have HR0_2 := Ax hr0_2
 have HC0_2 := Ax hc0_2
 clear hr0_2 hc0_2
 have HB := Ax (Below.refl w.heap.size w)
 have H : ((impl_TableOk.f k a0_0 a0_1 l0_2).bind fun t529 => (if t529 = true then ((impl_Table_turn.f k a0_0 a0_1 l0_2).bind fun bt530 => (some (bt530.1, bt530.2.1, bt530.2.2))) else (some (0, 0, ([] : List (S30)))))) = some (r1, r2, r3) := h
 clear h
 obtain ⟨t529, A2, H⟩ := bnd H
 obtain rfl | rfl := tf t529
 · rw [if_pos rfl] at H
   obtain ⟨⟨t530, t531, t532⟩, A4, H⟩ := bnd H
   dsimp only at H
   simp only [Option.some.injEq, Prod.mk.injEq] at H
   obtain ⟨rfl, rfl, rfl⟩ := H
   go_enter Try.func24, Try.ntmps24
   go_wp2_with (first | ((with_reducible refine gate_dst (N := 1) rfl ?_); refine box_event ?hg (N := 1) ?hd (cs := #[.int .i64 a0_0, .int .i64 a0_1, .slice A0_2 l0_2.length c0_2]) (t := 25) ?hr ?_; (case hd => rfl); (case hg => rfl); (case hr => first | (go_simp; done) | (go_simp; rfl)); intro gb527 hg w5 hbox hb; have BK527 := Ax (hbox); have GW527 := Ax ((z1 : w.heap.size ≤ gb527)); have GE527 := Ax ((z1 : w.heap.size ≤ gb527)); replace HB := Ax (below_step (zHB) hb); clear hb hbox hg) | ((with_reducible refine gate_dst (N := 2) rfl ?_); refine box_event ?hg (N := 2) ?hd (cs := #[.int .i64 0, .int .i64 0, .slice none 0 0]) (t := 25) ?hr ?_; (case hd => rfl); (case hg => rfl); (case hr => first | (go_simp; done) | (go_simp; rfl)); intro gb528 hg w6 hbox hb; have BK528 := Ax (hbox); have GW528 := Ax ((z1 : w.heap.size ≤ gb528)); have GE528 := Ax ((z1 : w.heap.size ≤ gb528)); replace HB := Ax (below_step (zHB) hb); have NB527_528 := Ax ((by rw [hg]; exact Nat.ne_of_lt (blk_lt (g := gb527) (zK)) : gb527 ≠ gb528)); have NB528_527 := Ax ((by rw [hg]; exact Nat.ne_of_gt (blk_lt (g := gb527) (zK)) : gb528 ≠ gb527)); replace BK527 := Ax (blk_below (g := gb527) (zK) hb); clear hb hbox hg; have hnb7 := NB527_528.out; have hnc7 := NB528_527.out; obtain ⟨_, _, _, _, _, _⟩ := cells3 BK527.out) | ((with_reducible refine gate_callee (f := 15) rfl ?_); refine goesL_ (some 4) rfl rfl Try.func15 (by kernel_rfl) rfl #[.agg #[.int .i64 a0_0, .int .i64 a0_1, .slice A0_2 l0_2.length c0_2]] rfl (z0) ?_; (with_reducible refine (impl_TableOk.calls k a0_0 a0_1 _ _ l0_2 true _ ?side1 ?side2 A2.out).mono ?_); (case side1 => repeat (first | exact (Kd.C_below HR0_2.out HB.out) | (with_reducible refine Kd.C_alloc ?_ _) | (with_reducible refine Kd.C_drewN ?_ _) | (with_reducible refine Kd.C_drew ?_))); (case side2 => exact HC0_2.out); rintro e w9 ⟨rfl, hb⟩; refine ⟨_, rfl, ?_⟩; replace BK527 := Ax (blk_below (g := gb527) (zK) hb); replace BK528 := Ax (blk_below (g := gb528) (zK) hb); replace HB := Ax (below_step (zHB) hb); (try clear hb); (try clear hb2); (try clear hk); (try clear hi); obtain ⟨_, _, _, _, _, _⟩ := cells3 BK527.out) | ((with_reducible refine gate_callee (f := 50) rfl ?_); refine goesL_ (some 8) rfl rfl Try.func50 (by kernel_rfl) rfl #[.agg #[.int .i64 a0_0, .int .i64 a0_1, .slice A0_2 l0_2.length c0_2]] rfl (z0) ?_; (with_reducible refine (impl_Table_turn.calls k a0_0 a0_1 _ _ l0_2 t530 t531 t532 _ ?side1 ?side2 A4.out).mono ?_); (case side1 => repeat (first | exact (Kd.C_below HR0_2.out HB.out) | (with_reducible refine Kd.C_alloc ?_ _) | (with_reducible refine Kd.C_drewN ?_ _) | (with_reducible refine Kd.C_drew ?_))); (case side2 => exact HC0_2.out); rintro e w11 ⟨v533, rfl, ho0, hb⟩; refine ⟨_, rfl, ?_⟩; have HO534 := Ax (Kd.S_lower ho0 (below_size (zHB))); replace BK527 := Ax (blk_below (g := gb527) (zK) hb); replace BK528 := Ax (blk_below (g := gb528) (zK) hb); replace HB := Ax (below_step (zHB) hb); (try clear hb); (try clear hb2); (try clear hk); (try clear hi); (try clear ho0); obtain ⟨_, _, _, _, _, _⟩ := cells3 BK528.out; obtain ⟨Ao13, co13, eo13⟩ := Kd.S_slice HO534.out; subst eo13))
   refine bodyPost_ret (results_cell_row rfl _ _ gb528 25 #[.int .i64 t530, .int .i64 t531, .slice Ao13 t532.length co13] (0, 0) _ rfl (zK) Try.underlying25 rfl (by kernel_rfl)) rfl ?_
   exact ⟨_, z2, by (with_reducible repeat (first | apply Kd.S_alloc | apply Kd.S_drewN | apply Kd.S_drew)); exact Kd.S_mono (Kd.S_far (p := ⟨gb528, 2, none⟩) (Kd.S_far (p := ⟨gb528, 1, none⟩) (Kd.S_far (p := ⟨gb528, 0, none⟩) (Kd.S_types HO534.out BK528.out (by decide)) (fun _ hk => hk.2) (.int .i64 t530)) (fun _ hk => hk.2) (.int .i64 t531)) (fun _ hk => hk.2) (.slice Ao13 t532.length co13)) (fun _ hk => trivial), zHB⟩
 rw [if_neg Bool.false_ne_true] at H
 simp only [Option.some.injEq, Prod.mk.injEq] at H
 obtain ⟨rfl, rfl, rfl⟩ := H
 go_enter Try.func24, Try.ntmps24
 go_wp2_with (first | ((with_reducible refine gate_dst (N := 1) rfl ?_); refine box_event ?hg (N := 1) ?hd (cs := #[.int .i64 a0_0, .int .i64 a0_1, .slice A0_2 l0_2.length c0_2]) (t := 25) ?hr ?_; (case hd => rfl); (case hg => rfl); (case hr => first | (go_simp; done) | (go_simp; rfl)); intro gb527 hg w14 hbox hb; have BK527 := Ax (hbox); have GW527 := Ax ((z1 : w.heap.size ≤ gb527)); have GE527 := Ax ((z1 : w.heap.size ≤ gb527)); replace HB := Ax (below_step (zHB) hb); clear hb hbox hg) | ((with_reducible refine gate_dst (N := 2) rfl ?_); refine box_event ?hg (N := 2) ?hd (cs := #[.int .i64 0, .int .i64 0, .slice none 0 0]) (t := 25) ?hr ?_; (case hd => rfl); (case hg => rfl); (case hr => first | (go_simp; done) | (go_simp; rfl)); intro gb528 hg w15 hbox hb; have BK528 := Ax (hbox); have GW528 := Ax ((z1 : w.heap.size ≤ gb528)); have GE528 := Ax ((z1 : w.heap.size ≤ gb528)); replace HB := Ax (below_step (zHB) hb); have NB527_528 := Ax ((by rw [hg]; exact Nat.ne_of_lt (blk_lt (g := gb527) (zK)) : gb527 ≠ gb528)); have NB528_527 := Ax ((by rw [hg]; exact Nat.ne_of_gt (blk_lt (g := gb527) (zK)) : gb528 ≠ gb527)); replace BK527 := Ax (blk_below (g := gb527) (zK) hb); clear hb hbox hg; have hnb16 := NB527_528.out; have hnc16 := NB528_527.out; obtain ⟨_, _, _, _, _, _⟩ := cells3 BK527.out) | ((with_reducible refine gate_callee (f := 15) rfl ?_); refine goesL_ (some 4) rfl rfl Try.func15 (by kernel_rfl) rfl #[.agg #[.int .i64 a0_0, .int .i64 a0_1, .slice A0_2 l0_2.length c0_2]] rfl (z0) ?_; (with_reducible refine (impl_TableOk.calls k a0_0 a0_1 _ _ l0_2 false _ ?side1 ?side2 A2.out).mono ?_); (case side1 => repeat (first | exact (Kd.C_below HR0_2.out HB.out) | (with_reducible refine Kd.C_alloc ?_ _) | (with_reducible refine Kd.C_drewN ?_ _) | (with_reducible refine Kd.C_drew ?_))); (case side2 => exact HC0_2.out); rintro e w18 ⟨rfl, hb⟩; refine ⟨_, rfl, ?_⟩; replace BK527 := Ax (blk_below (g := gb527) (zK) hb); replace BK528 := Ax (blk_below (g := gb528) (zK) hb); replace HB := Ax (below_step (zHB) hb); (try clear hb); (try clear hb2); (try clear hk); (try clear hi); obtain ⟨_, _, _, _, _, _⟩ := cells3 BK528.out))
 refine bodyPost_ret (results_cell_row rfl _ _ gb528 25 #[.int .i64 0, .int .i64 0, .slice none 0 0] (0, 0) _ rfl (zK) Try.underlying25 rfl (by kernel_rfl)) rfl ?_
 exact ⟨_, z2, by first | exact Kd.S_nil _ _ _ _ _ | exact Kd.N_nil _ _ _ _ _ | exact Kd.V_nil _ _ _ _ _ | exact Kd.Q_nil _ _ _ _ _ | exact Kd.R_nil _ _ _ _ _, zHB⟩
end Go.Proofs.Ytljgbeccmcidkaa.P
