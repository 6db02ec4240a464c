/- What the Go functions named below compute, function by function: a plain Lean function with the same answers and the proof that a call comes to them. Conditions: the arguments read as told, the plain function answers. -/
import Derived.Test.YtljgbeccmcidkaaXA
import Derived.Test.YtljgbeccmcidkaaXG
import Derived.Test.YtljgbeccmcidkaaXH
namespace Go.Proofs.Ytljgbeccmcidkaa.P
open Go.RowKit Go.Proofs.YtljgbeccmcidkaaW.PrintWords Go.Proofs.YtljgbeccmcidkaaW.PrintLast Go.Proofs.YtljgbeccmcidkaaW.PrintMore
attribute [local go_sem] max2_int min2_int max_two min_two max_three min_three max_four min_four   -- for this text's walks alone
set_option linter.unusedVariables false
set_option linter.unusedSimpArgs false

attribute [local go_sem ↓] isSome_setCell
/-! ### spec_l71Table: function 38 -/
mutual
def spec_l71Table.l0 : Nat → Int → List Int → Int → Int → Int → List (S30) → Option (Int × Int × (List (S30)) × Int)
  | 0, _, _, _, _, _, _ => none
  | k + 1, x4, x1000, x1001, x239000, x239001, x239002 => if x4 > 0 then ((spec_l6Rd_pick.f k x1000 x1001 x239000).bind fun bt241 => ((spec_l6Rd_pick.f k x1000 bt241.2 x239001).bind fun bt243 => ((spec_l6Rd_pick.f k x1000 bt243.2 (wrap64 (x239000 - bt241.1))).bind fun bt245 => ((spec_l6Rd_pick.f k x1000 bt245.2 (wrap64 (x239001 - bt243.1))).bind fun bt247 => ((spec_TableMerge.f k x239000 x239001 x239002 bt241.1 bt243.1 (wrap64 (1 + bt245.1)) (wrap64 (1 + bt247.1))).bind fun bt249 => (if bt249.2.2.2 = true then (spec_l71Table.l0 k (wrap64 (x4 - 1)) x1000 bt247.2 bt249.1 bt249.2.1 bt249.2.2.1) else (spec_l71Table.l0 k (wrap64 (x4 - 1)) x1000 bt247.2 x239000 x239001 x239002))))))) else (spec_l71Table.l1 k 0 x1000 x1001 x239000 x239001 x239002)
def spec_l71Table.l1 : Nat → Int → List Int → Int → Int → Int → List (S30) → Option (Int × Int × (List (S30)) × Int)
  | 0, _, _, _, _, _, _ => none
  | k + 1, x9, x1000, x1001, x239000, x239001, x239002 => if x9 < (x239002.length : Int) then ((spec_l6Rd_pick.f k x1000 x1001 2).bind fun bt256 => (if bt256.1 = 0 then ((spec_l71Text.f k x1000 bt256.2 5).bind fun bt258 => (if 0 ≤ x9 then (spec_l71Table.l1 k (wrap64 (x9 + 1)) x1000 bt258.2 x239000 x239001 (x239002.set (x9 : Int).toNat (⟨(rd_T30 x239002 x9).f0, (rd_T30 x239002 x9).f1, (rd_T30 x239002 x9).f2, (rd_T30 x239002 x9).f3, bt258.1⟩ : S30))) else (none))) else (spec_l71Table.l1 k (wrap64 (x9 + 1)) x1000 bt256.2 x239000 x239001 x239002))) else (some (x239000, x239001, x239002, x1001))
end
def spec_l71Table.f (k : Nat) (s0_0 : List Int) (s0_1 : Int) : Option (Int × Int × (List (S30)) × Int) := (spec_l6Rd_pick.f k s0_0 s0_1 4).bind fun bt229 => ((spec_l6Rd_pick.f k s0_0 bt229.2 4).bind fun bt231 => ((spec_TableNew.f k (wrap64 (1 + bt229.1)) (wrap64 (1 + bt231.1))).bind fun bt233 => ((spec_l6Rd_pick.f k s0_0 bt231.2 4).bind fun bt239 => (spec_l71Table.l0 k bt239.1 s0_0 bt239.2 bt233.1 bt233.2.1 bt233.2.2))))
theorem spec_l71Table.mono_l : ∀ k, (∀ y0 y1 y2 y3 y4 y5, LeO (spec_l71Table.l0 k y0 y1 y2 y3 y4 y5) (spec_l71Table.l0 (k + 1) y0 y1 y2 y3 y4 y5)) ∧ (∀ y0 y1 y2 y3 y4 y5, LeO (spec_l71Table.l1 k y0 y1 y2 y3 y4 y5) (spec_l71Table.l1 (k + 1) y0 y1 y2 y3 y4 y5))
  | 0 => by refine ⟨?_, ?_⟩ <;> intros <;> intro r h <;> simp [spec_l71Table.l0, spec_l71Table.l1] at h
  | k + 1 => by
    obtain ⟨ih0, ih1⟩ := spec_l71Table.mono_l k
    refine ⟨?_, ?_⟩ <;> intros <;> (first | unfold spec_l71Table.l0 | unfold spec_l71Table.l1) <;> with_reducible repeat' first | exact ih0 _ _ _ _ _ _ | exact ih1 _ _ _ _ _ _ | exact spec_TableMerge.mono _ _ _ _ _ _ _ _ | exact spec_TableNew.mono _ _ _ | exact spec_l6Rd_pick.mono _ _ _ _ | exact spec_l71Text.mono _ _ _ _ | exact LeO.refl _ | exact LeO.none _ | refine LeO.ite ?_ ?_ | refine LeO.bind ?_ (fun _ => ?_)
theorem spec_l71Table.mono : ∀ a0 a1 k, LeO (spec_l71Table.f k a0 a1) (spec_l71Table.f (k + 1) a0 a1) := by
  intro a0 a1 k
  obtain ⟨ih0, ih1⟩ := spec_l71Table.mono_l k
  unfold spec_l71Table.f
  with_reducible repeat' first | exact ih0 _ _ _ _ _ _ | exact ih1 _ _ _ _ _ _ | exact spec_TableMerge.mono _ _ _ _ _ _ _ _ | exact spec_TableNew.mono _ _ _ | exact spec_l6Rd_pick.mono _ _ _ _ | exact spec_l71Text.mono _ _ _ _ | exact LeO.refl _ | exact LeO.none _ | refine LeO.ite ?_ ?_ | refine LeO.bind ?_ (fun _ => ?_)
def spec_l71Table.T7 : Bool × List (List Nat × List Nat) := (true, [([], []), ([], []), ([], []), ([], []), ([], []), ([4], [4]), ([], []), ([5, 6], [5, 6]), ([3, 7], [3, 7]), ([8], [8]), ([], []), ([], []), ([11], [11]), ([], []), ([12, 13], [12, 13]), ([10, 14, 8], [10, 14]), ([15], [15]), ([0, 1, 2, 9, 16, 15], [0, 1, 2, 9, 16]), ([17], [17]), ([18], [18]), ([18], [18]), ([], []), ([21, 19, 17, 0, 1, 2, 3, 4, 5, 6, 7, 8, 9, 10, 11, 12, 13, 14, 15, 16, 17, 18, 19, 21], [19, 21]), ([20, 22, 0, 1, 2, 3, 4, 5, 6, 7, 8, 9, 10, 11, 12, 13, 14, 15, 16, 17, 18, 19, 20, 21, 22], [20])])
def spec_l71Table.B7 : List Nat := [0, 0, 0, 0, 0, 16, 0, 112, 248, 504, 0, 0, 2048, 0, 14336, 32248, 65016, 131071, 262143, 524287, 524287, 0, 3145727, 8388607]
theorem spec_l71Table.tab7 : rtab .any (opsOf Try.f38 7) = spec_l71Table.T7 := by kernel_rfl
theorem spec_l71Table.bits7 : waitsOk spec_l71Table.T7.2 spec_l71Table.B7 = true := by kernel_rfl
def spec_l71Table.T14 : Bool × List (List Nat × List Nat) := (true, [([], []), ([0], [0]), ([], []), ([], []), ([3], [3]), ([1, 2, 0, 1, 2, 3, 4], [1, 2]), ([5, 0, 1, 2, 3, 4], [5]), ([6, 4, 4, 0, 1, 2, 3, 4], [4, 6])])
def spec_l71Table.B14 : List Nat := [0, 1, 0, 0, 8, 31, 63, 127]
theorem spec_l71Table.tab14 : rtab .any (opsOf Try.f38 14) = spec_l71Table.T14 := by kernel_rfl
theorem spec_l71Table.bits14 : waitsOk spec_l71Table.T14.2 spec_l71Table.B14 = true := by kernel_rfl
theorem spec_l71Table.zHB {p : Prop} (h : p := by repeat (first | (with_reducible first | exact HB.out | apply below_alloc | apply pw_below_drewN | apply below_drew1 | refine below_set ?_ (IsS66.ge HI0.out) | refine below_set ?_ GE228.out | refine below_set ?_ GE238.out | refine below_set ?_ (Nat.le_trans HL.out GB67.out) | refine below_set ?_ GE255.out) | exact HB.out)) : p := h
theorem spec_l71Table.zHK {p : Prop} (h : p := by repeat (first | (with_reducible first | exact HK.out | apply KeepBut.set_ | apply keep_drewN | apply keep_drew | apply keep_alloc | refine keep_far ?_ GW228.out _ | refine keep_far ?_ GW238.out _ | refine keep_far ?_ GB67.out _ | refine keep_far ?_ GW255.out _) | exact HK.out)) : p := h
theorem spec_l71Table.zHI0 {p : Prop} (h : p := by repeat (first | (with_reducible first | exact HI0.out | apply IsS66.alloc | apply IsS66.drewN | apply IsS66.drew | apply IsS66.set_1 | apply IsS66.far (hne := NB0_228.out) | apply IsS66.far (hne := NB0_238.out) | apply IsS66.far (hne := HN0_go67.out) | apply IsS66.far (hne := NB0_255.out)) | exact HI0.out)) : p := h
theorem spec_l71Table.zK {p : Prop} (h : p := by repeat' first | (with_reducible first | exact BK228.out | exact BK238.out | exact BK255.out | apply blk_drewN | apply blk_drew | apply blk_alloc | apply blk_far (hp := NB228_238.out) | apply blk_far (hp := NB228_255.out) | apply blk_far (hp := NB238_255.out) | apply blk_putE) | exact (rfl : List.set _ _ _ = _)) : p := h
theorem spec_l71Table.z0 {p : Prop} (h : p := by (with_reducible repeat (first | apply Kd.N_alloc | apply Kd.N_drewN | apply Kd.N_drew)); exact HO_239002.out) : p := h
theorem spec_l71Table.z1 {p : Prop} (h : p := by (try simp only [List.map_toArray, List.map_cons, List.map_nil]); first | done | rfl | (simp only [List.length_drop, List.length_take]; rfl)) : p := h
theorem spec_l71Table.z2 {p : Prop} (h : p := by rw [hg]; exact (keep_size (w := w) (g := g) (row := none) (zHK))) : p := h
theorem spec_l71Table.z3 {p : Prop} (h : p := by (with_reducible repeat (first | apply Kd.N_alloc | apply Kd.N_drewN | apply Kd.N_drew)); exact Kd.N_mono HO_239002.out (fun _ hk => ⟨hk.1.1.1, ⟨hk.2, ⟨hk.1.1.2.2.2, ⟨hk.1.1.2.1, ⟨hk.1.1.2.2.1, hk.1.2⟩⟩⟩⟩⟩)) : p := h
theorem spec_l71Table.z4 {p : Prop} (h : p := by (with_reducible repeat (first | apply Kd.N_alloc | apply Kd.N_drewN | apply Kd.N_drew)); exact Kd.N_mono HO253.out (fun _ hk => ⟨hk.1, ⟨hk.2.1, ⟨hk.2.2.2.2.2, ⟨hk.2.2.1, ⟨hk.2.2.2.1, hk.2.2.2.2.1⟩⟩⟩⟩⟩)) : p := h
theorem spec_l71Table.z5 {p : Prop} (h : p := by simp only [putAll, Act.put, List.setIfInBounds_toArray, List.set_cons_zero, List.set_cons_succ]) : p := h
theorem spec_l71Table.z6 {p : Prop} (h : p := by rw [hg]; exact Nat.ne_of_lt (blk_lt (g := gb228) (zK))) : p := h
theorem spec_l71Table.z7 {p : Prop} (h : p := by rw [hg]; exact Nat.ne_of_gt (blk_lt (g := gb228) (zK))) : p := h
theorem spec_l71Table.z8 {p : Prop} (h : p := by rw [hg]; exact Nat.ne_of_lt (blk_lt (g := gb238) (zK))) : p := h
theorem spec_l71Table.z9 {p : Prop} (h : p := by rw [hg]; exact Nat.ne_of_gt (blk_lt (g := gb238) (zK))) : p := h
theorem spec_l71Table.z10 {p : Prop} (h : p := by first | (with_reducible assumption) | assumption) : p := h
theorem spec_l71Table.z11 {p : Prop} (h : p := by rw [hg]; exact Nat.ne_of_lt (IsS66.lt (show IsS66 w0 _ g s0_0 t248 from zHI0))) : p := h
theorem spec_l71Table.z12 {p : Prop} (h : p := by rw [hg]; exact Nat.ne_of_gt (IsS66.lt (show IsS66 w0 _ g s0_0 t248 from zHI0))) : p := h
theorem spec_l71Table.z13 {p : Prop} (h : p := by first | rfl | (simp; done) | (simp [*]; done)) : p := h
theorem spec_l71Table.z14 {p : Prop} (h : p := by (with_reducible repeat (first | apply Kd.N_alloc | apply Kd.N_drewN | apply Kd.N_drew)); exact Kd.N_mono HO_239002.out (fun _ hk => ⟨hk.1.1.1, ⟨hk.1.2, ⟨hk.1.1.2.2.2, ⟨hk.1.1.2.1, ⟨hk.1.1.2.2.1, hk.2⟩⟩⟩⟩⟩)) : p := h
theorem spec_l71Table.z15 {p : Prop} (h : p := by (with_reducible repeat (first | apply Kd.N_alloc | apply Kd.N_drewN | apply Kd.N_drew)); exact Kd.N_mono HO253.out (fun _ hk => ⟨hk.1.1, ⟨hk.1.2.1, ⟨hk.1.2.2.2.2, ⟨hk.1.2.2.1, ⟨hk.1.2.2.2.1, hk.2⟩⟩⟩⟩⟩)) : p := h
theorem spec_l71Table.z16 {p : Prop} (h : p := by have h_ : (x9_2 : Int) < ((x239002_2.length : Int) : Int) := of_decide_eq_true (z10); first | exact h_ | (have e_ := (Kd.N_reads' HO_239002.out).1; omega) | simpa using h_) : p := h
theorem spec_l71Table.z17 {p : Prop} (h : p := by (with_reducible repeat (first | apply Kd.N_alloc | apply Kd.N_drewN | apply Kd.N_drew)); exact HO253.out) : p := h
theorem spec_l71Table.z18 {p : Prop} (h : p := by rw [hg]; exact Nat.ne_of_lt (IsS66.lt (show IsS66 w0 _ g s0_0 t246 from zHI0))) : p := h
theorem spec_l71Table.z19 {p : Prop} (h : p := by rw [hg]; exact Nat.ne_of_gt (IsS66.lt (show IsS66 w0 _ g s0_0 t246 from zHI0))) : p := h
theorem spec_l71Table.z20 {p : Prop} (h : p := by rw [hg]; exact Nat.ne_of_lt (IsS66.lt (show IsS66 w0 _ g s0_0 t244 from zHI0))) : p := h
theorem spec_l71Table.z21 {p : Prop} (h : p := by rw [hg]; exact Nat.ne_of_gt (IsS66.lt (show IsS66 w0 _ g s0_0 t244 from zHI0))) : p := h
theorem spec_l71Table.zy {p : Prop} (h : p := by first | (rw [hy_]; with_reducible exact H) | (have H2_ := (Option.bind_some _ _).symm.trans H; rw [hy_]; with_reducible exact H2_) | (have H2_ := (Option.bind_some _ _).symm.trans H; with_reducible exact H2_) | with_reducible exact H | (rw [hy_]; exact H) | exact H) : p := h
set_option maxHeartbeats 8000000 in
set_option maxRecDepth 100000 in
theorem spec_l71Table.calls (k : Nat) (g : Nat) (s0_0 : List Int) (s0_1 : Int) (r1 : Int) (r2 : Int) (r3 : List (S30)) (r4 : Int) (w0 w : World) (hI : IsS66 w0 w g s0_0 s0_1) (hB : Below w0.heap.size w0 w) (h : spec_l71Table.f k s0_0 s0_1 = some (r1, r2, r3, r4)) :
    Calls Try.prog 38 #[.pointer (some ⟨g, 0, none⟩)] w fun e w' => ∃ v2_ : Value, e = .returned (.agg #[.int .i64 r1, .int .i64 r2, v2_]) ∧ Kd.N k30 30 w' w.heap.size (fun k_ => (w.heap.size ≤ k_)) v2_ r3 ∧ IsS66 w0 w' g s0_0 r4 ∧ Below w0.heap.size w0 w' ∧ KeepBut w w' g none := by
 have hu25 := Try.underlying25
 have HI0 := Ax hI
 have HK := Ax (KeepBut.refl w g none)
 have HL := Ax hB.size
 clear hI
 have HW0 := Ax hB.size
 have HB := Ax hB
 clear hB
 have H : ((spec_l6Rd_pick.f k s0_0 s0_1 4).bind fun bt229 => ((spec_l6Rd_pick.f k s0_0 bt229.2 4).bind fun bt231 => ((spec_TableNew.f k (wrap64 (1 + bt229.1)) (wrap64 (1 + bt231.1))).bind fun bt233 => ((spec_l6Rd_pick.f k s0_0 bt231.2 4).bind fun bt239 => (spec_l71Table.l0 k bt239.1 s0_0 bt239.2 bt233.1 bt233.2.1 bt233.2.2))))) = some (r1, r2, r3, r4) := h
 clear h
 obtain ⟨⟨t229, t230⟩, A2, H⟩ := bnd H
 dsimp only at H
 obtain ⟨⟨t231, t232⟩, A3, H⟩ := bnd H
 dsimp only at H
 obtain ⟨⟨t233, t234, t235⟩, A4, H⟩ := bnd H
 dsimp only at H
 obtain ⟨⟨t239, t240⟩, A5, H⟩ := bnd H
 dsimp only at H
 have H' := Ax H
 clear H
 go_enter Try.func38, Try.ntmps38
 go_wp2_with (first | ((with_reducible refine gate_dst (N := 2) rfl ?_); refine box_event ?hg (N := 2) ?hd (cs := #[.int .i64 0, .int .i64 0, .slice none 0 0]) (t := 25) ?hr ?_; (case hd => rfl); (case hg => rfl); (case hr => first | (go_simp; done) | (go_simp; rfl)); intro gb228 hg w6 hbox hb; replace HB := Ax (below_step (zHB) hb); have BK228 := Ax (hbox); have GW228 := Ax ((z2 : w.heap.size ≤ gb228)); have GE228 := Ax ((Nat.le_trans HW0.out (z2 : w.heap.size ≤ gb228) : w0.heap.size ≤ gb228)); replace HK := Ax (KeepBut.trans (zHK) (KeepBut.of_below hb g none) (.inl rfl)); have NB0_228 := Ax ((by rw [hg]; exact Nat.ne_of_lt (IsS66.lt (show IsS66 w0 _ g s0_0 s0_1 from zHI0)) : g ≠ gb228)); have NB228_0 := Ax ((by rw [hg]; exact Nat.ne_of_gt (IsS66.lt (show IsS66 w0 _ g s0_0 s0_1 from zHI0)) : gb228 ≠ g)); replace HI0 := Ax (IsS66.below (zHI0) hb); clear hb hbox hg) | ((with_reducible refine gate_callee (f := 39) rfl ?_); refine goesL_ (some 11) rfl rfl Try.func39 (by kernel_rfl) rfl #[.pointer (some ⟨g, 0, none⟩), .int .i64 4] rfl (z1) ?_; (with_reducible refine (spec_l6Rd_pick.calls k g s0_0 s0_1 4 t229 t230 w0 _ ?side1 ?side2 A2.out).mono ?_); (case side1 => exact zHI0); (case side2 => exact zHB); rintro e w7 ⟨rfl, hi, hb, hk⟩; refine ⟨_, rfl, ?_⟩; replace BK228 := Ax (KeepBut.blk hk (g' := gb228) (o := .cells #[.int .i64 0, .int .i64 0, .slice none 0 0] 25 (0, 0)) (zK) NB228_0.out (by simp)); replace HK := Ax (KeepBut.trans (zHK) hk (.inl rfl)); replace HB := Ax (hb); replace HI0 := Ax (hi); (try clear hb); (try clear hb2); (try clear hk); (try clear hi)) | ((with_reducible refine gate_callee (f := 39) rfl ?_); refine goesL_ (some 14) rfl rfl Try.func39 (by kernel_rfl) rfl #[.pointer (some ⟨g, 0, none⟩), .int .i64 4] rfl (z1) ?_; (with_reducible refine (spec_l6Rd_pick.calls k g s0_0 t230 4 t231 t232 w0 _ ?side1 ?side2 A3.out).mono ?_); (case side1 => exact zHI0); (case side2 => exact zHB); rintro e w8 ⟨rfl, hi, hb, hk⟩; refine ⟨_, rfl, ?_⟩; replace BK228 := Ax (KeepBut.blk hk (g' := gb228) (o := .cells #[.int .i64 0, .int .i64 0, .slice none 0 0] 25 (0, 0)) (zK) NB228_0.out (by simp)); replace HK := Ax (KeepBut.trans (zHK) hk (.inl rfl)); replace HB := Ax (hb); replace HI0 := Ax (hi); (try clear hb); (try clear hb2); (try clear hk); (try clear hi)) | ((with_reducible refine gate_callee (f := 23) rfl ?_); refine goesL_ (some 16) rfl rfl Try.func23 (by kernel_rfl) rfl #[.int .i64 (wrap64 (1 + t229)), .int .i64 (wrap64 (1 + t231))] rfl (z1) ?_; (with_reducible refine (spec_TableNew.calls k (wrap64 (1 + t229)) (wrap64 (1 + t231)) t233 t234 t235 _ A4.out).mono ?_); rintro e w9 ⟨v236, rfl, ho0, hb⟩; refine ⟨_, rfl, ?_⟩; have HO237 := Ax (Kd.N_lower (Kd.N_mono (ok' := fun k_ => (w.heap.size ≤ k_) ∧ k_ ≠ gb228 ∧ k_ ≠ g) (Kd.S_N (Kd.S_bound ho0)) (fun k_ hk_ => ⟨(Nat.le_trans (keep_size (w := w) (g := g) (row := none) (zHK)) hk_.2.1), (Kd.freshB (g := gb228) (o := .cells #[.int .i64 0, .int .i64 0, .slice none 0 0] 25 (0, 0)) (zK) k_ hk_.2.1), (IsS66.fresh (zHI0) k_ hk_.2.1)⟩)) (keep_size (w := w) (g := g) (row := none) (zHK))); replace BK228 := Ax (blk_below (g := gb228) (zK) hb); replace HK := Ax (KeepBut.trans (zHK) (KeepBut.of_below hb g none) (.inl rfl)); replace HB := Ax (below_step (zHB) hb); replace HI0 := Ax (IsS66.below (zHI0) hb); (try clear hb); (try clear hb2); (try clear hk); (try clear hi); (try clear ho0)) | ((with_reducible refine gate_dst (N := 3) rfl ?_); refine box_event ?hg (N := 3) ?hd (cs := #[.int .i64 0, .int .i64 0, .slice none 0 0]) (t := 25) ?hr ?_; (case hd => rfl); (case hg => rfl); (case hr => first | (go_simp; done) | (go_simp; rfl)); intro gb238 hg w10 hbox hb; replace HO237 := Ax (Kd.N_below (Kd.N_elderB (by (with_reducible repeat (first | apply Kd.N_alloc | apply Kd.N_drewN | apply Kd.N_drew)); exact HO237.out) gb238 (Nat.le_of_eq hg.symm)) hb); replace HB := Ax (below_step (zHB) hb); have BK238 := Ax (hbox); have GW238 := Ax ((z2 : w.heap.size ≤ gb238)); have GE238 := Ax ((Nat.le_trans HW0.out (z2 : w.heap.size ≤ gb238) : w0.heap.size ≤ gb238)); replace HK := Ax (KeepBut.trans (zHK) (KeepBut.of_below hb g none) (.inl rfl)); have NB228_238 := Ax ((z6 : gb228 ≠ gb238)); have NB238_228 := Ax ((z7 : gb238 ≠ gb228)); replace BK228 := Ax (blk_below (g := gb228) (zK) hb); have NB0_238 := Ax ((by rw [hg]; exact Nat.ne_of_lt (IsS66.lt (show IsS66 w0 _ g s0_0 t232 from zHI0)) : g ≠ gb238)); have NB238_0 := Ax ((by rw [hg]; exact Nat.ne_of_gt (IsS66.lt (show IsS66 w0 _ g s0_0 t232 from zHI0)) : gb238 ≠ g)); replace HI0 := Ax (IsS66.below (zHI0) hb); clear hb hbox hg; have hnb11 := NB238_228.out; have hnc11 := NB228_238.out; have hnb12 := NB238_0.out; have hnc12 := NB0_238.out; obtain ⟨hcz13_0, hcz13_1, hcz13_2, hfz13_0, hfz13_1, hfz13_2⟩ := cells3 BK238.out; obtain ⟨Ao14, co14, eo14⟩ := Kd.N_slice HO237.out; subst eo14) | ((with_reducible refine gate_callee (f := 39) rfl ?_); refine goesL_ (some 18) rfl rfl Try.func39 (by kernel_rfl) rfl #[.pointer (some ⟨g, 0, none⟩), .int .i64 4] rfl (z1) ?_; (with_reducible refine (spec_l6Rd_pick.calls k g s0_0 t232 4 t239 t240 w0 _ ?side1 ?side2 A5.out).mono ?_); (case side1 => exact zHI0); (case side2 => exact zHB); rintro e w15 ⟨rfl, hi, hb, hk⟩; refine ⟨_, rfl, ?_⟩; replace BK228 := Ax (KeepBut.blk hk (g' := gb228) (o := .cells #[.int .i64 0, .int .i64 0, .slice none 0 0] 25 (0, 0)) (zK) NB228_0.out (by simp)); replace HO237 := Ax (Kd.N_mono (Kd.N_keep (Kd.N_mono (ok := fun k_ => ((((w.heap.size ≤ k_)) ∧ (k_ ≠ gb228 ∧ k_ ≠ g)) ∧ k_ ≠ gb238)) (by (with_reducible repeat (first | apply Kd.N_alloc | apply Kd.N_drewN | apply Kd.N_drew)); exact (Kd.N_mono (Kd.N_far (p := ⟨gb238, 2, none⟩) (Kd.N_far (p := ⟨gb238, 1, none⟩) (Kd.N_far (p := ⟨gb238, 0, none⟩) (Kd.N_mono HO237.out (fun k_ hk => (⟨hk, hk.2⟩ : _ ∧ k_ ≠ gb238))) (fun _ hk => hk.2) (.int .i64 t233)) (fun _ hk => hk.2) (.int .i64 t234)) (fun _ hk => hk.2) (.slice Ao14 t235.length co14)) (fun _ h_ => h_.1))) (fun k_ hk_ => (⟨hk_, hk_.1.2.2⟩ : _ ∧ k_ ≠ g))) hk (fun _ h => h.2)) (fun _ h => h.1)); replace BK238 := Ax (KeepBut.blk hk (g' := gb238) (o := .cells #[.int .i64 t233, .int .i64 t234, .slice Ao14 t235.length co14] 25 (0, 0)) (zK) NB238_0.out (by simp)); replace HK := Ax (KeepBut.trans (zHK) hk (.inl rfl)); replace HB := Ax (hb); replace HI0 := Ax (hi); (try clear hb); (try clear hb2); (try clear hk); (try clear hi)))
 go_loopg [4] k (fun kq v4 w' => ∃ (x4_1 : Int) (x1001_1 : Int) (x239000_1 : Int) (x239001_1 : Int) (x239002_1 : List (S30)) (u239002 : Value), v4 = .int .i64 x4_1 ∧ Aside0 (spec_l71Table.l0 kq x4_1 s0_0 x1001_1 x239000_1 x239001_1 x239002_1 = some (r1, r2, r3, r4)) ∧ Aside0 (kq ≤ k) ∧ Aside0 (Kd.N k30 30 w' w.heap.size (fun k_ => (w.heap.size ≤ k_) ∧ k_ ≠ gb228 ∧ k_ ≠ gb238 ∧ k_ ≠ g) u239002 x239002_1) ∧ Aside0 (w'.heap[gb228]? = some (.cells #[.int .i64 0, .int .i64 0, (.slice none 0 0)] 25 (0, 0))) ∧ Aside0 (w'.heap[gb238]? = some (.cells #[.int .i64 x239000_1, .int .i64 x239001_1, u239002] 25 (0, 0))) ∧ Aside0 (IsS66 w0 w' g s0_0 x1001_1) ∧ Aside0 (KeepBut w w' g none) ∧ Aside0 (Below w0.heap.size w0 w'))
 case atStart => exact ⟨(t239), (t240), (t233), (t234), (t235), (.slice Ao14 t235.length co14), (z13), H', ⟨Nat.le_refl _⟩, ⟨by (with_reducible repeat (first | apply Kd.N_alloc | apply Kd.N_drewN | apply Kd.N_drew)); exact Kd.N_mono HO237.out (fun _ hk => ⟨hk.1.1, ⟨hk.1.2.1, ⟨hk.2, hk.1.2.2⟩⟩⟩)⟩, ⟨zK⟩, ⟨zK⟩, ⟨zHI0⟩, ⟨zHK⟩, ⟨zHB⟩⟩
 clear H'
 (try clear hcz13_0); (try clear hcz13_1); (try clear hcz13_2); (try clear hfz13_0); (try clear hfz13_1); (try clear hfz13_2)
 obtain ⟨x4_1, x1001_1, x239000_1, x239001_1, x239002_1, u239002, rfl, HA, HK1, HO_239002, BK228, BK238, HI0, HK, HB⟩ := hrel
 cases gk with
 | zero => exact absurd HA.out (by simp [spec_l71Table.l0])
 | succ k1 =>
  have H := HA.out
  clear HA
  simp only [spec_l71Table.l0] at H
  by_cases c16 : x4_1 > 0
  rotate_left
  · rw [if_neg c16] at H
    have c16b0 : decide (0 < x4_1) = false := decide_eq_false c16
    clear c16
    have H' := Ax H
    clear H
    go_wp2
    go_loopg [9] k1 (fun kq v9 w' => ∃ (x9_2 : Int) (x1001_2 : Int) (x239002_2 : List (S30)) (u239002 : Value), v9 = .int .i64 x9_2 ∧ Aside0 (spec_l71Table.l1 kq x9_2 s0_0 x1001_2 x239000_1 x239001_1 x239002_2 = some (r1, r2, r3, r4)) ∧ Aside0 (kq ≤ k1) ∧ Aside0 (Kd.N k30 30 w' w.heap.size (fun k_ => (w.heap.size ≤ k_) ∧ k_ ≠ gb228 ∧ k_ ≠ gb238 ∧ k_ ≠ g) u239002 x239002_2) ∧ Aside0 (w'.heap[gb228]? = some (.cells #[.int .i64 0, .int .i64 0, (.slice none 0 0)] 25 (0, 0))) ∧ Aside0 (w'.heap[gb238]? = some (.cells #[.int .i64 x239000_1, .int .i64 x239001_1, u239002] 25 (0, 0))) ∧ Aside0 (IsS66 w0 w' g s0_0 x1001_2) ∧ Aside0 (KeepBut w w' g none) ∧ Aside0 (Below w0.heap.size w0 w'))
    case atStart => exact ⟨(0), (x1001_1), (x239002_1), (u239002), (z13), H', ⟨Nat.le_refl _⟩, ⟨z0⟩, ⟨zK⟩, ⟨zK⟩, ⟨zHI0⟩, ⟨zHK⟩, ⟨zHB⟩⟩
    clear H'
    (try clear c16); (try clear c16b0)
    obtain ⟨x9_2, x1001_2, x239002_2, u239002, rfl, HA, HK2, HO_239002, BK228, BK238, HI0, HK, HB⟩ := hrel
    cases gk with
    | zero => exact absurd HA.out (by simp [spec_l71Table.l1])
    | succ k2 =>
     have H := HA.out
     clear HA
     simp only [spec_l71Table.l1] at H
     by_cases c62 : x9_2 < (x239002_2.length : Int)
     rotate_left
     · rw [if_neg c62] at H
       have c62b0 := decide_eq_false c62
       clear c62
       simp only [Option.some.injEq, Prod.mk.injEq] at H
       obtain ⟨rfl, rfl, rfl, rfl⟩ := H
       have hnb81 := NB238_228.out
       have hnc81 := NB228_238.out
       have hnb82 := NB238_0.out
       have hnc82 := NB0_238.out
       obtain ⟨_, _, _, _, _, _⟩ := cells3 BK238.out
       obtain ⟨Ao84, co84, eo84⟩ := Kd.N_slice HO_239002.out
       subst eo84
       have hnb85 := NB228_0.out
       have hnc85 := NB0_228.out
       obtain ⟨_, _, _, _, _, _⟩ := cells3 BK228.out
       go_wp2
       refine bodyPost_ret (results_cell_row rfl _ _ gb228 25 #[.int .i64 x239000_1, .int .i64 x239001_1, .slice Ao84 x239002_2.length co84] (0, 0) _ rfl (zK) Try.underlying25 rfl (by kernel_rfl)) rfl ?_
       exact ⟨_, by first | rfl | (simp [errW_none, errW_some] <;> rfl) | (simp [*, errW_none, errW_some] <;> rfl), by (with_reducible repeat (first | apply Kd.N_alloc | apply Kd.N_drewN | apply Kd.N_drew)); exact Kd.N_mono (Kd.N_far (p := ⟨gb228, 2, none⟩) (Kd.N_far (p := ⟨gb228, 1, none⟩) (Kd.N_far (p := ⟨gb228, 0, none⟩) (Kd.N_mono HO_239002.out (fun k_ hk => (⟨hk, hk.2.1⟩ : _ ∧ k_ ≠ gb228))) (fun _ hk => hk.2) (.int .i64 x239000_1)) (fun _ hk => hk.2) (.int .i64 x239001_1)) (fun _ hk => hk.2) (.slice Ao84 x239002_2.length co84)) (fun _ hk => hk.1.1), zHI0, zHB, zHK⟩
     rw [if_pos c62] at H
     have c62b0 := decide_eq_true c62
     clear c62
     obtain ⟨⟨t256, t257⟩, A63, H⟩ := bnd H
     dsimp only at H
     by_cases c64 : t256 = 0
     rotate_left
     · rw [if_neg c64] at H
       have c64b0 : (t256 == 0) = false := beq_eq_false_iff_ne.mpr c64
       have c64b1 : (t256 != 0) = true := bne_iff_ne.mpr c64
       have H' := Ax H
       clear H
       have hnb76 := NB238_228.out
       have hnc76 := NB228_238.out
       have hnb77 := NB238_0.out
       have hnc77 := NB0_238.out
       obtain ⟨_, _, _, _, _, _⟩ := cells3 BK238.out
       obtain ⟨Ao79, co79, eo79⟩ := Kd.N_slice HO_239002.out
       subst eo79
       go_wp2_with (first | ((with_reducible refine gate_callee (f := 39) rfl ?_); refine goesL_ (some 62) rfl rfl Try.func39 (by kernel_rfl) rfl #[.pointer (some ⟨g, 0, none⟩), .int .i64 2] rfl (z1) ?_; (with_reducible refine (spec_l6Rd_pick.calls k2 g s0_0 x1001_2 2 t256 t257 w0 _ ?side1 ?side2 A63.out).mono ?_); (case side1 => exact zHI0); (case side2 => exact zHB); rintro e w80 ⟨rfl, hi, hb, hk⟩; refine ⟨_, rfl, ?_⟩; replace HO_239002 := Ax (Kd.N_mono (Kd.N_keep (Kd.N_mono (ok := fun k_ => (((w.heap.size ≤ k_)) ∧ (k_ ≠ gb228 ∧ (k_ ≠ gb238 ∧ k_ ≠ g)))) (z0) (fun k_ hk_ => (⟨hk_, hk_.2.2.2⟩ : _ ∧ k_ ≠ g))) hk (fun _ h => h.2)) (fun _ h => h.1)); replace BK228 := Ax (KeepBut.blk hk (g' := gb228) (o := .cells #[.int .i64 0, .int .i64 0, .slice none 0 0] 25 (0, 0)) (zK) NB228_0.out (by simp)); replace BK238 := Ax (KeepBut.blk hk (g' := gb238) (o := .cells #[.int .i64 x239000_1, .int .i64 x239001_1, .slice Ao79 x239002_2.length co79] 25 (0, 0)) (zK) NB238_0.out (by simp)); replace HK := Ax (KeepBut.trans (zHK) hk (.inl rfl)); replace HB := Ax (hb); replace HI0 := Ax (hi); (try clear hb); (try clear hb2); (try clear hk); (try clear hi)))
       go_roundg k2
       case measure => have := HK1.out; have := HK2.out; omega
       exact ⟨(wrap64 (x9_2 + 1)), (t257), (x239002_2), (.slice Ao79 x239002_2.length co79), (z13), H', ⟨by have := HK1.out; have := HK2.out; omega⟩, ⟨z0⟩, ⟨zK⟩, ⟨zK⟩, ⟨zHI0⟩, ⟨zHK⟩, ⟨zHB⟩⟩
     rw [if_pos c64] at H
     have c64b0 : (t256 == 0) = true := beq_iff_eq.mpr c64
     have c64b1 : (t256 != 0) = false := bne_eq_false_iff_eq.mpr c64
     clear c64
     obtain ⟨⟨t258, t261⟩, A65, H⟩ := bnd H
     dsimp only at H
     by_cases c66 : 0 ≤ x9_2
     rotate_left
     · rw [if_neg c66] at H
       exact absurd H (by simp)
     rw [if_pos c66] at H
     have c66b0 := decide_eq_true c66
     clear c66
     obtain ⟨y262, hy_⟩ : ∃ y_ : List (S30), y_ = (x239002_2.set (x9_2 : Int).toNat (⟨(rd_T30 x239002_2 x9_2).f0, (rd_T30 x239002_2 x9_2).f1, (rd_T30 x239002_2 x9_2).f2, (rd_T30 x239002_2 x9_2).f3, t258⟩ : S30)) := ⟨_, rfl⟩
     replace H : (spec_l71Table.l1 k2 (wrap64 (x9_2 + 1)) s0_0 t261 x239000_1 x239001_1 y262) = some (r1, r2, r3, r4) := zy
     have Ny262 := Ax hy_
     clear hy_
     have H' := Ax H
     clear H
     have hnb68 := NB238_228.out
     have hnc68 := NB228_238.out
     have hnb69 := NB238_0.out
     have hnc69 := NB0_238.out
     obtain ⟨_, _, _, _, _, _⟩ := cells3 BK238.out
     obtain ⟨Ao71, co71, eo71⟩ := Kd.N_slice HO_239002.out
     subst eo71
     try go_wp2_with (first | ((with_reducible refine gate_callee (f := 39) rfl ?_); refine goesL_ (some 62) rfl rfl Try.func39 (by kernel_rfl) rfl #[.pointer (some ⟨g, 0, none⟩), .int .i64 2] rfl (z1) ?_; (with_reducible refine (spec_l6Rd_pick.calls k2 g s0_0 x1001_2 2 t256 t257 w0 _ ?side1 ?side2 A63.out).mono ?_); (case side1 => exact zHI0); (case side2 => exact zHB); rintro e w72 ⟨rfl, hi, hb, hk⟩; refine ⟨_, rfl, ?_⟩; replace HO_239002 := Ax (Kd.N_mono (Kd.N_keep (Kd.N_mono (ok := fun k_ => (((w.heap.size ≤ k_)) ∧ (k_ ≠ gb228 ∧ (k_ ≠ gb238 ∧ k_ ≠ g)))) (z0) (fun k_ hk_ => (⟨hk_, hk_.2.2.2⟩ : _ ∧ k_ ≠ g))) hk (fun _ h => h.2)) (fun _ h => h.1)); replace BK228 := Ax (KeepBut.blk hk (g' := gb228) (o := .cells #[.int .i64 0, .int .i64 0, .slice none 0 0] 25 (0, 0)) (zK) NB228_0.out (by simp)); replace BK238 := Ax (KeepBut.blk hk (g' := gb238) (o := .cells #[.int .i64 x239000_1, .int .i64 x239001_1, .slice Ao71 x239002_2.length co71] 25 (0, 0)) (zK) NB238_0.out (by simp)); replace HK := Ax (KeepBut.trans (zHK) hk (.inl rfl)); replace HB := Ax (hb); replace HI0 := Ax (hi); (try clear hb); (try clear hb2); (try clear hk); (try clear hi)))
     replace HO_239002 := Ax (Kd.N_drew HO_239002.out)
     replace BK228 := Ax (blk_drew BK228.out)
     replace BK238 := Ax (blk_drew BK238.out)
     replace HI0 := Ax (IsS66.drew HI0.out)
     replace HK := Ax (keep_drew HK.out)
     replace HB := Ax (below_drew1 HB.out)
     refine start_ (n := 8) (S := fun w' => w'.cell? ⟨gb238, 0, none⟩ = some (.int .i64 x239000_1) ∧ w'.cell? ⟨gb238, 1, none⟩ = some (.int .i64 x239001_1) ∧ w'.cell? ⟨gb238, 2, none⟩ = some (.slice Ao71 x239002_2.length co71)) (ds := [7]) #[false, false, false, false, false, false, false, false] (by kernel_rfl) rfl rfl ⟨(blk_cell BK238.out 0).trans rfl, (blk_cell BK238.out 1).trans rfl, (blk_cell BK238.out 2).trans rfl⟩ (fun hHeld => ?_); refine with_tabW spec_l71Table.tab14 spec_l71Table.bits14 (fun HT_ HW_ => ?_)
     generalize w72.drew = w73 at HO_239002 BK228 BK238 HI0 HK HB hHeld ⊢
     refine pure_ (i := 0) (N := some 64) (v := ?_) (a' := ?_) (bl 8 1) rfl rfl (any_of HT_.out (by kernel_rfl)) (fun _ _ _ h => h) (Or.inl ⟨by rfl, ?_⟩) ?_ ?_
     rotate_left
     · exact zEv
     rotate_left
     · exact zAct
     refine pure_ (i := 2) (N := some 66) (v := ?_) (a' := ?_) (bl 8 5) rfl rfl (any_of HT_.out (by kernel_rfl)) (fun _ _ _ h => h) (Or.inl ⟨by rfl, ?_⟩) ?_ ?_
     rotate_left
     · exact zEv
     rotate_left
     · exact zAct
     refine pure_ (i := 3) (N := some 67) (v := ?_) (a' := ?_) (bl 8 13) rfl rfl (any_of HT_.out (by kernel_rfl)) (fun _ _ _ h => h) (Or.inl ⟨by rfl, ?_⟩) ?_ ?_
     rotate_left
     · exact zEv
     rotate_left
     · exact zAct
     refine take_ (i := 1) (N := some 65) (v := ?_) (a' := ?_) (bl 8 15) rfl rfl (take_ofW HT_.out HW_.out (by kernel_rfl)) (fun _ _ _ h => h) (Or.inl ⟨by rfl, ?_⟩) hHeld ?_ ?_
     rotate_left
     · rintro w' ⟨s0, s1, s2⟩
       go_simp
       with_reducible rfl
     rotate_left
     · exact zAct
     refine one_ (i := 4) (N := some 68) (bl 8 31) rfl rfl (one_of HT_.out (by kernel_rfl)) (by decide) (fun K hK => ?_)
     refine goes_ Try.func56 (by kernel_rfl) rfl #[.pointer (some ⟨g, 0, none⟩), .int .i64 5] (by rfl) rfl rfl (z1) ?_
     with_reducible refine (spec_l71Text.calls k2 g s0_0 t257 5 t258 t261 w0 _ ?side1 ?side2 A65.out).mono ?_
     (case side1 => exact zHI0)
     (case side2 => exact zHB)
     rintro e w74 ⟨v259, rfl, ho0, hi, hb, hk⟩
     refine ⟨_, rfl, ?_⟩
     replace HO_239002 := Ax (Kd.N_mono (Kd.N_told (Kd.N_oldK (Kd.N_mono (ok := fun k_ => (((w.heap.size ≤ k_)) ∧ (k_ ≠ gb228 ∧ (k_ ≠ gb238 ∧ k_ ≠ g)))) (z0) (fun k_ hk_ => (⟨hk_, hk_.2.2.2⟩ : _ ∧ k_ ≠ g))) hk) (Kd.R_base ho0)) (fun _ h_ => h_.1))
     replace BK228 := Ax (KeepBut.blk hk (g' := gb228) (o := .cells #[.int .i64 0, .int .i64 0, .slice none 0 0] 25 (0, 0)) (zK) NB228_0.out (by simp))
     replace BK238 := Ax (KeepBut.blk hk (g' := gb238) (o := .cells #[.int .i64 x239000_1, .int .i64 x239001_1, .slice Ao71 x239002_2.length co71] 25 (0, 0)) (zK) NB238_0.out (by simp))
     have HO260 := Ax (Kd.R_lower (Kd.R_newM (M := fun k_ => (w.heap.size ≤ k_)) ho0 (keep_size (w := w) (g := g) (row := none) (zHK)) (fun k_ h_ => h_)) (keep_size (w := w) (g := g) (row := none) (zHK)))
     replace HK := Ax (KeepBut.trans (zHK) hk (.inl rfl))
     replace HB := Ax (hb)
     replace HI0 := Ax (hi)
     (try clear hb); (try clear hk); (try clear hi); (try clear ho0)
     have p67 : 0 ≤ (x9_2 : Int) := of_decide_eq_true (z10)
     have q67 : (x9_2 : Int) < ((x239002_2.length : Int) : Int) := of_decide_eq_true (z10)
     obtain ⟨go67, co67, eo67, gb67, gl67, cl67, HG67⟩ := Kd.N_form HO_239002.out (by omega)
     (first | cases eo67 | (injection eo67 with ea_ en_ ec_; (first | subst ea_ | (injection ea_ with ea_; subst ea_)); subst ec_; clear en_))
     have GB67 := Ax gb67
     have GG67 := Ax HG67
     clear gb67 gl67 HG67
     obtain ⟨ce67, hcl67, hM67, hcc67, hfr67⟩ := Kd.N_elem HO_239002.out z30 (x9_2 : Int) p67 q67
     obtain ⟨ua67_4, uc67_4, rfl, ul67_4, ge67_4⟩ := k30_openF hM67
     have hx67_0 : World.cell? _ ⟨go67, (x9_2 : Int).toNat * 5, none⟩ = some (.int .i64 ((rd_T30 x239002_2 x9_2).f0)) := hcc67 0 _ rfl
     have hx67_1 : World.cell? _ ⟨go67, (x9_2 : Int).toNat * 5 + 1, none⟩ = some (.int .i64 ((rd_T30 x239002_2 x9_2).f1)) := hcc67 1 _ rfl
     have hx67_2 : World.cell? _ ⟨go67, (x9_2 : Int).toNat * 5 + 2, none⟩ = some (.int .i64 ((rd_T30 x239002_2 x9_2).f2)) := hcc67 2 _ rfl
     have hx67_3 : World.cell? _ ⟨go67, (x9_2 : Int).toNat * 5 + 3, none⟩ = some (.int .i64 ((rd_T30 x239002_2 x9_2).f3)) := hcc67 3 _ rfl
     have hx67_4 : World.cell? _ ⟨go67, (x9_2 : Int).toNat * 5 + 4, none⟩ = some (.slice ua67_4 ((rd_T30 x239002_2 x9_2).f4).length uc67_4) := hcc67 4 _ rfl
     have hf67_0 : World.frozen? _ ⟨go67, (x9_2 : Int).toNat * 5, none⟩ = false := hfr67 0
     have hf67_1 : World.frozen? _ ⟨go67, (x9_2 : Int).toNat * 5 + 1, none⟩ = false := hfr67 1
     have hf67_2 : World.frozen? _ ⟨go67, (x9_2 : Int).toNat * 5 + 2, none⟩ = false := hfr67 2
     have hf67_3 : World.frozen? _ ⟨go67, (x9_2 : Int).toNat * 5 + 3, none⟩ = false := hfr67 3
     have hf67_4 : World.frozen? _ ⟨go67, (x9_2 : Int).toNat * 5 + 4, none⟩ = false := hfr67 4
     clear hcl67 hcc67 hfr67 hM67
     replace p67 := eq_true p67
     replace q67 := eq_true q67
     have HN0_go67 := Ax (show g ≠ go67 from by have h_ := IsS66.own_neN HI0.out HO_239002.out (by decide); intro e_; exact h_ (by rw [e_]; rfl))
     have HX75 := Ax (show Kd.N k30 30 _ w.heap.size (fun k_ => (w.heap.size ≤ k_) ∧ some k_ ≠ (v259 : Value).ownBlock ∧ k_ ≠ gb228 ∧ k_ ≠ gb238 ∧ k_ ≠ g) (.slice (some ⟨go67, 0, none⟩) x239002_2.length co71) x239002_2 from (Kd.N_mono (HO_239002.out) (fun k_ hk => ⟨hk.1.1, ⟨hk.2, ⟨hk.1.2.1, ⟨hk.1.2.2.1, hk.1.2.2.2⟩⟩⟩⟩)))
     replace HX75 := Ax (show Kd.N k30 30 _ w.heap.size (fun k_ => (w.heap.size ≤ k_) ∧ k_ ≠ gb228 ∧ k_ ≠ gb238 ∧ k_ ≠ g) (.slice (some ⟨go67, 0, none⟩) x239002_2.length co71) x239002_2 from Kd.N_mono HX75.out (fun k_ hk => ⟨hk.1, ⟨hk.2.2.1, ⟨hk.2.2.2.1, hk.2.2.2.2⟩⟩⟩))
     obtain ⟨ce75, hcl75, hM75, hcc75, hfr75⟩ := Kd.N_elem HX75.out z30 (x9_2 : Int) (of_decide_eq_true (z10)) (z16)
     obtain ⟨ua75_4, uc75_4, rfl, ul75_4, ge75_4⟩ := k30_openF hM75
     have HN_ := IsS66.apart HI0.out (Kd.R_types (Kd.R_types (Kd.R_apart' (HO260.out) (Kd.N_typed HO_239002.out) (by decide)) BK228.out (by decide)) BK238.out (by decide)) (by decide)
     have HM_ := Kd.R_mono (ok' := (fun k_ => ((fun k_ => (w.heap.size ≤ k_) ∧ k_ ≠ gb228 ∧ k_ ≠ gb238 ∧ k_ ≠ g)) k_ ∧ k_ ≠ go67)) HN_ (fun k_ hk => ⟨⟨hk.1.1.1.1.1, ⟨hk.1.1.2, ⟨hk.1.2, hk.2⟩⟩⟩, fun e_ => (hk.1.1.1.2) (by rw [e_]; rfl)⟩)
     clear HN_
     obtain ⟨Ao_, co_, ev_⟩ := Kd.R_slice HM_
     subst ev_
     have HP75 := (Kd.N_seg HX75.out (x9_2 : Int) (of_decide_eq_true (z10)) (z16) (seg := [(Value.slice Ao_ t258.length co_)]) (j := 4) hcl75 hcc75 (show 5 ≤ 5 from by decide) (x' := (⟨(rd_T30 x239002_2 x9_2).f0, (rd_T30 x239002_2 x9_2).f1, (rd_T30 x239002_2 x9_2).f2, (rd_T30 x239002_2 x9_2).f3, t258⟩ : S30)) (k30_mkF _ _ (⟨(rd_T30 x239002_2 x9_2).f0, (rd_T30 x239002_2 x9_2).f1, (rd_T30 x239002_2 x9_2).f2, (rd_T30 x239002_2 x9_2).f3, t258⟩ : S30) (Kd.R_reads' HM_).2.1 (Kd.R_F HM_)) (fun _ hk => hk)).1
     clear HM_
     rw [← Ny262.out] at HP75
     have HQ75 := Ax HP75
     clear hcl75 hcc75 hfr75 hM75 HP75
     refine hK.out _ _ ⟨(blk_cell BK238.out 0).trans rfl, (blk_cell BK238.out 1).trans rfl, (blk_cell BK238.out 2).trans rfl⟩ (fun hHeld => ?_)
     clear hK K
     refine norm_ (a' := ?_) ?_ ?_
     rotate_left
     · show Act.put _ (some 68) _ = _
       exact zAct
     refine pure_ (i := 5) (N := some 69) (v := ?_) (a' := ?_) (bl 8 63) rfl rfl (any_of HT_.out (by kernel_rfl)) (fun _ _ _ h => h) (Or.inl ⟨by rfl, ?_⟩) ?_ ?_
     rotate_left
     · exact zEv
     rotate_left
     · exact zAct
     refine pure_ (i := 6) (N := some 70) (v := ?_) (a' := ?_) (bl 8 127) rfl rfl (any_of HT_.out (by kernel_rfl)) (fun _ _ _ h => h) (Or.inl ⟨by rfl, ?_⟩) ?_ ?_
     rotate_left
     · exact zEv
     rotate_left
     · exact zAct
     refine last_ (i := 7) (N := none) (bl 8 255) rfl rfl (one_of HT_.out (by kernel_rfl)) (by decide) (fun K hK => ?_)
     refine skip_ (w1 := ?_) (by rfl) rfl ?_ ?_
     rotate_left
     · go_simp
       rfl
     refine hK.out _ _ ?_
     clear hK K
     refine done_ (done_of HT_.out (by kernel_rfl)) ?_
     try go_wp2
     go_roundg k2
     case measure => have := HK1.out; have := HK2.out; omega
     exact ⟨(wrap64 (x9_2 + 1)), (t261), (y262), (.slice (some ⟨go67, 0, none⟩) x239002_2.length co71), (z13), H', ⟨by have := HK1.out; have := HK2.out; omega⟩, ⟨by (with_reducible repeat (first | apply Kd.N_alloc | apply Kd.N_drewN | apply Kd.N_drew)); exact HQ75.out⟩, ⟨by (with_reducible repeat (first | refine blk_drewN ?_ _ | refine blk_drew ?_ | refine blk_alloc ?_ _)); refine blk_far ?_ (by have h_ := Kd.N_away HO_239002.out (fun _ hk => by first | exact hk.2.1 | exact hk.1.2.1); intro e_; exact h_ (by rw [e_]; rfl)) _; (with_reducible repeat (first | refine blk_drewN ?_ _ | refine blk_drew ?_ | refine blk_alloc ?_ _)); exact BK228.out⟩, ⟨by (with_reducible repeat (first | refine blk_drewN ?_ _ | refine blk_drew ?_ | refine blk_alloc ?_ _)); refine blk_far ?_ (by have h_ := Kd.N_away HO_239002.out (fun _ hk => by first | exact hk.2.2.1 | exact hk.1.2.2.1); intro e_; exact h_ (by rw [e_]; rfl)) _; (with_reducible repeat (first | refine blk_drewN ?_ _ | refine blk_drew ?_ | refine blk_alloc ?_ _)); exact BK238.out⟩, ⟨zHI0⟩, ⟨zHK⟩, ⟨zHB⟩⟩
  rw [if_pos c16] at H
  have c16b0 := decide_eq_true c16
  clear c16
  obtain ⟨⟨t241, t242⟩, A17, H⟩ := bnd H
  dsimp only at H
  obtain ⟨⟨t243, t244⟩, A18, H⟩ := bnd H
  dsimp only at H
  obtain ⟨⟨t245, t246⟩, A19, H⟩ := bnd H
  dsimp only at H
  obtain ⟨⟨t247, t248⟩, A20, H⟩ := bnd H
  dsimp only at H
  obtain ⟨⟨t249, t250, t251, t254⟩, A21, H⟩ := bnd H
  dsimp only at H
  obtain rfl | rfl := tf t254
  rotate_left
  · rw [if_neg Bool.false_ne_true] at H
    have H' := Ax H
    clear H
    have hnb45 := NB238_228.out
    have hnc45 := NB228_238.out
    have hnb46 := NB238_0.out
    have hnc46 := NB0_238.out
    obtain ⟨_, _, _, _, _, _⟩ := cells3 BK238.out
    try go_wp2_with (first | ((with_reducible refine gate_callee (f := 39) rfl ?_); refine goesL_ (some 26) rfl rfl Try.func39 (by kernel_rfl) rfl #[.pointer (some ⟨g, 0, none⟩), .int .i64 x239000_1] rfl (z1) ?_; (with_reducible refine (spec_l6Rd_pick.calls k1 g s0_0 x1001_1 x239000_1 t241 t242 w0 _ ?side1 ?side2 A17.out).mono ?_); (case side1 => exact zHI0); (case side2 => exact zHB); rintro e w48 ⟨rfl, hi, hb, hk⟩; refine ⟨_, rfl, ?_⟩; replace HO_239002 := Ax (Kd.N_mono (Kd.N_keep (Kd.N_mono (ok := fun k_ => (((w.heap.size ≤ k_)) ∧ (k_ ≠ gb228 ∧ (k_ ≠ gb238 ∧ k_ ≠ g)))) (z0) (fun k_ hk_ => (⟨hk_, hk_.2.2.2⟩ : _ ∧ k_ ≠ g))) hk (fun _ h => h.2)) (fun _ h => h.1)); replace BK228 := Ax (KeepBut.blk hk (g' := gb228) (o := .cells #[.int .i64 0, .int .i64 0, .slice none 0 0] 25 (0, 0)) (zK) NB228_0.out (by simp)); replace BK238 := Ax (KeepBut.blk hk (g' := gb238) (o := .cells #[.int .i64 x239000_1, .int .i64 x239001_1, u239002] 25 (0, 0)) (zK) NB238_0.out (by simp)); replace HK := Ax (KeepBut.trans (zHK) hk (.inl rfl)); replace HB := Ax (hb); replace HI0 := Ax (hi); (try clear hb); (try clear hb2); (try clear hk); (try clear hi); obtain ⟨_, _, _, _, _, _⟩ := cells3 BK238.out) | ((with_reducible refine gate_callee (f := 39) rfl ?_); refine goesL_ (some 30) rfl rfl Try.func39 (by kernel_rfl) rfl #[.pointer (some ⟨g, 0, none⟩), .int .i64 x239001_1] rfl (z1) ?_; (with_reducible refine (spec_l6Rd_pick.calls k1 g s0_0 t242 x239001_1 t243 t244 w0 _ ?side1 ?side2 A18.out).mono ?_); (case side1 => exact zHI0); (case side2 => exact zHB); rintro e w50 ⟨rfl, hi, hb, hk⟩; refine ⟨_, rfl, ?_⟩; replace HO_239002 := Ax (Kd.N_mono (Kd.N_keep (Kd.N_mono (ok := fun k_ => (((w.heap.size ≤ k_)) ∧ (k_ ≠ gb228 ∧ (k_ ≠ gb238 ∧ k_ ≠ g)))) (z0) (fun k_ hk_ => (⟨hk_, hk_.2.2.2⟩ : _ ∧ k_ ≠ g))) hk (fun _ h => h.2)) (fun _ h => h.1)); replace BK228 := Ax (KeepBut.blk hk (g' := gb228) (o := .cells #[.int .i64 0, .int .i64 0, .slice none 0 0] 25 (0, 0)) (zK) NB228_0.out (by simp)); replace BK238 := Ax (KeepBut.blk hk (g' := gb238) (o := .cells #[.int .i64 x239000_1, .int .i64 x239001_1, u239002] 25 (0, 0)) (zK) NB238_0.out (by simp)); replace HK := Ax (KeepBut.trans (zHK) hk (.inl rfl)); replace HB := Ax (hb); replace HI0 := Ax (hi); (try clear hb); (try clear hb2); (try clear hk); (try clear hi); obtain ⟨Ao51, co51, eo51⟩ := Kd.N_slice HO_239002.out; subst eo51))
    replace HO_239002 := Ax (Kd.N_drew HO_239002.out)
    replace BK228 := Ax (blk_drew BK228.out)
    replace BK238 := Ax (blk_drew BK238.out)
    replace HI0 := Ax (IsS66.drew HI0.out)
    replace HK := Ax (keep_drew HK.out)
    replace HB := Ax (below_drew1 HB.out)
    refine start_ (n := 24) (S := fun w' => w'.cell? ⟨gb238, 0, none⟩ = some (.int .i64 x239000_1) ∧ w'.cell? ⟨gb238, 1, none⟩ = some (.int .i64 x239001_1) ∧ w'.cell? ⟨gb238, 2, none⟩ = some (.slice Ao51 x239002_1.length co51)) (ds := []) #[false, false, false, false, false, false, false, false, false, false, false, false, false, false, false, false, false, false, false, false, false, false, false, false] (by kernel_rfl) rfl rfl ⟨(blk_cell BK238.out 0).trans rfl, (blk_cell BK238.out 1).trans rfl, (blk_cell BK238.out 2).trans rfl⟩ (fun hHeld => ?_); refine with_tabW spec_l71Table.tab7 spec_l71Table.bits7 (fun HT_ HW_ => ?_)
    generalize w50.drew = w52 at HO_239002 BK228 BK238 HI0 HK HB hHeld ⊢
    refine pure_ (i := 1) (N := some 33) (v := ?_) (a' := ?_) (bl 24 2) rfl rfl (any_of HT_.out (by kernel_rfl)) (fun _ _ _ h => h) (Or.inl ⟨by rfl, ?_⟩) ?_ ?_
    rotate_left
    · exact zEv
    rotate_left
    · exact zAct
    refine pure_ (i := 2) (N := some 34) (v := ?_) (a' := ?_) (bl 24 6) rfl rfl (any_of HT_.out (by kernel_rfl)) (fun _ _ _ h => h) (Or.inl ⟨by rfl, ?_⟩) ?_ ?_
    rotate_left
    · exact zEv
    rotate_left
    · exact zAct
    refine pure_ (i := 3) (N := some 35) (v := ?_) (a' := ?_) (bl 24 14) rfl rfl (any_of HT_.out (by kernel_rfl)) (fun _ _ _ h => h) (Or.inl ⟨by rfl, ?_⟩) ?_ ?_
    rotate_left
    · exact zEv
    rotate_left
    · exact zAct
    refine pure_ (i := 4) (N := some 36) (v := ?_) (a' := ?_) (bl 24 30) rfl rfl (any_of HT_.out (by kernel_rfl)) (fun _ _ _ h => h) (Or.inl ⟨by rfl, ?_⟩) ?_ ?_
    rotate_left
    · exact zEv
    rotate_left
    · exact zAct
    refine pure_ (i := 6) (N := some 38) (v := ?_) (a' := ?_) (bl 24 94) rfl rfl (any_of HT_.out (by kernel_rfl)) (fun _ _ _ h => h) (Or.inl ⟨by rfl, ?_⟩) ?_ ?_
    rotate_left
    · exact zEv
    rotate_left
    · exact zAct
    refine pure_ (i := 10) (N := some 42) (v := ?_) (a' := ?_) (bl 24 1118) rfl rfl (any_of HT_.out (by kernel_rfl)) (fun _ _ _ h => h) (Or.inl ⟨by rfl, ?_⟩) ?_ ?_
    rotate_left
    · exact zEv
    rotate_left
    · exact zAct
    refine pure_ (i := 11) (N := some 43) (v := ?_) (a' := ?_) (bl 24 3166) rfl rfl (any_of HT_.out (by kernel_rfl)) (fun _ _ _ h => h) (Or.inl ⟨by rfl, ?_⟩) ?_ ?_
    rotate_left
    · exact zEv
    rotate_left
    · exact zAct
    refine pure_ (i := 13) (N := some 45) (v := ?_) (a' := ?_) (bl 24 11358) rfl rfl (any_of HT_.out (by kernel_rfl)) (fun _ _ _ h => h) (Or.inl ⟨by rfl, ?_⟩) ?_ ?_
    rotate_left
    · exact zEv
    rotate_left
    · exact zAct
    refine take_ (i := 0) (N := some 32) (v := ?_) (a' := ?_) (bl 24 11359) rfl rfl (take_ofW HT_.out HW_.out (by kernel_rfl)) (fun _ _ _ h => h) (Or.inl ⟨by rfl, ?_⟩) hHeld ?_ ?_
    rotate_left
    · rintro w' ⟨s0, s1, s2⟩
      go_simp
      with_reducible rfl
    rotate_left
    · exact zAct
    refine take_ (i := 5) (N := some 37) (v := ?_) (a' := ?_) (bl 24 11391) rfl rfl (take_ofW HT_.out HW_.out (by kernel_rfl)) (fun _ _ _ h => h) (Or.inl ⟨by rfl, ?_⟩) hHeld ?_ ?_
    rotate_left
    · rintro w' ⟨s0, s1, s2⟩
      go_simp
      with_reducible rfl
    rotate_left
    · exact zAct
    refine pure_ (i := 7) (N := some 39) (v := ?_) (a' := ?_) (bl 24 11519) rfl rfl (any_of HT_.out (by kernel_rfl)) (fun _ _ _ h => h) (Or.inl ⟨by rfl, ?_⟩) ?_ ?_
    rotate_left
    · exact zEv
    rotate_left
    · exact zAct
    refine take_ (i := 12) (N := some 44) (v := ?_) (a' := ?_) (bl 24 15615) rfl rfl (take_ofW HT_.out HW_.out (by kernel_rfl)) (fun _ _ _ h => h) (Or.inl ⟨by rfl, ?_⟩) hHeld ?_ ?_
    rotate_left
    · rintro w' ⟨s0, s1, s2⟩
      go_simp
      with_reducible rfl
    rotate_left
    · exact zAct
    refine pure_ (i := 14) (N := some 46) (v := ?_) (a' := ?_) (bl 24 31999) rfl rfl (any_of HT_.out (by kernel_rfl)) (fun _ _ _ h => h) (Or.inl ⟨by rfl, ?_⟩) ?_ ?_
    rotate_left
    · exact zEv
    rotate_left
    · exact zAct
    refine join_ (σ := Value × Nat) 2 #[true, true, true, true, true, true, true, true, true, true, true, true, true, true, true, true, true, true, true, true, true, true, false, false] (fun s_ => [(40, .int .i64 t245), (47, .int .i64 t247), (49, .tuple #[.agg #[.int .i64 t249, .int .i64 t250, s_.1], .bool false]), (7, .pointer (some ⟨s_.2, 0, none⟩)), (41, .int .i64 (wrap64 (1 + t245))), (48, .int .i64 (wrap64 (1 + t247))), (31, .tuple #[.agg #[.int .i64 t249, .int .i64 t250, s_.1], .bool false]), (50, .agg #[.int .i64 t249, .int .i64 t250, s_.1]), (51, .bool false)]) (fun s_ w' => (w'.cell? ⟨gb238, 0, none⟩ = some (.int .i64 x239000_1) ∧ w'.cell? ⟨gb238, 1, none⟩ = some (.int .i64 x239001_1) ∧ w'.cell? ⟨gb238, 2, none⟩ = some (.slice Ao51 x239002_1.length co51)) ∧ (Kd.N k30 30 w' w.heap.size (fun k_ => (w.heap.size ≤ k_) ∧ some k_ ≠ (.slice Ao51 x239002_1.length co51 : Value).ownBlock ∧ k_ ≠ g ∧ k_ ≠ gb228 ∧ k_ ≠ gb238 ∧ k_ ≠ s_.2) s_.1 t251) ∧ (Kd.N k30 30 w' w.heap.size (fun k_ => (w.heap.size ≤ k_) ∧ some k_ ≠ (s_.1 : Value).ownBlock ∧ k_ ≠ g ∧ k_ ≠ gb228 ∧ k_ ≠ gb238 ∧ k_ ≠ s_.2) (.slice Ao51 x239002_1.length co51) x239002_1) ∧ (w'.heap[gb228]? = some (.cells #[.int .i64 0, .int .i64 0, .slice none 0 0] 25 (0, 0))) ∧ (w'.heap[gb238]? = some (.cells #[.int .i64 x239000_1, .int .i64 x239001_1, .slice Ao51 x239002_1.length co51] 25 (0, 0))) ∧ (w'.heap[s_.2]? = some (.cells #[.int .i64 0, .int .i64 0, .slice none 0 0] 25 (0, 0))) ∧ (w.heap.size ≤ s_.2) ∧ (w0.heap.size ≤ s_.2) ∧ (g ≠ s_.2) ∧ (s_.2 ≠ g) ∧ (gb228 ≠ s_.2) ∧ (s_.2 ≠ gb228) ∧ (gb238 ≠ s_.2) ∧ (s_.2 ≠ gb238) ∧ (IsS66 w0 w' g s0_0 t248) ∧ (KeepBut w w' g none) ∧ (Below w0.heap.size w0 w')) ?_ ?_
    rotate_left
    · intro hCont
      refine two_ (i := 8) (j := 21) (Ni := some 40) (Nj := some 7) #[true, true, true, true, true, true, true, true, true, false, true, true, true, true, true, false, false, false, false, false, false, false, false, false] #[true, true, true, true, true, true, true, true, false, false, true, true, true, true, true, false, false, false, false, false, false, true, false, false] rfl rfl rfl rfl (two_of HT_.out (by kernel_rfl)) (by decide) (by decide) (fun K hK => ?_) (fun K hK => ?_)
      · skip
        refine goes_ Try.func39 (by kernel_rfl) rfl #[.pointer (some ⟨g, 0, none⟩), .int .i64 (wrap64 (x239000_1 - t241))] (by rfl) rfl rfl (z1) ?_
        with_reducible refine (spec_l6Rd_pick.calls k1 g s0_0 t244 (wrap64 (x239000_1 - t241)) t245 t246 w0 _ ?side1 ?side2 A19.out).mono ?_
        (case side1 => exact zHI0)
        (case side2 => exact zHB)
        rintro e w53 ⟨rfl, hi, hb, hk⟩
        refine ⟨_, rfl, ?_⟩
        replace HO_239002 := Ax (Kd.N_mono (Kd.N_keep (Kd.N_mono (ok := fun k_ => (((w.heap.size ≤ k_)) ∧ (k_ ≠ gb228 ∧ (k_ ≠ gb238 ∧ k_ ≠ g)))) (z0) (fun k_ hk_ => (⟨hk_, hk_.2.2.2⟩ : _ ∧ k_ ≠ g))) hk (fun _ h => h.2)) (fun _ h => h.1))
        replace BK228 := Ax (KeepBut.blk hk (g' := gb228) (o := .cells #[.int .i64 0, .int .i64 0, .slice none 0 0] 25 (0, 0)) (zK) NB228_0.out (by simp))
        replace BK238 := Ax (KeepBut.blk hk (g' := gb238) (o := .cells #[.int .i64 x239000_1, .int .i64 x239001_1, .slice Ao51 x239002_1.length co51] 25 (0, 0)) (zK) NB238_0.out (by simp))
        replace HK := Ax (KeepBut.trans (zHK) hk (.inl rfl))
        replace HB := Ax (hb)
        replace HI0 := Ax (hi)
        (try clear hb); (try clear hk); (try clear hi)
        refine hK.out _ _ ⟨(blk_cell BK238.out 0).trans rfl, (blk_cell BK238.out 1).trans rfl, (blk_cell BK238.out 2).trans rfl⟩ (fun hHeld => ?_)
        clear hK K
        refine norm_ (a' := ?_) ?_ ?_
        rotate_left
        · show Act.put _ (some 40) _ = _
          exact zAct
        refine pure_ (i := 9) (N := some 41) (v := ?_) (a' := ?_) (bl 24 32767) rfl rfl (any_of HT_.out (by kernel_rfl)) (fun _ _ _ h => h) (Or.inl ⟨by rfl, ?_⟩) ?_ ?_
        rotate_left
        · exact zEv
        rotate_left
        · exact zAct
        refine two_ (i := 15) (j := 21) (Ni := some 47) (Nj := some 7) #[true, true, true, true, true, true, true, true, true, true, true, true, true, true, true, true, false, false, false, false, false, false, false, false] #[true, true, true, true, true, true, true, true, true, true, true, true, true, true, true, false, false, false, false, false, false, true, false, false] rfl rfl rfl rfl (two_of HT_.out (by kernel_rfl)) (by decide) (by decide) (fun K hK => ?_) (fun K hK => ?_)
        · skip
          refine goes_ Try.func39 (by kernel_rfl) rfl #[.pointer (some ⟨g, 0, none⟩), .int .i64 (wrap64 (x239001_1 - t243))] (by rfl) rfl rfl (z1) ?_
          with_reducible refine (spec_l6Rd_pick.calls k1 g s0_0 t246 (wrap64 (x239001_1 - t243)) t247 t248 w0 _ ?side1 ?side2 A20.out).mono ?_
          (case side1 => exact zHI0)
          (case side2 => exact zHB)
          rintro e w54 ⟨rfl, hi, hb, hk⟩
          refine ⟨_, rfl, ?_⟩
          replace HO_239002 := Ax (Kd.N_mono (Kd.N_keep (Kd.N_mono (ok := fun k_ => (((w.heap.size ≤ k_)) ∧ (k_ ≠ gb228 ∧ (k_ ≠ gb238 ∧ k_ ≠ g)))) (z0) (fun k_ hk_ => (⟨hk_, hk_.2.2.2⟩ : _ ∧ k_ ≠ g))) hk (fun _ h => h.2)) (fun _ h => h.1))
          replace BK228 := Ax (KeepBut.blk hk (g' := gb228) (o := .cells #[.int .i64 0, .int .i64 0, .slice none 0 0] 25 (0, 0)) (zK) NB228_0.out (by simp))
          replace BK238 := Ax (KeepBut.blk hk (g' := gb238) (o := .cells #[.int .i64 x239000_1, .int .i64 x239001_1, .slice Ao51 x239002_1.length co51] 25 (0, 0)) (zK) NB238_0.out (by simp))
          replace HK := Ax (KeepBut.trans (zHK) hk (.inl rfl))
          replace HB := Ax (hb)
          replace HI0 := Ax (hi)
          (try clear hb); (try clear hk); (try clear hi)
          refine hK.out _ _ ⟨(blk_cell BK238.out 0).trans rfl, (blk_cell BK238.out 1).trans rfl, (blk_cell BK238.out 2).trans rfl⟩ (fun hHeld => ?_)
          clear hK K
          refine norm_ (a' := ?_) ?_ ?_
          rotate_left
          · show Act.put _ (some 47) _ = _
            exact zAct
          refine pure_ (i := 16) (N := some 48) (v := ?_) (a' := ?_) (bl 24 131071) rfl rfl (any_of HT_.out (by kernel_rfl)) (fun _ _ _ h => h) (Or.inl ⟨by rfl, ?_⟩) ?_ ?_
          rotate_left
          · exact zEv
          rotate_left
          · exact zAct
          refine two_ (i := 17) (j := 21) (Ni := some 49) (Nj := some 7) #[true, true, true, true, true, true, true, true, true, true, true, true, true, true, true, true, true, true, false, false, false, false, false, false] #[true, true, true, true, true, true, true, true, true, true, true, true, true, true, true, true, true, false, false, false, false, true, false, false] rfl rfl rfl rfl (two_of HT_.out (by kernel_rfl)) (by decide) (by decide) (fun K hK => ?_) (fun K hK => ?_)
          · skip
            refine goes_ Try.func55 (by kernel_rfl) rfl #[.agg #[.int .i64 x239000_1, .int .i64 x239001_1, .slice Ao51 x239002_1.length co51], .int .i64 t241, .int .i64 t243, .int .i64 (wrap64 (1 + t245)), .int .i64 (wrap64 (1 + t247))] (by rfl) rfl rfl (z1) ?_
            with_reducible refine (spec_TableMerge.calls k1 x239000_1 x239001_1 _ _ x239002_1 t241 t243 (wrap64 (1 + t245)) (wrap64 (1 + t247)) t249 t250 t251 false _ ?side1 ?side2 A21.out).mono ?_
            (case side1 => repeat (first | exact (Kd.N_reads' HO_239002.out).2.2 | (with_reducible refine Kd.C_alloc ?_ _) | (with_reducible refine Kd.C_drewN ?_ _) | (with_reducible refine Kd.C_drew ?_)))
            (case side2 => exact (Kd.N_reads' HO_239002.out).2.1)
            rintro e w55 ⟨v252, rfl, ho0, hb⟩
            refine ⟨_, rfl, ?_⟩
            have HO253 := Ax (Kd.N_lower (Kd.N_mono (ok' := fun k_ => (w.heap.size ≤ k_) ∧ some k_ ≠ (.slice Ao51 x239002_1.length co51 : Value).ownBlock ∧ k_ ≠ gb228 ∧ k_ ≠ gb238 ∧ k_ ≠ g) ho0 (fun k_ hk_ => ⟨(Nat.le_trans (keep_size (w := w) (g := g) (row := none) (zHK)) hk_), (Kd.fresh' (Kd.N_lt (z0)) k_ hk_), (Kd.freshB (g := gb228) (o := .cells #[.int .i64 0, .int .i64 0, .slice none 0 0] 25 (0, 0)) (zK) k_ hk_), (Kd.freshB (g := gb238) (o := .cells #[.int .i64 x239000_1, .int .i64 x239001_1, .slice Ao51 x239002_1.length co51] 25 (0, 0)) (zK) k_ hk_), (IsS66.fresh (zHI0) k_ hk_)⟩)) (keep_size (w := w) (g := g) (row := none) (zHK)))
            replace HO_239002 := Ax (Kd.N_elder' (z0) (Kd.N_base ho0) hb)
            replace BK228 := Ax (blk_below (g := gb228) (zK) hb)
            replace BK238 := Ax (blk_below (g := gb238) (zK) hb)
            replace HK := Ax (KeepBut.trans (zHK) (KeepBut.of_below hb g none) (.inl rfl))
            replace HB := Ax (below_step (zHB) hb)
            replace HI0 := Ax (IsS66.below (zHI0) hb)
            (try clear hb); (try clear hk); (try clear hi); (try clear ho0)
            refine hK.out _ _ ⟨(blk_cell BK238.out 0).trans rfl, (blk_cell BK238.out 1).trans rfl, (blk_cell BK238.out 2).trans rfl⟩ (fun hHeld => ?_)
            clear hK K
            refine norm_ (a' := ?_) ?_ ?_
            rotate_left
            · show Act.put _ (some 49) _ = _
              exact zAct
            refine pure_ (i := 18) (N := some 31) (v := ?_) (a' := ?_) (bl 24 524287) rfl rfl (any_of HT_.out (by kernel_rfl)) (fun _ _ _ h => h) (Or.inl ⟨by rfl, ?_⟩) ?_ ?_
            rotate_left
            · exact zEv
            rotate_left
            · exact zAct
            refine pure_ (i := 19) (N := some 50) (v := ?_) (a' := ?_) (bl 24 1048575) rfl rfl (any_of HT_.out (by kernel_rfl)) (fun _ _ _ h => h) (Or.inl ⟨by rfl, ?_⟩) ?_ ?_
            rotate_left
            · exact zEv
            rotate_left
            · exact zAct
            refine pure_ (i := 20) (N := some 51) (v := ?_) (a' := ?_) (bl 24 2097151) rfl rfl (any_of HT_.out (by kernel_rfl)) (fun _ _ _ h => h) (Or.inl ⟨by rfl, ?_⟩) ?_ ?_
            rotate_left
            · exact zEv
            rotate_left
            · exact zAct
            refine one_ (i := 21) (N := some 7) (bl 24 4194303) rfl rfl (one_of HT_.out (by kernel_rfl)) (by decide) (fun K hK => ?_)
            refine box_step ?hg (N := 7) ?hd (cs := #[.int .i64 0, .int .i64 0, .slice none 0 0]) (t := 25) ?hr ?_; (case hd => rfl); (case hg => rfl); (case hr => first | (go_simp; done) | (go_simp; rfl))
            intro gb255 hg w56 hbox hb
            replace HO_239002 := Ax (Kd.N_below (Kd.N_elderB (z0) gb255 (Nat.le_of_eq hg.symm)) hb)
            replace HO253 := Ax (Kd.N_below (Kd.N_elderB (z17) gb255 (Nat.le_of_eq hg.symm)) hb)
            replace HB := Ax (below_step (zHB) hb)
            have BK255 := Ax (hbox)
            have GW255 := Ax ((z2 : w.heap.size ≤ gb255))
            have GE255 := Ax ((Nat.le_trans HW0.out (z2 : w.heap.size ≤ gb255) : w0.heap.size ≤ gb255))
            replace HK := Ax (KeepBut.trans (zHK) (KeepBut.of_below hb g none) (.inl rfl))
            have NB228_255 := Ax ((z6 : gb228 ≠ gb255))
            have NB255_228 := Ax ((z7 : gb255 ≠ gb228))
            replace BK228 := Ax (blk_below (g := gb228) (zK) hb)
            have NB238_255 := Ax ((z8 : gb238 ≠ gb255))
            have NB255_238 := Ax ((z9 : gb255 ≠ gb238))
            replace BK238 := Ax (blk_below (g := gb238) (zK) hb)
            have NB0_255 := Ax ((z11 : g ≠ gb255))
            have NB255_0 := Ax ((z12 : gb255 ≠ g))
            replace HI0 := Ax (IsS66.below (zHI0) hb)
            clear hb hbox hg
            refine hK.out _ _ ⟨(blk_cell BK238.out 0).trans rfl, (blk_cell BK238.out 1).trans rfl, (blk_cell BK238.out 2).trans rfl⟩ (fun hHeld => ?_)
            clear hK K
            refine norm_ (a' := ?_) ?_ ?_
            rotate_left
            · show Act.put _ (some 7) _ = _
              exact zAct
            exact norm_ (z5) (hCont (v252, gb255) _ ⟨hHeld, (z15), (z14), (zK), (zK), (zK), GW255.out, GE255.out, NB0_255.out, NB255_0.out, NB228_255.out, NB255_228.out, NB238_255.out, NB255_238.out, (zHI0), (zHK), (zHB)⟩)
          skip
          refine box_step ?hg (N := 7) ?hd (cs := #[.int .i64 0, .int .i64 0, .slice none 0 0]) (t := 25) ?hr ?_; (case hd => rfl); (case hg => rfl); (case hr => first | (go_simp; done) | (go_simp; rfl))
          intro gb255 hg w55 hbox hb
          replace HO_239002 := Ax (Kd.N_below (Kd.N_elderB (z0) gb255 (Nat.le_of_eq hg.symm)) hb)
          replace HB := Ax (below_step (zHB) hb)
          have BK255 := Ax (hbox)
          have GW255 := Ax ((z2 : w.heap.size ≤ gb255))
          have GE255 := Ax ((Nat.le_trans HW0.out (z2 : w.heap.size ≤ gb255) : w0.heap.size ≤ gb255))
          replace HK := Ax (KeepBut.trans (zHK) (KeepBut.of_below hb g none) (.inl rfl))
          have NB228_255 := Ax ((z6 : gb228 ≠ gb255))
          have NB255_228 := Ax ((z7 : gb255 ≠ gb228))
          replace BK228 := Ax (blk_below (g := gb228) (zK) hb)
          have NB238_255 := Ax ((z8 : gb238 ≠ gb255))
          have NB255_238 := Ax ((z9 : gb255 ≠ gb238))
          replace BK238 := Ax (blk_below (g := gb238) (zK) hb)
          have NB0_255 := Ax ((z11 : g ≠ gb255))
          have NB255_0 := Ax ((z12 : gb255 ≠ g))
          replace HI0 := Ax (IsS66.below (zHI0) hb)
          clear hb hbox hg
          refine hK.out _ _ ⟨(blk_cell BK238.out 0).trans rfl, (blk_cell BK238.out 1).trans rfl, (blk_cell BK238.out 2).trans rfl⟩ (fun hHeld => ?_)
          clear hK K
          refine norm_ (a' := ?_) ?_ ?_
          rotate_left
          · show Act.put _ (some 7) _ = _
            exact zAct
          refine one_ (i := 17) (N := some 49) (bl 24 2359295) rfl rfl (one_of HT_.out (by kernel_rfl)) (by decide) (fun K hK => ?_)
          refine goes_ Try.func55 (by kernel_rfl) rfl #[.agg #[.int .i64 x239000_1, .int .i64 x239001_1, .slice Ao51 x239002_1.length co51], .int .i64 t241, .int .i64 t243, .int .i64 (wrap64 (1 + t245)), .int .i64 (wrap64 (1 + t247))] (by rfl) rfl rfl (z1) ?_
          with_reducible refine (spec_TableMerge.calls k1 x239000_1 x239001_1 _ _ x239002_1 t241 t243 (wrap64 (1 + t245)) (wrap64 (1 + t247)) t249 t250 t251 false _ ?side1 ?side2 A21.out).mono ?_
          (case side1 => repeat (first | exact (Kd.N_reads' HO_239002.out).2.2 | (with_reducible refine Kd.C_alloc ?_ _) | (with_reducible refine Kd.C_drewN ?_ _) | (with_reducible refine Kd.C_drew ?_)))
          (case side2 => exact (Kd.N_reads' HO_239002.out).2.1)
          rintro e w56 ⟨v252, rfl, ho0, hb⟩
          refine ⟨_, rfl, ?_⟩
          have HO253 := Ax (Kd.N_lower (Kd.N_mono (ok' := fun k_ => (w.heap.size ≤ k_) ∧ some k_ ≠ (.slice Ao51 x239002_1.length co51 : Value).ownBlock ∧ k_ ≠ gb228 ∧ k_ ≠ gb238 ∧ k_ ≠ gb255 ∧ k_ ≠ g) ho0 (fun k_ hk_ => ⟨(Nat.le_trans (keep_size (w := w) (g := g) (row := none) (zHK)) hk_), (Kd.fresh' (Kd.N_lt (z0)) k_ hk_), (Kd.freshB (g := gb228) (o := .cells #[.int .i64 0, .int .i64 0, .slice none 0 0] 25 (0, 0)) (zK) k_ hk_), (Kd.freshB (g := gb238) (o := .cells #[.int .i64 x239000_1, .int .i64 x239001_1, .slice Ao51 x239002_1.length co51] 25 (0, 0)) (zK) k_ hk_), (Kd.freshB (g := gb255) (o := .cells #[.int .i64 0, .int .i64 0, .slice none 0 0] 25 (0, 0)) (zK) k_ hk_), (IsS66.fresh (zHI0) k_ hk_)⟩)) (keep_size (w := w) (g := g) (row := none) (zHK)))
          replace HO_239002 := Ax (Kd.N_elder' (z0) (Kd.N_base ho0) hb)
          replace BK228 := Ax (blk_below (g := gb228) (zK) hb)
          replace BK238 := Ax (blk_below (g := gb238) (zK) hb)
          replace BK255 := Ax (blk_below (g := gb255) (zK) hb)
          replace HK := Ax (KeepBut.trans (zHK) (KeepBut.of_below hb g none) (.inl rfl))
          replace HB := Ax (below_step (zHB) hb)
          replace HI0 := Ax (IsS66.below (zHI0) hb)
          (try clear hb); (try clear hk); (try clear hi); (try clear ho0)
          refine hK.out _ _ ⟨(blk_cell BK238.out 0).trans rfl, (blk_cell BK238.out 1).trans rfl, (blk_cell BK238.out 2).trans rfl⟩ (fun hHeld => ?_)
          clear hK K
          refine norm_ (a' := ?_) ?_ ?_
          rotate_left
          · show Act.put _ (some 49) _ = _
            exact zAct
          refine pure_ (i := 18) (N := some 31) (v := ?_) (a' := ?_) (bl 24 2621439) rfl rfl (any_of HT_.out (by kernel_rfl)) (fun _ _ _ h => h) (Or.inl ⟨by rfl, ?_⟩) ?_ ?_
          rotate_left
          · exact zEv
          rotate_left
          · exact zAct
          refine pure_ (i := 19) (N := some 50) (v := ?_) (a' := ?_) (bl 24 3145727) rfl rfl (any_of HT_.out (by kernel_rfl)) (fun _ _ _ h => h) (Or.inl ⟨by rfl, ?_⟩) ?_ ?_
          rotate_left
          · exact zEv
          rotate_left
          · exact zAct
          refine pure_ (i := 20) (N := some 51) (v := ?_) (a' := ?_) (bl 24 4194303) rfl rfl (any_of HT_.out (by kernel_rfl)) (fun _ _ _ h => h) (Or.inl ⟨by rfl, ?_⟩) ?_ ?_
          rotate_left
          · exact zEv
          rotate_left
          · exact zAct
          exact norm_ (z5) (hCont (v252, gb255) _ ⟨hHeld, (z4), (z3), (zK), (zK), (zK), GW255.out, GE255.out, NB0_255.out, NB255_0.out, NB228_255.out, NB255_228.out, NB238_255.out, NB255_238.out, (zHI0), (zHK), (zHB)⟩)
        skip
        refine box_step ?hg (N := 7) ?hd (cs := #[.int .i64 0, .int .i64 0, .slice none 0 0]) (t := 25) ?hr ?_; (case hd => rfl); (case hg => rfl); (case hr => first | (go_simp; done) | (go_simp; rfl))
        intro gb255 hg w54 hbox hb
        replace HO_239002 := Ax (Kd.N_below (Kd.N_elderB (z0) gb255 (Nat.le_of_eq hg.symm)) hb)
        replace HB := Ax (below_step (zHB) hb)
        have BK255 := Ax (hbox)
        have GW255 := Ax ((z2 : w.heap.size ≤ gb255))
        have GE255 := Ax ((Nat.le_trans HW0.out (z2 : w.heap.size ≤ gb255) : w0.heap.size ≤ gb255))
        replace HK := Ax (KeepBut.trans (zHK) (KeepBut.of_below hb g none) (.inl rfl))
        have NB228_255 := Ax ((z6 : gb228 ≠ gb255))
        have NB255_228 := Ax ((z7 : gb255 ≠ gb228))
        replace BK228 := Ax (blk_below (g := gb228) (zK) hb)
        have NB238_255 := Ax ((z8 : gb238 ≠ gb255))
        have NB255_238 := Ax ((z9 : gb255 ≠ gb238))
        replace BK238 := Ax (blk_below (g := gb238) (zK) hb)
        have NB0_255 := Ax ((z18 : g ≠ gb255))
        have NB255_0 := Ax ((z19 : gb255 ≠ g))
        replace HI0 := Ax (IsS66.below (zHI0) hb)
        clear hb hbox hg
        refine hK.out _ _ ⟨(blk_cell BK238.out 0).trans rfl, (blk_cell BK238.out 1).trans rfl, (blk_cell BK238.out 2).trans rfl⟩ (fun hHeld => ?_)
        clear hK K
        refine norm_ (a' := ?_) ?_ ?_
        rotate_left
        · show Act.put _ (some 7) _ = _
          exact zAct
        refine one_ (i := 15) (N := some 47) (bl 24 2162687) rfl rfl (one_of HT_.out (by kernel_rfl)) (by decide) (fun K hK => ?_)
        refine goes_ Try.func39 (by kernel_rfl) rfl #[.pointer (some ⟨g, 0, none⟩), .int .i64 (wrap64 (x239001_1 - t243))] (by rfl) rfl rfl (z1) ?_
        with_reducible refine (spec_l6Rd_pick.calls k1 g s0_0 t246 (wrap64 (x239001_1 - t243)) t247 t248 w0 _ ?side1 ?side2 A20.out).mono ?_
        (case side1 => exact zHI0)
        (case side2 => exact zHB)
        rintro e w55 ⟨rfl, hi, hb, hk⟩
        refine ⟨_, rfl, ?_⟩
        replace HO_239002 := Ax (Kd.N_mono (Kd.N_keep (Kd.N_mono (ok := fun k_ => ((((w.heap.size ≤ k_)) ∧ (k_ ≠ gb228 ∧ (k_ ≠ gb238 ∧ k_ ≠ g))) ∧ k_ ≠ gb255)) (z0) (fun k_ hk_ => (⟨hk_, hk_.1.2.2.2⟩ : _ ∧ k_ ≠ g))) hk (fun _ h => h.2)) (fun _ h => h.1))
        replace BK228 := Ax (KeepBut.blk hk (g' := gb228) (o := .cells #[.int .i64 0, .int .i64 0, .slice none 0 0] 25 (0, 0)) (zK) NB228_0.out (by simp))
        replace BK238 := Ax (KeepBut.blk hk (g' := gb238) (o := .cells #[.int .i64 x239000_1, .int .i64 x239001_1, .slice Ao51 x239002_1.length co51] 25 (0, 0)) (zK) NB238_0.out (by simp))
        replace BK255 := Ax (KeepBut.blk hk (g' := gb255) (o := .cells #[.int .i64 0, .int .i64 0, .slice none 0 0] 25 (0, 0)) (zK) NB255_0.out (by simp))
        replace HK := Ax (KeepBut.trans (zHK) hk (.inl rfl))
        replace HB := Ax (hb)
        replace HI0 := Ax (hi)
        (try clear hb); (try clear hk); (try clear hi)
        refine hK.out _ _ ⟨(blk_cell BK238.out 0).trans rfl, (blk_cell BK238.out 1).trans rfl, (blk_cell BK238.out 2).trans rfl⟩ (fun hHeld => ?_)
        clear hK K
        refine norm_ (a' := ?_) ?_ ?_
        rotate_left
        · show Act.put _ (some 47) _ = _
          exact zAct
        refine pure_ (i := 16) (N := some 48) (v := ?_) (a' := ?_) (bl 24 2228223) rfl rfl (any_of HT_.out (by kernel_rfl)) (fun _ _ _ h => h) (Or.inl ⟨by rfl, ?_⟩) ?_ ?_
        rotate_left
        · exact zEv
        rotate_left
        · exact zAct
        refine one_ (i := 17) (N := some 49) (bl 24 2359295) rfl rfl (one_of HT_.out (by kernel_rfl)) (by decide) (fun K hK => ?_)
        refine goes_ Try.func55 (by kernel_rfl) rfl #[.agg #[.int .i64 x239000_1, .int .i64 x239001_1, .slice Ao51 x239002_1.length co51], .int .i64 t241, .int .i64 t243, .int .i64 (wrap64 (1 + t245)), .int .i64 (wrap64 (1 + t247))] (by rfl) rfl rfl (z1) ?_
        with_reducible refine (spec_TableMerge.calls k1 x239000_1 x239001_1 _ _ x239002_1 t241 t243 (wrap64 (1 + t245)) (wrap64 (1 + t247)) t249 t250 t251 false _ ?side1 ?side2 A21.out).mono ?_
        (case side1 => repeat (first | exact (Kd.N_reads' HO_239002.out).2.2 | (with_reducible refine Kd.C_alloc ?_ _) | (with_reducible refine Kd.C_drewN ?_ _) | (with_reducible refine Kd.C_drew ?_)))
        (case side2 => exact (Kd.N_reads' HO_239002.out).2.1)
        rintro e w56 ⟨v252, rfl, ho0, hb⟩
        refine ⟨_, rfl, ?_⟩
        have HO253 := Ax (Kd.N_lower (Kd.N_mono (ok' := fun k_ => (w.heap.size ≤ k_) ∧ some k_ ≠ (.slice Ao51 x239002_1.length co51 : Value).ownBlock ∧ k_ ≠ gb228 ∧ k_ ≠ gb238 ∧ k_ ≠ gb255 ∧ k_ ≠ g) ho0 (fun k_ hk_ => ⟨(Nat.le_trans (keep_size (w := w) (g := g) (row := none) (zHK)) hk_), (Kd.fresh' (Kd.N_lt (z0)) k_ hk_), (Kd.freshB (g := gb228) (o := .cells #[.int .i64 0, .int .i64 0, .slice none 0 0] 25 (0, 0)) (zK) k_ hk_), (Kd.freshB (g := gb238) (o := .cells #[.int .i64 x239000_1, .int .i64 x239001_1, .slice Ao51 x239002_1.length co51] 25 (0, 0)) (zK) k_ hk_), (Kd.freshB (g := gb255) (o := .cells #[.int .i64 0, .int .i64 0, .slice none 0 0] 25 (0, 0)) (zK) k_ hk_), (IsS66.fresh (zHI0) k_ hk_)⟩)) (keep_size (w := w) (g := g) (row := none) (zHK)))
        replace HO_239002 := Ax (Kd.N_elder' (z0) (Kd.N_base ho0) hb)
        replace BK228 := Ax (blk_below (g := gb228) (zK) hb)
        replace BK238 := Ax (blk_below (g := gb238) (zK) hb)
        replace BK255 := Ax (blk_below (g := gb255) (zK) hb)
        replace HK := Ax (KeepBut.trans (zHK) (KeepBut.of_below hb g none) (.inl rfl))
        replace HB := Ax (below_step (zHB) hb)
        replace HI0 := Ax (IsS66.below (zHI0) hb)
        (try clear hb); (try clear hk); (try clear hi); (try clear ho0)
        refine hK.out _ _ ⟨(blk_cell BK238.out 0).trans rfl, (blk_cell BK238.out 1).trans rfl, (blk_cell BK238.out 2).trans rfl⟩ (fun hHeld => ?_)
        clear hK K
        refine norm_ (a' := ?_) ?_ ?_
        rotate_left
        · show Act.put _ (some 49) _ = _
          exact zAct
        refine pure_ (i := 18) (N := some 31) (v := ?_) (a' := ?_) (bl 24 2621439) rfl rfl (any_of HT_.out (by kernel_rfl)) (fun _ _ _ h => h) (Or.inl ⟨by rfl, ?_⟩) ?_ ?_
        rotate_left
        · exact zEv
        rotate_left
        · exact zAct
        refine pure_ (i := 19) (N := some 50) (v := ?_) (a' := ?_) (bl 24 3145727) rfl rfl (any_of HT_.out (by kernel_rfl)) (fun _ _ _ h => h) (Or.inl ⟨by rfl, ?_⟩) ?_ ?_
        rotate_left
        · exact zEv
        rotate_left
        · exact zAct
        refine pure_ (i := 20) (N := some 51) (v := ?_) (a' := ?_) (bl 24 4194303) rfl rfl (any_of HT_.out (by kernel_rfl)) (fun _ _ _ h => h) (Or.inl ⟨by rfl, ?_⟩) ?_ ?_
        rotate_left
        · exact zEv
        rotate_left
        · exact zAct
        exact norm_ (z5) (hCont (v252, gb255) _ ⟨hHeld, (z4), (z3), (zK), (zK), (zK), GW255.out, GE255.out, NB0_255.out, NB255_0.out, NB228_255.out, NB255_228.out, NB238_255.out, NB255_238.out, (zHI0), (zHK), (zHB)⟩)
      skip
      refine box_step ?hg (N := 7) ?hd (cs := #[.int .i64 0, .int .i64 0, .slice none 0 0]) (t := 25) ?hr ?_; (case hd => rfl); (case hg => rfl); (case hr => first | (go_simp; done) | (go_simp; rfl))
      intro gb255 hg w53 hbox hb
      replace HO_239002 := Ax (Kd.N_below (Kd.N_elderB (z0) gb255 (Nat.le_of_eq hg.symm)) hb)
      replace HB := Ax (below_step (zHB) hb)
      have BK255 := Ax (hbox)
      have GW255 := Ax ((z2 : w.heap.size ≤ gb255))
      have GE255 := Ax ((Nat.le_trans HW0.out (z2 : w.heap.size ≤ gb255) : w0.heap.size ≤ gb255))
      replace HK := Ax (KeepBut.trans (zHK) (KeepBut.of_below hb g none) (.inl rfl))
      have NB228_255 := Ax ((z6 : gb228 ≠ gb255))
      have NB255_228 := Ax ((z7 : gb255 ≠ gb228))
      replace BK228 := Ax (blk_below (g := gb228) (zK) hb)
      have NB238_255 := Ax ((z8 : gb238 ≠ gb255))
      have NB255_238 := Ax ((z9 : gb255 ≠ gb238))
      replace BK238 := Ax (blk_below (g := gb238) (zK) hb)
      have NB0_255 := Ax ((z20 : g ≠ gb255))
      have NB255_0 := Ax ((z21 : gb255 ≠ g))
      replace HI0 := Ax (IsS66.below (zHI0) hb)
      clear hb hbox hg
      refine hK.out _ _ ⟨(blk_cell BK238.out 0).trans rfl, (blk_cell BK238.out 1).trans rfl, (blk_cell BK238.out 2).trans rfl⟩ (fun hHeld => ?_)
      clear hK K
      refine norm_ (a' := ?_) ?_ ?_
      rotate_left
      · show Act.put _ (some 7) _ = _
        exact zAct
      refine one_ (i := 8) (N := some 40) (bl 24 2129407) rfl rfl (one_of HT_.out (by kernel_rfl)) (by decide) (fun K hK => ?_)
      refine goes_ Try.func39 (by kernel_rfl) rfl #[.pointer (some ⟨g, 0, none⟩), .int .i64 (wrap64 (x239000_1 - t241))] (by rfl) rfl rfl (z1) ?_
      with_reducible refine (spec_l6Rd_pick.calls k1 g s0_0 t244 (wrap64 (x239000_1 - t241)) t245 t246 w0 _ ?side1 ?side2 A19.out).mono ?_
      (case side1 => exact zHI0)
      (case side2 => exact zHB)
      rintro e w54 ⟨rfl, hi, hb, hk⟩
      refine ⟨_, rfl, ?_⟩
      replace HO_239002 := Ax (Kd.N_mono (Kd.N_keep (Kd.N_mono (ok := fun k_ => ((((w.heap.size ≤ k_)) ∧ (k_ ≠ gb228 ∧ (k_ ≠ gb238 ∧ k_ ≠ g))) ∧ k_ ≠ gb255)) (z0) (fun k_ hk_ => (⟨hk_, hk_.1.2.2.2⟩ : _ ∧ k_ ≠ g))) hk (fun _ h => h.2)) (fun _ h => h.1))
      replace BK228 := Ax (KeepBut.blk hk (g' := gb228) (o := .cells #[.int .i64 0, .int .i64 0, .slice none 0 0] 25 (0, 0)) (zK) NB228_0.out (by simp))
      replace BK238 := Ax (KeepBut.blk hk (g' := gb238) (o := .cells #[.int .i64 x239000_1, .int .i64 x239001_1, .slice Ao51 x239002_1.length co51] 25 (0, 0)) (zK) NB238_0.out (by simp))
      replace BK255 := Ax (KeepBut.blk hk (g' := gb255) (o := .cells #[.int .i64 0, .int .i64 0, .slice none 0 0] 25 (0, 0)) (zK) NB255_0.out (by simp))
      replace HK := Ax (KeepBut.trans (zHK) hk (.inl rfl))
      replace HB := Ax (hb)
      replace HI0 := Ax (hi)
      (try clear hb); (try clear hk); (try clear hi)
      refine hK.out _ _ ⟨(blk_cell BK238.out 0).trans rfl, (blk_cell BK238.out 1).trans rfl, (blk_cell BK238.out 2).trans rfl⟩ (fun hHeld => ?_)
      clear hK K
      refine norm_ (a' := ?_) ?_ ?_
      rotate_left
      · show Act.put _ (some 40) _ = _
        exact zAct
      refine pure_ (i := 9) (N := some 41) (v := ?_) (a' := ?_) (bl 24 2129919) rfl rfl (any_of HT_.out (by kernel_rfl)) (fun _ _ _ h => h) (Or.inl ⟨by rfl, ?_⟩) ?_ ?_
      rotate_left
      · exact zEv
      rotate_left
      · exact zAct
      refine one_ (i := 15) (N := some 47) (bl 24 2162687) rfl rfl (one_of HT_.out (by kernel_rfl)) (by decide) (fun K hK => ?_)
      refine goes_ Try.func39 (by kernel_rfl) rfl #[.pointer (some ⟨g, 0, none⟩), .int .i64 (wrap64 (x239001_1 - t243))] (by rfl) rfl rfl (z1) ?_
      with_reducible refine (spec_l6Rd_pick.calls k1 g s0_0 t246 (wrap64 (x239001_1 - t243)) t247 t248 w0 _ ?side1 ?side2 A20.out).mono ?_
      (case side1 => exact zHI0)
      (case side2 => exact zHB)
      rintro e w55 ⟨rfl, hi, hb, hk⟩
      refine ⟨_, rfl, ?_⟩
      replace HO_239002 := Ax (Kd.N_mono (Kd.N_keep (Kd.N_mono (ok := fun k_ => ((((w.heap.size ≤ k_)) ∧ (k_ ≠ gb228 ∧ (k_ ≠ gb238 ∧ k_ ≠ g))) ∧ k_ ≠ gb255)) (z0) (fun k_ hk_ => (⟨hk_, hk_.1.2.2.2⟩ : _ ∧ k_ ≠ g))) hk (fun _ h => h.2)) (fun _ h => h.1))
      replace BK228 := Ax (KeepBut.blk hk (g' := gb228) (o := .cells #[.int .i64 0, .int .i64 0, .slice none 0 0] 25 (0, 0)) (zK) NB228_0.out (by simp))
      replace BK238 := Ax (KeepBut.blk hk (g' := gb238) (o := .cells #[.int .i64 x239000_1, .int .i64 x239001_1, .slice Ao51 x239002_1.length co51] 25 (0, 0)) (zK) NB238_0.out (by simp))
      replace BK255 := Ax (KeepBut.blk hk (g' := gb255) (o := .cells #[.int .i64 0, .int .i64 0, .slice none 0 0] 25 (0, 0)) (zK) NB255_0.out (by simp))
      replace HK := Ax (KeepBut.trans (zHK) hk (.inl rfl))
      replace HB := Ax (hb)
      replace HI0 := Ax (hi)
      (try clear hb); (try clear hk); (try clear hi)
      refine hK.out _ _ ⟨(blk_cell BK238.out 0).trans rfl, (blk_cell BK238.out 1).trans rfl, (blk_cell BK238.out 2).trans rfl⟩ (fun hHeld => ?_)
      clear hK K
      refine norm_ (a' := ?_) ?_ ?_
      rotate_left
      · show Act.put _ (some 47) _ = _
        exact zAct
      refine pure_ (i := 16) (N := some 48) (v := ?_) (a' := ?_) (bl 24 2228223) rfl rfl (any_of HT_.out (by kernel_rfl)) (fun _ _ _ h => h) (Or.inl ⟨by rfl, ?_⟩) ?_ ?_
      rotate_left
      · exact zEv
      rotate_left
      · exact zAct
      refine one_ (i := 17) (N := some 49) (bl 24 2359295) rfl rfl (one_of HT_.out (by kernel_rfl)) (by decide) (fun K hK => ?_)
      refine goes_ Try.func55 (by kernel_rfl) rfl #[.agg #[.int .i64 x239000_1, .int .i64 x239001_1, .slice Ao51 x239002_1.length co51], .int .i64 t241, .int .i64 t243, .int .i64 (wrap64 (1 + t245)), .int .i64 (wrap64 (1 + t247))] (by rfl) rfl rfl (z1) ?_
      with_reducible refine (spec_TableMerge.calls k1 x239000_1 x239001_1 _ _ x239002_1 t241 t243 (wrap64 (1 + t245)) (wrap64 (1 + t247)) t249 t250 t251 false _ ?side1 ?side2 A21.out).mono ?_
      (case side1 => repeat (first | exact (Kd.N_reads' HO_239002.out).2.2 | (with_reducible refine Kd.C_alloc ?_ _) | (with_reducible refine Kd.C_drewN ?_ _) | (with_reducible refine Kd.C_drew ?_)))
      (case side2 => exact (Kd.N_reads' HO_239002.out).2.1)
      rintro e w56 ⟨v252, rfl, ho0, hb⟩
      refine ⟨_, rfl, ?_⟩
      have HO253 := Ax (Kd.N_lower (Kd.N_mono (ok' := fun k_ => (w.heap.size ≤ k_) ∧ some k_ ≠ (.slice Ao51 x239002_1.length co51 : Value).ownBlock ∧ k_ ≠ gb228 ∧ k_ ≠ gb238 ∧ k_ ≠ gb255 ∧ k_ ≠ g) ho0 (fun k_ hk_ => ⟨(Nat.le_trans (keep_size (w := w) (g := g) (row := none) (zHK)) hk_), (Kd.fresh' (Kd.N_lt (z0)) k_ hk_), (Kd.freshB (g := gb228) (o := .cells #[.int .i64 0, .int .i64 0, .slice none 0 0] 25 (0, 0)) (zK) k_ hk_), (Kd.freshB (g := gb238) (o := .cells #[.int .i64 x239000_1, .int .i64 x239001_1, .slice Ao51 x239002_1.length co51] 25 (0, 0)) (zK) k_ hk_), (Kd.freshB (g := gb255) (o := .cells #[.int .i64 0, .int .i64 0, .slice none 0 0] 25 (0, 0)) (zK) k_ hk_), (IsS66.fresh (zHI0) k_ hk_)⟩)) (keep_size (w := w) (g := g) (row := none) (zHK)))
      replace HO_239002 := Ax (Kd.N_elder' (z0) (Kd.N_base ho0) hb)
      replace BK228 := Ax (blk_below (g := gb228) (zK) hb)
      replace BK238 := Ax (blk_below (g := gb238) (zK) hb)
      replace BK255 := Ax (blk_below (g := gb255) (zK) hb)
      replace HK := Ax (KeepBut.trans (zHK) (KeepBut.of_below hb g none) (.inl rfl))
      replace HB := Ax (below_step (zHB) hb)
      replace HI0 := Ax (IsS66.below (zHI0) hb)
      (try clear hb); (try clear hk); (try clear hi); (try clear ho0)
      refine hK.out _ _ ⟨(blk_cell BK238.out 0).trans rfl, (blk_cell BK238.out 1).trans rfl, (blk_cell BK238.out 2).trans rfl⟩ (fun hHeld => ?_)
      clear hK K
      refine norm_ (a' := ?_) ?_ ?_
      rotate_left
      · show Act.put _ (some 49) _ = _
        exact zAct
      refine pure_ (i := 18) (N := some 31) (v := ?_) (a' := ?_) (bl 24 2621439) rfl rfl (any_of HT_.out (by kernel_rfl)) (fun _ _ _ h => h) (Or.inl ⟨by rfl, ?_⟩) ?_ ?_
      rotate_left
      · exact zEv
      rotate_left
      · exact zAct
      refine pure_ (i := 19) (N := some 50) (v := ?_) (a' := ?_) (bl 24 3145727) rfl rfl (any_of HT_.out (by kernel_rfl)) (fun _ _ _ h => h) (Or.inl ⟨by rfl, ?_⟩) ?_ ?_
      rotate_left
      · exact zEv
      rotate_left
      · exact zAct
      refine pure_ (i := 20) (N := some 51) (v := ?_) (a' := ?_) (bl 24 4194303) rfl rfl (any_of HT_.out (by kernel_rfl)) (fun _ _ _ h => h) (Or.inl ⟨by rfl, ?_⟩) ?_ ?_
      rotate_left
      · exact zEv
      rotate_left
      · exact zAct
      exact norm_ (z5) (hCont (v252, gb255) _ ⟨hHeld, (z4), (z3), (zK), (zK), (zK), GW255.out, GE255.out, NB0_255.out, NB255_0.out, NB228_255.out, NB255_228.out, NB238_255.out, NB255_238.out, (zHI0), (zHK), (zHB)⟩)
    rintro ⟨v252, gb255⟩ w57 ⟨hS_, h0_, h1_, h2_, h3_, h4_, h5_, h6_, h7_, h8_, h9_, h10_, h11_, h12_, h13_, h14_, h15_⟩
    have HO253 : Aside0 (Kd.N k30 30 w57 w.heap.size (fun k_ => (w.heap.size ≤ k_) ∧ some k_ ≠ (.slice Ao51 x239002_1.length co51 : Value).ownBlock ∧ k_ ≠ g ∧ k_ ≠ gb228 ∧ k_ ≠ gb238 ∧ k_ ≠ gb255) v252 t251) := ⟨h0_⟩
    replace HO_239002 : Aside0 (Kd.N k30 30 w57 w.heap.size (fun k_ => (w.heap.size ≤ k_) ∧ some k_ ≠ (v252 : Value).ownBlock ∧ k_ ≠ g ∧ k_ ≠ gb228 ∧ k_ ≠ gb238 ∧ k_ ≠ gb255) (.slice Ao51 x239002_1.length co51) x239002_1) := ⟨h1_⟩
    replace BK228 : Aside0 (w57.heap[gb228]? = some (.cells #[.int .i64 0, .int .i64 0, .slice none 0 0] 25 (0, 0))) := ⟨h2_⟩
    replace BK238 : Aside0 (w57.heap[gb238]? = some (.cells #[.int .i64 x239000_1, .int .i64 x239001_1, .slice Ao51 x239002_1.length co51] 25 (0, 0))) := ⟨h3_⟩
    have BK255 : Aside0 (w57.heap[gb255]? = some (.cells #[.int .i64 0, .int .i64 0, .slice none 0 0] 25 (0, 0))) := ⟨h4_⟩
    have GW255 : Aside0 (w.heap.size ≤ gb255) := ⟨h5_⟩
    have GE255 : Aside0 (w0.heap.size ≤ gb255) := ⟨h6_⟩
    have NB0_255 : Aside0 (g ≠ gb255) := ⟨h7_⟩
    have NB255_0 : Aside0 (gb255 ≠ g) := ⟨h8_⟩
    have NB228_255 : Aside0 (gb228 ≠ gb255) := ⟨h9_⟩
    have NB255_228 : Aside0 (gb255 ≠ gb228) := ⟨h10_⟩
    have NB238_255 : Aside0 (gb238 ≠ gb255) := ⟨h11_⟩
    have NB255_238 : Aside0 (gb255 ≠ gb238) := ⟨h12_⟩
    replace HI0 : Aside0 (IsS66 w0 w57 g s0_0 t248) := ⟨h13_⟩
    replace HK : Aside0 (KeepBut w w57 g none) := ⟨h14_⟩
    replace HB : Aside0 (Below w0.heap.size w0 w57) := ⟨h15_⟩
    clear h0_ h1_ h2_ h3_ h4_ h5_ h6_ h7_ h8_ h9_ h10_ h11_ h12_ h13_ h14_ h15_
    have hHeld : w57.cell? ⟨gb238, 0, none⟩ = some (.int .i64 x239000_1) ∧ w57.cell? ⟨gb238, 1, none⟩ = some (.int .i64 x239001_1) ∧ w57.cell? ⟨gb238, 2, none⟩ = some (.slice Ao51 x239002_1.length co51) := hS_
    obtain ⟨Ao60, co60, eo60⟩ := Kd.N_slice HO253.out
    (first | subst eo60 | (injection eo60 with f1_ f2_ f3_; have f4_ := f1_.symm; have f5_ := f3_.symm; clear f1_ f2_ f3_; subst f4_; subst f5_))
    refine norm_ (a' := ?_) ?_ ?_
    rotate_left
    · simp only [putAll, Act.put, List.setIfInBounds_toArray, List.set_cons_zero, List.set_cons_succ]
      rfl
    refine one_ (i := 22) (N := none) (bl 24 8388607) rfl rfl (one_of HT_.out (by kernel_rfl)) (by decide) (fun K hK => ?_)
    have hs58 : w57.cell? ⟨gb255, 0, none⟩ = some (.int .i64 0) := (blk_cell BK255.out 0).trans rfl
    have hfs58 := blk_frozen BK255.out 0
    have hns58_0 := NB228_255.out
    have hns58_1 := NB238_255.out
    have hms58_0 := NB255_228.out
    have hms58_1 := NB255_238.out
    have hs59 : w57.cell? ⟨gb255, 1, none⟩ = some (.int .i64 0) := (blk_cell BK255.out 1).trans rfl
    have hfs59 := blk_frozen BK255.out 1
    have hns59_0 := NB228_255.out
    have hns59_1 := NB238_255.out
    have hms59_0 := NB255_228.out
    have hms59_1 := NB255_238.out
    have hs61 : w57.cell? ⟨gb255, 2, none⟩ = some (.slice none 0 0) := (blk_cell BK255.out 2).trans rfl
    have hfs61 := blk_frozen BK255.out 2
    have hns61_0 := NB228_255.out
    have hns61_1 := NB238_255.out
    have hms61_0 := NB255_228.out
    have hms61_1 := NB255_238.out
    refine skip_ (w1 := ?_) (by rfl) rfl ?_ ?_
    rotate_left
    · go_simp
      rfl
    refine hK.out _ _ ⟨((cell_far (p := ⟨gb255, _, none⟩) NB238_255.out _).trans (((cell_far (p := ⟨gb255, _, none⟩) NB238_255.out _).trans (((cell_far (p := ⟨gb255, _, none⟩) NB238_255.out _).trans (hHeld.1)))))), ((cell_far (p := ⟨gb255, _, none⟩) NB238_255.out _).trans (((cell_far (p := ⟨gb255, _, none⟩) NB238_255.out _).trans (((cell_far (p := ⟨gb255, _, none⟩) NB238_255.out _).trans (hHeld.2.1)))))), ((cell_far (p := ⟨gb255, _, none⟩) NB238_255.out _).trans (((cell_far (p := ⟨gb255, _, none⟩) NB238_255.out _).trans (((cell_far (p := ⟨gb255, _, none⟩) NB238_255.out _).trans (hHeld.2.2))))))⟩ (fun hHeld => ?_)
    clear hK K
    refine pure_ (i := 23) (N := some 8) (v := ?_) (a' := ?_) (bl 24 16777215) rfl rfl (any_of HT_.out (by kernel_rfl)) (fun _ _ _ h => h) (Or.inl ⟨by rfl, ?_⟩) ?_ ?_
    rotate_left
    · exact zEv
    rotate_left
    · exact zAct
    refine done_ (done_of HT_.out (by kernel_rfl)) ?_
    try go_wp2
    go_roundg k1
    case measure => have := HK1.out; omega
    exact ⟨(wrap64 (x4_1 - 1)), (t248), (x239000_1), (x239001_1), (x239002_1), (.slice Ao51 x239002_1.length co51), (z13), H', ⟨by have := HK1.out; omega⟩, ⟨by (with_reducible repeat (first | apply Kd.N_alloc | apply Kd.N_drewN | apply Kd.N_drew)); exact Kd.N_mono (Kd.N_far (p := ⟨gb255, 2, none⟩) (Kd.N_far (p := ⟨gb255, 1, none⟩) (Kd.N_far (p := ⟨gb255, 0, none⟩) (Kd.N_mono HO_239002.out (fun k_ hk => (⟨hk, hk.2.2.2.2.2⟩ : _ ∧ k_ ≠ gb255))) (fun _ hk => hk.2) (.int .i64 t249)) (fun _ hk => hk.2) (.int .i64 t250)) (fun _ hk => hk.2) (.slice Ao60 t251.length co60)) (fun _ hk => ⟨hk.1.1, ⟨hk.1.2.2.2.1, ⟨hk.1.2.2.2.2.1, hk.1.2.2.1⟩⟩⟩)⟩, ⟨zK⟩, ⟨zK⟩, ⟨zHI0⟩, ⟨zHK⟩, ⟨zHB⟩⟩
  rw [if_pos rfl] at H
  have H' := Ax H
  clear H
  have hnb23 := NB238_228.out
  have hnc23 := NB228_238.out
  have hnb24 := NB238_0.out
  have hnc24 := NB0_238.out
  obtain ⟨_, _, _, _, _, _⟩ := cells3 BK238.out
  try go_wp2_with (first | ((with_reducible refine gate_callee (f := 39) rfl ?_); refine goesL_ (some 26) rfl rfl Try.func39 (by kernel_rfl) rfl #[.pointer (some ⟨g, 0, none⟩), .int .i64 x239000_1] rfl (z1) ?_; (with_reducible refine (spec_l6Rd_pick.calls k1 g s0_0 x1001_1 x239000_1 t241 t242 w0 _ ?side1 ?side2 A17.out).mono ?_); (case side1 => exact zHI0); (case side2 => exact zHB); rintro e w26 ⟨rfl, hi, hb, hk⟩; refine ⟨_, rfl, ?_⟩; replace HO_239002 := Ax (Kd.N_mono (Kd.N_keep (Kd.N_mono (ok := fun k_ => (((w.heap.size ≤ k_)) ∧ (k_ ≠ gb228 ∧ (k_ ≠ gb238 ∧ k_ ≠ g)))) (z0) (fun k_ hk_ => (⟨hk_, hk_.2.2.2⟩ : _ ∧ k_ ≠ g))) hk (fun _ h => h.2)) (fun _ h => h.1)); replace BK228 := Ax (KeepBut.blk hk (g' := gb228) (o := .cells #[.int .i64 0, .int .i64 0, .slice none 0 0] 25 (0, 0)) (zK) NB228_0.out (by simp)); replace BK238 := Ax (KeepBut.blk hk (g' := gb238) (o := .cells #[.int .i64 x239000_1, .int .i64 x239001_1, u239002] 25 (0, 0)) (zK) NB238_0.out (by simp)); replace HK := Ax (KeepBut.trans (zHK) hk (.inl rfl)); replace HB := Ax (hb); replace HI0 := Ax (hi); (try clear hb); (try clear hb2); (try clear hk); (try clear hi); obtain ⟨_, _, _, _, _, _⟩ := cells3 BK238.out) | ((with_reducible refine gate_callee (f := 39) rfl ?_); refine goesL_ (some 30) rfl rfl Try.func39 (by kernel_rfl) rfl #[.pointer (some ⟨g, 0, none⟩), .int .i64 x239001_1] rfl (z1) ?_; (with_reducible refine (spec_l6Rd_pick.calls k1 g s0_0 t242 x239001_1 t243 t244 w0 _ ?side1 ?side2 A18.out).mono ?_); (case side1 => exact zHI0); (case side2 => exact zHB); rintro e w28 ⟨rfl, hi, hb, hk⟩; refine ⟨_, rfl, ?_⟩; replace HO_239002 := Ax (Kd.N_mono (Kd.N_keep (Kd.N_mono (ok := fun k_ => (((w.heap.size ≤ k_)) ∧ (k_ ≠ gb228 ∧ (k_ ≠ gb238 ∧ k_ ≠ g)))) (z0) (fun k_ hk_ => (⟨hk_, hk_.2.2.2⟩ : _ ∧ k_ ≠ g))) hk (fun _ h => h.2)) (fun _ h => h.1)); replace BK228 := Ax (KeepBut.blk hk (g' := gb228) (o := .cells #[.int .i64 0, .int .i64 0, .slice none 0 0] 25 (0, 0)) (zK) NB228_0.out (by simp)); replace BK238 := Ax (KeepBut.blk hk (g' := gb238) (o := .cells #[.int .i64 x239000_1, .int .i64 x239001_1, u239002] 25 (0, 0)) (zK) NB238_0.out (by simp)); replace HK := Ax (KeepBut.trans (zHK) hk (.inl rfl)); replace HB := Ax (hb); replace HI0 := Ax (hi); (try clear hb); (try clear hb2); (try clear hk); (try clear hi); obtain ⟨Ao29, co29, eo29⟩ := Kd.N_slice HO_239002.out; subst eo29))
  replace HO_239002 := Ax (Kd.N_drew HO_239002.out)
  replace BK228 := Ax (blk_drew BK228.out)
  replace BK238 := Ax (blk_drew BK238.out)
  replace HI0 := Ax (IsS66.drew HI0.out)
  replace HK := Ax (keep_drew HK.out)
  replace HB := Ax (below_drew1 HB.out)
  refine start_ (n := 24) (S := fun w' => w'.cell? ⟨gb238, 0, none⟩ = some (.int .i64 x239000_1) ∧ w'.cell? ⟨gb238, 1, none⟩ = some (.int .i64 x239001_1) ∧ w'.cell? ⟨gb238, 2, none⟩ = some (.slice Ao29 x239002_1.length co29)) (ds := []) #[false, false, false, false, false, false, false, false, false, false, false, false, false, false, false, false, false, false, false, false, false, false, false, false] (by kernel_rfl) rfl rfl ⟨(blk_cell BK238.out 0).trans rfl, (blk_cell BK238.out 1).trans rfl, (blk_cell BK238.out 2).trans rfl⟩ (fun hHeld => ?_); refine with_tabW spec_l71Table.tab7 spec_l71Table.bits7 (fun HT_ HW_ => ?_)
  generalize w28.drew = w30 at HO_239002 BK228 BK238 HI0 HK HB hHeld ⊢
  refine pure_ (i := 1) (N := some 33) (v := ?_) (a' := ?_) (bl 24 2) rfl rfl (any_of HT_.out (by kernel_rfl)) (fun _ _ _ h => h) (Or.inl ⟨by rfl, ?_⟩) ?_ ?_
  rotate_left
  · exact zEv
  rotate_left
  · exact zAct
  refine pure_ (i := 2) (N := some 34) (v := ?_) (a' := ?_) (bl 24 6) rfl rfl (any_of HT_.out (by kernel_rfl)) (fun _ _ _ h => h) (Or.inl ⟨by rfl, ?_⟩) ?_ ?_
  rotate_left
  · exact zEv
  rotate_left
  · exact zAct
  refine pure_ (i := 3) (N := some 35) (v := ?_) (a' := ?_) (bl 24 14) rfl rfl (any_of HT_.out (by kernel_rfl)) (fun _ _ _ h => h) (Or.inl ⟨by rfl, ?_⟩) ?_ ?_
  rotate_left
  · exact zEv
  rotate_left
  · exact zAct
  refine pure_ (i := 4) (N := some 36) (v := ?_) (a' := ?_) (bl 24 30) rfl rfl (any_of HT_.out (by kernel_rfl)) (fun _ _ _ h => h) (Or.inl ⟨by rfl, ?_⟩) ?_ ?_
  rotate_left
  · exact zEv
  rotate_left
  · exact zAct
  refine pure_ (i := 6) (N := some 38) (v := ?_) (a' := ?_) (bl 24 94) rfl rfl (any_of HT_.out (by kernel_rfl)) (fun _ _ _ h => h) (Or.inl ⟨by rfl, ?_⟩) ?_ ?_
  rotate_left
  · exact zEv
  rotate_left
  · exact zAct
  refine pure_ (i := 10) (N := some 42) (v := ?_) (a' := ?_) (bl 24 1118) rfl rfl (any_of HT_.out (by kernel_rfl)) (fun _ _ _ h => h) (Or.inl ⟨by rfl, ?_⟩) ?_ ?_
  rotate_left
  · exact zEv
  rotate_left
  · exact zAct
  refine pure_ (i := 11) (N := some 43) (v := ?_) (a' := ?_) (bl 24 3166) rfl rfl (any_of HT_.out (by kernel_rfl)) (fun _ _ _ h => h) (Or.inl ⟨by rfl, ?_⟩) ?_ ?_
  rotate_left
  · exact zEv
  rotate_left
  · exact zAct
  refine pure_ (i := 13) (N := some 45) (v := ?_) (a' := ?_) (bl 24 11358) rfl rfl (any_of HT_.out (by kernel_rfl)) (fun _ _ _ h => h) (Or.inl ⟨by rfl, ?_⟩) ?_ ?_
  rotate_left
  · exact zEv
  rotate_left
  · exact zAct
  refine take_ (i := 0) (N := some 32) (v := ?_) (a' := ?_) (bl 24 11359) rfl rfl (take_ofW HT_.out HW_.out (by kernel_rfl)) (fun _ _ _ h => h) (Or.inl ⟨by rfl, ?_⟩) hHeld ?_ ?_
  rotate_left
  · rintro w' ⟨s0, s1, s2⟩
    go_simp
    with_reducible rfl
  rotate_left
  · exact zAct
  refine take_ (i := 5) (N := some 37) (v := ?_) (a' := ?_) (bl 24 11391) rfl rfl (take_ofW HT_.out HW_.out (by kernel_rfl)) (fun _ _ _ h => h) (Or.inl ⟨by rfl, ?_⟩) hHeld ?_ ?_
  rotate_left
  · rintro w' ⟨s0, s1, s2⟩
    go_simp
    with_reducible rfl
  rotate_left
  · exact zAct
  refine pure_ (i := 7) (N := some 39) (v := ?_) (a' := ?_) (bl 24 11519) rfl rfl (any_of HT_.out (by kernel_rfl)) (fun _ _ _ h => h) (Or.inl ⟨by rfl, ?_⟩) ?_ ?_
  rotate_left
  · exact zEv
  rotate_left
  · exact zAct
  refine take_ (i := 12) (N := some 44) (v := ?_) (a' := ?_) (bl 24 15615) rfl rfl (take_ofW HT_.out HW_.out (by kernel_rfl)) (fun _ _ _ h => h) (Or.inl ⟨by rfl, ?_⟩) hHeld ?_ ?_
  rotate_left
  · rintro w' ⟨s0, s1, s2⟩
    go_simp
    with_reducible rfl
  rotate_left
  · exact zAct
  refine pure_ (i := 14) (N := some 46) (v := ?_) (a' := ?_) (bl 24 31999) rfl rfl (any_of HT_.out (by kernel_rfl)) (fun _ _ _ h => h) (Or.inl ⟨by rfl, ?_⟩) ?_ ?_
  rotate_left
  · exact zEv
  rotate_left
  · exact zAct
  refine join_ (σ := Value × Nat) 2 #[true, true, true, true, true, true, true, true, true, true, true, true, true, true, true, true, true, true, true, true, true, true, false, false] (fun s_ => [(40, .int .i64 t245), (47, .int .i64 t247), (49, .tuple #[.agg #[.int .i64 t249, .int .i64 t250, s_.1], .bool true]), (7, .pointer (some ⟨s_.2, 0, none⟩)), (41, .int .i64 (wrap64 (1 + t245))), (48, .int .i64 (wrap64 (1 + t247))), (31, .tuple #[.agg #[.int .i64 t249, .int .i64 t250, s_.1], .bool true]), (50, .agg #[.int .i64 t249, .int .i64 t250, s_.1]), (51, .bool true)]) (fun s_ w' => (w'.cell? ⟨gb238, 0, none⟩ = some (.int .i64 x239000_1) ∧ w'.cell? ⟨gb238, 1, none⟩ = some (.int .i64 x239001_1) ∧ w'.cell? ⟨gb238, 2, none⟩ = some (.slice Ao29 x239002_1.length co29)) ∧ (Kd.N k30 30 w' w.heap.size (fun k_ => (w.heap.size ≤ k_) ∧ some k_ ≠ (.slice Ao29 x239002_1.length co29 : Value).ownBlock ∧ k_ ≠ g ∧ k_ ≠ gb228 ∧ k_ ≠ gb238 ∧ k_ ≠ s_.2) s_.1 t251) ∧ (Kd.N k30 30 w' w.heap.size (fun k_ => (w.heap.size ≤ k_) ∧ some k_ ≠ (s_.1 : Value).ownBlock ∧ k_ ≠ g ∧ k_ ≠ gb228 ∧ k_ ≠ gb238 ∧ k_ ≠ s_.2) (.slice Ao29 x239002_1.length co29) x239002_1) ∧ (w'.heap[gb228]? = some (.cells #[.int .i64 0, .int .i64 0, .slice none 0 0] 25 (0, 0))) ∧ (w'.heap[gb238]? = some (.cells #[.int .i64 x239000_1, .int .i64 x239001_1, .slice Ao29 x239002_1.length co29] 25 (0, 0))) ∧ (w'.heap[s_.2]? = some (.cells #[.int .i64 0, .int .i64 0, .slice none 0 0] 25 (0, 0))) ∧ (w.heap.size ≤ s_.2) ∧ (w0.heap.size ≤ s_.2) ∧ (g ≠ s_.2) ∧ (s_.2 ≠ g) ∧ (gb228 ≠ s_.2) ∧ (s_.2 ≠ gb228) ∧ (gb238 ≠ s_.2) ∧ (s_.2 ≠ gb238) ∧ (IsS66 w0 w' g s0_0 t248) ∧ (KeepBut w w' g none) ∧ (Below w0.heap.size w0 w')) ?_ ?_
  rotate_left
  · intro hCont
    refine two_ (i := 8) (j := 21) (Ni := some 40) (Nj := some 7) #[true, true, true, true, true, true, true, true, true, false, true, true, true, true, true, false, false, false, false, false, false, false, false, false] #[true, true, true, true, true, true, true, true, false, false, true, true, true, true, true, false, false, false, false, false, false, true, false, false] rfl rfl rfl rfl (two_of HT_.out (by kernel_rfl)) (by decide) (by decide) (fun K hK => ?_) (fun K hK => ?_)
    · skip
      refine goes_ Try.func39 (by kernel_rfl) rfl #[.pointer (some ⟨g, 0, none⟩), .int .i64 (wrap64 (x239000_1 - t241))] (by rfl) rfl rfl (z1) ?_
      with_reducible refine (spec_l6Rd_pick.calls k1 g s0_0 t244 (wrap64 (x239000_1 - t241)) t245 t246 w0 _ ?side1 ?side2 A19.out).mono ?_
      (case side1 => exact zHI0)
      (case side2 => exact zHB)
      rintro e w31 ⟨rfl, hi, hb, hk⟩
      refine ⟨_, rfl, ?_⟩
      replace HO_239002 := Ax (Kd.N_mono (Kd.N_keep (Kd.N_mono (ok := fun k_ => (((w.heap.size ≤ k_)) ∧ (k_ ≠ gb228 ∧ (k_ ≠ gb238 ∧ k_ ≠ g)))) (z0) (fun k_ hk_ => (⟨hk_, hk_.2.2.2⟩ : _ ∧ k_ ≠ g))) hk (fun _ h => h.2)) (fun _ h => h.1))
      replace BK228 := Ax (KeepBut.blk hk (g' := gb228) (o := .cells #[.int .i64 0, .int .i64 0, .slice none 0 0] 25 (0, 0)) (zK) NB228_0.out (by simp))
      replace BK238 := Ax (KeepBut.blk hk (g' := gb238) (o := .cells #[.int .i64 x239000_1, .int .i64 x239001_1, .slice Ao29 x239002_1.length co29] 25 (0, 0)) (zK) NB238_0.out (by simp))
      replace HK := Ax (KeepBut.trans (zHK) hk (.inl rfl))
      replace HB := Ax (hb)
      replace HI0 := Ax (hi)
      (try clear hb); (try clear hk); (try clear hi)
      refine hK.out _ _ ⟨(blk_cell BK238.out 0).trans rfl, (blk_cell BK238.out 1).trans rfl, (blk_cell BK238.out 2).trans rfl⟩ (fun hHeld => ?_)
      clear hK K
      refine norm_ (a' := ?_) ?_ ?_
      rotate_left
      · show Act.put _ (some 40) _ = _
        exact zAct
      refine pure_ (i := 9) (N := some 41) (v := ?_) (a' := ?_) (bl 24 32767) rfl rfl (any_of HT_.out (by kernel_rfl)) (fun _ _ _ h => h) (Or.inl ⟨by rfl, ?_⟩) ?_ ?_
      rotate_left
      · exact zEv
      rotate_left
      · exact zAct
      refine two_ (i := 15) (j := 21) (Ni := some 47) (Nj := some 7) #[true, true, true, true, true, true, true, true, true, true, true, true, true, true, true, true, false, false, false, false, false, false, false, false] #[true, true, true, true, true, true, true, true, true, true, true, true, true, true, true, false, false, false, false, false, false, true, false, false] rfl rfl rfl rfl (two_of HT_.out (by kernel_rfl)) (by decide) (by decide) (fun K hK => ?_) (fun K hK => ?_)
      · skip
        refine goes_ Try.func39 (by kernel_rfl) rfl #[.pointer (some ⟨g, 0, none⟩), .int .i64 (wrap64 (x239001_1 - t243))] (by rfl) rfl rfl (z1) ?_
        with_reducible refine (spec_l6Rd_pick.calls k1 g s0_0 t246 (wrap64 (x239001_1 - t243)) t247 t248 w0 _ ?side1 ?side2 A20.out).mono ?_
        (case side1 => exact zHI0)
        (case side2 => exact zHB)
        rintro e w32 ⟨rfl, hi, hb, hk⟩
        refine ⟨_, rfl, ?_⟩
        replace HO_239002 := Ax (Kd.N_mono (Kd.N_keep (Kd.N_mono (ok := fun k_ => (((w.heap.size ≤ k_)) ∧ (k_ ≠ gb228 ∧ (k_ ≠ gb238 ∧ k_ ≠ g)))) (z0) (fun k_ hk_ => (⟨hk_, hk_.2.2.2⟩ : _ ∧ k_ ≠ g))) hk (fun _ h => h.2)) (fun _ h => h.1))
        replace BK228 := Ax (KeepBut.blk hk (g' := gb228) (o := .cells #[.int .i64 0, .int .i64 0, .slice none 0 0] 25 (0, 0)) (zK) NB228_0.out (by simp))
        replace BK238 := Ax (KeepBut.blk hk (g' := gb238) (o := .cells #[.int .i64 x239000_1, .int .i64 x239001_1, .slice Ao29 x239002_1.length co29] 25 (0, 0)) (zK) NB238_0.out (by simp))
        replace HK := Ax (KeepBut.trans (zHK) hk (.inl rfl))
        replace HB := Ax (hb)
        replace HI0 := Ax (hi)
        (try clear hb); (try clear hk); (try clear hi)
        refine hK.out _ _ ⟨(blk_cell BK238.out 0).trans rfl, (blk_cell BK238.out 1).trans rfl, (blk_cell BK238.out 2).trans rfl⟩ (fun hHeld => ?_)
        clear hK K
        refine norm_ (a' := ?_) ?_ ?_
        rotate_left
        · show Act.put _ (some 47) _ = _
          exact zAct
        refine pure_ (i := 16) (N := some 48) (v := ?_) (a' := ?_) (bl 24 131071) rfl rfl (any_of HT_.out (by kernel_rfl)) (fun _ _ _ h => h) (Or.inl ⟨by rfl, ?_⟩) ?_ ?_
        rotate_left
        · exact zEv
        rotate_left
        · exact zAct
        refine two_ (i := 17) (j := 21) (Ni := some 49) (Nj := some 7) #[true, true, true, true, true, true, true, true, true, true, true, true, true, true, true, true, true, true, false, false, false, false, false, false] #[true, true, true, true, true, true, true, true, true, true, true, true, true, true, true, true, true, false, false, false, false, true, false, false] rfl rfl rfl rfl (two_of HT_.out (by kernel_rfl)) (by decide) (by decide) (fun K hK => ?_) (fun K hK => ?_)
        · skip
          refine goes_ Try.func55 (by kernel_rfl) rfl #[.agg #[.int .i64 x239000_1, .int .i64 x239001_1, .slice Ao29 x239002_1.length co29], .int .i64 t241, .int .i64 t243, .int .i64 (wrap64 (1 + t245)), .int .i64 (wrap64 (1 + t247))] (by rfl) rfl rfl (z1) ?_
          with_reducible refine (spec_TableMerge.calls k1 x239000_1 x239001_1 _ _ x239002_1 t241 t243 (wrap64 (1 + t245)) (wrap64 (1 + t247)) t249 t250 t251 true _ ?side1 ?side2 A21.out).mono ?_
          (case side1 => repeat (first | exact (Kd.N_reads' HO_239002.out).2.2 | (with_reducible refine Kd.C_alloc ?_ _) | (with_reducible refine Kd.C_drewN ?_ _) | (with_reducible refine Kd.C_drew ?_)))
          (case side2 => exact (Kd.N_reads' HO_239002.out).2.1)
          rintro e w33 ⟨v252, rfl, ho0, hb⟩
          refine ⟨_, rfl, ?_⟩
          have HO253 := Ax (Kd.N_lower (Kd.N_mono (ok' := fun k_ => (w.heap.size ≤ k_) ∧ some k_ ≠ (.slice Ao29 x239002_1.length co29 : Value).ownBlock ∧ k_ ≠ gb228 ∧ k_ ≠ gb238 ∧ k_ ≠ g) ho0 (fun k_ hk_ => ⟨(Nat.le_trans (keep_size (w := w) (g := g) (row := none) (zHK)) hk_), (Kd.fresh' (Kd.N_lt (z0)) k_ hk_), (Kd.freshB (g := gb228) (o := .cells #[.int .i64 0, .int .i64 0, .slice none 0 0] 25 (0, 0)) (zK) k_ hk_), (Kd.freshB (g := gb238) (o := .cells #[.int .i64 x239000_1, .int .i64 x239001_1, .slice Ao29 x239002_1.length co29] 25 (0, 0)) (zK) k_ hk_), (IsS66.fresh (zHI0) k_ hk_)⟩)) (keep_size (w := w) (g := g) (row := none) (zHK)))
          replace HO_239002 := Ax (Kd.N_elder' (z0) (Kd.N_base ho0) hb)
          replace BK228 := Ax (blk_below (g := gb228) (zK) hb)
          replace BK238 := Ax (blk_below (g := gb238) (zK) hb)
          replace HK := Ax (KeepBut.trans (zHK) (KeepBut.of_below hb g none) (.inl rfl))
          replace HB := Ax (below_step (zHB) hb)
          replace HI0 := Ax (IsS66.below (zHI0) hb)
          (try clear hb); (try clear hk); (try clear hi); (try clear ho0)
          refine hK.out _ _ ⟨(blk_cell BK238.out 0).trans rfl, (blk_cell BK238.out 1).trans rfl, (blk_cell BK238.out 2).trans rfl⟩ (fun hHeld => ?_)
          clear hK K
          refine norm_ (a' := ?_) ?_ ?_
          rotate_left
          · show Act.put _ (some 49) _ = _
            exact zAct
          refine pure_ (i := 18) (N := some 31) (v := ?_) (a' := ?_) (bl 24 524287) rfl rfl (any_of HT_.out (by kernel_rfl)) (fun _ _ _ h => h) (Or.inl ⟨by rfl, ?_⟩) ?_ ?_
          rotate_left
          · exact zEv
          rotate_left
          · exact zAct
          refine pure_ (i := 19) (N := some 50) (v := ?_) (a' := ?_) (bl 24 1048575) rfl rfl (any_of HT_.out (by kernel_rfl)) (fun _ _ _ h => h) (Or.inl ⟨by rfl, ?_⟩) ?_ ?_
          rotate_left
          · exact zEv
          rotate_left
          · exact zAct
          refine pure_ (i := 20) (N := some 51) (v := ?_) (a' := ?_) (bl 24 2097151) rfl rfl (any_of HT_.out (by kernel_rfl)) (fun _ _ _ h => h) (Or.inl ⟨by rfl, ?_⟩) ?_ ?_
          rotate_left
          · exact zEv
          rotate_left
          · exact zAct
          refine one_ (i := 21) (N := some 7) (bl 24 4194303) rfl rfl (one_of HT_.out (by kernel_rfl)) (by decide) (fun K hK => ?_)
          refine box_step ?hg (N := 7) ?hd (cs := #[.int .i64 0, .int .i64 0, .slice none 0 0]) (t := 25) ?hr ?_; (case hd => rfl); (case hg => rfl); (case hr => first | (go_simp; done) | (go_simp; rfl))
          intro gb255 hg w34 hbox hb
          replace HO_239002 := Ax (Kd.N_below (Kd.N_elderB (z0) gb255 (Nat.le_of_eq hg.symm)) hb)
          replace HO253 := Ax (Kd.N_below (Kd.N_elderB (z17) gb255 (Nat.le_of_eq hg.symm)) hb)
          replace HB := Ax (below_step (zHB) hb)
          have BK255 := Ax (hbox)
          have GW255 := Ax ((z2 : w.heap.size ≤ gb255))
          have GE255 := Ax ((Nat.le_trans HW0.out (z2 : w.heap.size ≤ gb255) : w0.heap.size ≤ gb255))
          replace HK := Ax (KeepBut.trans (zHK) (KeepBut.of_below hb g none) (.inl rfl))
          have NB228_255 := Ax ((z6 : gb228 ≠ gb255))
          have NB255_228 := Ax ((z7 : gb255 ≠ gb228))
          replace BK228 := Ax (blk_below (g := gb228) (zK) hb)
          have NB238_255 := Ax ((z8 : gb238 ≠ gb255))
          have NB255_238 := Ax ((z9 : gb255 ≠ gb238))
          replace BK238 := Ax (blk_below (g := gb238) (zK) hb)
          have NB0_255 := Ax ((z11 : g ≠ gb255))
          have NB255_0 := Ax ((z12 : gb255 ≠ g))
          replace HI0 := Ax (IsS66.below (zHI0) hb)
          clear hb hbox hg
          refine hK.out _ _ ⟨(blk_cell BK238.out 0).trans rfl, (blk_cell BK238.out 1).trans rfl, (blk_cell BK238.out 2).trans rfl⟩ (fun hHeld => ?_)
          clear hK K
          refine norm_ (a' := ?_) ?_ ?_
          rotate_left
          · show Act.put _ (some 7) _ = _
            exact zAct
          exact norm_ (z5) (hCont (v252, gb255) _ ⟨hHeld, (z15), (z14), (zK), (zK), (zK), GW255.out, GE255.out, NB0_255.out, NB255_0.out, NB228_255.out, NB255_228.out, NB238_255.out, NB255_238.out, (zHI0), (zHK), (zHB)⟩)
        skip
        refine box_step ?hg (N := 7) ?hd (cs := #[.int .i64 0, .int .i64 0, .slice none 0 0]) (t := 25) ?hr ?_; (case hd => rfl); (case hg => rfl); (case hr => first | (go_simp; done) | (go_simp; rfl))
        intro gb255 hg w33 hbox hb
        replace HO_239002 := Ax (Kd.N_below (Kd.N_elderB (z0) gb255 (Nat.le_of_eq hg.symm)) hb)
        replace HB := Ax (below_step (zHB) hb)
        have BK255 := Ax (hbox)
        have GW255 := Ax ((z2 : w.heap.size ≤ gb255))
        have GE255 := Ax ((Nat.le_trans HW0.out (z2 : w.heap.size ≤ gb255) : w0.heap.size ≤ gb255))
        replace HK := Ax (KeepBut.trans (zHK) (KeepBut.of_below hb g none) (.inl rfl))
        have NB228_255 := Ax ((z6 : gb228 ≠ gb255))
        have NB255_228 := Ax ((z7 : gb255 ≠ gb228))
        replace BK228 := Ax (blk_below (g := gb228) (zK) hb)
        have NB238_255 := Ax ((z8 : gb238 ≠ gb255))
        have NB255_238 := Ax ((z9 : gb255 ≠ gb238))
        replace BK238 := Ax (blk_below (g := gb238) (zK) hb)
        have NB0_255 := Ax ((z11 : g ≠ gb255))
        have NB255_0 := Ax ((z12 : gb255 ≠ g))
        replace HI0 := Ax (IsS66.below (zHI0) hb)
        clear hb hbox hg
        refine hK.out _ _ ⟨(blk_cell BK238.out 0).trans rfl, (blk_cell BK238.out 1).trans rfl, (blk_cell BK238.out 2).trans rfl⟩ (fun hHeld => ?_)
        clear hK K
        refine norm_ (a' := ?_) ?_ ?_
        rotate_left
        · show Act.put _ (some 7) _ = _
          exact zAct
        refine one_ (i := 17) (N := some 49) (bl 24 2359295) rfl rfl (one_of HT_.out (by kernel_rfl)) (by decide) (fun K hK => ?_)
        refine goes_ Try.func55 (by kernel_rfl) rfl #[.agg #[.int .i64 x239000_1, .int .i64 x239001_1, .slice Ao29 x239002_1.length co29], .int .i64 t241, .int .i64 t243, .int .i64 (wrap64 (1 + t245)), .int .i64 (wrap64 (1 + t247))] (by rfl) rfl rfl (z1) ?_
        with_reducible refine (spec_TableMerge.calls k1 x239000_1 x239001_1 _ _ x239002_1 t241 t243 (wrap64 (1 + t245)) (wrap64 (1 + t247)) t249 t250 t251 true _ ?side1 ?side2 A21.out).mono ?_
        (case side1 => repeat (first | exact (Kd.N_reads' HO_239002.out).2.2 | (with_reducible refine Kd.C_alloc ?_ _) | (with_reducible refine Kd.C_drewN ?_ _) | (with_reducible refine Kd.C_drew ?_)))
        (case side2 => exact (Kd.N_reads' HO_239002.out).2.1)
        rintro e w34 ⟨v252, rfl, ho0, hb⟩
        refine ⟨_, rfl, ?_⟩
        have HO253 := Ax (Kd.N_lower (Kd.N_mono (ok' := fun k_ => (w.heap.size ≤ k_) ∧ some k_ ≠ (.slice Ao29 x239002_1.length co29 : Value).ownBlock ∧ k_ ≠ gb228 ∧ k_ ≠ gb238 ∧ k_ ≠ gb255 ∧ k_ ≠ g) ho0 (fun k_ hk_ => ⟨(Nat.le_trans (keep_size (w := w) (g := g) (row := none) (zHK)) hk_), (Kd.fresh' (Kd.N_lt (z0)) k_ hk_), (Kd.freshB (g := gb228) (o := .cells #[.int .i64 0, .int .i64 0, .slice none 0 0] 25 (0, 0)) (zK) k_ hk_), (Kd.freshB (g := gb238) (o := .cells #[.int .i64 x239000_1, .int .i64 x239001_1, .slice Ao29 x239002_1.length co29] 25 (0, 0)) (zK) k_ hk_), (Kd.freshB (g := gb255) (o := .cells #[.int .i64 0, .int .i64 0, .slice none 0 0] 25 (0, 0)) (zK) k_ hk_), (IsS66.fresh (zHI0) k_ hk_)⟩)) (keep_size (w := w) (g := g) (row := none) (zHK)))
        replace HO_239002 := Ax (Kd.N_elder' (z0) (Kd.N_base ho0) hb)
        replace BK228 := Ax (blk_below (g := gb228) (zK) hb)
        replace BK238 := Ax (blk_below (g := gb238) (zK) hb)
        replace BK255 := Ax (blk_below (g := gb255) (zK) hb)
        replace HK := Ax (KeepBut.trans (zHK) (KeepBut.of_below hb g none) (.inl rfl))
        replace HB := Ax (below_step (zHB) hb)
        replace HI0 := Ax (IsS66.below (zHI0) hb)
        (try clear hb); (try clear hk); (try clear hi); (try clear ho0)
        refine hK.out _ _ ⟨(blk_cell BK238.out 0).trans rfl, (blk_cell BK238.out 1).trans rfl, (blk_cell BK238.out 2).trans rfl⟩ (fun hHeld => ?_)
        clear hK K
        refine norm_ (a' := ?_) ?_ ?_
        rotate_left
        · show Act.put _ (some 49) _ = _
          exact zAct
        refine pure_ (i := 18) (N := some 31) (v := ?_) (a' := ?_) (bl 24 2621439) rfl rfl (any_of HT_.out (by kernel_rfl)) (fun _ _ _ h => h) (Or.inl ⟨by rfl, ?_⟩) ?_ ?_
        rotate_left
        · exact zEv
        rotate_left
        · exact zAct
        refine pure_ (i := 19) (N := some 50) (v := ?_) (a' := ?_) (bl 24 3145727) rfl rfl (any_of HT_.out (by kernel_rfl)) (fun _ _ _ h => h) (Or.inl ⟨by rfl, ?_⟩) ?_ ?_
        rotate_left
        · exact zEv
        rotate_left
        · exact zAct
        refine pure_ (i := 20) (N := some 51) (v := ?_) (a' := ?_) (bl 24 4194303) rfl rfl (any_of HT_.out (by kernel_rfl)) (fun _ _ _ h => h) (Or.inl ⟨by rfl, ?_⟩) ?_ ?_
        rotate_left
        · exact zEv
        rotate_left
        · exact zAct
        exact norm_ (z5) (hCont (v252, gb255) _ ⟨hHeld, (z4), (z3), (zK), (zK), (zK), GW255.out, GE255.out, NB0_255.out, NB255_0.out, NB228_255.out, NB255_228.out, NB238_255.out, NB255_238.out, (zHI0), (zHK), (zHB)⟩)
      skip
      refine box_step ?hg (N := 7) ?hd (cs := #[.int .i64 0, .int .i64 0, .slice none 0 0]) (t := 25) ?hr ?_; (case hd => rfl); (case hg => rfl); (case hr => first | (go_simp; done) | (go_simp; rfl))
      intro gb255 hg w32 hbox hb
      replace HO_239002 := Ax (Kd.N_below (Kd.N_elderB (z0) gb255 (Nat.le_of_eq hg.symm)) hb)
      replace HB := Ax (below_step (zHB) hb)
      have BK255 := Ax (hbox)
      have GW255 := Ax ((z2 : w.heap.size ≤ gb255))
      have GE255 := Ax ((Nat.le_trans HW0.out (z2 : w.heap.size ≤ gb255) : w0.heap.size ≤ gb255))
      replace HK := Ax (KeepBut.trans (zHK) (KeepBut.of_below hb g none) (.inl rfl))
      have NB228_255 := Ax ((z6 : gb228 ≠ gb255))
      have NB255_228 := Ax ((z7 : gb255 ≠ gb228))
      replace BK228 := Ax (blk_below (g := gb228) (zK) hb)
      have NB238_255 := Ax ((z8 : gb238 ≠ gb255))
      have NB255_238 := Ax ((z9 : gb255 ≠ gb238))
      replace BK238 := Ax (blk_below (g := gb238) (zK) hb)
      have NB0_255 := Ax ((z18 : g ≠ gb255))
      have NB255_0 := Ax ((z19 : gb255 ≠ g))
      replace HI0 := Ax (IsS66.below (zHI0) hb)
      clear hb hbox hg
      refine hK.out _ _ ⟨(blk_cell BK238.out 0).trans rfl, (blk_cell BK238.out 1).trans rfl, (blk_cell BK238.out 2).trans rfl⟩ (fun hHeld => ?_)
      clear hK K
      refine norm_ (a' := ?_) ?_ ?_
      rotate_left
      · show Act.put _ (some 7) _ = _
        exact zAct
      refine one_ (i := 15) (N := some 47) (bl 24 2162687) rfl rfl (one_of HT_.out (by kernel_rfl)) (by decide) (fun K hK => ?_)
      refine goes_ Try.func39 (by kernel_rfl) rfl #[.pointer (some ⟨g, 0, none⟩), .int .i64 (wrap64 (x239001_1 - t243))] (by rfl) rfl rfl (z1) ?_
      with_reducible refine (spec_l6Rd_pick.calls k1 g s0_0 t246 (wrap64 (x239001_1 - t243)) t247 t248 w0 _ ?side1 ?side2 A20.out).mono ?_
      (case side1 => exact zHI0)
      (case side2 => exact zHB)
      rintro e w33 ⟨rfl, hi, hb, hk⟩
      refine ⟨_, rfl, ?_⟩
      replace HO_239002 := Ax (Kd.N_mono (Kd.N_keep (Kd.N_mono (ok := fun k_ => ((((w.heap.size ≤ k_)) ∧ (k_ ≠ gb228 ∧ (k_ ≠ gb238 ∧ k_ ≠ g))) ∧ k_ ≠ gb255)) (z0) (fun k_ hk_ => (⟨hk_, hk_.1.2.2.2⟩ : _ ∧ k_ ≠ g))) hk (fun _ h => h.2)) (fun _ h => h.1))
      replace BK228 := Ax (KeepBut.blk hk (g' := gb228) (o := .cells #[.int .i64 0, .int .i64 0, .slice none 0 0] 25 (0, 0)) (zK) NB228_0.out (by simp))
      replace BK238 := Ax (KeepBut.blk hk (g' := gb238) (o := .cells #[.int .i64 x239000_1, .int .i64 x239001_1, .slice Ao29 x239002_1.length co29] 25 (0, 0)) (zK) NB238_0.out (by simp))
      replace BK255 := Ax (KeepBut.blk hk (g' := gb255) (o := .cells #[.int .i64 0, .int .i64 0, .slice none 0 0] 25 (0, 0)) (zK) NB255_0.out (by simp))
      replace HK := Ax (KeepBut.trans (zHK) hk (.inl rfl))
      replace HB := Ax (hb)
      replace HI0 := Ax (hi)
      (try clear hb); (try clear hk); (try clear hi)
      refine hK.out _ _ ⟨(blk_cell BK238.out 0).trans rfl, (blk_cell BK238.out 1).trans rfl, (blk_cell BK238.out 2).trans rfl⟩ (fun hHeld => ?_)
      clear hK K
      refine norm_ (a' := ?_) ?_ ?_
      rotate_left
      · show Act.put _ (some 47) _ = _
        exact zAct
      refine pure_ (i := 16) (N := some 48) (v := ?_) (a' := ?_) (bl 24 2228223) rfl rfl (any_of HT_.out (by kernel_rfl)) (fun _ _ _ h => h) (Or.inl ⟨by rfl, ?_⟩) ?_ ?_
      rotate_left
      · exact zEv
      rotate_left
      · exact zAct
      refine one_ (i := 17) (N := some 49) (bl 24 2359295) rfl rfl (one_of HT_.out (by kernel_rfl)) (by decide) (fun K hK => ?_)
      refine goes_ Try.func55 (by kernel_rfl) rfl #[.agg #[.int .i64 x239000_1, .int .i64 x239001_1, .slice Ao29 x239002_1.length co29], .int .i64 t241, .int .i64 t243, .int .i64 (wrap64 (1 + t245)), .int .i64 (wrap64 (1 + t247))] (by rfl) rfl rfl (z1) ?_
      with_reducible refine (spec_TableMerge.calls k1 x239000_1 x239001_1 _ _ x239002_1 t241 t243 (wrap64 (1 + t245)) (wrap64 (1 + t247)) t249 t250 t251 true _ ?side1 ?side2 A21.out).mono ?_
      (case side1 => repeat (first | exact (Kd.N_reads' HO_239002.out).2.2 | (with_reducible refine Kd.C_alloc ?_ _) | (with_reducible refine Kd.C_drewN ?_ _) | (with_reducible refine Kd.C_drew ?_)))
      (case side2 => exact (Kd.N_reads' HO_239002.out).2.1)
      rintro e w34 ⟨v252, rfl, ho0, hb⟩
      refine ⟨_, rfl, ?_⟩
      have HO253 := Ax (Kd.N_lower (Kd.N_mono (ok' := fun k_ => (w.heap.size ≤ k_) ∧ some k_ ≠ (.slice Ao29 x239002_1.length co29 : Value).ownBlock ∧ k_ ≠ gb228 ∧ k_ ≠ gb238 ∧ k_ ≠ gb255 ∧ k_ ≠ g) ho0 (fun k_ hk_ => ⟨(Nat.le_trans (keep_size (w := w) (g := g) (row := none) (zHK)) hk_), (Kd.fresh' (Kd.N_lt (z0)) k_ hk_), (Kd.freshB (g := gb228) (o := .cells #[.int .i64 0, .int .i64 0, .slice none 0 0] 25 (0, 0)) (zK) k_ hk_), (Kd.freshB (g := gb238) (o := .cells #[.int .i64 x239000_1, .int .i64 x239001_1, .slice Ao29 x239002_1.length co29] 25 (0, 0)) (zK) k_ hk_), (Kd.freshB (g := gb255) (o := .cells #[.int .i64 0, .int .i64 0, .slice none 0 0] 25 (0, 0)) (zK) k_ hk_), (IsS66.fresh (zHI0) k_ hk_)⟩)) (keep_size (w := w) (g := g) (row := none) (zHK)))
      replace HO_239002 := Ax (Kd.N_elder' (z0) (Kd.N_base ho0) hb)
      replace BK228 := Ax (blk_below (g := gb228) (zK) hb)
      replace BK238 := Ax (blk_below (g := gb238) (zK) hb)
      replace BK255 := Ax (blk_below (g := gb255) (zK) hb)
      replace HK := Ax (KeepBut.trans (zHK) (KeepBut.of_below hb g none) (.inl rfl))
      replace HB := Ax (below_step (zHB) hb)
      replace HI0 := Ax (IsS66.below (zHI0) hb)
      (try clear hb); (try clear hk); (try clear hi); (try clear ho0)
      refine hK.out _ _ ⟨(blk_cell BK238.out 0).trans rfl, (blk_cell BK238.out 1).trans rfl, (blk_cell BK238.out 2).trans rfl⟩ (fun hHeld => ?_)
      clear hK K
      refine norm_ (a' := ?_) ?_ ?_
      rotate_left
      · show Act.put _ (some 49) _ = _
        exact zAct
      refine pure_ (i := 18) (N := some 31) (v := ?_) (a' := ?_) (bl 24 2621439) rfl rfl (any_of HT_.out (by kernel_rfl)) (fun _ _ _ h => h) (Or.inl ⟨by rfl, ?_⟩) ?_ ?_
      rotate_left
      · exact zEv
      rotate_left
      · exact zAct
      refine pure_ (i := 19) (N := some 50) (v := ?_) (a' := ?_) (bl 24 3145727) rfl rfl (any_of HT_.out (by kernel_rfl)) (fun _ _ _ h => h) (Or.inl ⟨by rfl, ?_⟩) ?_ ?_
      rotate_left
      · exact zEv
      rotate_left
      · exact zAct
      refine pure_ (i := 20) (N := some 51) (v := ?_) (a' := ?_) (bl 24 4194303) rfl rfl (any_of HT_.out (by kernel_rfl)) (fun _ _ _ h => h) (Or.inl ⟨by rfl, ?_⟩) ?_ ?_
      rotate_left
      · exact zEv
      rotate_left
      · exact zAct
      exact norm_ (z5) (hCont (v252, gb255) _ ⟨hHeld, (z4), (z3), (zK), (zK), (zK), GW255.out, GE255.out, NB0_255.out, NB255_0.out, NB228_255.out, NB255_228.out, NB238_255.out, NB255_238.out, (zHI0), (zHK), (zHB)⟩)
    skip
    refine box_step ?hg (N := 7) ?hd (cs := #[.int .i64 0, .int .i64 0, .slice none 0 0]) (t := 25) ?hr ?_; (case hd => rfl); (case hg => rfl); (case hr => first | (go_simp; done) | (go_simp; rfl))
    intro gb255 hg w31 hbox hb
    replace HO_239002 := Ax (Kd.N_below (Kd.N_elderB (z0) gb255 (Nat.le_of_eq hg.symm)) hb)
    replace HB := Ax (below_step (zHB) hb)
    have BK255 := Ax (hbox)
    have GW255 := Ax ((z2 : w.heap.size ≤ gb255))
    have GE255 := Ax ((Nat.le_trans HW0.out (z2 : w.heap.size ≤ gb255) : w0.heap.size ≤ gb255))
    replace HK := Ax (KeepBut.trans (zHK) (KeepBut.of_below hb g none) (.inl rfl))
    have NB228_255 := Ax ((z6 : gb228 ≠ gb255))
    have NB255_228 := Ax ((z7 : gb255 ≠ gb228))
    replace BK228 := Ax (blk_below (g := gb228) (zK) hb)
    have NB238_255 := Ax ((z8 : gb238 ≠ gb255))
    have NB255_238 := Ax ((z9 : gb255 ≠ gb238))
    replace BK238 := Ax (blk_below (g := gb238) (zK) hb)
    have NB0_255 := Ax ((z20 : g ≠ gb255))
    have NB255_0 := Ax ((z21 : gb255 ≠ g))
    replace HI0 := Ax (IsS66.below (zHI0) hb)
    clear hb hbox hg
    refine hK.out _ _ ⟨(blk_cell BK238.out 0).trans rfl, (blk_cell BK238.out 1).trans rfl, (blk_cell BK238.out 2).trans rfl⟩ (fun hHeld => ?_)
    clear hK K
    refine norm_ (a' := ?_) ?_ ?_
    rotate_left
    · show Act.put _ (some 7) _ = _
      exact zAct
    refine one_ (i := 8) (N := some 40) (bl 24 2129407) rfl rfl (one_of HT_.out (by kernel_rfl)) (by decide) (fun K hK => ?_)
    refine goes_ Try.func39 (by kernel_rfl) rfl #[.pointer (some ⟨g, 0, none⟩), .int .i64 (wrap64 (x239000_1 - t241))] (by rfl) rfl rfl (z1) ?_
    with_reducible refine (spec_l6Rd_pick.calls k1 g s0_0 t244 (wrap64 (x239000_1 - t241)) t245 t246 w0 _ ?side1 ?side2 A19.out).mono ?_
    (case side1 => exact zHI0)
    (case side2 => exact zHB)
    rintro e w32 ⟨rfl, hi, hb, hk⟩
    refine ⟨_, rfl, ?_⟩
    replace HO_239002 := Ax (Kd.N_mono (Kd.N_keep (Kd.N_mono (ok := fun k_ => ((((w.heap.size ≤ k_)) ∧ (k_ ≠ gb228 ∧ (k_ ≠ gb238 ∧ k_ ≠ g))) ∧ k_ ≠ gb255)) (z0) (fun k_ hk_ => (⟨hk_, hk_.1.2.2.2⟩ : _ ∧ k_ ≠ g))) hk (fun _ h => h.2)) (fun _ h => h.1))
    replace BK228 := Ax (KeepBut.blk hk (g' := gb228) (o := .cells #[.int .i64 0, .int .i64 0, .slice none 0 0] 25 (0, 0)) (zK) NB228_0.out (by simp))
    replace BK238 := Ax (KeepBut.blk hk (g' := gb238) (o := .cells #[.int .i64 x239000_1, .int .i64 x239001_1, .slice Ao29 x239002_1.length co29] 25 (0, 0)) (zK) NB238_0.out (by simp))
    replace BK255 := Ax (KeepBut.blk hk (g' := gb255) (o := .cells #[.int .i64 0, .int .i64 0, .slice none 0 0] 25 (0, 0)) (zK) NB255_0.out (by simp))
    replace HK := Ax (KeepBut.trans (zHK) hk (.inl rfl))
    replace HB := Ax (hb)
    replace HI0 := Ax (hi)
    (try clear hb); (try clear hk); (try clear hi)
    refine hK.out _ _ ⟨(blk_cell BK238.out 0).trans rfl, (blk_cell BK238.out 1).trans rfl, (blk_cell BK238.out 2).trans rfl⟩ (fun hHeld => ?_)
    clear hK K
    refine norm_ (a' := ?_) ?_ ?_
    rotate_left
    · show Act.put _ (some 40) _ = _
      exact zAct
    refine pure_ (i := 9) (N := some 41) (v := ?_) (a' := ?_) (bl 24 2129919) rfl rfl (any_of HT_.out (by kernel_rfl)) (fun _ _ _ h => h) (Or.inl ⟨by rfl, ?_⟩) ?_ ?_
    rotate_left
    · exact zEv
    rotate_left
    · exact zAct
    refine one_ (i := 15) (N := some 47) (bl 24 2162687) rfl rfl (one_of HT_.out (by kernel_rfl)) (by decide) (fun K hK => ?_)
    refine goes_ Try.func39 (by kernel_rfl) rfl #[.pointer (some ⟨g, 0, none⟩), .int .i64 (wrap64 (x239001_1 - t243))] (by rfl) rfl rfl (z1) ?_
    with_reducible refine (spec_l6Rd_pick.calls k1 g s0_0 t246 (wrap64 (x239001_1 - t243)) t247 t248 w0 _ ?side1 ?side2 A20.out).mono ?_
    (case side1 => exact zHI0)
    (case side2 => exact zHB)
    rintro e w33 ⟨rfl, hi, hb, hk⟩
    refine ⟨_, rfl, ?_⟩
    replace HO_239002 := Ax (Kd.N_mono (Kd.N_keep (Kd.N_mono (ok := fun k_ => ((((w.heap.size ≤ k_)) ∧ (k_ ≠ gb228 ∧ (k_ ≠ gb238 ∧ k_ ≠ g))) ∧ k_ ≠ gb255)) (z0) (fun k_ hk_ => (⟨hk_, hk_.1.2.2.2⟩ : _ ∧ k_ ≠ g))) hk (fun _ h => h.2)) (fun _ h => h.1))
    replace BK228 := Ax (KeepBut.blk hk (g' := gb228) (o := .cells #[.int .i64 0, .int .i64 0, .slice none 0 0] 25 (0, 0)) (zK) NB228_0.out (by simp))
    replace BK238 := Ax (KeepBut.blk hk (g' := gb238) (o := .cells #[.int .i64 x239000_1, .int .i64 x239001_1, .slice Ao29 x239002_1.length co29] 25 (0, 0)) (zK) NB238_0.out (by simp))
    replace BK255 := Ax (KeepBut.blk hk (g' := gb255) (o := .cells #[.int .i64 0, .int .i64 0, .slice none 0 0] 25 (0, 0)) (zK) NB255_0.out (by simp))
    replace HK := Ax (KeepBut.trans (zHK) hk (.inl rfl))
    replace HB := Ax (hb)
    replace HI0 := Ax (hi)
    (try clear hb); (try clear hk); (try clear hi)
    refine hK.out _ _ ⟨(blk_cell BK238.out 0).trans rfl, (blk_cell BK238.out 1).trans rfl, (blk_cell BK238.out 2).trans rfl⟩ (fun hHeld => ?_)
    clear hK K
    refine norm_ (a' := ?_) ?_ ?_
    rotate_left
    · show Act.put _ (some 47) _ = _
      exact zAct
    refine pure_ (i := 16) (N := some 48) (v := ?_) (a' := ?_) (bl 24 2228223) rfl rfl (any_of HT_.out (by kernel_rfl)) (fun _ _ _ h => h) (Or.inl ⟨by rfl, ?_⟩) ?_ ?_
    rotate_left
    · exact zEv
    rotate_left
    · exact zAct
    refine one_ (i := 17) (N := some 49) (bl 24 2359295) rfl rfl (one_of HT_.out (by kernel_rfl)) (by decide) (fun K hK => ?_)
    refine goes_ Try.func55 (by kernel_rfl) rfl #[.agg #[.int .i64 x239000_1, .int .i64 x239001_1, .slice Ao29 x239002_1.length co29], .int .i64 t241, .int .i64 t243, .int .i64 (wrap64 (1 + t245)), .int .i64 (wrap64 (1 + t247))] (by rfl) rfl rfl (z1) ?_
    with_reducible refine (spec_TableMerge.calls k1 x239000_1 x239001_1 _ _ x239002_1 t241 t243 (wrap64 (1 + t245)) (wrap64 (1 + t247)) t249 t250 t251 true _ ?side1 ?side2 A21.out).mono ?_
    (case side1 => repeat (first | exact (Kd.N_reads' HO_239002.out).2.2 | (with_reducible refine Kd.C_alloc ?_ _) | (with_reducible refine Kd.C_drewN ?_ _) | (with_reducible refine Kd.C_drew ?_)))
    (case side2 => exact (Kd.N_reads' HO_239002.out).2.1)
    rintro e w34 ⟨v252, rfl, ho0, hb⟩
    refine ⟨_, rfl, ?_⟩
    have HO253 := Ax (Kd.N_lower (Kd.N_mono (ok' := fun k_ => (w.heap.size ≤ k_) ∧ some k_ ≠ (.slice Ao29 x239002_1.length co29 : Value).ownBlock ∧ k_ ≠ gb228 ∧ k_ ≠ gb238 ∧ k_ ≠ gb255 ∧ k_ ≠ g) ho0 (fun k_ hk_ => ⟨(Nat.le_trans (keep_size (w := w) (g := g) (row := none) (zHK)) hk_), (Kd.fresh' (Kd.N_lt (z0)) k_ hk_), (Kd.freshB (g := gb228) (o := .cells #[.int .i64 0, .int .i64 0, .slice none 0 0] 25 (0, 0)) (zK) k_ hk_), (Kd.freshB (g := gb238) (o := .cells #[.int .i64 x239000_1, .int .i64 x239001_1, .slice Ao29 x239002_1.length co29] 25 (0, 0)) (zK) k_ hk_), (Kd.freshB (g := gb255) (o := .cells #[.int .i64 0, .int .i64 0, .slice none 0 0] 25 (0, 0)) (zK) k_ hk_), (IsS66.fresh (zHI0) k_ hk_)⟩)) (keep_size (w := w) (g := g) (row := none) (zHK)))
    replace HO_239002 := Ax (Kd.N_elder' (z0) (Kd.N_base ho0) hb)
    replace BK228 := Ax (blk_below (g := gb228) (zK) hb)
    replace BK238 := Ax (blk_below (g := gb238) (zK) hb)
    replace BK255 := Ax (blk_below (g := gb255) (zK) hb)
    replace HK := Ax (KeepBut.trans (zHK) (KeepBut.of_below hb g none) (.inl rfl))
    replace HB := Ax (below_step (zHB) hb)
    replace HI0 := Ax (IsS66.below (zHI0) hb)
    (try clear hb); (try clear hk); (try clear hi); (try clear ho0)
    refine hK.out _ _ ⟨(blk_cell BK238.out 0).trans rfl, (blk_cell BK238.out 1).trans rfl, (blk_cell BK238.out 2).trans rfl⟩ (fun hHeld => ?_)
    clear hK K
    refine norm_ (a' := ?_) ?_ ?_
    rotate_left
    · show Act.put _ (some 49) _ = _
      exact zAct
    refine pure_ (i := 18) (N := some 31) (v := ?_) (a' := ?_) (bl 24 2621439) rfl rfl (any_of HT_.out (by kernel_rfl)) (fun _ _ _ h => h) (Or.inl ⟨by rfl, ?_⟩) ?_ ?_
    rotate_left
    · exact zEv
    rotate_left
    · exact zAct
    refine pure_ (i := 19) (N := some 50) (v := ?_) (a' := ?_) (bl 24 3145727) rfl rfl (any_of HT_.out (by kernel_rfl)) (fun _ _ _ h => h) (Or.inl ⟨by rfl, ?_⟩) ?_ ?_
    rotate_left
    · exact zEv
    rotate_left
    · exact zAct
    refine pure_ (i := 20) (N := some 51) (v := ?_) (a' := ?_) (bl 24 4194303) rfl rfl (any_of HT_.out (by kernel_rfl)) (fun _ _ _ h => h) (Or.inl ⟨by rfl, ?_⟩) ?_ ?_
    rotate_left
    · exact zEv
    rotate_left
    · exact zAct
    exact norm_ (z5) (hCont (v252, gb255) _ ⟨hHeld, (z4), (z3), (zK), (zK), (zK), GW255.out, GE255.out, NB0_255.out, NB255_0.out, NB228_255.out, NB255_228.out, NB238_255.out, NB255_238.out, (zHI0), (zHK), (zHB)⟩)
  rintro ⟨v252, gb255⟩ w35 ⟨hS_, h0_, h1_, h2_, h3_, h4_, h5_, h6_, h7_, h8_, h9_, h10_, h11_, h12_, h13_, h14_, h15_⟩
  have HO253 : Aside0 (Kd.N k30 30 w35 w.heap.size (fun k_ => (w.heap.size ≤ k_) ∧ some k_ ≠ (.slice Ao29 x239002_1.length co29 : Value).ownBlock ∧ k_ ≠ g ∧ k_ ≠ gb228 ∧ k_ ≠ gb238 ∧ k_ ≠ gb255) v252 t251) := ⟨h0_⟩
  replace HO_239002 : Aside0 (Kd.N k30 30 w35 w.heap.size (fun k_ => (w.heap.size ≤ k_) ∧ some k_ ≠ (v252 : Value).ownBlock ∧ k_ ≠ g ∧ k_ ≠ gb228 ∧ k_ ≠ gb238 ∧ k_ ≠ gb255) (.slice Ao29 x239002_1.length co29) x239002_1) := ⟨h1_⟩
  replace BK228 : Aside0 (w35.heap[gb228]? = some (.cells #[.int .i64 0, .int .i64 0, .slice none 0 0] 25 (0, 0))) := ⟨h2_⟩
  replace BK238 : Aside0 (w35.heap[gb238]? = some (.cells #[.int .i64 x239000_1, .int .i64 x239001_1, .slice Ao29 x239002_1.length co29] 25 (0, 0))) := ⟨h3_⟩
  have BK255 : Aside0 (w35.heap[gb255]? = some (.cells #[.int .i64 0, .int .i64 0, .slice none 0 0] 25 (0, 0))) := ⟨h4_⟩
  have GW255 : Aside0 (w.heap.size ≤ gb255) := ⟨h5_⟩
  have GE255 : Aside0 (w0.heap.size ≤ gb255) := ⟨h6_⟩
  have NB0_255 : Aside0 (g ≠ gb255) := ⟨h7_⟩
  have NB255_0 : Aside0 (gb255 ≠ g) := ⟨h8_⟩
  have NB228_255 : Aside0 (gb228 ≠ gb255) := ⟨h9_⟩
  have NB255_228 : Aside0 (gb255 ≠ gb228) := ⟨h10_⟩
  have NB238_255 : Aside0 (gb238 ≠ gb255) := ⟨h11_⟩
  have NB255_238 : Aside0 (gb255 ≠ gb238) := ⟨h12_⟩
  replace HI0 : Aside0 (IsS66 w0 w35 g s0_0 t248) := ⟨h13_⟩
  replace HK : Aside0 (KeepBut w w35 g none) := ⟨h14_⟩
  replace HB : Aside0 (Below w0.heap.size w0 w35) := ⟨h15_⟩
  clear h0_ h1_ h2_ h3_ h4_ h5_ h6_ h7_ h8_ h9_ h10_ h11_ h12_ h13_ h14_ h15_
  have hHeld : w35.cell? ⟨gb238, 0, none⟩ = some (.int .i64 x239000_1) ∧ w35.cell? ⟨gb238, 1, none⟩ = some (.int .i64 x239001_1) ∧ w35.cell? ⟨gb238, 2, none⟩ = some (.slice Ao29 x239002_1.length co29) := hS_
  obtain ⟨Ao38, co38, eo38⟩ := Kd.N_slice HO253.out
  (first | subst eo38 | (injection eo38 with f1_ f2_ f3_; have f4_ := f1_.symm; have f5_ := f3_.symm; clear f1_ f2_ f3_; subst f4_; subst f5_))
  refine norm_ (a' := ?_) ?_ ?_
  rotate_left
  · simp only [putAll, Act.put, List.setIfInBounds_toArray, List.set_cons_zero, List.set_cons_succ]
    rfl
  refine one_ (i := 22) (N := none) (bl 24 8388607) rfl rfl (one_of HT_.out (by kernel_rfl)) (by decide) (fun K hK => ?_)
  have hs36 : w35.cell? ⟨gb255, 0, none⟩ = some (.int .i64 0) := (blk_cell BK255.out 0).trans rfl
  have hfs36 := blk_frozen BK255.out 0
  have hns36_0 := NB228_255.out
  have hns36_1 := NB238_255.out
  have hms36_0 := NB255_228.out
  have hms36_1 := NB255_238.out
  have hs37 : w35.cell? ⟨gb255, 1, none⟩ = some (.int .i64 0) := (blk_cell BK255.out 1).trans rfl
  have hfs37 := blk_frozen BK255.out 1
  have hns37_0 := NB228_255.out
  have hns37_1 := NB238_255.out
  have hms37_0 := NB255_228.out
  have hms37_1 := NB255_238.out
  have hs39 : w35.cell? ⟨gb255, 2, none⟩ = some (.slice none 0 0) := (blk_cell BK255.out 2).trans rfl
  have hfs39 := blk_frozen BK255.out 2
  have hns39_0 := NB228_255.out
  have hns39_1 := NB238_255.out
  have hms39_0 := NB255_228.out
  have hms39_1 := NB255_238.out
  refine skip_ (w1 := ?_) (by rfl) rfl ?_ ?_
  rotate_left
  · go_simp
    rfl
  refine hK.out _ _ ⟨((cell_far (p := ⟨gb255, _, none⟩) NB238_255.out _).trans (((cell_far (p := ⟨gb255, _, none⟩) NB238_255.out _).trans (((cell_far (p := ⟨gb255, _, none⟩) NB238_255.out _).trans (hHeld.1)))))), ((cell_far (p := ⟨gb255, _, none⟩) NB238_255.out _).trans (((cell_far (p := ⟨gb255, _, none⟩) NB238_255.out _).trans (((cell_far (p := ⟨gb255, _, none⟩) NB238_255.out _).trans (hHeld.2.1)))))), ((cell_far (p := ⟨gb255, _, none⟩) NB238_255.out _).trans (((cell_far (p := ⟨gb255, _, none⟩) NB238_255.out _).trans (((cell_far (p := ⟨gb255, _, none⟩) NB238_255.out _).trans (hHeld.2.2))))))⟩ (fun hHeld => ?_)
  clear hK K
  refine pure_ (i := 23) (N := some 8) (v := ?_) (a' := ?_) (bl 24 16777215) rfl rfl (any_of HT_.out (by kernel_rfl)) (fun _ _ _ h => h) (Or.inl ⟨by rfl, ?_⟩) ?_ ?_
  rotate_left
  · exact zEv
  rotate_left
  · exact zAct
  refine done_ (done_of HT_.out (by kernel_rfl)) ?_
  have hnb40 := NB255_228.out
  have hnc40 := NB228_255.out
  have hnb41 := NB255_238.out
  have hnc41 := NB238_255.out
  have hnb42 := NB255_0.out
  have hnc42 := NB0_255.out
  obtain ⟨_, _, _, _, _, _⟩ := cells3 BK255.out
  obtain ⟨_, _, _, _, _, _⟩ := cells3 BK238.out
  try go_wp2
  go_roundg k1
  case measure => have := HK1.out; omega
  exact ⟨(wrap64 (x4_1 - 1)), (t248), (t249), (t250), (t251), (.slice Ao38 t251.length co38), (z13), H', ⟨by have := HK1.out; omega⟩, ⟨by (with_reducible repeat (first | apply Kd.N_alloc | apply Kd.N_drewN | apply Kd.N_drew)); exact Kd.N_mono (Kd.N_far (p := ⟨gb238, 2, none⟩) (Kd.N_far (p := ⟨gb238, 1, none⟩) (Kd.N_far (p := ⟨gb238, 0, none⟩) (Kd.N_far (p := ⟨gb255, 2, none⟩) (Kd.N_far (p := ⟨gb255, 1, none⟩) (Kd.N_far (p := ⟨gb255, 0, none⟩) (Kd.N_mono (Kd.N_mono HO253.out (fun k_ hk => (⟨hk, hk.2.2.2.2.2⟩ : _ ∧ k_ ≠ gb255))) (fun k_ hk => (⟨hk, hk.1.2.2.2.2.1⟩ : _ ∧ k_ ≠ gb238))) (fun _ hk => hk.1.2) (.int .i64 t249)) (fun _ hk => hk.1.2) (.int .i64 t250)) (fun _ hk => hk.1.2) (.slice Ao38 t251.length co38)) (fun _ hk => hk.2) (.int .i64 t249)) (fun _ hk => hk.2) (.int .i64 t250)) (fun _ hk => hk.2) (.slice Ao38 t251.length co38)) (fun _ hk => ⟨hk.1.1.1, ⟨hk.1.1.2.2.2.1, ⟨hk.1.1.2.2.2.2.1, hk.1.1.2.2.1⟩⟩⟩)⟩, ⟨zK⟩, ⟨zK⟩, ⟨zHI0⟩, ⟨zHK⟩, ⟨zHB⟩⟩
end Go.Proofs.Ytljgbeccmcidkaa.P
