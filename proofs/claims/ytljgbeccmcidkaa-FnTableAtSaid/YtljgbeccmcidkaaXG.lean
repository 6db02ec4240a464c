/- What the Go functions named below compute, function by function: a plain Lean function with the same answers and the proof that a call comes to them. Conditions: the arguments read as told, the plain function answers. -/
import Derived.Test.YtljgbeccmcidkaaXA
namespace Go.Proofs.Ytljgbeccmcidkaa.P
open Go.RowKit Go.Proofs.YtljgbeccmcidkaaW.PrintWords Go.Proofs.YtljgbeccmcidkaaW.PrintLast Go.Proofs.YtljgbeccmcidkaaW.PrintMore
attribute [local go_sem] max2_int min2_int max_two min_two max_three min_three max_four min_four   -- for this text's walks alone
set_option linter.unusedVariables false
set_option linter.unusedSimpArgs false

attribute [local go_sem ↓] isSome_setCell
/-- A state of type 66 at block g of W; what its slices lead to came in by w0. -/
def IsS66 (w0 W : World) (g : Nat) (f0 : List Int) (f1 : Int) : Prop := ∃ A0 c0, W.heap[g]? = some (.cells #[.slice A0 f0.length c0, .int .i64 f1] 66 (0, 0)) ∧ w0.heap.size ≤ g ∧ Kd.C (Kd.int .u8) w0 A0 f0.length f0
theorem IsS66.grown {w0 W : World} {g : Nat} {f0 : List Int} {f1 : Int} {W1 : World} {row : Option Nat} (h : IsS66 w0 W g f0 f1) (hw : W.grownBy W1 row) (hne : some g ≠ row) : IsS66 w0 W1 g f0 f1 := by
  obtain ⟨A0, c0, hb, hg, hr0⟩ := h
  exact ⟨A0, c0, blk_grown hb hw hne, hg, hr0⟩
theorem IsS66.own_neN {w0 W : World} {g : Nat} {f0 : List Int} {f1 : Int} {α : Type} {d : Kd α} {e : Nat} {base : Nat} {ok : Nat → Prop} {v : Value} {xs : List α} (h : IsS66 w0 W g f0 f1) (ho : Kd.N d e W base ok v xs) (ht : e ≠ 66) : some g ≠ v.ownBlock := by
  obtain ⟨A0, c0, hb, hg, hr0⟩ := h
  exact Kd.N_ne ho hb ht
theorem IsS66.fresh {w0 W : World} {g : Nat} {f0 : List Int} {f1 : Int} (h : IsS66 w0 W g f0 f1) : ∀ k, W.heap.size ≤ k → k ≠ g := by
  obtain ⟨A0, c0, hb, hg, hr0⟩ := h
  exact Kd.freshB hb
theorem IsS66.kept {w0 W : World} {g : Nat} {f0 : List Int} {f1 : Int} {W1 : World} {S : Nat → Prop} (h : IsS66 w0 W g f0 f1) (hk : Kept W W1 S) (hne : ¬ S g) : IsS66 w0 W1 g f0 f1 := by
  obtain ⟨A0, c0, hb, hg, hr0⟩ := h
  exact ⟨A0, c0, blk_kept hb hk hne, hg, hr0⟩
theorem IsS66.below {w0 W : World} {g : Nat} {f0 : List Int} {f1 : Int} {W1 : World} (h : IsS66 w0 W g f0 f1) (hw : Below W.heap.size W W1) : IsS66 w0 W1 g f0 f1 := h.grown (grown_of_below hw none) (by simp)
theorem IsS66.alloc {w0 W : World} {g : Nat} {f0 : List Int} {f1 : Int} (h : IsS66 w0 W g f0 f1) (o : Obj) : IsS66 w0 (W.alloc o) g f0 f1 := h.below (below_alloc (Below.refl _ _) o)
theorem IsS66.drewN {w0 W : World} {g : Nat} {f0 : List Int} {f1 : Int} (h : IsS66 w0 W g f0 f1) (m : Nat) : IsS66 w0 (W.drewN m) g f0 f1 := h
theorem IsS66.drew {w0 W : World} {g : Nat} {f0 : List Int} {f1 : Int} (h : IsS66 w0 W g f0 f1) : IsS66 w0 W.drew g f0 f1 := h
theorem IsS66.at_ {w0 W : World} {g : Nat} {f0 : List Int} {f1 : Int} {w' : World} {m : Nat} (hq : W.drewN m = w') (h : IsS66 w0 W g f0 f1) : IsS66 w0 w' g f0 f1 := by subst hq; exact IsS66.drewN h m
theorem IsS66.apart {w0 W : World} {g : Nat} {f0 : List Int} {f1 : Int} {α : Type} {d : Kd α} {e : Nat} {base : Nat} {ok : Nat → Prop} {v : Value} {xs : List α} (h : IsS66 w0 W g f0 f1) (ho : d.R e W base ok v xs) (ht : ∀ q, q ∈ e :: d.E → q ≠ 66) : d.R e W base (fun k => ok k ∧ k ≠ g) v xs := by
  obtain ⟨A0, c0, hb, hg, hr0⟩ := h
  exact Kd.R_types ho hb ht
theorem IsS66.own_ne {w0 W : World} {g : Nat} {f0 : List Int} {f1 : Int} {α : Type} {d : Kd α} {e : Nat} {base : Nat} {ok : Nat → Prop} {v : Value} {xs : List α} (h : IsS66 w0 W g f0 f1) (ho : d.R e W base ok v xs) (ht : e ≠ 66) : some g ≠ v.ownBlock := by
  obtain ⟨A0, c0, hb, hg, hr0⟩ := h
  exact Kd.R_ne ho hb ht
theorem IsS66.apartQ {w0 W : World} {g : Nat} {f0 : List Int} {f1 : Int} {α : Type} {d : Kd α} {e : Nat} {base : Nat} {ok : Nat → Prop} {v : Value} {xs : List α} (h : IsS66 w0 W g f0 f1) (ho : d.Q e W base ok v xs) (ht : ∀ q, q ∈ e :: d.E → q ≠ 66) : d.Q e W base (fun k => ok k ∧ k ≠ g) v xs := by
  obtain ⟨A0, c0, hb, hg, hr0⟩ := h
  exact Kd.Q_types ho hb ht
theorem IsS66.own_neQ {w0 W : World} {g : Nat} {f0 : List Int} {f1 : Int} {α : Type} {d : Kd α} {e : Nat} {base : Nat} {ok : Nat → Prop} {v : Value} {xs : List α} (h : IsS66 w0 W g f0 f1) (ho : d.Q e W base ok v xs) (ht : e ≠ 66) : some g ≠ v.ownBlock := by
  obtain ⟨A0, c0, hb, hg, hr0⟩ := h
  exact Kd.Q_ne ho hb ht
theorem IsS66.apartS {w0 W : World} {g : Nat} {f0 : List Int} {f1 : Int} {α : Type} {d : Kd α} {e : Nat} {base : Nat} {ok : Nat → Prop} {v : Value} {xs : List α} (h : IsS66 w0 W g f0 f1) (ho : d.S e W base ok v xs) (ht : ∀ q, q ∈ e :: d.E → q ≠ 66) : d.S e W base (fun k => ok k ∧ k ≠ g) v xs := by
  obtain ⟨A0, c0, hb, hg, hr0⟩ := h
  exact Kd.S_types ho hb ht
theorem IsS66.own_neS {w0 W : World} {g : Nat} {f0 : List Int} {f1 : Int} {α : Type} {d : Kd α} {e : Nat} {base : Nat} {ok : Nat → Prop} {v : Value} {xs : List α} (h : IsS66 w0 W g f0 f1) (ho : d.S e W base ok v xs) (ht : e ≠ 66) : some g ≠ v.ownBlock := by
  obtain ⟨A0, c0, hb, hg, hr0⟩ := h
  exact Kd.S_ne ho hb ht
theorem IsS66.lt {w0 W : World} {g : Nat} {f0 : List Int} {f1 : Int} (h : IsS66 w0 W g f0 f1) : g < W.heap.size := by
  obtain ⟨A0, c0, hb, hg, hr0⟩ := h
  exact blk_lt hb
theorem IsS66.ge {w0 W : World} {g : Nat} {f0 : List Int} {f1 : Int} (h : IsS66 w0 W g f0 f1) : w0.heap.size ≤ g := by
  obtain ⟨A0, c0, hb, hg, hr0⟩ := h
  exact hg
theorem IsS66.ne_blk {w0 W : World} {g : Nat} {f0 : List Int} {f1 : Int} {a : Nat} {cs : Array Value} {t : TypeId} {fr : Nat × Nat} (h : IsS66 w0 W g f0 f1) (hb2 : W.heap[a]? = some (.cells cs t fr)) (ht : t ≠ 66) : g ≠ a := by
  obtain ⟨A0, c0, hb, hg, hr0⟩ := h
  rintro rfl
  rw [hb] at hb2
  injection hb2 with hb2
  injection hb2 with _ ht2
  exact ht ht2.symm
theorem IsS66.far {w0 W : World} {g : Nat} {f0 : List Int} {f1 : Int} {p : Addr} (h : IsS66 w0 W g f0 f1) (hne : g ≠ p.block) (u : Value) : IsS66 w0 (W.setCell p u) g f0 f1 := by
  obtain ⟨A0, c0, hb, hg, hr0⟩ := h
  exact ⟨A0, c0, blk_far hb hne u, hg, hr0⟩
theorem cellS66_0 {W : World} {g : Nat} {A0 : Option Addr} {c0 : Nat} {f0 : List Int} {f1 : Int} (h : W.heap[g]? = some (.cells #[.slice A0 f0.length c0, .int .i64 f1] 66 (0, 0))) : W.cell? ⟨g, 0, none⟩ = some (.slice A0 f0.length c0) := (blk_cell h 0).trans rfl
theorem cellS66_1 {W : World} {g : Nat} {A0 : Option Addr} {c0 : Nat} {f0 : List Int} {f1 : Int} (h : W.heap[g]? = some (.cells #[.slice A0 f0.length c0, .int .i64 f1] 66 (0, 0))) : W.cell? ⟨g, 1, none⟩ = some (.int .i64 f1) := (blk_cell h 1).trans rfl
theorem IsS66.set_1 {w0 W : World} {g : Nat} {f0 : List Int} {f1 : Int} (h : IsS66 w0 W g f0 f1) (x : Int) : IsS66 w0 (W.setCell ⟨g, 1, none⟩ (.int .i64 x)) g f0 x := by
  obtain ⟨A0, c0, hb, hg, hr0⟩ := h
  exact ⟨A0, c0, by simpa using blk_set hb 1 (.int .i64 x), hg, hr0⟩
theorem IsS66.new (w0 W : World) (A0 : Option Addr) (c0 : Nat) (f0 : List Int) (f1 : Int) (hB : Below w0.heap.size w0 W) (hr0 : Kd.C (Kd.int .u8) w0 A0 f0.length f0) : IsS66 w0 (W.alloc (.cells #[.slice A0 f0.length c0, .int .i64 f1] 66)) W.heap.size f0 f1 := ⟨A0, c0, by simpa using heap_alloc_new W _, hB.size, hr0⟩

/-! ### spec_l6Open: function 37 -/
def spec_l6Open.f (l0 : List Int) : Option (List Int × Int) := if (l0.length : Int) > 2000 then (if 2000 ≤ (l0.length : Int) then (some (l0.take 2000, 0)) else (none)) else (some (l0, 0))
theorem spec_l6Open.zHB {p : Prop} (h : p := by repeat (first | (with_reducible first | exact HB.out | apply below_alloc | apply pw_below_drewN | apply below_drew1 | refine below_set ?_ GE103.out | refine below_set ?_ GE102.out) | exact HB.out)) : p := h
theorem spec_l6Open.zHBW {p : Prop} (h : p := by repeat (first | (with_reducible first | exact HBW.out | apply below_alloc | apply pw_below_drewN | apply below_drew1 | refine below_set ?_ GW103.out | refine below_set ?_ GW102.out) | exact HBW.out)) : p := h
theorem spec_l6Open.zK {p : Prop} (h : p := by repeat' first | (with_reducible first | exact BK103.out | exact BK102.out | apply blk_drewN | apply blk_drew | apply blk_alloc | apply blk_putE) | exact (rfl : List.set _ _ _ = _)) : p := h
theorem spec_l6Open.z0 {p : Prop} (h : p := by rw [hg]; exact (below_size (zHBW))) : p := h
set_option maxHeartbeats 8000000 in
set_option maxRecDepth 100000 in
theorem spec_l6Open.calls (A0 : Option Addr) (c0 : Nat) (l0 : List Int) (r1 : List Int) (r2 : Int) (w0 w : World) (hB : Below w0.heap.size w0 w) (hr0 : Kd.C (Kd.int .u8) w0 A0 l0.length l0) (hc0 : l0.length ≤ c0) (h : spec_l6Open.f l0 = some (r1, r2)) :
    Calls Try.prog 37 #[.slice A0 l0.length c0] w fun e w' => ∃ g_ : Nat, e = .returned (.pointer (some ⟨g_, 0, none⟩)) ∧ IsS66 w0 w' g_ r1 r2 ∧ Below w0.heap.size w0 w' ∧ Below w.heap.size w w' := by
 have hu66 := Try.underlying66
 have HR0 := Ax hr0
 have HC0 := Ax hc0
 clear hr0 hc0
 have HBW := Ax (Below.refl w.heap.size w)
 have HW0 := Ax hB.size
 have HB := Ax hB
 clear hB
 have H : (if (l0.length : Int) > 2000 then (if 2000 ≤ (l0.length : Int) then (some (l0.take 2000, 0)) else (none)) else (some (l0, 0))) = some (r1, r2) := h
 clear h
 by_cases c2 : (l0.length : Int) > 2000
 rotate_left
 · rw [if_neg c2] at H
   have c2b0 : decide (2000 < (l0.length : Int)) = false := decide_eq_false c2
   have c2b1 : decide (2000 < l0.length) = false := decide_eq_false (by omega)
   clear c2
   simp only [Option.some.injEq, Prod.mk.injEq] at H
   obtain ⟨rfl, rfl⟩ := H
   go_enter Try.func37, Try.ntmps37
   go_wp2_with (first | ((with_reducible refine gate_dst (N := 10) rfl ?_); refine box_event ?hg (N := 10) ?hd (cs := #[.slice A0 l0.length c0, .int .i64 0]) (t := 66) ?hr ?_; (case hd => rfl); (case hg => rfl); (case hr => first | (go_simp; done) | (go_simp; rfl)); intro gb103 hg w6 hbox hb; replace HB := Ax (below_step (zHB) hb); have BK103 := Ax (hbox); have GW103 := Ax ((z0 : w.heap.size ≤ gb103)); have GE103 := Ax ((Nat.le_trans HW0.out (z0 : w.heap.size ≤ gb103) : w0.heap.size ≤ gb103)); replace HBW := Ax (below_step HBW.out hb); clear hb hbox hg))
   go_ret
   exact ⟨_, rfl, (show IsS66 w0 _ gb103 l0 0 from ⟨_, _, zK, GE103.out, HR0.out⟩), zHB, zHBW⟩
 rw [if_pos c2] at H
 have c2b0 : decide (2000 < (l0.length : Int)) = true := decide_eq_true c2
 have c2b1 : decide (2000 < l0.length) = true := decide_eq_true (by omega)
 clear c2
 by_cases c3 : 2000 ≤ (l0.length : Int)
 rotate_left
 · rw [if_neg c3] at H
   exact absurd H (by simp)
 rw [if_pos c3] at H
 have c3b0 := eq_true c3
 have c3b1 := decide_eq_true c3
 clear c3
 simp only [Option.some.injEq, Prod.mk.injEq] at H
 obtain ⟨rfl, rfl⟩ := H
 obtain ⟨i04, hi04, _, hsz4, _⟩ := info_parts info5
 obtain ⟨hcut4, hA4, hC4⟩ := print_take_of (P := Try.prog) (Value.int .u8) 0 22 5 .i64 Try.underlying22 hi04 hsz4 A0 c0 l0 2000 (by omega) (of_decide_eq_true (by first | (with_reducible assumption) | assumption)) HC0.out
 have HR101 := Ax (Kd.C_of_reads (h1 := fun _ => rfl) (hA4 _ (Kd.reads_of_C HR0.out)))
 have HC101 := Ax hC4
 clear hA4 hC4 hi04 hsz4
 go_enter Try.func37, Try.ntmps37
 go_wp2_with (first | ((with_reducible refine gate_dst (N := 10) rfl ?_); refine box_event ?hg (N := 10) ?hd (cs := #[.slice A0 (l0.take 2000).length c0, .int .i64 0]) (t := 66) ?hr ?_; (case hd => rfl); (case hg => rfl); (case hr => first | (go_simp; done) | (go_simp; rfl)); intro gb102 hg w5 hbox hb; replace HB := Ax (below_step (zHB) hb); have BK102 := Ax (hbox); have GW102 := Ax ((z0 : w.heap.size ≤ gb102)); have GE102 := Ax ((Nat.le_trans HW0.out (z0 : w.heap.size ≤ gb102) : w0.heap.size ≤ gb102)); replace HBW := Ax (below_step HBW.out hb); clear hb hbox hg))
 go_ret
 exact ⟨_, rfl, (show IsS66 w0 _ gb102 (l0.take 2000) 0 from ⟨_, _, zK, GE102.out, HR101.out⟩), zHB, zHBW⟩
end Go.Proofs.Ytljgbeccmcidkaa.P
namespace Go.Proofs.Ytljgbeccmcidkaa.P
open Go.RowKit Go.Proofs.YtljgbeccmcidkaaW.PrintWords Go.Proofs.YtljgbeccmcidkaaW.PrintLast Go.Proofs.YtljgbeccmcidkaaW.PrintMore
attribute [local go_sem] max2_int min2_int max_two min_two max_three min_three max_four min_four   -- for this text's walks alone
set_option linter.unusedVariables false
set_option linter.unusedSimpArgs false

attribute [local go_sem ↓] isSome_setCell
/-! ### spec_l6Rd_pick: function 39 -/
def spec_l6Rd_pick.j0 : Nat → Int → Bool → List Int → Int → Option (Int × Int)
  | 0, _, _, _, _ => none
  | k + 1, x1, x24, x1000, x1001 => if x24 = true then (some (0, x1001)) else (if (wrap64 (x1001 - 1)) < (x1000.length : Int) then (if 0 ≤ (wrap64 (x1001 - 1)) then (if x1 = 0 then (none) else (some (Int.tmod (wrap64 (rd x1000 (wrap64 (x1001 - 1)))) x1, x1001))) else (none)) else (if (x1000.length : Int) = 0 then (none) else (if 0 ≤ (Int.tmod (wrap64 (x1001 - 1)) (x1000.length : Int)) then (if (Int.tmod (wrap64 (x1001 - 1)) (x1000.length : Int)) < (x1000.length : Int) then (if 0 ≤ (Int.tmod (wrap64 ((wrap64 ((wrap64 (x1001 - 1)) * 7)) + 3)) (x1000.length : Int)) then (if (Int.tmod (wrap64 ((wrap64 ((wrap64 (x1001 - 1)) * 7)) + 3)) (x1000.length : Int)) < (x1000.length : Int) then (if x1 = 0 then (none) else (some (Int.tmod (Go.bits .xor .i64 (wrap64 ((wrap64 ((wrap64 ((wrap64 ((wrap64 (rd x1000 (Int.tmod (wrap64 (x1001 - 1)) (x1000.length : Int)))) * 131)) + (wrap64 ((wrap64 (rd x1000 (Int.tmod (wrap64 ((wrap64 ((wrap64 (x1001 - 1)) * 7)) + 3)) (x1000.length : Int)))) * 1117)))) + (wrap64 ((wrap64 (x1001 - 1)) * 29)))) + (wrap64 ((wrap64 (Int.tdiv (wrap64 (x1001 - 1)) (x1000.length : Int))) * 53)))) (wrap64 (Int.tdiv (wrap64 ((wrap64 ((wrap64 ((wrap64 ((wrap64 (rd x1000 (Int.tmod (wrap64 (x1001 - 1)) (x1000.length : Int)))) * 131)) + (wrap64 ((wrap64 (rd x1000 (Int.tmod (wrap64 ((wrap64 ((wrap64 (x1001 - 1)) * 7)) + 3)) (x1000.length : Int)))) * 1117)))) + (wrap64 ((wrap64 (x1001 - 1)) * 29)))) + (wrap64 ((wrap64 (Int.tdiv (wrap64 (x1001 - 1)) (x1000.length : Int))) * 53)))) 64))) x1, x1001))) else (none)) else (none)) else (none)) else (none))))
def spec_l6Rd_pick.f (k : Nat) (s0_0 : List Int) (s0_1 : Int) (a1 : Int) : Option (Int × Int) := if a1 < 1 then (spec_l6Rd_pick.j0 k a1 true s0_0 (wrap64 (s0_1 + 1))) else (spec_l6Rd_pick.j0 k a1 ((s0_0.length : Int) == 0) s0_0 (wrap64 (s0_1 + 1)))
theorem spec_l6Rd_pick.mono_l : ∀ k, (∀ y0 y1 y2 y3, LeO (spec_l6Rd_pick.j0 k y0 y1 y2 y3) (spec_l6Rd_pick.j0 (k + 1) y0 y1 y2 y3))
  | 0 => fun _ _ _ _ r h => by simp [spec_l6Rd_pick.j0] at h
  | k + 1 => by
    have ih0 := spec_l6Rd_pick.mono_l k
    · intro y0 y1 y2 y3
      unfold spec_l6Rd_pick.j0
      with_reducible repeat' first | exact ih0 _ _ _ _ | exact LeO.refl _ | exact LeO.none _ | refine LeO.ite ?_ ?_ | refine LeO.bind ?_ (fun _ => ?_)
theorem spec_l6Rd_pick.mono : ∀ a0 a1 a2 k, LeO (spec_l6Rd_pick.f k a0 a1 a2) (spec_l6Rd_pick.f (k + 1) a0 a1 a2) := by
  intro a0 a1 a2 k
  have ih0 := spec_l6Rd_pick.mono_l k
  unfold spec_l6Rd_pick.f
  with_reducible repeat' first | exact ih0 _ _ _ _ | exact LeO.refl _ | exact LeO.none _ | refine LeO.ite ?_ ?_ | refine LeO.bind ?_ (fun _ => ?_)
theorem spec_l6Rd_pick.zHI0 {p : Prop} (h : p := by repeat (first | (with_reducible first | exact HI0.out | apply IsS66.alloc | apply IsS66.drewN | apply IsS66.drew | apply IsS66.set_1) | exact HI0.out)) : p := h
theorem spec_l6Rd_pick.zHK {p : Prop} (h : p := by repeat (first | (with_reducible first | exact HK.out | apply KeepBut.set_ | apply keep_drewN | apply keep_drew | apply keep_alloc) | exact HK.out)) : p := h
theorem spec_l6Rd_pick.zHB {p : Prop} (h : p := by repeat (first | (with_reducible first | exact HB.out | apply below_alloc | apply pw_below_drewN | apply below_drew1 | refine below_set ?_ (IsS66.ge HI0.out)) | exact HB.out)) : p := h
theorem spec_l6Rd_pick.z0 {p : Prop} (h : p := by first | (with_reducible assumption) | assumption) : p := h
set_option maxHeartbeats 8000000 in
set_option maxRecDepth 100000 in
theorem spec_l6Rd_pick.calls (k : Nat) (g : Nat) (s0_0 : List Int) (s0_1 : Int) (a1 : Int) (r1 : Int) (r2 : Int) (w0 w : World) (hI : IsS66 w0 w g s0_0 s0_1) (hB : Below w0.heap.size w0 w) (h : spec_l6Rd_pick.f k s0_0 s0_1 a1 = some (r1, r2)) :
    Calls Try.prog 39 #[.pointer (some ⟨g, 0, none⟩), .int .i64 a1] w fun e w' => e = .returned (.int .i64 r1) ∧ IsS66 w0 w' g s0_0 r2 ∧ Below w0.heap.size w0 w' ∧ KeepBut w w' g none := by
 have HI0 := Ax hI
 have HK := Ax (KeepBut.refl w g none)
 have HL := Ax hB.size
 clear hI
 have HW0 := Ax hB.size
 have HB := Ax hB
 clear hB
 have H : (if a1 < 1 then (spec_l6Rd_pick.j0 k a1 true s0_0 (wrap64 (s0_1 + 1))) else (spec_l6Rd_pick.j0 k a1 ((s0_0.length : Int) == 0) s0_0 (wrap64 (s0_1 + 1)))) = some (r1, r2) := h
 clear h
 have HC3 := Ax H
 clear H
 obtain ⟨ASz4_0, cSz4_0, HGz4, hgz4, HSz4_0⟩ := HI0.out
 have hcz4_0 := cellS66_0 HGz4
 have hcz4_1 := cellS66_1 HGz4
 have hfz4_1 := blk_frozen HGz4 1
 clear HGz4 hgz4
 go_enter Try.func39, Try.ntmps39
 go_upto_region 2 with (fail)
 repeat (go_quiet (fail); go_upto_region 2 with (fail))
 go_cut [24] (fun v24 wc => ∃ (kq : Nat) (x24_2 : Bool), v24 = .bool x24_2 ∧ Aside0 (spec_l6Rd_pick.j0 kq a1 x24_2 s0_0 (wrap64 (s0_1 + 1)) = some (r1, r2)) ∧ Aside0 (kq ≤ k) ∧ Aside0 (IsS66 w0 wc g s0_0 (wrap64 (s0_1 + 1))) ∧ Aside0 (KeepBut w wc g none) ∧ Aside0 (Below w0.heap.size w0 wc))
 case first =>
  have H := HC3.out
  clear HC3
  by_cases c5 : a1 < 1
  · rw [if_pos c5] at H
    have c5b0 := decide_eq_true c5
    clear c5
    (first | rw [c5b0] | (simp only [i64_w, i32_w]; rw [c5b0]) | skip)
    have H' := Ax H
    clear H
    go_wp2
    repeat (go_quiet (fail); try go_wp2)
    go_meet
    exact ⟨_, (true), (by first | rfl | (simp; done) | (simp [*]; done)), H', ⟨by first | omega | exact Nat.le_refl _⟩, ⟨zHI0⟩, ⟨zHK⟩, ⟨zHB⟩⟩
  rw [if_neg c5] at H
  have c5b0 := decide_eq_false c5
  clear c5
  (first | rw [c5b0] | (simp only [i64_w, i32_w]; rw [c5b0]) | skip)
  have H' := Ax H
  clear H
  obtain ⟨ASz6_0, cSz6_0, HGz6, hgz6, HSz6_0⟩ := HI0.out
  have hcz6_0 := cellS66_0 HGz6
  have hcz6_1 := cellS66_1 HGz6
  have hfz6_1 := blk_frozen HGz6 1
  clear HGz6 hgz6
  go_wp2
  repeat (go_quiet (fail); try go_wp2)
  go_meet
  exact ⟨_, (((s0_0.length : Int) == 0)), (by first | rfl | (simp; done) | (simp [*]; done)), H', ⟨by first | omega | exact Nat.le_refl _⟩, ⟨zHI0⟩, ⟨zHK⟩, ⟨zHB⟩⟩
 clear HC3
 (try clear hcz4_0); (try clear hcz4_1); (try clear hfz4_1)
 obtain ⟨kq, x24_2, rfl, HA, HJ2, HI0, HK, HB⟩ := hcut
 cases kq with
 | zero => exact absurd HA.out (by simp [spec_l6Rd_pick.j0])
 | succ kj2 =>
  have H := HA.out
  clear HA
  simp only [spec_l6Rd_pick.j0] at H
  obtain rfl | rfl := tf x24_2
  · rw [if_pos rfl] at H
    simp only [Option.some.injEq, Prod.mk.injEq] at H
    obtain ⟨rfl, rfl⟩ := H
    go_wp2
    repeat (go_quiet (fail); try go_wp2)
    go_ret
    exact ⟨by first | rfl | (simp [errW_none, errW_some] <;> rfl) | (simp [*, errW_none, errW_some] <;> rfl), zHI0, zHB, zHK⟩
  rw [if_neg Bool.false_ne_true] at H
  by_cases c8 : (wrap64 ((wrap64 (s0_1 + 1)) - 1)) < (s0_0.length : Int)
  · rw [if_pos c8] at H
    have c8b0 := decide_eq_true c8
    clear c8
    obtain ⟨ji9, hji9⟩ : ∃ j_ : Int, (wrap64 ((wrap64 (s0_1 + 1)) - 1)) = j_ := ⟨_, rfl⟩
    replace H : (if 0 ≤ (ji9) then (if a1 = 0 then (none) else (some (Int.tmod (wrap64 (rd s0_0 (ji9))) a1, (wrap64 (s0_1 + 1))))) else (none)) = some (r1, r2) := by first | (rw [hji9] at H; exact H) | (simp only [hji9] at H ⊢; exact H)
    (try rw [hji9] at c8b0)
    have hji9w : (IntKind.i64.wrap ((wrap64 (s0_1 + 1)) - 1)) = ji9 := (i64_w _).trans hji9
    by_cases c10 : 0 ≤ (ji9)
    rotate_left
    · rw [if_neg c10] at H
      exact absurd H (by simp)
    rw [if_pos c10] at H
    have c10b0 := decide_eq_true c10
    clear c10
    by_cases c11 : a1 = 0
    · rw [if_pos c11] at H
      exact absurd H (by simp)
    rw [if_neg c11] at H
    have c11b0 : (a1 == 0) = false := beq_eq_false_iff_ne.mpr c11
    have c11b1 : (a1 != 0) = true := bne_iff_ne.mpr c11
    simp only [Option.some.injEq, Prod.mk.injEq] at H
    obtain ⟨rfl, rfl⟩ := H
    obtain ⟨ASz12_0, cSz12_0, HGz12, hgz12, HSz12_0⟩ := HI0.out
    have hcz12_0 := cellS66_0 HGz12
    have hcz12_1 := cellS66_1 HGz12
    have hfz12_1 := blk_frozen HGz12 1
    clear HGz12 hgz12
    have p111 : 0 ≤ ((ji9) : Int) := of_decide_eq_true (z0)
    have q111 : (ji9) < (s0_0.length : Int) := of_decide_eq_true (z0)
    obtain ⟨ad111, e111, hx111_0⟩ := Kd.at_int HSz12_0 (ji9) p111 q111
    cases e111
    replace hx111_0 := pw_cell_below HB.out hx111_0
    replace p111 := eq_true p111
    replace q111 := eq_true q111
    go_wp2
    repeat (go_quiet (fail); try go_wp2)
    go_ret
    exact ⟨by first | rfl | (simp [errW_none, errW_some] <;> rfl) | (simp only [← hji9]; first | rfl | (simp [errW_none, errW_some] <;> rfl)) | (simp [*, errW_none, errW_some] <;> rfl), zHI0, zHB, zHK⟩
  rw [if_neg c8] at H
  have c8b0 := decide_eq_false c8
  clear c8
  by_cases c13 : (s0_0.length : Int) = 0
  · rw [if_pos c13] at H
    exact absurd H (by simp)
  rw [if_neg c13] at H
  have c13b0 : ((s0_0.length : Int) == 0) = false := beq_eq_false_iff_ne.mpr c13
  have c13b1 : ((s0_0.length : Int) != 0) = true := bne_iff_ne.mpr c13
  have c13b2 : ¬ (s0_0 = []) := fun h_ => c13 (by rw [h_]; rfl)
  obtain ⟨ji14, hji14⟩ : ∃ j_ : Int, (Int.tmod (wrap64 ((wrap64 (s0_1 + 1)) - 1)) (s0_0.length : Int)) = j_ := ⟨_, rfl⟩
  replace H : (if 0 ≤ (ji14) then (if (ji14) < (s0_0.length : Int) then (if 0 ≤ (Int.tmod (wrap64 ((wrap64 ((wrap64 ((wrap64 (s0_1 + 1)) - 1)) * 7)) + 3)) (s0_0.length : Int)) then (if (Int.tmod (wrap64 ((wrap64 ((wrap64 ((wrap64 (s0_1 + 1)) - 1)) * 7)) + 3)) (s0_0.length : Int)) < (s0_0.length : Int) then (if a1 = 0 then (none) else (some (Int.tmod (Go.bits .xor .i64 (wrap64 ((wrap64 ((wrap64 ((wrap64 ((wrap64 (rd s0_0 (ji14))) * 131)) + (wrap64 ((wrap64 (rd s0_0 (Int.tmod (wrap64 ((wrap64 ((wrap64 ((wrap64 (s0_1 + 1)) - 1)) * 7)) + 3)) (s0_0.length : Int)))) * 1117)))) + (wrap64 ((wrap64 ((wrap64 (s0_1 + 1)) - 1)) * 29)))) + (wrap64 ((wrap64 (Int.tdiv (wrap64 ((wrap64 (s0_1 + 1)) - 1)) (s0_0.length : Int))) * 53)))) (wrap64 (Int.tdiv (wrap64 ((wrap64 ((wrap64 ((wrap64 ((wrap64 (rd s0_0 (ji14))) * 131)) + (wrap64 ((wrap64 (rd s0_0 (Int.tmod (wrap64 ((wrap64 ((wrap64 ((wrap64 (s0_1 + 1)) - 1)) * 7)) + 3)) (s0_0.length : Int)))) * 1117)))) + (wrap64 ((wrap64 ((wrap64 (s0_1 + 1)) - 1)) * 29)))) + (wrap64 ((wrap64 (Int.tdiv (wrap64 ((wrap64 (s0_1 + 1)) - 1)) (s0_0.length : Int))) * 53)))) 64))) a1, (wrap64 (s0_1 + 1))))) else (none)) else (none)) else (none)) else (none)) = some (r1, r2) := by first | (rw [hji14] at H; exact H) | (simp only [hji14] at H ⊢; exact H)
  by_cases c15 : 0 ≤ (ji14)
  rotate_left
  · rw [if_neg c15] at H
    exact absurd H (by simp)
  rw [if_pos c15] at H
  have c15b0 := decide_eq_true c15
  clear c15
  by_cases c16 : (ji14) < (s0_0.length : Int)
  rotate_left
  · rw [if_neg c16] at H
    exact absurd H (by simp)
  rw [if_pos c16] at H
  have c16b0 := decide_eq_true c16
  clear c16
  obtain ⟨ji17, hji17⟩ : ∃ j_ : Int, (Int.tmod (wrap64 ((wrap64 ((wrap64 ((wrap64 (s0_1 + 1)) - 1)) * 7)) + 3)) (s0_0.length : Int)) = j_ := ⟨_, rfl⟩
  replace H : (if 0 ≤ (ji17) then (if (ji17) < (s0_0.length : Int) then (if a1 = 0 then (none) else (some (Int.tmod (Go.bits .xor .i64 (wrap64 ((wrap64 ((wrap64 ((wrap64 ((wrap64 (rd s0_0 (ji14))) * 131)) + (wrap64 ((wrap64 (rd s0_0 (ji17))) * 1117)))) + (wrap64 ((wrap64 ((wrap64 (s0_1 + 1)) - 1)) * 29)))) + (wrap64 ((wrap64 (Int.tdiv (wrap64 ((wrap64 (s0_1 + 1)) - 1)) (s0_0.length : Int))) * 53)))) (wrap64 (Int.tdiv (wrap64 ((wrap64 ((wrap64 ((wrap64 ((wrap64 (rd s0_0 (ji14))) * 131)) + (wrap64 ((wrap64 (rd s0_0 (ji17))) * 1117)))) + (wrap64 ((wrap64 ((wrap64 (s0_1 + 1)) - 1)) * 29)))) + (wrap64 ((wrap64 (Int.tdiv (wrap64 ((wrap64 (s0_1 + 1)) - 1)) (s0_0.length : Int))) * 53)))) 64))) a1, (wrap64 (s0_1 + 1))))) else (none)) else (none)) = some (r1, r2) := by first | (rw [hji17] at H; exact H) | (simp only [hji17] at H ⊢; exact H)
  by_cases c18 : 0 ≤ (ji17)
  rotate_left
  · rw [if_neg c18] at H
    exact absurd H (by simp)
  rw [if_pos c18] at H
  have c18b0 := decide_eq_true c18
  clear c18
  by_cases c19 : (ji17) < (s0_0.length : Int)
  rotate_left
  · rw [if_neg c19] at H
    exact absurd H (by simp)
  rw [if_pos c19] at H
  have c19b0 := decide_eq_true c19
  clear c19
  by_cases c20 : a1 = 0
  · rw [if_pos c20] at H
    exact absurd H (by simp)
  rw [if_neg c20] at H
  have c20b0 : (a1 == 0) = false := beq_eq_false_iff_ne.mpr c20
  have c20b1 : (a1 != 0) = true := bne_iff_ne.mpr c20
  simp only [Option.some.injEq, Prod.mk.injEq] at H
  obtain ⟨rfl, rfl⟩ := H
  obtain ⟨ASz21_0, cSz21_0, HGz21, hgz21, HSz21_0⟩ := HI0.out
  have hcz21_0 := cellS66_0 HGz21
  have hcz21_1 := cellS66_1 HGz21
  have hfz21_1 := blk_frozen HGz21 1
  clear HGz21 hgz21
  have p112 : 0 ≤ ((ji14) : Int) := of_decide_eq_true (z0)
  have q112 : (ji14) < (s0_0.length : Int) := of_decide_eq_true (z0)
  obtain ⟨ad112, e112, hx112_0⟩ := Kd.at_int HSz21_0 (ji14) p112 q112
  cases e112
  replace hx112_0 := pw_cell_below HB.out hx112_0
  replace p112 := eq_true p112
  replace q112 := eq_true q112
  have p113 : 0 ≤ ((ji17) : Int) := of_decide_eq_true (z0)
  have q113 : (ji17) < (s0_0.length : Int) := of_decide_eq_true (z0)
  obtain ⟨ad113, e113, hx113_0⟩ := Kd.at_int HSz21_0 (ji17) p113 q113
  obtain rfl : ad112 = ad113 := (by injection e113)
  replace hx113_0 := pw_cell_below HB.out hx113_0
  replace p113 := eq_true p113
  replace q113 := eq_true q113
  go_wp2
  repeat (go_quiet (fail); try go_wp2)
  go_ret
  exact ⟨by first | rfl | (simp [errW_none, errW_some] <;> rfl) | (simp only [← hji14, ← hji17]; first | rfl | (simp [errW_none, errW_some] <;> rfl)) | (simp [*, errW_none, errW_some] <;> rfl), zHI0, zHB, zHK⟩
end Go.Proofs.Ytljgbeccmcidkaa.P
namespace Go.Proofs.Ytljgbeccmcidkaa.P
open Go.RowKit Go.Proofs.YtljgbeccmcidkaaW.PrintWords Go.Proofs.YtljgbeccmcidkaaW.PrintLast Go.Proofs.YtljgbeccmcidkaaW.PrintMore
attribute [local go_sem] max2_int min2_int max_two min_two max_three min_three max_four min_four   -- for this text's walks alone
set_option linter.unusedVariables false
set_option linter.unusedSimpArgs false

attribute [local go_sem ↓] isSome_setCell
/-! ### spec_l71Text: function 56 -/
def spec_l71Text.l0 : Nat → List (S61) → Int → List Int → Int → Option ((List (S61)) × Int)
  | 0, _, _, _, _ => none
  | k + 1, x5, x6, x1000, x1001 => if x6 > 0 then ((some (([97, 98, 122, 32, 48, 57] : List Int) : List Int)).bind fun y201 => ((spec_l6Rd_pick.f k x1000 x1001 6).bind fun bt204 => (if 0 ≤ bt204.1 then (if bt204.1 < (y201.length : Int) then ((spec_l6Rd_pick.f k x1000 bt204.2 5).bind fun bt208 => (if bt208.1 = 0 then ((spec_l6Rd_pick.f k x1000 bt208.2 3).bind fun bt210 => (if x5.length < 5864062014805 then (spec_l71Text.l0 k (x5 ++ [(⟨rd y201 bt204.1, wrap64 (1 + bt210.1), 0⟩ : S61)]) (wrap64 (x6 - 1)) x1000 bt210.2) else (none))) else (if bt208.1 = 1 then ((spec_l6Rd_pick.f k x1000 bt208.2 3).bind fun bt215 => (if x5.length < 5864062014805 then (spec_l71Text.l0 k (x5 ++ [(⟨rd y201 bt204.1, 0, wrap64 (1 + bt215.1)⟩ : S61)]) (wrap64 (x6 - 1)) x1000 bt215.2) else (none))) else (if bt208.1 = 2 then ((spec_l6Rd_pick.f k x1000 bt208.2 3).bind fun bt220 => (if x5.length < 5864062014805 then (spec_l71Text.l0 k (x5 ++ [(⟨rd y201 bt204.1, wrap64 (1 + bt220.1), wrap64 ((Int.tmod (wrap64 (1 + bt220.1)) 3) + 1)⟩ : S61)]) (wrap64 (x6 - 1)) x1000 bt220.2) else (none))) else (if x5.length < 5864062014805 then (spec_l71Text.l0 k (x5 ++ [(⟨rd y201 bt204.1, 0, 0⟩ : S61)]) (wrap64 (x6 - 1)) x1000 bt208.2) else (none)))))) else (none)) else (none)))) else (some (x5, x1001))
def spec_l71Text.f (k : Nat) (s0_0 : List Int) (s0_1 : Int) (a1 : Int) : Option ((List (S61)) × Int) := (spec_l6Rd_pick.f k s0_0 s0_1 (wrap64 (a1 + 1))).bind fun bt199 => (spec_l71Text.l0 k (([] : List (S61))) bt199.1 s0_0 bt199.2)
theorem spec_l71Text.mono_l : ∀ k, (∀ y0 y1 y2 y3, LeO (spec_l71Text.l0 k y0 y1 y2 y3) (spec_l71Text.l0 (k + 1) y0 y1 y2 y3))
  | 0 => fun _ _ _ _ r h => by simp [spec_l71Text.l0] at h
  | k + 1 => by
    have ih0 := spec_l71Text.mono_l k
    · intro y0 y1 y2 y3
      unfold spec_l71Text.l0
      with_reducible repeat' first | exact ih0 _ _ _ _ | exact spec_l6Rd_pick.mono _ _ _ _ | exact LeO.refl _ | exact LeO.none _ | refine LeO.ite ?_ ?_ | refine LeO.bind ?_ (fun _ => ?_)
theorem spec_l71Text.mono : ∀ a0 a1 a2 k, LeO (spec_l71Text.f k a0 a1 a2) (spec_l71Text.f (k + 1) a0 a1 a2) := by
  intro a0 a1 a2 k
  have ih0 := spec_l71Text.mono_l k
  unfold spec_l71Text.f
  with_reducible repeat' first | exact ih0 _ _ _ _ | exact spec_l6Rd_pick.mono _ _ _ _ | exact LeO.refl _ | exact LeO.none _ | refine LeO.ite ?_ ?_ | refine LeO.bind ?_ (fun _ => ?_)
theorem spec_l71Text.zHK {p : Prop} (h : p := by repeat (first | (with_reducible first | exact HK.out | apply KeepBut.set_ | apply keep_drewN | apply keep_drew | apply keep_alloc | refine keep_far ?_ GW207.out _) | exact HK.out)) : p := h
theorem spec_l71Text.zHB {p : Prop} (h : p := by repeat (first | (with_reducible first | exact HB.out | apply below_alloc | apply pw_below_drewN | apply below_drew1 | refine below_set ?_ (IsS66.ge HI0.out) | refine below_set ?_ GE207.out) | exact HB.out)) : p := h
theorem spec_l71Text.zHI0 {p : Prop} (h : p := by repeat (first | (with_reducible first | exact HI0.out | apply IsS66.alloc | apply IsS66.drewN | apply IsS66.drew | apply IsS66.set_1 | apply IsS66.far (hne := NB0_207.out)) | exact HI0.out)) : p := h
theorem spec_l71Text.zK {p : Prop} (h : p := by repeat' first | (with_reducible first | exact BK207.out | apply blk_drewN | apply blk_drew | apply blk_alloc | apply blk_putE) | exact (rfl : List.set _ _ _ = _)) : p := h
theorem spec_l71Text.z0 {p : Prop} (h : p := by (with_reducible repeat (first | apply Kd.R_alloc | apply Kd.R_drewN | apply Kd.R_drew)); exact HO_5.out) : p := h
theorem spec_l71Text.z1 {p : Prop} (h : p := by (try simp only [List.map_toArray, List.map_cons, List.map_nil]); first | done | rfl | (simp only [List.length_drop, List.length_take]; rfl)) : p := h
theorem spec_l71Text.z2 {p : Prop} (h : p := by (with_reducible repeat (first | apply Kd.R_alloc | apply Kd.R_drewN | apply Kd.R_drew)); exact (Kd.R_mono (Kd.R_far (p := ⟨gb207, 2, none⟩) (Kd.R_far (p := ⟨gb207, 1, none⟩) (Kd.R_far (p := ⟨gb207, 0, none⟩) (Kd.R_mono HO_5.out (fun k_ hk => (⟨hk, hk.2⟩ : _ ∧ k_ ≠ gb207))) (fun _ hk => hk.2) (.int .u8 (rd y201 t204))) (fun _ hk => hk.2) (.int .i64 0)) (fun _ hk => hk.2) (.int .i64 0)) (fun _ h_ => h_.1))) : p := h
theorem spec_l71Text.z3 {p : Prop} (h : p := by (with_reducible repeat (first | apply Kd.R_alloc | apply Kd.R_drewN | apply Kd.R_drew)); exact (Kd.R_mono (Kd.R_far (p := ⟨gb207, 2, none⟩) (Kd.R_far (p := ⟨gb207, 1, none⟩) (Kd.R_far (p := ⟨gb207, 0, none⟩) (Kd.R_types HO203.out BK207.out (by decide)) (fun _ hk => hk.2) (.int .u8 (rd y201 t204))) (fun _ hk => hk.2) (.int .i64 0)) (fun _ hk => hk.2) (.int .i64 0)) (fun _ h_ => h_.1))) : p := h
theorem spec_l71Text.z4 {p : Prop} (h : p := by (with_reducible repeat (first | apply Kd.R_alloc | apply Kd.R_drewN | apply Kd.R_drew)); exact HO203.out) : p := h
theorem spec_l71Text.z5 {p : Prop} (h : p := by rw [hg]; exact (keep_size (w := w) (g := g) (row := none) (zHK))) : p := h
theorem spec_l71Text.z6 {p : Prop} (h : p := by first | (with_reducible assumption) | assumption) : p := h
theorem spec_l71Text.z7 {p : Prop} (h : p := by rw [hg]; exact Nat.ne_of_lt (IsS66.lt (show IsS66 w0 _ g s0_0 t205 from zHI0))) : p := h
theorem spec_l71Text.z8 {p : Prop} (h : p := by rw [hg]; exact Nat.ne_of_gt (IsS66.lt (show IsS66 w0 _ g s0_0 t205 from zHI0))) : p := h
theorem spec_l71Text.z9 {p : Prop} (h : p := by first | rfl | (simp; done) | (simp [*]; done)) : p := h
theorem spec_l71Text.z10 {p : Prop} (h : p := by (with_reducible repeat (first | apply Kd.R_alloc | apply Kd.R_drewN | apply Kd.R_drew)); exact HO198.out) : p := h
theorem spec_l71Text.z11 {p : Prop} (h : p := by first | (go_simp; done) | (go_simp; rfl)) : p := h
theorem spec_l71Text.zy {p : Prop} (h : p := by first | (rw [hy_]; with_reducible exact H) | (have H2_ := (Option.bind_some _ _).symm.trans H; rw [hy_]; with_reducible exact H2_) | (have H2_ := (Option.bind_some _ _).symm.trans H; with_reducible exact H2_) | with_reducible exact H | (rw [hy_]; exact H) | exact H) : p := h
set_option maxHeartbeats 8000000 in
set_option maxRecDepth 100000 in
theorem spec_l71Text.calls (k : Nat) (g : Nat) (s0_0 : List Int) (s0_1 : Int) (a1 : Int) (r1 : List (S61)) (r2 : Int) (w0 w : World) (hI : IsS66 w0 w g s0_0 s0_1) (hB : Below w0.heap.size w0 w) (h : spec_l71Text.f k s0_0 s0_1 a1 = some (r1, r2)) :
    Calls Try.prog 56 #[.pointer (some ⟨g, 0, none⟩), .int .i64 a1] w fun e w' => ∃ v0_ : Value, e = .returned (v0_) ∧ Kd.R k61 61 w' w.heap.size (fun _ => True) v0_ r1 ∧ IsS66 w0 w' g s0_0 r2 ∧ Below w0.heap.size w0 w' ∧ KeepBut w w' g none := by
 have hu61 := Try.underlying61
 have HI0 := Ax hI
 have HK := Ax (KeepBut.refl w g none)
 have HL := Ax hB.size
 clear hI
 have HW0 := Ax hB.size
 have HB := Ax hB
 clear hB
 have H : ((spec_l6Rd_pick.f k s0_0 s0_1 (wrap64 (a1 + 1))).bind fun bt199 => (spec_l71Text.l0 k (([] : List (S61))) bt199.1 s0_0 bt199.2)) = some (r1, r2) := h
 clear h
 obtain ⟨y196, hy_⟩ : ∃ y_ : List (S61), y_ = (([] : List (S61))) := ⟨_, rfl⟩
 replace H : ((spec_l6Rd_pick.f k s0_0 s0_1 (wrap64 (a1 + 1))).bind fun bt199 => (spec_l71Text.l0 k y196 bt199.1 s0_0 bt199.2)) = some (r1, r2) := zy
 have Ny196 := Ax hy_
 clear hy_
 obtain ⟨⟨t199, t200⟩, A3, H⟩ := bnd H
 dsimp only at H
 have H' := Ax H
 clear H
 go_enter Try.func56, Try.ntmps56
 go_wp2_with (first | ((with_reducible refine gate_dst (N := 8) rfl ?_); refine Kd.R_lit k61 _ 61 ?hg (N := 8) ?hd (xs := ([] : List (S61))) (inner := []) (ok := fun _ => True) (okp := fun _ => True) ?hr ?hp (fun _ hk => hk) trivial (Below.refl _ _) (Nat.le_refl _) (by simp) ?_; (case hd => rfl); (case hg => rfl); (case hr => first | (go_simp; done) | (go_simp; rfl)); (case hp => exact (Reps.none _ _)); intro v197 w4 ho5 hb hg_ hnew_; clear hg_ hnew_; (first | rw [← Ny196.out] at ho5 | (simp only [Int.reduceToNat] at ho5; rw [← Ny196.out] at ho5)); have HO198 := Ax (Kd.R_lower ho5 (keep_size (w := w) (g := g) (row := none) (zHK))); replace HK := Ax (KeepBut.trans (zHK) (KeepBut.of_below hb g none) (.inl rfl)); replace HB := Ax (below_step (zHB) hb); replace HI0 := Ax (IsS66.below (zHI0) hb); clear hb ho5) | ((with_reducible refine gate_callee (f := 39) rfl ?_); refine goesL_ (some 12) rfl rfl Try.func39 (by kernel_rfl) rfl #[.pointer (some ⟨g, 0, none⟩), .int .i64 (wrap64 (a1 + 1))] rfl (z1) ?_; (with_reducible refine (spec_l6Rd_pick.calls k g s0_0 s0_1 (wrap64 (a1 + 1)) t199 t200 w0 _ ?side1 ?side2 A3.out).mono ?_); (case side1 => exact zHI0); (case side2 => exact zHB); rintro e w6 ⟨rfl, hi, hb, hk⟩; refine ⟨_, rfl, ?_⟩; replace HO198 := Ax (Kd.R_mono (Kd.R_keep (IsS66.apart (show IsS66 w0 _ g s0_0 s0_1 from zHI0) (z10) (by decide)) hk (fun _ h => h.2)) (fun _ h => h.1)); replace HK := Ax (KeepBut.trans (zHK) hk (.inl rfl)); replace HB := Ax (hb); replace HI0 := Ax (hi); (try clear hb); (try clear hb2); (try clear hk); (try clear hi)))
 go_loopg [5, 6] k (fun kq v5 v6 w' => ∃ (x5_1 : List (S61)) (x6_1 : Int) (x1001_1 : Int), v6 = .int .i64 x6_1 ∧ Aside0 (spec_l71Text.l0 kq x5_1 x6_1 s0_0 x1001_1 = some (r1, r2)) ∧ Aside0 (kq ≤ k) ∧ Aside0 (Kd.R k61 61 w' w.heap.size (fun _ => True) v5 x5_1) ∧ Aside0 (IsS66 w0 w' g s0_0 x1001_1) ∧ Aside0 (KeepBut w w' g none) ∧ Aside0 (Below w0.heap.size w0 w'))
 case atStart => exact ⟨(y196), (t199), (t200), (z9), H', ⟨Nat.le_refl _⟩, ⟨z10⟩, ⟨zHI0⟩, ⟨zHK⟩, ⟨zHB⟩⟩
 clear H'
 obtain ⟨x5_1, x6_1, x1001_1, rfl, HA, HK1, HO_5, HI0, HK, HB⟩ := hrel
 cases gk with
 | zero => exact absurd HA.out (by simp [spec_l71Text.l0])
 | succ k1 =>
  have H := HA.out
  clear HA
  simp only [spec_l71Text.l0] at H
  by_cases c7 : x6_1 > 0
  rotate_left
  · rw [if_neg c7] at H
    have c7b0 : decide (0 < x6_1) = false := decide_eq_false c7
    clear c7
    simp only [Option.some.injEq, Prod.mk.injEq] at H
    obtain ⟨rfl, rfl⟩ := H
    go_wp2
    go_ret
    exact ⟨_, by first | rfl | (simp [errW_none, errW_some] <;> rfl) | (simp [*, errW_none, errW_some] <;> rfl), z0, zHI0, zHB, zHK⟩
  rw [if_pos c7] at H
  have c7b0 := decide_eq_true c7
  clear c7
  obtain ⟨y201, hy_⟩ : ∃ y_ : List Int, y_ = (([97, 98, 122, 32, 48, 57] : List Int)) := ⟨_, rfl⟩
  replace H : ((spec_l6Rd_pick.f k1 s0_0 x1001_1 6).bind fun bt204 => (if 0 ≤ bt204.1 then (if bt204.1 < (y201.length : Int) then ((spec_l6Rd_pick.f k1 s0_0 bt204.2 5).bind fun bt208 => (if bt208.1 = 0 then ((spec_l6Rd_pick.f k1 s0_0 bt208.2 3).bind fun bt210 => (if x5_1.length < 5864062014805 then (spec_l71Text.l0 k1 (x5_1 ++ [(⟨rd y201 bt204.1, wrap64 (1 + bt210.1), 0⟩ : S61)]) (wrap64 (x6_1 - 1)) s0_0 bt210.2) else (none))) else (if bt208.1 = 1 then ((spec_l6Rd_pick.f k1 s0_0 bt208.2 3).bind fun bt215 => (if x5_1.length < 5864062014805 then (spec_l71Text.l0 k1 (x5_1 ++ [(⟨rd y201 bt204.1, 0, wrap64 (1 + bt215.1)⟩ : S61)]) (wrap64 (x6_1 - 1)) s0_0 bt215.2) else (none))) else (if bt208.1 = 2 then ((spec_l6Rd_pick.f k1 s0_0 bt208.2 3).bind fun bt220 => (if x5_1.length < 5864062014805 then (spec_l71Text.l0 k1 (x5_1 ++ [(⟨rd y201 bt204.1, wrap64 (1 + bt220.1), wrap64 ((Int.tmod (wrap64 (1 + bt220.1)) 3) + 1)⟩ : S61)]) (wrap64 (x6_1 - 1)) s0_0 bt220.2) else (none))) else (if x5_1.length < 5864062014805 then (spec_l71Text.l0 k1 (x5_1 ++ [(⟨rd y201 bt204.1, 0, 0⟩ : S61)]) (wrap64 (x6_1 - 1)) s0_0 bt208.2) else (none)))))) else (none)) else (none))) = some (r1, r2) := zy
  have Ny201 := Ax hy_
  clear hy_
  obtain ⟨⟨t204, t205⟩, A8, H⟩ := bnd H
  dsimp only at H
  by_cases c9 : 0 ≤ t204
  rotate_left
  · rw [if_neg c9] at H
    exact absurd H (by simp)
  rw [if_pos c9] at H
  have c9b0 := decide_eq_true c9
  clear c9
  by_cases c10 : t204 < (y201.length : Int)
  rotate_left
  · rw [if_neg c10] at H
    exact absurd H (by simp)
  rw [if_pos c10] at H
  have c10b0 := decide_eq_true c10
  clear c10
  obtain ⟨⟨t208, t209⟩, A11, H⟩ := bnd H
  dsimp only at H
  by_cases c12 : t208 = 0
  · rw [if_pos c12] at H
    have c12b0 : (t208 == 0) = true := beq_iff_eq.mpr c12
    have c12b1 : (t208 != 0) = false := bne_eq_false_iff_eq.mpr c12
    clear c12
    obtain ⟨⟨t210, t211⟩, A13, H⟩ := bnd H
    dsimp only at H
    by_cases c14 : x5_1.length < 5864062014805
    rotate_left
    · rw [if_neg c14] at H
      exact absurd H (by simp)
    rw [if_pos c14] at H
    have LMc14 := Ax c14
    clear c14
    obtain ⟨y212, hy_⟩ : ∃ y_ : List (S61), y_ = (x5_1 ++ [(⟨rd y201 t204, wrap64 (1 + t210), 0⟩ : S61)]) := ⟨_, rfl⟩
    replace H : (spec_l71Text.l0 k1 y212 (wrap64 (x6_1 - 1)) s0_0 t211) = some (r1, r2) := zy
    have Ny212 := Ax hy_
    clear hy_
    have H' := Ax H
    clear H
    go_wp2_with (first | ((with_reducible refine gate_dst (N := 17) rfl ?_); refine Kd.R_lit (Kd.int .u8) _ 5 ?hg (N := 17) ?hd (xs := ([97, 98, 122, 32, 48, 57] : List Int)) (inner := [.int .u8 97, .int .u8 98, .int .u8 122, .int .u8 32, .int .u8 48, .int .u8 57]) (ok := fun _ => True) (okp := fun _ => True) ?hr ?hp (fun _ hk => hk) trivial (Below.refl _ _) (Nat.le_refl _) (by simp) ?_; (case hd => rfl); (case hg => rfl); (case hr => first | (go_simp; done) | (go_simp; rfl)); (case hp => exact (Reps.one (show Kd.M (Kd.int .u8) _ _ _ 97 [.int .u8 97] from rfl) (Reps.one (show Kd.M (Kd.int .u8) _ _ _ 98 [.int .u8 98] from rfl) (Reps.one (show Kd.M (Kd.int .u8) _ _ _ 122 [.int .u8 122] from rfl) (Reps.one (show Kd.M (Kd.int .u8) _ _ _ 32 [.int .u8 32] from rfl) (Reps.one (show Kd.M (Kd.int .u8) _ _ _ 48 [.int .u8 48] from rfl) (Reps.one (show Kd.M (Kd.int .u8) _ _ _ 57 [.int .u8 57] from rfl) (Reps.none _ _)))))))); intro v202 w15 ho16 hb hg_ hnew_; clear hg_ hnew_; (first | rw [← Ny201.out] at ho16 | (simp only [Int.reduceToNat] at ho16; rw [← Ny201.out] at ho16)); replace HO_5 := Ax (Kd.R_below (z0) hb); have HO203 := Ax (Kd.R_lower ho16 (keep_size (w := w) (g := g) (row := none) (zHK))); replace HK := Ax (KeepBut.trans (zHK) (KeepBut.of_below hb g none) (.inl rfl)); replace HB := Ax (below_step (zHB) hb); replace HI0 := Ax (IsS66.below (zHI0) hb); clear hb ho16) | ((with_reducible refine gate_callee (f := 39) rfl ?_); refine goesL_ (some 19) rfl rfl Try.func39 (by kernel_rfl) rfl #[.pointer (some ⟨g, 0, none⟩), .int .i64 6] rfl (z1) ?_; (with_reducible refine (spec_l6Rd_pick.calls k1 g s0_0 x1001_1 6 t204 t205 w0 _ ?side1 ?side2 A8.out).mono ?_); (case side1 => exact zHI0); (case side2 => exact zHB); rintro e w17 ⟨rfl, hi, hb, hk⟩; refine ⟨_, rfl, ?_⟩; replace HO_5 := Ax (Kd.R_mono (Kd.R_keep (IsS66.apart (show IsS66 w0 _ g s0_0 x1001_1 from zHI0) (z0) (by decide)) hk (fun _ h => h.2)) (fun _ h => h.1)); replace HO203 := Ax (Kd.R_mono (Kd.R_keep (IsS66.apart (show IsS66 w0 _ g s0_0 x1001_1 from zHI0) (z4) (by decide)) hk (fun _ h => h.2)) (fun _ h => h.1)); replace HK := Ax (KeepBut.trans (zHK) hk (.inl rfl)); replace HB := Ax (hb); replace HI0 := Ax (hi); (try clear hb); (try clear hb2); (try clear hk); (try clear hi); obtain ⟨Ao18, co18, eo18⟩ := Kd.R_slice HO203.out; subst eo18; have p206 : 0 ≤ (t204 : Int) := of_decide_eq_true (z6); have q206 : t204 < (y201.length : Int) := of_decide_eq_true (z6); obtain ⟨ad206, e206, hx206_0⟩ := Kd.at_int (Kd.R_reads' HO203.out).2.2 t204 p206 q206; cases e206; replace p206 := eq_true p206; replace q206 := eq_true q206) | ((with_reducible refine gate_dst (N := 7) rfl ?_); refine box_event ?hg (N := 7) ?hd (cs := #[.int .u8 0, .int .i64 0, .int .i64 0]) (t := 61) ?hr ?_; (case hd => rfl); (case hg => rfl); (case hr => first | (go_simp; done) | (go_simp; rfl)); intro gb207 hg w19 hbox hb; replace HO_5 := Ax (Kd.R_below (Kd.R_elderB (z0) gb207 (Nat.le_of_eq hg.symm)) hb); replace HO203 := Ax (Kd.R_below (z4) hb); replace HB := Ax (below_step (zHB) hb); have BK207 := Ax (hbox); have GW207 := Ax ((z5 : w.heap.size ≤ gb207)); have GE207 := Ax ((Nat.le_trans HW0.out (z5 : w.heap.size ≤ gb207) : w0.heap.size ≤ gb207)); replace HK := Ax (KeepBut.trans (zHK) (KeepBut.of_below hb g none) (.inl rfl)); have NB0_207 := Ax ((z7 : g ≠ gb207)); have NB207_0 := Ax ((z8 : gb207 ≠ g)); replace HI0 := Ax (IsS66.below (zHI0) hb); clear hb hbox hg; have hnb20 := NB207_0.out; have hnc20 := NB0_207.out; obtain ⟨_, _, _, _, _, _⟩ := cells3 BK207.out) | ((with_reducible refine gate_callee (f := 39) rfl ?_); refine goesL_ (some 24) rfl rfl Try.func39 (by kernel_rfl) rfl #[.pointer (some ⟨g, 0, none⟩), .int .i64 5] rfl (z1) ?_; (with_reducible refine (spec_l6Rd_pick.calls k1 g s0_0 t205 5 t208 t209 w0 _ ?side1 ?side2 A11.out).mono ?_); (case side1 => exact zHI0); (case side2 => exact zHB); rintro e w22 ⟨rfl, hi, hb, hk⟩; refine ⟨_, rfl, ?_⟩; replace HO_5 := Ax (Kd.R_mono (Kd.R_keep (IsS66.apart (show IsS66 w0 _ g s0_0 t205 from zHI0) (z2) (by decide)) hk (fun _ h => h.2)) (fun _ h => h.1)); replace HO203 := Ax (Kd.R_mono (Kd.R_keep (IsS66.apart (show IsS66 w0 _ g s0_0 t205 from zHI0) (z3) (by decide)) hk (fun _ h => h.2)) (fun _ h => h.1)); replace BK207 := Ax (KeepBut.blk hk (g' := gb207) (o := .cells #[.int .u8 (rd y201 t204), .int .i64 0, .int .i64 0] 61 (0, 0)) (zK) NB207_0.out (by simp)); replace HK := Ax (KeepBut.trans (zHK) hk (.inl rfl)); replace HB := Ax (hb); replace HI0 := Ax (hi); (try clear hb); (try clear hb2); (try clear hk); (try clear hi)) | ((with_reducible refine gate_callee (f := 39) rfl ?_); refine goesL_ (some 28) rfl rfl Try.func39 (by kernel_rfl) rfl #[.pointer (some ⟨g, 0, none⟩), .int .i64 3] rfl (z1) ?_; (with_reducible refine (spec_l6Rd_pick.calls k1 g s0_0 t209 3 t210 t211 w0 _ ?side1 ?side2 A13.out).mono ?_); (case side1 => exact zHI0); (case side2 => exact zHB); rintro e w23 ⟨rfl, hi, hb, hk⟩; refine ⟨_, rfl, ?_⟩; replace HO_5 := Ax (Kd.R_mono (Kd.R_keep (IsS66.apart (show IsS66 w0 _ g s0_0 t209 from zHI0) (z0) (by decide)) hk (fun _ h => h.2)) (fun _ h => h.1)); replace HO203 := Ax (Kd.R_mono (Kd.R_keep (IsS66.apart (show IsS66 w0 _ g s0_0 t209 from zHI0) (z4) (by decide)) hk (fun _ h => h.2)) (fun _ h => h.1)); replace BK207 := Ax (KeepBut.blk hk (g' := gb207) (o := .cells #[.int .u8 (rd y201 t204), .int .i64 0, .int .i64 0] 61 (0, 0)) (zK) NB207_0.out (by simp)); replace HK := Ax (KeepBut.trans (zHK) hk (.inl rfl)); replace HB := Ax (hb); replace HI0 := Ax (hi); (try clear hb); (try clear hb2); (try clear hk); (try clear hi); obtain ⟨_, _, _, _, _, _⟩ := cells3 BK207.out) | ((with_reducible refine gate_builtin (b := .append) (xs := #[.tmp 48, .tmp 50]) rfl ?_); at_builtin; refine Kd.R_append k61 w.heap.size rfl (.tmp 48) (.tmp 50) 28 61 (.agg #[(.int .u8 0), (.int .i64 0), (.int .i64 0)]) 24 rfl Try.underlying28 info61 rfl (by decide) (by omega) u5 x5_1 (⟨rd y201 t204, wrap64 (1 + t210), 0⟩ : S61) [.int .u8 (rd y201 t204), .int .i64 (wrap64 (1 + t210)), .int .i64 0] (fun k_ => k_ ≠ gb207) (fun _ => False) rfl (z11) ?aP (fun _ hk => hk.elim) ?aF ?aO (Below.refl _ _) ?aS ?aL ?_; (case aP => exact k61_mkM _ _ _ (⟨rd y201 t204, wrap64 (1 + t210), 0⟩ : S61)); (case aF => exact (fun k_ hk => Kd.freshB (g := gb207) (o := .cells #[.int .u8 (rd y201 t204), .int .i64 (wrap64 (1 + t210)), .int .i64 0] 61 (0, 0)) (zK) k_ hk)); (case aO => exact (by (with_reducible repeat (first | apply Kd.R_alloc | apply Kd.R_drewN | apply Kd.R_drew)); exact Kd.R_mono (Kd.R_far (p := ⟨gb207, 1, none⟩) (Kd.R_mono HO_5.out (fun k_ hk => (⟨hk, hk.2⟩ : _ ∧ k_ ≠ gb207))) (fun _ hk => hk.2) (.int .i64 (wrap64 (1 + t210)))) (fun _ hk => hk.1.2))); (case aS => exact (keep_size (w := w) (g := g) (row := none) (zHK))); (case aL => have := LMc14.out; omega); intro v213 w25 ho hb hg hat; rw [← Ny212.out] at ho; replace HO203 := Ax (Kd.R_over' (by (with_reducible repeat (first | apply Kd.R_alloc | apply Kd.R_drewN | apply Kd.R_drew)); exact (Kd.R_mono (Kd.R_far (p := ⟨gb207, 1, none⟩) (Kd.R_types HO203.out BK207.out (by decide)) (fun _ hk => hk.2) (.int .i64 (wrap64 (1 + t210)))) (fun _ h_ => h_.1))) (Kd.R_typed (by (with_reducible repeat (first | apply Kd.R_alloc | apply Kd.R_drewN | apply Kd.R_drew)); exact (Kd.R_mono (Kd.R_far (p := ⟨gb207, 1, none⟩) (Kd.R_mono HO_5.out (fun k_ hk => (⟨hk, hk.2⟩ : _ ∧ k_ ≠ gb207))) (fun _ hk => hk.2) (.int .i64 (wrap64 (1 + t210)))) (fun _ h_ => h_.1)))) (by decide) hg); replace BK207 := Ax (blk_grown (g := gb207) (o := .cells #[.int .u8 (rd y201 t204), .int .i64 (wrap64 (1 + t210)), .int .i64 0] 61 (0, 0)) (zK) hg (Kd.R_away HO_5.out (fun _ hk => hk.2))); replace HB := Ax (below_weaken (zHB) HL.out hb); replace HI0 := Ax (IsS66.grown (zHI0) hg (IsS66.own_ne HI0.out HO_5.out (by decide))); replace HK := Ax (KeepBut.trans (zHK) (KeepBut.of_grown hg g) (Kd.R_base2 HO_5.out)); have HO214 := Ax (ho); clear HO_5; clear ho hb hg hat))
    go_roundg k1
    case measure => have := HK1.out; omega
    exact ⟨(y212), (wrap64 (x6_1 - 1)), (t211), (z9), H', ⟨by have := HK1.out; omega⟩, ⟨by (with_reducible repeat (first | apply Kd.R_alloc | apply Kd.R_drewN | apply Kd.R_drew)); exact Kd.R_mono HO214.out (fun _ hk => trivial)⟩, ⟨zHI0⟩, ⟨zHK⟩, ⟨zHB⟩⟩
  rw [if_neg c12] at H
  have c12b0 : (t208 == 0) = false := beq_eq_false_iff_ne.mpr c12
  have c12b1 : (t208 != 0) = true := bne_iff_ne.mpr c12
  by_cases c26 : t208 = 1
  · rw [if_pos c26] at H
    have c26b0 : (t208 == 1) = true := beq_iff_eq.mpr c26
    have c26b1 : (t208 != 1) = false := bne_eq_false_iff_eq.mpr c26
    clear c26
    obtain ⟨⟨t215, t216⟩, A27, H⟩ := bnd H
    dsimp only at H
    by_cases c28 : x5_1.length < 5864062014805
    rotate_left
    · rw [if_neg c28] at H
      exact absurd H (by simp)
    rw [if_pos c28] at H
    have LMc28 := Ax c28
    clear c28
    obtain ⟨y217, hy_⟩ : ∃ y_ : List (S61), y_ = (x5_1 ++ [(⟨rd y201 t204, 0, wrap64 (1 + t215)⟩ : S61)]) := ⟨_, rfl⟩
    replace H : (spec_l71Text.l0 k1 y217 (wrap64 (x6_1 - 1)) s0_0 t216) = some (r1, r2) := zy
    have Ny217 := Ax hy_
    clear hy_
    have H' := Ax H
    clear H
    go_wp2_with (first | ((with_reducible refine gate_dst (N := 17) rfl ?_); refine Kd.R_lit (Kd.int .u8) _ 5 ?hg (N := 17) ?hd (xs := ([97, 98, 122, 32, 48, 57] : List Int)) (inner := [.int .u8 97, .int .u8 98, .int .u8 122, .int .u8 32, .int .u8 48, .int .u8 57]) (ok := fun _ => True) (okp := fun _ => True) ?hr ?hp (fun _ hk => hk) trivial (Below.refl _ _) (Nat.le_refl _) (by simp) ?_; (case hd => rfl); (case hg => rfl); (case hr => first | (go_simp; done) | (go_simp; rfl)); (case hp => exact (Reps.one (show Kd.M (Kd.int .u8) _ _ _ 97 [.int .u8 97] from rfl) (Reps.one (show Kd.M (Kd.int .u8) _ _ _ 98 [.int .u8 98] from rfl) (Reps.one (show Kd.M (Kd.int .u8) _ _ _ 122 [.int .u8 122] from rfl) (Reps.one (show Kd.M (Kd.int .u8) _ _ _ 32 [.int .u8 32] from rfl) (Reps.one (show Kd.M (Kd.int .u8) _ _ _ 48 [.int .u8 48] from rfl) (Reps.one (show Kd.M (Kd.int .u8) _ _ _ 57 [.int .u8 57] from rfl) (Reps.none _ _)))))))); intro v202 w29 ho30 hb hg_ hnew_; clear hg_ hnew_; (first | rw [← Ny201.out] at ho30 | (simp only [Int.reduceToNat] at ho30; rw [← Ny201.out] at ho30)); replace HO_5 := Ax (Kd.R_below (z0) hb); have HO203 := Ax (Kd.R_lower ho30 (keep_size (w := w) (g := g) (row := none) (zHK))); replace HK := Ax (KeepBut.trans (zHK) (KeepBut.of_below hb g none) (.inl rfl)); replace HB := Ax (below_step (zHB) hb); replace HI0 := Ax (IsS66.below (zHI0) hb); clear hb ho30) | ((with_reducible refine gate_callee (f := 39) rfl ?_); refine goesL_ (some 19) rfl rfl Try.func39 (by kernel_rfl) rfl #[.pointer (some ⟨g, 0, none⟩), .int .i64 6] rfl (z1) ?_; (with_reducible refine (spec_l6Rd_pick.calls k1 g s0_0 x1001_1 6 t204 t205 w0 _ ?side1 ?side2 A8.out).mono ?_); (case side1 => exact zHI0); (case side2 => exact zHB); rintro e w31 ⟨rfl, hi, hb, hk⟩; refine ⟨_, rfl, ?_⟩; replace HO_5 := Ax (Kd.R_mono (Kd.R_keep (IsS66.apart (show IsS66 w0 _ g s0_0 x1001_1 from zHI0) (z0) (by decide)) hk (fun _ h => h.2)) (fun _ h => h.1)); replace HO203 := Ax (Kd.R_mono (Kd.R_keep (IsS66.apart (show IsS66 w0 _ g s0_0 x1001_1 from zHI0) (z4) (by decide)) hk (fun _ h => h.2)) (fun _ h => h.1)); replace HK := Ax (KeepBut.trans (zHK) hk (.inl rfl)); replace HB := Ax (hb); replace HI0 := Ax (hi); (try clear hb); (try clear hb2); (try clear hk); (try clear hi); obtain ⟨Ao32, co32, eo32⟩ := Kd.R_slice HO203.out; subst eo32; have p206 : 0 ≤ (t204 : Int) := of_decide_eq_true (z6); have q206 : t204 < (y201.length : Int) := of_decide_eq_true (z6); obtain ⟨ad206, e206, hx206_0⟩ := Kd.at_int (Kd.R_reads' HO203.out).2.2 t204 p206 q206; cases e206; replace p206 := eq_true p206; replace q206 := eq_true q206) | ((with_reducible refine gate_dst (N := 7) rfl ?_); refine box_event ?hg (N := 7) ?hd (cs := #[.int .u8 0, .int .i64 0, .int .i64 0]) (t := 61) ?hr ?_; (case hd => rfl); (case hg => rfl); (case hr => first | (go_simp; done) | (go_simp; rfl)); intro gb207 hg w33 hbox hb; replace HO_5 := Ax (Kd.R_below (Kd.R_elderB (z0) gb207 (Nat.le_of_eq hg.symm)) hb); replace HO203 := Ax (Kd.R_below (z4) hb); replace HB := Ax (below_step (zHB) hb); have BK207 := Ax (hbox); have GW207 := Ax ((z5 : w.heap.size ≤ gb207)); have GE207 := Ax ((Nat.le_trans HW0.out (z5 : w.heap.size ≤ gb207) : w0.heap.size ≤ gb207)); replace HK := Ax (KeepBut.trans (zHK) (KeepBut.of_below hb g none) (.inl rfl)); have NB0_207 := Ax ((z7 : g ≠ gb207)); have NB207_0 := Ax ((z8 : gb207 ≠ g)); replace HI0 := Ax (IsS66.below (zHI0) hb); clear hb hbox hg; have hnb34 := NB207_0.out; have hnc34 := NB0_207.out; obtain ⟨_, _, _, _, _, _⟩ := cells3 BK207.out) | ((with_reducible refine gate_callee (f := 39) rfl ?_); refine goesL_ (some 24) rfl rfl Try.func39 (by kernel_rfl) rfl #[.pointer (some ⟨g, 0, none⟩), .int .i64 5] rfl (z1) ?_; (with_reducible refine (spec_l6Rd_pick.calls k1 g s0_0 t205 5 t208 t209 w0 _ ?side1 ?side2 A11.out).mono ?_); (case side1 => exact zHI0); (case side2 => exact zHB); rintro e w36 ⟨rfl, hi, hb, hk⟩; refine ⟨_, rfl, ?_⟩; replace HO_5 := Ax (Kd.R_mono (Kd.R_keep (IsS66.apart (show IsS66 w0 _ g s0_0 t205 from zHI0) (z2) (by decide)) hk (fun _ h => h.2)) (fun _ h => h.1)); replace HO203 := Ax (Kd.R_mono (Kd.R_keep (IsS66.apart (show IsS66 w0 _ g s0_0 t205 from zHI0) (z3) (by decide)) hk (fun _ h => h.2)) (fun _ h => h.1)); replace BK207 := Ax (KeepBut.blk hk (g' := gb207) (o := .cells #[.int .u8 (rd y201 t204), .int .i64 0, .int .i64 0] 61 (0, 0)) (zK) NB207_0.out (by simp)); replace HK := Ax (KeepBut.trans (zHK) hk (.inl rfl)); replace HB := Ax (hb); replace HI0 := Ax (hi); (try clear hb); (try clear hb2); (try clear hk); (try clear hi)) | ((with_reducible refine gate_callee (f := 39) rfl ?_); refine goesL_ (some 34) rfl rfl Try.func39 (by kernel_rfl) rfl #[.pointer (some ⟨g, 0, none⟩), .int .i64 3] rfl (z1) ?_; (with_reducible refine (spec_l6Rd_pick.calls k1 g s0_0 t209 3 t215 t216 w0 _ ?side1 ?side2 A27.out).mono ?_); (case side1 => exact zHI0); (case side2 => exact zHB); rintro e w37 ⟨rfl, hi, hb, hk⟩; refine ⟨_, rfl, ?_⟩; replace HO_5 := Ax (Kd.R_mono (Kd.R_keep (IsS66.apart (show IsS66 w0 _ g s0_0 t209 from zHI0) (z0) (by decide)) hk (fun _ h => h.2)) (fun _ h => h.1)); replace HO203 := Ax (Kd.R_mono (Kd.R_keep (IsS66.apart (show IsS66 w0 _ g s0_0 t209 from zHI0) (z4) (by decide)) hk (fun _ h => h.2)) (fun _ h => h.1)); replace BK207 := Ax (KeepBut.blk hk (g' := gb207) (o := .cells #[.int .u8 (rd y201 t204), .int .i64 0, .int .i64 0] 61 (0, 0)) (zK) NB207_0.out (by simp)); replace HK := Ax (KeepBut.trans (zHK) hk (.inl rfl)); replace HB := Ax (hb); replace HI0 := Ax (hi); (try clear hb); (try clear hb2); (try clear hk); (try clear hi); obtain ⟨_, _, _, _, _, _⟩ := cells3 BK207.out) | ((with_reducible refine gate_builtin (b := .append) (xs := #[.tmp 48, .tmp 50]) rfl ?_); at_builtin; refine Kd.R_append k61 w.heap.size rfl (.tmp 48) (.tmp 50) 28 61 (.agg #[(.int .u8 0), (.int .i64 0), (.int .i64 0)]) 24 rfl Try.underlying28 info61 rfl (by decide) (by omega) u5 x5_1 (⟨rd y201 t204, 0, wrap64 (1 + t215)⟩ : S61) [.int .u8 (rd y201 t204), .int .i64 0, .int .i64 (wrap64 (1 + t215))] (fun k_ => k_ ≠ gb207) (fun _ => False) rfl (z11) ?aP (fun _ hk => hk.elim) ?aF ?aO (Below.refl _ _) ?aS ?aL ?_; (case aP => exact k61_mkM _ _ _ (⟨rd y201 t204, 0, wrap64 (1 + t215)⟩ : S61)); (case aF => exact (fun k_ hk => Kd.freshB (g := gb207) (o := .cells #[.int .u8 (rd y201 t204), .int .i64 0, .int .i64 (wrap64 (1 + t215))] 61 (0, 0)) (zK) k_ hk)); (case aO => exact (by (with_reducible repeat (first | apply Kd.R_alloc | apply Kd.R_drewN | apply Kd.R_drew)); exact Kd.R_mono (Kd.R_far (p := ⟨gb207, 2, none⟩) (Kd.R_mono HO_5.out (fun k_ hk => (⟨hk, hk.2⟩ : _ ∧ k_ ≠ gb207))) (fun _ hk => hk.2) (.int .i64 (wrap64 (1 + t215)))) (fun _ hk => hk.1.2))); (case aS => exact (keep_size (w := w) (g := g) (row := none) (zHK))); (case aL => have := LMc28.out; omega); intro v218 w39 ho hb hg hat; rw [← Ny217.out] at ho; replace HO203 := Ax (Kd.R_over' (by (with_reducible repeat (first | apply Kd.R_alloc | apply Kd.R_drewN | apply Kd.R_drew)); exact (Kd.R_mono (Kd.R_far (p := ⟨gb207, 2, none⟩) (Kd.R_types HO203.out BK207.out (by decide)) (fun _ hk => hk.2) (.int .i64 (wrap64 (1 + t215)))) (fun _ h_ => h_.1))) (Kd.R_typed (by (with_reducible repeat (first | apply Kd.R_alloc | apply Kd.R_drewN | apply Kd.R_drew)); exact (Kd.R_mono (Kd.R_far (p := ⟨gb207, 2, none⟩) (Kd.R_mono HO_5.out (fun k_ hk => (⟨hk, hk.2⟩ : _ ∧ k_ ≠ gb207))) (fun _ hk => hk.2) (.int .i64 (wrap64 (1 + t215)))) (fun _ h_ => h_.1)))) (by decide) hg); replace BK207 := Ax (blk_grown (g := gb207) (o := .cells #[.int .u8 (rd y201 t204), .int .i64 0, .int .i64 (wrap64 (1 + t215))] 61 (0, 0)) (zK) hg (Kd.R_away HO_5.out (fun _ hk => hk.2))); replace HB := Ax (below_weaken (zHB) HL.out hb); replace HI0 := Ax (IsS66.grown (zHI0) hg (IsS66.own_ne HI0.out HO_5.out (by decide))); replace HK := Ax (KeepBut.trans (zHK) (KeepBut.of_grown hg g) (Kd.R_base2 HO_5.out)); have HO219 := Ax (ho); clear HO_5; clear ho hb hg hat))
    go_roundg k1
    case measure => have := HK1.out; omega
    exact ⟨(y217), (wrap64 (x6_1 - 1)), (t216), (z9), H', ⟨by have := HK1.out; omega⟩, ⟨by (with_reducible repeat (first | apply Kd.R_alloc | apply Kd.R_drewN | apply Kd.R_drew)); exact Kd.R_mono HO219.out (fun _ hk => trivial)⟩, ⟨zHI0⟩, ⟨zHK⟩, ⟨zHB⟩⟩
  rw [if_neg c26] at H
  have c26b0 : (t208 == 1) = false := beq_eq_false_iff_ne.mpr c26
  have c26b1 : (t208 != 1) = true := bne_iff_ne.mpr c26
  by_cases c40 : t208 = 2
  rotate_left
  · rw [if_neg c40] at H
    have c40b0 : (t208 == 2) = false := beq_eq_false_iff_ne.mpr c40
    have c40b1 : (t208 != 2) = true := bne_iff_ne.mpr c40
    by_cases c54 : x5_1.length < 5864062014805
    rotate_left
    · rw [if_neg c54] at H
      exact absurd H (by simp)
    rw [if_pos c54] at H
    have LMc54 := Ax c54
    clear c54
    obtain ⟨y225, hy_⟩ : ∃ y_ : List (S61), y_ = (x5_1 ++ [(⟨rd y201 t204, 0, 0⟩ : S61)]) := ⟨_, rfl⟩
    replace H : (spec_l71Text.l0 k1 y225 (wrap64 (x6_1 - 1)) s0_0 t209) = some (r1, r2) := zy
    have Ny225 := Ax hy_
    clear hy_
    have H' := Ax H
    clear H
    go_wp2_with (first | ((with_reducible refine gate_dst (N := 17) rfl ?_); refine Kd.R_lit (Kd.int .u8) _ 5 ?hg (N := 17) ?hd (xs := ([97, 98, 122, 32, 48, 57] : List Int)) (inner := [.int .u8 97, .int .u8 98, .int .u8 122, .int .u8 32, .int .u8 48, .int .u8 57]) (ok := fun _ => True) (okp := fun _ => True) ?hr ?hp (fun _ hk => hk) trivial (Below.refl _ _) (Nat.le_refl _) (by simp) ?_; (case hd => rfl); (case hg => rfl); (case hr => first | (go_simp; done) | (go_simp; rfl)); (case hp => exact (Reps.one (show Kd.M (Kd.int .u8) _ _ _ 97 [.int .u8 97] from rfl) (Reps.one (show Kd.M (Kd.int .u8) _ _ _ 98 [.int .u8 98] from rfl) (Reps.one (show Kd.M (Kd.int .u8) _ _ _ 122 [.int .u8 122] from rfl) (Reps.one (show Kd.M (Kd.int .u8) _ _ _ 32 [.int .u8 32] from rfl) (Reps.one (show Kd.M (Kd.int .u8) _ _ _ 48 [.int .u8 48] from rfl) (Reps.one (show Kd.M (Kd.int .u8) _ _ _ 57 [.int .u8 57] from rfl) (Reps.none _ _)))))))); intro v202 w55 ho56 hb hg_ hnew_; clear hg_ hnew_; (first | rw [← Ny201.out] at ho56 | (simp only [Int.reduceToNat] at ho56; rw [← Ny201.out] at ho56)); replace HO_5 := Ax (Kd.R_below (z0) hb); have HO203 := Ax (Kd.R_lower ho56 (keep_size (w := w) (g := g) (row := none) (zHK))); replace HK := Ax (KeepBut.trans (zHK) (KeepBut.of_below hb g none) (.inl rfl)); replace HB := Ax (below_step (zHB) hb); replace HI0 := Ax (IsS66.below (zHI0) hb); clear hb ho56) | ((with_reducible refine gate_callee (f := 39) rfl ?_); refine goesL_ (some 19) rfl rfl Try.func39 (by kernel_rfl) rfl #[.pointer (some ⟨g, 0, none⟩), .int .i64 6] rfl (z1) ?_; (with_reducible refine (spec_l6Rd_pick.calls k1 g s0_0 x1001_1 6 t204 t205 w0 _ ?side1 ?side2 A8.out).mono ?_); (case side1 => exact zHI0); (case side2 => exact zHB); rintro e w57 ⟨rfl, hi, hb, hk⟩; refine ⟨_, rfl, ?_⟩; replace HO_5 := Ax (Kd.R_mono (Kd.R_keep (IsS66.apart (show IsS66 w0 _ g s0_0 x1001_1 from zHI0) (z0) (by decide)) hk (fun _ h => h.2)) (fun _ h => h.1)); replace HO203 := Ax (Kd.R_mono (Kd.R_keep (IsS66.apart (show IsS66 w0 _ g s0_0 x1001_1 from zHI0) (z4) (by decide)) hk (fun _ h => h.2)) (fun _ h => h.1)); replace HK := Ax (KeepBut.trans (zHK) hk (.inl rfl)); replace HB := Ax (hb); replace HI0 := Ax (hi); (try clear hb); (try clear hb2); (try clear hk); (try clear hi); obtain ⟨Ao58, co58, eo58⟩ := Kd.R_slice HO203.out; subst eo58; have p206 : 0 ≤ (t204 : Int) := of_decide_eq_true (z6); have q206 : t204 < (y201.length : Int) := of_decide_eq_true (z6); obtain ⟨ad206, e206, hx206_0⟩ := Kd.at_int (Kd.R_reads' HO203.out).2.2 t204 p206 q206; cases e206; replace p206 := eq_true p206; replace q206 := eq_true q206) | ((with_reducible refine gate_dst (N := 7) rfl ?_); refine box_event ?hg (N := 7) ?hd (cs := #[.int .u8 0, .int .i64 0, .int .i64 0]) (t := 61) ?hr ?_; (case hd => rfl); (case hg => rfl); (case hr => first | (go_simp; done) | (go_simp; rfl)); intro gb207 hg w59 hbox hb; replace HO_5 := Ax (Kd.R_below (Kd.R_elderB (z0) gb207 (Nat.le_of_eq hg.symm)) hb); replace HO203 := Ax (Kd.R_below (z4) hb); replace HB := Ax (below_step (zHB) hb); have BK207 := Ax (hbox); have GW207 := Ax ((z5 : w.heap.size ≤ gb207)); have GE207 := Ax ((Nat.le_trans HW0.out (z5 : w.heap.size ≤ gb207) : w0.heap.size ≤ gb207)); replace HK := Ax (KeepBut.trans (zHK) (KeepBut.of_below hb g none) (.inl rfl)); have NB0_207 := Ax ((z7 : g ≠ gb207)); have NB207_0 := Ax ((z8 : gb207 ≠ g)); replace HI0 := Ax (IsS66.below (zHI0) hb); clear hb hbox hg; have hnb60 := NB207_0.out; have hnc60 := NB0_207.out; obtain ⟨_, _, _, _, _, _⟩ := cells3 BK207.out) | ((with_reducible refine gate_callee (f := 39) rfl ?_); refine goesL_ (some 24) rfl rfl Try.func39 (by kernel_rfl) rfl #[.pointer (some ⟨g, 0, none⟩), .int .i64 5] rfl (z1) ?_; (with_reducible refine (spec_l6Rd_pick.calls k1 g s0_0 t205 5 t208 t209 w0 _ ?side1 ?side2 A11.out).mono ?_); (case side1 => exact zHI0); (case side2 => exact zHB); rintro e w62 ⟨rfl, hi, hb, hk⟩; refine ⟨_, rfl, ?_⟩; replace HO_5 := Ax (Kd.R_mono (Kd.R_keep (IsS66.apart (show IsS66 w0 _ g s0_0 t205 from zHI0) (z2) (by decide)) hk (fun _ h => h.2)) (fun _ h => h.1)); replace HO203 := Ax (Kd.R_mono (Kd.R_keep (IsS66.apart (show IsS66 w0 _ g s0_0 t205 from zHI0) (z3) (by decide)) hk (fun _ h => h.2)) (fun _ h => h.1)); replace BK207 := Ax (KeepBut.blk hk (g' := gb207) (o := .cells #[.int .u8 (rd y201 t204), .int .i64 0, .int .i64 0] 61 (0, 0)) (zK) NB207_0.out (by simp)); replace HK := Ax (KeepBut.trans (zHK) hk (.inl rfl)); replace HB := Ax (hb); replace HI0 := Ax (hi); (try clear hb); (try clear hb2); (try clear hk); (try clear hi); obtain ⟨_, _, _, _, _, _⟩ := cells3 BK207.out) | ((with_reducible refine gate_builtin (b := .append) (xs := #[.tmp 48, .tmp 50]) rfl ?_); at_builtin; refine Kd.R_append k61 w.heap.size rfl (.tmp 48) (.tmp 50) 28 61 (.agg #[(.int .u8 0), (.int .i64 0), (.int .i64 0)]) 24 rfl Try.underlying28 info61 rfl (by decide) (by omega) u5 x5_1 (⟨rd y201 t204, 0, 0⟩ : S61) [.int .u8 (rd y201 t204), .int .i64 0, .int .i64 0] (fun k_ => k_ ≠ gb207) (fun _ => False) rfl rfl ?aP (fun _ hk => hk.elim) ?aF ?aO (Below.refl _ _) ?aS ?aL ?_; (case aP => exact k61_mkM _ _ _ (⟨rd y201 t204, 0, 0⟩ : S61)); (case aF => exact (fun k_ hk => Kd.freshB (g := gb207) (o := .cells #[.int .u8 (rd y201 t204), .int .i64 0, .int .i64 0] 61 (0, 0)) (zK) k_ hk)); (case aO => exact (by (with_reducible repeat (first | apply Kd.R_alloc | apply Kd.R_drewN | apply Kd.R_drew)); exact Kd.R_mono HO_5.out (fun _ hk => hk.2))); (case aS => exact (keep_size (w := w) (g := g) (row := none) (zHK))); (case aL => have := LMc54.out; omega); intro v226 w64 ho hb hg hat; rw [← Ny225.out] at ho; replace HO203 := Ax (Kd.R_over' (z4) (Kd.R_typed (z0)) (by decide) hg); replace BK207 := Ax (blk_grown (g := gb207) (zK) hg (Kd.R_away HO_5.out (fun _ hk => hk.2))); replace HB := Ax (below_weaken (zHB) HL.out hb); replace HI0 := Ax (IsS66.grown (zHI0) hg (IsS66.own_ne HI0.out HO_5.out (by decide))); replace HK := Ax (KeepBut.trans (zHK) (KeepBut.of_grown hg g) (Kd.R_base2 HO_5.out)); have HO227 := Ax (ho); clear HO_5; clear ho hb hg hat))
    go_roundg k1
    case measure => have := HK1.out; omega
    exact ⟨(y225), (wrap64 (x6_1 - 1)), (t209), (z9), H', ⟨by have := HK1.out; omega⟩, ⟨by (with_reducible repeat (first | apply Kd.R_alloc | apply Kd.R_drewN | apply Kd.R_drew)); exact Kd.R_mono HO227.out (fun _ hk => trivial)⟩, ⟨zHI0⟩, ⟨zHK⟩, ⟨zHB⟩⟩
  rw [if_pos c40] at H
  have c40b0 : (t208 == 2) = true := beq_iff_eq.mpr c40
  have c40b1 : (t208 != 2) = false := bne_eq_false_iff_eq.mpr c40
  clear c40
  obtain ⟨⟨t220, t221⟩, A41, H⟩ := bnd H
  dsimp only at H
  by_cases c42 : x5_1.length < 5864062014805
  rotate_left
  · rw [if_neg c42] at H
    exact absurd H (by simp)
  rw [if_pos c42] at H
  have LMc42 := Ax c42
  clear c42
  obtain ⟨y222, hy_⟩ : ∃ y_ : List (S61), y_ = (x5_1 ++ [(⟨rd y201 t204, wrap64 (1 + t220), wrap64 ((Int.tmod (wrap64 (1 + t220)) 3) + 1)⟩ : S61)]) := ⟨_, rfl⟩
  replace H : (spec_l71Text.l0 k1 y222 (wrap64 (x6_1 - 1)) s0_0 t221) = some (r1, r2) := zy
  have Ny222 := Ax hy_
  clear hy_
  have H' := Ax H
  clear H
  go_wp2_with (first | ((with_reducible refine gate_dst (N := 17) rfl ?_); refine Kd.R_lit (Kd.int .u8) _ 5 ?hg (N := 17) ?hd (xs := ([97, 98, 122, 32, 48, 57] : List Int)) (inner := [.int .u8 97, .int .u8 98, .int .u8 122, .int .u8 32, .int .u8 48, .int .u8 57]) (ok := fun _ => True) (okp := fun _ => True) ?hr ?hp (fun _ hk => hk) trivial (Below.refl _ _) (Nat.le_refl _) (by simp) ?_; (case hd => rfl); (case hg => rfl); (case hr => first | (go_simp; done) | (go_simp; rfl)); (case hp => exact (Reps.one (show Kd.M (Kd.int .u8) _ _ _ 97 [.int .u8 97] from rfl) (Reps.one (show Kd.M (Kd.int .u8) _ _ _ 98 [.int .u8 98] from rfl) (Reps.one (show Kd.M (Kd.int .u8) _ _ _ 122 [.int .u8 122] from rfl) (Reps.one (show Kd.M (Kd.int .u8) _ _ _ 32 [.int .u8 32] from rfl) (Reps.one (show Kd.M (Kd.int .u8) _ _ _ 48 [.int .u8 48] from rfl) (Reps.one (show Kd.M (Kd.int .u8) _ _ _ 57 [.int .u8 57] from rfl) (Reps.none _ _)))))))); intro v202 w43 ho44 hb hg_ hnew_; clear hg_ hnew_; (first | rw [← Ny201.out] at ho44 | (simp only [Int.reduceToNat] at ho44; rw [← Ny201.out] at ho44)); replace HO_5 := Ax (Kd.R_below (z0) hb); have HO203 := Ax (Kd.R_lower ho44 (keep_size (w := w) (g := g) (row := none) (zHK))); replace HK := Ax (KeepBut.trans (zHK) (KeepBut.of_below hb g none) (.inl rfl)); replace HB := Ax (below_step (zHB) hb); replace HI0 := Ax (IsS66.below (zHI0) hb); clear hb ho44) | ((with_reducible refine gate_callee (f := 39) rfl ?_); refine goesL_ (some 19) rfl rfl Try.func39 (by kernel_rfl) rfl #[.pointer (some ⟨g, 0, none⟩), .int .i64 6] rfl (z1) ?_; (with_reducible refine (spec_l6Rd_pick.calls k1 g s0_0 x1001_1 6 t204 t205 w0 _ ?side1 ?side2 A8.out).mono ?_); (case side1 => exact zHI0); (case side2 => exact zHB); rintro e w45 ⟨rfl, hi, hb, hk⟩; refine ⟨_, rfl, ?_⟩; replace HO_5 := Ax (Kd.R_mono (Kd.R_keep (IsS66.apart (show IsS66 w0 _ g s0_0 x1001_1 from zHI0) (z0) (by decide)) hk (fun _ h => h.2)) (fun _ h => h.1)); replace HO203 := Ax (Kd.R_mono (Kd.R_keep (IsS66.apart (show IsS66 w0 _ g s0_0 x1001_1 from zHI0) (z4) (by decide)) hk (fun _ h => h.2)) (fun _ h => h.1)); replace HK := Ax (KeepBut.trans (zHK) hk (.inl rfl)); replace HB := Ax (hb); replace HI0 := Ax (hi); (try clear hb); (try clear hb2); (try clear hk); (try clear hi); obtain ⟨Ao46, co46, eo46⟩ := Kd.R_slice HO203.out; subst eo46; have p206 : 0 ≤ (t204 : Int) := of_decide_eq_true (z6); have q206 : t204 < (y201.length : Int) := of_decide_eq_true (z6); obtain ⟨ad206, e206, hx206_0⟩ := Kd.at_int (Kd.R_reads' HO203.out).2.2 t204 p206 q206; cases e206; replace p206 := eq_true p206; replace q206 := eq_true q206) | ((with_reducible refine gate_dst (N := 7) rfl ?_); refine box_event ?hg (N := 7) ?hd (cs := #[.int .u8 0, .int .i64 0, .int .i64 0]) (t := 61) ?hr ?_; (case hd => rfl); (case hg => rfl); (case hr => first | (go_simp; done) | (go_simp; rfl)); intro gb207 hg w47 hbox hb; replace HO_5 := Ax (Kd.R_below (Kd.R_elderB (z0) gb207 (Nat.le_of_eq hg.symm)) hb); replace HO203 := Ax (Kd.R_below (z4) hb); replace HB := Ax (below_step (zHB) hb); have BK207 := Ax (hbox); have GW207 := Ax ((z5 : w.heap.size ≤ gb207)); have GE207 := Ax ((Nat.le_trans HW0.out (z5 : w.heap.size ≤ gb207) : w0.heap.size ≤ gb207)); replace HK := Ax (KeepBut.trans (zHK) (KeepBut.of_below hb g none) (.inl rfl)); have NB0_207 := Ax ((z7 : g ≠ gb207)); have NB207_0 := Ax ((z8 : gb207 ≠ g)); replace HI0 := Ax (IsS66.below (zHI0) hb); clear hb hbox hg; have hnb48 := NB207_0.out; have hnc48 := NB0_207.out; obtain ⟨_, _, _, _, _, _⟩ := cells3 BK207.out) | ((with_reducible refine gate_callee (f := 39) rfl ?_); refine goesL_ (some 24) rfl rfl Try.func39 (by kernel_rfl) rfl #[.pointer (some ⟨g, 0, none⟩), .int .i64 5] rfl (z1) ?_; (with_reducible refine (spec_l6Rd_pick.calls k1 g s0_0 t205 5 t208 t209 w0 _ ?side1 ?side2 A11.out).mono ?_); (case side1 => exact zHI0); (case side2 => exact zHB); rintro e w50 ⟨rfl, hi, hb, hk⟩; refine ⟨_, rfl, ?_⟩; replace HO_5 := Ax (Kd.R_mono (Kd.R_keep (IsS66.apart (show IsS66 w0 _ g s0_0 t205 from zHI0) (z2) (by decide)) hk (fun _ h => h.2)) (fun _ h => h.1)); replace HO203 := Ax (Kd.R_mono (Kd.R_keep (IsS66.apart (show IsS66 w0 _ g s0_0 t205 from zHI0) (z3) (by decide)) hk (fun _ h => h.2)) (fun _ h => h.1)); replace BK207 := Ax (KeepBut.blk hk (g' := gb207) (o := .cells #[.int .u8 (rd y201 t204), .int .i64 0, .int .i64 0] 61 (0, 0)) (zK) NB207_0.out (by simp)); replace HK := Ax (KeepBut.trans (zHK) hk (.inl rfl)); replace HB := Ax (hb); replace HI0 := Ax (hi); (try clear hb); (try clear hb2); (try clear hk); (try clear hi)) | ((with_reducible refine gate_callee (f := 39) rfl ?_); refine goesL_ (some 40) rfl rfl Try.func39 (by kernel_rfl) rfl #[.pointer (some ⟨g, 0, none⟩), .int .i64 3] rfl (z1) ?_; (with_reducible refine (spec_l6Rd_pick.calls k1 g s0_0 t209 3 t220 t221 w0 _ ?side1 ?side2 A41.out).mono ?_); (case side1 => exact zHI0); (case side2 => exact zHB); rintro e w51 ⟨rfl, hi, hb, hk⟩; refine ⟨_, rfl, ?_⟩; replace HO_5 := Ax (Kd.R_mono (Kd.R_keep (IsS66.apart (show IsS66 w0 _ g s0_0 t209 from zHI0) (z0) (by decide)) hk (fun _ h => h.2)) (fun _ h => h.1)); replace HO203 := Ax (Kd.R_mono (Kd.R_keep (IsS66.apart (show IsS66 w0 _ g s0_0 t209 from zHI0) (z4) (by decide)) hk (fun _ h => h.2)) (fun _ h => h.1)); replace BK207 := Ax (KeepBut.blk hk (g' := gb207) (o := .cells #[.int .u8 (rd y201 t204), .int .i64 0, .int .i64 0] 61 (0, 0)) (zK) NB207_0.out (by simp)); replace HK := Ax (KeepBut.trans (zHK) hk (.inl rfl)); replace HB := Ax (hb); replace HI0 := Ax (hi); (try clear hb); (try clear hb2); (try clear hk); (try clear hi); obtain ⟨_, _, _, _, _, _⟩ := cells3 BK207.out) | ((with_reducible refine gate_builtin (b := .append) (xs := #[.tmp 48, .tmp 50]) rfl ?_); at_builtin; refine Kd.R_append k61 w.heap.size rfl (.tmp 48) (.tmp 50) 28 61 (.agg #[(.int .u8 0), (.int .i64 0), (.int .i64 0)]) 24 rfl Try.underlying28 info61 rfl (by decide) (by omega) u5 x5_1 (⟨rd y201 t204, wrap64 (1 + t220), wrap64 ((Int.tmod (wrap64 (1 + t220)) 3) + 1)⟩ : S61) [.int .u8 (rd y201 t204), .int .i64 (wrap64 (1 + t220)), .int .i64 (wrap64 ((Int.tmod (wrap64 (1 + t220)) 3) + 1))] (fun k_ => k_ ≠ gb207) (fun _ => False) rfl (z11) ?aP (fun _ hk => hk.elim) ?aF ?aO (Below.refl _ _) ?aS ?aL ?_; (case aP => exact k61_mkM _ _ _ (⟨rd y201 t204, wrap64 (1 + t220), wrap64 ((Int.tmod (wrap64 (1 + t220)) 3) + 1)⟩ : S61)); (case aF => exact (fun k_ hk => Kd.freshB (g := gb207) (o := .cells #[.int .u8 (rd y201 t204), .int .i64 (wrap64 (1 + t220)), .int .i64 (wrap64 ((Int.tmod (wrap64 (1 + t220)) 3) + 1))] 61 (0, 0)) (zK) k_ hk)); (case aO => exact (by (with_reducible repeat (first | apply Kd.R_alloc | apply Kd.R_drewN | apply Kd.R_drew)); exact Kd.R_mono (Kd.R_far (p := ⟨gb207, 2, none⟩) (Kd.R_far (p := ⟨gb207, 1, none⟩) (Kd.R_mono HO_5.out (fun k_ hk => (⟨hk, hk.2⟩ : _ ∧ k_ ≠ gb207))) (fun _ hk => hk.2) (.int .i64 (wrap64 (1 + t220)))) (fun _ hk => hk.2) (.int .i64 (wrap64 ((Int.tmod (wrap64 (1 + t220)) 3) + 1)))) (fun _ hk => hk.1.2))); (case aS => exact (keep_size (w := w) (g := g) (row := none) (zHK))); (case aL => have := LMc42.out; omega); intro v223 w53 ho hb hg hat; rw [← Ny222.out] at ho; replace HO203 := Ax (Kd.R_over' (by (with_reducible repeat (first | apply Kd.R_alloc | apply Kd.R_drewN | apply Kd.R_drew)); exact (Kd.R_mono (Kd.R_far (p := ⟨gb207, 2, none⟩) (Kd.R_far (p := ⟨gb207, 1, none⟩) (Kd.R_types HO203.out BK207.out (by decide)) (fun _ hk => hk.2) (.int .i64 (wrap64 (1 + t220)))) (fun _ hk => hk.2) (.int .i64 (wrap64 ((Int.tmod (wrap64 (1 + t220)) 3) + 1)))) (fun _ h_ => h_.1))) (Kd.R_typed (by (with_reducible repeat (first | apply Kd.R_alloc | apply Kd.R_drewN | apply Kd.R_drew)); exact (Kd.R_mono (Kd.R_far (p := ⟨gb207, 2, none⟩) (Kd.R_far (p := ⟨gb207, 1, none⟩) (Kd.R_mono HO_5.out (fun k_ hk => (⟨hk, hk.2⟩ : _ ∧ k_ ≠ gb207))) (fun _ hk => hk.2) (.int .i64 (wrap64 (1 + t220)))) (fun _ hk => hk.2) (.int .i64 (wrap64 ((Int.tmod (wrap64 (1 + t220)) 3) + 1)))) (fun _ h_ => h_.1)))) (by decide) hg); replace BK207 := Ax (blk_grown (g := gb207) (o := .cells #[.int .u8 (rd y201 t204), .int .i64 (wrap64 (1 + t220)), .int .i64 (wrap64 ((Int.tmod (wrap64 (1 + t220)) 3) + 1))] 61 (0, 0)) (zK) hg (Kd.R_away HO_5.out (fun _ hk => hk.2))); replace HB := Ax (below_weaken (zHB) HL.out hb); replace HI0 := Ax (IsS66.grown (zHI0) hg (IsS66.own_ne HI0.out HO_5.out (by decide))); replace HK := Ax (KeepBut.trans (zHK) (KeepBut.of_grown hg g) (Kd.R_base2 HO_5.out)); have HO224 := Ax (ho); clear HO_5; clear ho hb hg hat))
  go_roundg k1
  case measure => have := HK1.out; omega
  exact ⟨(y222), (wrap64 (x6_1 - 1)), (t221), (z9), H', ⟨by have := HK1.out; omega⟩, ⟨by (with_reducible repeat (first | apply Kd.R_alloc | apply Kd.R_drewN | apply Kd.R_drew)); exact Kd.R_mono HO224.out (fun _ hk => trivial)⟩, ⟨zHI0⟩, ⟨zHK⟩, ⟨zHB⟩⟩
end Go.Proofs.Ytljgbeccmcidkaa.P
namespace Go.Proofs.Ytljgbeccmcidkaa.P
open Go.RowKit Go.Proofs.YtljgbeccmcidkaaW.PrintWords Go.Proofs.YtljgbeccmcidkaaW.PrintLast Go.Proofs.YtljgbeccmcidkaaW.PrintMore
attribute [local go_sem] max2_int min2_int max_two min_two max_three min_three max_four min_four   -- for this text's walks alone
set_option linter.unusedVariables false
set_option linter.unusedSimpArgs false

attribute [local go_sem ↓] isSome_setCell
/-! ### spec_l71Bad: function 57 -/
mutual
def spec_l71Bad.j1 : Nat → List (S61) → List Int → Int → Int → Int → Int → Option ((List (S61)) × Int)
  | 0, _, _, _, _, _, _ => none
  | k + 1, x1, x1000, x1001, x278000, x278001, x278002 => (some (([] : List (S61)) : List (S61))).bind fun y306 => (if y306.length + x1.length < 5864062014805 then ((some (y306 ++ x1 : List (S61))).bind fun y309 => ((some (([(⟨x278000, x278001, x278002⟩ : S61)] : List (S61)) : List (S61))).bind fun y312 => (if y309.length + y312.length < 5864062014805 then (some ((y309 ++ y312), x1001)) else (none)))) else (none))
def spec_l71Bad.l0 : Nat → List (S61) → List Int → Int → Int → Int → Int → Option ((List (S61)) × Int)
  | 0, _, _, _, _, _, _ => none
  | k + 1, x1, x1000, x1001, x278000, x278001, x278002 => (spec_l6Rd_pick.f k x1000 x1001 2).bind fun bt298 => (if (x1.length : Int) < (wrap64 (24 + bt298.1)) then ((some (([(⟨x278000, x278001, x278002⟩ : S61)] : List (S61)) : List (S61))).bind fun y300 => (if x1.length + y300.length < 5864062014805 then (spec_l71Bad.l0 k (x1 ++ y300) x1000 bt298.2 x278000 x278001 x278002) else (none))) else (some (x1, bt298.2)))
end
def spec_l71Bad.f (k : Nat) (s0_0 : List Int) (s0_1 : Int) (l1 : List (S61)) : Option ((List (S61)) × Int) := (spec_l6Rd_pick.f k s0_0 s0_1 6).bind fun bt278 => (if bt278.1 = 0 then ((some (([65, 10, 0, 123, 47] : List Int) : List Int)).bind fun y280 => ((spec_l6Rd_pick.f k s0_0 bt278.2 5).bind fun bt283 => (if 0 ≤ bt283.1 then (if bt283.1 < (y280.length : Int) then (spec_l71Bad.j1 k l1 s0_0 bt283.2 (rd y280 bt283.1) 0 0) else (none)) else (none)))) else (if bt278.1 = 1 then ((some (([(-1), 4] : List Int) : List Int)).bind fun y286 => ((spec_l6Rd_pick.f k s0_0 bt278.2 2).bind fun bt289 => (if 0 ≤ bt289.1 then (if bt289.1 < (y286.length : Int) then (spec_l71Bad.j1 k l1 s0_0 bt289.2 120 (rd y286 bt289.1) 0) else (none)) else (none)))) else (if bt278.1 = 2 then ((some (([(-1), 4] : List Int) : List Int)).bind fun y292 => ((spec_l6Rd_pick.f k s0_0 bt278.2 2).bind fun bt295 => (if 0 ≤ bt295.1 then (if bt295.1 < (y292.length : Int) then (spec_l71Bad.j1 k l1 s0_0 bt295.2 120 0 (rd y292 bt295.1)) else (none)) else (none)))) else (if bt278.1 = 3 then (spec_l71Bad.j1 k l1 s0_0 bt278.2 120 2 2) else (if bt278.1 = 4 then (spec_l71Bad.l0 k l1 s0_0 bt278.2 120 0 0) else (spec_l71Bad.j1 k l1 s0_0 bt278.2 120 0 0))))))
theorem spec_l71Bad.mono_l : ∀ k, (∀ y0 y1 y2 y3 y4 y5, LeO (spec_l71Bad.j1 k y0 y1 y2 y3 y4 y5) (spec_l71Bad.j1 (k + 1) y0 y1 y2 y3 y4 y5)) ∧ (∀ y0 y1 y2 y3 y4 y5, LeO (spec_l71Bad.l0 k y0 y1 y2 y3 y4 y5) (spec_l71Bad.l0 (k + 1) y0 y1 y2 y3 y4 y5))
  | 0 => by refine ⟨?_, ?_⟩ <;> intros <;> intro r h <;> simp [spec_l71Bad.j1, spec_l71Bad.l0] at h
  | k + 1 => by
    obtain ⟨ih0, ih1⟩ := spec_l71Bad.mono_l k
    refine ⟨?_, ?_⟩ <;> intros <;> (first | unfold spec_l71Bad.j1 | unfold spec_l71Bad.l0) <;> with_reducible repeat' first | exact ih0 _ _ _ _ _ _ | exact ih1 _ _ _ _ _ _ | exact spec_l6Rd_pick.mono _ _ _ _ | exact LeO.refl _ | exact LeO.none _ | refine LeO.ite ?_ ?_ | refine LeO.bind ?_ (fun _ => ?_)
theorem spec_l71Bad.mono : ∀ a0 a1 a2 k, LeO (spec_l71Bad.f k a0 a1 a2) (spec_l71Bad.f (k + 1) a0 a1 a2) := by
  intro a0 a1 a2 k
  obtain ⟨ih0, ih1⟩ := spec_l71Bad.mono_l k
  unfold spec_l71Bad.f
  with_reducible repeat' first | exact ih0 _ _ _ _ _ _ | exact ih1 _ _ _ _ _ _ | exact spec_l6Rd_pick.mono _ _ _ _ | exact LeO.refl _ | exact LeO.none _ | refine LeO.ite ?_ ?_ | refine LeO.bind ?_ (fun _ => ?_)
theorem spec_l71Bad.zHK {p : Prop} (h : p := by repeat (first | (with_reducible first | exact HK.out | apply Kept.alloc | apply Kept.drewN | apply Kept.drew | refine Kept.setCell ?_ (.inl (.inr rfl)) _ | refine Kept.setCell ?_ (.inr GW277.out) _) | exact HK.out)) : p := h
theorem spec_l71Bad.zHB {p : Prop} (h : p := by repeat (first | (with_reducible first | exact HB.out | apply below_alloc | apply pw_below_drewN | apply below_drew1 | refine below_set ?_ (IsS66.ge HI0.out) | refine below_set ?_ GE277.out) | exact HB.out)) : p := h
theorem spec_l71Bad.zHI0 {p : Prop} (h : p := by repeat (first | (with_reducible first | exact HI0.out | apply IsS66.alloc | apply IsS66.drewN | apply IsS66.drew | apply IsS66.set_1 | apply IsS66.far (hne := NB0_277.out)) | exact HI0.out)) : p := h
theorem spec_l71Bad.zK {p : Prop} (h : p := by repeat' first | (with_reducible first | exact BK277.out | apply blk_drewN | apply blk_drew | apply blk_alloc | apply blk_putE) | exact (rfl : List.set _ _ _ = _)) : p := h
theorem spec_l71Bad.z0 {p : Prop} (h : p := by (with_reducible repeat (first | apply Kd.R_alloc | apply Kd.R_drewN | apply Kd.R_drew)); exact HO_1.out) : p := h
theorem spec_l71Bad.z1 {p : Prop} (h : p := by first | exact HK.out.1 | exact (show Kept w _ (fun k_ => (P1_ k_) ∨ k_ = g) from zHK).1) : p := h
theorem spec_l71Bad.z2 {p : Prop} (h : p := by (with_reducible repeat (first | apply Kd.R_alloc | apply Kd.R_drewN | apply Kd.R_drew)); exact HO1.out) : p := h
theorem spec_l71Bad.z3 {p : Prop} (h : p := by (try simp only [List.map_toArray, List.map_cons, List.map_nil]); first | done | rfl | (simp only [List.length_drop, List.length_take]; rfl)) : p := h
theorem spec_l71Bad.z4 {p : Prop} (h : p := by (with_reducible repeat (first | apply Kd.R_alloc | apply Kd.R_drewN | apply Kd.R_drew)); exact HO314.out) : p := h
theorem spec_l71Bad.z5 {p : Prop} (h : p := by (with_reducible repeat (first | apply Kd.R_alloc | apply Kd.R_drewN | apply Kd.R_drew)); exact Kd.R_mono HO311.out (fun _ hk => ⟨hk.1, ⟨hk.2.2.1, ⟨hk.2.1, hk.2.2.2⟩⟩⟩)) : p := h
theorem spec_l71Bad.z6 {p : Prop} (h : p := by first | (with_reducible assumption) | assumption) : p := h
theorem spec_l71Bad.z7 {p : Prop} (h : p := by simp only [putAll, Act.put, List.setIfInBounds_toArray, List.set_cons_zero, List.set_cons_succ]) : p := h
theorem spec_l71Bad.z8 {p : Prop} (h : p := by (with_reducible repeat (first | apply Kd.R_alloc | apply Kd.R_drewN | apply Kd.R_drew)); exact Kd.R_mono HO314.out (fun _ hk => ⟨hk.1.1, ⟨hk.2, ⟨hk.1.2.1, hk.1.2.2⟩⟩⟩)) : p := h
theorem spec_l71Bad.z9 {p : Prop} (h : p := by (with_reducible repeat (first | apply Kd.R_alloc | apply Kd.R_drewN | apply Kd.R_drew)); exact Kd.R_mono HO_1.out (fun _ hk => ⟨hk.1.1, ⟨hk.2, ⟨hk.1.2.1, hk.1.2.2⟩⟩⟩)) : p := h
theorem spec_l71Bad.z10 {p : Prop} (h : p := by first | omega | exact Nat.le_refl _) : p := h
theorem spec_l71Bad.z11 {p : Prop} (h : p := by (with_reducible repeat (first | apply Kd.R_alloc | apply Kd.R_drewN | apply Kd.R_drew)); exact HO311.out) : p := h
theorem spec_l71Bad.z12 {p : Prop} (h : p := by (with_reducible repeat (first | apply Kd.R_alloc | apply Kd.R_drewN | apply Kd.R_drew)); exact HO308.out) : p := h
theorem spec_l71Bad.z13 {p : Prop} (h : p := by first | rfl | (simp [errW_none, errW_some] <;> rfl) | (simp [*, errW_none, errW_some] <;> rfl)) : p := h
theorem spec_l71Bad.zy {p : Prop} (h : p := by first | (rw [hy_]; with_reducible exact H) | (have H2_ := (Option.bind_some _ _).symm.trans H; rw [hy_]; with_reducible exact H2_) | (have H2_ := (Option.bind_some _ _).symm.trans H; with_reducible exact H2_) | with_reducible exact H | (rw [hy_]; exact H) | exact H) : p := h
set_option maxHeartbeats 8000000 in
set_option maxRecDepth 100000 in
theorem spec_l71Bad.calls (k : Nat) (g : Nat) (s0_0 : List Int) (s0_1 : Int) (P1_ : Nat → Prop) (u9000_ : Value) (l1 : List (S61)) (r1 : List (S61)) (r2 : Int) (w0 w : World) (hI : IsS66 w0 w g s0_0 s0_1) (hB : Below w0.heap.size w0 w) (ho1 : Kd.R k61 61 w w0.heap.size P1_ u9000_ l1) (h : spec_l71Bad.f k s0_0 s0_1 l1 = some (r1, r2)) :
    Calls Try.prog 57 #[.pointer (some ⟨g, 0, none⟩), u9000_] w fun e w' => ∃ v0_ : Value, e = .returned (v0_) ∧ Kd.R k61 61 w' w0.heap.size (fun k_ => (P1_ k_ ∨ w.heap.size ≤ k_)) v0_ r1 ∧ IsS66 w0 w' g s0_0 r2 ∧ Below w0.heap.size w0 w' ∧ Kept w w' (fun k_ => (P1_ k_) ∨ k_ = g) := by
 have hu61 := Try.underlying61
 have HO1 := Ax (show Kd.R k61 61 w w0.heap.size (fun k_ => (P1_ k_ ∨ w.heap.size ≤ k_)) u9000_ l1 from Kd.R_mono ho1 (fun k_ hk => (.inl hk)))
 have HI0 := Ax hI
 have HL := Ax hB.size
 clear hI
 have HK := Ax (Kept.refl w (fun k_ => (P1_ k_) ∨ k_ = g))
 have HW0 := Ax hB.size
 have HB := Ax hB
 clear hB
 have H : ((spec_l6Rd_pick.f k s0_0 s0_1 6).bind fun bt278 => (if bt278.1 = 0 then ((some (([65, 10, 0, 123, 47] : List Int) : List Int)).bind fun y280 => ((spec_l6Rd_pick.f k s0_0 bt278.2 5).bind fun bt283 => (if 0 ≤ bt283.1 then (if bt283.1 < (y280.length : Int) then (spec_l71Bad.j1 k l1 s0_0 bt283.2 (rd y280 bt283.1) 0 0) else (none)) else (none)))) else (if bt278.1 = 1 then ((some (([(-1), 4] : List Int) : List Int)).bind fun y286 => ((spec_l6Rd_pick.f k s0_0 bt278.2 2).bind fun bt289 => (if 0 ≤ bt289.1 then (if bt289.1 < (y286.length : Int) then (spec_l71Bad.j1 k l1 s0_0 bt289.2 120 (rd y286 bt289.1) 0) else (none)) else (none)))) else (if bt278.1 = 2 then ((some (([(-1), 4] : List Int) : List Int)).bind fun y292 => ((spec_l6Rd_pick.f k s0_0 bt278.2 2).bind fun bt295 => (if 0 ≤ bt295.1 then (if bt295.1 < (y292.length : Int) then (spec_l71Bad.j1 k l1 s0_0 bt295.2 120 0 (rd y292 bt295.1)) else (none)) else (none)))) else (if bt278.1 = 3 then (spec_l71Bad.j1 k l1 s0_0 bt278.2 120 2 2) else (if bt278.1 = 4 then (spec_l71Bad.l0 k l1 s0_0 bt278.2 120 0 0) else (spec_l71Bad.j1 k l1 s0_0 bt278.2 120 0 0))))))) = some (r1, r2) := h
 clear h
 obtain ⟨⟨t278, t279⟩, A3, H⟩ := bnd H
 dsimp only at H
 have HC4 := Ax H
 clear H
 go_enter Try.func57, Try.ntmps57
 go_upto_block 0 with (first | ((with_reducible refine gate_dst (N := 5) rfl ?_); refine box_event ?hg (N := 5) ?hd (cs := #[.int .u8 0, .int .i64 0, .int .i64 0]) (t := 61) ?hr ?_; (case hd => rfl); (case hg => rfl); (case hr => first | (go_simp; done) | (go_simp; rfl)); intro gb277 hg w5 hbox hb; replace HO1 := Ax (Kd.R_below (Kd.R_elderB (z2) gb277 (Nat.le_of_eq hg.symm)) hb); have BK277 := Ax (hbox); have GW277 := Ax ((by rw [hg]; exact (z1) : w.heap.size ≤ gb277)); replace HK := Ax (Kept.below (S := (fun k_ => (P1_ k_) ∨ k_ = g)) (zHK) hb); have GE277 := Ax ((by rw [hg]; exact (below_size (zHB)) : w0.heap.size ≤ gb277)); replace HB := Ax (below_step (zHB) hb); have NB0_277 := Ax ((by rw [hg]; exact Nat.ne_of_lt (IsS66.lt (show IsS66 w0 _ g s0_0 s0_1 from zHI0)) : g ≠ gb277)); have NB277_0 := Ax ((by rw [hg]; exact Nat.ne_of_gt (IsS66.lt (show IsS66 w0 _ g s0_0 s0_1 from zHI0)) : gb277 ≠ g)); replace HI0 := Ax (IsS66.below (zHI0) hb); clear hb hbox hg; have hnb6 := NB277_0.out; have hnc6 := NB0_277.out; obtain ⟨hcz7_0, hcz7_1, hcz7_2, hfz7_0, hfz7_1, hfz7_2⟩ := cells3 BK277.out) | ((with_reducible refine gate_callee (f := 39) rfl ?_); refine goesL_ (some 8) rfl rfl Try.func39 (by kernel_rfl) rfl #[.pointer (some ⟨g, 0, none⟩), .int .i64 6] rfl (z3) ?_; (with_reducible refine (spec_l6Rd_pick.calls k g s0_0 s0_1 6 t278 t279 w0 _ ?side1 ?side2 A3.out).mono ?_); (case side1 => exact zHI0); (case side2 => exact zHB); rintro e w8 ⟨rfl, hi, hb, hk⟩; refine ⟨_, rfl, ?_⟩; replace HO1 := Ax (Kd.R_mono (Kd.R_keep (IsS66.apart (show IsS66 w0 _ g s0_0 s0_1 from zHI0) (by (with_reducible repeat (first | apply Kd.R_alloc | apply Kd.R_drewN | apply Kd.R_drew)); exact (Kd.R_mono (Kd.R_far (p := ⟨gb277, 2, none⟩) (Kd.R_far (p := ⟨gb277, 1, none⟩) (Kd.R_far (p := ⟨gb277, 0, none⟩) (Kd.R_mono HO1.out (fun k_ hk => (⟨hk, hk.2⟩ : _ ∧ k_ ≠ gb277))) (fun _ hk => hk.2) (.int .u8 120)) (fun _ hk => hk.2) (.int .i64 0)) (fun _ hk => hk.2) (.int .i64 0)) (fun _ h_ => h_.1))) (by decide)) hk (fun _ h => h.2)) (fun _ h => h.1)); replace BK277 := Ax (KeepBut.blk hk (g' := gb277) (o := .cells #[.int .u8 120, .int .i64 0, .int .i64 0] 61 (0, 0)) (zK) NB277_0.out (by simp)); replace HK := Ax (Kept.of_keep (S := (fun k_ => (P1_ k_) ∨ k_ = g)) (zHK) hk (.inl (.inr rfl))); replace HB := Ax (hb); replace HI0 := Ax (hi); (try clear hb); (try clear hb2); (try clear hk); (try clear hi)))
 (try simp only [Act.put, List.setIfInBounds_toArray, List.set_cons_zero, List.set_cons_succ])
 go_cut [1] (fun v1 wc => ∃ (kq : Nat) (x1_3 : List (S61)) (x1001_3 : Int) (x278000_3 : Int) (x278001_3 : Int) (x278002_3 : Int), Aside0 (spec_l71Bad.j1 kq x1_3 s0_0 x1001_3 x278000_3 x278001_3 x278002_3 = some (r1, r2)) ∧ Aside0 (kq ≤ k) ∧ Aside0 (Kd.R k61 61 wc w0.heap.size (fun k_ => (P1_ k_ ∨ w.heap.size ≤ k_) ∧ k_ ≠ gb277) v1 x1_3) ∧ Aside0 (wc.heap[gb277]? = some (.cells #[.int .u8 x278000_3, .int .i64 x278001_3, .int .i64 x278002_3] 61 (0, 0))) ∧ Aside0 (IsS66 w0 wc g s0_0 x1001_3) ∧ Aside0 (Kept w wc (fun k_ => (P1_ k_) ∨ k_ = g)) ∧ Aside0 (Below w0.heap.size w0 wc))
 case first =>
  have H := HC4.out
  clear HC4
  by_cases c9 : t278 = 0
  · rw [if_pos c9] at H
    have c9b0 : (t278 == 0) = true := beq_iff_eq.mpr c9
    have c9b1 : (t278 != 0) = false := bne_eq_false_iff_eq.mpr c9
    clear c9
    (first | rw [c9b0] | (simp only [i64_w, i32_w]; rw [c9b0]) | skip)
    obtain ⟨y280, hy_⟩ : ∃ y_ : List Int, y_ = (([65, 10, 0, 123, 47] : List Int)) := ⟨_, rfl⟩
    replace H : ((spec_l6Rd_pick.f k s0_0 t279 5).bind fun bt283 => (if 0 ≤ bt283.1 then (if bt283.1 < (y280.length : Int) then (spec_l71Bad.j1 k l1 s0_0 bt283.2 (rd y280 bt283.1) 0 0) else (none)) else (none))) = some (r1, r2) := zy
    have Ny280 := Ax hy_
    clear hy_
    obtain ⟨⟨t283, t284⟩, A10, H⟩ := bnd H
    dsimp only at H
    by_cases c11 : 0 ≤ t283
    rotate_left
    · rw [if_neg c11] at H
      exact absurd H (by simp)
    rw [if_pos c11] at H
    have c11b0 := decide_eq_true c11
    clear c11
    by_cases c12 : t283 < (y280.length : Int)
    rotate_left
    · rw [if_neg c12] at H
      exact absurd H (by simp)
    rw [if_pos c12] at H
    have c12b0 := decide_eq_true c12
    clear c12
    have H' := Ax H
    clear H
    go_wp2_with (first | ((with_reducible refine gate_dst (N := 11) rfl ?_); refine Kd.R_lit (Kd.int .u8) _ 5 ?hg (N := 11) ?hd (xs := ([65, 10, 0, 123, 47] : List Int)) (inner := [.int .u8 65, .int .u8 10, .int .u8 0, .int .u8 123, .int .u8 47]) (ok := fun _ => True) (okp := fun _ => True) ?hr ?hp (fun _ hk => hk) trivial (Below.refl _ _) (Nat.le_refl _) (by simp) ?_; (case hd => rfl); (case hg => rfl); (case hr => first | (go_simp; done) | (go_simp; rfl)); (case hp => exact (Reps.one (show Kd.M (Kd.int .u8) _ _ _ 65 [.int .u8 65] from rfl) (Reps.one (show Kd.M (Kd.int .u8) _ _ _ 10 [.int .u8 10] from rfl) (Reps.one (show Kd.M (Kd.int .u8) _ _ _ 0 [.int .u8 0] from rfl) (Reps.one (show Kd.M (Kd.int .u8) _ _ _ 123 [.int .u8 123] from rfl) (Reps.one (show Kd.M (Kd.int .u8) _ _ _ 47 [.int .u8 47] from rfl) (Reps.none _ _))))))); intro v281 w13 ho14 hb hg_ hnew_; clear hg_ hnew_; (first | rw [← Ny280.out] at ho14 | (simp only [Int.reduceToNat] at ho14; rw [← Ny280.out] at ho14)); replace HO1 := Ax (Kd.R_below (z2) hb); have HO282 := Ax (Kd.R_lower (Kd.R_newM (M := fun k_ => (P1_ k_ ∨ w.heap.size ≤ k_)) ho14 (z1) (fun k_ h_ => .inr h_)) (below_size (zHB))); replace BK277 := Ax (blk_below (g := gb277) (zK) hb); replace HK := Ax (Kept.below (S := (fun k_ => (P1_ k_) ∨ k_ = g)) (zHK) hb); replace HB := Ax (below_step (zHB) hb); replace HI0 := Ax (IsS66.below (zHI0) hb); clear hb ho14) | ((with_reducible refine gate_callee (f := 39) rfl ?_); refine goesL_ (some 13) rfl rfl Try.func39 (by kernel_rfl) rfl #[.pointer (some ⟨g, 0, none⟩), .int .i64 5] rfl (z3) ?_; (with_reducible refine (spec_l6Rd_pick.calls k g s0_0 t279 5 t283 t284 w0 _ ?side1 ?side2 A10.out).mono ?_); (case side1 => exact zHI0); (case side2 => exact zHB); rintro e w15 ⟨rfl, hi, hb, hk⟩; refine ⟨_, rfl, ?_⟩; replace HO1 := Ax (Kd.R_mono (Kd.R_keep (IsS66.apart (show IsS66 w0 _ g s0_0 t279 from zHI0) (z2) (by decide)) hk (fun _ h => h.2)) (fun _ h => h.1)); replace BK277 := Ax (KeepBut.blk hk (g' := gb277) (o := .cells #[.int .u8 120, .int .i64 0, .int .i64 0] 61 (0, 0)) (zK) NB277_0.out (by simp)); replace HO282 := Ax (Kd.R_mono (Kd.R_keep (IsS66.apart (show IsS66 w0 _ g s0_0 t279 from zHI0) (by (with_reducible repeat (first | apply Kd.R_alloc | apply Kd.R_drewN | apply Kd.R_drew)); exact HO282.out) (by decide)) hk (fun _ h => h.2)) (fun _ h => h.1)); replace HK := Ax (Kept.of_keep (S := (fun k_ => (P1_ k_) ∨ k_ = g)) (zHK) hk (.inl (.inr rfl))); replace HB := Ax (hb); replace HI0 := Ax (hi); (try clear hb); (try clear hb2); (try clear hk); (try clear hi); obtain ⟨Ao16, co16, eo16⟩ := Kd.R_slice HO282.out; subst eo16; have p285 : 0 ≤ (t283 : Int) := of_decide_eq_true (z6); have q285 : t283 < (y280.length : Int) := of_decide_eq_true (z6); obtain ⟨ad285, e285, hx285_0⟩ := Kd.at_int (Kd.R_reads' HO282.out).2.2 t283 p285 q285; cases e285; replace p285 := eq_true p285; replace q285 := eq_true q285; have hnb17 := NB277_0.out; have hnc17 := NB0_277.out; obtain ⟨_, _, _, _, _, _⟩ := cells3 BK277.out))
    go_meet
    exact ⟨_, (l1), (t284), (rd y280 t283), (0), (0), H', ⟨z10⟩, ⟨by (with_reducible repeat (first | apply Kd.R_alloc | apply Kd.R_drewN | apply Kd.R_drew)); exact Kd.R_mono (Kd.R_far (p := ⟨gb277, 0, none⟩) (Kd.R_mono HO1.out (fun k_ hk => (⟨hk, hk.2⟩ : _ ∧ k_ ≠ gb277))) (fun _ hk => hk.2) (.int .u8 (rd y280 t283))) (fun _ hk => ⟨hk.1.1, hk.1.2⟩)⟩, ⟨zK⟩, ⟨zHI0⟩, ⟨zHK⟩, ⟨zHB⟩⟩
  rw [if_neg c9] at H
  have c9b0 : (t278 == 0) = false := beq_eq_false_iff_ne.mpr c9
  have c9b1 : (t278 != 0) = true := bne_iff_ne.mpr c9
  (first | rw [c9b0] | (simp only [i64_w, i32_w]; rw [c9b0]) | skip)
  by_cases c19 : t278 = 1
  · rw [if_pos c19] at H
    have c19b0 : (t278 == 1) = true := beq_iff_eq.mpr c19
    have c19b1 : (t278 != 1) = false := bne_eq_false_iff_eq.mpr c19
    clear c19
    obtain ⟨y286, hy_⟩ : ∃ y_ : List Int, y_ = (([(-1), 4] : List Int)) := ⟨_, rfl⟩
    replace H : ((spec_l6Rd_pick.f k s0_0 t279 2).bind fun bt289 => (if 0 ≤ bt289.1 then (if bt289.1 < (y286.length : Int) then (spec_l71Bad.j1 k l1 s0_0 bt289.2 120 (rd y286 bt289.1) 0) else (none)) else (none))) = some (r1, r2) := zy
    have Ny286 := Ax hy_
    clear hy_
    obtain ⟨⟨t289, t290⟩, A20, H⟩ := bnd H
    dsimp only at H
    by_cases c21 : 0 ≤ t289
    rotate_left
    · rw [if_neg c21] at H
      exact absurd H (by simp)
    rw [if_pos c21] at H
    have c21b0 := decide_eq_true c21
    clear c21
    by_cases c22 : t289 < (y286.length : Int)
    rotate_left
    · rw [if_neg c22] at H
      exact absurd H (by simp)
    rw [if_pos c22] at H
    have c22b0 := decide_eq_true c22
    clear c22
    have H' := Ax H
    clear H
    go_wp2_with (first | ((with_reducible refine gate_dst (N := 19) rfl ?_); refine Kd.R_lit (Kd.int .i64) _ 3 ?hg (N := 19) ?hd (xs := ([(-1), 4] : List Int)) (inner := [.int .i64 (-1), .int .i64 4]) (ok := fun _ => True) (okp := fun _ => True) ?hr ?hp (fun _ hk => hk) trivial (Below.refl _ _) (Nat.le_refl _) (by simp) ?_; (case hd => rfl); (case hg => rfl); (case hr => first | (go_simp; done) | (go_simp; rfl)); (case hp => exact (Reps.one (show Kd.M (Kd.int .i64) _ _ _ (-1) [.int .i64 (-1)] from rfl) (Reps.one (show Kd.M (Kd.int .i64) _ _ _ 4 [.int .i64 4] from rfl) (Reps.none _ _)))); intro v287 w23 ho24 hb hg_ hnew_; clear hg_ hnew_; (first | rw [← Ny286.out] at ho24 | (simp only [Int.reduceToNat] at ho24; rw [← Ny286.out] at ho24)); replace HO1 := Ax (Kd.R_below (z2) hb); have HO288 := Ax (Kd.R_lower (Kd.R_newM (M := fun k_ => (P1_ k_ ∨ w.heap.size ≤ k_)) ho24 (z1) (fun k_ h_ => .inr h_)) (below_size (zHB))); replace BK277 := Ax (blk_below (g := gb277) (zK) hb); replace HK := Ax (Kept.below (S := (fun k_ => (P1_ k_) ∨ k_ = g)) (zHK) hb); replace HB := Ax (below_step (zHB) hb); replace HI0 := Ax (IsS66.below (zHI0) hb); clear hb ho24) | ((with_reducible refine gate_callee (f := 39) rfl ?_); refine goesL_ (some 21) rfl rfl Try.func39 (by kernel_rfl) rfl #[.pointer (some ⟨g, 0, none⟩), .int .i64 2] rfl (z3) ?_; (with_reducible refine (spec_l6Rd_pick.calls k g s0_0 t279 2 t289 t290 w0 _ ?side1 ?side2 A20.out).mono ?_); (case side1 => exact zHI0); (case side2 => exact zHB); rintro e w25 ⟨rfl, hi, hb, hk⟩; refine ⟨_, rfl, ?_⟩; replace HO1 := Ax (Kd.R_mono (Kd.R_keep (IsS66.apart (show IsS66 w0 _ g s0_0 t279 from zHI0) (z2) (by decide)) hk (fun _ h => h.2)) (fun _ h => h.1)); replace BK277 := Ax (KeepBut.blk hk (g' := gb277) (o := .cells #[.int .u8 120, .int .i64 0, .int .i64 0] 61 (0, 0)) (zK) NB277_0.out (by simp)); replace HO288 := Ax (Kd.R_mono (Kd.R_keep (IsS66.apart (show IsS66 w0 _ g s0_0 t279 from zHI0) (by (with_reducible repeat (first | apply Kd.R_alloc | apply Kd.R_drewN | apply Kd.R_drew)); exact HO288.out) (by decide)) hk (fun _ h => h.2)) (fun _ h => h.1)); replace HK := Ax (Kept.of_keep (S := (fun k_ => (P1_ k_) ∨ k_ = g)) (zHK) hk (.inl (.inr rfl))); replace HB := Ax (hb); replace HI0 := Ax (hi); (try clear hb); (try clear hb2); (try clear hk); (try clear hi); obtain ⟨Ao26, co26, eo26⟩ := Kd.R_slice HO288.out; subst eo26; have p291 : 0 ≤ (t289 : Int) := of_decide_eq_true (z6); have q291 : t289 < (y286.length : Int) := of_decide_eq_true (z6); obtain ⟨ad291, e291, hx291_0⟩ := Kd.at_int (Kd.R_reads' HO288.out).2.2 t289 p291 q291; cases e291; replace p291 := eq_true p291; replace q291 := eq_true q291; have hnb27 := NB277_0.out; have hnc27 := NB0_277.out; obtain ⟨_, _, _, _, _, _⟩ := cells3 BK277.out))
    go_meet
    exact ⟨_, (l1), (t290), (120), (rd y286 t289), (0), H', ⟨z10⟩, ⟨by (with_reducible repeat (first | apply Kd.R_alloc | apply Kd.R_drewN | apply Kd.R_drew)); exact Kd.R_mono (Kd.R_far (p := ⟨gb277, 1, none⟩) (Kd.R_mono HO1.out (fun k_ hk => (⟨hk, hk.2⟩ : _ ∧ k_ ≠ gb277))) (fun _ hk => hk.2) (.int .i64 (rd y286 t289))) (fun _ hk => ⟨hk.1.1, hk.1.2⟩)⟩, ⟨zK⟩, ⟨zHI0⟩, ⟨zHK⟩, ⟨zHB⟩⟩
  rw [if_neg c19] at H
  have c19b0 : (t278 == 1) = false := beq_eq_false_iff_ne.mpr c19
  have c19b1 : (t278 != 1) = true := bne_iff_ne.mpr c19
  by_cases c29 : t278 = 2
  · rw [if_pos c29] at H
    have c29b0 : (t278 == 2) = true := beq_iff_eq.mpr c29
    have c29b1 : (t278 != 2) = false := bne_eq_false_iff_eq.mpr c29
    clear c29
    obtain ⟨y292, hy_⟩ : ∃ y_ : List Int, y_ = (([(-1), 4] : List Int)) := ⟨_, rfl⟩
    replace H : ((spec_l6Rd_pick.f k s0_0 t279 2).bind fun bt295 => (if 0 ≤ bt295.1 then (if bt295.1 < (y292.length : Int) then (spec_l71Bad.j1 k l1 s0_0 bt295.2 120 0 (rd y292 bt295.1)) else (none)) else (none))) = some (r1, r2) := zy
    have Ny292 := Ax hy_
    clear hy_
    obtain ⟨⟨t295, t296⟩, A30, H⟩ := bnd H
    dsimp only at H
    by_cases c31 : 0 ≤ t295
    rotate_left
    · rw [if_neg c31] at H
      exact absurd H (by simp)
    rw [if_pos c31] at H
    have c31b0 := decide_eq_true c31
    clear c31
    by_cases c32 : t295 < (y292.length : Int)
    rotate_left
    · rw [if_neg c32] at H
      exact absurd H (by simp)
    rw [if_pos c32] at H
    have c32b0 := decide_eq_true c32
    clear c32
    have H' := Ax H
    clear H
    go_wp2_with (first | ((with_reducible refine gate_dst (N := 27) rfl ?_); refine Kd.R_lit (Kd.int .i64) _ 3 ?hg (N := 27) ?hd (xs := ([(-1), 4] : List Int)) (inner := [.int .i64 (-1), .int .i64 4]) (ok := fun _ => True) (okp := fun _ => True) ?hr ?hp (fun _ hk => hk) trivial (Below.refl _ _) (Nat.le_refl _) (by simp) ?_; (case hd => rfl); (case hg => rfl); (case hr => first | (go_simp; done) | (go_simp; rfl)); (case hp => exact (Reps.one (show Kd.M (Kd.int .i64) _ _ _ (-1) [.int .i64 (-1)] from rfl) (Reps.one (show Kd.M (Kd.int .i64) _ _ _ 4 [.int .i64 4] from rfl) (Reps.none _ _)))); intro v293 w33 ho34 hb hg_ hnew_; clear hg_ hnew_; (first | rw [← Ny292.out] at ho34 | (simp only [Int.reduceToNat] at ho34; rw [← Ny292.out] at ho34)); replace HO1 := Ax (Kd.R_below (z2) hb); have HO294 := Ax (Kd.R_lower (Kd.R_newM (M := fun k_ => (P1_ k_ ∨ w.heap.size ≤ k_)) ho34 (z1) (fun k_ h_ => .inr h_)) (below_size (zHB))); replace BK277 := Ax (blk_below (g := gb277) (zK) hb); replace HK := Ax (Kept.below (S := (fun k_ => (P1_ k_) ∨ k_ = g)) (zHK) hb); replace HB := Ax (below_step (zHB) hb); replace HI0 := Ax (IsS66.below (zHI0) hb); clear hb ho34) | ((with_reducible refine gate_callee (f := 39) rfl ?_); refine goesL_ (some 29) rfl rfl Try.func39 (by kernel_rfl) rfl #[.pointer (some ⟨g, 0, none⟩), .int .i64 2] rfl (z3) ?_; (with_reducible refine (spec_l6Rd_pick.calls k g s0_0 t279 2 t295 t296 w0 _ ?side1 ?side2 A30.out).mono ?_); (case side1 => exact zHI0); (case side2 => exact zHB); rintro e w35 ⟨rfl, hi, hb, hk⟩; refine ⟨_, rfl, ?_⟩; replace HO1 := Ax (Kd.R_mono (Kd.R_keep (IsS66.apart (show IsS66 w0 _ g s0_0 t279 from zHI0) (z2) (by decide)) hk (fun _ h => h.2)) (fun _ h => h.1)); replace BK277 := Ax (KeepBut.blk hk (g' := gb277) (o := .cells #[.int .u8 120, .int .i64 0, .int .i64 0] 61 (0, 0)) (zK) NB277_0.out (by simp)); replace HO294 := Ax (Kd.R_mono (Kd.R_keep (IsS66.apart (show IsS66 w0 _ g s0_0 t279 from zHI0) (by (with_reducible repeat (first | apply Kd.R_alloc | apply Kd.R_drewN | apply Kd.R_drew)); exact HO294.out) (by decide)) hk (fun _ h => h.2)) (fun _ h => h.1)); replace HK := Ax (Kept.of_keep (S := (fun k_ => (P1_ k_) ∨ k_ = g)) (zHK) hk (.inl (.inr rfl))); replace HB := Ax (hb); replace HI0 := Ax (hi); (try clear hb); (try clear hb2); (try clear hk); (try clear hi); obtain ⟨Ao36, co36, eo36⟩ := Kd.R_slice HO294.out; subst eo36; have p297 : 0 ≤ (t295 : Int) := of_decide_eq_true (z6); have q297 : t295 < (y292.length : Int) := of_decide_eq_true (z6); obtain ⟨ad297, e297, hx297_0⟩ := Kd.at_int (Kd.R_reads' HO294.out).2.2 t295 p297 q297; cases e297; replace p297 := eq_true p297; replace q297 := eq_true q297; have hnb37 := NB277_0.out; have hnc37 := NB0_277.out; obtain ⟨_, _, _, _, _, _⟩ := cells3 BK277.out))
    go_meet
    exact ⟨_, (l1), (t296), (120), (0), (rd y292 t295), H', ⟨z10⟩, ⟨by (with_reducible repeat (first | apply Kd.R_alloc | apply Kd.R_drewN | apply Kd.R_drew)); exact Kd.R_mono (Kd.R_far (p := ⟨gb277, 2, none⟩) (Kd.R_mono HO1.out (fun k_ hk => (⟨hk, hk.2⟩ : _ ∧ k_ ≠ gb277))) (fun _ hk => hk.2) (.int .i64 (rd y292 t295))) (fun _ hk => ⟨hk.1.1, hk.1.2⟩)⟩, ⟨zK⟩, ⟨zHI0⟩, ⟨zHK⟩, ⟨zHB⟩⟩
  rw [if_neg c29] at H
  have c29b0 : (t278 == 2) = false := beq_eq_false_iff_ne.mpr c29
  have c29b1 : (t278 != 2) = true := bne_iff_ne.mpr c29
  by_cases c39 : t278 = 3
  · rw [if_pos c39] at H
    have c39b0 : (t278 == 3) = true := beq_iff_eq.mpr c39
    have c39b1 : (t278 != 3) = false := bne_eq_false_iff_eq.mpr c39
    clear c39
    have H' := Ax H
    clear H
    have hnb40 := NB277_0.out
    have hnc40 := NB0_277.out
    obtain ⟨_, _, _, _, _, _⟩ := cells3 BK277.out
    go_wp2
    go_meet
    exact ⟨_, (l1), (t279), (120), (2), (2), H', ⟨z10⟩, ⟨by (with_reducible repeat (first | apply Kd.R_alloc | apply Kd.R_drewN | apply Kd.R_drew)); exact Kd.R_mono (Kd.R_far (p := ⟨gb277, 2, none⟩) (Kd.R_far (p := ⟨gb277, 1, none⟩) (Kd.R_mono HO1.out (fun k_ hk => (⟨hk, hk.2⟩ : _ ∧ k_ ≠ gb277))) (fun _ hk => hk.2) (.int .i64 2)) (fun _ hk => hk.2) (.int .i64 2)) (fun _ hk => ⟨hk.1.1, hk.1.2⟩)⟩, ⟨zK⟩, ⟨zHI0⟩, ⟨zHK⟩, ⟨zHB⟩⟩
  rw [if_neg c39] at H
  have c39b0 : (t278 == 3) = false := beq_eq_false_iff_ne.mpr c39
  have c39b1 : (t278 != 3) = true := bne_iff_ne.mpr c39
  by_cases c42 : t278 = 4
  rotate_left
  · rw [if_neg c42] at H
    have c42b0 : (t278 == 4) = false := beq_eq_false_iff_ne.mpr c42
    have c42b1 : (t278 != 4) = true := bne_iff_ne.mpr c42
    have H' := Ax H
    clear H
    go_wp2
    go_meet
    exact ⟨_, (l1), (t279), (120), (0), (0), H', ⟨z10⟩, ⟨z2⟩, ⟨zK⟩, ⟨zHI0⟩, ⟨zHK⟩, ⟨zHB⟩⟩
  rw [if_pos c42] at H
  have c42b0 : (t278 == 4) = true := beq_iff_eq.mpr c42
  have c42b1 : (t278 != 4) = false := bne_eq_false_iff_eq.mpr c42
  clear c42
  have H' := Ax H
  clear H
  go_wp2
  go_loopg [1] k (fun kq v1 w' => ∃ (x1_1 : List (S61)) (x1001_1 : Int), Aside0 (spec_l71Bad.l0 kq x1_1 s0_0 x1001_1 120 0 0 = some (r1, r2)) ∧ Aside0 (kq ≤ k) ∧ Aside0 (Kd.R k61 61 w' w0.heap.size (fun k_ => (P1_ k_ ∨ w.heap.size ≤ k_) ∧ k_ ≠ gb277) v1 x1_1) ∧ Aside0 (w'.heap[gb277]? = some (.cells #[.int .u8 120, .int .i64 0, .int .i64 0] 61 (0, 0))) ∧ Aside0 (IsS66 w0 w' g s0_0 x1001_1) ∧ Aside0 (Kept w w' (fun k_ => (P1_ k_) ∨ k_ = g)) ∧ Aside0 (Below w0.heap.size w0 w'))
  case atStart => exact ⟨(l1), (t279), H', ⟨Nat.le_refl _⟩, ⟨z2⟩, ⟨zK⟩, ⟨zHI0⟩, ⟨zHK⟩, ⟨zHB⟩⟩
  clear H'
  (try clear c9); (try clear c9b0); (try clear c9b1); (try clear c19); (try clear c19b0); (try clear c19b1); (try clear c29); (try clear c29b0); (try clear c29b1); (try clear c39); (try clear c39b0); (try clear c39b1); (try clear c42); (try clear c42b0); (try clear c42b1); (try clear hcz7_0); (try clear hcz7_1); (try clear hcz7_2); (try clear hfz7_0); (try clear hfz7_1); (try clear hfz7_2)
  obtain ⟨x1_1, x1001_1, HA, HK1, HO_1, BK277, HI0, HK, HB⟩ := hrel
  cases gk with
  | zero => exact absurd HA.out (by simp [spec_l71Bad.l0])
  | succ k1 =>
   have H := HA.out
   clear HA
   simp only [spec_l71Bad.l0] at H
   obtain ⟨⟨t298, t299⟩, A43, H⟩ := bnd H
   dsimp only at H
   by_cases c44 : (x1_1.length : Int) < (wrap64 (24 + t298))
   rotate_left
   · rw [if_neg c44] at H
     have c44b0 := decide_eq_false c44
     clear c44
     simp only [Option.some.injEq, Prod.mk.injEq] at H
     obtain ⟨rfl, rfl⟩ := H
     obtain ⟨Ao54, co54, eo54⟩ := Kd.R_slice HO_1.out
     subst eo54
     go_wp2_with (first | ((with_reducible refine gate_callee (f := 39) rfl ?_); refine goesL_ (some 42) rfl rfl Try.func39 (by kernel_rfl) rfl #[.pointer (some ⟨g, 0, none⟩), .int .i64 2] rfl (z3) ?_; (with_reducible refine (spec_l6Rd_pick.calls k1 g s0_0 x1001_1 2 t298 t299 w0 _ ?side1 ?side2 A43.out).mono ?_); (case side1 => exact zHI0); (case side2 => exact zHB); rintro e w55 ⟨rfl, hi, hb, hk⟩; refine ⟨_, rfl, ?_⟩; replace HO_1 := Ax (Kd.R_mono (Kd.R_keep (IsS66.apart (show IsS66 w0 _ g s0_0 x1001_1 from zHI0) (z0) (by decide)) hk (fun _ h => h.2)) (fun _ h => h.1)); replace BK277 := Ax (KeepBut.blk hk (g' := gb277) (o := .cells #[.int .u8 120, .int .i64 0, .int .i64 0] 61 (0, 0)) (zK) NB277_0.out (by simp)); replace HK := Ax (Kept.of_keep (S := (fun k_ => (P1_ k_) ∨ k_ = g)) (zHK) hk (.inl (.inr rfl))); replace HB := Ax (hb); replace HI0 := Ax (hi); (try clear hb); (try clear hb2); (try clear hk); (try clear hi)))
     go_ret
     exact ⟨_, z13, by (with_reducible repeat (first | apply Kd.R_alloc | apply Kd.R_drewN | apply Kd.R_drew)); exact Kd.R_mono HO_1.out (fun _ hk => hk.1), zHI0, zHB, zHK⟩
   rw [if_pos c44] at H
   have c44b0 := decide_eq_true c44
   clear c44
   obtain ⟨y300, hy_⟩ : ∃ y_ : List (S61), y_ = (([(⟨120, 0, 0⟩ : S61)] : List (S61))) := ⟨_, rfl⟩
   replace H : (if x1_1.length + y300.length < 5864062014805 then (spec_l71Bad.l0 k1 (x1_1 ++ y300) s0_0 t299 120 0 0) else (none)) = some (r1, r2) := zy
   have Ny300 := Ax hy_
   clear hy_
   by_cases c45 : x1_1.length + y300.length < 5864062014805
   rotate_left
   · rw [if_neg c45] at H
     exact absurd H (by simp)
   rw [if_pos c45] at H
   have LMc45 := Ax c45
   clear c45
   obtain ⟨y303, hy_⟩ : ∃ y_ : List (S61), y_ = (x1_1 ++ y300) := ⟨_, rfl⟩
   replace H : (spec_l71Bad.l0 k1 y303 s0_0 t299 120 0 0) = some (r1, r2) := zy
   have Ny303 := Ax hy_
   clear hy_
   have H' := Ax H
   clear H
   obtain ⟨Ao46, co46, eo46⟩ := Kd.R_slice HO_1.out
   subst eo46
   go_wp2_with (first | ((with_reducible refine gate_callee (f := 39) rfl ?_); refine goesL_ (some 42) rfl rfl Try.func39 (by kernel_rfl) rfl #[.pointer (some ⟨g, 0, none⟩), .int .i64 2] rfl (z3) ?_; (with_reducible refine (spec_l6Rd_pick.calls k1 g s0_0 x1001_1 2 t298 t299 w0 _ ?side1 ?side2 A43.out).mono ?_); (case side1 => exact zHI0); (case side2 => exact zHB); rintro e w47 ⟨rfl, hi, hb, hk⟩; refine ⟨_, rfl, ?_⟩; replace HO_1 := Ax (Kd.R_mono (Kd.R_keep (IsS66.apart (show IsS66 w0 _ g s0_0 x1001_1 from zHI0) (z0) (by decide)) hk (fun _ h => h.2)) (fun _ h => h.1)); replace BK277 := Ax (KeepBut.blk hk (g' := gb277) (o := .cells #[.int .u8 120, .int .i64 0, .int .i64 0] 61 (0, 0)) (zK) NB277_0.out (by simp)); replace HK := Ax (Kept.of_keep (S := (fun k_ => (P1_ k_) ∨ k_ = g)) (zHK) hk (.inl (.inr rfl))); replace HB := Ax (hb); replace HI0 := Ax (hi); (try clear hb); (try clear hb2); (try clear hk); (try clear hi); have hnb48 := NB277_0.out; have hnc48 := NB0_277.out; obtain ⟨_, _, _, _, _, _⟩ := cells3 BK277.out) | ((with_reducible refine gate_dst (N := 47) rfl ?_); refine Kd.R_lit k61 _ 61 ?hg (N := 47) ?hd (xs := ([(⟨120, 0, 0⟩ : S61)] : List (S61))) (inner := [.int .u8 120, .int .i64 0, .int .i64 0]) (ok := fun _ => True) (okp := fun _ => True) ?hr ?hp (fun _ hk => hk) trivial (Below.refl _ _) (Nat.le_refl _) (by simp) ?_; (case hd => rfl); (case hg => rfl); (case hr => first | (go_simp; done) | (go_simp; rfl)); (case hp => exact (Reps.c3 (show Kd.M k61 _ _ _ (⟨120, 0, 0⟩ : S61) [.int .u8 120, .int .i64 0, .int .i64 0] from (k61_mkM _ _ _ (⟨120, 0, 0⟩ : S61) )) (Reps.none _ _))); intro v301 w50 ho51 hb hg_ hnew_; clear hg_ hnew_; (first | rw [← Ny300.out] at ho51 | (simp only [Int.reduceToNat] at ho51; rw [← Ny300.out] at ho51)); have HO302 := Ax (Kd.R_lower (Kd.R_newB (Kd.R_new' (Kd.R_newM (M := fun k_ => (P1_ k_ ∨ w.heap.size ≤ k_)) ho51 (z1) (fun k_ h_ => .inr h_)) (Kd.R_lt (z0))) (g := gb277) (o := .cells #[.int .u8 120, .int .i64 0, .int .i64 0] 61 (0, 0)) (zK)) (below_size (zHB))); replace HO_1 := Ax (Kd.R_elder' (z0) (Kd.R_base ho51) hb); replace BK277 := Ax (blk_below (g := gb277) (zK) hb); replace HK := Ax (Kept.below (S := (fun k_ => (P1_ k_) ∨ k_ = g)) (zHK) hb); replace HB := Ax (below_step (zHB) hb); replace HI0 := Ax (IsS66.below (zHI0) hb); clear hb ho51; obtain ⟨Ao53, co53, eo53⟩ := Kd.R_slice HO302.out; subst eo53) | ((with_reducible refine gate_builtin (b := .append) (xs := #[.tmp 45, .tmp 47]) rfl ?_); at_builtin; refine Kd.R_append_rows k61 (w0 := w0) w0.heap.size rfl (.tmp 45) (.tmp 47) 28 61 (.agg #[(.int .u8 0), (.int .i64 0), (.int .i64 0)]) 24 rfl Try.underlying28 info61 rfl (by decide) (by omega) (.slice Ao46 x1_1.length co46) x1_1 y300 _ _ _ (fun k_ => (P1_ k_ ∨ w.heap.size ≤ k_) ∧ some k_ ≠ (.slice Ao53 y300.length co53 : Value).ownBlock ∧ k_ ≠ gb277) (fun _ => False) rfl rfl ?aO ?aR (fun _ _ h => h) (fun _ h => h.elim) ?aF ?aB ?aS ?aL ?_; (case aR => repeat (first | exact (Kd.R_reads' HO302.out).2.2 | (with_reducible refine Kd.C_alloc ?_ _) | (with_reducible refine Kd.C_drewN ?_ _) | (with_reducible refine Kd.C_drew ?_))); (case aB => exact (zHB)); (case aF => exact (fun k_ hk => ⟨(.inr (Nat.le_trans (z1) hk)), Kd.fresh' (Kd.R_lt (by (with_reducible repeat (first | apply Kd.R_alloc | apply Kd.R_drewN | apply Kd.R_drew)); exact HO302.out)) k_ hk, Kd.freshB (g := gb277) (o := .cells #[.int .u8 120, .int .i64 0, .int .i64 0] 61 (0, 0)) (zK) k_ hk⟩)); (case aO => exact (by (with_reducible repeat (first | apply Kd.R_alloc | apply Kd.R_drewN | apply Kd.R_drew)); exact Kd.R_mono HO_1.out (fun _ hk => ⟨hk.1.1, ⟨hk.2, hk.1.2⟩⟩))); (case aS => exact (below_size (zHB))); (case aL => have := LMc45.out; omega); intro v304 w52 ho hb hg hat; rw [← Ny303.out] at ho; replace BK277 := Ax (blk_grown (g := gb277) (zK) hg (Kd.R_away HO_1.out (fun _ hk => hk.1.2))); replace HI0 := Ax (IsS66.grown (zHI0) hg (IsS66.own_ne HI0.out HO_1.out (by decide))); replace HO302 := Ax (Kd.R_after (ok := (fun k_ => (P1_ k_ ∨ w.heap.size ≤ k_) ∧ k_ ≠ gb277)) (by (with_reducible repeat (first | apply Kd.R_alloc | apply Kd.R_drewN | apply Kd.R_drew)); exact Kd.R_mono HO302.out (fun _ hk => ⟨⟨hk.1.1.1, hk.2⟩, hk.1.2⟩)) hg hat); replace HB := Ax (hb); replace HK := Ax (Kept.of_grown (S := (fun k_ => (P1_ k_) ∨ k_ = g)) hg (zHK) (fun k_ e_ => Or.imp_left Or.inl ((HO_1.out.1 k_ e_).1.1))); have HO305 := Ax (ho); clear HO_1; clear ho hb hg hat))
   go_roundg k1
   case measure => have := HK1.out; omega
   exact ⟨(y303), (t299), H', ⟨by have := HK1.out; omega⟩, ⟨by (with_reducible repeat (first | apply Kd.R_alloc | apply Kd.R_drewN | apply Kd.R_drew)); exact Kd.R_mono HO305.out (fun _ hk => ⟨hk.1, hk.2.2⟩)⟩, ⟨zK⟩, ⟨zHI0⟩, ⟨zHK⟩, ⟨zHB⟩⟩
 clear HC4
 (try clear hcz7_0); (try clear hcz7_1); (try clear hcz7_2); (try clear hfz7_0); (try clear hfz7_1); (try clear hfz7_2)
 obtain ⟨kq, x1_3, x1001_3, x278000_3, x278001_3, x278002_3, HA, HJ3, HO_1, BK277, HI0, HK, HB⟩ := hcut
 cases kq with
 | zero => exact absurd HA.out (by simp [spec_l71Bad.j1])
 | succ kj3 =>
  have H := HA.out
  clear HA
  simp only [spec_l71Bad.j1] at H
  obtain ⟨y306, hy_⟩ : ∃ y_ : List (S61), y_ = (([] : List (S61))) := ⟨_, rfl⟩
  replace H : (if y306.length + x1_3.length < 5864062014805 then ((some (y306 ++ x1_3 : List (S61))).bind fun y309 => ((some (([(⟨x278000_3, x278001_3, x278002_3⟩ : S61)] : List (S61)) : List (S61))).bind fun y312 => (if y309.length + y312.length < 5864062014805 then (some ((y309 ++ y312), x1001_3)) else (none)))) else (none)) = some (r1, r2) := zy
  have Ny306 := Ax hy_
  clear hy_
  by_cases c56 : y306.length + x1_3.length < 5864062014805
  rotate_left
  · rw [if_neg c56] at H
    exact absurd H (by simp)
  rw [if_pos c56] at H
  have LMc56 := Ax c56
  clear c56
  obtain ⟨y309, hy_⟩ : ∃ y_ : List (S61), y_ = (y306 ++ x1_3) := ⟨_, rfl⟩
  replace H : ((some (([(⟨x278000_3, x278001_3, x278002_3⟩ : S61)] : List (S61)) : List (S61))).bind fun y312 => (if y309.length + y312.length < 5864062014805 then (some ((y309 ++ y312), x1001_3)) else (none))) = some (r1, r2) := zy
  have Ny309 := Ax hy_
  clear hy_
  obtain ⟨y312, hy_⟩ : ∃ y_ : List (S61), y_ = (([(⟨x278000_3, x278001_3, x278002_3⟩ : S61)] : List (S61))) := ⟨_, rfl⟩
  replace H : (if y309.length + y312.length < 5864062014805 then (some ((y309 ++ y312), x1001_3)) else (none)) = some (r1, r2) := zy
  have Ny312 := Ax hy_
  clear hy_
  by_cases c57 : y309.length + y312.length < 5864062014805
  rotate_left
  · rw [if_neg c57] at H
    exact absurd H (by simp)
  rw [if_pos c57] at H
  have LMc57 := Ax c57
  clear c57
  obtain ⟨y315, hy_⟩ : ∃ y_ : List (S61), y_ = (y309 ++ y312) := ⟨_, rfl⟩
  replace H : (some (y315, x1001_3)) = some (r1, r2) := zy
  have Ny315 := Ax hy_
  clear hy_
  simp only [Option.some.injEq, Prod.mk.injEq] at H
  obtain ⟨rfl, rfl⟩ := H
  obtain ⟨Ao58, co58, eo58⟩ := Kd.R_slice HO_1.out
  subst eo58
  try go_wp2
  replace HO_1 := Ax (Kd.R_drew HO_1.out)
  replace BK277 := Ax (blk_drew BK277.out)
  replace HI0 := Ax (IsS66.drew HI0.out)
  replace HK := Ax (Kept.drew HK.out)
  replace HB := Ax (below_drew1 HB.out)
  refine start_ (n := 7) (S := fun w' => w'.cell? ⟨gb277, 0, none⟩ = some (.int .u8 x278000_3) ∧ w'.cell? ⟨gb277, 1, none⟩ = some (.int .i64 x278001_3) ∧ w'.cell? ⟨gb277, 2, none⟩ = some (.int .i64 x278002_3)) (ds := []) #[false, false, false, false, false, false, false] (by kernel_rfl) rfl rfl ⟨(blk_cell BK277.out 0).trans rfl, (blk_cell BK277.out 1).trans rfl, (blk_cell BK277.out 2).trans rfl⟩ (fun hHeld => ?_)
  generalize wc.drew = w59 at HO_1 BK277 HI0 HK HB hHeld ⊢
  refine pure_ (i := 1) (N := some 51) (v := ?_) (a' := ?_) (bl 7 2) rfl rfl (by kernel_rfl) (fun _ _ _ h => h) (Or.inl ⟨by rfl, ?_⟩) ?_ ?_
  rotate_left
  · exact zEv
  rotate_left
  · exact zAct
  refine take_ (i := 3) (N := some 53) (v := ?_) (a' := ?_) (bl 7 10) rfl rfl (by kernel_rfl) (fun _ _ _ h => h) (Or.inl ⟨by rfl, ?_⟩) hHeld ?_ ?_
  rotate_left
  · rintro w' ⟨s0, s1, s2⟩
    go_simp
    with_reducible rfl
  rotate_left
  · exact zAct
  refine join_ (σ := Value × Value × Value) 2 #[true, true, true, true, true, false, false] (fun s_ => [(50, s_.1), (52, s_.2.1), (54, s_.2.2)]) (fun s_ w' => (w'.cell? ⟨gb277, 0, none⟩ = some (.int .u8 x278000_3) ∧ w'.cell? ⟨gb277, 1, none⟩ = some (.int .i64 x278001_3) ∧ w'.cell? ⟨gb277, 2, none⟩ = some (.int .i64 x278002_3)) ∧ (Kd.R k61 61 w' w0.heap.size (fun k_ => (P1_ k_ ∨ w.heap.size ≤ k_) ∧ some k_ ≠ (s_.2.2 : Value).ownBlock ∧ some k_ ≠ (.slice Ao58 x1_3.length co58 : Value).ownBlock ∧ k_ ≠ gb277) s_.2.1 y309) ∧ (Kd.R k61 61 w' w0.heap.size (fun k_ => (P1_ k_ ∨ w.heap.size ≤ k_) ∧ some k_ ≠ (s_.2.1 : Value).ownBlock ∧ some k_ ≠ (.slice Ao58 x1_3.length co58 : Value).ownBlock ∧ k_ ≠ gb277) s_.2.2 y312) ∧ (Kd.R k61 61 w' w0.heap.size (fun k_ => (P1_ k_ ∨ w.heap.size ≤ k_) ∧ some k_ ≠ (s_.2.1 : Value).ownBlock ∧ some k_ ≠ (s_.2.2 : Value).ownBlock ∧ k_ ≠ gb277) (.slice Ao58 x1_3.length co58) x1_3) ∧ (w'.heap[gb277]? = some (.cells #[.int .u8 x278000_3, .int .i64 x278001_3, .int .i64 x278002_3] 61 (0, 0))) ∧ (IsS66 w0 w' g s0_0 x1001_3) ∧ (Kept w w' (fun k_ => (P1_ k_) ∨ k_ = g)) ∧ (Below w0.heap.size w0 w')) ?_ ?_
  rotate_left
  · intro hCont
    refine two_ (i := 0) (j := 4) (Ni := some 50) (Nj := some 54) #[true, true, false, true, false, false, false] #[false, true, false, true, true, false, false] rfl rfl rfl rfl (by kernel_rfl) (by decide) (by decide) (fun K hK => ?_) (fun K hK => ?_)
    · skip
      refine Kd.R_lit_step k61 _ 61 ?hg (N := 50) ?hd (xs := ([] : List (S61))) (inner := []) (ok := fun _ => True) (okp := fun _ => True) ?hr ?hp (fun _ hk => hk) trivial (Below.refl _ _) (Nat.le_refl _) (by simp) ?_; (case hd => rfl); (case hg => rfl); (case hr => first | (go_simp; done) | (go_simp; rfl)); (case hp => exact (Reps.none _ _))
      intro v307 w60 ho61 hb hg_ hnew_
      clear hg_ hnew_
      (first | rw [← Ny306.out] at ho61 | (simp only [Int.reduceToNat] at ho61; rw [← Ny306.out] at ho61))
      have HO308 := Ax (Kd.R_lower (Kd.R_newB (Kd.R_new' (Kd.R_newM (M := fun k_ => (P1_ k_ ∨ w.heap.size ≤ k_)) ho61 (z1) (fun k_ h_ => .inr h_)) (Kd.R_lt (z0))) (g := gb277) (o := .cells #[.int .u8 x278000_3, .int .i64 x278001_3, .int .i64 x278002_3] 61 (0, 0)) (zK)) (below_size (zHB)))
      replace HO_1 := Ax (Kd.R_elder' (z0) (Kd.R_base ho61) hb)
      replace BK277 := Ax (blk_below (g := gb277) (zK) hb)
      replace HK := Ax (Kept.below (S := (fun k_ => (P1_ k_) ∨ k_ = g)) (zHK) hb)
      replace HB := Ax (below_step (zHB) hb)
      replace HI0 := Ax (IsS66.below (zHI0) hb)
      clear hb ho61
      refine hK.out _ _ ⟨(blk_cell BK277.out 0).trans rfl, (blk_cell BK277.out 1).trans rfl, (blk_cell BK277.out 2).trans rfl⟩ (fun hHeld => ?_)
      clear hK K
      refine norm_ (a' := ?_) ?_ ?_
      rotate_left
      · show Act.put _ (some 50) _ = _
        exact zAct
      refine two_ (i := 2) (j := 4) (Ni := some 52) (Nj := some 54) #[true, true, true, true, false, false, false] #[true, true, false, true, true, false, false] rfl rfl rfl rfl (by kernel_rfl) (by decide) (by decide) (fun K hK => ?_) (fun K hK => ?_)
      · skip
        refine Kd.R_append_rows_step k61 (w0 := w0) w0.heap.size (by rfl) (.tmp 50) (.tmp 51) 28 61 (.agg #[(.int .u8 0), (.int .i64 0), (.int .i64 0)]) 24 rfl Try.underlying28 info61 rfl (by decide) (by omega) v307 y306 x1_3 _ _ _ (fun k_ => (P1_ k_ ∨ w.heap.size ≤ k_) ∧ some k_ ≠ (.slice Ao58 x1_3.length co58 : Value).ownBlock ∧ k_ ≠ gb277) (fun _ => False) rfl rfl ?aO ?aR (fun _ _ h => h) (fun _ h => h.elim) ?aF ?aB ?aS ?aL ?_
        (case aR => repeat (first | exact (Kd.R_reads' HO_1.out).2.2 | (with_reducible refine Kd.C_alloc ?_ _) | (with_reducible refine Kd.C_drewN ?_ _) | (with_reducible refine Kd.C_drew ?_)))
        (case aB => exact (zHB))
        (case aF => exact (fun k_ hk => ⟨(.inr (Nat.le_trans (z1) hk)), Kd.fresh' (Kd.R_lt (z0)) k_ hk, Kd.freshB (g := gb277) (o := .cells #[.int .u8 x278000_3, .int .i64 x278001_3, .int .i64 x278002_3] 61 (0, 0)) (zK) k_ hk⟩))
        (case aO => exact (by (with_reducible repeat (first | apply Kd.R_alloc | apply Kd.R_drewN | apply Kd.R_drew)); exact Kd.R_mono HO308.out (fun _ hk => ⟨hk.1.1.1, ⟨hk.1.2, hk.2⟩⟩)))
        (case aS => exact (below_size (zHB)))
        (case aL => have := LMc56.out; omega)
        intro v310 w62 ho hb hg hat
        rw [← Ny309.out] at ho
        replace HO_1 := Ax (Kd.R_after (ok := (fun k_ => (P1_ k_ ∨ w.heap.size ≤ k_) ∧ k_ ≠ gb277)) (z0) hg hat)
        replace BK277 := Ax (blk_grown (g := gb277) (zK) hg (Kd.R_away HO308.out (fun _ hk => hk.2)))
        replace HI0 := Ax (IsS66.grown (zHI0) hg (IsS66.own_ne HI0.out HO308.out (by decide)))
        replace HB := Ax (hb)
        replace HK := Ax (Kept.of_grown (S := (fun k_ => (P1_ k_) ∨ k_ = g)) hg (zHK) (fun k_ e_ => Or.imp_left Or.inl ((HO308.out.1 k_ e_).1.1.1)))
        have HO311 := Ax (ho)
        clear HO308
        clear ho hb hg hat
        refine hK.out _ _ ⟨(blk_cell BK277.out 0).trans rfl, (blk_cell BK277.out 1).trans rfl, (blk_cell BK277.out 2).trans rfl⟩ (fun hHeld => ?_)
        clear hK K
        refine norm_ (a' := ?_) ?_ ?_
        rotate_left
        · show Act.put _ (some 52) _ = _
          exact zAct
        refine one_ (i := 4) (N := some 54) (bl 7 31) rfl rfl (by kernel_rfl) (by decide) (fun K hK => ?_)
        refine Kd.R_lit_step k61 _ 61 ?hg (N := 54) ?hd (xs := ([(⟨x278000_3, x278001_3, x278002_3⟩ : S61)] : List (S61))) (inner := [.int .u8 x278000_3, .int .i64 x278001_3, .int .i64 x278002_3]) (ok := fun _ => True) (okp := fun _ => True) ?hr ?hp (fun _ hk => hk) trivial (Below.refl _ _) (Nat.le_refl _) (by simp) ?_; (case hd => rfl); (case hg => rfl); (case hr => first | (go_simp; done) | (go_simp; rfl)); (case hp => exact (Reps.c3 (show Kd.M k61 _ _ _ (⟨x278000_3, x278001_3, x278002_3⟩ : S61) [.int .u8 x278000_3, .int .i64 x278001_3, .int .i64 x278002_3] from (k61_mkM _ _ _ (⟨x278000_3, x278001_3, x278002_3⟩ : S61) )) (Reps.none _ _)))
        intro v313 w63 ho64 hb hg_ hnew_
        clear hg_ hnew_
        (first | rw [← Ny312.out] at ho64 | (simp only [Int.reduceToNat] at ho64; rw [← Ny312.out] at ho64))
        have HO314 := Ax (Kd.R_lower (Kd.R_newB (Kd.R_new' (Kd.R_new' (Kd.R_newM (M := fun k_ => (P1_ k_ ∨ w.heap.size ≤ k_)) ho64 (z1) (fun k_ h_ => .inr h_)) (Kd.R_lt (z0))) (Kd.R_lt (z11))) (g := gb277) (o := .cells #[.int .u8 x278000_3, .int .i64 x278001_3, .int .i64 x278002_3] 61 (0, 0)) (zK)) (below_size (zHB)))
        replace HO_1 := Ax (Kd.R_elder' (z0) (Kd.R_base ho64) hb)
        replace HO311 := Ax (Kd.R_elder' (z11) (Kd.R_base ho64) hb)
        replace BK277 := Ax (blk_below (g := gb277) (zK) hb)
        replace HK := Ax (Kept.below (S := (fun k_ => (P1_ k_) ∨ k_ = g)) (zHK) hb)
        replace HB := Ax (below_step (zHB) hb)
        replace HI0 := Ax (IsS66.below (zHI0) hb)
        clear hb ho64
        refine hK.out _ _ ⟨(blk_cell BK277.out 0).trans rfl, (blk_cell BK277.out 1).trans rfl, (blk_cell BK277.out 2).trans rfl⟩ (fun hHeld => ?_)
        clear hK K
        refine norm_ (a' := ?_) ?_ ?_
        rotate_left
        · show Act.put _ (some 54) _ = _
          exact zAct
        exact norm_ (z7) (hCont (v307, v310, v313) _ ⟨hHeld, (by (with_reducible repeat (first | apply Kd.R_alloc | apply Kd.R_drewN | apply Kd.R_drew)); exact Kd.R_mono HO311.out (fun _ hk => ⟨hk.1.1, ⟨hk.2, ⟨hk.1.2.1, hk.1.2.2⟩⟩⟩)), (by (with_reducible repeat (first | apply Kd.R_alloc | apply Kd.R_drewN | apply Kd.R_drew)); exact Kd.R_mono HO314.out (fun _ hk => ⟨hk.1.1.1.1, ⟨hk.1.2, ⟨hk.1.1.2, hk.2⟩⟩⟩)), (by (with_reducible repeat (first | apply Kd.R_alloc | apply Kd.R_drewN | apply Kd.R_drew)); exact Kd.R_mono HO_1.out (fun _ hk => ⟨hk.1.1.1, ⟨hk.1.2, ⟨hk.2, hk.1.1.2⟩⟩⟩)), (zK), (zHI0), (zHK), (zHB)⟩)
      skip
      refine Kd.R_lit_step k61 _ 61 ?hg (N := 54) ?hd (xs := ([(⟨x278000_3, x278001_3, x278002_3⟩ : S61)] : List (S61))) (inner := [.int .u8 x278000_3, .int .i64 x278001_3, .int .i64 x278002_3]) (ok := fun _ => True) (okp := fun _ => True) ?hr ?hp (fun _ hk => hk) trivial (Below.refl _ _) (Nat.le_refl _) (by simp) ?_; (case hd => rfl); (case hg => rfl); (case hr => first | (go_simp; done) | (go_simp; rfl)); (case hp => exact (Reps.c3 (show Kd.M k61 _ _ _ (⟨x278000_3, x278001_3, x278002_3⟩ : S61) [.int .u8 x278000_3, .int .i64 x278001_3, .int .i64 x278002_3] from (k61_mkM _ _ _ (⟨x278000_3, x278001_3, x278002_3⟩ : S61) )) (Reps.none _ _)))
      intro v313 w62 ho63 hb hg_ hnew_
      clear hg_ hnew_
      (first | rw [← Ny312.out] at ho63 | (simp only [Int.reduceToNat] at ho63; rw [← Ny312.out] at ho63))
      have HO314 := Ax (Kd.R_lower (Kd.R_newB (Kd.R_new' (Kd.R_new' (Kd.R_newM (M := fun k_ => (P1_ k_ ∨ w.heap.size ≤ k_)) ho63 (z1) (fun k_ h_ => .inr h_)) (Kd.R_lt (z0))) (Kd.R_lt (z12))) (g := gb277) (o := .cells #[.int .u8 x278000_3, .int .i64 x278001_3, .int .i64 x278002_3] 61 (0, 0)) (zK)) (below_size (zHB)))
      replace HO_1 := Ax (Kd.R_elder' (z0) (Kd.R_base ho63) hb)
      replace HO308 := Ax (Kd.R_elder' (z12) (Kd.R_base ho63) hb)
      replace BK277 := Ax (blk_below (g := gb277) (zK) hb)
      replace HK := Ax (Kept.below (S := (fun k_ => (P1_ k_) ∨ k_ = g)) (zHK) hb)
      replace HB := Ax (below_step (zHB) hb)
      replace HI0 := Ax (IsS66.below (zHI0) hb)
      clear hb ho63
      refine hK.out _ _ ⟨(blk_cell BK277.out 0).trans rfl, (blk_cell BK277.out 1).trans rfl, (blk_cell BK277.out 2).trans rfl⟩ (fun hHeld => ?_)
      clear hK K
      refine norm_ (a' := ?_) ?_ ?_
      rotate_left
      · show Act.put _ (some 54) _ = _
        exact zAct
      refine one_ (i := 2) (N := some 52) (bl 7 31) rfl rfl (by kernel_rfl) (by decide) (fun K hK => ?_)
      refine Kd.R_append_rows_step k61 (w0 := w0) w0.heap.size (by rfl) (.tmp 50) (.tmp 51) 28 61 (.agg #[(.int .u8 0), (.int .i64 0), (.int .i64 0)]) 24 rfl Try.underlying28 info61 rfl (by decide) (by omega) v307 y306 x1_3 _ _ _ (fun k_ => (P1_ k_ ∨ w.heap.size ≤ k_) ∧ some k_ ≠ (.slice Ao58 x1_3.length co58 : Value).ownBlock ∧ some k_ ≠ (v313 : Value).ownBlock ∧ k_ ≠ gb277) (fun _ => False) rfl rfl ?aO ?aR (fun _ _ h => h) (fun _ h => h.elim) ?aF ?aB ?aS ?aL ?_
      (case aR => repeat (first | exact (Kd.R_reads' HO_1.out).2.2 | (with_reducible refine Kd.C_alloc ?_ _) | (with_reducible refine Kd.C_drewN ?_ _) | (with_reducible refine Kd.C_drew ?_)))
      (case aB => exact (zHB))
      (case aF => exact (fun k_ hk => ⟨(.inr (Nat.le_trans (z1) hk)), Kd.fresh' (Kd.R_lt (z0)) k_ hk, Kd.fresh' (Kd.R_lt (z4)) k_ hk, Kd.freshB (g := gb277) (o := .cells #[.int .u8 x278000_3, .int .i64 x278001_3, .int .i64 x278002_3] 61 (0, 0)) (zK) k_ hk⟩))
      (case aO => exact (by (with_reducible repeat (first | apply Kd.R_alloc | apply Kd.R_drewN | apply Kd.R_drew)); exact Kd.R_mono HO308.out (fun _ hk => ⟨hk.1.1.1.1, ⟨hk.1.1.2, ⟨hk.2, hk.1.2⟩⟩⟩)))
      (case aS => exact (below_size (zHB)))
      (case aL => have := LMc56.out; omega)
      intro v310 w64 ho hb hg hat
      rw [← Ny309.out] at ho
      replace HO_1 := Ax (Kd.R_after (ok := (fun k_ => (P1_ k_ ∨ w.heap.size ≤ k_) ∧ some k_ ≠ (v313 : Value).ownBlock ∧ k_ ≠ gb277)) (by (with_reducible repeat (first | apply Kd.R_alloc | apply Kd.R_drewN | apply Kd.R_drew)); exact Kd.R_mono HO_1.out (fun _ hk => ⟨⟨hk.1.1.1, ⟨hk.2, hk.1.1.2⟩⟩, hk.1.2⟩)) hg hat)
      replace BK277 := Ax (blk_grown (g := gb277) (zK) hg (Kd.R_away HO308.out (fun _ hk => hk.1.2)))
      replace HI0 := Ax (IsS66.grown (zHI0) hg (IsS66.own_ne HI0.out HO308.out (by decide)))
      replace HO314 := Ax (Kd.R_after (ok := (fun k_ => (P1_ k_ ∨ w.heap.size ≤ k_) ∧ some k_ ≠ (.slice Ao58 x1_3.length co58 : Value).ownBlock ∧ k_ ≠ gb277)) (by (with_reducible repeat (first | apply Kd.R_alloc | apply Kd.R_drewN | apply Kd.R_drew)); exact Kd.R_mono HO314.out (fun _ hk => ⟨⟨hk.1.1.1.1, ⟨hk.1.1.2, hk.2⟩⟩, hk.1.2⟩)) hg hat)
      replace HB := Ax (hb)
      replace HK := Ax (Kept.of_grown (S := (fun k_ => (P1_ k_) ∨ k_ = g)) hg (zHK) (fun k_ e_ => Or.imp_left Or.inl ((HO308.out.1 k_ e_).1.1.1.1)))
      have HO311 := Ax (ho)
      clear HO308
      clear ho hb hg hat
      refine hK.out _ _ ⟨(blk_cell BK277.out 0).trans rfl, (blk_cell BK277.out 1).trans rfl, (blk_cell BK277.out 2).trans rfl⟩ (fun hHeld => ?_)
      clear hK K
      refine norm_ (a' := ?_) ?_ ?_
      rotate_left
      · show Act.put _ (some 52) _ = _
        exact zAct
      exact norm_ (z7) (hCont (v307, v310, v313) _ ⟨hHeld, (z5), (z8), (z9), (zK), (zHI0), (zHK), (zHB)⟩)
    skip
    refine Kd.R_lit_step k61 _ 61 ?hg (N := 54) ?hd (xs := ([(⟨x278000_3, x278001_3, x278002_3⟩ : S61)] : List (S61))) (inner := [.int .u8 x278000_3, .int .i64 x278001_3, .int .i64 x278002_3]) (ok := fun _ => True) (okp := fun _ => True) ?hr ?hp (fun _ hk => hk) trivial (Below.refl _ _) (Nat.le_refl _) (by simp) ?_; (case hd => rfl); (case hg => rfl); (case hr => first | (go_simp; done) | (go_simp; rfl)); (case hp => exact (Reps.c3 (show Kd.M k61 _ _ _ (⟨x278000_3, x278001_3, x278002_3⟩ : S61) [.int .u8 x278000_3, .int .i64 x278001_3, .int .i64 x278002_3] from (k61_mkM _ _ _ (⟨x278000_3, x278001_3, x278002_3⟩ : S61) )) (Reps.none _ _)))
    intro v313 w60 ho61 hb hg_ hnew_
    clear hg_ hnew_
    (first | rw [← Ny312.out] at ho61 | (simp only [Int.reduceToNat] at ho61; rw [← Ny312.out] at ho61))
    have HO314 := Ax (Kd.R_lower (Kd.R_newB (Kd.R_new' (Kd.R_newM (M := fun k_ => (P1_ k_ ∨ w.heap.size ≤ k_)) ho61 (z1) (fun k_ h_ => .inr h_)) (Kd.R_lt (z0))) (g := gb277) (o := .cells #[.int .u8 x278000_3, .int .i64 x278001_3, .int .i64 x278002_3] 61 (0, 0)) (zK)) (below_size (zHB)))
    replace HO_1 := Ax (Kd.R_elder' (z0) (Kd.R_base ho61) hb)
    replace BK277 := Ax (blk_below (g := gb277) (zK) hb)
    replace HK := Ax (Kept.below (S := (fun k_ => (P1_ k_) ∨ k_ = g)) (zHK) hb)
    replace HB := Ax (below_step (zHB) hb)
    replace HI0 := Ax (IsS66.below (zHI0) hb)
    clear hb ho61
    refine hK.out _ _ ⟨(blk_cell BK277.out 0).trans rfl, (blk_cell BK277.out 1).trans rfl, (blk_cell BK277.out 2).trans rfl⟩ (fun hHeld => ?_)
    clear hK K
    refine norm_ (a' := ?_) ?_ ?_
    rotate_left
    · show Act.put _ (some 54) _ = _
      exact zAct
    refine one_ (i := 0) (N := some 50) (bl 7 27) rfl rfl (by kernel_rfl) (by decide) (fun K hK => ?_)
    refine Kd.R_lit_step k61 _ 61 ?hg (N := 50) ?hd (xs := ([] : List (S61))) (inner := []) (ok := fun _ => True) (okp := fun _ => True) ?hr ?hp (fun _ hk => hk) trivial (Below.refl _ _) (Nat.le_refl _) (by simp) ?_; (case hd => rfl); (case hg => rfl); (case hr => first | (go_simp; done) | (go_simp; rfl)); (case hp => exact (Reps.none _ _))
    intro v307 w62 ho63 hb hg_ hnew_
    clear hg_ hnew_
    (first | rw [← Ny306.out] at ho63 | (simp only [Int.reduceToNat] at ho63; rw [← Ny306.out] at ho63))
    have HO308 := Ax (Kd.R_lower (Kd.R_newB (Kd.R_new' (Kd.R_new' (Kd.R_newM (M := fun k_ => (P1_ k_ ∨ w.heap.size ≤ k_)) ho63 (z1) (fun k_ h_ => .inr h_)) (Kd.R_lt (z0))) (Kd.R_lt (z4))) (g := gb277) (o := .cells #[.int .u8 x278000_3, .int .i64 x278001_3, .int .i64 x278002_3] 61 (0, 0)) (zK)) (below_size (zHB)))
    replace HO_1 := Ax (Kd.R_elder' (z0) (Kd.R_base ho63) hb)
    replace HO314 := Ax (Kd.R_elder' (z4) (Kd.R_base ho63) hb)
    replace BK277 := Ax (blk_below (g := gb277) (zK) hb)
    replace HK := Ax (Kept.below (S := (fun k_ => (P1_ k_) ∨ k_ = g)) (zHK) hb)
    replace HB := Ax (below_step (zHB) hb)
    replace HI0 := Ax (IsS66.below (zHI0) hb)
    clear hb ho63
    refine hK.out _ _ ⟨(blk_cell BK277.out 0).trans rfl, (blk_cell BK277.out 1).trans rfl, (blk_cell BK277.out 2).trans rfl⟩ (fun hHeld => ?_)
    clear hK K
    refine norm_ (a' := ?_) ?_ ?_
    rotate_left
    · show Act.put _ (some 50) _ = _
      exact zAct
    refine one_ (i := 2) (N := some 52) (bl 7 31) rfl rfl (by kernel_rfl) (by decide) (fun K hK => ?_)
    refine Kd.R_append_rows_step k61 (w0 := w0) w0.heap.size (by rfl) (.tmp 50) (.tmp 51) 28 61 (.agg #[(.int .u8 0), (.int .i64 0), (.int .i64 0)]) 24 rfl Try.underlying28 info61 rfl (by decide) (by omega) v307 y306 x1_3 _ _ _ (fun k_ => (P1_ k_ ∨ w.heap.size ≤ k_) ∧ some k_ ≠ (.slice Ao58 x1_3.length co58 : Value).ownBlock ∧ some k_ ≠ (v313 : Value).ownBlock ∧ k_ ≠ gb277) (fun _ => False) rfl rfl ?aO ?aR (fun _ _ h => h) (fun _ h => h.elim) ?aF ?aB ?aS ?aL ?_
    (case aR => repeat (first | exact (Kd.R_reads' HO_1.out).2.2 | (with_reducible refine Kd.C_alloc ?_ _) | (with_reducible refine Kd.C_drewN ?_ _) | (with_reducible refine Kd.C_drew ?_)))
    (case aB => exact (zHB))
    (case aF => exact (fun k_ hk => ⟨(.inr (Nat.le_trans (z1) hk)), Kd.fresh' (Kd.R_lt (z0)) k_ hk, Kd.fresh' (Kd.R_lt (z4)) k_ hk, Kd.freshB (g := gb277) (o := .cells #[.int .u8 x278000_3, .int .i64 x278001_3, .int .i64 x278002_3] 61 (0, 0)) (zK) k_ hk⟩))
    (case aO => exact (by (with_reducible repeat (first | apply Kd.R_alloc | apply Kd.R_drewN | apply Kd.R_drew)); exact Kd.R_mono HO308.out (fun _ hk => ⟨hk.1.1.1.1, ⟨hk.1.1.2, ⟨hk.1.2, hk.2⟩⟩⟩)))
    (case aS => exact (below_size (zHB)))
    (case aL => have := LMc56.out; omega)
    intro v310 w64 ho hb hg hat
    rw [← Ny309.out] at ho
    replace HO_1 := Ax (Kd.R_after (ok := (fun k_ => (P1_ k_ ∨ w.heap.size ≤ k_) ∧ some k_ ≠ (v313 : Value).ownBlock ∧ k_ ≠ gb277)) (by (with_reducible repeat (first | apply Kd.R_alloc | apply Kd.R_drewN | apply Kd.R_drew)); exact Kd.R_mono HO_1.out (fun _ hk => ⟨⟨hk.1.1.1, ⟨hk.1.2, hk.1.1.2⟩⟩, hk.2⟩)) hg hat)
    replace BK277 := Ax (blk_grown (g := gb277) (zK) hg (Kd.R_away HO308.out (fun _ hk => hk.2)))
    replace HI0 := Ax (IsS66.grown (zHI0) hg (IsS66.own_ne HI0.out HO308.out (by decide)))
    replace HO314 := Ax (Kd.R_after (ok := (fun k_ => (P1_ k_ ∨ w.heap.size ≤ k_) ∧ some k_ ≠ (.slice Ao58 x1_3.length co58 : Value).ownBlock ∧ k_ ≠ gb277)) (by (with_reducible repeat (first | apply Kd.R_alloc | apply Kd.R_drewN | apply Kd.R_drew)); exact Kd.R_mono HO314.out (fun _ hk => ⟨⟨hk.1.1.1.1, ⟨hk.1.1.2, hk.1.2⟩⟩, hk.2⟩)) hg hat)
    replace HB := Ax (hb)
    replace HK := Ax (Kept.of_grown (S := (fun k_ => (P1_ k_) ∨ k_ = g)) hg (zHK) (fun k_ e_ => Or.imp_left Or.inl ((HO308.out.1 k_ e_).1.1.1.1)))
    have HO311 := Ax (ho)
    clear HO308
    clear ho hb hg hat
    refine hK.out _ _ ⟨(blk_cell BK277.out 0).trans rfl, (blk_cell BK277.out 1).trans rfl, (blk_cell BK277.out 2).trans rfl⟩ (fun hHeld => ?_)
    clear hK K
    refine norm_ (a' := ?_) ?_ ?_
    rotate_left
    · show Act.put _ (some 52) _ = _
      exact zAct
    exact norm_ (z7) (hCont (v307, v310, v313) _ ⟨hHeld, (z5), (z8), (z9), (zK), (zHI0), (zHK), (zHB)⟩)
  rintro ⟨v307, v310, v313⟩ w65 ⟨hS_, h0_, h1_, h2_, h3_, h4_, h5_, h6_⟩
  have HO311 : Aside0 (Kd.R k61 61 w65 w0.heap.size (fun k_ => (P1_ k_ ∨ w.heap.size ≤ k_) ∧ some k_ ≠ (v313 : Value).ownBlock ∧ some k_ ≠ (.slice Ao58 x1_3.length co58 : Value).ownBlock ∧ k_ ≠ gb277) v310 y309) := ⟨h0_⟩
  have HO314 : Aside0 (Kd.R k61 61 w65 w0.heap.size (fun k_ => (P1_ k_ ∨ w.heap.size ≤ k_) ∧ some k_ ≠ (v310 : Value).ownBlock ∧ some k_ ≠ (.slice Ao58 x1_3.length co58 : Value).ownBlock ∧ k_ ≠ gb277) v313 y312) := ⟨h1_⟩
  replace HO_1 : Aside0 (Kd.R k61 61 w65 w0.heap.size (fun k_ => (P1_ k_ ∨ w.heap.size ≤ k_) ∧ some k_ ≠ (v310 : Value).ownBlock ∧ some k_ ≠ (v313 : Value).ownBlock ∧ k_ ≠ gb277) (.slice Ao58 x1_3.length co58) x1_3) := ⟨h2_⟩
  replace BK277 : Aside0 (w65.heap[gb277]? = some (.cells #[.int .u8 x278000_3, .int .i64 x278001_3, .int .i64 x278002_3] 61 (0, 0))) := ⟨h3_⟩
  replace HI0 : Aside0 (IsS66 w0 w65 g s0_0 x1001_3) := ⟨h4_⟩
  replace HK : Aside0 (Kept w w65 (fun k_ => (P1_ k_) ∨ k_ = g)) := ⟨h5_⟩
  replace HB : Aside0 (Below w0.heap.size w0 w65) := ⟨h6_⟩
  clear h0_ h1_ h2_ h3_ h4_ h5_ h6_
  have hHeld : w65.cell? ⟨gb277, 0, none⟩ = some (.int .u8 x278000_3) ∧ w65.cell? ⟨gb277, 1, none⟩ = some (.int .i64 x278001_3) ∧ w65.cell? ⟨gb277, 2, none⟩ = some (.int .i64 x278002_3) := hS_
  obtain ⟨Ao67, co67, eo67⟩ := Kd.R_slice HO314.out
  (first | subst eo67 | (injection eo67 with f1_ f2_ f3_; have f4_ := f1_.symm; have f5_ := f3_.symm; clear f1_ f2_ f3_; subst f4_; subst f5_))
  refine norm_ (a' := ?_) ?_ ?_
  rotate_left
  · simp only [putAll, Act.put, List.setIfInBounds_toArray, List.set_cons_zero, List.set_cons_succ]
    rfl
  refine one_ (i := 5) (N := some 55) (bl 7 63) rfl rfl (by kernel_rfl) (by decide) (fun K hK => ?_)
  refine Kd.R_append_rows_step k61 (w0 := w0) w0.heap.size (by rfl) (.tmp 52) (.tmp 54) 28 61 (.agg #[(.int .u8 0), (.int .i64 0), (.int .i64 0)]) 24 rfl Try.underlying28 info61 rfl (by decide) (by omega) v310 y309 y312 _ _ _ (fun k_ => (P1_ k_ ∨ w.heap.size ≤ k_) ∧ some k_ ≠ (.slice Ao58 x1_3.length co58 : Value).ownBlock ∧ some k_ ≠ (.slice Ao67 y312.length co67 : Value).ownBlock ∧ k_ ≠ gb277) (fun _ => False) rfl rfl ?aO ?aR (fun _ _ h => h) (fun _ h => h.elim) ?aF ?aB ?aS ?aL ?_
  (case aR => repeat (first | exact (Kd.R_reads' HO314.out).2.2 | (with_reducible refine Kd.C_alloc ?_ _) | (with_reducible refine Kd.C_drewN ?_ _) | (with_reducible refine Kd.C_drew ?_)))
  (case aB => exact (zHB))
  (case aF => exact (fun k_ hk => ⟨(.inr (Nat.le_trans (z1) hk)), Kd.fresh' (Kd.R_lt (z0)) k_ hk, Kd.fresh' (Kd.R_lt (z4)) k_ hk, Kd.freshB (g := gb277) (o := .cells #[.int .u8 x278000_3, .int .i64 x278001_3, .int .i64 x278002_3] 61 (0, 0)) (zK) k_ hk⟩))
  (case aO => exact (z5))
  (case aS => exact (below_size (zHB)))
  (case aL => have := LMc57.out; omega)
  intro v316 w66 ho hb hg hat
  rw [← Ny315.out] at ho
  replace HO_1 := Ax (Kd.R_after (ok := (fun k_ => (P1_ k_ ∨ w.heap.size ≤ k_) ∧ some k_ ≠ (.slice Ao67 y312.length co67 : Value).ownBlock ∧ k_ ≠ gb277)) (by (with_reducible repeat (first | apply Kd.R_alloc | apply Kd.R_drewN | apply Kd.R_drew)); exact Kd.R_mono HO_1.out (fun _ hk => ⟨⟨hk.1, ⟨hk.2.2.1, hk.2.2.2⟩⟩, hk.2.1⟩)) hg hat)
  replace BK277 := Ax (blk_grown (g := gb277) (zK) hg (Kd.R_away HO311.out (fun _ hk => hk.2.2.2)))
  replace HI0 := Ax (IsS66.grown (zHI0) hg (IsS66.own_ne HI0.out HO311.out (by decide)))
  replace HO314 := Ax (Kd.R_after (ok := (fun k_ => (P1_ k_ ∨ w.heap.size ≤ k_) ∧ some k_ ≠ (.slice Ao58 x1_3.length co58 : Value).ownBlock ∧ k_ ≠ gb277)) (by (with_reducible repeat (first | apply Kd.R_alloc | apply Kd.R_drewN | apply Kd.R_drew)); exact Kd.R_mono HO314.out (fun _ hk => ⟨⟨hk.1, ⟨hk.2.2.1, hk.2.2.2⟩⟩, hk.2.1⟩)) hg hat)
  replace HB := Ax (hb)
  replace HK := Ax (Kept.of_grown (S := (fun k_ => (P1_ k_) ∨ k_ = g)) hg (zHK) (fun k_ e_ => Or.imp_left Or.inl ((HO311.out.1 k_ e_).1)))
  have HO317 := Ax (ho)
  clear HO311
  clear ho hb hg hat
  refine hK.out _ _ ⟨(blk_cell BK277.out 0).trans rfl, (blk_cell BK277.out 1).trans rfl, (blk_cell BK277.out 2).trans rfl⟩ (fun hHeld => ?_)
  clear hK K
  refine norm_ (a' := ?_) ?_ ?_
  rotate_left
  · show Act.put _ (some 55) _ = _
    exact zAct
  refine pure_ (i := 6) (N := some 4) (v := ?_) (a' := ?_) (bl 7 127) rfl rfl (by kernel_rfl) (fun _ _ _ h => h) (Or.inl ⟨by rfl, ?_⟩) ?_ ?_
  rotate_left
  · exact zEv
  rotate_left
  · exact zAct
  refine done_ (by kernel_rfl) ?_
  try go_wp2
  go_ret
  exact ⟨_, z13, by (with_reducible repeat (first | apply Kd.R_alloc | apply Kd.R_drewN | apply Kd.R_drew)); exact Kd.R_mono HO317.out (fun _ hk => hk.1), zHI0, zHB, zHK⟩
end Go.Proofs.Ytljgbeccmcidkaa.P
namespace Go.Proofs.Ytljgbeccmcidkaa.P
open Go.RowKit Go.Proofs.YtljgbeccmcidkaaW.PrintWords Go.Proofs.YtljgbeccmcidkaaW.PrintLast Go.Proofs.YtljgbeccmcidkaaW.PrintMore
attribute [local go_sem] max2_int min2_int max_two min_two max_three min_three max_four min_four   -- for this text's walks alone
set_option linter.unusedVariables false
set_option linter.unusedSimpArgs false

attribute [local go_sem ↓] isSome_setCell
/-! ### spec_l2Copy: function 51 -/
def spec_l2Copy.l0 : Nat → Int → Int → Int → List (S30) → Int → Int → List (S30) → Option (Int × Int × (List (S30)))
  | 0, _, _, _, _, _, _, _ => none
  | k + 1, x4, x264000, x264001, x264002, x266000, x266001, x266002 => if x4 < (x264002.length : Int) then (if 0 ≤ x4 then ((some (([] : List (S61)) : List (S61))).bind fun y268 => (if y268.length + ((rd_T30 x264002 x4).f4).length < 5864062014805 then (if x266002.length < 2513169434916 then (spec_l2Copy.l0 k (wrap64 (x4 + 1)) x264000 x264001 x264002 x266000 x266001 (x266002 ++ [(⟨(rd_T30 x264002 x4).f0, (rd_T30 x264002 x4).f1, (rd_T30 x264002 x4).f2, (rd_T30 x264002 x4).f3, (y268 ++ ((rd_T30 x264002 x4).f4))⟩ : S30)])) else (none)) else (none))) else (none)) else (some (x266000, x266001, x266002))
def spec_l2Copy.f (k : Nat) (a0_0 : Int) (a0_1 : Int) (l0_2 : List (S30)) : Option (Int × Int × (List (S30))) := spec_l2Copy.l0 k 0 a0_0 a0_1 l0_2 a0_0 a0_1 ([] : List (S30))
theorem spec_l2Copy.mono_l : ∀ k, (∀ y0 y1 y2 y3 y4 y5 y6, LeO (spec_l2Copy.l0 k y0 y1 y2 y3 y4 y5 y6) (spec_l2Copy.l0 (k + 1) y0 y1 y2 y3 y4 y5 y6))
  | 0 => fun _ _ _ _ _ _ _ r h => by simp [spec_l2Copy.l0] at h
  | k + 1 => by
    have ih0 := spec_l2Copy.mono_l k
    · intro y0 y1 y2 y3 y4 y5 y6
      unfold spec_l2Copy.l0
      with_reducible repeat' first | exact ih0 _ _ _ _ _ _ _ | exact LeO.refl _ | exact LeO.none _ | refine LeO.ite ?_ ?_ | refine LeO.bind ?_ (fun _ => ?_)
theorem spec_l2Copy.mono : ∀ a0 a1 a2 k, LeO (spec_l2Copy.f k a0 a1 a2) (spec_l2Copy.f (k + 1) a0 a1 a2) := by
  intro a0 a1 a2 k
  have ih0 := spec_l2Copy.mono_l k
  unfold spec_l2Copy.f
  with_reducible repeat' first | exact ih0 _ _ _ _ _ _ _ | exact LeO.refl _ | exact LeO.none _ | refine LeO.ite ?_ ?_ | refine LeO.bind ?_ (fun _ => ?_)
theorem spec_l2Copy.zHB {p : Prop} (h : p := by repeat (first | (with_reducible first | exact HB.out | apply below_alloc | apply pw_below_drewN | apply below_drew1 | refine below_set ?_ GE263.out | refine below_set ?_ GE264.out | refine below_set ?_ GE265.out | refine below_set ?_ GE267.out) | exact HB.out)) : p := h
theorem spec_l2Copy.zK {p : Prop} (h : p := by repeat' first | (with_reducible first | exact BK263.out | exact BK264.out | exact BK265.out | exact BK267.out | apply blk_drewN | apply blk_drew | apply blk_alloc | apply blk_far (hp := NB263_265.out) | apply blk_far (hp := NB264_265.out) | apply blk_far (hp := NB263_267.out) | apply blk_far (hp := NB264_267.out) | apply blk_far (hp := NB265_267.out) | apply blk_putE) | exact (rfl : List.set _ _ _ = _)) : p := h
theorem spec_l2Copy.z0 {p : Prop} (h : p := by rw [hg]; exact (below_size (zHB))) : p := h
theorem spec_l2Copy.z1 {p : Prop} (h : p := by rw [hg]; exact Nat.ne_of_lt (blk_lt (g := gb263) (zK))) : p := h
theorem spec_l2Copy.z2 {p : Prop} (h : p := by rw [hg]; exact Nat.ne_of_gt (blk_lt (g := gb263) (zK))) : p := h
theorem spec_l2Copy.zy {p : Prop} (h : p := by first | (rw [hy_]; with_reducible exact H) | (have H2_ := (Option.bind_some _ _).symm.trans H; rw [hy_]; with_reducible exact H2_) | (have H2_ := (Option.bind_some _ _).symm.trans H; with_reducible exact H2_) | with_reducible exact H | (rw [hy_]; exact H) | exact H) : p := h
set_option maxHeartbeats 8000000 in
set_option maxRecDepth 100000 in
theorem spec_l2Copy.calls (k : Nat) (a0_0 : Int) (a0_1 : Int) (A0_2 : Option Addr) (c0_2 : Nat) (l0_2 : List (S30)) (r1 : Int) (r2 : Int) (r3 : List (S30)) (w : World) (hr0_2 : Kd.C k30 w A0_2 l0_2.length l0_2) (hc0_2 : l0_2.length ≤ c0_2) (h : spec_l2Copy.f k a0_0 a0_1 l0_2 = some (r1, r2, r3)) :
    Calls Try.prog 51 #[.agg #[.int .i64 a0_0, .int .i64 a0_1, .slice A0_2 l0_2.length c0_2]] w fun e w' => ∃ v2_ : Value, e = .returned (.agg #[.int .i64 r1, .int .i64 r2, v2_]) ∧ Kd.S k30 30 w' w.heap.size (fun _ => True) v2_ r3 ∧ Below w.heap.size w w' := by
 have hu25 := Try.underlying25
 have hu30 := Try.underlying30
 have HR0_2 := Ax hr0_2
 have HC0_2 := Ax hc0_2
 clear hr0_2 hc0_2
 have HB := Ax (Below.refl w.heap.size w)
 have H : (spec_l2Copy.l0 k 0 a0_0 a0_1 l0_2 a0_0 a0_1 ([] : List (S30))) = some (r1, r2, r3) := h
 clear h
 have H' := Ax H
 clear H
 go_enter Try.func51, Try.ntmps51
 go_wp2_with (first | ((with_reducible refine gate_dst (N := 1) rfl ?_); refine box_event ?hg (N := 1) ?hd (cs := #[.int .i64 a0_0, .int .i64 a0_1, .slice A0_2 l0_2.length c0_2]) (t := 25) ?hr ?_; (case hd => rfl); (case hg => rfl); (case hr => first | (go_simp; done) | (go_simp; rfl)); intro gb263 hg w2 hbox hb; have BK263 := Ax (hbox); have GW263 := Ax ((z0 : w.heap.size ≤ gb263)); have GE263 := Ax ((z0 : w.heap.size ≤ gb263)); replace HB := Ax (below_step (zHB) hb); clear hb hbox hg) | ((with_reducible refine gate_dst (N := 2) rfl ?_); refine box_event ?hg (N := 2) ?hd (cs := #[.int .i64 0, .int .i64 0, .slice none 0 0]) (t := 25) ?hr ?_; (case hd => rfl); (case hg => rfl); (case hr => first | (go_simp; done) | (go_simp; rfl)); intro gb264 hg w3 hbox hb; have BK264 := Ax (hbox); have GW264 := Ax ((z0 : w.heap.size ≤ gb264)); have GE264 := Ax ((z0 : w.heap.size ≤ gb264)); replace HB := Ax (below_step (zHB) hb); have NB263_264 := Ax ((z1 : gb263 ≠ gb264)); have NB264_263 := Ax ((z2 : gb264 ≠ gb263)); replace BK263 := Ax (blk_below (g := gb263) (zK) hb); clear hb hbox hg; have hnb4 := NB263_264.out; have hnc4 := NB264_263.out; obtain ⟨hcz5_0, hcz5_1, hcz5_2, hfz5_0, hfz5_1, hfz5_2⟩ := cells3 BK263.out) | ((with_reducible refine gate_dst (N := 3) rfl ?_); refine box_event ?hg (N := 3) ?hd (cs := #[.int .i64 0, .int .i64 0, .slice none 0 0]) (t := 25) ?hr ?_; (case hd => rfl); (case hg => rfl); (case hr => first | (go_simp; done) | (go_simp; rfl)); intro gb265 hg w6 hbox hb; have BK265 := Ax (hbox); have GW265 := Ax ((z0 : w.heap.size ≤ gb265)); have GE265 := Ax ((z0 : w.heap.size ≤ gb265)); replace HB := Ax (below_step (zHB) hb); have NB263_265 := Ax ((z1 : gb263 ≠ gb265)); have NB265_263 := Ax ((z2 : gb265 ≠ gb263)); replace BK263 := Ax (blk_below (g := gb263) (zK) hb); have NB264_265 := Ax ((by rw [hg]; exact Nat.ne_of_lt (blk_lt (g := gb264) (zK)) : gb264 ≠ gb265)); have NB265_264 := Ax ((by rw [hg]; exact Nat.ne_of_gt (blk_lt (g := gb264) (zK)) : gb265 ≠ gb264)); replace BK264 := Ax (blk_below (g := gb264) (zK) hb); clear hb hbox hg; have hnb7 := NB265_263.out; have hnc7 := NB263_265.out; have hnb8 := NB265_264.out; have hnc8 := NB264_265.out; obtain ⟨hcz9_0, hcz9_1, hcz9_2, hfz9_0, hfz9_1, hfz9_2⟩ := cells3 BK265.out))
 go_loopg [4] k (fun kq v4 w' => ∃ (x4_1 : Int) (x266002_1 : List (S30)) (u266002 : Value), v4 = .int .i64 x4_1 ∧ Aside0 (spec_l2Copy.l0 kq x4_1 a0_0 a0_1 l0_2 a0_0 a0_1 x266002_1 = some (r1, r2, r3)) ∧ Aside0 (kq ≤ k) ∧ Aside0 (Kd.S k30 30 w' w.heap.size (fun _ => True) u266002 x266002_1) ∧ Aside0 (w'.heap[gb263]? = some (.cells #[.int .i64 a0_0, .int .i64 a0_1, (.slice A0_2 l0_2.length c0_2)] 25 (0, 0))) ∧ Aside0 (w'.heap[gb264]? = some (.cells #[.int .i64 0, .int .i64 0, (.slice none 0 0)] 25 (0, 0))) ∧ Aside0 (w'.heap[gb265]? = some (.cells #[.int .i64 a0_0, .int .i64 a0_1, u266002] 25 (0, 0))) ∧ Aside0 (Below w.heap.size w w'))
 case atStart => exact ⟨(0), (([] : List (S30))), (.slice none 0 0), (by first | rfl | (simp; done) | (simp [*]; done)), H', ⟨Nat.le_refl _⟩, ⟨by first | exact Kd.S_nil _ _ _ _ _ | exact Kd.N_nil _ _ _ _ _ | exact Kd.V_nil _ _ _ _ _ | exact Kd.Q_nil _ _ _ _ _ | exact Kd.R_nil _ _ _ _ _⟩, ⟨zK⟩, ⟨zK⟩, ⟨zK⟩, ⟨zHB⟩⟩
 clear H'
 (try clear hcz5_0); (try clear hcz5_1); (try clear hcz5_2); (try clear hcz9_0); (try clear hcz9_1); (try clear hcz9_2); (try clear hfz5_0); (try clear hfz5_1); (try clear hfz5_2); (try clear hfz9_0); (try clear hfz9_1); (try clear hfz9_2)
 obtain ⟨x4_1, x266002_1, u266002, rfl, HA, HK1, HO_266002, BK263, BK264, BK265, HB⟩ := hrel
 cases gk with
 | zero => exact absurd HA.out (by simp [spec_l2Copy.l0])
 | succ k1 =>
  have H := HA.out
  clear HA
  simp only [spec_l2Copy.l0] at H
  by_cases c10 : x4_1 < (l0_2.length : Int)
  rotate_left
  · rw [if_neg c10] at H
    have c10b0 := decide_eq_false c10
    clear c10
    simp only [Option.some.injEq, Prod.mk.injEq] at H
    obtain ⟨rfl, rfl, rfl⟩ := H
    have hnb35 := NB263_264.out
    have hnc35 := NB264_263.out
    have hnb36 := NB263_265.out
    have hnc36 := NB265_263.out
    obtain ⟨_, _, _, _, _, _⟩ := cells3 BK263.out
    have hnb38 := NB265_264.out
    have hnc38 := NB264_265.out
    obtain ⟨_, _, _, _, _, _⟩ := cells3 BK265.out
    obtain ⟨_, _, _, _, _, _⟩ := cells3 BK264.out
    obtain ⟨Ao41, co41, eo41⟩ := Kd.S_slice HO_266002.out
    subst eo41
    go_wp2
    refine bodyPost_ret (results_cell_row rfl _ _ gb264 25 #[.int .i64 a0_0, .int .i64 a0_1, .slice Ao41 x266002_1.length co41] (0, 0) _ rfl (zK) Try.underlying25 rfl (by kernel_rfl)) rfl ?_
    exact ⟨_, by first | rfl | (simp [errW_none, errW_some] <;> rfl) | (simp [*, errW_none, errW_some] <;> rfl), by (with_reducible repeat (first | apply Kd.S_alloc | apply Kd.S_drewN | apply Kd.S_drew)); exact Kd.S_mono (Kd.S_far (p := ⟨gb264, 2, none⟩) (Kd.S_far (p := ⟨gb264, 1, none⟩) (Kd.S_far (p := ⟨gb264, 0, none⟩) (Kd.S_types HO_266002.out BK264.out (by decide)) (fun _ hk => hk.2) (.int .i64 a0_0)) (fun _ hk => hk.2) (.int .i64 a0_1)) (fun _ hk => hk.2) (.slice Ao41 x266002_1.length co41)) (fun _ hk => trivial), zHB⟩
  rw [if_pos c10] at H
  have c10b0 := decide_eq_true c10
  clear c10
  by_cases c11 : 0 ≤ x4_1
  rotate_left
  · rw [if_neg c11] at H
    exact absurd H (by simp)
  rw [if_pos c11] at H
  have c11b0 := decide_eq_true c11
  clear c11
  obtain ⟨y268, hy_⟩ : ∃ y_ : List (S61), y_ = (([] : List (S61))) := ⟨_, rfl⟩
  replace H : (if y268.length + ((rd_T30 l0_2 x4_1).f4).length < 5864062014805 then (if x266002_1.length < 2513169434916 then (spec_l2Copy.l0 k1 (wrap64 (x4_1 + 1)) a0_0 a0_1 l0_2 a0_0 a0_1 (x266002_1 ++ [(⟨(rd_T30 l0_2 x4_1).f0, (rd_T30 l0_2 x4_1).f1, (rd_T30 l0_2 x4_1).f2, (rd_T30 l0_2 x4_1).f3, (y268 ++ ((rd_T30 l0_2 x4_1).f4))⟩ : S30)])) else (none)) else (none)) = some (r1, r2, r3) := zy
  have Ny268 := Ax hy_
  clear hy_
  by_cases c12 : y268.length + ((rd_T30 l0_2 x4_1).f4).length < 5864062014805
  rotate_left
  · rw [if_neg c12] at H
    exact absurd H (by simp)
  rw [if_pos c12] at H
  have LMc12 := Ax c12
  clear c12
  obtain ⟨y271, hy_⟩ : ∃ y_ : List (S61), y_ = (y268 ++ ((rd_T30 l0_2 x4_1).f4)) := ⟨_, rfl⟩
  replace H : (if x266002_1.length < 2513169434916 then (spec_l2Copy.l0 k1 (wrap64 (x4_1 + 1)) a0_0 a0_1 l0_2 a0_0 a0_1 (x266002_1 ++ [(⟨(rd_T30 l0_2 x4_1).f0, (rd_T30 l0_2 x4_1).f1, (rd_T30 l0_2 x4_1).f2, (rd_T30 l0_2 x4_1).f3, y271⟩ : S30)])) else (none)) = some (r1, r2, r3) := zy
  have Ny271 := Ax hy_
  clear hy_
  by_cases c13 : x266002_1.length < 2513169434916
  rotate_left
  · rw [if_neg c13] at H
    exact absurd H (by simp)
  rw [if_pos c13] at H
  have LMc13 := Ax c13
  clear c13
  obtain ⟨y274, hy_⟩ : ∃ y_ : List (S30), y_ = (x266002_1 ++ [(⟨(rd_T30 l0_2 x4_1).f0, (rd_T30 l0_2 x4_1).f1, (rd_T30 l0_2 x4_1).f2, (rd_T30 l0_2 x4_1).f3, y271⟩ : S30)]) := ⟨_, rfl⟩
  replace H : (spec_l2Copy.l0 k1 (wrap64 (x4_1 + 1)) a0_0 a0_1 l0_2 a0_0 a0_1 y274) = some (r1, r2, r3) := zy
  have Ny274 := Ax hy_
  clear hy_
  have H' := Ax H
  clear H
  have hnb14 := NB263_264.out
  have hnc14 := NB264_263.out
  have hnb15 := NB263_265.out
  have hnc15 := NB265_263.out
  obtain ⟨_, _, _, _, _, _⟩ := cells3 BK263.out
  have p266 : 0 ≤ (x4_1 : Int) := of_decide_eq_true (by first | (with_reducible assumption) | assumption)
  have q266 : x4_1 < (l0_2.length : Int) := of_decide_eq_true (by first | (with_reducible assumption) | assumption)
  obtain ⟨ad266, A266_4, c266_4, e266, hx266_0, hx266_1, hx266_2, hx266_3, hx266_4, hl266_4, hi266_4⟩ := at_T30 HR0_2.out x4_1 p266 q266
  cases e266
  replace hx266_0 := (HB.out.cell (World.block_lt_of_cell? w _ hx266_0)).trans hx266_0
  replace hx266_1 := (HB.out.cell (World.block_lt_of_cell? w _ hx266_1)).trans hx266_1
  replace hx266_2 := (HB.out.cell (World.block_lt_of_cell? w _ hx266_2)).trans hx266_2
  replace hx266_3 := (HB.out.cell (World.block_lt_of_cell? w _ hx266_3)).trans hx266_3
  replace hx266_4 := (HB.out.cell (World.block_lt_of_cell? w _ hx266_4)).trans hx266_4
  have HR266_4 := Ax hi266_4
  have HC266_4 := Ax hl266_4
  clear hi266_4 hl266_4
  replace p266 := eq_true p266
  replace q266 := eq_true q266
  go_wp2_with (first | ((with_reducible refine gate_dst (N := 5) rfl ?_); refine box_event ?hg (N := 5) ?hd (cs := #[.int .i64 0, .int .i64 0, .int .i64 0, .int .i64 0, .slice none 0 0]) (t := 30) ?hr ?_; (case hd => rfl); (case hg => rfl); (case hr => first | (go_simp; done) | (go_simp; rfl)); intro gb267 hg w17 hbox hb; replace HO_266002 := Ax (Kd.S_below (Kd.S_elderB (by (with_reducible repeat (first | apply Kd.S_alloc | apply Kd.S_drewN | apply Kd.S_drew)); exact HO_266002.out) gb267 (Nat.le_of_eq hg.symm)) hb); have BK267 := Ax (hbox); have GW267 := Ax ((z0 : w.heap.size ≤ gb267)); have GE267 := Ax ((z0 : w.heap.size ≤ gb267)); replace HB := Ax (below_step (zHB) hb); have NB263_267 := Ax ((z1 : gb263 ≠ gb267)); have NB267_263 := Ax ((z2 : gb267 ≠ gb263)); replace BK263 := Ax (blk_below (g := gb263) (zK) hb); have NB264_267 := Ax ((by rw [hg]; exact Nat.ne_of_lt (blk_lt (g := gb264) (zK)) : gb264 ≠ gb267)); have NB267_264 := Ax ((by rw [hg]; exact Nat.ne_of_gt (blk_lt (g := gb264) (zK)) : gb267 ≠ gb264)); replace BK264 := Ax (blk_below (g := gb264) (zK) hb); have NB265_267 := Ax ((by rw [hg]; exact Nat.ne_of_lt (blk_lt (g := gb265) (zK)) : gb265 ≠ gb267)); have NB267_265 := Ax ((by rw [hg]; exact Nat.ne_of_gt (blk_lt (g := gb265) (zK)) : gb267 ≠ gb265)); replace BK265 := Ax (blk_below (g := gb265) (zK) hb); clear hb hbox hg; have hnb18 := NB267_263.out; have hnc18 := NB263_267.out; have hnb19 := NB267_264.out; have hnc19 := NB264_267.out; have hnb20 := NB267_265.out; have hnc20 := NB265_267.out; obtain ⟨_, _, _, _, _, _, _, _, _, _⟩ := cells5 BK267.out) | ((with_reducible refine gate_dst (N := 23) rfl ?_); refine Kd.R_lit k61 _ 61 ?hg (N := 23) ?hd (xs := ([] : List (S61))) (inner := []) (ok := fun _ => True) (okp := fun _ => True) ?hr ?hp (fun _ hk => hk) trivial (Below.refl _ _) (Nat.le_refl _) (by simp) ?_; (case hd => rfl); (case hg => rfl); (case hr => first | (go_simp; done) | (go_simp; rfl)); (case hp => exact (Reps.none _ _)); intro v269 w22 ho23 hb hg_ hnew_; clear hg_ hnew_; (first | rw [← Ny268.out] at ho23 | (simp only [Int.reduceToNat] at ho23; rw [← Ny268.out] at ho23)); replace HO_266002 := Ax (Kd.S_elder' (by (with_reducible repeat (first | apply Kd.S_alloc | apply Kd.S_drewN | apply Kd.S_drew)); exact (Kd.S_mono (Kd.S_far (p := ⟨gb267, 4, none⟩) (Kd.S_far (p := ⟨gb267, 3, none⟩) (Kd.S_far (p := ⟨gb267, 2, none⟩) (Kd.S_far (p := ⟨gb267, 1, none⟩) (Kd.S_far (p := ⟨gb267, 0, none⟩) (Kd.S_mono HO_266002.out (fun k_ hk => (⟨hk, hk.2⟩ : _ ∧ k_ ≠ gb267))) (fun _ hk => hk.2) (.int .i64 ((rd_T30 l0_2 x4_1).f0))) (fun _ hk => hk.2) (.int .i64 ((rd_T30 l0_2 x4_1).f1))) (fun _ hk => hk.2) (.int .i64 ((rd_T30 l0_2 x4_1).f2))) (fun _ hk => hk.2) (.int .i64 ((rd_T30 l0_2 x4_1).f3))) (fun _ hk => hk.2) (.slice A266_4 ((rd_T30 l0_2 x4_1).f4).length c266_4)) (fun _ h_ => h_.1))) (Kd.R_base ho23) hb); have HO270 := Ax (Kd.R_lower ho23 (below_size (zHB))); replace BK263 := Ax (blk_below (g := gb263) (zK) hb); replace BK264 := Ax (blk_below (g := gb264) (zK) hb); replace BK265 := Ax (blk_below (g := gb265) (zK) hb); replace BK267 := Ax (blk_below (g := gb267) (o := .cells #[.int .i64 ((rd_T30 l0_2 x4_1).f0), .int .i64 ((rd_T30 l0_2 x4_1).f1), .int .i64 ((rd_T30 l0_2 x4_1).f2), .int .i64 ((rd_T30 l0_2 x4_1).f3), .slice A266_4 ((rd_T30 l0_2 x4_1).f4).length c266_4] 30 (0, 0)) (zK) hb); replace HB := Ax (below_step (zHB) hb); clear hb ho23; obtain ⟨_, _, _, _, _, _, _, _, _, _⟩ := cells5 BK267.out) | ((with_reducible refine gate_builtin (b := .append) (xs := #[.tmp 23, .tmp 25]) rfl ?_); at_builtin; refine Kd.R_append_rows k61 (w0 := w) w.heap.size rfl (.tmp 23) (.tmp 25) 28 61 (.agg #[(.int .u8 0), (.int .i64 0), (.int .i64 0)]) 24 rfl Try.underlying28 info61 rfl (by decide) (by omega) v269 y268 ((rd_T30 l0_2 x4_1).f4) _ _ _ (fun _ => True) (fun _ => False) rfl rfl ?aO ?aR (fun _ _ h => h) (fun _ h => h.elim) ?aF ?aB ?aS ?aL ?_; (case aR => repeat (first | exact (Kd.C_below HR266_4.out HB.out) | (with_reducible refine Kd.C_alloc ?_ _) | (with_reducible refine Kd.C_drewN ?_ _) | (with_reducible refine Kd.C_drew ?_))); (case aB => exact (zHB)); (case aF => exact (fun _ _ => trivial)); (case aO => exact (by (with_reducible repeat (first | apply Kd.R_alloc | apply Kd.R_drewN | apply Kd.R_drew)); exact HO270.out)); (case aS => exact (below_size (zHB))); (case aL => have := LMc12.out; omega); intro v272 w25 ho hb hg hat; rw [← Ny271.out] at ho; replace HO_266002 := Ax (Kd.S_after (ok := (fun k_ => k_ ≠ gb267)) (by (with_reducible repeat (first | apply Kd.S_alloc | apply Kd.S_drewN | apply Kd.S_drew)); exact Kd.S_mono HO_266002.out (fun _ hk => ⟨hk.1.2, hk.2⟩)) hg hat); replace BK263 := Ax (blk_grown (g := gb263) (zK) hg (Kd.R_ne HO270.out BK263.out (by decide))); replace BK264 := Ax (blk_grown (g := gb264) (zK) hg (Kd.R_ne HO270.out BK264.out (by decide))); replace BK265 := Ax (blk_grown (g := gb265) (zK) hg (Kd.R_ne HO270.out BK265.out (by decide))); replace BK267 := Ax (blk_grown (g := gb267) (zK) hg (Kd.R_ne HO270.out BK267.out (by decide))); replace HB := Ax (hb); have HO273 := Ax (ho); clear HO270; clear ho hb hg hat; obtain ⟨Ao26, co26, eo26⟩ := Kd.R_slice HO273.out; subst eo26; obtain ⟨_, _, _, _, _, _, _, _, _, _⟩ := cells5 BK267.out) | ((with_reducible refine gate_store (t := 28) (p := 27) rfl ?_); refine store_event (t := 28) (p := 27) (v := ?vo_w28) (w1 := (w25.setCell ⟨gb267, 4, none⟩ (.slice Ao26 y271.length co26))) ?hg ?ho ?hn ?hr ?_; (case ho => rfl); (case hg => rfl); (case hn => rfl); (case hr => first | (go_simp; done) | (go_simp; rfl)); intro w28 hw; replace HO_266002 : Aside0 (Kd.S k30 30 w28 w.heap.size (fun k_ => some k_ ≠ (.slice Ao26 y271.length co26 : Value).ownBlock ∧ k_ ≠ gb267) u266002 x266002_1) := ⟨(by rw [hw]; exact (by (with_reducible repeat (first | apply Kd.S_alloc | apply Kd.S_drewN | apply Kd.S_drew)); exact Kd.S_mono (Kd.S_far (p := ⟨gb267, 4, none⟩) (Kd.S_mono HO_266002.out (fun k_ hk => (⟨hk, hk.1⟩ : _ ∧ k_ ≠ gb267))) (fun _ hk => hk.2) (.slice Ao26 y271.length co26)) (fun _ hk => ⟨hk.1.2, hk.1.1⟩)))⟩; replace HO273 : Aside0 (Kd.R k61 61 w28 w.heap.size (fun _ => True) (.slice Ao26 y271.length co26) y271) := ⟨(by rw [hw]; exact (by (with_reducible repeat (first | apply Kd.R_alloc | apply Kd.R_drewN | apply Kd.R_drew)); exact Kd.R_mono (Kd.R_far (p := ⟨gb267, 4, none⟩) (Kd.R_types HO273.out BK267.out (by decide)) (fun _ hk => hk.2) (.slice Ao26 y271.length co26)) (fun _ hk => trivial)))⟩; replace BK263 : Aside0 (w28.heap[gb263]? = some (.cells #[.int .i64 a0_0, .int .i64 a0_1, .slice (some ad266) l0_2.length c0_2] 25 (0, 0))) := ⟨(by rw [hw]; exact (zK))⟩; replace BK264 : Aside0 (w28.heap[gb264]? = some (.cells #[.int .i64 0, .int .i64 0, .slice none 0 0] 25 (0, 0))) := ⟨(by rw [hw]; exact (zK))⟩; replace BK265 : Aside0 (w28.heap[gb265]? = some (.cells #[.int .i64 a0_0, .int .i64 a0_1, u266002] 25 (0, 0))) := ⟨(by rw [hw]; exact (zK))⟩; replace BK267 : Aside0 (w28.heap[gb267]? = some (.cells #[.int .i64 ((rd_T30 l0_2 x4_1).f0), .int .i64 ((rd_T30 l0_2 x4_1).f1), .int .i64 ((rd_T30 l0_2 x4_1).f2), .int .i64 ((rd_T30 l0_2 x4_1).f3), .slice Ao26 y271.length co26] 30 (0, 0))) := ⟨(by rw [hw]; exact (zK))⟩; replace HB : Aside0 (Below w.heap.size w w28) := ⟨(by rw [hw]; exact (zHB))⟩; clear hw; have hnb29 := NB265_264.out; have hnc29 := NB264_265.out; obtain ⟨_, _, _, _, _, _⟩ := cells3 BK265.out; obtain ⟨_, _, _, _, _, _, _, _, _, _⟩ := cells5 BK267.out) | ((with_reducible refine gate_builtin (b := .append) (xs := #[.tmp 29, .tmp 31]) rfl ?_); at_builtin; refine Kd.S_append k30 (w0 := w) w.heap.size rfl (.tmp 29) (.tmp 31) 23 30 (.agg #[(.int .i64 0), (.int .i64 0), (.int .i64 0), (.int .i64 0), (.slice none 0 0)]) 56 rfl Try.underlying23 info30 rfl (by decide) (by omega) u266002 x266002_1 (⟨(rd_T30 l0_2 x4_1).f0, (rd_T30 l0_2 x4_1).f1, (rd_T30 l0_2 x4_1).f2, (rd_T30 l0_2 x4_1).f3, y271⟩ : S30) [.int .i64 ((rd_T30 l0_2 x4_1).f0), .int .i64 ((rd_T30 l0_2 x4_1).f1), .int .i64 ((rd_T30 l0_2 x4_1).f2), .int .i64 ((rd_T30 l0_2 x4_1).f3), .slice Ao26 y271.length co26] (fun k_ => k_ ≠ gb267) (fun k_ => some k_ = (.slice Ao26 y271.length co26 : Value).ownBlock) rfl rfl ?aP (fun k_ hk_ => ((Kd.R_mono (ok' := fun k_ => ((fun k_ => k_ ≠ gb267)) k_ ∧ some k_ ≠ (u266002 : Value).ownBlock) (Kd.R_types (Kd.R_apart' (HO273.out) (Kd.S_typed HO_266002.out) (by decide)) BK267.out (by decide)) (fun k_ hk => ⟨hk.2, hk.1.2⟩))).1 k_ hk_.symm) ?aF ?aO ?aB ?aS ?aL ?_; (case aP => exact k30_mkM _ _ _ (⟨(rd_T30 l0_2 x4_1).f0, (rd_T30 l0_2 x4_1).f1, (rd_T30 l0_2 x4_1).f2, (rd_T30 l0_2 x4_1).f3, y271⟩ : S30) (Kd.R_mono (Kd.R_tight rfl (Kd.R_mono (ok' := fun k_ => ((fun k_ => k_ ≠ gb267)) k_ ∧ some k_ ≠ (u266002 : Value).ownBlock) (Kd.R_types (Kd.R_apart' (HO273.out) (Kd.S_typed HO_266002.out) (by decide)) BK267.out (by decide)) (fun k_ hk => ⟨hk.2, hk.1.2⟩))) (fun _ h_ => h_))); (case aB => exact (zHB)); (case aF => exact (fun k_ hk => Kd.freshB (g := gb267) (o := .cells #[.int .i64 ((rd_T30 l0_2 x4_1).f0), .int .i64 ((rd_T30 l0_2 x4_1).f1), .int .i64 ((rd_T30 l0_2 x4_1).f2), .int .i64 ((rd_T30 l0_2 x4_1).f3), .slice Ao26 y271.length co26] 30 (0, 0)) (zK) k_ hk)); (case aO => exact (by (with_reducible repeat (first | apply Kd.S_alloc | apply Kd.S_drewN | apply Kd.S_drew)); exact Kd.S_mono HO_266002.out (fun k_ hk => ⟨hk.2, fun e_ => hk.1 e_⟩))); (case aS => exact (below_size (zHB))); (case aL => have := LMc13.out; omega); intro v275 w32 ho hb hg hat; rw [← Ny274.out] at ho; replace BK263 := Ax (blk_grown (g := gb263) (zK) hg (Kd.S_ne HO_266002.out BK263.out (by decide))); replace BK264 := Ax (blk_grown (g := gb264) (zK) hg (Kd.S_ne HO_266002.out BK264.out (by decide))); replace BK265 := Ax (blk_grown (g := gb265) (zK) hg (Kd.S_ne HO_266002.out BK265.out (by decide))); replace BK267 := Ax (blk_grown (g := gb267) (zK) hg (Kd.S_away HO_266002.out (fun _ hk => hk.2))); replace HB := Ax (hb); have HO276 := Ax (ho); clear HO_266002 HO273; clear ho hb hg hat; obtain ⟨Ao33, co33, eo33⟩ := Kd.S_slice HO276.out; subst eo33; obtain ⟨_, _, _, _, _, _⟩ := cells3 BK265.out))
  go_roundg k1
  case measure => have := HK1.out; omega
  exact ⟨(wrap64 (x4_1 + 1)), (y274), (.slice Ao33 y274.length co33), (by first | rfl | (simp; done) | (simp [*]; done)), H', ⟨by have := HK1.out; omega⟩, ⟨by (with_reducible repeat (first | apply Kd.S_alloc | apply Kd.S_drewN | apply Kd.S_drew)); exact Kd.S_mono (Kd.S_far (p := ⟨gb265, 2, none⟩) (Kd.S_types HO276.out BK265.out (by decide)) (fun _ hk => hk.2) (.slice Ao33 y274.length co33)) (fun _ hk => trivial)⟩, ⟨zK⟩, ⟨zK⟩, ⟨zK⟩, ⟨zHB⟩⟩
end Go.Proofs.Ytljgbeccmcidkaa.P
namespace Go.Proofs.Ytljgbeccmcidkaa.P
open Go.RowKit Go.Proofs.YtljgbeccmcidkaaW.PrintWords Go.Proofs.YtljgbeccmcidkaaW.PrintLast Go.Proofs.YtljgbeccmcidkaaW.PrintMore
attribute [local go_sem] max2_int min2_int max_two min_two max_three min_three max_four min_four   -- for this text's walks alone
set_option linter.unusedVariables false
set_option linter.unusedSimpArgs false

attribute [local go_sem ↓] isSome_setCell
/-! ### spec_l2Sort: function 52 -/
mutual
def spec_l2Sort.l0 : Nat → List (S30) → List (S30) → Int → Option ((List (S30)))
  | 0, _, _, _ => none
  | k + 1, x0, x3, x4 => if x4 < (x0.length : Int) then (spec_l2Sort.l1 k x0 x3 x4 (([] : List (S30))) false 0) else (some x3)
def spec_l2Sort.l1 : Nat → List (S30) → List (S30) → Int → List (S30) → Bool → Int → Option ((List (S30)))
  | 0, _, _, _, _, _, _ => none
  | k + 1, x0, x3, x4, x5, x6, x7 => if x7 < (x3.length : Int) then (if x6 = true then (spec_l2Sort.j2 k x0 x3 x4 x5 x6 x7 false) else (if 0 ≤ x7 then (if 0 ≤ x4 then (if x4 < (x0.length : Int) then (if ((rd_T30 x3 x7).f0) > ((rd_T30 x0 x4).f0) then (spec_l2Sort.j2 k x0 x3 x4 x5 x6 x7 true) else (if ((rd_T30 x3 x7).f0) = ((rd_T30 x0 x4).f0) then (spec_l2Sort.j2 k x0 x3 x4 x5 x6 x7 (decide (((rd_T30 x3 x7).f1) > ((rd_T30 x0 x4).f1)))) else (spec_l2Sort.j2 k x0 x3 x4 x5 x6 x7 false))) else (none)) else (none)) else (none))) else (if x6 = true then (spec_l2Sort.l0 k x0 x5 (wrap64 (x4 + 1))) else (if 0 ≤ x4 then (if x4 < (x0.length : Int) then (if x5.length < 2513169434916 then (spec_l2Sort.l0 k x0 (x5 ++ [(⟨(rd_T30 x0 x4).f0, (rd_T30 x0 x4).f1, (rd_T30 x0 x4).f2, (rd_T30 x0 x4).f3, (rd_T30 x0 x4).f4⟩ : S30)]) (wrap64 (x4 + 1))) else (none)) else (none)) else (none)))
def spec_l2Sort.j2 : Nat → List (S30) → List (S30) → Int → List (S30) → Bool → Int → Bool → Option ((List (S30)))
  | 0, _, _, _, _, _, _, _ => none
  | k + 1, x0, x3, x4, x5, x6, x7, x62 => if x62 = true then (if 0 ≤ x4 then (if x4 < (x0.length : Int) then (if x5.length < 2513169434916 then ((some (x5 ++ [(⟨(rd_T30 x0 x4).f0, (rd_T30 x0 x4).f1, (rd_T30 x0 x4).f2, (rd_T30 x0 x4).f3, (rd_T30 x0 x4).f4⟩ : S30)] : List (S30))).bind fun y150 => (if 0 ≤ x7 then (if x7 < (x3.length : Int) then (if y150.length < 2513169434916 then (spec_l2Sort.l1 k x0 x3 x4 (y150 ++ [(⟨(rd_T30 x3 x7).f0, (rd_T30 x3 x7).f1, (rd_T30 x3 x7).f2, (rd_T30 x3 x7).f3, (rd_T30 x3 x7).f4⟩ : S30)]) true (wrap64 (x7 + 1))) else (none)) else (none)) else (none))) else (none)) else (none)) else (none)) else (if 0 ≤ x7 then (if x7 < (x3.length : Int) then (if x5.length < 2513169434916 then (spec_l2Sort.l1 k x0 x3 x4 (x5 ++ [(⟨(rd_T30 x3 x7).f0, (rd_T30 x3 x7).f1, (rd_T30 x3 x7).f2, (rd_T30 x3 x7).f3, (rd_T30 x3 x7).f4⟩ : S30)]) x6 (wrap64 (x7 + 1))) else (none)) else (none)) else (none))
end
def spec_l2Sort.f (k : Nat) (l0 : List (S30)) : Option ((List (S30))) := spec_l2Sort.l0 k l0 (([] : List (S30))) 0
theorem spec_l2Sort.mono_l : ∀ k, (∀ y0 y1 y2, LeO (spec_l2Sort.l0 k y0 y1 y2) (spec_l2Sort.l0 (k + 1) y0 y1 y2)) ∧ (∀ y0 y1 y2 y3 y4 y5, LeO (spec_l2Sort.l1 k y0 y1 y2 y3 y4 y5) (spec_l2Sort.l1 (k + 1) y0 y1 y2 y3 y4 y5)) ∧ (∀ y0 y1 y2 y3 y4 y5 y6, LeO (spec_l2Sort.j2 k y0 y1 y2 y3 y4 y5 y6) (spec_l2Sort.j2 (k + 1) y0 y1 y2 y3 y4 y5 y6))
  | 0 => by refine ⟨?_, ?_, ?_⟩ <;> intros <;> intro r h <;> simp [spec_l2Sort.l0, spec_l2Sort.l1, spec_l2Sort.j2] at h
  | k + 1 => by
    obtain ⟨ih0, ih1, ih2⟩ := spec_l2Sort.mono_l k
    refine ⟨?_, ?_, ?_⟩ <;> intros <;> (first | unfold spec_l2Sort.l0 | unfold spec_l2Sort.l1 | unfold spec_l2Sort.j2) <;> with_reducible repeat' first | exact ih0 _ _ _ | exact ih1 _ _ _ _ _ _ | exact ih2 _ _ _ _ _ _ _ | exact LeO.refl _ | exact LeO.none _ | refine LeO.ite ?_ ?_ | refine LeO.bind ?_ (fun _ => ?_)
theorem spec_l2Sort.mono : ∀ a0 k, LeO (spec_l2Sort.f k a0) (spec_l2Sort.f (k + 1) a0) := by
  intro a0 k
  obtain ⟨ih0, ih1, ih2⟩ := spec_l2Sort.mono_l k
  unfold spec_l2Sort.f
  with_reducible repeat' first | exact ih0 _ _ _ | exact ih1 _ _ _ _ _ _ | exact ih2 _ _ _ _ _ _ _ | exact LeO.refl _ | exact LeO.none _ | refine LeO.ite ?_ ?_ | refine LeO.bind ?_ (fun _ => ?_)
theorem spec_l2Sort.zHB {p : Prop} (h : p := by repeat (first | (with_reducible first | exact HB.out | apply below_alloc | apply pw_below_drewN | apply below_drew1) | exact HB.out)) : p := h
theorem spec_l2Sort.z0 {p : Prop} (h : p := by (with_reducible repeat (first | apply Kd.N_alloc | apply Kd.N_drewN | apply Kd.N_drew)); exact HO_3.out) : p := h
theorem spec_l2Sort.z1 {p : Prop} (h : p := by first | (with_reducible assumption) | assumption) : p := h
theorem spec_l2Sort.z2 {p : Prop} (h : p := by (with_reducible repeat (first | apply Kd.N_alloc | apply Kd.N_drewN | apply Kd.N_drew)); exact HO_5.out) : p := h
theorem spec_l2Sort.z3 {p : Prop} (h : p := by (with_reducible repeat (first | apply Kd.V_alloc | apply Kd.V_drewN | apply Kd.V_drew)); exact Kd.V_mono HO_0.out (fun _ hk => ⟨⟨hk.1, hk.2.1⟩, hk.2.2⟩)) : p := h
theorem spec_l2Sort.z4 {p : Prop} (h : p := by (with_reducible repeat (first | apply Kd.V_alloc | apply Kd.V_drewN | apply Kd.V_drew)); exact HO_0.out) : p := h
theorem spec_l2Sort.z5 {p : Prop} (h : p := by first | rfl | (simp; done) | (simp [*]; done)) : p := h
theorem spec_l2Sort.z6 {p : Prop} (h : p := by (with_reducible repeat (first | apply Kd.V_alloc | apply Kd.V_drewN | apply Kd.V_drew)); exact Kd.V_mono HL161_4.out (fun _ hk => ⟨⟨hk.1, hk.2.1⟩, hk.2.2⟩)) : p := h
theorem spec_l2Sort.z7 {p : Prop} (h : p := by (with_reducible repeat (first | apply Kd.V_alloc | apply Kd.V_drewN | apply Kd.V_drew)); exact Kd.V_mono HL157_4.out (fun _ hk => ⟨⟨hk.1.1, hk.2⟩, hk.1.2⟩)) : p := h
theorem spec_l2Sort.z8 {p : Prop} (h : p := by (with_reducible repeat (first | apply Kd.V_alloc | apply Kd.V_drewN | apply Kd.V_drew)); exact Kd.V_mono HL149_4.out (fun _ hk => ⟨⟨hk.1, hk.2.1⟩, hk.2.2⟩)) : p := h
theorem spec_l2Sort.z9 {p : Prop} (h : p := by (with_reducible repeat (first | apply Kd.V_alloc | apply Kd.V_drewN | apply Kd.V_drew)); exact Kd.V_mono HL153_4.out (fun _ hk => ⟨⟨hk.1.1, hk.2⟩, hk.1.2⟩)) : p := h
theorem spec_l2Sort.z10 {p : Prop} (h : p := by (with_reducible repeat (first | apply Kd.V_alloc | apply Kd.V_drewN | apply Kd.V_drew)); exact HO0.out) : p := h
theorem spec_l2Sort.z11 {p : Prop} (h : p := by (with_reducible repeat (first | apply Kd.V_alloc | apply Kd.V_drewN | apply Kd.V_drew)); exact Kd.V_mono HO_0.out (fun _ hk => ⟨hk.1.1, ⟨hk.1.2, hk.2⟩⟩)) : p := h
theorem spec_l2Sort.z12 {p : Prop} (h : p := by (with_reducible repeat (first | apply Kd.V_alloc | apply Kd.V_drewN | apply Kd.V_drew)); exact HL149_4.out) : p := h
theorem spec_l2Sort.z13 {p : Prop} (h : p := by (with_reducible repeat (first | apply Kd.N_alloc | apply Kd.N_drewN | apply Kd.N_drew)); exact HO152.out) : p := h
theorem spec_l2Sort.z14 {p : Prop} (h : p := by have := HK1.out; have := HK2.out; first | omega | exact Nat.le_refl _) : p := h
theorem spec_l2Sort.z15 {p : Prop} (h : p := by first | exact q143 | exact of_decide_eq_true (z1) | (have e_ := (Kd.N_reads' HO_3.out).1; omega)) : p := h
theorem spec_l2Sort.z16 {p : Prop} (h : p := by first | exact q144 | exact of_decide_eq_true (z1) | (have e_ := (Kd.V_reads' HO_0.out).1; omega)) : p := h
theorem spec_l2Sort.z17 {p : Prop} (h : p := by first | exact q153 | exact of_decide_eq_true (z1) | (have e_ := (Kd.N_reads' HO_3.out).1; omega)) : p := h
theorem spec_l2Sort.z18 {p : Prop} (h : p := by first | exact q145 | exact of_decide_eq_true (z1) | (have e_ := (Kd.N_reads' HO_3.out).1; omega)) : p := h
theorem spec_l2Sort.z19 {p : Prop} (h : p := by first | exact q146 | exact of_decide_eq_true (z1) | (have e_ := (Kd.V_reads' HO_0.out).1; omega)) : p := h
theorem spec_l2Sort.zy {p : Prop} (h : p := by first | (rw [hy_]; with_reducible exact H) | (have H2_ := (Option.bind_some _ _).symm.trans H; rw [hy_]; with_reducible exact H2_) | (have H2_ := (Option.bind_some _ _).symm.trans H; with_reducible exact H2_) | with_reducible exact H | (rw [hy_]; exact H) | exact H) : p := h
set_option maxHeartbeats 8000000 in
set_option maxRecDepth 100000 in
theorem spec_l2Sort.calls (k : Nat) (P0_ : Nat → Prop) (A0 : Option Addr) (c0 : Nat) (l0 : List (S30)) (r : List (S30)) (w : World) (hs0 : Kd.V k30 30 w w.heap.size (fun k_ => P0_ k_) (.slice A0 l0.length c0) l0) (h : spec_l2Sort.f k l0 = some r) :
    Calls Try.prog 52 #[.slice A0 l0.length c0] w fun e w' => ∃ v0_ : Value, e = .returned (v0_) ∧ Kd.N k30 30 w' w.heap.size (fun k_ => (P0_ k_ ∨ w.heap.size ≤ k_)) v0_ r ∧ Below w.heap.size w w' := by
 have hu30 := Try.underlying30
 have HO0 := Ax (show Kd.V k30 30 w w.heap.size (fun k_ => (P0_ k_ ∨ w.heap.size ≤ k_)) (.slice A0 l0.length c0) l0 from Kd.V_mono hs0 (fun k_ hk => .inl hk))
 have HB := Ax (Below.refl w.heap.size w)
 have H : (spec_l2Sort.l0 k l0 (([] : List (S30))) 0) = some r := h
 clear h
 obtain ⟨y137, hy_⟩ : ∃ y_ : List (S30), y_ = (([] : List (S30))) := ⟨_, rfl⟩
 replace H : (spec_l2Sort.l0 k l0 y137 0) = some r := zy
 have Ny137 := Ax hy_
 clear hy_
 have H' := Ax H
 clear H
 go_enter Try.func52, Try.ntmps52
 go_wp2_with (first | ((with_reducible refine gate_dst (N := 8) rfl ?_); refine Kd.N_lit k30 _ 30 ?hg (N' := 8) ?hd (xs := ([] : List (S30))) (inner := []) (ok := (fun k_ => (P0_ k_ ∨ w.heap.size ≤ k_))) (okp := (fun k_ => (P0_ k_ ∨ w.heap.size ≤ k_))) ?hr ?hp (fun _ hk => hk) ((show ∀ k_, w.heap.size ≤ k_ → (fun k_ => (P0_ k_ ∨ w.heap.size ≤ k_)) k_ from fun k_ hk => (.inr (Nat.le_trans (below_size (zHB)) hk))) _ (Nat.le_refl _)) (Below.refl _ _) (Nat.le_refl _) (by simp) ?_; (case hd => rfl); (case hg => rfl); (case hr => first | (go_simp; done) | (go_simp; rfl)); (case hp => exact (Reps.none _ _)); intro v138 w2 ho3 hb hg_ hnew_; clear hg_ hnew_; (first | rw [← Ny137.out] at ho3 | (simp only [Int.reduceToNat] at ho3; rw [← Ny137.out] at ho3)); replace HO0 := Ax (Kd.V_elder' (z10) (Kd.N_base ho3) hb); have HO139 := Ax (Kd.N_lower ho3 (below_size (zHB))); replace HB := Ax (below_step (zHB) hb); clear hb ho3))
 repeat (go_quiet (first | ((with_reducible refine gate_dst (N := 8) rfl ?_); refine Kd.N_lit k30 _ 30 ?hg (N' := 8) ?hd (xs := ([] : List (S30))) (inner := []) (ok := (fun k_ => (P0_ k_ ∨ w.heap.size ≤ k_))) (okp := (fun k_ => (P0_ k_ ∨ w.heap.size ≤ k_))) ?hr ?hp (fun _ hk => hk) ((show ∀ k_, w.heap.size ≤ k_ → (fun k_ => (P0_ k_ ∨ w.heap.size ≤ k_)) k_ from fun k_ hk => (.inr (Nat.le_trans (below_size (zHB)) hk))) _ (Nat.le_refl _)) (Below.refl _ _) (Nat.le_refl _) (by simp) ?_; (case hd => rfl); (case hg => rfl); (case hr => first | (go_simp; done) | (go_simp; rfl)); (case hp => exact (Reps.none _ _)); intro v138 w2 ho3 hb hg_ hnew_; clear hg_ hnew_; (first | rw [← Ny137.out] at ho3 | (simp only [Int.reduceToNat] at ho3; rw [← Ny137.out] at ho3)); replace HO0 := Ax (Kd.V_elder' (z10) (Kd.N_base ho3) hb); have HO139 := Ax (Kd.N_lower ho3 (below_size (zHB))); replace HB := Ax (below_step (zHB) hb); clear hb ho3)); try go_wp2_with (first | ((with_reducible refine gate_dst (N := 8) rfl ?_); refine Kd.N_lit k30 _ 30 ?hg (N' := 8) ?hd (xs := ([] : List (S30))) (inner := []) (ok := (fun k_ => (P0_ k_ ∨ w.heap.size ≤ k_))) (okp := (fun k_ => (P0_ k_ ∨ w.heap.size ≤ k_))) ?hr ?hp (fun _ hk => hk) ((show ∀ k_, w.heap.size ≤ k_ → (fun k_ => (P0_ k_ ∨ w.heap.size ≤ k_)) k_ from fun k_ hk => (.inr (Nat.le_trans (below_size (zHB)) hk))) _ (Nat.le_refl _)) (Below.refl _ _) (Nat.le_refl _) (by simp) ?_; (case hd => rfl); (case hg => rfl); (case hr => first | (go_simp; done) | (go_simp; rfl)); (case hp => exact (Reps.none _ _)); intro v138 w2 ho3 hb hg_ hnew_; clear hg_ hnew_; (first | rw [← Ny137.out] at ho3 | (simp only [Int.reduceToNat] at ho3; rw [← Ny137.out] at ho3)); replace HO0 := Ax (Kd.V_elder' (z10) (Kd.N_base ho3) hb); have HO139 := Ax (Kd.N_lower ho3 (below_size (zHB))); replace HB := Ax (below_step (zHB) hb); clear hb ho3)))
 go_loopg [3, 4] k (fun kq v3 v4 w' => ∃ (x3_1 : List (S30)) (x4_1 : Int), v4 = .int .i64 x4_1 ∧ Aside0 (spec_l2Sort.l0 kq l0 x3_1 x4_1 = some r) ∧ Aside0 (kq ≤ k) ∧ Aside0 (Kd.V k30 30 w' w.heap.size (fun k_ => (P0_ k_ ∨ w.heap.size ≤ k_) ∧ some k_ ≠ (v3 : Value).ownBlock) (.slice A0 l0.length c0) l0) ∧ Aside0 (Kd.N k30 30 w' w.heap.size (fun k_ => (P0_ k_ ∨ w.heap.size ≤ k_)) v3 x3_1) ∧ Aside0 (Below w.heap.size w w'))
 case atStart => exact ⟨(y137), (0), (z5), H', ⟨Nat.le_refl _⟩, ⟨z10⟩, ⟨by (with_reducible repeat (first | apply Kd.N_alloc | apply Kd.N_drewN | apply Kd.N_drew)); exact HO139.out⟩, ⟨zHB⟩⟩
 clear H'
 obtain ⟨x3_1, x4_1, rfl, HA, HK1, HO_0, HO_3, HB⟩ := hrel
 cases gk with
 | zero => exact absurd HA.out (by simp [spec_l2Sort.l0])
 | succ k1 =>
  have H := HA.out
  clear HA
  simp only [spec_l2Sort.l0] at H
  by_cases c4 : x4_1 < (l0.length : Int)
  rotate_left
  · rw [if_neg c4] at H
    have c4b0 := decide_eq_false c4
    clear c4
    obtain rfl := Option.some.inj H
    go_wp2
    repeat (go_quiet (fail); try go_wp2)
    go_ret
    exact ⟨_, by first | rfl | (simp [errW_none, errW_some] <;> rfl) | (simp [*, errW_none, errW_some] <;> rfl), z0, zHB⟩
  rw [if_pos c4] at H
  have c4b0 := decide_eq_true c4
  clear c4
  obtain ⟨y140, hy_⟩ : ∃ y_ : List (S30), y_ = (([] : List (S30))) := ⟨_, rfl⟩
  replace H : (spec_l2Sort.l1 k1 l0 x3_1 x4_1 y140 false 0) = some r := zy
  have Ny140 := Ax hy_
  clear hy_
  have H' := Ax H
  clear H
  go_wp2_with (first | ((with_reducible refine gate_dst (N := 15) rfl ?_); refine Kd.N_lit k30 _ 30 ?hg (N' := 15) ?hd (xs := ([] : List (S30))) (inner := []) (ok := (fun k_ => (P0_ k_ ∨ w.heap.size ≤ k_) ∧ some k_ ≠ (u3 : Value).ownBlock)) (okp := (fun k_ => (P0_ k_ ∨ w.heap.size ≤ k_) ∧ some k_ ≠ (u3 : Value).ownBlock)) ?hr ?hp (fun _ hk => hk) ((show ∀ k_, wr.heap.size ≤ k_ → (fun k_ => (P0_ k_ ∨ w.heap.size ≤ k_) ∧ some k_ ≠ (u3 : Value).ownBlock) k_ from fun k_ hk => ⟨(.inr (Nat.le_trans (below_size (zHB)) hk)), Kd.fresh' (Kd.N_lt (z0)) k_ hk⟩) _ (Nat.le_refl _)) (Below.refl _ _) (Nat.le_refl _) (by simp) ?_; (case hd => rfl); (case hg => rfl); (case hr => first | (go_simp; done) | (go_simp; rfl)); (case hp => exact (Reps.none _ _)); intro v141 w5 ho6 hb hg_ hnew_; clear hg_ hnew_; (first | rw [← Ny140.out] at ho6 | (simp only [Int.reduceToNat] at ho6; rw [← Ny140.out] at ho6)); replace HO_0 := Ax (Kd.V_elder' (z4) (Kd.N_base ho6) hb); replace HO_3 := Ax (Kd.N_elder' (z0) (Kd.N_base ho6) hb); have HO142 := Ax (Kd.N_lower ho6 (below_size (zHB))); replace HB := Ax (below_step (zHB) hb); clear hb ho6))
  repeat (go_quiet (first | ((with_reducible refine gate_dst (N := 15) rfl ?_); refine Kd.N_lit k30 _ 30 ?hg (N' := 15) ?hd (xs := ([] : List (S30))) (inner := []) (ok := (fun k_ => (P0_ k_ ∨ w.heap.size ≤ k_) ∧ some k_ ≠ (u3 : Value).ownBlock)) (okp := (fun k_ => (P0_ k_ ∨ w.heap.size ≤ k_) ∧ some k_ ≠ (u3 : Value).ownBlock)) ?hr ?hp (fun _ hk => hk) ((show ∀ k_, wr.heap.size ≤ k_ → (fun k_ => (P0_ k_ ∨ w.heap.size ≤ k_) ∧ some k_ ≠ (u3 : Value).ownBlock) k_ from fun k_ hk => ⟨(.inr (Nat.le_trans (below_size (zHB)) hk)), Kd.fresh' (Kd.N_lt (z0)) k_ hk⟩) _ (Nat.le_refl _)) (Below.refl _ _) (Nat.le_refl _) (by simp) ?_; (case hd => rfl); (case hg => rfl); (case hr => first | (go_simp; done) | (go_simp; rfl)); (case hp => exact (Reps.none _ _)); intro v141 w5 ho6 hb hg_ hnew_; clear hg_ hnew_; (first | rw [← Ny140.out] at ho6 | (simp only [Int.reduceToNat] at ho6; rw [← Ny140.out] at ho6)); replace HO_0 := Ax (Kd.V_elder' (z4) (Kd.N_base ho6) hb); replace HO_3 := Ax (Kd.N_elder' (z0) (Kd.N_base ho6) hb); have HO142 := Ax (Kd.N_lower ho6 (below_size (zHB))); replace HB := Ax (below_step (zHB) hb); clear hb ho6)); try go_wp2_with (first | ((with_reducible refine gate_dst (N := 15) rfl ?_); refine Kd.N_lit k30 _ 30 ?hg (N' := 15) ?hd (xs := ([] : List (S30))) (inner := []) (ok := (fun k_ => (P0_ k_ ∨ w.heap.size ≤ k_) ∧ some k_ ≠ (u3 : Value).ownBlock)) (okp := (fun k_ => (P0_ k_ ∨ w.heap.size ≤ k_) ∧ some k_ ≠ (u3 : Value).ownBlock)) ?hr ?hp (fun _ hk => hk) ((show ∀ k_, wr.heap.size ≤ k_ → (fun k_ => (P0_ k_ ∨ w.heap.size ≤ k_) ∧ some k_ ≠ (u3 : Value).ownBlock) k_ from fun k_ hk => ⟨(.inr (Nat.le_trans (below_size (zHB)) hk)), Kd.fresh' (Kd.N_lt (z0)) k_ hk⟩) _ (Nat.le_refl _)) (Below.refl _ _) (Nat.le_refl _) (by simp) ?_; (case hd => rfl); (case hg => rfl); (case hr => first | (go_simp; done) | (go_simp; rfl)); (case hp => exact (Reps.none _ _)); intro v141 w5 ho6 hb hg_ hnew_; clear hg_ hnew_; (first | rw [← Ny140.out] at ho6 | (simp only [Int.reduceToNat] at ho6; rw [← Ny140.out] at ho6)); replace HO_0 := Ax (Kd.V_elder' (z4) (Kd.N_base ho6) hb); replace HO_3 := Ax (Kd.N_elder' (z0) (Kd.N_base ho6) hb); have HO142 := Ax (Kd.N_lower ho6 (below_size (zHB))); replace HB := Ax (below_step (zHB) hb); clear hb ho6)))
  go_loopg [5, 6, 7] k1 (fun kq v5 v6 v7 w' => ∃ (x5_2 : List (S30)) (x6_2 : Bool) (x7_2 : Int), v6 = .bool x6_2 ∧ v7 = .int .i64 x7_2 ∧ Aside0 (spec_l2Sort.l1 kq l0 x3_1 x4_1 x5_2 x6_2 x7_2 = some r) ∧ Aside0 (kq ≤ k1) ∧ Aside0 (Kd.V k30 30 w' w.heap.size (fun k_ => (P0_ k_ ∨ w.heap.size ≤ k_) ∧ some k_ ≠ (u3 : Value).ownBlock ∧ some k_ ≠ (v5 : Value).ownBlock) (.slice A0 l0.length c0) l0) ∧ Aside0 (Kd.N k30 30 w' w.heap.size (fun k_ => (P0_ k_ ∨ w.heap.size ≤ k_) ∧ some k_ ≠ (v5 : Value).ownBlock) u3 x3_1) ∧ Aside0 (Kd.N k30 30 w' w.heap.size (fun k_ => (P0_ k_ ∨ w.heap.size ≤ k_) ∧ some k_ ≠ (u3 : Value).ownBlock) v5 x5_2) ∧ Aside0 (Below w.heap.size w w'))
  case atStart => exact ⟨(y140), (false), (0), (z5), (z5), H', ⟨Nat.le_refl _⟩, ⟨z11⟩, ⟨z0⟩, ⟨by (with_reducible repeat (first | apply Kd.N_alloc | apply Kd.N_drewN | apply Kd.N_drew)); exact HO142.out⟩, ⟨zHB⟩⟩
  clear H'
  (try clear c4); (try clear c4b0)
  obtain ⟨x5_2, x6_2, x7_2, rfl, rfl, HA, HK2, HO_0, HO_3, HO_5, HB⟩ := hrel
  cases gk with
  | zero => exact absurd HA.out (by simp [spec_l2Sort.l1])
  | succ k2 =>
   have H := HA.out
   clear HA
   simp only [spec_l2Sort.l1] at H
   by_cases c7 : x7_2 < (x3_1.length : Int)
   rotate_left
   · rw [if_neg c7] at H
     have c7b0 := decide_eq_false c7
     clear c7
     obtain rfl | rfl := tf x6_2
     · rw [if_pos rfl] at H
       have H' := Ax H
       clear H
       obtain ⟨Ao30, co30, eo30⟩ := Kd.N_slice HO_3.out
       subst eo30
       go_wp2
       repeat (go_quiet (fail); try go_wp2)
       go_roundg k2
       case measure => have := HK1.out; have := HK2.out; omega
       exact ⟨(x5_2), (wrap64 (x4_1 + 1)), (z5), H', ⟨by have := HK1.out; have := HK2.out; omega⟩, ⟨by (with_reducible repeat (first | apply Kd.V_alloc | apply Kd.V_drewN | apply Kd.V_drew)); exact Kd.V_mono HO_0.out (fun _ hk => ⟨hk.1, hk.2.2⟩)⟩, ⟨by (with_reducible repeat (first | apply Kd.N_alloc | apply Kd.N_drewN | apply Kd.N_drew)); exact Kd.N_mono HO_5.out (fun _ hk => hk.1)⟩, ⟨zHB⟩⟩
     rw [if_neg Bool.false_ne_true] at H
     by_cases c31 : 0 ≤ x4_1
     rotate_left
     · rw [if_neg c31] at H
       exact absurd H (by simp)
     rw [if_pos c31] at H
     have c31b0 := decide_eq_true c31
     clear c31
     by_cases c32 : x4_1 < (l0.length : Int)
     rotate_left
     · rw [if_neg c32] at H
       exact absurd H (by simp)
     rw [if_pos c32] at H
     have c32b0 := decide_eq_true c32
     clear c32
     by_cases c33 : x5_2.length < 2513169434916
     rotate_left
     · rw [if_neg c33] at H
       exact absurd H (by simp)
     rw [if_pos c33] at H
     have LMc33 := Ax c33
     clear c33
     obtain ⟨y162, hy_⟩ : ∃ y_ : List (S30), y_ = (x5_2 ++ [(⟨(rd_T30 l0 x4_1).f0, (rd_T30 l0 x4_1).f1, (rd_T30 l0 x4_1).f2, (rd_T30 l0 x4_1).f3, (rd_T30 l0 x4_1).f4⟩ : S30)]) := ⟨_, rfl⟩
     replace H : (spec_l2Sort.l0 k2 l0 y162 (wrap64 (x4_1 + 1))) = some r := zy
     have Ny162 := Ax hy_
     clear hy_
     have H' := Ax H
     clear H
     obtain ⟨Ao34, co34, eo34⟩ := Kd.N_slice HO_3.out
     subst eo34
     have p161 : 0 ≤ (x4_1 : Int) := of_decide_eq_true (z1)
     have q161 : x4_1 < (l0.length : Int) := of_decide_eq_true (z1)
     obtain ⟨ad161, A161_4, c161_4, e161, hx161_0, hx161_1, hx161_2, hx161_3, hx161_4, hl161_4, hi161_4⟩ := at_T30 (Kd.V_reads' HO_0.out).2.2 x4_1 p161 q161
     cases e161
     obtain ⟨ce161, hce161, hMe161, hcc161⟩ := Kd.V_get HO_0.out z30 x4_1 p161 (by first | exact q161 | exact of_decide_eq_true (z1) | (have e_ := (Kd.V_reads' HO_0.out).1; omega))
     obtain ⟨ua161_4, uc161_4, rfl, ul161_4, ge161_4⟩ := k30_openF hMe161
     have hv161_4 := hcc161 4 _ rfl
     rw [add_field _ _ 4 (by omega)] at hv161_4
     replace hv161_4 := Option.some.inj (hv161_4.symm.trans hx161_4)
     injection hv161_4 with hva_ hvn_ hvc_
     rw [hva_] at ge161_4
     rw [hvc_] at ul161_4
     have HL161_4 := Ax (show Kd.V k61 61 _ w.heap.size _ _ ((rd_T30 l0 x4_1).f4) from Kd.V_mk ul161_4 ge161_4)
     clear hva_ hvn_ hvc_ ge161_4 ul161_4
     clear hcc161 hce161
     have HR161_4 := Ax hi161_4
     have HC161_4 := Ax hl161_4
     clear hi161_4 hl161_4
     replace p161 := eq_true p161
     replace q161 := eq_true q161
     go_wp2_with (first | ((with_reducible refine gate_builtin (b := .append) (xs := #[.tmp 79, .tmp 84]) rfl ?_); at_builtin; refine Kd.N_append k30 (w0 := w) w.heap.size rfl (.tmp 79) (.tmp 84) 23 30 (.agg #[(.int .i64 0), (.int .i64 0), (.int .i64 0), (.int .i64 0), (.slice none 0 0)]) 56 rfl Try.underlying23 info30 rfl (by decide) (by omega) u5 x5_2 (⟨(rd_T30 l0 x4_1).f0, (rd_T30 l0 x4_1).f1, (rd_T30 l0 x4_1).f2, (rd_T30 l0 x4_1).f3, (rd_T30 l0 x4_1).f4⟩ : S30) [.int .i64 ((rd_T30 l0 x4_1).f0), .int .i64 ((rd_T30 l0 x4_1).f1), .int .i64 ((rd_T30 l0 x4_1).f2), .int .i64 ((rd_T30 l0 x4_1).f3), .slice A161_4 ((rd_T30 l0 x4_1).f4).length c161_4] (fun k_ => (P0_ k_ ∨ w.heap.size ≤ k_) ∧ some k_ ≠ (.slice Ao34 x3_1.length co34 : Value).ownBlock) (fun k_ => ((fun k_ => (P0_ k_ ∨ w.heap.size ≤ k_) ∧ some k_ ≠ (.slice Ao34 x3_1.length co34 : Value).ownBlock)) k_ ∧ some k_ ≠ (u5 : Value).ownBlock) rfl rfl ?aP (fun _ hk => hk) ?aF ?aO ?aB ?aS ?aL ?_; (case aP => exact (k30_mkF _ _ (⟨(rd_T30 l0 x4_1).f0, (rd_T30 l0 x4_1).f1, (rd_T30 l0 x4_1).f2, (rd_T30 l0 x4_1).f3, (rd_T30 l0 x4_1).f4⟩ : S30) (Kd.V_reads' (Kd.V_mono (ok' := (fun k_ => ((fun k_ => (P0_ k_ ∨ w.heap.size ≤ k_) ∧ some k_ ≠ (.slice Ao34 x3_1.length co34 : Value).ownBlock)) k_ ∧ some k_ ≠ (u5 : Value).ownBlock)) (HL161_4.out) (fun k_ hk => ⟨⟨hk.1, hk.2.1⟩, hk.2.2⟩))).2.1 (Kd.V_F (Kd.V_mono (ok' := (fun k_ => ((fun k_ => (P0_ k_ ∨ w.heap.size ≤ k_) ∧ some k_ ≠ (.slice Ao34 x3_1.length co34 : Value).ownBlock)) k_ ∧ some k_ ≠ (u5 : Value).ownBlock)) (HL161_4.out) (fun k_ hk => ⟨⟨hk.1, hk.2.1⟩, hk.2.2⟩))))); (case aB => exact (zHB)); (case aF => exact (fun k_ hk => ⟨(.inr (Nat.le_trans (below_size (zHB)) hk)), Kd.fresh' (Kd.N_lt (z0)) k_ hk⟩)); (case aO => exact (z2)); (case aS => exact (below_size (zHB))); (case aL => have := LMc33.out; omega); intro v163 w35 ho hb hg hat; rw [← Ny162.out] at ho; replace HO_0 := Ax (Kd.V_afterv (ok := (fun k_ => (P0_ k_ ∨ w.heap.size ≤ k_) ∧ some k_ ≠ (.slice Ao34 x3_1.length co34 : Value).ownBlock)) (z3) hg hat); replace HO_3 := Ax (Kd.N_afterv (ok := (fun k_ => (P0_ k_ ∨ w.heap.size ≤ k_))) (z0) hg hat); replace HL161_4 := Ax (Kd.V_afterv (ok := (fun k_ => (P0_ k_ ∨ w.heap.size ≤ k_) ∧ some k_ ≠ (.slice Ao34 x3_1.length co34 : Value).ownBlock)) (z6) hg hat); replace HB := Ax (hb); have HO164 := Ax (ho); clear HO_5; clear ho hb hg hat))
     repeat (go_quiet (first | ((with_reducible refine gate_builtin (b := .append) (xs := #[.tmp 79, .tmp 84]) rfl ?_); at_builtin; refine Kd.N_append k30 (w0 := w) w.heap.size rfl (.tmp 79) (.tmp 84) 23 30 (.agg #[(.int .i64 0), (.int .i64 0), (.int .i64 0), (.int .i64 0), (.slice none 0 0)]) 56 rfl Try.underlying23 info30 rfl (by decide) (by omega) u5 x5_2 (⟨(rd_T30 l0 x4_1).f0, (rd_T30 l0 x4_1).f1, (rd_T30 l0 x4_1).f2, (rd_T30 l0 x4_1).f3, (rd_T30 l0 x4_1).f4⟩ : S30) [.int .i64 ((rd_T30 l0 x4_1).f0), .int .i64 ((rd_T30 l0 x4_1).f1), .int .i64 ((rd_T30 l0 x4_1).f2), .int .i64 ((rd_T30 l0 x4_1).f3), .slice A161_4 ((rd_T30 l0 x4_1).f4).length c161_4] (fun k_ => (P0_ k_ ∨ w.heap.size ≤ k_) ∧ some k_ ≠ (.slice Ao34 x3_1.length co34 : Value).ownBlock) (fun k_ => ((fun k_ => (P0_ k_ ∨ w.heap.size ≤ k_) ∧ some k_ ≠ (.slice Ao34 x3_1.length co34 : Value).ownBlock)) k_ ∧ some k_ ≠ (u5 : Value).ownBlock) rfl rfl ?aP (fun _ hk => hk) ?aF ?aO ?aB ?aS ?aL ?_; (case aP => exact (k30_mkF _ _ (⟨(rd_T30 l0 x4_1).f0, (rd_T30 l0 x4_1).f1, (rd_T30 l0 x4_1).f2, (rd_T30 l0 x4_1).f3, (rd_T30 l0 x4_1).f4⟩ : S30) (Kd.V_reads' (Kd.V_mono (ok' := (fun k_ => ((fun k_ => (P0_ k_ ∨ w.heap.size ≤ k_) ∧ some k_ ≠ (.slice Ao34 x3_1.length co34 : Value).ownBlock)) k_ ∧ some k_ ≠ (u5 : Value).ownBlock)) (HL161_4.out) (fun k_ hk => ⟨⟨hk.1, hk.2.1⟩, hk.2.2⟩))).2.1 (Kd.V_F (Kd.V_mono (ok' := (fun k_ => ((fun k_ => (P0_ k_ ∨ w.heap.size ≤ k_) ∧ some k_ ≠ (.slice Ao34 x3_1.length co34 : Value).ownBlock)) k_ ∧ some k_ ≠ (u5 : Value).ownBlock)) (HL161_4.out) (fun k_ hk => ⟨⟨hk.1, hk.2.1⟩, hk.2.2⟩))))); (case aB => exact (zHB)); (case aF => exact (fun k_ hk => ⟨(.inr (Nat.le_trans (below_size (zHB)) hk)), Kd.fresh' (Kd.N_lt (z0)) k_ hk⟩)); (case aO => exact (z2)); (case aS => exact (below_size (zHB))); (case aL => have := LMc33.out; omega); intro v163 w35 ho hb hg hat; rw [← Ny162.out] at ho; replace HO_0 := Ax (Kd.V_afterv (ok := (fun k_ => (P0_ k_ ∨ w.heap.size ≤ k_) ∧ some k_ ≠ (.slice Ao34 x3_1.length co34 : Value).ownBlock)) (z3) hg hat); replace HO_3 := Ax (Kd.N_afterv (ok := (fun k_ => (P0_ k_ ∨ w.heap.size ≤ k_))) (z0) hg hat); replace HL161_4 := Ax (Kd.V_afterv (ok := (fun k_ => (P0_ k_ ∨ w.heap.size ≤ k_) ∧ some k_ ≠ (.slice Ao34 x3_1.length co34 : Value).ownBlock)) (z6) hg hat); replace HB := Ax (hb); have HO164 := Ax (ho); clear HO_5; clear ho hb hg hat)); try go_wp2_with (first | ((with_reducible refine gate_builtin (b := .append) (xs := #[.tmp 79, .tmp 84]) rfl ?_); at_builtin; refine Kd.N_append k30 (w0 := w) w.heap.size rfl (.tmp 79) (.tmp 84) 23 30 (.agg #[(.int .i64 0), (.int .i64 0), (.int .i64 0), (.int .i64 0), (.slice none 0 0)]) 56 rfl Try.underlying23 info30 rfl (by decide) (by omega) u5 x5_2 (⟨(rd_T30 l0 x4_1).f0, (rd_T30 l0 x4_1).f1, (rd_T30 l0 x4_1).f2, (rd_T30 l0 x4_1).f3, (rd_T30 l0 x4_1).f4⟩ : S30) [.int .i64 ((rd_T30 l0 x4_1).f0), .int .i64 ((rd_T30 l0 x4_1).f1), .int .i64 ((rd_T30 l0 x4_1).f2), .int .i64 ((rd_T30 l0 x4_1).f3), .slice A161_4 ((rd_T30 l0 x4_1).f4).length c161_4] (fun k_ => (P0_ k_ ∨ w.heap.size ≤ k_) ∧ some k_ ≠ (.slice Ao34 x3_1.length co34 : Value).ownBlock) (fun k_ => ((fun k_ => (P0_ k_ ∨ w.heap.size ≤ k_) ∧ some k_ ≠ (.slice Ao34 x3_1.length co34 : Value).ownBlock)) k_ ∧ some k_ ≠ (u5 : Value).ownBlock) rfl rfl ?aP (fun _ hk => hk) ?aF ?aO ?aB ?aS ?aL ?_; (case aP => exact (k30_mkF _ _ (⟨(rd_T30 l0 x4_1).f0, (rd_T30 l0 x4_1).f1, (rd_T30 l0 x4_1).f2, (rd_T30 l0 x4_1).f3, (rd_T30 l0 x4_1).f4⟩ : S30) (Kd.V_reads' (Kd.V_mono (ok' := (fun k_ => ((fun k_ => (P0_ k_ ∨ w.heap.size ≤ k_) ∧ some k_ ≠ (.slice Ao34 x3_1.length co34 : Value).ownBlock)) k_ ∧ some k_ ≠ (u5 : Value).ownBlock)) (HL161_4.out) (fun k_ hk => ⟨⟨hk.1, hk.2.1⟩, hk.2.2⟩))).2.1 (Kd.V_F (Kd.V_mono (ok' := (fun k_ => ((fun k_ => (P0_ k_ ∨ w.heap.size ≤ k_) ∧ some k_ ≠ (.slice Ao34 x3_1.length co34 : Value).ownBlock)) k_ ∧ some k_ ≠ (u5 : Value).ownBlock)) (HL161_4.out) (fun k_ hk => ⟨⟨hk.1, hk.2.1⟩, hk.2.2⟩))))); (case aB => exact (zHB)); (case aF => exact (fun k_ hk => ⟨(.inr (Nat.le_trans (below_size (zHB)) hk)), Kd.fresh' (Kd.N_lt (z0)) k_ hk⟩)); (case aO => exact (z2)); (case aS => exact (below_size (zHB))); (case aL => have := LMc33.out; omega); intro v163 w35 ho hb hg hat; rw [← Ny162.out] at ho; replace HO_0 := Ax (Kd.V_afterv (ok := (fun k_ => (P0_ k_ ∨ w.heap.size ≤ k_) ∧ some k_ ≠ (.slice Ao34 x3_1.length co34 : Value).ownBlock)) (z3) hg hat); replace HO_3 := Ax (Kd.N_afterv (ok := (fun k_ => (P0_ k_ ∨ w.heap.size ≤ k_))) (z0) hg hat); replace HL161_4 := Ax (Kd.V_afterv (ok := (fun k_ => (P0_ k_ ∨ w.heap.size ≤ k_) ∧ some k_ ≠ (.slice Ao34 x3_1.length co34 : Value).ownBlock)) (z6) hg hat); replace HB := Ax (hb); have HO164 := Ax (ho); clear HO_5; clear ho hb hg hat)))
     go_roundg k2
     case measure => have := HK1.out; have := HK2.out; omega
     exact ⟨(y162), (wrap64 (x4_1 + 1)), (z5), H', ⟨by have := HK1.out; have := HK2.out; omega⟩, ⟨by (with_reducible repeat (first | apply Kd.V_alloc | apply Kd.V_drewN | apply Kd.V_drew)); exact Kd.V_mono HO_0.out (fun _ hk => ⟨hk.1.1, hk.2⟩)⟩, ⟨by (with_reducible repeat (first | apply Kd.N_alloc | apply Kd.N_drewN | apply Kd.N_drew)); exact Kd.N_mono HO164.out (fun _ hk => hk.1)⟩, ⟨zHB⟩⟩
   rw [if_pos c7] at H
   have c7b0 := decide_eq_true c7
   clear c7
   have HC8 := Ax H
   clear H
   obtain ⟨Ao9, co9, eo9⟩ := Kd.N_slice HO_3.out
   subst eo9
   go_upto_region 10 with (fail)
   repeat (go_quiet (fail); go_upto_region 10 with (fail))
   go_cut [62] (fun v62 wc => ∃ (kq : Nat) (x62_7 : Bool), v62 = .bool x62_7 ∧ Aside0 (spec_l2Sort.j2 kq l0 x3_1 x4_1 x5_2 x6_2 x7_2 x62_7 = some r) ∧ Aside0 (kq ≤ k2) ∧ Aside0 (Kd.V k30 30 wc w.heap.size (fun k_ => (P0_ k_ ∨ w.heap.size ≤ k_) ∧ some k_ ≠ ((.slice Ao9 x3_1.length co9) : Value).ownBlock ∧ some k_ ≠ (u5 : Value).ownBlock) (.slice A0 l0.length c0) l0) ∧ Aside0 (Kd.N k30 30 wc w.heap.size (fun k_ => (P0_ k_ ∨ w.heap.size ≤ k_) ∧ some k_ ≠ (u5 : Value).ownBlock) (.slice Ao9 x3_1.length co9) x3_1) ∧ Aside0 (Kd.N k30 30 wc w.heap.size (fun k_ => (P0_ k_ ∨ w.heap.size ≤ k_) ∧ some k_ ≠ ((.slice Ao9 x3_1.length co9) : Value).ownBlock) u5 x5_2) ∧ Aside0 (Below w.heap.size w wc))
   case first =>
    have H := HC8.out
    clear HC8
    obtain rfl | rfl := tf x6_2
    · rw [if_pos rfl] at H
      have H' := Ax H
      clear H
      go_wp2
      repeat (go_quiet (fail); try go_wp2)
      go_meet
      exact ⟨_, (false), (z5), H', ⟨z14⟩, ⟨z4⟩, ⟨z0⟩, ⟨z2⟩, ⟨zHB⟩⟩
    rw [if_neg Bool.false_ne_true] at H
    by_cases c11 : 0 ≤ x7_2
    rotate_left
    · rw [if_neg c11] at H
      exact absurd H (by simp)
    rw [if_pos c11] at H
    have c11b0 := decide_eq_true c11
    clear c11
    (first | rw [c11b0] | (simp only [i64_w, i32_w]; rw [c11b0]) | skip)
    by_cases c12 : 0 ≤ x4_1
    rotate_left
    · rw [if_neg c12] at H
      exact absurd H (by simp)
    rw [if_pos c12] at H
    have c12b0 := decide_eq_true c12
    clear c12
    by_cases c13 : x4_1 < (l0.length : Int)
    rotate_left
    · rw [if_neg c13] at H
      exact absurd H (by simp)
    rw [if_pos c13] at H
    have c13b0 := decide_eq_true c13
    clear c13
    by_cases c14 : ((rd_T30 x3_1 x7_2).f0) > ((rd_T30 l0 x4_1).f0)
    · rw [if_pos c14] at H
      have c14b0 := decide_eq_true c14
      clear c14
      have H' := Ax H
      clear H
      have p143 : 0 ≤ (x7_2 : Int) := of_decide_eq_true (z1)
      have q143 : x7_2 < (x3_1.length : Int) := of_decide_eq_true (z1)
      obtain ⟨ad143, A143_4, c143_4, e143, hx143_0, hx143_1, hx143_2, hx143_3, hx143_4, hl143_4, hi143_4⟩ := at_T30 (Kd.N_reads' HO_3.out).2.2 x7_2 p143 q143
      cases e143
      obtain ⟨ce143, hce143, hMe143, hcc143⟩ := Kd.N_get HO_3.out z30 x7_2 p143 (z15)
      obtain ⟨ua143_4, uc143_4, rfl, ul143_4, ge143_4⟩ := k30_openF hMe143
      have hv143_4 := hcc143 4 _ rfl
      rw [add_field _ _ 4 (by omega)] at hv143_4
      replace hv143_4 := Option.some.inj (hv143_4.symm.trans hx143_4)
      injection hv143_4 with hva_ hvn_ hvc_
      rw [hva_] at ge143_4
      rw [hvc_] at ul143_4
      have HL143_4 := Ax (show Kd.V k61 61 _ w.heap.size _ _ ((rd_T30 x3_1 x7_2).f4) from Kd.V_mk ul143_4 ge143_4)
      clear hva_ hvn_ hvc_ ge143_4 ul143_4
      clear hcc143 hce143
      have HR143_4 := Ax hi143_4
      have HC143_4 := Ax hl143_4
      clear hi143_4 hl143_4
      replace p143 := eq_true p143
      replace q143 := eq_true q143
      have p144 : 0 ≤ (x4_1 : Int) := of_decide_eq_true (z1)
      have q144 : x4_1 < (l0.length : Int) := of_decide_eq_true (z1)
      obtain ⟨ad144, A144_4, c144_4, e144, hx144_0, hx144_1, hx144_2, hx144_3, hx144_4, hl144_4, hi144_4⟩ := at_T30 (Kd.V_reads' HO_0.out).2.2 x4_1 p144 q144
      cases e144
      obtain ⟨ce144, hce144, hMe144, hcc144⟩ := Kd.V_get HO_0.out z30 x4_1 p144 (z16)
      obtain ⟨ua144_4, uc144_4, rfl, ul144_4, ge144_4⟩ := k30_openF hMe144
      have hv144_4 := hcc144 4 _ rfl
      rw [add_field _ _ 4 (by omega)] at hv144_4
      replace hv144_4 := Option.some.inj (hv144_4.symm.trans hx144_4)
      injection hv144_4 with hva_ hvn_ hvc_
      rw [hva_] at ge144_4
      rw [hvc_] at ul144_4
      have HL144_4 := Ax (show Kd.V k61 61 _ w.heap.size _ _ ((rd_T30 l0 x4_1).f4) from Kd.V_mk ul144_4 ge144_4)
      clear hva_ hvn_ hvc_ ge144_4 ul144_4
      clear hcc144 hce144
      have HR144_4 := Ax hi144_4
      have HC144_4 := Ax hl144_4
      clear hi144_4 hl144_4
      replace p144 := eq_true p144
      replace q144 := eq_true q144
      go_wp2
      repeat (go_quiet (fail); try go_wp2)
      go_meet
      exact ⟨_, (true), (z5), H', ⟨z14⟩, ⟨z4⟩, ⟨z0⟩, ⟨z2⟩, ⟨zHB⟩⟩
    rw [if_neg c14] at H
    have c14b0 : decide (((rd_T30 l0 x4_1).f0) < ((rd_T30 x3_1 x7_2).f0)) = false := decide_eq_false c14
    clear c14
    by_cases c15 : ((rd_T30 x3_1 x7_2).f0) = ((rd_T30 l0 x4_1).f0)
    rotate_left
    · rw [if_neg c15] at H
      have c15b0 : (((rd_T30 x3_1 x7_2).f0) == ((rd_T30 l0 x4_1).f0)) = false := beq_eq_false_iff_ne.mpr c15
      have c15b1 : (((rd_T30 x3_1 x7_2).f0) != ((rd_T30 l0 x4_1).f0)) = true := bne_iff_ne.mpr c15
      have H' := Ax H
      clear H
      have p143 : 0 ≤ (x7_2 : Int) := of_decide_eq_true (z1)
      have q143 : x7_2 < (x3_1.length : Int) := of_decide_eq_true (z1)
      obtain ⟨ad143, A143_4, c143_4, e143, hx143_0, hx143_1, hx143_2, hx143_3, hx143_4, hl143_4, hi143_4⟩ := at_T30 (Kd.N_reads' HO_3.out).2.2 x7_2 p143 q143
      cases e143
      obtain ⟨ce143, hce143, hMe143, hcc143⟩ := Kd.N_get HO_3.out z30 x7_2 p143 (z15)
      obtain ⟨ua143_4, uc143_4, rfl, ul143_4, ge143_4⟩ := k30_openF hMe143
      have hv143_4 := hcc143 4 _ rfl
      rw [add_field _ _ 4 (by omega)] at hv143_4
      replace hv143_4 := Option.some.inj (hv143_4.symm.trans hx143_4)
      injection hv143_4 with hva_ hvn_ hvc_
      rw [hva_] at ge143_4
      rw [hvc_] at ul143_4
      have HL143_4 := Ax (show Kd.V k61 61 _ w.heap.size _ _ ((rd_T30 x3_1 x7_2).f4) from Kd.V_mk ul143_4 ge143_4)
      clear hva_ hvn_ hvc_ ge143_4 ul143_4
      clear hcc143 hce143
      have HR143_4 := Ax hi143_4
      have HC143_4 := Ax hl143_4
      clear hi143_4 hl143_4
      replace p143 := eq_true p143
      replace q143 := eq_true q143
      have p144 : 0 ≤ (x4_1 : Int) := of_decide_eq_true (z1)
      have q144 : x4_1 < (l0.length : Int) := of_decide_eq_true (z1)
      obtain ⟨ad144, A144_4, c144_4, e144, hx144_0, hx144_1, hx144_2, hx144_3, hx144_4, hl144_4, hi144_4⟩ := at_T30 (Kd.V_reads' HO_0.out).2.2 x4_1 p144 q144
      cases e144
      obtain ⟨ce144, hce144, hMe144, hcc144⟩ := Kd.V_get HO_0.out z30 x4_1 p144 (z16)
      obtain ⟨ua144_4, uc144_4, rfl, ul144_4, ge144_4⟩ := k30_openF hMe144
      have hv144_4 := hcc144 4 _ rfl
      rw [add_field _ _ 4 (by omega)] at hv144_4
      replace hv144_4 := Option.some.inj (hv144_4.symm.trans hx144_4)
      injection hv144_4 with hva_ hvn_ hvc_
      rw [hva_] at ge144_4
      rw [hvc_] at ul144_4
      have HL144_4 := Ax (show Kd.V k61 61 _ w.heap.size _ _ ((rd_T30 l0 x4_1).f4) from Kd.V_mk ul144_4 ge144_4)
      clear hva_ hvn_ hvc_ ge144_4 ul144_4
      clear hcc144 hce144
      have HR144_4 := Ax hi144_4
      have HC144_4 := Ax hl144_4
      clear hi144_4 hl144_4
      replace p144 := eq_true p144
      replace q144 := eq_true q144
      have p145 : 0 ≤ (x7_2 : Int) := of_decide_eq_true (z1)
      have q145 : x7_2 < (x3_1.length : Int) := of_decide_eq_true (z1)
      obtain ⟨ad145, A145_4, c145_4, e145, hx145_0, hx145_1, hx145_2, hx145_3, hx145_4, hl145_4, hi145_4⟩ := at_T30 (Kd.N_reads' HO_3.out).2.2 x7_2 p145 q145
      obtain rfl : ad143 = ad145 := (by injection e145)
      obtain ⟨ce145, hce145, hMe145, hcc145⟩ := Kd.N_get HO_3.out z30 x7_2 p145 (z18)
      obtain ⟨ua145_4, uc145_4, rfl, ul145_4, ge145_4⟩ := k30_openF hMe145
      have hv145_4 := hcc145 4 _ rfl
      rw [add_field _ _ 4 (by omega)] at hv145_4
      replace hv145_4 := Option.some.inj (hv145_4.symm.trans hx145_4)
      injection hv145_4 with hva_ hvn_ hvc_
      rw [hva_] at ge145_4
      rw [hvc_] at ul145_4
      have HL145_4 := Ax (show Kd.V k61 61 _ w.heap.size _ _ ((rd_T30 x3_1 x7_2).f4) from Kd.V_mk ul145_4 ge145_4)
      clear hva_ hvn_ hvc_ ge145_4 ul145_4
      clear hcc145 hce145
      have HR145_4 := Ax hi145_4
      have HC145_4 := Ax hl145_4
      clear hi145_4 hl145_4
      replace p145 := eq_true p145
      replace q145 := eq_true q145
      have ea_ := Option.some.inj (hx143_4.symm.trans hx145_4)
      injection ea_ with ea_ en_ ec_
      subst ea_
      subst ec_
      clear en_
      have p146 : 0 ≤ (x4_1 : Int) := of_decide_eq_true (z1)
      have q146 : x4_1 < (l0.length : Int) := of_decide_eq_true (z1)
      obtain ⟨ad146, A146_4, c146_4, e146, hx146_0, hx146_1, hx146_2, hx146_3, hx146_4, hl146_4, hi146_4⟩ := at_T30 (Kd.V_reads' HO_0.out).2.2 x4_1 p146 q146
      obtain rfl : ad144 = ad146 := (by injection e146)
      obtain ⟨ce146, hce146, hMe146, hcc146⟩ := Kd.V_get HO_0.out z30 x4_1 p146 (z19)
      obtain ⟨ua146_4, uc146_4, rfl, ul146_4, ge146_4⟩ := k30_openF hMe146
      have hv146_4 := hcc146 4 _ rfl
      rw [add_field _ _ 4 (by omega)] at hv146_4
      replace hv146_4 := Option.some.inj (hv146_4.symm.trans hx146_4)
      injection hv146_4 with hva_ hvn_ hvc_
      rw [hva_] at ge146_4
      rw [hvc_] at ul146_4
      have HL146_4 := Ax (show Kd.V k61 61 _ w.heap.size _ _ ((rd_T30 l0 x4_1).f4) from Kd.V_mk ul146_4 ge146_4)
      clear hva_ hvn_ hvc_ ge146_4 ul146_4
      clear hcc146 hce146
      have HR146_4 := Ax hi146_4
      have HC146_4 := Ax hl146_4
      clear hi146_4 hl146_4
      replace p146 := eq_true p146
      replace q146 := eq_true q146
      have ea_ := Option.some.inj (hx144_4.symm.trans hx146_4)
      injection ea_ with ea_ en_ ec_
      subst ea_
      subst ec_
      clear en_
      go_wp2
      repeat (go_quiet (fail); try go_wp2)
      go_meet
      exact ⟨_, (false), (z5), H', ⟨z14⟩, ⟨z4⟩, ⟨z0⟩, ⟨z2⟩, ⟨zHB⟩⟩
    rw [if_pos c15] at H
    have c15b0 : (((rd_T30 x3_1 x7_2).f0) == ((rd_T30 l0 x4_1).f0)) = true := beq_iff_eq.mpr c15
    have c15b1 : (((rd_T30 x3_1 x7_2).f0) != ((rd_T30 l0 x4_1).f0)) = false := bne_eq_false_iff_eq.mpr c15
    clear c15
    have H' := Ax H
    clear H
    have p143 : 0 ≤ (x7_2 : Int) := of_decide_eq_true (z1)
    have q143 : x7_2 < (x3_1.length : Int) := of_decide_eq_true (z1)
    obtain ⟨ad143, A143_4, c143_4, e143, hx143_0, hx143_1, hx143_2, hx143_3, hx143_4, hl143_4, hi143_4⟩ := at_T30 (Kd.N_reads' HO_3.out).2.2 x7_2 p143 q143
    cases e143
    obtain ⟨ce143, hce143, hMe143, hcc143⟩ := Kd.N_get HO_3.out z30 x7_2 p143 (z15)
    obtain ⟨ua143_4, uc143_4, rfl, ul143_4, ge143_4⟩ := k30_openF hMe143
    have hv143_4 := hcc143 4 _ rfl
    rw [add_field _ _ 4 (by omega)] at hv143_4
    replace hv143_4 := Option.some.inj (hv143_4.symm.trans hx143_4)
    injection hv143_4 with hva_ hvn_ hvc_
    rw [hva_] at ge143_4
    rw [hvc_] at ul143_4
    have HL143_4 := Ax (show Kd.V k61 61 _ w.heap.size _ _ ((rd_T30 x3_1 x7_2).f4) from Kd.V_mk ul143_4 ge143_4)
    clear hva_ hvn_ hvc_ ge143_4 ul143_4
    clear hcc143 hce143
    have HR143_4 := Ax hi143_4
    have HC143_4 := Ax hl143_4
    clear hi143_4 hl143_4
    replace p143 := eq_true p143
    replace q143 := eq_true q143
    have p144 : 0 ≤ (x4_1 : Int) := of_decide_eq_true (z1)
    have q144 : x4_1 < (l0.length : Int) := of_decide_eq_true (z1)
    obtain ⟨ad144, A144_4, c144_4, e144, hx144_0, hx144_1, hx144_2, hx144_3, hx144_4, hl144_4, hi144_4⟩ := at_T30 (Kd.V_reads' HO_0.out).2.2 x4_1 p144 q144
    cases e144
    obtain ⟨ce144, hce144, hMe144, hcc144⟩ := Kd.V_get HO_0.out z30 x4_1 p144 (z16)
    obtain ⟨ua144_4, uc144_4, rfl, ul144_4, ge144_4⟩ := k30_openF hMe144
    have hv144_4 := hcc144 4 _ rfl
    rw [add_field _ _ 4 (by omega)] at hv144_4
    replace hv144_4 := Option.some.inj (hv144_4.symm.trans hx144_4)
    injection hv144_4 with hva_ hvn_ hvc_
    rw [hva_] at ge144_4
    rw [hvc_] at ul144_4
    have HL144_4 := Ax (show Kd.V k61 61 _ w.heap.size _ _ ((rd_T30 l0 x4_1).f4) from Kd.V_mk ul144_4 ge144_4)
    clear hva_ hvn_ hvc_ ge144_4 ul144_4
    clear hcc144 hce144
    have HR144_4 := Ax hi144_4
    have HC144_4 := Ax hl144_4
    clear hi144_4 hl144_4
    replace p144 := eq_true p144
    replace q144 := eq_true q144
    have p145 : 0 ≤ (x7_2 : Int) := of_decide_eq_true (z1)
    have q145 : x7_2 < (x3_1.length : Int) := of_decide_eq_true (z1)
    obtain ⟨ad145, A145_4, c145_4, e145, hx145_0, hx145_1, hx145_2, hx145_3, hx145_4, hl145_4, hi145_4⟩ := at_T30 (Kd.N_reads' HO_3.out).2.2 x7_2 p145 q145
    obtain rfl : ad143 = ad145 := (by injection e145)
    obtain ⟨ce145, hce145, hMe145, hcc145⟩ := Kd.N_get HO_3.out z30 x7_2 p145 (z18)
    obtain ⟨ua145_4, uc145_4, rfl, ul145_4, ge145_4⟩ := k30_openF hMe145
    have hv145_4 := hcc145 4 _ rfl
    rw [add_field _ _ 4 (by omega)] at hv145_4
    replace hv145_4 := Option.some.inj (hv145_4.symm.trans hx145_4)
    injection hv145_4 with hva_ hvn_ hvc_
    rw [hva_] at ge145_4
    rw [hvc_] at ul145_4
    have HL145_4 := Ax (show Kd.V k61 61 _ w.heap.size _ _ ((rd_T30 x3_1 x7_2).f4) from Kd.V_mk ul145_4 ge145_4)
    clear hva_ hvn_ hvc_ ge145_4 ul145_4
    clear hcc145 hce145
    have HR145_4 := Ax hi145_4
    have HC145_4 := Ax hl145_4
    clear hi145_4 hl145_4
    replace p145 := eq_true p145
    replace q145 := eq_true q145
    have ea_ := Option.some.inj (hx143_4.symm.trans hx145_4)
    injection ea_ with ea_ en_ ec_
    subst ea_
    subst ec_
    clear en_
    have p146 : 0 ≤ (x4_1 : Int) := of_decide_eq_true (z1)
    have q146 : x4_1 < (l0.length : Int) := of_decide_eq_true (z1)
    obtain ⟨ad146, A146_4, c146_4, e146, hx146_0, hx146_1, hx146_2, hx146_3, hx146_4, hl146_4, hi146_4⟩ := at_T30 (Kd.V_reads' HO_0.out).2.2 x4_1 p146 q146
    obtain rfl : ad144 = ad146 := (by injection e146)
    obtain ⟨ce146, hce146, hMe146, hcc146⟩ := Kd.V_get HO_0.out z30 x4_1 p146 (z19)
    obtain ⟨ua146_4, uc146_4, rfl, ul146_4, ge146_4⟩ := k30_openF hMe146
    have hv146_4 := hcc146 4 _ rfl
    rw [add_field _ _ 4 (by omega)] at hv146_4
    replace hv146_4 := Option.some.inj (hv146_4.symm.trans hx146_4)
    injection hv146_4 with hva_ hvn_ hvc_
    rw [hva_] at ge146_4
    rw [hvc_] at ul146_4
    have HL146_4 := Ax (show Kd.V k61 61 _ w.heap.size _ _ ((rd_T30 l0 x4_1).f4) from Kd.V_mk ul146_4 ge146_4)
    clear hva_ hvn_ hvc_ ge146_4 ul146_4
    clear hcc146 hce146
    have HR146_4 := Ax hi146_4
    have HC146_4 := Ax hl146_4
    clear hi146_4 hl146_4
    replace p146 := eq_true p146
    replace q146 := eq_true q146
    have ea_ := Option.some.inj (hx144_4.symm.trans hx146_4)
    injection ea_ with ea_ en_ ec_
    subst ea_
    subst ec_
    clear en_
    have p147 : 0 ≤ (x7_2 : Int) := of_decide_eq_true (z1)
    have q147 : x7_2 < (x3_1.length : Int) := of_decide_eq_true (z1)
    obtain ⟨ad147, A147_4, c147_4, e147, hx147_0, hx147_1, hx147_2, hx147_3, hx147_4, hl147_4, hi147_4⟩ := at_T30 (Kd.N_reads' HO_3.out).2.2 x7_2 p147 q147
    obtain rfl : ad143 = ad147 := (by injection e147)
    obtain ⟨ce147, hce147, hMe147, hcc147⟩ := Kd.N_get HO_3.out z30 x7_2 p147 (by first | exact q147 | exact of_decide_eq_true (z1) | (have e_ := (Kd.N_reads' HO_3.out).1; omega))
    obtain ⟨ua147_4, uc147_4, rfl, ul147_4, ge147_4⟩ := k30_openF hMe147
    have hv147_4 := hcc147 4 _ rfl
    rw [add_field _ _ 4 (by omega)] at hv147_4
    replace hv147_4 := Option.some.inj (hv147_4.symm.trans hx147_4)
    injection hv147_4 with hva_ hvn_ hvc_
    rw [hva_] at ge147_4
    rw [hvc_] at ul147_4
    have HL147_4 := Ax (show Kd.V k61 61 _ w.heap.size _ _ ((rd_T30 x3_1 x7_2).f4) from Kd.V_mk ul147_4 ge147_4)
    clear hva_ hvn_ hvc_ ge147_4 ul147_4
    clear hcc147 hce147
    have HR147_4 := Ax hi147_4
    have HC147_4 := Ax hl147_4
    clear hi147_4 hl147_4
    replace p147 := eq_true p147
    replace q147 := eq_true q147
    have ea_ := Option.some.inj (hx143_4.symm.trans hx147_4)
    injection ea_ with ea_ en_ ec_
    subst ea_
    subst ec_
    clear en_
    have p148 : 0 ≤ (x4_1 : Int) := of_decide_eq_true (z1)
    have q148 : x4_1 < (l0.length : Int) := of_decide_eq_true (z1)
    obtain ⟨ad148, A148_4, c148_4, e148, hx148_0, hx148_1, hx148_2, hx148_3, hx148_4, hl148_4, hi148_4⟩ := at_T30 (Kd.V_reads' HO_0.out).2.2 x4_1 p148 q148
    obtain rfl : ad144 = ad148 := (by injection e148)
    obtain ⟨ce148, hce148, hMe148, hcc148⟩ := Kd.V_get HO_0.out z30 x4_1 p148 (by first | exact q148 | exact of_decide_eq_true (z1) | (have e_ := (Kd.V_reads' HO_0.out).1; omega))
    obtain ⟨ua148_4, uc148_4, rfl, ul148_4, ge148_4⟩ := k30_openF hMe148
    have hv148_4 := hcc148 4 _ rfl
    rw [add_field _ _ 4 (by omega)] at hv148_4
    replace hv148_4 := Option.some.inj (hv148_4.symm.trans hx148_4)
    injection hv148_4 with hva_ hvn_ hvc_
    rw [hva_] at ge148_4
    rw [hvc_] at ul148_4
    have HL148_4 := Ax (show Kd.V k61 61 _ w.heap.size _ _ ((rd_T30 l0 x4_1).f4) from Kd.V_mk ul148_4 ge148_4)
    clear hva_ hvn_ hvc_ ge148_4 ul148_4
    clear hcc148 hce148
    have HR148_4 := Ax hi148_4
    have HC148_4 := Ax hl148_4
    clear hi148_4 hl148_4
    replace p148 := eq_true p148
    replace q148 := eq_true q148
    have ea_ := Option.some.inj (hx144_4.symm.trans hx148_4)
    injection ea_ with ea_ en_ ec_
    subst ea_
    subst ec_
    clear en_
    go_wp2
    repeat (go_quiet (fail); try go_wp2)
    go_meet
    exact ⟨_, (decide (((rd_T30 x3_1 x7_2).f1) > ((rd_T30 l0 x4_1).f1))), (z5), H', ⟨z14⟩, ⟨z4⟩, ⟨z0⟩, ⟨z2⟩, ⟨zHB⟩⟩
   clear HC8
   (try clear c4); (try clear c4b0); (try clear c7); (try clear c7b0)
   obtain ⟨kq, x62_7, rfl, HA, HJ7, HO_0, HO_3, HO_5, HB⟩ := hcut
   cases kq with
   | zero => exact absurd HA.out (by simp [spec_l2Sort.j2])
   | succ kj7 =>
    have H := HA.out
    clear HA
    simp only [spec_l2Sort.j2] at H
    obtain rfl | rfl := tf x62_7
    rotate_left
    · rw [if_neg Bool.false_ne_true] at H
      by_cases c25 : 0 ≤ x7_2
      rotate_left
      · rw [if_neg c25] at H
        exact absurd H (by simp)
      rw [if_pos c25] at H
      have c25b0 := decide_eq_true c25
      clear c25
      by_cases c26 : x7_2 < (x3_1.length : Int)
      rotate_left
      · rw [if_neg c26] at H
        exact absurd H (by simp)
      rw [if_pos c26] at H
      have c26b0 := decide_eq_true c26
      clear c26
      by_cases c27 : x5_2.length < 2513169434916
      rotate_left
      · rw [if_neg c27] at H
        exact absurd H (by simp)
      rw [if_pos c27] at H
      have LMc27 := Ax c27
      clear c27
      obtain ⟨y158, hy_⟩ : ∃ y_ : List (S30), y_ = (x5_2 ++ [(⟨(rd_T30 x3_1 x7_2).f0, (rd_T30 x3_1 x7_2).f1, (rd_T30 x3_1 x7_2).f2, (rd_T30 x3_1 x7_2).f3, (rd_T30 x3_1 x7_2).f4⟩ : S30)]) := ⟨_, rfl⟩
      replace H : (spec_l2Sort.l1 kj7 l0 x3_1 x4_1 y158 x6_2 (wrap64 (x7_2 + 1))) = some r := zy
      have Ny158 := Ax hy_
      clear hy_
      have H' := Ax H
      clear H
      have p157 : 0 ≤ (x7_2 : Int) := of_decide_eq_true (z1)
      have q157 : x7_2 < (x3_1.length : Int) := of_decide_eq_true (z1)
      obtain ⟨ad157, A157_4, c157_4, e157, hx157_0, hx157_1, hx157_2, hx157_3, hx157_4, hl157_4, hi157_4⟩ := at_T30 (Kd.N_reads' HO_3.out).2.2 x7_2 p157 q157
      cases e157
      obtain ⟨ce157, hce157, hMe157, hcc157⟩ := Kd.N_get HO_3.out z30 x7_2 p157 (by first | exact q157 | exact of_decide_eq_true (z1) | (have e_ := (Kd.N_reads' HO_3.out).1; omega))
      obtain ⟨ua157_4, uc157_4, rfl, ul157_4, ge157_4⟩ := k30_openF hMe157
      have hv157_4 := hcc157 4 _ rfl
      rw [add_field _ _ 4 (by omega)] at hv157_4
      replace hv157_4 := Option.some.inj (hv157_4.symm.trans hx157_4)
      injection hv157_4 with hva_ hvn_ hvc_
      rw [hva_] at ge157_4
      rw [hvc_] at ul157_4
      have HL157_4 := Ax (show Kd.V k61 61 _ w.heap.size _ _ ((rd_T30 x3_1 x7_2).f4) from Kd.V_mk ul157_4 ge157_4)
      clear hva_ hvn_ hvc_ ge157_4 ul157_4
      clear hcc157 hce157
      have HR157_4 := Ax hi157_4
      have HC157_4 := Ax hl157_4
      clear hi157_4 hl157_4
      replace p157 := eq_true p157
      replace q157 := eq_true q157
      go_wp2_with (first | ((with_reducible refine gate_builtin (b := .append) (xs := #[.tmp 70, .tmp 75]) rfl ?_); at_builtin; refine Kd.N_append k30 (w0 := w) w.heap.size rfl (.tmp 70) (.tmp 75) 23 30 (.agg #[(.int .i64 0), (.int .i64 0), (.int .i64 0), (.int .i64 0), (.slice none 0 0)]) 56 rfl Try.underlying23 info30 rfl (by decide) (by omega) u5 x5_2 (⟨(rd_T30 x3_1 x7_2).f0, (rd_T30 x3_1 x7_2).f1, (rd_T30 x3_1 x7_2).f2, (rd_T30 x3_1 x7_2).f3, (rd_T30 x3_1 x7_2).f4⟩ : S30) [.int .i64 ((rd_T30 x3_1 x7_2).f0), .int .i64 ((rd_T30 x3_1 x7_2).f1), .int .i64 ((rd_T30 x3_1 x7_2).f2), .int .i64 ((rd_T30 x3_1 x7_2).f3), .slice A157_4 ((rd_T30 x3_1 x7_2).f4).length c157_4] (fun k_ => (P0_ k_ ∨ w.heap.size ≤ k_) ∧ some k_ ≠ (.slice (some ad157) x3_1.length co9 : Value).ownBlock) (fun k_ => ((fun k_ => (P0_ k_ ∨ w.heap.size ≤ k_) ∧ some k_ ≠ (.slice (some ad157) x3_1.length co9 : Value).ownBlock)) k_ ∧ some k_ ≠ (u5 : Value).ownBlock) rfl rfl ?aP (fun _ hk => hk) ?aF ?aO ?aB ?aS ?aL ?_; (case aP => exact (k30_mkF _ _ (⟨(rd_T30 x3_1 x7_2).f0, (rd_T30 x3_1 x7_2).f1, (rd_T30 x3_1 x7_2).f2, (rd_T30 x3_1 x7_2).f3, (rd_T30 x3_1 x7_2).f4⟩ : S30) (Kd.V_reads' (Kd.V_mono (ok' := (fun k_ => ((fun k_ => (P0_ k_ ∨ w.heap.size ≤ k_) ∧ some k_ ≠ (.slice (some ad157) x3_1.length co9 : Value).ownBlock)) k_ ∧ some k_ ≠ (u5 : Value).ownBlock)) (HL157_4.out) (fun k_ hk => ⟨⟨hk.1.1, hk.2⟩, hk.1.2⟩))).2.1 (Kd.V_F (Kd.V_mono (ok' := (fun k_ => ((fun k_ => (P0_ k_ ∨ w.heap.size ≤ k_) ∧ some k_ ≠ (.slice (some ad157) x3_1.length co9 : Value).ownBlock)) k_ ∧ some k_ ≠ (u5 : Value).ownBlock)) (HL157_4.out) (fun k_ hk => ⟨⟨hk.1.1, hk.2⟩, hk.1.2⟩))))); (case aB => exact (zHB)); (case aF => exact (fun k_ hk => ⟨(.inr (Nat.le_trans (below_size (zHB)) hk)), Kd.fresh' (Kd.N_lt (z0)) k_ hk⟩)); (case aO => exact (z2)); (case aS => exact (below_size (zHB))); (case aL => have := LMc27.out; omega); intro v159 w28 ho hb hg hat; rw [← Ny158.out] at ho; replace HO_0 := Ax (Kd.V_afterv (ok := (fun k_ => (P0_ k_ ∨ w.heap.size ≤ k_) ∧ some k_ ≠ (.slice (some ad157) x3_1.length co9 : Value).ownBlock)) (z3) hg hat); replace HO_3 := Ax (Kd.N_afterv (ok := (fun k_ => (P0_ k_ ∨ w.heap.size ≤ k_))) (z0) hg hat); replace HL157_4 := Ax (Kd.V_afterv (ok := (fun k_ => (P0_ k_ ∨ w.heap.size ≤ k_) ∧ some k_ ≠ (.slice (some ad157) x3_1.length co9 : Value).ownBlock)) (z7) hg hat); replace HB := Ax (hb); have HO160 := Ax (ho); clear HO_5; clear ho hb hg hat))
      repeat (go_quiet (first | ((with_reducible refine gate_builtin (b := .append) (xs := #[.tmp 70, .tmp 75]) rfl ?_); at_builtin; refine Kd.N_append k30 (w0 := w) w.heap.size rfl (.tmp 70) (.tmp 75) 23 30 (.agg #[(.int .i64 0), (.int .i64 0), (.int .i64 0), (.int .i64 0), (.slice none 0 0)]) 56 rfl Try.underlying23 info30 rfl (by decide) (by omega) u5 x5_2 (⟨(rd_T30 x3_1 x7_2).f0, (rd_T30 x3_1 x7_2).f1, (rd_T30 x3_1 x7_2).f2, (rd_T30 x3_1 x7_2).f3, (rd_T30 x3_1 x7_2).f4⟩ : S30) [.int .i64 ((rd_T30 x3_1 x7_2).f0), .int .i64 ((rd_T30 x3_1 x7_2).f1), .int .i64 ((rd_T30 x3_1 x7_2).f2), .int .i64 ((rd_T30 x3_1 x7_2).f3), .slice A157_4 ((rd_T30 x3_1 x7_2).f4).length c157_4] (fun k_ => (P0_ k_ ∨ w.heap.size ≤ k_) ∧ some k_ ≠ (.slice (some ad157) x3_1.length co9 : Value).ownBlock) (fun k_ => ((fun k_ => (P0_ k_ ∨ w.heap.size ≤ k_) ∧ some k_ ≠ (.slice (some ad157) x3_1.length co9 : Value).ownBlock)) k_ ∧ some k_ ≠ (u5 : Value).ownBlock) rfl rfl ?aP (fun _ hk => hk) ?aF ?aO ?aB ?aS ?aL ?_; (case aP => exact (k30_mkF _ _ (⟨(rd_T30 x3_1 x7_2).f0, (rd_T30 x3_1 x7_2).f1, (rd_T30 x3_1 x7_2).f2, (rd_T30 x3_1 x7_2).f3, (rd_T30 x3_1 x7_2).f4⟩ : S30) (Kd.V_reads' (Kd.V_mono (ok' := (fun k_ => ((fun k_ => (P0_ k_ ∨ w.heap.size ≤ k_) ∧ some k_ ≠ (.slice (some ad157) x3_1.length co9 : Value).ownBlock)) k_ ∧ some k_ ≠ (u5 : Value).ownBlock)) (HL157_4.out) (fun k_ hk => ⟨⟨hk.1.1, hk.2⟩, hk.1.2⟩))).2.1 (Kd.V_F (Kd.V_mono (ok' := (fun k_ => ((fun k_ => (P0_ k_ ∨ w.heap.size ≤ k_) ∧ some k_ ≠ (.slice (some ad157) x3_1.length co9 : Value).ownBlock)) k_ ∧ some k_ ≠ (u5 : Value).ownBlock)) (HL157_4.out) (fun k_ hk => ⟨⟨hk.1.1, hk.2⟩, hk.1.2⟩))))); (case aB => exact (zHB)); (case aF => exact (fun k_ hk => ⟨(.inr (Nat.le_trans (below_size (zHB)) hk)), Kd.fresh' (Kd.N_lt (z0)) k_ hk⟩)); (case aO => exact (z2)); (case aS => exact (below_size (zHB))); (case aL => have := LMc27.out; omega); intro v159 w28 ho hb hg hat; rw [← Ny158.out] at ho; replace HO_0 := Ax (Kd.V_afterv (ok := (fun k_ => (P0_ k_ ∨ w.heap.size ≤ k_) ∧ some k_ ≠ (.slice (some ad157) x3_1.length co9 : Value).ownBlock)) (z3) hg hat); replace HO_3 := Ax (Kd.N_afterv (ok := (fun k_ => (P0_ k_ ∨ w.heap.size ≤ k_))) (z0) hg hat); replace HL157_4 := Ax (Kd.V_afterv (ok := (fun k_ => (P0_ k_ ∨ w.heap.size ≤ k_) ∧ some k_ ≠ (.slice (some ad157) x3_1.length co9 : Value).ownBlock)) (z7) hg hat); replace HB := Ax (hb); have HO160 := Ax (ho); clear HO_5; clear ho hb hg hat)); try go_wp2_with (first | ((with_reducible refine gate_builtin (b := .append) (xs := #[.tmp 70, .tmp 75]) rfl ?_); at_builtin; refine Kd.N_append k30 (w0 := w) w.heap.size rfl (.tmp 70) (.tmp 75) 23 30 (.agg #[(.int .i64 0), (.int .i64 0), (.int .i64 0), (.int .i64 0), (.slice none 0 0)]) 56 rfl Try.underlying23 info30 rfl (by decide) (by omega) u5 x5_2 (⟨(rd_T30 x3_1 x7_2).f0, (rd_T30 x3_1 x7_2).f1, (rd_T30 x3_1 x7_2).f2, (rd_T30 x3_1 x7_2).f3, (rd_T30 x3_1 x7_2).f4⟩ : S30) [.int .i64 ((rd_T30 x3_1 x7_2).f0), .int .i64 ((rd_T30 x3_1 x7_2).f1), .int .i64 ((rd_T30 x3_1 x7_2).f2), .int .i64 ((rd_T30 x3_1 x7_2).f3), .slice A157_4 ((rd_T30 x3_1 x7_2).f4).length c157_4] (fun k_ => (P0_ k_ ∨ w.heap.size ≤ k_) ∧ some k_ ≠ (.slice (some ad157) x3_1.length co9 : Value).ownBlock) (fun k_ => ((fun k_ => (P0_ k_ ∨ w.heap.size ≤ k_) ∧ some k_ ≠ (.slice (some ad157) x3_1.length co9 : Value).ownBlock)) k_ ∧ some k_ ≠ (u5 : Value).ownBlock) rfl rfl ?aP (fun _ hk => hk) ?aF ?aO ?aB ?aS ?aL ?_; (case aP => exact (k30_mkF _ _ (⟨(rd_T30 x3_1 x7_2).f0, (rd_T30 x3_1 x7_2).f1, (rd_T30 x3_1 x7_2).f2, (rd_T30 x3_1 x7_2).f3, (rd_T30 x3_1 x7_2).f4⟩ : S30) (Kd.V_reads' (Kd.V_mono (ok' := (fun k_ => ((fun k_ => (P0_ k_ ∨ w.heap.size ≤ k_) ∧ some k_ ≠ (.slice (some ad157) x3_1.length co9 : Value).ownBlock)) k_ ∧ some k_ ≠ (u5 : Value).ownBlock)) (HL157_4.out) (fun k_ hk => ⟨⟨hk.1.1, hk.2⟩, hk.1.2⟩))).2.1 (Kd.V_F (Kd.V_mono (ok' := (fun k_ => ((fun k_ => (P0_ k_ ∨ w.heap.size ≤ k_) ∧ some k_ ≠ (.slice (some ad157) x3_1.length co9 : Value).ownBlock)) k_ ∧ some k_ ≠ (u5 : Value).ownBlock)) (HL157_4.out) (fun k_ hk => ⟨⟨hk.1.1, hk.2⟩, hk.1.2⟩))))); (case aB => exact (zHB)); (case aF => exact (fun k_ hk => ⟨(.inr (Nat.le_trans (below_size (zHB)) hk)), Kd.fresh' (Kd.N_lt (z0)) k_ hk⟩)); (case aO => exact (z2)); (case aS => exact (below_size (zHB))); (case aL => have := LMc27.out; omega); intro v159 w28 ho hb hg hat; rw [← Ny158.out] at ho; replace HO_0 := Ax (Kd.V_afterv (ok := (fun k_ => (P0_ k_ ∨ w.heap.size ≤ k_) ∧ some k_ ≠ (.slice (some ad157) x3_1.length co9 : Value).ownBlock)) (z3) hg hat); replace HO_3 := Ax (Kd.N_afterv (ok := (fun k_ => (P0_ k_ ∨ w.heap.size ≤ k_))) (z0) hg hat); replace HL157_4 := Ax (Kd.V_afterv (ok := (fun k_ => (P0_ k_ ∨ w.heap.size ≤ k_) ∧ some k_ ≠ (.slice (some ad157) x3_1.length co9 : Value).ownBlock)) (z7) hg hat); replace HB := Ax (hb); have HO160 := Ax (ho); clear HO_5; clear ho hb hg hat)))
      go_roundg kj7
      case measure => have := HK1.out; have := HK2.out; have := HJ7.out; omega
      exact ⟨(y158), (x6_2), (wrap64 (x7_2 + 1)), (z5), (z5), H', ⟨by have := HK1.out; have := HK2.out; have := HJ7.out; omega⟩, ⟨z11⟩, ⟨z0⟩, ⟨by (with_reducible repeat (first | apply Kd.N_alloc | apply Kd.N_drewN | apply Kd.N_drew)); exact HO160.out⟩, ⟨zHB⟩⟩
    rw [if_pos rfl] at H
    by_cases c17 : 0 ≤ x4_1
    rotate_left
    · rw [if_neg c17] at H
      exact absurd H (by simp)
    rw [if_pos c17] at H
    have c17b0 := decide_eq_true c17
    clear c17
    by_cases c18 : x4_1 < (l0.length : Int)
    rotate_left
    · rw [if_neg c18] at H
      exact absurd H (by simp)
    rw [if_pos c18] at H
    have c18b0 := decide_eq_true c18
    clear c18
    by_cases c19 : x5_2.length < 2513169434916
    rotate_left
    · rw [if_neg c19] at H
      exact absurd H (by simp)
    rw [if_pos c19] at H
    have LMc19 := Ax c19
    clear c19
    obtain ⟨y150, hy_⟩ : ∃ y_ : List (S30), y_ = (x5_2 ++ [(⟨(rd_T30 l0 x4_1).f0, (rd_T30 l0 x4_1).f1, (rd_T30 l0 x4_1).f2, (rd_T30 l0 x4_1).f3, (rd_T30 l0 x4_1).f4⟩ : S30)]) := ⟨_, rfl⟩
    replace H : (if 0 ≤ x7_2 then (if x7_2 < (x3_1.length : Int) then (if y150.length < 2513169434916 then (spec_l2Sort.l1 kj7 l0 x3_1 x4_1 (y150 ++ [(⟨(rd_T30 x3_1 x7_2).f0, (rd_T30 x3_1 x7_2).f1, (rd_T30 x3_1 x7_2).f2, (rd_T30 x3_1 x7_2).f3, (rd_T30 x3_1 x7_2).f4⟩ : S30)]) true (wrap64 (x7_2 + 1))) else (none)) else (none)) else (none)) = some r := zy
    have Ny150 := Ax hy_
    clear hy_
    by_cases c20 : 0 ≤ x7_2
    rotate_left
    · rw [if_neg c20] at H
      exact absurd H (by simp)
    rw [if_pos c20] at H
    have c20b0 := decide_eq_true c20
    clear c20
    by_cases c21 : x7_2 < (x3_1.length : Int)
    rotate_left
    · rw [if_neg c21] at H
      exact absurd H (by simp)
    rw [if_pos c21] at H
    have c21b0 := decide_eq_true c21
    clear c21
    by_cases c22 : y150.length < 2513169434916
    rotate_left
    · rw [if_neg c22] at H
      exact absurd H (by simp)
    rw [if_pos c22] at H
    have LMc22 := Ax c22
    clear c22
    obtain ⟨y154, hy_⟩ : ∃ y_ : List (S30), y_ = (y150 ++ [(⟨(rd_T30 x3_1 x7_2).f0, (rd_T30 x3_1 x7_2).f1, (rd_T30 x3_1 x7_2).f2, (rd_T30 x3_1 x7_2).f3, (rd_T30 x3_1 x7_2).f4⟩ : S30)]) := ⟨_, rfl⟩
    replace H : (spec_l2Sort.l1 kj7 l0 x3_1 x4_1 y154 true (wrap64 (x7_2 + 1))) = some r := zy
    have Ny154 := Ax hy_
    clear hy_
    have H' := Ax H
    clear H
    have p149 : 0 ≤ (x4_1 : Int) := of_decide_eq_true (z1)
    have q149 : x4_1 < (l0.length : Int) := of_decide_eq_true (z1)
    obtain ⟨ad149, A149_4, c149_4, e149, hx149_0, hx149_1, hx149_2, hx149_3, hx149_4, hl149_4, hi149_4⟩ := at_T30 (Kd.V_reads' HO_0.out).2.2 x4_1 p149 q149
    cases e149
    obtain ⟨ce149, hce149, hMe149, hcc149⟩ := Kd.V_get HO_0.out z30 x4_1 p149 (by first | exact q149 | exact of_decide_eq_true (z1) | (have e_ := (Kd.V_reads' HO_0.out).1; omega))
    obtain ⟨ua149_4, uc149_4, rfl, ul149_4, ge149_4⟩ := k30_openF hMe149
    have hv149_4 := hcc149 4 _ rfl
    rw [add_field _ _ 4 (by omega)] at hv149_4
    replace hv149_4 := Option.some.inj (hv149_4.symm.trans hx149_4)
    injection hv149_4 with hva_ hvn_ hvc_
    rw [hva_] at ge149_4
    rw [hvc_] at ul149_4
    have HL149_4 := Ax (show Kd.V k61 61 _ w.heap.size _ _ ((rd_T30 l0 x4_1).f4) from Kd.V_mk ul149_4 ge149_4)
    clear hva_ hvn_ hvc_ ge149_4 ul149_4
    clear hcc149 hce149
    have HR149_4 := Ax hi149_4
    have HC149_4 := Ax hl149_4
    clear hi149_4 hl149_4
    replace p149 := eq_true p149
    replace q149 := eq_true q149
    go_wp2_with (first | ((with_reducible refine gate_builtin (b := .append) (xs := #[.tmp 63, .tmp 68]) rfl ?_); at_builtin; refine Kd.N_append k30 (w0 := w) w.heap.size rfl (.tmp 63) (.tmp 68) 23 30 (.agg #[(.int .i64 0), (.int .i64 0), (.int .i64 0), (.int .i64 0), (.slice none 0 0)]) 56 rfl Try.underlying23 info30 rfl (by decide) (by omega) u5 x5_2 (⟨(rd_T30 l0 x4_1).f0, (rd_T30 l0 x4_1).f1, (rd_T30 l0 x4_1).f2, (rd_T30 l0 x4_1).f3, (rd_T30 l0 x4_1).f4⟩ : S30) [.int .i64 ((rd_T30 l0 x4_1).f0), .int .i64 ((rd_T30 l0 x4_1).f1), .int .i64 ((rd_T30 l0 x4_1).f2), .int .i64 ((rd_T30 l0 x4_1).f3), .slice A149_4 ((rd_T30 l0 x4_1).f4).length c149_4] (fun k_ => (P0_ k_ ∨ w.heap.size ≤ k_) ∧ some k_ ≠ (.slice Ao9 x3_1.length co9 : Value).ownBlock) (fun k_ => ((fun k_ => (P0_ k_ ∨ w.heap.size ≤ k_) ∧ some k_ ≠ (.slice Ao9 x3_1.length co9 : Value).ownBlock)) k_ ∧ some k_ ≠ (u5 : Value).ownBlock) rfl rfl ?aP (fun _ hk => hk) ?aF ?aO ?aB ?aS ?aL ?_; (case aP => exact (k30_mkF _ _ (⟨(rd_T30 l0 x4_1).f0, (rd_T30 l0 x4_1).f1, (rd_T30 l0 x4_1).f2, (rd_T30 l0 x4_1).f3, (rd_T30 l0 x4_1).f4⟩ : S30) (Kd.V_reads' (Kd.V_mono (ok' := (fun k_ => ((fun k_ => (P0_ k_ ∨ w.heap.size ≤ k_) ∧ some k_ ≠ (.slice Ao9 x3_1.length co9 : Value).ownBlock)) k_ ∧ some k_ ≠ (u5 : Value).ownBlock)) (HL149_4.out) (fun k_ hk => ⟨⟨hk.1, hk.2.1⟩, hk.2.2⟩))).2.1 (Kd.V_F (Kd.V_mono (ok' := (fun k_ => ((fun k_ => (P0_ k_ ∨ w.heap.size ≤ k_) ∧ some k_ ≠ (.slice Ao9 x3_1.length co9 : Value).ownBlock)) k_ ∧ some k_ ≠ (u5 : Value).ownBlock)) (HL149_4.out) (fun k_ hk => ⟨⟨hk.1, hk.2.1⟩, hk.2.2⟩))))); (case aB => exact (zHB)); (case aF => exact (fun k_ hk => ⟨(.inr (Nat.le_trans (below_size (zHB)) hk)), Kd.fresh' (Kd.N_lt (z0)) k_ hk⟩)); (case aO => exact (z2)); (case aS => exact (below_size (zHB))); (case aL => have := LMc19.out; omega); intro v151 w23 ho hb hg hat; rw [← Ny150.out] at ho; replace HO_0 := Ax (Kd.V_afterv (ok := (fun k_ => (P0_ k_ ∨ w.heap.size ≤ k_) ∧ some k_ ≠ (.slice Ao9 x3_1.length co9 : Value).ownBlock)) (z3) hg hat); replace HO_3 := Ax (Kd.N_afterv (ok := (fun k_ => (P0_ k_ ∨ w.heap.size ≤ k_))) (z0) hg hat); replace HL149_4 := Ax (Kd.V_afterv (ok := (fun k_ => (P0_ k_ ∨ w.heap.size ≤ k_) ∧ some k_ ≠ (.slice Ao9 x3_1.length co9 : Value).ownBlock)) (z8) hg hat); replace HB := Ax (hb); have HO152 := Ax (ho); clear HO_5; clear ho hb hg hat; have p153 : 0 ≤ (x7_2 : Int) := of_decide_eq_true (z1); have q153 : x7_2 < (x3_1.length : Int) := of_decide_eq_true (z1); obtain ⟨ad153, A153_4, c153_4, e153, hx153_0, hx153_1, hx153_2, hx153_3, hx153_4, hl153_4, hi153_4⟩ := at_T30 (Kd.N_reads' HO_3.out).2.2 x7_2 p153 q153; cases e153; obtain ⟨ce153, hce153, hMe153, hcc153⟩ := Kd.N_get HO_3.out z30 x7_2 p153 (z17); obtain ⟨ua153_4, uc153_4, rfl, ul153_4, ge153_4⟩ := k30_openF hMe153; have hv153_4 := hcc153 4 _ rfl; rw [add_field _ _ 4 (by omega)] at hv153_4; replace hv153_4 := Option.some.inj (hv153_4.symm.trans hx153_4); injection hv153_4 with hva_ hvn_ hvc_; rw [hva_] at ge153_4; rw [hvc_] at ul153_4; have HL153_4 := Ax (show Kd.V k61 61 _ w.heap.size _ _ ((rd_T30 x3_1 x7_2).f4) from Kd.V_mk ul153_4 ge153_4); clear hva_ hvn_ hvc_ ge153_4 ul153_4; clear hcc153 hce153; have HR153_4 := Ax hi153_4; have HC153_4 := Ax hl153_4; clear hi153_4 hl153_4; replace p153 := eq_true p153; replace q153 := eq_true q153) | ((with_reducible refine gate_builtin (b := .append) (xs := #[.tmp 70, .tmp 75]) rfl ?_); at_builtin; refine Kd.N_append k30 (w0 := w) w.heap.size rfl (.tmp 70) (.tmp 75) 23 30 (.agg #[(.int .i64 0), (.int .i64 0), (.int .i64 0), (.int .i64 0), (.slice none 0 0)]) 56 rfl Try.underlying23 info30 rfl (by decide) (by omega) v151 y150 (⟨(rd_T30 x3_1 x7_2).f0, (rd_T30 x3_1 x7_2).f1, (rd_T30 x3_1 x7_2).f2, (rd_T30 x3_1 x7_2).f3, (rd_T30 x3_1 x7_2).f4⟩ : S30) [.int .i64 ((rd_T30 x3_1 x7_2).f0), .int .i64 ((rd_T30 x3_1 x7_2).f1), .int .i64 ((rd_T30 x3_1 x7_2).f2), .int .i64 ((rd_T30 x3_1 x7_2).f3), .slice A153_4 ((rd_T30 x3_1 x7_2).f4).length c153_4] (fun k_ => (P0_ k_ ∨ w.heap.size ≤ k_) ∧ some k_ ≠ (.slice (some ad153) x3_1.length co9 : Value).ownBlock) (fun k_ => ((fun k_ => (P0_ k_ ∨ w.heap.size ≤ k_) ∧ some k_ ≠ (.slice (some ad153) x3_1.length co9 : Value).ownBlock)) k_ ∧ some k_ ≠ (v151 : Value).ownBlock) rfl rfl ?aP (fun _ hk => hk) ?aF ?aO ?aB ?aS ?aL ?_; (case aP => exact (k30_mkF _ _ (⟨(rd_T30 x3_1 x7_2).f0, (rd_T30 x3_1 x7_2).f1, (rd_T30 x3_1 x7_2).f2, (rd_T30 x3_1 x7_2).f3, (rd_T30 x3_1 x7_2).f4⟩ : S30) (Kd.V_reads' (Kd.V_mono (ok' := (fun k_ => ((fun k_ => (P0_ k_ ∨ w.heap.size ≤ k_) ∧ some k_ ≠ (.slice (some ad153) x3_1.length co9 : Value).ownBlock)) k_ ∧ some k_ ≠ (v151 : Value).ownBlock)) (HL153_4.out) (fun k_ hk => ⟨⟨hk.1.1, hk.2⟩, hk.1.2⟩))).2.1 (Kd.V_F (Kd.V_mono (ok' := (fun k_ => ((fun k_ => (P0_ k_ ∨ w.heap.size ≤ k_) ∧ some k_ ≠ (.slice (some ad153) x3_1.length co9 : Value).ownBlock)) k_ ∧ some k_ ≠ (v151 : Value).ownBlock)) (HL153_4.out) (fun k_ hk => ⟨⟨hk.1.1, hk.2⟩, hk.1.2⟩))))); (case aB => exact (zHB)); (case aF => exact (fun k_ hk => ⟨(.inr (Nat.le_trans (below_size (zHB)) hk)), Kd.fresh' (Kd.N_lt (z0)) k_ hk⟩)); (case aO => exact (z13)); (case aS => exact (below_size (zHB))); (case aL => have := LMc22.out; omega); intro v155 w24 ho hb hg hat; rw [← Ny154.out] at ho; replace HO_0 := Ax (Kd.V_afterv (ok := (fun k_ => (P0_ k_ ∨ w.heap.size ≤ k_) ∧ some k_ ≠ (.slice (some ad153) x3_1.length co9 : Value).ownBlock)) (z4) hg hat); replace HO_3 := Ax (Kd.N_afterv (ok := (fun k_ => (P0_ k_ ∨ w.heap.size ≤ k_))) (z0) hg hat); replace HL149_4 := Ax (Kd.V_afterv (ok := (fun k_ => (P0_ k_ ∨ w.heap.size ≤ k_) ∧ some k_ ≠ (.slice (some ad153) x3_1.length co9 : Value).ownBlock)) (z12) hg hat); replace HL153_4 := Ax (Kd.V_afterv (ok := (fun k_ => (P0_ k_ ∨ w.heap.size ≤ k_) ∧ some k_ ≠ (.slice (some ad153) x3_1.length co9 : Value).ownBlock)) (z9) hg hat); replace HB := Ax (hb); have HO156 := Ax (ho); clear HO152; clear ho hb hg hat))
    repeat (go_quiet (first | ((with_reducible refine gate_builtin (b := .append) (xs := #[.tmp 63, .tmp 68]) rfl ?_); at_builtin; refine Kd.N_append k30 (w0 := w) w.heap.size rfl (.tmp 63) (.tmp 68) 23 30 (.agg #[(.int .i64 0), (.int .i64 0), (.int .i64 0), (.int .i64 0), (.slice none 0 0)]) 56 rfl Try.underlying23 info30 rfl (by decide) (by omega) u5 x5_2 (⟨(rd_T30 l0 x4_1).f0, (rd_T30 l0 x4_1).f1, (rd_T30 l0 x4_1).f2, (rd_T30 l0 x4_1).f3, (rd_T30 l0 x4_1).f4⟩ : S30) [.int .i64 ((rd_T30 l0 x4_1).f0), .int .i64 ((rd_T30 l0 x4_1).f1), .int .i64 ((rd_T30 l0 x4_1).f2), .int .i64 ((rd_T30 l0 x4_1).f3), .slice A149_4 ((rd_T30 l0 x4_1).f4).length c149_4] (fun k_ => (P0_ k_ ∨ w.heap.size ≤ k_) ∧ some k_ ≠ (.slice Ao9 x3_1.length co9 : Value).ownBlock) (fun k_ => ((fun k_ => (P0_ k_ ∨ w.heap.size ≤ k_) ∧ some k_ ≠ (.slice Ao9 x3_1.length co9 : Value).ownBlock)) k_ ∧ some k_ ≠ (u5 : Value).ownBlock) rfl rfl ?aP (fun _ hk => hk) ?aF ?aO ?aB ?aS ?aL ?_; (case aP => exact (k30_mkF _ _ (⟨(rd_T30 l0 x4_1).f0, (rd_T30 l0 x4_1).f1, (rd_T30 l0 x4_1).f2, (rd_T30 l0 x4_1).f3, (rd_T30 l0 x4_1).f4⟩ : S30) (Kd.V_reads' (Kd.V_mono (ok' := (fun k_ => ((fun k_ => (P0_ k_ ∨ w.heap.size ≤ k_) ∧ some k_ ≠ (.slice Ao9 x3_1.length co9 : Value).ownBlock)) k_ ∧ some k_ ≠ (u5 : Value).ownBlock)) (HL149_4.out) (fun k_ hk => ⟨⟨hk.1, hk.2.1⟩, hk.2.2⟩))).2.1 (Kd.V_F (Kd.V_mono (ok' := (fun k_ => ((fun k_ => (P0_ k_ ∨ w.heap.size ≤ k_) ∧ some k_ ≠ (.slice Ao9 x3_1.length co9 : Value).ownBlock)) k_ ∧ some k_ ≠ (u5 : Value).ownBlock)) (HL149_4.out) (fun k_ hk => ⟨⟨hk.1, hk.2.1⟩, hk.2.2⟩))))); (case aB => exact (zHB)); (case aF => exact (fun k_ hk => ⟨(.inr (Nat.le_trans (below_size (zHB)) hk)), Kd.fresh' (Kd.N_lt (z0)) k_ hk⟩)); (case aO => exact (z2)); (case aS => exact (below_size (zHB))); (case aL => have := LMc19.out; omega); intro v151 w23 ho hb hg hat; rw [← Ny150.out] at ho; replace HO_0 := Ax (Kd.V_afterv (ok := (fun k_ => (P0_ k_ ∨ w.heap.size ≤ k_) ∧ some k_ ≠ (.slice Ao9 x3_1.length co9 : Value).ownBlock)) (z3) hg hat); replace HO_3 := Ax (Kd.N_afterv (ok := (fun k_ => (P0_ k_ ∨ w.heap.size ≤ k_))) (z0) hg hat); replace HL149_4 := Ax (Kd.V_afterv (ok := (fun k_ => (P0_ k_ ∨ w.heap.size ≤ k_) ∧ some k_ ≠ (.slice Ao9 x3_1.length co9 : Value).ownBlock)) (z8) hg hat); replace HB := Ax (hb); have HO152 := Ax (ho); clear HO_5; clear ho hb hg hat; have p153 : 0 ≤ (x7_2 : Int) := of_decide_eq_true (z1); have q153 : x7_2 < (x3_1.length : Int) := of_decide_eq_true (z1); obtain ⟨ad153, A153_4, c153_4, e153, hx153_0, hx153_1, hx153_2, hx153_3, hx153_4, hl153_4, hi153_4⟩ := at_T30 (Kd.N_reads' HO_3.out).2.2 x7_2 p153 q153; cases e153; obtain ⟨ce153, hce153, hMe153, hcc153⟩ := Kd.N_get HO_3.out z30 x7_2 p153 (z17); obtain ⟨ua153_4, uc153_4, rfl, ul153_4, ge153_4⟩ := k30_openF hMe153; have hv153_4 := hcc153 4 _ rfl; rw [add_field _ _ 4 (by omega)] at hv153_4; replace hv153_4 := Option.some.inj (hv153_4.symm.trans hx153_4); injection hv153_4 with hva_ hvn_ hvc_; rw [hva_] at ge153_4; rw [hvc_] at ul153_4; have HL153_4 := Ax (show Kd.V k61 61 _ w.heap.size _ _ ((rd_T30 x3_1 x7_2).f4) from Kd.V_mk ul153_4 ge153_4); clear hva_ hvn_ hvc_ ge153_4 ul153_4; clear hcc153 hce153; have HR153_4 := Ax hi153_4; have HC153_4 := Ax hl153_4; clear hi153_4 hl153_4; replace p153 := eq_true p153; replace q153 := eq_true q153) | ((with_reducible refine gate_builtin (b := .append) (xs := #[.tmp 70, .tmp 75]) rfl ?_); at_builtin; refine Kd.N_append k30 (w0 := w) w.heap.size rfl (.tmp 70) (.tmp 75) 23 30 (.agg #[(.int .i64 0), (.int .i64 0), (.int .i64 0), (.int .i64 0), (.slice none 0 0)]) 56 rfl Try.underlying23 info30 rfl (by decide) (by omega) v151 y150 (⟨(rd_T30 x3_1 x7_2).f0, (rd_T30 x3_1 x7_2).f1, (rd_T30 x3_1 x7_2).f2, (rd_T30 x3_1 x7_2).f3, (rd_T30 x3_1 x7_2).f4⟩ : S30) [.int .i64 ((rd_T30 x3_1 x7_2).f0), .int .i64 ((rd_T30 x3_1 x7_2).f1), .int .i64 ((rd_T30 x3_1 x7_2).f2), .int .i64 ((rd_T30 x3_1 x7_2).f3), .slice A153_4 ((rd_T30 x3_1 x7_2).f4).length c153_4] (fun k_ => (P0_ k_ ∨ w.heap.size ≤ k_) ∧ some k_ ≠ (.slice (some ad153) x3_1.length co9 : Value).ownBlock) (fun k_ => ((fun k_ => (P0_ k_ ∨ w.heap.size ≤ k_) ∧ some k_ ≠ (.slice (some ad153) x3_1.length co9 : Value).ownBlock)) k_ ∧ some k_ ≠ (v151 : Value).ownBlock) rfl rfl ?aP (fun _ hk => hk) ?aF ?aO ?aB ?aS ?aL ?_; (case aP => exact (k30_mkF _ _ (⟨(rd_T30 x3_1 x7_2).f0, (rd_T30 x3_1 x7_2).f1, (rd_T30 x3_1 x7_2).f2, (rd_T30 x3_1 x7_2).f3, (rd_T30 x3_1 x7_2).f4⟩ : S30) (Kd.V_reads' (Kd.V_mono (ok' := (fun k_ => ((fun k_ => (P0_ k_ ∨ w.heap.size ≤ k_) ∧ some k_ ≠ (.slice (some ad153) x3_1.length co9 : Value).ownBlock)) k_ ∧ some k_ ≠ (v151 : Value).ownBlock)) (HL153_4.out) (fun k_ hk => ⟨⟨hk.1.1, hk.2⟩, hk.1.2⟩))).2.1 (Kd.V_F (Kd.V_mono (ok' := (fun k_ => ((fun k_ => (P0_ k_ ∨ w.heap.size ≤ k_) ∧ some k_ ≠ (.slice (some ad153) x3_1.length co9 : Value).ownBlock)) k_ ∧ some k_ ≠ (v151 : Value).ownBlock)) (HL153_4.out) (fun k_ hk => ⟨⟨hk.1.1, hk.2⟩, hk.1.2⟩))))); (case aB => exact (zHB)); (case aF => exact (fun k_ hk => ⟨(.inr (Nat.le_trans (below_size (zHB)) hk)), Kd.fresh' (Kd.N_lt (z0)) k_ hk⟩)); (case aO => exact (z13)); (case aS => exact (below_size (zHB))); (case aL => have := LMc22.out; omega); intro v155 w24 ho hb hg hat; rw [← Ny154.out] at ho; replace HO_0 := Ax (Kd.V_afterv (ok := (fun k_ => (P0_ k_ ∨ w.heap.size ≤ k_) ∧ some k_ ≠ (.slice (some ad153) x3_1.length co9 : Value).ownBlock)) (z4) hg hat); replace HO_3 := Ax (Kd.N_afterv (ok := (fun k_ => (P0_ k_ ∨ w.heap.size ≤ k_))) (z0) hg hat); replace HL149_4 := Ax (Kd.V_afterv (ok := (fun k_ => (P0_ k_ ∨ w.heap.size ≤ k_) ∧ some k_ ≠ (.slice (some ad153) x3_1.length co9 : Value).ownBlock)) (z12) hg hat); replace HL153_4 := Ax (Kd.V_afterv (ok := (fun k_ => (P0_ k_ ∨ w.heap.size ≤ k_) ∧ some k_ ≠ (.slice (some ad153) x3_1.length co9 : Value).ownBlock)) (z9) hg hat); replace HB := Ax (hb); have HO156 := Ax (ho); clear HO152; clear ho hb hg hat)); try go_wp2_with (first | ((with_reducible refine gate_builtin (b := .append) (xs := #[.tmp 63, .tmp 68]) rfl ?_); at_builtin; refine Kd.N_append k30 (w0 := w) w.heap.size rfl (.tmp 63) (.tmp 68) 23 30 (.agg #[(.int .i64 0), (.int .i64 0), (.int .i64 0), (.int .i64 0), (.slice none 0 0)]) 56 rfl Try.underlying23 info30 rfl (by decide) (by omega) u5 x5_2 (⟨(rd_T30 l0 x4_1).f0, (rd_T30 l0 x4_1).f1, (rd_T30 l0 x4_1).f2, (rd_T30 l0 x4_1).f3, (rd_T30 l0 x4_1).f4⟩ : S30) [.int .i64 ((rd_T30 l0 x4_1).f0), .int .i64 ((rd_T30 l0 x4_1).f1), .int .i64 ((rd_T30 l0 x4_1).f2), .int .i64 ((rd_T30 l0 x4_1).f3), .slice A149_4 ((rd_T30 l0 x4_1).f4).length c149_4] (fun k_ => (P0_ k_ ∨ w.heap.size ≤ k_) ∧ some k_ ≠ (.slice Ao9 x3_1.length co9 : Value).ownBlock) (fun k_ => ((fun k_ => (P0_ k_ ∨ w.heap.size ≤ k_) ∧ some k_ ≠ (.slice Ao9 x3_1.length co9 : Value).ownBlock)) k_ ∧ some k_ ≠ (u5 : Value).ownBlock) rfl rfl ?aP (fun _ hk => hk) ?aF ?aO ?aB ?aS ?aL ?_; (case aP => exact (k30_mkF _ _ (⟨(rd_T30 l0 x4_1).f0, (rd_T30 l0 x4_1).f1, (rd_T30 l0 x4_1).f2, (rd_T30 l0 x4_1).f3, (rd_T30 l0 x4_1).f4⟩ : S30) (Kd.V_reads' (Kd.V_mono (ok' := (fun k_ => ((fun k_ => (P0_ k_ ∨ w.heap.size ≤ k_) ∧ some k_ ≠ (.slice Ao9 x3_1.length co9 : Value).ownBlock)) k_ ∧ some k_ ≠ (u5 : Value).ownBlock)) (HL149_4.out) (fun k_ hk => ⟨⟨hk.1, hk.2.1⟩, hk.2.2⟩))).2.1 (Kd.V_F (Kd.V_mono (ok' := (fun k_ => ((fun k_ => (P0_ k_ ∨ w.heap.size ≤ k_) ∧ some k_ ≠ (.slice Ao9 x3_1.length co9 : Value).ownBlock)) k_ ∧ some k_ ≠ (u5 : Value).ownBlock)) (HL149_4.out) (fun k_ hk => ⟨⟨hk.1, hk.2.1⟩, hk.2.2⟩))))); (case aB => exact (zHB)); (case aF => exact (fun k_ hk => ⟨(.inr (Nat.le_trans (below_size (zHB)) hk)), Kd.fresh' (Kd.N_lt (z0)) k_ hk⟩)); (case aO => exact (z2)); (case aS => exact (below_size (zHB))); (case aL => have := LMc19.out; omega); intro v151 w23 ho hb hg hat; rw [← Ny150.out] at ho; replace HO_0 := Ax (Kd.V_afterv (ok := (fun k_ => (P0_ k_ ∨ w.heap.size ≤ k_) ∧ some k_ ≠ (.slice Ao9 x3_1.length co9 : Value).ownBlock)) (z3) hg hat); replace HO_3 := Ax (Kd.N_afterv (ok := (fun k_ => (P0_ k_ ∨ w.heap.size ≤ k_))) (z0) hg hat); replace HL149_4 := Ax (Kd.V_afterv (ok := (fun k_ => (P0_ k_ ∨ w.heap.size ≤ k_) ∧ some k_ ≠ (.slice Ao9 x3_1.length co9 : Value).ownBlock)) (z8) hg hat); replace HB := Ax (hb); have HO152 := Ax (ho); clear HO_5; clear ho hb hg hat; have p153 : 0 ≤ (x7_2 : Int) := of_decide_eq_true (z1); have q153 : x7_2 < (x3_1.length : Int) := of_decide_eq_true (z1); obtain ⟨ad153, A153_4, c153_4, e153, hx153_0, hx153_1, hx153_2, hx153_3, hx153_4, hl153_4, hi153_4⟩ := at_T30 (Kd.N_reads' HO_3.out).2.2 x7_2 p153 q153; cases e153; obtain ⟨ce153, hce153, hMe153, hcc153⟩ := Kd.N_get HO_3.out z30 x7_2 p153 (z17); obtain ⟨ua153_4, uc153_4, rfl, ul153_4, ge153_4⟩ := k30_openF hMe153; have hv153_4 := hcc153 4 _ rfl; rw [add_field _ _ 4 (by omega)] at hv153_4; replace hv153_4 := Option.some.inj (hv153_4.symm.trans hx153_4); injection hv153_4 with hva_ hvn_ hvc_; rw [hva_] at ge153_4; rw [hvc_] at ul153_4; have HL153_4 := Ax (show Kd.V k61 61 _ w.heap.size _ _ ((rd_T30 x3_1 x7_2).f4) from Kd.V_mk ul153_4 ge153_4); clear hva_ hvn_ hvc_ ge153_4 ul153_4; clear hcc153 hce153; have HR153_4 := Ax hi153_4; have HC153_4 := Ax hl153_4; clear hi153_4 hl153_4; replace p153 := eq_true p153; replace q153 := eq_true q153) | ((with_reducible refine gate_builtin (b := .append) (xs := #[.tmp 70, .tmp 75]) rfl ?_); at_builtin; refine Kd.N_append k30 (w0 := w) w.heap.size rfl (.tmp 70) (.tmp 75) 23 30 (.agg #[(.int .i64 0), (.int .i64 0), (.int .i64 0), (.int .i64 0), (.slice none 0 0)]) 56 rfl Try.underlying23 info30 rfl (by decide) (by omega) v151 y150 (⟨(rd_T30 x3_1 x7_2).f0, (rd_T30 x3_1 x7_2).f1, (rd_T30 x3_1 x7_2).f2, (rd_T30 x3_1 x7_2).f3, (rd_T30 x3_1 x7_2).f4⟩ : S30) [.int .i64 ((rd_T30 x3_1 x7_2).f0), .int .i64 ((rd_T30 x3_1 x7_2).f1), .int .i64 ((rd_T30 x3_1 x7_2).f2), .int .i64 ((rd_T30 x3_1 x7_2).f3), .slice A153_4 ((rd_T30 x3_1 x7_2).f4).length c153_4] (fun k_ => (P0_ k_ ∨ w.heap.size ≤ k_) ∧ some k_ ≠ (.slice (some ad153) x3_1.length co9 : Value).ownBlock) (fun k_ => ((fun k_ => (P0_ k_ ∨ w.heap.size ≤ k_) ∧ some k_ ≠ (.slice (some ad153) x3_1.length co9 : Value).ownBlock)) k_ ∧ some k_ ≠ (v151 : Value).ownBlock) rfl rfl ?aP (fun _ hk => hk) ?aF ?aO ?aB ?aS ?aL ?_; (case aP => exact (k30_mkF _ _ (⟨(rd_T30 x3_1 x7_2).f0, (rd_T30 x3_1 x7_2).f1, (rd_T30 x3_1 x7_2).f2, (rd_T30 x3_1 x7_2).f3, (rd_T30 x3_1 x7_2).f4⟩ : S30) (Kd.V_reads' (Kd.V_mono (ok' := (fun k_ => ((fun k_ => (P0_ k_ ∨ w.heap.size ≤ k_) ∧ some k_ ≠ (.slice (some ad153) x3_1.length co9 : Value).ownBlock)) k_ ∧ some k_ ≠ (v151 : Value).ownBlock)) (HL153_4.out) (fun k_ hk => ⟨⟨hk.1.1, hk.2⟩, hk.1.2⟩))).2.1 (Kd.V_F (Kd.V_mono (ok' := (fun k_ => ((fun k_ => (P0_ k_ ∨ w.heap.size ≤ k_) ∧ some k_ ≠ (.slice (some ad153) x3_1.length co9 : Value).ownBlock)) k_ ∧ some k_ ≠ (v151 : Value).ownBlock)) (HL153_4.out) (fun k_ hk => ⟨⟨hk.1.1, hk.2⟩, hk.1.2⟩))))); (case aB => exact (zHB)); (case aF => exact (fun k_ hk => ⟨(.inr (Nat.le_trans (below_size (zHB)) hk)), Kd.fresh' (Kd.N_lt (z0)) k_ hk⟩)); (case aO => exact (z13)); (case aS => exact (below_size (zHB))); (case aL => have := LMc22.out; omega); intro v155 w24 ho hb hg hat; rw [← Ny154.out] at ho; replace HO_0 := Ax (Kd.V_afterv (ok := (fun k_ => (P0_ k_ ∨ w.heap.size ≤ k_) ∧ some k_ ≠ (.slice (some ad153) x3_1.length co9 : Value).ownBlock)) (z4) hg hat); replace HO_3 := Ax (Kd.N_afterv (ok := (fun k_ => (P0_ k_ ∨ w.heap.size ≤ k_))) (z0) hg hat); replace HL149_4 := Ax (Kd.V_afterv (ok := (fun k_ => (P0_ k_ ∨ w.heap.size ≤ k_) ∧ some k_ ≠ (.slice (some ad153) x3_1.length co9 : Value).ownBlock)) (z12) hg hat); replace HL153_4 := Ax (Kd.V_afterv (ok := (fun k_ => (P0_ k_ ∨ w.heap.size ≤ k_) ∧ some k_ ≠ (.slice (some ad153) x3_1.length co9 : Value).ownBlock)) (z9) hg hat); replace HB := Ax (hb); have HO156 := Ax (ho); clear HO152; clear ho hb hg hat)))
    go_roundg kj7
    case measure => have := HK1.out; have := HK2.out; have := HJ7.out; omega
    exact ⟨(y154), (true), (wrap64 (x7_2 + 1)), (z5), (z5), H', ⟨by have := HK1.out; have := HK2.out; have := HJ7.out; omega⟩, ⟨z11⟩, ⟨z0⟩, ⟨by (with_reducible repeat (first | apply Kd.N_alloc | apply Kd.N_drewN | apply Kd.N_drew)); exact HO156.out⟩, ⟨zHB⟩⟩
end Go.Proofs.Ytljgbeccmcidkaa.P
namespace Go.Proofs.Ytljgbeccmcidkaa.P
open Go.RowKit Go.Proofs.YtljgbeccmcidkaaW.PrintWords Go.Proofs.YtljgbeccmcidkaaW.PrintLast Go.Proofs.YtljgbeccmcidkaaW.PrintMore
attribute [local go_sem] max2_int min2_int max_two min_two max_three min_three max_four min_four   -- for this text's walks alone
set_option linter.unusedVariables false
set_option linter.unusedSimpArgs false

attribute [local go_sem ↓] isSome_setCell
/-! ### spec_TableNew: function 23 -/
mutual
def spec_TableNew.j0 : Nat → Int → Int → Bool → Option (Int × Int × (List (S30)))
  | 0, _, _, _ => none
  | k + 1, x0, x1, x15 => if x15 = true then (some (0, 0, ([] : List (S30)))) else (spec_TableNew.l0 k x0 x1 0 x0 x1 ([] : List (S30)))
def spec_TableNew.l0 : Nat → Int → Int → Int → Int → Int → List (S30) → Option (Int × Int × (List (S30)))
  | 0, _, _, _, _, _, _ => none
  | k + 1, x0, x1, x6, x108000, x108001, x108002 => if x6 < x0 then (spec_TableNew.l1 k x0 x1 x6 0 x108000 x108001 x108002) else (some (x108000, x108001, x108002))
def spec_TableNew.l1 : Nat → Int → Int → Int → Int → Int → Int → List (S30) → Option (Int × Int × (List (S30)))
  | 0, _, _, _, _, _, _, _ => none
  | k + 1, x0, x1, x6, x7, x108000, x108001, x108002 => if x7 < x1 then (if x108002.length < 2513169434916 then (spec_TableNew.l1 k x0 x1 x6 (wrap64 (x7 + 1)) x108000 x108001 (x108002 ++ [(⟨x6, x7, 1, 1, ([] : List (S61))⟩ : S30)])) else (none)) else (spec_TableNew.l0 k x0 x1 (wrap64 (x6 + 1)) x108000 x108001 x108002)
end
def spec_TableNew.f (k : Nat) (a0 : Int) (a1 : Int) : Option (Int × Int × (List (S30))) := (spec_l6In.f a0 1 5).bind fun t105 => (if t105 = true then ((spec_l6In.f a1 1 5).bind fun t106 => (spec_TableNew.j0 k a0 a1 (!t106))) else (spec_TableNew.j0 k a0 a1 true))
theorem spec_TableNew.mono_l : ∀ k, (∀ y0 y1 y2, LeO (spec_TableNew.j0 k y0 y1 y2) (spec_TableNew.j0 (k + 1) y0 y1 y2)) ∧ (∀ y0 y1 y2 y3 y4 y5, LeO (spec_TableNew.l0 k y0 y1 y2 y3 y4 y5) (spec_TableNew.l0 (k + 1) y0 y1 y2 y3 y4 y5)) ∧ (∀ y0 y1 y2 y3 y4 y5 y6, LeO (spec_TableNew.l1 k y0 y1 y2 y3 y4 y5 y6) (spec_TableNew.l1 (k + 1) y0 y1 y2 y3 y4 y5 y6))
  | 0 => by refine ⟨?_, ?_, ?_⟩ <;> intros <;> intro r h <;> simp [spec_TableNew.j0, spec_TableNew.l0, spec_TableNew.l1] at h
  | k + 1 => by
    obtain ⟨ih0, ih1, ih2⟩ := spec_TableNew.mono_l k
    refine ⟨?_, ?_, ?_⟩ <;> intros <;> (first | unfold spec_TableNew.j0 | unfold spec_TableNew.l0 | unfold spec_TableNew.l1) <;> with_reducible repeat' first | exact ih0 _ _ _ | exact ih1 _ _ _ _ _ _ | exact ih2 _ _ _ _ _ _ _ | exact LeO.refl _ | exact LeO.none _ | refine LeO.ite ?_ ?_ | refine LeO.bind ?_ (fun _ => ?_)
theorem spec_TableNew.mono : ∀ a0 a1 k, LeO (spec_TableNew.f k a0 a1) (spec_TableNew.f (k + 1) a0 a1) := by
  intro a0 a1 k
  obtain ⟨ih0, ih1, ih2⟩ := spec_TableNew.mono_l k
  unfold spec_TableNew.f
  with_reducible repeat' first | exact ih0 _ _ _ | exact ih1 _ _ _ _ _ _ | exact ih2 _ _ _ _ _ _ _ | exact LeO.refl _ | exact LeO.none _ | refine LeO.ite ?_ ?_ | refine LeO.bind ?_ (fun _ => ?_)
theorem spec_TableNew.zHB {p : Prop} (h : p := by repeat (first | (with_reducible first | exact HB.out | apply below_alloc | apply pw_below_drewN | apply below_drew1 | refine below_set ?_ GE104.out | refine below_set ?_ GE107.out) | exact HB.out)) : p := h
theorem spec_TableNew.zK {p : Prop} (h : p := by repeat' first | (with_reducible first | exact BK104.out | exact BK107.out | apply blk_drewN | apply blk_drew | apply blk_alloc | apply blk_far (hp := NB104_107.out) | apply blk_putE) | exact (rfl : List.set _ _ _ = _)) : p := h
theorem spec_TableNew.z0 {p : Prop} (h : p := by first | rfl | (simp; done) | (simp [*]; done)) : p := h
theorem spec_TableNew.z1 {p : Prop} (h : p := by first | exact Kd.S_nil _ _ _ _ _ | exact Kd.N_nil _ _ _ _ _ | exact Kd.V_nil _ _ _ _ _ | exact Kd.Q_nil _ _ _ _ _ | exact Kd.R_nil _ _ _ _ _) : p := h
theorem spec_TableNew.z2 {p : Prop} (h : p := by (try simp only [List.map_toArray, List.map_cons, List.map_nil]); first | done | rfl | (simp only [List.length_drop, List.length_take]; rfl)) : p := h
theorem spec_TableNew.z3 {p : Prop} (h : p := by (with_reducible repeat (first | apply Kd.S_alloc | apply Kd.S_drewN | apply Kd.S_drew)); exact HO_108002.out) : p := h
theorem spec_TableNew.z4 {p : Prop} (h : p := by rw [hg]; exact (below_size (zHB))) : p := h
theorem spec_TableNew.z5 {p : Prop} (h : p := by first | rfl | (simp [errW_none, errW_some] <;> rfl) | (simp [*, errW_none, errW_some] <;> rfl)) : p := h
theorem spec_TableNew.zy {p : Prop} (h : p := by first | (rw [hy_]; with_reducible exact H) | (have H2_ := (Option.bind_some _ _).symm.trans H; rw [hy_]; with_reducible exact H2_) | (have H2_ := (Option.bind_some _ _).symm.trans H; with_reducible exact H2_) | with_reducible exact H | (rw [hy_]; exact H) | exact H) : p := h
set_option maxHeartbeats 8000000 in
set_option maxRecDepth 100000 in
theorem spec_TableNew.calls (k : Nat) (a0 : Int) (a1 : Int) (r1 : Int) (r2 : Int) (r3 : List (S30)) (w : World) (h : spec_TableNew.f k a0 a1 = some (r1, r2, r3)) :
    Calls Try.prog 23 #[.int .i64 a0, .int .i64 a1] w fun e w' => ∃ v2_ : Value, e = .returned (.agg #[.int .i64 r1, .int .i64 r2, v2_]) ∧ Kd.S k30 30 w' w.heap.size (fun _ => True) v2_ r3 ∧ Below w.heap.size w w' := by
 have hu25 := Try.underlying25
 have hu30 := Try.underlying30
 have HB := Ax (Below.refl w.heap.size w)
 have H : ((spec_l6In.f a0 1 5).bind fun t105 => (if t105 = true then ((spec_l6In.f a1 1 5).bind fun t106 => (spec_TableNew.j0 k a0 a1 (!t106))) else (spec_TableNew.j0 k a0 a1 true))) = some (r1, r2, r3) := h
 clear h
 have HC3 := Ax H
 clear H
 go_enter Try.func23, Try.ntmps23
 go_upto_region 1 with (first | ((with_reducible refine gate_dst (N := 4) rfl ?_); refine box_event ?hg (N := 4) ?hd (cs := #[.int .i64 0, .int .i64 0, .slice none 0 0]) (t := 25) ?hr ?_; (case hd => rfl); (case hg => rfl); (case hr => first | (go_simp; done) | (go_simp; rfl)); intro gb104 hg w4 hbox hb; have BK104 := Ax (hbox); have GW104 := Ax ((z4 : w.heap.size ≤ gb104)); have GE104 := Ax ((z4 : w.heap.size ≤ gb104)); replace HB := Ax (below_step (zHB) hb); clear hb hbox hg))
 (try simp only [Act.put, List.setIfInBounds_toArray, List.set_cons_zero, List.set_cons_succ])
 go_cut [15] (fun v15 wc => ∃ (kq : Nat) (x15_2 : Bool), v15 = .bool x15_2 ∧ Aside0 (spec_TableNew.j0 kq a0 a1 x15_2 = some (r1, r2, r3)) ∧ Aside0 (kq ≤ k) ∧ Aside0 (wc.heap[gb104]? = some (.cells #[.int .i64 0, .int .i64 0, (.slice none 0 0)] 25 (0, 0))) ∧ Aside0 (Below w.heap.size w wc))
 case first =>
  have H := HC3.out
  clear HC3
  obtain ⟨t105, A5, H⟩ := bnd H
  obtain rfl | rfl := tf t105
  · rw [if_pos rfl] at H
    obtain ⟨t106, A7, H⟩ := bnd H
    have H' := Ax H
    clear H
    go_wp2_with (first | ((with_reducible refine gate_callee (f := 49) rfl ?_); refine goesL_ (some 9) rfl rfl Try.func49 (by kernel_rfl) rfl #[.int .i64 a0, .int .i64 1, .int .i64 5] rfl (z2) ?_; (with_reducible refine (spec_l6In.calls a0 1 5 true _ A5.out).mono ?_); rintro e w' ⟨rfl, ⟨nd, rfl⟩⟩; refine ⟨_, rfl, ?_⟩) | (go_at_call 49; (with_reducible refine (spec_l6In.calls a1 1 5 t106 _ A7.out).mono ?_); rintro e w' ⟨rfl, ⟨nd, rfl⟩⟩))
    go_meet
    exact ⟨_, (!t106), (z0), H', ⟨by first | omega | exact Nat.le_refl _⟩, ⟨zK⟩, ⟨zHB⟩⟩
  rw [if_neg Bool.false_ne_true] at H
  have H' := Ax H
  clear H
  go_wp2_with (first | ((with_reducible refine gate_callee (f := 49) rfl ?_); refine goesL_ (some 9) rfl rfl Try.func49 (by kernel_rfl) rfl #[.int .i64 a0, .int .i64 1, .int .i64 5] rfl (z2) ?_; (with_reducible refine (spec_l6In.calls a0 1 5 false _ A5.out).mono ?_); rintro e w' ⟨rfl, ⟨nd, rfl⟩⟩; refine ⟨_, rfl, ?_⟩))
  go_meet
  exact ⟨_, (true), (z0), H', ⟨by first | omega | exact Nat.le_refl _⟩, ⟨zK⟩, ⟨zHB⟩⟩
 clear HC3
 obtain ⟨kq, x15_2, rfl, HA, HJ2, BK104, HB⟩ := hcut
 cases kq with
 | zero => exact absurd HA.out (by simp [spec_TableNew.j0])
 | succ kj2 =>
  have H := HA.out
  clear HA
  simp only [spec_TableNew.j0] at H
  obtain rfl | rfl := tf x15_2
  · rw [if_pos rfl] at H
    simp only [Option.some.injEq, Prod.mk.injEq] at H
    obtain ⟨rfl, rfl, rfl⟩ := H
    obtain ⟨_, _, _, _, _, _⟩ := cells3 BK104.out
    go_wp2
    refine bodyPost_ret (results_cell_row rfl _ _ gb104 25 #[.int .i64 0, .int .i64 0, .slice none 0 0] (0, 0) _ rfl (zK) Try.underlying25 rfl (by kernel_rfl)) rfl ?_
    exact ⟨_, z5, z1, zHB⟩
  rw [if_neg Bool.false_ne_true] at H
  have H' := Ax H
  clear H
  go_wp2_with (first | ((with_reducible refine gate_dst (N := 5) rfl ?_); refine box_event ?hg (N := 5) ?hd (cs := #[.int .i64 0, .int .i64 0, .slice none 0 0]) (t := 25) ?hr ?_; (case hd => rfl); (case hg => rfl); (case hr => first | (go_simp; done) | (go_simp; rfl)); intro gb107 hg w10 hbox hb; have BK107 := Ax (hbox); have GW107 := Ax ((z4 : w.heap.size ≤ gb107)); have GE107 := Ax ((z4 : w.heap.size ≤ gb107)); replace HB := Ax (below_step (zHB) hb); have NB104_107 := Ax ((by rw [hg]; exact Nat.ne_of_lt (blk_lt (g := gb104) (zK)) : gb104 ≠ gb107)); have NB107_104 := Ax ((by rw [hg]; exact Nat.ne_of_gt (blk_lt (g := gb104) (zK)) : gb107 ≠ gb104)); replace BK104 := Ax (blk_below (g := gb104) (zK) hb); clear hb hbox hg; have hnb11 := NB107_104.out; have hnc11 := NB104_107.out; obtain ⟨hcz12_0, hcz12_1, hcz12_2, hfz12_0, hfz12_1, hfz12_2⟩ := cells3 BK107.out))
  go_loopg [6] kj2 (fun kq v6 w' => ∃ (x6_2 : Int) (x108002_2 : List (S30)) (u108002 : Value), v6 = .int .i64 x6_2 ∧ Aside0 (spec_TableNew.l0 kq a0 a1 x6_2 a0 a1 x108002_2 = some (r1, r2, r3)) ∧ Aside0 (kq ≤ kj2) ∧ Aside0 (Kd.S k30 30 w' w.heap.size (fun _ => True) u108002 x108002_2) ∧ Aside0 (w'.heap[gb104]? = some (.cells #[.int .i64 0, .int .i64 0, (.slice none 0 0)] 25 (0, 0))) ∧ Aside0 (w'.heap[gb107]? = some (.cells #[.int .i64 a0, .int .i64 a1, u108002] 25 (0, 0))) ∧ Aside0 (Below w.heap.size w w'))
  case atStart => exact ⟨(0), (([] : List (S30))), (.slice none 0 0), (z0), H', ⟨Nat.le_refl _⟩, ⟨z1⟩, ⟨zK⟩, ⟨zK⟩, ⟨zHB⟩⟩
  clear H'
  (try clear hcz12_0); (try clear hcz12_1); (try clear hcz12_2); (try clear hfz12_0); (try clear hfz12_1); (try clear hfz12_2)
  obtain ⟨x6_2, x108002_2, u108002, rfl, HA, HK2, HO_108002, BK104, BK107, HB⟩ := hrel
  cases gk with
  | zero => exact absurd HA.out (by simp [spec_TableNew.l0])
  | succ k2 =>
   have H := HA.out
   clear HA
   simp only [spec_TableNew.l0] at H
   by_cases c13 : x6_2 < a0
   rotate_left
   · rw [if_neg c13] at H
     have c13b0 := decide_eq_false c13
     clear c13
     simp only [Option.some.injEq, Prod.mk.injEq] at H
     obtain ⟨rfl, rfl, rfl⟩ := H
     have hnb21 := NB107_104.out
     have hnc21 := NB104_107.out
     obtain ⟨_, _, _, _, _, _⟩ := cells3 BK107.out
     obtain ⟨_, _, _, _, _, _⟩ := cells3 BK104.out
     obtain ⟨Ao24, co24, eo24⟩ := Kd.S_slice HO_108002.out
     subst eo24
     go_wp2
     refine bodyPost_ret (results_cell_row rfl _ _ gb104 25 #[.int .i64 a0, .int .i64 a1, .slice Ao24 x108002_2.length co24] (0, 0) _ rfl (zK) Try.underlying25 rfl (by kernel_rfl)) rfl ?_
     exact ⟨_, z5, by (with_reducible repeat (first | apply Kd.S_alloc | apply Kd.S_drewN | apply Kd.S_drew)); exact Kd.S_mono (Kd.S_far (p := ⟨gb104, 2, none⟩) (Kd.S_far (p := ⟨gb104, 1, none⟩) (Kd.S_far (p := ⟨gb104, 0, none⟩) (Kd.S_types HO_108002.out BK104.out (by decide)) (fun _ hk => hk.2) (.int .i64 a0)) (fun _ hk => hk.2) (.int .i64 a1)) (fun _ hk => hk.2) (.slice Ao24 x108002_2.length co24)) (fun _ hk => trivial), zHB⟩
   rw [if_pos c13] at H
   have c13b0 := decide_eq_true c13
   clear c13
   have H' := Ax H
   clear H
   go_wp2
   go_loopg [7] k2 (fun kq v7 w' => ∃ (x7_3 : Int) (x108002_3 : List (S30)) (u108002 : Value), v7 = .int .i64 x7_3 ∧ Aside0 (spec_TableNew.l1 kq a0 a1 x6_2 x7_3 a0 a1 x108002_3 = some (r1, r2, r3)) ∧ Aside0 (kq ≤ k2) ∧ Aside0 (Kd.S k30 30 w' w.heap.size (fun _ => True) u108002 x108002_3) ∧ Aside0 (w'.heap[gb104]? = some (.cells #[.int .i64 0, .int .i64 0, (.slice none 0 0)] 25 (0, 0))) ∧ Aside0 (w'.heap[gb107]? = some (.cells #[.int .i64 a0, .int .i64 a1, u108002] 25 (0, 0))) ∧ Aside0 (Below w.heap.size w w'))
   case atStart => exact ⟨(0), (x108002_2), (u108002), (z0), H', ⟨Nat.le_refl _⟩, ⟨z3⟩, ⟨zK⟩, ⟨zK⟩, ⟨zHB⟩⟩
   clear H'
   (try clear c13); (try clear c13b0); (try clear hcz12_0); (try clear hcz12_1); (try clear hcz12_2); (try clear hfz12_0); (try clear hfz12_1); (try clear hfz12_2)
   obtain ⟨x7_3, x108002_3, u108002, rfl, HA, HK3, HO_108002, BK104, BK107, HB⟩ := hrel
   cases gk with
   | zero => exact absurd HA.out (by simp [spec_TableNew.l1])
   | succ k3 =>
    have H := HA.out
    clear HA
    simp only [spec_TableNew.l1] at H
    by_cases c14 : x7_3 < a1
    rotate_left
    · rw [if_neg c14] at H
      have c14b0 := decide_eq_false c14
      clear c14
      have H' := Ax H
      clear H
      go_wp2
      go_roundg k3
      case measure => have := HJ2.out; have := HK2.out; have := HK3.out; omega
      exact ⟨(wrap64 (x6_2 + 1)), (x108002_3), (u108002), (z0), H', ⟨by have := HJ2.out; have := HK2.out; have := HK3.out; omega⟩, ⟨z3⟩, ⟨zK⟩, ⟨zK⟩, ⟨zHB⟩⟩
    rw [if_pos c14] at H
    have c14b0 := decide_eq_true c14
    clear c14
    by_cases c15 : x108002_3.length < 2513169434916
    rotate_left
    · rw [if_neg c15] at H
      exact absurd H (by simp)
    rw [if_pos c15] at H
    have LMc15 := Ax c15
    clear c15
    obtain ⟨y108, hy_⟩ : ∃ y_ : List (S30), y_ = (x108002_3 ++ [(⟨x6_2, x7_3, 1, 1, ([] : List (S61))⟩ : S30)]) := ⟨_, rfl⟩
    replace H : (spec_TableNew.l1 k3 a0 a1 x6_2 (wrap64 (x7_3 + 1)) a0 a1 y108) = some (r1, r2, r3) := zy
    have Ny108 := Ax hy_
    clear hy_
    have H' := Ax H
    clear H
    have hnb16 := NB107_104.out
    have hnc16 := NB104_107.out
    obtain ⟨_, _, _, _, _, _⟩ := cells3 BK107.out
    go_wp2_with (first | ((with_reducible refine gate_builtin (b := .append) (xs := #[.tmp 31, .tmp 35]) rfl ?_); at_builtin; refine Kd.S_append k30 (w0 := w) w.heap.size rfl (.tmp 31) (.tmp 35) 23 30 (.agg #[(.int .i64 0), (.int .i64 0), (.int .i64 0), (.int .i64 0), (.slice none 0 0)]) 56 rfl Try.underlying23 info30 rfl (by decide) (by omega) u108002 x108002_3 (⟨x6_2, x7_3, 1, 1, ([] : List (S61))⟩ : S30) [.int .i64 x6_2, .int .i64 x7_3, .int .i64 1, .int .i64 1, .slice none 0 0] (fun _ => True) (fun _ => False) rfl rfl ?aP (fun k_ hk_ => hk_.elim) ?aF ?aO ?aB ?aS ?aL ?_; (case aP => exact k30_mkM _ _ _ (⟨x6_2, x7_3, 1, 1, ([] : List (S61))⟩ : S30) (Kd.R_nil _ _ _ _ _)); (case aB => exact (zHB)); (case aF => exact (fun _ _ => trivial)); (case aO => exact (by (with_reducible repeat (first | apply Kd.S_alloc | apply Kd.S_drewN | apply Kd.S_drew)); exact Kd.S_mono HO_108002.out (fun k_ hk => ⟨trivial, fun e_ => e_⟩))); (case aS => exact (below_size (zHB))); (case aL => have := LMc15.out; omega); intro v109 w18 ho hb hg hat; rw [← Ny108.out] at ho; replace BK104 := Ax (blk_grown (g := gb104) (zK) hg (Kd.S_ne HO_108002.out BK104.out (by decide))); replace BK107 := Ax (blk_grown (g := gb107) (zK) hg (Kd.S_ne HO_108002.out BK107.out (by decide))); replace HB := Ax (hb); have HO110 := Ax (ho); clear HO_108002; clear ho hb hg hat; obtain ⟨Ao19, co19, eo19⟩ := Kd.S_slice HO110.out; subst eo19; obtain ⟨_, _, _, _, _, _⟩ := cells3 BK107.out))
    go_roundg k3
    case measure => have := HJ2.out; have := HK2.out; have := HK3.out; omega
    exact ⟨(wrap64 (x7_3 + 1)), (y108), (.slice Ao19 y108.length co19), (z0), H', ⟨by have := HJ2.out; have := HK2.out; have := HK3.out; omega⟩, ⟨by (with_reducible repeat (first | apply Kd.S_alloc | apply Kd.S_drewN | apply Kd.S_drew)); exact Kd.S_mono (Kd.S_far (p := ⟨gb107, 2, none⟩) (Kd.S_types HO110.out BK107.out (by decide)) (fun _ hk => hk.2) (.slice Ao19 y108.length co19)) (fun _ hk => trivial)⟩, ⟨zK⟩, ⟨zK⟩, ⟨zHB⟩⟩
end Go.Proofs.Ytljgbeccmcidkaa.P
