/- The plain law behind FnTextLen: there are as many signs now as are not taken out, and as many as it was as are not put in. Condition: none beyond the row's own. -/
import Derived.Test.YtcabipiblfohnaaXPLawsFnTextLen
import Derived.Test.YtcabipiblfohnaaXPuText
import Derived.Test.YtcabipiblfohnaaXPuDWas
namespace Go.Proofs.Ytcabipiblfohnaa.Pure
open Go.RowKit Go.Proofs.Ytcabipiblfohnaa.P Go.Proofs.YtcabipiblfohnaaW.PrintWords Go.Proofs.YtcabipiblfohnaaW.PrintLast
set_option linter.unusedVariables false
set_option linter.unusedSimpArgs false
def inC (t : List Sg) : Nat := t.countP fun s => decide (s.f1 > 0)
def outC (t : List Sg) : Nat := t.countP fun s => decide (s.f2 > 0)
theorem was_count {t : List Sg} (h : ∀ s ∈ t, signB s = true) : (wasL t).length + inC t = t.length := by
  induction t with
  | nil => rfl
  | cons s t ih =>
    have hs := signB_parts (h s List.mem_cons_self)
    have := ih (fun x hx => h x (List.mem_cons_of_mem _ hx))
    unfold wasL inC at *
    rw [List.flatMap_cons, List.length_append, List.countP_cons, List.length_cons]
    by_cases e : s.f1 = 0
    · rw [show (was1 s).length = 1 from by unfold was1; rw [if_pos e]; rfl, decide_eq_false (by omega), if_neg (by decide)]; omega
    · rw [show (was1 s).length = 0 from by unfold was1; rw [if_neg e]; rfl, decide_eq_true (by omega), if_pos rfl]; omega
theorem now_count {t : List Sg} (h : ∀ s ∈ t, signB s = true) : (nowL t).length + outC t = t.length := by
  induction t with
  | nil => rfl
  | cons s t ih =>
    have hs := signB_parts (h s List.mem_cons_self)
    have := ih (fun x hx => h x (List.mem_cons_of_mem _ hx))
    unfold nowL outC at *
    rw [List.flatMap_cons, List.length_append, List.countP_cons, List.length_cons]
    by_cases e : s.f2 = 0
    · rw [show (now1 s).length = 1 from by unfold now1; rw [if_pos e]; rfl, decide_eq_false (by omega), if_neg (by decide)]; omega
    · rw [show (now1 s).length = 0 from by unfold now1; rw [if_neg e]; rfl, decide_eq_true (by omega), if_pos rfl]; omega
theorem len_l0 (t : List Sg) (hok : textB t = true) : ∀ (d i x y : Nat), i + d = t.length → x + inC (t.drop i) = inC t → y + outC (t.drop i) = outC t → x ≤ i → y ≤ i →
    Ev (fun k => laws_FnTextLen.l0 k t (x : Int) (y : Int) (i : Int)) true := by
  have hs := textB_len hok
  have hin := ((textB_iff t).1 hok).2
  intro d
  induction d with
  | zero =>
    intro i x y hi hx hy hxi hyi
    rw [end_drop t hi] at hx hy
    have c1 := was_count hin
    have c2 := now_count hin
    refine ev_step (fun k => by rw [laws_FnTextLen.l0]) ?_
    refine ev_neg (by omega) (ev_bind (implWas t (by omega)) (ev_pos ?_ (ev_bind (implNow t (by omega)) (ev_s ?_))))
    · rw [w64 (by omega) (by omega)]
      unfold wasS
      rw [if_pos hok, strOfNums_size]
      simp [inC] at hx c1 ⊢
      omega
    · rw [beq_iff_eq, w64 (by omega) (by omega)]
      unfold nowS
      rw [if_pos hok, strOfNums_size]
      simp [outC] at hy c2 ⊢
      omega
  | succ d ih =>
    intro i x y hi hx hy hxi hyi
    have hd := drop_rd t i (by omega)
    rw [hd] at hx hy
    unfold inC at hx
    unfold outC at hy
    rw [List.countP_cons] at hx hy
    have nxt : ∀ x' : Nat, x' + inC (t.drop (i + 1)) = inC t → x' ≤ i + 1 → Ev (fun k => laws_FnTextLen.j2 k t (x' : Int) (y : Int) (i : Int)) true := by
      intro x' hx' hxi'
      refine ev_step (fun k => by rw [laws_FnTextLen.j2]) ?_
      refine ev_pos (by omega) (ev_pos (by omega) ?_)
      rw [succ64 (i := i) (n := t.length) (by omega) (by omega)]
      by_cases h : (rd_T29 t (i : Int)).f2 > 0
      · refine ev_pos h ?_
        rw [decide_eq_true h] at hy
        rw [show wrap64 ((y : Int) + 1) = ((y + 1 : Nat) : Int) from by rw [w64 (by omega) (by omega)]; rfl]
        exact ih (i + 1) x' (y + 1) (by omega) hx' (by rw [if_pos rfl] at hy; unfold outC; omega) hxi' (by omega)
      · refine ev_neg h ?_
        rw [decide_eq_false h] at hy
        exact ih (i + 1) x' y (by omega) hx' (by rw [if_neg (by decide)] at hy; unfold outC; omega) hxi' (by omega)
    refine ev_step (fun k => by rw [laws_FnTextLen.l0]) ?_
    refine ev_pos (by omega) (ev_pos (by omega) ?_)
    by_cases h : (rd_T29 t (i : Int)).f1 > 0
    · refine ev_pos h ?_
      rw [decide_eq_true h] at hx
      rw [show wrap64 ((x : Int) + 1) = ((x + 1 : Nat) : Int) from by rw [w64 (by omega) (by omega)]; rfl]
      exact nxt (x + 1) (by rw [if_pos rfl] at hx; unfold inC; omega) (by omega)
    · refine ev_neg h ?_
      rw [decide_eq_false h] at hx
      exact nxt x (by rw [if_neg (by decide)] at hx; unfold inC; omega) (by omega)
theorem FnTextLen : laws_FnTextLen.Pure := by
  intro l0 _ _ hl
  suffices h : Ev (fun k => laws_FnTextLen.f k l0) true from h.rounds
  unfold laws_FnTextLen.f
  by_cases hc : (l0.length : Int) > 1048576
  · exact ev_pos hc (ev_s rfl)
  refine ev_neg hc ?_
  obtain ⟨t, e, ht⟩ := drawWas hl
  refine ev_bind e (ev_bind (implWas t (by omega)) (ev_bind (specWas t) (ev_pos rfl (ev_bind (specTextOk t) ?_))))
  by_cases hok : textB t = true
  · rw [hok]
    refine ev_step (fun k => by rw [laws_FnTextLen.j0]) ?_
    refine ev_neg (by decide) ?_
    exact len_l0 t hok t.length 0 0 0 (by omega) (by simp) (by simp) (by omega) (by omega)
  · rw [Bool.not_eq_true] at hok
    rw [hok]
    refine ev_step (fun k => by rw [laws_FnTextLen.j0]) ?_
    exact ev_pos rfl (ev_bind (implWas t (by omega)) (ev_bind (specWas t) (ev_s (beq_iff_eq.2 rfl))))
end Go.Proofs.Ytcabipiblfohnaa.Pure
