/- The plain law behind FnTextCut: what is now, and what was, of a text is that of both of its pieces. Condition: none beyond the row's own. -/
import Derived.Test.YtcabipiblfohnaaXPLawsFnTextCut
import Derived.Test.YtcabipiblfohnaaXPuText
import Derived.Test.YtcabipiblfohnaaXPuDNow
namespace Go.Proofs.Ytcabipiblfohnaa.Pure
open Go.RowKit Go.Proofs.Ytcabipiblfohnaa.P Go.Proofs.YtcabipiblfohnaaW.PrintWords Go.Proofs.YtcabipiblfohnaaW.PrintLast
set_option linter.unusedVariables false
set_option linter.unusedSimpArgs false
theorem now_cut {t : List Sg} (h : textB t = true) (n : Nat) : nowS (t.take n) ++ nowS (t.drop n) = nowS t ∧ wasS (t.take n) ++ wasS (t.drop n) = wasS t := by
  have e : t.take n ++ t.drop n = t := List.take_append_drop n t
  have h' := h
  rw [← e, textB_append] at h'
  have h1 : textB (t.take n) = true := (textB_iff _).2 ⟨by omega, h'.2.1⟩
  have h2 : textB (t.drop n) = true := (textB_iff _).2 ⟨by omega, h'.2.2⟩
  unfold nowS wasS
  rw [if_pos h1, if_pos h2, if_pos h, if_pos h1, if_pos h2, if_pos h, ← strOfNums_append, ← strOfNums_append]
  unfold nowL wasL
  rw [← List.flatMap_append, ← List.flatMap_append, e]
  exact ⟨rfl, rfl⟩
theorem FnTextCut : laws_FnTextCut.Pure := by
  intro l0 l1 _ _ hl _ hm _
  suffices h : Ev (fun k => laws_FnTextCut.f k l0 l1) true from h.rounds
  have yes : Ev (fun k => laws_FnTextCut.j0 k l0 l1 true) true := by
    refine ev_step (fun k => by rw [laws_FnTextCut.j0]) ?_
    exact ev_pos rfl (ev_s rfl)
  unfold laws_FnTextCut.f
  by_cases hc : (l0.length : Int) > 1048576
  · exact ev_pos hc yes
  refine ev_neg hc ?_
  by_cases hc1 : (l1.length : Int) > 1048576
  · rw [decide_eq_true hc1]; exact yes
  rw [decide_eq_false hc1]
  refine ev_step (fun k => by rw [laws_FnTextCut.j0]) ?_
  refine ev_neg (by decide) ?_
  obtain ⟨t, e, ht⟩ := drawNow hl
  refine ev_bind e (ev_bind (implNow t (by omega)) (ev_bind (specNow t) (ev_pos rfl (ev_bind (specTextOk t) ?_))))
  by_cases hok : textB t = true
  · rw [hok]
    obtain ⟨c, hce⟩ : ∃ c : Int, c = (l1.length : Int) % ((t.length : Int) + 1) := ⟨_, rfl⟩
    have c0 : 0 ≤ c := by rw [hce]; exact Int.emod_nonneg _ (by omega)
    have c1 : c ≤ (t.length : Int) := by have := Int.emod_lt_of_pos (l1.length : Int) (show 0 < (t.length : Int) + 1 by omega); omega
    have z1 := nowS_size (t.take c.toNat)
    have z2 := nowS_size (t.drop c.toNat)
    have z3 := wasS_size (t.take c.toNat)
    have z4 := wasS_size (t.drop c.toNat)
    rw [List.length_take] at z1 z3
    rw [List.length_drop] at z2 z4
    obtain ⟨k1, k2⟩ := now_cut hok c.toNat
    refine ev_step (fun k => by rw [laws_FnTextCut.j1]) ?_
    rw [w64 (n := (t.length : Int) + 1) (by omega) (by omega), ← hce]
    refine ev_neg (by decide) (ev_neg (by omega) (ev_pos c0 (ev_pos c1 ?_)))
    refine ev_bind (implNow _ (by rw [List.length_take]; omega)) (ev_bind (implNow _ (by rw [List.length_drop]; omega)) (ev_pos (by omega) (ev_pos (by rw [k1]) ?_)))
    refine ev_bind (implWas _ (by rw [List.length_take]; omega)) (ev_bind (implWas _ (by rw [List.length_drop]; omega)) (ev_pos (by omega) (ev_bind (implWas t (by omega)) (ev_s ?_))))
    rw [k2]; exact beq_iff_eq.2 rfl
  · rw [Bool.not_eq_true] at hok
    rw [hok]
    refine ev_step (fun k => by rw [laws_FnTextCut.j1]) ?_
    exact ev_pos rfl (ev_bind (specNow t) (ev_s (beq_iff_eq.2 rfl)))
end Go.Proofs.Ytcabipiblfohnaa.Pure
