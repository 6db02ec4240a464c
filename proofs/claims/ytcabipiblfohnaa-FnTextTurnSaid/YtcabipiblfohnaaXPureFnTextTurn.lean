/- The plain law behind FnTextTurn: the order in which suggestions of two people are taken or dropped does not matter. Condition: none beyond the row's own. -/
import Derived.Test.YtcabipiblfohnaaXPLawsFnTextTurn
import Derived.Test.YtcabipiblfohnaaXPuText
import Derived.Test.YtcabipiblfohnaaXPuS
import Derived.Test.YtcabipiblfohnaaXPuDTake
namespace Go.Proofs.Ytcabipiblfohnaa.Pure
open Go.RowKit Go.Proofs.Ytcabipiblfohnaa.P Go.Proofs.YtcabipiblfohnaaW.PrintWords Go.Proofs.YtcabipiblfohnaaW.PrintLast
set_option linter.unusedVariables false
set_option linter.unusedSimpArgs false
theorem FnTextTurn : laws_FnTextTurn.Pure := by
  intro l0 l1 _ _ hl _ hm _
  suffices h : Ev (fun k => laws_FnTextTurn.f k l0 l1) true from h.rounds
  have yes : Ev (fun k => laws_FnTextTurn.j0 k l0 l1 true) true := by
    refine ev_step (fun k => by rw [laws_FnTextTurn.j0]) ?_
    exact ev_pos rfl (ev_s rfl)
  unfold laws_FnTextTurn.f
  by_cases hc : (l0.length : Int) > 1048576
  · exact ev_pos hc yes
  refine ev_neg hc ?_
  by_cases hc1 : (l1.length : Int) > 1048576
  · rw [decide_eq_true hc1]; exact yes
  rw [decide_eq_false hc1]
  refine ev_step (fun k => by rw [laws_FnTextTurn.j0]) ?_
  refine ev_neg (by decide) ?_
  obtain ⟨t, w, e, ht, _⟩ := drawTake hl
  obtain ⟨o, ho⟩ : ∃ o : Int, o = 1 + (l1.length : Int) % 3 := ⟨_, rfl⟩
  rw [← ho]
  have a := take_len w t
  have b := drop_len w t
  have c := take_len o t
  have d := drop_len o t
  refine ev_bind e (ev_bind (implTake t w (by omega)) (ev_bind (specTake t w (by omega)) (ev_bind (lmSigns_self _ (by omega)) (ev_pos rfl ?_))))
  by_cases hw : o = w
  · exact ev_pos hw (ev_s rfl)
  refine ev_neg hw ?_
  have f1 := take_len o (take w t)
  have f2 := drop_len o (take w t)
  have f3 := drop_len o (drop w t)
  refine ev_bind (implTake (take w t) o (by omega)) (ev_bind (implTake t o (by omega)) (ev_bind (implTake (take o t) w (by omega)) (ev_bind (lmSigns_eq (take_comm hw t) (by omega)) ?_)))
  refine ev_bind (implDrop (take w t) o (by omega)) (ev_bind (implDrop t o (by omega)) (ev_bind (implTake (drop o t) w (by omega)) (ev_bind (lmSigns_eq (drop_take hw t) (by omega)) (ev_pos rfl (ev_pos rfl ?_)))))
  exact ev_bind (implDrop t w (by omega)) (ev_bind (implDrop (drop w t) o (by omega)) (ev_bind (implDrop t o (by omega)) (ev_bind (implDrop (drop o t) w (by omega)) (ev_bind (lmSigns_eq (drop_comm hw t) (by omega)) (ev_s rfl)))))
end Go.Proofs.Ytcabipiblfohnaa.Pure
