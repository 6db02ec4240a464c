/- The plain law behind FnTextKeep: to take changes nothing of what is now, and to drop nothing of what was. Condition: none beyond the row's own. -/
import Derived.Test.YtcabipiblfohnaaXPLawsFnTextKeep
import Derived.Test.YtcabipiblfohnaaXPuText
import Derived.Test.YtcabipiblfohnaaXPuS
import Derived.Test.YtcabipiblfohnaaXPuDTake
namespace Go.Proofs.Ytcabipiblfohnaa.Pure
open Go.RowKit Go.Proofs.Ytcabipiblfohnaa.P Go.Proofs.YtcabipiblfohnaaW.PrintWords Go.Proofs.YtcabipiblfohnaaW.PrintLast
set_option linter.unusedVariables false
set_option linter.unusedSimpArgs false
theorem FnTextKeep : laws_FnTextKeep.Pure := by
  intro l0 _ _ hl
  suffices h : Ev (fun k => laws_FnTextKeep.f k l0) true from h.rounds
  unfold laws_FnTextKeep.f
  by_cases hc : (l0.length : Int) > 1048576
  · exact ev_pos hc (ev_s rfl)
  refine ev_neg hc ?_
  obtain ⟨t, w, e, ht, _⟩ := drawTake hl
  have a := take_len w t
  have b := drop_len w t
  refine ev_bind e (ev_bind (implTake t w (by omega)) (ev_bind (implDrop t w (by omega)) (ev_bind (specTake t w (by omega)) (ev_bind (lmSigns_self _ (by omega)) (ev_pos rfl ?_)))))
  refine ev_bind (specDrop t w (by omega)) (ev_bind (lmSigns_self _ (by omega)) (ev_pos rfl ?_))
  refine ev_bind (implNow (take w t) (by omega)) (ev_bind (implNow t (by omega)) (ev_pos (by rw [nowS_take]) ?_))
  refine ev_bind (implWas (drop w t) (by omega)) (ev_bind (implWas t (by omega)) (ev_s ?_))
  rw [wasS_drop]; exact beq_iff_eq.2 rfl
end Go.Proofs.Ytcabipiblfohnaa.Pure
