/- The plain law behind FnTextTwice: to take, and to drop, is done once and for all. Condition: none beyond the row's own. -/
import Derived.Test.YtcabipiblfohnaaXPLawsFnTextTwice
import Derived.Test.YtcabipiblfohnaaXPuText
import Derived.Test.YtcabipiblfohnaaXPuS
import Derived.Test.YtcabipiblfohnaaXPuDTake
namespace Go.Proofs.Ytcabipiblfohnaa.Pure
open Go.RowKit Go.Proofs.Ytcabipiblfohnaa.P Go.Proofs.YtcabipiblfohnaaW.PrintWords Go.Proofs.YtcabipiblfohnaaW.PrintLast
set_option linter.unusedVariables false
set_option linter.unusedSimpArgs false
theorem FnTextTwice : laws_FnTextTwice.Pure := by
  intro l0 _ _ hl
  suffices h : Ev (fun k => laws_FnTextTwice.f k l0) true from h.rounds
  unfold laws_FnTextTwice.f
  by_cases hc : (l0.length : Int) > 1048576
  · exact ev_pos hc (ev_s rfl)
  refine ev_neg hc ?_
  obtain ⟨t, w, e, ht, _⟩ := drawTake hl
  have a := take_len w t
  have b := drop_len w t
  refine ev_bind e (ev_bind (implTake t w (by omega)) (ev_bind (implDrop t w (by omega)) (ev_bind (specTake t w (by omega)) (ev_bind (lmSigns_self _ (by omega)) (ev_pos rfl ?_)))))
  refine ev_bind (implTake (take w t) w (by omega)) (ev_bind (lmSigns_eq (take_idem w t) (by rw [take_idem]; omega)) (ev_pos rfl ?_))
  refine ev_bind (implDrop (take w t) w (by omega)) (ev_bind (lmSigns_eq (drop_after w t) (by rw [drop_after]; omega)) (ev_pos rfl ?_))
  exact ev_bind (implDrop (drop w t) w (by omega)) (ev_bind (lmSigns_eq (drop_idem w t) (by rw [drop_idem]; omega)) (ev_s rfl))
end Go.Proofs.Ytcabipiblfohnaa.Pure
