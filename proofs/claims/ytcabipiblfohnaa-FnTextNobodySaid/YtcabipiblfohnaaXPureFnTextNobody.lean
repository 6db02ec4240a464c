/- The plain law behind FnTextNobody: to take or drop the suggestions of nobody changes nothing. Condition: none beyond the row's own. -/
import Derived.Test.YtcabipiblfohnaaXPLawsFnTextNobody
import Derived.Test.YtcabipiblfohnaaXPuText
import Derived.Test.YtcabipiblfohnaaXPuS
import Derived.Test.YtcabipiblfohnaaXPuDDrop
namespace Go.Proofs.Ytcabipiblfohnaa.Pure
open Go.RowKit Go.Proofs.Ytcabipiblfohnaa.P Go.Proofs.YtcabipiblfohnaaW.PrintWords Go.Proofs.YtcabipiblfohnaaW.PrintLast
set_option linter.unusedVariables false
set_option linter.unusedSimpArgs false
theorem FnTextNobody : laws_FnTextNobody.Pure := by
  intro l0 _ _ hl
  suffices h : Ev (fun k => laws_FnTextNobody.f k l0) true from h.rounds
  unfold laws_FnTextNobody.f
  by_cases hc : (l0.length : Int) > 1048576
  · exact ev_pos hc (ev_s rfl)
  refine ev_neg hc ?_
  obtain ⟨t, w, e, ht, _⟩ := drawDrop hl
  have a := take_len w t
  have b := drop_len w t
  refine ev_bind e (ev_bind (implDrop t w (by omega)) (ev_bind (specDrop t w (by omega)) (ev_bind (lmSigns_self _ (by omega)) (ev_pos rfl ?_))))
  have e0 := take_none (w := 0) (by omega) t
  have e1 := drop_none (w := 0) (by omega) t
  have e2 := drop_none (w := 4) (by omega) t
  refine ev_bind (implTake t 0 (by omega)) (ev_bind (lmSigns_eq e0 (by rw [e0]; omega)) (ev_pos rfl ?_))
  refine ev_bind (implDrop t 0 (by omega)) (ev_bind (lmSigns_eq e1 (by rw [e1]; omega)) (ev_pos rfl ?_))
  exact ev_bind (implDrop t 4 (by omega)) (ev_bind (lmSigns_eq e2 (by rw [e2]; omega)) (ev_s rfl))
end Go.Proofs.Ytcabipiblfohnaa.Pure
