/- The plain law behind FnTextNow: what is now is there signs that nobody takes out; all settled, that is the text. Condition: none beyond the row's own. -/
import Derived.Test.YtcabipiblfohnaaXPLawsFnTextNow
import Derived.Test.YtcabipiblfohnaaXPuLA
import Derived.Test.YtcabipiblfohnaaXPuS
import Derived.Test.YtcabipiblfohnaaXPuDNow
namespace Go.Proofs.Ytcabipiblfohnaa.Pure
open Go.RowKit Go.Proofs.Ytcabipiblfohnaa.P Go.Proofs.YtcabipiblfohnaaW.PrintWords Go.Proofs.YtcabipiblfohnaaW.PrintLast
set_option linter.unusedVariables false
set_option linter.unusedSimpArgs false
theorem FnTextNow : laws_FnTextNow.Pure := by
  intro l0 _ _ hl
  suffices h : Ev (fun k => laws_FnTextNow.f k l0) true from h.rounds
  unfold laws_FnTextNow.f
  by_cases hc : (l0.length : Int) > 1048576
  · exact ev_pos hc (ev_s rfl)
  refine ev_neg hc ?_
  obtain ⟨t, e, ht⟩ := drawNow hl
  have hz := nowS_size t
  refine ev_bind e (ev_bind (implNow t (by omega)) (ev_bind (specNow t) (ev_pos rfl (ev_bind (specTextOk t) ?_))))
  by_cases hok : textB t = true
  · rw [hok]
    have hall := all_take hok
    have hl3 : (take 3 (take 2 (take 1 t))).length ≤ 26 := by
      have a := take_len 1 t
      have b := take_len 2 (take 1 t)
      have c := take_len 3 (take 2 (take 1 t))
      omega
    refine ev_step (fun k => by rw [laws_FnTextNow.j0]) ?_
    refine ev_neg (by decide) (ev_bind (lmAll_take t (by omega)) (ev_bind (implOf (nowS t) (by omega)) (ev_bind (lmSigns_eq hall (by omega)) (ev_pos rfl (ev_s ?_)))))
    exact decide_eq_true (by omega)
  · rw [Bool.not_eq_true] at hok
    rw [hok]
    refine ev_step (fun k => by rw [laws_FnTextNow.j0]) ?_
    exact ev_pos rfl (ev_bind (specNow t) (ev_s (beq_iff_eq.2 rfl)))
end Go.Proofs.Ytcabipiblfohnaa.Pure
