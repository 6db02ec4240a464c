/- The plain law behind FnTextWas: what was is there signs that nobody puts in; all settled, that is the text. Condition: none beyond the row's own. -/
import Derived.Test.YtcabipiblfohnaaXPLawsFnTextWas
import Derived.Test.YtcabipiblfohnaaXPuLA
import Derived.Test.YtcabipiblfohnaaXPuS
import Derived.Test.YtcabipiblfohnaaXPuDWas
namespace Go.Proofs.Ytcabipiblfohnaa.Pure
open Go.RowKit Go.Proofs.Ytcabipiblfohnaa.P Go.Proofs.YtcabipiblfohnaaW.PrintWords Go.Proofs.YtcabipiblfohnaaW.PrintLast
set_option linter.unusedVariables false
set_option linter.unusedSimpArgs false
theorem FnTextWas : laws_FnTextWas.Pure := by
  intro l0 _ _ hl
  suffices h : Ev (fun k => laws_FnTextWas.f k l0) true from h.rounds
  unfold laws_FnTextWas.f
  by_cases hc : (l0.length : Int) > 1048576
  · exact ev_pos hc (ev_s rfl)
  refine ev_neg hc ?_
  obtain ⟨t, e, ht⟩ := drawWas hl
  have hz := wasS_size t
  refine ev_bind e (ev_bind (implWas t (by omega)) (ev_bind (specWas t) (ev_pos rfl (ev_bind (specTextOk t) ?_))))
  by_cases hok : textB t = true
  · rw [hok]
    have hall := all_drop hok
    have hl3 : (drop 3 (drop 2 (drop 1 t))).length ≤ 26 := by
      have a := drop_len 1 t
      have b := drop_len 2 (drop 1 t)
      have c := drop_len 3 (drop 2 (drop 1 t))
      omega
    refine ev_step (fun k => by rw [laws_FnTextWas.j0]) ?_
    refine ev_neg (by decide) (ev_bind (lmAll_drop t (by omega)) (ev_bind (implOf (wasS t) (by omega)) (ev_bind (lmSigns_eq hall (by omega)) (ev_pos rfl (ev_s ?_)))))
    exact decide_eq_true (by omega)
  · rw [Bool.not_eq_true] at hok
    rw [hok]
    refine ev_step (fun k => by rw [laws_FnTextWas.j0]) ?_
    exact ev_pos rfl (ev_bind (specWas t) (ev_s (beq_iff_eq.2 rfl)))
end Go.Proofs.Ytcabipiblfohnaa.Pure
