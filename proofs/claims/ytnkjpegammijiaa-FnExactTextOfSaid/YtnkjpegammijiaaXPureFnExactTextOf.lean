/- The plain law behind FnExactTextOf: the program's TextOf is the reference's; its answer is its own memory. Condition: none beyond the row's own. -/
import Derived.Test.YtnkjpegammijiaaXPLawsFnExactTextOf
import Derived.Test.YtnkjpegammijiaaXPuOS
import Derived.Test.YtnkjpegammijiaaXPuX
namespace Go.Proofs.Ytnkjpegammijiaa.Pure
open Go.RowKit Go.Proofs.Ytnkjpegammijiaa.P Go.Proofs.YtnkjpegammijiaaW.PrintWords Go.Proofs.YtnkjpegammijiaaW.PrintLast
set_option linter.unusedVariables false
set_option linter.unusedSimpArgs false
theorem FnExactTextOf : laws_FnExactTextOf.Pure := by
  intro s hs0
  suffices h : Ev (fun k => laws_FnExactTextOf.f k s) true from h.rounds
  unfold laws_FnExactTextOf.f
  by_cases hc : (s.size : Int) > 1048576
  · exact ev_pos hc (ev_s rfl)
  refine ev_neg hc ?_
  have hlen : (ofS s).length ≤ 1048576 := by
    unfold ofS; split
    · rw [ofL_length]; omega
    · simp
  refine ev_bind (specOf s (by omega)) (ev_bind (implOf s (by omega)) (ev_bind (eqS_self _ hlen) (ev_pos rfl (ev_bind (mark_ev _ hlen) (ev_bind (held_ev _ hlen) (ev_neg (by omega) (ev_pos rfl ?_)))))))
  exact ev_bind (implOf s (by omega)) (ev_bind (eqS_self _ hlen) (ev_pos rfl (ev_bind (held_ev _ hlen) (ev_neg (by omega) (ev_pos rfl (ev_s rfl))))))
end Go.Proofs.Ytnkjpegammijiaa.Pure
