/- The plain law behind FnExactTableAt: the program's TableAt is the reference's. Condition: none beyond the row's own. -/
import Derived.Test.YtalmpbmgmijdkaaXPLawsFnExactTableAt
import Derived.Test.YtalmpbmgmijdkaaXF
import Derived.Test.YtalmpbmgmijdkaaXE
namespace Go.Proofs.Ytalmpbmgmijdkaa.Pure
open Go.RowKit Go.Proofs.Ytalmpbmgmijdkaa.P Go.Proofs.YtalmpbmgmijdkaaW.PrintWords Go.Proofs.YtalmpbmgmijdkaaW.PrintLast
set_option linter.unusedVariables false
set_option linter.unusedSimpArgs false
theorem FnExactTableAt (R C : Int) (l0 : List Lc) (row col : Int) (hl : (l0.length : Int) ≤ 9223372036854775807) (hx : ∀ c ∈ l0, (c.f4.length : Int) ≤ 9223372036854775807) : ∃ k, laws_FnExactTableAt.f k R C l0 row col = some true := by
  suffices h : Ev (fun k => laws_FnExactTableAt.f k R C l0 row col) true from h.rounds
  unfold laws_FnExactTableAt.f
  refine ev_bind (szT_ev R C l0 hl hx) ?_
  by_cases hc : szT l0 < 0
  · rw [if_pos hc]; exact ev_pos (by omega) (ev_s rfl)
  rw [if_neg hc]
  refine ev_neg hc ?_
  obtain ⟨hs, hy⟩ := szT_parts hc
  have ht : (toCs l0).length ≤ 1048576 := by rw [toCs_len]; exact hs
  have hz := toCs_mem hy
  exact ev_bind (toT_ev R C l0 hs hy) (ev_bind (specAt R C _ row col ht) (ev_bind (toT_ev R C l0 hs hy) (ev_bind (implAt R C _ row col ht (fun c hc => by have := hz c hc; omega)) (ev_pos rfl (ev_bind (toT_ev R C l0 hs hy) (ev_bind (eqT_self R C _ ht hz) (ev_pos rfl (ev_s rfl))))))))
end Go.Proofs.Ytalmpbmgmijdkaa.Pure
