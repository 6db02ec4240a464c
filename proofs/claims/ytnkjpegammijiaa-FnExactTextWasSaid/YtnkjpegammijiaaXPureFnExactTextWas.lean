/- The plain law behind FnExactTextWas: the program's TextWas is the reference's. Condition: none beyond the row's own. -/
import Derived.Test.YtnkjpegammijiaaXPLawsFnExactTextWas
import Derived.Test.YtnkjpegammijiaaXPuX
import Derived.Test.YtnkjpegammijiaaXPuText
namespace Go.Proofs.Ytnkjpegammijiaa.Pure
open Go.RowKit Go.Proofs.Ytnkjpegammijiaa.P Go.Proofs.YtnkjpegammijiaaW.PrintWords Go.Proofs.YtnkjpegammijiaaW.PrintLast
set_option linter.unusedVariables false
set_option linter.unusedSimpArgs false
theorem FnExactTextWas (l0 : List Lg) (hl : l0.length ≤ 9223372036854775807) : ∃ k, laws_FnExactTextWas.f k l0 = some true := by
  suffices h : Ev (fun k => laws_FnExactTextWas.f k l0 ) true from h.rounds
  unfold laws_FnExactTextWas.f
  refine ev_b (sz_eq l0 1048576 (by omega) (by omega) (by omega)) ?_
  by_cases hc : (1048576 : Int) < (l0.length : Int)
  · rw [if_pos hc]; exact ev_pos (by omega) (ev_s rfl)
  rw [if_neg hc]
  refine ev_neg (by omega) ?_
  have hs : l0.length ≤ 1048576 := by omega
  have ht : (toT l0).length ≤ 1048576 := by unfold toT; rw [List.length_map]; exact hs
  exact ev_bind (toS_ev l0 hs) (ev_bind (specWas _) (ev_bind (toS_ev l0 hs) (ev_bind (implWas _ (by omega)) (ev_pos rfl (ev_bind (toS_ev l0 hs) (ev_bind (eqS_self _ ht) (ev_pos rfl (ev_s rfl))))))))
end Go.Proofs.Ytnkjpegammijiaa.Pure
