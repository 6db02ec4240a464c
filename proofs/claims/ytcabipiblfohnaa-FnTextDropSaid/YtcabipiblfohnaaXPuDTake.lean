/- Plain law: what DrawTextTake draws is a short list of signs. -/
import Derived.Test.YtcabipiblfohnaaXPuDA
import Derived.Test.YtcabipiblfohnaaXPSpecDrawTextTake
namespace Go.Proofs.Ytcabipiblfohnaa.Pure
open Go.RowKit Go.Proofs.Ytcabipiblfohnaa.P Go.Proofs.YtcabipiblfohnaaW.PrintWords Go.Proofs.YtcabipiblfohnaaW.PrintLast
set_option linter.unusedVariables false
set_option linter.unusedSimpArgs false
theorem drawTake {l : List Int} (hl : ∀ x ∈ l, (Lit.int .u8 x).wf = true) : ∃ t w, Ev (fun k => spec_DrawTextTake.f k l) (t, w) ∧ t.length ≤ 26 ∧ -1 ≤ w ∧ w ≤ 4 := by
  obtain ⟨b, hb, e0⟩ := open_eq l hl
  obtain ⟨t, q, e, l1, l2, l3⟩ := any_ev hb 0 (by omega) (by omega)
  obtain ⟨v, e1, a1, c1⟩ := pick_ev hb q 6 (by omega) (by omega)
  unfold spec_DrawTextTake.f
  refine ⟨t, v - 1, ev_b e0 (ev_bind e (ev_bind e1 (ev_s ?_))), l1, by omega, by omega⟩
  rw [w64 (by omega) (by omega)]
end Go.Proofs.Ytcabipiblfohnaa.Pure
