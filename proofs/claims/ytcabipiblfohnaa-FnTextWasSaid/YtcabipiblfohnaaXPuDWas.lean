/- Plain law: what DrawTextWas draws is a short list of signs. -/
import Derived.Test.YtcabipiblfohnaaXPuDA
import Derived.Test.YtcabipiblfohnaaXPSpecDrawTextWas
namespace Go.Proofs.Ytcabipiblfohnaa.Pure
open Go.RowKit Go.Proofs.Ytcabipiblfohnaa.P Go.Proofs.YtcabipiblfohnaaW.PrintWords Go.Proofs.YtcabipiblfohnaaW.PrintLast
set_option linter.unusedVariables false
set_option linter.unusedSimpArgs false
theorem drawWas {l : List Int} (hl : ∀ x ∈ l, (Lit.int .u8 x).wf = true) : ∃ t, Ev (fun k => spec_DrawTextWas.f k l) t ∧ t.length ≤ 26 := by
  obtain ⟨b, hb, e0⟩ := open_eq l hl
  obtain ⟨t, q, e, l1, l2, l3⟩ := any_ev hb 0 (by omega) (by omega)
  unfold spec_DrawTextWas.f
  exact ⟨t, ev_b e0 (ev_bind e (ev_s rfl)), l1⟩
end Go.Proofs.Ytcabipiblfohnaa.Pure
