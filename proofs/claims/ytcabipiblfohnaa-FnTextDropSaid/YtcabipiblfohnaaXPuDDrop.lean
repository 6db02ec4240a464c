/- Plain law: what DrawTextDrop draws is a short list of signs and somebody. -/
import Derived.Test.YtcabipiblfohnaaXPuDTake
import Derived.Test.YtcabipiblfohnaaXPSpecDrawTextDrop
namespace Go.Proofs.Ytcabipiblfohnaa.Pure
open Go.RowKit Go.Proofs.Ytcabipiblfohnaa.P Go.Proofs.YtcabipiblfohnaaW.PrintWords Go.Proofs.YtcabipiblfohnaaW.PrintLast
set_option linter.unusedVariables false
set_option linter.unusedSimpArgs false
theorem drawDrop {l : List Int} (hl : ∀ x ∈ l, (Lit.int .u8 x).wf = true) : ∃ t w, Ev (fun k => spec_DrawTextDrop.f k l) (t, w) ∧ t.length ≤ 26 ∧ -1 ≤ w ∧ w ≤ 4 := by
  obtain ⟨t, w, e, r⟩ := drawTake hl
  unfold spec_DrawTextDrop.f
  exact ⟨t, w, ev_bind e (ev_s rfl), r⟩
end Go.Proofs.Ytcabipiblfohnaa.Pure
