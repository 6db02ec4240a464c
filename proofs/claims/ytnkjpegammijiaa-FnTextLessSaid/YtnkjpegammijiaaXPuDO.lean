/- Plain law: what DrawTextOk draws is a short list of signs. -/
import Derived.Test.YtnkjpegammijiaaXPuR
import Derived.Test.YtnkjpegammijiaaXPSpecDrawTextOk
namespace Go.Proofs.Ytnkjpegammijiaa.Pure
open Go.RowKit Go.Proofs.Ytnkjpegammijiaa.P Go.Proofs.YtnkjpegammijiaaW.PrintWords Go.Proofs.YtnkjpegammijiaaW.PrintLast
set_option linter.unusedVariables false
set_option linter.unusedSimpArgs false
theorem drawOk {l : List Int} (hl : ∀ x ∈ l, (Lit.int .u8 x).wf = true) : ∃ t, Ev (fun k => spec_DrawTextOk.f k l) t ∧ t.length ≤ 26 := by
  obtain ⟨b, hb, e0⟩ := open_eq l hl
  obtain ⟨t, q, e, l1, l2, l3⟩ := text_ev hb 0 8 (by omega) (by omega) (by omega) (by omega)
  obtain ⟨v, e1, a1, c1⟩ := pick_ev hb q 2 (by omega) (by omega)
  unfold spec_DrawTextOk.f
  by_cases h : v = 0
  · obtain ⟨r, q2, e2, m1, m2, m3⟩ := bad_ev hb (q + 1) t (by omega) (by omega) (by omega)
    exact ⟨r, ev_b e0 (ev_bind e (ev_bind e1 (ev_pos h (ev_bind e2 (ev_s rfl))))), m1⟩
  · exact ⟨t, ev_b e0 (ev_bind e (ev_bind e1 (ev_neg h (ev_s rfl)))), by omega⟩
end Go.Proofs.Ytnkjpegammijiaa.Pure
