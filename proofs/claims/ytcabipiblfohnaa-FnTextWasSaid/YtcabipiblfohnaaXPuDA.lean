/- Plain law: a drawn text, some spoilt, is short. -/
import Derived.Test.YtcabipiblfohnaaXPuR
import Derived.Test.YtcabipiblfohnaaXPSpecL71Any
namespace Go.Proofs.Ytcabipiblfohnaa.Pure
open Go.RowKit Go.Proofs.Ytcabipiblfohnaa.P Go.Proofs.YtcabipiblfohnaaW.PrintWords Go.Proofs.YtcabipiblfohnaaW.PrintLast
set_option linter.unusedVariables false
set_option linter.unusedSimpArgs false
theorem any_ev {b : List Int} (hb : Bytes b) (p : Int) (h0 : 0 ≤ p) (h1 : p ≤ 700000000) : ∃ t q, Ev (fun k => spec_l71Any.f k b p) (t, q) ∧ t.length ≤ 26 ∧ p ≤ q ∧ q ≤ p + 3000 := by
  obtain ⟨t, q, e, l1, l2, l3⟩ := text_ev hb p 8 h0 (by omega) (by omega) (by omega)
  obtain ⟨v, e1, a1, c1⟩ := pick_ev hb q 6 (by omega) (by omega)
  unfold spec_l71Any.f
  by_cases h : v = 0
  · obtain ⟨r, q2, e2, m1, m2, m3⟩ := bad_ev hb (q + 1) t (by omega) (by omega) (by omega)
    exact ⟨r, q2, ev_bind e (ev_bind e1 (ev_pos h (ev_bind e2 (ev_s rfl)))), m1, by omega, by omega⟩
  · exact ⟨t, q + 1, ev_bind e (ev_bind e1 (ev_neg h (ev_s rfl))), by omega, by omega, by omega⟩
end Go.Proofs.Ytcabipiblfohnaa.Pure
