/- The plain law behind FnTextOf: plain bytes are a text by nobody. Condition: none beyond the row's own. -/
import Derived.Test.YtnkjpegammijiaaXPLawsFnTextOf
import Derived.Test.YtnkjpegammijiaaXPuOS
import Derived.Test.YtnkjpegammijiaaXPuDOf
import Derived.Test.YtnkjpegammijiaaXPuS
namespace Go.Proofs.Ytnkjpegammijiaa.Pure
open Go.RowKit Go.Proofs.Ytnkjpegammijiaa.P Go.Proofs.YtnkjpegammijiaaW.PrintWords Go.Proofs.YtnkjpegammijiaaW.PrintLast
set_option linter.unusedVariables false
set_option linter.unusedSimpArgs false
theorem FnTextOf : laws_FnTextOf.Pure := by
  intro l0 _ _ hl
  suffices h : Ev (fun k => laws_FnTextOf.f k l0) true from h.rounds
  unfold laws_FnTextOf.f
  by_cases hc : (l0.length : Int) > 1048576
  · exact ev_pos hc (ev_s rfl)
  refine ev_neg hc ?_
  obtain ⟨s, e, hs⟩ := drawOf hl
  have hlen : (ofS s).length ≤ 1000000 := by
    unfold ofS; split
    · rw [ofL_length]; exact hs
    · simp
  refine ev_bind e (ev_bind (implOf s (by omega)) (ev_bind (specOf s (by omega)) (ev_bind (lmSigns_self _ (by omega)) (ev_pos rfl (ev_bind (specOf s (by omega)) ?_)))))
  by_cases h0 : ((ofS s).length : Int) = 0
  · exact ev_pos h0 (ev_s (beq_iff_eq.2 h0))
  · have hok : textB (ofL s) = true := by
      by_cases h : textB (ofL s) = true
      · exact h
      · exact absurd (by unfold ofS; rw [if_neg h]; rfl) h0
    have hof : ofS s = ofL s := by unfold ofS; rw [if_pos hok]
    obtain ⟨n1, n2, n3⟩ := of_now hok
    refine ev_neg h0 ?_
    rw [hof] at hlen ⊢
    refine ev_bind (implTextOk _ (by omega)) (ev_pos hok (ev_bind (implNow _ (by omega)) (ev_pos (by rw [n1]) (ev_bind (implWas _ (by omega)) (ev_pos (by rw [n2]) (ev_bind (implBy _ (by omega)) (ev_s ?_)))))))
    rw [n3]; rfl
end Go.Proofs.Ytnkjpegammijiaa.Pure
