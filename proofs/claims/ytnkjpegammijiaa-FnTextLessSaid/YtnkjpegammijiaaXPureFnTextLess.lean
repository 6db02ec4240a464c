/- The plain law behind FnTextLess: a piece of a text is one. Condition: none beyond the row's own. -/
import Derived.Test.YtnkjpegammijiaaXPLawsFnTextLess
import Derived.Test.YtnkjpegammijiaaXPuText
import Derived.Test.YtnkjpegammijiaaXPuDO
namespace Go.Proofs.Ytnkjpegammijiaa.Pure
open Go.RowKit Go.Proofs.Ytnkjpegammijiaa.P Go.Proofs.YtnkjpegammijiaaW.PrintWords Go.Proofs.YtnkjpegammijiaaW.PrintLast
set_option linter.unusedVariables false
set_option linter.unusedSimpArgs false
theorem FnTextLess : laws_FnTextLess.Pure := by
  intro l0 l1 _ _ hl _ hm _
  suffices h : Ev (fun k => laws_FnTextLess.f k l0 l1) true from h.rounds
  have yes : Ev (fun k => laws_FnTextLess.j0 k l0 l1 true) true := by
    refine ev_step (fun k => by rw [laws_FnTextLess.j0]) ?_
    exact ev_pos rfl (ev_s rfl)
  unfold laws_FnTextLess.f
  by_cases hc : (l0.length : Int) > 1048576
  · exact ev_pos hc yes
  refine ev_neg hc ?_
  by_cases hc1 : (l1.length : Int) > 1048576
  · rw [decide_eq_true hc1]; exact yes
  rw [decide_eq_false hc1]
  refine ev_step (fun k => by rw [laws_FnTextLess.j0]) ?_
  refine ev_neg (by decide) ?_
  obtain ⟨t, e, ht⟩ := drawOk hl
  refine ev_bind e (ev_bind (implTextOk t (by omega)) (ev_bind (specTextOk t) (ev_neg (by simp) ?_)))
  by_cases hok : textB t = true
  · rw [hok]
    obtain ⟨c, hce⟩ : ∃ c : Int, c = (l1.length : Int) % ((t.length : Int) + 1) := ⟨_, rfl⟩
    have c0 : 0 ≤ c := by rw [hce]; exact Int.emod_nonneg _ (by omega)
    have c1 : c ≤ (t.length : Int) := by have := Int.emod_lt_of_pos (l1.length : Int) (show 0 < (t.length : Int) + 1 by omega); omega
    have h' := hok
    rw [← List.take_append_drop c.toNat t, textB_append] at h'
    have h1 : textB (t.take c.toNat) = true := (textB_iff _).2 ⟨by omega, h'.2.1⟩
    have h2 : textB (t.drop c.toNat) = true := (textB_iff _).2 ⟨by omega, h'.2.2⟩
    refine ev_step (fun k => by rw [laws_FnTextLess.j1]) ?_
    rw [w64 (n := (t.length : Int) + 1) (by omega) (by omega), ← hce]
    refine ev_neg (by decide) (ev_neg (by omega) (ev_pos c0 (ev_pos c1 ?_)))
    exact ev_bind (implTextOk _ (by rw [List.length_take]; omega)) (ev_pos h1 (ev_bind (implTextOk _ (by rw [List.length_drop]; omega)) (ev_s h2)))
  · rw [Bool.not_eq_true] at hok
    rw [hok]
    refine ev_step (fun k => by rw [laws_FnTextLess.j1]) ?_
    exact ev_pos rfl (ev_bind (specTextOk t) (ev_s (by rw [hok]; rfl)))
end Go.Proofs.Ytnkjpegammijiaa.Pure
