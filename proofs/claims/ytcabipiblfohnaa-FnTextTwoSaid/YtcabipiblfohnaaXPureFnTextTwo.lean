/- The plain law behind FnTextTwo: two texts together are one if they are not too long, and what is now of it is that of both. Condition: none beyond the row's own. -/
import Derived.Test.YtcabipiblfohnaaXPLawsFnTextTwo
import Derived.Test.YtcabipiblfohnaaXPuText
import Derived.Test.YtcabipiblfohnaaXPuDNow
import Derived.Test.YtcabipiblfohnaaXPuDO
namespace Go.Proofs.Ytcabipiblfohnaa.Pure
open Go.RowKit Go.Proofs.Ytcabipiblfohnaa.P Go.Proofs.YtcabipiblfohnaaW.PrintWords Go.Proofs.YtcabipiblfohnaaW.PrintLast
set_option linter.unusedVariables false
set_option linter.unusedSimpArgs false
theorem FnTextTwo : laws_FnTextTwo.Pure := by
  intro l0 l1 _ _ hl _ hm hl1
  suffices h : Ev (fun k => laws_FnTextTwo.f k l0 l1) true from h.rounds
  have yes : Ev (fun k => laws_FnTextTwo.j0 k l0 l1 true) true := by
    refine ev_step (fun k => by rw [laws_FnTextTwo.j0]) ?_
    exact ev_pos rfl (ev_s rfl)
  unfold laws_FnTextTwo.f
  by_cases hc : (l0.length : Int) > 1048576
  · exact ev_pos hc yes
  refine ev_neg hc ?_
  by_cases hc1 : (l1.length : Int) > 1048576
  · rw [decide_eq_true hc1]; exact yes
  rw [decide_eq_false hc1]
  refine ev_step (fun k => by rw [laws_FnTextTwo.j0]) ?_
  refine ev_neg (by decide) ?_
  obtain ⟨a, ea, ha⟩ := drawOk hl
  obtain ⟨b, eb, hb⟩ := drawNow hl1
  have no : Ev (fun k => laws_FnTextTwo.j1 k a b true) true := by
    refine ev_step (fun k => by rw [laws_FnTextTwo.j1]) ?_
    exact ev_pos rfl (ev_bind (implTextOk a (by omega)) (ev_bind (specTextOk a) (ev_s (beq_iff_eq.2 rfl))))
  refine ev_bind ea (ev_bind eb (ev_bind (implTextOk a (by omega)) (ev_bind (specTextOk a) (ev_neg (by simp) (ev_bind (specTextOk a) ?_)))))
  by_cases h1 : textB a = true
  · refine ev_pos h1 (ev_bind (specTextOk b) ?_)
    by_cases h2 : textB b = true
    · rw [h2]
      obtain ⟨n1, s1⟩ := (textB_iff a).1 h1
      obtain ⟨n2, s2⟩ := (textB_iff b).1 h2
      have hab : textB (a ++ b) = decide (((a ++ b).length : Int) ≤ 24) := by
        rw [Bool.eq_iff_iff, textB_append, decide_eq_true_eq, List.length_append]
        constructor
        · rintro ⟨x, _⟩; omega
        · intro x; exact ⟨by omega, s1, s2⟩
      refine ev_step (fun k => by rw [laws_FnTextTwo.j1]) ?_
      refine ev_neg (by decide) (ev_b rfl (ev_pos (by simp; omega) (ev_b rfl (ev_pos (by simp; omega) (ev_b rfl ?_)))))
      rw [List.nil_append]
      refine ev_bind (implTextOk (a ++ b) (by simp; omega)) (ev_pos (beq_iff_eq.2 hab) ?_)
      by_cases h3 : textB (a ++ b) = true
      · have z1 := nowS_size a
        have z2 := nowS_size b
        refine ev_pos h3 (ev_bind (implNow (a ++ b) (by simp; omega)) (ev_bind (implNow a (by omega)) (ev_bind (implNow b (by omega)) (ev_pos (by omega) (ev_s ?_)))))
        have e : nowS (a ++ b) = nowS a ++ nowS b := by
          unfold nowS
          rw [if_pos h1, if_pos h2, if_pos h3, ← strOfNums_append]
          unfold nowL
          rw [List.flatMap_append]
        rw [e]; exact beq_iff_eq.2 rfl
      · exact ev_neg h3 (ev_s rfl)
    · rw [Bool.not_eq_true] at h2
      rw [h2]; exact no
  · exact ev_neg h1 no
end Go.Proofs.Ytcabipiblfohnaa.Pure
