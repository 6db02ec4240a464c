/- The plain law behind FnExactTextTake: the program's TextTake is the reference's; it writes into no argument, and its answer is its own memory. Condition: none beyond the row's own. -/
import Derived.Test.YtnkjpegammijiaaXPLawsFnExactTextTake
import Derived.Test.YtnkjpegammijiaaXPuX
import Derived.Test.YtnkjpegammijiaaXPuText
namespace Go.Proofs.Ytnkjpegammijiaa.Pure
open Go.RowKit Go.Proofs.Ytnkjpegammijiaa.P Go.Proofs.YtnkjpegammijiaaW.PrintWords Go.Proofs.YtnkjpegammijiaaW.PrintLast
set_option linter.unusedVariables false
set_option linter.unusedSimpArgs false
theorem FnExactTextTake (l0 : List Lg) (a1 : Int) (hl : l0.length ≤ 9223372036854775807) : ∃ k, laws_FnExactTextTake.f k l0 a1 = some true := by
  suffices h : Ev (fun k => laws_FnExactTextTake.f k l0 a1 ) true from h.rounds
  unfold laws_FnExactTextTake.f
  refine ev_b (sz_eq l0 1048576 (by omega) (by omega) (by omega)) ?_
  by_cases hc : (1048576 : Int) < (l0.length : Int)
  · rw [if_pos hc]; exact ev_pos (by omega) (ev_s rfl)
  rw [if_neg hc]
  refine ev_neg (by omega) ?_
  have hs : l0.length ≤ 1048576 := by omega
  have ht : (toT l0).length ≤ 1048576 := by unfold toT; rw [List.length_map]; exact hs
  have hx : (take a1 (toT l0)).length ≤ 1048576 := Nat.le_trans (take_len a1 (toT l0)) ht
  refine ev_bind (toS_ev l0 hs) (ev_bind (specTake _ a1 (by omega)) (ev_bind (toS_ev l0 hs) (ev_bind (implTake _ a1 (by omega)) (ev_bind (eqS_self _ hx) (ev_pos rfl (ev_bind (toS_ev l0 hs) (ev_bind (eqS_self _ ht) (ev_pos rfl (ev_bind (mark_ev _ ht) (ev_neg (by dsimp only; omega) (ev_bind (eqS_self _ hx) ?_)))))))))))
  refine ev_step (fun k => by rw [laws_FnExactTextTake.j0]) ?_
  refine ev_neg (by decide) (ev_bind (mark_ev _ hx) (ev_bind (held_ev _ hx) (ev_neg (by omega) (ev_pos rfl ?_))))
  exact ev_bind (toS_ev l0 hs) (ev_bind (implTake _ a1 (by omega)) (ev_bind (eqS_self _ hx) (ev_pos rfl (ev_bind (held_ev _ hx) (ev_neg (by omega) (ev_pos rfl (ev_s rfl)))))))
end Go.Proofs.Ytnkjpegammijiaa.Pure
