/- Plain law: all suggestions taken, or dropped, one person after the other. Condition: a short text. -/
import Derived.Test.YtcabipiblfohnaaXPuText
import Derived.Test.YtcabipiblfohnaaXPLawsLmAll
namespace Go.Proofs.Ytcabipiblfohnaa.Pure
open Go.RowKit Go.Proofs.Ytcabipiblfohnaa.P Go.Proofs.YtcabipiblfohnaaW.PrintWords Go.Proofs.YtcabipiblfohnaaW.PrintLast
set_option linter.unusedVariables false
set_option linter.unusedSimpArgs false
theorem lmAll_take1 (t r : List Sg) (w : Int) (hw : 1 ≤ w) (h3 : w ≤ 3) (hs : t.length < 1000) (h : Ev (fun k => laws_lmAll.l0 k (take w t) true (w + 1)) r) : Ev (fun k => laws_lmAll.l0 k t true w) r := by
  refine ev_step (fun k => by rw [laws_lmAll.l0]) ?_
  refine ev_pos h3 (ev_pos rfl (ev_bind (implTake t w (by omega)) ?_))
  rw [w64 (by omega) (by omega)]
  exact h
theorem lmAll_drop1 (t r : List Sg) (w : Int) (hw : 1 ≤ w) (h3 : w ≤ 3) (hs : t.length < 1000) (h : Ev (fun k => laws_lmAll.l0 k (drop w t) false (w + 1)) r) : Ev (fun k => laws_lmAll.l0 k t false w) r := by
  refine ev_step (fun k => by rw [laws_lmAll.l0]) ?_
  refine ev_pos h3 (ev_neg (by decide) (ev_bind (implDrop t w (by omega)) ?_))
  rw [w64 (by omega) (by omega)]
  exact h
theorem lmAll_take (t : List Sg) (hs : t.length < 1000) : Ev (fun k => laws_lmAll.f k t true) (take 3 (take 2 (take 1 t))) := by
  have a := take_len 1 t
  have b := take_len 2 (take 1 t)
  unfold laws_lmAll.f
  refine lmAll_take1 t _ 1 (by omega) (by omega) hs ?_
  refine lmAll_take1 _ _ 2 (by omega) (by omega) (by omega) ?_
  refine lmAll_take1 _ _ 3 (by omega) (by omega) (by omega) ?_
  refine ev_step (fun k => by rw [laws_lmAll.l0]) ?_
  exact ev_neg (by omega) (ev_s rfl)
theorem lmAll_drop (t : List Sg) (hs : t.length < 1000) : Ev (fun k => laws_lmAll.f k t false) (drop 3 (drop 2 (drop 1 t))) := by
  have a := drop_len 1 t
  have b := drop_len 2 (drop 1 t)
  unfold laws_lmAll.f
  refine lmAll_drop1 t _ 1 (by omega) (by omega) hs ?_
  refine lmAll_drop1 _ _ 2 (by omega) (by omega) (by omega) ?_
  refine lmAll_drop1 _ _ 3 (by omega) (by omega) (by omega) ?_
  refine ev_step (fun k => by rw [laws_lmAll.l0]) ?_
  exact ev_neg (by omega) (ev_s rfl)
end Go.Proofs.Ytcabipiblfohnaa.Pure
