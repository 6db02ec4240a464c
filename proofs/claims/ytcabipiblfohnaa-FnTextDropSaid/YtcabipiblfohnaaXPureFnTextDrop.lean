/- The plain law behind FnTextDrop: who is dropped has suggested nothing then, and others no more than they had. Condition: none beyond the row's own. -/
import Derived.Test.YtcabipiblfohnaaXPLawsFnTextDrop
import Derived.Test.YtcabipiblfohnaaXPuText
import Derived.Test.YtcabipiblfohnaaXPuS
import Derived.Test.YtcabipiblfohnaaXPuI
import Derived.Test.YtcabipiblfohnaaXPuDDrop
namespace Go.Proofs.Ytcabipiblfohnaa.Pure
open Go.RowKit Go.Proofs.Ytcabipiblfohnaa.P Go.Proofs.YtcabipiblfohnaaW.PrintWords Go.Proofs.YtcabipiblfohnaaW.PrintLast
set_option linter.unusedVariables false
set_option linter.unusedSimpArgs false
theorem rest_l0 (w : Int) (x : List Sg) (hx : x.length ≤ 26) (hok : textB x = true) (b a : List Int) (hb : b.length ≤ 3) (ha : a.length ≤ 3) (h : ∀ n ∈ a, n ∈ b ∧ n ≠ w) : ∀ (d i : Nat), i + d = a.length →
    Ev (fun k => laws_FnTextDrop.l0 k w x b a (i : Int)) true := by
  intro d
  induction d with
  | zero =>
    intro i hi
    refine ev_step (fun k => by rw [laws_FnTextDrop.l0]) ?_
    exact ev_neg (by omega) (ev_bind (implTextOk x (by omega)) (ev_s hok))
  | succ d ih =>
    intro i hi
    have hm : rd a (i : Int) ∈ a := by
      have e := drop_int a i (by omega)
      have : rd a (i : Int) ∈ a.drop i := by rw [e]; exact List.mem_cons_self
      exact List.mem_of_mem_drop this
    obtain ⟨h1, h2⟩ := h _ hm
    refine ev_step (fun k => by rw [laws_FnTextDrop.l0]) ?_
    refine ev_pos (by omega) (ev_pos (by omega) (ev_bind (lmIn_mem h1 (by omega)) (ev_pos rfl (ev_neg h2 ?_))))
    rw [succ64 (n := a.length) (by omega) (by omega)]
    exact ih (i + 1) (by omega)
theorem FnTextDrop : laws_FnTextDrop.Pure := by
  intro l0 _ _ hl
  suffices h : Ev (fun k => laws_FnTextDrop.f k l0) true from h.rounds
  unfold laws_FnTextDrop.f
  by_cases hc : (l0.length : Int) > 1048576
  · exact ev_pos hc (ev_s rfl)
  refine ev_neg hc ?_
  obtain ⟨t, w, e, ht, _⟩ := drawDrop hl
  have a := drop_len w t
  refine ev_bind e (ev_bind (implDrop t w (by omega)) (ev_bind (specDrop t w (by omega)) (ev_bind (lmSigns_self _ (by omega)) (ev_pos rfl (ev_bind (specTextOk t) ?_)))))
  by_cases hok : textB t = true
  · rw [hok]
    refine ev_step (fun k => by rw [laws_FnTextDrop.j0]) ?_
    refine ev_neg (by decide) (ev_bind (implBy t (by omega)) (ev_bind (implBy (drop w t) (by omega)) ?_))
    exact rest_l0 w (drop w t) (by omega) (textB_drop w hok) (byS t) (byS (drop w t)) (byS_len _) (byS_len _) (fun n hn => by_drop hok hn) (byS (drop w t)).length 0 (by omega)
  · rw [Bool.not_eq_true] at hok
    rw [hok]
    refine ev_step (fun k => by rw [laws_FnTextDrop.j0]) ?_
    exact ev_pos rfl (ev_bind (specDrop t w (by omega)) (ev_bind (lmSigns_self _ (by omega)) (ev_s rfl)))
end Go.Proofs.Ytcabipiblfohnaa.Pure
