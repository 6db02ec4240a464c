/- Plain law: a text that is compared with itself is the same. Condition: fewer than 2^62 signs. -/
import Derived.Test.YtnkjpegammijiaaXPuText
import Derived.Test.YtnkjpegammijiaaXPLawsLmSigns
namespace Go.Proofs.Ytnkjpegammijiaa.Pure
open Go.RowKit Go.Proofs.Ytnkjpegammijiaa.P Go.Proofs.YtnkjpegammijiaaW.PrintWords Go.Proofs.YtnkjpegammijiaaW.PrintLast
set_option linter.unusedVariables false
set_option linter.unusedSimpArgs false
theorem lmSigns_l0 (t : List Sg) (hs : t.length < 4611686018427387904) : ∀ (d i : Nat), i + d = t.length → Ev (fun k => laws_lmSigns.l0 k t t (i : Int)) true := by
  intro d
  induction d with
  | zero =>
    intro i hi
    refine ev_step (fun k => by rw [laws_lmSigns.l0]) ?_
    exact ev_neg (by omega) (ev_s rfl)
  | succ d ih =>
    intro i hi
    refine ev_step (fun k => by rw [laws_lmSigns.l0]) ?_
    refine ev_pos (by omega) (ev_pos (by omega) (ev_pos (by omega) (ev_neg (by simp) ?_)))
    rw [succ64 (n := t.length) (by omega) hs]
    exact ih (i + 1) (by omega)
theorem lmSigns_self (t : List Sg) (hs : t.length < 4611686018427387904) : Ev (fun k => laws_lmSigns.f k t t) true := by
  unfold laws_lmSigns.f
  exact ev_pos rfl (lmSigns_l0 t hs t.length 0 (by omega))
theorem lmSigns_eq {a b : List Sg} (h : a = b) (hs : a.length < 4611686018427387904) : Ev (fun k => laws_lmSigns.f k a b) true := by
  subst h; exact lmSigns_self a hs
end Go.Proofs.Ytnkjpegammijiaa.Pure
