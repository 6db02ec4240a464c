/- Plain laws: a list of numbers that is compared with itself is the same; whether a number is in a list. Condition: short lists. -/
import Derived.Test.YtcabipiblfohnaaXPuText
import Derived.Test.YtcabipiblfohnaaXPLawsLmInts
import Derived.Test.YtcabipiblfohnaaXPLawsLmIn
namespace Go.Proofs.Ytcabipiblfohnaa.Pure
open Go.RowKit Go.Proofs.Ytcabipiblfohnaa.P Go.Proofs.YtcabipiblfohnaaW.PrintWords Go.Proofs.YtcabipiblfohnaaW.PrintLast
set_option linter.unusedVariables false
set_option linter.unusedSimpArgs false
theorem lmInts_l0 (t : List Int) (hs : t.length < 4611686018427387904) : ∀ (d i : Nat), i + d = t.length → Ev (fun k => laws_lmInts.l0 k t t (i : Int)) true := by
  intro d
  induction d with
  | zero =>
    intro i hi
    refine ev_step (fun k => by rw [laws_lmInts.l0]) ?_
    exact ev_neg (by omega) (ev_s rfl)
  | succ d ih =>
    intro i hi
    refine ev_step (fun k => by rw [laws_lmInts.l0]) ?_
    refine ev_pos (by omega) (ev_pos (by omega) (ev_pos (by omega) (ev_pos rfl ?_)))
    rw [succ64 (n := t.length) (by omega) hs]
    exact ih (i + 1) (by omega)
theorem lmInts_self (t : List Int) (hs : t.length < 4611686018427387904) : Ev (fun k => laws_lmInts.f k t t) true := by
  unfold laws_lmInts.f
  exact ev_pos rfl (lmInts_l0 t hs t.length 0 (by omega))
theorem drop_int (t : List Int) (i : Nat) (h : i < t.length) : t.drop i = rd t (i : Int) :: t.drop (i + 1) := by
  unfold rd
  rw [Int.toNat_natCast, List.getD_eq_getElem?_getD, List.getElem?_eq_getElem h, List.drop_eq_getElem_cons h]
  rfl
theorem lmIn_l0 (t : List Int) (n : Int) (hs : t.length < 4611686018427387904) : ∀ (d i : Nat), i + d = t.length → Ev (fun k => laws_lmIn.l0 k t n (i : Int)) ((t.drop i).any fun x => x == n) := by
  intro d
  induction d with
  | zero =>
    intro i hi
    refine ev_step (fun k => by rw [laws_lmIn.l0]) ?_
    refine ev_neg (by omega) (ev_s ?_)
    rw [List.drop_of_length_le (by omega)]; rfl
  | succ d ih =>
    intro i hi
    rw [drop_int t i (by omega), List.any_cons]
    refine ev_step (fun k => by rw [laws_lmIn.l0]) ?_
    refine ev_pos (by omega) (ev_pos (by omega) ?_)
    by_cases h : rd t (i : Int) = n
    · exact ev_pos h (ev_s (by rw [beq_iff_eq.2 h]; rfl))
    · refine ev_neg h ?_
      rw [beq_eq_false_iff_ne.2 h, Bool.false_or, succ64 (n := t.length) (by omega) hs]
      exact ih (i + 1) (by omega)
theorem lmIn_ev (t : List Int) (n : Int) (hs : t.length < 4611686018427387904) : Ev (fun k => laws_lmIn.f k t n) (t.any fun x => x == n) := by
  unfold laws_lmIn.f
  exact lmIn_l0 t n hs t.length 0 (by omega)
theorem lmIn_mem {t : List Int} {n : Int} (h : n ∈ t) (hs : t.length < 4611686018427387904) : Ev (fun k => laws_lmIn.f k t n) true :=
  ev_to (lmIn_ev t n hs) (by rw [List.any_eq_true]; exact ⟨n, h, by simp⟩)
end Go.Proofs.Ytcabipiblfohnaa.Pure
