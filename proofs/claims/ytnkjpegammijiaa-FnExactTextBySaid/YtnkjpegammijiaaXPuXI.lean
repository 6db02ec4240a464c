/- Plain laws: short lists of numbers compared, marked and looked at again. Condition: at most 2^20 numbers. -/
import Derived.Test.YtnkjpegammijiaaXPuText
import Derived.Test.YtnkjpegammijiaaXPLawsEqIntS
import Derived.Test.YtnkjpegammijiaaXPLawsMarkIntS
import Derived.Test.YtnkjpegammijiaaXPLawsHeldIntS
namespace Go.Proofs.Ytnkjpegammijiaa.Pure
open Go.RowKit Go.Proofs.Ytnkjpegammijiaa.P Go.Proofs.YtnkjpegammijiaaW.PrintWords Go.Proofs.YtnkjpegammijiaaW.PrintLast
set_option linter.unusedVariables false
set_option linter.unusedSimpArgs false
theorem eqI_l0 (t : List Int) (hs : t.length ≤ 1048576) : ∀ (d i : Nat), i + d = t.length → Ev (fun k => laws_eqIntS.l0 k t t (i : Int)) true := by
  intro d
  induction d with
  | zero =>
    intro i hi
    refine ev_step (fun k => by rw [laws_eqIntS.l0]) ?_
    exact ev_neg (by omega) (ev_s rfl)
  | succ d ih =>
    intro i hi
    refine ev_step (fun k => by rw [laws_eqIntS.l0]) ?_
    refine ev_pos (by omega) (ev_pos (by omega) (ev_pos (by omega) (ev_pos rfl ?_)))
    rw [succ64 (i := i) (n := t.length) (by omega) (by omega)]
    exact ih (i + 1) (by omega)
theorem eqI_self (t : List Int) (hs : t.length ≤ 1048576) : Ev (fun k => laws_eqIntS.f k t t) true := by
  unfold laws_eqIntS.f
  exact ev_pos rfl (eqI_l0 t hs t.length 0 (by omega))
def marksI (c : Int) : Nat → List Int
  | 0 => []
  | n + 1 => c :: marksI (c + 1) n
theorem marksI_len (c : Int) (n : Nat) : (marksI c n).length = n := by
  induction n generalizing c with
  | zero => rfl
  | succ n ih => rw [marksI, List.length_cons, ih]
theorem take_setI (x : List Int) (i : Nat) (v : Int) (h : i < x.length) : (x.set i v).take (i + 1) = x.take i ++ [v] := by
  rw [List.take_add_one, List.take_set_of_le (Nat.le_refl i), List.getElem?_set_self h]
  rfl
theorem drop_intI (t : List Int) (i : Nat) (h : i < t.length) : t.drop i = rd t (i : Int) :: t.drop (i + 1) := by
  unfold rd
  rw [Int.toNat_natCast, List.getD_eq_getElem?_getD, List.getElem?_eq_getElem h, List.drop_eq_getElem_cons h]
  rfl
theorem markI_l0 : ∀ (d i : Nat) (x : List Int) (c : Int), i + d = x.length → x.length ≤ 1048576 → 0 ≤ c → c + d ≤ 100000000 →
    Ev (fun k => laws_markIntS.l0 k x c (i : Int)) (c + d, x.take i ++ marksI c d) := by
  intro d
  induction d with
  | zero =>
    intro i x c hi hx h0 h1
    refine ev_step (fun k => by rw [laws_markIntS.l0]) ?_
    refine ev_neg (by omega) (ev_s ?_)
    rw [List.take_of_length_le (by omega)]; simp [marksI]
  | succ d ih =>
    intro i x c hi hx h0 h1
    refine ev_step (fun k => by rw [laws_markIntS.l0]) ?_
    rw [succ64 (i := i) (n := x.length) (by omega) (by omega), Int.toNat_natCast, w64 (n := c + 1) (by omega) (by omega)]
    refine ev_pos (by omega) (ev_pos (by omega) ?_)
    refine ev_to (ih (i + 1) (x.set i c) (c + 1) (by simp; omega) (by simp; omega) (by omega) (by omega)) ?_
    rw [take_setI x i _ (by omega), List.append_assoc, List.singleton_append, marksI]
    congr 1
    omega
theorem markI_ev (x : List Int) (hx : x.length ≤ 1048576) : Ev (fun k => laws_markIntS.f k x 1) (1 + (x.length : Int), marksI 1 x.length) := by
  unfold laws_markIntS.f
  refine ev_to (markI_l0 x.length 0 x 1 (by omega) hx (by omega) (by omega)) ?_
  rfl
theorem heldI_l0 (x : List Int) (hx : x.length ≤ 1048576) : ∀ (d i : Nat) (c : Int), i + d = x.length → x.drop i = marksI c d → 0 ≤ c → c + d ≤ 100000000 →
    Ev (fun k => laws_heldIntS.l0 k x c (i : Int)) (c + d) := by
  intro d
  induction d with
  | zero =>
    intro i c hi he h0 h1
    refine ev_step (fun k => by rw [laws_heldIntS.l0]) ?_
    exact ev_neg (by omega) (ev_s (by omega))
  | succ d ih =>
    intro i c hi he h0 h1
    rw [drop_intI x i (by omega), marksI] at he
    obtain ⟨e1, e2⟩ := List.cons.inj he
    refine ev_step (fun k => by rw [laws_heldIntS.l0]) ?_
    rw [w64 (n := c + 1) (by omega) (by omega), succ64 (i := i) (n := x.length) (by omega) (by omega), e1]
    refine ev_pos (by omega) (ev_pos (by omega) (ev_pos rfl ?_))
    refine ev_to (ih (i + 1) (c + 1) (by omega) e2 (by omega) (by omega)) ?_
    omega
theorem heldI_ev (n : Nat) (hn : n ≤ 1048576) : Ev (fun k => laws_heldIntS.f k (marksI 1 n) 1) (1 + (n : Int)) := by
  unfold laws_heldIntS.f
  exact heldI_l0 (marksI 1 n) (by rw [marksI_len]; exact hn) n 0 1 (by rw [marksI_len]; omega) rfl (by omega) (by omega)
end Go.Proofs.Ytnkjpegammijiaa.Pure
