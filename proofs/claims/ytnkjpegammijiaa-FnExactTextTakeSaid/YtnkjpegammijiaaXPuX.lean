/- Plain laws: texts copied field by field, compared, marked and looked at again. Condition: at most 2^20 signs. -/
import Derived.Test.YtnkjpegammijiaaXPuText
import Derived.Test.YtnkjpegammijiaaXPLawsSzSignS
import Derived.Test.YtnkjpegammijiaaXPLawsToSignS
import Derived.Test.YtnkjpegammijiaaXPLawsEqSignS
import Derived.Test.YtnkjpegammijiaaXPLawsMarkSignS
import Derived.Test.YtnkjpegammijiaaXPLawsHeldSignS
namespace Go.Proofs.Ytnkjpegammijiaa.Pure
open Go.RowKit Go.Proofs.Ytnkjpegammijiaa.P Go.Proofs.YtnkjpegammijiaaW.PrintWords Go.Proofs.YtnkjpegammijiaaW.PrintLast
set_option linter.unusedVariables false
set_option linter.unusedSimpArgs false
/-- A sign as the law's own package has it. -/
abbrev Lg := S49
def toG (s : Lg) : Sg := ⟨s.f0, s.f1, s.f2⟩
def toT (l : List Lg) : List Sg := l.map toG
theorem sz_eq (l : List Lg) (n : Int) (h : (l.length : Int) ≤ 9223372036854775807) (hn : 0 ≤ n) (hn' : n ≤ 4611686018427387904) : laws_szSignS.f l n = some (if n < (l.length : Int) then -1 else n - l.length) := by
  unfold laws_szSignS.f
  rw [w64 (by omega) (by omega)]
  by_cases h1 : n < (l.length : Int)
  · rw [if_pos (by omega), if_pos h1]
  · rw [if_neg (by omega), if_neg h1]
theorem drop_lg (t : List Lg) (i : Nat) (h : i < t.length) : t.drop i = rd_T49 t (i : Int) :: t.drop (i + 1) := by
  unfold rd_T49
  rw [Int.toNat_natCast, List.getD_eq_getElem?_getD, List.getElem?_eq_getElem h, List.drop_eq_getElem_cons h]
  rfl
theorem take_set {α : Type} (x : List α) (i : Nat) (v : α) (h : i < x.length) : (x.set i v).take (i + 1) = x.take i ++ [v] := by
  rw [List.take_add_one, List.take_set_of_le (Nat.le_refl i), List.getElem?_set_self h]
  rfl
theorem toS_l0 (l : List Lg) (hs : l.length ≤ 1048576) : ∀ (d i : Nat) (x : List Sg), i + d = l.length → x.length = l.length → x.take i ++ (toT l).drop i = toT l →
    Ev (fun k => laws_toSignS.l0 k l x (i : Int)) (toT l) := by
  intro d
  induction d with
  | zero =>
    intro i x hi hx he
    rw [List.drop_of_length_le (by simp [toT]; omega), List.append_nil, List.take_of_length_le (by omega)] at he
    refine ev_step (fun k => by rw [laws_toSignS.l0]) ?_
    exact ev_neg (by omega) (ev_s he)
  | succ d ih =>
    intro i x hi hx he
    refine ev_step (fun k => by rw [laws_toSignS.l0]) ?_
    refine ev_pos (by omega) (ev_pos (by omega) (ev_b rfl (ev_pos (by omega) ?_)))
    rw [succ64 (i := i) (n := l.length) (by omega) (by omega), Int.toNat_natCast]
    refine ih (i + 1) _ (by omega) (by simp [hx]) ?_
    rw [take_set x i _ (by omega), List.append_assoc, List.singleton_append]
    conv => rhs; rw [← he]
    congr 1
    have h1 := drop_lg l i (by omega)
    unfold toT
    rw [← List.map_drop, ← List.map_drop, h1, List.map_cons]
    rfl
theorem toS_ev (l : List Lg) (hs : l.length ≤ 1048576) : Ev (fun k => laws_toSignS.f k l) (toT l) := by
  unfold laws_toSignS.f
  refine ev_pos (by omega) (ev_pos (by omega) ?_)
  exact toS_l0 l hs l.length 0 _ (by omega) (by simp) (by simp)
theorem eqSign_self (a b c : Int) : laws_eqSign.f a b c a b c = some true := by simp [laws_eqSign.f]
theorem eqS_l0 (t : List Sg) (hs : t.length ≤ 1048576) : ∀ (d i : Nat), i + d = t.length → Ev (fun k => laws_eqSignS.l0 k t t (i : Int)) true := by
  intro d
  induction d with
  | zero =>
    intro i hi
    refine ev_step (fun k => by rw [laws_eqSignS.l0]) ?_
    exact ev_neg (by omega) (ev_s rfl)
  | succ d ih =>
    intro i hi
    refine ev_step (fun k => by rw [laws_eqSignS.l0]) ?_
    refine ev_pos (by omega) (ev_pos (by omega) (ev_pos (by omega) (ev_b (eqSign_self _ _ _) (ev_pos rfl ?_))))
    rw [succ64 (i := i) (n := t.length) (by omega) (by omega)]
    exact ih (i + 1) (by omega)
theorem eqS_self (t : List Sg) (hs : t.length ≤ 1048576) : Ev (fun k => laws_eqSignS.f k t t) true := by
  unfold laws_eqSignS.f
  exact ev_pos rfl (eqS_l0 t hs t.length 0 (by omega))
/-- The marks from number c on. -/
def marks (c : Int) : Nat → List Sg
  | 0 => []
  | n + 1 => ⟨c % 256, c + 1, c + 2⟩ :: marks (c + 3) n
theorem marks_len (c : Int) (n : Nat) : (marks c n).length = n := by
  induction n generalizing c with
  | zero => rfl
  | succ n ih => rw [marks, List.length_cons, ih]
theorem rd_set (x : List Sg) (i : Nat) (v : Sg) (h : i < x.length) : rd_T47 (x.set i v) (i : Int) = v := by
  unfold rd_T47
  rw [Int.toNat_natCast, List.getD_eq_getElem?_getD, List.getElem?_set_self h]
  rfl
theorem mark_l0 : ∀ (d i : Nat) (x : List Sg) (c : Int), i + d = x.length → x.length ≤ 1048576 → 0 ≤ c → c + 3 * d ≤ 100000000 →
    Ev (fun k => laws_markSignS.l0 k x c (i : Int)) (c + 3 * d, x.take i ++ marks c d) := by
  intro d
  induction d with
  | zero =>
    intro i x c hi hx h0 h1
    refine ev_step (fun k => by rw [laws_markSignS.l0]) ?_
    refine ev_neg (by omega) (ev_s ?_)
    rw [List.take_of_length_le (by omega)]; simp [marks]
  | succ d ih =>
    intro i x c hi hx h0 h1
    refine ev_step (fun k => by rw [laws_markSignS.l0]) ?_
    refine ev_pos (by omega) (ev_pos (by omega) (ev_b rfl (ev_b rfl ?_)))
    rw [succ64 (i := i) (n := x.length) (by omega) (by omega), Int.toNat_natCast]
    rw [rd_set (x.set i _) i _ (by rw [List.length_set]; omega), List.set_set, rd_set x i _ (by omega), List.set_set]
    dsimp only
    rw [w64 (n := c + 1) (by omega) (by omega), w64 (n := c + 1 + 1) (by omega) (by omega), w64 (n := c + 1 + 1 + 1) (by omega) (by omega)]
    refine ev_to (ih (i + 1) (x.set i (⟨c % 256, c + 1, c + 1 + 1⟩ : Sg)) (c + 1 + 1 + 1) (by simp; omega) (by simp; omega) (by omega) (by omega)) ?_
    rw [take_set x i _ (by omega), List.append_assoc, List.singleton_append, marks, show c + 1 + 1 + 1 = c + 3 by omega, show c + 1 + 1 = c + 2 by omega]
    congr 1
    omega
theorem mark_ev (x : List Sg) (hx : x.length ≤ 1048576) : Ev (fun k => laws_markSignS.f k x 1) (1 + 3 * (x.length : Int), marks 1 x.length) := by
  unfold laws_markSignS.f
  refine ev_to (mark_l0 x.length 0 x 1 (by omega) hx (by omega) (by omega)) ?_
  rfl
theorem held_l0 (x : List Sg) (hx : x.length ≤ 1048576) : ∀ (d i : Nat) (c : Int), i + d = x.length → x.drop i = marks c d → 0 ≤ c → c + 3 * d ≤ 100000000 →
    Ev (fun k => laws_heldSignS.l0 k x c (i : Int)) (c + 3 * d) := by
  intro d
  induction d with
  | zero =>
    intro i c hi he h0 h1
    refine ev_step (fun k => by rw [laws_heldSignS.l0]) ?_
    exact ev_neg (by omega) (ev_s (by omega))
  | succ d ih =>
    intro i c hi he h0 h1
    rw [drop_rd x i (by omega), marks] at he
    obtain ⟨e1, e2⟩ := List.cons.inj he
    refine ev_step (fun k => by rw [laws_heldSignS.l0]) ?_
    rw [w64 (n := c + 1) (by omega) (by omega), w64 (n := c + 1 + 1) (by omega) (by omega), w64 (n := c + 1 + 1 + 1) (by omega) (by omega), succ64 (i := i) (n := x.length) (by omega) (by omega), e1]
    refine ev_pos (by omega) (ev_pos (by omega) (ev_pos rfl (ev_pos rfl (ev_pos (by dsimp only; omega) ?_))))
    refine ev_to (ih (i + 1) (c + 1 + 1 + 1) (by omega) (by rw [e2, show c + 1 + 1 + 1 = c + 3 by omega]) (by omega) (by omega)) ?_
    omega
theorem held_ev (n : Nat) (hn : n ≤ 1048576) : Ev (fun k => laws_heldSignS.f k (marks 1 n) 1) (1 + 3 * (n : Int)) := by
  unfold laws_heldSignS.f
  exact held_l0 (marks 1 n) (by rw [marks_len]; exact hn) n 0 1 (by rw [marks_len]; omega) rfl (by omega) (by omega)
end Go.Proofs.Ytnkjpegammijiaa.Pure
