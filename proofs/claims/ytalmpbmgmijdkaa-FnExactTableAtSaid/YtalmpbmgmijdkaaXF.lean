/- Plain laws: texts copied field by field, compared, marked and looked at again. Condition: at most 2^20 signs. Plain laws: tables measured, copied field by field and compared. Condition: at most 2^20 cells and signs. A slice that came in as data is read as a list, element by element, whatever the element's kind. Condition: an element that is read as data has the kind's cells. A table that came in as data is read as a list of cells, each with its text. Condition: none beyond the row's own. -/
import Derived.Test.YtalmpbmgmijdkaaXE
import Derived.Test.YtalmpbmgmijdkaaXD
import Derived.Test.YtalmpbmgmijdkaaXA
import Derived.Deep.Slices
import Derived.ChangeArms
import Derived.ProofKit
namespace Go.Proofs.Ytalmpbmgmijdkaa.Pure
open Go.RowKit Go.Proofs.Ytalmpbmgmijdkaa.P Go.Proofs.YtalmpbmgmijdkaaW.PrintWords Go.Proofs.YtalmpbmgmijdkaaW.PrintLast
set_option linter.unusedVariables false
set_option linter.unusedSimpArgs false
/-- A sign as the law's own package has it. -/
abbrev Lg := S85
def toG (s : Lg) : Sg := ⟨s.f0, s.f1, s.f2⟩
def toT (l : List Lg) : List Sg := l.map toG
theorem sz_eq (l : List Lg) (n : Int) (h : (l.length : Int) ≤ 9223372036854775807) (hn : 0 ≤ n) (hn' : n ≤ 4611686018427387904) : laws_szSignS.f l n = some (if n < (l.length : Int) then -1 else n - l.length) := by
  unfold laws_szSignS.f
  rw [w64 (by omega) (by omega)]
  by_cases h1 : n < (l.length : Int)
  · rw [if_pos (by omega), if_pos h1]
  · rw [if_neg (by omega), if_neg h1]
theorem drop_lg (t : List Lg) (i : Nat) (h : i < t.length) : t.drop i = rd_T85 t (i : Int) :: t.drop (i + 1) := by
  unfold rd_T85
  rw [Int.toNat_natCast, List.getD_eq_getElem?_getD, List.getElem?_eq_getElem h, List.drop_eq_getElem_cons h]
  rfl
theorem take_set {α : Type} (x : List α) (i : Nat) (v : α) (h : i < x.length) : (x.set i v).take (i + 1) = x.take i ++ [v] := by
  rw [List.take_add_one, List.take_set_of_le (Nat.le_refl i), List.getElem?_set_self h]
  rfl
theorem toS_l0 (l : List Lg) (hs : l.length ≤ 1048576) : ∀ (d i : Nat) (x : List Sg), i + d = l.length → x.length = l.length → x.take i ++ (toT l).drop i = toT l →
    Ev (fun k => laws_toSignS.l0 k l x (i : Int)) (toT l) := by
  intro d
  induction d with
  | zero =>
    intro i x hi hx he
    rw [List.drop_of_length_le (by simp [toT]; omega), List.append_nil, List.take_of_length_le (by omega)] at he
    refine ev_step (fun k => by rw [laws_toSignS.l0]) ?_
    exact ev_neg (by omega) (ev_s he)
  | succ d ih =>
    intro i x hi hx he
    refine ev_step (fun k => by rw [laws_toSignS.l0]) ?_
    refine ev_pos (by omega) (ev_pos (by omega) (ev_b rfl (ev_pos (by omega) ?_)))
    rw [succ64 (i := i) (n := l.length) (by omega) (by omega), Int.toNat_natCast]
    refine ih (i + 1) _ (by omega) (by simp [hx]) ?_
    rw [take_set x i _ (by omega), List.append_assoc, List.singleton_append]
    conv => rhs; rw [← he]
    congr 1
    have h1 := drop_lg l i (by omega)
    unfold toT
    rw [← List.map_drop, ← List.map_drop, h1, List.map_cons]
    rfl
theorem toS_ev (l : List Lg) (hs : l.length ≤ 1048576) : Ev (fun k => laws_toSignS.f k l) (toT l) := by
  unfold laws_toSignS.f
  refine ev_pos (by omega) (ev_pos (by omega) ?_)
  exact toS_l0 l hs l.length 0 _ (by omega) (by simp) (by simp)
theorem eqSign_self (a b c : Int) : laws_eqSign.f a b c a b c = some true := by simp [laws_eqSign.f]
theorem eqS_l0 (t : List Sg) (hs : t.length ≤ 1048576) : ∀ (d i : Nat), i + d = t.length → Ev (fun k => laws_eqSignS.l0 k t t (i : Int)) true := by
  intro d
  induction d with
  | zero =>
    intro i hi
    refine ev_step (fun k => by rw [laws_eqSignS.l0]) ?_
    exact ev_neg (by omega) (ev_s rfl)
  | succ d ih =>
    intro i hi
    refine ev_step (fun k => by rw [laws_eqSignS.l0]) ?_
    refine ev_pos (by omega) (ev_pos (by omega) (ev_pos (by omega) (ev_b (eqSign_self _ _ _) (ev_pos rfl ?_))))
    rw [succ64 (i := i) (n := t.length) (by omega) (by omega)]
    exact ih (i + 1) (by omega)
theorem eqS_self (t : List Sg) (hs : t.length ≤ 1048576) : Ev (fun k => laws_eqSignS.f k t t) true := by
  unfold laws_eqSignS.f
  exact ev_pos rfl (eqS_l0 t hs t.length 0 (by omega))
/-- The marks from number c on. -/
def marks (c : Int) : Nat → List Sg
  | 0 => []
  | n + 1 => ⟨c % 256, c + 1, c + 2⟩ :: marks (c + 3) n
theorem marks_len (c : Int) (n : Nat) : (marks c n).length = n := by
  induction n generalizing c with
  | zero => rfl
  | succ n ih => rw [marks, List.length_cons, ih]
theorem rd_set (x : List Sg) (i : Nat) (v : Sg) (h : i < x.length) : rd_T66 (x.set i v) (i : Int) = v := by
  unfold rd_T66
  rw [Int.toNat_natCast, List.getD_eq_getElem?_getD, List.getElem?_set_self h]
  rfl
theorem mark_l0 : ∀ (d i : Nat) (x : List Sg) (c : Int), i + d = x.length → x.length ≤ 1048576 → 0 ≤ c → c + 3 * d ≤ 100000000 →
    Ev (fun k => laws_markSignS.l0 k x c (i : Int)) (c + 3 * d, x.take i ++ marks c d) := by
  intro d
  induction d with
  | zero =>
    intro i x c hi hx h0 h1
    refine ev_step (fun k => by rw [laws_markSignS.l0]) ?_
    refine ev_neg (by omega) (ev_s ?_)
    rw [List.take_of_length_le (by omega)]; simp [marks]
  | succ d ih =>
    intro i x c hi hx h0 h1
    refine ev_step (fun k => by rw [laws_markSignS.l0]) ?_
    refine ev_pos (by omega) (ev_pos (by omega) (ev_b rfl (ev_b rfl ?_)))
    rw [succ64 (i := i) (n := x.length) (by omega) (by omega), Int.toNat_natCast]
    rw [rd_set (x.set i _) i _ (by rw [List.length_set]; omega), List.set_set, rd_set x i _ (by omega), List.set_set]
    dsimp only
    rw [w64 (n := c + 1) (by omega) (by omega), w64 (n := c + 1 + 1) (by omega) (by omega), w64 (n := c + 1 + 1 + 1) (by omega) (by omega)]
    refine ev_to (ih (i + 1) (x.set i (⟨c % 256, c + 1, c + 1 + 1⟩ : Sg)) (c + 1 + 1 + 1) (by simp; omega) (by simp; omega) (by omega) (by omega)) ?_
    rw [take_set x i _ (by omega), List.append_assoc, List.singleton_append, marks, show c + 1 + 1 + 1 = c + 3 by omega, show c + 1 + 1 = c + 2 by omega]
    congr 1
    omega
theorem mark_ev (x : List Sg) (hx : x.length ≤ 1048576) : Ev (fun k => laws_markSignS.f k x 1) (1 + 3 * (x.length : Int), marks 1 x.length) := by
  unfold laws_markSignS.f
  refine ev_to (mark_l0 x.length 0 x 1 (by omega) hx (by omega) (by omega)) ?_
  rfl
theorem held_l0 (x : List Sg) (hx : x.length ≤ 1048576) : ∀ (d i : Nat) (c : Int), i + d = x.length → x.drop i = marks c d → 0 ≤ c → c + 3 * d ≤ 100000000 →
    Ev (fun k => laws_heldSignS.l0 k x c (i : Int)) (c + 3 * d) := by
  intro d
  induction d with
  | zero =>
    intro i c hi he h0 h1
    refine ev_step (fun k => by rw [laws_heldSignS.l0]) ?_
    exact ev_neg (by omega) (ev_s (by omega))
  | succ d ih =>
    intro i c hi he h0 h1
    rw [drop_rd x i (by omega), marks] at he
    obtain ⟨e1, e2⟩ := List.cons.inj he
    refine ev_step (fun k => by rw [laws_heldSignS.l0]) ?_
    rw [w64 (n := c + 1) (by omega) (by omega), w64 (n := c + 1 + 1) (by omega) (by omega), w64 (n := c + 1 + 1 + 1) (by omega) (by omega), succ64 (i := i) (n := x.length) (by omega) (by omega), e1]
    refine ev_pos (by omega) (ev_pos (by omega) (ev_pos rfl (ev_pos rfl (ev_pos (by dsimp only; omega) ?_))))
    refine ev_to (ih (i + 1) (c + 1 + 1 + 1) (by omega) (by rw [e2, show c + 1 + 1 + 1 = c + 3 by omega]) (by omega) (by omega)) ?_
    omega
theorem held_ev (n : Nat) (hn : n ≤ 1048576) : Ev (fun k => laws_heldSignS.f k (marks 1 n) 1) (1 + 3 * (n : Int)) := by
  unfold laws_heldSignS.f
  exact held_l0 (marks 1 n) (by rw [marks_len]; exact hn) n 0 1 (by rw [marks_len]; omega) rfl (by omega) (by omega)
end Go.Proofs.Ytalmpbmgmijdkaa.Pure
namespace Go.Proofs.Ytalmpbmgmijdkaa.Pure
open Go.RowKit Go.Proofs.Ytalmpbmgmijdkaa.P Go.Proofs.YtalmpbmgmijdkaaW.PrintWords Go.Proofs.YtalmpbmgmijdkaaW.PrintLast
set_option linter.unusedVariables false
set_option linter.unusedSimpArgs false
/-- A cell as the law's own package has it. -/
abbrev Lc := S63
def toC (c : Lc) : Ce := ⟨c.f0, c.f1, c.f2, c.f3, toT c.f4⟩
def toCs (l : List Lc) : List Ce := l.map toC
theorem drop_lc (t : List Lc) (i : Nat) (h : i < t.length) : t.drop i = rd_T63 t (i : Int) :: t.drop (i + 1) := by
  unfold rd_T63
  rw [Int.toNat_natCast, List.getD_eq_getElem?_getD, List.getElem?_eq_getElem h, List.drop_eq_getElem_cons h]
  rfl
theorem rd_memL (l : List Lc) (i : Nat) (h : i < l.length) : rd_T63 l (i : Int) ∈ l := by
  unfold rd_T63
  rw [Int.toNat_natCast, List.getD_eq_getElem?_getD, List.getElem?_eq_getElem h]; exact List.getElem_mem h
def szL : Int → List Lc → Int
  | n, [] => n
  | n, c :: l => if n < (c.f4.length : Int) then -1 else szL (n - c.f4.length) l
theorem szL_ge : ∀ (l : List Lc) (n : Int), 0 ≤ n → 0 ≤ szL n l → ∀ c ∈ l, (c.f4.length : Int) ≤ n
  | [], n, _, _, c, hc => by simp at hc
  | a :: l, n, h0, h, c, hc => by
    rw [szL] at h
    by_cases e : n < (a.f4.length : Int)
    · rw [if_pos e] at h; omega
    · rw [if_neg e] at h
      rcases List.mem_cons.1 hc with rfl | hc
      · omega
      · have := szL_ge l _ (by omega) h c hc; omega
theorem szCell_eq (c : Lc) (n : Int) (h : (c.f4.length : Int) ≤ 9223372036854775807) (hn : 0 ≤ n) (hn' : n ≤ 1048576) : laws_szCell.f c.f0 c.f1 c.f2 c.f3 c.f4 n = some (if n < (c.f4.length : Int) then -1 else n - c.f4.length) := by
  unfold laws_szCell.f
  rw [sz_eq _ _ h hn (by omega)]
  by_cases e : n < (c.f4.length : Int)
  · simp [e]
  · rw [if_neg e]
    show (if n - (c.f4.length : Int) < 0 then _ else _) = _
    rw [if_neg (by omega)]
theorem szCs_l0 (l : List Lc) (hs : l.length ≤ 1048576) (hx : ∀ c ∈ l, (c.f4.length : Int) ≤ 9223372036854775807) : ∀ (d i : Nat) (n : Int), i + d = l.length → 0 ≤ n → n ≤ 1048576 →
    Ev (fun k => laws_szCellS.l0 k l n (i : Int)) (szL n (l.drop i)) := by
  intro d
  induction d with
  | zero =>
    intro i n hi h0 h1
    refine ev_step (fun k => by rw [laws_szCellS.l0]) (ev_neg (by omega) (ev_s ?_))
    rw [List.drop_of_length_le (by omega)]; rfl
  | succ d ih =>
    intro i n hi h0 h1
    rw [drop_lc l i (by omega), szL]
    refine ev_step (fun k => by rw [laws_szCellS.l0]) (ev_pos (by omega) (ev_pos (by omega) (ev_b (szCell_eq _ _ (hx _ (rd_memL l i (by omega))) h0 h1) ?_)))
    by_cases e : n < ((rd_T63 l (i : Int)).f4.length : Int)
    · simp only [if_pos e]; exact ev_pos (by decide) (ev_s rfl)
    · simp only [if_neg e]
      rw [succ64 (n := l.length) (by omega) (by omega)]
      exact ev_neg (by omega) (ih (i + 1) _ (by omega) (by omega) (by omega))
def szT (l : List Lc) : Int := if 1048576 < (l.length : Int) then -1 else szL (1048576 - l.length) l
theorem szT_ev (R C : Int) (l : List Lc) (hl : (l.length : Int) ≤ 9223372036854775807) (hx : ∀ c ∈ l, (c.f4.length : Int) ≤ 9223372036854775807) : Ev (fun k => laws_szTable.f k R C l 1048576) (if szT l < 0 then -1 else szT l) := by
  have key : Ev (fun k => laws_szCellS.f k l 1048576) (szT l) := by
    unfold laws_szCellS.f szT
    rw [w64 (by omega) (by omega)]
    by_cases e : 1048576 < (l.length : Int)
    · rw [if_pos e]; exact ev_pos (by omega) (ev_s rfl)
    · rw [if_neg e]
      refine ev_neg (by omega) ?_
      have := szCs_l0 l (by omega) hx l.length 0 (1048576 - l.length) (by omega) (by omega) (by omega)
      rwa [List.drop_zero] at this
  unfold laws_szTable.f
  refine ev_bind key ?_
  by_cases e : szT l < 0
  · refine ev_pos e (ev_s ?_)
    rw [if_pos e]
  · refine ev_neg e (ev_s ?_)
    rw [if_neg e]
theorem szT_parts {l : List Lc} (h : ¬ szT l < 0) : l.length ≤ 1048576 ∧ ∀ c ∈ l, c.f4.length ≤ 1048576 := by
  unfold szT at h
  by_cases e : 1048576 < (l.length : Int)
  · rw [if_pos e] at h; omega
  · rw [if_neg e] at h
    refine ⟨by omega, fun c hc => ?_⟩
    have := szL_ge l (1048576 - (l.length : Int)) (by omega) (by omega) c hc; omega
theorem toC_ev (c : Lc) (h : c.f4.length ≤ 1048576) : Ev (fun k => laws_toCell.f k c.f0 c.f1 c.f2 c.f3 c.f4) (c.f0, c.f1, c.f2, c.f3, toT c.f4) := by
  unfold laws_toCell.f
  exact ev_bind (toS_ev _ h) (ev_s rfl)
theorem toCs_l0 (l : List Lc) (hs : l.length ≤ 1048576) (hx : ∀ c ∈ l, c.f4.length ≤ 1048576) : ∀ (d i : Nat) (x : List Ce), i + d = l.length → x.length = l.length → x.take i ++ (toCs l).drop i = toCs l →
    Ev (fun k => laws_toCellS.l0 k l x (i : Int)) (toCs l) := by
  intro d
  induction d with
  | zero =>
    intro i x hi hlx he
    rw [List.drop_of_length_le (by simp [toCs]; omega), List.append_nil, List.take_of_length_le (by omega)] at he
    refine ev_step (fun k => by rw [laws_toCellS.l0]) ?_
    exact ev_neg (by omega) (ev_s he)
  | succ d ih =>
    intro i x hi hlx he
    refine ev_step (fun k => by rw [laws_toCellS.l0]) ?_
    refine ev_pos (by omega) (ev_pos (by omega) (ev_bind (toC_ev _ (hx _ (rd_memL l i (by omega)))) (ev_pos (by omega) ?_)))
    rw [succ64 (i := i) (n := l.length) (by omega) (by omega), Int.toNat_natCast]
    refine ih (i + 1) _ (by omega) (by simp [hlx]) ?_
    rw [take_set x i _ (by omega), List.append_assoc, List.singleton_append]
    conv => rhs; rw [← he]
    congr 1
    have h1 := drop_lc l i (by omega)
    unfold toCs
    rw [← List.map_drop, ← List.map_drop, h1, List.map_cons]
    rfl
theorem toT_ev (R C : Int) (l : List Lc) (hs : l.length ≤ 1048576) (hx : ∀ c ∈ l, c.f4.length ≤ 1048576) : Ev (fun k => laws_toTable.f k R C l) (R, C, toCs l) := by
  unfold laws_toTable.f laws_toCellS.f
  refine ev_bind (ev_pos (by omega) (ev_pos (by omega) (toCs_l0 l hs hx l.length 0 _ (by omega) (by simp) (by simp)))) (ev_s rfl)
theorem toCs_len (l : List Lc) : (toCs l).length = l.length := by simp [toCs]
theorem toCs_mem {l : List Lc} {n : Nat} (h : ∀ c ∈ l, c.f4.length ≤ n) : ∀ c ∈ toCs l, c.f4.length ≤ n := by
  intro c hc
  obtain ⟨x, hx, rfl⟩ := List.mem_map.1 hc
  have : (toT x.f4).length = x.f4.length := by simp [toT]
  show (toT x.f4).length ≤ n
  rw [this]; exact h x hx
theorem eqC_self (c : Ce) (h : c.f4.length ≤ 1048576) : Ev (fun k => laws_eqCell.f k c.f0 c.f1 c.f2 c.f3 c.f4 c.f0 c.f1 c.f2 c.f3 c.f4) true := by
  unfold laws_eqCell.f
  exact ev_pos rfl (ev_pos rfl (ev_pos rfl (ev_pos rfl (ev_bind (eqS_self _ h) (ev_pos rfl (ev_s rfl))))))
theorem eqCs_l0 (t : List Ce) (hs : t.length ≤ 1048576) (hx : ∀ c ∈ t, c.f4.length ≤ 1048576) : ∀ (d i : Nat), i + d = t.length → Ev (fun k => laws_eqCellS.l0 k t t (i : Int)) true := by
  intro d
  induction d with
  | zero =>
    intro i hi
    refine ev_step (fun k => by rw [laws_eqCellS.l0]) ?_
    exact ev_neg (by omega) (ev_s rfl)
  | succ d ih =>
    intro i hi
    refine ev_step (fun k => by rw [laws_eqCellS.l0]) ?_
    refine ev_pos (by omega) (ev_pos (by omega) (ev_pos (by omega) (ev_bind (eqC_self _ (hx _ (rd_mem t i (by omega)))) (ev_pos rfl ?_))))
    rw [succ64 (i := i) (n := t.length) (by omega) (by omega)]
    exact ih (i + 1) (by omega)
theorem eqT_self (R C : Int) (t : List Ce) (hs : t.length ≤ 1048576) (hx : ∀ c ∈ t, c.f4.length ≤ 1048576) : Ev (fun k => laws_eqTable.f k R C t R C t) true := by
  unfold laws_eqTable.f laws_eqCellS.f
  exact ev_pos rfl (ev_pos rfl (ev_bind (ev_pos rfl (eqCs_l0 t hs hx t.length 0 (by omega))) (ev_pos rfl (ev_s rfl))))
end Go.Proofs.Ytalmpbmgmijdkaa.Pure
namespace Go.Proofs.Ytalmpbmgmijdkaa.Pure
open Go.RowKit Go.ChangeShapes Go.WideShapes Go.Deep Go.Proofs.Ytalmpbmgmijdkaa.P Go.Proofs.YtalmpbmgmijdkaaW.PrintWords Go.Proofs.YtalmpbmgmijdkaaW.PrintLast
set_option linter.unusedVariables false
set_option linter.unusedSimpArgs false
theorem list_of {α : Type} (P : Nat → α → Prop) : ∀ (n : Nat), (∀ i, i < n → ∃ x, P i x) → ∃ l : List α, l.length = n ∧ ∀ i x, l[i]? = some x → P i x
  | 0, _ => ⟨[], rfl, fun i x h => by simp at h⟩
  | n + 1, h => by
    obtain ⟨l, hl, hp⟩ := list_of P n (fun i hi => h i (by omega))
    obtain ⟨x, hx⟩ := h n (by omega)
    refine ⟨l ++ [x], by simp [hl], fun i y hy => ?_⟩
    by_cases hi : i < n
    · rw [List.getElem?_append_left (by omega)] at hy
      exact hp i y hy
    · have hlt := (List.getElem?_eq_some_iff.1 hy).1
      rw [List.length_append, List.length_singleton] at hlt
      have e : i = n := by omega
      subst e
      rw [← hl, List.getElem?_append_right (Nat.le_refl _), Nat.sub_self] at hy
      have : x = y := by simpa using hy
      subst this
      exact hx
section
variable {H : Type} {enc : TypeId × Value → H} {P : Program} {w : World} {base : Nat} {spare : Nat → Bool} {held : Bool}
theorem trod_C {α : Type} (d : Kd α) {t e : TypeId} {fuel n c : Nat} {A : Option Addr} {x : DataW H × List MemPlace} (ht : P.underlying t = some (.slice e)) (hsz : P.cellsOf e = d.sz)
    (hel : ∀ (m : Nat) (cs : List Value) (y : DataW H × List MemPlace), DataW.trod enc P w base spare held m e cs = some y → cs.length = d.sz → ∃ p, d.K w p cs)
    (h : DataW.trod enc P w base spare held fuel t [.slice A n c] = some x) : ∃ l : List α, l.length = n ∧ n ≤ c ∧ n ≤ 9223372036854775807 ∧ Kd.C d w A n l := by
  rcases open_slice ht h with ⟨h0, _⟩ | ⟨a, len, cap, m, k, D, Pl, hcs, hb, hl, hm, hmm, hx, hi⟩
  · simp only [List.cons.injEq, Value.slice.injEq, and_true] at h0
    obtain ⟨rfl, rfl, rfl⟩ := h0
    exact ⟨[], rfl, Nat.le_refl _, by omega, rfl, by omega, fun h => absurd h (by omega)⟩
  · simp only [List.cons.injEq, Value.slice.injEq, and_true] at hcs
    obtain ⟨rfl, rfl, rfl⟩ := hcs
    have hle : n ≤ m := by rw [hmm]; split <;> omega
    obtain ⟨l, hlen, hp⟩ := list_of (fun i (p : α) => ∃ cs : List Value, cs.length = d.sz ∧ d.K w p cs ∧ ∀ j u, cs[j]? = some u → w.cell? (a.add (i * d.sz + j)) = some u) n (fun i hi' => by
      obtain ⟨cs, hc, htr⟩ := hi i (by omega)
      obtain ⟨_, hcl, hat⟩ := World.cells?_some hc
      rw [hsz] at hcl hat
      obtain ⟨p, hp⟩ := hel k cs _ htr hcl
      refine ⟨p, cs, hcl, hp, fun j u hu => ?_⟩
      have hj := (List.getElem?_eq_some_iff.1 hu).1
      have := hat j (by omega)
      rw [Go.Deep.add_add] at this
      rw [this, hu])
    refine ⟨l, hlen, hl, by simp only [maxLen] at hm; omega, hlen, by simp only [maxLen] at hm; omega, fun _ => ⟨a, rfl, fun j p hj => ?_⟩⟩
    obtain ⟨cs, h1, h2, h3⟩ := hp j p hj
    exact ⟨cs, h1, h2, h3⟩
set_option maxRecDepth 100000 in
/-- A sign, as the law's package has it. -/
theorem trod_lg {fuel : Nat} {cs : List Value} {y : DataW H × List MemPlace} (h : DataW.trod enc Try.prog w base spare held fuel 85 cs = some y) (hl : cs.length = k85.sz) : ∃ p, k85.K w p cs := by
  obtain ⟨xs, m, _, _, _, hxl, hf⟩ := DataW.trod_struct Try.underlying85 h
  have hl3 : cs.length = 3 := hl
  match cs, hl3 with
  | [c0, c1, c2], _ =>
    have h3 : xs.length = 3 := hxl
    match xs, h3 with
    | [x0, x1, x2], _ =>
      have e0 : DataW.trod enc Try.prog w base spare held m 5 (([c0, c1, c2].drop 0).take (Try.prog.cellsOf 5)) = some x0 := hf 0 _ rfl
      have e1 : DataW.trod enc Try.prog w base spare held m 3 (([c0, c1, c2].drop 1).take (Try.prog.cellsOf 3)) = some x1 := hf 1 _ rfl
      have e2 : DataW.trod enc Try.prog w base spare held m 3 (([c0, c1, c2].drop 2).take (Try.prog.cellsOf 3)) = some x2 := hf 2 _ rfl
      rw [show Try.prog.cellsOf 5 = 1 from by kernel_rfl] at e0
      rw [show Try.prog.cellsOf 3 = 1 from by kernel_rfl] at e1 e2
      obtain ⟨a, ea, _, _⟩ := DataW.trod_int Try.underlying5 e0
      obtain ⟨b, eb, _, _⟩ := DataW.trod_int Try.underlying3 e1
      obtain ⟨c, ec, _, _⟩ := DataW.trod_int Try.underlying3 e2
      simp only [List.drop_zero, List.drop_succ_cons, List.take_succ_cons, List.take_zero, List.cons.injEq, and_true] at ea eb ec
      subst ea eb ec
      exact ⟨⟨a, b, c⟩, k85_mk w ⟨a, b, c⟩⟩
end
end Go.Proofs.Ytalmpbmgmijdkaa.Pure
namespace Go.Proofs.Ytalmpbmgmijdkaa.Pure
open Go.RowKit Go.ChangeShapes Go.WideShapes Go.Deep Go.Proofs.Ytalmpbmgmijdkaa.P Go.Proofs.YtalmpbmgmijdkaaW.PrintWords Go.Proofs.YtalmpbmgmijdkaaW.PrintLast
set_option linter.unusedVariables false
set_option linter.unusedSimpArgs false
theorem C_len {α : Type} {d : Kd α} {w : World} {A : Option Addr} {n : Nat} {l : List α} (h : Kd.C d w A n l) : (l.length : Int) ≤ 9223372036854775807 := by
  have h1 := h.1
  have h2 := h.2.1
  omega
section
variable {H : Type} {enc : TypeId × Value → H} {P : Program} {w : World} {base : Nat} {spare : Nat → Bool} {held : Bool}
theorem trod_slice {t e : TypeId} {fuel : Nat} {cs : List Value} {x : DataW H × List MemPlace} (ht : P.underlying t = some (.slice e)) (h : DataW.trod enc P w base spare held fuel t cs = some x) : ∃ A n c, cs = [.slice A n c] := by
  rcases open_slice ht h with ⟨h0, _⟩ | ⟨a, len, cap, m, k, D, Pl, hcs, _⟩
  · exact ⟨_, _, _, h0⟩
  · exact ⟨_, _, _, hcs⟩
set_option maxRecDepth 100000 in
/-- A cell, as the law's package has it. -/
theorem trod_lc {fuel : Nat} {cs : List Value} {y : DataW H × List MemPlace} (h : DataW.trod enc Try.prog w base spare held fuel 63 cs = some y) (hl : cs.length = k63.sz) : ∃ p, k63.K w p cs := by
  obtain ⟨xs, m, _, _, _, hxl, hf⟩ := DataW.trod_struct Try.underlying63 h
  have hl5 : cs.length = 5 := hl
  match cs, hl5 with
  | [c0, c1, c2, c3, c4], _ =>
    have h5 : xs.length = 5 := hxl
    match xs, h5 with
    | [x0, x1, x2, x3, x4], _ =>
      have e0 : DataW.trod enc Try.prog w base spare held m 3 (([c0, c1, c2, c3, c4].drop 0).take (Try.prog.cellsOf 3)) = some x0 := hf 0 _ rfl
      have e1 : DataW.trod enc Try.prog w base spare held m 3 (([c0, c1, c2, c3, c4].drop 1).take (Try.prog.cellsOf 3)) = some x1 := hf 1 _ rfl
      have e2 : DataW.trod enc Try.prog w base spare held m 3 (([c0, c1, c2, c3, c4].drop 2).take (Try.prog.cellsOf 3)) = some x2 := hf 2 _ rfl
      have e3 : DataW.trod enc Try.prog w base spare held m 3 (([c0, c1, c2, c3, c4].drop 3).take (Try.prog.cellsOf 3)) = some x3 := hf 3 _ rfl
      have e4 : DataW.trod enc Try.prog w base spare held m 61 (([c0, c1, c2, c3, c4].drop 4).take (Try.prog.cellsOf 61)) = some x4 := hf 4 _ rfl
      rw [show Try.prog.cellsOf 3 = 1 from by kernel_rfl] at e0 e1 e2 e3
      rw [show Try.prog.cellsOf 61 = 1 from by kernel_rfl] at e4
      obtain ⟨a, ea, _, _⟩ := DataW.trod_int Try.underlying3 e0
      obtain ⟨b, eb, _, _⟩ := DataW.trod_int Try.underlying3 e1
      obtain ⟨c, ec, _, _⟩ := DataW.trod_int Try.underlying3 e2
      obtain ⟨d, ed, _, _⟩ := DataW.trod_int Try.underlying3 e3
      simp only [List.drop_zero, List.drop_succ_cons, List.take_succ_cons, List.take_zero, List.cons.injEq, and_true] at ea eb ec ed e4
      subst ea eb ec ed
      obtain ⟨A, n, cp, e5⟩ := trod_slice Try.underlying61 e4
      simp only [List.cons.injEq, and_true] at e5
      subst e5
      obtain ⟨l, hln, hlc, _, hC⟩ := trod_C k85 Try.underlying61 (by kernel_rfl) (fun m cs y hy hl => trod_lg hy hl) e4
      subst hln
      exact ⟨⟨a, b, c, d, l⟩, k63_mk w ⟨a, b, c, d, l⟩ hlc hC⟩
end
theorem C_each {w : World} {A : Option Addr} {n : Nat} {l : List S63} (h : Kd.C k63 w A n l) : ∀ c ∈ l, (c.f4.length : Int) ≤ 9223372036854775807 := by
  intro c hc
  obtain ⟨j, hj, e⟩ := List.getElem_of_mem hc
  have hn : 0 < n := by have := h.1; omega
  obtain ⟨a, _, H⟩ := h.2.2 hn
  obtain ⟨cs, _, hK, _⟩ := H j c (by rw [List.getElem?_eq_getElem hj, e])
  obtain ⟨A4, c4, _, _, g⟩ := k63_open hK
  exact C_len g
end Go.Proofs.Ytalmpbmgmijdkaa.Pure
