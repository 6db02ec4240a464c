/- Plain laws: what a sign and a text are; the program's TextOk and the reference's tell it. Conditions: a text has fewer than 2^62 signs. Plain laws of tables: when a table is one (each square is of one cell), told twice: the program's TableOk and the reference's; the place of a square's cell. Conditions: fewer than 2^20 cells, each text of fewer than 2^62 signs. Plain laws of tables: cells in order; cells of which no two begin at one square are in one order alone. Condition: none. -/
import Derived.Test.YtljgbeccmcidkaaXA
import Derived.Test.YtljgbeccmcidkaaXB
namespace Go.Proofs.Ytljgbeccmcidkaa.Pure
open Go.RowKit Go.Proofs.Ytljgbeccmcidkaa.P Go.Proofs.YtljgbeccmcidkaaW.PrintWords Go.Proofs.YtljgbeccmcidkaaW.PrintLast
set_option linter.unusedVariables false
set_option linter.unusedSimpArgs false

/-! ### From some number of rounds on -/
theorem ev_pos {α : Type} {c : Prop} [Decidable c] {A B : Nat → Option α} {r : α} (h : c) (e : Ev A r) : Ev (fun k => if c then A k else B k) r := e.congr fun _ => if_pos h
theorem ev_neg {α : Type} {c : Prop} [Decidable c] {A B : Nat → Option α} {r : α} (h : ¬ c) (e : Ev B r) : Ev (fun k => if c then A k else B k) r := e.congr fun _ => if_neg h
theorem ev_c {α : Type} {x : Option α} {r : α} (h : x = some r) : Ev (fun _ => x) r := ⟨0, fun _ _ => h⟩
theorem ev_s {α : Type} {x r : α} (h : x = r) : Ev (fun _ => some x) r := ⟨0, fun _ _ => by rw [h]⟩
theorem ev_b {α β : Type} {x : Option α} {F : Nat → α → Option β} {a : α} {r : β} (h : x = some a) (e : Ev (fun k => F k a) r) : Ev (fun k => x.bind (F k)) r := e.congr fun _ => by rw [h]; rfl
theorem ev_step {α : Type} {g f : Nat → Option α} {r : α} (h : ∀ k, g (k + 1) = f k) (e : Ev f r) : Ev g r := Ev.step h e
theorem ev_bind {α β : Type} {g : Nat → Option α} {f : Nat → α → Option β} {a : α} {r : β} (h : Ev g a) (e : Ev (fun n => f n a) r) : Ev (fun n => (g n).bind (f n)) r := Ev.bind h e
theorem ev_to {α : Type} {g : Nat → Option α} {r r' : α} (e : Ev g r) (h : r = r') : Ev g r' := h ▸ e
theorem w64 {n : Int} (h : -9223372036854775808 ≤ n) (h' : n < 9223372036854775808) : wrap64 n = n := by unfold wrap64; omega

/-! ### What a sign and a text are -/
abbrev Sg := S61
def byteB (b : Int) : Bool := decide (97 ≤ b ∧ b ≤ 122 ∨ 48 ≤ b ∧ b ≤ 57 ∨ b = 32)
def inB (n lo hi : Int) : Bool := decide (lo ≤ n ∧ n ≤ hi)
def signB (s : Sg) : Bool := byteB s.f0 && inB s.f1 0 3 && inB s.f2 0 3 && !decide (s.f1 ≠ 0 ∧ s.f1 = s.f2)
def textB (t : List Sg) : Bool := decide (t.length ≤ 24) && t.all signB
theorem byteOk_eq (b : Int) : impl_byteOk.f b = some (byteB b) := by
  unfold impl_byteOk.f byteB
  by_cases h1 : 97 ≤ b
  · by_cases h2 : b ≤ 122
    · simp [h1, h2]
    · have h3 : 48 ≤ b := by omega
      have h4 : ¬ b ≤ 57 := by omega
      rw [if_pos h1, if_neg h2, if_pos h3, if_neg h4, Option.some.injEq, Bool.eq_iff_iff, beq_iff_eq, decide_eq_true_eq]
      omega
  · by_cases h3 : 48 ≤ b
    · by_cases h4 : b ≤ 57
      · simp [h1, h3, h4]
      · rw [if_neg h1, if_pos h3, if_neg h4, Option.some.injEq, Bool.eq_iff_iff, beq_iff_eq, decide_eq_true_eq]
        omega
    · rw [if_neg h1, if_neg h3, Option.some.injEq, Bool.eq_iff_iff, beq_iff_eq, decide_eq_true_eq]
      omega
theorem within_eq (n lo hi : Int) : impl_within.f n lo hi = some (inB n lo hi) := by
  unfold impl_within.f inB
  by_cases h : lo ≤ n <;> simp [h]
theorem l6In_eq (n lo hi : Int) : spec_l6In.f n lo hi = some (inB n lo hi) := by
  unfold spec_l6In.f inB
  by_cases h : lo ≤ n <;> simp [h]
theorem drop_rd (t : List Sg) (i : Nat) (h : i < t.length) : t.drop i = rd_T61 t (i : Int) :: t.drop (i + 1) := by
  unfold rd_T61
  rw [Int.toNat_natCast, List.getD_eq_getElem?_getD, List.getElem?_eq_getElem h, List.drop_eq_getElem_cons h]
  rfl
theorem succ64 {i n : Nat} (h : i < n) (hn : n < 4611686018427387904) : wrap64 ((i : Int) + 1) = ((i + 1 : Nat) : Int) := by
  rw [w64 (by omega) (by omega)]; rfl

theorem implTextOk_l0 (t : List Sg) (hs : t.length < 4611686018427387904) : ∀ (d i : Nat), i + d = t.length →
    Ev (fun k => impl_TextOk.l0 k t t (t.length : Int) (i : Int)) ((t.drop i).all signB && decide (t.length ≤ 24)) := by
  intro d
  induction d with
  | zero =>
    intro i hi
    refine ev_step (fun k => by rw [impl_TextOk.l0]) ?_
    refine ev_neg (by omega) (ev_s ?_)
    rw [List.drop_of_length_le (by omega), List.all_nil, Bool.true_and, Bool.eq_iff_iff, decide_eq_true_eq, decide_eq_true_eq]
    omega
  | succ d ih =>
    intro i hi
    have hd := drop_rd t i (by omega)
    refine ev_step (fun k => by rw [impl_TextOk.l0]) ?_
    refine ev_pos (by omega) (ev_pos (by omega) (ev_pos (by omega) ?_))
    rw [hd, List.all_cons]
    have no : ∀ b : Bool, signB (rd_T61 t (i : Int)) = false → Ev (fun k => impl_TextOk.j1 k t t (t.length : Int) (i : Int) true) (signB (rd_T61 t (i : Int)) && (t.drop (i + 1)).all signB && decide (t.length ≤ 24)) := by
      intro _ h
      refine ev_step (fun k => by rw [impl_TextOk.j1]) (ev_pos rfl (ev_s ?_))
      rw [h]; rfl
    have yes : signB (rd_T61 t (i : Int)) = true → Ev (fun k => impl_TextOk.j1 k t t (t.length : Int) (i : Int) false) (signB (rd_T61 t (i : Int)) && (t.drop (i + 1)).all signB && decide (t.length ≤ 24)) := by
      intro h
      refine ev_step (fun k => by rw [impl_TextOk.j1]) (ev_neg (by decide) ?_)
      rw [h, Bool.true_and]
      rw [succ64 (n := t.length) (by omega) hs]
      exact ih (i + 1) (by omega)
    refine ev_b (byteOk_eq _) ?_
    by_cases h1 : byteB (rd_T61 t (i : Int)).f0 = true
    · refine ev_pos h1 (ev_b (within_eq _ _ _) ?_)
      by_cases h2 : inB (rd_T61 t (i : Int)).f1 0 3 = true
      · refine ev_pos h2 (ev_b (within_eq _ _ _) ?_)
        by_cases h3 : inB (rd_T61 t (i : Int)).f2 0 3 = true
        · refine ev_pos h3 ?_
          by_cases h4 : (rd_T61 t (i : Int)).f1 = 0
          · exact ev_pos h4 (yes (by simp only [signB, h1, h2, h3, Bool.true_and]; simp [h4]))
          · refine ev_neg h4 ?_
            by_cases h5 : (rd_T61 t (i : Int)).f1 = (rd_T61 t (i : Int)).f2
            · rw [show ((rd_T61 t (i : Int)).f1 == (rd_T61 t (i : Int)).f2) = true from beq_iff_eq.2 h5]
              exact no true (by simp only [signB, h1, h2, h3, Bool.true_and]; rw [decide_eq_true ⟨h4, h5⟩]; rfl)
            · rw [show ((rd_T61 t (i : Int)).f1 == (rd_T61 t (i : Int)).f2) = false from beq_eq_false_iff_ne.2 h5]
              exact yes (by simp only [signB, h1, h2, h3, Bool.true_and]; simp [h5])
        · exact ev_neg h3 (no true (by simp [signB, h3]))
      · exact ev_neg h2 (no true (by simp [signB, h2]))
    · exact ev_neg h1 (no true (by simp [signB, h1]))
theorem implTextOk (t : List Sg) (hs : t.length < 4611686018427387904) : Ev (fun k => impl_TextOk.f k t) (textB t) := by
  unfold impl_TextOk.f
  refine ev_to (implTextOk_l0 t hs t.length 0 (by omega)) ?_
  rw [List.drop_zero, Bool.and_comm]; rfl

theorem specSign (a b c : Int) : Ev (fun k => spec_l1Sign.f k a b c) (signB (⟨a, b, c⟩ : Sg)) := by
  have no : byteB a = false → Ev (fun k => spec_l1Sign.j0 k false a b c) (signB (⟨a, b, c⟩ : Sg)) := by
    intro h
    refine ev_step (fun k => by rw [spec_l1Sign.j0]) (ev_neg (by decide) (ev_s ?_))
    simp [signB, h]
  have yes : byteB a = true → Ev (fun k => spec_l1Sign.j0 k true a b c) (signB (⟨a, b, c⟩ : Sg)) := by
    intro h
    refine ev_step (fun k => by rw [spec_l1Sign.j0]) (ev_pos rfl (ev_b (l6In_eq _ _ _) ?_))
    by_cases h2 : inB b 0 3 = true
    · refine ev_pos h2 (ev_b (l6In_eq _ _ _) ?_)
      by_cases h3 : inB c 0 3 = true
      · refine ev_pos h3 ?_
        by_cases h4 : c = 0
        · refine ev_pos h4 (ev_s ?_)
          simp only [signB, h, h2, h3, Bool.true_and]
          by_cases h5 : b = 0 <;> simp [h4, h5]
        · refine ev_neg h4 (ev_s ?_)
          simp only [signB, h, h2, h3, Bool.true_and]
          by_cases h5 : b = c
          · subst h5; simp [h4]
          · simp [h5]
      · exact ev_neg h3 (ev_s (by simp [signB, h3]))
    · exact ev_neg h2 (ev_s (by simp [signB, h2]))
  have any : ∀ x : Bool, byteB a = x → Ev (fun k => spec_l1Sign.j0 k x a b c) (signB (⟨a, b, c⟩ : Sg)) := by
    intro x hx
    cases x
    · exact no hx
    · exact yes hx
  unfold spec_l1Sign.f
  by_cases h1 : a ≥ 97
  · refine ev_pos h1 ?_
    by_cases h2 : a ≤ 122
    · exact ev_pos h2 (any _ (by simp [byteB]; omega))
    · refine ev_neg h2 (ev_neg (by omega) (ev_pos (by omega) (any _ ?_)))
      rw [byteB, Bool.eq_iff_iff, decide_eq_true_eq]; simp; omega
  · refine ev_neg h1 ?_
    by_cases h3 : a = 32
    · exact ev_pos h3 (any _ (by simp [byteB]; omega))
    · refine ev_neg h3 ?_
      by_cases h4 : a ≥ 48
      · refine ev_pos h4 (any _ ?_)
        rw [byteB, Bool.eq_iff_iff, decide_eq_true_eq]; simp; omega
      · refine ev_neg h4 (any _ ?_)
        simp [byteB]; omega
theorem specTextOk_l0 (t : List Sg) (hs : t.length ≤ 24) : ∀ (d i : Nat), i + d = t.length →
    Ev (fun k => spec_TextOk.l0 k t (i : Int)) ((t.drop i).all signB) := by
  intro d
  induction d with
  | zero =>
    intro i hi
    refine ev_step (fun k => by rw [spec_TextOk.l0]) (ev_neg (by omega) (ev_s ?_))
    rw [List.drop_of_length_le (by omega)]; rfl
  | succ d ih =>
    intro i hi
    rw [drop_rd t i (by omega), List.all_cons]
    refine ev_step (fun k => by rw [spec_TextOk.l0]) (ev_pos (by omega) (ev_pos (by omega) (ev_bind (specSign _ _ _) ?_)))
    by_cases h : signB (rd_T61 t (i : Int)) = true
    · refine ev_pos h ?_
      rw [h, Bool.true_and, succ64 (n := t.length) (by omega) (by omega)]
      exact ih (i + 1) (by omega)
    · refine ev_neg h (ev_s ?_)
      simp [h]
theorem specTextOk (t : List Sg) : Ev (fun k => spec_TextOk.f k t) (textB t) := by
  unfold spec_TextOk.f
  by_cases h : (t.length : Int) > 24
  · refine ev_pos h (ev_s ?_)
    simp [textB]; intro h'; omega
  · refine ev_neg h ?_
    refine ev_to (specTextOk_l0 t (by omega) t.length 0 (by omega)) ?_
    rw [List.drop_zero, textB, decide_eq_true (by omega), Bool.true_and]
end Go.Proofs.Ytljgbeccmcidkaa.Pure
namespace Go.Proofs.Ytljgbeccmcidkaa.Pure
open Go.RowKit Go.Proofs.Ytljgbeccmcidkaa.P Go.Proofs.YtljgbeccmcidkaaW.PrintWords Go.Proofs.YtljgbeccmcidkaaW.PrintLast
set_option linter.unusedVariables false
set_option linter.unusedSimpArgs false

abbrev Ce := S30
def ltC (a b : Ce) : Bool := decide (a.f0 < b.f0 ∨ a.f0 = b.f0 ∧ a.f1 < b.f1)
def cellB (R C : Int) (c : Ce) : Bool := inB c.f0 0 (R - 1) && (inB c.f1 0 (C - 1) && (inB c.f2 1 (R - c.f0) && (inB c.f3 1 (C - c.f1) && textB c.f4)))
def formL (R C : Int) : Option Ce → List Ce → Bool
  | _, [] => true
  | p, c :: l => cellB R C c && (p.elim true (fun q => ltC q c) && formL R C (some c) l)
def cntC (row col : Int) : List Ce → Int
  | [] => 0
  | c :: l => (if sqB row col c = true then 1 else 0) + cntC row col l
def areaC : List Ce → Int
  | [] => 0
  | c :: l => c.f2 * c.f3 + areaC l
def allB (p : Int → Bool) : Nat → Int → Bool
  | 0, _ => true
  | d + 1, x => p x && allB p d (x + 1)
theorem allB_iff (p : Int → Bool) : ∀ (d : Nat) (x : Int), allB p d x = true ↔ ∀ y, x ≤ y → y < x + d → p y = true
  | 0, x => ⟨fun _ y h1 h2 => by omega, fun _ => rfl⟩
  | d + 1, x => by
    rw [allB, Bool.and_eq_true, allB_iff p d (x + 1)]
    constructor
    · rintro ⟨h, H⟩ y h1 h2
      by_cases e : y = x
      · rw [e]; exact h
      · exact H y (by omega) (by omega)
    · intro H
      exact ⟨H x (by omega) (by omega), fun y h1 h2 => H y (by omega) (by omega)⟩
def covB (R C : Int) (l : List Ce) : Bool := allB (fun row => allB (fun col => cntC row col l == 1) C.toNat 0) R.toNat 0
def okB (R C : Int) (l : List Ce) : Bool := inB R 1 5 && (inB C 1 5 && (formL R C none l && covB R C l))
def prevC (l : List Ce) : Nat → Option Ce
  | 0 => none
  | i + 1 => some (rd_T30 l (i : Int))

/-! ### The order of cells -/
def ordI (a b : Ce) : Int := if a.f0 < b.f0 then -1 else if b.f0 < a.f0 then 1 else if a.f1 < b.f1 then -1 else if b.f1 < a.f1 then 1 else 0
theorem ordI_lt (a b : Ce) : ltC a b = decide (ordI a b < 0) := by
  unfold ltC ordI
  rw [Bool.eq_iff_iff, decide_eq_true_eq, decide_eq_true_eq]
  by_cases h1 : a.f0 < b.f0
  · simp [h1]
  · by_cases h2 : b.f0 < a.f0
    · have : a.f0 ≠ b.f0 := by omega
      simp [h1, h2, this]
    · have : a.f0 = b.f0 := by omega
      by_cases h3 : a.f1 < b.f1
      · simp [h1, h2, h3, this]
      · by_cases h4 : b.f1 < a.f1 <;> simp [h1, h2, h3, h4]
theorem isNaN_eq (n : Int) : cmp_isNaN_int.f n = some false := by
  unfold cmp_isNaN_int.f; simp
theorem compare_eq (a b : Int) : cmp_Compare_int.f a b = some (if a < b then -1 else if b < a then 1 else 0) := by
  unfold cmp_Compare_int.f
  rw [isNaN_eq, isNaN_eq]
  by_cases h : a < b
  · simp [h]
  · by_cases h2 : b < a <;> simp [h, h2]
theorem or_ev (a b : Int) : Ev (fun k => cmp_Or_int.f k [a, b]) (if a = 0 then b else a) := by
  refine ⟨3, fun k hk => ?_⟩
  obtain ⟨q, rfl⟩ : ∃ q, k = q + 3 := ⟨k - 3, by omega⟩
  have e1 : wrap64 1 = 1 := w64 (by decide) (by decide)
  have e2 : wrap64 2 = 2 := w64 (by decide) (by decide)
  have e3 : wrap64 (1 + 1) = 2 := w64 (by decide) (by decide)
  by_cases h : a = 0
  · by_cases h2 : b = 0
    · simp [cmp_Or_int.f, cmp_Or_int.l0, rd, e1, e2, e3, h, h2]
    · simp [cmp_Or_int.f, cmp_Or_int.l0, rd, e1, e2, e3, h, h2]
  · simp [cmp_Or_int.f, cmp_Or_int.l0, rd, e1, e2, e3, h]
theorem order_ev (a b : Ce) : Ev (fun k => impl_cellOrder.f k a.f0 a.f1 a.f2 a.f3 a.f4 b.f0 b.f1 b.f2 b.f3 b.f4) (ordI a b) := by
  unfold impl_cellOrder.f
  refine ev_b (compare_eq _ _) (ev_b (compare_eq _ _) (ev_bind (or_ev _ _) (ev_s ?_)))
  unfold ordI
  by_cases h1 : a.f0 < b.f0
  · simp [h1]
  · by_cases h2 : b.f0 < a.f0 <;> simp [h1, h2]

/-! ### What the program tells -/
theorem cell_parts {R C : Int} {c : Ce} (h : cellB R C c = true) : (0 ≤ c.f0 ∧ c.f0 ≤ R - 1) ∧ (0 ≤ c.f1 ∧ c.f1 ≤ C - 1) ∧ (1 ≤ c.f2 ∧ c.f2 ≤ R - c.f0) ∧ (1 ≤ c.f3 ∧ c.f3 ≤ C - c.f1) ∧ textB c.f4 = true := by
  simpa [cellB, inB] using h
theorem area_small {R C : Int} (hR : R ≤ 5) (hC : C ≤ 5) {c : Ce} (h : cellB R C c = true) : 1 ≤ c.f2 * c.f3 ∧ c.f2 * c.f3 ≤ 25 := by
  obtain ⟨h0, h1, h2, h3, _⟩ := cell_parts h
  have b2 : c.f2 ≤ 5 := by omega
  have b3 : c.f3 ≤ 5 := by omega
  constructor
  · have := Int.mul_le_mul h2.1 h3.1 (by decide) (by omega); omega
  · have := Int.mul_le_mul b2 b3 (by omega) (by decide); omega
theorem drop_ceN (l : List Ce) (i : Nat) (h : i < l.length) : l.drop i = rd_T30 l (i : Int) :: l.drop (i + 1) := by
  have := drop_ce l (i : Int) (by omega) (by omega)
  rwa [show ((i : Int) + 1).toNat = i + 1 by omega, Int.toNat_natCast] at this
theorem rd_mem (l : List Ce) (i : Nat) (h : i < l.length) : rd_T30 l (i : Int) ∈ l := by
  unfold rd_T30
  rw [Int.toNat_natCast, List.getD_eq_getElem?_getD, List.getElem?_eq_getElem h]; exact List.getElem_mem h

theorem implOk_l0 (R C : Int) (hR : 1 ≤ R ∧ R ≤ 5) (hC : 1 ≤ C ∧ C ≤ 5) (l : List Ce) (hs : l.length ≤ 1048576) (hx : ∀ c ∈ l, c.f4.length < 4611686018427387904) (F : Int → Bool)
    (hF : formL R C none l = true → ∀ m, 0 ≤ m → m ≤ 25 * 1048576 → Ev (fun k => impl_TableOk.l1 k m R 0 R C l) (F m)) : ∀ (d i : Nat) (m : Int), i + d = l.length → 0 ≤ m → m ≤ 25 * i → (formL R C (prevC l i) (l.drop i) = true → formL R C none l = true) →
    Ev (fun k => impl_TableOk.l0 k m l (l.length : Int) (i : Int) R C l) (formL R C (prevC l i) (l.drop i) && F (m + areaC (l.drop i))) := by
  intro d
  induction d with
  | zero =>
    intro i m hi h0 hm hf
    refine ev_step (fun k => by rw [impl_TableOk.l0]) (ev_neg (by omega) ?_)
    rw [List.drop_of_length_le (by omega)] at hf ⊢
    simp only [formL, areaC, Int.add_zero, Bool.true_and] at hf ⊢
    exact hF (hf trivial) m h0 (by omega)
  | succ d ih =>
    intro i m hi h0 hm hf
    have hl : i < l.length := by omega
    have hmem := rd_mem l i hl
    have ih' := ih (i + 1)
    simp only [prevC] at ih'
    rw [drop_ceN l i hl] at hf ⊢
    refine ev_step (fun k => by rw [impl_TableOk.l0]) (ev_pos (by omega) (ev_pos (by omega) (ev_pos (by omega) ?_)))
    generalize hc : rd_T30 l (i : Int) = c at *
    simp only [formL, areaC] at hf ⊢
    have no : cellB R C c = false → Ev (fun k => impl_TableOk.j2 k m (i : Int) l (l.length : Int) (i : Int) true R C l c.f0 c.f1 c.f2 c.f3 c.f4) (cellB R C c && ((prevC l i).elim true (fun q => ltC q c) && formL R C (some c) (l.drop (i + 1))) && F (m + (c.f2 * c.f3 + areaC (l.drop (i + 1))))) := by
      intro h
      refine ev_step (fun k => by rw [impl_TableOk.j2]) (ev_pos rfl (ev_s ?_))
      rw [h]; rfl
    have yes : cellB R C c = true → Ev (fun k => impl_TableOk.j2 k m (i : Int) l (l.length : Int) (i : Int) false R C l c.f0 c.f1 c.f2 c.f3 c.f4) (cellB R C c && ((prevC l i).elim true (fun q => ltC q c) && formL R C (some c) (l.drop (i + 1))) && F (m + (c.f2 * c.f3 + areaC (l.drop (i + 1))))) := by
      intro h
      obtain ⟨a1, a2⟩ := area_small hR.2 hC.2 h
      have e1 : wrap64 (m + wrap64 (c.f2 * c.f3)) = m + c.f2 * c.f3 := by rw [w64 (n := c.f2 * c.f3) (by omega) (by omega), w64 (by omega) (by omega)]
      rw [h, Bool.true_and] at hf ⊢
      have go : (prevC l i).elim true (fun q => ltC q c) = true → Ev (fun k => impl_TableOk.l0 k (wrap64 (m + wrap64 (c.f2 * c.f3))) l (l.length : Int) (wrap64 ((i : Int) + 1)) R C l) ((prevC l i).elim true (fun q => ltC q c) && formL R C (some c) (l.drop (i + 1)) && F (m + (c.f2 * c.f3 + areaC (l.drop (i + 1))))) := by
        intro hp
        rw [hp, Bool.true_and] at hf ⊢
        rw [e1, succ64 (n := l.length) hl (by omega), ← Int.add_assoc]
        exact ih' (m + c.f2 * c.f3) (by omega) (by omega) (by omega) hf
      refine ev_step (fun k => by rw [impl_TableOk.j2]) (ev_neg (by decide) ?_)
      cases i with
      | zero => exact ev_neg (by decide) (go rfl)
      | succ j =>
        have ej : wrap64 (((j + 1 : Nat) : Int) - 1) = (j : Int) := by rw [w64 (by omega) (by omega)]; omega
        refine ev_pos (by omega) ?_
        simp only [ej]
        refine ev_pos (by omega) (ev_pos (by omega) (ev_bind (order_ev _ _) ?_))
        by_cases ho : ordI (rd_T30 l (j : Int)) c ≥ 0
        · refine ev_pos ho (ev_s ?_)
          have : ltC (rd_T30 l (j : Int)) c = false := by rw [ordI_lt, decide_eq_false (by omega)]
          simp only [prevC, Option.elim, this, Bool.false_and]
        · exact ev_neg ho (go (by simp only [prevC, Option.elim]; rw [ordI_lt, decide_eq_true (by omega)]))
    refine ev_b (within_eq _ _ _) ?_
    rw [w64 (n := R - 1) (by omega) (by omega), w64 (n := C - 1) (by omega) (by omega)]
    by_cases h1 : inB c.f0 0 (R - 1) = true
    · have h1' : 0 ≤ c.f0 ∧ c.f0 ≤ R - 1 := by simpa [inB] using h1
      refine ev_pos h1 (ev_b (within_eq _ _ _) ?_)
      by_cases h2 : inB c.f1 0 (C - 1) = true
      · have h2' : 0 ≤ c.f1 ∧ c.f1 ≤ C - 1 := by simpa [inB] using h2
        refine ev_pos h2 (ev_b (within_eq _ _ _) ?_)
        rw [w64 (n := R - c.f0) (by omega) (by omega), w64 (n := C - c.f1) (by omega) (by omega)]
        by_cases h3 : inB c.f2 1 (R - c.f0) = true
        · refine ev_pos h3 (ev_b (within_eq _ _ _) ?_)
          by_cases h4 : inB c.f3 1 (C - c.f1) = true
          · refine ev_pos h4 (ev_bind (implTextOk _ (hx c hmem)) ?_)
            cases h5 : textB c.f4 with
            | true => exact yes (by simp [cellB, h1, h2, h3, h4, h5])
            | false => exact no (by simp [cellB, h5])
          · exact ev_neg h4 (no (by simp [cellB, h4]))
        · exact ev_neg h3 (no (by simp [cellB, h3]))
      · exact ev_neg h2 (no (by simp [cellB, h2]))
    · exact ev_neg h1 (no (by simp [cellB, h1]))

theorem cnt_nonneg (row col : Int) : ∀ l : List Ce, 0 ≤ cntC row col l
  | [] => Int.le_refl _
  | c :: l => by have := cnt_nonneg row col l; unfold cntC; split <;> omega
theorem at_neg (row col : Int) : ∀ (l : List Ce) (i : Int), 0 ≤ i → (atZ row col l i < 0 ↔ cntC row col l = 0)
  | [], i, _ => by simp [atZ, cntC]
  | c :: l, i, h => by
    have h1 := cnt_nonneg row col l
    have h2 := at_neg row col l (i + 1) (by omega)
    unfold atZ cntC
    by_cases e : sqB row col c = true
    · rw [if_pos e, if_pos e]; constructor <;> intro <;> omega
    · rw [if_neg e, if_neg e, Int.zero_add]; exact h2
theorem at_eq (R C : Int) (l : List Ce) (hs : l.length ≤ 1048576) (row col : Int) : impl_Table_at.f R C l row col = some (atZ row col l 0) := by
  unfold impl_Table_at.f
  exact if_pos (by omega)
def posC (l : List Ce) (row col : Int) : Bool := decide (0 < cntC row col l)

theorem implOk_l2 (R C m row : Int) (hR : R ≤ 5) (hC : C ≤ 5) (l : List Ce) (hs : l.length ≤ 1048576) (r : Bool) (hr : Ev (fun k => impl_TableOk.l1 k m R (wrap64 (row + 1)) R C l) r) : ∀ (d : Nat) (col : Int), 0 ≤ col → col + d = C →
    Ev (fun k => impl_TableOk.l2 k m row R row C col R C l) (allB (posC l row) d col && r) := by
  intro d
  induction d with
  | zero =>
    intro col h0 h1
    refine ev_step (fun k => by rw [impl_TableOk.l2]) (ev_neg (by omega) ?_)
    rw [allB, Bool.true_and]; exact hr
  | succ d ih =>
    intro col h0 h1
    refine ev_step (fun k => by rw [impl_TableOk.l2]) (ev_pos (by omega) (ev_b (at_eq R C l hs row col) ?_))
    rw [allB]
    have hn := cnt_nonneg row col l
    by_cases h : atZ row col l 0 < 0
    · refine ev_pos h (ev_s ?_)
      have := (at_neg row col l 0 (Int.le_refl _)).1 h
      simp [posC, this]
    · refine ev_neg h ?_
      have h' : cntC row col l ≠ 0 := fun e => h ((at_neg row col l 0 (Int.le_refl _)).2 e)
      rw [show posC l row col = true from decide_eq_true (by omega), Bool.true_and, w64 (by omega) (by omega)]
      exact ih (col + 1) (by omega) (by omega)
theorem implOk_l1 (R C m : Int) (hR : R ≤ 5) (hC : 0 ≤ C ∧ C ≤ 5) (l : List Ce) (hs : l.length ≤ 1048576) : ∀ (d : Nat) (row : Int), 0 ≤ row → row + d = R →
    Ev (fun k => impl_TableOk.l1 k m R row R C l) (allB (fun row => allB (posC l row) C.toNat 0) d row && (m == wrap64 (R * C))) := by
  intro d
  induction d with
  | zero =>
    intro row h0 h1
    refine ev_step (fun k => by rw [impl_TableOk.l1]) (ev_neg (by omega) (ev_s ?_))
    rw [allB, Bool.true_and]
  | succ d ih =>
    intro row h0 h1
    refine ev_step (fun k => by rw [impl_TableOk.l1]) (ev_pos (by omega) ?_)
    rw [allB, Bool.and_assoc]
    refine implOk_l2 R C m row hR hC.2 l hs _ ?_ C.toNat 0 (Int.le_refl _) (by omega)
    rw [w64 (by omega) (by omega)]
    exact ih (row + 1) (by omega) (by omega)

/-! ### Sums -/
def sumZ (f : Int → Int) : Nat → Int → Int
  | 0, _ => 0
  | d + 1, x => f x + sumZ f d (x + 1)
theorem sumZ_congr {f g : Int → Int} : ∀ (d : Nat) (x : Int), (∀ y, x ≤ y → y < x + d → f y = g y) → sumZ f d x = sumZ g d x
  | 0, _, _ => rfl
  | d + 1, x, h => by rw [sumZ, sumZ, h x (by omega) (by omega), sumZ_congr d (x + 1) (fun y h1 h2 => h y (by omega) (by omega))]
theorem sumZ_add (f g : Int → Int) : ∀ (d : Nat) (x : Int), sumZ (fun y => f y + g y) d x = sumZ f d x + sumZ g d x
  | 0, _ => rfl
  | d + 1, x => by rw [sumZ, sumZ, sumZ, sumZ_add f g d (x + 1)]; omega
theorem sumZ_zero : ∀ (d : Nat) (x : Int), sumZ (fun _ => 0) d x = 0
  | 0, _ => rfl
  | d + 1, x => by rw [sumZ, sumZ_zero d (x + 1)]; rfl
theorem sumZ_mul (f : Int → Int) (c : Int) : ∀ (d : Nat) (x : Int), sumZ (fun y => f y * c) d x = sumZ f d x * c
  | 0, _ => by simp [sumZ]
  | d + 1, x => by rw [sumZ, sumZ, sumZ_mul f c d (x + 1), Int.add_mul]
def indI (a b y : Int) : Int := if a ≤ y ∧ y < b then 1 else 0
theorem sumZ_ind (a b : Int) : ∀ (d : Nat) (x : Int), a ≤ b → sumZ (indI a b) d x = max 0 (min b (x + d) - max a x)
  | 0, x, h => by rw [sumZ]; omega
  | d + 1, x, h => by
    rw [sumZ, sumZ_ind a b d (x + 1) h]; unfold indI
    split <;> omega
theorem sumZ_ge {f : Int → Int} {c : Int} : ∀ (d : Nat) (x : Int), (∀ y, x ≤ y → y < x + d → c ≤ f y) → (d : Int) * c ≤ sumZ f d x ∧ (sumZ f d x = (d : Int) * c → ∀ y, x ≤ y → y < x + d → f y = c)
  | 0, x, h => ⟨by simp [sumZ], fun _ y h1 h2 => by omega⟩
  | d + 1, x, h => by
    obtain ⟨h1, h2⟩ := sumZ_ge d (x + 1) (fun y h1 h2 => h y (by omega) (by omega))
    have h0 := h x (by omega) (by omega)
    have e : ((d + 1 : Nat) : Int) * c = c + (d : Int) * c := by rw [Int.natCast_add, Int.add_mul]; omega
    rw [sumZ, e]
    refine ⟨by omega, fun he y hy1 hy2 => ?_⟩
    by_cases ey : y = x
    · rw [ey]; omega
    · exact h2 (by omega) y (by omega) (by omega)
theorem sumZ_all {f : Int → Int} {c : Int} (d : Nat) (x : Int) (h : ∀ y, x ≤ y → y < x + d → f y = c) : sumZ f d x = (d : Int) * c := by
  rw [sumZ_congr (g := fun _ => 1 * c) d x (fun y h1 h2 => by rw [h y h1 h2]; omega), sumZ_mul]
  congr 1
  induction d generalizing x with
  | zero => rfl
  | succ d ih => rw [sumZ, ih (x + 1) (fun y h1 h2 => h y (by omega) (by omega))]; omega

theorem sq_ind {R C : Int} (hR : R ≤ 5) (hC : C ≤ 5) {c : Ce} (h : cellB R C c = true) (row col : Int) : (if sqB row col c = true then (1 : Int) else 0) = indI c.f0 (c.f0 + c.f2) row * indI c.f1 (c.f1 + c.f3) col := by
  obtain ⟨h0, h1, h2, h3, _⟩ := cell_parts h
  unfold sqB indI
  rw [w64 (n := c.f0 + c.f2) (by omega) (by omega), w64 (n := c.f1 + c.f3) (by omega) (by omega)]
  by_cases a1 : c.f0 ≤ row <;> by_cases a2 : row < c.f0 + c.f2 <;> by_cases a3 : c.f1 ≤ col <;> by_cases a4 : col < c.f1 + c.f3 <;> simp [a1, a2, a3, a4]
theorem sum_cell {R C : Int} (hR : R ≤ 5) (hC : C ≤ 5) {c : Ce} (h : cellB R C c = true) : sumZ (fun row => sumZ (fun col => if sqB row col c = true then 1 else 0) C.toNat 0) R.toNat 0 = c.f2 * c.f3 := by
  obtain ⟨h0, h1, h2, h3, _⟩ := cell_parts h
  have e : ∀ row, sumZ (fun col => if sqB row col c = true then (1 : Int) else 0) C.toNat 0 = indI c.f0 (c.f0 + c.f2) row * c.f3 := by
    intro row
    rw [sumZ_congr (g := fun col => indI c.f1 (c.f1 + c.f3) col * indI c.f0 (c.f0 + c.f2) row) _ _ (fun y _ _ => by rw [sq_ind hR hC h, Int.mul_comm]), sumZ_mul, sumZ_ind _ _ _ _ (by omega), Int.mul_comm]
    congr 1; omega
  rw [sumZ_congr _ _ (fun y _ _ => e y), sumZ_mul, sumZ_ind _ _ _ _ (by omega)]
  congr 1; omega
theorem form_mem {R C : Int} : ∀ (p : Option Ce) (l : List Ce), formL R C p l = true → ∀ c ∈ l, cellB R C c = true
  | _, [], _, c, hc => by simp at hc
  | p, a :: l, h, c, hc => by
    rw [formL, Bool.and_eq_true, Bool.and_eq_true] at h
    rcases List.mem_cons.1 hc with rfl | hc
    · exact h.1
    · exact form_mem (some a) l h.2.2 c hc
theorem sum_cnt {R C : Int} (hR : R ≤ 5) (hC : C ≤ 5) : ∀ (l : List Ce), (∀ c ∈ l, cellB R C c = true) → sumZ (fun row => sumZ (fun col => cntC row col l) C.toNat 0) R.toNat 0 = areaC l
  | [], _ => by
    simp only [cntC, areaC]
    rw [sumZ_congr (g := fun _ => 0) _ _ (fun y _ _ => sumZ_zero _ _), sumZ_zero]
  | c :: l, h => by
    simp only [cntC, areaC]
    rw [sumZ_congr (g := fun row => sumZ (fun col => if sqB row col c = true then 1 else 0) C.toNat 0 + sumZ (fun col => cntC row col l) C.toNat 0) _ _ (fun y _ _ => sumZ_add _ _ _ _), sumZ_add, sum_cell hR hC (h c List.mem_cons_self), sum_cnt hR hC l (fun x hx => h x (List.mem_cons_of_mem _ hx))]
theorem area_ge {R C : Int} (hR : R ≤ 5) (hC : C ≤ 5) : ∀ (l : List Ce), (∀ c ∈ l, cellB R C c = true) → (l.length : Int) ≤ areaC l
  | [], _ => by simp [areaC]
  | c :: l, h => by
    have h1 := (area_small hR hC (h c List.mem_cons_self)).1
    have h2 := area_ge hR hC l (fun x hx => h x (List.mem_cons_of_mem _ hx))
    simp only [areaC, List.length_cons]; omega
theorem cov_iff {R C : Int} (l : List Ce) (hR : 0 ≤ R) (hC : 0 ≤ C) : covB R C l = true ↔ ∀ row col, 0 ≤ row → row < R → 0 ≤ col → col < C → cntC row col l = 1 := by
  unfold covB
  rw [allB_iff]
  constructor
  · intro h row col a b c d
    have := (allB_iff _ _ _).1 (h row a (by omega)) col c (by omega)
    exact beq_iff_eq.1 this
  · intro h row a b
    rw [allB_iff]
    intro col c d
    exact beq_iff_eq.2 (h row col a (by omega) c (by omega))
theorem mul25 {R C : Int} (h : 0 ≤ R ∧ R ≤ 5) (h' : 0 ≤ C ∧ C ≤ 5) : 0 ≤ R * C ∧ R * C ≤ 25 := by
  refine ⟨Int.mul_nonneg h.1 h'.1, ?_⟩
  have := Int.mul_le_mul h.2 h'.2 h'.1 (by decide); omega
/-- Each square is of one cell: just then each is of one at least, and the cells have as many squares as the table. -/
theorem cov_area {R C : Int} (hR : 1 ≤ R ∧ R ≤ 5) (hC : 1 ≤ C ∧ C ≤ 5) (l : List Ce) (h : ∀ c ∈ l, cellB R C c = true) :
    covB R C l = (allB (fun row => allB (posC l row) C.toNat 0) R.toNat 0 && (areaC l == wrap64 (R * C))) := by
  have m25 := mul25 ⟨by omega, hR.2⟩ ⟨by omega, hC.2⟩
  rw [w64 (by omega) (by omega)]
  have hs := sum_cnt hR.2 hC.2 l h
  rw [Bool.eq_iff_iff, cov_iff l (by omega) (by omega), Bool.and_eq_true, allB_iff, beq_iff_eq]
  have eR : ((R.toNat : Nat) : Int) = R := by omega
  have eC : ((C.toNat : Nat) : Int) = C := by omega
  constructor
  · intro H
    refine ⟨fun row a b => ?_, ?_⟩
    · rw [allB_iff]; intro col c d
      rw [posC, H row col a (by omega) c (by omega)]; rfl
    · rw [← hs, sumZ_all (c := C) _ _ (fun row a b => ?_), eR]
      rw [sumZ_all (c := 1) _ _ (fun col c d => H row col a (by omega) c (by omega)), eC, Int.mul_one]
  · rintro ⟨H, e⟩
    have hge : ∀ row, 0 ≤ row → row < 0 + (R.toNat : Int) → ∀ col, 0 ≤ col → col < 0 + (C.toNat : Int) → 1 ≤ cntC row col l := by
      intro row a b col c d
      have h2 := (allB_iff _ _ _).1 (H row a b) col c d
      have := of_decide_eq_true h2
      omega
    have g1 := fun row a b => sumZ_ge (f := fun col => cntC row col l) (c := 1) C.toNat 0 (hge row a b)
    have g2 := sumZ_ge (f := fun row => sumZ (fun col => cntC row col l) C.toNat 0) (c := C) R.toNat 0 (fun row a b => by have := (g1 row a b).1; rw [eC, Int.mul_one] at this; exact this)
    intro row col a b c d
    have e1 := g2.2 (by rw [hs, e, eR]) row a (by omega)
    exact (g1 row a (by omega)).2 (by rw [eC, Int.mul_one]; exact e1) col c (by omega)
theorem ok_len {R C : Int} {l : List Ce} (h : okB R C l = true) : l.length ≤ 25 := by
  simp only [okB, Bool.and_eq_true] at h
  obtain ⟨h1, h2, h3, h4⟩ := h
  have hR : 1 ≤ R ∧ R ≤ 5 := by simpa [inB] using h1
  have hC : 1 ≤ C ∧ C ≤ 5 := by simpa [inB] using h2
  have hm := form_mem _ _ h3
  rw [cov_area hR hC l hm, Bool.and_eq_true, beq_iff_eq] at h4
  have m25 := mul25 (R := R) (C := C) ⟨by omega, hR.2⟩ ⟨by omega, hC.2⟩
  rw [w64 (by omega) (by omega)] at h4
  have := area_ge hR.2 hC.2 l hm
  omega
theorem implTableOk (R C : Int) (l : List Ce) (hs : l.length ≤ 1048576) (hx : ∀ c ∈ l, c.f4.length < 4611686018427387904) : Ev (fun k => impl_TableOk.f k R C l) (okB R C l) := by
  have no : okB R C l = false → Ev (fun k => impl_TableOk.j0 k true R C l) (okB R C l) := fun h => ev_step (fun k => by rw [impl_TableOk.j0]) (ev_pos rfl (ev_s h.symm))
  unfold impl_TableOk.f
  refine ev_b (within_eq _ _ _) ?_
  by_cases h1 : inB R 1 5 = true
  · refine ev_pos h1 (ev_b (within_eq _ _ _) ?_)
    by_cases h2 : inB C 1 5 = true
    · rw [h2]
      have hR : 1 ≤ R ∧ R ≤ 5 := by simpa [inB] using h1
      have hC : 1 ≤ C ∧ C ≤ 5 := by simpa [inB] using h2
      refine ev_step (fun k => by rw [impl_TableOk.j0]) (ev_neg (by decide) ?_)
      refine ev_to (implOk_l0 R C hR hC l hs hx (fun m => allB (fun row => allB (posC l row) C.toNat 0) R.toNat 0 && (m == wrap64 (R * C))) (fun _ m h0 hm => implOk_l1 R C m hR.2 ⟨by omega, hC.2⟩ l hs R.toNat 0 (Int.le_refl _) (by omega)) l.length 0 0 (by omega) (Int.le_refl _) (by omega) (by rw [List.drop_zero]; exact id)) ?_
      rw [List.drop_zero, Int.zero_add, okB, h1, h2, Bool.true_and, Bool.true_and]
      show (formL R C none l && _) = _
      cases hf : formL R C none l with
      | false => rfl
      | true => rw [Bool.true_and, Bool.true_and, cov_area hR hC l (form_mem _ _ hf)]
    · rw [Bool.eq_false_iff.mpr h2]
      exact no (by simp [okB, h2])
  · exact ev_neg h1 (no (by simp [okB, h1]))

end Go.Proofs.Ytljgbeccmcidkaa.Pure
namespace Go.Proofs.Ytljgbeccmcidkaa.Pure
open Go.RowKit Go.Proofs.Ytljgbeccmcidkaa.P Go.Proofs.YtljgbeccmcidkaaW.PrintWords Go.Proofs.YtljgbeccmcidkaaW.PrintLast
set_option linter.unusedVariables false
set_option linter.unusedSimpArgs false
/-! ### Cells in order -/
def insC (x : Ce) : List Ce → List Ce
  | [] => [x]
  | y :: l => if ltC x y = true then x :: y :: l else y :: insC x l
def sortA : List Ce → List Ce → List Ce
  | acc, [] => acc
  | acc, x :: l => sortA (insC x acc) l
def sortC (l : List Ce) : List Ce := sortA [] l
theorem insC_len (x : Ce) : ∀ l : List Ce, (insC x l).length = l.length + 1
  | [] => rfl
  | y :: l => by unfold insC; split <;> simp [insC_len x l]
theorem sortA_len : ∀ (l acc : List Ce), (sortA acc l).length = acc.length + l.length
  | [], acc => rfl
  | x :: l, acc => by rw [sortA, sortA_len l, insC_len]; simp; omega
theorem sortC_len (l : List Ce) : (sortC l).length = l.length := by rw [sortC, sortA_len]; simp
theorem insC_mem (x c : Ce) : ∀ l : List Ce, c ∈ insC x l ↔ c = x ∨ c ∈ l
  | [] => by simp [insC]
  | y :: l => by
    unfold insC; split
    · simp
    · simp only [List.mem_cons, insC_mem x c l]
      constructor
      · rintro (h | h | h)
        · exact .inr (.inl h)
        · exact .inl h
        · exact .inr (.inr h)
      · rintro (h | h | h)
        · exact .inr (.inl h)
        · exact .inl h
        · exact .inr (.inr h)
theorem sortA_mem (c : Ce) : ∀ (l acc : List Ce), c ∈ sortA acc l ↔ c ∈ acc ∨ c ∈ l
  | [], acc => by simp [sortA]
  | x :: l, acc => by
    rw [sortA, sortA_mem c l, insC_mem, List.mem_cons]
    constructor
    · rintro ((h | h) | h)
      · exact .inr (.inl h)
      · exact .inl h
      · exact .inr (.inr h)
    · rintro (h | h | h)
      · exact .inl (.inr h)
      · exact .inl (.inl h)
      · exact .inr h
theorem sortC_mem (c : Ce) (l : List Ce) : c ∈ sortC l ↔ c ∈ l := by rw [sortC, sortA_mem]; simp
theorem ltC_iff (a b : Ce) : ltC a b = true ↔ a.f0 < b.f0 ∨ a.f0 = b.f0 ∧ a.f1 < b.f1 := by unfold ltC; rw [decide_eq_true_eq]
theorem ltC_trans {a b c : Ce} (h1 : ltC a b = true) (h2 : ltC b c = true) : ltC a c = true := by rw [ltC_iff] at *; omega
theorem ltC_irrefl (a : Ce) : ¬ ltC a a = true := by rw [ltC_iff]; omega
theorem ltC_asymm {a b : Ce} (h1 : ltC a b = true) : ¬ ltC b a = true := by rw [ltC_iff] at *; omega
/-- No two begin at one square. -/
def Apart (l : List Ce) : Prop := l.Pairwise fun a b => ltC a b = true ∨ ltC b a = true
def Up (l : List Ce) : Prop := l.Pairwise fun a b => ltC a b = true
theorem Apart.perm {l m : List Ce} (h : Apart l) (p : l.Perm m) : Apart m := (p.pairwise_iff (R := fun a b => ltC a b = true ∨ ltC b a = true) (fun h => Or.symm h)).1 h
theorem up_eq : ∀ (a b : List Ce), Up a → Up b → a.Perm b → a = b
  | [], b, _, _, p => by rw [List.nil_perm.1 p]
  | x :: a, [], _, _, p => absurd p.length_eq (by simp)
  | x :: a, y :: b, ha, hb, p => by
    have hax := List.pairwise_cons.1 ha
    have hby := List.pairwise_cons.1 hb
    have hxy : x = y := by
      have h1 : x ∈ y :: b := p.subset List.mem_cons_self
      have h2 : y ∈ x :: a := p.symm.subset List.mem_cons_self
      rcases List.mem_cons.1 h1 with h | h
      · exact h
      · rcases List.mem_cons.1 h2 with h' | h'
        · exact h'.symm
        · exact absurd (hby.1 x h) (ltC_asymm (hax.1 y h'))
    subst hxy
    rw [up_eq a b hax.2 hby.2 (List.Perm.cons_inv p)]
theorem insC_perm (x : Ce) : ∀ l : List Ce, (insC x l).Perm (x :: l)
  | [] => List.Perm.refl _
  | y :: l => by
    unfold insC; split
    · exact List.Perm.refl _
    · exact ((insC_perm x l).cons y).trans (List.Perm.swap x y l)
theorem sortA_perm : ∀ (l acc : List Ce), (sortA acc l).Perm (acc ++ l)
  | [], acc => by rw [List.append_nil]; exact List.Perm.refl _
  | x :: l, acc => by
    rw [sortA]
    refine (sortA_perm l _).trans ?_
    refine ((insC_perm x acc).append_right l).trans ?_
    exact (List.perm_middle (a := x) (l₁ := acc) (l₂ := l)).symm
theorem sortC_perm (l : List Ce) : (sortC l).Perm l := sortA_perm l []
theorem insC_up (x : Ce) : ∀ l : List Ce, Up l → (∀ c ∈ l, ltC x c = true ∨ ltC c x = true) → Up (insC x l)
  | [], _, _ => List.pairwise_singleton _ _
  | y :: l, h, hx => by
    have hy := List.pairwise_cons.1 h
    unfold insC; split
    · rename_i e
      refine List.pairwise_cons.2 ⟨fun c hc => ?_, h⟩
      rcases List.mem_cons.1 hc with rfl | hc
      · exact e
      · exact ltC_trans e (hy.1 c hc)
    · rename_i e
      refine List.pairwise_cons.2 ⟨fun c hc => ?_, insC_up x l hy.2 (fun c hc => hx c (List.mem_cons_of_mem _ hc))⟩
      rcases (insC_mem x c l).1 hc with rfl | hc
      · exact (hx y List.mem_cons_self).resolve_left e
      · exact hy.1 c hc
theorem sortA_up : ∀ (l acc : List Ce), Up acc → Apart (acc ++ l) → Up (sortA acc l)
  | [], acc, h, _ => h
  | x :: l, acc, h, ha => by
    rw [sortA]
    have hp : (acc ++ x :: l).Perm (insC x acc ++ l) := (List.perm_middle (a := x) (l₁ := acc) (l₂ := l)).trans ((insC_perm x acc).symm.append_right l)
    refine sortA_up l _ (insC_up x acc h (fun c hc => ?_)) (ha.perm hp)
    have := (List.pairwise_append.1 ha).2.2 c hc x List.mem_cons_self
    exact this.symm
theorem sortC_up {l : List Ce} (h : Apart l) : Up (sortC l) := sortA_up l [] List.Pairwise.nil (by simpa using h)
theorem up_apart {l : List Ce} (h : Up l) : Apart l := h.imp fun h => .inl h
theorem sort_eq {l m : List Ce} (h : Up m) (p : m.Perm l) : m = sortC l := up_eq m _ h (sortC_up ((up_apart h).perm p)) (p.trans (sortC_perm l).symm)
/-- .. told by a number. -/
def apartB : List Ce → Bool
  | [] => true
  | x :: l => l.all (fun y => ltC x y || ltC y x) && apartB l
theorem apartB_iff : ∀ l : List Ce, apartB l = true ↔ Apart l
  | [] => by simp [apartB, Apart]
  | x :: l => by
    rw [apartB, Bool.and_eq_true, List.all_eq_true, apartB_iff l]
    unfold Apart
    rw [List.pairwise_cons]
    simp only [Bool.or_eq_true]
end Go.Proofs.Ytljgbeccmcidkaa.Pure
