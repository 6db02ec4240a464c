/- Plain laws of tables: a new table. Condition: none. Plain laws: what the drawing functions tell is bounded (a number below the bound that was asked, a short text), and they come to an end. Conditions: bytes, at most 2000 of them; fewer than 10^9 numbers drawn so far. Plain laws of tables: squares of none become cells; a new table; a table turned. Conditions: fewer than 1000 cells. -/
import Derived.Test.YtljgbeccmcidkaaXE
import Derived.Test.YtljgbeccmcidkaaXU
import Derived.OpenShut
import Derived.Test.YtljgbeccmcidkaaXT
namespace Go.Proofs.Ytljgbeccmcidkaa.Pure
open Go.RowKit Go.Proofs.Ytljgbeccmcidkaa.P Go.Proofs.YtljgbeccmcidkaaW.PrintWords Go.Proofs.YtljgbeccmcidkaaW.PrintLast
set_option linter.unusedVariables false
set_option linter.unusedSimpArgs false
/-! ### A new table -/
def colC (row : Int) : Nat → Int → List Ce
  | 0, _ => []
  | d + 1, c => ⟨row, c, 1, 1, []⟩ :: colC row d (c + 1)
def gridC (C : Int) : Nat → Int → List Ce
  | 0, _ => []
  | d + 1, r => colC r C.toNat 0 ++ gridC C d (r + 1)
def newT (R C : Int) : Int × Int × List Ce := if inB R 1 5 && inB C 1 5 then (R, C, gridC C R.toNat 0) else (0, 0, [])
theorem colC_len (row : Int) : ∀ (d : Nat) (c : Int), (colC row d c).length = d
  | 0, _ => rfl
  | d + 1, c => by rw [colC, List.length_cons, colC_len row d]
theorem gridC_len (C : Int) : ∀ (d : Nat) (r : Int), (gridC C d r).length = d * C.toNat
  | 0, _ => by simp [gridC]
  | d + 1, r => by rw [gridC, List.length_append, colC_len, gridC_len C d, Nat.add_mul]; omega
theorem colC_text (row : Int) : ∀ (d : Nat) (c : Int), ∀ x ∈ colC row d c, x.f4 = []
  | 0, _, x, hx => by simp [colC] at hx
  | d + 1, c, x, hx => by
    rcases List.mem_cons.1 hx with rfl | hx
    · rfl
    · exact colC_text row d _ x hx
theorem gridC_text (C : Int) : ∀ (d : Nat) (r : Int), ∀ x ∈ gridC C d r, x.f4 = []
  | 0, _, x, hx => by simp [gridC] at hx
  | d + 1, r, x, hx => by
    rcases List.mem_append.1 hx with hx | hx
    · exact colC_text r _ _ x hx
    · exact gridC_text C d _ x hx
theorem new_l1 (R C row : Int) (hC : C ≤ 5) (r : Int × Int × List Ce) : ∀ (d : Nat) (col : Int) (x : List Ce), 0 ≤ col → col + d = C → x.length + d ≤ 1000 →
    Ev (fun k => spec_TableNew.l0 k R C (wrap64 (row + 1)) R C (x ++ colC row d col)) r → Ev (fun k => spec_TableNew.l1 k R C row col R C x) r := by
  intro d
  induction d with
  | zero =>
    intro col x h0 h1 hx h
    refine ev_step (fun k => by rw [spec_TableNew.l1]) (ev_neg (by omega) ?_)
    rw [colC, List.append_nil] at h; exact h
  | succ d ih =>
    intro col x h0 h1 hx h
    refine ev_step (fun k => by rw [spec_TableNew.l1]) (ev_pos (by omega) (ev_pos (by omega) ?_))
    rw [w64 (n := col + 1) (by omega) (by omega)]
    exact ih (col + 1) _ (by omega) (by omega) (by simp; omega) (by rw [List.append_assoc]; exact h)
theorem new_l0 (R C : Int) (hR : R ≤ 5) (hC : 0 ≤ C ∧ C ≤ 5) : ∀ (d : Nat) (row : Int) (x : List Ce), 0 ≤ row → row + d = R → x.length + 5 * d ≤ 900 →
    Ev (fun k => spec_TableNew.l0 k R C row R C x) (R, C, x ++ gridC C d row) := by
  intro d
  induction d with
  | zero =>
    intro row x h0 h1 hx
    refine ev_step (fun k => by rw [spec_TableNew.l0]) (ev_neg (by omega) (ev_s ?_))
    rw [gridC, List.append_nil]
  | succ d ih =>
    intro row x h0 h1 hx
    refine ev_step (fun k => by rw [spec_TableNew.l0]) (ev_pos (by omega) ?_)
    refine new_l1 R C row hC.2 _ C.toNat 0 x (Int.le_refl _) (by omega) (by omega) ?_
    rw [w64 (n := row + 1) (by omega) (by omega), gridC, ← List.append_assoc]
    exact ih (row + 1) _ (by omega) (by omega) (by rw [List.length_append, colC_len]; omega)
theorem specNew (R C : Int) : Ev (fun k => spec_TableNew.f k R C) (newT R C) := by
  have no : ∀ r, r = (0, 0, []) → Ev (fun k => spec_TableNew.j0 k R C true) r := by
    intro r h
    refine ev_step (fun k => by rw [spec_TableNew.j0]) ?_
    exact ev_pos rfl (ev_s h.symm)
  unfold spec_TableNew.f newT
  refine ev_b (l6In_eq _ _ _) ?_
  by_cases h1 : inB R 1 5 = true
  · refine ev_pos h1 (ev_b (l6In_eq _ _ _) ?_)
    by_cases h2 : inB C 1 5 = true
    · rw [h2]
      have hR : 1 ≤ R ∧ R ≤ 5 := by simpa [inB] using h1
      have hC : 1 ≤ C ∧ C ≤ 5 := by simpa [inB] using h2
      refine ev_step (fun k => by rw [spec_TableNew.j0]) (ev_neg (by decide) ?_)
      rw [if_pos (by rw [h1]; rfl)]
      have := new_l0 R C hR.2 ⟨by omega, hC.2⟩ R.toNat 0 [] (Int.le_refl _) (by omega) (by simp; omega)
      rwa [List.nil_append] at this
    · rw [Bool.eq_false_iff.mpr h2]
      exact no _ (by rw [if_neg (by simp)])
  · exact ev_neg h1 (no _ (by rw [if_neg (by simp [h1])]))

end Go.Proofs.Ytljgbeccmcidkaa.Pure
namespace Go.Proofs.Ytljgbeccmcidkaa.Pure
open Go.RowKit Go.Proofs.Ytljgbeccmcidkaa.P Go.Proofs.YtljgbeccmcidkaaW.PrintWords Go.Proofs.YtljgbeccmcidkaaW.PrintLast
set_option linter.unusedVariables false
set_option linter.unusedSimpArgs false

theorem xor_i64 (a b : Nat) (ha : a < 4611686018427387904) (hb : b < 4611686018427387904) : Go.bits .xor .i64 (a : Int) (b : Int) = ((a ^^^ b : Nat) : Int) := by
  have hx : a ^^^ b < 2 ^ 62 := Nat.xor_lt_two_pow (by omega) (by omega)
  have h1 : (BitVec.ofInt 64 (a : Int)).toNat = a := by
    rw [BitVec.ofInt_natCast, BitVec.toNat_ofNat]; exact Nat.mod_eq_of_lt (by omega)
  have h2 : (BitVec.ofInt 64 (b : Int)).toNat = b := by
    rw [BitVec.ofInt_natCast, BitVec.toNat_ofNat]; exact Nat.mod_eq_of_lt (by omega)
  show IntKind.i64.wrap ((BitVec.ofInt 64 (a : Int) ^^^ BitVec.ofInt 64 (b : Int)).toNat : Int) = _
  rw [BitVec.toNat_xor, h1, h2]
  simp [IntKind.wrap, IntKind.bits, IntKind.signed]
  omega
theorem xor_nonneg {a b : Int} (ha : 0 ≤ a) (ha' : a < 4611686018427387904) (hb : 0 ≤ b) (hb' : b < 4611686018427387904) : 0 ≤ Go.bits .xor .i64 a b := by
  obtain ⟨m, rfl⟩ := Int.eq_ofNat_of_zero_le ha
  obtain ⟨n, rfl⟩ := Int.eq_ofNat_of_zero_le hb
  rw [xor_i64 m n (by omega) (by omega)]
  omega
/-- What can be read of: bytes, not too many. -/
structure Bytes (b : List Int) : Prop where
  len : b.length ≤ 2000
  rng : ∀ i : Int, 0 ≤ rd b i ∧ rd b i ≤ 255
theorem Bytes.mk' {b : List Int} (hl : b.length ≤ 2000) (hb : ∀ x ∈ b, 0 ≤ x ∧ x ≤ 255) : Bytes b := by
  refine ⟨hl, fun i => ?_⟩
  unfold rd
  rw [List.getD_eq_getElem?_getD]
  cases h : b[i.toNat]? with
  | none => simp
  | some x => exact hb x (List.mem_of_getElem? h)
theorem pick_ev {b : List Int} (hb : Bytes b) (p n : Int) (h0 : 0 ≤ p) (h1 : p ≤ 1000000000) :
    ∃ v, Ev (fun k => spec_l6Rd_pick.f k b p n) (v, p + 1) ∧ 0 ≤ v ∧ (v = 0 ∨ v < n) := by
  have hl := hb.len
  have fin : ∀ x : Int, 0 ≤ x → 1 ≤ n → 0 ≤ Int.tmod x n ∧ (Int.tmod x n = 0 ∨ Int.tmod x n < n) := fun x hx hn => ⟨Int.tmod_nonneg _ hx, .inr (Int.tmod_lt_of_pos _ (by omega))⟩
  have zero : Ev (fun k => spec_l6Rd_pick.j0 k n true b (p + 1)) (0, p + 1) := ev_step (fun k => by rw [spec_l6Rd_pick.j0]) (ev_pos rfl (ev_s rfl))
  unfold spec_l6Rd_pick.f
  rw [w64 (by omega : -9223372036854775808 ≤ p + 1) (by omega)]
  by_cases hn : n < 1
  · exact ⟨0, ev_pos hn zero, by omega, .inl rfl⟩
  by_cases he : b.length = 0
  · refine ⟨0, ev_neg hn ?_, by omega, .inl rfl⟩
    rw [show ((b.length : Int) == 0) = true from beq_iff_eq.2 (by omega)]
    exact zero
  have hne : ((b.length : Int) == 0) = false := beq_eq_false_iff_ne.2 (by omega)
  have hw : wrap64 (p + 1 - 1) = p := by rw [w64 (by omega) (by omega)]; omega
  by_cases hp : p < (b.length : Int)
  · have hr := hb.rng p
    refine ⟨Int.tmod (rd b p) n, ev_neg hn ?_, fin _ (by omega) (by omega)⟩
    rw [hne]
    refine ev_step (fun k => by rw [spec_l6Rd_pick.j0]) (ev_neg (by decide) ?_)
    rw [hw, w64 (n := rd b p) (by omega) (by omega)]
    exact ev_pos hp (ev_pos h0 (ev_neg (by omega) (ev_s rfl)))
  · have m1 : 0 ≤ Int.tmod p (b.length : Int) ∧ Int.tmod p (b.length : Int) < (b.length : Int) := ⟨Int.tmod_nonneg _ h0, Int.tmod_lt_of_pos _ (by omega)⟩
    have hp7 : wrap64 (wrap64 (p * 7) + 3) = p * 7 + 3 := by rw [w64 (n := p * 7) (by omega) (by omega), w64 (by omega) (by omega)]
    have m2 : 0 ≤ Int.tmod (p * 7 + 3) (b.length : Int) ∧ Int.tmod (p * 7 + 3) (b.length : Int) < (b.length : Int) := ⟨Int.tmod_nonneg _ (by omega), Int.tmod_lt_of_pos _ (by omega)⟩
    have d1 : 0 ≤ Int.tdiv p (b.length : Int) ∧ Int.tdiv p (b.length : Int) ≤ p := by
      refine ⟨Int.tdiv_nonneg h0 (by omega), ?_⟩
      rw [Int.tdiv_eq_ediv_of_nonneg h0]
      exact Int.ediv_le_self _ h0
    have r1 := hb.rng (Int.tmod p (b.length : Int))
    have r2 := hb.rng (Int.tmod (p * 7 + 3) (b.length : Int))
    obtain ⟨x, hx⟩ : ∃ x, x = rd b (Int.tmod p (b.length : Int)) * 131 + rd b (Int.tmod (p * 7 + 3) (b.length : Int)) * 1117 + p * 29 + Int.tdiv p (b.length : Int) * 53 := ⟨_, rfl⟩
    have hx0 : 0 ≤ x := by omega
    have hx1 : x < 1000000000000 := by omega
    have dx : 0 ≤ Int.tdiv x 64 ∧ Int.tdiv x 64 ≤ x := by
      refine ⟨Int.tdiv_nonneg hx0 (by omega), ?_⟩
      rw [Int.tdiv_eq_ediv_of_nonneg hx0]
      exact Int.ediv_le_self _ hx0
    refine ⟨Int.tmod (Go.bits .xor .i64 x (Int.tdiv x 64)) n, ev_neg hn ?_, fin _ (xor_nonneg hx0 (by omega) dx.1 (by omega)) (by omega)⟩
    rw [hne]
    refine ev_step (fun k => by rw [spec_l6Rd_pick.j0]) (ev_neg (by decide) ?_)
    have hX : wrap64 ((wrap64 ((wrap64 ((wrap64 ((wrap64 (rd b (Int.tmod p (b.length : Int)))) * 131)) + (wrap64 ((wrap64 (rd b (Int.tmod (p * 7 + 3) (b.length : Int)))) * 1117)))) + (wrap64 (p * 29)))) + (wrap64 ((wrap64 (Int.tdiv p (b.length : Int))) * 53))) = x := by
      rw [w64 (n := rd b (Int.tmod p (b.length : Int))) (by omega) (by omega), w64 (n := rd b (Int.tmod p (b.length : Int)) * 131) (by omega) (by omega),
        w64 (n := rd b (Int.tmod (p * 7 + 3) (b.length : Int))) (by omega) (by omega), w64 (n := rd b (Int.tmod (p * 7 + 3) (b.length : Int)) * 1117) (by omega) (by omega),
        w64 (n := p * 29) (by omega) (by omega), w64 (n := Int.tdiv p (b.length : Int)) (by omega) (by omega), w64 (n := Int.tdiv p (b.length : Int) * 53) (by omega) (by omega),
        w64 (n := rd b (Int.tmod p (b.length : Int)) * 131 + rd b (Int.tmod (p * 7 + 3) (b.length : Int)) * 1117) (by omega) (by omega),
        w64 (n := rd b (Int.tmod p (b.length : Int)) * 131 + rd b (Int.tmod (p * 7 + 3) (b.length : Int)) * 1117 + p * 29) (by omega) (by omega), ← hx, w64 (by omega) (by omega)]
    rw [hw, hp7, hX, w64 (n := Int.tdiv x 64) (by omega) (by omega)]
    exact ev_neg hp (ev_neg (by omega) (ev_pos m1.1 (ev_pos m1.2 (ev_pos m2.1 (ev_pos m2.2 (ev_neg (by omega) (ev_s rfl)))))))
theorem open_eq (l : List Int) (hl : ∀ x ∈ l, (Lit.int .u8 x).wf = true) : ∃ b, Bytes b ∧ spec_l6Open.f l = some (b, 0) := by
  have hb : ∀ x ∈ l, 0 ≤ x ∧ x ≤ 255 := fun x hx => bounds_u8 (hl x hx)
  unfold spec_l6Open.f
  by_cases h : (l.length : Int) > 2000
  · refine ⟨l.take 2000, .mk' (by simp; omega) (fun x hx => hb x (List.mem_of_mem_take hx)), ?_⟩
    rw [if_pos h, if_pos (by omega)]
  · exact ⟨l, .mk' (by omega) hb, by rw [if_neg h]⟩

end Go.Proofs.Ytljgbeccmcidkaa.Pure
namespace Go.Proofs.Ytljgbeccmcidkaa.Pure
open Go.RowKit Go.Proofs.Ytljgbeccmcidkaa.P Go.Proofs.YtljgbeccmcidkaaW.PrintWords Go.Proofs.YtljgbeccmcidkaaW.PrintLast
set_option linter.unusedVariables false
set_option linter.unusedSimpArgs false

def oneC (row col : Int) : Ce := ⟨row, col, 1, 1, []⟩
def addCol (row : Int) : Nat → Int → List Ce → List Ce
  | 0, _, l => l
  | d + 1, c, l => addCol row d (c + 1) (if cntC row c l = 0 then l ++ [oneC row c] else l)
def addRow (C : Int) : Nat → Int → List Ce → List Ce
  | 0, _, l => l
  | d + 1, r, l => addRow C d (r + 1) (addCol r C.toNat 0 l)
theorem addCol_len (row : Int) : ∀ (d : Nat) (c : Int) (l : List Ce), (addCol row d c l).length ≤ l.length + d
  | 0, _, l => Nat.le_refl _
  | d + 1, c, l => by
    rw [addCol]
    refine Nat.le_trans (addCol_len row d _ _) ?_
    split
    · rw [List.length_append, List.length_singleton]; omega
    · omega
theorem blank_l1 (R C row : Int) (hC : C ≤ 5) (r : Int × Int × List Ce) : ∀ (d : Nat) (col : Int) (l : List Ce), 0 ≤ col → col + d = C → l.length + d ≤ 1000 →
    Ev (fun k => impl_Table_blank.l0 k R (wrap64 (row + 1)) R C (addCol row d col l)) r → Ev (fun k => impl_Table_blank.l1 k row R row C col R C l) r := by
  intro d
  induction d with
  | zero =>
    intro col l h0 h1 hl h
    refine ev_step (fun k => by rw [impl_Table_blank.l1]) ?_
    exact ev_neg (by omega) h
  | succ d ih =>
    intro col l h0 h1 hl h
    rw [addCol] at h
    have ea := at_eq R C l (by omega) row col
    have hw : wrap64 (col + 1) = col + 1 := w64 (by omega) (by omega)
    by_cases hn : atZ row col l 0 < 0
    · rw [if_pos ((at_neg row col l 0 (Int.le_refl _)).1 hn)] at h
      refine ev_step (fun k => by rw [impl_Table_blank.l1]) ?_
      refine ev_pos (by omega) (ev_b ea (ev_pos hn (ev_pos (by omega) ?_)))
      rw [hw]
      exact ih (col + 1) _ (by omega) (by omega) (by rw [List.length_append, List.length_singleton]; omega) h
    · rw [if_neg (fun e => hn ((at_neg row col l 0 (Int.le_refl _)).2 e))] at h
      refine ev_step (fun k => by rw [impl_Table_blank.l1]) ?_
      refine ev_pos (by omega) (ev_b ea (ev_neg hn ?_))
      rw [hw]
      exact ih (col + 1) _ (by omega) (by omega) (by omega) h
theorem blank_l0 (R C : Int) (hR : R ≤ 5) (hC : 0 ≤ C ∧ C ≤ 5) : ∀ (d : Nat) (row : Int) (l : List Ce), 0 ≤ row → row + d = R → l.length + 5 * d ≤ 900 →
    Ev (fun k => impl_Table_blank.l0 k R row R C l) (R, C, addRow C d row l) := by
  intro d
  induction d with
  | zero =>
    intro row l h0 h1 hl
    refine ev_step (fun k => by rw [impl_Table_blank.l0]) ?_
    exact ev_neg (by omega) (ev_s rfl)
  | succ d ih =>
    intro row l h0 h1 hl
    rw [addRow]
    refine ev_step (fun k => by rw [impl_Table_blank.l0]) (ev_pos (by omega) ?_)
    refine blank_l1 R C row hC.2 _ C.toNat 0 l (Int.le_refl _) (by omega) (by omega) ?_
    rw [w64 (n := row + 1) (by omega) (by omega)]
    have := addCol_len row C.toNat 0 l
    exact ih (row + 1) _ (by omega) (by omega) (by omega)
theorem blank_ev (R C : Int) (hR : 0 ≤ R ∧ R ≤ 5) (hC : 0 ≤ C ∧ C ≤ 5) (l m : List Ce) (hl : l.length ≤ 800) (hm : addRow C R.toNat 0 l = m) (h1 : 0 < m.length) (h2 : m.length ≤ 1000) (h3 : Apart m) :
    Ev (fun k => impl_Table_blank.f k R C l) (R, C, sortC m) := by
  unfold impl_Table_blank.f
  refine ev_bind (blank_l0 R C hR.2 hC R.toNat 0 l (Int.le_refl _) (by omega) (by omega)) ?_
  rw [hm]
  exact ev_pos h1 (ev_pos (by show m.length < _; omega) (ev_pos ((apartB_iff m).2 h3) (ev_s rfl)))

/-! ### A new table -/
def Inv (l : List Ce) (row c : Int) : Prop := Up l ∧ ∀ x ∈ l, x.f2 = 1 ∧ x.f3 = 1 ∧ (0 ≤ x.f0 ∧ x.f0 ≤ 5) ∧ (0 ≤ x.f1 ∧ x.f1 ≤ 5) ∧ (x.f0 < row ∨ x.f0 = row ∧ x.f1 < c)
theorem cnt_zero (row col : Int) : ∀ l : List Ce, (∀ x ∈ l, sqB row col x = false) → cntC row col l = 0
  | [], _ => rfl
  | x :: l, h => by rw [cntC, h x List.mem_cons_self, cnt_zero row col l (fun y hy => h y (List.mem_cons_of_mem _ hy))]; rfl
theorem one_sq {x : Ce} (h2 : x.f2 = 1) (h3 : x.f3 = 1) (h0 : 0 ≤ x.f0 ∧ x.f0 ≤ 5) (h1 : 0 ≤ x.f1 ∧ x.f1 ≤ 5) (row col : Int) : sqB row col x = true ↔ x.f0 = row ∧ x.f1 = col := by
  unfold sqB
  rw [h2, h3, w64 (n := x.f0 + 1) (by omega) (by omega), w64 (n := x.f1 + 1) (by omega) (by omega)]
  simp only [Bool.and_eq_true, decide_eq_true_eq]
  omega
theorem inv_add {l : List Ce} {row c : Int} (h : Inv l row c) (hr : 0 ≤ row ∧ row ≤ 5) (hc : 0 ≤ c ∧ c ≤ 5) : Inv (l ++ [oneC row c]) row (c + 1) := by
  refine ⟨List.pairwise_append.2 ⟨h.1, List.pairwise_singleton _ _, fun a ha b hb => ?_⟩, fun x hx => ?_⟩
  · rw [List.mem_singleton] at hb
    subst hb
    rw [ltC_iff]
    exact (h.2 a ha).2.2.2.2
  · rcases List.mem_append.1 hx with hx | hx
    · obtain ⟨a, b, d, e, f⟩ := h.2 x hx
      exact ⟨a, b, d, e, by omega⟩
    · rw [List.mem_singleton] at hx
      subst hx
      exact ⟨rfl, rfl, hr, hc, by show row < row ∨ row = row ∧ c < c + 1; omega⟩
theorem addCol_free (row : Int) (hr : 0 ≤ row ∧ row ≤ 5) : ∀ (d : Nat) (c : Int) (l : List Ce), Inv l row c → 0 ≤ c → c + d ≤ 5 → addCol row d c l = l ++ colC row d c ∧ Inv (l ++ colC row d c) row (c + d)
  | 0, c, l, h, h0, h1 => by
    rw [addCol, colC, List.append_nil]
    exact ⟨rfl, by rwa [show c + ((0 : Nat) : Int) = c by omega]⟩
  | d + 1, c, l, h, h0, h1 => by
    have hz : cntC row c l = 0 := cnt_zero row c l (fun x hx => by
      obtain ⟨a, b, d', e, f⟩ := h.2 x hx
      rw [Bool.eq_false_iff]
      intro hs
      have := (one_sq a b d' e row c).1 hs
      omega)
    rw [addCol, if_pos hz, colC]
    have ih := addCol_free row hr d (c + 1) (l ++ [oneC row c]) (inv_add h hr ⟨h0, by omega⟩) (by omega) (by omega)
    rw [List.append_assoc] at ih
    rw [show c + ((d + 1 : Nat) : Int) = c + 1 + (d : Int) by omega]
    exact ih
theorem addRow_free (C : Int) (hC : 0 ≤ C ∧ C ≤ 5) : ∀ (d : Nat) (row : Int) (l : List Ce), Inv l row 0 → 0 ≤ row → row + d ≤ 5 → addRow C d row l = l ++ gridC C d row ∧ Inv (l ++ gridC C d row) (row + d) 0
  | 0, row, l, h, h0, h1 => by
    rw [addRow, gridC, List.append_nil]
    exact ⟨rfl, by rwa [show row + ((0 : Nat) : Int) = row by omega]⟩
  | d + 1, row, l, h, h0, h1 => by
    obtain ⟨e1, i1⟩ := addCol_free row ⟨h0, by omega⟩ C.toNat 0 l h (Int.le_refl _) (by omega)
    have i2 : Inv (l ++ colC row C.toNat 0) (row + 1) 0 := ⟨i1.1, fun x hx => by
      obtain ⟨a, b, d', e, f⟩ := i1.2 x hx
      exact ⟨a, b, d', e, by omega⟩⟩
    have ih := addRow_free C hC d (row + 1) _ i2 (by omega) (by omega)
    rw [addRow, e1, gridC]
    rw [List.append_assoc] at ih
    rw [show row + ((d + 1 : Nat) : Int) = row + 1 + (d : Int) by omega]
    exact ih
theorem inv_nil : Inv [] 0 0 := ⟨List.Pairwise.nil, fun x hx => by cases hx⟩
theorem grid_inv {R C : Int} (hR : 0 ≤ R ∧ R ≤ 5) (hC : 0 ≤ C ∧ C ≤ 5) : addRow C R.toNat 0 [] = gridC C R.toNat 0 ∧ Up (gridC C R.toNat 0) := by
  obtain ⟨a, b⟩ := addRow_free C hC R.toNat 0 [] inv_nil (Int.le_refl _) (by omega)
  exact ⟨a, b.1⟩
theorem implNew (R C : Int) : Ev (fun k => impl_TableNew.f k R C) (newT R C) := by
  unfold impl_TableNew.f newT
  by_cases h1 : inB R 1 5 = true
  · refine ev_b (within_eq _ _ _) (ev_pos h1 (ev_b (within_eq _ _ _) ?_))
    by_cases h2 : inB C 1 5 = true
    · have hR : 1 ≤ R ∧ R ≤ 5 := by simpa [inB] using h1
      have hC : 1 ≤ C ∧ C ≤ 5 := by simpa [inB] using h2
      obtain ⟨e, u⟩ := grid_inv (R := R) (C := C) ⟨by omega, hR.2⟩ ⟨by omega, hC.2⟩
      have hlen := gridC_len C R.toNat 0
      have hpos : 0 < R.toNat * C.toNat := Nat.mul_pos (by omega) (by omega)
      have hle := Nat.mul_le_mul (show R.toNat ≤ 5 by omega) (show C.toNat ≤ 5 by omega)
      have hb := blank_ev R C ⟨by omega, hR.2⟩ ⟨by omega, hC.2⟩ [] _ (by simp) e (by omega) (by omega) (up_apart u)
      rw [← sort_eq u (List.Perm.refl _)] at hb
      refine ev_pos h2 (ev_bind hb (ev_s ?_))
      rw [if_pos (by rw [h1, h2]; rfl)]
    · refine ev_neg h2 (ev_s ?_)
      rw [if_neg (by simp [h2])]
  · refine ev_b (within_eq _ _ _) (ev_neg h1 (ev_s ?_))
    rw [if_neg (by simp [h1])]

/-! ### A table turned -/
def swapC (x : Ce) : Ce := ⟨x.f1, x.f0, x.f3, x.f2, x.f4⟩
def turnC (l : List Ce) : List Ce := sortC (l.map swapC)
theorem sq_swap (row col : Int) (x : Ce) : sqB col row (swapC x) = sqB row col x := by
  unfold sqB swapC
  rw [Bool.eq_iff_iff]
  simp only [Bool.and_eq_true, decide_eq_true_eq]
  exact ⟨fun ⟨a, b, c, d⟩ => ⟨c, d, a, b⟩, fun ⟨a, b, c, d⟩ => ⟨c, d, a, b⟩⟩
theorem cnt_swap (row col : Int) : ∀ l : List Ce, cntC col row (l.map swapC) = cntC row col l
  | [] => rfl
  | x :: l => by rw [List.map_cons, cntC, cntC, sq_swap, cnt_swap row col l]
theorem apart_iff (a b : Ce) : (ltC a b = true ∨ ltC b a = true) ↔ ¬ (a.f0 = b.f0 ∧ a.f1 = b.f1) := by rw [ltC_iff, ltC_iff]; omega
theorem apart_swap {l : List Ce} (h : Apart l) : Apart (l.map swapC) := by
  unfold Apart
  rw [List.pairwise_map]
  refine h.imp (fun {a b} hab => ?_)
  rw [apart_iff] at hab ⊢
  intro h2
  exact hab ⟨h2.2, h2.1⟩
theorem addCol_full (row : Int) : ∀ (d : Nat) (c : Int) (l : List Ce), (∀ y, c ≤ y → y < c + d → cntC row y l ≠ 0) → addCol row d c l = l
  | 0, _, _, _ => rfl
  | d + 1, c, l, h => by
    rw [addCol, if_neg (h c (by omega) (by omega))]
    exact addCol_full row d (c + 1) l (fun y h1 h2 => h y (by omega) (by omega))
theorem addRow_full (C : Int) (hC : 0 ≤ C) : ∀ (d : Nat) (r : Int) (l : List Ce), (∀ x y, r ≤ x → x < r + d → 0 ≤ y → y < C → cntC x y l ≠ 0) → addRow C d r l = l
  | 0, _, _, _ => rfl
  | d + 1, r, l, h => by
    rw [addRow, addCol_full r C.toNat 0 l (fun y h1 h2 => h r y (by omega) (by omega) h1 (by omega))]
    exact addRow_full C hC d (r + 1) l (fun x y h1 h2 h3 h4 => h x y (by omega) (by omega) h3 h4)
theorem form_up {R C : Int} : ∀ (l : List Ce) (p : Option Ce), formL R C p l = true → Up l ∧ ∀ q, p = some q → ∀ x ∈ l, ltC q x = true
  | [], _, _ => ⟨List.Pairwise.nil, fun _ _ x hx => by cases hx⟩
  | c :: l, p, h => by
    rw [formL, Bool.and_eq_true, Bool.and_eq_true] at h
    obtain ⟨i1, i2⟩ := form_up l (some c) h.2.2
    have hc := i2 c rfl
    refine ⟨List.pairwise_cons.2 ⟨hc, i1⟩, fun q hq x hx => ?_⟩
    subst hq
    have h0 : ltC q c = true := h.2.1
    rcases List.mem_cons.1 hx with rfl | hx
    · exact h0
    · exact ltC_trans h0 (hc x hx)
theorem form_of {R C : Int} : ∀ (l : List Ce) (p : Option Ce), (∀ x ∈ l, cellB R C x = true) → Up l → (∀ q, p = some q → ∀ x ∈ l, ltC q x = true) → formL R C p l = true
  | [], _, _, _, _ => rfl
  | c :: l, p, hc, hu, hp => by
    have hu' := List.pairwise_cons.1 hu
    rw [formL, hc c List.mem_cons_self, Bool.true_and, form_of l (some c) (fun x hx => hc x (List.mem_cons_of_mem _ hx)) hu'.2 (fun q hq x hx => by cases hq; exact hu'.1 x hx), Bool.and_true]
    cases p with
    | none => rfl
    | some q => exact hp q rfl c List.mem_cons_self
theorem clone_eq (t : List Sg) (hs : t.length < 5000000000000) : impl_cloneText.f t = some t := by
  unfold impl_cloneText.f
  show (if ([] : List Sg).length + t.length < _ then _ else _) = _
  rw [if_pos (by simp; omega), List.nil_append]
theorem turn_l0 (R C : Int) (l : List Ce) (hl : l.length ≤ 700) (hx : ∀ x ∈ l, x.f4.length ≤ 1000) (r : Int × Int × List Ce) (hr : Ev (fun k => impl_Table_blank.f k C R (l.map swapC)) r) : ∀ (d i : Nat) (x : List Ce), i + d = l.length → x.length = i → x ++ (l.drop i).map swapC = l.map swapC →
    Ev (fun k => impl_Table_turn.l0 k l (l.length : Int) (i : Int) C R x) r := by
  intro d
  induction d with
  | zero =>
    intro i x hi hlx he
    rw [List.drop_of_length_le (by omega), List.map_nil, List.append_nil] at he
    refine ev_step (fun k => by rw [impl_Table_turn.l0]) ?_
    refine ev_neg (by omega) ?_
    rw [he]
    exact ev_bind hr (ev_s rfl)
  | succ d ih =>
    intro i x hi hlx he
    have hil : i < l.length := by omega
    have g1 : (i : Int) < (l.length : Int) := by omega
    have g2 : (0 : Int) ≤ (i : Int) := by omega
    have g3 : x.length < 2513169434916 := by omega
    rw [drop_ceN l i hil, List.map_cons] at he
    have hcl := clone_eq (rd_T30 l (i : Int)).f4 (by have := hx _ (rd_mem l i hil); omega)
    refine ev_step (fun k => by rw [impl_Table_turn.l0]) ?_
    refine ev_pos g1 (ev_pos g2 (ev_pos g1 (ev_b hcl (ev_pos g3 ?_))))
    rw [succ64 (n := l.length) hil (by omega)]
    refine ih (i + 1) _ (by omega) (by simp; omega) ?_
    rw [List.append_assoc]; exact he
theorem turn_ev {R C : Int} {l : List Ce} (h : okB R C l = true) : Ev (fun k => impl_Table_turn.f k R C l) (C, R, turnC l) := by
  have hlen := ok_len h
  have hp := h
  simp only [okB, Bool.and_eq_true] at hp
  have hR : 1 ≤ R ∧ R ≤ 5 := by simpa [inB] using hp.1
  have hC : 1 ≤ C ∧ C ≤ 5 := by simpa [inB] using hp.2.1
  have hm := form_mem _ _ hp.2.2.1
  have hcov := (cov_iff l (by omega) (by omega)).1 hp.2.2.2
  have hlpos : 0 < l.length := by
    have h1 := hcov 0 0 (Int.le_refl _) (by omega) (Int.le_refl _) (by omega)
    cases l with
    | nil => cases h1
    | cons a l => simp
  have hfull : addRow R C.toNat 0 (l.map swapC) = l.map swapC := addRow_full R (by omega) C.toNat 0 _ (fun x y h1 h2 h3 h4 => by
    rw [cnt_swap, hcov y x h3 h4 h1 (by omega)]; decide)
  have hb := blank_ev C R ⟨by omega, hC.2⟩ ⟨by omega, hR.2⟩ (l.map swapC) _ (by simp; omega) hfull (by simpa using hlpos) (by simp; omega) (apart_swap (up_apart (form_up l none hp.2.2.1).1))
  unfold impl_Table_turn.f
  exact turn_l0 R C l (by omega) (fun x hx => by
    have := of_decide_eq_true (Bool.and_eq_true_iff.1 (cell_parts (hm x hx)).2.2.2.2).1
    omega) _ hb l.length 0 [] (by omega) rfl (by rw [List.drop_zero]; rfl)
def turnT (R C : Int) (l : List Ce) : Int × Int × List Ce := if okB R C l = true then (C, R, turnC l) else (0, 0, [])
theorem implTurn (R C : Int) (l : List Ce) (hs : l.length ≤ 1048576) (hx : ∀ c ∈ l, c.f4.length < 4611686018427387904) : Ev (fun k => impl_TableTurn.f k R C l) (turnT R C l) := by
  unfold impl_TableTurn.f turnT
  refine ev_bind (implTableOk R C l hs hx) ?_
  by_cases h : okB R C l = true
  · refine ev_pos h (ev_bind (turn_ev h) (ev_s ?_))
    rw [if_pos h]
  · refine ev_neg h (ev_s ?_)
    rw [if_neg h]

/-! ### The new table is one; turned it is the new table of as many columns -/
theorem col_mem (row : Int) (x : Ce) : ∀ (d : Nat) (c : Int), x ∈ colC row d c ↔ ∃ j, c ≤ j ∧ j < c + d ∧ x = oneC row j
  | 0, c => by
    rw [colC]
    constructor
    · intro h; cases h
    · rintro ⟨j, h1, h2, _⟩; omega
  | d + 1, c => by
    rw [colC, List.mem_cons, col_mem row x d (c + 1)]
    constructor
    · rintro (h | ⟨j, h1, h2, h3⟩)
      · exact ⟨c, Int.le_refl _, by omega, h⟩
      · exact ⟨j, by omega, by omega, h3⟩
    · rintro ⟨j, h1, h2, h3⟩
      by_cases e : j = c
      · exact .inl (by rw [h3, e]; rfl)
      · exact .inr ⟨j, by omega, by omega, h3⟩
theorem grid_mem (C : Int) (hC : 0 ≤ C) (x : Ce) : ∀ (d : Nat) (r : Int), x ∈ gridC C d r ↔ ∃ i j, r ≤ i ∧ i < r + d ∧ 0 ≤ j ∧ j < C ∧ x = oneC i j
  | 0, r => by
    rw [gridC]
    constructor
    · intro h; cases h
    · rintro ⟨i, j, h1, h2, _⟩; omega
  | d + 1, r => by
    rw [gridC, List.mem_append, col_mem, grid_mem C hC x d (r + 1)]
    constructor
    · rintro (⟨j, h1, h2, h3⟩ | ⟨i, j, h1, h2, h3, h4, h5⟩)
      · exact ⟨r, j, Int.le_refl _, by omega, h1, by omega, h3⟩
      · exact ⟨i, j, by omega, by omega, h3, h4, h5⟩
    · rintro ⟨i, j, h1, h2, h3, h4, h5⟩
      by_cases e : i = r
      · subst e; exact .inl ⟨j, h3, by omega, h5⟩
      · exact .inr ⟨i, j, by omega, by omega, h3, h4, h5⟩
theorem up_mem : ∀ (a b : List Ce), Up a → Up b → (∀ x, x ∈ a ↔ x ∈ b) → a = b
  | [], [], _, _, _ => rfl
  | [], y :: b, _, _, h => absurd ((h y).2 List.mem_cons_self) (by simp)
  | x :: a, [], _, _, h => absurd ((h x).1 List.mem_cons_self) (by simp)
  | x :: a, y :: b, ha, hb, h => by
    have hax := List.pairwise_cons.1 ha
    have hby := List.pairwise_cons.1 hb
    have hxy : x = y := by
      rcases List.mem_cons.1 ((h x).1 List.mem_cons_self) with e | e
      · exact e
      · rcases List.mem_cons.1 ((h y).2 List.mem_cons_self) with e' | e'
        · exact e'.symm
        · exact absurd (hby.1 x e) (ltC_asymm (hax.1 y e'))
    subst hxy
    rw [up_mem a b hax.2 hby.2 (fun z => by
      constructor
      · intro hz
        rcases List.mem_cons.1 ((h z).1 (List.mem_cons_of_mem _ hz)) with e | e
        · subst e; exact absurd (hax.1 z hz) (ltC_irrefl z)
        · exact e
      · intro hz
        rcases List.mem_cons.1 ((h z).2 (List.mem_cons_of_mem _ hz)) with e | e
        · subst e; exact absurd (hby.1 z hz) (ltC_irrefl z)
        · exact e)]
theorem cnt_pos (row col : Int) : ∀ (l : List Ce) (x : Ce), x ∈ l → sqB row col x = true → 0 < cntC row col l
  | [], _, h, _ => by cases h
  | y :: l, x, h, hs => by
    rw [cntC]
    have hn := cnt_nonneg row col l
    rcases List.mem_cons.1 h with e | h
    · subst e; rw [if_pos hs]; omega
    · have := cnt_pos row col l x h hs
      split <;> omega
theorem area_ones : ∀ l : List Ce, (∀ x ∈ l, x.f2 = 1 ∧ x.f3 = 1) → areaC l = l.length
  | [], _ => rfl
  | x :: l, h => by
    have h1 := h x List.mem_cons_self
    rw [areaC, h1.1, h1.2, area_ones l (fun y hy => h y (List.mem_cons_of_mem _ hy)), List.length_cons]; omega
theorem textB_nil0 : textB [] = true := rfl
theorem grid_ok {R C : Int} (hR : 1 ≤ R ∧ R ≤ 5) (hC : 1 ≤ C ∧ C ≤ 5) : okB R C (gridC C R.toNat 0) = true := by
  have hu := (grid_inv (R := R) (C := C) ⟨by omega, hR.2⟩ ⟨by omega, hC.2⟩).2
  have hmem := fun x => grid_mem C (by omega) x R.toNat 0
  have hc : ∀ x ∈ gridC C R.toNat 0, cellB R C x = true := by
    intro x hx
    obtain ⟨i, j, h1, h2, h3, h4, rfl⟩ := (hmem x).1 hx
    have hiR : i < R := by omega
    simp only [cellB, oneC, inB, textB_nil0, Bool.and_true, Bool.and_eq_true, decide_eq_true_eq]
    exact ⟨decide_eq_true ⟨h1, by omega⟩, decide_eq_true ⟨h3, by omega⟩, decide_eq_true ⟨by decide, by omega⟩, decide_eq_true ⟨by decide, by omega⟩⟩
  have h1 : inB R 1 5 = true := by simp [inB, hR]
  have h2 : inB C 1 5 = true := by simp [inB, hC]
  rw [okB, h1, h2, form_of _ none hc hu (fun q hq => by cases hq), cov_area hR hC _ hc, Bool.true_and, Bool.true_and, Bool.true_and, Bool.and_eq_true, beq_iff_eq, allB_iff]
  constructor
  · intro row r1 r2
    rw [allB_iff]
    intro col c1 c2
    refine decide_eq_true (cnt_pos row col _ (oneC row col) ((hmem _).2 ⟨row, col, r1, by omega, c1, by omega, rfl⟩) ?_)
    exact (one_sq rfl rfl ⟨r1, by show row ≤ 5; omega⟩ ⟨c1, by show col ≤ 5; omega⟩ row col).2 ⟨rfl, rfl⟩
  · rw [area_ones _ (fun x hx => by obtain ⟨i, j, _, _, _, _, rfl⟩ := (hmem x).1 hx; exact ⟨rfl, rfl⟩), gridC_len]
    have m25 := mul25 (R := R) (C := C) ⟨by omega, hR.2⟩ ⟨by omega, hC.2⟩
    rw [w64 (by omega) (by omega), Int.natCast_mul, Int.toNat_of_nonneg (by omega), Int.toNat_of_nonneg (by omega)]
theorem grid_turn {R C : Int} (hR : 1 ≤ R ∧ R ≤ 5) (hC : 1 ≤ C ∧ C ≤ 5) : turnC (gridC C R.toNat 0) = gridC R C.toNat 0 := by
  have hu := (grid_inv (R := R) (C := C) ⟨by omega, hR.2⟩ ⟨by omega, hC.2⟩).2
  have hu2 := (grid_inv (R := C) (C := R) ⟨by omega, hC.2⟩ ⟨by omega, hR.2⟩).2
  refine up_mem _ _ (sortC_up (apart_swap (up_apart hu))) hu2 (fun x => ?_)
  unfold turnC
  rw [sortC_mem, List.mem_map, grid_mem R (by omega)]
  constructor
  · rintro ⟨y, hy, rfl⟩
    obtain ⟨i, j, h1, h2, h3, h4, rfl⟩ := (grid_mem C (by omega) y R.toNat 0).1 hy
    exact ⟨j, i, h3, by omega, h1, by omega, rfl⟩
  · rintro ⟨i, j, h1, h2, h3, h4, rfl⟩
    exact ⟨oneC j i, (grid_mem C (by omega) _ R.toNat 0).2 ⟨j, i, h3, by omega, h1, by omega, rfl⟩, rfl⟩
end Go.Proofs.Ytljgbeccmcidkaa.Pure
