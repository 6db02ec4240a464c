/- The plain law behind FnTableNew. Condition: bytes. -/
import Derived.Test.YtljgbeccmcidkaaXPLawsFnTableNew
import Derived.Test.YtljgbeccmcidkaaXK
namespace Go.Proofs.Ytljgbeccmcidkaa.Pure
open Go.RowKit Go.Proofs.Ytljgbeccmcidkaa.P Go.Proofs.YtljgbeccmcidkaaW.PrintWords Go.Proofs.YtljgbeccmcidkaaW.PrintLast
set_option linter.unusedVariables false
set_option linter.unusedSimpArgs false
theorem lmS_l0 (t : List Sg) (hs : t.length ≤ 1048576) : ∀ (d i : Nat), i + d = t.length → Ev (fun k => laws_lmSigns.l0 k t t (i : Int)) true := by
  intro d
  induction d with
  | zero =>
    intro i hi
    refine ev_step (fun k => by rw [laws_lmSigns.l0]) ?_
    exact ev_neg (by omega) (ev_s rfl)
  | succ d ih =>
    intro i hi
    have g1 : (i : Int) < (t.length : Int) := by omega
    have g2 : (0 : Int) ≤ (i : Int) := by omega
    refine ev_step (fun k => by rw [laws_lmSigns.l0]) ?_
    refine ev_pos g1 (ev_pos g2 (ev_pos g1 (ev_neg (by simp) ?_)))
    rw [succ64 (i := i) (n := t.length) (by omega) (by omega)]
    exact ih (i + 1) (by omega)
theorem lmS_self (t : List Sg) (hs : t.length ≤ 1048576) : Ev (fun k => laws_lmSigns.f k t t) true := by
  unfold laws_lmSigns.f
  exact ev_pos rfl (lmS_l0 t hs t.length 0 (by omega))
theorem lmT_l0 (R C : Int) (t : List Ce) (hs : t.length ≤ 1048576) (hx : ∀ c ∈ t, c.f4.length ≤ 1048576) : ∀ (d i : Nat), i + d = t.length → Ev (fun k => laws_lmTable.l0 k (i : Int) R C t R C t) true := by
  intro d
  induction d with
  | zero =>
    intro i hi
    refine ev_step (fun k => by rw [laws_lmTable.l0]) ?_
    exact ev_neg (by omega) (ev_s rfl)
  | succ d ih =>
    intro i hi
    have g1 : (i : Int) < (t.length : Int) := by omega
    have g2 : (0 : Int) ≤ (i : Int) := by omega
    have hS := lmS_self (rd_T30 t (i : Int)).f4 (hx _ (rd_mem t i (by omega)))
    refine ev_step (fun k => by rw [laws_lmTable.l0]) ?_
    refine ev_pos g1 (ev_pos g2 (ev_pos g1 (ev_pos rfl (ev_pos rfl (ev_pos rfl (ev_pos rfl (ev_bind hS ?_)))))))
    refine ev_step (fun k => by rw [laws_lmTable.j2]) ?_
    refine ev_neg (by decide) ?_
    rw [succ64 (i := i) (n := t.length) (by omega) (by omega)]
    exact ih (i + 1) (by omega)
theorem lmT_self (R C : Int) (t : List Ce) (hs : t.length ≤ 1048576) (hx : ∀ c ∈ t, c.f4.length ≤ 1048576) : Ev (fun k => laws_lmTable.f k R C t R C t) true := by
  unfold laws_lmTable.f
  refine ev_pos rfl (ev_pos rfl ?_)
  refine ev_step (fun k => by rw [laws_lmTable.j0]) ?_
  exact ev_neg (by simp) (lmT_l0 R C t hs hx t.length 0 (by omega))
theorem FnTableNew : laws_FnTableNew.Pure := by
  intro l0 _ _ hl
  suffices h : Ev (fun k => laws_FnTableNew.f k l0) true from h.rounds
  unfold laws_FnTableNew.f
  by_cases hc : (l0.length : Int) > 1048576
  · exact ev_pos hc (ev_s rfl)
  refine ev_neg hc ?_
  have hd : ∃ R C, Ev (fun k => spec_DrawTableNew.f k l0) (R, C) := by
    obtain ⟨b, hb, e0⟩ := open_eq l0 hl
    obtain ⟨v, e1, _, _⟩ := pick_ev hb 0 8 (by omega) (by omega)
    obtain ⟨u, e2, _, _⟩ := pick_ev hb (0 + 1) 8 (by omega) (by omega)
    unfold spec_DrawTableNew.f
    exact ⟨_, _, ev_b e0 (ev_bind e1 (ev_bind e2 (ev_s rfl)))⟩
  obtain ⟨R, C, ed⟩ := hd
  refine ev_bind ed (ev_bind (implNew R C) (ev_bind (specNew R C) ?_))
  by_cases h : (inB R 1 5 && inB C 1 5) = true
  · have hn : newT R C = (R, C, gridC C R.toNat 0) := by rw [newT, if_pos h]
    have h' := Bool.and_eq_true_iff.1 h
    have hR : 1 ≤ R ∧ R ≤ 5 := by simpa [inB] using h'.1
    have hC : 1 ≤ C ∧ C ≤ 5 := by simpa [inB] using h'.2
    have hn2 : newT C R = (C, R, gridC R C.toNat 0) := by rw [newT, if_pos]; rw [Bool.and_eq_true]; exact ⟨h'.2, h'.1⟩
    have hle := Nat.mul_le_mul (show R.toNat ≤ 5 by omega) (show C.toNat ≤ 5 by omega)
    have hlen := gridC_len C R.toNat 0
    have hlen2 := gridC_len R C.toNat 0
    have hx : ∀ c ∈ gridC C R.toNat 0, c.f4.length ≤ 1048576 := fun c hc => by rw [gridC_text _ _ _ c hc]; simp
    have hx2 : ∀ c ∈ gridC R C.toNat 0, c.f4.length ≤ 1048576 := fun c hc => by rw [gridC_text _ _ _ c hc]; simp
    have hok := grid_ok hR hC
    have sN := specNew R C
    have iO := implTableOk R C (gridC C R.toNat 0) (by omega) (fun c hc => by rw [gridC_text _ _ _ c hc]; simp)
    have iT := implTurn R C (gridC C R.toNat 0) (by omega) (fun c hc => by rw [gridC_text _ _ _ c hc]; simp)
    have iN := implNew C R
    rw [hok] at iO
    rw [turnT, if_pos hok, grid_turn hR hC] at iT
    rw [hn] at sN
    rw [hn2] at iN
    have l1 := lmT_self R C (gridC C R.toNat 0) (by omega) hx
    have l2 := lmT_self C R (gridC R C.toNat 0) (by rw [hlen2, Nat.mul_comm]; omega) hx2
    have m25 := mul25 (R := R) (C := C) ⟨by omega, hR.2⟩ ⟨by omega, hC.2⟩
    have hlz : ((gridC C R.toNat 0).length : Int) = wrap64 (R * C) := by
      rw [gridC_len, w64 (by omega) (by omega), Int.natCast_mul, Int.toNat_of_nonneg (by omega), Int.toNat_of_nonneg (by omega)]
    have hR0 : ¬ R = 0 := by omega
    rw [hn]
    exact ev_bind l1 (ev_pos rfl (ev_bind sN (ev_neg hR0 (ev_bind iO (ev_pos rfl (ev_pos hlz (ev_pos rfl (ev_bind iT (ev_bind iN (ev_bind l2 (ev_s rfl)))))))))))
  · have hn : newT R C = (0, 0, []) := by rw [newT, if_neg h]
    have sN := specNew R C
    rw [hn] at sN ⊢
    have l1 := lmT_self 0 0 [] (by simp) (fun c hc => by cases hc)
    exact ev_bind l1 (ev_pos rfl (ev_bind sN (ev_pos rfl (ev_pos rfl (ev_s rfl)))))
end Go.Proofs.Ytljgbeccmcidkaa.Pure
