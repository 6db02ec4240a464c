/- The plain law behind FnTableOk. Condition: bytes. -/
import Derived.Test.YtljgbeccmcidkaaXPLawsFnTableOk
import Derived.Test.YtljgbeccmcidkaaXK
namespace Go.Proofs.Ytljgbeccmcidkaa.Pure
open Go.RowKit Go.Proofs.Ytljgbeccmcidkaa.P Go.Proofs.YtljgbeccmcidkaaW.PrintWords Go.Proofs.YtljgbeccmcidkaaW.PrintLast
set_option linter.unusedVariables false
set_option linter.unusedSimpArgs false
theorem drawOk {l0 : List Int} (hl : ∀ x ∈ l0, (Lit.int .u8 x).wf = true) : ∃ R C l, Ev (fun k => spec_DrawTableOk.f k l0) (R, C, l) ∧ SmallU l := by
  obtain ⟨b, hb, e0⟩ := open_eq l0 hl
  obtain ⟨R, C, l, q, e1, s1, s2, s3⟩ := table_ev hb 0 (by omega) (by omega)
  obtain ⟨v, e2, _, _⟩ := pick_ev hb q 2 s2 (by omega)
  unfold spec_DrawTableOk.f
  by_cases hv : v = 0
  · obtain ⟨R', C', l', q', e3, t1, t2, t3⟩ := spoil_ev hb (q + 1) R C l s1 (by omega) (by omega)
    exact ⟨R', C', l', ev_b e0 (ev_bind e1 (ev_bind e2 (ev_pos hv (ev_bind e3 (ev_s rfl))))), t1⟩
  · exact ⟨R, C, l, ev_b e0 (ev_bind e1 (ev_bind e2 (ev_neg hv (ev_s rfl)))), s1.u⟩
theorem fnOk_l2 (R C n row : Int) (l : List Ce) (hs : SmallU l) (hk : okB R C l = true) (hrow : 0 ≤ row ∧ row < R) (r : Bool) (hr : Ev (fun k => laws_FnTableOk.l1 k n (wrap64 (row + 1)) R C l) r) : ∀ (d : Nat) (col : Int), 0 ≤ col → col + d = C →
    Ev (fun k => laws_FnTableOk.l2 k n row col R C l) r := by
  obtain ⟨hR, hC, hm, hc⟩ := ok_parts hk
  have hs1 := hs.1
  intro d
  induction d with
  | zero =>
    intro col h0 h1
    exact ev_step (fun k => by rw [laws_FnTableOk.l2]) (ev_neg (by omega) hr)
  | succ d ih =>
    intro col h0 h1
    have ea := implAt R C l row col (by omega) (fun c hc => by have := hs.2 c hc; omega)
    refine ev_step (fun k => by rw [laws_FnTableOk.l2]) (ev_pos (by omega) (ev_bind ea (ev_neg ?_ ?_)))
    · rw [atB, if_pos hk, at_neg row col l 0 (Int.le_refl _), hc row col hrow.1 hrow.2 h0 (by omega)]; omega
    · rw [w64 (n := col + 1) (by omega) (by omega)]
      exact ih (col + 1) (by omega) (by omega)
theorem fnOk_l1 (R C n : Int) (l : List Ce) (hs : SmallU l) (hk : okB R C l = true) (hn : n = wrap64 (R * C)) : ∀ (d : Nat) (row : Int), 0 ≤ row → row + d = R →
    Ev (fun k => laws_FnTableOk.l1 k n row R C l) true := by
  obtain ⟨hR, hC, hm, hc⟩ := ok_parts hk
  intro d
  induction d with
  | zero =>
    intro row h0 h1
    exact ev_step (fun k => by rw [laws_FnTableOk.l1]) (ev_neg (by omega) (ev_s (beq_iff_eq.2 hn)))
  | succ d ih =>
    intro row h0 h1
    refine ev_step (fun k => by rw [laws_FnTableOk.l1]) (ev_pos (by omega) ?_)
    refine fnOk_l2 R C n row l hs hk ⟨h0, by omega⟩ true ?_ C.toNat 0 (Int.le_refl _) (by omega)
    rw [w64 (n := row + 1) (by omega) (by omega)]
    exact ih (row + 1) (by omega) (by omega)
theorem fnOk_l0 (R C : Int) (l : List Ce) (hs : SmallU l) (hk : okB R C l = true) : ∀ (d i : Nat) (n : Int), i + d = l.length → 0 ≤ n → n ≤ 25 * i → n + areaC (l.drop i) = wrap64 (R * C) →
    Ev (fun k => laws_FnTableOk.l0 k n (i : Int) R C l) true := by
  obtain ⟨hR, hC, hm, hc⟩ := ok_parts hk
  have hs1 := hs.1
  intro d
  induction d with
  | zero =>
    intro i n hi h0 h1 he
    rw [List.drop_of_length_le (by omega), areaC, Int.add_zero] at he
    exact ev_step (fun k => by rw [laws_FnTableOk.l0]) (ev_neg (by omega) (fnOk_l1 R C n l hs hk he R.toNat 0 (Int.le_refl _) (by omega)))
  | succ d ih =>
    intro i n hi h0 h1 he
    rw [drop_ceN l i (by omega), areaC] at he
    obtain ⟨a1, a2⟩ := area_small hR.2 hC.2 (hm _ (rd_mem l i (by omega)))
    refine ev_step (fun k => by rw [laws_FnTableOk.l0]) (ev_pos (by omega) (ev_pos (by omega) ?_))
    rw [w64 (n := (rd_T30 l (i : Int)).f2 * (rd_T30 l (i : Int)).f3) (by omega) (by omega), w64 (n := n + _) (by omega) (by omega), succ64 (n := l.length) (by omega) (by omega)]
    exact ih (i + 1) _ (by omega) (by omega) (by omega) (by omega)
theorem FnTableOk : laws_FnTableOk.Pure := by
  intro l0 _ _ hl
  suffices h : Ev (fun k => laws_FnTableOk.f k l0) true from h.rounds
  unfold laws_FnTableOk.f
  by_cases hc : (l0.length : Int) > 1048576
  · exact ev_pos hc (ev_s rfl)
  refine ev_neg hc ?_
  obtain ⟨R, C, l, e, hs⟩ := drawOk hl
  have hs1 := hs.1
  have eI := implTableOk R C l (by omega) (fun c hc => by have := hs.2 c hc; omega)
  have eS := specTableOk R C l (by omega)
  refine ev_bind e (ev_bind eI (ev_bind eS (ev_neg (by simp) ?_)))
  cases hk : okB R C l with
  | false =>
    rw [hk] at eS
    refine ev_step (fun k => by rw [laws_FnTableOk.j0]) ?_
    exact ev_pos rfl (ev_bind eS (ev_s rfl))
  | true =>
    refine ev_step (fun k => by rw [laws_FnTableOk.j0]) (ev_neg (by decide) ?_)
    refine fnOk_l0 R C l hs hk l.length 0 0 (by omega) (Int.le_refl _) (Int.le_refl _) ?_
    rw [List.drop_zero, Int.zero_add]
    have hp := hk
    simp only [okB, Bool.and_eq_true] at hp
    obtain ⟨hR, hC, hm, _⟩ := ok_parts hk
    have := hp.2.2.2
    rw [cov_area hR hC l hm, Bool.and_eq_true, beq_iff_eq] at this
    exact this.2
end Go.Proofs.Ytljgbeccmcidkaa.Pure
