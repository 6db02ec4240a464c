/- The plain law behind FnTableAt. Condition: bytes. -/
import Derived.Test.YtljgbeccmcidkaaXPLawsFnTableAt
import Derived.Test.YtljgbeccmcidkaaXK
namespace Go.Proofs.Ytljgbeccmcidkaa.Pure
open Go.RowKit Go.Proofs.Ytljgbeccmcidkaa.P Go.Proofs.YtljgbeccmcidkaaW.PrintWords Go.Proofs.YtljgbeccmcidkaaW.PrintLast
theorem grid_ev {b : List Int} (hb : Bytes b) (p : Int) (h0 : 0 ≤ p) (h1 : p ≤ 500000000) :
    ∃ R C l q, Ev (fun k => spec_l71Grid.f k b p) (R, C, l, q) ∧ SmallU l ∧ 0 ≤ q ∧ q ≤ p + 40000 := by
  obtain ⟨R, C, l, q, e1, s1, s2, s3⟩ := table_ev hb p h0 h1
  obtain ⟨v, e2, _, _⟩ := pick_ev hb q 10 s2 (by omega)
  unfold spec_l71Grid.f
  by_cases hv : v = 0
  · obtain ⟨R', C', l', q', e3, t1, t2, t3⟩ := spoil_ev hb (q + 1) R C l s1 (by omega) (by omega)
    exact ⟨R', C', l', q', ev_bind e1 (ev_bind e2 (ev_pos hv (ev_bind e3 (ev_s rfl)))), t1, t2, by omega⟩
  · exact ⟨R, C, l, q + 1, ev_bind e1 (ev_bind e2 (ev_neg hv (ev_s rfl))), s1.u, by omega, by omega⟩
theorem drawAt {l0 : List Int} (hl : ∀ x ∈ l0, (Lit.int .u8 x).wf = true) : ∃ R C l row col, Ev (fun k => spec_DrawTableAt.f k l0) (R, C, l, row, col) ∧ SmallU l := by
  obtain ⟨b, hb, e0⟩ := open_eq l0 hl
  obtain ⟨R, C, l, q, e1, s1, s2, s3⟩ := grid_ev hb 0 (by omega) (by omega)
  obtain ⟨v, e2, _, _⟩ := pick_ev hb q 6 s2 (by omega)
  obtain ⟨u, e3, _, _⟩ := pick_ev hb (q + 1) 6 (by omega) (by omega)
  unfold spec_DrawTableAt.f
  exact ⟨R, C, l, _, _, ev_b e0 (ev_bind e1 (ev_bind e2 (ev_bind e3 (ev_s rfl)))), s1⟩
theorem FnTableAt : laws_FnTableAt.Pure := by
  intro l0 _ _ hl
  suffices h : Ev (fun k => laws_FnTableAt.f k l0) true from h.rounds
  unfold laws_FnTableAt.f
  by_cases hc : (l0.length : Int) > 1048576
  · exact ev_pos hc (ev_s rfl)
  refine ev_neg hc ?_
  obtain ⟨R, C, l, row, col, e, hs⟩ := drawAt hl
  have hs1 := hs.1
  have eI := implAt R C l row col (by omega) (fun c hc => by have := hs.2 c hc; omega)
  have eS := specAt R C l row col (by omega)
  refine ev_bind e (ev_bind eI (ev_bind eS (ev_pos rfl (ev_bind (specTableOk R C l (by omega)) ?_))))
  have none : ∀ ho : okB R C l = true, (row < 0 ∨ R ≤ row ∨ col < 0 ∨ C ≤ col) → Ev (fun k => laws_FnTableAt.j1 k row col (atB R C l row col) true R C l) true := by
    intro ho h
    obtain ⟨hR, hC, hm, _⟩ := ok_parts ho
    refine ev_step (fun k => by rw [laws_FnTableAt.j1]) ?_
    refine ev_pos rfl (ev_s (beq_iff_eq.2 ?_))
    rw [atB, if_pos ho]
    exact at_none row col l 0 (fun c hc => sq_out hR.2 hC.2 (hm c hc) h)
  cases hk : okB R C l with
  | false =>
    refine ev_step (fun k => by rw [laws_FnTableAt.j0]) ?_
    exact ev_pos rfl (ev_bind eS (ev_s (beq_iff_eq.2 rfl)))
  | true =>
    have no := none hk
    obtain ⟨hR, hC, hm, hc⟩ := ok_parts hk
    refine ev_step (fun k => by rw [laws_FnTableAt.j0]) (ev_neg (by decide) ?_)
    by_cases h1 : row < 0
    · exact ev_pos h1 (no (by omega))
    refine ev_neg h1 ?_
    by_cases h2 : col < 0
    · exact ev_pos h2 (no (by omega))
    refine ev_neg h2 ?_
    by_cases h3 : row ≥ R
    · exact ev_pos h3 (no (by omega))
    refine ev_neg h3 ?_
    by_cases h4 : col ≥ C
    · rw [decide_eq_true h4]; exact no (by omega)
    · rw [decide_eq_false h4]
      obtain ⟨j, j1, j2, j3⟩ := at_found row col l 0 (by rw [hc row col (by omega) (by omega) (by omega) (by omega)]; decide)
      have ea : atB R C l row col = (j : Int) := by rw [atB, if_pos hk, j2, Int.zero_add]
      rw [ea]
      unfold sqB at j3
      simp only [Bool.and_eq_true, decide_eq_true_eq] at j3
      refine ev_step (fun k => by rw [laws_FnTableAt.j1]) (ev_neg (by decide) ?_)
      have g1 : (0 : Int) ≤ (j : Int) := by omega
      have g2 : (j : Int) < (l.length : Int) := by omega
      exact ev_pos g1 (ev_pos g2 (ev_pos j3.1 (ev_pos j3.2.1 (ev_pos j3.2.2.1 (ev_s (decide_eq_true j3.2.2.2))))))
end Go.Proofs.Ytljgbeccmcidkaa.Pure
