/- Plain laws: what the drawing functions tell is bounded (a number below the bound that was asked, a short text), and they come to an end. Conditions: bytes, at most 2000 of them; fewer than 10^9 numbers drawn so far. -/
import Derived.Test.YtnkjpegammijiaaXPuText
import Derived.Test.YtnkjpegammijiaaXRd
import Derived.OpenShut
namespace Go.Proofs.Ytnkjpegammijiaa.Pure
open Go.RowKit Go.Proofs.Ytnkjpegammijiaa.P Go.Proofs.YtnkjpegammijiaaW.PrintWords Go.Proofs.YtnkjpegammijiaaW.PrintLast
set_option linter.unusedVariables false
set_option linter.unusedSimpArgs false

theorem xor_i64 (a b : Nat) (ha : a < 4611686018427387904) (hb : b < 4611686018427387904) : Go.bits .xor .i64 (a : Int) (b : Int) = ((a ^^^ b : Nat) : Int) := by
  have hx : a ^^^ b < 2 ^ 62 := Nat.xor_lt_two_pow (by omega) (by omega)
  have h1 : (BitVec.ofInt 64 (a : Int)).toNat = a := by
    rw [BitVec.ofInt_natCast, BitVec.toNat_ofNat]; exact Nat.mod_eq_of_lt (by omega)
  have h2 : (BitVec.ofInt 64 (b : Int)).toNat = b := by
    rw [BitVec.ofInt_natCast, BitVec.toNat_ofNat]; exact Nat.mod_eq_of_lt (by omega)
  show IntKind.i64.wrap ((BitVec.ofInt 64 (a : Int) ^^^ BitVec.ofInt 64 (b : Int)).toNat : Int) = _
  rw [BitVec.toNat_xor, h1, h2]
  simp [IntKind.wrap, IntKind.bits, IntKind.signed]
  omega
theorem xor_nonneg {a b : Int} (ha : 0 ≤ a) (ha' : a < 4611686018427387904) (hb : 0 ≤ b) (hb' : b < 4611686018427387904) : 0 ≤ Go.bits .xor .i64 a b := by
  obtain ⟨m, rfl⟩ := Int.eq_ofNat_of_zero_le ha
  obtain ⟨n, rfl⟩ := Int.eq_ofNat_of_zero_le hb
  rw [xor_i64 m n (by omega) (by omega)]
  omega
/-- What can be read of: bytes, not too many. -/
structure Bytes (b : List Int) : Prop where
  len : b.length ≤ 2000
  rng : ∀ i : Int, 0 ≤ rd b i ∧ rd b i ≤ 255
theorem Bytes.mk' {b : List Int} (hl : b.length ≤ 2000) (hb : ∀ x ∈ b, 0 ≤ x ∧ x ≤ 255) : Bytes b := by
  refine ⟨hl, fun i => ?_⟩
  unfold rd
  rw [List.getD_eq_getElem?_getD]
  cases h : b[i.toNat]? with
  | none => simp
  | some x => exact hb x (List.mem_of_getElem? h)
theorem pick_ev {b : List Int} (hb : Bytes b) (p n : Int) (h0 : 0 ≤ p) (h1 : p ≤ 1000000000) :
    ∃ v, Ev (fun k => spec_l6Rd_pick.f k b p n) (v, p + 1) ∧ 0 ≤ v ∧ (v = 0 ∨ v < n) := by
  have hl := hb.len
  have fin : ∀ x : Int, 0 ≤ x → 1 ≤ n → 0 ≤ Int.tmod x n ∧ (Int.tmod x n = 0 ∨ Int.tmod x n < n) := fun x hx hn => ⟨Int.tmod_nonneg _ hx, .inr (Int.tmod_lt_of_pos _ (by omega))⟩
  have zero : Ev (fun k => spec_l6Rd_pick.j0 k n true b (p + 1)) (0, p + 1) := ev_step (fun k => by rw [spec_l6Rd_pick.j0]) (ev_pos rfl (ev_s rfl))
  unfold spec_l6Rd_pick.f
  rw [w64 (by omega : -9223372036854775808 ≤ p + 1) (by omega)]
  by_cases hn : n < 1
  · exact ⟨0, ev_pos hn zero, by omega, .inl rfl⟩
  by_cases he : b.length = 0
  · refine ⟨0, ev_neg hn ?_, by omega, .inl rfl⟩
    rw [show ((b.length : Int) == 0) = true from beq_iff_eq.2 (by omega)]
    exact zero
  have hne : ((b.length : Int) == 0) = false := beq_eq_false_iff_ne.2 (by omega)
  have hw : wrap64 (p + 1 - 1) = p := by rw [w64 (by omega) (by omega)]; omega
  by_cases hp : p < (b.length : Int)
  · have hr := hb.rng p
    refine ⟨Int.tmod (rd b p) n, ev_neg hn ?_, fin _ (by omega) (by omega)⟩
    rw [hne]
    refine ev_step (fun k => by rw [spec_l6Rd_pick.j0]) (ev_neg (by decide) ?_)
    rw [hw, w64 (n := rd b p) (by omega) (by omega)]
    exact ev_pos hp (ev_pos h0 (ev_neg (by omega) (ev_s rfl)))
  · have m1 : 0 ≤ Int.tmod p (b.length : Int) ∧ Int.tmod p (b.length : Int) < (b.length : Int) := ⟨Int.tmod_nonneg _ h0, Int.tmod_lt_of_pos _ (by omega)⟩
    have hp7 : wrap64 (wrap64 (p * 7) + 3) = p * 7 + 3 := by rw [w64 (n := p * 7) (by omega) (by omega), w64 (by omega) (by omega)]
    have m2 : 0 ≤ Int.tmod (p * 7 + 3) (b.length : Int) ∧ Int.tmod (p * 7 + 3) (b.length : Int) < (b.length : Int) := ⟨Int.tmod_nonneg _ (by omega), Int.tmod_lt_of_pos _ (by omega)⟩
    have d1 : 0 ≤ Int.tdiv p (b.length : Int) ∧ Int.tdiv p (b.length : Int) ≤ p := by
      refine ⟨Int.tdiv_nonneg h0 (by omega), ?_⟩
      rw [Int.tdiv_eq_ediv_of_nonneg h0]
      exact Int.ediv_le_self _ h0
    have r1 := hb.rng (Int.tmod p (b.length : Int))
    have r2 := hb.rng (Int.tmod (p * 7 + 3) (b.length : Int))
    obtain ⟨x, hx⟩ : ∃ x, x = rd b (Int.tmod p (b.length : Int)) * 131 + rd b (Int.tmod (p * 7 + 3) (b.length : Int)) * 1117 + p * 29 + Int.tdiv p (b.length : Int) * 53 := ⟨_, rfl⟩
    have hx0 : 0 ≤ x := by omega
    have hx1 : x < 1000000000000 := by omega
    have dx : 0 ≤ Int.tdiv x 64 ∧ Int.tdiv x 64 ≤ x := by
      refine ⟨Int.tdiv_nonneg hx0 (by omega), ?_⟩
      rw [Int.tdiv_eq_ediv_of_nonneg hx0]
      exact Int.ediv_le_self _ hx0
    refine ⟨Int.tmod (Go.bits .xor .i64 x (Int.tdiv x 64)) n, ev_neg hn ?_, fin _ (xor_nonneg hx0 (by omega) dx.1 (by omega)) (by omega)⟩
    rw [hne]
    refine ev_step (fun k => by rw [spec_l6Rd_pick.j0]) (ev_neg (by decide) ?_)
    have hX : wrap64 ((wrap64 ((wrap64 ((wrap64 ((wrap64 (rd b (Int.tmod p (b.length : Int)))) * 131)) + (wrap64 ((wrap64 (rd b (Int.tmod (p * 7 + 3) (b.length : Int)))) * 1117)))) + (wrap64 (p * 29)))) + (wrap64 ((wrap64 (Int.tdiv p (b.length : Int))) * 53))) = x := by
      rw [w64 (n := rd b (Int.tmod p (b.length : Int))) (by omega) (by omega), w64 (n := rd b (Int.tmod p (b.length : Int)) * 131) (by omega) (by omega),
        w64 (n := rd b (Int.tmod (p * 7 + 3) (b.length : Int))) (by omega) (by omega), w64 (n := rd b (Int.tmod (p * 7 + 3) (b.length : Int)) * 1117) (by omega) (by omega),
        w64 (n := p * 29) (by omega) (by omega), w64 (n := Int.tdiv p (b.length : Int)) (by omega) (by omega), w64 (n := Int.tdiv p (b.length : Int) * 53) (by omega) (by omega),
        w64 (n := rd b (Int.tmod p (b.length : Int)) * 131 + rd b (Int.tmod (p * 7 + 3) (b.length : Int)) * 1117) (by omega) (by omega),
        w64 (n := rd b (Int.tmod p (b.length : Int)) * 131 + rd b (Int.tmod (p * 7 + 3) (b.length : Int)) * 1117 + p * 29) (by omega) (by omega), ← hx, w64 (by omega) (by omega)]
    rw [hw, hp7, hX, w64 (n := Int.tdiv x 64) (by omega) (by omega)]
    exact ev_neg hp (ev_neg (by omega) (ev_pos m1.1 (ev_pos m1.2 (ev_pos m2.1 (ev_pos m2.2 (ev_neg (by omega) (ev_s rfl)))))))
theorem open_eq (l : List Int) (hl : ∀ x ∈ l, (Lit.int .u8 x).wf = true) : ∃ b, Bytes b ∧ spec_l6Open.f l = some (b, 0) := by
  have hb : ∀ x ∈ l, 0 ≤ x ∧ x ≤ 255 := fun x hx => bounds_u8 (hl x hx)
  unfold spec_l6Open.f
  by_cases h : (l.length : Int) > 2000
  · refine ⟨l.take 2000, .mk' (by simp; omega) (fun x hx => hb x (List.mem_of_mem_take hx)), ?_⟩
    rw [if_pos h, if_pos (by omega)]
  · exact ⟨l, .mk' (by omega) hb, by rw [if_neg h]⟩

theorem text_l0 {b : List Int} (hb : Bytes b) : ∀ (d : Nat) (n : Int) (x : List Sg) (p : Int), n.toNat = d → n ≤ 1000000 → x.length + d ≤ 1000000000 → 0 ≤ p → p + 3 * n ≤ 900000000 → p ≤ 900000000 →
    ∃ t q, Ev (fun k => spec_l71Text.l0 k x n b p) (t, q) ∧ t.length ≤ x.length + d ∧ p ≤ q ∧ q ≤ p + 3 * d := by
  intro d
  induction d with
  | zero =>
    intro n x p hd hn hx h0 h1 h2
    refine ⟨x, p, ?_, by omega, by omega, by omega⟩
    refine ev_step (fun k => by rw [spec_l71Text.l0]) ?_
    exact ev_neg (by omega) (ev_s rfl)
  | succ d ih =>
    intro n x p hd hn hx h0 h1 h2
    obtain ⟨v1, e1, a1, c1⟩ := pick_ev hb p 6 h0 (by omega)
    obtain ⟨v2, e2, a2, c2⟩ := pick_ev hb (p + 1) 5 (by omega) (by omega)
    obtain ⟨v3, e3, a3, c3⟩ := pick_ev hb (p + 1 + 1) 3 (by omega) (by omega)
    have hw : wrap64 (n - 1) = n - 1 := w64 (by omega) (by omega)
    by_cases h20 : v2 = 0
    · obtain ⟨t, q, e, l1, l2, l3⟩ := ih (n - 1) (x ++ [(⟨rd [97, 98, 122, 32, 48, 57] v1, wrap64 (1 + v3), 0⟩ : Sg)]) (p + 1 + 1 + 1) (by omega) (by omega) (by simp; omega) (by omega) (by omega) (by omega)
      refine ⟨t, q, ?_, by simp at l1; omega, by omega, by omega⟩
      refine ev_step (fun k => by rw [spec_l71Text.l0]) ?_
      rw [hw]
      exact ev_pos (by omega) (ev_b rfl (ev_bind e1 (ev_pos a1 (ev_pos (by show v1 < 6; omega) (ev_bind e2 (ev_pos h20 (ev_bind e3 (ev_pos (by omega) e))))))))
    by_cases h21 : v2 = 1
    · obtain ⟨t, q, e, l1, l2, l3⟩ := ih (n - 1) (x ++ [(⟨rd [97, 98, 122, 32, 48, 57] v1, 0, wrap64 (1 + v3)⟩ : Sg)]) (p + 1 + 1 + 1) (by omega) (by omega) (by simp; omega) (by omega) (by omega) (by omega)
      refine ⟨t, q, ?_, by simp at l1; omega, by omega, by omega⟩
      refine ev_step (fun k => by rw [spec_l71Text.l0]) ?_
      rw [hw]
      exact ev_pos (by omega) (ev_b rfl (ev_bind e1 (ev_pos a1 (ev_pos (by show v1 < 6; omega) (ev_bind e2 (ev_neg h20 (ev_pos h21 (ev_bind e3 (ev_pos (by omega) e)))))))))
    by_cases h22 : v2 = 2
    · obtain ⟨t, q, e, l1, l2, l3⟩ := ih (n - 1) (x ++ [(⟨rd [97, 98, 122, 32, 48, 57] v1, wrap64 (1 + v3), wrap64 ((Int.tmod (wrap64 (1 + v3)) 3) + 1)⟩ : Sg)]) (p + 1 + 1 + 1) (by omega) (by omega) (by simp; omega) (by omega) (by omega) (by omega)
      refine ⟨t, q, ?_, by simp at l1; omega, by omega, by omega⟩
      refine ev_step (fun k => by rw [spec_l71Text.l0]) ?_
      rw [hw]
      exact ev_pos (by omega) (ev_b rfl (ev_bind e1 (ev_pos a1 (ev_pos (by show v1 < 6; omega) (ev_bind e2 (ev_neg h20 (ev_neg h21 (ev_pos h22 (ev_bind e3 (ev_pos (by omega) e))))))))))
    · obtain ⟨t, q, e, l1, l2, l3⟩ := ih (n - 1) (x ++ [(⟨rd [97, 98, 122, 32, 48, 57] v1, 0, 0⟩ : Sg)]) (p + 1 + 1) (by omega) (by omega) (by simp; omega) (by omega) (by omega) (by omega)
      refine ⟨t, q, ?_, by simp at l1; omega, by omega, by omega⟩
      refine ev_step (fun k => by rw [spec_l71Text.l0]) ?_
      rw [hw]
      exact ev_pos (by omega) (ev_b rfl (ev_bind e1 (ev_pos a1 (ev_pos (by show v1 < 6; omega) (ev_bind e2 (ev_neg h20 (ev_neg h21 (ev_neg h22 (ev_pos (by omega) e)))))))))
theorem text_ev {b : List Int} (hb : Bytes b) (p n : Int) (h0 : 0 ≤ p) (h1 : p ≤ 800000000) (hn : 0 ≤ n) (hn' : n ≤ 100) :
    ∃ t q, Ev (fun k => spec_l71Text.f k b p n) (t, q) ∧ (t.length : Int) ≤ n ∧ p ≤ q ∧ q ≤ p + 1000 := by
  obtain ⟨v, e, a, c⟩ := pick_ev hb p (n + 1) h0 (by omega)
  obtain ⟨t, q, e2, l1, l2, l3⟩ := text_l0 hb v.toNat v [] (p + 1) rfl (by omega) (by simp; omega) (by omega) (by omega) (by omega)
  refine ⟨t, q, ?_, by simp at l1; omega, by omega, by omega⟩
  unfold spec_l71Text.f
  rw [w64 (n := n + 1) (by omega) (by omega)]
  exact ev_bind e e2
theorem bad_j1 (b : List Int) (t : List Sg) (ht : t.length ≤ 1000) (p x y z : Int) : Ev (fun k => spec_l71Bad.j1 k t b p x y z) (t ++ [(⟨x, y, z⟩ : Sg)], p) := by
  refine ev_step (fun k => by rw [spec_l71Bad.j1]) ?_
  exact (ev_b rfl (ev_pos (by simp; omega) (ev_b rfl (ev_b rfl (ev_pos (by simp; omega) (ev_s rfl))))))
theorem bad_l0 {b : List Int} (hb : Bytes b) (x y z : Int) : ∀ (d : Nat) (t : List Sg) (p : Int), t.length + d = 26 → 0 ≤ p → p + d ≤ 900000000 →
    ∃ r q, Ev (fun k => spec_l71Bad.l0 k t b p x y z) (r, q) ∧ r.length ≤ 26 ∧ p ≤ q ∧ q ≤ p + d + 1 := by
  intro d
  induction d with
  | zero =>
    intro t p hd h0 h1
    obtain ⟨v, e, a, c⟩ := pick_ev hb p 2 h0 (by omega)
    refine ⟨t, p + 1, ?_, by omega, by omega, by omega⟩
    refine ev_step (fun k => by rw [spec_l71Bad.l0]) ?_
    refine ev_bind e (ev_neg ?_ (ev_s rfl))
    rw [w64 (by omega) (by omega)]; omega
  | succ d ih =>
    intro t p hd h0 h1
    obtain ⟨v, e, a, c⟩ := pick_ev hb p 2 h0 (by omega)
    by_cases h : (t.length : Int) < 24 + v
    · obtain ⟨r, q, e2, l1, l2, l3⟩ := ih (t ++ [(⟨x, y, z⟩ : Sg)]) (p + 1) (by simp; omega) (by omega) (by omega)
      refine ⟨r, q, ?_, by omega, by omega, by omega⟩
      refine ev_step (fun k => by rw [spec_l71Bad.l0]) ?_
      refine ev_bind e (ev_pos ?_ (ev_b rfl (ev_pos (by simp; omega) e2)))
      rw [w64 (by omega) (by omega)]; omega
    · refine ⟨t, p + 1, ?_, by omega, by omega, by omega⟩
      refine ev_step (fun k => by rw [spec_l71Bad.l0]) ?_
      refine ev_bind e (ev_neg ?_ (ev_s rfl))
      rw [w64 (by omega) (by omega)]; omega
theorem bad_ev {b : List Int} (hb : Bytes b) (p : Int) (t : List Sg) (ht : t.length ≤ 25) (h0 : 0 ≤ p) (h1 : p ≤ 800000000) :
    ∃ r q, Ev (fun k => spec_l71Bad.f k b p t) (r, q) ∧ r.length ≤ 26 ∧ p ≤ q ∧ q ≤ p + 1000 := by
  unfold spec_l71Bad.f
  obtain ⟨v, e, a, c⟩ := pick_ev hb p 6 h0 (by omega)
  by_cases g0 : v = 0
  · obtain ⟨v1, e1, a1, c1⟩ := pick_ev hb (p + 1) 5 (by omega) (by omega)
    exact ⟨_, _, ev_bind e (ev_pos g0 (ev_b rfl (ev_bind e1 (ev_pos a1 (ev_pos (by show v1 < 5; omega) (bad_j1 b t (by omega) _ _ _ _)))))), by simp; omega, by omega, by omega⟩
  by_cases g1 : v = 1
  · obtain ⟨v1, e1, a1, c1⟩ := pick_ev hb (p + 1) 2 (by omega) (by omega)
    exact ⟨_, _, ev_bind e (ev_neg g0 (ev_pos g1 (ev_b rfl (ev_bind e1 (ev_pos a1 (ev_pos (by show v1 < 2; omega) (bad_j1 b t (by omega) _ _ _ _))))))), by simp; omega, by omega, by omega⟩
  by_cases g2 : v = 2
  · obtain ⟨v1, e1, a1, c1⟩ := pick_ev hb (p + 1) 2 (by omega) (by omega)
    exact ⟨_, _, ev_bind e (ev_neg g0 (ev_neg g1 (ev_pos g2 (ev_b rfl (ev_bind e1 (ev_pos a1 (ev_pos (by show v1 < 2; omega) (bad_j1 b t (by omega) _ _ _ _)))))))), by simp; omega, by omega, by omega⟩
  by_cases g3 : v = 3
  · exact ⟨_, _, ev_bind e (ev_neg g0 (ev_neg g1 (ev_neg g2 (ev_pos g3 (bad_j1 b t (by omega) _ _ _ _))))), by simp; omega, by omega, by omega⟩
  by_cases g4 : v = 4
  · obtain ⟨r, q, e2, l1, l2, l3⟩ := bad_l0 hb 120 0 0 (26 - t.length) t (p + 1) (by omega) (by omega) (by omega)
    exact ⟨r, q, ev_bind e (ev_neg g0 (ev_neg g1 (ev_neg g2 (ev_neg g3 (ev_pos g4 e2))))), by omega, by omega, by omega⟩
  · exact ⟨_, _, ev_bind e (ev_neg g0 (ev_neg g1 (ev_neg g2 (ev_neg g3 (ev_neg g4 (bad_j1 b t (by omega) _ _ _ _)))))), by simp; omega, by omega, by omega⟩
end Go.Proofs.Ytnkjpegammijiaa.Pure
