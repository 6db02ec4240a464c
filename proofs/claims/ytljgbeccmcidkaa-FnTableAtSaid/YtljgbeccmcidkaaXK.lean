/- Plain laws: what the drawing functions tell is bounded (a number below the bound that was asked, a short text), and they come to an end. Conditions: bytes, at most 2000 of them; fewer than 10^9 numbers drawn so far. Plain laws of tables: cells in order, a table anew, a new table; merging comes to an end. Conditions: fewer than 2^20 cells and signs. Plain laws: a drawn table has cells, few of them, and short texts; so has a spoilt one, but for the cells. Conditions: bytes, at most 2000 of them; fewer than 10^9 numbers drawn so far. -/
import Derived.Test.YtljgbeccmcidkaaXE
import Derived.Test.YtljgbeccmcidkaaXG
import Derived.OpenShut
import Derived.Test.YtljgbeccmcidkaaXH
import Derived.Test.YtljgbeccmcidkaaXI
import Derived.Test.YtljgbeccmcidkaaXJ
namespace Go.Proofs.Ytljgbeccmcidkaa.Pure
open Go.RowKit Go.Proofs.Ytljgbeccmcidkaa.P Go.Proofs.YtljgbeccmcidkaaW.PrintWords Go.Proofs.YtljgbeccmcidkaaW.PrintLast
set_option linter.unusedVariables false
set_option linter.unusedSimpArgs false

theorem xor_i64 (a b : Nat) (ha : a < 4611686018427387904) (hb : b < 4611686018427387904) : Go.bits .xor .i64 (a : Int) (b : Int) = ((a ^^^ b : Nat) : Int) := by
  have hx : a ^^^ b < 2 ^ 62 := Nat.xor_lt_two_pow (by omega) (by omega)
  have h1 : (BitVec.ofInt 64 (a : Int)).toNat = a := by
    rw [BitVec.ofInt_natCast, BitVec.toNat_ofNat]; exact Nat.mod_eq_of_lt (by omega)
  have h2 : (BitVec.ofInt 64 (b : Int)).toNat = b := by
    rw [BitVec.ofInt_natCast, BitVec.toNat_ofNat]; exact Nat.mod_eq_of_lt (by omega)
  show IntKind.i64.wrap ((BitVec.ofInt 64 (a : Int) ^^^ BitVec.ofInt 64 (b : Int)).toNat : Int) = _
  rw [BitVec.toNat_xor, h1, h2]
  simp [IntKind.wrap, IntKind.bits, IntKind.signed]
  omega
theorem xor_nonneg {a b : Int} (ha : 0 ≤ a) (ha' : a < 4611686018427387904) (hb : 0 ≤ b) (hb' : b < 4611686018427387904) : 0 ≤ Go.bits .xor .i64 a b := by
  obtain ⟨m, rfl⟩ := Int.eq_ofNat_of_zero_le ha
  obtain ⟨n, rfl⟩ := Int.eq_ofNat_of_zero_le hb
  rw [xor_i64 m n (by omega) (by omega)]
  omega
/-- What can be read of: bytes, not too many. -/
structure Bytes (b : List Int) : Prop where
  len : b.length ≤ 2000
  rng : ∀ i : Int, 0 ≤ rd b i ∧ rd b i ≤ 255
theorem Bytes.mk' {b : List Int} (hl : b.length ≤ 2000) (hb : ∀ x ∈ b, 0 ≤ x ∧ x ≤ 255) : Bytes b := by
  refine ⟨hl, fun i => ?_⟩
  unfold rd
  rw [List.getD_eq_getElem?_getD]
  cases h : b[i.toNat]? with
  | none => simp
  | some x => exact hb x (List.mem_of_getElem? h)
theorem pick_ev {b : List Int} (hb : Bytes b) (p n : Int) (h0 : 0 ≤ p) (h1 : p ≤ 1000000000) :
    ∃ v, Ev (fun k => spec_l6Rd_pick.f k b p n) (v, p + 1) ∧ 0 ≤ v ∧ (v = 0 ∨ v < n) := by
  have hl := hb.len
  have fin : ∀ x : Int, 0 ≤ x → 1 ≤ n → 0 ≤ Int.tmod x n ∧ (Int.tmod x n = 0 ∨ Int.tmod x n < n) := fun x hx hn => ⟨Int.tmod_nonneg _ hx, .inr (Int.tmod_lt_of_pos _ (by omega))⟩
  have zero : Ev (fun k => spec_l6Rd_pick.j0 k n true b (p + 1)) (0, p + 1) := ev_step (fun k => by rw [spec_l6Rd_pick.j0]) (ev_pos rfl (ev_s rfl))
  unfold spec_l6Rd_pick.f
  rw [w64 (by omega : -9223372036854775808 ≤ p + 1) (by omega)]
  by_cases hn : n < 1
  · exact ⟨0, ev_pos hn zero, by omega, .inl rfl⟩
  by_cases he : b.length = 0
  · refine ⟨0, ev_neg hn ?_, by omega, .inl rfl⟩
    rw [show ((b.length : Int) == 0) = true from beq_iff_eq.2 (by omega)]
    exact zero
  have hne : ((b.length : Int) == 0) = false := beq_eq_false_iff_ne.2 (by omega)
  have hw : wrap64 (p + 1 - 1) = p := by rw [w64 (by omega) (by omega)]; omega
  by_cases hp : p < (b.length : Int)
  · have hr := hb.rng p
    refine ⟨Int.tmod (rd b p) n, ev_neg hn ?_, fin _ (by omega) (by omega)⟩
    rw [hne]
    refine ev_step (fun k => by rw [spec_l6Rd_pick.j0]) (ev_neg (by decide) ?_)
    rw [hw, w64 (n := rd b p) (by omega) (by omega)]
    exact ev_pos hp (ev_pos h0 (ev_neg (by omega) (ev_s rfl)))
  · have m1 : 0 ≤ Int.tmod p (b.length : Int) ∧ Int.tmod p (b.length : Int) < (b.length : Int) := ⟨Int.tmod_nonneg _ h0, Int.tmod_lt_of_pos _ (by omega)⟩
    have hp7 : wrap64 (wrap64 (p * 7) + 3) = p * 7 + 3 := by rw [w64 (n := p * 7) (by omega) (by omega), w64 (by omega) (by omega)]
    have m2 : 0 ≤ Int.tmod (p * 7 + 3) (b.length : Int) ∧ Int.tmod (p * 7 + 3) (b.length : Int) < (b.length : Int) := ⟨Int.tmod_nonneg _ (by omega), Int.tmod_lt_of_pos _ (by omega)⟩
    have d1 : 0 ≤ Int.tdiv p (b.length : Int) ∧ Int.tdiv p (b.length : Int) ≤ p := by
      refine ⟨Int.tdiv_nonneg h0 (by omega), ?_⟩
      rw [Int.tdiv_eq_ediv_of_nonneg h0]
      exact Int.ediv_le_self _ h0
    have r1 := hb.rng (Int.tmod p (b.length : Int))
    have r2 := hb.rng (Int.tmod (p * 7 + 3) (b.length : Int))
    obtain ⟨x, hx⟩ : ∃ x, x = rd b (Int.tmod p (b.length : Int)) * 131 + rd b (Int.tmod (p * 7 + 3) (b.length : Int)) * 1117 + p * 29 + Int.tdiv p (b.length : Int) * 53 := ⟨_, rfl⟩
    have hx0 : 0 ≤ x := by omega
    have hx1 : x < 1000000000000 := by omega
    have dx : 0 ≤ Int.tdiv x 64 ∧ Int.tdiv x 64 ≤ x := by
      refine ⟨Int.tdiv_nonneg hx0 (by omega), ?_⟩
      rw [Int.tdiv_eq_ediv_of_nonneg hx0]
      exact Int.ediv_le_self _ hx0
    refine ⟨Int.tmod (Go.bits .xor .i64 x (Int.tdiv x 64)) n, ev_neg hn ?_, fin _ (xor_nonneg hx0 (by omega) dx.1 (by omega)) (by omega)⟩
    rw [hne]
    refine ev_step (fun k => by rw [spec_l6Rd_pick.j0]) (ev_neg (by decide) ?_)
    have hX : wrap64 ((wrap64 ((wrap64 ((wrap64 ((wrap64 (rd b (Int.tmod p (b.length : Int)))) * 131)) + (wrap64 ((wrap64 (rd b (Int.tmod (p * 7 + 3) (b.length : Int)))) * 1117)))) + (wrap64 (p * 29)))) + (wrap64 ((wrap64 (Int.tdiv p (b.length : Int))) * 53))) = x := by
      rw [w64 (n := rd b (Int.tmod p (b.length : Int))) (by omega) (by omega), w64 (n := rd b (Int.tmod p (b.length : Int)) * 131) (by omega) (by omega),
        w64 (n := rd b (Int.tmod (p * 7 + 3) (b.length : Int))) (by omega) (by omega), w64 (n := rd b (Int.tmod (p * 7 + 3) (b.length : Int)) * 1117) (by omega) (by omega),
        w64 (n := p * 29) (by omega) (by omega), w64 (n := Int.tdiv p (b.length : Int)) (by omega) (by omega), w64 (n := Int.tdiv p (b.length : Int) * 53) (by omega) (by omega),
        w64 (n := rd b (Int.tmod p (b.length : Int)) * 131 + rd b (Int.tmod (p * 7 + 3) (b.length : Int)) * 1117) (by omega) (by omega),
        w64 (n := rd b (Int.tmod p (b.length : Int)) * 131 + rd b (Int.tmod (p * 7 + 3) (b.length : Int)) * 1117 + p * 29) (by omega) (by omega), ← hx, w64 (by omega) (by omega)]
    rw [hw, hp7, hX, w64 (n := Int.tdiv x 64) (by omega) (by omega)]
    exact ev_neg hp (ev_neg (by omega) (ev_pos m1.1 (ev_pos m1.2 (ev_pos m2.1 (ev_pos m2.2 (ev_neg (by omega) (ev_s rfl)))))))
theorem open_eq (l : List Int) (hl : ∀ x ∈ l, (Lit.int .u8 x).wf = true) : ∃ b, Bytes b ∧ spec_l6Open.f l = some (b, 0) := by
  have hb : ∀ x ∈ l, 0 ≤ x ∧ x ≤ 255 := fun x hx => bounds_u8 (hl x hx)
  unfold spec_l6Open.f
  by_cases h : (l.length : Int) > 2000
  · refine ⟨l.take 2000, .mk' (by simp; omega) (fun x hx => hb x (List.mem_of_mem_take hx)), ?_⟩
    rw [if_pos h, if_pos (by omega)]
  · exact ⟨l, .mk' (by omega) hb, by rw [if_neg h]⟩

theorem text_l0 {b : List Int} (hb : Bytes b) : ∀ (d : Nat) (n : Int) (x : List Sg) (p : Int), n.toNat = d → n ≤ 1000000 → x.length + d ≤ 1000000000 → 0 ≤ p → p + 3 * n ≤ 900000000 → p ≤ 900000000 →
    ∃ t q, Ev (fun k => spec_l71Text.l0 k x n b p) (t, q) ∧ t.length ≤ x.length + d ∧ p ≤ q ∧ q ≤ p + 3 * d := by
  intro d
  induction d with
  | zero =>
    intro n x p hd hn hx h0 h1 h2
    refine ⟨x, p, ?_, by omega, by omega, by omega⟩
    refine ev_step (fun k => by rw [spec_l71Text.l0]) ?_
    exact ev_neg (by omega) (ev_s rfl)
  | succ d ih =>
    intro n x p hd hn hx h0 h1 h2
    obtain ⟨v1, e1, a1, c1⟩ := pick_ev hb p 6 h0 (by omega)
    obtain ⟨v2, e2, a2, c2⟩ := pick_ev hb (p + 1) 5 (by omega) (by omega)
    obtain ⟨v3, e3, a3, c3⟩ := pick_ev hb (p + 1 + 1) 3 (by omega) (by omega)
    have hw : wrap64 (n - 1) = n - 1 := w64 (by omega) (by omega)
    by_cases h20 : v2 = 0
    · obtain ⟨t, q, e, l1, l2, l3⟩ := ih (n - 1) (x ++ [(⟨rd [97, 98, 122, 32, 48, 57] v1, wrap64 (1 + v3), 0⟩ : Sg)]) (p + 1 + 1 + 1) (by omega) (by omega) (by simp; omega) (by omega) (by omega) (by omega)
      refine ⟨t, q, ?_, by simp at l1; omega, by omega, by omega⟩
      refine ev_step (fun k => by rw [spec_l71Text.l0]) ?_
      rw [hw]
      exact ev_pos (by omega) (ev_b rfl (ev_bind e1 (ev_pos a1 (ev_pos (by show v1 < 6; omega) (ev_bind e2 (ev_pos h20 (ev_bind e3 (ev_pos (by omega) e))))))))
    by_cases h21 : v2 = 1
    · obtain ⟨t, q, e, l1, l2, l3⟩ := ih (n - 1) (x ++ [(⟨rd [97, 98, 122, 32, 48, 57] v1, 0, wrap64 (1 + v3)⟩ : Sg)]) (p + 1 + 1 + 1) (by omega) (by omega) (by simp; omega) (by omega) (by omega) (by omega)
      refine ⟨t, q, ?_, by simp at l1; omega, by omega, by omega⟩
      refine ev_step (fun k => by rw [spec_l71Text.l0]) ?_
      rw [hw]
      exact ev_pos (by omega) (ev_b rfl (ev_bind e1 (ev_pos a1 (ev_pos (by show v1 < 6; omega) (ev_bind e2 (ev_neg h20 (ev_pos h21 (ev_bind e3 (ev_pos (by omega) e)))))))))
    by_cases h22 : v2 = 2
    · obtain ⟨t, q, e, l1, l2, l3⟩ := ih (n - 1) (x ++ [(⟨rd [97, 98, 122, 32, 48, 57] v1, wrap64 (1 + v3), wrap64 ((Int.tmod (wrap64 (1 + v3)) 3) + 1)⟩ : Sg)]) (p + 1 + 1 + 1) (by omega) (by omega) (by simp; omega) (by omega) (by omega) (by omega)
      refine ⟨t, q, ?_, by simp at l1; omega, by omega, by omega⟩
      refine ev_step (fun k => by rw [spec_l71Text.l0]) ?_
      rw [hw]
      exact ev_pos (by omega) (ev_b rfl (ev_bind e1 (ev_pos a1 (ev_pos (by show v1 < 6; omega) (ev_bind e2 (ev_neg h20 (ev_neg h21 (ev_pos h22 (ev_bind e3 (ev_pos (by omega) e))))))))))
    · obtain ⟨t, q, e, l1, l2, l3⟩ := ih (n - 1) (x ++ [(⟨rd [97, 98, 122, 32, 48, 57] v1, 0, 0⟩ : Sg)]) (p + 1 + 1) (by omega) (by omega) (by simp; omega) (by omega) (by omega) (by omega)
      refine ⟨t, q, ?_, by simp at l1; omega, by omega, by omega⟩
      refine ev_step (fun k => by rw [spec_l71Text.l0]) ?_
      rw [hw]
      exact ev_pos (by omega) (ev_b rfl (ev_bind e1 (ev_pos a1 (ev_pos (by show v1 < 6; omega) (ev_bind e2 (ev_neg h20 (ev_neg h21 (ev_neg h22 (ev_pos (by omega) e)))))))))
theorem text_ev {b : List Int} (hb : Bytes b) (p n : Int) (h0 : 0 ≤ p) (h1 : p ≤ 800000000) (hn : 0 ≤ n) (hn' : n ≤ 100) :
    ∃ t q, Ev (fun k => spec_l71Text.f k b p n) (t, q) ∧ (t.length : Int) ≤ n ∧ p ≤ q ∧ q ≤ p + 1000 := by
  obtain ⟨v, e, a, c⟩ := pick_ev hb p (n + 1) h0 (by omega)
  obtain ⟨t, q, e2, l1, l2, l3⟩ := text_l0 hb v.toNat v [] (p + 1) rfl (by omega) (by simp; omega) (by omega) (by omega) (by omega)
  refine ⟨t, q, ?_, by simp at l1; omega, by omega, by omega⟩
  unfold spec_l71Text.f
  rw [w64 (n := n + 1) (by omega) (by omega)]
  exact ev_bind e e2
theorem bad_j1 (b : List Int) (t : List Sg) (ht : t.length ≤ 1000) (p x y z : Int) : Ev (fun k => spec_l71Bad.j1 k t b p x y z) (t ++ [(⟨x, y, z⟩ : Sg)], p) := by
  refine ev_step (fun k => by rw [spec_l71Bad.j1]) ?_
  exact (ev_b rfl (ev_pos (by simp; omega) (ev_b rfl (ev_b rfl (ev_pos (by simp; omega) (ev_s rfl))))))
theorem bad_l0 {b : List Int} (hb : Bytes b) (x y z : Int) : ∀ (d : Nat) (t : List Sg) (p : Int), t.length + d = 26 → 0 ≤ p → p + d ≤ 900000000 →
    ∃ r q, Ev (fun k => spec_l71Bad.l0 k t b p x y z) (r, q) ∧ r.length ≤ 26 ∧ p ≤ q ∧ q ≤ p + d + 1 := by
  intro d
  induction d with
  | zero =>
    intro t p hd h0 h1
    obtain ⟨v, e, a, c⟩ := pick_ev hb p 2 h0 (by omega)
    refine ⟨t, p + 1, ?_, by omega, by omega, by omega⟩
    refine ev_step (fun k => by rw [spec_l71Bad.l0]) ?_
    refine ev_bind e (ev_neg ?_ (ev_s rfl))
    rw [w64 (by omega) (by omega)]; omega
  | succ d ih =>
    intro t p hd h0 h1
    obtain ⟨v, e, a, c⟩ := pick_ev hb p 2 h0 (by omega)
    by_cases h : (t.length : Int) < 24 + v
    · obtain ⟨r, q, e2, l1, l2, l3⟩ := ih (t ++ [(⟨x, y, z⟩ : Sg)]) (p + 1) (by simp; omega) (by omega) (by omega)
      refine ⟨r, q, ?_, by omega, by omega, by omega⟩
      refine ev_step (fun k => by rw [spec_l71Bad.l0]) ?_
      refine ev_bind e (ev_pos ?_ (ev_b rfl (ev_pos (by simp; omega) e2)))
      rw [w64 (by omega) (by omega)]; omega
    · refine ⟨t, p + 1, ?_, by omega, by omega, by omega⟩
      refine ev_step (fun k => by rw [spec_l71Bad.l0]) ?_
      refine ev_bind e (ev_neg ?_ (ev_s rfl))
      rw [w64 (by omega) (by omega)]; omega
theorem bad_ev {b : List Int} (hb : Bytes b) (p : Int) (t : List Sg) (ht : t.length ≤ 25) (h0 : 0 ≤ p) (h1 : p ≤ 800000000) :
    ∃ r q, Ev (fun k => spec_l71Bad.f k b p t) (r, q) ∧ r.length ≤ 26 ∧ p ≤ q ∧ q ≤ p + 1000 := by
  unfold spec_l71Bad.f
  obtain ⟨v, e, a, c⟩ := pick_ev hb p 6 h0 (by omega)
  by_cases g0 : v = 0
  · obtain ⟨v1, e1, a1, c1⟩ := pick_ev hb (p + 1) 5 (by omega) (by omega)
    exact ⟨_, _, ev_bind e (ev_pos g0 (ev_b rfl (ev_bind e1 (ev_pos a1 (ev_pos (by show v1 < 5; omega) (bad_j1 b t (by omega) _ _ _ _)))))), by simp; omega, by omega, by omega⟩
  by_cases g1 : v = 1
  · obtain ⟨v1, e1, a1, c1⟩ := pick_ev hb (p + 1) 2 (by omega) (by omega)
    exact ⟨_, _, ev_bind e (ev_neg g0 (ev_pos g1 (ev_b rfl (ev_bind e1 (ev_pos a1 (ev_pos (by show v1 < 2; omega) (bad_j1 b t (by omega) _ _ _ _))))))), by simp; omega, by omega, by omega⟩
  by_cases g2 : v = 2
  · obtain ⟨v1, e1, a1, c1⟩ := pick_ev hb (p + 1) 2 (by omega) (by omega)
    exact ⟨_, _, ev_bind e (ev_neg g0 (ev_neg g1 (ev_pos g2 (ev_b rfl (ev_bind e1 (ev_pos a1 (ev_pos (by show v1 < 2; omega) (bad_j1 b t (by omega) _ _ _ _)))))))), by simp; omega, by omega, by omega⟩
  by_cases g3 : v = 3
  · exact ⟨_, _, ev_bind e (ev_neg g0 (ev_neg g1 (ev_neg g2 (ev_pos g3 (bad_j1 b t (by omega) _ _ _ _))))), by simp; omega, by omega, by omega⟩
  by_cases g4 : v = 4
  · obtain ⟨r, q, e2, l1, l2, l3⟩ := bad_l0 hb 120 0 0 (26 - t.length) t (p + 1) (by omega) (by omega) (by omega)
    exact ⟨r, q, ev_bind e (ev_neg g0 (ev_neg g1 (ev_neg g2 (ev_neg g3 (ev_pos g4 e2))))), by omega, by omega, by omega⟩
  · exact ⟨_, _, ev_bind e (ev_neg g0 (ev_neg g1 (ev_neg g2 (ev_neg g3 (ev_neg g4 (bad_j1 b t (by omega) _ _ _ _)))))), by simp; omega, by omega, by omega⟩
end Go.Proofs.Ytljgbeccmcidkaa.Pure
namespace Go.Proofs.Ytljgbeccmcidkaa.Pure
open Go.RowKit Go.Proofs.Ytljgbeccmcidkaa.P Go.Proofs.YtljgbeccmcidkaaW.PrintWords Go.Proofs.YtljgbeccmcidkaaW.PrintLast
set_option linter.unusedVariables false
set_option linter.unusedSimpArgs false

/-! ### Cells in order -/
def insC (x : Ce) : List Ce → List Ce
  | [] => [x]
  | y :: l => if ltC x y = true then x :: y :: l else y :: insC x l
def sortA : List Ce → List Ce → List Ce
  | acc, [] => acc
  | acc, x :: l => sortA (insC x acc) l
def sortC (l : List Ce) : List Ce := sortA [] l
theorem insC_len (x : Ce) : ∀ l : List Ce, (insC x l).length = l.length + 1
  | [] => rfl
  | y :: l => by unfold insC; split <;> simp [insC_len x l]
theorem sortA_len : ∀ (l acc : List Ce), (sortA acc l).length = acc.length + l.length
  | [], acc => rfl
  | x :: l, acc => by rw [sortA, sortA_len l, insC_len]; simp; omega
theorem sortC_len (l : List Ce) : (sortC l).length = l.length := by rw [sortC, sortA_len]; simp
theorem insC_mem (x c : Ce) : ∀ l : List Ce, c ∈ insC x l ↔ c = x ∨ c ∈ l
  | [] => by simp [insC]
  | y :: l => by
    unfold insC; split
    · simp
    · simp only [List.mem_cons, insC_mem x c l]
      constructor
      · rintro (h | h | h)
        · exact .inr (.inl h)
        · exact .inl h
        · exact .inr (.inr h)
      · rintro (h | h | h)
        · exact .inr (.inl h)
        · exact .inl h
        · exact .inr (.inr h)
theorem sortA_mem (c : Ce) : ∀ (l acc : List Ce), c ∈ sortA acc l ↔ c ∈ acc ∨ c ∈ l
  | [], acc => by simp [sortA]
  | x :: l, acc => by
    rw [sortA, sortA_mem c l, insC_mem, List.mem_cons]
    constructor
    · rintro ((h | h) | h)
      · exact .inr (.inl h)
      · exact .inl h
      · exact .inr (.inr h)
    · rintro (h | h | h)
      · exact .inl (.inr h)
      · exact .inl (.inl h)
      · exact .inr h
theorem sortC_mem (c : Ce) (l : List Ce) : c ∈ sortC l ↔ c ∈ l := by rw [sortC, sortA_mem]; simp
theorem sort_l1 (l x : List Ce) (i : Nat) (hi : i < l.length) (hs : l.length ≤ 1048576) (hx : x.length ≤ 1048576) (r : List Ce) : ∀ (d j : Nat) (y : List Ce) (b : Bool), j + d = x.length → y.length + 2 * d ≤ 4000000 →
    Ev (fun k => spec_l2Sort.l0 k l (y ++ if b = true then x.drop j else insC (rd_T30 l (i : Int)) (x.drop j)) (wrap64 ((i : Int) + 1))) r →
    Ev (fun k => spec_l2Sort.l1 k l x (i : Int) y b (j : Int)) r := by
  intro d
  induction d with
  | zero =>
    intro j y b hj hy h
    rw [List.drop_of_length_le (by omega)] at h
    refine ev_step (fun k => by rw [spec_l2Sort.l1]) (ev_neg (by omega) ?_)
    cases b with
    | true => exact ev_pos rfl (by simpa using h)
    | false => exact ev_neg (by decide) (ev_pos (by omega) (ev_pos (by omega) (ev_pos (by omega) h)))
  | succ d ih =>
    intro j y b hj hy h
    rw [drop_ceN x j (by omega)] at h
    have ih' := ih (j + 1)
    have two : b = false → ltC (rd_T30 l (i : Int)) (rd_T30 x (j : Int)) = true → Ev (fun k => spec_l2Sort.j2 k l x (i : Int) y b (j : Int) true) r := by
      intro hb ho
      subst hb
      rw [if_neg (by decide), insC, if_pos ho] at h
      refine ev_step (fun k => by rw [spec_l2Sort.j2]) ?_
      refine ev_pos rfl (ev_pos (by omega) (ev_pos (by omega) (ev_pos (by omega) (ev_b rfl ?_))))
      refine ev_pos (by omega) (ev_pos (by omega) (ev_pos (by simp; omega) ?_))
      rw [succ64 (n := x.length) (by omega) (by omega)]
      refine ih' _ true (by omega) (by simp; omega) ?_
      rw [if_pos rfl, List.append_assoc, List.append_assoc]
      exact h
    have next : (b = true ∨ ltC (rd_T30 l (i : Int)) (rd_T30 x (j : Int)) = false) → Ev (fun k => spec_l2Sort.j2 k l x (i : Int) y b (j : Int) false) r := by
      intro hb
      refine ev_step (fun k => by rw [spec_l2Sort.j2]) (ev_neg (by decide) (ev_pos (by omega) (ev_pos (by omega) (ev_pos (by omega) ?_))))
      rw [succ64 (n := x.length) (by omega) (by omega)]
      refine ih' _ b (by omega) (by simp; omega) ?_
      cases b with
      | true =>
        rw [if_pos rfl] at h ⊢
        rw [List.append_assoc]; exact h
      | false =>
        have hb' := hb.resolve_left (by decide)
        rw [if_neg (by decide), insC, hb', if_neg (by decide)] at h
        rw [if_neg (by decide), List.append_assoc]; exact h
    refine ev_step (fun k => by rw [spec_l2Sort.l1]) (ev_pos (by omega) ?_)
    cases b with
    | true => exact ev_pos rfl (next (.inl rfl))
    | false =>
      refine ev_neg (by decide) (ev_pos (by omega) (ev_pos (by omega) (ev_pos (by omega) ?_)))
      by_cases o1 : (rd_T30 x (j : Int)).f0 > (rd_T30 l (i : Int)).f0
      · exact ev_pos o1 (two rfl (by unfold ltC; rw [decide_eq_true (by omega)]))
      · refine ev_neg o1 ?_
        by_cases o2 : (rd_T30 x (j : Int)).f0 = (rd_T30 l (i : Int)).f0
        · refine ev_pos o2 ?_
          by_cases o3 : (rd_T30 x (j : Int)).f1 > (rd_T30 l (i : Int)).f1
          · rw [decide_eq_true o3]; exact two rfl (by unfold ltC; rw [decide_eq_true (by omega)])
          · rw [decide_eq_false o3]; exact next (.inr (by unfold ltC; rw [decide_eq_false (by omega)]))
        · exact ev_neg o2 (next (.inr (by unfold ltC; rw [decide_eq_false (by omega)])))
theorem sort_l0 (l : List Ce) (hs : l.length ≤ 1048576) : ∀ (d i : Nat) (x : List Ce), i + d = l.length → x.length ≤ i →
    Ev (fun k => spec_l2Sort.l0 k l x (i : Int)) (sortA x (l.drop i)) := by
  intro d
  induction d with
  | zero =>
    intro i x hi hx
    refine ev_step (fun k => by rw [spec_l2Sort.l0]) (ev_neg (by omega) (ev_s ?_))
    rw [List.drop_of_length_le (by omega)]; rfl
  | succ d ih =>
    intro i x hi hx
    rw [drop_ceN l i (by omega), sortA]
    refine ev_step (fun k => by rw [spec_l2Sort.l0]) (ev_pos (by omega) ?_)
    refine sort_l1 l x i (by omega) hs (by omega) _ x.length 0 [] false (by omega) (by simp; omega) ?_
    rw [if_neg (by decide), List.drop_zero, List.nil_append, succ64 (n := l.length) (by omega) (by omega)]
    exact ih (i + 1) _ (by omega) (by rw [insC_len]; omega)
theorem sort_ev (l : List Ce) (hs : l.length ≤ 1048576) : Ev (fun k => spec_l2Sort.f k l) (sortC l) := by
  unfold spec_l2Sort.f
  have := sort_l0 l hs l.length 0 [] (by omega) (by simp)
  rwa [List.drop_zero] at this

/-! ### A table anew -/
theorem copy_l0 (R C : Int) (l : List Ce) (hs : l.length ≤ 1048576) (hx : ∀ c ∈ l, c.f4.length ≤ 1048576) : ∀ (d i : Nat) (x : List Ce), i + d = l.length → x.length = i → x ++ l.drop i = l →
    Ev (fun k => spec_l2Copy.l0 k (i : Int) R C l R C x) (R, C, l) := by
  intro d
  induction d with
  | zero =>
    intro i x hi hl he
    rw [List.drop_of_length_le (by omega), List.append_nil] at he
    refine ev_step (fun k => by rw [spec_l2Copy.l0]) (ev_neg (by omega) (ev_s ?_))
    rw [he]
  | succ d ih =>
    intro i x hi hl he
    rw [drop_ceN l i (by omega)] at he
    have := hx _ (rd_mem l i (by omega))
    refine ev_step (fun k => by rw [spec_l2Copy.l0]) ?_
    refine ev_pos (by omega) (ev_pos (by omega) (ev_b rfl ?_))
    refine ev_pos (by simp; omega) (ev_pos (by omega) ?_)
    rw [succ64 (n := l.length) (by omega) (by omega)]
    refine ih (i + 1) _ (by omega) (by simp; omega) ?_
    rw [List.append_assoc]; exact he
theorem copy_ev (R C : Int) (l : List Ce) (hs : l.length ≤ 1048576) (hx : ∀ c ∈ l, c.f4.length ≤ 1048576) : Ev (fun k => spec_l2Copy.f k R C l) (R, C, l) := by
  unfold spec_l2Copy.f
  exact copy_l0 R C l hs hx l.length 0 [] (by omega) rfl (by rw [List.drop_zero]; rfl)

/-! ### A new table -/
def colC (row : Int) : Nat → Int → List Ce
  | 0, _ => []
  | d + 1, c => ⟨row, c, 1, 1, []⟩ :: colC row d (c + 1)
def gridC (C : Int) : Nat → Int → List Ce
  | 0, _ => []
  | d + 1, r => colC r C.toNat 0 ++ gridC C d (r + 1)
def newT (R C : Int) : Int × Int × List Ce := if inB R 1 5 && inB C 1 5 then (R, C, gridC C R.toNat 0) else (0, 0, [])
theorem colC_len (row : Int) : ∀ (d : Nat) (c : Int), (colC row d c).length = d
  | 0, _ => rfl
  | d + 1, c => by rw [colC, List.length_cons, colC_len row d]
theorem gridC_len (C : Int) : ∀ (d : Nat) (r : Int), (gridC C d r).length = d * C.toNat
  | 0, _ => by simp [gridC]
  | d + 1, r => by rw [gridC, List.length_append, colC_len, gridC_len C d, Nat.add_mul]; omega
theorem colC_text (row : Int) : ∀ (d : Nat) (c : Int), ∀ x ∈ colC row d c, x.f4 = []
  | 0, _, x, hx => by simp [colC] at hx
  | d + 1, c, x, hx => by
    rcases List.mem_cons.1 hx with rfl | hx
    · rfl
    · exact colC_text row d _ x hx
theorem gridC_text (C : Int) : ∀ (d : Nat) (r : Int), ∀ x ∈ gridC C d r, x.f4 = []
  | 0, _, x, hx => by simp [gridC] at hx
  | d + 1, r, x, hx => by
    rcases List.mem_append.1 hx with hx | hx
    · exact colC_text r _ _ x hx
    · exact gridC_text C d _ x hx
theorem new_l1 (R C row : Int) (hC : C ≤ 5) (r : Int × Int × List Ce) : ∀ (d : Nat) (col : Int) (x : List Ce), 0 ≤ col → col + d = C → x.length + d ≤ 1000 →
    Ev (fun k => spec_TableNew.l0 k R C (wrap64 (row + 1)) R C (x ++ colC row d col)) r → Ev (fun k => spec_TableNew.l1 k R C row col R C x) r := by
  intro d
  induction d with
  | zero =>
    intro col x h0 h1 hx h
    refine ev_step (fun k => by rw [spec_TableNew.l1]) (ev_neg (by omega) ?_)
    rw [colC, List.append_nil] at h; exact h
  | succ d ih =>
    intro col x h0 h1 hx h
    refine ev_step (fun k => by rw [spec_TableNew.l1]) (ev_pos (by omega) (ev_pos (by omega) ?_))
    rw [w64 (n := col + 1) (by omega) (by omega)]
    exact ih (col + 1) _ (by omega) (by omega) (by simp; omega) (by rw [List.append_assoc]; exact h)
theorem new_l0 (R C : Int) (hR : R ≤ 5) (hC : 0 ≤ C ∧ C ≤ 5) : ∀ (d : Nat) (row : Int) (x : List Ce), 0 ≤ row → row + d = R → x.length + 5 * d ≤ 900 →
    Ev (fun k => spec_TableNew.l0 k R C row R C x) (R, C, x ++ gridC C d row) := by
  intro d
  induction d with
  | zero =>
    intro row x h0 h1 hx
    refine ev_step (fun k => by rw [spec_TableNew.l0]) (ev_neg (by omega) (ev_s ?_))
    rw [gridC, List.append_nil]
  | succ d ih =>
    intro row x h0 h1 hx
    refine ev_step (fun k => by rw [spec_TableNew.l0]) (ev_pos (by omega) ?_)
    refine new_l1 R C row hC.2 _ C.toNat 0 x (Int.le_refl _) (by omega) (by omega) ?_
    rw [w64 (n := row + 1) (by omega) (by omega), gridC, ← List.append_assoc]
    exact ih (row + 1) _ (by omega) (by omega) (by rw [List.length_append, colC_len]; omega)
theorem specNew (R C : Int) : Ev (fun k => spec_TableNew.f k R C) (newT R C) := by
  have no : ∀ r, r = (0, 0, []) → Ev (fun k => spec_TableNew.j0 k R C true) r := by
    intro r h
    refine ev_step (fun k => by rw [spec_TableNew.j0]) ?_
    exact ev_pos rfl (ev_s h.symm)
  unfold spec_TableNew.f newT
  refine ev_b (l6In_eq _ _ _) ?_
  by_cases h1 : inB R 1 5 = true
  · refine ev_pos h1 (ev_b (l6In_eq _ _ _) ?_)
    by_cases h2 : inB C 1 5 = true
    · rw [h2]
      have hR : 1 ≤ R ∧ R ≤ 5 := by simpa [inB] using h1
      have hC : 1 ≤ C ∧ C ≤ 5 := by simpa [inB] using h2
      refine ev_step (fun k => by rw [spec_TableNew.j0]) (ev_neg (by decide) ?_)
      rw [if_pos (by rw [h1]; rfl)]
      have := new_l0 R C hR.2 ⟨by omega, hC.2⟩ R.toNat 0 [] (Int.le_refl _) (by omega) (by simp; omega)
      rwa [List.nil_append] at this
    · rw [Bool.eq_false_iff.mpr h2]
      exact no _ (by rw [if_neg (by simp)])
  · exact ev_neg h1 (no _ (by rw [if_neg (by simp [h1])]))

/-! ### Merging: it comes to an end; what it makes is small -/
def Small (l : List Ce) : Prop := 1 ≤ l.length ∧ l.length ≤ 26 ∧ ∀ c ∈ l, c.f4.length ≤ 26
def Fine4 (r : Int × Int × List Ce × Bool) : Prop := r.2.2.2 = true → 1 ≤ r.2.2.1.length ∧ r.2.2.1.length ≤ 25 ∧ ∀ c ∈ r.2.2.1, c.f4.length ≤ 24
theorem fine_no : Fine4 (0, 0, [], false) := fun h => by cases h
theorem merge_l2 (x14 x15 x18 R C : Int) (l : List Ce) (a b c d' : Int) (tx : List Sg) (R' C' : Int) (out : List Ce) (e : Ce) (hb : 0 ≤ e.f1 ∧ e.f1 + e.f3 ≤ 5)
    (Q : Int × Int × List Ce × Bool → Prop) : ∀ (d : Nat) (x19 n : Int), 0 ≤ x19 → x19 + d = e.f1 + e.f3 → 0 ≤ n → n + d ≤ 1000 →
    (∀ m, 0 ≤ m → m ≤ n + d → ∃ r, Ev (fun k => spec_TableMerge.l1 k x14 x15 m (wrap64 (x18 + 1)) R C l a b c d' tx R' C' out e.f0 e.f1 e.f2 e.f3 e.f4) r ∧ Q r) →
    ∃ r, Ev (fun k => spec_TableMerge.l2 k x14 x15 n x18 x19 R C l a b c d' tx R' C' out e.f0 e.f1 e.f2 e.f3 e.f4) r ∧ Q r := by
  intro d
  induction d with
  | zero =>
    intro x19 n h0 h1 h2 h3 h
    obtain ⟨r, e1, q⟩ := h n h2 (by omega)
    refine ⟨r, ev_step (fun k => by rw [spec_TableMerge.l2]) (ev_neg ?_ e1), q⟩
    rw [w64 (by omega) (by omega)]; omega
  | succ d ih =>
    intro x19 n h0 h1 h2 h3 h
    have hin := l2In_eq x18 x19 (⟨a, b, c, d', tx⟩ : Ce)
    by_cases hs : sqB x18 x19 (⟨a, b, c, d', tx⟩ : Ce) = true
    · obtain ⟨r, e1, q⟩ := ih (x19 + 1) (n + 1) (by omega) (by omega) (by omega) (by omega) (fun m m0 m1 => h m m0 (by omega))
      refine ⟨r, ev_step (fun k => by rw [spec_TableMerge.l2]) (ev_pos ?_ (ev_b hin (ev_pos hs ?_))), q⟩
      · rw [w64 (by omega) (by omega)]; omega
      · rw [w64 (n := n + 1) (by omega) (by omega), w64 (n := x19 + 1) (by omega) (by omega)]; exact e1
    · obtain ⟨r, e1, q⟩ := ih (x19 + 1) n (by omega) (by omega) (by omega) (by omega) (fun m m0 m1 => h m m0 (by omega))
      refine ⟨r, ev_step (fun k => by rw [spec_TableMerge.l2]) (ev_pos ?_ (ev_b hin (ev_neg hs ?_))), q⟩
      · rw [w64 (by omega) (by omega)]; omega
      · rw [w64 (n := x19 + 1) (by omega) (by omega)]; exact e1
theorem merge_l1 (x14 x15 R C : Int) (l : List Ce) (a b c d' : Int) (tx : List Sg) (R' C' : Int) (out : List Ce) (e : Ce) (ha : 0 ≤ e.f0 ∧ e.f0 + e.f2 ≤ 5) (hb : 0 ≤ e.f1 ∧ e.f1 + e.f3 ≤ 5 ∧ 0 ≤ e.f3)
    (he : e.f4.length ≤ 1048576) (hto : tx.length ≤ 1048576) (hou : out.length ≤ 1048576) (Q : Int × Int × List Ce × Bool → Prop) (hno : Q (0, 0, [], false))
    (h1 : ∃ r, Ev (fun k => spec_TableMerge.l0 k x14 (wrap64 (x15 + 1)) R C l a b c d' tx R' C' (out ++ [e])) r ∧ Q r)
    (h2 : ∃ r, Ev (fun k => spec_TableMerge.l0 k (wrap64 (x14 + 1)) (wrap64 (x15 + 1)) R C l a b c d' (tx ++ e.f4) R' C' out) r ∧ Q r) : ∀ (d : Nat) (x18 n : Int), 0 ≤ x18 → x18 + d = e.f0 + e.f2 → 0 ≤ n → n + 10 * d ≤ 900 →
    ∃ r, Ev (fun k => spec_TableMerge.l1 k x14 x15 n x18 R C l a b c d' tx R' C' out e.f0 e.f1 e.f2 e.f3 e.f4) r ∧ Q r := by
  intro d
  induction d with
  | zero =>
    intro x18 n h0 hd n0 n1
    have hz : ¬ x18 < wrap64 (e.f0 + e.f2) := by rw [w64 (by omega) (by omega)]; omega
    by_cases hn : n = 0
    · obtain ⟨r, e1, q⟩ := h1
      refine ⟨r, ?_, q⟩
      refine ev_step (fun k => by rw [spec_TableMerge.l1]) ?_
      refine ev_neg hz (ev_pos hn (ev_b rfl ?_))
      refine ev_pos (by simp; omega) (ev_pos (by omega) ?_)
      exact e1
    · by_cases hm : n = wrap64 (e.f2 * e.f3)
      · obtain ⟨r, e1, q⟩ := h2
        exact ⟨r, ev_step (fun k => by rw [spec_TableMerge.l1]) (ev_neg hz (ev_neg hn (ev_pos hm (ev_pos (by omega) e1)))), q⟩
      · exact ⟨_, ev_step (fun k => by rw [spec_TableMerge.l1]) (ev_neg hz (ev_neg hn (ev_neg hm (ev_s rfl)))), hno⟩
  | succ d ih =>
    intro x18 n h0 hd n0 n1
    have hz : x18 < wrap64 (e.f0 + e.f2) := by rw [w64 (by omega) (by omega)]; omega
    obtain ⟨r, e1, q⟩ := merge_l2 x14 x15 x18 R C l a b c d' tx R' C' out e ⟨hb.1, hb.2.1⟩ Q e.f3.toNat e.f1 n hb.1 (by omega) n0 (by omega) (fun m m0 m1 => by
      rw [w64 (n := x18 + 1) (by omega) (by omega)]
      exact ih (x18 + 1) m (by omega) (by omega) m0 (by omega))
    exact ⟨r, ev_step (fun k => by rw [spec_TableMerge.l1]) (ev_pos hz e1), q⟩
theorem merge_l0 (R C : Int) (hR : R ≤ 5) (hC : C ≤ 5) (l : List Ce) (hl : l.length ≤ 25) (hc : ∀ c ∈ l, cellB R C c = true) (a b c d' : Int) : ∀ (d i : Nat) (n : Int) (tx : List Sg) (out : List Ce), i + d = l.length → 0 ≤ n → (out.length : Int) + n ≤ i → (tx.length : Int) ≤ 24 * (i : Int) → (∀ x ∈ out, x.f4.length ≤ 24) →
    ∃ r, Ev (fun k => spec_TableMerge.l0 k n (i : Int) R C l a b c d' tx R C out) r ∧ Fine4 r := by
  intro d
  induction d with
  | zero =>
    intro i n tx out hi n0 ho ht hx
    by_cases hn : n < 2
    · exact ⟨_, ev_step (fun k => by rw [spec_TableMerge.l0]) (ev_neg (by omega) (ev_pos hn (ev_s rfl))), fine_no⟩
    · by_cases hk : textB tx = true
      · have es := sort_ev (out ++ [(⟨a, b, c, d', tx⟩ : Ce)]) (by simp; omega)
        refine ⟨(R, C, sortC (out ++ [(⟨a, b, c, d', tx⟩ : Ce)]), true), ?_, fun _ => ?_⟩
        · refine ev_step (fun k => by rw [spec_TableMerge.l0]) ?_
          exact ev_neg (by omega) (ev_neg hn (ev_bind (specTextOk tx) (ev_pos hk (ev_pos (by omega) (ev_bind es (ev_s rfl))))))
        refine ⟨by rw [sortC_len]; simp, by rw [sortC_len]; simp; omega, fun x hx' => ?_⟩
        rcases List.mem_append.1 ((sortC_mem x _).1 hx') with h | h
        · exact hx x h
        · rw [List.mem_singleton] at h
          subst h
          exact of_decide_eq_true (Bool.and_eq_true_iff.1 hk).1
      · exact ⟨_, ev_step (fun k => by rw [spec_TableMerge.l0]) (ev_neg (by omega) (ev_neg hn (ev_bind (specTextOk tx) (ev_neg hk (ev_s rfl))))), fine_no⟩
  | succ d ih =>
    intro i n tx out hi n0 ho ht hx
    have hil : i < l.length := by omega
    have q0 : (i : Int) ≤ 25 := by omega
    have f1 : i + 1 + d = l.length := by omega
    have q4 : tx.length ≤ 1048576 := by clear ih hc hx; omega
    have q5 : out.length ≤ 1048576 := by clear ih hc hx; omega
    have hw1 : wrap64 ((i : Int) + 1) = ((i + 1 : Nat) : Int) := by rw [w64 (by omega) (by omega)]; omega
    have hw2 : wrap64 (n + 1) = n + 1 := by rw [w64 (by omega) (by omega)]
    have f3 : (tx.length : Int) ≤ 24 * ((i + 1 : Nat) : Int) := by clear ih hc hx; omega
    have f4 : 0 ≤ n + 1 := by omega
    have f5 : (out.length : Int) + (n + 1) ≤ ((i + 1 : Nat) : Int) := by clear ih hc hx; omega
    have hm := hc _ (rd_mem l i hil)
    have g1 : (i : Int) < (l.length : Int) := by omega
    have g2 : 0 ≤ (i : Int) := by omega
    generalize hE : rd_T30 l (i : Int) = e at hm
    have f2 : ((out ++ [e]).length : Int) + n ≤ ((i + 1 : Nat) : Int) := by rw [List.length_append, List.length_singleton]; clear ih hc hx; omega
    obtain ⟨p0, p1, p2, p3, p4⟩ := cell_parts hm
    have p5 : e.f4.length ≤ 24 := of_decide_eq_true (Bool.and_eq_true_iff.1 p4).1
    have f6 : ((tx ++ e.f4).length : Int) ≤ 24 * ((i + 1 : Nat) : Int) := by rw [List.length_append]; clear ih hc hx p0 p1 p2 p3 f5 f2; omega
    have q3 : e.f4.length ≤ 1048576 := Nat.le_trans p5 (by decide)
    have q1 : 0 ≤ e.f0 ∧ e.f0 + e.f2 ≤ 5 := ⟨p0.1, by have := p2.2; clear ih hc hx p0 p1 p3 f5 f2 f6 f3; omega⟩
    have q2 : 0 ≤ e.f1 ∧ e.f1 + e.f3 ≤ 5 ∧ 0 ≤ e.f3 := ⟨p1.1, by have := p3.2; clear ih hc hx p0 p1 p2 f5 f2 f6 f3; omega, by have := p3.1; clear ih hc hx p0 p1 p2 f5 f2 f6 f3; omega⟩
    have q7 : e.f0 + (e.f2.toNat : Int) = e.f0 + e.f2 := by have := p2.1; clear ih hc hx p0 p1 p3 f5 f2 f6 f3 q2; omega
    have q6 : (0 : Int) + 10 * (e.f2.toNat : Int) ≤ 900 := by have := q1.2; have := q1.1; clear ih hc hx p0 p1 p3 f5 f2 f6 f3 q2; omega
    obtain ⟨r, e2, q⟩ := merge_l1 n (i : Int) R C l a b c d' tx R C out e q1 q2 q3 q4 q5 Fine4 fine_no
      (by
        rw [hw1]
        refine ih (i + 1) n tx _ f1 n0 f2 f3 (fun x hx' => ?_)
        rcases List.mem_append.1 hx' with h | h
        · exact hx x h
        · rw [List.mem_singleton] at h; subst h; exact p5)
      (by
        rw [hw1, hw2]
        exact ih (i + 1) (n + 1) _ out f1 f4 f5 f6 hx)
      e.f2.toNat e.f0 0 p0.1 q7 (Int.le_refl _) q6
    refine ⟨r, ?_, q⟩
    refine ev_step (fun k => by rw [spec_TableMerge.l0]) ?_
    refine ev_pos g1 (ev_pos g2 ?_)
    rw [hE]; exact e2
theorem merge_ev (R C : Int) (l : List Ce) (hl : l.length ≤ 1048576) (row col down right : Int) : ∃ r, Ev (fun k => spec_TableMerge.f k R C l row col down right) r ∧ Fine4 r := by
  have no : ∃ r, Ev (fun k => spec_TableMerge.j0 k row col down right true R C l) r ∧ Fine4 r := ⟨(0, 0, [], false), by
    refine ev_step (fun k => by rw [spec_TableMerge.j0]) ?_
    exact ev_pos rfl (ev_s rfl), fine_no⟩
  obtain ⟨rn, en, qn⟩ := no
  unfold spec_TableMerge.f
  by_cases h : okB R C l = true
  · have hlen := ok_len h
    have hp := h
    simp only [okB, Bool.and_eq_true] at hp
    have hR : 1 ≤ R ∧ R ≤ 5 := by simpa [inB] using hp.1
    have hC : 1 ≤ C ∧ C ≤ 5 := by simpa [inB] using hp.2.1
    by_cases h1 : inB row 0 (wrap64 (R - 1)) = true
    · by_cases h2 : inB col 0 (wrap64 (C - 1)) = true
      · by_cases h3 : inB down 1 (wrap64 (R - row)) = true
        · by_cases h4 : inB right 1 (wrap64 (C - col)) = true
          · obtain ⟨r, e, q⟩ := merge_l0 R C hR.2 hC.2 l hlen (form_mem _ _ hp.2.2.1) row col down right l.length 0 0 [] [] (by omega) (Int.le_refl _) (by simp) (by simp) (fun x hx => by simp at hx)
            refine ⟨r, ev_bind (specTableOk R C l hl) (ev_pos h (ev_b (l6In_eq _ _ _) (ev_pos h1 (ev_b (l6In_eq _ _ _) (ev_pos h2 (ev_b (l6In_eq _ _ _) (ev_pos h3 (ev_b (l6In_eq _ _ _) ?_)))))))), q⟩
            rw [h4]
            refine ev_step (fun k => by rw [spec_TableMerge.j0]) ?_
            exact ev_neg (by decide) e
          · refine ⟨rn, ev_bind (specTableOk R C l hl) (ev_pos h (ev_b (l6In_eq _ _ _) (ev_pos h1 (ev_b (l6In_eq _ _ _) (ev_pos h2 (ev_b (l6In_eq _ _ _) (ev_pos h3 (ev_b (l6In_eq _ _ _) ?_)))))))), qn⟩
            rw [Bool.eq_false_iff.mpr h4]; exact en
        · exact ⟨rn, ev_bind (specTableOk R C l hl) (ev_pos h (ev_b (l6In_eq _ _ _) (ev_pos h1 (ev_b (l6In_eq _ _ _) (ev_pos h2 (ev_b (l6In_eq _ _ _) (ev_neg h3 en))))))), qn⟩
      · exact ⟨rn, ev_bind (specTableOk R C l hl) (ev_pos h (ev_b (l6In_eq _ _ _) (ev_pos h1 (ev_b (l6In_eq _ _ _) (ev_neg h2 en))))), qn⟩
    · exact ⟨rn, ev_bind (specTableOk R C l hl) (ev_pos h (ev_b (l6In_eq _ _ _) (ev_neg h1 en))), qn⟩
  · exact ⟨rn, ev_bind (specTableOk R C l hl) (ev_neg h en), qn⟩
end Go.Proofs.Ytljgbeccmcidkaa.Pure
namespace Go.Proofs.Ytljgbeccmcidkaa.Pure
open Go.RowKit Go.Proofs.Ytljgbeccmcidkaa.P Go.Proofs.YtljgbeccmcidkaaW.PrintWords Go.Proofs.YtljgbeccmcidkaaW.PrintLast
set_option linter.unusedVariables false
set_option linter.unusedSimpArgs false

def SmallT (l : List Ce) : Prop := 1 ≤ l.length ∧ l.length ≤ 25 ∧ ∀ c ∈ l, c.f4.length ≤ 24
def SmallU (l : List Ce) : Prop := l.length ≤ 26 ∧ ∀ c ∈ l, c.f4.length ≤ 26
theorem SmallT.u {l : List Ce} (h : SmallT l) : SmallU l := ⟨by have := h.2.1; omega, fun c hc => by have := h.2.2 c hc; omega⟩
theorem set_mem {l : List Ce} {i : Nat} {v c : Ce} (h : c ∈ l.set i v) : c ∈ l ∨ c = v := List.mem_or_eq_of_mem_set h
theorem table_l1 {b : List Int} (hb : Bytes b) (R C : Int) : ∀ (d i : Nat) (l : List Ce) (p : Int), i + d = l.length → SmallT l → 0 ≤ p → p + 1100 * d ≤ 700000000 →
    ∃ l' q, Ev (fun k => spec_l71Table.l1 k (i : Int) b p R C l) (R, C, l', q) ∧ SmallT l' ∧ p ≤ q ∧ q ≤ p + 1100 * d := by
  intro d
  induction d with
  | zero =>
    intro i l p hi hl h0 h1
    exact ⟨l, p, ev_step (fun k => by rw [spec_l71Table.l1]) (ev_neg (by omega) (ev_s rfl)), hl, by omega, by omega⟩
  | succ d ih =>
    intro i l p hi hl h0 h1
    have hlen := hl.2.1
    obtain ⟨v, e, a, c⟩ := pick_ev hb p 2 h0 (by omega)
    by_cases hv : v = 0
    · obtain ⟨t, q, e2, b1, b2, b3⟩ := text_ev hb (p + 1) 5 (by omega) (by omega) (by omega) (by omega)
      obtain ⟨l', q', e3, s1, s2, s3⟩ := ih (i + 1) (l.set (i : Int).toNat (⟨(rd_T30 l (i : Int)).f0, (rd_T30 l (i : Int)).f1, (rd_T30 l (i : Int)).f2, (rd_T30 l (i : Int)).f3, t⟩ : Ce)) q (by simp; omega)
        ⟨by rw [List.length_set]; exact hl.1, by rw [List.length_set]; exact hl.2.1, fun x hx => by
          rcases set_mem hx with h | h
          · exact hl.2.2 x h
          · subst h; show t.length ≤ 24; omega⟩ (by omega) (by omega)
      refine ⟨l', q', ?_, s1, by omega, by omega⟩
      have g0 : (0 : Int) ≤ (i : Int) := by omega
      refine ev_step (fun k => by rw [spec_l71Table.l1]) ?_
      refine ev_pos (by omega) (ev_bind e (ev_pos hv (ev_bind e2 ?_)))
      refine ev_pos g0 ?_
      rw [succ64 (n := l.length) (by omega) (by omega)]; exact e3
    · obtain ⟨l', q', e3, s1, s2, s3⟩ := ih (i + 1) l (p + 1) (by omega) hl (by omega) (by omega)
      refine ⟨l', q', ev_step (fun k => by rw [spec_l71Table.l1]) (ev_pos (by omega) (ev_bind e (ev_neg hv ?_))), s1, by omega, by omega⟩
      rw [succ64 (n := l.length) (by omega) (by omega)]; exact e3
theorem table_l0 {b : List Int} (hb : Bytes b) : ∀ (d : Nat) (n R C : Int) (l : List Ce) (p : Int), n.toNat = d → d ≤ 10 → SmallT l → 0 ≤ p → p + 10 * d ≤ 600000000 →
    ∃ R' C' l' q, Ev (fun k => spec_l71Table.l0 k n b p R C l) (R', C', l', q) ∧ SmallT l' ∧ 0 ≤ q ∧ q ≤ p + 10 * d + 30000 := by
  intro d
  induction d with
  | zero =>
    intro n R C l p hn hd hl h0 h1
    have hlen := hl.2.1
    obtain ⟨l', q, e, s1, s2, s3⟩ := table_l1 hb R C l.length 0 l p (by omega) hl h0 (by omega)
    refine ⟨R, C, l', q, ?_, s1, by omega, by omega⟩
    refine ev_step (fun k => by rw [spec_l71Table.l0]) ?_
    exact ev_neg (by omega) e
  | succ d ih =>
    intro n R C l p hn hd hl h0 h1
    have hlen := hl.2.1
    obtain ⟨v1, e1, _, _⟩ := pick_ev hb p R h0 (by omega)
    obtain ⟨v2, e2, _, _⟩ := pick_ev hb (p + 1) C (by omega) (by omega)
    obtain ⟨v3, e3, _, _⟩ := pick_ev hb (p + 1 + 1) (wrap64 (R - v1)) (by omega) (by omega)
    obtain ⟨v4, e4, _, _⟩ := pick_ev hb (p + 1 + 1 + 1) (wrap64 (C - v2)) (by omega) (by omega)
    obtain ⟨⟨r1, r2, r3, r4⟩, e5, hf⟩ := merge_ev R C l (by omega) v1 v2 (wrap64 (1 + v3)) (wrap64 (1 + v4))
    have hw : wrap64 (n - 1) = n - 1 := w64 (by omega) (by omega)
    by_cases h4 : r4 = true
    · have hf' := hf h4
      obtain ⟨R', C', l', q, e6, s1, s2, s3⟩ := ih (n - 1) r1 r2 r3 (p + 1 + 1 + 1 + 1) (by omega) (by omega) hf' (by omega) (by omega)
      refine ⟨R', C', l', q, ?_, s1, by omega, by omega⟩
      refine ev_step (fun k => by rw [spec_l71Table.l0]) ?_
      refine ev_pos (by omega) (ev_bind e1 (ev_bind e2 (ev_bind e3 (ev_bind e4 (ev_bind e5 (ev_pos h4 ?_))))))
      rw [hw]; exact e6
    · obtain ⟨R', C', l', q, e6, s1, s2, s3⟩ := ih (n - 1) R C l (p + 1 + 1 + 1 + 1) (by omega) (by omega) hl (by omega) (by omega)
      refine ⟨R', C', l', q, ?_, s1, by omega, by omega⟩
      refine ev_step (fun k => by rw [spec_l71Table.l0]) ?_
      refine ev_pos (by omega) (ev_bind e1 (ev_bind e2 (ev_bind e3 (ev_bind e4 (ev_bind e5 (ev_neg h4 ?_))))))
      rw [hw]; exact e6
theorem table_ev {b : List Int} (hb : Bytes b) (p : Int) (h0 : 0 ≤ p) (h1 : p ≤ 500000000) :
    ∃ R C l q, Ev (fun k => spec_l71Table.f k b p) (R, C, l, q) ∧ SmallT l ∧ 0 ≤ q ∧ q ≤ p + 31000 := by
  obtain ⟨v1, e1, a1, c1⟩ := pick_ev hb p 4 h0 (by omega)
  obtain ⟨v2, e2, a2, c2⟩ := pick_ev hb (p + 1) 4 (by omega) (by omega)
  obtain ⟨v3, e3, a3, c3⟩ := pick_ev hb (p + 1 + 1) 4 (by omega) (by omega)
  have hn : newT (wrap64 (1 + v1)) (wrap64 (1 + v2)) = (1 + v1, 1 + v2, gridC (1 + v2) (1 + v1).toNat 0) := by
    rw [w64 (n := 1 + v1) (by omega) (by omega), w64 (n := 1 + v2) (by omega) (by omega), newT, if_pos]
    simp [inB]; omega
  have hs : SmallT (gridC (1 + v2) (1 + v1).toNat 0) := by
    refine ⟨?_, ?_, fun c hc => by rw [gridC_text _ _ _ c hc]; simp⟩
    · rw [gridC_len]; exact Nat.mul_pos (by omega) (by omega)
    · rw [gridC_len]
      have := Nat.mul_le_mul (show (1 + v1).toNat ≤ 5 by omega) (show (1 + v2).toNat ≤ 5 by omega); omega
  obtain ⟨R, C, l, q, e4, s1, s2, s3⟩ := table_l0 hb v3.toNat v3 (1 + v1) (1 + v2) _ (p + 1 + 1 + 1) rfl (by omega) hs (by omega) (by omega)
  refine ⟨R, C, l, q, ?_, s1, s2, by omega⟩
  unfold spec_l71Table.f
  refine ev_bind e1 (ev_bind e2 (ev_bind (specNew _ _) (ev_bind e3 ?_)))
  rw [hn]; exact e4
theorem spoil_ev {b : List Int} (hb : Bytes b) (p R C : Int) (l : List Ce) (hl : SmallT l) (h0 : 0 ≤ p) (h1 : p ≤ 600000000) :
    ∃ R' C' l' q, Ev (fun k => spec_l71Spoil.f k b p R C l) (R', C', l', q) ∧ SmallU l' ∧ 0 ≤ q ∧ q ≤ p + 3000 := by
  have hlen := hl.2.1
  have hpos := hl.1
  have hu := hl.u
  have e0 := copy_ev R C l (by omega) (fun c hc => by have := hl.2.2 c hc; omega)
  obtain ⟨v, e1, a1, c1⟩ := pick_ev hb p (l.length : Int) h0 (by omega)
  obtain ⟨s, e2, a2, c2⟩ := pick_ev hb (p + 1) 7 (by omega) (by omega)
  have hv : v < (l.length : Int) := by omega
  have hset : ∀ x : Ce, x.f4.length ≤ 26 → SmallU (l.set v.toNat x) := fun x hx => ⟨by rw [List.length_set]; omega, fun c hc => by
    rcases set_mem hc with h | h
    · exact hu.2 c h
    · subst h; exact hx⟩
  have hrd : (rd_T30 l v).f4.length ≤ 24 := by
    have h2 := rd_mem l v.toNat (by omega)
    rw [Int.toNat_of_nonneg a1] at h2
    exact hl.2.2 _ h2
  have hrd0 : (rd_T30 l 0).f4.length ≤ 24 := hl.2.2 _ (rd_mem l 0 (by omega))
  unfold spec_l71Spoil.f
  by_cases s0 : s = 0
  · obtain ⟨u, e3, _, _⟩ := pick_ev hb (p + 1 + 1) 7 (by omega) (by omega)
    exact ⟨_, _, _, _, ev_bind e0 (ev_bind e1 (ev_bind e2 (ev_pos s0 (ev_bind e3 (ev_pos a1 (ev_pos hv (ev_s rfl))))))), hset _ (by show (rd_T30 l v).f4.length ≤ 26; omega), by omega, by omega⟩
  by_cases s1 : s = 1
  · obtain ⟨u, e3, _, _⟩ := pick_ev hb (p + 1 + 1) 6 (by omega) (by omega)
    exact ⟨_, _, _, _, ev_bind e0 (ev_bind e1 (ev_bind e2 (ev_neg s0 (ev_pos s1 (ev_bind e3 (ev_pos a1 (ev_pos hv (ev_s rfl)))))))), hset _ (by show (rd_T30 l v).f4.length ≤ 26; omega), by omega, by omega⟩
  by_cases s2 : s = 2
  · have hw : wrap64 (v + 1) = v + 1 := w64 (by omega) (by omega)
    have k1 : v ≤ (l.length : Int) := by omega
    have k2 : 0 ≤ wrap64 (v + 1) := by rw [hw]; omega
    have k3 : wrap64 (v + 1) ≤ (l.length : Int) := by rw [hw]; omega
    exact ⟨_, _, _, _, ev_bind e0 (ev_bind e1 (ev_bind e2 (ev_neg s0 (ev_neg s1 (ev_pos s2 (ev_pos a1 (ev_pos k1 (ev_pos k2 (ev_pos k3 (ev_s rfl)))))))))),
      ⟨by have := List.length_eraseIdx_le l v.toNat; show (l.eraseIdx v.toNat).length ≤ 26; omega, fun c hc => hu.2 c (List.mem_of_mem_eraseIdx hc)⟩, by omega, by omega⟩
  by_cases s3 : s = 3
  · have k1 : (0 : Int) < (l.length : Int) := by omega
    have k2 : l.length < 2513169434916 := by omega
    exact ⟨_, _, _, _, ev_bind e0 (ev_bind e1 (ev_bind e2 (ev_neg s0 (ev_neg s1 (ev_neg s2 (ev_pos s3 (ev_pos k1 (ev_pos k2 (ev_s rfl))))))))),
      ⟨by simp; omega, fun c hc => by
        rcases List.mem_append.1 hc with h | h
        · exact hu.2 c h
        · rw [List.mem_singleton] at h; subst h; show (rd_T30 l 0).f4.length ≤ 26; omega⟩, by omega, by omega⟩
  by_cases s4 : s = 4
  · obtain ⟨u, e3, _, _⟩ := pick_ev hb (p + 1 + 1) 8 (by omega) (by omega)
    exact ⟨_, _, _, _, ev_bind e0 (ev_bind e1 (ev_bind e2 (ev_neg s0 (ev_neg s1 (ev_neg s2 (ev_neg s3 (ev_pos s4 (ev_bind e3 (ev_s rfl))))))))), hu, by omega, by omega⟩
  by_cases s5 : s = 5
  · obtain ⟨t, q, e3, b1, b2, b3⟩ := bad_ev hb (p + 1 + 1) (rd_T30 l v).f4 (by omega) (by omega) (by omega)
    exact ⟨_, _, _, _, ev_bind e0 (ev_bind e1 (ev_bind e2 (ev_neg s0 (ev_neg s1 (ev_neg s2 (ev_neg s3 (ev_neg s4 (ev_pos s5 (ev_pos a1 (ev_pos hv (ev_bind e3 (ev_s rfl)))))))))))), hset _ b1, by omega, by omega⟩
  · obtain ⟨u, e3, _, _⟩ := pick_ev hb (p + 1 + 1) 8 (by omega) (by omega)
    exact ⟨_, _, _, _, ev_bind e0 (ev_bind e1 (ev_bind e2 (ev_neg s0 (ev_neg s1 (ev_neg s2 (ev_neg s3 (ev_neg s4 (ev_neg s5 (ev_bind e3 (ev_s rfl)))))))))), hu, by omega, by omega⟩

/-! ### The cell that has a square -/
theorem at_found (row col : Int) : ∀ (l : List Ce) (i : Int), cntC row col l ≠ 0 → ∃ j : Nat, j < l.length ∧ atZ row col l i = i + j ∧ sqB row col (rd_T30 l (j : Int)) = true
  | [], i, h => absurd rfl h
  | c :: l, i, h => by
    by_cases e : sqB row col c = true
    · exact ⟨0, by simp, by rw [atZ, if_pos e]; simp, e⟩
    · rw [cntC, if_neg e, Int.zero_add] at h
      obtain ⟨j, h1, h2, h3⟩ := at_found row col l (i + 1) h
      refine ⟨j + 1, by simp; omega, by rw [atZ, if_neg e, h2]; omega, ?_⟩
      have : rd_T30 (c :: l) ((j + 1 : Nat) : Int) = rd_T30 l (j : Int) := by
        unfold rd_T30
        rw [Int.toNat_natCast, Int.toNat_natCast, List.getD_cons_succ]
      rw [this]; exact h3
theorem at_none (row col : Int) : ∀ (l : List Ce) (i : Int), (∀ c ∈ l, sqB row col c = false) → atZ row col l i = -1
  | [], _, _ => rfl
  | c :: l, i, h => by
    rw [atZ, h c List.mem_cons_self, if_neg (by decide)]
    exact at_none row col l _ (fun x hx => h x (List.mem_cons_of_mem _ hx))
theorem sq_out {R C : Int} (hR : R ≤ 5) (hC : C ≤ 5) {c : Ce} (h : cellB R C c = true) {row col : Int} (ho : row < 0 ∨ R ≤ row ∨ col < 0 ∨ C ≤ col) : sqB row col c = false := by
  obtain ⟨h0, h1, h2, h3, _⟩ := cell_parts h
  unfold sqB
  rw [w64 (n := c.f0 + c.f2) (by omega) (by omega), w64 (n := c.f1 + c.f3) (by omega) (by omega)]
  rw [Bool.eq_false_iff]
  intro hh
  simp only [Bool.and_eq_true, decide_eq_true_eq] at hh
  omega
theorem ok_parts {R C : Int} {l : List Ce} (h : okB R C l = true) : (1 ≤ R ∧ R ≤ 5) ∧ (1 ≤ C ∧ C ≤ 5) ∧ (∀ c ∈ l, cellB R C c = true) ∧ ∀ row col, 0 ≤ row → row < R → 0 ≤ col → col < C → cntC row col l = 1 := by
  simp only [okB, Bool.and_eq_true] at h
  have hR : 1 ≤ R ∧ R ≤ 5 := by simpa [inB] using h.1
  have hC : 1 ≤ C ∧ C ≤ 5 := by simpa [inB] using h.2.1
  exact ⟨hR, hC, form_mem _ _ h.2.2.1, (cov_iff l (by omega) (by omega)).1 h.2.2.2⟩
end Go.Proofs.Ytljgbeccmcidkaa.Pure
