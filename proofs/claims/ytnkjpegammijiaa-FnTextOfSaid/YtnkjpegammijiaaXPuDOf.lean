/- Plain law: what DrawTextOf draws is a string that is not long. -/
import Derived.Test.YtnkjpegammijiaaXPuR
import Derived.Test.YtnkjpegammijiaaXPSpecDrawTextOf
namespace Go.Proofs.Ytnkjpegammijiaa.Pure
open Go.RowKit Go.Proofs.Ytnkjpegammijiaa.P Go.Proofs.YtnkjpegammijiaaW.PrintWords Go.Proofs.YtnkjpegammijiaaW.PrintLast
set_option linter.unusedVariables false
set_option linter.unusedSimpArgs false
theorem many_l0 : ∀ (d : Nat) (s : ByteArray) (n : Int) (out : ByteArray), 0 ≤ n → n ≤ 1000 → n.toNat < 2 ^ d → s.size * 2 ^ d ≤ 1000000 → out.size + s.size * 2 ^ d ≤ 1000000 + s.size →
    ∃ r, Ev (fun k => spec_l6Many.l0 k s n out) r ∧ r.size ≤ 1000000 := by
  intro d
  induction d with
  | zero =>
    intro s n out h0 hnn hn h1 h2
    refine ⟨out, ?_, by omega⟩
    refine ev_step (fun k => by rw [spec_l6Many.l0]) ?_
    exact ev_neg (by omega) (ev_s rfl)
  | succ d ih =>
    intro s n out h0 hnn hn h1 h2
    by_cases hp : n > 0
    · have e : s.size * 2 ^ (d + 1) = (s.size + s.size) * 2 ^ d := by rw [Nat.pow_succ, Nat.add_mul, ← Nat.mul_assoc]; omega
      rw [e] at h1 h2
      have p2 : 1 ≤ 2 ^ d := Nat.one_le_two_pow
      have q : s.size + s.size ≤ (s.size + s.size) * 2 ^ d := Nat.le_mul_of_pos_right _ (by omega)
      have t1 : Int.tdiv n 2 = n / 2 := Int.tdiv_eq_ediv_of_nonneg h0
      have w : wrap64 (Int.tdiv n 2) = n / 2 := by rw [t1, w64 (by omega) (by omega)]
      have n2 : (n / 2).toNat < 2 ^ d := by rw [Nat.pow_succ] at hn; omega
      by_cases hm : Int.tmod n 2 = 1
      · obtain ⟨r, er, hr⟩ := ih (s ++ s) (n / 2) (out ++ s) (by omega) (by omega) n2 (by rw [ByteArray.size_append]; exact h1) (by rw [ByteArray.size_append, ByteArray.size_append]; omega)
        refine ⟨r, ?_, hr⟩
        refine ev_step (fun k => by rw [spec_l6Many.l0]) ?_
        rw [w]
        exact ev_pos hp (ev_pos hm (ev_pos (by omega) (ev_pos (by omega) er)))
      · obtain ⟨r, er, hr⟩ := ih (s ++ s) (n / 2) out (by omega) (by omega) n2 (by rw [ByteArray.size_append]; exact h1) (by rw [ByteArray.size_append]; omega)
        refine ⟨r, ?_, hr⟩
        refine ev_step (fun k => by rw [spec_l6Many.l0]) ?_
        rw [w]
        exact ev_pos hp (ev_neg hm (ev_pos (by omega) er))
    · refine ⟨out, ?_, ?_⟩
      · refine ev_step (fun k => by rw [spec_l6Many.l0]) ?_
        exact ev_neg hp (ev_s rfl)
      · have := Nat.le_mul_of_pos_right s.size (show 0 < 2 ^ (d + 1) from Nat.two_pow_pos _)
        omega
theorem many_ev (n : Int) (h0 : 0 ≤ n) (h1 : n ≤ 31) : ∃ r, Ev (fun k => spec_l6Many.f k (⟨#[97]⟩ : ByteArray) n) r ∧ r.size ≤ 1000000 := by
  unfold spec_l6Many.f
  have z : (⟨#[97]⟩ : ByteArray).size = 1 := rfl
  have z0 : (⟨#[]⟩ : ByteArray).size = 0 := rfl
  exact many_l0 5 _ n _ h0 (by omega) (by omega) (by rw [z]; omega) (by rw [z, z0]; omega)
theorem plain_l0 {b : List Int} (hb : Bytes b) : ∀ (d : Nat) (s : ByteArray) (n p : Int), n.toNat = d → n ≤ 1000 → s.size + d ≤ 1000 → 0 ≤ p → p + n ≤ 800000000 → p ≤ 800000000 →
    ∃ r q, Ev (fun k => spec_l71Plain.l0 k s n b p) (r, q) ∧ r.size ≤ 1000000 := by
  intro d
  induction d with
  | zero =>
    intro s n p hd hn hs h0 h1 h2
    obtain ⟨v, e, a, c⟩ := pick_ev hb p 16 h0 (by omega)
    by_cases hv : v = 0
    · refine ⟨s ++ (⟨#[65]⟩ : ByteArray), p + 1, ?_, ?_⟩
      · refine ev_step (fun k => by rw [spec_l71Plain.l0]) ?_
        exact ev_neg (by omega) (ev_bind e (ev_pos hv (ev_pos (by omega) (ev_s rfl))))
      · rw [ByteArray.size_append]
        have : (⟨#[65]⟩ : ByteArray).size = 1 := rfl
        omega
    · by_cases hv1 : v = 1
      · obtain ⟨v2, e2, a2, c2⟩ := pick_ev hb (p + 1) 2 (by omega) (by omega)
        obtain ⟨r, er, hr⟩ := many_ev (24 + v2) (by omega) (by omega)
        refine ⟨r, p + 1 + 1, ?_, hr⟩
        refine ev_step (fun k => by rw [spec_l71Plain.l0]) ?_
        refine ev_neg (by omega) (ev_bind e (ev_neg hv (ev_pos hv1 (ev_bind e2 ?_))))
        dsimp only
        rw [w64 (n := 24 + v2) (by omega) (by omega)]
        exact ev_bind er (ev_s rfl)
      · refine ⟨s, p + 1, ?_, by omega⟩
        refine ev_step (fun k => by rw [spec_l71Plain.l0]) ?_
        exact ev_neg (by omega) (ev_bind e (ev_neg hv (ev_neg hv1 (ev_s rfl))))
  | succ d ih =>
    intro s n p hd hn hs h0 h1 h2
    obtain ⟨v, e, a, c⟩ := pick_ev hb p 6 h0 (by omega)
    have z : (strOfNums [rd [97, 98, 122, 32, 48, 57] v]).size = 1 := by rw [strOfNums_size]; rfl
    obtain ⟨r, q, er, hr⟩ := ih (s ++ strOfNums [rd [97, 98, 122, 32, 48, 57] v]) (n - 1) (p + 1) (by omega) (by omega) (by rw [ByteArray.size_append]; omega) (by omega) (by omega) (by omega)
    refine ⟨r, q, ?_, hr⟩
    refine ev_step (fun k => by rw [spec_l71Plain.l0]) ?_
    rw [w64 (n := n - 1) (by omega) (by omega)]
    exact ev_pos (by omega) (ev_b rfl (ev_bind e (ev_pos a (ev_pos (by show v < 6; omega) (ev_b rfl (ev_pos (by have := z; dsimp only; omega) er))))))
theorem drawOf {l : List Int} (hl : ∀ x ∈ l, (Lit.int .u8 x).wf = true) : ∃ s, Ev (fun k => spec_DrawTextOf.f k l) s ∧ s.size ≤ 1000000 := by
  obtain ⟨b, hb, e0⟩ := open_eq l hl
  obtain ⟨v, e, a, c⟩ := pick_ev hb 0 6 (by omega) (by omega)
  obtain ⟨r, q, er, hr⟩ := plain_l0 hb v.toNat ⟨#[]⟩ v 1 rfl (by omega) (by show 0 + v.toNat ≤ 1000; omega) (by omega) (by omega) (by omega)
  refine ⟨r, ?_, hr⟩
  unfold spec_DrawTextOf.f spec_l71Plain.f
  exact ev_b e0 (ev_bind (ev_bind e er) (ev_s rfl))
end Go.Proofs.Ytnkjpegammijiaa.Pure
