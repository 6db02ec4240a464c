/- A slice that came in as data is read as a list, element by element, whatever the element's kind. Condition: an element that is read as data has the kind's cells. -/
import Derived.Test.YtnkjpegammijiaaXBase
import Derived.Deep.Slices
import Derived.ChangeArms
import Derived.ProofKit
namespace Go.Proofs.Ytnkjpegammijiaa.Pure
open Go.RowKit Go.ChangeShapes Go.WideShapes Go.Deep Go.Proofs.Ytnkjpegammijiaa.P Go.Proofs.YtnkjpegammijiaaW.PrintWords Go.Proofs.YtnkjpegammijiaaW.PrintLast
set_option linter.unusedVariables false
set_option linter.unusedSimpArgs false
theorem list_of {α : Type} (P : Nat → α → Prop) : ∀ (n : Nat), (∀ i, i < n → ∃ x, P i x) → ∃ l : List α, l.length = n ∧ ∀ i x, l[i]? = some x → P i x
  | 0, _ => ⟨[], rfl, fun i x h => by simp at h⟩
  | n + 1, h => by
    obtain ⟨l, hl, hp⟩ := list_of P n (fun i hi => h i (by omega))
    obtain ⟨x, hx⟩ := h n (by omega)
    refine ⟨l ++ [x], by simp [hl], fun i y hy => ?_⟩
    by_cases hi : i < n
    · rw [List.getElem?_append_left (by omega)] at hy
      exact hp i y hy
    · have hlt := (List.getElem?_eq_some_iff.1 hy).1
      rw [List.length_append, List.length_singleton] at hlt
      have e : i = n := by omega
      subst e
      rw [← hl, List.getElem?_append_right (Nat.le_refl _), Nat.sub_self] at hy
      have : x = y := by simpa using hy
      subst this
      exact hx
section
variable {H : Type} {enc : TypeId × Value → H} {P : Program} {w : World} {base : Nat} {spare : Nat → Bool} {held : Bool}
theorem trod_C {α : Type} (d : Kd α) {t e : TypeId} {fuel n c : Nat} {A : Option Addr} {x : DataW H × List MemPlace} (ht : P.underlying t = some (.slice e)) (hsz : P.cellsOf e = d.sz)
    (hel : ∀ (m : Nat) (cs : List Value) (y : DataW H × List MemPlace), DataW.trod enc P w base spare held m e cs = some y → cs.length = d.sz → ∃ p, d.K w p cs)
    (h : DataW.trod enc P w base spare held fuel t [.slice A n c] = some x) : ∃ l : List α, l.length = n ∧ n ≤ c ∧ n ≤ 9223372036854775807 ∧ Kd.C d w A n l := by
  rcases open_slice ht h with ⟨h0, _⟩ | ⟨a, len, cap, m, k, D, Pl, hcs, hb, hl, hm, hmm, hx, hi⟩
  · simp only [List.cons.injEq, Value.slice.injEq, and_true] at h0
    obtain ⟨rfl, rfl, rfl⟩ := h0
    exact ⟨[], rfl, Nat.le_refl _, by omega, rfl, by omega, fun h => absurd h (by omega)⟩
  · simp only [List.cons.injEq, Value.slice.injEq, and_true] at hcs
    obtain ⟨rfl, rfl, rfl⟩ := hcs
    have hle : n ≤ m := by rw [hmm]; split <;> omega
    obtain ⟨l, hlen, hp⟩ := list_of (fun i (p : α) => ∃ cs : List Value, cs.length = d.sz ∧ d.K w p cs ∧ ∀ j u, cs[j]? = some u → w.cell? (a.add (i * d.sz + j)) = some u) n (fun i hi' => by
      obtain ⟨cs, hc, htr⟩ := hi i (by omega)
      obtain ⟨_, hcl, hat⟩ := World.cells?_some hc
      rw [hsz] at hcl hat
      obtain ⟨p, hp⟩ := hel k cs _ htr hcl
      refine ⟨p, cs, hcl, hp, fun j u hu => ?_⟩
      have hj := (List.getElem?_eq_some_iff.1 hu).1
      have := hat j (by omega)
      rw [Go.Deep.add_add] at this
      rw [this, hu])
    refine ⟨l, hlen, hl, by simp only [maxLen] at hm; omega, hlen, by simp only [maxLen] at hm; omega, fun _ => ⟨a, rfl, fun j p hj => ?_⟩⟩
    obtain ⟨cs, h1, h2, h3⟩ := hp j p hj
    exact ⟨cs, h1, h2, h3⟩
/-- A sign, as the law's package has it. -/
theorem trod_lg {fuel : Nat} {cs : List Value} {y : DataW H × List MemPlace} (h : DataW.trod enc Try.prog w base spare held fuel 49 cs = some y) (hl : cs.length = k49.sz) : ∃ p, k49.K w p cs := by
  obtain ⟨xs, m, _, _, _, hxl, hf⟩ := DataW.trod_struct Try.underlying49 h
  have hl3 : cs.length = 3 := hl
  match cs, hl3 with
  | [c0, c1, c2], _ =>
    have h3 : xs.length = 3 := hxl
    match xs, h3 with
    | [x0, x1, x2], _ =>
      have e0 : DataW.trod enc Try.prog w base spare held m 5 (([c0, c1, c2].drop 0).take (Try.prog.cellsOf 5)) = some x0 := hf 0 _ rfl
      have e1 : DataW.trod enc Try.prog w base spare held m 3 (([c0, c1, c2].drop 1).take (Try.prog.cellsOf 3)) = some x1 := hf 1 _ rfl
      have e2 : DataW.trod enc Try.prog w base spare held m 3 (([c0, c1, c2].drop 2).take (Try.prog.cellsOf 3)) = some x2 := hf 2 _ rfl
      rw [show Try.prog.cellsOf 5 = 1 from by kernel_rfl] at e0
      rw [show Try.prog.cellsOf 3 = 1 from by kernel_rfl] at e1 e2
      obtain ⟨a, ea, _, _⟩ := DataW.trod_int Try.underlying5 e0
      obtain ⟨b, eb, _, _⟩ := DataW.trod_int Try.underlying3 e1
      obtain ⟨c, ec, _, _⟩ := DataW.trod_int Try.underlying3 e2
      simp only [List.drop_zero, List.drop_succ_cons, List.take_succ_cons, List.take_zero, List.cons.injEq, and_true] at ea eb ec
      subst ea eb ec
      exact ⟨⟨a, b, c⟩, k49_mk w ⟨a, b, c⟩⟩
end
end Go.Proofs.Ytnkjpegammijiaa.Pure
