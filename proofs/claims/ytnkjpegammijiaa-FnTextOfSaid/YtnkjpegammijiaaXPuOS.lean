/- Plain law: the reference's TextOf is the program's. Condition: a string far shorter than 2^47. -/
import Derived.Test.YtnkjpegammijiaaXPuText
import Derived.Test.YtnkjpegammijiaaXPSpecTextOf
namespace Go.Proofs.Ytnkjpegammijiaa.Pure
open Go.RowKit Go.Proofs.Ytnkjpegammijiaa.P Go.Proofs.YtnkjpegammijiaaW.PrintWords Go.Proofs.YtnkjpegammijiaaW.PrintLast
set_option linter.unusedVariables false
set_option linter.unusedSimpArgs false
theorem specOf_l0 (s : ByteArray) (hs : s.size < 5000000000000) : ∀ (d i : Nat) (x : List Sg), i + d = s.size → x.length ≤ i → x ++ (ofL s).drop i = ofL s →
    Ev (fun k => spec_TextOf.l0 k s x (i : Int)) (ofS s) := by
  intro d
  induction d with
  | zero =>
    intro i x hi hx he
    rw [List.drop_of_length_le (by rw [ofL_length]; omega), List.append_nil] at he
    subst he
    refine ev_step (fun k => by rw [spec_TextOf.l0]) (ev_neg (by omega) (ev_bind (specTextOk _) ?_))
    unfold ofS
    by_cases h : textB (ofL s) = true
    · exact ev_pos h (ev_s (by rw [if_pos h]))
    · exact ev_neg h (ev_s (by rw [if_neg h]))
  | succ d ih =>
    intro i x hi hx he
    refine ev_step (fun k => by rw [spec_TextOf.l0]) (ev_pos (by omega) (ev_pos (by omega) (ev_pos (by omega) ?_)))
    rw [succ64 (i := i) (n := s.size) (by omega) (by omega)]
    refine ih (i + 1) _ (by omega) (by simp; omega) ?_
    rw [List.append_assoc, List.singleton_append, ← ofL_drop s i (by omega)]
    exact he
theorem specOf (s : ByteArray) (hs : s.size < 5000000000000) : Ev (fun k => spec_TextOf.f k s) (ofS s) := by
  unfold spec_TextOf.f
  refine ev_b rfl ?_
  by_cases h : (s.size : Int) > 24
  · refine ev_pos h (ev_s ?_)
    unfold ofS
    rw [if_neg]
    intro e
    have := textB_len e
    rw [ofL_length] at this
    omega
  · refine ev_neg h ?_
    exact specOf_l0 s hs s.size 0 [] (by omega) (by simp) (by simp)
theorem bytesOf_range (s : ByteArray) : strOfNums (bytesOf s) = s := by
  apply ByteArray.ext
  apply Array.ext'
  rw [strOfNums_data]
  unfold bytesOf
  rw [List.map_map]
  conv => rhs; rw [← List.map_id s.data.toList]
  refine List.map_congr_left fun x _ => ?_
  simp
theorem nowL_of (s : ByteArray) : nowL (ofL s) = bytesOf s ∧ wasL (ofL s) = bytesOf s := by
  unfold nowL wasL ofL
  induction bytesOf s with
  | nil => exact ⟨rfl, rfl⟩
  | cons a t ih =>
    rw [List.map_cons, List.flatMap_cons, List.flatMap_cons, ih.1, ih.2]
    exact ⟨rfl, rfl⟩
theorem of_now {s : ByteArray} (h : textB (ofL s) = true) : nowS (ofL s) = s ∧ wasS (ofL s) = s ∧ byS (ofL s) = [] := by
  unfold nowS wasS
  rw [if_pos h, if_pos h, (nowL_of s).1, (nowL_of s).2, bytesOf_range]
  refine ⟨rfl, rfl, List.eq_nil_iff_forall_not_mem.2 fun x hx => ?_⟩
  obtain ⟨a, b, c⟩ := (mem_byS h).1 hx
  obtain ⟨g, hg, e⟩ := (hasB_iff _ _).1 c
  obtain ⟨v, _, rfl⟩ := List.mem_map.1 hg
  dsimp only at e
  omega
end Go.Proofs.Ytnkjpegammijiaa.Pure
