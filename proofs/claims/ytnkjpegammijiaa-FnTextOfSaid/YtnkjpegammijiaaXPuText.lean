/- Plain laws: what a sign and a text are; the program's TextOk and the reference's tell it. Conditions: a text has fewer than 2^62 signs. Plain laws: what the program's and the reference's TextNow, TextWas, TextTake, TextDrop, TextBy and TextOf tell of a text. Conditions: sizes far below 2^47 where a copy is made. Plain laws of texts, without Go and without rounds: taking and dropping suggestions, what is now, what was, who suggested. -/
import Derived.Test.YtnkjpegammijiaaXBase
import Derived.Test.YtnkjpegammijiaaXNow
import Derived.Test.YtnkjpegammijiaaXSet
import Derived.Test.YtnkjpegammijiaaXBy
namespace Go.Proofs.Ytnkjpegammijiaa.Pure
open Go.RowKit Go.Proofs.Ytnkjpegammijiaa.P Go.Proofs.YtnkjpegammijiaaW.PrintWords Go.Proofs.YtnkjpegammijiaaW.PrintLast
set_option linter.unusedVariables false
set_option linter.unusedSimpArgs false

/-! ### From some number of rounds on -/
theorem ev_pos {α : Type} {c : Prop} [Decidable c] {A B : Nat → Option α} {r : α} (h : c) (e : Ev A r) : Ev (fun k => if c then A k else B k) r := e.congr fun _ => if_pos h
theorem ev_neg {α : Type} {c : Prop} [Decidable c] {A B : Nat → Option α} {r : α} (h : ¬ c) (e : Ev B r) : Ev (fun k => if c then A k else B k) r := e.congr fun _ => if_neg h
theorem ev_c {α : Type} {x : Option α} {r : α} (h : x = some r) : Ev (fun _ => x) r := ⟨0, fun _ _ => h⟩
theorem ev_s {α : Type} {x r : α} (h : x = r) : Ev (fun _ => some x) r := ⟨0, fun _ _ => by rw [h]⟩
theorem ev_b {α β : Type} {x : Option α} {F : Nat → α → Option β} {a : α} {r : β} (h : x = some a) (e : Ev (fun k => F k a) r) : Ev (fun k => x.bind (F k)) r := e.congr fun _ => by rw [h]; rfl
theorem ev_step {α : Type} {g f : Nat → Option α} {r : α} (h : ∀ k, g (k + 1) = f k) (e : Ev f r) : Ev g r := Ev.step h e
theorem ev_bind {α β : Type} {g : Nat → Option α} {f : Nat → α → Option β} {a : α} {r : β} (h : Ev g a) (e : Ev (fun n => f n a) r) : Ev (fun n => (g n).bind (f n)) r := Ev.bind h e
theorem ev_to {α : Type} {g : Nat → Option α} {r r' : α} (e : Ev g r) (h : r = r') : Ev g r' := h ▸ e
theorem w64 {n : Int} (h : -9223372036854775808 ≤ n) (h' : n < 9223372036854775808) : wrap64 n = n := by unfold wrap64; omega

/-! ### What a sign and a text are -/
abbrev Sg := S47
def byteB (b : Int) : Bool := decide (97 ≤ b ∧ b ≤ 122 ∨ 48 ≤ b ∧ b ≤ 57 ∨ b = 32)
def inB (n lo hi : Int) : Bool := decide (lo ≤ n ∧ n ≤ hi)
def signB (s : Sg) : Bool := byteB s.f0 && inB s.f1 0 3 && inB s.f2 0 3 && !decide (s.f1 ≠ 0 ∧ s.f1 = s.f2)
def textB (t : List Sg) : Bool := decide (t.length ≤ 24) && t.all signB
theorem byteOk_eq (b : Int) : impl_byteOk.f b = some (byteB b) := by
  unfold impl_byteOk.f byteB
  by_cases h1 : 97 ≤ b
  · by_cases h2 : b ≤ 122
    · simp [h1, h2]
    · have h3 : 48 ≤ b := by omega
      have h4 : ¬ b ≤ 57 := by omega
      rw [if_pos h1, if_neg h2, if_pos h3, if_neg h4, Option.some.injEq, Bool.eq_iff_iff, beq_iff_eq, decide_eq_true_eq]
      omega
  · by_cases h3 : 48 ≤ b
    · by_cases h4 : b ≤ 57
      · simp [h1, h3, h4]
      · rw [if_neg h1, if_pos h3, if_neg h4, Option.some.injEq, Bool.eq_iff_iff, beq_iff_eq, decide_eq_true_eq]
        omega
    · rw [if_neg h1, if_neg h3, Option.some.injEq, Bool.eq_iff_iff, beq_iff_eq, decide_eq_true_eq]
      omega
theorem within_eq (n lo hi : Int) : impl_within.f n lo hi = some (inB n lo hi) := by
  unfold impl_within.f inB
  by_cases h : lo ≤ n <;> simp [h]
theorem l6In_eq (n lo hi : Int) : spec_l6In.f n lo hi = some (inB n lo hi) := by
  unfold spec_l6In.f inB
  by_cases h : lo ≤ n <;> simp [h]
theorem drop_rd (t : List Sg) (i : Nat) (h : i < t.length) : t.drop i = rd_T47 t (i : Int) :: t.drop (i + 1) := by
  unfold rd_T47
  rw [Int.toNat_natCast, List.getD_eq_getElem?_getD, List.getElem?_eq_getElem h, List.drop_eq_getElem_cons h]
  rfl
theorem succ64 {i n : Nat} (h : i < n) (hn : n < 4611686018427387904) : wrap64 ((i : Int) + 1) = ((i + 1 : Nat) : Int) := by
  rw [w64 (by omega) (by omega)]; rfl

theorem implTextOk_l0 (t : List Sg) (hs : t.length < 4611686018427387904) : ∀ (d i : Nat), i + d = t.length →
    Ev (fun k => impl_TextOk.l0 k t t (t.length : Int) (i : Int)) ((t.drop i).all signB && decide (t.length ≤ 24)) := by
  intro d
  induction d with
  | zero =>
    intro i hi
    refine ev_step (fun k => by rw [impl_TextOk.l0]) ?_
    refine ev_neg (by omega) (ev_s ?_)
    rw [List.drop_of_length_le (by omega), List.all_nil, Bool.true_and, Bool.eq_iff_iff, decide_eq_true_eq, decide_eq_true_eq]
    omega
  | succ d ih =>
    intro i hi
    have hd := drop_rd t i (by omega)
    refine ev_step (fun k => by rw [impl_TextOk.l0]) ?_
    refine ev_pos (by omega) (ev_pos (by omega) (ev_pos (by omega) ?_))
    rw [hd, List.all_cons]
    have no : ∀ b : Bool, signB (rd_T47 t (i : Int)) = false → Ev (fun k => impl_TextOk.j1 k t t (t.length : Int) (i : Int) true) (signB (rd_T47 t (i : Int)) && (t.drop (i + 1)).all signB && decide (t.length ≤ 24)) := by
      intro _ h
      refine ev_step (fun k => by rw [impl_TextOk.j1]) (ev_pos rfl (ev_s ?_))
      rw [h]; rfl
    have yes : signB (rd_T47 t (i : Int)) = true → Ev (fun k => impl_TextOk.j1 k t t (t.length : Int) (i : Int) false) (signB (rd_T47 t (i : Int)) && (t.drop (i + 1)).all signB && decide (t.length ≤ 24)) := by
      intro h
      refine ev_step (fun k => by rw [impl_TextOk.j1]) (ev_neg (by decide) ?_)
      rw [h, Bool.true_and]
      rw [succ64 (n := t.length) (by omega) hs]
      exact ih (i + 1) (by omega)
    refine ev_b (byteOk_eq _) ?_
    by_cases h1 : byteB (rd_T47 t (i : Int)).f0 = true
    · refine ev_pos h1 (ev_b (within_eq _ _ _) ?_)
      by_cases h2 : inB (rd_T47 t (i : Int)).f1 0 3 = true
      · refine ev_pos h2 (ev_b (within_eq _ _ _) ?_)
        by_cases h3 : inB (rd_T47 t (i : Int)).f2 0 3 = true
        · refine ev_pos h3 ?_
          by_cases h4 : (rd_T47 t (i : Int)).f1 = 0
          · exact ev_pos h4 (yes (by simp only [signB, h1, h2, h3, Bool.true_and]; simp [h4]))
          · refine ev_neg h4 ?_
            by_cases h5 : (rd_T47 t (i : Int)).f1 = (rd_T47 t (i : Int)).f2
            · rw [show ((rd_T47 t (i : Int)).f1 == (rd_T47 t (i : Int)).f2) = true from beq_iff_eq.2 h5]
              exact no true (by simp only [signB, h1, h2, h3, Bool.true_and]; rw [decide_eq_true ⟨h4, h5⟩]; rfl)
            · rw [show ((rd_T47 t (i : Int)).f1 == (rd_T47 t (i : Int)).f2) = false from beq_eq_false_iff_ne.2 h5]
              exact yes (by simp only [signB, h1, h2, h3, Bool.true_and]; simp [h5])
        · exact ev_neg h3 (no true (by simp [signB, h3]))
      · exact ev_neg h2 (no true (by simp [signB, h2]))
    · exact ev_neg h1 (no true (by simp [signB, h1]))
theorem implTextOk (t : List Sg) (hs : t.length < 4611686018427387904) : Ev (fun k => impl_TextOk.f k t) (textB t) := by
  unfold impl_TextOk.f
  refine ev_to (implTextOk_l0 t hs t.length 0 (by omega)) ?_
  rw [List.drop_zero, Bool.and_comm]; rfl

theorem specSign (a b c : Int) : Ev (fun k => spec_l1Sign.f k a b c) (signB (⟨a, b, c⟩ : Sg)) := by
  have no : byteB a = false → Ev (fun k => spec_l1Sign.j0 k false a b c) (signB (⟨a, b, c⟩ : Sg)) := by
    intro h
    refine ev_step (fun k => by rw [spec_l1Sign.j0]) (ev_neg (by decide) (ev_s ?_))
    simp [signB, h]
  have yes : byteB a = true → Ev (fun k => spec_l1Sign.j0 k true a b c) (signB (⟨a, b, c⟩ : Sg)) := by
    intro h
    refine ev_step (fun k => by rw [spec_l1Sign.j0]) (ev_pos rfl (ev_b (l6In_eq _ _ _) ?_))
    by_cases h2 : inB b 0 3 = true
    · refine ev_pos h2 (ev_b (l6In_eq _ _ _) ?_)
      by_cases h3 : inB c 0 3 = true
      · refine ev_pos h3 ?_
        by_cases h4 : c = 0
        · refine ev_pos h4 (ev_s ?_)
          simp only [signB, h, h2, h3, Bool.true_and]
          by_cases h5 : b = 0 <;> simp [h4, h5]
        · refine ev_neg h4 (ev_s ?_)
          simp only [signB, h, h2, h3, Bool.true_and]
          by_cases h5 : b = c
          · subst h5; simp [h4]
          · simp [h5]
      · exact ev_neg h3 (ev_s (by simp [signB, h3]))
    · exact ev_neg h2 (ev_s (by simp [signB, h2]))
  have any : ∀ x : Bool, byteB a = x → Ev (fun k => spec_l1Sign.j0 k x a b c) (signB (⟨a, b, c⟩ : Sg)) := by
    intro x hx
    cases x
    · exact no hx
    · exact yes hx
  unfold spec_l1Sign.f
  by_cases h1 : a ≥ 97
  · refine ev_pos h1 ?_
    by_cases h2 : a ≤ 122
    · exact ev_pos h2 (any _ (by simp [byteB]; omega))
    · refine ev_neg h2 (ev_neg (by omega) (ev_pos (by omega) (any _ ?_)))
      rw [byteB, Bool.eq_iff_iff, decide_eq_true_eq]; simp; omega
  · refine ev_neg h1 ?_
    by_cases h3 : a = 32
    · exact ev_pos h3 (any _ (by simp [byteB]; omega))
    · refine ev_neg h3 ?_
      by_cases h4 : a ≥ 48
      · refine ev_pos h4 (any _ ?_)
        rw [byteB, Bool.eq_iff_iff, decide_eq_true_eq]; simp; omega
      · refine ev_neg h4 (any _ ?_)
        simp [byteB]; omega
theorem specTextOk_l0 (t : List Sg) (hs : t.length ≤ 24) : ∀ (d i : Nat), i + d = t.length →
    Ev (fun k => spec_TextOk.l0 k t (i : Int)) ((t.drop i).all signB) := by
  intro d
  induction d with
  | zero =>
    intro i hi
    refine ev_step (fun k => by rw [spec_TextOk.l0]) (ev_neg (by omega) (ev_s ?_))
    rw [List.drop_of_length_le (by omega)]; rfl
  | succ d ih =>
    intro i hi
    rw [drop_rd t i (by omega), List.all_cons]
    refine ev_step (fun k => by rw [spec_TextOk.l0]) (ev_pos (by omega) (ev_pos (by omega) (ev_bind (specSign _ _ _) ?_)))
    by_cases h : signB (rd_T47 t (i : Int)) = true
    · refine ev_pos h ?_
      rw [h, Bool.true_and, succ64 (n := t.length) (by omega) (by omega)]
      exact ih (i + 1) (by omega)
    · refine ev_neg h (ev_s ?_)
      simp [h]
theorem specTextOk (t : List Sg) : Ev (fun k => spec_TextOk.f k t) (textB t) := by
  unfold spec_TextOk.f
  by_cases h : (t.length : Int) > 24
  · refine ev_pos h (ev_s ?_)
    simp [textB]; intro h'; omega
  · refine ev_neg h ?_
    refine ev_to (specTextOk_l0 t (by omega) t.length 0 (by omega)) ?_
    rw [List.drop_zero, textB, decide_eq_true (by omega), Bool.true_and]
end Go.Proofs.Ytnkjpegammijiaa.Pure
namespace Go.Proofs.Ytnkjpegammijiaa.Pure
open Go.RowKit Go.Proofs.Ytnkjpegammijiaa.P Go.Proofs.YtnkjpegammijiaaW.PrintWords Go.Proofs.YtnkjpegammijiaaW.PrintLast
set_option linter.unusedVariables false
set_option linter.unusedSimpArgs false

def now1 (s : Sg) : List Int := if s.f2 = 0 then [s.f0] else []
def was1 (s : Sg) : List Int := if s.f1 = 0 then [s.f0] else []
def take1 (w : Int) (s : Sg) : List Sg := if s.f2 = w then [] else if s.f1 = w then [⟨s.f0, 0, s.f2⟩] else [s]
def drop1 (w : Int) (s : Sg) : List Sg := if s.f1 = w then [] else if s.f2 = w then [⟨s.f0, s.f1, 0⟩] else [s]
def nowL (t : List Sg) : List Int := t.flatMap now1
def wasL (t : List Sg) : List Int := t.flatMap was1
def takeL (w : Int) (t : List Sg) : List Sg := t.flatMap (take1 w)
def dropL (w : Int) (t : List Sg) : List Sg := t.flatMap (drop1 w)
def nowS (t : List Sg) : ByteArray := if textB t = true then strOfNums (nowL t) else strOfNums []
def wasS (t : List Sg) : ByteArray := if textB t = true then strOfNums (wasL t) else strOfNums []
def personB (w : Int) : Bool := inB w 1 3
def take (w : Int) (t : List Sg) : List Sg := if personB w = true then (if textB t = true then takeL w t else []) else t
def drop (w : Int) (t : List Sg) : List Sg := if personB w = true then (if textB t = true then dropL w t else []) else t
def hasB (w : Int) (t : List Sg) : Bool := t.any fun s => s.f1 == w || s.f2 == w
def by1 (w : Int) (t : List Sg) : List Int := if hasB w t = true then [w] else []
def byL (t : List Sg) : List Int := by1 1 t ++ (by1 2 t ++ by1 3 t)
def byS (t : List Sg) : List Int := if textB t = true then byL t else []
def ofL (s : ByteArray) : List Sg := (bytesOf s).map fun b => ⟨b, 0, 0⟩
def ofS (s : ByteArray) : List Sg := if textB (ofL s) = true then ofL s else []

theorem textB_len {t : List Sg} (h : textB t = true) : t.length ≤ 24 := by
  rw [textB, Bool.and_eq_true, decide_eq_true_eq] at h; exact h.1
theorem end_drop (t : List Sg) {i : Nat} (h : i + 0 = t.length) : t.drop i = [] := List.drop_of_length_le (by omega)

/-! ### TextNow, TextWas -/
theorem chosen_l0 (a : Int) (sel : Sg → List Int) (p : Int → Int → Int → Bool) (hp : ∀ b i o, impl_clo.f a b i o = some (p b i o)) (hsel : ∀ s : Sg, sel s = if p s.f0 s.f1 s.f2 = true then [s.f0] else [])
    (t : List Sg) (hs : t.length ≤ 24) : ∀ (d i : Nat) (x : List Int), i + d = t.length → x.length ≤ i →
    Ev (fun k => impl_chosen.l0 a k x t (t.length : Int) (i : Int)) (strOfNums (x ++ (t.drop i).flatMap sel)) := by
  intro d
  induction d with
  | zero =>
    intro i x hi hx
    refine ev_step (fun k => by rw [impl_chosen.l0]) (ev_neg (by omega) (ev_s ?_))
    rw [end_drop t hi]; simp
  | succ d ih =>
    intro i x hi hx
    rw [drop_rd t i (by omega), List.flatMap_cons, hsel]
    refine ev_step (fun k => by rw [impl_chosen.l0]) (ev_pos (by omega) (ev_pos (by omega) (ev_pos (by omega) (ev_b (hp _ _ _) ?_))))
    rw [succ64 (n := t.length) (by omega) (by omega)]
    by_cases h : p (rd_T47 t (i : Int)).f0 (rd_T47 t (i : Int)).f1 (rd_T47 t (i : Int)).f2 = true
    · refine ev_pos h (ev_pos (by omega) ?_)
      rw [if_pos h, ← List.append_assoc]
      exact ih (i + 1) _ (by omega) (by simp; omega)
    · refine ev_neg h ?_
      rw [if_neg h, List.nil_append]
      exact ih (i + 1) _ (by omega) (by omega)
theorem implNow (t : List Sg) (hs : t.length < 4611686018427387904) : Ev (fun k => impl_TextNow.f k t) (nowS t) := by
  unfold impl_TextNow.f nowS
  refine ev_bind (implTextOk t hs) ?_
  by_cases h : textB t = true
  · refine ev_pos h ?_
    rw [if_pos h]
    refine ev_bind (a := strOfNums (nowL t)) ?_ (ev_s rfl)
    unfold impl_chosen.f
    refine ev_to (chosen_l0 0 now1 (fun _ _ o => o == 0) (fun _ _ _ => by first | rfl | (unfold impl_clo.f; rw [if_pos rfl]; rfl)) (fun s => by simp [now1]) t (textB_len h) t.length 0 [] (by omega) (by simp)) ?_
    simp [nowL]
  · exact ev_neg h (ev_s (by rw [if_neg h]; rfl))
theorem implWas (t : List Sg) (hs : t.length < 4611686018427387904) : Ev (fun k => impl_TextWas.f k t) (wasS t) := by
  unfold impl_TextWas.f wasS
  refine ev_bind (implTextOk t hs) ?_
  by_cases h : textB t = true
  · refine ev_pos h ?_
    rw [if_pos h]
    refine ev_bind (a := strOfNums (wasL t)) ?_ (ev_s rfl)
    unfold impl_chosen.f
    refine ev_to (chosen_l0 1 was1 (fun _ i _ => i == 0) (fun _ _ _ => by unfold impl_clo.f; rw [if_neg (by decide)]; rfl) (fun s => by simp [was1]) t (textB_len h) t.length 0 [] (by omega) (by simp)) ?_
    simp [wasL]
  · exact ev_neg h (ev_s (by rw [if_neg h]; rfl))
theorem specNow_l0 (t : List Sg) (ht : textB t = true) : ∀ (d i : Nat) (x : List Int), i + d = t.length → x.length ≤ i →
    Ev (fun k => spec_TextNow.l0 k t x (i : Int)) (strOfNums (x ++ (t.drop i).flatMap now1)) := by
  have hs := textB_len ht
  intro d
  induction d with
  | zero =>
    intro i x hi hx
    refine ev_step (fun k => by rw [spec_TextNow.l0]) (ev_neg (by omega) (ev_step (fun k => by rw [spec_TextNow.j1]) (ev_neg (by decide) (ev_s ?_))))
    rw [end_drop t hi]; simp
  | succ d ih =>
    intro i x hi hx
    rw [drop_rd t i (by omega), List.flatMap_cons]
    refine ev_step (fun k => by rw [spec_TextNow.l0]) (ev_pos (by omega) (ev_bind (specTextOk t) (ev_step (fun k => by rw [spec_TextNow.j1]) (ev_pos ht (ev_pos (by omega) (ev_pos (by omega) ?_))))))
    rw [succ64 (n := t.length) (by omega) (by omega), now1]
    by_cases h : (rd_T47 t (i : Int)).f2 = 0
    · refine ev_pos h (ev_pos (by omega) ?_)
      rw [if_pos h, ← List.append_assoc]
      exact ih (i + 1) _ (by omega) (by simp; omega)
    · refine ev_neg h ?_
      rw [if_neg h, List.nil_append]
      exact ih (i + 1) _ (by omega) (by omega)
theorem specNow (t : List Sg) : Ev (fun k => spec_TextNow.f k t) (nowS t) := by
  unfold spec_TextNow.f nowS
  by_cases h : textB t = true
  · rw [if_pos h]
    refine ev_to (specNow_l0 t h t.length 0 [] (by omega) (by simp)) ?_
    simp [nowL]
  · rw [if_neg h]
    refine ev_step (fun k => by rw [spec_TextNow.l0]) ?_
    by_cases h0 : (0 : Int) < (t.length : Int)
    · exact ev_pos h0 (ev_bind (specTextOk t) (ev_step (fun k => by rw [spec_TextNow.j1]) (ev_neg h (ev_s rfl))))
    · exact ev_neg h0 (ev_step (fun k => by rw [spec_TextNow.j1]) (ev_neg (by decide) (ev_s rfl)))
theorem specWas_l0 (t : List Sg) (ht : textB t = true) : ∀ (d i : Nat) (x : List Int), i + d = t.length → x.length ≤ i →
    Ev (fun k => spec_TextWas.l0 k t x (i : Int)) (strOfNums (x ++ (t.drop i).flatMap was1)) := by
  have hs := textB_len ht
  intro d
  induction d with
  | zero =>
    intro i x hi hx
    refine ev_step (fun k => by rw [spec_TextWas.l0]) (ev_neg (by omega) (ev_step (fun k => by rw [spec_TextWas.j1]) (ev_neg (by decide) (ev_s ?_))))
    rw [end_drop t hi]; simp
  | succ d ih =>
    intro i x hi hx
    rw [drop_rd t i (by omega), List.flatMap_cons]
    refine ev_step (fun k => by rw [spec_TextWas.l0]) (ev_pos (by omega) (ev_bind (specTextOk t) (ev_step (fun k => by rw [spec_TextWas.j1]) (ev_pos ht (ev_pos (by omega) (ev_pos (by omega) ?_))))))
    rw [succ64 (n := t.length) (by omega) (by omega), was1]
    by_cases h : (rd_T47 t (i : Int)).f1 = 0
    · refine ev_pos h (ev_pos (by omega) ?_)
      rw [if_pos h, ← List.append_assoc]
      exact ih (i + 1) _ (by omega) (by simp; omega)
    · refine ev_neg h ?_
      rw [if_neg h, List.nil_append]
      exact ih (i + 1) _ (by omega) (by omega)
theorem specWas (t : List Sg) : Ev (fun k => spec_TextWas.f k t) (wasS t) := by
  unfold spec_TextWas.f wasS
  by_cases h : textB t = true
  · rw [if_pos h]
    refine ev_to (specWas_l0 t h t.length 0 [] (by omega) (by simp)) ?_
    simp [wasL]
  · rw [if_neg h]
    refine ev_step (fun k => by rw [spec_TextWas.l0]) ?_
    by_cases h0 : (0 : Int) < (t.length : Int)
    · exact ev_pos h0 (ev_bind (specTextOk t) (ev_step (fun k => by rw [spec_TextWas.j1]) (ev_neg h (ev_s rfl))))
    · exact ev_neg h0 (ev_step (fun k => by rw [spec_TextWas.j1]) (ev_neg (by decide) (ev_s rfl)))

/-! ### TextTake, TextDrop -/
theorem person_eq (w : Int) : impl_person.f w = some (personB w) := by
  unfold impl_person.f
  rw [within_eq]; rfl
theorem clone_eq (t : List Sg) (hs : t.length < 5000000000000) : impl_cloneText.f t = some t := by
  unfold impl_cloneText.f
  simp only [Option.bind_some, List.length_nil, List.nil_append]
  rw [if_pos (by omega)]
theorem settledT_l0 (w : Int) (t : List Sg) (hs : t.length ≤ 24) : ∀ (d i : Nat) (x : List Sg), i + d = t.length → x.length ≤ i →
    Ev (fun k => impl_settledT.l0 k w x t (t.length : Int) (i : Int)) (x ++ (t.drop i).flatMap (take1 w)) := by
  intro d
  induction d with
  | zero =>
    intro i x hi hx
    refine ev_step (fun k => by rw [impl_settledT.l0]) (ev_neg (by omega) (ev_s ?_))
    rw [end_drop t hi]; simp
  | succ d ih =>
    intro i x hi hx
    rw [drop_rd t i (by omega), List.flatMap_cons]
    refine ev_step (fun k => by rw [impl_settledT.l0]) (ev_pos (by omega) (ev_pos (by omega) (ev_pos (by omega) ?_)))
    rw [succ64 (n := t.length) (by omega) (by omega), take1]
    by_cases h : (rd_T47 t (i : Int)).f2 = w
    · refine ev_pos h ?_
      rw [if_pos h, List.nil_append]
      exact ih (i + 1) _ (by omega) (by omega)
    · refine ev_neg h ?_
      rw [if_neg h]
      by_cases h1 : (rd_T47 t (i : Int)).f1 = w
      · refine ev_pos h1 (ev_pos (by omega) ?_)
        rw [if_pos h1, ← List.append_assoc]
        exact ih (i + 1) _ (by omega) (by simp; omega)
      · refine ev_neg h1 (ev_pos (by omega) ?_)
        rw [if_neg h1, ← List.append_assoc]
        exact ih (i + 1) _ (by omega) (by simp; omega)
theorem settledD_l0 (w : Int) (t : List Sg) (hs : t.length ≤ 24) : ∀ (d i : Nat) (x : List Sg), i + d = t.length → x.length ≤ i →
    Ev (fun k => impl_settledD.l0 k w x t (t.length : Int) (i : Int)) (x ++ (t.drop i).flatMap (drop1 w)) := by
  intro d
  induction d with
  | zero =>
    intro i x hi hx
    refine ev_step (fun k => by rw [impl_settledD.l0]) (ev_neg (by omega) (ev_s ?_))
    rw [end_drop t hi]; simp
  | succ d ih =>
    intro i x hi hx
    rw [drop_rd t i (by omega), List.flatMap_cons]
    refine ev_step (fun k => by rw [impl_settledD.l0]) (ev_pos (by omega) (ev_pos (by omega) (ev_pos (by omega) ?_)))
    rw [succ64 (n := t.length) (by omega) (by omega), drop1]
    by_cases h : (rd_T47 t (i : Int)).f1 = w
    · refine ev_pos h ?_
      rw [if_pos h, List.nil_append]
      exact ih (i + 1) _ (by omega) (by omega)
    · refine ev_neg h ?_
      rw [if_neg h]
      by_cases h1 : (rd_T47 t (i : Int)).f2 = w
      · refine ev_pos h1 (ev_pos (by omega) ?_)
        rw [if_pos h1, ← List.append_assoc]
        exact ih (i + 1) _ (by omega) (by simp; omega)
      · refine ev_neg h1 (ev_pos (by omega) ?_)
        rw [if_neg h1, ← List.append_assoc]
        exact ih (i + 1) _ (by omega) (by simp; omega)
theorem implTake (t : List Sg) (w : Int) (hs : t.length < 5000000000000) : Ev (fun k => impl_TextTake.f k t w) (take w t) := by
  unfold impl_TextTake.f take
  refine ev_bind (a := _) ?_ (ev_s rfl)
  unfold impl_settled.f
  refine ev_pos rfl ?_
  unfold impl_settledT.f
  refine ev_b (person_eq w) ?_
  by_cases h : personB w = true
  · refine ev_pos h (ev_b rfl (ev_bind (implTextOk t (by omega)) ?_))
    rw [if_pos h]
    by_cases h1 : textB t = true
    · refine ev_pos h1 ?_
      rw [if_pos h1]
      exact ev_to (settledT_l0 w t (textB_len h1) t.length 0 [] (by omega) (by simp)) (by simp [takeL])
    · exact ev_neg h1 (ev_s (by rw [if_neg h1]))
  · refine ev_neg h ?_
    rw [if_neg h]
    exact ev_b (clone_eq t hs) (ev_s rfl)
theorem implDrop (t : List Sg) (w : Int) (hs : t.length < 5000000000000) : Ev (fun k => impl_TextDrop.f k t w) (drop w t) := by
  unfold impl_TextDrop.f drop
  refine ev_bind (a := _) ?_ (ev_s rfl)
  unfold impl_settled.f
  refine ev_neg (by decide) ?_
  unfold impl_settledD.f
  refine ev_b (person_eq w) ?_
  by_cases h : personB w = true
  · refine ev_pos h (ev_b rfl (ev_bind (implTextOk t (by omega)) ?_))
    rw [if_pos h]
    by_cases h1 : textB t = true
    · refine ev_pos h1 ?_
      rw [if_pos h1]
      exact ev_to (settledD_l0 w t (textB_len h1) t.length 0 [] (by omega) (by simp)) (by simp [dropL])
    · exact ev_neg h1 (ev_s (by rw [if_neg h1]))
  · refine ev_neg h ?_
    rw [if_neg h]
    exact ev_b (clone_eq t hs) (ev_s rfl)
theorem specTake_l0 (w : Int) (t : List Sg) (ht : textB t = true) : ∀ (d i : Nat) (x : List Sg), i + d = t.length → x.length ≤ i →
    Ev (fun k => spec_TextTake.l0 k t w x (i : Int)) (x ++ (t.drop i).flatMap (take1 w)) := by
  have hs := textB_len ht
  intro d
  induction d with
  | zero =>
    intro i x hi hx
    refine ev_step (fun k => by rw [spec_TextTake.l0]) (ev_neg (by omega) (ev_step (fun k => by rw [spec_TextTake.j1]) (ev_neg (by decide) (ev_s ?_))))
    rw [end_drop t hi]; simp
  | succ d ih =>
    intro i x hi hx
    rw [drop_rd t i (by omega), List.flatMap_cons]
    refine ev_step (fun k => by rw [spec_TextTake.l0]) (ev_pos (by omega) (ev_bind (specTextOk t) (ev_step (fun k => by rw [spec_TextTake.j1]) (ev_pos ht (ev_pos (by omega) (ev_pos (by omega) ?_))))))
    rw [succ64 (n := t.length) (by omega) (by omega), take1]
    by_cases h : (rd_T47 t (i : Int)).f2 = w
    · refine ev_pos h ?_
      rw [if_pos h, List.nil_append]
      exact ih (i + 1) _ (by omega) (by omega)
    · refine ev_neg h ?_
      rw [if_neg h]
      by_cases h1 : (rd_T47 t (i : Int)).f1 = w
      · refine ev_pos h1 (ev_pos (by omega) ?_)
        rw [if_pos h1, ← List.append_assoc]
        exact ih (i + 1) _ (by omega) (by simp; omega)
      · refine ev_neg h1 (ev_pos (by omega) ?_)
        rw [if_neg h1, ← List.append_assoc]
        exact ih (i + 1) _ (by omega) (by simp; omega)
theorem specDrop_l0 (w : Int) (t : List Sg) (ht : textB t = true) : ∀ (d i : Nat) (x : List Sg), i + d = t.length → x.length ≤ i →
    Ev (fun k => spec_TextDrop.l0 k t w x (i : Int)) (x ++ (t.drop i).flatMap (drop1 w)) := by
  have hs := textB_len ht
  intro d
  induction d with
  | zero =>
    intro i x hi hx
    refine ev_step (fun k => by rw [spec_TextDrop.l0]) (ev_neg (by omega) (ev_step (fun k => by rw [spec_TextDrop.j1]) (ev_neg (by decide) (ev_s ?_))))
    rw [end_drop t hi]; simp
  | succ d ih =>
    intro i x hi hx
    rw [drop_rd t i (by omega), List.flatMap_cons]
    refine ev_step (fun k => by rw [spec_TextDrop.l0]) (ev_pos (by omega) (ev_bind (specTextOk t) (ev_step (fun k => by rw [spec_TextDrop.j1]) (ev_pos ht (ev_pos (by omega) (ev_pos (by omega) ?_))))))
    rw [succ64 (n := t.length) (by omega) (by omega), drop1]
    by_cases h : (rd_T47 t (i : Int)).f1 = w
    · refine ev_pos h ?_
      rw [if_pos h, List.nil_append]
      exact ih (i + 1) _ (by omega) (by omega)
    · refine ev_neg h ?_
      rw [if_neg h]
      by_cases h1 : (rd_T47 t (i : Int)).f2 = w
      · refine ev_pos h1 (ev_pos (by omega) ?_)
        rw [if_pos h1, ← List.append_assoc]
        exact ih (i + 1) _ (by omega) (by simp; omega)
      · refine ev_neg h1 (ev_pos (by omega) ?_)
        rw [if_neg h1, ← List.append_assoc]
        exact ih (i + 1) _ (by omega) (by simp; omega)
theorem specTake (t : List Sg) (w : Int) (hs : t.length < 5000000000000) : Ev (fun k => spec_TextTake.f k t w) (take w t) := by
  unfold spec_TextTake.f take personB
  refine ev_b rfl (ev_b (l6In_eq _ _ _) ?_)
  by_cases h : inB w 1 3 = true
  · refine ev_pos h ?_
    rw [if_pos h]
    by_cases h1 : textB t = true
    · rw [if_pos h1]
      exact ev_to (specTake_l0 w t h1 t.length 0 [] (by omega) (by simp)) (by simp [takeL])
    · rw [if_neg h1]
      refine ev_step (fun k => by rw [spec_TextTake.l0]) ?_
      by_cases h0 : (0 : Int) < (t.length : Int)
      · exact ev_pos h0 (ev_bind (specTextOk t) (ev_step (fun k => by rw [spec_TextTake.j1]) (ev_neg h1 (ev_s rfl))))
      · exact ev_neg h0 (ev_step (fun k => by rw [spec_TextTake.j1]) (ev_neg (by decide) (ev_s rfl)))
  · refine ev_neg h (ev_pos (by simp; omega) (ev_s ?_))
    rw [if_neg h]; rfl
theorem specDrop (t : List Sg) (w : Int) (hs : t.length < 5000000000000) : Ev (fun k => spec_TextDrop.f k t w) (drop w t) := by
  unfold spec_TextDrop.f drop personB
  refine ev_b rfl (ev_b (l6In_eq _ _ _) ?_)
  by_cases h : inB w 1 3 = true
  · refine ev_pos h ?_
    rw [if_pos h]
    by_cases h1 : textB t = true
    · rw [if_pos h1]
      exact ev_to (specDrop_l0 w t h1 t.length 0 [] (by omega) (by simp)) (by simp [dropL])
    · rw [if_neg h1]
      refine ev_step (fun k => by rw [spec_TextDrop.l0]) ?_
      by_cases h0 : (0 : Int) < (t.length : Int)
      · exact ev_pos h0 (ev_bind (specTextOk t) (ev_step (fun k => by rw [spec_TextDrop.j1]) (ev_neg h1 (ev_s rfl))))
      · exact ev_neg h0 (ev_step (fun k => by rw [spec_TextDrop.j1]) (ev_neg (by decide) (ev_s rfl)))
  · refine ev_neg h (ev_pos (by simp; omega) (ev_s ?_))
    rw [if_neg h]; rfl

/-! ### TextBy -/
theorem implBy_l1 (w : Int) (t : List Sg) (hs : t.length ≤ 24) (x : List Int) (hx : x.length ≤ 3) (r : List Int) (hr : ∀ b : Bool, b = hasB w t → Ev (fun k => impl_TextBy.l0 k t (x ++ if b = true then [w] else []) (wrap64 (w + 1))) r) :
    ∀ (d i : Nat), i + d = t.length → hasB w (t.drop i) = hasB w t → Ev (fun k => impl_TextBy.l1 k t x w t (t.length : Int) (i : Int)) r := by
  intro d
  induction d with
  | zero =>
    intro i hi hb
    refine ev_step (fun k => by rw [impl_TextBy.l1]) (ev_neg (by omega) ?_)
    rw [end_drop t hi] at hb
    exact ev_to (hr false hb) rfl |> fun e => by simpa using e
  | succ d ih =>
    intro i hi hb
    have hd := drop_rd t i (by omega)
    refine ev_step (fun k => by rw [impl_TextBy.l1]) (ev_pos (by omega) (ev_pos (by omega) (ev_pos (by omega) ?_)))
    rw [hd] at hb
    simp only [hasB, List.any_cons] at hb
    by_cases h : (rd_T47 t (i : Int)).f1 = w
    · refine ev_pos h (ev_pos (by omega) ?_)
      exact hr true (by rw [hasB, ← hb, beq_iff_eq.2 h]; rfl)
    · refine ev_neg h ?_
      by_cases h1 : (rd_T47 t (i : Int)).f2 = w
      · refine ev_pos h1 (ev_pos (by omega) ?_)
        exact hr true (by rw [hasB, ← hb, beq_iff_eq.2 h1, Bool.or_true]; rfl)
      · refine ev_neg h1 ?_
        rw [succ64 (n := t.length) (by omega) (by omega)]
        refine ih (i + 1) (by omega) ?_
        rw [hasB, hasB, ← hb, beq_eq_false_iff_ne.2 h, beq_eq_false_iff_ne.2 h1]; rfl
theorem implBy_l0 (t : List Sg) (hs : t.length ≤ 24) (w : Int) (hw : 1 ≤ w) (hw3 : w ≤ 3) (x : List Int) (hx : x.length ≤ 3) (r : List Int) (h : Ev (fun k => impl_TextBy.l0 k t (x ++ by1 w t) (w + 1)) r) : Ev (fun k => impl_TextBy.l0 k t x w) r := by
  refine ev_step (fun k => by rw [impl_TextBy.l0]) (ev_pos hw3 ?_)
  refine implBy_l1 w t hs x hx r ?_ t.length 0 (by omega) rfl
  rintro b rfl
  rw [w64 (by omega) (by omega)]
  exact h
theorem by1_len (w : Int) (t : List Sg) : (by1 w t).length ≤ 1 := by unfold by1; split <;> simp
theorem implBy (t : List Sg) (hs : t.length < 4611686018427387904) : Ev (fun k => impl_TextBy.f k t) (byS t) := by
  unfold impl_TextBy.f byS
  refine ev_b rfl (ev_bind (implTextOk t hs) ?_)
  by_cases h : textB t = true
  · have hl := textB_len h
    refine ev_pos h ?_
    rw [if_pos h]
    have l1 := by1_len 1 t
    have l2 := by1_len 2 t
    refine implBy_l0 t hl 1 (by omega) (by omega) [] (by simp) _ ?_
    refine implBy_l0 t hl 2 (by omega) (by omega) _ (by simp; omega) _ ?_
    refine implBy_l0 t hl 3 (by omega) (by omega) _ (by simp; omega) _ ?_
    refine ev_step (fun k => by rw [impl_TextBy.l0]) (ev_neg (by omega) (ev_s ?_))
    simp [byL]
  · exact ev_neg h (ev_s (by rw [if_neg h]))
theorem specBy_l1 (w : Int) (t : List Sg) (hs : t.length ≤ 24) (x : List Int) (hx : x.length ≤ 3) (r : List Int) (hr : Ev (fun k => spec_TextBy.l0 k t (x ++ by1 w t) (wrap64 (w + 1))) r) :
    ∀ (d i : Nat) (b : Bool), i + d = t.length → (b || hasB w (t.drop i)) = hasB w t → Ev (fun k => spec_TextBy.l1 k t x w b (i : Int)) r := by
  intro d
  induction d with
  | zero =>
    intro i b hi hb
    refine ev_step (fun k => by rw [spec_TextBy.l1]) (ev_neg (by omega) ?_)
    rw [end_drop t hi] at hb
    simp only [hasB, List.any_nil, Bool.or_false] at hb
    unfold by1 hasB at hr
    rw [← hb] at hr
    cases b
    · exact ev_neg (by decide) (by simpa using hr)
    · exact ev_pos rfl (ev_pos (by omega) (by simpa using hr))
  | succ d ih =>
    intro i b hi hb
    have hd := drop_rd t i (by omega)
    refine ev_step (fun k => by rw [spec_TextBy.l1]) (ev_pos (by omega) ?_)
    rw [succ64 (n := t.length) (by omega) (by omega)]
    rw [hd] at hb
    simp only [hasB, List.any_cons] at hb
    cases b
    · refine ev_neg (by decide) (ev_pos (by omega) ?_)
      rw [Bool.false_or] at hb
      by_cases h : (rd_T47 t (i : Int)).f1 = w
      · refine ev_pos h (ih (i + 1) _ (by omega) ?_)
        unfold hasB; rw [← hb, beq_iff_eq.2 h]; rfl
      · refine ev_neg h (ih (i + 1) _ (by omega) ?_)
        unfold hasB; rw [← hb, beq_eq_false_iff_ne.2 h]; rfl
    · refine ev_pos rfl (ih (i + 1) _ (by omega) ?_)
      rw [Bool.true_or] at hb
      unfold hasB; rw [← hb]; rfl
theorem specBy_l0 (t : List Sg) (ht : textB t = true) (w : Int) (hw : 1 ≤ w) (hw3 : w ≤ 3) (x : List Int) (hx : x.length ≤ 3) (r : List Int) (h : Ev (fun k => spec_TextBy.l0 k t (x ++ by1 w t) (w + 1)) r) : Ev (fun k => spec_TextBy.l0 k t x w) r := by
  refine ev_step (fun k => by rw [spec_TextBy.l0]) (ev_pos hw3 (ev_bind (specTextOk t) (ev_step (fun k => by rw [spec_TextBy.j1]) (ev_pos ht ?_))))
  refine specBy_l1 w t (textB_len ht) x hx r ?_ t.length 0 false (by omega) (by rw [List.drop_zero, Bool.false_or])
  rw [w64 (by omega) (by omega)]
  exact h
theorem specBy (t : List Sg) : Ev (fun k => spec_TextBy.f k t) (byS t) := by
  unfold spec_TextBy.f byS
  by_cases h : textB t = true
  · have hl := textB_len h
    rw [if_pos h]
    have l1 := by1_len 1 t
    have l2 := by1_len 2 t
    refine specBy_l0 t h 1 (by omega) (by omega) [] (by simp) _ ?_
    refine specBy_l0 t h 2 (by omega) (by omega) _ (by simp; omega) _ ?_
    refine specBy_l0 t h 3 (by omega) (by omega) _ (by simp; omega) _ ?_
    refine ev_step (fun k => by rw [spec_TextBy.l0]) (ev_neg (by omega) (ev_step (fun k => by rw [spec_TextBy.j1]) (ev_neg (by decide) (ev_s ?_))))
    simp [byL]
  · rw [if_neg h]
    exact ev_step (fun k => by rw [spec_TextBy.l0]) (ev_pos (by omega) (ev_bind (specTextOk t) (ev_step (fun k => by rw [spec_TextBy.j1]) (ev_neg h (ev_s rfl)))))

/-! ### TextOf -/
theorem ofL_length (s : ByteArray) : (ofL s).length = s.size := by rw [ofL, List.length_map, bytesOf_length]
theorem ofL_drop (s : ByteArray) (i : Nat) (h : i < s.size) : (ofL s).drop i = (⟨bt s (i : Int), 0, 0⟩ : Sg) :: (ofL s).drop (i + 1) := by
  have hl := ofL_length s
  rw [List.drop_eq_getElem_cons (by omega)]
  congr 1
  rw [← rd_bytesOf]
  unfold ofL rd
  rw [List.getElem_map, Int.toNat_natCast, List.getD_eq_getElem?_getD, List.getElem?_eq_getElem (by rw [bytesOf_length]; exact h)]
  rfl
theorem implOf_l0 (s : ByteArray) (hs : s.size < 5000000000000) : ∀ (d i : Nat) (x : List Sg), i + d = s.size → x.length ≤ i → x ++ (ofL s).drop i = ofL s →
    Ev (fun k => impl_TextOf.l0 k s x (s.size : Int) (i : Int)) (ofS s) := by
  intro d
  induction d with
  | zero =>
    intro i x hi hx he
    rw [List.drop_of_length_le (by rw [ofL_length]; omega), List.append_nil] at he
    subst he
    refine ev_step (fun k => by rw [impl_TextOf.l0]) (ev_neg (by omega) (ev_bind (implTextOk _ (by rw [ofL_length]; omega)) ?_))
    unfold ofS
    by_cases h : textB (ofL s) = true
    · exact ev_pos h (ev_s (by rw [if_pos h]))
    · exact ev_neg h (ev_s (by rw [if_neg h]))
  | succ d ih =>
    intro i x hi hx he
    refine ev_step (fun k => by rw [impl_TextOf.l0]) (ev_pos (by omega) (ev_pos (by omega) (ev_pos (by omega) (ev_pos (by omega) ?_))))
    rw [succ64 (n := s.size) (by omega) (by omega)]
    refine ih (i + 1) _ (by omega) (by simp; omega) ?_
    rw [List.append_assoc, List.singleton_append, ← ofL_drop s i (by omega)]
    exact he
theorem implOf (s : ByteArray) (hs : s.size < 5000000000000) : Ev (fun k => impl_TextOf.f k s) (ofS s) := by
  unfold impl_TextOf.f
  exact implOf_l0 s hs s.size 0 [] (by omega) (by simp) (by simp)
end Go.Proofs.Ytnkjpegammijiaa.Pure
namespace Go.Proofs.Ytnkjpegammijiaa.Pure
open Go.RowKit Go.Proofs.Ytnkjpegammijiaa.P Go.Proofs.YtnkjpegammijiaaW.PrintWords Go.Proofs.YtnkjpegammijiaaW.PrintLast
set_option linter.unusedVariables false
set_option linter.unusedSimpArgs false

theorem personB_iff (w : Int) : personB w = true ↔ 1 ≤ w ∧ w ≤ 3 := by simp [personB, inB]
theorem fm_congr {α β : Type} {t : List α} {f g : α → List β} (h : ∀ s ∈ t, f s = g s) : t.flatMap f = t.flatMap g := by
  induction t with
  | nil => rfl
  | cons a t ih => rw [List.flatMap_cons, List.flatMap_cons, h a List.mem_cons_self, ih (fun s hs => h s (List.mem_cons_of_mem _ hs))]
theorem fm_fm {α β γ : Type} (t : List α) (f : α → List β) (g : β → List γ) : (t.flatMap f).flatMap g = t.flatMap fun s => (f s).flatMap g := by
  induction t with
  | nil => rfl
  | cons a t ih => rw [List.flatMap_cons, List.flatMap_append, ih, List.flatMap_cons]
theorem fm_len {α β : Type} {f : α → List β} (h : ∀ s, (f s).length ≤ 1) (t : List α) : (t.flatMap f).length ≤ t.length := by
  induction t with
  | nil => simp
  | cons a t ih => have := h a; rw [List.flatMap_cons, List.length_append, List.length_cons]; omega

theorem now_take1 {w : Int} (hw : w ≠ 0) (s : Sg) : (take1 w s).flatMap now1 = now1 s := by
  unfold take1 now1
  by_cases h : s.f2 = w
  · have : s.f2 ≠ 0 := by omega
    simp [h, hw]
  · by_cases h1 : s.f1 = w <;> simp [h, h1]
theorem was_drop1 {w : Int} (hw : w ≠ 0) (s : Sg) : (drop1 w s).flatMap was1 = was1 s := by
  unfold drop1 was1
  by_cases h : s.f1 = w
  · simp [h, hw]
  · by_cases h1 : s.f2 = w <;> simp [h, h1]
theorem take_take1 {o w : Int} (ho : o ≠ 0) (hw : w ≠ 0) (h : o ≠ w) (s : Sg) : (take1 w s).flatMap (take1 o) = (take1 o s).flatMap (take1 w) := by
  unfold take1
  by_cases a : s.f2 = w
  · have a' : s.f2 ≠ o := by omega
    by_cases c : s.f1 = o <;> simp [a, a', c, h, Ne.symm h]
  · by_cases b : s.f2 = o
    · by_cases c : s.f1 = w <;> simp [a, b, c, h, Ne.symm h]
    · by_cases c : s.f1 = w
      · simp [a, b, c, h, Ne.symm h, ho.symm]
      · by_cases d : s.f1 = o <;> simp [a, b, c, d, h, Ne.symm h, ho.symm, hw.symm]
theorem drop_drop1 {o w : Int} (ho : o ≠ 0) (hw : w ≠ 0) (h : o ≠ w) (s : Sg) : (drop1 w s).flatMap (drop1 o) = (drop1 o s).flatMap (drop1 w) := by
  unfold drop1
  by_cases a : s.f1 = w
  · have a' : s.f1 ≠ o := by omega
    by_cases c : s.f2 = o <;> simp [a, a', c, h, Ne.symm h]
  · by_cases b : s.f1 = o
    · by_cases c : s.f2 = w <;> simp [a, b, c, h, Ne.symm h]
    · by_cases c : s.f2 = w
      · simp [a, b, c, h, Ne.symm h, ho.symm]
      · by_cases d : s.f2 = o <;> simp [a, b, c, d, h, Ne.symm h, ho.symm, hw.symm]
theorem drop_take1 {o w : Int} (ho : o ≠ 0) (hw : w ≠ 0) (h : o ≠ w) (s : Sg) : (take1 w s).flatMap (drop1 o) = (drop1 o s).flatMap (take1 w) := by
  unfold drop1 take1
  by_cases a : s.f2 = w
  · have a' : s.f2 ≠ o := by omega
    by_cases c : s.f1 = o <;> simp [a, a', c, h, Ne.symm h]
  · by_cases b : s.f1 = o
    · have b' : s.f1 ≠ w := by omega
      simp [a, b, h]
    · by_cases c : s.f1 = w
      · by_cases d : s.f2 = o <;> simp [a, b, c, d, h, Ne.symm h, ho.symm, hw.symm]
      · by_cases d : s.f2 = o <;> simp [a, b, c, d, h, Ne.symm h, ho.symm, hw.symm]
theorem take_idem1 {w : Int} (hw : w ≠ 0) (s : Sg) : (take1 w s).flatMap (take1 w) = take1 w s := by
  unfold take1
  by_cases a : s.f2 = w
  · simp [a]
  · by_cases c : s.f1 = w <;> simp [a, c, hw.symm]
theorem drop_idem1 {w : Int} (hw : w ≠ 0) (s : Sg) : (drop1 w s).flatMap (drop1 w) = drop1 w s := by
  unfold drop1
  by_cases a : s.f1 = w
  · simp [a]
  · by_cases c : s.f2 = w <;> simp [a, c, hw.symm]
theorem drop_after1 {w : Int} (hw : w ≠ 0) (s : Sg) : (take1 w s).flatMap (drop1 w) = take1 w s := by
  unfold take1 drop1
  by_cases a : s.f2 = w
  · simp [a]
  · by_cases c : s.f1 = w <;> simp [a, c, hw.symm]
theorem take1_len (w : Int) (s : Sg) : (take1 w s).length ≤ 1 := by
  unfold take1; split
  · simp
  · split <;> simp
theorem drop1_len (w : Int) (s : Sg) : (drop1 w s).length ≤ 1 := by
  unfold drop1; split
  · simp
  · split <;> simp
theorem signB_parts {s : Sg} (h : signB s = true) : byteB s.f0 = true ∧ (0 ≤ s.f1 ∧ s.f1 ≤ 3) ∧ (0 ≤ s.f2 ∧ s.f2 ≤ 3) ∧ (s.f1 = 0 ∨ s.f1 ≠ s.f2) := by
  simp only [signB, inB, Bool.and_eq_true, decide_eq_true_eq, Bool.not_eq_true', decide_eq_false_iff_not] at h
  refine ⟨h.1.1.1, h.1.1.2, h.1.2, ?_⟩
  by_cases e : s.f1 = 0
  · exact .inl e
  · exact .inr fun e' => h.2 ⟨e, e'⟩
theorem signB_mk {a b c : Int} (h : byteB a = true) (h1 : 0 ≤ b ∧ b ≤ 3) (h2 : 0 ≤ c ∧ c ≤ 3) (h3 : b = 0 ∨ b ≠ c) : signB (⟨a, b, c⟩ : Sg) = true := by
  simp only [signB, inB, Bool.and_eq_true, decide_eq_true_eq, Bool.not_eq_true', decide_eq_false_iff_not]
  exact ⟨⟨⟨h, h1⟩, h2⟩, fun e => by rcases h3 with h3 | h3; exact e.1 h3; exact h3 e.2⟩
/-- What keeps signs in form, one for one at most. -/
structure Fine (f : Sg → List Sg) : Prop where
  len : ∀ s, (f s).length ≤ 1
  ok : ∀ s, signB s = true → ∀ x ∈ f s, signB x = true
theorem fine_take (w : Int) : Fine (take1 w) := by
  refine ⟨take1_len w, fun s h x hx => ?_⟩
  obtain ⟨h0, h1, h2, h3⟩ := signB_parts h
  unfold take1 at hx
  split at hx
  · simp at hx
  · split at hx
    · rw [List.mem_singleton.1 hx]; exact signB_mk h0 (by omega) h2 (.inl rfl)
    · rw [List.mem_singleton.1 hx]; exact h
theorem fine_drop (w : Int) : Fine (drop1 w) := by
  refine ⟨drop1_len w, fun s h x hx => ?_⟩
  obtain ⟨h0, h1, h2, h3⟩ := signB_parts h
  unfold drop1 at hx
  split at hx
  · simp at hx
  · split at hx
    · rw [List.mem_singleton.1 hx]; exact signB_mk h0 h1 (by omega) (by omega)
    · rw [List.mem_singleton.1 hx]; exact h
theorem textB_iff (t : List Sg) : textB t = true ↔ t.length ≤ 24 ∧ ∀ s ∈ t, signB s = true := by
  simp [textB]
theorem textB_nil : textB [] = true := rfl
theorem textB_fm {f : Sg → List Sg} (hf : Fine f) {t : List Sg} (h : textB t = true) : textB (t.flatMap f) = true := by
  rw [textB_iff] at *
  refine ⟨Nat.le_trans (fm_len hf.len t) h.1, fun x hx => ?_⟩
  obtain ⟨s, hs, hx⟩ := List.mem_flatMap.1 hx
  exact hf.ok s (h.2 s hs) x hx
theorem textB_append (a b : List Sg) : textB (a ++ b) = true ↔ a.length + b.length ≤ 24 ∧ (∀ s ∈ a, signB s = true) ∧ ∀ s ∈ b, signB s = true := by
  rw [textB_iff, List.length_append]
  exact and_congr_right fun _ => ⟨fun h => ⟨fun s hs => h s (List.mem_append_left _ hs), fun s hs => h s (List.mem_append_right _ hs)⟩, fun h s hs => (List.mem_append.1 hs).elim (h.1 s) (h.2 s)⟩

/-! ### A person's suggestions settled -/
def app (f : Sg → List Sg) (w : Int) (t : List Sg) : List Sg := if personB w = true then (if textB t = true then t.flatMap f else []) else t
theorem take_app (w : Int) (t : List Sg) : take w t = app (take1 w) w t := rfl
theorem drop_app (w : Int) (t : List Sg) : drop w t = app (drop1 w) w t := rfl
theorem app_len {f : Sg → List Sg} (hf : Fine f) (w : Int) (t : List Sg) : (app f w t).length ≤ t.length := by
  unfold app
  split
  · split
    · exact fm_len hf.len t
    · simp
  · exact Nat.le_refl _
theorem app_nil (f : Sg → List Sg) (w : Int) : app f w [] = [] := by unfold app; split <;> simp
theorem textB_app {f : Sg → List Sg} (hf : Fine f) (w : Int) {t : List Sg} (h : textB t = true) : textB (app f w t) = true := by
  unfold app
  rw [if_pos h]
  split
  · exact textB_fm hf h
  · exact h
theorem app_comm {f g : Sg → List Sg} (hf : Fine f) (hg : Fine g) {a b : Int} (h : personB a = true → personB b = true → ∀ s, (f s).flatMap g = (g s).flatMap f) (t : List Sg) : app g b (app f a t) = app f a (app g b t) := by
  by_cases ha : personB a = true
  · by_cases hb : personB b = true
    · by_cases ht : textB t = true
      · have h1 := textB_fm hf ht
        have h2 := textB_fm hg ht
        simp only [app, ha, hb, ht, h1, h2, if_true, fm_fm]
        exact fm_congr fun s _ => h ha hb s
      · have e1 : app f a t = [] := by simp [app, ha, ht]
        have e2 : app g b t = [] := by simp [app, hb, ht]
        rw [e1, e2, app_nil, app_nil]
    · simp [app, hb]
  · simp [app, ha]
theorem app_idem {f g : Sg → List Sg} (hf : Fine f) {a : Int} (h : personB a = true → ∀ s, (f s).flatMap g = f s) (t : List Sg) : app g a (app f a t) = app f a t := by
  by_cases ha : personB a = true
  · by_cases ht : textB t = true
    · have h1 := textB_fm hf ht
      simp only [app, ha, ht, h1, if_true, fm_fm]
      exact fm_congr fun s _ => h ha s
    · have e1 : app f a t = [] := by simp [app, ha, ht]
      rw [e1, app_nil]
  · simp [app, ha]
theorem ne0 {w : Int} (h : personB w = true) : w ≠ 0 := by have := (personB_iff w).1 h; omega
theorem take_comm {o w : Int} (h : o ≠ w) (t : List Sg) : take o (take w t) = take w (take o t) := app_comm (fine_take w) (fine_take o) (fun ha hb s => take_take1 (ne0 hb) (ne0 ha) h s) t
theorem drop_comm {o w : Int} (h : o ≠ w) (t : List Sg) : drop o (drop w t) = drop w (drop o t) := app_comm (fine_drop w) (fine_drop o) (fun ha hb s => drop_drop1 (ne0 hb) (ne0 ha) h s) t
theorem drop_take {o w : Int} (h : o ≠ w) (t : List Sg) : drop o (take w t) = take w (drop o t) := app_comm (fine_take w) (fine_drop o) (fun ha hb s => drop_take1 (ne0 hb) (ne0 ha) h s) t
theorem take_idem (w : Int) (t : List Sg) : take w (take w t) = take w t := app_idem (fine_take w) (fun ha s => take_idem1 (ne0 ha) s) t
theorem drop_idem (w : Int) (t : List Sg) : drop w (drop w t) = drop w t := app_idem (fine_drop w) (fun ha s => drop_idem1 (ne0 ha) s) t
theorem drop_after (w : Int) (t : List Sg) : drop w (take w t) = take w t := app_idem (fine_take w) (fun ha s => drop_after1 (ne0 ha) s) t
theorem take_len (w : Int) (t : List Sg) : (take w t).length ≤ t.length := app_len (fine_take w) w t
theorem drop_len (w : Int) (t : List Sg) : (drop w t).length ≤ t.length := app_len (fine_drop w) w t
theorem textB_take (w : Int) {t : List Sg} (h : textB t = true) : textB (take w t) = true := textB_app (fine_take w) w h
theorem textB_drop (w : Int) {t : List Sg} (h : textB t = true) : textB (drop w t) = true := textB_app (fine_drop w) w h
theorem take_none {w : Int} (h : ¬ (1 ≤ w ∧ w ≤ 3)) (t : List Sg) : take w t = t := by
  unfold take; rw [if_neg (fun e => h ((personB_iff w).1 e))]
theorem drop_none {w : Int} (h : ¬ (1 ≤ w ∧ w ≤ 3)) (t : List Sg) : drop w t = t := by
  unfold drop; rw [if_neg (fun e => h ((personB_iff w).1 e))]
theorem nowS_take (w : Int) (t : List Sg) : nowS (take w t) = nowS t := by
  unfold take
  by_cases h : personB w = true
  · rw [if_pos h]
    by_cases ht : textB t = true
    · have h1 : textB (takeL w t) = true := textB_fm (fine_take w) ht
      rw [if_pos ht]
      simp only [nowS, ht, h1, if_true]
      congr 1
      unfold nowL takeL
      rw [fm_fm]
      exact fm_congr fun s _ => now_take1 (ne0 h) s
    · rw [if_neg ht]
      simp [nowS, ht, textB_nil, nowL]
  · rw [if_neg h]
theorem wasS_drop (w : Int) (t : List Sg) : wasS (drop w t) = wasS t := by
  unfold drop
  by_cases h : personB w = true
  · rw [if_pos h]
    by_cases ht : textB t = true
    · have h1 : textB (dropL w t) = true := textB_fm (fine_drop w) ht
      rw [if_pos ht]
      simp only [wasS, ht, h1, if_true]
      congr 1
      unfold wasL dropL
      rw [fm_fm]
      exact fm_congr fun s _ => was_drop1 (ne0 h) s
    · rw [if_neg ht]
      simp [wasS, ht, textB_nil, wasL]
  · rw [if_neg h]
theorem nowS_size (t : List Sg) : (nowS t).size ≤ t.length := by
  unfold nowS
  split
  · rw [strOfNums_size]; exact fm_len (fun s => by unfold now1; split <;> simp) t
  · rw [strOfNums_size]; simp
theorem wasS_size (t : List Sg) : (wasS t).size ≤ t.length := by
  unfold wasS
  split
  · rw [strOfNums_size]; exact fm_len (fun s => by unfold was1; split <;> simp) t
  · rw [strOfNums_size]; simp
theorem strOfNums_append (xs ys : List Int) : strOfNums (xs ++ ys) = strOfNums xs ++ strOfNums ys := by
  apply ByteArray.ext
  rw [ByteArray.data_append]
  simp [strOfNums]

/-! ### Who suggested -/
theorem mem_by1 (w x : Int) (t : List Sg) : x ∈ by1 w t ↔ x = w ∧ hasB w t = true := by
  unfold by1
  by_cases h : hasB w t = true <;> simp [h]
theorem mem_byL (x : Int) (t : List Sg) : x ∈ byL t ↔ 1 ≤ x ∧ x ≤ 3 ∧ hasB x t = true := by
  unfold byL
  rw [List.mem_append, List.mem_append, mem_by1, mem_by1, mem_by1]
  constructor
  · rintro (⟨rfl, h⟩ | ⟨rfl, h⟩ | ⟨rfl, h⟩) <;> exact ⟨by omega, by omega, h⟩
  · rintro ⟨a, b, h⟩
    have : x = 1 ∨ x = 2 ∨ x = 3 := by omega
    rcases this with rfl | rfl | rfl
    · exact .inl ⟨rfl, h⟩
    · exact .inr (.inl ⟨rfl, h⟩)
    · exact .inr (.inr ⟨rfl, h⟩)
theorem mem_byS {x : Int} {t : List Sg} (ht : textB t = true) : x ∈ byS t ↔ 1 ≤ x ∧ x ≤ 3 ∧ hasB x t = true := by
  unfold byS; rw [if_pos ht]; exact mem_byL x t
theorem hasB_iff (w : Int) (t : List Sg) : hasB w t = true ↔ ∃ s ∈ t, s.f1 = w ∨ s.f2 = w := by
  simp [hasB]
theorem byL_len (t : List Sg) : (byL t).length ≤ 3 := by
  have h1 := by1_len 1 t
  have h2 := by1_len 2 t
  have h3 := by1_len 3 t
  unfold byL; simp only [List.length_append]; omega
theorem byS_len (t : List Sg) : (byS t).length ≤ 3 := by
  unfold byS; split
  · exact byL_len t
  · simp
/-- Who is taken (dropped) has suggested nothing then; others no more than they had. -/
theorem by_take {w x : Int} {t : List Sg} (ht : textB t = true) (h : x ∈ byS (take w t)) : x ∈ byS t ∧ x ≠ w := by
  have h1 := textB_take w ht
  rw [mem_byS h1] at h
  obtain ⟨a, b, h⟩ := h
  obtain ⟨s, hs, hx⟩ := (hasB_iff _ _).1 h
  by_cases hp : personB w = true
  · have e : take w t = takeL w t := by unfold take; rw [if_pos hp, if_pos ht]
    rw [e] at hs
    obtain ⟨s0, hs0, hm⟩ := List.mem_flatMap.1 hs
    have key : (s0.f1 = x ∨ s0.f2 = x) ∧ x ≠ w := by
      unfold take1 at hm
      by_cases c : s0.f2 = w
      · simp [c] at hm
      · rw [if_neg c] at hm
        by_cases d : s0.f1 = w
        · rw [if_pos d] at hm
          rw [List.mem_singleton.1 hm] at hx
          dsimp only at hx
          omega
        · rw [if_neg d] at hm
          rw [List.mem_singleton.1 hm] at hx
          omega
    exact ⟨(mem_byS ht).2 ⟨a, b, (hasB_iff _ _).2 ⟨s0, hs0, key.1⟩⟩, key.2⟩
  · have hw : ¬ (1 ≤ w ∧ w ≤ 3) := fun e => hp ((personB_iff w).2 e)
    rw [take_none hw] at h
    exact ⟨(mem_byS ht).2 ⟨a, b, h⟩, by omega⟩
theorem by_drop {w x : Int} {t : List Sg} (ht : textB t = true) (h : x ∈ byS (drop w t)) : x ∈ byS t ∧ x ≠ w := by
  have h1 := textB_drop w ht
  rw [mem_byS h1] at h
  obtain ⟨a, b, h⟩ := h
  obtain ⟨s, hs, hx⟩ := (hasB_iff _ _).1 h
  by_cases hp : personB w = true
  · have e : drop w t = dropL w t := by unfold drop; rw [if_pos hp, if_pos ht]
    rw [e] at hs
    obtain ⟨s0, hs0, hm⟩ := List.mem_flatMap.1 hs
    have key : (s0.f1 = x ∨ s0.f2 = x) ∧ x ≠ w := by
      unfold drop1 at hm
      by_cases c : s0.f1 = w
      · simp [c] at hm
      · rw [if_neg c] at hm
        by_cases d : s0.f2 = w
        · rw [if_pos d] at hm
          rw [List.mem_singleton.1 hm] at hx
          dsimp only at hx
          omega
        · rw [if_neg d] at hm
          rw [List.mem_singleton.1 hm] at hx
          omega
    exact ⟨(mem_byS ht).2 ⟨a, b, (hasB_iff _ _).2 ⟨s0, hs0, key.1⟩⟩, key.2⟩
  · have hw : ¬ (1 ≤ w ∧ w ≤ 3) := fun e => hp ((personB_iff w).2 e)
    rw [drop_none hw] at h
    exact ⟨(mem_byS ht).2 ⟨a, b, h⟩, by omega⟩

/-! ### Plain bytes -/
theorem bytesOf_strOfNums {xs : List Int} (h : ∀ x ∈ xs, 0 ≤ x ∧ x ≤ 255) : bytesOf (strOfNums xs) = xs := by
  unfold bytesOf
  rw [strOfNums_data, List.map_map]
  conv => rhs; rw [← List.map_id xs]
  refine List.map_congr_left fun x hx => ?_
  have := h x hx
  simp only [Function.comp_apply, id_eq, UInt8.toNat_ofNat']
  omega
theorem byteB_rng {b : Int} (h : byteB b = true) : 0 ≤ b ∧ b ≤ 255 := by
  rw [byteB, decide_eq_true_eq] at h; omega
theorem ofS_of {xs : List Int} (hl : xs.length ≤ 24) (h : ∀ x ∈ xs, byteB x = true) : ofS (strOfNums xs) = xs.map fun b => (⟨b, 0, 0⟩ : Sg) := by
  have e : ofL (strOfNums xs) = xs.map fun b => (⟨b, 0, 0⟩ : Sg) := by unfold ofL; rw [bytesOf_strOfNums fun x hx => byteB_rng (h x hx)]
  unfold ofS
  rw [e, if_pos]
  rw [textB_iff]
  refine ⟨by simpa using hl, fun s hs => ?_⟩
  obtain ⟨x, hx, rfl⟩ := List.mem_map.1 hs
  exact signB_mk (h x hx) (by omega) (by omega) (.inl rfl)
theorem now_bytes {t : List Sg} (ht : textB t = true) : ∀ x ∈ nowL t, byteB x = true := by
  intro x hx
  obtain ⟨s, hs, hx⟩ := List.mem_flatMap.1 hx
  unfold now1 at hx
  split at hx
  · rw [List.mem_singleton.1 hx]; exact (signB_parts ((textB_iff t).1 ht |>.2 s hs)).1
  · simp at hx
theorem was_bytes {t : List Sg} (ht : textB t = true) : ∀ x ∈ wasL t, byteB x = true := by
  intro x hx
  obtain ⟨s, hs, hx⟩ := List.mem_flatMap.1 hx
  unfold was1 at hx
  split at hx
  · rw [List.mem_singleton.1 hx]; exact (signB_parts ((textB_iff t).1 ht |>.2 s hs)).1
  · simp at hx
/-- All taken, or dropped: plain bytes. -/
theorem all_take {t : List Sg} (ht : textB t = true) : take 3 (take 2 (take 1 t)) = ofS (nowS t) := by
  have p1 : personB 1 = true := by decide
  have p2 : personB 2 = true := by decide
  have p3 : personB 3 = true := by decide
  have h1 : textB (t.flatMap (take1 1)) = true := textB_fm (fine_take 1) ht
  have h2 : textB (t.flatMap fun s => (take1 1 s).flatMap (take1 2)) = true := by rw [← fm_fm]; exact textB_fm (fine_take 2) h1
  have e : nowS t = strOfNums (nowL t) := by unfold nowS; rw [if_pos ht]
  rw [e, ofS_of]
  · unfold take takeL
    simp only [p1, p2, p3, ht, h1, if_true, fm_fm, h2]
    unfold nowL
    rw [List.map_flatMap]
    refine fm_congr fun s hs => ?_
    obtain ⟨_, b1, b2, b3⟩ := signB_parts ((textB_iff t).1 ht |>.2 s hs)
    obtain ⟨a, b, c⟩ := s
    dsimp only at b1 b2 b3
    have hb : b = 0 ∨ b = 1 ∨ b = 2 ∨ b = 3 := by omega
    have hc : c = 0 ∨ c = 1 ∨ c = 2 ∨ c = 3 := by omega
    rcases hb with rfl | rfl | rfl | rfl <;> rcases hc with rfl | rfl | rfl | rfl <;> simp [take1, now1]
  · exact Nat.le_trans (fm_len (fun s => by unfold now1; split <;> simp) t) (textB_len ht)
  · exact now_bytes ht
theorem all_drop {t : List Sg} (ht : textB t = true) : drop 3 (drop 2 (drop 1 t)) = ofS (wasS t) := by
  have p1 : personB 1 = true := by decide
  have p2 : personB 2 = true := by decide
  have p3 : personB 3 = true := by decide
  have h1 : textB (t.flatMap (drop1 1)) = true := textB_fm (fine_drop 1) ht
  have h2 : textB (t.flatMap fun s => (drop1 1 s).flatMap (drop1 2)) = true := by rw [← fm_fm]; exact textB_fm (fine_drop 2) h1
  have e : wasS t = strOfNums (wasL t) := by unfold wasS; rw [if_pos ht]
  rw [e, ofS_of]
  · unfold drop dropL
    simp only [p1, p2, p3, ht, h1, if_true, fm_fm, h2]
    unfold wasL
    rw [List.map_flatMap]
    refine fm_congr fun s hs => ?_
    obtain ⟨_, b1, b2, b3⟩ := signB_parts ((textB_iff t).1 ht |>.2 s hs)
    obtain ⟨a, b, c⟩ := s
    dsimp only at b1 b2 b3
    have hb : b = 0 ∨ b = 1 ∨ b = 2 ∨ b = 3 := by omega
    have hc : c = 0 ∨ c = 1 ∨ c = 2 ∨ c = 3 := by omega
    rcases hb with rfl | rfl | rfl | rfl <;> rcases hc with rfl | rfl | rfl | rfl <;> simp [drop1, was1]
  · exact Nat.le_trans (fm_len (fun s => by unfold was1; split <;> simp) t) (textB_len ht)
  · exact was_bytes ht
end Go.Proofs.Ytnkjpegammijiaa.Pure
