/- The plain law behind FnTextBy: who has suggested something is told, each once; nobody is told if what is now and what was is all there is. Condition: none beyond the row's own. -/
import Derived.Test.YtcabipiblfohnaaXPLawsFnTextBy
import Derived.Test.YtcabipiblfohnaaXPuText
import Derived.Test.YtcabipiblfohnaaXPuI
import Derived.Test.YtcabipiblfohnaaXPuDBy
import Derived.Lib.Bytes
namespace Go.Proofs.Ytcabipiblfohnaa.Pure
open Go.RowKit Go.Proofs.Ytcabipiblfohnaa.P Go.Proofs.YtcabipiblfohnaaW.PrintWords Go.Proofs.YtcabipiblfohnaaW.PrintLast
set_option linter.unusedVariables false
set_option linter.unusedSimpArgs false
theorem by_mem {t : List Sg} (hok : textB t = true) {s : Sg} (hs : s ∈ t) : (s.f1 > 0 → s.f1 ∈ byS t) ∧ (s.f2 > 0 → s.f2 ∈ byS t) := by
  obtain ⟨_, h1, h2, _⟩ := signB_parts (((textB_iff t).1 hok).2 s hs)
  exact ⟨fun h => (mem_byS hok).2 ⟨by omega, by omega, (hasB_iff _ _).2 ⟨s, hs, .inl rfl⟩⟩, fun h => (mem_byS hok).2 ⟨by omega, by omega, (hasB_iff _ _).2 ⟨s, hs, .inr rfl⟩⟩⟩
theorem by_asc (t : List Sg) (i : Nat) (h1 : 1 ≤ i) (h : i < (byL t).length) : rd (byL t) ((i : Int) - 1) < rd (byL t) (i : Int) := by
  revert h
  unfold byL by1
  have hi : i = 1 ∨ i = 2 ∨ 3 ≤ i := by omega
  by_cases a : hasB 1 t = true <;> by_cases b : hasB 2 t = true <;> by_cases c : hasB 3 t = true <;> rcases hi with rfl | rfl | hi <;> simp only [a, b, c, if_true, if_false, List.append_nil, List.nil_append, List.cons_append] <;> first | (intro h; simp at h; done) | (intro h; decide) | (intro h; simp at h; omega)
theorem was_len {t : List Sg} (hl : ∀ s ∈ t, signB s = true) (h : (wasL t).length = t.length) : ∀ s ∈ t, s.f1 = 0 := by
  induction t with
  | nil => simp
  | cons a t ih =>
    have hle := fm_len (f := was1) (fun s => by unfold was1; split <;> simp) t
    unfold wasL at h ih
    rw [List.flatMap_cons, List.length_append, List.length_cons] at h
    have ha : a.f1 = 0 := by
      by_cases e : a.f1 = 0
      · exact e
      · rw [show (was1 a).length = 0 from by unfold was1; rw [if_neg e]; rfl] at h; omega
    have hw : (was1 a).length = 1 := by unfold was1; rw [if_pos ha]; rfl
    intro s hs
    rcases List.mem_cons.1 hs with rfl | hs
    · exact ha
    · exact ih (fun x hx => hl x (List.mem_cons_of_mem _ hx)) (by omega) s hs
theorem now_len {t : List Sg} (hl : ∀ s ∈ t, signB s = true) (h : (nowL t).length = t.length) : ∀ s ∈ t, s.f2 = 0 := by
  induction t with
  | nil => simp
  | cons a t ih =>
    have hle := fm_len (f := now1) (fun s => by unfold now1; split <;> simp) t
    unfold nowL at h ih
    rw [List.flatMap_cons, List.length_append, List.length_cons] at h
    have ha : a.f2 = 0 := by
      by_cases e : a.f2 = 0
      · exact e
      · rw [show (now1 a).length = 0 from by unfold now1; rw [if_neg e]; rfl] at h; omega
    have hw : (now1 a).length = 1 := by unfold now1; rw [if_pos ha]; rfl
    intro s hs
    rcases List.mem_cons.1 hs with rfl | hs
    · exact ha
    · exact ih (fun x hx => hl x (List.mem_cons_of_mem _ hx)) (by omega) s hs
theorem by_none {t : List Sg} (hok : textB t = true) (h : (byS t).length = 0) : ∀ s ∈ t, s.f1 = 0 ∧ s.f2 = 0 := by
  intro s hs
  obtain ⟨_, h1, h2, _⟩ := signB_parts (((textB_iff t).1 hok).2 s hs)
  have e := List.eq_nil_of_length_eq_zero h
  obtain ⟨m1, m2⟩ := by_mem hok hs
  rw [e] at m1 m2
  constructor
  · by_cases c : s.f1 = 0
    · exact c
    · exact absurd (m1 (by omega)) (by simp)
  · by_cases c : s.f2 = 0
    · exact c
    · exact absurd (m2 (by omega)) (by simp)
theorem by_some {t : List Sg} (hok : textB t = true) (h : ∀ s ∈ t, s.f1 = 0 ∧ s.f2 = 0) : (byS t).length = 0 := by
  have : byS t = [] := by
    refine List.eq_nil_iff_forall_not_mem.2 fun x hx => ?_
    obtain ⟨a, b, c⟩ := (mem_byS hok).1 hx
    obtain ⟨s, hs, e⟩ := (hasB_iff _ _).1 c
    have := h s hs
    omega
  rw [this]; rfl
theorem plain_of {t : List Sg} (h : ∀ s ∈ t, s.f1 = 0 ∧ s.f2 = 0) : nowL t = t.map (fun s => s.f0) ∧ wasL t = t.map (fun s => s.f0) := by
  induction t with
  | nil => exact ⟨rfl, rfl⟩
  | cons a t ih =>
    obtain ⟨h1, h2⟩ := h a List.mem_cons_self
    obtain ⟨i1, i2⟩ := ih (fun s hs => h s (List.mem_cons_of_mem _ hs))
    unfold nowL wasL at *
    rw [List.flatMap_cons, List.flatMap_cons, i1, i2]
    unfold now1 was1
    rw [if_pos h1, if_pos h2]
    exact ⟨rfl, rfl⟩
theorem by_l1 (t : List Sg) (ht : t.length ≤ 26) (hok : textB t = true) : ∀ (d i : Nat), 1 ≤ i → i + d = (byS t).length + 1 → Ev (fun k => laws_FnTextBy.l1 k t (byS t) (i : Int)) true := by
  have hb := byS_len t
  have hsg := ((textB_iff t).1 hok).2
  have stop : ∀ i : Nat, (byS t).length ≤ i → Ev (fun k => laws_FnTextBy.l1 k t (byS t) (i : Int)) true := by
    intro i hi
    refine ev_step (fun k => by rw [laws_FnTextBy.l1]) ?_
    refine ev_neg (by omega) (ev_bind (implNow t (by omega)) (ev_bind (implWas t (by omega)) ?_))
    have en : nowS t = strOfNums (nowL t) := by unfold nowS; rw [if_pos hok]
    have ew : wasS t = strOfNums (wasL t) := by unfold wasS; rw [if_pos hok]
    by_cases h0 : (byS t).length = 0
    · obtain ⟨p1, p2⟩ := plain_of (by_none hok h0)
      refine ev_pos (by rw [en, ew, p1, p2]) (ev_bind (implNow t (by omega)) (ev_s ?_))
      rw [en, strOfNums_size, p1, List.length_map, h0]
      simp
    · by_cases e : (nowS t).toList = (wasS t).toList
      · refine ev_pos e (ev_bind (implNow t (by omega)) (ev_s ?_))
        have hne : ¬ (nowS t).size = t.length := by
          intro hz
          have hz' := hz
          rw [en, strOfNums_size] at hz'
          have hw : (wasL t).length = t.length := by
            have e2 : (nowS t).size = (wasS t).size := by
              have := congrArg List.length e
              rw [Go.Lib.toList_data, Go.Lib.toList_data] at this
              rw [Array.length_toList, Array.length_toList] at this
              exact this
            rw [ew, strOfNums_size] at e2
            omega
          exact h0 (by_some hok fun s hs => ⟨was_len hsg hw s hs, now_len hsg hz' s hs⟩)
        rw [beq_eq_false_iff_ne.2 (by omega : ((byS t).length : Int) ≠ 0), beq_eq_false_iff_ne.2 (by omega : ((nowS t).size : Int) ≠ (t.length : Int))]
        rfl
      · refine ev_neg e (ev_s ?_)
        rw [beq_eq_false_iff_ne.2 (by omega : ((byS t).length : Int) ≠ 0)]
        rfl
  intro d
  induction d with
  | zero =>
    intro i h1 hi
    exact stop i (by omega)
  | succ d ih =>
    intro i h1 hi
    by_cases hlt : i < (byS t).length
    · refine ev_step (fun k => by rw [laws_FnTextBy.l1]) ?_
      rw [w64 (n := (i : Int) - 1) (by omega) (by omega), succ64 (n := (byS t).length) (by omega) (by omega)]
      refine ev_pos (by omega) (ev_pos (by omega) (ev_pos (by omega) (ev_pos (by omega) (ev_neg ?_ (ih (i + 1) (by omega) (by omega))))))
      have e : byS t = byL t := by unfold byS; rw [if_pos hok]
      rw [e] at hlt ⊢
      have := by_asc t i h1 hlt
      omega
    · exact stop i (by omega)
theorem by_l0 (t : List Sg) (ht : t.length ≤ 26) (hok : textB t = true) : ∀ (d i : Nat), i + d = t.length → Ev (fun k => laws_FnTextBy.l0 k t (byS t) (i : Int)) true := by
  have hb := byS_len t
  intro d
  induction d with
  | zero =>
    intro i hi
    refine ev_step (fun k => by rw [laws_FnTextBy.l0]) ?_
    refine ev_neg (by omega) ?_
    exact by_l1 t ht hok (byS t).length 1 (by omega) (by omega)
  | succ d ih =>
    intro i hi
    have hm : rd_T29 t (i : Int) ∈ t := by
      have e := drop_rd t i (by omega)
      have : rd_T29 t (i : Int) ∈ t.drop i := by rw [e]; exact List.mem_cons_self
      exact List.mem_of_mem_drop this
    obtain ⟨m1, m2⟩ := by_mem hok hm
    have nxt : Ev (fun k => laws_FnTextBy.j2 k t (byS t) (i : Int) false) true := by
      refine ev_step (fun k => by rw [laws_FnTextBy.j2]) ?_
      refine ev_neg (by decide) ?_
      rw [succ64 (n := t.length) (by omega) (by omega)]
      exact ih (i + 1) (by omega)
    refine ev_step (fun k => by rw [laws_FnTextBy.l0]) ?_
    refine ev_pos (by omega) (ev_pos (by omega) ?_)
    by_cases h1 : (rd_T29 t (i : Int)).f1 > 0
    · refine ev_pos h1 (ev_bind (lmIn_mem (m1 h1) (by omega)) (ev_pos rfl ?_))
      by_cases h2 : (rd_T29 t (i : Int)).f2 > 0
      · exact ev_pos h2 (ev_bind (lmIn_mem (m2 h2) (by omega)) nxt)
      · exact ev_neg h2 nxt
    · refine ev_neg h1 ?_
      by_cases h2 : (rd_T29 t (i : Int)).f2 > 0
      · exact ev_pos h2 (ev_bind (lmIn_mem (m2 h2) (by omega)) nxt)
      · exact ev_neg h2 nxt
theorem FnTextBy : laws_FnTextBy.Pure := by
  intro l0 _ _ hl
  suffices h : Ev (fun k => laws_FnTextBy.f k l0) true from h.rounds
  unfold laws_FnTextBy.f
  by_cases hc : (l0.length : Int) > 1048576
  · exact ev_pos hc (ev_s rfl)
  refine ev_neg hc ?_
  obtain ⟨t, e, ht⟩ := drawBy hl
  have hb := byS_len t
  refine ev_bind e (ev_bind (implBy t (by omega)) (ev_bind (specBy t) (ev_bind (lmInts_self _ (by omega)) (ev_pos rfl (ev_bind (specTextOk t) ?_)))))
  by_cases hok : textB t = true
  · rw [hok]
    refine ev_step (fun k => by rw [laws_FnTextBy.j0]) ?_
    refine ev_neg (by decide) ?_
    exact by_l0 t ht hok t.length 0 (by omega)
  · rw [Bool.not_eq_true] at hok
    rw [hok]
    refine ev_step (fun k => by rw [laws_FnTextBy.j0]) ?_
    exact ev_pos rfl (ev_bind (specBy t) (ev_bind (lmInts_self _ (by omega)) (ev_s rfl)))
end Go.Proofs.Ytcabipiblfohnaa.Pure
