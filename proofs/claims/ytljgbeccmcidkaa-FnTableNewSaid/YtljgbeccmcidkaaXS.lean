/- DERIVED: THE SHELF's CONTRACTS AT THIS DUMP, IN PLAIN WORDS (tools/lay-plain.mjs out of 'YtljgbeccmcidkaaShelf.lean', which tools/lay-shelf.mjs wrote): THE SAME DECLARATIONS UNDER THE SAME NAMES: 'import', 'namespace', 'open', 'def', 'theorem' AND NOTHING ELSE: no command of the shelf's: FOR A HAND-IN. Each laying: the table of numbers ('.._ren') and one theorem, a field a fact of the dump's own or the kernel's comparison; each contract: ONE APPLICATION. The sort of a table's cells: rows of cells as the library's sort speaks of them, and back. Conditions: no two cells begin at one square. slices.SortFunc at a table's cells, by impl.cellOrder: the cells in order; no other block is written. Conditions: at least one cell, fewer than 2^62; no two begin at one square. -/
import Derived.Shelf.SlSortCmp.WholeK
import Derived.Shelf.SlGeneric
import Derived.Ground.SlsfProg
import Derived.Test.YtljgbeccmcidkaaProg
import Derived.Test.YtljgbeccmcidkaaXB
import Derived.Test.YtljgbeccmcidkaaXE
import Derived.Shelf.SlSortCmp.KitK
import Derived.Test.YtljgbeccmcidkaaXA
namespace Go.Proofs
open Go.Shelf
def Try.sortCe_ren : Go.Shelf.Ren := ⟨fun | 6 => 65 | 15 => 70 | 14 => 69 | 28 => 79 | 29 => 80 | 20 => 71 | 21 => 72 | 22 => 73 | 23 => 74 | 24 => 75 | 25 => 76 | 26 => 77 | 27 => 78 | 46 => 81 | 47 => 82 | 48 => 83 | 49 => 84 | 50 => 85 | 57 => 86 | n => n, fun | 22 => 23 | 24 => 30 | 25 => 55 | 3 => 3 | 39 => 82 | 0 => 0 | 53 => 92 | 55 => 94 | 4 => 4 | 46 => 85 | 45 => 84 | 50 => 89 | 5 => 5 | 9 => 9 | 66 => 95 | 70 => 99 | 76 => 101 | 77 => 35 | n => n, fun | n => n⟩
theorem Try.sortCe : Go.Proofs.SlLaysF0.n6 Try.prog Try.sortCe_ren := {
  mixed := by kernel_rfl
  f6 := ⟨Try.f65.name, by decide, Try.func65.trans (congrArg some (by kernel_rfl))⟩
  f14 := ⟨Try.f69.name, by decide, Try.func69.trans (congrArg some (by kernel_rfl))⟩
  f15 := Try.func70.trans (congrArg some (by kernel_rfl))
  f20 := ⟨Try.f71.name, by decide, Try.func71.trans (congrArg some (by kernel_rfl))⟩
  f21 := ⟨Try.f72.name, by decide, Try.func72.trans (congrArg some (by kernel_rfl))⟩
  f22 := ⟨Try.f73.name, by decide, Try.func73.trans (congrArg some (by kernel_rfl))⟩
  f23 := ⟨Try.f74.name, by decide, Try.func74.trans (congrArg some (by kernel_rfl))⟩
  f24 := ⟨Try.f75.name, by decide, Try.func75.trans (congrArg some (by kernel_rfl))⟩
  f25 := ⟨Try.f76.name, by decide, Try.func76.trans (congrArg some (by kernel_rfl))⟩
  f26 := ⟨Try.f77.name, by decide, Try.func77.trans (congrArg some (by kernel_rfl))⟩
  f27 := ⟨Try.f78.name, by decide, Try.func78.trans (congrArg some (by kernel_rfl))⟩
  f28 := Try.func79.trans (congrArg some (by kernel_rfl))
  f29 := Try.func80.trans (congrArg some (by kernel_rfl))
  f46 := ⟨Try.f81.name, by decide, Try.func81.trans (congrArg some (by kernel_rfl))⟩
  f47 := Try.func82.trans (congrArg some (by kernel_rfl))
  f48 := Try.func83.trans (congrArg some (by kernel_rfl))
  f49 := ⟨Try.f84.name, by decide, Try.func84.trans (congrArg some (by kernel_rfl))⟩
  f50 := ⟨Try.f85.name, by decide, Try.func85.trans (congrArg some (by kernel_rfl))⟩
  f57 := ⟨Try.f86.name, by decide, Try.func86.trans (congrArg some (by kernel_rfl))⟩
  t0 := Try.underlying0
  a0 := Try.isAgg0
  z0 := Try.sizeOf0
  v0 := Try.zeroValue0
  t3 := Try.underlying3
  a3 := Try.isAgg3
  z3 := Try.sizeOf3
  v3 := Try.zeroValue3
  t4 := Try.underlying4
  a4 := Try.isAgg4
  z4 := Try.sizeOf4
  v4 := Try.zeroValue4
  t5 := Try.underlying5
  a5 := Try.isAgg5
  z5 := Try.sizeOf5
  v5 := Try.zeroValue5
  t9 := Try.underlying9
  a9 := Try.isAgg9
  z9 := Try.sizeOf9
  v9 := Try.zeroValue9
  t22 := Try.underlying23
  a22 := Try.isAgg23
  z22 := Try.sizeOf23
  v22 := Try.zeroValue23
  t25 := Try.underlying55
  a25 := Try.isAgg55
  z25 := Try.sizeOf55
  v25 := Try.zeroValue55
  t39 := Try.underlying82
  a39 := Try.isAgg82
  z39 := Try.sizeOf82
  v39 := Try.zeroValue82
  t45 := Try.underlying84
  a45 := Try.isAgg84
  z45 := Try.sizeOf84
  v45 := Try.zeroValue84
  t46 := Try.underlying85
  a46 := Try.isAgg85
  z46 := Try.sizeOf85
  v46 := Try.zeroValue85
  t50 := Try.underlying89
  a50 := Try.isAgg89
  z50 := Try.sizeOf89
  v50 := Try.zeroValue89
  t53 := Try.underlying92
  a53 := Try.isAgg92
  z53 := Try.sizeOf92
  v53 := Try.zeroValue92
  t55 := Try.underlying94
  a55 := Try.isAgg94
  z55 := Try.sizeOf94
  v55 := Try.zeroValue94
  t66 := Try.underlying95
  a66 := Try.isAgg95
  z66 := Try.sizeOf95
  v66 := Try.zeroValue95
  t70 := Try.underlying99
  a70 := Try.isAgg99
  z70 := Try.sizeOf99
  v70 := Try.zeroValue99
  t76 := Try.underlying101
  a76 := Try.isAgg101
  z76 := Try.sizeOf101
  v76 := Try.zeroValue101
  t77 := Try.underlying35
  a77 := Try.isAgg35
  z77 := Try.sizeOf35
  v77 := Try.zeroValue35 }
end Go.Proofs
namespace Go.Proofs.Ytljgbeccmcidkaa.P
open Go.RowKit Go.Sort Go.Proofs.YtljgbeccmcidkaaW.PrintWords Go.Proofs.YtljgbeccmcidkaaW.PrintLast Go.Proofs.YtljgbeccmcidkaaW.PrintMore
set_option linter.unusedVariables false
set_option linter.unusedSimpArgs false
/-- A cell, and where its text lies. -/
abbrev CV := S30 × (Option Addr × Nat)
def encV (x : CV) : List Value := [.int .i64 x.1.f0, .int .i64 x.1.f1, .int .i64 x.1.f2, .int .i64 x.1.f3, .slice x.2.1 x.1.f4.length x.2.2]
instance : Inhabited CV := ⟨(z30, none, 0)⟩
def cfV (x y : CV) : Int := Pure.ordI x.1 y.1
theorem ltV (x y : CV) : ltOf cfV x y = Pure.ltC x.1 y.1 := by
  rw [Pure.ordI_lt]; rfl
theorem swoV : SWO (ltOf cfV) where
  irrefl x := by rw [ltV]; exact Bool.eq_false_iff.2 (Pure.ltC_irrefl x.1)
  trans x y z h1 h2 := by rw [ltV] at *; exact Pure.ltC_trans h1 h2
  ntrans x y z h1 h2 := by
    rw [ltV, Bool.eq_false_iff, ne_eq, Pure.ltC_iff] at *; omega
theorem cmpV (blk off size : Nat) (w : World) : CmpLays Try.prog 43 #[] encV 5 cfV blk off size w := fun m os dk _ x y => by
  obtain ⟨k, hk⟩ := (Pure.order_ev x.1 y.1).rounds
  exact impl_cellOrder.grows k x.1.f0 x.1.f1 x.1.f2 x.1.f3 x.2.1 x.2.2 x.1.f4 y.1.f0 y.1.f1 y.1.f2 y.1.f3 y.2.1 y.2.2 y.1.f4 (cfV x y) _ hk
theorem list_for {α : Type} (P : Nat → α → Prop) : ∀ (n : Nat), (∀ i, i < n → ∃ x, P i x) → ∃ l : List α, l.length = n ∧ ∀ i x, l[i]? = some x → P i x
  | 0, _ => ⟨[], rfl, fun i x h => by simp at h⟩
  | n + 1, h => by
    obtain ⟨l, hl, hp⟩ := list_for P n (fun i hi => h i (by omega))
    obtain ⟨x, hx⟩ := h n (by omega)
    refine ⟨l ++ [x], by simp [hl], fun i y hy => ?_⟩
    by_cases hi : i < n
    · rw [List.getElem?_append_left (by omega)] at hy
      exact hp i y hy
    · have hlt := (List.getElem?_eq_some_iff.1 hy).1
      rw [List.length_append, List.length_singleton] at hlt
      have e : i = n := by omega
      subst e
      rw [← hl, List.getElem?_append_right (Nat.le_refl _), Nat.sub_self] at hy
      have : x = y := by simpa using hy
      subst this
      exact hx
theorem get_arr {α : Type} [Inhabited α] (l : List α) (i : Nat) (x : α) (h : l[i]? = some x) : l.toArray[i]! = x := by
  obtain ⟨hi, he⟩ := List.getElem?_eq_some_iff.1 h
  rw [getElem!_pos l.toArray i (by simpa using hi)]; simpa using he
theorem encV_len (x : CV) : (encV x).length = 5 := rfl
/-- The flat row's cell t. -/
theorem flat_at (d : Array CV) (t : Nat) (h : t < d.size * 5) : (encV d[t / 5]!)[t % 5]? = some (flatK encV 5 d)[t]! := by
  rw [get_flatK encV 5 d t h]
  have : t % 5 < (encV d[t / 5]!).length := by rw [encV_len]; omega
  rw [List.getElem?_eq_getElem this]
  exact congrArg some (getElem!_pos (encV d[t / 5]!) (t % 5) this).symm
/-- What lies in element j of a list cut to fives. -/
theorem chunk_at (inner : List Value) (j i : Nat) (hi : i < 5) : ((inner.drop (j * 5)).take 5)[i]? = inner[j * 5 + i]? := by
  rw [List.getElem?_take, if_pos hi, List.getElem?_drop]

theorem sort_holds {base : Nat} {ok : Nat → Prop} {g cap : Nat} {x : List S30} {w : World} (ho : Kd.S k30 30 w base ok (.slice (some ⟨g, 0, none⟩) x.length cap) x) :
    ∃ d : Array CV, d.size = x.length ∧ d.toList.map Prod.fst = x ∧ HoldsK encV 5 w g 0 d ∧ g < w.heap.size ∧ ok g ∧
      (∀ (w' : World) (d' : Array CV) (cur' : Array Value) (cur : Array Value), w.heap[g]? = some (.cells cur 30 (0, 0)) → w'.heap[g]? = some (.cells cur' 30 (0, 0)) → cur'.size = cur.size → (∀ t, t < x.length * 5 → cur'[t]? = some (flatK encV 5 d')[t]!) → d'.toList.Perm d.toList → Pure.Apart x → w.grownBy w' (some g) → Kd.S k30 30 w' base ok (.slice (some ⟨g, 0, none⟩) x.length cap) (d'.toList.map Prod.fst)) ∧
      ∃ cur, w.heap[g]? = some (.cells cur 30 (0, 0)) := by
  obtain ⟨f, h0, inner, hown, hrep⟩ := ho
  rw [List.length_zipIdx] at hown
  obtain ⟨hin, hcase⟩ := hown
  rcases hcase with ⟨hv, _⟩ | ⟨g', cap', cur, hv, hg, hh, hnc, hcm, hcs, hcur⟩
  · cases hv
  injection hv with ha _ hcap
  injection ha with ha
  injection ha with hgg
  subst hgg hcap
  have hokg : ok g := h0 g (by simp [Value.ownBlock])
  have hgo : ∀ k, some k ≠ (Value.slice (some ⟨g, 0, none⟩) x.length cap).ownBlock → k ≠ g := fun k hk he => hk (by rw [he]; simp [Value.ownBlock])
  have hel : ∀ i, i < x.length → ∃ q : CV, x[i]? = some q.1 ∧ encV q = (inner.drop (i * 5)).take 5 ∧ k30.M w base (fun k => (ok k ∧ some k ≠ (Value.slice (some ⟨g, 0, none⟩) x.length cap).ownBlock) ∧ f k = i) q.1 (encV q) := by
    intro i hi
    have hM : k30.M w base (fun k => (ok k ∧ some k ≠ (Value.slice (some ⟨g, 0, none⟩) x.length cap).ownBlock) ∧ f k = i) x[i] ((inner.drop (i * 5)).take 5) := hrep.2 i (x[i], i) (Kd.zip_at (List.getElem?_eq_getElem hi))
    obtain ⟨v4, hc, hR⟩ := k30_openM hM
    obtain ⟨A, c, hv4⟩ := Kd.R_slice hR
    subst hv4
    refine ⟨(x[i], A, c), List.getElem?_eq_getElem hi, hc.symm, ?_⟩
    rw [hc] at hM
    exact hM
  obtain ⟨l, hl, hp⟩ := list_for (fun i (q : CV) => x[i]? = some q.1 ∧ encV q = (inner.drop (i * 5)).take 5 ∧ k30.M w base (fun k => (ok k ∧ some k ≠ (Value.slice (some ⟨g, 0, none⟩) x.length cap).ownBlock) ∧ f k = i) q.1 (encV q)) x.length hel
  have hfst : l.map Prod.fst = x := by
    apply List.ext_getElem?
    intro i
    rw [List.getElem?_map]
    by_cases hi : i < x.length
    · have hil : i < l.length := by omega
      have := (hp i l[i] (List.getElem?_eq_getElem hil)).1
      rw [List.getElem?_eq_getElem hil, this]; rfl
    · rw [List.getElem?_eq_none (by omega), List.getElem?_eq_none (by omega)]; rfl
  refine ⟨l.toArray, by simpa using hl, by simpa using hfst, ?_, blk_lt hh, hokg, ?_, cur, hh⟩
  · intro t ht
    have ht' : t < x.length * 5 := by simpa [hl] using ht
    have hj : t / 5 < l.length := by omega
    have hq := (hp (t / 5) l[t / 5] (List.getElem?_eq_getElem hj)).2.1
    have hfl := flat_at l.toArray t (by simpa [hl] using ht')
    rw [get_arr l (t / 5) _ (List.getElem?_eq_getElem hj), hq, chunk_at _ _ _ (Nat.mod_lt _ (by decide)), Nat.div_add_mod' t 5] at hfl
    refine ⟨?_, blk_frozen hh _⟩
    rw [Nat.zero_add, blk_cell hh t]
    have hc2 : inner[t]? = cur.toList[t]? := by rw [← hcur, List.getElem?_take]; exact if_pos ht'
    rw [← Array.getElem?_toList, ← hc2, hfl]; rfl
  · intro w' d' cur' cur0 hh0 hh' hsz hfl hperm hap hgr
    rw [hh] at hh0
    injection hh0 with hh0
    injection hh0 with hh0
    subst hh0
    have hpl : d'.toList.length = l.length := by simpa using hperm.length_eq
    -- where each came from
    have hold : ∀ j, j < x.length → ∃ i, ∃ q : CV, i < x.length ∧ l[i]? = some q ∧ d'.toList[j]? = some q := by
      intro j hj
      have hj' : j < d'.toList.length := by omega
      have hm : d'.toList[j] ∈ l := by
        have := hperm.subset (List.getElem_mem hj')
        simpa using this
      obtain ⟨i, hi, he⟩ := List.getElem_of_mem hm
      exact ⟨i, d'.toList[j], by omega, by rw [List.getElem?_eq_getElem hi, he], List.getElem?_eq_getElem hj'⟩
    have hnd : ∀ (j1 j2 : Nat) (q : CV), d'.toList[j1]? = some q → d'.toList[j2]? = some q → j1 = j2 := by
      have hap' : Pure.Apart (d'.toList.map Prod.fst) := hap.perm (by
        have := (hperm.map Prod.fst).symm
        simpa [hfst] using this)
      have key : ∀ (j1 j2 : Nat) (q : CV), j1 < j2 → d'.toList[j1]? = some q → d'.toList[j2]? = some q → False := by
        intro j1 j2 q hlt h1 h2
        have g1 : (d'.toList.map Prod.fst)[j1]? = some q.1 := by rw [List.getElem?_map, h1]; rfl
        have g2 : (d'.toList.map Prod.fst)[j2]? = some q.1 := by rw [List.getElem?_map, h2]; rfl
        obtain ⟨b1, e1⟩ := List.getElem?_eq_some_iff.1 g1
        obtain ⟨b2, e2⟩ := List.getElem?_eq_some_iff.1 g2
        have := List.pairwise_iff_getElem.1 hap' j1 j2 b1 b2 hlt
        rw [e1, e2] at this
        exact this.elim (Pure.ltC_irrefl _) (Pure.ltC_irrefl _)
      intro j1 j2 q h1 h2
      rcases Nat.lt_trichotomy j1 j2 with h | h | h
      · exact (key j1 j2 q h h1 h2).elim
      · exact h
      · exact (key j2 j1 q h h2 h1).elim
    obtain ⟨om, hom, hop⟩ := list_for (fun j i => ∃ q : CV, i < x.length ∧ l[i]? = some q ∧ d'.toList[j]? = some q) x.length hold
    have hinj : ∀ (j1 j2 i : Nat), om[j1]? = some i → om[j2]? = some i → j1 = j2 := by
      intro j1 j2 i h1 h2
      obtain ⟨q1, _, a1, b1⟩ := hop j1 i h1
      obtain ⟨q2, _, a2, b2⟩ := hop j2 i h2
      rw [a1] at a2
      injection a2 with a2
      subst a2
      exact hnd j1 j2 q1 b1 b2
    have hds : d'.size = x.length := by rw [← Array.length_toList, hpl, hl]
    have P1 : (flatK encV 5 d').toList.length = x.length * 5 := by simp [hds]
    have hzl : (d'.toList.map Prod.fst).zipIdx.length = x.length := by simp [hds]
    have P2 : cur'.toList.take (x.length * 5) = (flatK encV 5 d').toList := by
      apply List.ext_getElem?
      intro t
      rw [List.getElem?_take]
      by_cases ht : t < x.length * 5
      · rw [if_pos ht, Array.getElem?_toList, hfl t ht, Array.getElem?_toList]
        have : t < (flatK encV 5 d').size := by rw [size_flatK, hds]; exact ht
        rw [Array.getElem?_eq_getElem this, getElem!_pos (flatK encV 5 d') t this]
      · rw [if_neg ht, List.getElem?_eq_none (by rw [P1]; omega)]
    have hF : ∃ F : Nat → Nat, ∀ (i j : Nat), om[j]? = some i → F i = j := by
      have h1 : ∀ i : Nat, ∃ z : Nat, ∀ j : Nat, om[j]? = some i → z = j := fun i => by
        by_cases h : ∃ j : Nat, om[j]? = some i
        · obtain ⟨j0, h0⟩ := h
          exact ⟨j0, fun j hj => hinj _ _ _ h0 hj⟩
        · exact ⟨0, fun j hj => absurd ⟨j, hj⟩ h⟩
      exact ⟨fun i => Classical.choose (h1 i), fun i j hj => Classical.choose_spec (h1 i) j hj⟩
    obtain ⟨F, hF⟩ := hF
    refine ⟨fun k => F (f k), fun k hk => h0 k hk, (flatK encV 5 d').toList, ?_, ?_, ?_⟩
    · show w'.ownsRow base 30 5 (.slice (some ⟨g, 0, none⟩) x.length cap) (d'.toList.map Prod.fst).zipIdx.length _
      rw [hzl]
      exact ⟨P1, .inr ⟨g, cap, cur', rfl, hg, hh', hnc, hcm, hsz.trans hcs, P2⟩⟩
    · show _ = (d'.toList.map Prod.fst).zipIdx.length * 5
      rw [hzl]; exact P1
    · intro j p hj
      rw [List.getElem?_zipIdx, Nat.zero_add, List.getElem?_map] at hj
      obtain ⟨c, hc, rfl⟩ := Option.map_eq_some_iff.1 hj
      obtain ⟨q, hq, rfl⟩ := Option.map_eq_some_iff.1 hc
      have hjl : j < x.length := by
        have := (List.getElem?_eq_some_iff.1 hq).1
        omega
      have hjo : j < om.length := by omega
      obtain ⟨q', hi, e1, e2⟩ := hop j om[j] (List.getElem?_eq_getElem hjo)
      rw [hq] at e2
      injection e2 with e2
      subst e2
      have hM := (hp om[j] q e1).2.2
      have hch : ((flatK encV 5 d').toList.drop (j * 5)).take 5 = encV q := by
        apply List.ext_getElem?
        intro i
        by_cases hi5 : i < 5
        · rw [chunk_at _ _ _ hi5, Array.getElem?_toList]
          have hlt : j * 5 + i < d'.size * 5 := by
            have : d'.size = x.length := by rw [← Array.length_toList, hpl, hl]
            omega
          have := flat_at d' (j * 5 + i) hlt
          rw [show (j * 5 + i) / 5 = j by omega, show (j * 5 + i) % 5 = i by omega] at this
          have hdj : d'[j]! = q := by
            have := get_arr d'.toList j q hq
            simpa using this
          rw [hdj] at this
          have hls : j * 5 + i < (flatK encV 5 d').size := by rw [size_flatK]; exact hlt
          rw [this, Array.getElem?_eq_getElem hls, getElem!_pos (flatK encV 5 d') _ hls]
        · rw [List.getElem?_eq_none (by simp; omega), List.getElem?_eq_none (by rw [encV_len]; omega)]
      show k30.M w' base _ q.1 (((flatK encV 5 d').toList.drop (j * 5)).take 5)
      rw [hch]
      refine Kd.M_step (k30.M_mono (fun k hk => ⟨⟨hk.1.1, hk.1.2⟩, ?_⟩) hM) (fun k hk hlt => hgr.block k hlt (fun he => hgo k hk.1.2 (by injection he)))
      refine hF (f k) j ?_
      rw [hk.2]
      exact List.getElem?_eq_getElem hjo
end Go.Proofs.Ytljgbeccmcidkaa.P
namespace Go.Proofs.Ytljgbeccmcidkaa.P
open Go.RowKit Go.Sort Go.Proofs.YtljgbeccmcidkaaW.PrintWords Go.Proofs.YtljgbeccmcidkaaW.PrintLast Go.Proofs.YtljgbeccmcidkaaW.PrintMore
set_option linter.unusedVariables false
set_option linter.unusedSimpArgs false
theorem sortW_heap (w : World) (g n : Nat) (d' : Array CV) (os : Array Obj) (cur : Array Value) (hg : g < w.heap.size) (hc : w.heap[g]? = some (.cells cur 30 (0, 0))) :
    (sortWorldK encV 5 w g 0 n d' os).heap[g]? = some (.cells (putCells id 0 (flatK encV 5 d') cur) 30 (0, 0)) := by
  unfold sortWorldK putRowK putRow
  rw [heap_grow_old _ _ (by simpa [mapBlock, ahead] using hg)]
  simp [mapBlock, ahead, Array.getElem?_modify, hc, onCells]
theorem sortW_grown (w : World) (g n : Nat) (d' : Array CV) (os : Array Obj) : w.grownBy (sortWorldK encV 5 w g 0 n d' os) (some g) where
  os := rfl
  tape := rfl
  output := rfl
  size := by unfold sortWorldK putRowK putRow; simp [mapBlock, ahead]
  block := fun k hk hne => by
    unfold sortWorldK putRowK putRow
    rw [heap_grow_old _ _ (by simpa [mapBlock, ahead] using hk)]
    simp only [mapBlock, ahead, Array.getElem?_modify]
    rw [if_neg (fun h => hne (by rw [h]))]
    rfl
theorem put_at (F cur : Array Value) (t : Nat) (h : t < F.size) (h2 : F.size ≤ cur.size) : (putCells id 0 F cur)[t]? = some F[t]! := by
  unfold putCells
  rw [Array.getElem?_mapIdx, Array.getElem?_eq_getElem (by omega)]
  simp [h]
theorem sort_calls {base : Nat} {ok : Nat → Prop} (u : Value) (x : List S30) (w : World) (ho : Kd.S k30 30 w base ok u x) (hpos : 0 < x.length) (hsz : x.length < 4611686018427387904) (hap : Pure.Apart x) :
    Calls Try.prog 65 #[u, .func (.func 43) #[] #[]] w fun e w' => e = .returned (.tuple #[]) ∧ Kd.S k30 30 w' base ok u (Pure.sortC x) ∧ w.grownBy w' u.ownBlock := by
  obtain ⟨g, cap, hu, _⟩ := Kd.S_form ho hpos
  subst hu
  obtain ⟨d, hd, hdx, hH, hg, _, back, cur, hcur⟩ := sort_holds ho
  have hfit : x.length * 5 ≤ cur.size := by
    obtain ⟨f, h0, inner, hown, hrep⟩ := ho
    rw [List.length_zipIdx] at hown
    obtain ⟨hin, hcase⟩ := hown
    rcases hcase with ⟨hv, _⟩ | ⟨g', cap', cur', hv, _, hh, hnc, hcm, hcs, _⟩
    · cases hv
    injection hv with ha _ hcap
    injection ha with ha
    injection ha with hgg
    subst hgg hcap
    rw [hcur] at hh
    injection hh with hh
    injection hh with hh
    subst hh
    rw [hcs]
    exact Nat.mul_le_mul_right 5 hnc
  have eg : ∀ args w, (callFunc 43 args).run Try.prog w = .ok (.enter 43 args) w := enters_of Try.func43 (by kernel_rfl) rfl
  have hcon := AnyQ.slices_SortFunc Try.sortCe 5 Try.isAgg30 Try.sizeOf30 encV (fun _ => rfl) (fun y v hv => by simp [encV] at hv; rcases hv with rfl | rfl | rfl | rfl | rfl <;> rfl) cfV swoV 43 #[] g 0 cap d w eg (cmpV g 0 d.size w) hH hg (by omega)
  change Calls Try.prog 65 _ _ _ at hcon
  rw [hd] at hcon
  refine hcon.mono ?_
  rintro e w' ⟨rfl, d', n, os, hp, hs, rfl⟩
  have hgr := sortW_grown w g n d' os
  obtain ⟨hps, _, hpp⟩ := hp
  have hperm : d'.toList.Perm d.toList := by
    rw [← hd] at hpp
    have e1 : d'.extract 0 d.size = d' := by rw [← hps]; simp
    have e2 : d.extract 0 d.size = d := by simp
    rwa [e1, e2] at hpp
  have hF : (flatK encV 5 d').size = x.length * 5 := by rw [size_flatK, hps, hd]
  have hS := back _ d' (putCells id 0 (flatK encV 5 d') cur) cur hcur (sortW_heap w g n d' os cur hg hcur) (by simp [putCells]) (fun t ht => put_at _ _ t (by omega) (by omega)) hperm hap hgr
  have hpx : (d'.toList.map Prod.fst).Perm x := by
    have := hperm.map Prod.fst
    rwa [hdx] at this
  have hup : Pure.Up (d'.toList.map Prod.fst) := by
    have ha := hap.perm hpx.symm
    refine List.pairwise_iff_getElem.2 (fun i j hi hj hij => ?_)
    have h1 := List.pairwise_iff_getElem.1 ha i j hi hj hij
    have hi' : i < d'.size := by simpa using hi
    have hj' : j < d'.size := by simpa using hj
    have h2 := hs i j (Nat.zero_le _) hij (by omega)
    rw [ltV, getElem!_pos d' i hi', getElem!_pos d' j hj'] at h2
    rw [List.getElem_map, List.getElem_map, Array.getElem_toList, Array.getElem_toList] at h1 ⊢
    rcases h1 with h1 | h1
    · exact h1
    · rw [h1] at h2; cases h2
  rw [Pure.sort_eq hup hpx] at hS
  exact ⟨rfl, hS, by simpa [Value.ownBlock] using hgr⟩
end Go.Proofs.Ytljgbeccmcidkaa.P
namespace Go.Proofs.Ytljgbeccmcidkaa.P
open Go.RowKit Go.Proofs.YtljgbeccmcidkaaW.PrintWords Go.Proofs.YtljgbeccmcidkaaW.PrintLast Go.Proofs.YtljgbeccmcidkaaW.PrintMore
attribute [local go_sem] max2_int min2_int max_two min_two max_three min_three max_four min_four   -- for this text's walks alone
set_option linter.unusedVariables false
set_option linter.unusedSimpArgs false

attribute [local go_sem ↓] isSome_setCell
theorem below_grown_ {w0 W W2 : World} {row : Option Nat} (hg : W.grownBy W2 row) (h : Below w0.heap.size w0 W) (hr : ∀ k, row = some k → w0.heap.size ≤ k) : Below w0.heap.size w0 W2 := h.grown hg h.size hr
/-! ### impl_Table_blank: function 48 -/
mutual
def impl_Table_blank.l0 : Nat → Int → Int → Int → Int → List (S30) → Option (Int × Int × (List (S30)))
  | 0, _, _, _, _, _ => none
  | k + 1, x6, x7, x115000, x115001, x115002 => if x7 < x6 then (impl_Table_blank.l1 k x7 x6 x7 x115001 0 x115000 x115001 x115002) else (some (x115000, x115001, x115002))
def impl_Table_blank.l1 : Nat → Int → Int → Int → Int → Int → Int → Int → List (S30) → Option (Int × Int × (List (S30)))
  | 0, _, _, _, _, _, _, _, _ => none
  | k + 1, x3, x6, x7, x11, x12, x115000, x115001, x115002 => if x12 < x11 then ((impl_Table_at.f x115000 x115001 x115002 x3 x12).bind fun t116 => (if t116 < 0 then (if x115002.length < 2513169434916 then (impl_Table_blank.l1 k x3 x6 x7 x11 (wrap64 (x12 + 1)) x115000 x115001 (x115002 ++ [(⟨x3, x12, 1, 1, (([] : List (S61)))⟩ : S30)])) else (none)) else (impl_Table_blank.l1 k x3 x6 x7 x11 (wrap64 (x12 + 1)) x115000 x115001 x115002))) else (impl_Table_blank.l0 k x6 (wrap64 (x7 + 1)) x115000 x115001 x115002)
end
def impl_Table_blank.f (k : Nat) (a0 : Int) (a1 : Int) (l0 : List (S30)) : Option (Int × Int × (List (S30))) := (impl_Table_blank.l0 k a0 0 a0 a1 l0).bind fun t => if 0 < t.2.2.length then (if t.2.2.length < 4611686018427387904 then (if Pure.apartB t.2.2 = true then some (t.1, t.2.1, Pure.sortC t.2.2) else none) else none) else none
theorem impl_Table_blank.mono_l : ∀ k, (∀ y0 y1 y2 y3 y4, LeO (impl_Table_blank.l0 k y0 y1 y2 y3 y4) (impl_Table_blank.l0 (k + 1) y0 y1 y2 y3 y4)) ∧ (∀ y0 y1 y2 y3 y4 y5 y6 y7, LeO (impl_Table_blank.l1 k y0 y1 y2 y3 y4 y5 y6 y7) (impl_Table_blank.l1 (k + 1) y0 y1 y2 y3 y4 y5 y6 y7))
  | 0 => by refine ⟨?_, ?_⟩ <;> intros <;> intro r h <;> simp [impl_Table_blank.l0, impl_Table_blank.l1] at h
  | k + 1 => by
    obtain ⟨ih0, ih1⟩ := impl_Table_blank.mono_l k
    refine ⟨?_, ?_⟩ <;> intros <;> (first | unfold impl_Table_blank.l0 | unfold impl_Table_blank.l1) <;> with_reducible repeat' first | exact ih0 _ _ _ _ _ | exact ih1 _ _ _ _ _ _ _ _ | exact LeO.refl _ | exact LeO.none _ | refine LeO.ite ?_ ?_ | refine LeO.bind ?_ (fun _ => ?_)
theorem impl_Table_blank.mono : ∀ a0 a1 a2 k, LeO (impl_Table_blank.f k a0 a1 a2) (impl_Table_blank.f (k + 1) a0 a1 a2) := by
  intro a0 a1 a2 k
  obtain ⟨ih0, ih1⟩ := impl_Table_blank.mono_l k
  unfold impl_Table_blank.f
  with_reducible repeat' first | exact ih0 _ _ _ _ _ | exact ih1 _ _ _ _ _ _ _ _ | exact LeO.refl _ | exact LeO.none _ | refine LeO.ite ?_ ?_ | refine LeO.bind ?_ (fun _ => ?_)
theorem impl_Table_blank.zHB {p : Prop} (h : p := by repeat (first | (with_reducible first | exact HB.out | apply below_alloc | apply pw_below_drewN | apply below_drew1 | refine below_set ?_ GE114.out | refine below_set ?_ GE115.out) | exact HB.out)) : p := h
theorem impl_Table_blank.zK {p : Prop} (h : p := by repeat' first | (with_reducible first | exact BK114.out | exact BK115.out | apply blk_drewN | apply blk_drew | apply blk_alloc | apply blk_far (hp := NB115_114.out) | apply blk_putE) | exact (rfl : List.set _ _ _ = _)) : p := h
theorem impl_Table_blank.z0 {p : Prop} (h : p := by (with_reducible repeat (first | apply Kd.S_alloc | apply Kd.S_drewN | apply Kd.S_drew)); exact HO_115002.out) : p := h
theorem impl_Table_blank.z1 {p : Prop} (h : p := by first | rfl | (simp; done) | (simp [*]; done)) : p := h
theorem impl_Table_blank.z2 {p : Prop} (h : p := by (try simp only [List.map_toArray, List.map_cons, List.map_nil]); first | done | rfl | (simp only [List.length_drop, List.length_take]; rfl)) : p := h
theorem impl_Table_blank.z3 {p : Prop} (h : p := by rw [hg]; exact (below_size (zHB))) : p := h
theorem impl_Table_blank.z4 {p : Prop} (h : p := by have := HK1.out; have := HK2.out; omega) : p := h
theorem impl_Table_blank.zKp {p : Prop} (h : p := by repeat (first | exact HKp.out | refine Kept.setCell ?_ (.inr GW114.out) _ | refine Kept.setCell ?_ (.inr GW115.out) _ | apply Kept.drew | apply Kept.drewN | apply Kept.alloc)) : p := h
set_option maxHeartbeats 8000000 in
set_option maxRecDepth 100000 in
theorem impl_Table_blank.calls (k : Nat) (a0 : Int) (a1 : Int) (Au_ : Option Addr) (cu_ : Nat) (l0 : List (S30)) (r1 : Int) (r2 : Int) (r3 : List (S30)) (w0 w : World) (hB : Below w0.heap.size w0 w) (ho0 : Kd.S k30 30 w w0.heap.size (fun _ => True) (Value.slice Au_ l0.length cu_) l0) (h : impl_Table_blank.f k a0 a1 l0 = some (r1, r2, r3)) :
    Calls Try.prog 48 #[.agg #[.int .i64 a0, .int .i64 a1, (Value.slice Au_ l0.length cu_)]] w fun e w' => ∃ v2_ : Value, e = .returned (.agg #[.int .i64 r1, .int .i64 r2, v2_]) ∧ Kd.S k30 30 w' w0.heap.size (fun _ => True) v2_ r3 ∧ Below w0.heap.size w0 w' ∧ Kept w w' (fun k_ => some k_ = (Value.slice Au_ l0.length cu_).ownBlock) := by
 have hu25 := Try.underlying25
 have hu30 := Try.underlying30
 have HB := Aside0.mk hB
 have HO_115002 := Aside0.mk ho0
 have HKp := Aside0.mk (Kept.refl w (fun k_ => some k_ = (Value.slice Au_ l0.length cu_).ownBlock))
 clear hB ho0
 unfold impl_Table_blank.f at h
 obtain ⟨⟨rA, rB, rl⟩, H, h⟩ := Option.bind_eq_some_iff.mp h
 dsimp only at h
 by_cases q1 : 0 < rl.length
 rotate_left
 · rw [if_neg q1] at h; cases h
 rw [if_pos q1] at h
 by_cases q2 : rl.length < 4611686018427387904
 rotate_left
 · rw [if_neg q2] at h; cases h
 rw [if_pos q2] at h
 by_cases q3 : Pure.apartB rl = true
 rotate_left
 · rw [if_neg q3] at h; cases h
 rw [if_pos q3] at h
 simp only [Option.some.injEq, Prod.mk.injEq] at h
 obtain ⟨rfl, rfl, rfl⟩ := h
 have HL1 := Aside0.mk q1
 have HL2 := Aside0.mk q2
 have HL3 := Aside0.mk ((Pure.apartB_iff rl).1 q3)
 clear q1 q2 q3
 have H' := Aside0.mk H
 clear H
 go_enter Try.func48, Try.ntmps48
 go_wp2_with (first | ((with_reducible refine gate_dst (N := 1) rfl ?_); refine box_event ?hg (N := 1) ?hd (cs := #[.int .i64 a0, .int .i64 a1, (Value.slice Au_ l0.length cu_)]) (t := 25) ?hr ?_; (case hd => rfl); (case hg => rfl); (case hr => first | (go_simp; done) | (go_simp; rfl)); intro gb114 hg w3 hbox hb; have BK114 := Aside0.mk (hbox); have GW114 := Aside0.mk ((by rw [hg]; exact HKp.out.1 : w.heap.size ≤ gb114)); have GE114 := Aside0.mk ((z3 : w0.heap.size ≤ gb114)); replace HB := Aside0.mk (below_step (zHB) hb); replace HO_115002 := Aside0.mk (Kd.S_below HO_115002.out hb); replace HKp := Aside0.mk (Kept.below HKp.out hb); clear hb hbox hg) | ((with_reducible refine gate_dst (N := 2) rfl ?_); refine box_event ?hg (N := 2) ?hd (cs := #[.int .i64 0, .int .i64 0, .slice none 0 0]) (t := 25) ?hr ?_; (case hd => rfl); (case hg => rfl); (case hr => first | (go_simp; done) | (go_simp; rfl)); intro gb115 hg w5 hbox hb; have BK115 := Aside0.mk (hbox); have GW115 := Aside0.mk ((by rw [hg]; exact HKp.out.1 : w.heap.size ≤ gb115)); have GE115 := Aside0.mk ((z3 : w0.heap.size ≤ gb115)); replace HB := Aside0.mk (below_step (zHB) hb); have NB114_115 := Aside0.mk ((by rw [hg]; exact Nat.ne_of_lt (blk_lt (g := gb114) (o := .cells #[.int .i64 a0, .int .i64 a1, (Value.slice Au_ l0.length cu_)] 25 (0, 0)) (zK)) : gb114 ≠ gb115)); have NB115_114 := Aside0.mk ((by rw [hg]; exact Nat.ne_of_gt (blk_lt (g := gb114) (o := .cells #[.int .i64 a0, .int .i64 a1, (Value.slice Au_ l0.length cu_)] 25 (0, 0)) (zK)) : gb115 ≠ gb114)); replace BK114 := Aside0.mk (blk_below (g := gb114) (o := .cells #[.int .i64 a0, .int .i64 a1, (Value.slice Au_ l0.length cu_)] 25 (0, 0)) (zK) hb); replace HO_115002 := Aside0.mk (Kd.S_below HO_115002.out hb); replace HKp := Aside0.mk (Kept.below HKp.out hb); clear hb hbox hg; have hnb6 := NB114_115.out; have hnc6 := NB115_114.out; obtain ⟨hcz7_0, hcz7_1, hcz7_2, hfz7_0, hfz7_1, hfz7_2⟩ := cells3 BK114.out))
 go_loopg [7] k (fun kq v7 w' => ∃ (x7_1 : Int) (x115002_1 : List (S30)) (u115002 : Value), v7 = .int .i64 x7_1 ∧ Aside0 (impl_Table_blank.l0 kq a0 x7_1 a0 a1 x115002_1 = some (rA, rB, rl)) ∧ Aside0 (kq ≤ k) ∧ Aside0 (Kd.S k30 30 w' w0.heap.size (fun _ => True) u115002 x115002_1) ∧ Aside0 (w'.heap[gb114]? = some (.cells #[.int .i64 a0, .int .i64 a1, u115002] 25 (0, 0))) ∧ Aside0 (w'.heap[gb115]? = some (.cells #[.int .i64 0, .int .i64 0, (.slice none 0 0)] 25 (0, 0))) ∧ Aside0 (Below w0.heap.size w0 w') ∧ Aside0 (Kept w w' (fun k_ => some k_ = (Value.slice Au_ l0.length cu_).ownBlock)) ∧ Aside0 (∀ k_, u115002.ownBlock = some k_ → some k_ = (Value.slice Au_ l0.length cu_).ownBlock ∨ w.heap.size ≤ k_))
 case atStart => exact ⟨(0), l0, (Value.slice Au_ l0.length cu_), (z1), H', ⟨Nat.le_refl _⟩, ⟨HO_115002.out⟩, ⟨zK⟩, ⟨zK⟩, ⟨zHB⟩, ⟨zKp⟩, ⟨fun k_ h_ => .inl h_.symm⟩⟩
 clear H'
 (try clear hcz4_0); (try clear hcz4_1); (try clear hcz4_2); (try clear hcz7_0); (try clear hcz7_1); (try clear hcz7_2); (try clear hfz4_0); (try clear hfz4_1); (try clear hfz4_2); (try clear hfz7_0); (try clear hfz7_1); (try clear hfz7_2)
 obtain ⟨x7_1, x115002_1, u115002, rfl, HA, HK1, HO_115002, BK114, BK115, HB, HKp, HOw⟩ := hrel
 cases gk with
 | zero => exact absurd HA.out (by simp [impl_Table_blank.l0])
 | succ k1 =>
  have H := HA.out
  clear HA
  simp only [impl_Table_blank.l0] at H
  by_cases c8 : x7_1 < a0
  · rw [if_pos c8] at H
    have c8b0 := decide_eq_true c8
    clear c8
    have H' := Aside0.mk H
    clear H
    have hnb9 := NB114_115.out
    have hnc9 := NB115_114.out
    obtain ⟨hcz10_0, hcz10_1, hcz10_2, hfz10_0, hfz10_1, hfz10_2⟩ := cells3 BK114.out
    go_wp2
    go_loopg [12] k1 (fun kq v12 w' => ∃ (x12_2 : Int) (x115002_2 : List (S30)) (u115002 : Value), v12 = .int .i64 x12_2 ∧ Aside0 (impl_Table_blank.l1 kq x7_1 a0 x7_1 a1 x12_2 a0 a1 x115002_2 = some (rA, rB, rl)) ∧ Aside0 (kq ≤ k1) ∧ Aside0 (Kd.S k30 30 w' w0.heap.size (fun _ => True) u115002 x115002_2) ∧ Aside0 (w'.heap[gb114]? = some (.cells #[.int .i64 a0, .int .i64 a1, u115002] 25 (0, 0))) ∧ Aside0 (w'.heap[gb115]? = some (.cells #[.int .i64 0, .int .i64 0, (.slice none 0 0)] 25 (0, 0))) ∧ Aside0 (Below w0.heap.size w0 w') ∧ Aside0 (Kept w w' (fun k_ => some k_ = (Value.slice Au_ l0.length cu_).ownBlock)) ∧ Aside0 (∀ k_, u115002.ownBlock = some k_ → some k_ = (Value.slice Au_ l0.length cu_).ownBlock ∨ w.heap.size ≤ k_))
    case atStart => exact ⟨(0), (x115002_1), (u115002), (z1), H', ⟨Nat.le_refl _⟩, ⟨z0⟩, ⟨zK⟩, ⟨zK⟩, ⟨zHB⟩, ⟨zKp⟩, ⟨HOw.out⟩⟩
    clear H'
    (try clear c8); (try clear c8b0); (try clear hcz10_0); (try clear hcz10_1); (try clear hcz10_2); (try clear hcz4_0); (try clear hcz4_1); (try clear hcz4_2); (try clear hcz7_0); (try clear hcz7_1); (try clear hcz7_2); (try clear hfz10_0); (try clear hfz10_1); (try clear hfz10_2); (try clear hfz4_0); (try clear hfz4_1); (try clear hfz4_2); (try clear hfz7_0); (try clear hfz7_1); (try clear hfz7_2)
    obtain ⟨x12_2, x115002_2, u115002, rfl, HA, HK2, HO_115002, BK114, BK115, HB, HKp, HOw⟩ := hrel
    cases gk with
    | zero => exact absurd HA.out (by simp [impl_Table_blank.l1])
    | succ k2 =>
     have H := HA.out
     clear HA
     simp only [impl_Table_blank.l1] at H
     by_cases c11 : x12_2 < a1
     · rw [if_pos c11] at H
       have c11b0 := decide_eq_true c11
       clear c11
       obtain ⟨t116, A12, H⟩ := bnd H
       by_cases c13 : t116 < 0
       · rw [if_pos c13] at H
         have c13b0 := decide_eq_true c13
         clear c13
         obtain ⟨y117, hy117⟩ : ∃ y_ : List (S61), y_ = (([] : List (S61))) := ⟨_, rfl⟩
         replace H : (if x115002_2.length < 2513169434916 then (impl_Table_blank.l1 k2 x7_1 a0 x7_1 a1 (wrap64 (x12_2 + 1)) a0 a1 (x115002_2 ++ [(⟨x7_1, x12_2, 1, 1, y117⟩ : S30)])) else (none)) = some (rA, rB, rl) := by first | (rw [hy117]; with_reducible exact H) | (have H2_ := (Option.bind_some _ _).symm.trans H; rw [hy117]; with_reducible exact H2_) | (have H2_ := (Option.bind_some _ _).symm.trans H; with_reducible exact H2_) | with_reducible exact H | (rw [hy117]; exact H) | exact H
         have Ny117 := Aside0.mk hy117
         clear hy117
         by_cases c14 : x115002_2.length < 2513169434916
         · rw [if_pos c14] at H
           have LMc14 := Aside0.mk c14
           clear c14
           obtain ⟨y120, hy120⟩ : ∃ y_ : List (S30), y_ = (x115002_2 ++ [(⟨x7_1, x12_2, 1, 1, y117⟩ : S30)]) := ⟨_, rfl⟩
           replace H : (impl_Table_blank.l1 k2 x7_1 a0 x7_1 a1 (wrap64 (x12_2 + 1)) a0 a1 y120) = some (rA, rB, rl) := by first | (rw [hy120]; with_reducible exact H) | (have H2_ := (Option.bind_some _ _).symm.trans H; rw [hy120]; with_reducible exact H2_) | (have H2_ := (Option.bind_some _ _).symm.trans H; with_reducible exact H2_) | with_reducible exact H | (rw [hy120]; exact H) | exact H
           have Ny120 := Aside0.mk hy120
           clear hy120
           have H' := Aside0.mk H
           clear H
           have hnb15 := NB114_115.out
           have hnc15 := NB115_114.out
           obtain ⟨hcz16_0, hcz16_1, hcz16_2, hfz16_0, hfz16_1, hfz16_2⟩ := cells3 BK114.out
           obtain ⟨Ao17, co17, eo17⟩ := Kd.S_slice HO_115002.out
           subst eo17
           go_wp2_with (first | ((with_reducible refine gate_callee (f := 44) rfl ?_); refine goesL_ (some 18) rfl rfl Try.func44 (by kernel_rfl) rfl #[.agg #[.int .i64 a0, .int .i64 a1, .slice Ao17 x115002_2.length co17], .int .i64 x7_1, .int .i64 x12_2] rfl (z2) ?_; (with_reducible refine (impl_Table_at.calls a0 a1 _ _ x115002_2 x7_1 x12_2 t116 _ ?side1 ?side2 A12.out).mono ?_); (case side1 => repeat (first | exact (Kd.S_reads' HO_115002.out).2.2 | (with_reducible refine Kd.C_alloc ?_ _) | (with_reducible refine Kd.C_drewN ?_ _) | (with_reducible refine Kd.C_drew ?_))); (case side2 => exact (Kd.S_reads' HO_115002.out).2.1); rintro e w18 ⟨rfl, hb⟩; refine ⟨_, rfl, ?_⟩; replace HO_115002 := Aside0.mk (Kd.S_below (z0) hb); replace BK114 := Aside0.mk (blk_below (g := gb114) (zK) hb); replace BK115 := Aside0.mk (blk_below (g := gb115) (zK) hb); replace HKp := Aside0.mk (Kept.below (zKp) hb); replace HB := Aside0.mk (below_step (zHB) hb); (try clear hb); (try clear hb2); (try clear hk); (try clear hi); obtain ⟨hcz19_0, hcz19_1, hcz19_2, hfz19_0, hfz19_1, hfz19_2⟩ := cells3 BK114.out) | ((with_reducible refine gate_dst (N := 24) rfl ?_); refine Kd.R_lit k61 _ 61 ?hg (N := 24) ?hd (xs := ([] : List (S61))) (inner := []) (ok := fun _ => True) (okp := fun _ => True) ?hr ?hp (fun _ hk => hk) trivial (Below.refl _ _) (Nat.le_refl _) (by simp) ?_; (case hd => rfl); (case hg => rfl); (case hr => first | (go_simp; done) | (go_simp; rfl)); (case hp => exact (Reps.none _ _)); intro v118 w20 ho21 hb hg_ hnew_; clear hg_ hnew_; (first | rw [← Ny117.out] at ho21 | (simp only [Int.reduceToNat] at ho21; rw [← Ny117.out] at ho21)); replace HO_115002 := Aside0.mk (Kd.S_elder' (z0) (Kd.R_base ho21) hb); have HO119 := Aside0.mk (Kd.R_lower ho21 (below_size (zHB))); replace BK114 := Aside0.mk (blk_below (g := gb114) (zK) hb); replace BK115 := Aside0.mk (blk_below (g := gb115) (zK) hb); replace HKp := Aside0.mk (Kept.below (zKp) hb); replace HB := Aside0.mk (below_step (zHB) hb); clear hb ho21; obtain ⟨Ao22, co22, eo22⟩ := Kd.R_slice HO119.out; subst eo22) | ((with_reducible refine gate_builtin (b := .append) (xs := #[.tmp 21, .tmp 26]) rfl ?_); at_builtin; refine Kd.S_append k30 (w0 := w0) w0.heap.size rfl (.tmp 21) (.tmp 26) 23 30 (.agg #[(.int .i64 0), (.int .i64 0), (.int .i64 0), (.int .i64 0), (.slice none 0 0)]) 56 rfl Try.underlying23 info30 rfl (by decide) (by omega) (.slice Ao17 x115002_2.length co17) x115002_2 (⟨x7_1, x12_2, 1, 1, y117⟩ : S30) [.int .i64 x7_1, .int .i64 x12_2, .int .i64 1, .int .i64 1, .slice Ao22 y117.length co22] (fun _ => True) (fun k_ => some k_ = (.slice Ao22 y117.length co22 : Value).ownBlock) rfl rfl ?aP (fun k_ hk_ => ((Kd.R_mono (ok' := fun k_ => ((fun _ => True)) k_ ∧ some k_ ≠ (.slice Ao17 x115002_2.length co17 : Value).ownBlock) (Kd.R_apart' (HO119.out) (Kd.S_typed HO_115002.out) (by decide)) (fun k_ hk => ⟨trivial, hk.2⟩))).1 k_ hk_.symm) ?aF ?aO ?aB ?aS ?aL ?_; (case aP => exact k30_mkM _ _ _ (⟨x7_1, x12_2, 1, 1, y117⟩ : S30) (Kd.R_mono (Kd.R_tight rfl (Kd.R_mono (ok' := fun k_ => ((fun _ => True)) k_ ∧ some k_ ≠ (.slice Ao17 x115002_2.length co17 : Value).ownBlock) (Kd.R_apart' (HO119.out) (Kd.S_typed HO_115002.out) (by decide)) (fun k_ hk => ⟨trivial, hk.2⟩))) (fun _ h_ => h_))); (case aB => exact (zHB)); (case aF => exact (fun _ _ => trivial)); (case aO => exact (by (with_reducible repeat (first | apply Kd.S_alloc | apply Kd.S_drewN | apply Kd.S_drew)); exact Kd.S_mono HO_115002.out (fun k_ hk => ⟨trivial, fun e_ => hk.2 e_⟩))); (case aS => exact (below_size (zHB))); (case aL => have := LMc14.out; omega); intro v121 w23 ho hb hg hat; have HKq_ := (show Kept w _ (fun k_ => some k_ = (Value.slice Au_ l0.length cu_).ownBlock) from zKp); have HOw2 : Aside0 (∀ k_, (v121 : Value).ownBlock = some k_ → some k_ = (Value.slice Au_ l0.length cu_).ownBlock ∨ w.heap.size ≤ k_) := Aside0.mk (fun k_ h_ => hat.elim (fun e_ => HOw.out k_ (e_.symm.trans h_)) (fun e_ => Exists.elim e_ (fun b_ e_ => .inr (Nat.le_trans HKq_.1 (Nat.le_trans e_.2 (Nat.le_of_eq (Option.some.inj (e_.1.symm.trans h_)))))))); replace HKp := Aside0.mk (Kept.of_grown hg HKq_ (fun k_ h_ => HOw.out k_ h_)); clear HKq_; rw [← Ny120.out] at ho; replace BK114 := Aside0.mk (blk_grown (g := gb114) (zK) hg (Kd.S_ne HO_115002.out BK114.out (by decide))); replace BK115 := Aside0.mk (blk_grown (g := gb115) (zK) hg (Kd.S_ne HO_115002.out BK115.out (by decide))); replace HB := Aside0.mk (hb); have HO122 := Aside0.mk (ho); clear HO_115002 HO119; clear ho hb hg hat; obtain ⟨Ao24, co24, eo24⟩ := Kd.S_slice HO122.out; subst eo24; obtain ⟨hcz25_0, hcz25_1, hcz25_2, hfz25_0, hfz25_1, hfz25_2⟩ := cells3 BK114.out))
           go_roundg k2
           case measure => have := HK1.out; have := HK2.out; omega
           exact ⟨(wrap64 (x12_2 + 1)), (y120), (.slice Ao24 y120.length co24), (z1), H', ⟨z4⟩, ⟨by (with_reducible repeat (first | apply Kd.S_alloc | apply Kd.S_drewN | apply Kd.S_drew)); exact Kd.S_mono (Kd.S_far (p := ⟨gb114, 2, none⟩) (Kd.S_types HO122.out BK114.out (by decide)) (fun _ hk => hk.2) (.slice Ao24 y120.length co24)) (fun _ hk => trivial)⟩, ⟨zK⟩, ⟨zK⟩, ⟨zHB⟩, ⟨zKp⟩, ⟨HOw2.out⟩⟩
         rw [if_neg c14] at H
         exact absurd H (by simp)
       rw [if_neg c13] at H
       have c13b0 : decide (t116 < 0) = false := decide_eq_false c13
       clear c13
       have H' := Aside0.mk H
       clear H
       have hnb26 := NB114_115.out
       have hnc26 := NB115_114.out
       obtain ⟨hcz27_0, hcz27_1, hcz27_2, hfz27_0, hfz27_1, hfz27_2⟩ := cells3 BK114.out
       obtain ⟨Ao28, co28, eo28⟩ := Kd.S_slice HO_115002.out
       subst eo28
       go_wp2_with (first | ((with_reducible refine gate_callee (f := 44) rfl ?_); refine goesL_ (some 18) rfl rfl Try.func44 (by kernel_rfl) rfl #[.agg #[.int .i64 a0, .int .i64 a1, .slice Ao28 x115002_2.length co28], .int .i64 x7_1, .int .i64 x12_2] rfl (z2) ?_; (with_reducible refine (impl_Table_at.calls a0 a1 _ _ x115002_2 x7_1 x12_2 t116 _ ?side1 ?side2 A12.out).mono ?_); (case side1 => repeat (first | exact (Kd.S_reads' HO_115002.out).2.2 | (with_reducible refine Kd.C_alloc ?_ _) | (with_reducible refine Kd.C_drewN ?_ _) | (with_reducible refine Kd.C_drew ?_))); (case side2 => exact (Kd.S_reads' HO_115002.out).2.1); rintro e w29 ⟨rfl, hb⟩; refine ⟨_, rfl, ?_⟩; replace HO_115002 := Aside0.mk (Kd.S_below (z0) hb); replace BK114 := Aside0.mk (blk_below (g := gb114) (zK) hb); replace BK115 := Aside0.mk (blk_below (g := gb115) (zK) hb); replace HKp := Aside0.mk (Kept.below (zKp) hb); replace HB := Aside0.mk (below_step (zHB) hb); (try clear hb); (try clear hb2); (try clear hk); (try clear hi)))
       go_roundg k2
       case measure => have := HK1.out; have := HK2.out; omega
       exact ⟨(wrap64 (x12_2 + 1)), (x115002_2), (.slice Ao28 x115002_2.length co28), (z1), H', ⟨z4⟩, ⟨z0⟩, ⟨zK⟩, ⟨zK⟩, ⟨zHB⟩, ⟨zKp⟩, ⟨HOw.out⟩⟩
     rw [if_neg c11] at H
     have c11b0 : decide (x12_2 < a1) = false := decide_eq_false c11
     clear c11
     have H' := Aside0.mk H
     clear H
     go_wp2
     go_roundg k2
     case measure => have := HK1.out; have := HK2.out; omega
     exact ⟨(wrap64 (x7_1 + 1)), (x115002_2), (u115002), (z1), H', ⟨z4⟩, ⟨z0⟩, ⟨zK⟩, ⟨zK⟩, ⟨zHB⟩, ⟨zKp⟩, ⟨HOw.out⟩⟩
  rw [if_neg c8] at H
  have c8b0 : decide (x7_1 < a0) = false := decide_eq_false c8
  clear c8
  simp only [Option.some.injEq, Prod.mk.injEq] at H
  obtain ⟨rfl, rfl, rfl⟩ := H
  have hnb30 := NB114_115.out
  have hnc30 := NB115_114.out
  obtain ⟨hcz31_0, hcz31_1, hcz31_2, hfz31_0, hfz31_1, hfz31_2⟩ := cells3 BK114.out
  obtain ⟨hcz32_0, hcz32_1, hcz32_2, hfz32_0, hfz32_1, hfz32_2⟩ := cells3 BK115.out
  obtain ⟨Ao33, co33, eo33⟩ := Kd.S_slice HO_115002.out
  subst eo33
  go_wp2_with (go_at_call 65; refine (sort_calls (.slice Ao33 x115002_1.length co33) x115002_1 _ (by (with_reducible repeat (first | apply Kd.S_alloc | apply Kd.S_drewN | apply Kd.S_drew)); exact HO_115002.out) HL1.out HL2.out HL3.out).mono ?_; rintro e w34_ ⟨rfl, ho, hg⟩; replace HKp := Aside0.mk (Kept.of_grown hg (zKp) (fun k_ h_ => HOw.out k_ h_)); replace HB := Aside0.mk (below_grown_ hg (zHB) (fun k_ h_ => Kd.S_base HO_115002.out k_ h_)); replace BK114 := Aside0.mk (blk_grown (g := gb114) (zK) hg (Kd.S_ne HO_115002.out BK114.out (by decide))); replace BK115 := Aside0.mk (blk_grown (g := gb115) (zK) hg (Kd.S_ne HO_115002.out BK115.out (by decide))); replace HO_115002 := Aside0.mk ho; clear ho hg; obtain ⟨_, _, _, _, _, _⟩ := cells3 BK114.out; obtain ⟨_, _, _, _, _, _⟩ := cells3 BK115.out)
  refine bodyPost_ret (results_cell_row rfl _ _ gb115 25 #[.int .i64 a0, .int .i64 a1, .slice Ao33 x115002_1.length co33] (0, 0) _ rfl (zK) Try.underlying25 rfl (by kernel_rfl)) rfl ?_
  exact ⟨_, by first | rfl | (simp [errW_none, errW_some] <;> rfl) | (simp [*, errW_none, errW_some] <;> rfl), by (with_reducible repeat (first | apply Kd.S_alloc | apply Kd.S_drewN | apply Kd.S_drew)); exact Kd.S_mono (Kd.S_far (p := ⟨gb115, 2, none⟩) (Kd.S_far (p := ⟨gb115, 1, none⟩) (Kd.S_far (p := ⟨gb115, 0, none⟩) (Kd.S_types HO_115002.out BK115.out (by decide)) (fun _ hk => hk.2) (.int .i64 a0)) (fun _ hk => hk.2) (.int .i64 a1)) (fun _ hk => hk.2) (.slice Ao33 x115002_1.length co33)) (fun _ hk => trivial), zHB, zKp⟩

end Go.Proofs.Ytljgbeccmcidkaa.P
