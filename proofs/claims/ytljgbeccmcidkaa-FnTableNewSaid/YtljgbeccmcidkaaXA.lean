/- Small laws of the walk that the printed words lack: a call through a function value that captures nothing; a store says nothing of which cells there are. -/
import Derived.Test.YtljgbeccmcidkaaProg
import Derived.Below
import Derived.Deep.Draws
import Derived.Deep.AppendLies
import Derived.Maps.AppendAt
import Derived.OwnWalk
import Derived.Laws.BytesArg
import Derived.Laws.MakeOwn
import Derived.Laws.OwnMore
import Derived.Deep.OwnRows
import Derived.Tactics
import Derived.Lib.ConvBytes
import Derived.Laws.Slices
import Derived.WalkKit
import Derived.KernelRfl
import Derived.RowKit3
import Derived.Deep.LoopGhost
import Derived.Deep.QuietTactic
import Derived.BigQuiet
import Derived.WideLaws
import Derived.Deep.DeepCutAuto
import Derived.Deep.CutBlock
import Derived.Deep.RegionHeld3
import Derived.Laws.Rows
import Derived.Lib.AppendStr
import Derived.ArgAppend
import Derived.Laws.IdiomCopy
import Derived.OrdersHeld
import Derived.Laws.BitsLemmas
import Derived.RowKit
import Derived.Test.YtljgbeccmcidkaaWWords
import Derived.Test.YtljgbeccmcidkaaWLast
import Derived.Test.YtljgbeccmcidkaaWTab
import Derived.Test.YtljgbeccmcidkaaWQPut
import Derived.Test.YtljgbeccmcidkaaWApart
import Derived.Test.YtljgbeccmcidkaaWArr
import Derived.Test.YtljgbeccmcidkaaWZeros
import Derived.Test.YtljgbeccmcidkaaWFoot
import Derived.Test.YtljgbeccmcidkaaWKept
import Derived.Test.YtljgbeccmcidkaaWShare
import Derived.Test.YtljgbeccmcidkaaWN
import Derived.Test.YtljgbeccmcidkaaWRepsOne
import Derived.Test.YtljgbeccmcidkaaWGuard
import Derived.Test.YtljgbeccmcidkaaWNEv
import Derived.Test.YtljgbeccmcidkaaWMore
namespace Go.Proofs.Ytljgbeccmcidkaa.P
open Go.RowKit Go.Proofs.YtljgbeccmcidkaaW.PrintWords Go.Proofs.YtljgbeccmcidkaaW.PrintLast Go.Proofs.YtljgbeccmcidkaaW.PrintMore
attribute [local go_sem] max2_int min2_int max_two min_two max_three min_three max_four min_four   -- for this text's walks alone
set_option linter.unusedVariables false
set_option linter.unusedSimpArgs false



def errW : Option Int → Value
  | none => .nilIface
  | some c => .iface 0 (.int .i64 c)
theorem errW_none : errW none = .nilIface := rfl
theorem errW_some (c : Int) : errW (some c) = .iface 0 (.int .i64 c) := rfl

theorem info3 : (Try.prog.info? 3).map (fun i => (i.zero, i.size, i.bytes)) = some (some (.int .i64 0), 1, 8) := by kernel_rfl
theorem info4 : (Try.prog.info? 4).map (fun i => (i.zero, i.size, i.bytes)) = some (some (.bool false), 1, 1) := by kernel_rfl
theorem info5 : (Try.prog.info? 5).map (fun i => (i.zero, i.size, i.bytes)) = some (some (.int .u8 0), 1, 1) := by kernel_rfl
theorem info30 : (Try.prog.info? 30).map (fun i => (i.zero, i.size, i.bytes)) = some (some (.agg #[(.int .i64 0), (.int .i64 0), (.int .i64 0), (.int .i64 0), (.slice none 0 0)]), 5, 56) := by kernel_rfl
theorem info61 : (Try.prog.info? 61).map (fun i => (i.zero, i.size, i.bytes)) = some (some (.agg #[(.int .u8 0), (.int .i64 0), (.int .i64 0)]), 3, 24) := by kernel_rfl
-- the values' own types
/-! #### struct type 61 -/
structure S61 where
  f0 : Int
  f1 : Int
  f2 : Int
def z61 : S61 := ⟨(0 : Int), (0 : Int), (0 : Int)⟩
def k61 : Kd S61 := Kd.iso (Kd.pair (Kd.int .u8) (Kd.pair (Kd.int .i64) (Kd.int .i64))) (fun x : S61 => (x.f0, x.f1, x.f2))
theorem k61_open {w : World} {x : S61} {cs : List Value} (h : k61.K w x cs) : cs = [.int .u8 x.f0, .int .i64 x.f1, .int .i64 x.f2] := by
  obtain ⟨_, _, rfl, rfl, ⟨_, _, rfl, rfl, rfl⟩⟩ := h
  exact rfl
theorem k61_openM {w : World} {base : Nat} {ok : Nat → Prop} {x : S61} {cs : List Value} (h : k61.M w base ok x cs) : cs = [.int .u8 x.f0, .int .i64 x.f1, .int .i64 x.f2] := by
  obtain ⟨_, _, rfl, rfl, ⟨_, _, rfl, rfl, rfl⟩⟩ := h
  exact rfl
theorem k61_mk (w : World) (x : S61)  : k61.K w x [.int .u8 x.f0, .int .i64 x.f1, .int .i64 x.f2] := ⟨[.int .u8 x.f0], [.int .i64 x.f1, .int .i64 x.f2], rfl, rfl, ⟨[.int .i64 x.f1], [.int .i64 x.f2], rfl, rfl, rfl⟩⟩
theorem k61_mkM (w : World) (base : Nat) (ok : Nat → Prop) (x : S61)  : k61.M w base ok x [.int .u8 x.f0, .int .i64 x.f1, .int .i64 x.f2] := ⟨[.int .u8 x.f0], [.int .i64 x.f1, .int .i64 x.f2], rfl, rfl, ⟨[.int .i64 x.f1], [.int .i64 x.f2], rfl, rfl, rfl⟩⟩
theorem k61_mkF (W : World) (ok : Nat → Prop) (x : S61) : Kd.FK k61 W ok x [.int .u8 x.f0, .int .i64 x.f1, .int .i64 x.f2] := fun W2 _ => k61_mk W2 x
def rd_T61 (xs : List S61) (i : Int) : S61 := xs.getD i.toNat z61
theorem at_T61 {w : World} {A : Option Addr} {n : Nat} {xs : List S61} (h : Kd.C k61 w A n xs) (i : Int) (h0 : 0 ≤ i) (h1 : i < n) : ∃ ad , A = some ad ∧ w.cell? (ad.add (i.toNat * 3)) = some (.int .u8 (rd_T61 xs i).f0) ∧ w.cell? ⟨(ad.add (i.toNat * 3)).block, (ad.add (i.toNat * 3)).off + 1, none⟩ = some (.int .i64 (rd_T61 xs i).f1) ∧ w.cell? ⟨(ad.add (i.toNat * 3)).block, (ad.add (i.toNat * 3)).off + 2, none⟩ = some (.int .i64 (rd_T61 xs i).f2) := by
  obtain ⟨ad, c, e, _, hK, hc0⟩ := Kd.C_get h z61 i h0 h1
  have hc : ∀ j u, c[j]? = some u → w.cell? (ad.add (i.toNat * 3 + j)) = some u := hc0
  obtain rfl := k61_open hK
  exact ⟨ad, e, hc 0 _ rfl, by rw [← add_field _ _ 1 (by omega)]; exact hc 1 _ rfl, by rw [← add_field _ _ 2 (by omega)]; exact hc 2 _ rfl⟩

def rd_L3 (xs : List (List S61)) (i : Int) : (List S61) := xs.getD i.toNat ([] : List S61)
theorem at_L3 {w : World} {A : Option Addr} {n : Nat} {xs : List (List S61)} (h : Kd.C (Kd.slice 61 k61) w A n xs) (i : Int) (h0 : 0 ≤ i) (h1 : i < n) : ∃ ad A0 c0, A = some ad ∧ w.cell? (ad.add i.toNat) = some (.slice A0 (rd_L3 xs i).length c0) ∧ (rd_L3 xs i).length ≤ c0 ∧ k61.C w A0 (rd_L3 xs i).length (rd_L3 xs i) := by
  obtain ⟨ad, c, e, _, hK, hc0⟩ := Kd.C_get h ([] : List S61) i h0 h1
  have hc : ∀ j u, c[j]? = some u → w.cell? (ad.add (i.toNat * 1 + j)) = some u := hc0
  obtain ⟨A0, c0, rfl, l0, g0⟩ := hK
  exact ⟨ad, A0, c0, e, by have hq := hc 0 _ rfl; rwa [Nat.mul_one, Nat.add_zero] at hq, l0, g0⟩

/-! #### struct type 30 -/
structure S30 where
  f0 : Int
  f1 : Int
  f2 : Int
  f3 : Int
  f4 : (List S61)
def z30 : S30 := ⟨(0 : Int), (0 : Int), (0 : Int), (0 : Int), ([] : List S61)⟩
def k30 : Kd S30 := Kd.iso (Kd.pair (Kd.int .i64) (Kd.pair (Kd.int .i64) (Kd.pair (Kd.int .i64) (Kd.pair (Kd.int .i64) (Kd.slice 61 k61))))) (fun x : S30 => (x.f0, x.f1, x.f2, x.f3, x.f4))
theorem k30_open {w : World} {x : S30} {cs : List Value} (h : k30.K w x cs) : ∃ A4 c4, cs = [.int .i64 x.f0, .int .i64 x.f1, .int .i64 x.f2, .int .i64 x.f3, .slice A4 x.f4.length c4] ∧ x.f4.length ≤ c4 ∧ k61.C w A4 x.f4.length x.f4 := by
  obtain ⟨_, _, rfl, rfl, ⟨_, _, rfl, rfl, ⟨_, _, rfl, rfl, ⟨_, _, rfl, rfl, ⟨A4, c4, rfl, l4, g4⟩⟩⟩⟩⟩ := h
  exact ⟨A4, c4, rfl, l4, g4⟩
theorem k30_openM {w : World} {base : Nat} {ok : Nat → Prop} {x : S30} {cs : List Value} (h : k30.M w base ok x cs) : ∃ v4, cs = [.int .i64 x.f0, .int .i64 x.f1, .int .i64 x.f2, .int .i64 x.f3, v4] ∧ k61.R 61 w base ok v4 x.f4 := by
  obtain ⟨_, _, rfl, rfl, ⟨_, _, rfl, rfl, ⟨_, _, rfl, rfl, ⟨_, _, rfl, rfl, ⟨v4, rfl, g4⟩⟩⟩⟩⟩ := h
  exact ⟨v4, rfl, g4⟩
theorem k30_mk (w : World) (x : S30) {A4 : Option Addr} {c4 : Nat} (l4 : x.f4.length ≤ c4) (g4 : k61.C w A4 x.f4.length x.f4) : k30.K w x [.int .i64 x.f0, .int .i64 x.f1, .int .i64 x.f2, .int .i64 x.f3, .slice A4 x.f4.length c4] := ⟨[.int .i64 x.f0], [.int .i64 x.f1, .int .i64 x.f2, .int .i64 x.f3, .slice A4 x.f4.length c4], rfl, rfl, ⟨[.int .i64 x.f1], [.int .i64 x.f2, .int .i64 x.f3, .slice A4 x.f4.length c4], rfl, rfl, ⟨[.int .i64 x.f2], [.int .i64 x.f3, .slice A4 x.f4.length c4], rfl, rfl, ⟨[.int .i64 x.f3], [.slice A4 x.f4.length c4], rfl, rfl, ⟨A4, c4, rfl, l4, g4⟩⟩⟩⟩⟩
theorem k30_mkM (w : World) (base : Nat) (ok : Nat → Prop) (x : S30) {v4 : Value} (g4 : k61.R 61 w base ok v4 x.f4) : k30.M w base ok x [.int .i64 x.f0, .int .i64 x.f1, .int .i64 x.f2, .int .i64 x.f3, v4] := ⟨[.int .i64 x.f0], [.int .i64 x.f1, .int .i64 x.f2, .int .i64 x.f3, v4], rfl, rfl, ⟨[.int .i64 x.f1], [.int .i64 x.f2, .int .i64 x.f3, v4], rfl, rfl, ⟨[.int .i64 x.f2], [.int .i64 x.f3, v4], rfl, rfl, ⟨[.int .i64 x.f3], [v4], rfl, rfl, ⟨v4, rfl, g4⟩⟩⟩⟩⟩
theorem k30_openF {W : World} {ok : Nat → Prop} {x : S30} {cs : List Value} (h : Kd.FK k30 W ok x cs) : ∃ A4 c4, cs = [.int .i64 x.f0, .int .i64 x.f1, .int .i64 x.f2, .int .i64 x.f3, .slice A4 x.f4.length c4] ∧ x.f4.length ≤ c4 ∧ Kd.F k61 W ok A4 x.f4.length x.f4 := by
  obtain ⟨A4, c4, rfl, l4, _⟩ := k30_open (Kd.FK_now h)
  exact ⟨A4, c4, rfl, l4, (fun W' hW => by obtain ⟨A4_, c4_, he, l4_, g4_⟩ := k30_open (h W' hW); injection (Option.some.inj (show some (Value.slice A4 x.f4.length c4) = some (Value.slice A4_ x.f4.length c4_) from congrArg (fun l => l[4]?) he)) with ha_ _ _; rw [ha_]; exact g4_)⟩
theorem k30_mkF (W : World) (ok : Nat → Prop) (x : S30) {A4 : Option Addr} {c4 : Nat} (l4 : x.f4.length ≤ c4) (g4 : Kd.F k61 W ok A4 x.f4.length x.f4) : Kd.FK k30 W ok x [.int .i64 x.f0, .int .i64 x.f1, .int .i64 x.f2, .int .i64 x.f3, .slice A4 x.f4.length c4] := fun W2 hW => k30_mk W2 x l4 (g4 W2 hW)
def rd_T30 (xs : List S30) (i : Int) : S30 := xs.getD i.toNat z30
theorem at_T30 {w : World} {A : Option Addr} {n : Nat} {xs : List S30} (h : Kd.C k30 w A n xs) (i : Int) (h0 : 0 ≤ i) (h1 : i < n) : ∃ ad A4 c4, A = some ad ∧ w.cell? (ad.add (i.toNat * 5)) = some (.int .i64 (rd_T30 xs i).f0) ∧ w.cell? ⟨(ad.add (i.toNat * 5)).block, (ad.add (i.toNat * 5)).off + 1, none⟩ = some (.int .i64 (rd_T30 xs i).f1) ∧ w.cell? ⟨(ad.add (i.toNat * 5)).block, (ad.add (i.toNat * 5)).off + 2, none⟩ = some (.int .i64 (rd_T30 xs i).f2) ∧ w.cell? ⟨(ad.add (i.toNat * 5)).block, (ad.add (i.toNat * 5)).off + 3, none⟩ = some (.int .i64 (rd_T30 xs i).f3) ∧ w.cell? ⟨(ad.add (i.toNat * 5)).block, (ad.add (i.toNat * 5)).off + 4, none⟩ = some (.slice A4 (rd_T30 xs i).f4.length c4) ∧ (rd_T30 xs i).f4.length ≤ c4 ∧ k61.C w A4 (rd_T30 xs i).f4.length (rd_T30 xs i).f4 := by
  obtain ⟨ad, c, e, _, hK, hc0⟩ := Kd.C_get h z30 i h0 h1
  have hc : ∀ j u, c[j]? = some u → w.cell? (ad.add (i.toNat * 5 + j)) = some u := hc0
  obtain ⟨A4, c4, rfl, l4, g4⟩ := k30_open hK
  exact ⟨ad, A4, c4, e, hc 0 _ rfl, by rw [← add_field _ _ 1 (by omega)]; exact hc 1 _ rfl, by rw [← add_field _ _ 2 (by omega)]; exact hc 2 _ rfl, by rw [← add_field _ _ 3 (by omega)]; exact hc 3 _ rfl, by rw [← add_field _ _ 4 (by omega)]; exact hc 4 _ rfl, l4, g4⟩

end Go.Proofs.Ytljgbeccmcidkaa.P
namespace Go.Proofs.Ytljgbeccmcidkaa.P
open Go.RowKit Go.Proofs.YtljgbeccmcidkaaW.PrintWords Go.Proofs.YtljgbeccmcidkaaW.PrintLast Go.Proofs.YtljgbeccmcidkaaW.PrintMore

theorem Ax {p : Prop} (h : p) : Aside0 p := Aside0.mk h
def bl (n m : Nat) : Array Bool := ((List.range n).map fun i => m.testBit i).toArray
theorem zAct {p : Prop} (h : p := by simp only [Act.put, List.setIfInBounds_toArray, List.set_cons_zero, List.set_cons_succ, i64_w, i32_w]; rfl) : p := h
theorem zEv {p : Prop} (h : p := by intro w'; go_simp; with_reducible rfl) : p := h
theorem run_asAgg {P : Program} (cs : Array Value) (w : World) : Sem.run P (asAgg (.agg cs)) w = .ok cs w := rfl

theorem isSome_setCell (w : World) (p q : Addr) (v : Value) : ((w.setCell p v).cell? q).isSome = (w.cell? q).isSome := by
  unfold World.cell? World.setCell
  simp only [Array.getElem?_modify]
  by_cases h : p.block = q.block
  · rw [if_pos h]
    cases hb : w.heap[q.block]? with
    | none => rfl
    | some o =>
      cases o with
      | cells c e f =>
        by_cases hs : q.spot.isSome = true
        · simp [hs]
        · by_cases hp : p.spot.isSome = true
          · simp [hp]
          · simp only [Option.map_some, hp, hs]
            by_cases ho : q.off < c.size <;> simp [ho]
      | _ => rfl
  · rw [if_neg h]
theorem bnd {α β : Type} {x : Option α} {f : α → Option β} {r : β} (h : x.bind f = some r) : ∃ t, Aside0 (x = some t) ∧ f t = some r := by
  obtain ⟨t, h1, h2⟩ := Option.bind_eq_some_iff.mp h
  exact ⟨t, ⟨h1⟩, h2⟩
theorem tf (b : Bool) : b = true ∨ b = false := by cases b <;> simp
theorem blk_putE {w : World} {g : Nat} {t : TypeId} {l l' : List Value} {i : Nat} {u : Value} (h : w.heap[g]? = some (.cells l.toArray t (0, 0))) (e : l.set i u = l') : (w.setCell ⟨g, i, none⟩ u).heap[g]? = some (.cells l'.toArray t (0, 0)) := blk_put h i u (by rw [← e]; simp)
theorem cells1 {w : World} {g : Nat} {t : TypeId} {v0 : Value} (h : w.heap[g]? = some (.cells #[v0] t (0, 0))) : w.cell? ⟨g, 0, none⟩ = some v0 ∧ w.frozen? ⟨g, 0, none⟩ = false :=
  ⟨(blk_cell h 0).trans rfl, blk_frozen h 0⟩
theorem cells2 {w : World} {g : Nat} {t : TypeId} {v0 v1 : Value} (h : w.heap[g]? = some (.cells #[v0, v1] t (0, 0))) : w.cell? ⟨g, 0, none⟩ = some v0 ∧ w.cell? ⟨g, 1, none⟩ = some v1 ∧ w.frozen? ⟨g, 0, none⟩ = false ∧ w.frozen? ⟨g, 1, none⟩ = false :=
  ⟨(blk_cell h 0).trans rfl, (blk_cell h 1).trans rfl, blk_frozen h 0, blk_frozen h 1⟩
theorem cells3 {w : World} {g : Nat} {t : TypeId} {v0 v1 v2 : Value} (h : w.heap[g]? = some (.cells #[v0, v1, v2] t (0, 0))) : w.cell? ⟨g, 0, none⟩ = some v0 ∧ w.cell? ⟨g, 1, none⟩ = some v1 ∧ w.cell? ⟨g, 2, none⟩ = some v2 ∧ w.frozen? ⟨g, 0, none⟩ = false ∧ w.frozen? ⟨g, 1, none⟩ = false ∧ w.frozen? ⟨g, 2, none⟩ = false :=
  ⟨(blk_cell h 0).trans rfl, (blk_cell h 1).trans rfl, (blk_cell h 2).trans rfl, blk_frozen h 0, blk_frozen h 1, blk_frozen h 2⟩
theorem cells4 {w : World} {g : Nat} {t : TypeId} {v0 v1 v2 v3 : Value} (h : w.heap[g]? = some (.cells #[v0, v1, v2, v3] t (0, 0))) : w.cell? ⟨g, 0, none⟩ = some v0 ∧ w.cell? ⟨g, 1, none⟩ = some v1 ∧ w.cell? ⟨g, 2, none⟩ = some v2 ∧ w.cell? ⟨g, 3, none⟩ = some v3 ∧ w.frozen? ⟨g, 0, none⟩ = false ∧ w.frozen? ⟨g, 1, none⟩ = false ∧ w.frozen? ⟨g, 2, none⟩ = false ∧ w.frozen? ⟨g, 3, none⟩ = false :=
  ⟨(blk_cell h 0).trans rfl, (blk_cell h 1).trans rfl, (blk_cell h 2).trans rfl, (blk_cell h 3).trans rfl, blk_frozen h 0, blk_frozen h 1, blk_frozen h 2, blk_frozen h 3⟩
theorem cells5 {w : World} {g : Nat} {t : TypeId} {v0 v1 v2 v3 v4 : Value} (h : w.heap[g]? = some (.cells #[v0, v1, v2, v3, v4] t (0, 0))) : w.cell? ⟨g, 0, none⟩ = some v0 ∧ w.cell? ⟨g, 1, none⟩ = some v1 ∧ w.cell? ⟨g, 2, none⟩ = some v2 ∧ w.cell? ⟨g, 3, none⟩ = some v3 ∧ w.cell? ⟨g, 4, none⟩ = some v4 ∧ w.frozen? ⟨g, 0, none⟩ = false ∧ w.frozen? ⟨g, 1, none⟩ = false ∧ w.frozen? ⟨g, 2, none⟩ = false ∧ w.frozen? ⟨g, 3, none⟩ = false ∧ w.frozen? ⟨g, 4, none⟩ = false :=
  ⟨(blk_cell h 0).trans rfl, (blk_cell h 1).trans rfl, (blk_cell h 2).trans rfl, (blk_cell h 3).trans rfl, (blk_cell h 4).trans rfl, blk_frozen h 0, blk_frozen h 1, blk_frozen h 2, blk_frozen h 3, blk_frozen h 4⟩
end Go.Proofs.Ytljgbeccmcidkaa.P
namespace Go.Proofs.Ytljgbeccmcidkaa.P
open Go.RowKit Go.Proofs.YtljgbeccmcidkaaW.PrintWords Go.Proofs.YtljgbeccmcidkaaW.PrintLast Go.Proofs.YtljgbeccmcidkaaW.PrintMore
attribute [local go_sem] max2_int min2_int max_two min_two max_three min_three max_four min_four   -- for this text's walks alone
set_option linter.unusedVariables false
set_option linter.unusedSimpArgs false

attribute [local go_sem ↓] isSome_setCell
/-! ### impl_within: function 41 -/
def impl_within.f (a0 : Int) (a1 : Int) (a2 : Int) : Option (Bool) := if a0 ≥ a1 then (some (decide (a0 ≤ a2))) else (some false)
set_option maxHeartbeats 8000000 in
set_option maxRecDepth 100000 in
theorem impl_within.calls (a0 : Int) (a1 : Int) (a2 : Int) (r : Bool) (w : World) (h : impl_within.f a0 a1 a2 = some r) :
    Calls Try.prog 41 #[.int .i64 a0, .int .i64 a1, .int .i64 a2] w fun e w' => e = .returned (.bool r) ∧ Drawn0 w w' := by
 have H : (if a0 ≥ a1 then (some (decide (a0 ≤ a2))) else (some false)) = some r := h
 clear h
 by_cases c4 : a0 ≥ a1
 · rw [if_pos c4] at H
   have c4b0 := decide_eq_true c4
   clear c4
   obtain rfl := Option.some.inj H
   go_enter Try.func41, Try.ntmps41
   go_wp2
   go_ret
   exact ⟨by first | rfl | (simp; done) | (simp [*]; done), by repeat (first | exact Drawn0.refl _ | apply Drawn0.step)⟩
 rw [if_neg c4] at H
 have c4b0 : decide (a1 ≤ a0) = false := decide_eq_false c4
 clear c4
 obtain rfl := Option.some.inj H
 go_enter Try.func41, Try.ntmps41
 go_wp2
 go_ret
 exact ⟨by first | rfl | (simp; done) | (simp [*]; done), by repeat (first | exact Drawn0.refl _ | apply Drawn0.step)⟩
end Go.Proofs.Ytljgbeccmcidkaa.P
namespace Go.Proofs.Ytljgbeccmcidkaa.P
open Go.RowKit Go.Proofs.YtljgbeccmcidkaaW.PrintWords Go.Proofs.YtljgbeccmcidkaaW.PrintLast Go.Proofs.YtljgbeccmcidkaaW.PrintMore
attribute [local go_sem] max2_int min2_int max_two min_two max_three min_three max_four min_four   -- for this text's walks alone
set_option linter.unusedVariables false
set_option linter.unusedSimpArgs false

attribute [local go_sem ↓] isSome_setCell
/-! ### impl_byteOk: function 58 -/
def impl_byteOk.f (a0 : Int) : Option (Bool) := if a0 ≥ 97 then (if a0 ≤ 122 then (some true) else (if a0 ≥ 48 then (if a0 ≤ 57 then (some true) else (some (a0 == 32))) else (some (a0 == 32)))) else (if a0 ≥ 48 then (if a0 ≤ 57 then (some true) else (some (a0 == 32))) else (some (a0 == 32)))
theorem impl_byteOk.z0 {p : Prop} (h : p := by repeat (first | exact Drawn0.refl _ | apply Drawn0.step)) : p := h
theorem impl_byteOk.z1 {p : Prop} (h : p := by first | rfl | (simp; done) | (simp [*]; done)) : p := h
set_option maxHeartbeats 8000000 in
set_option maxRecDepth 100000 in
theorem impl_byteOk.calls (a0 : Int) (r : Bool) (w : World) (h : impl_byteOk.f a0 = some r) :
    Calls Try.prog 58 #[.int .u8 a0] w fun e w' => e = .returned (.bool r) ∧ Drawn0 w w' := by
 have H : (if a0 ≥ 97 then (if a0 ≤ 122 then (some true) else (if a0 ≥ 48 then (if a0 ≤ 57 then (some true) else (some (a0 == 32))) else (some (a0 == 32)))) else (if a0 ≥ 48 then (if a0 ≤ 57 then (some true) else (some (a0 == 32))) else (some (a0 == 32)))) = some r := h
 clear h
 by_cases c2 : a0 ≥ 97
 rotate_left
 · rw [if_neg c2] at H
   have c2b0 : decide (97 ≤ a0) = false := decide_eq_false c2
   clear c2
   by_cases c6 : a0 ≥ 48
   rotate_left
   · rw [if_neg c6] at H
     have c6b0 : decide (48 ≤ a0) = false := decide_eq_false c6
     clear c6
     obtain rfl := Option.some.inj H
     go_enter Try.func58, Try.ntmps58
     go_wp2
     go_ret
     exact ⟨z1, z0⟩
   rw [if_pos c6] at H
   have c6b0 := decide_eq_true c6
   clear c6
   by_cases c7 : a0 ≤ 57
   · rw [if_pos c7] at H
     have c7b0 := decide_eq_true c7
     clear c7
     obtain rfl := Option.some.inj H
     go_enter Try.func58, Try.ntmps58
     go_wp2
     go_ret
     exact ⟨z1, z0⟩
   rw [if_neg c7] at H
   have c7b0 := decide_eq_false c7
   clear c7
   obtain rfl := Option.some.inj H
   go_enter Try.func58, Try.ntmps58
   go_wp2
   go_ret
   exact ⟨z1, z0⟩
 rw [if_pos c2] at H
 have c2b0 := decide_eq_true c2
 clear c2
 by_cases c3 : a0 ≤ 122
 · rw [if_pos c3] at H
   have c3b0 := decide_eq_true c3
   clear c3
   obtain rfl := Option.some.inj H
   go_enter Try.func58, Try.ntmps58
   go_wp2
   go_ret
   exact ⟨z1, z0⟩
 rw [if_neg c3] at H
 have c3b0 := decide_eq_false c3
 clear c3
 by_cases c4 : a0 ≥ 48
 rotate_left
 · rw [if_neg c4] at H
   have c4b0 : decide (48 ≤ a0) = false := decide_eq_false c4
   clear c4
   obtain rfl := Option.some.inj H
   go_enter Try.func58, Try.ntmps58
   go_wp2
   go_ret
   exact ⟨z1, z0⟩
 rw [if_pos c4] at H
 have c4b0 := decide_eq_true c4
 clear c4
 by_cases c5 : a0 ≤ 57
 · rw [if_pos c5] at H
   have c5b0 := decide_eq_true c5
   clear c5
   obtain rfl := Option.some.inj H
   go_enter Try.func58, Try.ntmps58
   go_wp2
   go_ret
   exact ⟨z1, z0⟩
 rw [if_neg c5] at H
 have c5b0 := decide_eq_false c5
 clear c5
 obtain rfl := Option.some.inj H
 go_enter Try.func58, Try.ntmps58
 go_wp2
 go_ret
 exact ⟨z1, z0⟩
end Go.Proofs.Ytljgbeccmcidkaa.P
namespace Go.Proofs.Ytljgbeccmcidkaa.P
open Go.RowKit Go.Proofs.YtljgbeccmcidkaaW.PrintWords Go.Proofs.YtljgbeccmcidkaaW.PrintLast Go.Proofs.YtljgbeccmcidkaaW.PrintMore
attribute [local go_sem] max2_int min2_int max_two min_two max_three min_three max_four min_four   -- for this text's walks alone
set_option linter.unusedVariables false
set_option linter.unusedSimpArgs false

attribute [local go_sem ↓] isSome_setCell
/-! ### impl_TextOk: function 42 -/
mutual
def impl_TextOk.l0 : Nat → List (S61) → List (S61) → Int → Int → Option (Bool)
  | 0, _, _, _, _ => none
  | k + 1, x0, x5, x6, x7 => if x7 < x6 then (if 0 ≤ x7 then (if x7 < (x5.length : Int) then ((impl_byteOk.f ((rd_T61 x5 x7).f0)).bind fun t383 => (if t383 = true then ((impl_within.f ((rd_T61 x5 x7).f1) 0 3).bind fun t384 => (if t384 = true then ((impl_within.f ((rd_T61 x5 x7).f2) 0 3).bind fun t385 => (if t385 = true then (if ((rd_T61 x5 x7).f1) = 0 then (impl_TextOk.j1 k x0 x5 x6 x7 false) else (impl_TextOk.j1 k x0 x5 x6 x7 (((rd_T61 x5 x7).f1) == ((rd_T61 x5 x7).f2)))) else (impl_TextOk.j1 k x0 x5 x6 x7 true))) else (impl_TextOk.j1 k x0 x5 x6 x7 true))) else (impl_TextOk.j1 k x0 x5 x6 x7 true))) else (none)) else (none)) else (some (decide ((x0.length : Int) ≤ 24)))
def impl_TextOk.j1 : Nat → List (S61) → List (S61) → Int → Int → Bool → Option (Bool)
  | 0, _, _, _, _, _ => none
  | k + 1, x0, x5, x6, x7, x38 => if x38 = true then (some false) else (impl_TextOk.l0 k x0 x5 x6 (wrap64 (x7 + 1)))
end
def impl_TextOk.f (k : Nat) (l0 : List (S61)) : Option (Bool) := impl_TextOk.l0 k l0 l0 (l0.length : Int) 0
theorem impl_TextOk.mono_l : ∀ k, (∀ y0 y1 y2 y3, LeO (impl_TextOk.l0 k y0 y1 y2 y3) (impl_TextOk.l0 (k + 1) y0 y1 y2 y3)) ∧ (∀ y0 y1 y2 y3 y4, LeO (impl_TextOk.j1 k y0 y1 y2 y3 y4) (impl_TextOk.j1 (k + 1) y0 y1 y2 y3 y4))
  | 0 => by refine ⟨?_, ?_⟩ <;> intros <;> intro r h <;> simp [impl_TextOk.l0, impl_TextOk.j1] at h
  | k + 1 => by
    obtain ⟨ih0, ih1⟩ := impl_TextOk.mono_l k
    refine ⟨?_, ?_⟩ <;> intros <;> (first | unfold impl_TextOk.l0 | unfold impl_TextOk.j1) <;> with_reducible repeat' first | exact ih0 _ _ _ _ | exact ih1 _ _ _ _ _ | exact LeO.refl _ | exact LeO.none _ | refine LeO.ite ?_ ?_ | refine LeO.bind ?_ (fun _ => ?_)
theorem impl_TextOk.mono : ∀ a0 k, LeO (impl_TextOk.f k a0) (impl_TextOk.f (k + 1) a0) := by
  intro a0 k
  obtain ⟨ih0, ih1⟩ := impl_TextOk.mono_l k
  unfold impl_TextOk.f
  with_reducible repeat' first | exact ih0 _ _ _ _ | exact ih1 _ _ _ _ _ | exact LeO.refl _ | exact LeO.none _ | refine LeO.ite ?_ ?_ | refine LeO.bind ?_ (fun _ => ?_)
theorem impl_TextOk.zHB {p : Prop} (h : p := by repeat (first | (with_reducible first | exact HB.out | apply below_alloc | apply pw_below_drewN | apply below_drew1 | refine below_set ?_ GE382.out) | exact HB.out)) : p := h
theorem impl_TextOk.zK {p : Prop} (h : p := by repeat' first | (with_reducible first | exact BK382.out | apply blk_drewN | apply blk_drew | apply blk_alloc | apply blk_putE) | exact (rfl : List.set _ _ _ = _)) : p := h
theorem impl_TextOk.z0 {p : Prop} (h : p := by (try simp only [List.map_toArray, List.map_cons, List.map_nil]); first | done | rfl | (simp only [List.length_drop, List.length_take]; rfl)) : p := h
theorem impl_TextOk.z1 {p : Prop} (h : p := by first | rfl | (simp; done) | (simp [*]; done)) : p := h
theorem impl_TextOk.z2 {p : Prop} (h : p := by have := HK1.out; first | omega | exact Nat.le_refl _) : p := h
theorem impl_TextOk.z3 {p : Prop} (h : p := by first | rfl | (simp [errW_none, errW_some] <;> rfl) | (simp [*, errW_none, errW_some] <;> rfl)) : p := h
set_option maxHeartbeats 8000000 in
set_option maxRecDepth 100000 in
theorem impl_TextOk.calls (k : Nat) (A0 : Option Addr) (c0 : Nat) (l0 : List (S61)) (r : Bool) (w : World) (hr0 : Kd.C k61 w A0 l0.length l0) (hc0 : l0.length ≤ c0) (h : impl_TextOk.f k l0 = some r) :
    Calls Try.prog 42 #[.slice A0 l0.length c0] w fun e w' => e = .returned (.bool r) ∧ Below w.heap.size w w' := by
 have hu61 := Try.underlying61
 have HR0 := Ax hr0
 have HC0 := Ax hc0
 clear hr0 hc0
 have HB := Ax (Below.refl w.heap.size w)
 have H : (impl_TextOk.l0 k l0 l0 (l0.length : Int) 0) = some r := h
 clear h
 have H' := Ax H
 clear H
 go_enter Try.func42, Try.ntmps42
 go_wp2
 go_loopg [7] k (fun kq v7 w' => ∃ (x7_1 : Int), v7 = .int .i64 x7_1 ∧ Aside0 (impl_TextOk.l0 kq l0 l0 (l0.length : Int) x7_1 = some r) ∧ Aside0 (kq ≤ k) ∧ Aside0 (Below w.heap.size w w'))
 case atStart => exact ⟨(0), (z1), H', ⟨Nat.le_refl _⟩, ⟨zHB⟩⟩
 clear H'
 obtain ⟨x7_1, rfl, HA, HK1, HB⟩ := hrel
 cases gk with
 | zero => exact absurd HA.out (by simp [impl_TextOk.l0])
 | succ k1 =>
  have H := HA.out
  clear HA
  simp only [impl_TextOk.l0] at H
  by_cases c2 : x7_1 < (l0.length : Int)
  rotate_left
  · rw [if_neg c2] at H
    have c2b0 := decide_eq_false c2
    clear c2
    obtain rfl := Option.some.inj H
    go_wp2
    go_ret
    exact ⟨z3, zHB⟩
  rw [if_pos c2] at H
  have c2b0 := decide_eq_true c2
  clear c2
  by_cases c3 : 0 ≤ x7_1
  rotate_left
  · rw [if_neg c3] at H
    exact absurd H (by simp)
  rw [if_pos c3] at H
  have c3b0 := decide_eq_true c3
  clear c3
  by_cases c4 : x7_1 < (l0.length : Int)
  rotate_left
  · rw [if_neg c4] at H
    exact absurd H (by simp)
  rw [if_pos c4] at H
  have c4b0 := decide_eq_true c4
  clear c4
  have HC5 := Ax H
  clear H
  have p381 : 0 ≤ (x7_1 : Int) := of_decide_eq_true (by first | (with_reducible assumption) | assumption)
  have q381 : x7_1 < (l0.length : Int) := of_decide_eq_true (by first | (with_reducible assumption) | assumption)
  obtain ⟨ad381, e381, hx381_0, hx381_1, hx381_2⟩ := at_T61 HR0.out x7_1 p381 q381
  cases e381
  replace hx381_0 := (HB.out.cell (World.block_lt_of_cell? w _ hx381_0)).trans hx381_0
  replace hx381_1 := (HB.out.cell (World.block_lt_of_cell? w _ hx381_1)).trans hx381_1
  replace hx381_2 := (HB.out.cell (World.block_lt_of_cell? w _ hx381_2)).trans hx381_2
  replace p381 := eq_true p381
  replace q381 := eq_true q381
  go_upto_region 4 with (first | ((with_reducible refine gate_dst (N := 4) rfl ?_); refine box_event ?hg (N := 4) ?hd (cs := #[.int .u8 0, .int .i64 0, .int .i64 0]) (t := 61) ?hr ?_; (case hd => rfl); (case hg => rfl); (case hr => first | (go_simp; done) | (go_simp; rfl)); intro gb382 hg w6 hbox hb; have BK382 := Ax (hbox); have GW382 := Ax ((by rw [hg]; exact (below_size (zHB)) : w.heap.size ≤ gb382)); have GE382 := Ax ((by rw [hg]; exact (below_size (zHB)) : w.heap.size ≤ gb382)); replace HB := Ax (below_step (zHB) hb); clear hb hbox hg; obtain ⟨hcz7_0, hcz7_1, hcz7_2, hfz7_0, hfz7_1, hfz7_2⟩ := cells3 BK382.out))
  (try simp only [Act.put, List.setIfInBounds_toArray, List.set_cons_zero, List.set_cons_succ])
  go_cut [38] (fun v38 wc => ∃ (kq : Nat) (x38_4 : Bool), v38 = .bool x38_4 ∧ Aside0 (impl_TextOk.j1 kq l0 l0 (l0.length : Int) x7_1 x38_4 = some r) ∧ Aside0 (kq ≤ k1) ∧ Aside0 (wc.heap[gb382]? = some (.cells #[.int .u8 ((rd_T61 l0 x7_1).f0), .int .i64 ((rd_T61 l0 x7_1).f1), .int .i64 ((rd_T61 l0 x7_1).f2)] 61 (0, 0))) ∧ Aside0 (Below w.heap.size w wc))
  case first =>
   have H := HC5.out
   clear HC5
   obtain ⟨t383, A8, H⟩ := bnd H
   obtain rfl | rfl := tf t383
   rotate_left
   · rw [if_neg Bool.false_ne_true] at H
     have H' := Ax H
     clear H
     obtain ⟨_, _, _, _, _, _⟩ := cells3 BK382.out
     go_wp2_with (first | ((with_reducible refine gate_callee (f := 58) rfl ?_); refine goesL_ (some 13) rfl rfl Try.func58 (by kernel_rfl) rfl #[.int .u8 ((rd_T61 l0 x7_1).f0)] rfl (z0) ?_; (with_reducible refine (impl_byteOk.calls ((rd_T61 l0 x7_1).f0) false _ A8.out).mono ?_); rintro e w' ⟨rfl, ⟨nd, rfl⟩⟩; refine ⟨_, rfl, ?_⟩))
     go_meet
     exact ⟨_, (true), (z1), H', ⟨z2⟩, ⟨zK⟩, ⟨zHB⟩⟩
   rw [if_pos rfl] at H
   obtain ⟨t384, A10, H⟩ := bnd H
   obtain rfl | rfl := tf t384
   rotate_left
   · rw [if_neg Bool.false_ne_true] at H
     have H' := Ax H
     clear H
     obtain ⟨_, _, _, _, _, _⟩ := cells3 BK382.out
     go_wp2_with (first | ((with_reducible refine gate_callee (f := 58) rfl ?_); refine goesL_ (some 13) rfl rfl Try.func58 (by kernel_rfl) rfl #[.int .u8 ((rd_T61 l0 x7_1).f0)] rfl (z0) ?_; (with_reducible refine (impl_byteOk.calls ((rd_T61 l0 x7_1).f0) true _ A8.out).mono ?_); rintro e w' ⟨rfl, ⟨nd, rfl⟩⟩; refine ⟨_, rfl, ?_⟩) | (go_at_call 41; (with_reducible refine (impl_within.calls ((rd_T61 l0 x7_1).f1) 0 3 false _ A10.out).mono ?_); rintro e w' ⟨rfl, ⟨nd, rfl⟩⟩))
     go_meet
     exact ⟨_, (true), (z1), H', ⟨z2⟩, ⟨zK⟩, ⟨zHB⟩⟩
   rw [if_pos rfl] at H
   obtain ⟨t385, A12, H⟩ := bnd H
   obtain rfl | rfl := tf t385
   rotate_left
   · rw [if_neg Bool.false_ne_true] at H
     have H' := Ax H
     clear H
     obtain ⟨_, _, _, _, _, _⟩ := cells3 BK382.out
     go_wp2_with (first | ((with_reducible refine gate_callee (f := 58) rfl ?_); refine goesL_ (some 13) rfl rfl Try.func58 (by kernel_rfl) rfl #[.int .u8 ((rd_T61 l0 x7_1).f0)] rfl (z0) ?_; (with_reducible refine (impl_byteOk.calls ((rd_T61 l0 x7_1).f0) true _ A8.out).mono ?_); rintro e w' ⟨rfl, ⟨nd, rfl⟩⟩; refine ⟨_, rfl, ?_⟩) | (go_at_call 41; (with_reducible refine (impl_within.calls ((rd_T61 l0 x7_1).f1) 0 3 true _ A10.out).mono ?_); rintro e w' ⟨rfl, ⟨nd, rfl⟩⟩) | (go_at_call 41; (with_reducible refine (impl_within.calls ((rd_T61 l0 x7_1).f2) 0 3 false _ A12.out).mono ?_); rintro e w' ⟨rfl, ⟨nd, rfl⟩⟩))
     go_meet
     exact ⟨_, (true), (z1), H', ⟨z2⟩, ⟨zK⟩, ⟨zHB⟩⟩
   rw [if_pos rfl] at H
   by_cases c14 : ((rd_T61 l0 x7_1).f1) = 0
   · rw [if_pos c14] at H
     have c14b0 : (((rd_T61 l0 x7_1).f1) == 0) = true := beq_iff_eq.mpr c14
     have c14b1 : (((rd_T61 l0 x7_1).f1) != 0) = false := bne_eq_false_iff_eq.mpr c14
     clear c14
     (first | rw [c14b0] | (simp only [i64_w, i32_w]; rw [c14b0]) | skip)
     have H' := Ax H
     clear H
     obtain ⟨_, _, _, _, _, _⟩ := cells3 BK382.out
     go_wp2_with (first | ((with_reducible refine gate_callee (f := 58) rfl ?_); refine goesL_ (some 13) rfl rfl Try.func58 (by kernel_rfl) rfl #[.int .u8 ((rd_T61 l0 x7_1).f0)] rfl (z0) ?_; (with_reducible refine (impl_byteOk.calls ((rd_T61 l0 x7_1).f0) true _ A8.out).mono ?_); rintro e w' ⟨rfl, ⟨nd, rfl⟩⟩; refine ⟨_, rfl, ?_⟩) | (go_at_call 41; (with_reducible refine (impl_within.calls ((rd_T61 l0 x7_1).f1) 0 3 true _ A10.out).mono ?_); rintro e w' ⟨rfl, ⟨nd, rfl⟩⟩) | (go_at_call 41; (with_reducible refine (impl_within.calls ((rd_T61 l0 x7_1).f2) 0 3 true _ A12.out).mono ?_); rintro e w' ⟨rfl, ⟨nd, rfl⟩⟩))
     go_meet
     exact ⟨_, (false), (z1), H', ⟨z2⟩, ⟨zK⟩, ⟨zHB⟩⟩
   rw [if_neg c14] at H
   have c14b0 : (((rd_T61 l0 x7_1).f1) == 0) = false := beq_eq_false_iff_ne.mpr c14
   have c14b1 : (((rd_T61 l0 x7_1).f1) != 0) = true := bne_iff_ne.mpr c14
   (first | rw [c14b0] | (simp only [i64_w, i32_w]; rw [c14b0]) | skip)
   have H' := Ax H
   clear H
   obtain ⟨_, _, _, _, _, _⟩ := cells3 BK382.out
   go_wp2_with (first | ((with_reducible refine gate_callee (f := 58) rfl ?_); refine goesL_ (some 13) rfl rfl Try.func58 (by kernel_rfl) rfl #[.int .u8 ((rd_T61 l0 x7_1).f0)] rfl (z0) ?_; (with_reducible refine (impl_byteOk.calls ((rd_T61 l0 x7_1).f0) true _ A8.out).mono ?_); rintro e w' ⟨rfl, ⟨nd, rfl⟩⟩; refine ⟨_, rfl, ?_⟩) | (go_at_call 41; (with_reducible refine (impl_within.calls ((rd_T61 l0 x7_1).f1) 0 3 true _ A10.out).mono ?_); rintro e w' ⟨rfl, ⟨nd, rfl⟩⟩) | (go_at_call 41; (with_reducible refine (impl_within.calls ((rd_T61 l0 x7_1).f2) 0 3 true _ A12.out).mono ?_); rintro e w' ⟨rfl, ⟨nd, rfl⟩⟩))
   go_meet
   exact ⟨_, ((((rd_T61 l0 x7_1).f1) == ((rd_T61 l0 x7_1).f2))), (z1), H', ⟨z2⟩, ⟨zK⟩, ⟨zHB⟩⟩
  clear HC5
  (try clear c2); (try clear c2b0); (try clear c3); (try clear c3b0); (try clear c4); (try clear c4b0); (try clear hcz7_0); (try clear hcz7_1); (try clear hcz7_2); (try clear hfz7_0); (try clear hfz7_1); (try clear hfz7_2); (try clear hx381_0); (try clear hx381_1); (try clear hx381_2); (try clear p381); (try clear q381)
  obtain ⟨kq, x38_4, rfl, HA, HJ4, BK382, HB⟩ := hcut
  cases kq with
  | zero => exact absurd HA.out (by simp [impl_TextOk.j1])
  | succ kj4 =>
   have H := HA.out
   clear HA
   simp only [impl_TextOk.j1] at H
   obtain rfl | rfl := tf x38_4
   · rw [if_pos rfl] at H
     obtain rfl := Option.some.inj H
     go_wp2
     go_ret
     exact ⟨z3, zHB⟩
   rw [if_neg Bool.false_ne_true] at H
   have H' := Ax H
   clear H
   go_wp2
   go_roundg kj4
   case measure => have := HK1.out; have := HJ4.out; omega
   exact ⟨(wrap64 (x7_1 + 1)), (z1), H', ⟨by have := HK1.out; have := HJ4.out; omega⟩, ⟨zHB⟩⟩
end Go.Proofs.Ytljgbeccmcidkaa.P
namespace Go.Proofs.Ytljgbeccmcidkaa.P
open Go.RowKit Go.Proofs.YtljgbeccmcidkaaW.PrintWords Go.Proofs.YtljgbeccmcidkaaW.PrintLast Go.Proofs.YtljgbeccmcidkaaW.PrintMore
attribute [local go_sem] max2_int min2_int max_two min_two max_three min_three max_four min_four   -- for this text's walks alone
set_option linter.unusedVariables false
set_option linter.unusedSimpArgs false

attribute [local go_sem ↓] isSome_setCell
/-! ### spec_l6In: function 49 -/
def spec_l6In.f (a0 : Int) (a1 : Int) (a2 : Int) : Option (Bool) := if a0 ≥ a1 then (some (decide (a0 ≤ a2))) else (some false)
set_option maxHeartbeats 8000000 in
set_option maxRecDepth 100000 in
theorem spec_l6In.calls (a0 : Int) (a1 : Int) (a2 : Int) (r : Bool) (w : World) (h : spec_l6In.f a0 a1 a2 = some r) :
    Calls Try.prog 49 #[.int .i64 a0, .int .i64 a1, .int .i64 a2] w fun e w' => e = .returned (.bool r) ∧ Drawn0 w w' := by
 have H : (if a0 ≥ a1 then (some (decide (a0 ≤ a2))) else (some false)) = some r := h
 clear h
 by_cases c4 : a0 ≥ a1
 · rw [if_pos c4] at H
   have c4b0 := decide_eq_true c4
   clear c4
   obtain rfl := Option.some.inj H
   go_enter Try.func49, Try.ntmps49
   go_wp2
   go_ret
   exact ⟨by first | rfl | (simp; done) | (simp [*]; done), by repeat (first | exact Drawn0.refl _ | apply Drawn0.step)⟩
 rw [if_neg c4] at H
 have c4b0 : decide (a1 ≤ a0) = false := decide_eq_false c4
 clear c4
 obtain rfl := Option.some.inj H
 go_enter Try.func49, Try.ntmps49
 go_wp2
 go_ret
 exact ⟨by first | rfl | (simp; done) | (simp [*]; done), by repeat (first | exact Drawn0.refl _ | apply Drawn0.step)⟩
end Go.Proofs.Ytljgbeccmcidkaa.P
namespace Go.Proofs.Ytljgbeccmcidkaa.P
open Go.RowKit Go.Proofs.YtljgbeccmcidkaaW.PrintWords Go.Proofs.YtljgbeccmcidkaaW.PrintLast Go.Proofs.YtljgbeccmcidkaaW.PrintMore
attribute [local go_sem] max2_int min2_int max_two min_two max_three min_three max_four min_four   -- for this text's walks alone
set_option linter.unusedVariables false
set_option linter.unusedSimpArgs false

attribute [local go_sem ↓] isSome_setCell
/-! ### spec_l1Sign: function 68 -/
def spec_l1Sign.j0 : Nat → Bool → Int → Int → Int → Option (Bool)
  | 0, _, _, _, _ => none
  | k + 1, x3, x115000, x115001, x115002 => if x3 = true then ((spec_l6In.f x115001 0 3).bind fun t115 => (if t115 = true then ((spec_l6In.f x115002 0 3).bind fun t116 => (if t116 = true then (if x115002 = 0 then (some true) else (some (x115001 != x115002))) else (some false))) else (some false))) else (some false)
def spec_l1Sign.f (k : Nat) (a0_0 : Int) (a0_1 : Int) (a0_2 : Int) : Option (Bool) := if a0_0 ≥ 97 then (if a0_0 ≤ 122 then (spec_l1Sign.j0 k true a0_0 a0_1 a0_2) else (if a0_0 = 32 then (spec_l1Sign.j0 k true a0_0 a0_1 a0_2) else (if a0_0 ≥ 48 then (spec_l1Sign.j0 k (decide (a0_0 ≤ 57)) a0_0 a0_1 a0_2) else (spec_l1Sign.j0 k false a0_0 a0_1 a0_2)))) else (if a0_0 = 32 then (spec_l1Sign.j0 k true a0_0 a0_1 a0_2) else (if a0_0 ≥ 48 then (spec_l1Sign.j0 k (decide (a0_0 ≤ 57)) a0_0 a0_1 a0_2) else (spec_l1Sign.j0 k false a0_0 a0_1 a0_2)))
theorem spec_l1Sign.mono_l : ∀ k, (∀ y0 y1 y2 y3, LeO (spec_l1Sign.j0 k y0 y1 y2 y3) (spec_l1Sign.j0 (k + 1) y0 y1 y2 y3))
  | 0 => fun _ _ _ _ r h => by simp [spec_l1Sign.j0] at h
  | k + 1 => by
    have ih0 := spec_l1Sign.mono_l k
    · intro y0 y1 y2 y3
      unfold spec_l1Sign.j0
      with_reducible repeat' first | exact ih0 _ _ _ _ | exact LeO.refl _ | exact LeO.none _ | refine LeO.ite ?_ ?_ | refine LeO.bind ?_ (fun _ => ?_)
theorem spec_l1Sign.mono : ∀ a0 a1 a2 k, LeO (spec_l1Sign.f k a0 a1 a2) (spec_l1Sign.f (k + 1) a0 a1 a2) := by
  intro a0 a1 a2 k
  have ih0 := spec_l1Sign.mono_l k
  unfold spec_l1Sign.f
  with_reducible repeat' first | exact ih0 _ _ _ _ | exact LeO.refl _ | exact LeO.none _ | refine LeO.ite ?_ ?_ | refine LeO.bind ?_ (fun _ => ?_)
theorem spec_l1Sign.zHB {p : Prop} (h : p := by repeat (first | (with_reducible first | exact HB.out | apply below_alloc | apply pw_below_drewN | apply below_drew1 | refine below_set ?_ GE114.out) | exact HB.out)) : p := h
theorem spec_l1Sign.zK {p : Prop} (h : p := by repeat' first | (with_reducible first | exact BK114.out | apply blk_drewN | apply blk_drew | apply blk_alloc | apply blk_putE) | exact (rfl : List.set _ _ _ = _)) : p := h
theorem spec_l1Sign.z0 {p : Prop} (h : p := by first | rfl | (simp [errW_none, errW_some] <;> rfl) | (simp [*, errW_none, errW_some] <;> rfl)) : p := h
theorem spec_l1Sign.z1 {p : Prop} (h : p := by first | rfl | (simp; done) | (simp [*]; done)) : p := h
theorem spec_l1Sign.z2 {p : Prop} (h : p := by first | omega | exact Nat.le_refl _) : p := h
set_option maxHeartbeats 8000000 in
set_option maxRecDepth 100000 in
theorem spec_l1Sign.calls (k : Nat) (a0_0 : Int) (a0_1 : Int) (a0_2 : Int) (r : Bool) (w : World) (h : spec_l1Sign.f k a0_0 a0_1 a0_2 = some r) :
    Calls Try.prog 68 #[.agg #[.int .u8 a0_0, .int .i64 a0_1, .int .i64 a0_2]] w fun e w' => e = .returned (.bool r) ∧ Below w.heap.size w w' := by
 have hu61 := Try.underlying61
 have HB := Ax (Below.refl w.heap.size w)
 have H : (if a0_0 ≥ 97 then (if a0_0 ≤ 122 then (spec_l1Sign.j0 k true a0_0 a0_1 a0_2) else (if a0_0 = 32 then (spec_l1Sign.j0 k true a0_0 a0_1 a0_2) else (if a0_0 ≥ 48 then (spec_l1Sign.j0 k (decide (a0_0 ≤ 57)) a0_0 a0_1 a0_2) else (spec_l1Sign.j0 k false a0_0 a0_1 a0_2)))) else (if a0_0 = 32 then (spec_l1Sign.j0 k true a0_0 a0_1 a0_2) else (if a0_0 ≥ 48 then (spec_l1Sign.j0 k (decide (a0_0 ≤ 57)) a0_0 a0_1 a0_2) else (spec_l1Sign.j0 k false a0_0 a0_1 a0_2)))) = some r := h
 clear h
 have HC2 := Ax H
 clear H
 go_enter Try.func68, Try.ntmps68
 go_upto_region 1 with (first | ((with_reducible refine gate_dst (N := 1) rfl ?_); refine box_event ?hg (N := 1) ?hd (cs := #[.int .u8 a0_0, .int .i64 a0_1, .int .i64 a0_2]) (t := 61) ?hr ?_; (case hd => rfl); (case hg => rfl); (case hr => first | (go_simp; done) | (go_simp; rfl)); intro gb114 hg w3 hbox hb; have BK114 := Ax (hbox); have GW114 := Ax ((by rw [hg]; exact (below_size (zHB)) : w.heap.size ≤ gb114)); have GE114 := Ax ((by rw [hg]; exact (below_size (zHB)) : w.heap.size ≤ gb114)); replace HB := Ax (below_step (zHB) hb); clear hb hbox hg))
 (try simp only [Act.put, List.setIfInBounds_toArray, List.set_cons_zero, List.set_cons_succ])
 go_cut [3] (fun v3 wc => ∃ (kq : Nat) (x3_1 : Bool), v3 = .bool x3_1 ∧ Aside0 (spec_l1Sign.j0 kq x3_1 a0_0 a0_1 a0_2 = some r) ∧ Aside0 (kq ≤ k) ∧ Aside0 (wc.heap[gb114]? = some (.cells #[.int .u8 a0_0, .int .i64 a0_1, .int .i64 a0_2] 61 (0, 0))) ∧ Aside0 (Below w.heap.size w wc))
 case first =>
  have H := HC2.out
  clear HC2
  by_cases c4 : a0_0 ≥ 97
  rotate_left
  · rw [if_neg c4] at H
    have c4b0 : decide (97 ≤ a0_0) = false := decide_eq_false c4
    clear c4
    (first | rw [c4b0] | (simp only [i64_w, i32_w]; rw [c4b0]) | skip)
    by_cases c12 : a0_0 = 32
    · rw [if_pos c12] at H
      have c12b0 : (a0_0 == 32) = true := beq_iff_eq.mpr c12
      have c12b1 : (a0_0 != 32) = false := bne_eq_false_iff_eq.mpr c12
      clear c12
      have H' := Ax H
      clear H
      obtain ⟨_, _, _, _, _, _⟩ := cells3 BK114.out
      go_wp2
      go_meet
      exact ⟨_, (true), (z1), H', ⟨z2⟩, ⟨zK⟩, ⟨zHB⟩⟩
    rw [if_neg c12] at H
    have c12b0 : (a0_0 == 32) = false := beq_eq_false_iff_ne.mpr c12
    have c12b1 : (a0_0 != 32) = true := bne_iff_ne.mpr c12
    by_cases c14 : a0_0 ≥ 48
    · rw [if_pos c14] at H
      have c14b0 := decide_eq_true c14
      clear c14
      have H' := Ax H
      clear H
      obtain ⟨_, _, _, _, _, _⟩ := cells3 BK114.out
      go_wp2
      go_meet
      exact ⟨_, (decide (a0_0 ≤ 57)), (z1), H', ⟨z2⟩, ⟨zK⟩, ⟨zHB⟩⟩
    rw [if_neg c14] at H
    have c14b0 : decide (48 ≤ a0_0) = false := decide_eq_false c14
    clear c14
    have H' := Ax H
    clear H
    obtain ⟨_, _, _, _, _, _⟩ := cells3 BK114.out
    go_wp2
    go_meet
    exact ⟨_, (false), (z1), H', ⟨z2⟩, ⟨zK⟩, ⟨zHB⟩⟩
  rw [if_pos c4] at H
  have c4b0 := decide_eq_true c4
  clear c4
  (first | rw [c4b0] | (simp only [i64_w, i32_w]; rw [c4b0]) | skip)
  by_cases c5 : a0_0 ≤ 122
  · rw [if_pos c5] at H
    have c5b0 := decide_eq_true c5
    clear c5
    have H' := Ax H
    clear H
    obtain ⟨_, _, _, _, _, _⟩ := cells3 BK114.out
    go_wp2
    go_meet
    exact ⟨_, (true), (z1), H', ⟨z2⟩, ⟨zK⟩, ⟨zHB⟩⟩
  rw [if_neg c5] at H
  have c5b0 := decide_eq_false c5
  clear c5
  by_cases c7 : a0_0 = 32
  · rw [if_pos c7] at H
    have c7b0 : (a0_0 == 32) = true := beq_iff_eq.mpr c7
    have c7b1 : (a0_0 != 32) = false := bne_eq_false_iff_eq.mpr c7
    clear c7
    have H' := Ax H
    clear H
    obtain ⟨_, _, _, _, _, _⟩ := cells3 BK114.out
    go_wp2
    go_meet
    exact ⟨_, (true), (z1), H', ⟨z2⟩, ⟨zK⟩, ⟨zHB⟩⟩
  rw [if_neg c7] at H
  have c7b0 : (a0_0 == 32) = false := beq_eq_false_iff_ne.mpr c7
  have c7b1 : (a0_0 != 32) = true := bne_iff_ne.mpr c7
  by_cases c9 : a0_0 ≥ 48
  · rw [if_pos c9] at H
    have c9b0 := decide_eq_true c9
    clear c9
    have H' := Ax H
    clear H
    obtain ⟨_, _, _, _, _, _⟩ := cells3 BK114.out
    go_wp2
    go_meet
    exact ⟨_, (decide (a0_0 ≤ 57)), (z1), H', ⟨z2⟩, ⟨zK⟩, ⟨zHB⟩⟩
  rw [if_neg c9] at H
  have c9b0 : decide (48 ≤ a0_0) = false := decide_eq_false c9
  clear c9
  have H' := Ax H
  clear H
  obtain ⟨_, _, _, _, _, _⟩ := cells3 BK114.out
  go_wp2
  go_meet
  exact ⟨_, (false), (z1), H', ⟨z2⟩, ⟨zK⟩, ⟨zHB⟩⟩
 clear HC2
 obtain ⟨kq, x3_1, rfl, HA, HJ1, BK114, HB⟩ := hcut
 cases kq with
 | zero => exact absurd HA.out (by simp [spec_l1Sign.j0])
 | succ kj1 =>
  have H := HA.out
  clear HA
  simp only [spec_l1Sign.j0] at H
  obtain rfl | rfl := tf x3_1
  rotate_left
  · rw [if_neg Bool.false_ne_true] at H
    obtain rfl := Option.some.inj H
    go_wp2
    go_ret
    exact ⟨z0, zHB⟩
  rw [if_pos rfl] at H
  obtain ⟨t115, A18, H⟩ := bnd H
  obtain rfl | rfl := tf t115
  rotate_left
  · rw [if_neg Bool.false_ne_true] at H
    obtain rfl := Option.some.inj H
    obtain ⟨_, _, _, _, _, _⟩ := cells3 BK114.out
    go_wp2_with (first | (go_at_call 49; (with_reducible refine (spec_l6In.calls a0_1 0 3 false _ A18.out).mono ?_); rintro e w' ⟨rfl, ⟨nd, rfl⟩⟩))
    go_ret
    exact ⟨z0, zHB⟩
  rw [if_pos rfl] at H
  obtain ⟨t116, A20, H⟩ := bnd H
  obtain rfl | rfl := tf t116
  rotate_left
  · rw [if_neg Bool.false_ne_true] at H
    obtain rfl := Option.some.inj H
    obtain ⟨_, _, _, _, _, _⟩ := cells3 BK114.out
    go_wp2_with (first | (go_at_call 49; (with_reducible refine (spec_l6In.calls a0_1 0 3 true _ A18.out).mono ?_); rintro e w' ⟨rfl, ⟨nd, rfl⟩⟩) | (go_at_call 49; (with_reducible refine (spec_l6In.calls a0_2 0 3 false _ A20.out).mono ?_); rintro e w' ⟨rfl, ⟨nd, rfl⟩⟩))
    go_ret
    exact ⟨z0, zHB⟩
  rw [if_pos rfl] at H
  by_cases c22 : a0_2 = 0
  · rw [if_pos c22] at H
    have c22b0 : (a0_2 == 0) = true := beq_iff_eq.mpr c22
    have c22b1 : (a0_2 != 0) = false := bne_eq_false_iff_eq.mpr c22
    clear c22
    obtain rfl := Option.some.inj H
    obtain ⟨_, _, _, _, _, _⟩ := cells3 BK114.out
    go_wp2_with (first | (go_at_call 49; (with_reducible refine (spec_l6In.calls a0_1 0 3 true _ A18.out).mono ?_); rintro e w' ⟨rfl, ⟨nd, rfl⟩⟩) | (go_at_call 49; (with_reducible refine (spec_l6In.calls a0_2 0 3 true _ A20.out).mono ?_); rintro e w' ⟨rfl, ⟨nd, rfl⟩⟩))
    go_ret
    exact ⟨z0, zHB⟩
  rw [if_neg c22] at H
  have c22b0 : (a0_2 == 0) = false := beq_eq_false_iff_ne.mpr c22
  have c22b1 : (a0_2 != 0) = true := bne_iff_ne.mpr c22
  obtain rfl := Option.some.inj H
  obtain ⟨_, _, _, _, _, _⟩ := cells3 BK114.out
  go_wp2_with (first | (go_at_call 49; (with_reducible refine (spec_l6In.calls a0_1 0 3 true _ A18.out).mono ?_); rintro e w' ⟨rfl, ⟨nd, rfl⟩⟩) | (go_at_call 49; (with_reducible refine (spec_l6In.calls a0_2 0 3 true _ A20.out).mono ?_); rintro e w' ⟨rfl, ⟨nd, rfl⟩⟩))
  go_ret
  exact ⟨z0, zHB⟩
end Go.Proofs.Ytljgbeccmcidkaa.P
namespace Go.Proofs.Ytljgbeccmcidkaa.P
open Go.RowKit Go.Proofs.YtljgbeccmcidkaaW.PrintWords Go.Proofs.YtljgbeccmcidkaaW.PrintLast Go.Proofs.YtljgbeccmcidkaaW.PrintMore
attribute [local go_sem] max2_int min2_int max_two min_two max_three min_three max_four min_four   -- for this text's walks alone
set_option linter.unusedVariables false
set_option linter.unusedSimpArgs false

attribute [local go_sem ↓] isSome_setCell
/-! ### spec_TextOk: function 64 -/
def spec_TextOk.l0 : Nat → List (S61) → Int → Option (Bool)
  | 0, _, _ => none
  | k + 1, x0, x3 => if x3 < (x0.length : Int) then (if 0 ≤ x3 then ((spec_l1Sign.f k ((rd_T61 x0 x3).f0) ((rd_T61 x0 x3).f1) ((rd_T61 x0 x3).f2)).bind fun t118 => (if t118 = true then (spec_TextOk.l0 k x0 (wrap64 (x3 + 1))) else (some false))) else (none)) else (some true)
def spec_TextOk.f (k : Nat) (l0 : List (S61)) : Option (Bool) := if (l0.length : Int) > 24 then (some false) else (spec_TextOk.l0 k l0 0)
theorem spec_TextOk.mono_l : ∀ k, (∀ y0 y1, LeO (spec_TextOk.l0 k y0 y1) (spec_TextOk.l0 (k + 1) y0 y1))
  | 0 => fun _ _ r h => by simp [spec_TextOk.l0] at h
  | k + 1 => by
    have ih0 := spec_TextOk.mono_l k
    · intro y0 y1
      unfold spec_TextOk.l0
      with_reducible repeat' first | exact ih0 _ _ | exact spec_l1Sign.mono _ _ _ _ | exact LeO.refl _ | exact LeO.none _ | refine LeO.ite ?_ ?_ | refine LeO.bind ?_ (fun _ => ?_)
theorem spec_TextOk.mono : ∀ a0 k, LeO (spec_TextOk.f k a0) (spec_TextOk.f (k + 1) a0) := by
  intro a0 k
  have ih0 := spec_TextOk.mono_l k
  unfold spec_TextOk.f
  with_reducible repeat' first | exact ih0 _ _ | exact spec_l1Sign.mono _ _ _ _ | exact LeO.refl _ | exact LeO.none _ | refine LeO.ite ?_ ?_ | refine LeO.bind ?_ (fun _ => ?_)
theorem spec_TextOk.zHB {p : Prop} (h : p := by repeat (first | (with_reducible first | exact HB.out | apply below_alloc | apply pw_below_drewN | apply below_drew1) | exact HB.out)) : p := h
theorem spec_TextOk.z0 {p : Prop} (h : p := by first | rfl | (simp [errW_none, errW_some] <;> rfl) | (simp [*, errW_none, errW_some] <;> rfl)) : p := h
theorem spec_TextOk.z1 {p : Prop} (h : p := by first | (with_reducible assumption) | assumption) : p := h
theorem spec_TextOk.z2 {p : Prop} (h : p := by (try simp only [List.map_toArray, List.map_cons, List.map_nil]); first | done | rfl | (simp only [List.length_drop, List.length_take]; rfl)) : p := h
set_option maxHeartbeats 8000000 in
set_option maxRecDepth 100000 in
theorem spec_TextOk.calls (k : Nat) (A0 : Option Addr) (c0 : Nat) (l0 : List (S61)) (r : Bool) (w : World) (hr0 : Kd.C k61 w A0 l0.length l0) (hc0 : l0.length ≤ c0) (h : spec_TextOk.f k l0 = some r) :
    Calls Try.prog 64 #[.slice A0 l0.length c0] w fun e w' => e = .returned (.bool r) ∧ Below w.heap.size w w' := by
 have hu61 := Try.underlying61
 have HR0 := Ax hr0
 have HC0 := Ax hc0
 clear hr0 hc0
 have HB := Ax (Below.refl w.heap.size w)
 have H : (if (l0.length : Int) > 24 then (some false) else (spec_TextOk.l0 k l0 0)) = some r := h
 clear h
 by_cases c2 : (l0.length : Int) > 24
 · rw [if_pos c2] at H
   have c2b0 : decide (24 < (l0.length : Int)) = true := decide_eq_true c2
   have c2b1 : decide (24 < l0.length) = true := decide_eq_true (by omega)
   clear c2
   obtain rfl := Option.some.inj H
   go_enter Try.func64, Try.ntmps64
   go_wp2
   go_ret
   exact ⟨z0, zHB⟩
 rw [if_neg c2] at H
 have c2b0 : decide (24 < (l0.length : Int)) = false := decide_eq_false c2
 have c2b1 : decide (24 < l0.length) = false := decide_eq_false (by omega)
 clear c2
 have H' := Ax H
 clear H
 go_enter Try.func64, Try.ntmps64
 go_wp2
 go_loopg [3] k (fun kq v3 w' => ∃ (x3_1 : Int), v3 = .int .i64 x3_1 ∧ Aside0 (spec_TextOk.l0 kq l0 x3_1 = some r) ∧ Aside0 (kq ≤ k) ∧ Aside0 (Below w.heap.size w w'))
 case atStart => exact ⟨(0), (by first | rfl | (simp; done) | (simp [*]; done)), H', ⟨Nat.le_refl _⟩, ⟨zHB⟩⟩
 clear H'
 (try clear c2); (try clear c2b0); (try clear c2b1)
 obtain ⟨x3_1, rfl, HA, HK1, HB⟩ := hrel
 cases gk with
 | zero => exact absurd HA.out (by simp [spec_TextOk.l0])
 | succ k1 =>
  have H := HA.out
  clear HA
  simp only [spec_TextOk.l0] at H
  by_cases c3 : x3_1 < (l0.length : Int)
  rotate_left
  · rw [if_neg c3] at H
    have c3b0 := decide_eq_false c3
    clear c3
    obtain rfl := Option.some.inj H
    go_wp2
    go_ret
    exact ⟨z0, zHB⟩
  rw [if_pos c3] at H
  have c3b0 := decide_eq_true c3
  clear c3
  by_cases c4 : 0 ≤ x3_1
  rotate_left
  · rw [if_neg c4] at H
    exact absurd H (by simp)
  rw [if_pos c4] at H
  have c4b0 := decide_eq_true c4
  clear c4
  obtain ⟨t118, A5, H⟩ := bnd H
  obtain rfl | rfl := tf t118
  · rw [if_pos rfl] at H
    have H' := Ax H
    clear H
    have p117 : 0 ≤ (x3_1 : Int) := of_decide_eq_true (z1)
    have q117 : x3_1 < (l0.length : Int) := of_decide_eq_true (z1)
    obtain ⟨ad117, e117, hx117_0, hx117_1, hx117_2⟩ := at_T61 HR0.out x3_1 p117 q117
    cases e117
    replace hx117_0 := (HB.out.cell (World.block_lt_of_cell? w _ hx117_0)).trans hx117_0
    replace hx117_1 := (HB.out.cell (World.block_lt_of_cell? w _ hx117_1)).trans hx117_1
    replace hx117_2 := (HB.out.cell (World.block_lt_of_cell? w _ hx117_2)).trans hx117_2
    replace p117 := eq_true p117
    replace q117 := eq_true q117
    go_wp2_with (first | ((with_reducible refine gate_callee (f := 68) rfl ?_); refine goesL_ (some 17) rfl rfl Try.func68 (by kernel_rfl) rfl #[.agg #[.int .u8 ((rd_T61 l0 x3_1).f0), .int .i64 ((rd_T61 l0 x3_1).f1), .int .i64 ((rd_T61 l0 x3_1).f2)]] rfl (z2) ?_; (with_reducible refine (spec_l1Sign.calls k1 ((rd_T61 l0 x3_1).f0) ((rd_T61 l0 x3_1).f1) ((rd_T61 l0 x3_1).f2) true _ A5.out).mono ?_); rintro e w7 ⟨rfl, hb⟩; refine ⟨_, rfl, ?_⟩; replace HB := Ax (below_step (zHB) hb); (try clear hb); (try clear hb2); (try clear hk); (try clear hi)))
    go_roundg k1
    case measure => have := HK1.out; omega
    exact ⟨(wrap64 (x3_1 + 1)), (by first | rfl | (simp; done) | (simp [*]; done)), H', ⟨by have := HK1.out; omega⟩, ⟨zHB⟩⟩
  rw [if_neg Bool.false_ne_true] at H
  obtain rfl := Option.some.inj H
  have p117 : 0 ≤ (x3_1 : Int) := of_decide_eq_true (z1)
  have q117 : x3_1 < (l0.length : Int) := of_decide_eq_true (z1)
  obtain ⟨ad117, e117, hx117_0, hx117_1, hx117_2⟩ := at_T61 HR0.out x3_1 p117 q117
  cases e117
  replace hx117_0 := (HB.out.cell (World.block_lt_of_cell? w _ hx117_0)).trans hx117_0
  replace hx117_1 := (HB.out.cell (World.block_lt_of_cell? w _ hx117_1)).trans hx117_1
  replace hx117_2 := (HB.out.cell (World.block_lt_of_cell? w _ hx117_2)).trans hx117_2
  replace p117 := eq_true p117
  replace q117 := eq_true q117
  go_wp2_with (first | ((with_reducible refine gate_callee (f := 68) rfl ?_); refine goesL_ (some 17) rfl rfl Try.func68 (by kernel_rfl) rfl #[.agg #[.int .u8 ((rd_T61 l0 x3_1).f0), .int .i64 ((rd_T61 l0 x3_1).f1), .int .i64 ((rd_T61 l0 x3_1).f2)]] rfl (z2) ?_; (with_reducible refine (spec_l1Sign.calls k1 ((rd_T61 l0 x3_1).f0) ((rd_T61 l0 x3_1).f1) ((rd_T61 l0 x3_1).f2) false _ A5.out).mono ?_); rintro e w8 ⟨rfl, hb⟩; refine ⟨_, rfl, ?_⟩; replace HB := Ax (below_step (zHB) hb); (try clear hb); (try clear hb2); (try clear hk); (try clear hi)))
  go_ret
  exact ⟨z0, zHB⟩
end Go.Proofs.Ytljgbeccmcidkaa.P
namespace Go.Proofs.Ytljgbeccmcidkaa.P
open Go.RowKit Go.Proofs.YtljgbeccmcidkaaW.PrintWords Go.Proofs.YtljgbeccmcidkaaW.PrintLast Go.Proofs.YtljgbeccmcidkaaW.PrintMore
attribute [local go_sem] max2_int min2_int max_two min_two max_three min_three max_four min_four   -- for this text's walks alone
set_option linter.unusedVariables false
set_option linter.unusedSimpArgs false

attribute [local go_sem ↓] isSome_setCell
/-! ### impl_cloneText: function 66 -/
def impl_cloneText.f (l0 : List (S61)) : Option ((List (S61))) := (some (([] : List (S61)) : List (S61))).bind fun y502 => (if y502.length + l0.length < 5864062014805 then (some (y502 ++ l0)) else (none))
theorem impl_cloneText.zHB {p : Prop} (h : p := by repeat (first | (with_reducible first | exact HB.out | apply below_alloc | apply pw_below_drewN | apply below_drew1) | exact HB.out)) : p := h
theorem impl_cloneText.zy {p : Prop} (h : p := by first | (rw [hy_]; with_reducible exact H) | (have H2_ := (Option.bind_some _ _).symm.trans H; rw [hy_]; with_reducible exact H2_) | (have H2_ := (Option.bind_some _ _).symm.trans H; with_reducible exact H2_) | with_reducible exact H | (rw [hy_]; exact H) | exact H) : p := h
set_option maxHeartbeats 8000000 in
set_option maxRecDepth 100000 in
theorem impl_cloneText.calls (A0 : Option Addr) (c0 : Nat) (l0 : List (S61)) (r : List (S61)) (w : World) (hr0 : Kd.C k61 w A0 l0.length l0) (hc0 : l0.length ≤ c0) (h : impl_cloneText.f l0 = some r) :
    Calls Try.prog 66 #[.slice A0 l0.length c0] w fun e w' => ∃ v0_ : Value, e = .returned (v0_) ∧ Kd.R k61 61 w' w.heap.size (fun _ => True) v0_ r ∧ Below w.heap.size w w' := by
 have HR0 := Ax hr0
 have HC0 := Ax hc0
 clear hr0 hc0
 have HB := Ax (Below.refl w.heap.size w)
 have H : ((some (([] : List (S61)) : List (S61))).bind fun y502 => (if y502.length + l0.length < 5864062014805 then (some (y502 ++ l0)) else (none))) = some r := h
 clear h
 obtain ⟨y502, hy_⟩ : ∃ y_ : List (S61), y_ = (([] : List (S61))) := ⟨_, rfl⟩
 replace H : (if y502.length + l0.length < 5864062014805 then (some (y502 ++ l0)) else (none)) = some r := zy
 have Ny502 := Ax hy_
 clear hy_
 by_cases c2 : y502.length + l0.length < 5864062014805
 rotate_left
 · rw [if_neg c2] at H
   exact absurd H (by simp)
 rw [if_pos c2] at H
 have LMc2 := Ax c2
 clear c2
 obtain ⟨y505, hy_⟩ : ∃ y_ : List (S61), y_ = (y502 ++ l0) := ⟨_, rfl⟩
 replace H : (some y505) = some r := zy
 have Ny505 := Ax hy_
 clear hy_
 obtain rfl := Option.some.inj H
 go_enter Try.func66, Try.ntmps66
 go_wp2_with (first | ((with_reducible refine gate_dst (N := 3) rfl ?_); refine Kd.R_lit k61 _ 61 ?hg (N := 3) ?hd (xs := ([] : List (S61))) (inner := []) (ok := fun _ => True) (okp := fun _ => True) ?hr ?hp (fun _ hk => hk) trivial (Below.refl _ _) (Nat.le_refl _) (by simp) ?_; (case hd => rfl); (case hg => rfl); (case hr => first | (go_simp; done) | (go_simp; rfl)); (case hp => exact (Reps.none _ _)); intro v503 w3 ho4 hb hg_ hnew_; clear hg_ hnew_; (first | rw [← Ny502.out] at ho4 | (simp only [Int.reduceToNat] at ho4; rw [← Ny502.out] at ho4)); have HO504 := Ax (Kd.R_lower ho4 (below_size (zHB))); replace HB := Ax (below_step (zHB) hb); clear hb ho4) | ((with_reducible refine gate_builtin (b := .append) (xs := #[.tmp 3, .tmp 4]) rfl ?_); at_builtin; refine Kd.R_append_rows k61 (w0 := w) w.heap.size rfl (.tmp 3) (.tmp 4) 28 61 (.agg #[(.int .u8 0), (.int .i64 0), (.int .i64 0)]) 24 rfl Try.underlying28 info61 rfl (by decide) (by omega) v503 y502 l0 _ _ _ (fun _ => True) (fun _ => False) rfl rfl ?aO ?aR (fun _ _ h => h) (fun _ h => h.elim) ?aF ?aB ?aS ?aL ?_; (case aR => repeat (first | exact (Kd.C_below HR0.out HB.out) | (with_reducible refine Kd.C_alloc ?_ _) | (with_reducible refine Kd.C_drewN ?_ _) | (with_reducible refine Kd.C_drew ?_))); (case aB => exact (zHB)); (case aF => exact (fun _ _ => trivial)); (case aO => exact (by (with_reducible repeat (first | apply Kd.R_alloc | apply Kd.R_drewN | apply Kd.R_drew)); exact HO504.out)); (case aS => exact (below_size (zHB))); (case aL => have := LMc2.out; omega); intro v506 w5 ho hb hg hat; rw [← Ny505.out] at ho; replace HB := Ax (hb); have HO507 := Ax (ho); clear HO504; clear ho hb hg hat))
 go_ret
 exact ⟨_, by first | rfl | (simp [errW_none, errW_some] <;> rfl) | (simp [*, errW_none, errW_some] <;> rfl), by (with_reducible repeat (first | apply Kd.R_alloc | apply Kd.R_drewN | apply Kd.R_drew)); exact HO507.out, zHB⟩
end Go.Proofs.Ytljgbeccmcidkaa.P
