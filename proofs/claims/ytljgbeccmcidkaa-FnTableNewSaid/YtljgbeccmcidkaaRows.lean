/-
  No cell of these rows narrows 'for every input' (looked for: loops, veiled, ifaces, maps, wideKeys, modest, calm, conditions, laid).
  DERIVED. THE GIVEN ROWS OF THIS SEAT. 11 by the template 'for every input the law returns true; each argument reads behind the call as it read before'; 0 by the template 'total and deterministic' (their statements: YtljgbeccmcidkaaTotals.lean).
  GIVEN WITH THE SEED: the statements are not yours to turn. If you find one false, say at which input.
  Laid BY PROGRAM, IN A SANDBOX (cutbox-rows.mjs): the forced cells as the released guide's own fill.sh prints them over the translation 133a96c15eb39327… (all of the seat's roots in one cut). By AI agents, Wed Nov 11 2026. No macro, syntax, notation, axiom, sorry.
-/
import Derived.Test.YtljgbeccmcidkaaChecked
import GoSem.Claim
import GoSem.ClaimJoined
import GoSem.ClaimMapViews
import Derived.JoinedTies
import Derived.KernelRfl
namespace Go.Proofs.Ytljgbeccmcidkaa
/- THE CELL 'sum', in the pinned program and in every row, IS THE sha256 OF THE DUMP (.gsa) THAT YtljgbeccmcidkaaProg.lean LOADS. Nothing in Lean hashes anything: it is a label: what it is worth is what the hold of that sum in a sandbox is worth. -/
noncomputable def Try.pinned : Pinned := { name := "ytljgbeccmcidkaa", sum := "133a96c15eb393275dee0fb6cd1f720b63991035430f6f5a9ebcaaab78db6e5e", checked := Try.checked }
namespace Rows
def none {H : Type} : Left H := { results := [], args := [] }

/-- 'laws.FnTableOk': WHATEVER THE INPUT: true; the input reads as it did. -/
def fnTableOkSpec : ChangeSpec := { name := "fnTableOk", fn := fun _ => fun
  | [d] => { results := [.lit (.bool true)], args := [d] }
  | _ => none }
def fnTableOkRow : OpenClaim := { program := "ytljgbeccmcidkaa", sum := "133a96c15eb393275dee0fb6cd1f720b63991035430f6f5a9ebcaaab78db6e5e", func := "loop.example/limner/laws.FnTableOk", spec := "fnTableOk", unfollowed := true, recurses := true, apart := false }
def FnTableOkSaid : Prop := fnTableOkRow.holds Try.pinned (OpenSpec.ofChange fnTableOkSpec)

/-- ITS FALSE NEIGHBOUR: 'it returns false'. Refute it at one input. -/
def fnTableOkWrong : ChangeSpec := { name := "fnTableOk", fn := fun _ => fun
  | [d] => { results := [.lit (.bool false)], args := [d] }
  | _ => none }
def FnTableOkWrongFalsely : Prop := fnTableOkRow.holds Try.pinned (OpenSpec.ofChange fnTableOkWrong)

/-- 'laws.FnTableAt': WHATEVER THE INPUT: true; the input reads as it did. -/
def fnTableAtSpec : ChangeSpec := { name := "fnTableAt", fn := fun _ => fun
  | [d] => { results := [.lit (.bool true)], args := [d] }
  | _ => none }
def fnTableAtRow : OpenClaim := { program := "ytljgbeccmcidkaa", sum := "133a96c15eb393275dee0fb6cd1f720b63991035430f6f5a9ebcaaab78db6e5e", func := "loop.example/limner/laws.FnTableAt", spec := "fnTableAt", unfollowed := true, recurses := true, apart := false }
def FnTableAtSaid : Prop := fnTableAtRow.holds Try.pinned (OpenSpec.ofChange fnTableAtSpec)

/-- ITS FALSE NEIGHBOUR: 'it returns false'. Refute it at one input. -/
def fnTableAtWrong : ChangeSpec := { name := "fnTableAt", fn := fun _ => fun
  | [d] => { results := [.lit (.bool false)], args := [d] }
  | _ => none }
def FnTableAtWrongFalsely : Prop := fnTableAtRow.holds Try.pinned (OpenSpec.ofChange fnTableAtWrong)

/-- 'laws.FnTableNew': WHATEVER THE INPUT: true; the input reads as it did. -/
def fnTableNewSpec : ChangeSpec := { name := "fnTableNew", fn := fun _ => fun
  | [d] => { results := [.lit (.bool true)], args := [d] }
  | _ => none }
def fnTableNewRow : OpenClaim := { program := "ytljgbeccmcidkaa", sum := "133a96c15eb393275dee0fb6cd1f720b63991035430f6f5a9ebcaaab78db6e5e", func := "loop.example/limner/laws.FnTableNew", spec := "fnTableNew", unfollowed := true, recurses := true, apart := false }
def FnTableNewSaid : Prop := fnTableNewRow.holds Try.pinned (OpenSpec.ofChange fnTableNewSpec)

/-- ITS FALSE NEIGHBOUR: 'it returns false'. Refute it at one input. -/
def fnTableNewWrong : ChangeSpec := { name := "fnTableNew", fn := fun _ => fun
  | [d] => { results := [.lit (.bool false)], args := [d] }
  | _ => none }
def FnTableNewWrongFalsely : Prop := fnTableNewRow.holds Try.pinned (OpenSpec.ofChange fnTableNewWrong)

/-- 'laws.FnTableTurn': WHATEVER THE INPUT: true; the input reads as it did. -/
def fnTableTurnSpec : ChangeSpec := { name := "fnTableTurn", fn := fun _ => fun
  | [d] => { results := [.lit (.bool true)], args := [d] }
  | _ => none }
def fnTableTurnRow : OpenClaim := { program := "ytljgbeccmcidkaa", sum := "133a96c15eb393275dee0fb6cd1f720b63991035430f6f5a9ebcaaab78db6e5e", func := "loop.example/limner/laws.FnTableTurn", spec := "fnTableTurn", unfollowed := true, recurses := true, apart := false }
def FnTableTurnSaid : Prop := fnTableTurnRow.holds Try.pinned (OpenSpec.ofChange fnTableTurnSpec)

/-- ITS FALSE NEIGHBOUR: 'it returns false'. Refute it at one input. -/
def fnTableTurnWrong : ChangeSpec := { name := "fnTableTurn", fn := fun _ => fun
  | [d] => { results := [.lit (.bool false)], args := [d] }
  | _ => none }
def FnTableTurnWrongFalsely : Prop := fnTableTurnRow.holds Try.pinned (OpenSpec.ofChange fnTableTurnWrong)

/-- 'laws.FnTableCells': WHATEVER THE INPUT: true; the input reads as it did. -/
def fnTableCellsSpec : ChangeSpec := { name := "fnTableCells", fn := fun _ => fun
  | [d] => { results := [.lit (.bool true)], args := [d] }
  | _ => none }
def fnTableCellsRow : OpenClaim := { program := "ytljgbeccmcidkaa", sum := "133a96c15eb393275dee0fb6cd1f720b63991035430f6f5a9ebcaaab78db6e5e", func := "loop.example/limner/laws.FnTableCells", spec := "fnTableCells", unfollowed := true, recurses := true, apart := false }
def FnTableCellsSaid : Prop := fnTableCellsRow.holds Try.pinned (OpenSpec.ofChange fnTableCellsSpec)

/-- ITS FALSE NEIGHBOUR: 'it returns false'. Refute it at one input. -/
def fnTableCellsWrong : ChangeSpec := { name := "fnTableCells", fn := fun _ => fun
  | [d] => { results := [.lit (.bool false)], args := [d] }
  | _ => none }
def FnTableCellsWrongFalsely : Prop := fnTableCellsRow.holds Try.pinned (OpenSpec.ofChange fnTableCellsWrong)

/-- 'laws.FnTableRowIn': WHATEVER THE INPUT: true; the input reads as it did. -/
def fnTableRowInSpec : ChangeSpec := { name := "fnTableRowIn", fn := fun _ => fun
  | [d] => { results := [.lit (.bool true)], args := [d] }
  | _ => none }
def fnTableRowInRow : OpenClaim := { program := "ytljgbeccmcidkaa", sum := "133a96c15eb393275dee0fb6cd1f720b63991035430f6f5a9ebcaaab78db6e5e", func := "loop.example/limner/laws.FnTableRowIn", spec := "fnTableRowIn", unfollowed := true, recurses := true, apart := false }
def FnTableRowInSaid : Prop := fnTableRowInRow.holds Try.pinned (OpenSpec.ofChange fnTableRowInSpec)

/-- ITS FALSE NEIGHBOUR: 'it returns false'. Refute it at one input. -/
def fnTableRowInWrong : ChangeSpec := { name := "fnTableRowIn", fn := fun _ => fun
  | [d] => { results := [.lit (.bool false)], args := [d] }
  | _ => none }
def FnTableRowInWrongFalsely : Prop := fnTableRowInRow.holds Try.pinned (OpenSpec.ofChange fnTableRowInWrong)

/-- 'laws.FnTableRowOut': WHATEVER THE INPUT: true; the input reads as it did. -/
def fnTableRowOutSpec : ChangeSpec := { name := "fnTableRowOut", fn := fun _ => fun
  | [d] => { results := [.lit (.bool true)], args := [d] }
  | _ => none }
def fnTableRowOutRow : OpenClaim := { program := "ytljgbeccmcidkaa", sum := "133a96c15eb393275dee0fb6cd1f720b63991035430f6f5a9ebcaaab78db6e5e", func := "loop.example/limner/laws.FnTableRowOut", spec := "fnTableRowOut", unfollowed := true, recurses := true, apart := false }
def FnTableRowOutSaid : Prop := fnTableRowOutRow.holds Try.pinned (OpenSpec.ofChange fnTableRowOutSpec)

/-- ITS FALSE NEIGHBOUR: 'it returns false'. Refute it at one input. -/
def fnTableRowOutWrong : ChangeSpec := { name := "fnTableRowOut", fn := fun _ => fun
  | [d] => { results := [.lit (.bool false)], args := [d] }
  | _ => none }
def FnTableRowOutWrongFalsely : Prop := fnTableRowOutRow.holds Try.pinned (OpenSpec.ofChange fnTableRowOutWrong)

/-- 'laws.FnTableRow': WHATEVER THE INPUT: true; the input reads as it did. -/
def fnTableRowSpec : ChangeSpec := { name := "fnTableRow", fn := fun _ => fun
  | [d] => { results := [.lit (.bool true)], args := [d] }
  | _ => none }
def fnTableRowRow : OpenClaim := { program := "ytljgbeccmcidkaa", sum := "133a96c15eb393275dee0fb6cd1f720b63991035430f6f5a9ebcaaab78db6e5e", func := "loop.example/limner/laws.FnTableRow", spec := "fnTableRow", unfollowed := true, recurses := true, apart := false }
def FnTableRowSaid : Prop := fnTableRowRow.holds Try.pinned (OpenSpec.ofChange fnTableRowSpec)

/-- ITS FALSE NEIGHBOUR: 'it returns false'. Refute it at one input. -/
def fnTableRowWrong : ChangeSpec := { name := "fnTableRow", fn := fun _ => fun
  | [d] => { results := [.lit (.bool false)], args := [d] }
  | _ => none }
def FnTableRowWrongFalsely : Prop := fnTableRowRow.holds Try.pinned (OpenSpec.ofChange fnTableRowWrong)

/-- 'laws.FnTableRowTwo': WHATEVER THE INPUT: true; the input reads as it did. -/
def fnTableRowTwoSpec : ChangeSpec := { name := "fnTableRowTwo", fn := fun _ => fun
  | [d1, d2] => { results := [.lit (.bool true)], args := [d1, d2] }
  | _ => none }
def fnTableRowTwoRow : OpenClaim := { program := "ytljgbeccmcidkaa", sum := "133a96c15eb393275dee0fb6cd1f720b63991035430f6f5a9ebcaaab78db6e5e", func := "loop.example/limner/laws.FnTableRowTwo", spec := "fnTableRowTwo", unfollowed := true, recurses := true, apart := false }
def FnTableRowTwoSaid : Prop := fnTableRowTwoRow.holds Try.pinned (OpenSpec.ofChange fnTableRowTwoSpec)

/-- ITS FALSE NEIGHBOUR: 'it returns false'. Refute it at one input. -/
def fnTableRowTwoWrong : ChangeSpec := { name := "fnTableRowTwo", fn := fun _ => fun
  | [d1, d2] => { results := [.lit (.bool false)], args := [d1, d2] }
  | _ => none }
def FnTableRowTwoWrongFalsely : Prop := fnTableRowTwoRow.holds Try.pinned (OpenSpec.ofChange fnTableRowTwoWrong)

/-- 'laws.FnTableRowOutTwo': WHATEVER THE INPUT: true; the input reads as it did. -/
def fnTableRowOutTwoSpec : ChangeSpec := { name := "fnTableRowOutTwo", fn := fun _ => fun
  | [d1, d2] => { results := [.lit (.bool true)], args := [d1, d2] }
  | _ => none }
def fnTableRowOutTwoRow : OpenClaim := { program := "ytljgbeccmcidkaa", sum := "133a96c15eb393275dee0fb6cd1f720b63991035430f6f5a9ebcaaab78db6e5e", func := "loop.example/limner/laws.FnTableRowOutTwo", spec := "fnTableRowOutTwo", unfollowed := true, recurses := true, apart := false }
def FnTableRowOutTwoSaid : Prop := fnTableRowOutTwoRow.holds Try.pinned (OpenSpec.ofChange fnTableRowOutTwoSpec)

/-- ITS FALSE NEIGHBOUR: 'it returns false'. Refute it at one input. -/
def fnTableRowOutTwoWrong : ChangeSpec := { name := "fnTableRowOutTwo", fn := fun _ => fun
  | [d1, d2] => { results := [.lit (.bool false)], args := [d1, d2] }
  | _ => none }
def FnTableRowOutTwoWrongFalsely : Prop := fnTableRowOutTwoRow.holds Try.pinned (OpenSpec.ofChange fnTableRowOutTwoWrong)

/-- 'laws.FnTableSigns': WHATEVER THE INPUT: true; the input reads as it did. -/
def fnTableSignsSpec : ChangeSpec := { name := "fnTableSigns", fn := fun _ => fun
  | [d1, d2] => { results := [.lit (.bool true)], args := [d1, d2] }
  | _ => none }
def fnTableSignsRow : OpenClaim := { program := "ytljgbeccmcidkaa", sum := "133a96c15eb393275dee0fb6cd1f720b63991035430f6f5a9ebcaaab78db6e5e", func := "loop.example/limner/laws.FnTableSigns", spec := "fnTableSigns", unfollowed := true, recurses := true, apart := false }
def FnTableSignsSaid : Prop := fnTableSignsRow.holds Try.pinned (OpenSpec.ofChange fnTableSignsSpec)

/-- ITS FALSE NEIGHBOUR: 'it returns false'. Refute it at one input. -/
def fnTableSignsWrong : ChangeSpec := { name := "fnTableSigns", fn := fun _ => fun
  | [d1, d2] => { results := [.lit (.bool false)], args := [d1, d2] }
  | _ => none }
def FnTableSignsWrongFalsely : Prop := fnTableSignsRow.holds Try.pinned (OpenSpec.ofChange fnTableSignsWrong)

/- THE SECOND FORM. 'bulk': how many values and letters a reading holds, each counted each time it is reached (what is shared counts as often as it is met; a slice's spare places count too). A statement '..UptoSaid' is the law's where the arguments, and the package variables that the reading takes, are together of bulk at most 1048576: NARROWER than '..Said'. Prove '..Said' where nothing that the law and all that it calls make is longer than what came in: it says more and counts as full. Else prove '..UptoSaid'. A law counts once. -/
mutual
def uptoBulk {H : Type} : DataW H → Nat
  | .lit (.string bytes) => bytes.length + 1
  | .lit _ => 1
  | .nil => 1
  | .ptr d => uptoBulk d + 1
  | .slice elems spare => uptoBulkAll elems + uptoBulkAll spare + 1
  | .agg parts => uptoBulkAll parts + 1
  | .iface _ d => uptoBulk d + 1
  | .map entries => uptoBulkEntries entries + 1
  | .held _ => 1
def uptoBulkAll {H : Type} : List (DataW H) → Nat
  | [] => 0
  | d :: r => uptoBulk d + uptoBulkAll r
def uptoBulkEntries {H : Type} : List (Lit × DataW H) → Nat
  | [] => 0
  | x :: r => uptoBulkEntry x + uptoBulkEntries r
def uptoBulkEntry {H : Type} : Lit × DataW H → Nat
  | (.string bytes, d) => bytes.length + uptoBulk d + 1
  | (_, d) => uptoBulk d + 1
 end
def uptoSmall : (H : Type) → List (DataW H) → Bool := fun _ ds => decide (uptoBulkAll ds ≤ 1048576)
def OpenSpec.upto (s : _root_.Go.ChangeSpec) : _root_.Go.OpenSpec := { _root_.Go.OpenSpec.ofChange s with cond := some uptoSmall }

/-- 'laws.FnTableOk', WHERE WHAT IT READS IS OF BULK AT MOST 1048576: true; the input reads as it did. -/
def fnTableOkUptoRow : OpenClaim := { program := "ytljgbeccmcidkaa", sum := "133a96c15eb393275dee0fb6cd1f720b63991035430f6f5a9ebcaaab78db6e5e", func := "loop.example/limner/laws.FnTableOk", spec := "fnTableOk", unfollowed := true, recurses := true, apart := false, narrowed := true }
def FnTableOkUptoSaid : Prop := fnTableOkUptoRow.holds Try.pinned (OpenSpec.upto fnTableOkSpec)

/-- 'laws.FnTableAt', WHERE WHAT IT READS IS OF BULK AT MOST 1048576: true; the input reads as it did. -/
def fnTableAtUptoRow : OpenClaim := { program := "ytljgbeccmcidkaa", sum := "133a96c15eb393275dee0fb6cd1f720b63991035430f6f5a9ebcaaab78db6e5e", func := "loop.example/limner/laws.FnTableAt", spec := "fnTableAt", unfollowed := true, recurses := true, apart := false, narrowed := true }
def FnTableAtUptoSaid : Prop := fnTableAtUptoRow.holds Try.pinned (OpenSpec.upto fnTableAtSpec)

/-- 'laws.FnTableNew', WHERE WHAT IT READS IS OF BULK AT MOST 1048576: true; the input reads as it did. -/
def fnTableNewUptoRow : OpenClaim := { program := "ytljgbeccmcidkaa", sum := "133a96c15eb393275dee0fb6cd1f720b63991035430f6f5a9ebcaaab78db6e5e", func := "loop.example/limner/laws.FnTableNew", spec := "fnTableNew", unfollowed := true, recurses := true, apart := false, narrowed := true }
def FnTableNewUptoSaid : Prop := fnTableNewUptoRow.holds Try.pinned (OpenSpec.upto fnTableNewSpec)

/-- 'laws.FnTableTurn', WHERE WHAT IT READS IS OF BULK AT MOST 1048576: true; the input reads as it did. -/
def fnTableTurnUptoRow : OpenClaim := { program := "ytljgbeccmcidkaa", sum := "133a96c15eb393275dee0fb6cd1f720b63991035430f6f5a9ebcaaab78db6e5e", func := "loop.example/limner/laws.FnTableTurn", spec := "fnTableTurn", unfollowed := true, recurses := true, apart := false, narrowed := true }
def FnTableTurnUptoSaid : Prop := fnTableTurnUptoRow.holds Try.pinned (OpenSpec.upto fnTableTurnSpec)

/-- 'laws.FnTableCells', WHERE WHAT IT READS IS OF BULK AT MOST 1048576: true; the input reads as it did. -/
def fnTableCellsUptoRow : OpenClaim := { program := "ytljgbeccmcidkaa", sum := "133a96c15eb393275dee0fb6cd1f720b63991035430f6f5a9ebcaaab78db6e5e", func := "loop.example/limner/laws.FnTableCells", spec := "fnTableCells", unfollowed := true, recurses := true, apart := false, narrowed := true }
def FnTableCellsUptoSaid : Prop := fnTableCellsUptoRow.holds Try.pinned (OpenSpec.upto fnTableCellsSpec)

/-- 'laws.FnTableRowIn', WHERE WHAT IT READS IS OF BULK AT MOST 1048576: true; the input reads as it did. -/
def fnTableRowInUptoRow : OpenClaim := { program := "ytljgbeccmcidkaa", sum := "133a96c15eb393275dee0fb6cd1f720b63991035430f6f5a9ebcaaab78db6e5e", func := "loop.example/limner/laws.FnTableRowIn", spec := "fnTableRowIn", unfollowed := true, recurses := true, apart := false, narrowed := true }
def FnTableRowInUptoSaid : Prop := fnTableRowInUptoRow.holds Try.pinned (OpenSpec.upto fnTableRowInSpec)

/-- 'laws.FnTableRowOut', WHERE WHAT IT READS IS OF BULK AT MOST 1048576: true; the input reads as it did. -/
def fnTableRowOutUptoRow : OpenClaim := { program := "ytljgbeccmcidkaa", sum := "133a96c15eb393275dee0fb6cd1f720b63991035430f6f5a9ebcaaab78db6e5e", func := "loop.example/limner/laws.FnTableRowOut", spec := "fnTableRowOut", unfollowed := true, recurses := true, apart := false, narrowed := true }
def FnTableRowOutUptoSaid : Prop := fnTableRowOutUptoRow.holds Try.pinned (OpenSpec.upto fnTableRowOutSpec)

/-- 'laws.FnTableRow', WHERE WHAT IT READS IS OF BULK AT MOST 1048576: true; the input reads as it did. -/
def fnTableRowUptoRow : OpenClaim := { program := "ytljgbeccmcidkaa", sum := "133a96c15eb393275dee0fb6cd1f720b63991035430f6f5a9ebcaaab78db6e5e", func := "loop.example/limner/laws.FnTableRow", spec := "fnTableRow", unfollowed := true, recurses := true, apart := false, narrowed := true }
def FnTableRowUptoSaid : Prop := fnTableRowUptoRow.holds Try.pinned (OpenSpec.upto fnTableRowSpec)

/-- 'laws.FnTableRowTwo', WHERE WHAT IT READS IS OF BULK AT MOST 1048576: true; the input reads as it did. -/
def fnTableRowTwoUptoRow : OpenClaim := { program := "ytljgbeccmcidkaa", sum := "133a96c15eb393275dee0fb6cd1f720b63991035430f6f5a9ebcaaab78db6e5e", func := "loop.example/limner/laws.FnTableRowTwo", spec := "fnTableRowTwo", unfollowed := true, recurses := true, apart := false, narrowed := true }
def FnTableRowTwoUptoSaid : Prop := fnTableRowTwoUptoRow.holds Try.pinned (OpenSpec.upto fnTableRowTwoSpec)

/-- 'laws.FnTableRowOutTwo', WHERE WHAT IT READS IS OF BULK AT MOST 1048576: true; the input reads as it did. -/
def fnTableRowOutTwoUptoRow : OpenClaim := { program := "ytljgbeccmcidkaa", sum := "133a96c15eb393275dee0fb6cd1f720b63991035430f6f5a9ebcaaab78db6e5e", func := "loop.example/limner/laws.FnTableRowOutTwo", spec := "fnTableRowOutTwo", unfollowed := true, recurses := true, apart := false, narrowed := true }
def FnTableRowOutTwoUptoSaid : Prop := fnTableRowOutTwoUptoRow.holds Try.pinned (OpenSpec.upto fnTableRowOutTwoSpec)

/-- 'laws.FnTableSigns', WHERE WHAT IT READS IS OF BULK AT MOST 1048576: true; the input reads as it did. -/
def fnTableSignsUptoRow : OpenClaim := { program := "ytljgbeccmcidkaa", sum := "133a96c15eb393275dee0fb6cd1f720b63991035430f6f5a9ebcaaab78db6e5e", func := "loop.example/limner/laws.FnTableSigns", spec := "fnTableSigns", unfollowed := true, recurses := true, apart := false, narrowed := true }
def FnTableSignsUptoSaid : Prop := fnTableSignsUptoRow.holds Try.pinned (OpenSpec.upto fnTableSignsSpec)

end Rows
end Go.Proofs.Ytljgbeccmcidkaa
