/-
  No cell of these rows narrows 'for every input' (looked for: loops, veiled, ifaces, maps, wideKeys, modest, calm, conditions, laid).
  DERIVED. THE GIVEN ROWS OF THIS SEAT. 8 by the template 'for every input the law returns true; each argument reads behind the call as it read before'; 0 by the template 'total and deterministic' (their statements: YtalmpbmgmijdkaaTotals.lean).
  GIVEN WITH THE SEED: the statements are not yours to turn. If you find one false, say at which input.
  Laid BY PROGRAM, IN A SANDBOX (cutbox-rows.mjs): the forced cells as the released guide's own fill.sh prints them over the translation 6fcd8147e12c9e19… (all of the seat's roots in one cut). By AI agents, Wed Nov 11 2026. No macro, syntax, notation, axiom, sorry.
-/
import Derived.Test.YtalmpbmgmijdkaaChecked
import GoSem.Claim
import GoSem.ClaimJoined
import GoSem.ClaimMapViews
import Derived.JoinedTies
import Derived.KernelRfl
namespace Go.Proofs.Ytalmpbmgmijdkaa
/- THE CELL 'sum', in the pinned program and in every row, IS THE sha256 OF THE DUMP (.gsa) THAT YtalmpbmgmijdkaaProg.lean LOADS. Nothing in Lean hashes anything: it is a label: what it is worth is what the hold of that sum in a sandbox is worth. -/
noncomputable def Try.pinned : Pinned := { name := "ytalmpbmgmijdkaa", sum := "6fcd8147e12c9e1929c56617529acae3ee0c2a79a9da44c2ff0aef80883782b3", checked := Try.checked }
namespace Rows
def none {H : Type} : Left H := { results := [], args := [] }

/-- 'laws.FnExactTableOk': WHATEVER THE INPUT: true; the input reads as it did. -/
def fnExactTableOkSpec : ChangeSpec := { name := "fnExactTableOk", fn := fun _ => fun
  | [d] => { results := [.lit (.bool true)], args := [d] }
  | _ => none }
def fnExactTableOkRow : OpenClaim := { program := "ytalmpbmgmijdkaa", sum := "6fcd8147e12c9e1929c56617529acae3ee0c2a79a9da44c2ff0aef80883782b3", func := "loop.example/limner/laws.FnExactTableOk", spec := "fnExactTableOk", unfollowed := true, recurses := true, apart := false }
def FnExactTableOkSaid : Prop := fnExactTableOkRow.holds Try.pinned (OpenSpec.ofChange fnExactTableOkSpec)

/-- ITS FALSE NEIGHBOUR: 'it returns false'. Refute it at one input. -/
def fnExactTableOkWrong : ChangeSpec := { name := "fnExactTableOk", fn := fun _ => fun
  | [d] => { results := [.lit (.bool false)], args := [d] }
  | _ => none }
def FnExactTableOkWrongFalsely : Prop := fnExactTableOkRow.holds Try.pinned (OpenSpec.ofChange fnExactTableOkWrong)

/-- 'laws.FnExactTableAt': WHATEVER THE INPUT: true; the input reads as it did. -/
def fnExactTableAtSpec : ChangeSpec := { name := "fnExactTableAt", fn := fun _ => fun
  | [d1, d2, d3] => { results := [.lit (.bool true)], args := [d1, d2, d3] }
  | _ => none }
def fnExactTableAtRow : OpenClaim := { program := "ytalmpbmgmijdkaa", sum := "6fcd8147e12c9e1929c56617529acae3ee0c2a79a9da44c2ff0aef80883782b3", func := "loop.example/limner/laws.FnExactTableAt", spec := "fnExactTableAt", unfollowed := true, recurses := true, apart := false }
def FnExactTableAtSaid : Prop := fnExactTableAtRow.holds Try.pinned (OpenSpec.ofChange fnExactTableAtSpec)

/-- ITS FALSE NEIGHBOUR: 'it returns false'. Refute it at one input. -/
def fnExactTableAtWrong : ChangeSpec := { name := "fnExactTableAt", fn := fun _ => fun
  | [d1, d2, d3] => { results := [.lit (.bool false)], args := [d1, d2, d3] }
  | _ => none }
def FnExactTableAtWrongFalsely : Prop := fnExactTableAtRow.holds Try.pinned (OpenSpec.ofChange fnExactTableAtWrong)

/-- 'laws.FnExactTableNew': WHATEVER THE INPUT: true; the input reads as it did. -/
def fnExactTableNewSpec : ChangeSpec := { name := "fnExactTableNew", fn := fun _ => fun
  | [d1, d2] => { results := [.lit (.bool true)], args := [d1, d2] }
  | _ => none }
def fnExactTableNewRow : OpenClaim := { program := "ytalmpbmgmijdkaa", sum := "6fcd8147e12c9e1929c56617529acae3ee0c2a79a9da44c2ff0aef80883782b3", func := "loop.example/limner/laws.FnExactTableNew", spec := "fnExactTableNew", unfollowed := true, recurses := true, apart := false }
def FnExactTableNewSaid : Prop := fnExactTableNewRow.holds Try.pinned (OpenSpec.ofChange fnExactTableNewSpec)

/-- ITS FALSE NEIGHBOUR: 'it returns false'. Refute it at one input. -/
def fnExactTableNewWrong : ChangeSpec := { name := "fnExactTableNew", fn := fun _ => fun
  | [d1, d2] => { results := [.lit (.bool false)], args := [d1, d2] }
  | _ => none }
def FnExactTableNewWrongFalsely : Prop := fnExactTableNewRow.holds Try.pinned (OpenSpec.ofChange fnExactTableNewWrong)

/-- 'laws.FnExactTableTurn': WHATEVER THE INPUT: true; the input reads as it did. -/
def fnExactTableTurnSpec : ChangeSpec := { name := "fnExactTableTurn", fn := fun _ => fun
  | [d] => { results := [.lit (.bool true)], args := [d] }
  | _ => none }
def fnExactTableTurnRow : OpenClaim := { program := "ytalmpbmgmijdkaa", sum := "6fcd8147e12c9e1929c56617529acae3ee0c2a79a9da44c2ff0aef80883782b3", func := "loop.example/limner/laws.FnExactTableTurn", spec := "fnExactTableTurn", unfollowed := true, recurses := true, apart := false }
def FnExactTableTurnSaid : Prop := fnExactTableTurnRow.holds Try.pinned (OpenSpec.ofChange fnExactTableTurnSpec)

/-- ITS FALSE NEIGHBOUR: 'it returns false'. Refute it at one input. -/
def fnExactTableTurnWrong : ChangeSpec := { name := "fnExactTableTurn", fn := fun _ => fun
  | [d] => { results := [.lit (.bool false)], args := [d] }
  | _ => none }
def FnExactTableTurnWrongFalsely : Prop := fnExactTableTurnRow.holds Try.pinned (OpenSpec.ofChange fnExactTableTurnWrong)

/-- 'laws.FnExactTableSplit': WHATEVER THE INPUT: true; the input reads as it did. -/
def fnExactTableSplitSpec : ChangeSpec := { name := "fnExactTableSplit", fn := fun _ => fun
  | [d1, d2] => { results := [.lit (.bool true)], args := [d1, d2] }
  | _ => none }
def fnExactTableSplitRow : OpenClaim := { program := "ytalmpbmgmijdkaa", sum := "6fcd8147e12c9e1929c56617529acae3ee0c2a79a9da44c2ff0aef80883782b3", func := "loop.example/limner/laws.FnExactTableSplit", spec := "fnExactTableSplit", unfollowed := true, recurses := true, apart := false }
def FnExactTableSplitSaid : Prop := fnExactTableSplitRow.holds Try.pinned (OpenSpec.ofChange fnExactTableSplitSpec)

/-- ITS FALSE NEIGHBOUR: 'it returns false'. Refute it at one input. -/
def fnExactTableSplitWrong : ChangeSpec := { name := "fnExactTableSplit", fn := fun _ => fun
  | [d1, d2] => { results := [.lit (.bool false)], args := [d1, d2] }
  | _ => none }
def FnExactTableSplitWrongFalsely : Prop := fnExactTableSplitRow.holds Try.pinned (OpenSpec.ofChange fnExactTableSplitWrong)

/-- 'laws.FnExactTableRowOut': WHATEVER THE INPUT: true; the input reads as it did. -/
def fnExactTableRowOutSpec : ChangeSpec := { name := "fnExactTableRowOut", fn := fun _ => fun
  | [d1, d2] => { results := [.lit (.bool true)], args := [d1, d2] }
  | _ => none }
def fnExactTableRowOutRow : OpenClaim := { program := "ytalmpbmgmijdkaa", sum := "6fcd8147e12c9e1929c56617529acae3ee0c2a79a9da44c2ff0aef80883782b3", func := "loop.example/limner/laws.FnExactTableRowOut", spec := "fnExactTableRowOut", unfollowed := true, recurses := true, apart := false }
def FnExactTableRowOutSaid : Prop := fnExactTableRowOutRow.holds Try.pinned (OpenSpec.ofChange fnExactTableRowOutSpec)

/-- ITS FALSE NEIGHBOUR: 'it returns false'. Refute it at one input. -/
def fnExactTableRowOutWrong : ChangeSpec := { name := "fnExactTableRowOut", fn := fun _ => fun
  | [d1, d2] => { results := [.lit (.bool false)], args := [d1, d2] }
  | _ => none }
def FnExactTableRowOutWrongFalsely : Prop := fnExactTableRowOutRow.holds Try.pinned (OpenSpec.ofChange fnExactTableRowOutWrong)

/-- 'laws.FnExactTableRowIn': WHATEVER THE INPUT: true; the input reads as it did. -/
def fnExactTableRowInSpec : ChangeSpec := { name := "fnExactTableRowIn", fn := fun _ => fun
  | [d1, d2] => { results := [.lit (.bool true)], args := [d1, d2] }
  | _ => none }
def fnExactTableRowInRow : OpenClaim := { program := "ytalmpbmgmijdkaa", sum := "6fcd8147e12c9e1929c56617529acae3ee0c2a79a9da44c2ff0aef80883782b3", func := "loop.example/limner/laws.FnExactTableRowIn", spec := "fnExactTableRowIn", unfollowed := true, recurses := true, apart := false }
def FnExactTableRowInSaid : Prop := fnExactTableRowInRow.holds Try.pinned (OpenSpec.ofChange fnExactTableRowInSpec)

/-- ITS FALSE NEIGHBOUR: 'it returns false'. Refute it at one input. -/
def fnExactTableRowInWrong : ChangeSpec := { name := "fnExactTableRowIn", fn := fun _ => fun
  | [d1, d2] => { results := [.lit (.bool false)], args := [d1, d2] }
  | _ => none }
def FnExactTableRowInWrongFalsely : Prop := fnExactTableRowInRow.holds Try.pinned (OpenSpec.ofChange fnExactTableRowInWrong)

/-- 'laws.FnExactTableMerge': WHATEVER THE INPUT: true; the input reads as it did. -/
def fnExactTableMergeSpec : ChangeSpec := { name := "fnExactTableMerge", fn := fun _ => fun
  | [d1, d2, d3, d4, d5] => { results := [.lit (.bool true)], args := [d1, d2, d3, d4, d5] }
  | _ => none }
def fnExactTableMergeRow : OpenClaim := { program := "ytalmpbmgmijdkaa", sum := "6fcd8147e12c9e1929c56617529acae3ee0c2a79a9da44c2ff0aef80883782b3", func := "loop.example/limner/laws.FnExactTableMerge", spec := "fnExactTableMerge", unfollowed := true, recurses := true, apart := false }
def FnExactTableMergeSaid : Prop := fnExactTableMergeRow.holds Try.pinned (OpenSpec.ofChange fnExactTableMergeSpec)

/-- ITS FALSE NEIGHBOUR: 'it returns false'. Refute it at one input. -/
def fnExactTableMergeWrong : ChangeSpec := { name := "fnExactTableMerge", fn := fun _ => fun
  | [d1, d2, d3, d4, d5] => { results := [.lit (.bool false)], args := [d1, d2, d3, d4, d5] }
  | _ => none }
def FnExactTableMergeWrongFalsely : Prop := fnExactTableMergeRow.holds Try.pinned (OpenSpec.ofChange fnExactTableMergeWrong)

/- THE SECOND FORM. 'bulk': how many values and letters a reading holds, each counted each time it is reached (what is shared counts as often as it is met; a slice's spare places count too). A statement '..UptoSaid' is the law's where the arguments, and the package variables that the reading takes, are together of bulk at most 1048576: NARROWER than '..Said'. Prove '..Said' where nothing that the law and all that it calls make is longer than what came in: it says more and counts as full. Else prove '..UptoSaid'. A law counts once. -/
mutual
def uptoBulk {H : Type} : DataW H → Nat
  | .lit (.string bytes) => bytes.length + 1
  | .lit _ => 1
  | .nil => 1
  | .ptr d => uptoBulk d + 1
  | .slice elems spare => uptoBulkAll elems + uptoBulkAll spare + 1
  | .agg parts => uptoBulkAll parts + 1
  | .iface _ d => uptoBulk d + 1
  | .map entries => uptoBulkEntries entries + 1
  | .held _ => 1
def uptoBulkAll {H : Type} : List (DataW H) → Nat
  | [] => 0
  | d :: r => uptoBulk d + uptoBulkAll r
def uptoBulkEntries {H : Type} : List (Lit × DataW H) → Nat
  | [] => 0
  | x :: r => uptoBulkEntry x + uptoBulkEntries r
def uptoBulkEntry {H : Type} : Lit × DataW H → Nat
  | (.string bytes, d) => bytes.length + uptoBulk d + 1
  | (_, d) => uptoBulk d + 1
 end
def uptoSmall : (H : Type) → List (DataW H) → Bool := fun _ ds => decide (uptoBulkAll ds ≤ 1048576)
def OpenSpec.upto (s : _root_.Go.ChangeSpec) : _root_.Go.OpenSpec := { _root_.Go.OpenSpec.ofChange s with cond := some uptoSmall }

/-- 'laws.FnExactTableOk', WHERE WHAT IT READS IS OF BULK AT MOST 1048576: true; the input reads as it did. -/
def fnExactTableOkUptoRow : OpenClaim := { program := "ytalmpbmgmijdkaa", sum := "6fcd8147e12c9e1929c56617529acae3ee0c2a79a9da44c2ff0aef80883782b3", func := "loop.example/limner/laws.FnExactTableOk", spec := "fnExactTableOk", unfollowed := true, recurses := true, apart := false, narrowed := true }
def FnExactTableOkUptoSaid : Prop := fnExactTableOkUptoRow.holds Try.pinned (OpenSpec.upto fnExactTableOkSpec)

/-- 'laws.FnExactTableAt', WHERE WHAT IT READS IS OF BULK AT MOST 1048576: true; the input reads as it did. -/
def fnExactTableAtUptoRow : OpenClaim := { program := "ytalmpbmgmijdkaa", sum := "6fcd8147e12c9e1929c56617529acae3ee0c2a79a9da44c2ff0aef80883782b3", func := "loop.example/limner/laws.FnExactTableAt", spec := "fnExactTableAt", unfollowed := true, recurses := true, apart := false, narrowed := true }
def FnExactTableAtUptoSaid : Prop := fnExactTableAtUptoRow.holds Try.pinned (OpenSpec.upto fnExactTableAtSpec)

/-- 'laws.FnExactTableNew', WHERE WHAT IT READS IS OF BULK AT MOST 1048576: true; the input reads as it did. -/
def fnExactTableNewUptoRow : OpenClaim := { program := "ytalmpbmgmijdkaa", sum := "6fcd8147e12c9e1929c56617529acae3ee0c2a79a9da44c2ff0aef80883782b3", func := "loop.example/limner/laws.FnExactTableNew", spec := "fnExactTableNew", unfollowed := true, recurses := true, apart := false, narrowed := true }
def FnExactTableNewUptoSaid : Prop := fnExactTableNewUptoRow.holds Try.pinned (OpenSpec.upto fnExactTableNewSpec)

/-- 'laws.FnExactTableTurn', WHERE WHAT IT READS IS OF BULK AT MOST 1048576: true; the input reads as it did. -/
def fnExactTableTurnUptoRow : OpenClaim := { program := "ytalmpbmgmijdkaa", sum := "6fcd8147e12c9e1929c56617529acae3ee0c2a79a9da44c2ff0aef80883782b3", func := "loop.example/limner/laws.FnExactTableTurn", spec := "fnExactTableTurn", unfollowed := true, recurses := true, apart := false, narrowed := true }
def FnExactTableTurnUptoSaid : Prop := fnExactTableTurnUptoRow.holds Try.pinned (OpenSpec.upto fnExactTableTurnSpec)

/-- 'laws.FnExactTableSplit', WHERE WHAT IT READS IS OF BULK AT MOST 1048576: true; the input reads as it did. -/
def fnExactTableSplitUptoRow : OpenClaim := { program := "ytalmpbmgmijdkaa", sum := "6fcd8147e12c9e1929c56617529acae3ee0c2a79a9da44c2ff0aef80883782b3", func := "loop.example/limner/laws.FnExactTableSplit", spec := "fnExactTableSplit", unfollowed := true, recurses := true, apart := false, narrowed := true }
def FnExactTableSplitUptoSaid : Prop := fnExactTableSplitUptoRow.holds Try.pinned (OpenSpec.upto fnExactTableSplitSpec)

/-- 'laws.FnExactTableRowOut', WHERE WHAT IT READS IS OF BULK AT MOST 1048576: true; the input reads as it did. -/
def fnExactTableRowOutUptoRow : OpenClaim := { program := "ytalmpbmgmijdkaa", sum := "6fcd8147e12c9e1929c56617529acae3ee0c2a79a9da44c2ff0aef80883782b3", func := "loop.example/limner/laws.FnExactTableRowOut", spec := "fnExactTableRowOut", unfollowed := true, recurses := true, apart := false, narrowed := true }
def FnExactTableRowOutUptoSaid : Prop := fnExactTableRowOutUptoRow.holds Try.pinned (OpenSpec.upto fnExactTableRowOutSpec)

/-- 'laws.FnExactTableRowIn', WHERE WHAT IT READS IS OF BULK AT MOST 1048576: true; the input reads as it did. -/
def fnExactTableRowInUptoRow : OpenClaim := { program := "ytalmpbmgmijdkaa", sum := "6fcd8147e12c9e1929c56617529acae3ee0c2a79a9da44c2ff0aef80883782b3", func := "loop.example/limner/laws.FnExactTableRowIn", spec := "fnExactTableRowIn", unfollowed := true, recurses := true, apart := false, narrowed := true }
def FnExactTableRowInUptoSaid : Prop := fnExactTableRowInUptoRow.holds Try.pinned (OpenSpec.upto fnExactTableRowInSpec)

/-- 'laws.FnExactTableMerge', WHERE WHAT IT READS IS OF BULK AT MOST 1048576: true; the input reads as it did. -/
def fnExactTableMergeUptoRow : OpenClaim := { program := "ytalmpbmgmijdkaa", sum := "6fcd8147e12c9e1929c56617529acae3ee0c2a79a9da44c2ff0aef80883782b3", func := "loop.example/limner/laws.FnExactTableMerge", spec := "fnExactTableMerge", unfollowed := true, recurses := true, apart := false, narrowed := true }
def FnExactTableMergeUptoSaid : Prop := fnExactTableMergeUptoRow.holds Try.pinned (OpenSpec.upto fnExactTableMergeSpec)

end Rows
end Go.Proofs.Ytalmpbmgmijdkaa
