/-
  No cell of these rows narrows 'for every input' (looked for: loops, veiled, ifaces, maps, wideKeys, modest, calm, conditions, laid).
  DERIVED. THE GIVEN ROWS OF THIS SEAT. 12 by the template 'for every input the law returns true; each argument reads behind the call as it read before'; 0 by the template 'total and deterministic' (their statements: YtcabipiblfohnaaTotals.lean).
  GIVEN WITH THE SEED: the statements are not yours to turn. If you find one false, say at which input.
  Laid BY PROGRAM, IN A SANDBOX (cutbox-rows.mjs): the forced cells as the released guide's own fill.sh prints them over the translation 1b8271557599c3f4… (all of the seat's roots in one cut). By AI agents, Wed Nov 11 2026. No macro, syntax, notation, axiom, sorry.
-/
import Derived.Test.YtcabipiblfohnaaChecked
import GoSem.Claim
import GoSem.ClaimJoined
import GoSem.ClaimMapViews
import Derived.JoinedTies
import Derived.KernelRfl
namespace Go.Proofs.Ytcabipiblfohnaa
/- THE CELL 'sum', in the pinned program and in every row, IS THE sha256 OF THE DUMP (.gsa) THAT YtcabipiblfohnaaProg.lean LOADS. Nothing in Lean hashes anything: it is a label: what it is worth is what the hold of that sum in a sandbox is worth. -/
noncomputable def Try.pinned : Pinned := { name := "ytcabipiblfohnaa", sum := "1b8271557599c3f4cc8948a7f01ae41c88c5b3ca9a8d9c1c8a76cab6ba61e145", checked := Try.checked }
namespace Rows
def none {H : Type} : Left H := { results := [], args := [] }

/-- 'laws.FnTextTwo': WHATEVER THE INPUT: true; the input reads as it did. -/
def fnTextTwoSpec : ChangeSpec := { name := "fnTextTwo", fn := fun _ => fun
  | [d1, d2] => { results := [.lit (.bool true)], args := [d1, d2] }
  | _ => none }
def fnTextTwoRow : OpenClaim := { program := "ytcabipiblfohnaa", sum := "1b8271557599c3f4cc8948a7f01ae41c88c5b3ca9a8d9c1c8a76cab6ba61e145", func := "loop.example/limner/laws.FnTextTwo", spec := "fnTextTwo", unfollowed := true, recurses := true, apart := false }
def FnTextTwoSaid : Prop := fnTextTwoRow.holds Try.pinned (OpenSpec.ofChange fnTextTwoSpec)

/-- ITS FALSE NEIGHBOUR: 'it returns false'. Refute it at one input. -/
def fnTextTwoWrong : ChangeSpec := { name := "fnTextTwo", fn := fun _ => fun
  | [d1, d2] => { results := [.lit (.bool false)], args := [d1, d2] }
  | _ => none }
def FnTextTwoWrongFalsely : Prop := fnTextTwoRow.holds Try.pinned (OpenSpec.ofChange fnTextTwoWrong)

/-- 'laws.FnTextCut': WHATEVER THE INPUT: true; the input reads as it did. -/
def fnTextCutSpec : ChangeSpec := { name := "fnTextCut", fn := fun _ => fun
  | [d1, d2] => { results := [.lit (.bool true)], args := [d1, d2] }
  | _ => none }
def fnTextCutRow : OpenClaim := { program := "ytcabipiblfohnaa", sum := "1b8271557599c3f4cc8948a7f01ae41c88c5b3ca9a8d9c1c8a76cab6ba61e145", func := "loop.example/limner/laws.FnTextCut", spec := "fnTextCut", unfollowed := true, recurses := true, apart := false }
def FnTextCutSaid : Prop := fnTextCutRow.holds Try.pinned (OpenSpec.ofChange fnTextCutSpec)

/-- ITS FALSE NEIGHBOUR: 'it returns false'. Refute it at one input. -/
def fnTextCutWrong : ChangeSpec := { name := "fnTextCut", fn := fun _ => fun
  | [d1, d2] => { results := [.lit (.bool false)], args := [d1, d2] }
  | _ => none }
def FnTextCutWrongFalsely : Prop := fnTextCutRow.holds Try.pinned (OpenSpec.ofChange fnTextCutWrong)

/-- 'laws.FnTextLen': WHATEVER THE INPUT: true; the input reads as it did. -/
def fnTextLenSpec : ChangeSpec := { name := "fnTextLen", fn := fun _ => fun
  | [d] => { results := [.lit (.bool true)], args := [d] }
  | _ => none }
def fnTextLenRow : OpenClaim := { program := "ytcabipiblfohnaa", sum := "1b8271557599c3f4cc8948a7f01ae41c88c5b3ca9a8d9c1c8a76cab6ba61e145", func := "loop.example/limner/laws.FnTextLen", spec := "fnTextLen", unfollowed := true, recurses := true, apart := false }
def FnTextLenSaid : Prop := fnTextLenRow.holds Try.pinned (OpenSpec.ofChange fnTextLenSpec)

/-- ITS FALSE NEIGHBOUR: 'it returns false'. Refute it at one input. -/
def fnTextLenWrong : ChangeSpec := { name := "fnTextLen", fn := fun _ => fun
  | [d] => { results := [.lit (.bool false)], args := [d] }
  | _ => none }
def FnTextLenWrongFalsely : Prop := fnTextLenRow.holds Try.pinned (OpenSpec.ofChange fnTextLenWrong)

/-- 'laws.FnTextTurn': WHATEVER THE INPUT: true; the input reads as it did. -/
def fnTextTurnSpec : ChangeSpec := { name := "fnTextTurn", fn := fun _ => fun
  | [d1, d2] => { results := [.lit (.bool true)], args := [d1, d2] }
  | _ => none }
def fnTextTurnRow : OpenClaim := { program := "ytcabipiblfohnaa", sum := "1b8271557599c3f4cc8948a7f01ae41c88c5b3ca9a8d9c1c8a76cab6ba61e145", func := "loop.example/limner/laws.FnTextTurn", spec := "fnTextTurn", apart := false }
def FnTextTurnSaid : Prop := fnTextTurnRow.holds Try.pinned (OpenSpec.ofChange fnTextTurnSpec)

/-- ITS FALSE NEIGHBOUR: 'it returns false'. Refute it at one input. -/
def fnTextTurnWrong : ChangeSpec := { name := "fnTextTurn", fn := fun _ => fun
  | [d1, d2] => { results := [.lit (.bool false)], args := [d1, d2] }
  | _ => none }
def FnTextTurnWrongFalsely : Prop := fnTextTurnRow.holds Try.pinned (OpenSpec.ofChange fnTextTurnWrong)

/-- 'laws.FnTextTwice': WHATEVER THE INPUT: true; the input reads as it did. -/
def fnTextTwiceSpec : ChangeSpec := { name := "fnTextTwice", fn := fun _ => fun
  | [d] => { results := [.lit (.bool true)], args := [d] }
  | _ => none }
def fnTextTwiceRow : OpenClaim := { program := "ytcabipiblfohnaa", sum := "1b8271557599c3f4cc8948a7f01ae41c88c5b3ca9a8d9c1c8a76cab6ba61e145", func := "loop.example/limner/laws.FnTextTwice", spec := "fnTextTwice", apart := false }
def FnTextTwiceSaid : Prop := fnTextTwiceRow.holds Try.pinned (OpenSpec.ofChange fnTextTwiceSpec)

/-- ITS FALSE NEIGHBOUR: 'it returns false'. Refute it at one input. -/
def fnTextTwiceWrong : ChangeSpec := { name := "fnTextTwice", fn := fun _ => fun
  | [d] => { results := [.lit (.bool false)], args := [d] }
  | _ => none }
def FnTextTwiceWrongFalsely : Prop := fnTextTwiceRow.holds Try.pinned (OpenSpec.ofChange fnTextTwiceWrong)

/-- 'laws.FnTextNobody': WHATEVER THE INPUT: true; the input reads as it did. -/
def fnTextNobodySpec : ChangeSpec := { name := "fnTextNobody", fn := fun _ => fun
  | [d] => { results := [.lit (.bool true)], args := [d] }
  | _ => none }
def fnTextNobodyRow : OpenClaim := { program := "ytcabipiblfohnaa", sum := "1b8271557599c3f4cc8948a7f01ae41c88c5b3ca9a8d9c1c8a76cab6ba61e145", func := "loop.example/limner/laws.FnTextNobody", spec := "fnTextNobody", apart := false }
def FnTextNobodySaid : Prop := fnTextNobodyRow.holds Try.pinned (OpenSpec.ofChange fnTextNobodySpec)

/-- ITS FALSE NEIGHBOUR: 'it returns false'. Refute it at one input. -/
def fnTextNobodyWrong : ChangeSpec := { name := "fnTextNobody", fn := fun _ => fun
  | [d] => { results := [.lit (.bool false)], args := [d] }
  | _ => none }
def FnTextNobodyWrongFalsely : Prop := fnTextNobodyRow.holds Try.pinned (OpenSpec.ofChange fnTextNobodyWrong)

/-- 'laws.FnTextBy': WHATEVER THE INPUT: true; the input reads as it did. -/
def fnTextBySpec : ChangeSpec := { name := "fnTextBy", fn := fun _ => fun
  | [d] => { results := [.lit (.bool true)], args := [d] }
  | _ => none }
def fnTextByRow : OpenClaim := { program := "ytcabipiblfohnaa", sum := "1b8271557599c3f4cc8948a7f01ae41c88c5b3ca9a8d9c1c8a76cab6ba61e145", func := "loop.example/limner/laws.FnTextBy", spec := "fnTextBy", unfollowed := true, recurses := true, apart := false }
def FnTextBySaid : Prop := fnTextByRow.holds Try.pinned (OpenSpec.ofChange fnTextBySpec)

/-- ITS FALSE NEIGHBOUR: 'it returns false'. Refute it at one input. -/
def fnTextByWrong : ChangeSpec := { name := "fnTextBy", fn := fun _ => fun
  | [d] => { results := [.lit (.bool false)], args := [d] }
  | _ => none }
def FnTextByWrongFalsely : Prop := fnTextByRow.holds Try.pinned (OpenSpec.ofChange fnTextByWrong)

/-- 'laws.FnTextTake': WHATEVER THE INPUT: true; the input reads as it did. -/
def fnTextTakeSpec : ChangeSpec := { name := "fnTextTake", fn := fun _ => fun
  | [d] => { results := [.lit (.bool true)], args := [d] }
  | _ => none }
def fnTextTakeRow : OpenClaim := { program := "ytcabipiblfohnaa", sum := "1b8271557599c3f4cc8948a7f01ae41c88c5b3ca9a8d9c1c8a76cab6ba61e145", func := "loop.example/limner/laws.FnTextTake", spec := "fnTextTake", apart := false }
def FnTextTakeSaid : Prop := fnTextTakeRow.holds Try.pinned (OpenSpec.ofChange fnTextTakeSpec)

/-- ITS FALSE NEIGHBOUR: 'it returns false'. Refute it at one input. -/
def fnTextTakeWrong : ChangeSpec := { name := "fnTextTake", fn := fun _ => fun
  | [d] => { results := [.lit (.bool false)], args := [d] }
  | _ => none }
def FnTextTakeWrongFalsely : Prop := fnTextTakeRow.holds Try.pinned (OpenSpec.ofChange fnTextTakeWrong)

/-- 'laws.FnTextDrop': WHATEVER THE INPUT: true; the input reads as it did. -/
def fnTextDropSpec : ChangeSpec := { name := "fnTextDrop", fn := fun _ => fun
  | [d] => { results := [.lit (.bool true)], args := [d] }
  | _ => none }
def fnTextDropRow : OpenClaim := { program := "ytcabipiblfohnaa", sum := "1b8271557599c3f4cc8948a7f01ae41c88c5b3ca9a8d9c1c8a76cab6ba61e145", func := "loop.example/limner/laws.FnTextDrop", spec := "fnTextDrop", apart := false }
def FnTextDropSaid : Prop := fnTextDropRow.holds Try.pinned (OpenSpec.ofChange fnTextDropSpec)

/-- ITS FALSE NEIGHBOUR: 'it returns false'. Refute it at one input. -/
def fnTextDropWrong : ChangeSpec := { name := "fnTextDrop", fn := fun _ => fun
  | [d] => { results := [.lit (.bool false)], args := [d] }
  | _ => none }
def FnTextDropWrongFalsely : Prop := fnTextDropRow.holds Try.pinned (OpenSpec.ofChange fnTextDropWrong)

/-- 'laws.FnTextNow': WHATEVER THE INPUT: true; the input reads as it did. -/
def fnTextNowSpec : ChangeSpec := { name := "fnTextNow", fn := fun _ => fun
  | [d] => { results := [.lit (.bool true)], args := [d] }
  | _ => none }
def fnTextNowRow : OpenClaim := { program := "ytcabipiblfohnaa", sum := "1b8271557599c3f4cc8948a7f01ae41c88c5b3ca9a8d9c1c8a76cab6ba61e145", func := "loop.example/limner/laws.FnTextNow", spec := "fnTextNow", unfollowed := true, recurses := true, apart := false }
def FnTextNowSaid : Prop := fnTextNowRow.holds Try.pinned (OpenSpec.ofChange fnTextNowSpec)

/-- ITS FALSE NEIGHBOUR: 'it returns false'. Refute it at one input. -/
def fnTextNowWrong : ChangeSpec := { name := "fnTextNow", fn := fun _ => fun
  | [d] => { results := [.lit (.bool false)], args := [d] }
  | _ => none }
def FnTextNowWrongFalsely : Prop := fnTextNowRow.holds Try.pinned (OpenSpec.ofChange fnTextNowWrong)

/-- 'laws.FnTextWas': WHATEVER THE INPUT: true; the input reads as it did. -/
def fnTextWasSpec : ChangeSpec := { name := "fnTextWas", fn := fun _ => fun
  | [d] => { results := [.lit (.bool true)], args := [d] }
  | _ => none }
def fnTextWasRow : OpenClaim := { program := "ytcabipiblfohnaa", sum := "1b8271557599c3f4cc8948a7f01ae41c88c5b3ca9a8d9c1c8a76cab6ba61e145", func := "loop.example/limner/laws.FnTextWas", spec := "fnTextWas", unfollowed := true, recurses := true, apart := false }
def FnTextWasSaid : Prop := fnTextWasRow.holds Try.pinned (OpenSpec.ofChange fnTextWasSpec)

/-- ITS FALSE NEIGHBOUR: 'it returns false'. Refute it at one input. -/
def fnTextWasWrong : ChangeSpec := { name := "fnTextWas", fn := fun _ => fun
  | [d] => { results := [.lit (.bool false)], args := [d] }
  | _ => none }
def FnTextWasWrongFalsely : Prop := fnTextWasRow.holds Try.pinned (OpenSpec.ofChange fnTextWasWrong)

/-- 'laws.FnTextKeep': WHATEVER THE INPUT: true; the input reads as it did. -/
def fnTextKeepSpec : ChangeSpec := { name := "fnTextKeep", fn := fun _ => fun
  | [d] => { results := [.lit (.bool true)], args := [d] }
  | _ => none }
def fnTextKeepRow : OpenClaim := { program := "ytcabipiblfohnaa", sum := "1b8271557599c3f4cc8948a7f01ae41c88c5b3ca9a8d9c1c8a76cab6ba61e145", func := "loop.example/limner/laws.FnTextKeep", spec := "fnTextKeep", unfollowed := true, recurses := true, apart := false }
def FnTextKeepSaid : Prop := fnTextKeepRow.holds Try.pinned (OpenSpec.ofChange fnTextKeepSpec)

/-- ITS FALSE NEIGHBOUR: 'it returns false'. Refute it at one input. -/
def fnTextKeepWrong : ChangeSpec := { name := "fnTextKeep", fn := fun _ => fun
  | [d] => { results := [.lit (.bool false)], args := [d] }
  | _ => none }
def FnTextKeepWrongFalsely : Prop := fnTextKeepRow.holds Try.pinned (OpenSpec.ofChange fnTextKeepWrong)

/- THE SECOND FORM. 'bulk': how many values and letters a reading holds, each counted each time it is reached (what is shared counts as often as it is met; a slice's spare places count too). A statement '..UptoSaid' is the law's where the arguments, and the package variables that the reading takes, are together of bulk at most 1048576: NARROWER than '..Said'. Prove '..Said' where nothing that the law and all that it calls make is longer than what came in: it says more and counts as full. Else prove '..UptoSaid'. A law counts once. -/
mutual
def uptoBulk {H : Type} : DataW H → Nat
  | .lit (.string bytes) => bytes.length + 1
  | .lit _ => 1
  | .nil => 1
  | .ptr d => uptoBulk d + 1
  | .slice elems spare => uptoBulkAll elems + uptoBulkAll spare + 1
  | .agg parts => uptoBulkAll parts + 1
  | .iface _ d => uptoBulk d + 1
  | .map entries => uptoBulkEntries entries + 1
  | .held _ => 1
def uptoBulkAll {H : Type} : List (DataW H) → Nat
  | [] => 0
  | d :: r => uptoBulk d + uptoBulkAll r
def uptoBulkEntries {H : Type} : List (Lit × DataW H) → Nat
  | [] => 0
  | x :: r => uptoBulkEntry x + uptoBulkEntries r
def uptoBulkEntry {H : Type} : Lit × DataW H → Nat
  | (.string bytes, d) => bytes.length + uptoBulk d + 1
  | (_, d) => uptoBulk d + 1
 end
def uptoSmall : (H : Type) → List (DataW H) → Bool := fun _ ds => decide (uptoBulkAll ds ≤ 1048576)
def OpenSpec.upto (s : _root_.Go.ChangeSpec) : _root_.Go.OpenSpec := { _root_.Go.OpenSpec.ofChange s with cond := some uptoSmall }

/-- 'laws.FnTextTwo', WHERE WHAT IT READS IS OF BULK AT MOST 1048576: true; the input reads as it did. -/
def fnTextTwoUptoRow : OpenClaim := { program := "ytcabipiblfohnaa", sum := "1b8271557599c3f4cc8948a7f01ae41c88c5b3ca9a8d9c1c8a76cab6ba61e145", func := "loop.example/limner/laws.FnTextTwo", spec := "fnTextTwo", unfollowed := true, recurses := true, apart := false, narrowed := true }
def FnTextTwoUptoSaid : Prop := fnTextTwoUptoRow.holds Try.pinned (OpenSpec.upto fnTextTwoSpec)

/-- 'laws.FnTextCut', WHERE WHAT IT READS IS OF BULK AT MOST 1048576: true; the input reads as it did. -/
def fnTextCutUptoRow : OpenClaim := { program := "ytcabipiblfohnaa", sum := "1b8271557599c3f4cc8948a7f01ae41c88c5b3ca9a8d9c1c8a76cab6ba61e145", func := "loop.example/limner/laws.FnTextCut", spec := "fnTextCut", unfollowed := true, recurses := true, apart := false, narrowed := true }
def FnTextCutUptoSaid : Prop := fnTextCutUptoRow.holds Try.pinned (OpenSpec.upto fnTextCutSpec)

/-- 'laws.FnTextLen', WHERE WHAT IT READS IS OF BULK AT MOST 1048576: true; the input reads as it did. -/
def fnTextLenUptoRow : OpenClaim := { program := "ytcabipiblfohnaa", sum := "1b8271557599c3f4cc8948a7f01ae41c88c5b3ca9a8d9c1c8a76cab6ba61e145", func := "loop.example/limner/laws.FnTextLen", spec := "fnTextLen", unfollowed := true, recurses := true, apart := false, narrowed := true }
def FnTextLenUptoSaid : Prop := fnTextLenUptoRow.holds Try.pinned (OpenSpec.upto fnTextLenSpec)

/-- 'laws.FnTextTurn', WHERE WHAT IT READS IS OF BULK AT MOST 1048576: true; the input reads as it did. -/
def fnTextTurnUptoRow : OpenClaim := { program := "ytcabipiblfohnaa", sum := "1b8271557599c3f4cc8948a7f01ae41c88c5b3ca9a8d9c1c8a76cab6ba61e145", func := "loop.example/limner/laws.FnTextTurn", spec := "fnTextTurn", apart := false, narrowed := true }
def FnTextTurnUptoSaid : Prop := fnTextTurnUptoRow.holds Try.pinned (OpenSpec.upto fnTextTurnSpec)

/-- 'laws.FnTextTwice', WHERE WHAT IT READS IS OF BULK AT MOST 1048576: true; the input reads as it did. -/
def fnTextTwiceUptoRow : OpenClaim := { program := "ytcabipiblfohnaa", sum := "1b8271557599c3f4cc8948a7f01ae41c88c5b3ca9a8d9c1c8a76cab6ba61e145", func := "loop.example/limner/laws.FnTextTwice", spec := "fnTextTwice", apart := false, narrowed := true }
def FnTextTwiceUptoSaid : Prop := fnTextTwiceUptoRow.holds Try.pinned (OpenSpec.upto fnTextTwiceSpec)

/-- 'laws.FnTextNobody', WHERE WHAT IT READS IS OF BULK AT MOST 1048576: true; the input reads as it did. -/
def fnTextNobodyUptoRow : OpenClaim := { program := "ytcabipiblfohnaa", sum := "1b8271557599c3f4cc8948a7f01ae41c88c5b3ca9a8d9c1c8a76cab6ba61e145", func := "loop.example/limner/laws.FnTextNobody", spec := "fnTextNobody", apart := false, narrowed := true }
def FnTextNobodyUptoSaid : Prop := fnTextNobodyUptoRow.holds Try.pinned (OpenSpec.upto fnTextNobodySpec)

/-- 'laws.FnTextBy', WHERE WHAT IT READS IS OF BULK AT MOST 1048576: true; the input reads as it did. -/
def fnTextByUptoRow : OpenClaim := { program := "ytcabipiblfohnaa", sum := "1b8271557599c3f4cc8948a7f01ae41c88c5b3ca9a8d9c1c8a76cab6ba61e145", func := "loop.example/limner/laws.FnTextBy", spec := "fnTextBy", unfollowed := true, recurses := true, apart := false, narrowed := true }
def FnTextByUptoSaid : Prop := fnTextByUptoRow.holds Try.pinned (OpenSpec.upto fnTextBySpec)

/-- 'laws.FnTextTake', WHERE WHAT IT READS IS OF BULK AT MOST 1048576: true; the input reads as it did. -/
def fnTextTakeUptoRow : OpenClaim := { program := "ytcabipiblfohnaa", sum := "1b8271557599c3f4cc8948a7f01ae41c88c5b3ca9a8d9c1c8a76cab6ba61e145", func := "loop.example/limner/laws.FnTextTake", spec := "fnTextTake", apart := false, narrowed := true }
def FnTextTakeUptoSaid : Prop := fnTextTakeUptoRow.holds Try.pinned (OpenSpec.upto fnTextTakeSpec)

/-- 'laws.FnTextDrop', WHERE WHAT IT READS IS OF BULK AT MOST 1048576: true; the input reads as it did. -/
def fnTextDropUptoRow : OpenClaim := { program := "ytcabipiblfohnaa", sum := "1b8271557599c3f4cc8948a7f01ae41c88c5b3ca9a8d9c1c8a76cab6ba61e145", func := "loop.example/limner/laws.FnTextDrop", spec := "fnTextDrop", apart := false, narrowed := true }
def FnTextDropUptoSaid : Prop := fnTextDropUptoRow.holds Try.pinned (OpenSpec.upto fnTextDropSpec)

/-- 'laws.FnTextNow', WHERE WHAT IT READS IS OF BULK AT MOST 1048576: true; the input reads as it did. -/
def fnTextNowUptoRow : OpenClaim := { program := "ytcabipiblfohnaa", sum := "1b8271557599c3f4cc8948a7f01ae41c88c5b3ca9a8d9c1c8a76cab6ba61e145", func := "loop.example/limner/laws.FnTextNow", spec := "fnTextNow", unfollowed := true, recurses := true, apart := false, narrowed := true }
def FnTextNowUptoSaid : Prop := fnTextNowUptoRow.holds Try.pinned (OpenSpec.upto fnTextNowSpec)

/-- 'laws.FnTextWas', WHERE WHAT IT READS IS OF BULK AT MOST 1048576: true; the input reads as it did. -/
def fnTextWasUptoRow : OpenClaim := { program := "ytcabipiblfohnaa", sum := "1b8271557599c3f4cc8948a7f01ae41c88c5b3ca9a8d9c1c8a76cab6ba61e145", func := "loop.example/limner/laws.FnTextWas", spec := "fnTextWas", unfollowed := true, recurses := true, apart := false, narrowed := true }
def FnTextWasUptoSaid : Prop := fnTextWasUptoRow.holds Try.pinned (OpenSpec.upto fnTextWasSpec)

/-- 'laws.FnTextKeep', WHERE WHAT IT READS IS OF BULK AT MOST 1048576: true; the input reads as it did. -/
def fnTextKeepUptoRow : OpenClaim := { program := "ytcabipiblfohnaa", sum := "1b8271557599c3f4cc8948a7f01ae41c88c5b3ca9a8d9c1c8a76cab6ba61e145", func := "loop.example/limner/laws.FnTextKeep", spec := "fnTextKeep", unfollowed := true, recurses := true, apart := false, narrowed := true }
def FnTextKeepUptoSaid : Prop := fnTextKeepUptoRow.holds Try.pinned (OpenSpec.upto fnTextKeepSpec)

end Rows
end Go.Proofs.Ytcabipiblfohnaa
