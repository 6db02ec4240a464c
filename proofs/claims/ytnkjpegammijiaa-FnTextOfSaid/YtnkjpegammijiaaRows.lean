/-
  No cell of these rows narrows 'for every input' (looked for: loops, veiled, ifaces, maps, wideKeys, modest, calm, conditions, laid).
  DERIVED. THE GIVEN ROWS OF THIS SEAT. 10 by the template 'for every input the law returns true; each argument reads behind the call as it read before'; 0 by the template 'total and deterministic' (their statements: YtnkjpegammijiaaTotals.lean).
  GIVEN WITH THE SEED: the statements are not yours to turn. If you find one false, say at which input.
  Laid BY PROGRAM, IN A SANDBOX (cutbox-rows.mjs): the forced cells as the released guide's own fill.sh prints them over the translation c75f701b1775b0b7… (all of the seat's roots in one cut). By AI agents, Wed Nov 11 2026. No macro, syntax, notation, axiom, sorry.
-/
import Derived.Test.YtnkjpegammijiaaChecked
import GoSem.Claim
import GoSem.ClaimJoined
import GoSem.ClaimMapViews
import Derived.JoinedTies
import Derived.KernelRfl
namespace Go.Proofs.Ytnkjpegammijiaa
/- THE CELL 'sum', in the pinned program and in every row, IS THE sha256 OF THE DUMP (.gsa) THAT YtnkjpegammijiaaProg.lean LOADS. Nothing in Lean hashes anything: it is a label: what it is worth is what the hold of that sum in a sandbox is worth. -/
noncomputable def Try.pinned : Pinned := { name := "ytnkjpegammijiaa", sum := "c75f701b1775b0b72c4941379449c883d8e37c6b5d1d8ff7e10952a7f1848ab6", checked := Try.checked }
namespace Rows
def none {H : Type} : Left H := { results := [], args := [] }

/-- 'laws.FnExactConstants': WHATEVER THE INPUT: true; the input reads as it did. -/
def fnExactConstantsSpec : ChangeSpec := { name := "fnExactConstants", fn := fun _ => fun
  | [] => { results := [.lit (.bool true)], args := [] }
  | _ => none }
def fnExactConstantsRow : OpenClaim := { program := "ytnkjpegammijiaa", sum := "c75f701b1775b0b72c4941379449c883d8e37c6b5d1d8ff7e10952a7f1848ab6", func := "loop.example/limner/laws.FnExactConstants", spec := "fnExactConstants", apart := false }
def FnExactConstantsSaid : Prop := fnExactConstantsRow.holds Try.pinned (OpenSpec.ofChange fnExactConstantsSpec)

/-- ITS FALSE NEIGHBOUR: 'it returns false'. Refute it at one input. -/
def fnExactConstantsWrong : ChangeSpec := { name := "fnExactConstants", fn := fun _ => fun
  | [] => { results := [.lit (.bool false)], args := [] }
  | _ => none }
def FnExactConstantsWrongFalsely : Prop := fnExactConstantsRow.holds Try.pinned (OpenSpec.ofChange fnExactConstantsWrong)

/-- 'laws.FnExactTextOk': WHATEVER THE INPUT: true; the input reads as it did. -/
def fnExactTextOkSpec : ChangeSpec := { name := "fnExactTextOk", fn := fun _ => fun
  | [d] => { results := [.lit (.bool true)], args := [d] }
  | _ => none }
def fnExactTextOkRow : OpenClaim := { program := "ytnkjpegammijiaa", sum := "c75f701b1775b0b72c4941379449c883d8e37c6b5d1d8ff7e10952a7f1848ab6", func := "loop.example/limner/laws.FnExactTextOk", spec := "fnExactTextOk", apart := false }
def FnExactTextOkSaid : Prop := fnExactTextOkRow.holds Try.pinned (OpenSpec.ofChange fnExactTextOkSpec)

/-- ITS FALSE NEIGHBOUR: 'it returns false'. Refute it at one input. -/
def fnExactTextOkWrong : ChangeSpec := { name := "fnExactTextOk", fn := fun _ => fun
  | [d] => { results := [.lit (.bool false)], args := [d] }
  | _ => none }
def FnExactTextOkWrongFalsely : Prop := fnExactTextOkRow.holds Try.pinned (OpenSpec.ofChange fnExactTextOkWrong)

/-- 'laws.FnExactTextOf': WHATEVER THE INPUT: true; the input reads as it did. -/
def fnExactTextOfSpec : ChangeSpec := { name := "fnExactTextOf", fn := fun _ => fun
  | [d] => { results := [.lit (.bool true)], args := [d] }
  | _ => none }
def fnExactTextOfRow : OpenClaim := { program := "ytnkjpegammijiaa", sum := "c75f701b1775b0b72c4941379449c883d8e37c6b5d1d8ff7e10952a7f1848ab6", func := "loop.example/limner/laws.FnExactTextOf", spec := "fnExactTextOf", apart := false }
def FnExactTextOfSaid : Prop := fnExactTextOfRow.holds Try.pinned (OpenSpec.ofChange fnExactTextOfSpec)

/-- ITS FALSE NEIGHBOUR: 'it returns false'. Refute it at one input. -/
def fnExactTextOfWrong : ChangeSpec := { name := "fnExactTextOf", fn := fun _ => fun
  | [d] => { results := [.lit (.bool false)], args := [d] }
  | _ => none }
def FnExactTextOfWrongFalsely : Prop := fnExactTextOfRow.holds Try.pinned (OpenSpec.ofChange fnExactTextOfWrong)

/-- 'laws.FnExactTextNow': WHATEVER THE INPUT: true; the input reads as it did. -/
def fnExactTextNowSpec : ChangeSpec := { name := "fnExactTextNow", fn := fun _ => fun
  | [d] => { results := [.lit (.bool true)], args := [d] }
  | _ => none }
def fnExactTextNowRow : OpenClaim := { program := "ytnkjpegammijiaa", sum := "c75f701b1775b0b72c4941379449c883d8e37c6b5d1d8ff7e10952a7f1848ab6", func := "loop.example/limner/laws.FnExactTextNow", spec := "fnExactTextNow", unfollowed := true, recurses := true, apart := false }
def FnExactTextNowSaid : Prop := fnExactTextNowRow.holds Try.pinned (OpenSpec.ofChange fnExactTextNowSpec)

/-- ITS FALSE NEIGHBOUR: 'it returns false'. Refute it at one input. -/
def fnExactTextNowWrong : ChangeSpec := { name := "fnExactTextNow", fn := fun _ => fun
  | [d] => { results := [.lit (.bool false)], args := [d] }
  | _ => none }
def FnExactTextNowWrongFalsely : Prop := fnExactTextNowRow.holds Try.pinned (OpenSpec.ofChange fnExactTextNowWrong)

/-- 'laws.FnExactTextWas': WHATEVER THE INPUT: true; the input reads as it did. -/
def fnExactTextWasSpec : ChangeSpec := { name := "fnExactTextWas", fn := fun _ => fun
  | [d] => { results := [.lit (.bool true)], args := [d] }
  | _ => none }
def fnExactTextWasRow : OpenClaim := { program := "ytnkjpegammijiaa", sum := "c75f701b1775b0b72c4941379449c883d8e37c6b5d1d8ff7e10952a7f1848ab6", func := "loop.example/limner/laws.FnExactTextWas", spec := "fnExactTextWas", unfollowed := true, recurses := true, apart := false }
def FnExactTextWasSaid : Prop := fnExactTextWasRow.holds Try.pinned (OpenSpec.ofChange fnExactTextWasSpec)

/-- ITS FALSE NEIGHBOUR: 'it returns false'. Refute it at one input. -/
def fnExactTextWasWrong : ChangeSpec := { name := "fnExactTextWas", fn := fun _ => fun
  | [d] => { results := [.lit (.bool false)], args := [d] }
  | _ => none }
def FnExactTextWasWrongFalsely : Prop := fnExactTextWasRow.holds Try.pinned (OpenSpec.ofChange fnExactTextWasWrong)

/-- 'laws.FnExactTextBy': WHATEVER THE INPUT: true; the input reads as it did. -/
def fnExactTextBySpec : ChangeSpec := { name := "fnExactTextBy", fn := fun _ => fun
  | [d] => { results := [.lit (.bool true)], args := [d] }
  | _ => none }
def fnExactTextByRow : OpenClaim := { program := "ytnkjpegammijiaa", sum := "c75f701b1775b0b72c4941379449c883d8e37c6b5d1d8ff7e10952a7f1848ab6", func := "loop.example/limner/laws.FnExactTextBy", spec := "fnExactTextBy", apart := false }
def FnExactTextBySaid : Prop := fnExactTextByRow.holds Try.pinned (OpenSpec.ofChange fnExactTextBySpec)

/-- ITS FALSE NEIGHBOUR: 'it returns false'. Refute it at one input. -/
def fnExactTextByWrong : ChangeSpec := { name := "fnExactTextBy", fn := fun _ => fun
  | [d] => { results := [.lit (.bool false)], args := [d] }
  | _ => none }
def FnExactTextByWrongFalsely : Prop := fnExactTextByRow.holds Try.pinned (OpenSpec.ofChange fnExactTextByWrong)

/-- 'laws.FnExactTextDrop': WHATEVER THE INPUT: true; the input reads as it did. -/
def fnExactTextDropSpec : ChangeSpec := { name := "fnExactTextDrop", fn := fun _ => fun
  | [d1, d2] => { results := [.lit (.bool true)], args := [d1, d2] }
  | _ => none }
def fnExactTextDropRow : OpenClaim := { program := "ytnkjpegammijiaa", sum := "c75f701b1775b0b72c4941379449c883d8e37c6b5d1d8ff7e10952a7f1848ab6", func := "loop.example/limner/laws.FnExactTextDrop", spec := "fnExactTextDrop", apart := false }
def FnExactTextDropSaid : Prop := fnExactTextDropRow.holds Try.pinned (OpenSpec.ofChange fnExactTextDropSpec)

/-- ITS FALSE NEIGHBOUR: 'it returns false'. Refute it at one input. -/
def fnExactTextDropWrong : ChangeSpec := { name := "fnExactTextDrop", fn := fun _ => fun
  | [d1, d2] => { results := [.lit (.bool false)], args := [d1, d2] }
  | _ => none }
def FnExactTextDropWrongFalsely : Prop := fnExactTextDropRow.holds Try.pinned (OpenSpec.ofChange fnExactTextDropWrong)

/-- 'laws.FnExactTextTake': WHATEVER THE INPUT: true; the input reads as it did. -/
def fnExactTextTakeSpec : ChangeSpec := { name := "fnExactTextTake", fn := fun _ => fun
  | [d1, d2] => { results := [.lit (.bool true)], args := [d1, d2] }
  | _ => none }
def fnExactTextTakeRow : OpenClaim := { program := "ytnkjpegammijiaa", sum := "c75f701b1775b0b72c4941379449c883d8e37c6b5d1d8ff7e10952a7f1848ab6", func := "loop.example/limner/laws.FnExactTextTake", spec := "fnExactTextTake", apart := false }
def FnExactTextTakeSaid : Prop := fnExactTextTakeRow.holds Try.pinned (OpenSpec.ofChange fnExactTextTakeSpec)

/-- ITS FALSE NEIGHBOUR: 'it returns false'. Refute it at one input. -/
def fnExactTextTakeWrong : ChangeSpec := { name := "fnExactTextTake", fn := fun _ => fun
  | [d1, d2] => { results := [.lit (.bool false)], args := [d1, d2] }
  | _ => none }
def FnExactTextTakeWrongFalsely : Prop := fnExactTextTakeRow.holds Try.pinned (OpenSpec.ofChange fnExactTextTakeWrong)

/-- 'laws.FnTextLess': WHATEVER THE INPUT: true; the input reads as it did. -/
def fnTextLessSpec : ChangeSpec := { name := "fnTextLess", fn := fun _ => fun
  | [d1, d2] => { results := [.lit (.bool true)], args := [d1, d2] }
  | _ => none }
def fnTextLessRow : OpenClaim := { program := "ytnkjpegammijiaa", sum := "c75f701b1775b0b72c4941379449c883d8e37c6b5d1d8ff7e10952a7f1848ab6", func := "loop.example/limner/laws.FnTextLess", spec := "fnTextLess", apart := false }
def FnTextLessSaid : Prop := fnTextLessRow.holds Try.pinned (OpenSpec.ofChange fnTextLessSpec)

/-- ITS FALSE NEIGHBOUR: 'it returns false'. Refute it at one input. -/
def fnTextLessWrong : ChangeSpec := { name := "fnTextLess", fn := fun _ => fun
  | [d1, d2] => { results := [.lit (.bool false)], args := [d1, d2] }
  | _ => none }
def FnTextLessWrongFalsely : Prop := fnTextLessRow.holds Try.pinned (OpenSpec.ofChange fnTextLessWrong)

/-- 'laws.FnTextOf': WHATEVER THE INPUT: true; the input reads as it did. -/
def fnTextOfSpec : ChangeSpec := { name := "fnTextOf", fn := fun _ => fun
  | [d] => { results := [.lit (.bool true)], args := [d] }
  | _ => none }
def fnTextOfRow : OpenClaim := { program := "ytnkjpegammijiaa", sum := "c75f701b1775b0b72c4941379449c883d8e37c6b5d1d8ff7e10952a7f1848ab6", func := "loop.example/limner/laws.FnTextOf", spec := "fnTextOf", unfollowed := true, recurses := true, apart := false }
def FnTextOfSaid : Prop := fnTextOfRow.holds Try.pinned (OpenSpec.ofChange fnTextOfSpec)

/-- ITS FALSE NEIGHBOUR: 'it returns false'. Refute it at one input. -/
def fnTextOfWrong : ChangeSpec := { name := "fnTextOf", fn := fun _ => fun
  | [d] => { results := [.lit (.bool false)], args := [d] }
  | _ => none }
def FnTextOfWrongFalsely : Prop := fnTextOfRow.holds Try.pinned (OpenSpec.ofChange fnTextOfWrong)

/- THE SECOND FORM. 'bulk': how many values and letters a reading holds, each counted each time it is reached (what is shared counts as often as it is met; a slice's spare places count too). A statement '..UptoSaid' is the law's where the arguments, and the package variables that the reading takes, are together of bulk at most 1048576: NARROWER than '..Said'. Prove '..Said' where nothing that the law and all that it calls make is longer than what came in: it says more and counts as full. Else prove '..UptoSaid'. A law counts once. -/
mutual
def uptoBulk {H : Type} : DataW H → Nat
  | .lit (.string bytes) => bytes.length + 1
  | .lit _ => 1
  | .nil => 1
  | .ptr d => uptoBulk d + 1
  | .slice elems spare => uptoBulkAll elems + uptoBulkAll spare + 1
  | .agg parts => uptoBulkAll parts + 1
  | .iface _ d => uptoBulk d + 1
  | .map entries => uptoBulkEntries entries + 1
  | .held _ => 1
def uptoBulkAll {H : Type} : List (DataW H) → Nat
  | [] => 0
  | d :: r => uptoBulk d + uptoBulkAll r
def uptoBulkEntries {H : Type} : List (Lit × DataW H) → Nat
  | [] => 0
  | x :: r => uptoBulkEntry x + uptoBulkEntries r
def uptoBulkEntry {H : Type} : Lit × DataW H → Nat
  | (.string bytes, d) => bytes.length + uptoBulk d + 1
  | (_, d) => uptoBulk d + 1
 end
def uptoSmall : (H : Type) → List (DataW H) → Bool := fun _ ds => decide (uptoBulkAll ds ≤ 1048576)
def OpenSpec.upto (s : _root_.Go.ChangeSpec) : _root_.Go.OpenSpec := { _root_.Go.OpenSpec.ofChange s with cond := some uptoSmall }

/-- 'laws.FnExactConstants', WHERE WHAT IT READS IS OF BULK AT MOST 1048576: true; the input reads as it did. -/
def fnExactConstantsUptoRow : OpenClaim := { program := "ytnkjpegammijiaa", sum := "c75f701b1775b0b72c4941379449c883d8e37c6b5d1d8ff7e10952a7f1848ab6", func := "loop.example/limner/laws.FnExactConstants", spec := "fnExactConstants", apart := false, narrowed := true }
def FnExactConstantsUptoSaid : Prop := fnExactConstantsUptoRow.holds Try.pinned (OpenSpec.upto fnExactConstantsSpec)

/-- 'laws.FnExactTextOk', WHERE WHAT IT READS IS OF BULK AT MOST 1048576: true; the input reads as it did. -/
def fnExactTextOkUptoRow : OpenClaim := { program := "ytnkjpegammijiaa", sum := "c75f701b1775b0b72c4941379449c883d8e37c6b5d1d8ff7e10952a7f1848ab6", func := "loop.example/limner/laws.FnExactTextOk", spec := "fnExactTextOk", apart := false, narrowed := true }
def FnExactTextOkUptoSaid : Prop := fnExactTextOkUptoRow.holds Try.pinned (OpenSpec.upto fnExactTextOkSpec)

/-- 'laws.FnExactTextOf', WHERE WHAT IT READS IS OF BULK AT MOST 1048576: true; the input reads as it did. -/
def fnExactTextOfUptoRow : OpenClaim := { program := "ytnkjpegammijiaa", sum := "c75f701b1775b0b72c4941379449c883d8e37c6b5d1d8ff7e10952a7f1848ab6", func := "loop.example/limner/laws.FnExactTextOf", spec := "fnExactTextOf", apart := false, narrowed := true }
def FnExactTextOfUptoSaid : Prop := fnExactTextOfUptoRow.holds Try.pinned (OpenSpec.upto fnExactTextOfSpec)

/-- 'laws.FnExactTextNow', WHERE WHAT IT READS IS OF BULK AT MOST 1048576: true; the input reads as it did. -/
def fnExactTextNowUptoRow : OpenClaim := { program := "ytnkjpegammijiaa", sum := "c75f701b1775b0b72c4941379449c883d8e37c6b5d1d8ff7e10952a7f1848ab6", func := "loop.example/limner/laws.FnExactTextNow", spec := "fnExactTextNow", unfollowed := true, recurses := true, apart := false, narrowed := true }
def FnExactTextNowUptoSaid : Prop := fnExactTextNowUptoRow.holds Try.pinned (OpenSpec.upto fnExactTextNowSpec)

/-- 'laws.FnExactTextWas', WHERE WHAT IT READS IS OF BULK AT MOST 1048576: true; the input reads as it did. -/
def fnExactTextWasUptoRow : OpenClaim := { program := "ytnkjpegammijiaa", sum := "c75f701b1775b0b72c4941379449c883d8e37c6b5d1d8ff7e10952a7f1848ab6", func := "loop.example/limner/laws.FnExactTextWas", spec := "fnExactTextWas", unfollowed := true, recurses := true, apart := false, narrowed := true }
def FnExactTextWasUptoSaid : Prop := fnExactTextWasUptoRow.holds Try.pinned (OpenSpec.upto fnExactTextWasSpec)

/-- 'laws.FnExactTextBy', WHERE WHAT IT READS IS OF BULK AT MOST 1048576: true; the input reads as it did. -/
def fnExactTextByUptoRow : OpenClaim := { program := "ytnkjpegammijiaa", sum := "c75f701b1775b0b72c4941379449c883d8e37c6b5d1d8ff7e10952a7f1848ab6", func := "loop.example/limner/laws.FnExactTextBy", spec := "fnExactTextBy", apart := false, narrowed := true }
def FnExactTextByUptoSaid : Prop := fnExactTextByUptoRow.holds Try.pinned (OpenSpec.upto fnExactTextBySpec)

/-- 'laws.FnExactTextDrop', WHERE WHAT IT READS IS OF BULK AT MOST 1048576: true; the input reads as it did. -/
def fnExactTextDropUptoRow : OpenClaim := { program := "ytnkjpegammijiaa", sum := "c75f701b1775b0b72c4941379449c883d8e37c6b5d1d8ff7e10952a7f1848ab6", func := "loop.example/limner/laws.FnExactTextDrop", spec := "fnExactTextDrop", apart := false, narrowed := true }
def FnExactTextDropUptoSaid : Prop := fnExactTextDropUptoRow.holds Try.pinned (OpenSpec.upto fnExactTextDropSpec)

/-- 'laws.FnExactTextTake', WHERE WHAT IT READS IS OF BULK AT MOST 1048576: true; the input reads as it did. -/
def fnExactTextTakeUptoRow : OpenClaim := { program := "ytnkjpegammijiaa", sum := "c75f701b1775b0b72c4941379449c883d8e37c6b5d1d8ff7e10952a7f1848ab6", func := "loop.example/limner/laws.FnExactTextTake", spec := "fnExactTextTake", apart := false, narrowed := true }
def FnExactTextTakeUptoSaid : Prop := fnExactTextTakeUptoRow.holds Try.pinned (OpenSpec.upto fnExactTextTakeSpec)

/-- 'laws.FnTextLess', WHERE WHAT IT READS IS OF BULK AT MOST 1048576: true; the input reads as it did. -/
def fnTextLessUptoRow : OpenClaim := { program := "ytnkjpegammijiaa", sum := "c75f701b1775b0b72c4941379449c883d8e37c6b5d1d8ff7e10952a7f1848ab6", func := "loop.example/limner/laws.FnTextLess", spec := "fnTextLess", apart := false, narrowed := true }
def FnTextLessUptoSaid : Prop := fnTextLessUptoRow.holds Try.pinned (OpenSpec.upto fnTextLessSpec)

/-- 'laws.FnTextOf', WHERE WHAT IT READS IS OF BULK AT MOST 1048576: true; the input reads as it did. -/
def fnTextOfUptoRow : OpenClaim := { program := "ytnkjpegammijiaa", sum := "c75f701b1775b0b72c4941379449c883d8e37c6b5d1d8ff7e10952a7f1848ab6", func := "loop.example/limner/laws.FnTextOf", spec := "fnTextOf", unfollowed := true, recurses := true, apart := false, narrowed := true }
def FnTextOfUptoSaid : Prop := fnTextOfUptoRow.holds Try.pinned (OpenSpec.upto fnTextOfSpec)

end Rows
end Go.Proofs.Ytnkjpegammijiaa
