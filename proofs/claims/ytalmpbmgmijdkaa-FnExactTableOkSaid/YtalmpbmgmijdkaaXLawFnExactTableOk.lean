/- The statement Rows.FnExactTableOkSaid of the law laws.FnExactTableOk, out of its plain law and the contract of the law's code. Conditions: none beyond the statement's own. -/
import Derived.Test.YtalmpbmgmijdkaaRows
import Derived.Test.YtalmpbmgmijdkaaXPLawsFnExactTableOk
import Derived.Test.YtalmpbmgmijdkaaXPureFnExactTableOk
import Derived.Test.YtalmpbmgmijdkaaXF
import Derived.WalkKit
import Derived.ProofKit
import Derived.OpenShut
import Derived.ShutString
import Derived.ChangeOld
import Derived.Below
import Derived.SizedLaws
import Derived.Lib.SmallJoins
namespace Go.Proofs.Ytalmpbmgmijdkaa.fnExactTableOk
open Go.ChangeShapes Go.WideShapes Go.ChangeAt Go.RowKit Go.Deep Go.Joins
open Go.ChangeMaps (open_string shut_string)
open Go.Proofs.YtalmpbmgmijdkaaW.PrintWords
set_option linter.unusedVariables false
theorem own : ownKnob Try.prog.godebug = none := by kernel_rfl
theorem laidOut : laidOutB Try.prog = true := by kernel_rfl
set_option maxRecDepth 100000 in
theorem lifted (os : Os) (started : os.Started) (H : Type) (enc : TypeId × Value → H) :
    ReturnsInHanded {} Try.checked os 3 .any (Rows.fnExactTableOkSpec.pre6 enc Try.prog Try.f3 Rows.fnExactTableOkRow.domain false) (Rows.fnExactTableOkSpec.post enc Try.prog Try.f3 false true false false) := by
  refine returnsInHanded_of_change_sized (C := Try.checked) own started (by kernel_rfl) Try.func3
    (ChangeSpec.witness6 (enc := enc) (C := Try.checked) false ⟨#[], #[.agg #[.int .i64 0, .int .i64 0, .slice none 0 0]], []⟩ 8 (by kernel_rfl) (by kernel_rfl) (by kernel_rfl) (by kernel_rfl)) ?_
  intro W base args ds gs before hval0 hW hcnd hsz0 _
  have hval : ∀ (j : Nat) t v, Try.f3.params[j]? = some t → args[j]? = some v → Value.okWide Try.prog W .any base t v := hval0
  have hW' := hW
  obtain ⟨p, q, hA0, hV, rfl, hfz, hnd⟩ := hW
  have hA : DataW.TrodAll enc Try.prog W 0 (fun _ => true) true Try.f3.params.toList args.toList ds p := hA0
  rw [Try.params3] at hA hval
  obtain ⟨v0, vs0, d0, ds0, p0, q0, hargs, rfl, rfl, h0, r0⟩ := trodAll_cons hA
  obtain ⟨rfl, rfl, rfl⟩ := trodAll_nil r0
  obtain rfl : args = #[v0] := by cases args; simp_all
  obtain ⟨rfl, rfl⟩ := trodVars_none hV
  have k0 := h0
  have lt0 : ∀ x ∈ p0, x.block < W.heap.size := by obtain ⟨m, hm⟩ := k0; exact DataW.trod_lt m _ _ _ hm
  obtain ⟨c0, c1, c2, y0, y1, y2, m, rfl, rfl, rfl, hy0, hy1, hy2⟩ := open_agg3 Try.underlying24 (by kernel_rfl) (by kernel_rfl) (hval 0 24 v0 rfl rfl) h0
  obtain ⟨R, e0, _, _⟩ := DataW.trod_int Try.underlying3 hy0
  obtain ⟨C, e1, _, _⟩ := DataW.trod_int Try.underlying3 hy1
  simp only [List.cons.injEq, and_true] at e0 e1
  subst e0 e1
  obtain ⟨a0, len0, cap0, e2⟩ := Pure.trod_slice Try.underlying22 hy2
  simp only [List.cons.injEq, and_true] at e2
  subst e2
  obtain ⟨l0, hln, hlc0, _, hr0⟩ := Pure.trod_C P.k63 Try.underlying22 (by kernel_rfl) (fun m cs y hy hl => Pure.trod_lc hy hl) hy2
  subst hln
  clear hA0 hval0 hsz0
  obtain ⟨k, hk⟩ := Pure.FnExactTableOk R C l0 (Pure.C_len hr0) (Pure.C_each hr0)
  refine (P.laws_FnExactTableOk.calls k R C a0 cap0 l0 true W hr0 hlc0 hk).mono fun e W' ⟨he, bel⟩ => ?_
  subst he
  exact ⟨_, rfl, _, _, _, [], _, [], hW', trodAll_mk1 (shut_bool Try.underlying4 _), (trodAll_cons_mk (Below.trod laidOut (by kernel_rfl) (of_decide_eq_true (by kernel_rfl)) k0 bel lt0) trodAll_mk0), rfl, bel.frame _, fun h => by cases h⟩
theorem over : Rows.fnExactTableOkRow.holds Try.pinned (OpenSpec.ofChange Rows.fnExactTableOkSpec) :=
  OpenClaim.holds_of_wide 3 Try.f3 rfl rfl rfl rfl rfl rfl rfl ⟨rfl, rfl, rfl, rfl, rfl⟩ rfl rfl rfl rfl rfl (by kernel_rfl) Try.func3 (by kernel_rfl)
    (of_decide_eq_true (by kernel_rfl)) (by unfold Func.isWrapper; first | (rw [if_pos (by decide +kernel)]; kernel_rfl) | (rw [if_neg (by decide +kernel)]; exact ⟨rfl, rfl⟩))
    (fun os started H enc _ => lifted os started H enc)
theorem proved : Rows.FnExactTableOkSaid := over
#print axioms proved
end Go.Proofs.Ytalmpbmgmijdkaa.fnExactTableOk
namespace Go.Proofs.Ytalmpbmgmijdkaa
/-- The row, under a short name, for the claim. -/
theorem fnExactTableOk_holds : Rows.FnExactTableOkSaid := fnExactTableOk.proved
end Go.Proofs.Ytalmpbmgmijdkaa
