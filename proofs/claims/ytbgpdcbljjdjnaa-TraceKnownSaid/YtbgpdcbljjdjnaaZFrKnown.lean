/- The statement TraceKnown: the examples of the chapter hold. Conditions: none. -/
import Derived.Test.YtbgpdcbljjdjnaaRows
import Derived.Test.YtbgpdcbljjdjnaaJ8
import Derived.ProofKit
import Derived.OpenShut
import Derived.ChangeOld
import Derived.Below
set_option linter.unusedVariables false
set_option linter.unusedSimpArgs false
namespace Go.Proofs.Ytbgpdcbljjdjnaa.traceKnownDone
open Go.ChangeShapes Go.WideShapes Go.ChangeAt Go.RowKit
theorem own : ownKnob Try.prog.godebug = none := by kernel_rfl
theorem laidOut : laidOutB Try.prog = true := by kernel_rfl
set_option maxRecDepth 100000 in
theorem lifted (os : Os) (started : os.Started) (H : Type) (enc : TypeId × Value → H) :
  ReturnsInHanded {} Try.checked os 14 .any (Rows.traceKnownSpec.pre6 enc Try.prog Try.f14 Rows.traceKnownRow.domain false) (Rows.traceKnownSpec.post enc Try.prog Try.f14 false true false false) := by
 refine returnsInHanded_of_change (C := Try.checked) own started (by kernel_rfl) Try.func14
  (ChangeSpec.witness6 (enc := enc) (C := Try.checked) false ⟨#[], #[], []⟩ 8 (by kernel_rfl) (by kernel_rfl) (by kernel_rfl) (by kernel_rfl)) ?_
 intro W base args ds gs before hval0 hW hcnd _
 have hW' := hW
 obtain ⟨p, q, hA0, hV, rfl, hfz, hnd⟩ := hW
 have hA : DataW.TrodAll enc Try.prog W 0 (fun _ => true) true Try.f14.params.toList args.toList ds p := hA0
 rw [Try.params14] at hA
 have hargs : args.toList = [] ∧ ds = [] ∧ p = [] := by
  cases ha : args.toList with
  | nil => rw [ha] at hA; cases ds <;> first | exact ⟨rfl, rfl, hA⟩ | exact hA.elim
  | cons v vs => rw [ha] at hA; cases ds <;> exact hA.elim
 obtain ⟨ha, rfl, rfl⟩ := hargs
 obtain rfl : args = #[] := by cases args; simp_all
 obtain ⟨rfl, rfl⟩ := trodVars_none hV
 refine (Go.Px.Try.TraceKnown_spec.2 (fun b => b < W.heap.size) W [] (fun _ h => h) trivial).mono fun e W' ⟨v, S', he, hr, _, _, bel⟩ => ?_
 obtain rfl : v = .bool true := hr
 subst he
 exact ⟨_, rfl, _, _, _, [], _, [], hW', trodAll_mk1 (shut_bool Try.underlying4 _), trodAll_mk0, rfl, bel.frame _, fun h => by cases h⟩
theorem over : Rows.traceKnownRow.holds Try.pinned (OpenSpec.ofChange Rows.traceKnownSpec) :=
 OpenClaim.holds_of_wide 14 Try.f14 rfl rfl rfl rfl rfl rfl rfl ⟨rfl, rfl, rfl, rfl, rfl⟩ rfl rfl rfl rfl rfl (by kernel_rfl) Try.func14 (by kernel_rfl)
  (of_decide_eq_true (by kernel_rfl)) (by unfold Func.isWrapper; first | (rw [if_pos (by decide +kernel)]; kernel_rfl) | (rw [if_neg (by decide +kernel)]; exact ⟨rfl, rfl⟩))
  (fun os started H enc _ => lifted os started H enc)
theorem proved : Rows.TraceKnownSaid := over
#print axioms proved
end Go.Proofs.Ytbgpdcbljjdjnaa.traceKnownDone
