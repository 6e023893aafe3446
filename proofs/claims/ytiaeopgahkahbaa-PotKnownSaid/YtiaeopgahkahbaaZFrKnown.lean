/- The statement PotKnown: the examples of the chapter hold. Conditions: none. -/
import Derived.Test.YtiaeopgahkahbaaJ6
import Derived.Test.YtiaeopgahkahbaaRows
import Derived.ProofKit
import Derived.OpenShut
import Derived.ChangeOld
import Derived.Below
set_option linter.unusedVariables false
set_option linter.unusedSimpArgs false
/-! LwKnown -/
namespace Go.Px.Try
open Go Go.Proofs Go.Px
set_option maxRecDepth 100000
set_option maxHeartbeats 16000000 in
theorem PotKnown_spec : Fn Try.prog 15 [] (bool true) := by
  have hw := Works_spec
  have hf := five_spec
  have h1 := w_cp [8, 0, 2, 6] (16, 0) (by simp) (by decide +kernel)
  have h2 := w_cp [4, 4, 1, 6] (15, 0) (by simp) (by decide +kernel)
  have h3 := w_unk5
  have h4 := w_fe 6 ([0, 1, 2, 3, 4, 5, 7, 8, 9], 0) (by decide +kernel)
  have h5 := w_cl [5] (0, 2) (by simp) (by decide +kernel)
  have h6 : Fn Try.prog 23 [rowD R5] (int 0) := by
    have h := CheckRowP_spec R5 r5l r5w
    rwa [show checkRow R5 = 0 by decide +kernel] at h
  generalize R5 = r5 at *
  refine Fn.of_ex (cuts := []) tys hM Try.func15 rfl Try.call15 rfl ?_
  show exC Try.prog T [] _ false none 0 (entry 89 []) (finQ T [ResultVar.tmp 0] _)
  conv => whnf
  repeat' first | ((first | refine Ob.a ?_ | refine Sp.tt ?_ | refine Sp.ff ?_ | refine Sp.yes ?_ | refine Sp.no ?_ | refine Sp.nyes ?_ | refine Sp.nno ?_);conv=>whnf) | (refine Sp.ne (fun hc => ?_) (fun hc => ?_) <;> (conv=>whnf)) | (refine Sp.dec (fun hc => ?_) (fun hc => ?_) <;> (conv=>whnf)) | (refine Sp.ndec (fun hc => ?_) (fun hc => ?_) <;> (conv=>whnf)) | (refine Sp.mk (fun hc => ?_) (fun hc => ?_) <;> (conv=>whnf)) | (apply Cl.go;(conv=>whnf); (first | refine Ob.call (hf) ?_ | refine Ob.call (h1) ?_ | refine Ob.call (h2) ?_ | refine Ob.call (h3) ?_ | refine Ob.call (h4) ?_ | refine Ob.call (h5) ?_ | refine Ob.call (h6) ?_ | refine Ob.call (of_spec [8, 0, 2, 6]) ?_ | refine Ob.call (of_spec [4, 4, 1, 6]) ?_ | refine Ob.call (of_spec [5]) ?_ | refine Ob.call (of_spec [0, 1, 2, 3, 4, 5, 7, 8, 9]) ?_ | refine Ob.call (ints_same [0, 1, 2, 3, 4, 5, 7, 8, 9] (by simp)) ?_ | refine Ob.call (hw) ?_);(conv=>whnf)) | (refine Fi.a ?_;conv=>whnf) | (refine Ob.b ?_;conv=>whnf)
  all_goals exact Lf
end Go.Px.Try

namespace Go.Proofs.Ytiaeopgahkahbaa.potKnownDone
open Go.ChangeShapes Go.WideShapes Go.ChangeAt Go.RowKit
theorem own : ownKnob Try.prog.godebug = none := by kernel_rfl
theorem laidOut : laidOutB Try.prog = true := by kernel_rfl
set_option maxRecDepth 100000 in
theorem lifted (os : Os) (started : os.Started) (H : Type) (enc : TypeId × Value → H) :
    ReturnsInHanded {} Try.checked os 15 .any (Rows.potKnownSpec.pre6 enc Try.prog Try.f15 Rows.potKnownRow.domain false) (Rows.potKnownSpec.post enc Try.prog Try.f15 false true false false) := by
  refine returnsInHanded_of_change (C := Try.checked) own started (by kernel_rfl) Try.func15
    (ChangeSpec.witness6 (enc := enc) (C := Try.checked) false ⟨#[], #[], []⟩ 8 (by kernel_rfl) (by kernel_rfl) (by kernel_rfl) (by kernel_rfl)) ?_
  intro W base args ds gs before hval0 hW hcnd _
  have hW' := hW
  obtain ⟨p, q, hA0, hV, rfl, hfz, hnd⟩ := hW
  have hA : DataW.TrodAll enc Try.prog W 0 (fun _ => true) true Try.f15.params.toList args.toList ds p := hA0
  rw [Try.params15] at hA
  have hargs : args.toList = [] ∧ ds = [] ∧ p = [] := by
    cases ha : args.toList with
    | nil => rw [ha] at hA; cases ds <;> first | exact ⟨rfl, rfl, hA⟩ | exact hA.elim
    | cons v vs => rw [ha] at hA; cases ds <;> exact hA.elim
  obtain ⟨ha, rfl, rfl⟩ := hargs
  obtain rfl : args = #[] := by cases args; simp_all
  obtain ⟨rfl, rfl⟩ := trodVars_none hV
  refine (Go.Px.Try.PotKnown_spec.2 (fun b => b < W.heap.size) W [] (fun _ h => h) trivial).mono fun e W' ⟨v, S', he, hr, _, _, bel⟩ => ?_
  obtain rfl : v = .bool true := hr
  subst he
  exact ⟨_, rfl, _, _, _, [], _, [], hW', trodAll_mk1 (shut_bool Try.underlying4 _), trodAll_mk0, rfl, bel.frame _, fun h => by cases h⟩
theorem over : Rows.potKnownRow.holds Try.pinned (OpenSpec.ofChange Rows.potKnownSpec) :=
  OpenClaim.holds_of_wide 15 Try.f15 rfl rfl rfl rfl rfl rfl rfl ⟨rfl, rfl, rfl, rfl, rfl⟩ rfl rfl rfl rfl rfl (by kernel_rfl) Try.func15 (by kernel_rfl)
    (of_decide_eq_true (by kernel_rfl)) (by unfold Func.isWrapper; first | (rw [if_pos (by decide +kernel)]; kernel_rfl) | (rw [if_neg (by decide +kernel)]; exact ⟨rfl, rfl⟩))
    (fun os started H enc _ => lifted os started H enc)
theorem proved : Rows.PotKnownSaid := over
#print axioms proved
end Go.Proofs.Ytiaeopgahkahbaa.potKnownDone
