/- The statement PotTurned: if the row is turned round, pot by pot, a given explanation is one, as many pots are called back, each lot is to blame as it was, and as many weak pots are apart. Conditions: none. -/
import Derived.Test.YtiaeopgahkahbaaJ7
import Derived.Test.YtiaeopgahkahbaaRows
import Derived.Test.YtiaeopgahkahbaaJ6
set_option linter.unusedVariables false
set_option linter.unusedSimpArgs false
/-! LwTurn2 -/
namespace Go.Px.Try
open Go Go.Proofs Go.Px
set_option maxRecDepth 100000
set_option maxHeartbeats 4000000 in
theorem PotTurned_spec (r : Row) (by' : List Nat) (hb : (∀ x ∈ by', x < 256) ∧ by'.length ≤ maxLen) : Fn Try.prog 10 [rowD r, u8s by'] (bool true) := by
  have hbl : by'.length ≤ 9223372036854775807 := Nat.le_trans hb.2 (by decide)
  have hw := Works_spec
  by_cases h1 : notGreat r ∧ rowError r = 0
  case neg =>
    have hf := notSound_fn h1
    refine Fn.of_ex (cuts := []) tys hM Try.func10 rfl Try.call10 rfl ?_
    show exC Try.prog T [] _ false none 0 (entry 190 [rowD r, u8s by']) (finQ T [ResultVar.tmp 4] _)
    conv => whnf
    repeat' first | ((first | refine Ob.a ?_ | refine Sp.tt ?_ | refine Sp.ff ?_ | refine Sp.yes ?_ | refine Sp.no ?_ | refine Sp.nyes ?_ | refine Sp.nno ?_);conv=>whnf) | (refine Sp.ne (fun hc => ?_) (fun hc => ?_) <;> (conv=>whnf)) | (refine Sp.dec (fun hc => ?_) (fun hc => ?_) <;> (conv=>whnf)) | (refine Sp.ndec (fun hc => ?_) (fun hc => ?_) <;> (conv=>whnf)) | (refine Sp.mk (fun hc => ?_) (fun hc => ?_) <;> (conv=>whnf)) | (apply Cl.go;(conv=>whnf); (first | refine Ob.call (hf) ?_ | refine Ob.call (hw) ?_);(conv=>whnf)) | (refine Fi.a ?_;conv=>whnf) | (refine Ob.b ?_;conv=>whnf)
    all_goals exact Lf
  have hf := sound_fn h1
  have hs := sound_of h1.2
  by_cases h2 : 20 < (by'.length : Int)
  · refine Fn.of_ex (cuts := []) tys hM Try.func10 rfl Try.call10 rfl ?_
    show exC Try.prog T [] _ false none 0 (entry 190 [rowD r, u8s by']) (finQ T [ResultVar.tmp 4] _)
    conv => whnf
    repeat' first | ((first | refine Ob.a ?_ | refine Sp.tt ?_ | refine Sp.ff ?_ | refine Sp.yes ?_ | refine Sp.no ?_ | refine Sp.nyes ?_ | refine Sp.nno ?_);conv=>whnf) | (refine Sp.ne (fun hc => ?_) (fun hc => ?_) <;> (conv=>whnf)) | (refine Sp.dec (fun hc => ?_) (fun hc => ?_) <;> (conv=>whnf)) | (refine Sp.ndec (fun hc => ?_) (fun hc => ?_) <;> (conv=>whnf)) | (refine Sp.mk (fun hc => ?_) (fun hc => ?_) <;> (conv=>whnf)) | (apply Cl.go;(conv=>whnf); (first | refine Ob.call (hf) ?_ | refine Ob.call (hw) ?_);(conv=>whnf)) | (refine Fi.a ?_;conv=>whnf) | (refine Ob.b ?_;conv=>whnf)
    all_goals exact Lf
  have hr := hs.ok
  have h10 := hr.l10
  have h12 := hr.w12
  have k1 : r.lots.length < 1000000 := by omega
  have k2 : r.weak.length < 1000000 := by omega
  have ht := turn_sound hs
  have htl := turn_len r
  have ht12 := ht.ok.w12
  have k3 : (turn r).lots.length < 1000000 := by omega
  have k4 : (turn r).weak.length < 1000000 := by omega
  have hgl := given_len r by'
  have hgE := given_E by' hs.ex
  have a2 := CheckLotsP_spec r (givenL r by') k1 k2 (by omega)
  rw [given_check hs by'] at a2
  have a3 := CheckLotsP_spec (turn r) (givenL r by') k3 k4 (by omega)
  have e3 := checkLots_E ht.ok (E_turn.2 hgE)
  rw [totR_turn, turn_len] at e3
  rw [show givenL r by' = lst r.lots.length (bset (givenB r by')) from rfl, e3] at a3
  have a5 := least_spec ht
  rw [turn_opt hs] at a5
  have a6 := BlameP_spec r k1 k2
  rw [hs.blame] at a6
  have a7 := BlameP_spec (turn r) k3 k4
  rw [ht.blame, turn_blame hs] at a7
  have hbL := blL_len r
  have a8 := Ints_spec (blL r) (blL r) (by omega)
  rw [decide_eq_true rfl] at a8
  have a9 := ApartP_spec r k1 k2
  rw [Sound.apart hr] at a9
  have a10 := ApartP_spec (turn r) k3 k4
  rw [Sound.apart ht.ok] at a10
  exact turned_walk hr h2 (g := []) ⟨hw, hf, Given_spec r by' hr (by omega) hb.1, a2, a3, least_spec hs, a5, a6, a7, a8, a9, a10, by have := turn_apart hs; dsimp only; omega, rfl, by unfold tlL; rw [List.take_length]; rfl, by unfold twL; rw [List.drop_zero]; rfl⟩
end Go.Px.Try

namespace Go.Proofs.Ytiaeopgahkahbaa.potTurnedDone
open Go.ChangeShapes Go.WideShapes Go.ChangeAt Go.RowKit
open Go.Px
open Go.Px.Try (own laidOut)
set_option maxRecDepth 100000 in
theorem lifted (os : Os) (started : os.Started) (H : Type) (enc : TypeId × Value → H) :
    ReturnsInHanded {} Try.checked os 10 .any (Rows.potTurnedSpec.pre6 enc Try.prog Try.f10 Rows.potTurnedRow.domain false) (Rows.potTurnedSpec.post enc Try.prog Try.f10 false true false false) := by
  refine returnsInHanded_of_change (C := Try.checked) own started (by kernel_rfl) Try.func10
    (ChangeSpec.witness6 (enc := enc) (C := Try.checked) false ⟨#[], #[.agg #[.int .i64 0, .slice none 0 0, .slice none 0 0], .slice none 0 0], []⟩ 8 (by kernel_rfl) (by kernel_rfl) (by kernel_rfl) (by kernel_rfl)) ?_
  intro W base args ds gs before hval0 hW hcnd _
  have hval : ∀ (j : Nat) t v, Try.f10.params[j]? = some t → args[j]? = some v → Value.okWide Try.prog W .any base t v := hval0
  have hW' := hW
  obtain ⟨p, q, hA0, hV, rfl, hfz, hnd⟩ := hW
  have hA : DataW.TrodAll enc Try.prog W 0 (fun _ => true) true Try.f10.params.toList args.toList ds p := hA0
  rw [Try.params10] at hA hval
  obtain ⟨v0, vs0, d0, ds0, p0, q0, hargs, rfl, rfl, h0, r0⟩ := trodAll_cons hA
  obtain ⟨v1, vs1, d1, ds1, p1, q1, rfl, rfl, rfl, h1, r1⟩ := trodAll_cons r0
  obtain ⟨rfl, rfl, rfl⟩ := trodAll_nil r1
  obtain rfl : args = #[v0, v1] := by cases args; simp_all
  obtain ⟨rfl, rfl⟩ := trodVars_none hV
  have lt0 : ∀ x ∈ p0, x.block < W.heap.size := by have k := h0; obtain ⟨m, hm⟩ := k; exact DataW.trod_lt m _ _ _ hm
  obtain ⟨x0, g0, e0⟩ := Go.Px.Try.row_arg h0 (hval 0 25 v0 rfl rfl)
  have lt1 : ∀ x ∈ p1, x.block < W.heap.size := by have k := h1; obtain ⟨m, hm⟩ := k; exact DataW.trod_lt m _ _ _ hm
  obtain ⟨x1, g1, e1⟩ := Go.Px.Try.u8s_arg h1 (hval 1 42 v1 rfl rfl)
  clear hA0 hval0
  refine ((Go.Px.Try.PotTurned_spec x0 x1 g1).2 (All W) W [v0, v1] (fun _ h => h) ⟨e0, e1, trivial⟩).mono fun e W' ⟨v, S', he, hr, _, _, bel⟩ => ?_
  obtain rfl : v = .bool true := hr
  subst he
  exact ⟨_, rfl, _, _, _, [], _, [], hW', trodAll_mk1 (shut_bool Try.underlying4 _), (trodAll_cons_mk (Below.trod laidOut (by kernel_rfl) (of_decide_eq_true (by kernel_rfl)) h0 bel lt0) (trodAll_cons_mk (Below.trod laidOut (by kernel_rfl) (of_decide_eq_true (by kernel_rfl)) h1 bel lt1) trodAll_mk0)), rfl, bel.frame _, fun h => by cases h⟩
theorem over : Rows.potTurnedRow.holds Try.pinned (OpenSpec.ofChange Rows.potTurnedSpec) :=
  OpenClaim.holds_of_wide 10 Try.f10 rfl rfl rfl rfl rfl rfl rfl ⟨rfl, rfl, rfl, rfl, rfl⟩ rfl rfl rfl rfl rfl (by kernel_rfl) Try.func10 (by kernel_rfl)
    (of_decide_eq_true (by kernel_rfl)) (by unfold Func.isWrapper; first | (rw [if_pos (by decide +kernel)]; kernel_rfl) | (rw [if_neg (by decide +kernel)]; exact ⟨rfl, rfl⟩))
    (fun os started H enc _ => lifted os started H enc)
theorem proved : Rows.PotTurnedSaid := over
#print axioms proved
end Go.Proofs.Ytiaeopgahkahbaa.potTurnedDone
