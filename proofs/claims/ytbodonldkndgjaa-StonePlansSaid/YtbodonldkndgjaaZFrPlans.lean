/- The statement StonePlans: how much can be ground, the best plan, and how much one degree more would grind, are what the definitions say, or the error. Conditions: none. -/
import Derived.Test.YtbodonldkndgjaaJ6
import Derived.Test.YtbodonldkndgjaaRows
set_option linter.unusedVariables false
set_option linter.unusedSimpArgs false
/-! LwPlans -/
namespace Go.Px.Try
open Go Go.Proofs Go.Px

theorem planP_len (m : Mill) : (planP m).1.length ≤ m.hours.length := by
  unfold planP
  split
  · simp
  · split
    · show (B m m.hours m.start).length ≤ _; rw [B_length]; exact Nat.le_refl _
    · simp

set_option maxHeartbeats 16000000 in
theorem StonePlans_spec (m : Mill) : Fn Try.prog 4 [millD m] (bool true) := by
  have hw := Works_spec
  have hg := great_spec m
  by_cases h1 : 16 < (m.hours.length : Int)
  · rw [decide_eq_true h1] at hg
    refine Fn.of_ex (cuts := []) tys hM Try.func4 rfl Try.call4 rfl ?_
    show exC Try.prog T [] _ false none 0 (entry 79 [millD m]) (finQ T [ResultVar.tmp 2] _)
    conv => whnf
    repeat' first
      | (refine Ob.a ?_; conv => whnf)
      | (refine Sp.tt ?_; conv => whnf)
      | (refine Sp.ff ?_; conv => whnf)
      | (refine Sp.yes ?_; conv => whnf)
      | (refine Sp.no ?_; conv => whnf)
      | (refine Sp.nyes ?_; conv => whnf)
      | (refine Sp.nno ?_; conv => whnf)
      | (refine Sp.ne (fun hc => ?_) (fun hc => ?_) <;> (conv => whnf))
      | (refine Sp.dec (fun hc => ?_) (fun hc => ?_) <;> (conv => whnf))
      | (refine Sp.ndec (fun hc => ?_) (fun hc => ?_) <;> (conv => whnf))
      | (refine Sp.mk (fun hc => ?_) (fun hc => ?_) <;> (conv => whnf))
      | (apply Cl.go; (conv => whnf); (first | refine Ob.call (hg) ?_ | refine Ob.call (hw) ?_); (conv => whnf))
      | (refine Nx.mk (fun ka kb kx hx hs => ?_) (fun he => ?_) <;> (conv => whnf))
      | (refine Nx.mk (fun ka kx hx hs => ?_) (fun he => ?_) <;> (conv => whnf))
      | (refine Uk.mk (fun hn => ?_) ?_ <;> (conv => whnf))
      | (refine Fi.a ?_; conv => whnf)
      | (refine Yl.a ?_ ?_ <;> (conv => whnf))
      | (refine Ob.b ?_; conv => whnf)
    all_goals exact Lf
  rw [decide_eq_false h1] at hg
  have a1 := MostP_spec m (by omega)
  have a2 := Most_spec m (by omega)
  have a3 := PlanP_spec m (by omega)
  have a4 := Plan_spec m (by omega)
  have a5 := WorthP_spec m (by omega)
  have a6 := Worth_spec m (by omega)
  rw [mostR_P] at a2
  rw [planR_P] at a4
  rw [worthR_P] at a6
  have a9 := ints_same (planP m).1 (by have := planP_len m; omega)
  generalize mostP m = r1 at *
  generalize planP m = r2 at *
  generalize worthP m = r3 at *
  refine Fn.of_ex (cuts := []) tys hM Try.func4 rfl Try.call4 rfl ?_
  show exC Try.prog T [] _ false none 0 (entry 79 [millD m]) (finQ T [ResultVar.tmp 2] _)
  conv => whnf
  repeat' first
    | (refine Ob.a ?_; conv => whnf)
    | (refine Sp.tt ?_; conv => whnf)
    | (refine Sp.ff ?_; conv => whnf)
    | (refine Sp.yes ?_; conv => whnf)
    | (refine Sp.no ?_; conv => whnf)
    | (refine Sp.nyes ?_; conv => whnf)
    | (refine Sp.nno ?_; conv => whnf)
    | (refine Sp.ne (fun hc => ?_) (fun hc => ?_) <;> (conv => whnf))
    | (refine Sp.dec (fun hc => ?_) (fun hc => ?_) <;> (conv => whnf))
    | (refine Sp.ndec (fun hc => ?_) (fun hc => ?_) <;> (conv => whnf))
    | (refine Sp.mk (fun hc => ?_) (fun hc => ?_) <;> (conv => whnf))
    | (apply Cl.go; (conv => whnf); (first | refine Ob.call (hg) ?_ | refine Ob.call (hw) ?_ | refine Ob.call (a1) ?_ | refine Ob.call (a2) ?_ | refine Ob.call (a3) ?_ | refine Ob.call (a4) ?_ | refine Ob.call (a5) ?_ | refine Ob.call (a6) ?_ | refine Ob.call (a9) ?_); (conv => whnf))
    | (refine Nx.mk (fun ka kb kx hx hs => ?_) (fun he => ?_) <;> (conv => whnf))
    | (refine Nx.mk (fun ka kx hx hs => ?_) (fun he => ?_) <;> (conv => whnf))
    | (refine Uk.mk (fun hn => ?_) ?_ <;> (conv => whnf))
    | (refine Fi.a ?_; conv => whnf)
    | (refine Yl.a ?_ ?_ <;> (conv => whnf))
    | (refine Ob.b ?_; conv => whnf)
  all_goals exact Lf
end Go.Px.Try

namespace Go.Proofs.Ytbodonldkndgjaa.stonePlansDone
open Go.ChangeShapes Go.WideShapes Go.ChangeAt Go.RowKit
open Go.Px
open Go.Px.Try (own laidOut)

set_option maxRecDepth 100000 in
theorem lifted (os : Os) (started : os.Started) (H : Type) (enc : TypeId × Value → H) :
    ReturnsInHanded {} Try.checked os 4 .any (Rows.stonePlansSpec.pre6 enc Try.prog Try.f4 Rows.stonePlansRow.domain false) (Rows.stonePlansSpec.post enc Try.prog Try.f4 false true false false) := by
  refine returnsInHanded_of_change (C := Try.checked) own started (by kernel_rfl) Try.func4
    (ChangeSpec.witness6 (enc := enc) (C := Try.checked) false ⟨#[], #[.agg #[.int .i64 0, .int .i64 0, .int .i64 0, .int .i64 0, .slice none 0 0]], []⟩ 8 (by kernel_rfl) (by kernel_rfl) (by kernel_rfl) (by kernel_rfl)) ?_
  intro W base args ds gs before hval0 hW hcnd _
  have hval : ∀ (j : Nat) t v, Try.f4.params[j]? = some t → args[j]? = some v → Value.okWide Try.prog W .any base t v := hval0
  have hW' := hW
  obtain ⟨p, q, hA0, hV, rfl, hfz, hnd⟩ := hW
  have hA : DataW.TrodAll enc Try.prog W 0 (fun _ => true) true Try.f4.params.toList args.toList ds p := hA0
  rw [Try.params4] at hA hval
  obtain ⟨v0, vs0, d0, ds0, p0, q0, hargs, rfl, rfl, h0, r0⟩ := trodAll_cons hA
  obtain ⟨rfl, rfl, rfl⟩ := trodAll_nil r0
  obtain rfl : args = #[v0] := by cases args; simp_all
  obtain ⟨rfl, rfl⟩ := trodVars_none hV
  have lt0 : ∀ x ∈ p0, x.block < W.heap.size := by have k := h0; obtain ⟨m, hm⟩ := k; exact DataW.trod_lt m _ _ _ hm
  obtain ⟨x0, g0, e0⟩ := Go.Px.Try.mill_arg h0 (hval 0 24 v0 rfl rfl)
  clear hA0 hval0
  refine ((Go.Px.Try.StonePlans_spec x0).2 (All W) W [v0] (fun _ h => h) ⟨e0, trivial⟩).mono fun e W' ⟨v, S', he, hr, _, _, bel⟩ => ?_
  obtain rfl : v = .bool true := hr
  subst he
  exact ⟨_, rfl, _, _, _, [], _, [], hW', trodAll_mk1 (shut_bool Try.underlying4 _), (trodAll_cons_mk (Below.trod laidOut (by kernel_rfl) (of_decide_eq_true (by kernel_rfl)) h0 bel lt0) trodAll_mk0), rfl, bel.frame _, fun h => by cases h⟩

theorem over : Rows.stonePlansRow.holds Try.pinned (OpenSpec.ofChange Rows.stonePlansSpec) :=
  OpenClaim.holds_of_wide 4 Try.f4 rfl rfl rfl rfl rfl rfl rfl ⟨rfl, rfl, rfl, rfl, rfl⟩ rfl rfl rfl rfl rfl (by kernel_rfl) Try.func4 (by kernel_rfl)
    (of_decide_eq_true (by kernel_rfl)) (by unfold Func.isWrapper; first | (rw [if_pos (by decide +kernel)]; kernel_rfl) | (rw [if_neg (by decide +kernel)]; exact ⟨rfl, rfl⟩))
    (fun os started H enc _ => lifted os started H enc)

theorem proved : Rows.StonePlansSaid := over
#print axioms proved
end Go.Proofs.Ytbodonldkndgjaa.stonePlansDone
