/- Texts of this proof, joined (Pr5, Pr6, Pr14, Pr15, Pr8, Pr16, Pr17, Ma2, Pr10, Law1, Law2, FrS): a small program logic over the model, and what functions of the program give. No statement of the seat is proved here. -/
import Derived.Test.YtbodonldkndgjaaJ5
import Derived.Test.YtbodonldkndgjaaJ3
set_option linter.unusedVariables false
set_option linter.unusedSimpArgs false

/-! Pr5 -/
namespace Go.Px.Try
open Go Go.Proofs Go.Px

theorem open1_ok (m : Mill) (plan : List Int) (hm : m.hours.length < 1000000) (hp : plan.length < 1000000) (h : planError m plan = 0) : Fn Try.prog 55 [millD m, plansD [plan]] (tpl [benchD m 0, int 0]) :=
  open_ok m [plan] hm (by simp) (by simpa using hp) h
theorem open1_err (m : Mill) (plan : List Int) (hm : m.hours.length < 1000000) (hp : plan.length < 1000000) (h : planError m plan ≠ 0) : Fn Try.prog 55 [millD m, plansD [plan]] (tpl [nilP, int (planError m plan)]) :=
  open_err m [plan] hm (by simp) (by simpa using hp) h
theorem HeatsP (m : Mill) (plan : List Int) (warm : Bool) (h : planError m plan = 0) : Fn Try.prog 56 [benchD m 0, ints plan, bool warm, int 0] (ints (heatsOf m plan warm)) := by
  have := HeatsB_spec m 0 plan warm (fit_of (planError_zero h).1) (by omega) (planOk h).len
  rwa [roomB_zero] at this
theorem SafeP (m : Mill) (plan : List Int) (warm : Bool) (h : planError m plan = 0) : Fn Try.prog 61 [benchD m 0, ints plan, bool warm, int 0] (bool (decide (is m plan (roomOf m warm)))) := by
  have hk := (planOk h).head
  have := SafeB_spec m 0 plan warm (fit_of (planError_zero h).1) hk.1.1 hk.2.2.1.1 (by omega) (planOk h).len
  simpa only [roomB_zero] using this

set_option maxHeartbeats 4000000 in
theorem HeatsPr_spec (m : Mill) (plan : List Int) (warm : Bool) (hl : m.hours.length < 1000000) (hp : plan.length < 1000000) : Fn Try.prog 19 [millD m, ints plan, bool warm] (tpl [ints (heatsR m plan warm).1, int (heatsR m plan warm).2]) := by
  by_cases h : planError m plan = 0
  · have e : heatsR m plan warm = (heatsOf m plan warm, 0) := if_neg (by omega)
    have ho := open1_ok m plan hl hp h
    have hh := HeatsP m plan warm h
    have hn : (heatsOf m plan warm).length ≤ 12 := by have := (planOk h).len; have := (planOk h).n12; rw [show (heatsOf m plan warm).length = plan.length from heatsGo_length ..]; omega
    rw [e]
    generalize heatsOf m plan warm = hs at *
    refine Fn.of_ex (cuts := []) tys hM Try.func19 rfl Try.call19 rfl ?_
    show exC Try.prog T [] _ false none 0 (entry 33 [millD m, ints plan, bool warm]) (finQ T [ResultVar.tmp 6, ResultVar.tmp 7] _)
    conv => whnf
    repeat' first
      | (refine Ob.a ?_; conv => whnf)
      | (refine Sp.tt ?_; conv => whnf)
      | (refine Sp.ff ?_; conv => whnf)
      | (refine Sp.yes ?_; conv => whnf)
      | (refine Sp.no ?_; conv => whnf)
      | (refine Sp.nyes ?_; conv => whnf)
      | (refine Sp.nno ?_; conv => whnf)
      | (refine Sp.ne (fun hc => ?_) (fun hc => ?_) <;> (conv => whnf))
      | (refine Sp.dec (fun hc => ?_) (fun hc => ?_) <;> (conv => whnf))
      | (refine Sp.ndec (fun hc => ?_) (fun hc => ?_) <;> (conv => whnf))
      | (refine Sp.mk (fun hc => ?_) (fun hc => ?_) <;> (conv => whnf))
      | (apply Cl.go; (conv => whnf); (first | refine Ob.call (ho) ?_ | refine Ob.call (hh) ?_); (conv => whnf))
      | (refine Nx.mk (fun ka kb kx hx hs => ?_) (fun he => ?_) <;> (conv => whnf))
      | (refine Nx.mk (fun ka kx hx hs => ?_) (fun he => ?_) <;> (conv => whnf))
      | (refine Uk.mk (fun hn => ?_) ?_ <;> (conv => whnf))
      | (refine Fi.a ?_; conv => whnf)
      | (refine Yl.a ?_ ?_ <;> (conv => whnf))
      | (refine Ob.b ?_; conv => whnf)
    all_goals exact Lg
  · have e : heatsR m plan warm = ([], planError m plan) := if_pos h
    have ho := open1_err m plan hl hp h
    rw [e]
    refine Fn.of_ex (cuts := []) tys hM Try.func19 rfl Try.call19 rfl ?_
    show exC Try.prog T [] _ false none 0 (entry 33 [millD m, ints plan, bool warm]) (finQ T [ResultVar.tmp 6, ResultVar.tmp 7] _)
    conv => whnf
    repeat' first
      | (refine Ob.a ?_; conv => whnf)
      | (refine Sp.tt ?_; conv => whnf)
      | (refine Sp.ff ?_; conv => whnf)
      | (refine Sp.yes ?_; conv => whnf)
      | (refine Sp.no ?_; conv => whnf)
      | (refine Sp.nyes ?_; conv => whnf)
      | (refine Sp.nno ?_; conv => whnf)
      | (refine Sp.ne (fun hc => ?_) (fun hc => ?_) <;> (conv => whnf))
      | (refine Sp.dec (fun hc => ?_) (fun hc => ?_) <;> (conv => whnf))
      | (refine Sp.ndec (fun hc => ?_) (fun hc => ?_) <;> (conv => whnf))
      | (refine Sp.mk (fun hc => ?_) (fun hc => ?_) <;> (conv => whnf))
      | (apply Cl.go; (conv => whnf); (first | refine Ob.call (ho) ?_); (conv => whnf))
      | (refine Nx.mk (fun ka kb kx hx hs => ?_) (fun he => ?_) <;> (conv => whnf))
      | (refine Nx.mk (fun ka kx hx hs => ?_) (fun he => ?_) <;> (conv => whnf))
      | (refine Uk.mk (fun hn => ?_) ?_ <;> (conv => whnf))
      | (refine Fi.a ?_; conv => whnf)
      | (refine Yl.a ?_ ?_ <;> (conv => whnf))
      | (refine Ob.b ?_; conv => whnf)
    all_goals exact Lf

theorem checked_ok (m : Mill) (plan : List Int) (hl : m.hours.length < 1000000) (hp : plan.length < 1000000) (h : planError m plan = 0) (h2 : is m plan (roomOf m true)) : Fn Try.prog 59 [millD m, ints plan] (tpl [benchD m 0, int 0]) := by
  have ho := open1_ok m plan hl hp h
  have hs := SafeP m plan true h
  rw [decide_eq_true h2] at hs
  refine Fn.of_ex (cuts := []) tys hM Try.func59 rfl Try.call59 rfl ?_
  show exC Try.prog T [] _ false none 0 (entry 25 [millD m, ints plan]) (finQ T [ResultVar.tmp 4, ResultVar.tmp 5] _)
  conv => whnf
  repeat' first
    | (refine Ob.a ?_; conv => whnf)
    | (refine Sp.tt ?_; conv => whnf)
    | (refine Sp.ff ?_; conv => whnf)
    | (refine Sp.yes ?_; conv => whnf)
    | (refine Sp.no ?_; conv => whnf)
    | (refine Sp.nyes ?_; conv => whnf)
    | (refine Sp.nno ?_; conv => whnf)
    | (refine Sp.ne (fun hc => ?_) (fun hc => ?_) <;> (conv => whnf))
    | (refine Sp.dec (fun hc => ?_) (fun hc => ?_) <;> (conv => whnf))
    | (refine Sp.ndec (fun hc => ?_) (fun hc => ?_) <;> (conv => whnf))
    | (refine Sp.mk (fun hc => ?_) (fun hc => ?_) <;> (conv => whnf))
    | (apply Cl.go; (conv => whnf); (first | refine Ob.call (ho) ?_ | refine Ob.call (hs) ?_); (conv => whnf))
    | (refine Nx.mk (fun ka kb kx hx hs => ?_) (fun he => ?_) <;> (conv => whnf))
    | (refine Nx.mk (fun ka kx hx hs => ?_) (fun he => ?_) <;> (conv => whnf))
    | (refine Uk.mk (fun hn => ?_) ?_ <;> (conv => whnf))
    | (refine Fi.a ?_; conv => whnf)
    | (refine Yl.a ?_ ?_ <;> (conv => whnf))
    | (refine Ob.b ?_; conv => whnf)
  all_goals exact Lf

theorem checked_err (m : Mill) (plan : List Int) (hl : m.hours.length < 1000000) (hp : plan.length < 1000000) (c : Int) (hc : (checkPlanR m plan).2 = c) (h0 : c ≠ 0) : Fn Try.prog 59 [millD m, ints plan] (tpl [nilP, int c]) := by
  by_cases h : planError m plan = 0
  · have h2 : ¬ is m plan (roomOf m true) := fun h2 => by
      unfold checkPlanR at hc; rw [if_neg (by omega), if_pos h2] at hc; exact h0 hc.symm
    obtain rfl : c = 18 := by unfold checkPlanR at hc; rw [if_neg (by omega), if_neg h2] at hc; exact hc.symm
    have ho := open1_ok m plan hl hp h
    have hs := SafeP m plan true h
    rw [decide_eq_false h2] at hs
    refine Fn.of_ex (cuts := []) tys hM Try.func59 rfl Try.call59 rfl ?_
    show exC Try.prog T [] _ false none 0 (entry 25 [millD m, ints plan]) (finQ T [ResultVar.tmp 4, ResultVar.tmp 5] _)
    conv => whnf
    repeat' first
      | (refine Ob.a ?_; conv => whnf)
      | (refine Sp.tt ?_; conv => whnf)
      | (refine Sp.ff ?_; conv => whnf)
      | (refine Sp.yes ?_; conv => whnf)
      | (refine Sp.no ?_; conv => whnf)
      | (refine Sp.nyes ?_; conv => whnf)
      | (refine Sp.nno ?_; conv => whnf)
      | (refine Sp.ne (fun hc => ?_) (fun hc => ?_) <;> (conv => whnf))
      | (refine Sp.dec (fun hc => ?_) (fun hc => ?_) <;> (conv => whnf))
      | (refine Sp.ndec (fun hc => ?_) (fun hc => ?_) <;> (conv => whnf))
      | (refine Sp.mk (fun hc => ?_) (fun hc => ?_) <;> (conv => whnf))
      | (apply Cl.go; (conv => whnf); (first | refine Ob.call (ho) ?_ | refine Ob.call (hs) ?_); (conv => whnf))
      | (refine Nx.mk (fun ka kb kx hx hs => ?_) (fun he => ?_) <;> (conv => whnf))
      | (refine Nx.mk (fun ka kx hx hs => ?_) (fun he => ?_) <;> (conv => whnf))
      | (refine Uk.mk (fun hn => ?_) ?_ <;> (conv => whnf))
      | (refine Fi.a ?_; conv => whnf)
      | (refine Yl.a ?_ ?_ <;> (conv => whnf))
      | (refine Ob.b ?_; conv => whnf)
    all_goals exact Lf
  · obtain rfl : c = planError m plan := by unfold checkPlanR at hc; rw [if_pos h] at hc; exact hc.symm
    have ho := open1_err m plan hl hp h
    refine Fn.of_ex (cuts := []) tys hM Try.func59 rfl Try.call59 rfl ?_
    show exC Try.prog T [] _ false none 0 (entry 25 [millD m, ints plan]) (finQ T [ResultVar.tmp 4, ResultVar.tmp 5] _)
    conv => whnf
    repeat' first
      | (refine Ob.a ?_; conv => whnf)
      | (refine Sp.tt ?_; conv => whnf)
      | (refine Sp.ff ?_; conv => whnf)
      | (refine Sp.yes ?_; conv => whnf)
      | (refine Sp.no ?_; conv => whnf)
      | (refine Sp.nyes ?_; conv => whnf)
      | (refine Sp.nno ?_; conv => whnf)
      | (refine Sp.ne (fun hc => ?_) (fun hc => ?_) <;> (conv => whnf))
      | (refine Sp.dec (fun hc => ?_) (fun hc => ?_) <;> (conv => whnf))
      | (refine Sp.ndec (fun hc => ?_) (fun hc => ?_) <;> (conv => whnf))
      | (refine Sp.mk (fun hc => ?_) (fun hc => ?_) <;> (conv => whnf))
      | (apply Cl.go; (conv => whnf); (first | refine Ob.call (ho) ?_); (conv => whnf))
      | (refine Nx.mk (fun ka kb kx hx hs => ?_) (fun he => ?_) <;> (conv => whnf))
      | (refine Nx.mk (fun ka kx hx hs => ?_) (fun he => ?_) <;> (conv => whnf))
      | (refine Uk.mk (fun hn => ?_) ?_ <;> (conv => whnf))
      | (refine Fi.a ?_; conv => whnf)
      | (refine Yl.a ?_ ?_ <;> (conv => whnf))
      | (refine Ob.b ?_; conv => whnf)
    all_goals exact Lf

theorem SafePr_spec (m : Mill) (plan : List Int) (hl : m.hours.length < 1000000) (hp : plan.length < 1000000) : Fn Try.prog 23 [millD m, ints plan] (tpl [int (safeR m plan).1, int (safeR m plan).2]) := by
  by_cases h : planError m plan = 0
  · have e2 : safeR m plan = if is m plan (roomOf m true) then (2, 0) else if is m plan (roomOf m false) then (1, 0) else (0, 0) := if_neg (by omega)
    have ho := open1_ok m plan hl hp h
    have hs := SafeP m plan true h
    have hs2 := SafeP m plan false h
    refine Fn.of_ex (cuts := []) tys hM Try.func23 rfl Try.call23 rfl ?_
    show exC Try.prog T [] _ false none 0 (entry 27 [millD m, ints plan]) (finQ T [ResultVar.tmp 4, ResultVar.tmp 5] _)
    conv => whnf
    repeat' first
      | (refine Ob.a ?_; conv => whnf)
      | (refine Sp.tt ?_; conv => whnf)
      | (refine Sp.ff ?_; conv => whnf)
      | (refine Sp.yes ?_; conv => whnf)
      | (refine Sp.no ?_; conv => whnf)
      | (refine Sp.nyes ?_; conv => whnf)
      | (refine Sp.nno ?_; conv => whnf)
      | (refine Sp.ne (fun hc => ?_) (fun hc => ?_) <;> (conv => whnf))
      | (refine Sp.dec (fun hc => ?_) (fun hc => ?_) <;> (conv => whnf))
      | (refine Sp.ndec (fun hc => ?_) (fun hc => ?_) <;> (conv => whnf))
      | (refine Sp.mk (fun hc => ?_) (fun hc => ?_) <;> (conv => whnf))
      | (apply Cl.go; (conv => whnf); (first | refine Ob.call (ho) ?_ | refine Ob.call (hs) ?_ | refine Ob.call (hs2) ?_); (conv => whnf))
      | (refine Nx.mk (fun ka kb kx hx hs => ?_) (fun he => ?_) <;> (conv => whnf))
      | (refine Nx.mk (fun ka kx hx hs => ?_) (fun he => ?_) <;> (conv => whnf))
      | (refine Uk.mk (fun hn => ?_) ?_ <;> (conv => whnf))
      | (refine Fi.a ?_; conv => whnf)
      | (refine Yl.a ?_ ?_ <;> (conv => whnf))
      | (refine Ob.b ?_; conv => whnf)
    all_goals exact Lf
  · have e : safeR m plan = (0, planError m plan) := if_pos h
    have ho := open1_err m plan hl hp h
    rw [e]
    refine Fn.of_ex (cuts := []) tys hM Try.func23 rfl Try.call23 rfl ?_
    show exC Try.prog T [] _ false none 0 (entry 27 [millD m, ints plan]) (finQ T [ResultVar.tmp 4, ResultVar.tmp 5] _)
    conv => whnf
    repeat' first
      | (refine Ob.a ?_; conv => whnf)
      | (refine Sp.tt ?_; conv => whnf)
      | (refine Sp.ff ?_; conv => whnf)
      | (refine Sp.yes ?_; conv => whnf)
      | (refine Sp.no ?_; conv => whnf)
      | (refine Sp.nyes ?_; conv => whnf)
      | (refine Sp.nno ?_; conv => whnf)
      | (refine Sp.ne (fun hc => ?_) (fun hc => ?_) <;> (conv => whnf))
      | (refine Sp.dec (fun hc => ?_) (fun hc => ?_) <;> (conv => whnf))
      | (refine Sp.ndec (fun hc => ?_) (fun hc => ?_) <;> (conv => whnf))
      | (refine Sp.mk (fun hc => ?_) (fun hc => ?_) <;> (conv => whnf))
      | (apply Cl.go; (conv => whnf); (first | refine Ob.call (ho) ?_); (conv => whnf))
      | (refine Nx.mk (fun ka kb kx hx hs => ?_) (fun he => ?_) <;> (conv => whnf))
      | (refine Nx.mk (fun ka kx hx hs => ?_) (fun he => ?_) <;> (conv => whnf))
      | (refine Uk.mk (fun hn => ?_) ?_ <;> (conv => whnf))
      | (refine Fi.a ?_; conv => whnf)
      | (refine Yl.a ?_ ?_ <;> (conv => whnf))
      | (refine Ob.b ?_; conv => whnf)
    all_goals exact Lf
end Go.Px.Try

/-! Pr6 -/
namespace Go.Px.Try
open Go Go.Proofs Go.Px

theorem foldl_max_step (l : List Int) (a : Int) (i : Nat) (h : i < l.length) : (l.take (i + 1)).foldl max a = max ((l.take i).foldl max a) (l.getD i 0) := by
  rw [take_succ_getD l i 0 h, List.foldl_append]; rfl
theorem foldl_max_hd {l : List Int} (h : 0 < l.length) (h0 : ∀ x ∈ l, 0 ≤ x) : (l.take 1).foldl max (l.getD 0 0) = l.getD 0 0 ∧ l.foldl max (l.getD 0 0) = greatest l := by
  cases l with
  | nil => cases h
  | cons y l =>
    refine ⟨by simp, ?_⟩
    have := h0 y (by simp)
    simp [greatest, show max 0 y = y by omega]

set_option maxHeartbeats 4000000 in
theorem MaxS_spec (l : List Int) (hl : 0 < l.length ∧ l.length < 1000000) (h0 : ∀ x ∈ l, 0 ≤ x) : Fn Try.prog 73 [ints l] (int (greatest l)) := by
  obtain ⟨hp, hl⟩ := hl
  obtain ⟨h1, h2⟩ := foldl_max_hd hp h0
  have h1' : l.getD (Int.toNat 0) 0 = (l.take (Int.toNat 1)).foldl max (l.getD 0 0) := h1.symm
  generalize greatest l = r at *
  refine Fn.of_ex (cuts := []) tys hM Try.func73 rfl Try.call73 rfl ?_
  show exC Try.prog T [] _ false none 0 (entry 25 [ints l]) (finQ T [ResultVar.tmp 2] _)
  conv => whnf
  repeat' first
    | (refine Ob.a ?_; conv => whnf)
    | (refine Sp.tt ?_; conv => whnf)
    | (refine Sp.ff ?_; conv => whnf)
    | (refine Sp.yes ?_; conv => whnf)
    | (refine Sp.no ?_; conv => whnf)
    | (refine Sp.nyes ?_; conv => whnf)
    | (refine Sp.nno ?_; conv => whnf)
    | (refine Sp.ne (fun hc => ?_) (fun hc => ?_) <;> (conv => whnf))
    | (refine Sp.dec (fun hc => ?_) (fun hc => ?_) <;> (conv => whnf))
    | (refine Sp.ndec (fun hc => ?_) (fun hc => ?_) <;> (conv => whnf))
    | (refine Sp.mk (fun hc => ?_) (fun hc => ?_) <;> (conv => whnf))
    | (refine Nx.mk (fun ka kb kx hx hs => ?_) (fun he => ?_) <;> (conv => whnf))
    | (refine Nx.mk (fun ka kx hx hs => ?_) (fun he => ?_) <;> (conv => whnf))
    | (refine Uk.mk (fun hn => ?_) ?_ <;> (conv => whnf))
    | (refine Fi.a ?_; conv => whnf)
    | (refine Yl.a ?_ ?_ <;> (conv => whnf))
    | (refine Ob.b ?_; conv => whnf)
  refine Lp.go 25 {i : Int // 1 ≤ i ∧ i ≤ l.length}
    (fun ⟨i, _⟩ => ⟨0, [(0, .d (ints l)), (3, .d (int ((l.take i.toNat).foldl max (l.getD 0 0)))), (4, .d (int i))], [], some 0⟩)
    (fun p => (l.length - p.1).toNat) ⟨1, by omega, by omega⟩ ?_ Lf rfl (fun _ => rfl)
  rintro ⟨i, hi0, hi⟩
  have hs : i < l.length → (l.take (i + 1).toNat).foldl max (l.getD 0 0) = max ((l.take i.toNat).foldl max (l.getD 0 0)) (l.getD i.toNat 0) := fun h => by
    rw [show (i + 1).toNat = i.toNat + 1 by omega, foldl_max_step _ _ _ (by omega)]
  have he : ¬ i < l.length → (l.take i.toNat).foldl max (l.getD 0 0) = r := fun h => by
    rw [List.take_of_length_le (by omega), h2]
  conv => whnf
  repeat' first
    | (refine Ob.a ?_; conv => whnf)
    | (refine Sp.tt ?_; conv => whnf)
    | (refine Sp.ff ?_; conv => whnf)
    | (refine Sp.yes ?_; conv => whnf)
    | (refine Sp.no ?_; conv => whnf)
    | (refine Sp.nyes ?_; conv => whnf)
    | (refine Sp.nno ?_; conv => whnf)
    | (refine Sp.ne (fun hc => ?_) (fun hc => ?_) <;> (conv => whnf))
    | (refine Sp.dec (fun hc => ?_) (fun hc => ?_) <;> (conv => whnf))
    | (refine Sp.ndec (fun hc => ?_) (fun hc => ?_) <;> (conv => whnf))
    | (refine Sp.mk (fun hc => ?_) (fun hc => ?_) <;> (conv => whnf))
    | (refine Nx.mk (fun ka kb kx hx hs => ?_) (fun he => ?_) <;> (conv => whnf))
    | (refine Nx.mk (fun ka kx hx hs => ?_) (fun he => ?_) <;> (conv => whnf))
    | (refine Uk.mk (fun hn => ?_) ?_ <;> (conv => whnf))
    | (refine Fi.a ?_; conv => whnf)
    | (refine Yl.a ?_ ?_ <;> (conv => whnf))
    | (refine Ob.b ?_; conv => whnf)
  · have e := hs (by omega)
    refine ⟨rfl, ⟨i + 1, by omega, by omega⟩, Lf, by simp only; omega⟩
  · have e := he (by omega)
    exact Lf

set_option maxHeartbeats 4000000 in
theorem CheckPlanPr_spec (m : Mill) (plan : List Int) (hl : m.hours.length < 1000000) (hp : plan.length < 1000000) : Fn Try.prog 21 [millD m, ints plan] (tpl [int (checkPlanR m plan).1, int (checkPlanR m plan).2]) := by
  by_cases hc0 : (checkPlanR m plan).2 = 0
  · obtain ⟨h1, h2⟩ := checkPlanR_zero hc0
    have hok := planOk h1
    have e : checkPlanR m plan = (grinds m plan, 0) := by unfold checkPlanR; rw [if_neg (by omega)]; exact if_pos h2
    have hk := checked_ok m plan hl hp h1 h2
    have hlen := hok.len
    have hn := hok.n12
    have hgs := grindsTo_sm (fun _ hj => mem_getD hok.bits hj) (pounds_sm hok.hours)
    rw [e]
    refine Fn.of_ex (cuts := []) tys hM Try.func21 rfl Try.call21 rfl ?_
    show exC Try.prog T [] _ false none 0 (entry 39 [millD m, ints plan]) (finQ T [ResultVar.tmp 4, ResultVar.tmp 5] _)
    conv => whnf
    repeat' first
      | (refine Ob.a ?_; conv => whnf)
      | (refine Sp.tt ?_; conv => whnf)
      | (refine Sp.ff ?_; conv => whnf)
      | (refine Sp.yes ?_; conv => whnf)
      | (refine Sp.no ?_; conv => whnf)
      | (refine Sp.nyes ?_; conv => whnf)
      | (refine Sp.nno ?_; conv => whnf)
      | (refine Sp.ne (fun hc => ?_) (fun hc => ?_) <;> (conv => whnf))
      | (refine Sp.dec (fun hc => ?_) (fun hc => ?_) <;> (conv => whnf))
      | (refine Sp.ndec (fun hc => ?_) (fun hc => ?_) <;> (conv => whnf))
      | (refine Sp.mk (fun hc => ?_) (fun hc => ?_) <;> (conv => whnf))
      | (apply Cl.go; (conv => whnf); (first | refine Ob.call (hk) ?_); (conv => whnf))
      | (refine Nx.mk (fun ka kb kx hx hs => ?_) (fun he => ?_) <;> (conv => whnf))
      | (refine Nx.mk (fun ka kx hx hs => ?_) (fun he => ?_) <;> (conv => whnf))
      | (refine Uk.mk (fun hn => ?_) ?_ <;> (conv => whnf))
      | (refine Fi.a ?_; conv => whnf)
      | (refine Yl.a ?_ ?_ <;> (conv => whnf))
      | (refine Ob.b ?_; conv => whnf)
    refine Lp.go 39 {i : Int // 0 ≤ i ∧ i ≤ plan.length}
      (fun ⟨i, _⟩ => ⟨1, [(1, .d (ints plan)), (2, .ref 0 0), (8, .d (int (grindsTo m plan i.toNat))), (20, .d (ints plan)), (21, .d (int plan.length)), (22, .d (int i))], [(0, .cs true 5 fun j => .d ((millL m).getD j .top))], some 0⟩)
      (fun p => (plan.length - p.1).toNat) ⟨0, by omega, by omega⟩ ?_ Lf rfl (fun _ => rfl)
    rintro ⟨i, hi0, hi⟩
    have hs : i < plan.length → grindsTo m plan (i + 1).toNat = grindsTo m plan i.toNat + (m.hours.getD i.toNat default).pounds * plan.getD i.toNat 0 := fun h => by
      rw [show (i + 1).toNat = i.toNat + 1 by omega, grindsTo, Int.mul_comm]
    have hg := (hgs i.toNat (by omega)).1
    obtain ⟨_, _⟩ := hg
    have hm : i < plan.length → Sm 1000 ((m.hours.getD i.toNat default).pounds * plan.getD i.toNat 0) := fun h => by
      rw [Int.mul_comm]; exact (hgs i.toNat (by omega)).2 i.toNat (by omega)
    have hm1 : i < plan.length → -1000 ≤ (m.hours.getD i.toNat default).pounds * plan.getD i.toNat 0 := fun h => (hm h).1
    have hm2 : i < plan.length → (m.hours.getD i.toNat default).pounds * plan.getD i.toNat 0 ≤ 1000 := fun h => (hm h).2
    have he : ¬ i < plan.length → grindsTo m plan i.toNat = grinds m plan := fun h => by unfold grinds; rw [show i.toNat = plan.length by omega]
    clear hgs hm
    conv => whnf
    repeat' first
      | (refine Ob.a ?_; conv => whnf)
      | (refine Sp.tt ?_; conv => whnf)
      | (refine Sp.ff ?_; conv => whnf)
      | (refine Sp.yes ?_; conv => whnf)
      | (refine Sp.no ?_; conv => whnf)
      | (refine Sp.nyes ?_; conv => whnf)
      | (refine Sp.nno ?_; conv => whnf)
      | (refine Sp.ne (fun hc => ?_) (fun hc => ?_) <;> (conv => whnf))
      | (refine Sp.dec (fun hc => ?_) (fun hc => ?_) <;> (conv => whnf))
      | (refine Sp.ndec (fun hc => ?_) (fun hc => ?_) <;> (conv => whnf))
      | (refine Sp.mk (fun hc => ?_) (fun hc => ?_) <;> (conv => whnf))
      | (refine Nx.mk (fun ka kb kx hx hs => ?_) (fun he => ?_) <;> (conv => whnf))
      | (refine Nx.mk (fun ka kx hx hs => ?_) (fun he => ?_) <;> (conv => whnf))
      | (refine Uk.mk (fun hn => ?_) ?_ <;> (conv => whnf))
      | (refine Fi.a ?_; conv => whnf)
      | (refine Yl.a ?_ ?_ <;> (conv => whnf))
      | (refine Ob.b ?_; conv => whnf)
    · have e := hs (by omega)
      refine ⟨rfl, ⟨i + 1, by omega, by omega⟩, Lf, by simp only; omega⟩
    · have e := he (by omega)
      exact Lf
  · have hk := checked_err m plan hl hp _ rfl hc0
    have e : (checkPlanR m plan).1 = 0 := by
      unfold checkPlanR at *
      split
      · rfl
      · split
        · simp_all
        · rfl
    rw [e]
    generalize (checkPlanR m plan).2 = c at *
    refine Fn.of_ex (cuts := []) tys hM Try.func21 rfl Try.call21 rfl ?_
    show exC Try.prog T [] _ false none 0 (entry 39 [millD m, ints plan]) (finQ T [ResultVar.tmp 4, ResultVar.tmp 5] _)
    conv => whnf
    repeat' first
      | (refine Ob.a ?_; conv => whnf)
      | (refine Sp.tt ?_; conv => whnf)
      | (refine Sp.ff ?_; conv => whnf)
      | (refine Sp.yes ?_; conv => whnf)
      | (refine Sp.no ?_; conv => whnf)
      | (refine Sp.nyes ?_; conv => whnf)
      | (refine Sp.nno ?_; conv => whnf)
      | (refine Sp.ne (fun hc => ?_) (fun hc => ?_) <;> (conv => whnf))
      | (refine Sp.dec (fun hc => ?_) (fun hc => ?_) <;> (conv => whnf))
      | (refine Sp.ndec (fun hc => ?_) (fun hc => ?_) <;> (conv => whnf))
      | (refine Sp.mk (fun hc => ?_) (fun hc => ?_) <;> (conv => whnf))
      | (apply Cl.go; (conv => whnf); (first | refine Ob.call (hk) ?_); (conv => whnf))
      | (refine Nx.mk (fun ka kb kx hx hs => ?_) (fun he => ?_) <;> (conv => whnf))
      | (refine Nx.mk (fun ka kx hx hs => ?_) (fun he => ?_) <;> (conv => whnf))
      | (refine Uk.mk (fun hn => ?_) ?_ <;> (conv => whnf))
      | (refine Fi.a ?_; conv => whnf)
      | (refine Yl.a ?_ ?_ <;> (conv => whnf))
      | (refine Ob.b ?_; conv => whnf)
    all_goals exact Lf

set_option maxHeartbeats 4000000 in
theorem SparesPr_spec (m : Mill) (plan : List Int) (hl : m.hours.length < 1000000) (hp : plan.length < 1000000) : Fn Try.prog 35 [millD m, ints plan] (tpl [int (sparesR m plan).1, int (sparesR m plan).2.1, int (sparesR m plan).2.2]) := by
  by_cases hc0 : (checkPlanR m plan).2 = 0
  case neg =>
    have hk := checked_err m plan hl hp _ rfl hc0
    have e : sparesR m plan = (0, 0, (checkPlanR m plan).2) := if_pos hc0
    rw [e]
    generalize (checkPlanR m plan).2 = c at *
    refine Fn.of_ex (cuts := []) tys hM Try.func35 rfl Try.call35 rfl ?_
    show exC Try.prog T [] _ false none 0 (entry 39 [millD m, ints plan]) (finQ T [ResultVar.tmp 4, ResultVar.tmp 5, ResultVar.tmp 6] _)
    conv => whnf
    repeat' first
      | (refine Ob.a ?_; conv => whnf)
      | (refine Sp.tt ?_; conv => whnf)
      | (refine Sp.ff ?_; conv => whnf)
      | (refine Sp.yes ?_; conv => whnf)
      | (refine Sp.no ?_; conv => whnf)
      | (refine Sp.nyes ?_; conv => whnf)
      | (refine Sp.nno ?_; conv => whnf)
      | (refine Sp.ne (fun hc => ?_) (fun hc => ?_) <;> (conv => whnf))
      | (refine Sp.dec (fun hc => ?_) (fun hc => ?_) <;> (conv => whnf))
      | (refine Sp.ndec (fun hc => ?_) (fun hc => ?_) <;> (conv => whnf))
      | (refine Sp.mk (fun hc => ?_) (fun hc => ?_) <;> (conv => whnf))
      | (apply Cl.go; (conv => whnf); (first | refine Ob.call (hk) ?_); (conv => whnf))
      | (refine Nx.mk (fun ka kb kx hx hs => ?_) (fun he => ?_) <;> (conv => whnf))
      | (refine Nx.mk (fun ka kx hx hs => ?_) (fun he => ?_) <;> (conv => whnf))
      | (refine Uk.mk (fun hn => ?_) ?_ <;> (conv => whnf))
      | (refine Fi.a ?_; conv => whnf)
      | (refine Yl.a ?_ ?_ <;> (conv => whnf))
      | (refine Ob.b ?_; conv => whnf)
    all_goals exact Lf
  obtain ⟨h1, h2⟩ := checkPlanR_zero hc0
  have hok := planOk h1
  have hk := checked_ok m plan hl hp h1 h2
  have hfit := fit_of (planError_zero h1).1
  have hlen := hok.len
  have hn1 := hok.n1
  have hn12 := hok.n12
  obtain ⟨⟨_, _⟩, _, ⟨_, _⟩, _⟩ := hok.head
  have hgl : 0 ≤ greatest (heatsOf m plan true) := greatest_nn _
  have hgu : greatest (heatsOf m plan true) ≤ m.limit := h2
  have he : sparesR m plan = (m.limit - greatest (heatsOf m plan true), (warmGo m plan 41 0 : Int), 0) := if_neg (by rw [hc0]; simp)
  have hho := HeatsP m plan true h1
  have hmx := MaxS_spec (heatsOf m plan true) (by rw [heatsOf_room, heatsGo_length]; omega) (heatsGo_nn (by omega) (fun j => (room_bound hok.hours j).1) _ _ _)
  have hsafe := fun (w : Int) (hw : 0 ≤ w ∧ w ≤ 100) => SafeB_spec m w plan true hfit (by omega) (by omega) hw hlen
  simp only [roomB_up] at hsafe
  rw [he]
  generalize heatsOf m plan true = hs at *
  generalize hr : (warmGo m plan 41 0 : Int) = r
  refine Fn.of_ex (cuts := []) tys hM Try.func35 rfl Try.call35 rfl ?_
  show exC Try.prog T [] _ false none 0 (entry 39 [millD m, ints plan]) (finQ T [ResultVar.tmp 4, ResultVar.tmp 5, ResultVar.tmp 6] _)
  conv => whnf
  repeat' first
    | (refine Ob.a ?_; conv => whnf)
    | (refine Sp.tt ?_; conv => whnf)
    | (refine Sp.ff ?_; conv => whnf)
    | (refine Sp.yes ?_; conv => whnf)
    | (refine Sp.no ?_; conv => whnf)
    | (refine Sp.nyes ?_; conv => whnf)
    | (refine Sp.nno ?_; conv => whnf)
    | (refine Sp.ne (fun hc => ?_) (fun hc => ?_) <;> (conv => whnf))
    | (refine Sp.dec (fun hc => ?_) (fun hc => ?_) <;> (conv => whnf))
    | (refine Sp.ndec (fun hc => ?_) (fun hc => ?_) <;> (conv => whnf))
    | (refine Sp.mk (fun hc => ?_) (fun hc => ?_) <;> (conv => whnf))
    | (apply Cl.go; (conv => whnf); (first | refine Ob.call (hk) ?_); (conv => whnf))
    | (refine Nx.mk (fun ka kb kx hx hs => ?_) (fun he => ?_) <;> (conv => whnf))
    | (refine Nx.mk (fun ka kx hx hs => ?_) (fun he => ?_) <;> (conv => whnf))
    | (refine Uk.mk (fun hn => ?_) ?_ <;> (conv => whnf))
    | (refine Fi.a ?_; conv => whnf)
    | (refine Yl.a ?_ ?_ <;> (conv => whnf))
    | (refine Ob.b ?_; conv => whnf)
  refine Lp.go 39 {w : Int // 0 ≤ w ∧ w ≤ 40 ∧ ((warmGo m plan (41 - w.toNat) w.toNat : Nat) : Int) = r}
    (fun ⟨w, _⟩ => ⟨1, [(1, .d (ints plan)), (2, .ref 0 0), (7, .d (benchD m 0)), (9, .d (int w))], [(0, .cs true 5 fun j => .d ((millL m).getD j .top))], some 0⟩)
    (fun p => (40 - p.1).toNat) ⟨0, by omega, by omega, hr⟩ ?_ Lf rfl (fun _ => rfl)
  rintro ⟨w, hw0, hw, hinv⟩
  have hstep : is m plan (up (room m) (w + 1)) → ((warmGo m plan (41 - (w + 1).toNat) (w + 1).toNat : Nat) : Int) = r := by
    intro h
    rw [← hinv, show 41 - w.toNat = (41 - (w + 1).toNat) + 1 by omega, warmGo, if_pos (by rwa [Int.toNat_of_nonneg hw0]), show (w + 1).toNat = w.toNat + 1 by omega]
  have hlast : ¬ is m plan (up (room m) (w + 1)) → w = r := by
    intro h
    rw [← hinv, show 41 - w.toNat = (40 - w.toNat) + 1 by omega, warmGo, if_neg (by rwa [Int.toNat_of_nonneg hw0]), Int.toNat_of_nonneg hw0]
  have hup : is m plan (up (room m) (w + 1)) → w + 1 ≤ 40 := fun h => up_head hok h
  have hsf := hsafe (w + 1) ⟨by omega, by omega⟩
  conv => whnf
  repeat' first
    | (refine Ob.a ?_; conv => whnf)
    | (refine Sp.tt ?_; conv => whnf)
    | (refine Sp.ff ?_; conv => whnf)
    | (refine Sp.yes ?_; conv => whnf)
    | (refine Sp.no ?_; conv => whnf)
    | (refine Sp.nyes ?_; conv => whnf)
    | (refine Sp.nno ?_; conv => whnf)
    | (refine Sp.ne (fun hc => ?_) (fun hc => ?_) <;> (conv => whnf))
    | (refine Sp.dec (fun hc => ?_) (fun hc => ?_) <;> (conv => whnf))
    | (refine Sp.ndec (fun hc => ?_) (fun hc => ?_) <;> (conv => whnf))
    | (refine Sp.mk (fun hc => ?_) (fun hc => ?_) <;> (conv => whnf))
    | (apply Cl.go; (conv => whnf); (first | refine Ob.call (hsf) ?_ | refine Ob.call (hho) ?_ | refine Ob.call (hmx) ?_); (conv => whnf))
    | (refine Nx.mk (fun ka kb kx hx hs => ?_) (fun he => ?_) <;> (conv => whnf))
    | (refine Nx.mk (fun ka kx hx hs => ?_) (fun he => ?_) <;> (conv => whnf))
    | (refine Uk.mk (fun hn => ?_) ?_ <;> (conv => whnf))
    | (refine Fi.a ?_; conv => whnf)
    | (refine Yl.a ?_ ?_ <;> (conv => whnf))
    | (refine Ob.b ?_; conv => whnf)
  · have e := hlast hc
    exact Lf
  · have hw1 := hup hc
    have e := hstep hc
    refine ⟨rfl, ⟨w + 1, by omega, hw1, e⟩, Lf, by simp only; omega⟩
end Go.Px.Try

/-! Pr14 -/
namespace Go.Px.Try
open Go Go.Proofs Go.Px

def zeros (n : Nat) : List Int := List.replicate n 0
theorem zeros_sf {m : Mill} (hf : 1 ≤ m.fall) : ∀ (H : List Hour) (h : Int), Cool m H → h ≤ m.limit → sf m (his H) (zeros H.length) h
  | [], _, _, _ => by intro x hx; cases hx
  | x :: H, h, hc, hh => by
    have := after0_le hf hh (hc x (by simp))
    exact sf_cons.2 ⟨this, zeros_sf hf H _ (fun y hy => hc y (by simp [hy])) this⟩
theorem zeros_cool {m : Mill} (h : checkMill m = 0) : is m (zeros m.hours.length) (room m) ↔ Cool m m.hours := by
  obtain ⟨_, hk, _⟩ := checkMill_zero h
  obtain ⟨⟨_, _⟩, ⟨_, _⟩, ⟨_, _⟩, _, _⟩ := hk
  rw [is_sf (by omega) (by show _ ≤ (roomOf m true).length; rw [room_len]; simp [zeros]), room_his]
  exact ⟨cool_of (by omega) _ _ _ (by simp [zeros]), fun hc => zeros_sf (by omega) _ _ hc (by omega)⟩

theorem planned_err (m : Mill) (hl : m.hours.length < 1000000) (c : Int) (h : checkMill m = c) (hc : c ≠ 0) : Fn Try.prog 66 [millD m] (tpl [nilP, tabD [], int c]) := by
  have ho := open_err m [] hl (by simp) (by simp) (by rw [openErr_nil, h]; exact hc)
  rw [openErr_nil, h] at ho
  refine Fn.of_ex (cuts := []) tys hM Try.func66 rfl Try.call66 rfl ?_
  show exC Try.prog T [] _ false none 0 (entry 27 [millD m]) (finQ T [ResultVar.tmp 2, ResultVar.tmp 3, ResultVar.tmp 4] _)
  conv => whnf
  repeat' first
    | (refine Ob.a ?_; conv => whnf)
    | (refine Sp.tt ?_; conv => whnf)
    | (refine Sp.ff ?_; conv => whnf)
    | (refine Sp.yes ?_; conv => whnf)
    | (refine Sp.no ?_; conv => whnf)
    | (refine Sp.nyes ?_; conv => whnf)
    | (refine Sp.nno ?_; conv => whnf)
    | (refine Sp.ne (fun hc => ?_) (fun hc => ?_) <;> (conv => whnf))
    | (refine Sp.dec (fun hc => ?_) (fun hc => ?_) <;> (conv => whnf))
    | (refine Sp.ndec (fun hc => ?_) (fun hc => ?_) <;> (conv => whnf))
    | (refine Sp.mk (fun hc => ?_) (fun hc => ?_) <;> (conv => whnf))
    | (apply Cl.go; (conv => whnf); (first | refine Ob.call (ho) ?_); (conv => whnf))
    | (refine Nx.mk (fun ka kb kx hx hs => ?_) (fun he => ?_) <;> (conv => whnf))
    | (refine Nx.mk (fun ka kx hx hs => ?_) (fun he => ?_) <;> (conv => whnf))
    | (refine Uk.mk (fun hn => ?_) ?_ <;> (conv => whnf))
    | (refine Fi.a ?_; conv => whnf)
    | (refine Yl.a ?_ ?_ <;> (conv => whnf))
    | (refine Ob.b ?_; conv => whnf)
  all_goals exact Lh

theorem planned_hot (m : Mill) (h : checkMill m = 0) (hc : ¬ Cool m m.hours) : Fn Try.prog 66 [millD m] (tpl [nilP, tabD [], int 13]) := by
  have hfit := fit_of h
  obtain ⟨_, hk, _⟩ := checkMill_zero h
  obtain ⟨⟨_, _⟩, ⟨_, _⟩, ⟨_, _⟩, _, _⟩ := hk
  have ho := open_ok m [] (by have := hfit.n12; omega) (by simp) (by simp) (by rw [openErr_nil, h])
  have hs := SafeB_spec m 0 (zeros m.hours.length) true hfit (by omega) (by omega) (by omega) (by simp [zeros])
  rw [roomB_zero, show roomOf m true = room m from rfl, decide_eq_false (fun h1 => hc ((zeros_cool h).1 h1))] at hs
  have hz1 : ((m.hours.length : Int)).toNat = (zeros m.hours.length).length := by simp [zeros]
  have hz2 : ∀ j, j < ((m.hours.length : Int)).toNat → int 0 = int ((zeros m.hours.length).getD j 0) := fun j hj => by simp [zeros, List.getD_eq_getElem?_getD, List.getElem?_replicate]; split <;> rfl
  have hz3 : m.hours.length * 8 ≤ 1000000 := by have := hfit.n12; omega
  refine Fn.of_ex (cuts := []) tys hM Try.func66 rfl Try.call66 rfl ?_
  show exC Try.prog T [] _ false none 0 (entry 27 [millD m]) (finQ T [ResultVar.tmp 2, ResultVar.tmp 3, ResultVar.tmp 4] _)
  conv => whnf
  repeat' first
    | (refine Ob.a ?_; conv => whnf)
    | (refine Sp.tt ?_; conv => whnf)
    | (refine Sp.ff ?_; conv => whnf)
    | (refine Sp.yes ?_; conv => whnf)
    | (refine Sp.no ?_; conv => whnf)
    | (refine Sp.nyes ?_; conv => whnf)
    | (refine Sp.nno ?_; conv => whnf)
    | (refine Sp.ne (fun hc => ?_) (fun hc => ?_) <;> (conv => whnf))
    | (refine Sp.dec (fun hc => ?_) (fun hc => ?_) <;> (conv => whnf))
    | (refine Sp.ndec (fun hc => ?_) (fun hc => ?_) <;> (conv => whnf))
    | (refine Sp.mk (fun hc => ?_) (fun hc => ?_) <;> (conv => whnf))
    | (apply Cl.go; (conv => whnf); (first | refine Ob.call (ho) ?_ | refine Ob.call (hs) ?_); (conv => whnf))
    | (refine Nx.mk (fun ka kb kx hx hs => ?_) (fun he => ?_) <;> (conv => whnf))
    | (refine Nx.mk (fun ka kx hx hs => ?_) (fun he => ?_) <;> (conv => whnf))
    | (refine Uk.mk (fun hn => ?_) ?_ <;> (conv => whnf))
    | (refine Fi.a ?_; conv => whnf)
    | (refine Yl.a ?_ ?_ <;> (conv => whnf))
    | (refine Ob.b ?_; conv => whnf)
  all_goals exact Lh

theorem planned_ok (m : Mill) (h : checkMill m = 0) (hc : Cool m m.hours) : Fn Try.prog 66 [millD m] (tpl [benchD m 0, tabD (tab m), int 0]) := by
  have hfit := fit_of h
  obtain ⟨_, hk, _⟩ := checkMill_zero h
  obtain ⟨⟨_, _⟩, ⟨_, _⟩, ⟨_, _⟩, _, _⟩ := hk
  have ho := open_ok m [] (by have := hfit.n12; omega) (by simp) (by simp) (by rw [openErr_nil, h])
  have hs := SafeB_spec m 0 (zeros m.hours.length) true hfit (by omega) (by omega) (by omega) (by simp [zeros])
  rw [roomB_zero, show roomOf m true = room m from rfl, decide_eq_true ((zeros_cool h).2 hc)] at hs
  have ht := table_spec m 0 hfit (by omega) (by omega) (by omega) hc
  have hz1 : ((m.hours.length : Int)).toNat = (zeros m.hours.length).length := by simp [zeros]
  have hz2 : ∀ j, j < ((m.hours.length : Int)).toNat → int 0 = int ((zeros m.hours.length).getD j 0) := fun j hj => by simp [zeros, List.getD_eq_getElem?_getD, List.getElem?_replicate]; split <;> rfl
  have hz3 : m.hours.length * 8 ≤ 1000000 := by have := hfit.n12; omega
  generalize tab m = t at *
  refine Fn.of_ex (cuts := []) tys hM Try.func66 rfl Try.call66 rfl ?_
  show exC Try.prog T [] _ false none 0 (entry 27 [millD m]) (finQ T [ResultVar.tmp 2, ResultVar.tmp 3, ResultVar.tmp 4] _)
  conv => whnf
  repeat' first
    | (refine Ob.a ?_; conv => whnf)
    | (refine Sp.tt ?_; conv => whnf)
    | (refine Sp.ff ?_; conv => whnf)
    | (refine Sp.yes ?_; conv => whnf)
    | (refine Sp.no ?_; conv => whnf)
    | (refine Sp.nyes ?_; conv => whnf)
    | (refine Sp.nno ?_; conv => whnf)
    | (refine Sp.ne (fun hc => ?_) (fun hc => ?_) <;> (conv => whnf))
    | (refine Sp.dec (fun hc => ?_) (fun hc => ?_) <;> (conv => whnf))
    | (refine Sp.ndec (fun hc => ?_) (fun hc => ?_) <;> (conv => whnf))
    | (refine Sp.mk (fun hc => ?_) (fun hc => ?_) <;> (conv => whnf))
    | (apply Cl.go; (conv => whnf); (first | refine Ob.call (ho) ?_ | refine Ob.call (hs) ?_ | refine Ob.call (ht) ?_); (conv => whnf))
    | (refine Nx.mk (fun ka kb kx hx hs => ?_) (fun he => ?_) <;> (conv => whnf))
    | (refine Nx.mk (fun ka kx hx hs => ?_) (fun he => ?_) <;> (conv => whnf))
    | (refine Uk.mk (fun hn => ?_) ?_ <;> (conv => whnf))
    | (refine Fi.a ?_; conv => whnf)
    | (refine Yl.a ?_ ?_ <;> (conv => whnf))
    | (refine Ob.b ?_; conv => whnf)
  all_goals exact Lh

theorem tab_len (m : Mill) : (tab m).length = m.hours.length + 1 := by simp [tab]
theorem tab_zero (m : Mill) {h : Int} (h0 : 0 ≤ h) (h1 : h ≤ m.limit) (hl : m.limit ≤ 41) : ((tab m).getD 0 []).getD h.toNat 0 = V m m.hours h := by
  have e : (tab m).getD 0 [] = vrow m 0 := by simp [tab]
  rw [e, vrow_getD _ _ _ (by omega), if_pos (by omega), Int.toNat_of_nonneg h0]; rfl

theorem MostP_spec (m : Mill) (hl : m.hours.length < 1000000) : Fn Try.prog 28 [millD m] (tpl [int (mostP m).1, int (mostP m).2]) := by
  unfold mostP
  by_cases h : checkMill m = 0
  case neg =>
    have hp := planned_err m hl _ rfl h
    rw [if_pos h]
    generalize checkMill m = c at *
    refine Fn.of_ex (cuts := []) tys hM Try.func28 rfl Try.call28 rfl ?_
    show exC Try.prog T [] _ false none 0 (entry 22 [millD m]) (finQ T [ResultVar.tmp 2, ResultVar.tmp 3] _)
    conv => whnf
    repeat' first
      | (refine Ob.a ?_; conv => whnf)
      | (refine Sp.tt ?_; conv => whnf)
      | (refine Sp.ff ?_; conv => whnf)
      | (refine Sp.yes ?_; conv => whnf)
      | (refine Sp.no ?_; conv => whnf)
      | (refine Sp.nyes ?_; conv => whnf)
      | (refine Sp.nno ?_; conv => whnf)
      | (refine Sp.ne (fun hc => ?_) (fun hc => ?_) <;> (conv => whnf))
      | (refine Sp.dec (fun hc => ?_) (fun hc => ?_) <;> (conv => whnf))
      | (refine Sp.ndec (fun hc => ?_) (fun hc => ?_) <;> (conv => whnf))
      | (refine Sp.mk (fun hc => ?_) (fun hc => ?_) <;> (conv => whnf))
      | (apply Cl.go; (conv => whnf); (first | refine Ob.call (hp) ?_); (conv => whnf))
      | (refine Nx.mk (fun ka kb kx hx hs => ?_) (fun he => ?_) <;> (conv => whnf))
      | (refine Nx.mk (fun ka kx hx hs => ?_) (fun he => ?_) <;> (conv => whnf))
      | (refine Uk.mk (fun hn => ?_) ?_ <;> (conv => whnf))
      | (refine Fi.a ?_; conv => whnf)
      | (refine Yl.a ?_ ?_ <;> (conv => whnf))
      | (refine Ob.b ?_; conv => whnf)
    all_goals exact Lh
  obtain ⟨_, hk, _⟩ := checkMill_zero h
  obtain ⟨⟨_, _⟩, ⟨_, _⟩, ⟨_, _⟩, _, _⟩ := hk
  rw [if_neg (by omega)]
  by_cases hc : Cool m m.hours
  case neg =>
    have hp := planned_hot m h hc
    rw [if_neg hc]
    refine Fn.of_ex (cuts := []) tys hM Try.func28 rfl Try.call28 rfl ?_
    show exC Try.prog T [] _ false none 0 (entry 22 [millD m]) (finQ T [ResultVar.tmp 2, ResultVar.tmp 3] _)
    conv => whnf
    repeat' first
      | (refine Ob.a ?_; conv => whnf)
      | (refine Sp.tt ?_; conv => whnf)
      | (refine Sp.ff ?_; conv => whnf)
      | (refine Sp.yes ?_; conv => whnf)
      | (refine Sp.no ?_; conv => whnf)
      | (refine Sp.nyes ?_; conv => whnf)
      | (refine Sp.nno ?_; conv => whnf)
      | (refine Sp.ne (fun hc => ?_) (fun hc => ?_) <;> (conv => whnf))
      | (refine Sp.dec (fun hc => ?_) (fun hc => ?_) <;> (conv => whnf))
      | (refine Sp.ndec (fun hc => ?_) (fun hc => ?_) <;> (conv => whnf))
      | (refine Sp.mk (fun hc => ?_) (fun hc => ?_) <;> (conv => whnf))
      | (apply Cl.go; (conv => whnf); (first | refine Ob.call (hp) ?_); (conv => whnf))
      | (refine Nx.mk (fun ka kb kx hx hs => ?_) (fun he => ?_) <;> (conv => whnf))
      | (refine Nx.mk (fun ka kx hx hs => ?_) (fun he => ?_) <;> (conv => whnf))
      | (refine Uk.mk (fun hn => ?_) ?_ <;> (conv => whnf))
      | (refine Fi.a ?_; conv => whnf)
      | (refine Yl.a ?_ ?_ <;> (conv => whnf))
      | (refine Ob.b ?_; conv => whnf)
    all_goals exact Lh
  have hp := planned_ok m h hc
  have hz : ((tab m).getD (Int.toNat 0) []).getD (0 + m.start.toNat * ti2.size) 0 = V m m.hours m.start := by
    show ((tab m).getD (Int.toNat 0) []).getD (0 + m.start.toNat * 1) 0 = _
    rw [Nat.zero_add, Nat.mul_one]; exact tab_zero m (by omega) (by omega) (by omega)
  have hu : 0 + m.start.toNat * ti2.size < 42 := by show 0 + m.start.toNat * 1 < 42; omega
  have hl' := tab_len m
  rw [if_pos hc]
  generalize tab m = t at *
  generalize V m m.hours m.start = v at *
  refine Fn.of_ex (cuts := []) tys hM Try.func28 rfl Try.call28 rfl ?_
  show exC Try.prog T [] _ false none 0 (entry 22 [millD m]) (finQ T [ResultVar.tmp 2, ResultVar.tmp 3] _)
  conv => whnf
  repeat' first
    | (refine Ob.a ?_; conv => whnf)
    | (refine Sp.tt ?_; conv => whnf)
    | (refine Sp.ff ?_; conv => whnf)
    | (refine Sp.yes ?_; conv => whnf)
    | (refine Sp.no ?_; conv => whnf)
    | (refine Sp.nyes ?_; conv => whnf)
    | (refine Sp.nno ?_; conv => whnf)
    | (refine Sp.ne (fun hc => ?_) (fun hc => ?_) <;> (conv => whnf))
    | (refine Sp.dec (fun hc => ?_) (fun hc => ?_) <;> (conv => whnf))
    | (refine Sp.ndec (fun hc => ?_) (fun hc => ?_) <;> (conv => whnf))
    | (refine Sp.mk (fun hc => ?_) (fun hc => ?_) <;> (conv => whnf))
    | (apply Cl.go; (conv => whnf); (first | refine Ob.call (hp) ?_); (conv => whnf))
    | (refine Nx.mk (fun ka kb kx hx hs => ?_) (fun he => ?_) <;> (conv => whnf))
    | (refine Nx.mk (fun ka kx hx hs => ?_) (fun he => ?_) <;> (conv => whnf))
    | (refine Uk.mk (fun hn => ?_) ?_ <;> (conv => whnf))
    | (refine Fi.a ?_; conv => whnf)
    | (refine Yl.a ?_ ?_ <;> (conv => whnf))
    | (refine Ob.b ?_; conv => whnf)
  all_goals exact Lh

theorem WorthP_spec (m : Mill) (hl : m.hours.length < 1000000) : Fn Try.prog 32 [millD m] (tpl [int (worthP m).1, int (worthP m).2]) := by
  unfold worthP
  by_cases h : checkMill m = 0
  case neg =>
    have hp := planned_err m hl _ rfl h
    rw [if_pos h]
    generalize checkMill m = c at *
    refine Fn.of_ex (cuts := []) tys hM Try.func32 rfl Try.call32 rfl ?_
    show exC Try.prog T [] _ false none 0 (entry 43 [millD m]) (finQ T [ResultVar.tmp 2, ResultVar.tmp 3] _)
    conv => whnf
    repeat' first
      | (refine Ob.a ?_; conv => whnf)
      | (refine Sp.tt ?_; conv => whnf)
      | (refine Sp.ff ?_; conv => whnf)
      | (refine Sp.yes ?_; conv => whnf)
      | (refine Sp.no ?_; conv => whnf)
      | (refine Sp.nyes ?_; conv => whnf)
      | (refine Sp.nno ?_; conv => whnf)
      | (refine Sp.ne (fun hc => ?_) (fun hc => ?_) <;> (conv => whnf))
      | (refine Sp.dec (fun hc => ?_) (fun hc => ?_) <;> (conv => whnf))
      | (refine Sp.ndec (fun hc => ?_) (fun hc => ?_) <;> (conv => whnf))
      | (refine Sp.mk (fun hc => ?_) (fun hc => ?_) <;> (conv => whnf))
      | (apply Cl.go; (conv => whnf); (first | refine Ob.call (hp) ?_); (conv => whnf))
      | (refine Nx.mk (fun ka kb kx hx hs => ?_) (fun he => ?_) <;> (conv => whnf))
      | (refine Nx.mk (fun ka kx hx hs => ?_) (fun he => ?_) <;> (conv => whnf))
      | (refine Uk.mk (fun hn => ?_) ?_ <;> (conv => whnf))
      | (refine Fi.a ?_; conv => whnf)
      | (refine Yl.a ?_ ?_ <;> (conv => whnf))
      | (refine Ob.b ?_; conv => whnf)
    all_goals exact Lh
  obtain ⟨_, hk, _⟩ := checkMill_zero h
  obtain ⟨⟨_, _⟩, ⟨_, _⟩, ⟨_, _⟩, _, _⟩ := hk
  rw [if_neg (by omega)]
  by_cases hc : Cool m m.hours
  case neg =>
    have hp := planned_hot m h hc
    rw [if_neg hc]
    refine Fn.of_ex (cuts := []) tys hM Try.func32 rfl Try.call32 rfl ?_
    show exC Try.prog T [] _ false none 0 (entry 43 [millD m]) (finQ T [ResultVar.tmp 2, ResultVar.tmp 3] _)
    conv => whnf
    repeat' first
      | (refine Ob.a ?_; conv => whnf)
      | (refine Sp.tt ?_; conv => whnf)
      | (refine Sp.ff ?_; conv => whnf)
      | (refine Sp.yes ?_; conv => whnf)
      | (refine Sp.no ?_; conv => whnf)
      | (refine Sp.nyes ?_; conv => whnf)
      | (refine Sp.nno ?_; conv => whnf)
      | (refine Sp.ne (fun hc => ?_) (fun hc => ?_) <;> (conv => whnf))
      | (refine Sp.dec (fun hc => ?_) (fun hc => ?_) <;> (conv => whnf))
      | (refine Sp.ndec (fun hc => ?_) (fun hc => ?_) <;> (conv => whnf))
      | (refine Sp.mk (fun hc => ?_) (fun hc => ?_) <;> (conv => whnf))
      | (apply Cl.go; (conv => whnf); (first | refine Ob.call (hp) ?_); (conv => whnf))
      | (refine Nx.mk (fun ka kb kx hx hs => ?_) (fun he => ?_) <;> (conv => whnf))
      | (refine Nx.mk (fun ka kx hx hs => ?_) (fun he => ?_) <;> (conv => whnf))
      | (refine Uk.mk (fun hn => ?_) ?_ <;> (conv => whnf))
      | (refine Fi.a ?_; conv => whnf)
      | (refine Yl.a ?_ ?_ <;> (conv => whnf))
      | (refine Ob.b ?_; conv => whnf)
    all_goals exact Lh
  have hp := planned_ok m h hc
  have hfit := fit_of h
  have ht := table_spec (more m) 0 ⟨hfit.n12, hfit.gain, hfit.fall, hfit.start, hfit.hours⟩ (by simp only [more]; omega) (by simp only [more]; omega) (by simp only [more]; omega) (fun x hx => by have := hc x hx; simp only [more]; omega)
  have hz : ((tab m).getD (Int.toNat 0) []).getD (0 + m.start.toNat * ti2.size) 0 = V m m.hours m.start := by
    show ((tab m).getD (Int.toNat 0) []).getD (0 + m.start.toNat * 1) 0 = _
    rw [Nat.zero_add, Nat.mul_one]; exact tab_zero m (by omega) (by omega) (by omega)
  have hz2 : ((tab (more m)).getD (Int.toNat 0) []).getD (0 + m.start.toNat * ti2.size) 0 = V (more m) m.hours m.start := by
    show ((tab (more m)).getD (Int.toNat 0) []).getD (0 + m.start.toNat * 1) 0 = _
    rw [Nat.zero_add, Nat.mul_one]; exact tab_zero (more m) (by omega) (by simp only [more]; omega) (by simp only [more]; omega)
  have hu : 0 + m.start.toNat * ti2.size < 42 := by show 0 + m.start.toNat * 1 < 42; omega
  have hb1 := V_nn m m.hours m.start
  have hb2 := V_nn (more m) m.hours m.start
  have hpo : ∀ x ∈ m.hours, 0 ≤ x.pounds ∧ x.pounds ≤ 1000 := fun x hx => by obtain ⟨_, _, _, _⟩ := hfit.hours x hx; omega
  have hb3 := V_le m m.hours m.start hpo
  have hb4 := V_le (more m) m.hours m.start hpo
  have hn := hfit.n12
  have hl' := tab_len m
  have hl2 : (tab (more m)).length = m.hours.length + 1 := tab_len (more m)
  rw [if_pos hc]
  rw [show benchD (more m) 0 = .pt (st [int m.start, int (m.limit + 1), int m.gain, int m.fall, slOf 3 hourD default m.hours, int 0]) 0 from rfl] at ht
  generalize tab m = t at *
  generalize tab (more m) = t2 at *
  generalize V m m.hours m.start = v at *
  generalize V (more m) m.hours m.start = v2 at *
  refine Fn.of_ex (cuts := []) tys hM Try.func32 rfl Try.call32 rfl ?_
  show exC Try.prog T [] _ false none 0 (entry 43 [millD m]) (finQ T [ResultVar.tmp 2, ResultVar.tmp 3] _)
  conv => whnf
  repeat' first
    | (refine Ob.a ?_; conv => whnf)
    | (refine Sp.tt ?_; conv => whnf)
    | (refine Sp.ff ?_; conv => whnf)
    | (refine Sp.yes ?_; conv => whnf)
    | (refine Sp.no ?_; conv => whnf)
    | (refine Sp.nyes ?_; conv => whnf)
    | (refine Sp.nno ?_; conv => whnf)
    | (refine Sp.ne (fun hc => ?_) (fun hc => ?_) <;> (conv => whnf))
    | (refine Sp.dec (fun hc => ?_) (fun hc => ?_) <;> (conv => whnf))
    | (refine Sp.ndec (fun hc => ?_) (fun hc => ?_) <;> (conv => whnf))
    | (refine Sp.mk (fun hc => ?_) (fun hc => ?_) <;> (conv => whnf))
    | (apply Cl.go; (conv => whnf); (first | refine Ob.call (hp) ?_ | refine Ob.call (ht) ?_); (conv => whnf))
    | (refine Nx.mk (fun ka kb kx hx hs => ?_) (fun he => ?_) <;> (conv => whnf))
    | (refine Nx.mk (fun ka kx hx hs => ?_) (fun he => ?_) <;> (conv => whnf))
    | (refine Uk.mk (fun hn => ?_) ?_ <;> (conv => whnf))
    | (refine Fi.a ?_; conv => whnf)
    | (refine Yl.a ?_ ?_ <;> (conv => whnf))
    | (refine Ob.b ?_; conv => whnf)
  all_goals first | exact Lh
end Go.Px.Try

/-! Pr15 -/
namespace Go.Px.Try
open Go Go.Proofs Go.Px

theorem Clone_spec (l : List Int) (hl : l.length < 1000000) : Fn Try.prog 79 [ints l] (ints l) := by
  refine Fn.of_ex (cuts := []) tys hM Try.func79 rfl Try.call79 rfl ?_
  show exC Try.prog T [] _ false none 0 (entry 8 [ints l]) (finQ T [ResultVar.tmp 2] _)
  conv => whnf
  repeat' first
    | (refine Ob.a ?_; conv => whnf)
    | (refine Sp.tt ?_; conv => whnf)
    | (refine Sp.ff ?_; conv => whnf)
    | (refine Sp.yes ?_; conv => whnf)
    | (refine Sp.no ?_; conv => whnf)
    | (refine Sp.nyes ?_; conv => whnf)
    | (refine Sp.nno ?_; conv => whnf)
    | (refine Sp.ne (fun hc => ?_) (fun hc => ?_) <;> (conv => whnf))
    | (refine Sp.dec (fun hc => ?_) (fun hc => ?_) <;> (conv => whnf))
    | (refine Sp.ndec (fun hc => ?_) (fun hc => ?_) <;> (conv => whnf))
    | (refine Sp.mk (fun hc => ?_) (fun hc => ?_) <;> (conv => whnf))
    | (refine Nx.mk (fun ka kb kx hx hs => ?_) (fun he => ?_) <;> (conv => whnf))
    | (refine Nx.mk (fun ka kx hx hs => ?_) (fun he => ?_) <;> (conv => whnf))
    | (refine Uk.mk (fun hn => ?_) ?_ <;> (conv => whnf))
    | (refine Fi.a ?_; conv => whnf)
    | (refine Yl.a ?_ ?_ <;> (conv => whnf))
    | (refine Ob.b ?_; conv => whnf)
  · have e : l = [] := List.length_eq_zero_iff.1 hn
    exact Lf
  · exact Lf

def tabP (m : Mill) : List (List Int) := (tab m).map fun r => r.take (m.limit + 1).toNat
def tableP (m : Mill) : List (List Int) × Int := if checkMill m ≠ 0 then ([], checkMill m) else if Cool m m.hours then (tabP m, 0) else ([], 13)

theorem TableP_spec (m : Mill) (hl : m.hours.length < 1000000) : Fn Try.prog 52 [millD m] (tpl [plansD (tableP m).1, int (tableP m).2]) := by
  unfold tableP
  by_cases h : checkMill m = 0
  case neg =>
    have hp := planned_err m hl _ rfl h
    rw [if_pos h]
    generalize checkMill m = c at *
    refine Fn.of_ex (cuts := []) tys hM Try.func52 rfl Try.call52 rfl ?_
    show exC Try.prog T [] _ false none 0 (entry 35 [millD m]) (finQ T [ResultVar.tmp 2, ResultVar.tmp 3] _)
    conv => whnf
    repeat' first
      | (refine Ob.a ?_; conv => whnf)
      | (refine Sp.tt ?_; conv => whnf)
      | (refine Sp.ff ?_; conv => whnf)
      | (refine Sp.yes ?_; conv => whnf)
      | (refine Sp.no ?_; conv => whnf)
      | (refine Sp.nyes ?_; conv => whnf)
      | (refine Sp.nno ?_; conv => whnf)
      | (refine Sp.ne (fun hc => ?_) (fun hc => ?_) <;> (conv => whnf))
      | (refine Sp.dec (fun hc => ?_) (fun hc => ?_) <;> (conv => whnf))
      | (refine Sp.ndec (fun hc => ?_) (fun hc => ?_) <;> (conv => whnf))
      | (refine Sp.mk (fun hc => ?_) (fun hc => ?_) <;> (conv => whnf))
      | (apply Cl.go; (conv => whnf); (first | refine Ob.call (hp) ?_); (conv => whnf))
      | (refine Nx.mk (fun ka kb kx hx hs => ?_) (fun he => ?_) <;> (conv => whnf))
      | (refine Nx.mk (fun ka kx hx hs => ?_) (fun he => ?_) <;> (conv => whnf))
      | (refine Uk.mk (fun hn => ?_) ?_ <;> (conv => whnf))
      | (refine Fi.a ?_; conv => whnf)
      | (refine Yl.a ?_ ?_ <;> (conv => whnf))
      | (refine Ob.b ?_; conv => whnf)
    all_goals exact Lh
  obtain ⟨_, hk, _⟩ := checkMill_zero h
  obtain ⟨⟨_, _⟩, ⟨_, _⟩, ⟨_, _⟩, _, _⟩ := hk
  rw [if_neg (by omega)]
  by_cases hc : Cool m m.hours
  case neg =>
    have hp := planned_hot m h hc
    rw [if_neg hc]
    refine Fn.of_ex (cuts := []) tys hM Try.func52 rfl Try.call52 rfl ?_
    show exC Try.prog T [] _ false none 0 (entry 35 [millD m]) (finQ T [ResultVar.tmp 2, ResultVar.tmp 3] _)
    conv => whnf
    repeat' first
      | (refine Ob.a ?_; conv => whnf)
      | (refine Sp.tt ?_; conv => whnf)
      | (refine Sp.ff ?_; conv => whnf)
      | (refine Sp.yes ?_; conv => whnf)
      | (refine Sp.no ?_; conv => whnf)
      | (refine Sp.nyes ?_; conv => whnf)
      | (refine Sp.nno ?_; conv => whnf)
      | (refine Sp.ne (fun hc => ?_) (fun hc => ?_) <;> (conv => whnf))
      | (refine Sp.dec (fun hc => ?_) (fun hc => ?_) <;> (conv => whnf))
      | (refine Sp.ndec (fun hc => ?_) (fun hc => ?_) <;> (conv => whnf))
      | (refine Sp.mk (fun hc => ?_) (fun hc => ?_) <;> (conv => whnf))
      | (apply Cl.go; (conv => whnf); (first | refine Ob.call (hp) ?_); (conv => whnf))
      | (refine Nx.mk (fun ka kb kx hx hs => ?_) (fun he => ?_) <;> (conv => whnf))
      | (refine Nx.mk (fun ka kx hx hs => ?_) (fun he => ?_) <;> (conv => whnf))
      | (refine Uk.mk (fun hn => ?_) ?_ <;> (conv => whnf))
      | (refine Fi.a ?_; conv => whnf)
      | (refine Yl.a ?_ ?_ <;> (conv => whnf))
      | (refine Ob.b ?_; conv => whnf)
    all_goals exact Lh
  have hp := planned_ok m h hc
  have hl' := tab_len m
  have hrow : ∀ i, i < (tab m).length → ((tab m).getD i []).length = 42 := fun i hi => by
    have : (tab m).getD i [] = vrow m i := by rw [List.getD_eq_getElem?_getD, tab, List.getElem?_map, List.getElem?_range (by omega)]; rfl
    rw [this]; simp [vrow]
  rw [if_pos hc]
  unfold tabP
  generalize tab m = t at *
  have hcl := fun i => Clone_spec ((t.getD i []).take (m.limit + 1).toNat) (by rw [List.length_take]; omega)
  refine Fn.of_ex (cuts := []) tys hM Try.func52 rfl Try.call52 rfl ?_
  show exC Try.prog T [] _ false none 0 (entry 35 [millD m]) (finQ T [ResultVar.tmp 2, ResultVar.tmp 3] _)
  conv => whnf
  repeat' first
    | (refine Ob.a ?_; conv => whnf)
    | (refine Sp.tt ?_; conv => whnf)
    | (refine Sp.ff ?_; conv => whnf)
    | (refine Sp.yes ?_; conv => whnf)
    | (refine Sp.no ?_; conv => whnf)
    | (refine Sp.nyes ?_; conv => whnf)
    | (refine Sp.nno ?_; conv => whnf)
    | (refine Sp.ne (fun hc => ?_) (fun hc => ?_) <;> (conv => whnf))
    | (refine Sp.dec (fun hc => ?_) (fun hc => ?_) <;> (conv => whnf))
    | (refine Sp.ndec (fun hc => ?_) (fun hc => ?_) <;> (conv => whnf))
    | (refine Sp.mk (fun hc => ?_) (fun hc => ?_) <;> (conv => whnf))
    | (apply Cl.go; (conv => whnf); (first | refine Ob.call (hp) ?_); (conv => whnf))
    | (refine Nx.mk (fun ka kb kx hx hs => ?_) (fun he => ?_) <;> (conv => whnf))
    | (refine Nx.mk (fun ka kx hx hs => ?_) (fun he => ?_) <;> (conv => whnf))
    | (refine Uk.mk (fun hn => ?_) ?_ <;> (conv => whnf))
    | (refine Fi.a ?_; conv => whnf)
    | (refine Yl.a ?_ ?_ <;> (conv => whnf))
    | (refine Ob.b ?_; conv => whnf)
  refine Lp.snap [0, 1, 2, 3, 19, 20, 34] 40 ?_
  (conv => whnf)
  refine LpB.go 35 ({p : Int × List (List Int) // (0 ≤ p.1 ∧ p.1 ≤ t.length) ∧ p.2 = (t.take p.1.toNat).map fun r => r.take (m.limit + 1).toNat}) 0 (fun ⟨(i, o), _⟩ nx => ([(21, .d (int i)), (7, .ms 14 1 0 o.length)], [(14, .row true 29 1 o.length (rowOf ints [] o))])) (fun p => (t.length - p.1.1).toNat) (⟨(0, []), ⟨by simp, by simp⟩, rfl⟩) ?_ ?_
  · rintro ⟨⟨i, o⟩, ⟨hi0, hi⟩, ho⟩
    simp only at hi0 hi ho
    have hol : o.length ≤ 20 := by rw [ho, List.length_map, List.length_take]; omega
    conv => whnf
    repeat' first
      | (refine Ob.a ?_; conv => whnf)
      | (refine Sp.tt ?_; conv => whnf)
      | (refine Sp.ff ?_; conv => whnf)
      | (refine Sp.yes ?_; conv => whnf)
      | (refine Sp.no ?_; conv => whnf)
      | (refine Sp.nyes ?_; conv => whnf)
      | (refine Sp.nno ?_; conv => whnf)
      | (refine Sp.ne (fun hc => ?_) (fun hc => ?_) <;> (conv => whnf))
      | (refine Sp.dec (fun hc => ?_) (fun hc => ?_) <;> (conv => whnf))
      | (refine Sp.ndec (fun hc => ?_) (fun hc => ?_) <;> (conv => whnf))
      | (refine Sp.mk (fun hc => ?_) (fun hc => ?_) <;> (conv => whnf))
      | (refine Nx.mk (fun ka kb kx hx hs => ?_) (fun he => ?_) <;> (conv => whnf))
      | (refine Nx.mk (fun ka kx hx hs => ?_) (fun he => ?_) <;> (conv => whnf))
      | (refine Uk.mk (fun hn => ?_) ?_ <;> (conv => whnf))
      | (refine Fi.a ?_; conv => whnf)
      | (refine Yl.a ?_ ?_ <;> (conv => whnf))
      | (refine Ob.b ?_; conv => whnf)
    · apply Cl.go
      (conv => whnf)
      refine Ob.fn ?_ ?_ ?_ (hcl i.toNat)
      rotate_left
      all_goals try (repeat' first | (refine Edge.fast ?_) | ((conv => whnf); first | exact True.intro | (refine And.intro ?_ ?_) | exact rfl | exact Nat.le_of_eq (Nat.zero_add _) | exact ImpS.refl _ | ((conv => arg 1; whnf); first | exact ImpS.refl _ | (refine ImpS.nil_eq ?_) | (refine ImpS.vnil_eq ?_) | (refine ImpS.row ?_) | (refine ImpS.rowN ?_ ?_) | (refine ImpS.sl_eq ?_) | (refine ImpS.expl rfl ?_)) | (refine row_snoc' ?_) | (apply row_upd) | exact cimp_none | exact cimp_same | exact List.not_mem_nil | exact DImp.refl _) | exact rfl | (refine And.intro ?_ ?_) | exact ImpS.refl _)
      all_goals try first | assumption | omega
      · conv => whnf
        conv => arg 1; whnf
        refine ImpS.fn (by rw [List.length_take, hrow _ (by omega)]; omega) fun j hj => (if_pos (by show 0 ≤ 0 + j ∧ 0 + j < 0 + 42; omega)).trans ?_
        show int ((t.getD i.toNat []).getD (0 + j - 0 + 0) 0) = _
        rw [show 0 + j - 0 + 0 = j by omega]
        congr 1
        simp only [List.getD_eq_getElem?_getD, List.getElem?_take]
        rw [if_pos (by omega)]
      · have ht : o ++ [(t.getD i.toNat []).take (m.limit + 1).toNat] = (t.take (i + 1).toNat).map (fun r => r.take (m.limit + 1).toNat) := by
          rw [show (i + 1).toNat = i.toNat + 1 by omega, take_succ_getD t i.toNat [] (by omega), List.map_append, ho]; rfl
        conv => whnf
        repeat' first
          | (refine Ob.a ?_; conv => whnf)
          | (refine Sp.tt ?_; conv => whnf)
          | (refine Sp.ff ?_; conv => whnf)
          | (refine Sp.yes ?_; conv => whnf)
          | (refine Sp.no ?_; conv => whnf)
          | (refine Sp.nyes ?_; conv => whnf)
          | (refine Sp.nno ?_; conv => whnf)
          | (refine Sp.ne (fun hc => ?_) (fun hc => ?_) <;> (conv => whnf))
          | (refine Sp.dec (fun hc => ?_) (fun hc => ?_) <;> (conv => whnf))
          | (refine Sp.ndec (fun hc => ?_) (fun hc => ?_) <;> (conv => whnf))
          | (refine Sp.mk (fun hc => ?_) (fun hc => ?_) <;> (conv => whnf))
          | (refine Nx.mk (fun ka kb kx hx hs => ?_) (fun he => ?_) <;> (conv => whnf))
          | (refine Nx.mk (fun ka kx hx hs => ?_) (fun he => ?_) <;> (conv => whnf))
          | (refine Uk.mk (fun hn => ?_) ?_ <;> (conv => whnf))
          | (refine Fi.a ?_; conv => whnf)
          | (refine Yl.a ?_ ?_ <;> (conv => whnf))
          | (refine Ob.b ?_; conv => whnf)
        exact ⟨rfl, ⟨(i + 1, o ++ [(t.getD i.toNat []).take (m.limit + 1).toNat]), ⟨by simp only; omega, by simp only; omega⟩, ht⟩, Lf, by simp only; omega⟩
    · have e : o = t.map (fun r => r.take (m.limit + 1).toNat) := by rw [ho, List.take_of_length_le (by omega)]
      exact Lf
  · exact Lh
end Go.Px.Try

/-! Pr8 -/
namespace Go.Px.Try
open Go Go.Proofs Go.Px

def fbest (bt : Stp → Stp → Bool) (l : List Stp) (i : Nat) : Stp := ((l.drop 1).take i).foldl (fun o x => if bt x o then x else o) (l.getD 0 default)
set_option maxHeartbeats 4000000 in
theorem best_spec (l : List Stp) (hl : 0 < l.length ∧ l.length < 1000) (c : Nat → DV) (bt : Stp → Stp → Bool) (hp : ∀ x ∈ l, ∀ y ∈ l, Fn Try.prog 70 [stpD x, stpD y, c 0, c 1] (bool (bt x y))) :
    Fn Try.prog 67 [slOf 3 stpD default l, .fn 70 0 2 (fun _ => .top) c] (stpD (fbest bt l (l.length - 1))) := by
  obtain ⟨hl0, hl1⟩ := hl
  refine Fn.of_ex (cuts := []) tys hM Try.func67 rfl Try.call67 rfl ?_
  show exC Try.prog T [] _ false none 0 (entry 25 [slOf 3 stpD default l, DV.fn 70 0 2 (fun _ => DV.top) c]) (finQ T [ResultVar.cell 4 97] _)
  conv => whnf
  repeat' first
    | (refine Ob.a ?_; conv => whnf)
    | (refine Sp.tt ?_; conv => whnf)
    | (refine Sp.ff ?_; conv => whnf)
    | (refine Sp.yes ?_; conv => whnf)
    | (refine Sp.no ?_; conv => whnf)
    | (refine Sp.nyes ?_; conv => whnf)
    | (refine Sp.nno ?_; conv => whnf)
    | (refine Sp.ne (fun hc => ?_) (fun hc => ?_) <;> (conv => whnf))
    | (refine Sp.dec (fun hc => ?_) (fun hc => ?_) <;> (conv => whnf))
    | (refine Sp.ndec (fun hc => ?_) (fun hc => ?_) <;> (conv => whnf))
    | (refine Sp.mk (fun hc => ?_) (fun hc => ?_) <;> (conv => whnf))
    | (refine Nx.mk (fun ka kb kx hx hs => ?_) (fun he => ?_) <;> (conv => whnf))
    | (refine Nx.mk (fun ka kx hx hs => ?_) (fun he => ?_) <;> (conv => whnf))
    | (refine Uk.mk (fun hn => ?_) ?_ <;> (conv => whnf))
    | (refine Fi.a ?_; conv => whnf)
    | (refine Yl.a ?_ ?_ <;> (conv => whnf))
    | (refine Ob.b ?_; conv => whnf)
  refine Lp.go 25 {p : Int × Stp // (0 ≤ p.1 ∧ p.1 ≤ l.length - 1) ∧ p.2 ∈ l ∧ fbest bt l p.1.toNat = p.2}
    (fun ⟨⟨i, o⟩, _⟩ => ⟨2, [(0, .d (slOf 3 stpD default l)), (1, .d (.fn 70 0 2 (fun _ => .top) c)), (4, .ref 0 0), (5, .ref 1 0), (12, .d (.sl false 3 (l.length - 1) fun j => stpD (l.getD (1 + j) default))), (13, .d (int (l.length - 1))), (14, .d (int i))],
      [(0, .cs true 3 fun j => .d .top), (1, .cs true 3 fun j => .d ([int o.g, int o.p, int o.h].getD j .top))], some 0⟩)
    (fun p => (l.length - 1 - p.1.1).toNat) ⟨(0, l.getD 0 default), ⟨by omega, by simp only; omega⟩, getD_mem hl0 default, rfl⟩ ?_ ?_ rfl (fun _ => rfl)
  · rintro ⟨⟨i, o⟩, ⟨hi0, hi⟩, hm, ho⟩
    simp only at hi0 hi hm ho
    have hst : i < l.length - 1 → fbest bt l (i + 1).toNat = if bt (l.getD (1 + i.toNat) default) o then l.getD (1 + i.toNat) default else o := fun h => by
      rw [show (i + 1).toNat = i.toNat + 1 by omega, ← ho, fbest, take_succ_getD _ _ default (by rw [List.length_drop]; omega), List.foldl_append]
      simp only [List.foldl_cons, List.foldl_nil, List.getD_eq_getElem?_getD, List.getElem?_drop]
      rfl
    have hmem : i < l.length - 1 → l.getD (1 + i.toNat) default ∈ l := fun h => getD_mem (by omega) _
    have hend : ¬ i < l.length - 1 → fbest bt l (l.length - 1) = o := fun h => by rw [← ho, show l.length - 1 = i.toNat by omega]
    generalize fbest bt l (l.length - 1) = r at *
    conv => whnf
    repeat' first
      | (refine Ob.a ?_; conv => whnf)
      | (refine Sp.tt ?_; conv => whnf)
      | (refine Sp.ff ?_; conv => whnf)
      | (refine Sp.yes ?_; conv => whnf)
      | (refine Sp.no ?_; conv => whnf)
      | (refine Sp.nyes ?_; conv => whnf)
      | (refine Sp.nno ?_; conv => whnf)
      | (refine Sp.ne (fun hc => ?_) (fun hc => ?_) <;> (conv => whnf))
      | (refine Sp.dec (fun hc => ?_) (fun hc => ?_) <;> (conv => whnf))
      | (refine Sp.ndec (fun hc => ?_) (fun hc => ?_) <;> (conv => whnf))
      | (refine Sp.mk (fun hc => ?_) (fun hc => ?_) <;> (conv => whnf))
      | (apply Cl.go; (conv => whnf); (first | refine Ob.call (hp _ (hmem (by assumption)) o hm) ?_); (conv => whnf))
      | (refine Nx.mk (fun ka kb kx hx hs => ?_) (fun he => ?_) <;> (conv => whnf))
      | (refine Nx.mk (fun ka kx hx hs => ?_) (fun he => ?_) <;> (conv => whnf))
      | (refine Uk.mk (fun hn => ?_) ?_ <;> (conv => whnf))
      | (refine Fi.a ?_; conv => whnf)
      | (refine Yl.a ?_ ?_ <;> (conv => whnf))
      | (refine Ob.b ?_; conv => whnf)
    · have e := (hst (by omega)).trans (if_pos hc)
      have hm' := hmem (by omega)
      refine ⟨rfl, ⟨(i + 1, l.getD (1 + i.toNat) default), ⟨by omega, by simp only; omega⟩, hm', e⟩, Lf, by simp only; omega⟩
    · have e := (hst (by omega)).trans (if_neg (by rw [hc]; exact Bool.false_ne_true))
      refine ⟨rfl, ⟨(i + 1, o), ⟨by omega, by simp only; omega⟩, hm, e⟩, Lf, by simp only; omega⟩
    · have e := hend (by omega)
      subst e
      exact Lf
  · conv => whnf
    repeat' first | (refine Edge.fast ?_) | ((conv => whnf); first | exact True.intro | (refine And.intro ?_ ?_) | exact rfl | exact Nat.le_of_eq (Nat.zero_add _) | exact ImpS.refl _ | ((conv => arg 1; whnf); first | exact ImpS.refl _ | (refine ImpS.nil_eq ?_) | (refine ImpS.vnil_eq ?_) | (refine ImpS.row ?_) | (refine ImpS.rowN ?_ ?_) | (refine ImpS.sl_eq ?_) | (refine ImpS.expl rfl ?_)) | (refine row_snoc' ?_) | (apply row_upd) | exact cimp_none | exact cimp_same | exact List.not_mem_nil | exact DImp.refl _) | exact rfl | (refine And.intro ?_ ?_) | exact ImpS.refl _
    all_goals first | omega
end Go.Px.Try

/-! Pr16 -/
namespace Go.Px.Try
open Go Go.Proofs Go.Px

theorem B_zero {m : Mill} : ∀ (H : List Hour) (h : Int), (∀ x ∈ H, 1 ≤ x.pounds) → V m H h = 0 → B m H h = zeros H.length
  | [], _, _, _ => rfl
  | x :: H, h, hp, hv => by
    have h1 := hp x (by simp)
    have n1 := V_nn m H (after m h x.hi 1)
    rw [V] at hv
    rw [B]
    split at hv
    · omega
    · rw [if_neg (by assumption), B_zero H _ (fun y hy => hp y (by simp [hy])) hv]; rfl

theorem fbest_B {m : Mill} {x : Hour} {h : Int} (hx : HourOk x) (hc : x.hi ≤ m.limit) (hg : 1 ≤ m.gain) (hf : 1 ≤ m.fall) (h0 : 0 ≤ h) (hl : h ≤ m.limit) (t : List (List Int)) (i : Int) (H : List Hour) (ht : ∀ h : Int, 0 ≤ h → h ≤ m.limit → at2 t (i + 1) h = V m H h) :
    fbest (btr t i) (stps m x h m.limit) ((stps m x h m.limit).length - 1) = stp m x h (if after m h x.hi 1 ≤ m.limit ∧ V m H (after m h x.hi 0) < x.pounds + V m H (after m h x.hi 1) then 1 else 0) := by
  obtain ⟨⟨_, _⟩, ⟨hi0, _⟩, _, _⟩ := hx
  have a0 := after0_le hf hl hc
  have n0 : 0 ≤ after m h x.hi 0 := after_nn h0 hi0 hg
  have n1 : 0 ≤ after m h x.hi 1 := after_nn h0 hi0 hg
  unfold stps
  rw [if_pos a0]
  by_cases a1 : after m h x.hi 1 ≤ m.limit
  · rw [if_pos a1]
    have e0 := ht _ n0 a0
    have e1 := ht _ n1 a1
    simp only [fbest, btr, stp, List.cons_append, List.nil_append, List.length_cons, List.length_nil, List.drop_succ_cons, List.drop_zero, List.getD_cons_zero, Nat.reduceAdd, Nat.add_one_sub_one, List.take_succ_cons, List.take_zero, List.foldl_cons, List.foldl_nil, decide_eq_true_eq, Int.mul_zero, Int.mul_one, e0, e1, a1, true_and]
    by_cases hlt : V m H (after m h x.hi 0) < x.pounds + V m H (after m h x.hi 1)
    · rw [if_pos (by omega), if_pos hlt]; simp
    · rw [if_neg (by omega), if_neg hlt]; simp
  · rw [if_neg a1, if_neg fun h => a1 h.1]
    simp [fbest, stp]

set_option maxHeartbeats 4000000 in
theorem PlanP_spec (m : Mill) (hl : m.hours.length < 1000000) : Fn Try.prog 30 [millD m] (tpl [ints (planP m).1, int (planP m).2]) := by
  unfold planP
  by_cases h : checkMill m = 0
  case neg =>
    have hp := planned_err m hl _ rfl h
    rw [if_pos h]
    generalize checkMill m = c at *
    refine Fn.of_ex (cuts := []) tys hM Try.func30 rfl Try.call30 rfl ?_
    show exC Try.prog T [] _ false none 0 (entry 62 [millD m]) (finQ T [ResultVar.tmp 2, ResultVar.tmp 3] _)
    conv => whnf
    repeat' first
      | (refine Ob.a ?_; conv => whnf)
      | (refine Sp.tt ?_; conv => whnf)
      | (refine Sp.ff ?_; conv => whnf)
      | (refine Sp.yes ?_; conv => whnf)
      | (refine Sp.no ?_; conv => whnf)
      | (refine Sp.nyes ?_; conv => whnf)
      | (refine Sp.nno ?_; conv => whnf)
      | (refine Sp.ne (fun hc => ?_) (fun hc => ?_) <;> (conv => whnf))
      | (refine Sp.dec (fun hc => ?_) (fun hc => ?_) <;> (conv => whnf))
      | (refine Sp.ndec (fun hc => ?_) (fun hc => ?_) <;> (conv => whnf))
      | (refine Sp.mk (fun hc => ?_) (fun hc => ?_) <;> (conv => whnf))
      | (apply Cl.go; (conv => whnf); (first | refine Ob.call (hp) ?_); (conv => whnf))
      | (refine Nx.mk (fun ka kb kx hx hs => ?_) (fun he => ?_) <;> (conv => whnf))
      | (refine Nx.mk (fun ka kx hx hs => ?_) (fun he => ?_) <;> (conv => whnf))
      | (refine Uk.mk (fun hn => ?_) ?_ <;> (conv => whnf))
      | (refine Fi.a ?_; conv => whnf)
      | (refine Yl.a ?_ ?_ <;> (conv => whnf))
      | (refine Ob.b ?_; conv => whnf)
    all_goals exact Lh
  have hfit := fit_of h
  obtain ⟨_, hk, hho⟩ := checkMill_zero h
  obtain ⟨⟨_, _⟩, ⟨_, _⟩, ⟨_, _⟩, _, _⟩ := hk
  rw [if_neg (by omega)]
  by_cases hcool : Cool m m.hours
  case neg =>
    have hp := planned_hot m h hcool
    rw [if_neg hcool]
    refine Fn.of_ex (cuts := []) tys hM Try.func30 rfl Try.call30 rfl ?_
    show exC Try.prog T [] _ false none 0 (entry 62 [millD m]) (finQ T [ResultVar.tmp 2, ResultVar.tmp 3] _)
    conv => whnf
    repeat' first
      | (refine Ob.a ?_; conv => whnf)
      | (refine Sp.tt ?_; conv => whnf)
      | (refine Sp.ff ?_; conv => whnf)
      | (refine Sp.yes ?_; conv => whnf)
      | (refine Sp.no ?_; conv => whnf)
      | (refine Sp.nyes ?_; conv => whnf)
      | (refine Sp.nno ?_; conv => whnf)
      | (refine Sp.ne (fun hc => ?_) (fun hc => ?_) <;> (conv => whnf))
      | (refine Sp.dec (fun hc => ?_) (fun hc => ?_) <;> (conv => whnf))
      | (refine Sp.ndec (fun hc => ?_) (fun hc => ?_) <;> (conv => whnf))
      | (refine Sp.mk (fun hc => ?_) (fun hc => ?_) <;> (conv => whnf))
      | (apply Cl.go; (conv => whnf); (first | refine Ob.call (hp) ?_); (conv => whnf))
      | (refine Nx.mk (fun ka kb kx hx hs => ?_) (fun he => ?_) <;> (conv => whnf))
      | (refine Nx.mk (fun ka kx hx hs => ?_) (fun he => ?_) <;> (conv => whnf))
      | (refine Uk.mk (fun hn => ?_) ?_ <;> (conv => whnf))
      | (refine Fi.a ?_; conv => whnf)
      | (refine Yl.a ?_ ?_ <;> (conv => whnf))
      | (refine Ob.b ?_; conv => whnf)
    all_goals exact Lh
  have hp := planned_ok m h hcool
  rw [if_pos hcool]
  have hl' := tab_len m
  have hn := hfit.n12
  have hu : (Int.toNat 0) < (tab m).length := by rw [hl']; simp
  have hz3 : m.hours.length * 8 ≤ 1000000 := by omega
  have hvr := vrow_ok m (b := 1000) (fun x hx => by obtain ⟨_, _, _, _⟩ := hho x hx; omega) (by omega) (by omega)
  have htb : ∀ r ∈ tab m, ∀ x ∈ r, 0 ≤ x ∧ x ≤ 100000 := fun r hr => by
    obtain ⟨i, _, rfl⟩ := List.mem_map.1 hr
    exact hvr i
  have hat : ∀ i : Nat, i < m.hours.length + 1 → ∀ h : Int, 0 ≤ h → h ≤ m.limit → at2 (tab m) i h = V m (m.hours.drop i) h := fun i hi h h0 h1 => by
    have e : (tab m).getD (i : Int).toNat [] = vrow m i := by rw [Int.toNat_natCast, List.getD_eq_getElem?_getD, tab, List.getElem?_map, List.getElem?_range hi]; rfl
    rw [at2, e, vrow_getD _ _ _ (by omega), if_pos (by omega), Int.toNat_of_nonneg h0]
  have hz : ((tab m).getD (Int.toNat 0) []).getD (m.start.toNat + 0) 0 = V m m.hours m.start := tab_zero m (by omega) (by omega) (by omega)
  have hB0 := B_zero (m := m) m.hours m.start fun x hx => by obtain ⟨_, _, _, _⟩ := hho x hx; omega
  generalize tab m = t at *
  refine Fn.of_ex (cuts := []) tys hM Try.func30 rfl Try.call30 rfl ?_
  show exC Try.prog T [] _ false none 0 (entry 62 [millD m]) (finQ T [ResultVar.tmp 2, ResultVar.tmp 3] _)
  conv => whnf
  repeat' first
    | (refine Ob.a ?_; conv => whnf)
    | (refine Sp.tt ?_; conv => whnf)
    | (refine Sp.ff ?_; conv => whnf)
    | (refine Sp.yes ?_; conv => whnf)
    | (refine Sp.no ?_; conv => whnf)
    | (refine Sp.nyes ?_; conv => whnf)
    | (refine Sp.nno ?_; conv => whnf)
    | (refine Sp.ne (fun hc => ?_) (fun hc => ?_) <;> (conv => whnf))
    | (refine Sp.dec (fun hc => ?_) (fun hc => ?_) <;> (conv => whnf))
    | (refine Sp.ndec (fun hc => ?_) (fun hc => ?_) <;> (conv => whnf))
    | (refine Sp.mk (fun hc => ?_) (fun hc => ?_) <;> (conv => whnf))
    | (apply Cl.go; (conv => whnf); (first | refine Ob.call (hp) ?_); (conv => whnf))
    | (refine Nx.mk (fun ka kb kx hx hs => ?_) (fun he => ?_) <;> (conv => whnf))
    | (refine Nx.mk (fun ka kx hx hs => ?_) (fun he => ?_) <;> (conv => whnf))
    | (refine Uk.mk (fun hn => ?_) ?_ <;> (conv => whnf))
    | (refine Fi.a ?_; conv => whnf)
    | (refine Yl.a ?_ ?_ <;> (conv => whnf))
    | (refine Ob.b ?_; conv => whnf)
  · have e : zeros m.hours.length = B m m.hours m.start := by
      refine (hB0 ?_).symm
      rw [← hz]
      exact hc m.start.toNat (by show _ < 42; omega)
    have hz1 : ((m.hours.length : Int)).toNat = (B m m.hours m.start).length := by rw [B_length]; simp
    have hz2 : ∀ j, j < ((m.hours.length : Int)).toNat → int 0 = int ((B m m.hours m.start).getD j 0) := fun j hj => by rw [← e]; simp [zeros, List.getD_eq_getElem?_getD, List.getElem?_replicate]; split <;> rfl
    exact Lf
  · clear hB0
    refine Lp.snap [0, 2, 3, 4, 5, 33, 61] 40 ?_
    (conv => whnf)
    refine LpB.go 62 ({p : Int × Int × List Int // (0 ≤ p.1 ∧ p.1 ≤ m.hours.length) ∧ (0 ≤ p.2.1 ∧ p.2.1 ≤ m.limit) ∧ p.2.2 ++ B m (m.hours.drop p.1.toNat) p.2.1 = B m m.hours m.start ∧ p.2.2.length = p.1}) 0 (fun ⟨(i, h, o), _⟩ nx => ([(34, .d (int i)), (8, .d (int h)), (7, .ms 20 1 0 o.length)], [(20, .row true 3 1 o.length (rowOf int 0 o))])) (fun p => (m.hours.length - p.1.1).toNat) (⟨(0, m.start, []), ⟨by simp, by simp⟩, ⟨by simp only; omega, by simp only; omega⟩, rfl, rfl⟩) ?_ ?_
    · rintro ⟨⟨i, h, o⟩, ⟨hi0, hi⟩, ⟨hh0, hh1⟩, hinv, hol⟩
      simp only at hi0 hi hh0 hh1 hinv hol
      have hlt : i < m.hours.length → i.toNat < m.hours.length := fun h => by omega
      have hst := steps_spec m 0 i h m.limit
      generalize hl : stps m (m.hours.getD i.toNat default) h m.limit = l
      have hco : i < m.hours.length → _ := fun hl' => collect_spec m 0 i h m.limit ⟨hi0, hl'⟩ ⟨by omega, by omega⟩ hfit l hl.symm
      have hlne : i < m.hours.length → 0 < l.length ∧ l.length < 1000 := fun hi' => by
        have := after0_le (m := m) (h := h) (by omega) hh1 (hcool _ (getD_mem (hlt hi') default))
        rw [← hl, stps, if_pos this]
        exact ⟨by simp, by split <;> simp⟩
      have hx : i < m.hours.length → HourOk (m.hours.getD i.toNat default) := fun hi' => hho _ (getD_mem (hlt hi') default)
      have hxc : i < m.hours.length → (m.hours.getD i.toNat default).hi ≤ m.limit := fun hi' => hcool _ (getD_mem (hlt hi') default)
      have hmem : i < m.hours.length → ∀ s ∈ l, (0 ≤ s.h ∧ s.h ≤ m.limit) ∧ 0 ≤ s.p ∧ s.p ≤ 1000 := fun hi' => hl ▸ stps_mem (hx hi') (by omega) hh0
      have hbs : i < m.hours.length → _ := fun hi' => best_spec l (hlne hi') (tabC t i) (btr t i) fun x hx y hy => plan1_spec t i ⟨hi0, by omega, by omega⟩ htb x y ⟨⟨(hmem hi' x hx).1.1, by have := (hmem hi' x hx).1.2; omega⟩, (hmem hi' x hx).2⟩ ⟨⟨(hmem hi' y hy).1.1, by have := (hmem hi' y hy).1.2; omega⟩, (hmem hi' y hy).2⟩
      have hB : i < m.hours.length → ∃ g : Int, fbest (btr t i) l (l.length - 1) = stp m (m.hours.getD i.toNat default) h g ∧ B m (m.hours.drop i.toNat) h = g :: B m (m.hours.drop (i + 1).toNat) (after m h (m.hours.getD i.toNat default).hi g) ∧ after m h (m.hours.getD i.toNat default).hi g ≤ m.limit ∧ 0 ≤ after m h (m.hours.getD i.toNat default).hi g := fun hi' => by
        have e := fbest_B (hx hi') (hxc hi') (by omega) (by omega) hh0 hh1 t i (m.hours.drop (i.toNat + 1)) fun h' h0 h1 => by
          have := hat (i.toNat + 1) (by omega) h' h0 h1
          rwa [show ((i.toNat + 1 : Nat) : Int) = i + 1 by omega] at this
        rw [hl] at e
        have hhi := (hx hi').2.1.1
        have e2 : m.hours.drop i.toNat = m.hours.getD i.toNat default :: m.hours.drop (i.toNat + 1) := drop_getD default (hlt hi')
        refine ⟨_, e, ?_⟩
        rw [e2, B, show (i + 1).toNat = i.toNat + 1 by omega]
        split
        · rename_i h1
          exact ⟨rfl, h1.1, after_nn hh0 hhi (by omega)⟩
        · exact ⟨rfl, after0_le (by omega) hh1 (hxc hi'), after_nn hh0 hhi (by omega)⟩
      have hend : ¬ i < m.hours.length → o = B m m.hours m.start := fun hn => by
        rw [← hinv, List.drop_eq_nil_of_le (by omega)]; simp [B]
      generalize hfb : fbest (btr t i) l (l.length - 1) = s at *
      have hs : i < m.hours.length → (o ++ [s.g]) ++ B m (m.hours.drop (i + 1).toNat) s.h = B m m.hours m.start ∧ 0 ≤ s.h ∧ s.h ≤ m.limit ∧ ((o ++ [s.g]).length : Int) = i + 1 := fun hi' => by
        obtain ⟨g, h1, h2, h3, h4⟩ := hB hi'
        rw [h1]
        refine ⟨?_, h4, h3, by simp; omega⟩
        rw [← hinv, h2, List.append_assoc]; rfl
      clear hB hmem hlne
      conv => whnf
      repeat' first
        | (refine Ob.a ?_; conv => whnf)
        | (refine Sp.tt ?_; conv => whnf)
        | (refine Sp.ff ?_; conv => whnf)
        | (refine Sp.yes ?_; conv => whnf)
        | (refine Sp.no ?_; conv => whnf)
        | (refine Sp.nyes ?_; conv => whnf)
        | (refine Sp.nno ?_; conv => whnf)
        | (refine Sp.ne (fun hc => ?_) (fun hc => ?_) <;> (conv => whnf))
        | (refine Sp.dec (fun hc => ?_) (fun hc => ?_) <;> (conv => whnf))
        | (refine Sp.ndec (fun hc => ?_) (fun hc => ?_) <;> (conv => whnf))
        | (refine Sp.mk (fun hc => ?_) (fun hc => ?_) <;> (conv => whnf))
        | (apply Cl.go; (conv => whnf); (first | refine Ob.call (hst) ?_ | refine Ob.call (hco (by omega)) ?_ | refine Ob.call (hbs (by omega)) ?_); (conv => whnf))
        | (refine Nx.mk (fun ka kb kx hx hs => ?_) (fun he => ?_) <;> (conv => whnf))
        | (refine Nx.mk (fun ka kx hx hs => ?_) (fun he => ?_) <;> (conv => whnf))
        | (refine Uk.mk (fun hn => ?_) ?_ <;> (conv => whnf))
        | (refine Fi.a ?_; conv => whnf)
        | (refine Yl.a ?_ ?_ <;> (conv => whnf))
        | (refine Ob.b ?_; conv => whnf)
      · obtain ⟨e1, e2, e3, e4⟩ := hs (by omega)
        exact ⟨rfl, ⟨(i + 1, s.h, o ++ [s.g]), ⟨by simp only; omega, by simp only; omega⟩, ⟨e2, e3⟩, e1, e4⟩, Lf, by simp only; omega⟩
      · have e := hend (by omega)
        exact Lf
    · exact Lh
end Go.Px.Try

/-! Pr17 -/
namespace Go.Px.Try
open Go Go.Proofs Go.Px

theorem ct77_spec (m : Mill) (l : List Int) (hl : l.length < 1000000) (hm : m.limit ≤ 1000) (hm0 : 0 ≤ m.limit) : Fn Try.prog 77 [ints l, .pt (millD m) 0] (bool (decide ((l.length : Int) ≠ m.limit + 1))) := by
  refine Fn.of_ex (cuts := []) tys hM Try.func77 rfl Try.call77 rfl ?_
  show exC Try.prog T [] _ false none 0 (entry 10 [ints l, .pt (millD m) 0]) (finQ T [ResultVar.tmp 3] _)
  conv => whnf
  repeat' first
    | (refine Ob.a ?_; conv => whnf)
    | (refine Sp.tt ?_; conv => whnf)
    | (refine Sp.ff ?_; conv => whnf)
    | (refine Sp.yes ?_; conv => whnf)
    | (refine Sp.no ?_; conv => whnf)
    | (refine Sp.nyes ?_; conv => whnf)
    | (refine Sp.nno ?_; conv => whnf)
    | (refine Sp.ne (fun hc => ?_) (fun hc => ?_) <;> (conv => whnf))
    | (refine Sp.dec (fun hc => ?_) (fun hc => ?_) <;> (conv => whnf))
    | (refine Sp.ndec (fun hc => ?_) (fun hc => ?_) <;> (conv => whnf))
    | (refine Sp.mk (fun hc => ?_) (fun hc => ?_) <;> (conv => whnf))
    | (refine Nx.mk (fun ka kb kx hx hs => ?_) (fun he => ?_) <;> (conv => whnf))
    | (refine Nx.mk (fun ka kx hx hs => ?_) (fun he => ?_) <;> (conv => whnf))
    | (refine Uk.mk (fun hn => ?_) ?_ <;> (conv => whnf))
    | (refine Fi.a ?_; conv => whnf)
    | (refine Yl.a ?_ ?_ <;> (conv => whnf))
    | (refine Ob.b ?_; conv => whnf)
  all_goals exact Lf
theorem ct78_spec (l : List Int) (hl : l.length < 1000000) : Fn Try.prog 78 [ints l] (bool (!decide (∀ x ∈ l, 0 ≤ x ∧ x ≤ 1200))) := by
  have hw := within_spec 0 1200 l hl
  generalize decide (∀ x ∈ l, 0 ≤ x ∧ x ≤ 1200) = b at *
  refine Fn.of_ex (cuts := []) tys hM Try.func78 rfl Try.call78 rfl ?_
  show exC Try.prog T [] _ false none 0 (entry 6 [ints l]) (finQ T [ResultVar.tmp 2] _)
  conv => whnf
  repeat' first
    | (refine Ob.a ?_; conv => whnf)
    | (refine Sp.tt ?_; conv => whnf)
    | (refine Sp.ff ?_; conv => whnf)
    | (refine Sp.yes ?_; conv => whnf)
    | (refine Sp.no ?_; conv => whnf)
    | (refine Sp.nyes ?_; conv => whnf)
    | (refine Sp.nno ?_; conv => whnf)
    | (refine Sp.ne (fun hc => ?_) (fun hc => ?_) <;> (conv => whnf))
    | (refine Sp.dec (fun hc => ?_) (fun hc => ?_) <;> (conv => whnf))
    | (refine Sp.ndec (fun hc => ?_) (fun hc => ?_) <;> (conv => whnf))
    | (refine Sp.mk (fun hc => ?_) (fun hc => ?_) <;> (conv => whnf))
    | (apply Cl.go; (conv => whnf); (first | refine Ob.call (hw) ?_); (conv => whnf))
    | (refine Nx.mk (fun ka kb kx hx hs => ?_) (fun he => ?_) <;> (conv => whnf))
    | (refine Nx.mk (fun ka kx hx hs => ?_) (fun he => ?_) <;> (conv => whnf))
    | (refine Uk.mk (fun hn => ?_) ?_ <;> (conv => whnf))
    | (refine Fi.a ?_; conv => whnf)
    | (refine Yl.a ?_ ?_ <;> (conv => whnf))
    | (refine Ob.b ?_; conv => whnf)
  all_goals exact Lf

theorem cell_stps {m : Mill} {t : List (List Int)} {i h : Int} : CellOk m t i h ↔ ∀ s ∈ stps m (hourAt m i) h m.limit, s.p + at2 t (i + 1) s.h ≤ at2 t i h := by
  unfold CellOk stps
  constructor
  · intro ⟨h0, h1⟩ s hs
    rcases List.mem_append.1 hs with hs | hs
    · split at hs
      · rw [List.mem_singleton.1 hs]; have := h0 (by assumption); simp [stp]; omega
      · cases hs
    · split at hs
      · rw [List.mem_singleton.1 hs]; have := h1 (by assumption); simp [stp]; omega
      · cases hs
  · intro hs
    refine ⟨fun h0 => ?_, fun h1 => ?_⟩
    · have := hs (stp m (hourAt m i) h 0) (List.mem_append_left _ (by rw [if_pos h0]; simp))
      simp [stp] at this; omega
    · have := hs (stp m (hourAt m i) h 1) (List.mem_append_right _ (by rw [if_pos h1]; simp))
      simp [stp] at this; omega

set_option maxHeartbeats 4000000 in
theorem CheckTableP_spec (m : Mill) (t : List (List Int)) (hl : m.hours.length < 1000000) (ht : t.length < 1000000) (htl : ∀ r ∈ t, r.length < 1000000) : Fn Try.prog 50 [millD m, tableD t] (tpl [int (checkTableR m t).1, int (checkTableR m t).2]) := by
  refine Fn.hide (D := fun r : Int × Int => tpl [int r.1, int r.2]) fun r hr => ?_
  by_cases h1 : checkMill m = 0
  case neg =>
    have e : r = (0, checkMill m) := hr.h ▸ if_pos h1
    have ho := open_err m [] hl (by simp) (by simp) (by rw [openErr_nil]; exact h1)
    rw [openErr_nil] at ho
    rw [e]
    generalize checkMill m = c at *
    refine Fn.of_ex (cuts := []) tys hM Try.func50 rfl Try.call50 rfl ?_
    show exC Try.prog T [] _ false none 0 (entry 87 [millD m, tableD t]) (finQ T [ResultVar.cell 4 2, ResultVar.cell 5 30] _)
    conv => whnf
    repeat' first
      | (refine Ob.a ?_; conv => whnf)
      | (refine Sp.tt ?_; conv => whnf)
      | (refine Sp.ff ?_; conv => whnf)
      | (refine Sp.yes ?_; conv => whnf)
      | (refine Sp.no ?_; conv => whnf)
      | (refine Sp.nyes ?_; conv => whnf)
      | (refine Sp.nno ?_; conv => whnf)
      | (refine Sp.ne (fun hc => ?_) (fun hc => ?_) <;> (conv => whnf))
      | (refine Sp.dec (fun hc => ?_) (fun hc => ?_) <;> (conv => whnf))
      | (refine Sp.ndec (fun hc => ?_) (fun hc => ?_) <;> (conv => whnf))
      | (refine Sp.mk (fun hc => ?_) (fun hc => ?_) <;> (conv => whnf))
      | (apply Cl.go; (conv => whnf); (first | refine Ob.call (ho) ?_); (conv => whnf))
      | (refine Nx.mk (fun ka kb kx hx hs => ?_) (fun he => ?_) <;> (conv => whnf))
      | (refine Nx.mk (fun ka kx hx hs => ?_) (fun he => ?_) <;> (conv => whnf))
      | (refine Uk.mk (fun hn => ?_) ?_ <;> (conv => whnf))
      | (refine Fi.a ?_; conv => whnf)
      | (refine Yl.a ?_ ?_ <;> (conv => whnf))
      | (refine Ob.b ?_; conv => whnf)
    all_goals exact Lf
  have hfit := fit_of h1
  have hn := hfit.n12
  obtain ⟨_, hk, hho⟩ := checkMill_zero h1
  obtain ⟨⟨_, _⟩, ⟨_, _⟩, ⟨_, _⟩, _, _⟩ := hk
  have ho := open_ok m [] hl (by simp) (by simp) (by rw [openErr_nil]; exact h1)
  have c77 := contains76_1 t 77 (fun j => [DV.pt (millD m) 0].getD j .top) (fun l => decide ((l.length : Int) ≠ m.limit + 1)) ht fun x hx => ct77_spec m x (htl x hx) (by omega) (by omega)
  have c78 := contains76_0 t 78 (fun _ => .top) (fun l => !decide (∀ x ∈ l, 0 ≤ x ∧ x ≤ 1200)) ht fun x hx => ct78_spec x (htl x hx)
  have hw : (t.any fun l => decide ((l.length : Int) ≠ m.limit + 1)) = !decide (Wide m t) := by
    by_cases h : Wide m t
    · rw [decide_eq_true h, List.any_eq_false.2 fun x hx => by simp [h x hx]]; rfl
    · obtain ⟨x, hx⟩ := Classical.not_forall.1 h
      obtain ⟨hx, e⟩ := Classical.not_imp.1 hx
      rw [decide_eq_false h, List.any_eq_true.2 ⟨x, hx, decide_eq_true e⟩]; rfl
  have hg : (t.any fun l => !decide (∀ x ∈ l, 0 ≤ x ∧ x ≤ 1200)) = !decide (Range t) := by
    by_cases h : Range t
    · rw [decide_eq_true h, List.any_eq_false.2 fun x hx => by rw [decide_eq_true (h x hx)]; simp]; rfl
    · obtain ⟨x, hx⟩ := Classical.not_forall.1 h
      obtain ⟨hx, e⟩ := Classical.not_imp.1 hx
      rw [decide_eq_false h, List.any_eq_true.2 ⟨x, hx, by rw [decide_eq_false e]; rfl⟩]; rfl
  rw [hw] at c77
  rw [hg] at c78
  by_cases h2 : t.length = m.hours.length + 1
  case neg =>
    have e : r = (0, 15) := hr.h ▸ ct1 h1 h2
    rw [e]
    refine Fn.of_ex (cuts := []) tys hM Try.func50 rfl Try.call50 rfl ?_
    show exC Try.prog T [] _ false none 0 (entry 87 [millD m, tableD t]) (finQ T [ResultVar.cell 4 2, ResultVar.cell 5 30] _)
    conv => whnf
    repeat' first
      | (refine Ob.a ?_; conv => whnf)
      | (refine Sp.tt ?_; conv => whnf)
      | (refine Sp.ff ?_; conv => whnf)
      | (refine Sp.yes ?_; conv => whnf)
      | (refine Sp.no ?_; conv => whnf)
      | (refine Sp.nyes ?_; conv => whnf)
      | (refine Sp.nno ?_; conv => whnf)
      | (refine Sp.ne (fun hc => ?_) (fun hc => ?_) <;> (conv => whnf))
      | (refine Sp.dec (fun hc => ?_) (fun hc => ?_) <;> (conv => whnf))
      | (refine Sp.ndec (fun hc => ?_) (fun hc => ?_) <;> (conv => whnf))
      | (refine Sp.mk (fun hc => ?_) (fun hc => ?_) <;> (conv => whnf))
      | (apply Cl.go; (conv => whnf); (first | refine Ob.call (ho) ?_ | refine Ob.call (c77) ?_); (conv => whnf))
      | (refine Nx.mk (fun ka kb kx hx hs => ?_) (fun he => ?_) <;> (conv => whnf))
      | (refine Nx.mk (fun ka kx hx hs => ?_) (fun he => ?_) <;> (conv => whnf))
      | (refine Uk.mk (fun hn => ?_) ?_ <;> (conv => whnf))
      | (refine Fi.a ?_; conv => whnf)
      | (refine Yl.a ?_ ?_ <;> (conv => whnf))
      | (refine Ob.b ?_; conv => whnf)
    all_goals exact Lf
  by_cases h3 : Wide m t
  case neg =>
    have e : r = (0, 15) := by rw [← hr.h]; unfold checkTableR; rw [if_neg (by simp [h1]), if_neg (by simp [h2]), if_pos h3]
    rw [e]
    rw [decide_eq_false h3] at c77
    refine Fn.of_ex (cuts := []) tys hM Try.func50 rfl Try.call50 rfl ?_
    show exC Try.prog T [] _ false none 0 (entry 87 [millD m, tableD t]) (finQ T [ResultVar.cell 4 2, ResultVar.cell 5 30] _)
    conv => whnf
    repeat' first
      | (refine Ob.a ?_; conv => whnf)
      | (refine Sp.tt ?_; conv => whnf)
      | (refine Sp.ff ?_; conv => whnf)
      | (refine Sp.yes ?_; conv => whnf)
      | (refine Sp.no ?_; conv => whnf)
      | (refine Sp.nyes ?_; conv => whnf)
      | (refine Sp.nno ?_; conv => whnf)
      | (refine Sp.ne (fun hc => ?_) (fun hc => ?_) <;> (conv => whnf))
      | (refine Sp.dec (fun hc => ?_) (fun hc => ?_) <;> (conv => whnf))
      | (refine Sp.ndec (fun hc => ?_) (fun hc => ?_) <;> (conv => whnf))
      | (refine Sp.mk (fun hc => ?_) (fun hc => ?_) <;> (conv => whnf))
      | (apply Cl.go; (conv => whnf); (first | refine Ob.call (ho) ?_ | refine Ob.call (c77) ?_); (conv => whnf))
      | (refine Nx.mk (fun ka kb kx hx hs => ?_) (fun he => ?_) <;> (conv => whnf))
      | (refine Nx.mk (fun ka kx hx hs => ?_) (fun he => ?_) <;> (conv => whnf))
      | (refine Uk.mk (fun hn => ?_) ?_ <;> (conv => whnf))
      | (refine Fi.a ?_; conv => whnf)
      | (refine Yl.a ?_ ?_ <;> (conv => whnf))
      | (refine Ob.b ?_; conv => whnf)
    all_goals exact Lf
  by_cases h4 : Range t
  case neg =>
    have e : r = (0, 3) := by rw [← hr.h]; unfold checkTableR; rw [if_neg (by simp [h1]), if_neg (by simp [h2]), if_neg (by simp [h3]), if_pos h4]
    rw [e]
    rw [decide_eq_false h4] at c78
    rw [decide_eq_true h3] at c77
    refine Fn.of_ex (cuts := []) tys hM Try.func50 rfl Try.call50 rfl ?_
    show exC Try.prog T [] _ false none 0 (entry 87 [millD m, tableD t]) (finQ T [ResultVar.cell 4 2, ResultVar.cell 5 30] _)
    conv => whnf
    repeat' first
      | (refine Ob.a ?_; conv => whnf)
      | (refine Sp.tt ?_; conv => whnf)
      | (refine Sp.ff ?_; conv => whnf)
      | (refine Sp.yes ?_; conv => whnf)
      | (refine Sp.no ?_; conv => whnf)
      | (refine Sp.nyes ?_; conv => whnf)
      | (refine Sp.nno ?_; conv => whnf)
      | (refine Sp.ne (fun hc => ?_) (fun hc => ?_) <;> (conv => whnf))
      | (refine Sp.dec (fun hc => ?_) (fun hc => ?_) <;> (conv => whnf))
      | (refine Sp.ndec (fun hc => ?_) (fun hc => ?_) <;> (conv => whnf))
      | (refine Sp.mk (fun hc => ?_) (fun hc => ?_) <;> (conv => whnf))
      | (apply Cl.go; (conv => whnf); (first | refine Ob.call (ho) ?_ | refine Ob.call (c77) ?_ | refine Ob.call (c78) ?_); (conv => whnf))
      | (refine Nx.mk (fun ka kb kx hx hs => ?_) (fun he => ?_) <;> (conv => whnf))
      | (refine Nx.mk (fun ka kx hx hs => ?_) (fun he => ?_) <;> (conv => whnf))
      | (refine Uk.mk (fun hn => ?_) ?_ <;> (conv => whnf))
      | (refine Fi.a ?_; conv => whnf)
      | (refine Yl.a ?_ ?_ <;> (conv => whnf))
      | (refine Ob.b ?_; conv => whnf)
    all_goals exact Lf
  rw [decide_eq_true h4] at c78
  rw [decide_eq_true h3] at c77
  have hlen : ∀ i : Int, 0 ≤ i → i < t.length → ((t.getD i.toNat []).length : Int) = m.limit + 1 := fun i h0 h => h3 _ (getD_mem (by omega) [])
  have hl0 : ((t.getD (Int.toNat 0) []).length : Int) = m.limit + 1 := hlen 0 (by omega) (by omega)
  have hsm := fun i j => range_sm h4 (i := i) (j := j)
  have fbad : ∀ i h : Int, 0 ≤ i → i < m.hours.length → 0 ≤ h → h ≤ m.limit → ¬ CellOk m t i h → r = (0, 14) := fun i h a b c d e => hr.h ▸ ct4 h1 h2 h3 h4 a b c d e
  have fok : (∀ i h : Int, 0 ≤ i → i < m.hours.length → 0 ≤ h → h ≤ m.limit → CellOk m t i h) → r = (at2 t 0 m.start, 0) := fun h => hr.h ▸ ct5 h1 h2 h3 h4 fun i j hi hj => h i j (by omega) (by omega) (by omega) (by omega)
  refine Fn.of_ex (cuts := []) tys hM Try.func50 rfl Try.call50 rfl ?_
  show exC Try.prog T [] _ false none 0 (entry 87 [millD m, tableD t]) (finQ T [ResultVar.cell 4 2, ResultVar.cell 5 30] _)
  conv => whnf
  repeat' first
    | (refine Ob.a ?_; conv => whnf)
    | (refine Sp.tt ?_; conv => whnf)
    | (refine Sp.ff ?_; conv => whnf)
    | (refine Sp.yes ?_; conv => whnf)
    | (refine Sp.no ?_; conv => whnf)
    | (refine Sp.nyes ?_; conv => whnf)
    | (refine Sp.nno ?_; conv => whnf)
    | (refine Sp.ne (fun hc => ?_) (fun hc => ?_) <;> (conv => whnf))
    | (refine Sp.dec (fun hc => ?_) (fun hc => ?_) <;> (conv => whnf))
    | (refine Sp.ndec (fun hc => ?_) (fun hc => ?_) <;> (conv => whnf))
    | (refine Sp.mk (fun hc => ?_) (fun hc => ?_) <;> (conv => whnf))
    | (apply Cl.go; (conv => whnf); (first | refine Ob.call (ho) ?_ | refine Ob.call (c77) ?_ | refine Ob.call (c78) ?_); (conv => whnf))
    | (refine Nx.mk (fun ka kb kx hx hs => ?_) (fun he => ?_) <;> (conv => whnf))
    | (refine Nx.mk (fun ka kx hx hs => ?_) (fun he => ?_) <;> (conv => whnf))
    | (refine Uk.mk (fun hn => ?_) ?_ <;> (conv => whnf))
    | (refine Fi.a ?_; conv => whnf)
    | (refine Yl.a ?_ ?_ <;> (conv => whnf))
    | (refine Ob.b ?_; conv => whnf)
  refine Lp.snap [0, 1, 2, 3, 4, 5, 6, 39, 63, 80, 81, 82, 83, 84, 85, 86] 40 ?_
  (conv => whnf)
  refine LpB.go 87 ({i : Int // (0 ≤ i ∧ i ≤ m.hours.length) ∧ ∀ i' h : Int, 0 ≤ i' → i' < i → 0 ≤ h → h ≤ m.limit → CellOk m t i' h}) 0 (fun ⟨i, _⟩ nx => ([(40, .d (int i))], [])) (fun p => (m.hours.length - p.1).toNat) (⟨0, ⟨by omega, by omega⟩, fun i' h a b => by omega⟩) ?_ ?_
  · rintro ⟨i, ⟨hi0, hi⟩, hinv⟩
    have hli : i < m.hours.length → ((t.getD i.toNat []).length : Int) = m.limit + 1 := fun h => hlen i hi0 (by omega)
    have hli' : i < m.hours.length → ((t.getD (i + 1).toNat []).length : Int) = m.limit + 1 := fun h => hlen (i + 1) (by omega) (by omega)
    have hend : ¬ i < m.hours.length → r = (at2 t 0 m.start, 0) := fun h => fok fun i' h' a b c d => hinv i' h' a (by omega) c d
    conv => whnf
    repeat' first
      | (refine Ob.a ?_; conv => whnf)
      | (refine Sp.tt ?_; conv => whnf)
      | (refine Sp.ff ?_; conv => whnf)
      | (refine Sp.yes ?_; conv => whnf)
      | (refine Sp.no ?_; conv => whnf)
      | (refine Sp.nyes ?_; conv => whnf)
      | (refine Sp.nno ?_; conv => whnf)
      | (refine Sp.ne (fun hc => ?_) (fun hc => ?_) <;> (conv => whnf))
      | (refine Sp.dec (fun hc => ?_) (fun hc => ?_) <;> (conv => whnf))
      | (refine Sp.ndec (fun hc => ?_) (fun hc => ?_) <;> (conv => whnf))
      | (refine Sp.mk (fun hc => ?_) (fun hc => ?_) <;> (conv => whnf))
      | (refine Nx.mk (fun ka kb kx hx hs => ?_) (fun he => ?_) <;> (conv => whnf))
      | (refine Nx.mk (fun ka kx hx hs => ?_) (fun he => ?_) <;> (conv => whnf))
      | (refine Uk.mk (fun hn => ?_) ?_ <;> (conv => whnf))
      | (refine Fi.a ?_; conv => whnf)
      | (refine Yl.a ?_ ?_ <;> (conv => whnf))
      | (refine Ob.b ?_; conv => whnf)
    · have hci := hc
      refine Lp.snap [0, 1, 2, 3, 4, 5, 6, 8, 39, 40, 42, 43, 44, 45, 46, 47, 63, 79, 80, 81, 82, 83, 84, 85, 86] 40 ?_
      (conv => whnf)
      refine LpB.go 87 ({h : Int // (0 ≤ h ∧ h ≤ m.limit + 1) ∧ ∀ h' : Int, 0 ≤ h' → h' < h → CellOk m t i h'}) 0 (fun ⟨h, _⟩ nx => ([(48, .d (int h))], [])) (fun p => (m.limit + 1 - p.1).toNat) (⟨0, ⟨by omega, by omega⟩, fun h' a b => by omega⟩) ?_ ?_
      · rintro ⟨h, ⟨hh0, hh⟩, hinv2⟩
        have hsp := steps_spec m 0 i h m.limit
        generalize hl : stps m (m.hours.getD i.toNat default) h m.limit = l
        have hsq : h < m.limit + 1 → _ := fun h' => steps1_spec m 0 i h m.limit ⟨hi0, hci⟩ ⟨by omega, by omega⟩ hfit l hl.symm
        have hsz : h < (t.getD i.toNat []).length → h < m.limit + 1 := fun a => by have := hli hci; omega
        have hmem : h < m.limit + 1 → ∀ s ∈ l, (0 ≤ s.h ∧ s.h ≤ m.limit) ∧ 0 ≤ s.p ∧ s.p ≤ 1000 := fun _ => hl ▸ stps_mem (hho _ (getD_mem (by omega) default)) (by omega) hh0
        have hce : CellOk m t i h ↔ ∀ s ∈ l, s.p + at2 t (i + 1) s.h ≤ at2 t i h := by rw [← hl]; exact cell_stps
        have hstep : h < (t.getD i.toNat []).length → CellOk m t i h → (0 ≤ h + 1 ∧ h + 1 ≤ m.limit + 1) ∧ ∀ h' : Int, 0 ≤ h' → h' < h + 1 → CellOk m t i h' := fun a b => by
          have := hsz a
          refine ⟨⟨by omega, by omega⟩, fun h' c d => ?_⟩
          by_cases e : h' = h
          · rw [e]; exact b
          · exact hinv2 h' c (by omega)
        have hnxt : ¬ h < (t.getD i.toNat []).length → (0 ≤ i + 1 ∧ i + 1 ≤ m.hours.length) ∧ ∀ i' h' : Int, 0 ≤ i' → i' < i + 1 → 0 ≤ h' → h' ≤ m.limit → CellOk m t i' h' := fun a => by
          have := hli hci
          refine ⟨⟨by omega, by omega⟩, fun i' h' b c d e => ?_⟩
          by_cases f : i' = i
          · rw [f]; exact hinv2 h' d (by omega)
          · exact hinv i' h' b (by omega) d e
        clear hl
        conv => whnf
        repeat' first
          | (refine Ob.a ?_; conv => whnf)
          | (refine Sp.tt ?_; conv => whnf)
          | (refine Sp.ff ?_; conv => whnf)
          | (refine Sp.yes ?_; conv => whnf)
          | (refine Sp.no ?_; conv => whnf)
          | (refine Sp.nyes ?_; conv => whnf)
          | (refine Sp.nno ?_; conv => whnf)
          | (refine Sp.ne (fun hc => ?_) (fun hc => ?_) <;> (conv => whnf))
          | (refine Sp.dec (fun hc => ?_) (fun hc => ?_) <;> (conv => whnf))
          | (refine Sp.ndec (fun hc => ?_) (fun hc => ?_) <;> (conv => whnf))
          | (refine Sp.mk (fun hc => ?_) (fun hc => ?_) <;> (conv => whnf))
          | (apply Cl.go; (conv => whnf); (first | refine Ob.call (hsp) ?_); (conv => whnf))
          | (refine Nx.mk (fun ka kb kx hx hs => ?_) (fun he => ?_) <;> (conv => whnf))
          | (refine Nx.mk (fun ka kx hx hs => ?_) (fun he => ?_) <;> (conv => whnf))
          | (refine Uk.mk (fun hn => ?_) ?_ <;> (conv => whnf))
          | (refine Fi.a ?_; conv => whnf)
          | (refine Yl.a ?_ ?_ <;> (conv => whnf))
          | (refine Ob.b ?_; conv => whnf)
        · refine Rg.snap [0, 1, 2, 3, 4, 5, 6, 8, 9, 10, 11, 39, 40, 42, 43, 44, 45, 46, 47, 48, 50, 51, 52, 53, 54, 55, 56, 57, 58, 59, 60, 61, 63, 64, 65, 66, 67, 68, 69, 70, 71, 72, 73, 74, 75, 76, 78, 79, 80, 81, 82, 83, 84, 85, 86] 40 ?_
          (conv => whnf)
          refine RgB.go 87 ({p : Nat // p ≤ l.length ∧ ∀ k < p, (l.getD k default).p + at2 t (i + 1) (l.getD k default).h ≤ at2 t i h}) 0 (fun ⟨k, _⟩ nx => []) (fun p => p.1) (⟨0, by omega, fun k hk => by omega⟩) (hsq (hsz hc)) ?_ ?_ ?_
          · rintro ⟨k, hk, hkk⟩ j hj0 hj
            simp only at hj0
            subst hj0
            have hsj := hmem (hsz hc) _ (getD_mem hj default)
            obtain ⟨⟨hs0, hs1⟩, hs2, hs3⟩ := hsj
            have hsmj := hsm (i + 1) (l.getD k default).h
            obtain ⟨hm1, hm2⟩ := hsmj
            have hl2 := hli' hci
            have hm1 : -1200 ≤ (t.getD (i + 1).toNat []).getD (l.getD k default).h.toNat 0 := hm1
            have hm2 : (t.getD (i + 1).toNat []).getD (l.getD k default).h.toNat 0 ≤ 1200 := hm2
            have hbad : at2 t i h < (l.getD k default).p + at2 t (i + 1) (l.getD k default).h → r = (0, 14) := fun a => by
              have := hsz hc
              refine fbad i h hi0 hci hh0 (by omega) fun b => ?_
              have := hce.1 b _ (getD_mem hj default)
              omega
            have hgood : ¬ at2 t i h < (l.getD k default).p + at2 t (i + 1) (l.getD k default).h → k + 1 ≤ l.length ∧ ∀ k' < k + 1, (l.getD k' default).p + at2 t (i + 1) (l.getD k' default).h ≤ at2 t i h := fun a => by
              refine ⟨hj, fun k' b => ?_⟩
              by_cases e : k' = k
              · rw [e]; omega
              · exact hkk k' (by omega)
            conv => whnf
            repeat' first
              | (refine Ob.a ?_; conv => whnf)
              | (refine Sp.tt ?_; conv => whnf)
              | (refine Sp.ff ?_; conv => whnf)
              | (refine Sp.yes ?_; conv => whnf)
              | (refine Sp.no ?_; conv => whnf)
              | (refine Sp.nyes ?_; conv => whnf)
              | (refine Sp.nno ?_; conv => whnf)
              | (refine Sp.ne (fun hc => ?_) (fun hc => ?_) <;> (conv => whnf))
              | (refine Sp.dec (fun hc => ?_) (fun hc => ?_) <;> (conv => whnf))
              | (refine Sp.ndec (fun hc => ?_) (fun hc => ?_) <;> (conv => whnf))
              | (refine Sp.mk (fun hc => ?_) (fun hc => ?_) <;> (conv => whnf))
              | (refine Nx.mk (fun ka kb kx hx hs => ?_) (fun he => ?_) <;> (conv => whnf))
              | (refine Nx.mk (fun ka kx hx hs => ?_) (fun he => ?_) <;> (conv => whnf))
              | (refine Uk.mk (fun hn => ?_) ?_ <;> (conv => whnf))
              | (refine Fi.a ?_; conv => whnf)
              | (refine Yl.a ?_ ?_ <;> (conv => whnf))
              | (refine Ob.b ?_; conv => whnf)
            · have e := hbad (by assumption)
              refine Out.snap ?_
              conv => whnf
              refine OutB.go ?_
              conv => whnf
              repeat' first
                | (refine Ob.a ?_; conv => whnf)
                | (refine Sp.tt ?_; conv => whnf)
                | (refine Sp.ff ?_; conv => whnf)
                | (refine Sp.yes ?_; conv => whnf)
                | (refine Sp.no ?_; conv => whnf)
                | (refine Sp.nyes ?_; conv => whnf)
                | (refine Sp.nno ?_; conv => whnf)
                | (refine Sp.ne (fun hc => ?_) (fun hc => ?_) <;> (conv => whnf))
                | (refine Sp.dec (fun hc => ?_) (fun hc => ?_) <;> (conv => whnf))
                | (refine Sp.ndec (fun hc => ?_) (fun hc => ?_) <;> (conv => whnf))
                | (refine Sp.mk (fun hc => ?_) (fun hc => ?_) <;> (conv => whnf))
                | (refine Nx.mk (fun ka kb kx hx hs => ?_) (fun he => ?_) <;> (conv => whnf))
                | (refine Nx.mk (fun ka kx hx hs => ?_) (fun he => ?_) <;> (conv => whnf))
                | (refine Uk.mk (fun hn => ?_) ?_ <;> (conv => whnf))
                | (refine Fi.a ?_; conv => whnf)
                | (refine Yl.a ?_ ?_ <;> (conv => whnf))
                | (refine Ob.b ?_; conv => whnf)
              exact Lf
            · exact ⟨rfl, ⟨k + 1, hgood (by assumption)⟩, rfl, Lf⟩
          · rintro ⟨k, hk, hkk⟩ hk'
            simp only at hk'
            subst hk'
            obtain ⟨e1, e2⟩ := hstep hc (hce.2 fun s hs => by
              obtain ⟨j, hj, rfl⟩ := List.getElem_of_mem hs
              have := hkk j hj
              rwa [List.getD_eq_getElem?_getD, List.getElem?_eq_getElem hj] at this)
            conv => whnf
            repeat' first
              | (refine Ob.a ?_; conv => whnf)
              | (refine Sp.tt ?_; conv => whnf)
              | (refine Sp.ff ?_; conv => whnf)
              | (refine Sp.yes ?_; conv => whnf)
              | (refine Sp.no ?_; conv => whnf)
              | (refine Sp.nyes ?_; conv => whnf)
              | (refine Sp.nno ?_; conv => whnf)
              | (refine Sp.ne (fun hc => ?_) (fun hc => ?_) <;> (conv => whnf))
              | (refine Sp.dec (fun hc => ?_) (fun hc => ?_) <;> (conv => whnf))
              | (refine Sp.ndec (fun hc => ?_) (fun hc => ?_) <;> (conv => whnf))
              | (refine Sp.mk (fun hc => ?_) (fun hc => ?_) <;> (conv => whnf))
              | (refine Nx.mk (fun ka kb kx hx hs => ?_) (fun he => ?_) <;> (conv => whnf))
              | (refine Nx.mk (fun ka kx hx hs => ?_) (fun he => ?_) <;> (conv => whnf))
              | (refine Uk.mk (fun hn => ?_) ?_ <;> (conv => whnf))
              | (refine Fi.a ?_; conv => whnf)
              | (refine Yl.a ?_ ?_ <;> (conv => whnf))
              | (refine Ob.b ?_; conv => whnf)
            exact ⟨rfl, ⟨h + 1, e1, e2⟩, Lf, by simp only; omega⟩
          · exact Lf
        · obtain ⟨e1, e2⟩ := hnxt hc
          exact ⟨rfl, ⟨i + 1, e1, e2⟩, Lf, by simp only; omega⟩
      · exact Lf
    · have e : r = ((t.getD (Int.toNat 0) []).getD m.start.toNat 0, 0) := hend hc
      exact Lf
  · exact Lf
end Go.Px.Try

/-! Ma2 -/
namespace Go.Px.Try
open Go Go.Proofs Go.Px

/-- What the heat may be ahead of a plan's rest, at most. -/
def la (m : Mill) : List Int → Int
  | [] => m.limit
  | g :: p => if g = 1 then la m p - m.gain else min m.limit (la m p + m.fall)
theorem la_le {m : Mill} (hg : 1 ≤ m.gain) : ∀ p, la m p ≤ m.limit
  | [] => Int.le_refl _
  | g :: p => by
    have := la_le hg p
    rw [la]; split <;> omega
theorem la_ge {m : Mill} (hg : 1 ≤ m.gain ∧ m.gain ≤ 40) (hf : 1 ≤ m.fall) (hl : 0 ≤ m.limit) : ∀ p, -(40 * (p.length : Int)) ≤ la m p
  | [] => by simp [la]; omega
  | g :: p => by
    have := la_ge hg hf hl p
    rw [la, List.length_cons]; split <;> omega
theorem la_iff {m : Mill} (hg : 1 ≤ m.gain) (hf : 1 ≤ m.fall) : ∀ (R p : List Int) (h0 : Int), p.length ≤ R.length → h0 ≤ m.limit → sf m R p h0 → ∀ h, (h ≤ m.limit ∧ sf m R p h) ↔ h ≤ la m p
  | R, [], h0, _, _, _, h => by
    have : sf m R [] h := by intro x hx; cases R <;> cases hx
    simp [this, la]
  | [], g :: p, h0, hl, _, _, _ => by simp at hl
  | r :: R, g :: p, h0, hl, h0l, h0s, h => by
    obtain ⟨h1, h2⟩ := sf_cons.1 h0s
    have ih := la_iff hg hf R p _ (by simpa using hl) h1 h2
    have i0 := (ih _).1 ⟨h1, h2⟩
    have hle := la_le hg p
    rw [sf_cons, ih, la]
    unfold after at i0 ⊢
    split
    · rename_i hg1
      rw [if_pos hg1] at i0
      constructor
      · rintro ⟨_, h4⟩; omega
      · intro h3; exact ⟨by omega, by omega⟩
    · rename_i hg1
      rw [if_neg hg1] at i0
      constructor
      · rintro ⟨_, h4⟩; omega
      · intro h3; exact ⟨by omega, by omega⟩

theorem latTo_max {m : Mill} {plan : List Int} {i : Nat} {L : Int} (hL : 0 ≤ L) : ∀ k : Nat, (∀ h : Nat, h < k → (restOk m plan i h ↔ (h : Int) ≤ L)) → latTo m plan i k = if (k : Int) ≤ L then (if k = 0 then 0 else (k : Int) - 1) else L
  | 0, _ => by simp [latTo]; omega
  | k + 1, h => by
    have ih := latTo_max hL k fun h' hh => h h' (by omega)
    have hk := h k (by omega)
    rw [latTo]
    by_cases h1 : (k : Int) ≤ L
    · rw [if_pos (hk.2 h1)]
      split
      · rw [if_neg (by omega)]; omega
      · omega
    · rw [if_neg (fun h' => h1 (hk.1 h')), ih, if_neg h1, if_neg (by omega)]

theorem hs_nil (m : Mill) (R : List Int) (h : Int) : hs m R [] h = [] := by cases R <;> rfl
theorem sf_nil (m : Mill) (R : List Int) (h : Int) : sf m R [] h := by unfold sf; rw [hs_nil]; intro x hx; cases hx
theorem sf_drop_nn {m : Mill} (hg : 1 ≤ m.gain) : ∀ (i : Nat) (R p : List Int) (h : Int), (∀ r ∈ R, 0 ≤ r) → 0 ≤ h → h ≤ m.limit → sf m R p h → ∃ h', 0 ≤ h' ∧ h' ≤ m.limit ∧ sf m (R.drop i) (p.drop i) h'
  | 0, R, p, h, _, h0, hl, hs => ⟨h, h0, hl, hs⟩
  | i + 1, [], p, h, _, h0, hl, hs => ⟨h, h0, hl, by intro x hx; rw [List.drop_nil] at hx; cases hx⟩
  | i + 1, r :: R, [], h, _, h0, hl, hs => ⟨h, h0, hl, by rw [List.drop_nil]; exact sf_nil _ _ _⟩
  | i + 1, r :: R, g :: p, h, hr, h0, hl, hs => by
    obtain ⟨h1, h2⟩ := sf_cons.1 hs
    exact sf_drop_nn hg i R p _ (fun x hx => hr x (by simp [hx])) (Int.le_trans (hr r (by simp)) (after_ge hg)) h1 h2

theorem restOk_sf {m : Mill} {plan : List Int} (h : PlanOk m plan) (i : Nat) (heat : Int) : restOk m plan i heat ↔ sf m ((room m).drop i) (plan.drop i) heat := by
  unfold restOk sf
  rw [greatest_le h.head.1.1, heatsGo_hs m plan (room m) (h.le true) _ i heat rfl]

theorem room_nn {m : Mill} (h : ∀ x ∈ m.hours, HourOk x) : ∀ r ∈ room m, 0 ≤ r := by
  intro r hr
  obtain ⟨y, hy, rfl⟩ := List.mem_map.1 hr
  obtain ⟨⟨_, _⟩, ⟨_, _⟩, _, _⟩ := h y hy
  simpa using by assumption

theorem latestAt_la {m : Mill} {plan : List Int} (h : PlanOk m plan) (hs : is m plan (room m)) (i : Nat) : latestAt m plan i = la m (plan.drop i) ∧ 0 ≤ la m (plan.drop i) := by
  obtain ⟨⟨hl0, hl1⟩, ⟨_, _⟩, ⟨hg, _⟩, hf, _⟩ := h.head
  have hs := (is_sf (plan := plan) (room := room m) hl0 (h.le true)).1 hs
  obtain ⟨h', a, b, c⟩ := sf_drop_nn hg i _ _ _ (room_nn h.hours) (by omega) (by omega) hs
  have hlen : (plan.drop i).length ≤ ((room m).drop i).length := by have := h.le true; simp only [List.length_drop]; show _ ≤ (roomOf m true).length - i; omega
  have hi := la_iff hg hf _ _ _ hlen b c
  have h0 : 0 ≤ la m (plan.drop i) := Int.le_trans a ((hi h').1 ⟨b, c⟩)
  have hle := la_le hg (plan.drop i)
  refine ⟨?_, h0⟩
  rw [latestAt, latTo_max h0]
  · rw [if_neg (by omega)]
  · intro k hk
    rw [restOk_sf h, ← hi]
    exact ⟨fun h => ⟨by omega, h⟩, fun h => h.2⟩

def latestP (m : Mill) (plan : List Int) : List Int := (List.range plan.length).map fun j => la m (plan.drop j)
theorem latestTo_la {m : Mill} {plan : List Int} (h : PlanOk m plan) (hs : is m plan (room m)) : ∀ k, latestTo m plan k = (List.range k).map fun j => la m (plan.drop j)
  | 0 => rfl
  | k + 1 => by rw [latestTo, latestTo_la h hs k, (latestAt_la h hs k).1, List.range_succ, List.map_append]; rfl
theorem latestR_P (m : Mill) (plan : List Int) (h : (checkPlanR m plan).2 = 0) : latestR m plan = (latestP m plan, 0) := by
  obtain ⟨h1, h2⟩ := checkPlanR_zero h
  unfold latestR
  rw [if_neg (by omega), latestTo_la (planOk h1) h2]
  rfl
end Go.Px.Try

/-! Pr10 -/
namespace Go.Px.Try
open Go Go.Proofs Go.Px

/-- The latest heats of the last k hours. -/
def lb (m : Mill) (plan : List Int) (k : Nat) : List Int := (List.range plan.length).map fun j => if plan.length - k ≤ j then la m (plan.drop j) else 0
theorem lb_length (m : Mill) (plan : List Int) (k : Nat) : (lb m plan k).length = plan.length := by simp [lb]
theorem lb_getD (m : Mill) (plan : List Int) (k j : Nat) (h : j < plan.length) : (lb m plan k).getD j 0 = if plan.length - k ≤ j then la m (plan.drop j) else 0 := by
  rw [List.getD_eq_getElem?_getD, lb, List.getElem?_map, List.getElem?_range h]; rfl
theorem lb_all (m : Mill) (plan : List Int) : lb m plan plan.length = latestP m plan := by
  unfold lb latestP
  rw [Nat.sub_self]
  simp

set_option maxHeartbeats 4000000 in
theorem LatestP_spec (m : Mill) (plan : List Int) (hl : m.hours.length < 1000000) (hp : plan.length < 1000000) : Fn Try.prog 37 [millD m, ints plan] (tpl [ints (latestR m plan).1, int (latestR m plan).2]) := by
  by_cases hc0 : (checkPlanR m plan).2 = 0
  case neg =>
    have hk := checked_err m plan hl hp _ rfl hc0
    have e : latestR m plan = ([], (checkPlanR m plan).2) := if_pos hc0
    rw [e]
    generalize (checkPlanR m plan).2 = c at *
    refine Fn.of_ex (cuts := []) tys hM Try.func37 rfl Try.call37 rfl ?_
    show exC Try.prog T [] _ false none 0 (entry 58 [millD m, ints plan]) (finQ T [ResultVar.tmp 4, ResultVar.tmp 5] _)
    conv => whnf
    repeat' first
      | (refine Ob.a ?_; conv => whnf)
      | (refine Sp.tt ?_; conv => whnf)
      | (refine Sp.ff ?_; conv => whnf)
      | (refine Sp.yes ?_; conv => whnf)
      | (refine Sp.no ?_; conv => whnf)
      | (refine Sp.nyes ?_; conv => whnf)
      | (refine Sp.nno ?_; conv => whnf)
      | (refine Sp.ne (fun hc => ?_) (fun hc => ?_) <;> (conv => whnf))
      | (refine Sp.dec (fun hc => ?_) (fun hc => ?_) <;> (conv => whnf))
      | (refine Sp.ndec (fun hc => ?_) (fun hc => ?_) <;> (conv => whnf))
      | (refine Sp.mk (fun hc => ?_) (fun hc => ?_) <;> (conv => whnf))
      | (apply Cl.go; (conv => whnf); (first | refine Ob.call (hk) ?_); (conv => whnf))
      | (refine Nx.mk (fun ka kb kx hx hs => ?_) (fun he => ?_) <;> (conv => whnf))
      | (refine Nx.mk (fun ka kx hx hs => ?_) (fun he => ?_) <;> (conv => whnf))
      | (refine Uk.mk (fun hn => ?_) ?_ <;> (conv => whnf))
      | (refine Fi.a ?_; conv => whnf)
      | (refine Yl.a ?_ ?_ <;> (conv => whnf))
      | (refine Ob.b ?_; conv => whnf)
    all_goals exact Lg
  obtain ⟨h1, h2⟩ := checkPlanR_zero hc0
  have hok := planOk h1
  have hk := checked_ok m plan hl hp h1 h2
  have hlen := hok.len
  have hn1 := hok.n1
  have hn12 := hok.n12
  obtain ⟨⟨_, _⟩, _, ⟨_, _⟩, ⟨_, _⟩⟩ := hok.head
  rw [latestR_P m plan hc0]
  have hend := lb_all m plan
  generalize latestP m plan = r at *
  have hlb := lb_length m plan
  have hga := fun p => la_ge (m := m) (by omega) (by omega) (by omega) p
  have hle := fun p => la_le (m := m) (by omega) p
  refine Fn.of_ex (cuts := []) tys hM Try.func37 rfl Try.call37 rfl ?_
  show exC Try.prog T [] _ false none 0 (entry 58 [millD m, ints plan]) (finQ T [ResultVar.tmp 4, ResultVar.tmp 5] _)
  conv => whnf
  repeat' first
    | (refine Ob.a ?_; conv => whnf)
    | (refine Sp.tt ?_; conv => whnf)
    | (refine Sp.ff ?_; conv => whnf)
    | (refine Sp.yes ?_; conv => whnf)
    | (refine Sp.no ?_; conv => whnf)
    | (refine Sp.nyes ?_; conv => whnf)
    | (refine Sp.nno ?_; conv => whnf)
    | (refine Sp.ne (fun hc => ?_) (fun hc => ?_) <;> (conv => whnf))
    | (refine Sp.dec (fun hc => ?_) (fun hc => ?_) <;> (conv => whnf))
    | (refine Sp.ndec (fun hc => ?_) (fun hc => ?_) <;> (conv => whnf))
    | (refine Sp.mk (fun hc => ?_) (fun hc => ?_) <;> (conv => whnf))
    | (apply Cl.go; (conv => whnf); (first | refine Ob.call (hk) ?_); (conv => whnf))
    | (refine Nx.mk (fun ka kb kx hx hs => ?_) (fun he => ?_) <;> (conv => whnf))
    | (refine Nx.mk (fun ka kx hx hs => ?_) (fun he => ?_) <;> (conv => whnf))
    | (refine Uk.mk (fun hn => ?_) ?_ <;> (conv => whnf))
    | (refine Fi.a ?_; conv => whnf)
    | (refine Yl.a ?_ ?_ <;> (conv => whnf))
    | (refine Ob.b ?_; conv => whnf)
  refine Lp.go 58 {k : Int // 0 ≤ k ∧ k ≤ plan.length}
    (fun ⟨k, _⟩ => ⟨2, [(1, .d (ints plan)), (2, .ref 0 0), (8, .ms 1 1 0 (lb m plan k.toNat).length), (9, .d (int (la m (plan.drop (plan.length - k.toNat))))), (27, .d (int plan.length)), (28, .d (int k))], [(0, .cs true 5 fun j => .d ((millL m).getD j .top)), (1, .row true 2 1 (lb m plan k.toNat).length (rowOf int 0 (lb m plan k.toNat)))], some 0⟩)
    (fun p => (plan.length - p.1).toNat) ⟨0, by omega, by omega⟩ ?_ ?_ rfl (fun _ => rfl)
  · rintro ⟨k, hk0, hkl⟩
    have hd := hga (plan.drop (plan.length - k.toNat))
    have hx1 : -480 ≤ la m (plan.drop (plan.length - k.toNat)) := by rw [List.length_drop] at hd; omega
    have hx2 := hle (plan.drop (plan.length - k.toNat))
    have hs : k < plan.length → la m (plan.drop (plan.length - (k + 1).toNat)) = if plan.getD (plan.length - 1 - k : Int).toNat 0 = 1 then la m (plan.drop (plan.length - k.toNat)) - m.gain else min m.limit (la m (plan.drop (plan.length - k.toNat)) + m.fall) := fun h => by
      rw [drop_getD 0 (show plan.length - (k + 1).toNat < plan.length by omega), la, show plan.length - (k + 1).toNat + 1 = plan.length - k.toNat by omega, show (plan.length - 1 - k : Int).toNat = plan.length - (k + 1).toNat by omega]
    have hul := hlb k.toNat
    have hul' := hlb (k + 1).toNat
    have hnew : k < plan.length → ∀ v, la m (plan.drop (plan.length - (k + 1).toNat)) = v → ∀ j, j < (lb m plan (k + 1).toNat).length → (lb m plan (k + 1).toNat).getD j 0 = if j = 0 + (plan.length - 1 - k : Int).toNat then v else (lb m plan k.toNat).getD j 0 := fun h v hv j hj => by
      rw [hul'] at hj
      rw [lb_getD _ _ _ _ hj, lb_getD _ _ _ _ hj]
      by_cases h1 : j = 0 + (plan.length - 1 - k : Int).toNat
      · rw [if_pos h1, if_pos (by omega), ← hv, show plan.length - (k + 1).toNat = j by omega]
      · rw [if_neg h1]
        by_cases h2 : plan.length - k.toNat ≤ j
        · rw [if_pos h2, if_pos (by omega)]
        · rw [if_neg h2, if_neg (by omega)]
    have hfin : ¬ k < plan.length → lb m plan k.toNat = r := fun h => by rw [← hend, show k.toNat = plan.length by omega]
    conv => whnf
    repeat' first
      | (refine Ob.a ?_; conv => whnf)
      | (refine Sp.tt ?_; conv => whnf)
      | (refine Sp.ff ?_; conv => whnf)
      | (refine Sp.yes ?_; conv => whnf)
      | (refine Sp.no ?_; conv => whnf)
      | (refine Sp.nyes ?_; conv => whnf)
      | (refine Sp.nno ?_; conv => whnf)
      | (refine Sp.ne (fun hc => ?_) (fun hc => ?_) <;> (conv => whnf))
      | (refine Sp.dec (fun hc => ?_) (fun hc => ?_) <;> (conv => whnf))
      | (refine Sp.ndec (fun hc => ?_) (fun hc => ?_) <;> (conv => whnf))
      | (refine Sp.mk (fun hc => ?_) (fun hc => ?_) <;> (conv => whnf))
      | (refine Nx.mk (fun ka kb kx hx hs => ?_) (fun he => ?_) <;> (conv => whnf))
      | (refine Nx.mk (fun ka kx hx hs => ?_) (fun he => ?_) <;> (conv => whnf))
      | (refine Uk.mk (fun hn => ?_) ?_ <;> (conv => whnf))
      | (refine Fi.a ?_; conv => whnf)
      | (refine Yl.a ?_ ?_ <;> (conv => whnf))
      | (refine Ob.b ?_; conv => whnf)
    · have e : _ = la m (plan.drop (plan.length - k.toNat)) - m.gain := (hs (by omega)).trans (if_pos hc)
      have hn := hnew (by omega) _ e
      refine ⟨rfl, ⟨k + 1, by omega, by omega⟩, Lf, by simp only; omega⟩
    · have e : _ = min m.limit (la m (plan.drop (plan.length - k.toNat)) + m.fall) := (hs (by omega)).trans (if_neg hc)
      have hn := hnew (by omega) _ e
      refine ⟨rfl, ⟨k + 1, by omega, by omega⟩, Lf, by simp only; omega⟩
    · have e := hfin (by omega)
      exact Lf
  · have h0 : ∀ j, (lb m plan (Int.toNat 0)).getD j 0 = 0 := fun j => by
      by_cases h : j < plan.length
      · rw [lb_getD _ _ _ _ h, if_neg (by simp; omega)]
      · rw [List.getD_eq_getElem?_getD, List.getElem?_eq_none (by rw [hlb]; omega)]; rfl
    have h00 := hlb (Int.toNat 0)
    have h01 : la m (List.drop (plan.length - Int.toNat 0) plan) = m.limit := by rw [show plan.length - Int.toNat 0 = plan.length by simp, List.drop_length]; rfl
    conv => whnf
    repeat' first | (refine Edge.fast ?_) | ((conv => whnf); first | exact True.intro | (refine And.intro ?_ ?_) | exact rfl | exact Nat.le_of_eq (Nat.zero_add _) | exact ImpS.refl _ | ((conv => arg 1; whnf); first | exact ImpS.refl _ | (refine ImpS.nil_eq ?_) | (refine ImpS.vnil_eq ?_) | (refine ImpS.row ?_) | (refine ImpS.rowN ?_ ?_) | (refine ImpS.sl_eq ?_) | (refine ImpS.expl rfl ?_)) | (refine row_snoc' ?_) | (apply row_upd) | exact cimp_none | exact cimp_same | exact List.not_mem_nil | exact DImp.refl _) | exact rfl | (refine And.intro ?_ ?_) | exact ImpS.refl _
    all_goals first | omega | exact h01.symm | (intro j hj; show CImp (int 0) (int _); rw [h0]; exact CImp.refl _)
end Go.Px.Try

/-! Law1 -/
namespace Go.Px.Try
open Go Go.Proofs Go.Px

theorem eq_prefix {l l' : List Int} (hl : l.length = l'.length) (h : ∀ j, j < l.length → l.getD j 0 = l'.getD j 0) : l = l' := by
  apply List.ext_getElem? 
  intro j
  by_cases hj : j < l.length
  · have := h j hj
    rw [List.getD_eq_getElem?_getD, List.getD_eq_getElem?_getD, List.getElem?_eq_getElem hj, List.getElem?_eq_getElem (by omega)] at this
    rw [List.getElem?_eq_getElem hj, List.getElem?_eq_getElem (by omega)]
    simpa using this
  · rw [List.getElem?_eq_none (by omega), List.getElem?_eq_none (by omega)]

theorem Longs_spec (a b : List Int) (ha : a.length < 1000000) : Fn Try.prog 27 [ints a, ints b] (bool (decide (a = b))) := by
  refine Fn.hide (D := fun r : Bool => bool r) fun r hr => ?_
  have hr0 := hr.h
  have h1 : ¬ a.length = b.length → r = false := fun h => by rw [← hr0]; exact decide_eq_false fun e => h (by rw [e])
  have h2 : ∀ j : Int, 0 ≤ j → j < a.length → ¬ a.getD j.toNat 0 = b.getD j.toNat 0 → r = false := fun j _ _ h => by rw [← hr0]; exact decide_eq_false fun e => h (by rw [e])
  have h3 : a.length = b.length → (∀ j : Int, 0 ≤ j → j < a.length → a.getD j.toNat 0 = b.getD j.toNat 0) → r = true := fun h h' => by
    rw [← hr0]; exact decide_eq_true (eq_prefix h fun j hj => by have := h' j (by omega) (by omega); rwa [Int.toNat_natCast] at this)
  refine Fn.of_ex (cuts := []) tys hM Try.func27 rfl Try.call27 rfl ?_
  show exC Try.prog T [] _ false none 0 (entry 26 [ints a, ints b]) (finQ T [ResultVar.tmp 4] _)
  conv => whnf
  repeat' first
    | (refine Ob.a ?_; conv => whnf)
    | (refine Sp.tt ?_; conv => whnf)
    | (refine Sp.ff ?_; conv => whnf)
    | (refine Sp.yes ?_; conv => whnf)
    | (refine Sp.no ?_; conv => whnf)
    | (refine Sp.nyes ?_; conv => whnf)
    | (refine Sp.nno ?_; conv => whnf)
    | (refine Sp.ne (fun hc => ?_) (fun hc => ?_) <;> (conv => whnf))
    | (refine Sp.dec (fun hc => ?_) (fun hc => ?_) <;> (conv => whnf))
    | (refine Sp.ndec (fun hc => ?_) (fun hc => ?_) <;> (conv => whnf))
    | (refine Sp.mk (fun hc => ?_) (fun hc => ?_) <;> (conv => whnf))
    | (refine Nx.mk (fun ka kb kx hx hs => ?_) (fun he => ?_) <;> (conv => whnf))
    | (refine Nx.mk (fun ka kx hx hs => ?_) (fun he => ?_) <;> (conv => whnf))
    | (refine Uk.mk (fun hn => ?_) ?_ <;> (conv => whnf))
    | (refine Fi.a ?_; conv => whnf)
    | (refine Yl.a ?_ ?_ <;> (conv => whnf))
    | (refine Ob.b ?_; conv => whnf)
  · exact ⟨trivial, (h1 (by omega)).symm⟩
  · have hlen := hc
    refine Lp.snap [0, 1] 40 ?_
    (conv => whnf)
    refine LpB.go 26 ({i : Int // (0 ≤ i ∧ i ≤ a.length) ∧ ∀ j : Int, 0 ≤ j → j < i → a.getD j.toNat 0 = b.getD j.toNat 0}) 0 (fun ⟨i, _⟩ nx => ([(5, .d (int i))], [])) (fun p => (a.length - p.1).toNat) (⟨0, ⟨by omega, by omega⟩, fun j _ _ => by omega⟩) ?_ ?_
    · rintro ⟨i, ⟨hi0, hi⟩, hinv⟩
      conv => whnf
      repeat' first
        | (refine Ob.a ?_; conv => whnf)
        | (refine Sp.tt ?_; conv => whnf)
        | (refine Sp.ff ?_; conv => whnf)
        | (refine Sp.yes ?_; conv => whnf)
        | (refine Sp.no ?_; conv => whnf)
        | (refine Sp.nyes ?_; conv => whnf)
        | (refine Sp.nno ?_; conv => whnf)
        | (refine Sp.ne (fun hc => ?_) (fun hc => ?_) <;> (conv => whnf))
        | (refine Sp.dec (fun hc => ?_) (fun hc => ?_) <;> (conv => whnf))
        | (refine Sp.ndec (fun hc => ?_) (fun hc => ?_) <;> (conv => whnf))
        | (refine Sp.mk (fun hc => ?_) (fun hc => ?_) <;> (conv => whnf))
        | (refine Nx.mk (fun ka kb kx hx hs => ?_) (fun he => ?_) <;> (conv => whnf))
        | (refine Nx.mk (fun ka kx hx hs => ?_) (fun he => ?_) <;> (conv => whnf))
        | (refine Uk.mk (fun hn => ?_) ?_ <;> (conv => whnf))
        | (refine Fi.a ?_; conv => whnf)
        | (refine Yl.a ?_ ?_ <;> (conv => whnf))
        | (refine Ob.b ?_; conv => whnf)
      · exact ⟨trivial, (h2 i hi0 (by omega) hc).symm⟩
      · exact ⟨rfl, ⟨i + 1, ⟨by omega, by omega⟩, fun j a b => if e : j = i then e ▸ hc else hinv j a (by omega)⟩, Lf, by simp only; omega⟩
      · exact ⟨trivial, (h3 (by omega) fun j a b => hinv j a (by omega)).symm⟩
    · exact Lf

theorem Ints_spec (a b : List Int) (ha : a.length < 1000000) : Fn Try.prog 34 [ints a, ints b] (bool (decide (a = b))) := by
  refine Fn.hide (D := fun r : Bool => bool r) fun r hr => ?_
  have hr0 := hr.h
  have h1 : ¬ a.length = b.length → r = false := fun h => by rw [← hr0]; exact decide_eq_false fun e => h (by rw [e])
  have h2 : ∀ j : Int, 0 ≤ j → j < a.length → ¬ a.getD j.toNat 0 = b.getD j.toNat 0 → r = false := fun j _ _ h => by rw [← hr0]; exact decide_eq_false fun e => h (by rw [e])
  have h3 : a.length = b.length → (∀ j : Int, 0 ≤ j → j < a.length → a.getD j.toNat 0 = b.getD j.toNat 0) → r = true := fun h h' => by
    rw [← hr0]; exact decide_eq_true (eq_prefix h fun j hj => by have := h' j (by omega) (by omega); rwa [Int.toNat_natCast] at this)
  refine Fn.of_ex (cuts := []) tys hM Try.func34 rfl Try.call34 rfl ?_
  show exC Try.prog T [] _ false none 0 (entry 26 [ints a, ints b]) (finQ T [ResultVar.tmp 4] _)
  conv => whnf
  repeat' first
    | (refine Ob.a ?_; conv => whnf)
    | (refine Sp.tt ?_; conv => whnf)
    | (refine Sp.ff ?_; conv => whnf)
    | (refine Sp.yes ?_; conv => whnf)
    | (refine Sp.no ?_; conv => whnf)
    | (refine Sp.nyes ?_; conv => whnf)
    | (refine Sp.nno ?_; conv => whnf)
    | (refine Sp.ne (fun hc => ?_) (fun hc => ?_) <;> (conv => whnf))
    | (refine Sp.dec (fun hc => ?_) (fun hc => ?_) <;> (conv => whnf))
    | (refine Sp.ndec (fun hc => ?_) (fun hc => ?_) <;> (conv => whnf))
    | (refine Sp.mk (fun hc => ?_) (fun hc => ?_) <;> (conv => whnf))
    | (refine Nx.mk (fun ka kb kx hx hs => ?_) (fun he => ?_) <;> (conv => whnf))
    | (refine Nx.mk (fun ka kx hx hs => ?_) (fun he => ?_) <;> (conv => whnf))
    | (refine Uk.mk (fun hn => ?_) ?_ <;> (conv => whnf))
    | (refine Fi.a ?_; conv => whnf)
    | (refine Yl.a ?_ ?_ <;> (conv => whnf))
    | (refine Ob.b ?_; conv => whnf)
  · exact ⟨trivial, (h1 (by omega)).symm⟩
  · have hlen := hc
    refine Lp.snap [0, 1] 40 ?_
    (conv => whnf)
    refine LpB.go 26 ({i : Int // (0 ≤ i ∧ i ≤ a.length) ∧ ∀ j : Int, 0 ≤ j → j < i → a.getD j.toNat 0 = b.getD j.toNat 0}) 0 (fun ⟨i, _⟩ nx => ([(5, .d (int i))], [])) (fun p => (a.length - p.1).toNat) (⟨0, ⟨by omega, by omega⟩, fun j _ _ => by omega⟩) ?_ ?_
    · rintro ⟨i, ⟨hi0, hi⟩, hinv⟩
      conv => whnf
      repeat' first
        | (refine Ob.a ?_; conv => whnf)
        | (refine Sp.tt ?_; conv => whnf)
        | (refine Sp.ff ?_; conv => whnf)
        | (refine Sp.yes ?_; conv => whnf)
        | (refine Sp.no ?_; conv => whnf)
        | (refine Sp.nyes ?_; conv => whnf)
        | (refine Sp.nno ?_; conv => whnf)
        | (refine Sp.ne (fun hc => ?_) (fun hc => ?_) <;> (conv => whnf))
        | (refine Sp.dec (fun hc => ?_) (fun hc => ?_) <;> (conv => whnf))
        | (refine Sp.ndec (fun hc => ?_) (fun hc => ?_) <;> (conv => whnf))
        | (refine Sp.mk (fun hc => ?_) (fun hc => ?_) <;> (conv => whnf))
        | (refine Nx.mk (fun ka kb kx hx hs => ?_) (fun he => ?_) <;> (conv => whnf))
        | (refine Nx.mk (fun ka kx hx hs => ?_) (fun he => ?_) <;> (conv => whnf))
        | (refine Uk.mk (fun hn => ?_) ?_ <;> (conv => whnf))
        | (refine Fi.a ?_; conv => whnf)
        | (refine Yl.a ?_ ?_ <;> (conv => whnf))
        | (refine Ob.b ?_; conv => whnf)
      · exact ⟨trivial, (h2 i hi0 (by omega) hc).symm⟩
      · exact ⟨rfl, ⟨i + 1, ⟨by omega, by omega⟩, fun j a b => if e : j = i then e ▸ hc else hinv j a (by omega)⟩, Lf, by simp only; omega⟩
      · exact ⟨trivial, (h3 (by omega) fun j a b => hinv j a (by omega)).symm⟩
    · exact Lf

theorem of_spec (l : List Int) : Fn Try.prog 46 [ints l] (ints l) := by
  refine Fn.of_ex (cuts := []) tys hM Try.func46 rfl Try.call46 rfl ?_
  show exC Try.prog T [] _ false none 0 (entry 4 [ints l]) (finQ T [ResultVar.tmp 2] _)
  conv => whnf
  repeat' first
    | (refine Ob.a ?_; conv => whnf)
    | (refine Sp.tt ?_; conv => whnf)
    | (refine Sp.ff ?_; conv => whnf)
    | (refine Sp.yes ?_; conv => whnf)
    | (refine Sp.no ?_; conv => whnf)
    | (refine Sp.nyes ?_; conv => whnf)
    | (refine Sp.nno ?_; conv => whnf)
    | (refine Sp.ne (fun hc => ?_) (fun hc => ?_) <;> (conv => whnf))
    | (refine Sp.dec (fun hc => ?_) (fun hc => ?_) <;> (conv => whnf))
    | (refine Sp.ndec (fun hc => ?_) (fun hc => ?_) <;> (conv => whnf))
    | (refine Sp.mk (fun hc => ?_) (fun hc => ?_) <;> (conv => whnf))
    | (refine Nx.mk (fun ka kb kx hx hs => ?_) (fun he => ?_) <;> (conv => whnf))
    | (refine Nx.mk (fun ka kx hx hs => ?_) (fun he => ?_) <;> (conv => whnf))
    | (refine Uk.mk (fun hn => ?_) ?_ <;> (conv => whnf))
    | (refine Fi.a ?_; conv => whnf)
    | (refine Yl.a ?_ ?_ <;> (conv => whnf))
    | (refine Ob.b ?_; conv => whnf)
  all_goals exact Lf
theorem longs_spec (l : List Int) : Fn Try.prog 47 [ints l] (ints l) := by
  refine Fn.of_ex (cuts := []) tys hM Try.func47 rfl Try.call47 rfl ?_
  show exC Try.prog T [] _ false none 0 (entry 4 [ints l]) (finQ T [ResultVar.tmp 2] _)
  conv => whnf
  repeat' first
    | (refine Ob.a ?_; conv => whnf)
    | (refine Sp.tt ?_; conv => whnf)
    | (refine Sp.ff ?_; conv => whnf)
    | (refine Sp.yes ?_; conv => whnf)
    | (refine Sp.no ?_; conv => whnf)
    | (refine Sp.nyes ?_; conv => whnf)
    | (refine Sp.nno ?_; conv => whnf)
    | (refine Sp.ne (fun hc => ?_) (fun hc => ?_) <;> (conv => whnf))
    | (refine Sp.dec (fun hc => ?_) (fun hc => ?_) <;> (conv => whnf))
    | (refine Sp.ndec (fun hc => ?_) (fun hc => ?_) <;> (conv => whnf))
    | (refine Sp.mk (fun hc => ?_) (fun hc => ?_) <;> (conv => whnf))
    | (refine Nx.mk (fun ka kb kx hx hs => ?_) (fun he => ?_) <;> (conv => whnf))
    | (refine Nx.mk (fun ka kx hx hs => ?_) (fun he => ?_) <;> (conv => whnf))
    | (refine Uk.mk (fun hn => ?_) ?_ <;> (conv => whnf))
    | (refine Fi.a ?_; conv => whnf)
    | (refine Yl.a ?_ ?_ <;> (conv => whnf))
    | (refine Ob.b ?_; conv => whnf)
  all_goals exact Lf
theorem great_spec (m : Mill) : Fn Try.prog 16 [millD m] (bool (decide (16 < (m.hours.length : Int)))) := by
  refine Fn.of_ex (cuts := []) tys hM Try.func16 rfl Try.call16 rfl ?_
  show exC Try.prog T [] _ false none 0 (entry 7 [millD m]) (finQ T [ResultVar.tmp 2] _)
  conv => whnf
  repeat' first
    | (refine Ob.a ?_; conv => whnf)
    | (refine Sp.tt ?_; conv => whnf)
    | (refine Sp.ff ?_; conv => whnf)
    | (refine Sp.yes ?_; conv => whnf)
    | (refine Sp.no ?_; conv => whnf)
    | (refine Sp.nyes ?_; conv => whnf)
    | (refine Sp.nno ?_; conv => whnf)
    | (refine Sp.ne (fun hc => ?_) (fun hc => ?_) <;> (conv => whnf))
    | (refine Sp.dec (fun hc => ?_) (fun hc => ?_) <;> (conv => whnf))
    | (refine Sp.ndec (fun hc => ?_) (fun hc => ?_) <;> (conv => whnf))
    | (refine Sp.mk (fun hc => ?_) (fun hc => ?_) <;> (conv => whnf))
    | (refine Nx.mk (fun ka kb kx hx hs => ?_) (fun he => ?_) <;> (conv => whnf))
    | (refine Nx.mk (fun ka kx hx hs => ?_) (fun he => ?_) <;> (conv => whnf))
    | (refine Uk.mk (fun hn => ?_) ?_ <;> (conv => whnf))
    | (refine Fi.a ?_; conv => whnf)
    | (refine Yl.a ?_ ?_ <;> (conv => whnf))
    | (refine Ob.b ?_; conv => whnf)
  all_goals exact Lf
theorem long_spec (l : List Int) : Fn Try.prog 17 [ints l] (bool (decide (20 < (l.length : Int)))) := by
  refine Fn.of_ex (cuts := []) tys hM Try.func17 rfl Try.call17 rfl ?_
  show exC Try.prog T [] _ false none 0 (entry 6 [ints l]) (finQ T [ResultVar.tmp 2] _)
  conv => whnf
  repeat' first
    | (refine Ob.a ?_; conv => whnf)
    | (refine Sp.tt ?_; conv => whnf)
    | (refine Sp.ff ?_; conv => whnf)
    | (refine Sp.yes ?_; conv => whnf)
    | (refine Sp.no ?_; conv => whnf)
    | (refine Sp.nyes ?_; conv => whnf)
    | (refine Sp.nno ?_; conv => whnf)
    | (refine Sp.ne (fun hc => ?_) (fun hc => ?_) <;> (conv => whnf))
    | (refine Sp.dec (fun hc => ?_) (fun hc => ?_) <;> (conv => whnf))
    | (refine Sp.ndec (fun hc => ?_) (fun hc => ?_) <;> (conv => whnf))
    | (refine Sp.mk (fun hc => ?_) (fun hc => ?_) <;> (conv => whnf))
    | (refine Nx.mk (fun ka kb kx hx hs => ?_) (fun he => ?_) <;> (conv => whnf))
    | (refine Nx.mk (fun ka kx hx hs => ?_) (fun he => ?_) <;> (conv => whnf))
    | (refine Uk.mk (fun hn => ?_) ?_ <;> (conv => whnf))
    | (refine Fi.a ?_; conv => whnf)
    | (refine Yl.a ?_ ?_ <;> (conv => whnf))
    | (refine Ob.b ?_; conv => whnf)
  all_goals exact Lf

def widest (t : List (List Int)) (k : Nat) : Int := ((t.take k).map fun r => (r.length : Int)).foldl max 0
theorem widest_succ (t : List (List Int)) {k : Nat} (h : k < t.length) : widest t (k + 1) = max (widest t k) ((t.getD k []).length : Int) := by
  unfold widest
  rw [take_succ_getD t k [] h, List.map_append, List.foldl_append]; rfl
def isWide (t : List (List Int)) : Prop := 60 < widest t t.length ∨ 20 < t.length
instance (t : List (List Int)) : Decidable (isWide t) := by unfold isWide; exact inferInstance
theorem wide_spec (t : List (List Int)) (ht : t.length ≤ 9223372036854775807) : Fn Try.prog 49 [tableD t] (bool (decide (isWide t))) := by
  refine Fn.hide (D := fun r : Bool => bool r) fun r hr => ?_
  have h1 : 60 < widest t t.length → r = true := fun h => by rw [← hr.h]; exact decide_eq_true (.inl h)
  have h2 : ¬ 60 < widest t t.length → r = decide (20 < (t.length : Int)) := fun h => by
    rw [← hr.h]; refine decide_eq_decide.2 ⟨fun h' => ?_, fun h' => .inr (by omega)⟩
    rcases h' with h' | h'
    · exact absurd h' h
    · exact Int.ofNat_lt.2 h'
  refine Fn.of_ex (cuts := []) tys hM Try.func49 rfl Try.call49 rfl ?_
  show exC Try.prog T [] _ false none 0 (entry 25 [tableD t]) (finQ T [ResultVar.tmp 2] _)
  conv => whnf
  repeat' first
    | (refine Ob.a ?_; conv => whnf)
    | (refine Sp.tt ?_; conv => whnf)
    | (refine Sp.ff ?_; conv => whnf)
    | (refine Sp.yes ?_; conv => whnf)
    | (refine Sp.no ?_; conv => whnf)
    | (refine Sp.nyes ?_; conv => whnf)
    | (refine Sp.nno ?_; conv => whnf)
    | (refine Sp.ne (fun hc => ?_) (fun hc => ?_) <;> (conv => whnf))
    | (refine Sp.dec (fun hc => ?_) (fun hc => ?_) <;> (conv => whnf))
    | (refine Sp.ndec (fun hc => ?_) (fun hc => ?_) <;> (conv => whnf))
    | (refine Sp.mk (fun hc => ?_) (fun hc => ?_) <;> (conv => whnf))
    | (refine Nx.mk (fun ka kb kx hx hs => ?_) (fun he => ?_) <;> (conv => whnf))
    | (refine Nx.mk (fun ka kx hx hs => ?_) (fun he => ?_) <;> (conv => whnf))
    | (refine Uk.mk (fun hn => ?_) ?_ <;> (conv => whnf))
    | (refine Fi.a ?_; conv => whnf)
    | (refine Yl.a ?_ ?_ <;> (conv => whnf))
    | (refine Ob.b ?_; conv => whnf)
  refine Lp.snap [0, 2, 18, 19, 20, 21, 22, 23, 24] 40 ?_
  (conv => whnf)
  refine LpB.go 25 ({i : Int // 0 ≤ i ∧ i ≤ t.length}) 0 (fun ⟨i, _⟩ nx => ([(3, .d (int (widest t i.toNat))), (4, .d (int i))], [])) (fun p => (t.length - p.1).toNat) (⟨0, by omega, by omega⟩) ?_ ?_
  · rintro ⟨i, hi0, hi⟩
    have hs : i < t.length → widest t (i + 1).toNat = max (widest t i.toNat) ((t.getD i.toNat []).length : Int) := fun h => by rw [show (i + 1).toNat = i.toNat + 1 by omega, widest_succ _ (by omega)]
    have he : ¬ i < t.length → widest t i.toNat = widest t t.length := fun h => by rw [show i.toNat = t.length by omega]
    conv => whnf
    repeat' first
      | (refine Ob.a ?_; conv => whnf)
      | (refine Sp.tt ?_; conv => whnf)
      | (refine Sp.ff ?_; conv => whnf)
      | (refine Sp.yes ?_; conv => whnf)
      | (refine Sp.no ?_; conv => whnf)
      | (refine Sp.nyes ?_; conv => whnf)
      | (refine Sp.nno ?_; conv => whnf)
      | (refine Sp.ne (fun hc => ?_) (fun hc => ?_) <;> (conv => whnf))
      | (refine Sp.dec (fun hc => ?_) (fun hc => ?_) <;> (conv => whnf))
      | (refine Sp.ndec (fun hc => ?_) (fun hc => ?_) <;> (conv => whnf))
      | (refine Sp.mk (fun hc => ?_) (fun hc => ?_) <;> (conv => whnf))
      | (refine Nx.mk (fun ka kb kx hx hs => ?_) (fun he => ?_) <;> (conv => whnf))
      | (refine Nx.mk (fun ka kx hx hs => ?_) (fun he => ?_) <;> (conv => whnf))
      | (refine Uk.mk (fun hn => ?_) ?_ <;> (conv => whnf))
      | (refine Fi.a ?_; conv => whnf)
      | (refine Yl.a ?_ ?_ <;> (conv => whnf))
      | (refine Ob.b ?_; conv => whnf)
    · have e := hs (by omega)
      refine ⟨rfl, ⟨i + 1, by omega, by omega⟩, Lf, by simp only; omega⟩
    · have e := he (by omega)
      have e2 := h1 (by omega)
      exact Lf
    · have e := he (by omega)
      have e2 := h2 (by omega)
      exact Lf
  · exact Lf

/-- Hours of numbers, three for each. -/
def mkHours : List Int → List Hour
  | a :: b :: c :: l => ⟨a, b, c⟩ :: mkHours l
  | _ => []
theorem mkHours_short : ∀ {l : List Int}, l.length ≤ 2 → mkHours l = []
  | [], _ => rfl
  | [_], _ => rfl
  | [_, _], _ => rfl
  | _ :: _ :: _ :: _, h => by simp at h
theorem mkHours_step {l : List Int} {i : Nat} (h : i + 2 < l.length) : mkHours (l.drop i) = ⟨l.getD i 0, l.getD (i + 1) 0, l.getD (i + 2) 0⟩ :: mkHours (l.drop (i + 3)) := by
  rw [drop_getD 0 (show i < l.length by omega), drop_getD 0 (show i + 1 < l.length by omega), drop_getD 0 (show i + 1 + 1 < l.length by omega)]
  rfl
def mkMill (s l g f : Int) (h : List Int) : Mill := ⟨s, l, g, f, mkHours h⟩

def millU (s l g f i : Int) (nx : Nat) : List Hour → List (Nat × AV) × List (Nat × Res)
  | [] => ([(12, .d (int i))], [(6, .cs true 5 (nthL [.d (int s), .d (int l), .d (int g), .d (int f), .d (.v (.slice none 0 0))]))])
  | y :: o => ([(12, .d (int i))], [(6, .cs true 5 (nthL [.d (int s), .d (int l), .d (int g), .d (int f), .ms nx 3 0 (y :: o).length])), (nx, .row true 73 3 (y :: o).length (rowOf hourD default (y :: o)))])

set_option maxHeartbeats 4000000 in
theorem Mill_spec (s l g f : Int) (h : List Int) (hh : h.length ≤ 1000) : Fn Try.prog 48 [int s, int l, int g, int f, ints h] (millD (mkMill s l g f h)) := by
  have hm : millD (mkMill s l g f h) = st [int s, int l, int g, int f, slOf 3 hourD default (mkHours h)] := rfl
  rw [hm]
  generalize hr : mkHours h = r
  refine Fn.of_ex (cuts := []) tys hM Try.func48 rfl Try.call48 rfl ?_
  show exC Try.prog T [] _ false none 0 (entry 47 [int s, int l, int g, int f, ints h]) (finQ T [ResultVar.cell 10 24] _)
  conv => whnf
  repeat' first
    | (refine Ob.a ?_; conv => whnf)
    | (refine Sp.tt ?_; conv => whnf)
    | (refine Sp.ff ?_; conv => whnf)
    | (refine Sp.yes ?_; conv => whnf)
    | (refine Sp.no ?_; conv => whnf)
    | (refine Sp.nyes ?_; conv => whnf)
    | (refine Sp.nno ?_; conv => whnf)
    | (refine Sp.ne (fun hc => ?_) (fun hc => ?_) <;> (conv => whnf))
    | (refine Sp.dec (fun hc => ?_) (fun hc => ?_) <;> (conv => whnf))
    | (refine Sp.ndec (fun hc => ?_) (fun hc => ?_) <;> (conv => whnf))
    | (refine Sp.mk (fun hc => ?_) (fun hc => ?_) <;> (conv => whnf))
    | (refine Nx.mk (fun ka kb kx hx hs => ?_) (fun he => ?_) <;> (conv => whnf))
    | (refine Nx.mk (fun ka kx hx hs => ?_) (fun he => ?_) <;> (conv => whnf))
    | (refine Uk.mk (fun hn => ?_) ?_ <;> (conv => whnf))
    | (refine Fi.a ?_; conv => whnf)
    | (refine Yl.a ?_ ?_ <;> (conv => whnf))
    | (refine Ob.b ?_; conv => whnf)
  refine Lp.snap [0, 1, 2, 3, 4, 10, 11, 46] 40 ?_
  (conv => whnf)
  refine LpB.go 47 ({p : Int × List Hour // (0 ≤ p.1 ∧ p.1 ≤ h.length + 2) ∧ p.2 ++ mkHours (h.drop p.1.toNat) = r ∧ p.2.length ≤ p.1}) 1 (fun ⟨(i, o), _⟩ nx => millU s l g f i nx o) (fun p => (h.length + 3 - p.1.1).toNat) (⟨(0, []), ⟨by simp, by simp only; omega⟩, hr, by simp⟩) ?_ ?_ (hl := by rintro ⟨⟨i, o⟩, _⟩; cases o <;> rfl)
  · rintro ⟨⟨i, o⟩, ⟨hi0, hi⟩, hinv, hol⟩
    simp only at hi0 hi hinv hol
    have hs : i + 2 < h.length → (o ++ [⟨h.getD i.toNat 0, h.getD (i + 1).toNat 0, h.getD (i + 2).toNat 0⟩]) ++ mkHours (h.drop (i + 3).toNat) = r := fun hlt => by
      rw [← hinv, mkHours_step (i := i.toNat) (by omega), show (i + 3).toNat = i.toNat + 3 by omega, show (i + 1).toNat = i.toNat + 1 by omega, show (i + 2).toNat = i.toNat + 2 by omega, List.append_assoc]; rfl
    have he : ¬ i + 2 < h.length → o = r := fun hlt => by rw [← hinv, mkHours_short (by rw [List.length_drop]; omega)]; simp
    cases o with
    | nil =>
      conv => whnf
      repeat' first
        | (refine Ob.a ?_; conv => whnf)
        | (refine Sp.tt ?_; conv => whnf)
        | (refine Sp.ff ?_; conv => whnf)
        | (refine Sp.yes ?_; conv => whnf)
        | (refine Sp.no ?_; conv => whnf)
        | (refine Sp.nyes ?_; conv => whnf)
        | (refine Sp.nno ?_; conv => whnf)
        | (refine Sp.ne (fun hc => ?_) (fun hc => ?_) <;> (conv => whnf))
        | (refine Sp.dec (fun hc => ?_) (fun hc => ?_) <;> (conv => whnf))
        | (refine Sp.ndec (fun hc => ?_) (fun hc => ?_) <;> (conv => whnf))
        | (refine Sp.mk (fun hc => ?_) (fun hc => ?_) <;> (conv => whnf))
        | (refine Nx.mk (fun ka kb kx hx hs => ?_) (fun he => ?_) <;> (conv => whnf))
        | (refine Nx.mk (fun ka kx hx hs => ?_) (fun he => ?_) <;> (conv => whnf))
        | (refine Uk.mk (fun hn => ?_) ?_ <;> (conv => whnf))
        | (refine Fi.a ?_; conv => whnf)
        | (refine Yl.a ?_ ?_ <;> (conv => whnf))
        | (refine Ob.b ?_; conv => whnf)
      · have e := hs (by omega)
        refine ⟨rfl, ⟨(i + 3, [⟨h.getD i.toNat 0, h.getD (i + 1).toNat 0, h.getD (i + 2).toNat 0⟩]), ⟨by simp only; omega, by simp only; omega⟩, e, by simp only [List.length_singleton]; omega⟩, ?_, by simp only; omega⟩
        repeat' first | (refine Edge.fast ?_) | ((conv => whnf); first | exact True.intro | (refine And.intro ?_ ?_) | exact rfl | exact Nat.le_of_eq (Nat.zero_add _) | exact ImpS.refl _ | ((conv => arg 1; whnf); first | exact ImpS.refl _ | (refine ImpS.nil_eq ?_) | (refine ImpS.vnil_eq ?_) | (refine ImpS.row ?_) | (refine ImpS.rowN ?_ ?_) | (refine ImpS.sl_eq ?_) | (refine ImpS.expl rfl ?_)) | (refine row_snoc' ?_) | (apply row_upd) | exact cimp_none | exact cimp_same | exact List.not_mem_nil | exact DImp.refl _) | exact rfl | (refine And.intro ?_ ?_) | exact ImpS.refl _
        all_goals first | omega | refine row_first ?_
        repeat' first | (refine Edge.fast ?_) | ((conv => whnf); first | exact True.intro | (refine And.intro ?_ ?_) | exact rfl | exact Nat.le_of_eq (Nat.zero_add _) | exact ImpS.refl _ | ((conv => arg 1; whnf); first | exact ImpS.refl _ | (refine ImpS.nil_eq ?_) | (refine ImpS.vnil_eq ?_) | (refine ImpS.row ?_) | (refine ImpS.rowN ?_ ?_) | (refine ImpS.sl_eq ?_) | (refine ImpS.expl rfl ?_)) | (refine row_snoc' ?_) | (apply row_upd) | exact cimp_none | exact cimp_same | exact List.not_mem_nil | exact DImp.refl _) | exact rfl | (refine And.intro ?_ ?_) | exact ImpS.refl _
      · have e := he (by omega)
        exact Lf
    | cons y o =>
      conv => whnf
      repeat' first
        | (refine Ob.a ?_; conv => whnf)
        | (refine Sp.tt ?_; conv => whnf)
        | (refine Sp.ff ?_; conv => whnf)
        | (refine Sp.yes ?_; conv => whnf)
        | (refine Sp.no ?_; conv => whnf)
        | (refine Sp.nyes ?_; conv => whnf)
        | (refine Sp.nno ?_; conv => whnf)
        | (refine Sp.ne (fun hc => ?_) (fun hc => ?_) <;> (conv => whnf))
        | (refine Sp.dec (fun hc => ?_) (fun hc => ?_) <;> (conv => whnf))
        | (refine Sp.ndec (fun hc => ?_) (fun hc => ?_) <;> (conv => whnf))
        | (refine Sp.mk (fun hc => ?_) (fun hc => ?_) <;> (conv => whnf))
        | (refine Nx.mk (fun ka kb kx hx hs => ?_) (fun he => ?_) <;> (conv => whnf))
        | (refine Nx.mk (fun ka kx hx hs => ?_) (fun he => ?_) <;> (conv => whnf))
        | (refine Uk.mk (fun hn => ?_) ?_ <;> (conv => whnf))
        | (refine Fi.a ?_; conv => whnf)
        | (refine Yl.a ?_ ?_ <;> (conv => whnf))
        | (refine Ob.b ?_; conv => whnf)
      · have e := hs (by omega)
        refine ⟨rfl, ⟨(i + 3, y :: o ++ [⟨h.getD i.toNat 0, h.getD (i + 1).toNat 0, h.getD (i + 2).toNat 0⟩]), ⟨by simp only; omega, by simp only; omega⟩, e, by simp at hol ⊢; omega⟩, ?_, by simp only; omega⟩
        repeat' first | (refine Edge.fast ?_) | ((conv => whnf); first | exact True.intro | (refine And.intro ?_ ?_) | exact rfl | exact Nat.le_of_eq (Nat.zero_add _) | exact ImpS.refl _ | ((conv => arg 1; whnf); first | exact ImpS.refl _ | (refine ImpS.nil_eq ?_) | (refine ImpS.vnil_eq ?_) | (refine ImpS.row ?_) | (refine ImpS.rowN ?_ ?_) | (refine ImpS.sl_eq ?_) | (refine ImpS.expl rfl ?_)) | (refine row_snoc' ?_) | exact MImp.refl _ | exact cimp_none | exact cimp_same | exact List.not_mem_nil | exact DImp.refl _) | exact rfl | (refine And.intro ?_ ?_) | exact ImpS.refl _
        all_goals first | (simp; done) | refine row_snoc' (l := y :: o) ?_
        repeat' first | (refine Edge.fast ?_) | ((conv => whnf); first | exact True.intro | (refine And.intro ?_ ?_) | exact rfl | exact Nat.le_of_eq (Nat.zero_add _) | exact ImpS.refl _ | ((conv => arg 1; whnf); first | exact ImpS.refl _ | (refine ImpS.nil_eq ?_) | (refine ImpS.vnil_eq ?_) | (refine ImpS.row ?_) | (refine ImpS.rowN ?_ ?_) | (refine ImpS.sl_eq ?_) | (refine ImpS.expl rfl ?_)) | (refine row_snoc' ?_) | (apply row_upd) | exact cimp_none | exact cimp_same | exact List.not_mem_nil | exact DImp.refl _) | exact rfl | (refine And.intro ?_ ?_) | exact ImpS.refl _
      · have e := he (by omega)
        exact Lf
  · exact Lf

def fiveL : List Int := [8, 10, 4, 8, 10, 6, 9, 12, 5, 9, 12, 6, 8, 10, 4]
def five (l : Int) : Mill := mkMill 10 l 6 4 fiveL
theorem five_spec (l : Int) : Fn Try.prog 45 [int l] (millD (five l)) := by
  have hm := Mill_spec 10 l 6 4 fiveL (by simp [fiveL])
  refine Fn.of_ex (cuts := []) tys hM Try.func45 rfl Try.call45 rfl ?_
  show exC Try.prog T [] _ false none 0 (entry 6 [int l]) (finQ T [ResultVar.cell 2 24] _)
  conv => whnf
  repeat' first
    | (refine Ob.a ?_; conv => whnf)
    | (refine Sp.tt ?_; conv => whnf)
    | (refine Sp.ff ?_; conv => whnf)
    | (refine Sp.yes ?_; conv => whnf)
    | (refine Sp.no ?_; conv => whnf)
    | (refine Sp.nyes ?_; conv => whnf)
    | (refine Sp.nno ?_; conv => whnf)
    | (refine Sp.ne (fun hc => ?_) (fun hc => ?_) <;> (conv => whnf))
    | (refine Sp.dec (fun hc => ?_) (fun hc => ?_) <;> (conv => whnf))
    | (refine Sp.ndec (fun hc => ?_) (fun hc => ?_) <;> (conv => whnf))
    | (refine Sp.mk (fun hc => ?_) (fun hc => ?_) <;> (conv => whnf))
    | (apply Cl.go; (conv => whnf); (first | refine Ob.call (hm) ?_); (conv => whnf))
    | (refine Nx.mk (fun ka kb kx hx hs => ?_) (fun he => ?_) <;> (conv => whnf))
    | (refine Nx.mk (fun ka kx hx hs => ?_) (fun he => ?_) <;> (conv => whnf))
    | (refine Uk.mk (fun hn => ?_) ?_ <;> (conv => whnf))
    | (refine Fi.a ?_; conv => whnf)
    | (refine Yl.a ?_ ?_ <;> (conv => whnf))
    | (refine Ob.b ?_; conv => whnf)
  all_goals first | exact Lf
end Go.Px.Try

/-! Law2 -/
namespace Go.Px.Try
open Go Go.Proofs Go.Px

def f20 : Mill := five 20
theorem five_h (l : Int) : (five l).hours.length = 5 := rfl
theorem l5 {l : Int} : (five l).hours.length < 1000000 := by rw [five_h]; omega

theorem w_heats1 : Fn Try.prog 19 [millD f20, ints [1, 0, 1, 0, 1], bool true] (tpl [ints [16, 12, 18, 14, 20], int 0]) := by
  have h := HeatsPr_spec f20 [1, 0, 1, 0, 1] true l5 (by simp)
  rwa [show heatsR f20 [1, 0, 1, 0, 1] true = ([16, 12, 18, 14, 20], 0) by decide +kernel] at h
theorem w_heats2 : Fn Try.prog 19 [millD f20, ints [0, 0, 1, 0, 0], bool false] (tpl [ints [8, 8, 15, 11, 8], int 0]) := by
  have h := HeatsPr_spec f20 [0, 0, 1, 0, 0] false l5 (by simp)
  rwa [show heatsR f20 [0, 0, 1, 0, 0] false = ([8, 8, 15, 11, 8], 0) by decide +kernel] at h
theorem w_cp (p : List Int) (r : Int × Int) (hp : p.length < 1000000) (h : checkPlanR f20 p = r) : Fn Try.prog 21 [millD f20, ints p] (tpl [int r.1, int r.2]) := h ▸ CheckPlanPr_spec f20 p l5 hp
theorem w_safe (l : Int) (p : List Int) (r : Int × Int) (hp : p.length < 1000000) (h : safeR (five l) p = r) : Fn Try.prog 23 [millD (five l), ints p] (tpl [int r.1, int r.2]) := h ▸ SafePr_spec (five l) p l5 hp
theorem w_most : Fn Try.prog 28 [millD f20] (tpl [int 13, int 0]) := by
  have h := MostP_spec f20 l5
  rwa [show mostP f20 = (13, 0) by decide +kernel] at h
theorem w_plan : Fn Try.prog 30 [millD f20] (tpl [ints [1, 0, 1, 0, 1], int 0]) := by
  have h := PlanP_spec f20 l5
  rwa [show planP f20 = ([1, 0, 1, 0, 1], 0) by decide +kernel] at h
theorem w_plan11 : Fn Try.prog 30 [millD (five 11)] (tpl [ints [], int 13]) := by
  have h := PlanP_spec (five 11) l5
  rwa [show planP (five 11) = ([], 13) by decide +kernel] at h
theorem w_spares : Fn Try.prog 35 [millD f20, ints [0, 1, 0, 1, 0]] (tpl [int 2, int 2, int 0]) := by
  have h := SparesPr_spec f20 [0, 1, 0, 1, 0] l5 (by simp)
  rwa [show sparesR f20 [0, 1, 0, 1, 0] = (2, 2, 0) by decide +kernel] at h
theorem w_latest : Fn Try.prog 37 [millD f20, ints [1, 0, 1, 0, 1]] (tpl [ints [10, 16, 12, 18, 14], int 0]) := by
  have h := LatestP_spec f20 [1, 0, 1, 0, 1] l5 (by simp)
  rwa [show latestR f20 [1, 0, 1, 0, 1] = ([10, 16, 12, 18, 14], 0) by decide +kernel] at h
theorem w_worth : Fn Try.prog 32 [millD f20] (tpl [int 0, int 0]) := by
  have h := WorthP_spec f20 l5
  rwa [show worthP f20 = (0, 0) by decide +kernel] at h
theorem w_worth21 : Fn Try.prog 32 [millD (five 21)] (tpl [int 1, int 0]) := by
  have h := WorthP_spec (five 21) l5
  rwa [show worthP (five 21) = (1, 0) by decide +kernel] at h
theorem w_table : ∃ t, Fn Try.prog 52 [millD f20] (tpl [tableD t, int 0]) ∧ Fn Try.prog 51 [millD f20, tableD t] (tpl [int 13, int 0]) := by
  refine ⟨(tableP f20).1, ?_, ?_⟩
  · have h := TableP_spec f20 l5
    rwa [show (tableP f20).2 = 0 by decide +kernel] at h
  · have h := CheckTable_spec f20 (tableP f20).1 l5 (by decide +kernel)
    rwa [show checkTableR f20 (tableP f20).1 = (13, 0) by decide +kernel] at h

theorem longs_same (l : List Int) (h : l.length < 1000000) : Fn Try.prog 27 [ints l, ints l] (bool true) := by
  have := Longs_spec l l h
  rwa [decide_eq_true rfl] at this
theorem ints_same (l : List Int) (h : l.length < 1000000) : Fn Try.prog 34 [ints l, ints l] (bool true) := by
  have := Ints_spec l l h
  rwa [decide_eq_true rfl] at this

set_option maxHeartbeats 16000000 in
theorem Works_spec : Fn Try.prog 18 [] (bool true) := by
  have h1 := five_spec 20
  have h2 := w_heats1
  have h3 := w_heats2
  have h4 := w_cp [0, 1, 0, 1, 0] (12, 0) (by simp) (by decide +kernel)
  have h5 := w_cp [1, 1, 0, 0, 0] (0, 18) (by simp) (by decide +kernel)
  have h6 := w_cp [1, 0] (0, 15) (by simp) (by decide +kernel)
  have h7 := w_cp [1, 0, 1, 0, 2] (0, 3) (by simp) (by decide +kernel)
  have h8 := w_safe 20 [1, 0, 1, 0, 1] (2, 0) (by simp) (by decide +kernel)
  have h9 := w_safe 20 [1, 1, 0, 0, 0] (0, 0) (by simp) (by decide +kernel)
  have h10 := w_safe 17 [0, 0, 1, 0, 0] (1, 0) (by simp) (by decide +kernel)
  have h11 := w_most
  have h12 := w_plan
  have h13 := w_plan11
  have h14 := w_spares
  have h15 := w_latest
  have h16 := w_worth
  have h17 := w_worth21
  obtain ⟨t, h18, h19⟩ := w_table
  have hf17 := five_spec 17
  have hf11 := five_spec 11
  have hf21 := five_spec 21
  rw [show five 20 = f20 from rfl] at h1 h8 h9
  refine Fn.of_ex (cuts := []) tys hM Try.func18 rfl Try.call18 rfl ?_
  show exC Try.prog T [] _ false none 0 (entry 288 []) (finQ T [ResultVar.tmp 0] _)
  conv => whnf
  repeat' first
    | (refine Ob.a ?_; conv => whnf)
    | (refine Sp.tt ?_; conv => whnf)
    | (refine Sp.ff ?_; conv => whnf)
    | (refine Sp.yes ?_; conv => whnf)
    | (refine Sp.no ?_; conv => whnf)
    | (refine Sp.nyes ?_; conv => whnf)
    | (refine Sp.nno ?_; conv => whnf)
    | (refine Sp.ne (fun hc => ?_) (fun hc => ?_) <;> (conv => whnf))
    | (refine Sp.dec (fun hc => ?_) (fun hc => ?_) <;> (conv => whnf))
    | (refine Sp.ndec (fun hc => ?_) (fun hc => ?_) <;> (conv => whnf))
    | (refine Sp.mk (fun hc => ?_) (fun hc => ?_) <;> (conv => whnf))
    | (apply Cl.go; (conv => whnf); (first | refine Ob.call (h1) ?_ | refine Ob.call (h2) ?_ | refine Ob.call (h3) ?_ | refine Ob.call (h4) ?_ | refine Ob.call (h5) ?_ | refine Ob.call (h6) ?_ | refine Ob.call (h7) ?_ | refine Ob.call (h8) ?_ | refine Ob.call (h9) ?_ | refine Ob.call (h10) ?_ | refine Ob.call (h11) ?_ | refine Ob.call (h12) ?_ | refine Ob.call (h13) ?_ | refine Ob.call (h14) ?_ | refine Ob.call (h15) ?_ | refine Ob.call (h16) ?_ | refine Ob.call (h17) ?_ | refine Ob.call (h18) ?_ | refine Ob.call (h19) ?_ | refine Ob.call (hf17) ?_ | refine Ob.call (hf11) ?_ | refine Ob.call (hf21) ?_ | refine Ob.call (of_spec [1, 0, 1, 0, 1]) ?_ | refine Ob.call (of_spec [0, 0, 1, 0, 0]) ?_ | refine Ob.call (of_spec [0, 1, 0, 1, 0]) ?_ | refine Ob.call (of_spec [1, 1, 0, 0, 0]) ?_ | refine Ob.call (of_spec [1, 0]) ?_ | refine Ob.call (of_spec [1, 0, 1, 0, 2]) ?_ | refine Ob.call (longs_spec [16, 12, 18, 14, 20]) ?_ | refine Ob.call (longs_spec [8, 8, 15, 11, 8]) ?_ | refine Ob.call (longs_spec [10, 16, 12, 18, 14]) ?_ | refine Ob.call (longs_same [16, 12, 18, 14, 20] (by simp)) ?_ | refine Ob.call (longs_same [8, 8, 15, 11, 8] (by simp)) ?_ | refine Ob.call (longs_same [10, 16, 12, 18, 14] (by simp)) ?_ | refine Ob.call (ints_same [1, 0, 1, 0, 1] (by simp)) ?_); (conv => whnf))
    | (refine Nx.mk (fun ka kb kx hx hs => ?_) (fun he => ?_) <;> (conv => whnf))
    | (refine Nx.mk (fun ka kx hx hs => ?_) (fun he => ?_) <;> (conv => whnf))
    | (refine Uk.mk (fun hn => ?_) ?_ <;> (conv => whnf))
    | (refine Fi.a ?_; conv => whnf)
    | (refine Yl.a ?_ ?_ <;> (conv => whnf))
    | (refine Ob.b ?_; conv => whnf)
  all_goals first | exact Lf | skip
end Go.Px.Try

/-! FrS -/
namespace Go.Px.Try
open Go Go.Proofs Go.Px

theorem own : ownKnob Try.prog.godebug = none := by kernel_rfl
theorem laidOut : laidOutB Try.prog = true := by kernel_rfl

def I64 (n : Int) : Prop := (Lit.int .i64 n).wf = true
def hourG (h : Hour) : Prop := I64 h.lo ∧ I64 h.hi ∧ I64 h.pounds
def millG (m : Mill) : Prop := (I64 m.start ∧ I64 m.limit ∧ I64 m.gain ∧ I64 m.fall) ∧ (∀ h ∈ m.hours, hourG h) ∧ m.hours.length ≤ maxLen
theorem opn71 : Opn false Try.prog 71 (fun p : Int × Int × Unit => [int p.1, int p.2.1]) (fun p => I64 p.1 ∧ I64 p.2.1 ∧ True) :=
  Opn.struct Try.underlying71 (by kernel_rfl) (OpnL.cons (Opn.int Try.underlying2) (OpnL.cons (Opn.int Try.underlying2) OpnL.nil))
theorem opn73 : Opn false Try.prog 73 (fun h : Hour => [int h.lo, int h.hi, int h.pounds]) hourG :=
  Opn.map (Opn.struct Try.underlying73 (by kernel_rfl) (OpnL.cons opn71 (OpnL.cons (Opn.int Try.underlying2) OpnL.nil))) (fun p => ⟨p.1.1, p.1.2.1, p.2.1⟩) fun p h => ⟨rfl, h.1.1, h.1.2.1, h.2.1⟩
theorem opn22 : Opn true Try.prog 22 (fun l : List Hour => [slOf 3 hourD default l]) (fun l => (∀ h ∈ l, hourG h) ∧ l.length ≤ maxLen) :=
  Opn.slice (k := 3) Try.underlying22 (by kernel_rfl) (by decide) (fun _ => rfl) (fun a x hx => by simp at hx; rcases hx with rfl | rfl | rfl <;> trivial) default opn73
theorem opn24 : Opn true Try.prog 24 millL millG :=
  Opn.map (Opn.struct Try.underlying24 (by kernel_rfl) (OpnL.cons (Opn.int Try.underlying2) (OpnL.cons (Opn.int Try.underlying2) (OpnL.cons (Opn.int Try.underlying2) (OpnL.cons (Opn.int Try.underlying2) (OpnL.cons opn22 OpnL.nil))))))
    (fun p => ⟨p.1, p.2.1, p.2.2.1, p.2.2.2.1, p.2.2.2.2.1⟩) fun p h => ⟨rfl, ⟨h.1, h.2.1, h.2.2.1, h.2.2.2.1⟩, h.2.2.2.2.1⟩
theorem opn25 : Opn true Try.prog 25 (fun l : List Int => [ints l]) (fun l => (∀ n ∈ l, I64 n) ∧ l.length ≤ maxLen) :=
  Opn.slice (k := 1) Try.underlying25 (by kernel_rfl) (by decide) (fun _ => rfl) (fun a x hx => by simp at hx; rcases hx with rfl; trivial) 0 (Opn.int Try.underlying3)

theorem cells_agg {cs : Array Value} : (Value.agg cs).cells = cs := rfl
set_option maxRecDepth 100000 in
/-- The statement's mill. -/
theorem mill_arg {H : Type} {enc : TypeId × Value → H} {w : World} {base : Nat} {v : Value} {d : DataW H} {ps : List MemPlace} (ht : DataW.Trod enc Try.prog w 0 (fun _ => true) true 24 v d ps) (hv : Value.okWide Try.prog w .any base 24 v) :
    ∃ m : Mill, millG m ∧ Rep (All w) w (millD m) v := by
  simp only [Value.okWide, Try.underlying24] at hv
  obtain ⟨cs, rfl, _, hrow⟩ := hv
  obtain ⟨m, hg, hc⟩ := Opn.arg opn24 ht fun _ => plain_row hrow
  exact ⟨m, hg, Cells.st hc⟩
set_option maxRecDepth 100000 in
theorem ints_arg {H : Type} {enc : TypeId × Value → H} {w : World} {base : Nat} {v : Value} {d : DataW H} {ps : List MemPlace} (ht : DataW.Trod enc Try.prog w 0 (fun _ => true) true 25 v d ps) (hv : Value.okWide Try.prog w .any base 25 v) :
    ∃ l : List Int, ((∀ n ∈ l, I64 n) ∧ l.length ≤ maxLen) ∧ Rep (All w) w (ints l) v := by
  have hs := plain_slice Try.underlying25 hv
  obtain ⟨a, len, cap, rfl⟩ := Go.WideShapes.okWide_slice Try.underlying25 hv
  obtain ⟨l, hg, hc⟩ := Opn.arg opn25 ht fun _ => hs
  exact ⟨l, hg, hc.one rfl⟩
set_option maxRecDepth 100000 in
theorem bool_arg {H : Type} {enc : TypeId × Value → H} {w : World} {base : Nat} {v : Value} {d : DataW H} {ps : List MemPlace} (ht : DataW.Trod enc Try.prog w 0 (fun _ => true) true 4 v d ps) (hv : Value.okWide Try.prog w .any base 4 v) :
    ∃ b : Bool, True ∧ Rep (All w) w (bool b) v := by
  obtain ⟨b, rfl, _, _⟩ := RowKit.open_bool Try.underlying4 hv ht
  exact ⟨b, trivial, rfl⟩
end Go.Px.Try
