/- Texts of this proof, joined (LwA): a small program logic over the model, and what functions of the program give. No statement of the seat is proved here. -/
import Derived.Test.YtofcdpkanjiefaaJ6
set_option linter.unusedVariables false
set_option linter.unusedSimpArgs false

/-! LwA -/
namespace Go.Px.Try
open Go Go.Proofs Go.Px
set_option maxRecDepth 100000
set_option maxHeartbeats 16000000 in
theorem BiteCurves_spec (R c : List Int) (i k j : Int) : Fn Try.prog 3 [ints R, ints c, int i, int k, int j] (bool true) := by
  have hw := Works_spec
  have g1 := great_spec R
  have g2 := great_spec c
  by_cases h1 : 20 < (R.length : Int)
  · rw [decide_eq_true h1] at g1
    refine Fn.of_ex (cuts := []) tys hM Try.func3 rfl Try.call3 rfl ?_
    show exC Try.prog T [] _ false none 0 (entry 91 [ints R, ints c, int i, int k, int j]) (finQ T [ResultVar.tmp 10] _)
    conv => whnf
    repeat' first | ((first | refine Ob.a ?_ | refine Sp.tt ?_ | refine Sp.ff ?_ | refine Sp.yes ?_ | refine Sp.no ?_ | refine Sp.nyes ?_ | refine Sp.nno ?_);conv=>whnf) | (refine Sp.ne (fun hc => ?_) (fun hc => ?_) <;> (conv=>whnf)) | (refine Sp.dec (fun hc => ?_) (fun hc => ?_) <;> (conv=>whnf)) | (refine Sp.ndec (fun hc => ?_) (fun hc => ?_) <;> (conv=>whnf)) | (refine Sp.mk (fun hc => ?_) (fun hc => ?_) <;> (conv=>whnf)) | (apply Cl.go;(conv=>whnf); (first | refine Ob.call (g1) ?_ | refine Ob.call (hw) ?_);(conv=>whnf)) | (refine Fi.a ?_;conv=>whnf) | (refine Ob.b ?_;conv=>whnf)
    all_goals exact Lf
  rw [decide_eq_false h1] at g1
  by_cases h2 : 20 < (c.length : Int)
  · rw [decide_eq_true h2] at g2
    refine Fn.of_ex (cuts := []) tys hM Try.func3 rfl Try.call3 rfl ?_
    show exC Try.prog T [] _ false none 0 (entry 91 [ints R, ints c, int i, int k, int j]) (finQ T [ResultVar.tmp 10] _)
    conv => whnf
    repeat' first | ((first | refine Ob.a ?_ | refine Sp.tt ?_ | refine Sp.ff ?_ | refine Sp.yes ?_ | refine Sp.no ?_ | refine Sp.nyes ?_ | refine Sp.nno ?_);conv=>whnf) | (refine Sp.ne (fun hc => ?_) (fun hc => ?_) <;> (conv=>whnf)) | (refine Sp.dec (fun hc => ?_) (fun hc => ?_) <;> (conv=>whnf)) | (refine Sp.ndec (fun hc => ?_) (fun hc => ?_) <;> (conv=>whnf)) | (refine Sp.mk (fun hc => ?_) (fun hc => ?_) <;> (conv=>whnf)) | (apply Cl.go;(conv=>whnf); (first | refine Ob.call (g1) ?_ | refine Ob.call (g2) ?_ | refine Ob.call (hw) ?_);(conv=>whnf)) | (refine Fi.a ?_;conv=>whnf) | (refine Ob.b ?_;conv=>whnf)
    all_goals exact Lf
  rw [decide_eq_false h2] at g2
  have a1 := CheckCurveP_spec R c (by omega) (by omega)
  have a2 := CheckCurve_spec R c (by omega) (by omega)
  have a3 := CheckValleyP_spec R i k j (by omega)
  have a4 := CheckValley_spec R i k j (by omega)
  have a5 := CheckRowP_spec R (by omega)
  have a6 := CheckRow_spec R (by omega)
  generalize checkCurveR R c = x1 at *
  generalize checkValR R i k j = x2 at *
  generalize checkRd R = x3 at *
  refine Fn.of_ex (cuts := []) tys hM Try.func3 rfl Try.call3 rfl ?_
  show exC Try.prog T [] _ false none 0 (entry 91 [ints R, ints c, int i, int k, int j]) (finQ T [ResultVar.tmp 10] _)
  conv => whnf
  repeat' first | ((first | refine Ob.a ?_ | refine Sp.tt ?_ | refine Sp.ff ?_ | refine Sp.yes ?_ | refine Sp.no ?_ | refine Sp.nyes ?_ | refine Sp.nno ?_);conv=>whnf) | (refine Sp.ne (fun hc => ?_) (fun hc => ?_) <;> (conv=>whnf)) | (refine Sp.dec (fun hc => ?_) (fun hc => ?_) <;> (conv=>whnf)) | (refine Sp.ndec (fun hc => ?_) (fun hc => ?_) <;> (conv=>whnf)) | (refine Sp.mk (fun hc => ?_) (fun hc => ?_) <;> (conv=>whnf)) | (apply Cl.go;(conv=>whnf); (first | refine Ob.call (g1) ?_ | refine Ob.call (g2) ?_ | refine Ob.call (a1) ?_ | refine Ob.call (a2) ?_ | refine Ob.call (a3) ?_ | refine Ob.call (a4) ?_ | refine Ob.call (a5) ?_ | refine Ob.call (a6) ?_ | refine Ob.call (hw) ?_);(conv=>whnf)) | (refine Fi.a ?_;conv=>whnf) | (refine Ob.b ?_;conv=>whnf)
  all_goals first | (exfalso; omega) | exact Lf
theorem pkL_short (R : List Int) (m : Int) : (peaksR R m).1.length ≤ R.length := by
  unfold peaksR
  split
  · exact Nat.zero_le _
  · split
    · exact Nat.zero_le _
    · exact pk_len R m
set_option maxHeartbeats 16000000 in
theorem BiteValleys_spec (R : List Int) (m : Int) : Fn Try.prog 5 [ints R, int m] (bool true) := by
  have hw := Works_spec
  have g1 := great_spec R
  by_cases h1 : 20 < (R.length : Int)
  · rw [decide_eq_true h1] at g1
    refine Fn.of_ex (cuts := []) tys hM Try.func5 rfl Try.call5 rfl ?_
    show exC Try.prog T [] _ false none 0 (entry 77 [ints R, int m]) (finQ T [ResultVar.tmp 4] _)
    conv => whnf
    repeat' first | ((first | refine Ob.a ?_ | refine Sp.tt ?_ | refine Sp.ff ?_ | refine Sp.yes ?_ | refine Sp.no ?_ | refine Sp.nyes ?_ | refine Sp.nno ?_);conv=>whnf) | (refine Sp.ne (fun hc => ?_) (fun hc => ?_) <;> (conv=>whnf)) | (refine Sp.dec (fun hc => ?_) (fun hc => ?_) <;> (conv=>whnf)) | (refine Sp.ndec (fun hc => ?_) (fun hc => ?_) <;> (conv=>whnf)) | (refine Sp.mk (fun hc => ?_) (fun hc => ?_) <;> (conv=>whnf)) | (apply Cl.go;(conv=>whnf); (first | refine Ob.call (g1) ?_ | refine Ob.call (hw) ?_);(conv=>whnf)) | (refine Fi.a ?_;conv=>whnf) | (refine Ob.b ?_;conv=>whnf)
    all_goals exact Lf
  rw [decide_eq_false h1] at g1
  have a1 := ValleyP_spec R (by omega)
  have a2 := Valley_spec R (by omega)
  have a3 := PeaksP_spec R m (by omega)
  have a4 := Peaks_spec R m (by omega)
  have a5 := ints_same (peaksR R m).1 (by have := pkL_short R m; omega)
  generalize valleyR R = x1 at *
  generalize peaksR R m = x2 at *
  refine Fn.of_ex (cuts := []) tys hM Try.func5 rfl Try.call5 rfl ?_
  show exC Try.prog T [] _ false none 0 (entry 77 [ints R, int m]) (finQ T [ResultVar.tmp 4] _)
  conv => whnf
  repeat' first | ((first | refine Ob.a ?_ | refine Sp.tt ?_ | refine Sp.ff ?_ | refine Sp.yes ?_ | refine Sp.no ?_ | refine Sp.nyes ?_ | refine Sp.nno ?_);conv=>whnf) | (refine Sp.ne (fun hc => ?_) (fun hc => ?_) <;> (conv=>whnf)) | (refine Sp.dec (fun hc => ?_) (fun hc => ?_) <;> (conv=>whnf)) | (refine Sp.ndec (fun hc => ?_) (fun hc => ?_) <;> (conv=>whnf)) | (refine Sp.mk (fun hc => ?_) (fun hc => ?_) <;> (conv=>whnf)) | (apply Cl.go;(conv=>whnf); (first | refine Ob.call (g1) ?_ | refine Ob.call (a1) ?_ | refine Ob.call (a2) ?_ | refine Ob.call (a3) ?_ | refine Ob.call (a4) ?_ | refine Ob.call (a5) ?_ | refine Ob.call (hw) ?_);(conv=>whnf)) | (refine Fi.a ?_;conv=>whnf) | (refine Ob.b ?_;conv=>whnf)
  all_goals first | (exfalso; omega) | exact Lf
theorem curve_self {R : List Int} (hR : RdOk R) : checkCurveR R R = if evenN R = 0 then ((0 : Int), (0 : Int), (0 : Int)) else (0, 0, 21) := by
  unfold checkCurveR
  rw [if_neg (not_not_intro (checkRd_ok.2 hR)), if_neg (not_not_intro rfl), if_neg (not_not_intro hR.rng)]
  by_cases h : evenN R = 0
  · rw [if_pos h, if_neg (by rw [isQ_iff.2 ((even_zero hR).1 h)]; simp), most_self, costTo_self]
  · rw [if_neg h, if_pos]
    cases hb : isQ R with
    | true => exact absurd ((even_zero hR).2 (isQ_iff.1 hb)) h
    | false => rfl
theorem even_le {R : List Int} (hR : RdOk R) : 0 ≤ evenN R ∧ evenN R ≤ 1000 := by
  have h := even_val hR.pos
  have h2 : 0 ≤ (valN R).2 ∧ (valN R).2 ≤ 1000 := vF_rng hR fun v hv => allV_lt hv
  omega
set_option maxHeartbeats 16000000 in
theorem BiteBoth_spec (R : List Int) : Fn Try.prog 8 [ints R] (bool true) := by
  have hw := Works_spec
  by_cases hR : RdOk R
  case neg =>
    have hf := fine_no hR
    refine Fn.of_ex (cuts := []) tys hM Try.func8 rfl Try.call8 rfl ?_
    show exC Try.prog T [] _ false none 0 (entry 62 [ints R]) (finQ T [ResultVar.tmp 2] _)
    conv => whnf
    repeat' first | ((first | refine Ob.a ?_ | refine Sp.tt ?_ | refine Sp.ff ?_ | refine Sp.yes ?_ | refine Sp.no ?_ | refine Sp.nyes ?_ | refine Sp.nno ?_);conv=>whnf) | (refine Sp.ne (fun hc => ?_) (fun hc => ?_) <;> (conv=>whnf)) | (refine Sp.dec (fun hc => ?_) (fun hc => ?_) <;> (conv=>whnf)) | (refine Sp.ndec (fun hc => ?_) (fun hc => ?_) <;> (conv=>whnf)) | (refine Sp.mk (fun hc => ?_) (fun hc => ?_) <;> (conv=>whnf)) | (apply Cl.go;(conv=>whnf); (first | refine Ob.call (hf) ?_ | refine Ob.call (hw) ?_);(conv=>whnf)) | (refine Fi.a ?_;conv=>whnf) | (refine Ob.b ?_;conv=>whnf)
    all_goals exact Lf
  have hf := fine_yes hR
  have h12 := hR.l12
  have h0 := hR.pos
  have hc := changes_spec hR
  have a1 := CheckCurveP_spec R R (by omega) (by omega)
  rw [curve_self hR] at a1
  have b1 := even_le hR
  have b2 := both_ge hR
  have b3 := both_le hR
  have b4 : 0 ≤ evenN R * R.length ∧ evenN R * R.length ≤ 12000 := by
    refine ⟨Int.mul_nonneg b1.1 (by omega), ?_⟩
    have h1 : evenN R * (R.length : Int) ≤ 1000 * (R.length : Int) := Int.mul_le_mul_of_nonneg_right b1.2 (by omega)
    omega
  generalize evenN R = m at *
  generalize nearN R = n at *
  by_cases hm : m = 0
  · rw [if_pos hm] at a1
    generalize hp : m * (R.length : Int) = p at *
    refine Fn.of_ex (cuts := []) tys hM Try.func8 rfl Try.call8 rfl ?_
    show exC Try.prog T [] _ false none 0 (entry 62 [ints R]) (finQ T [ResultVar.tmp 2] _)
    conv => whnf
    repeat' first | ((first | refine Ob.a ?_ | refine Sp.tt ?_ | refine Sp.ff ?_ | refine Sp.yes ?_ | refine Sp.no ?_ | refine Sp.nyes ?_ | refine Sp.nno ?_);conv=>whnf) | (refine Sp.ne (fun hc => ?_) (fun hc => ?_) <;> (conv=>whnf)) | (refine Sp.dec (fun hc => ?_) (fun hc => ?_) <;> (conv=>whnf)) | (refine Sp.ndec (fun hc => ?_) (fun hc => ?_) <;> (conv=>whnf)) | (refine Sp.mk (fun hc => ?_) (fun hc => ?_) <;> (conv=>whnf)) | (apply Cl.go;(conv=>whnf); (first | refine Ob.call (hf) ?_ | refine Ob.call (hc) ?_ | refine Ob.call (a1) ?_ | refine Ob.call (hw) ?_);(conv=>whnf)) | (refine Fi.a ?_;conv=>whnf) | (refine Ob.b ?_;conv=>whnf)
    all_goals first | (exfalso; omega) | exact Lf | (exact absurd (by simp [hm]) hc)
  · rw [if_neg hm] at a1
    refine Fn.of_ex (cuts := []) tys hM Try.func8 rfl Try.call8 rfl ?_
    show exC Try.prog T [] _ false none 0 (entry 62 [ints R]) (finQ T [ResultVar.tmp 2] _)
    conv => whnf
    repeat' first | ((first | refine Ob.a ?_ | refine Sp.tt ?_ | refine Sp.ff ?_ | refine Sp.yes ?_ | refine Sp.no ?_ | refine Sp.nyes ?_ | refine Sp.nno ?_);conv=>whnf) | (refine Sp.ne (fun hc => ?_) (fun hc => ?_) <;> (conv=>whnf)) | (refine Sp.dec (fun hc => ?_) (fun hc => ?_) <;> (conv=>whnf)) | (refine Sp.ndec (fun hc => ?_) (fun hc => ?_) <;> (conv=>whnf)) | (refine Sp.mk (fun hc => ?_) (fun hc => ?_) <;> (conv=>whnf)) | (apply Cl.go;(conv=>whnf); (first | refine Ob.call (hf) ?_ | refine Ob.call (hc) ?_ | refine Ob.call (a1) ?_ | refine Ob.call (hw) ?_);(conv=>whnf)) | (refine Fi.a ?_;conv=>whnf) | (refine Ob.b ?_;conv=>whnf)
    all_goals first | (exfalso; omega) | exact Lf | (exact absurd (by simp [hm]) hc)
end Go.Px.Try
