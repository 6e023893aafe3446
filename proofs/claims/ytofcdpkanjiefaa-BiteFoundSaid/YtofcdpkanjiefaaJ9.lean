/- Texts of this proof, joined (LwB): a small program logic over the model, and what functions of the program give. No statement of the seat is proved here. -/
import Derived.Test.YtofcdpkanjiefaaJ7
import Derived.Test.YtofcdpkanjiefaaJ8
set_option linter.unusedVariables false
set_option linter.unusedSimpArgs false

/-! LwB -/
namespace Go.Px.Try
open Go Go.Proofs Go.Px
set_option maxRecDepth 100000
set_option maxHeartbeats 16000000 in
theorem BiteChanges_spec (R : List Int) : Fn Try.prog 4 [ints R] (bool true) := by
  have hw := Works_spec
  have g1 := great_spec R
  by_cases h1 : 20 < (R.length : Int)
  · rw [decide_eq_true h1] at g1
    refine Fn.of_ex (cuts := []) tys hM Try.func4 rfl Try.call4 rfl ?_
    show exC Try.prog T [] _ false none 0 (entry 113 [ints R]) (finQ T [ResultVar.tmp 2] _)
    conv => whnf
    repeat' first | ((first | refine Ob.a ?_ | refine Sp.tt ?_ | refine Sp.ff ?_ | refine Sp.yes ?_ | refine Sp.no ?_ | refine Sp.nyes ?_ | refine Sp.nno ?_);conv=>whnf) | (refine Sp.ne (fun hc => ?_) (fun hc => ?_) <;> (conv=>whnf)) | (refine Sp.dec (fun hc => ?_) (fun hc => ?_) <;> (conv=>whnf)) | (refine Sp.ndec (fun hc => ?_) (fun hc => ?_) <;> (conv=>whnf)) | (refine Sp.mk (fun hc => ?_) (fun hc => ?_) <;> (conv=>whnf)) | (apply Cl.go;(conv=>whnf); (first | refine Ob.call (g1) ?_ | refine Ob.call (hw) ?_);(conv=>whnf)) | (refine Fi.a ?_;conv=>whnf) | (refine Ob.b ?_;conv=>whnf)
    all_goals exact Lf
  rw [decide_eq_false h1] at g1
  by_cases hR : RdOk R
  case neg =>
    have hq : checkRd R ≠ 0 := fun h => hR (checkRd_ok.1 h)
    have a1 := EvenP_bad R (by omega) hq
    have a2 := NearP_bad R (by omega) hq
    have a3 := CheckRow_spec R (by omega)
    have g2 := great_spec []
    rw [decide_eq_false (by simp)] at g2
    generalize checkRd R = q at *
    refine Fn.of_ex (cuts := []) tys hM Try.func4 rfl Try.call4 rfl ?_
    show exC Try.prog T [] _ false none 0 (entry 113 [ints R]) (finQ T [ResultVar.tmp 2] _)
    conv => whnf
    repeat' first | ((first | refine Ob.a ?_ | refine Sp.tt ?_ | refine Sp.ff ?_ | refine Sp.yes ?_ | refine Sp.no ?_ | refine Sp.nyes ?_ | refine Sp.nno ?_);conv=>whnf) | (refine Sp.ne (fun hc => ?_) (fun hc => ?_) <;> (conv=>whnf)) | (refine Sp.dec (fun hc => ?_) (fun hc => ?_) <;> (conv=>whnf)) | (refine Sp.ndec (fun hc => ?_) (fun hc => ?_) <;> (conv=>whnf)) | (refine Sp.mk (fun hc => ?_) (fun hc => ?_) <;> (conv=>whnf)) | (apply Cl.go;(conv=>whnf); (first | refine Ob.call (g1) ?_ | refine Ob.call (a1) ?_ | refine Ob.call (a2) ?_ | refine Ob.call (a3) ?_ | refine Ob.call (g2) ?_ | refine Ob.call (hw) ?_);(conv=>whnf)) | (refine Fi.a ?_;conv=>whnf) | (refine Ob.b ?_;conv=>whnf)
    all_goals first | (exfalso; omega) | exact Lf
  have h12 := hR.l12
  obtain ⟨c, c1, c2, c3⟩ := EvenP_spec R hR
  obtain ⟨d, d1, d2, d3⟩ := NearP_spec R hR
  have gc := great_spec c
  have gd := great_spec d
  rw [decide_eq_false (by have := c1.len; omega)] at gc
  rw [decide_eq_false (by have := d1.len; omega)] at gd
  have a3 := CheckCurve_spec R c (by omega) (by have := c1.len; omega)
  have a4 := CheckCurve_spec R d (by omega) (by have := d1.len; omega)
  rw [checkCurve_ok hR c1, c2] at a3
  rw [checkCurve_ok hR d1, d2] at a4
  simp only at a3 a4
  have a5 := CheckRow_spec R (by omega)
  rw [checkRd_ok.2 hR] at a5
  have a6 := EvenOf_spec R hR
  have a7 := NearOf_spec R hR
  generalize evenN R = m at *
  generalize nearN R = n at *
  generalize costTo R c R.length = z1 at *
  generalize mostTo R d R.length = z2 at *
  clear c1 c2 d1 d2
  refine Fn.of_ex (cuts := []) tys hM Try.func4 rfl Try.call4 rfl ?_
  show exC Try.prog T [] _ false none 0 (entry 113 [ints R]) (finQ T [ResultVar.tmp 2] _)
  conv => whnf
  repeat' first | ((first | refine Ob.a ?_ | refine Sp.tt ?_ | refine Sp.ff ?_ | refine Sp.yes ?_ | refine Sp.no ?_ | refine Sp.nyes ?_ | refine Sp.nno ?_);conv=>whnf) | (refine Sp.ne (fun hc => ?_) (fun hc => ?_) <;> (conv=>whnf)) | (refine Sp.dec (fun hc => ?_) (fun hc => ?_) <;> (conv=>whnf)) | (refine Sp.ndec (fun hc => ?_) (fun hc => ?_) <;> (conv=>whnf)) | (refine Sp.mk (fun hc => ?_) (fun hc => ?_) <;> (conv=>whnf)) | (apply Cl.go;(conv=>whnf); (first | refine Ob.call (g1) ?_ | refine Ob.call (c3) ?_ | refine Ob.call (d3) ?_ | refine Ob.call (gc) ?_ | refine Ob.call (gd) ?_ | refine Ob.call (a3) ?_ | refine Ob.call (a4) ?_ | refine Ob.call (a5) ?_ | refine Ob.call (a6) ?_ | refine Ob.call (a7) ?_ | refine Ob.call (hw) ?_);(conv=>whnf)) | (refine Fi.a ?_;conv=>whnf) | (refine Ob.b ?_;conv=>whnf)
  all_goals first | (exfalso; omega) | exact Lf
theorem w_cr (R : List Int) (x : Int) (hl : R.length < 1000000) (h : checkRd R = x) : Fn Try.prog 22 [ints R] (int x) := h ▸ CheckRowP_spec R hl
set_option maxHeartbeats 16000000 in
theorem BiteKnown_spec : Fn Try.prog 15 [] (bool true) := by
  have hw := Works_spec
  have g1 := seven_spec
  have g2 := four_spec
  have h1 := w_cc [2, 5, 5, 8, 7, 7, 1] (2, 3, 0) (by simp) (by decide +kernel)
  have h2 := w_cv 3 4 5 (1, 0) (by decide +kernel)
  have h3 := w_cv 0 2 3 (-1, 0) (by decide +kernel)
  have h4 := w_cv 0 1 2 (-3, 0) (by decide +kernel)
  obtain ⟨c, h5, _⟩ := w_even rowB 0 rdB evenB
  have h6 := w_pk rowA 0 ([], 0) (by decide) (by decide +kernel)
  have h7 := w_pk rowA 3 ([0, 1, 2, 3, 4, 5], 0) (by decide) (by decide +kernel)
  have h8 := w_pk rowB 1 ([1, 2, 3], 0) (by decide) (by decide +kernel)
  have h9 := w_need 0 0 (0, 0) (by decide +kernel)
  have h10 := w_need 1 1 (2, 0) (by decide +kernel)
  have h11 := w_tastes 1 (0, 0) (by decide +kernel)
  have h12 := w_tastes 4 (3, 0) (by decide +kernel)
  have h13 := w_tastes 5 (4, 0) (by decide +kernel)
  have h14 := w_cr rowB 0 (by decide) (by decide +kernel)
  have i1 := ints_same [0, 1, 2, 3, 4, 5] (by simp)
  have i2 := ints_same [1, 2, 3] (by simp)
  generalize rowA = ra at *
  generalize rowB = rb at *
  refine Fn.of_ex (cuts := []) tys hM Try.func15 rfl Try.call15 rfl ?_
  show exC Try.prog T [] _ false none 0 (entry 216 []) (finQ T [ResultVar.tmp 0] _)
  conv => whnf
  repeat' first | ((first | refine Ob.a ?_ | refine Sp.tt ?_ | refine Sp.ff ?_ | refine Sp.yes ?_ | refine Sp.no ?_ | refine Sp.nyes ?_ | refine Sp.nno ?_);conv=>whnf) | (refine Sp.ne (fun hc => ?_) (fun hc => ?_) <;> (conv=>whnf)) | (refine Sp.dec (fun hc => ?_) (fun hc => ?_) <;> (conv=>whnf)) | (refine Sp.ndec (fun hc => ?_) (fun hc => ?_) <;> (conv=>whnf)) | (refine Sp.mk (fun hc => ?_) (fun hc => ?_) <;> (conv=>whnf)) | (apply Cl.go;(conv=>whnf); (first | refine Ob.call (g1) ?_ | refine Ob.call (g2) ?_ | refine Ob.call (h1) ?_ | refine Ob.call (h2) ?_ | refine Ob.call (h3) ?_ | refine Ob.call (h4) ?_ | refine Ob.call (h5) ?_ | refine Ob.call (h6) ?_ | refine Ob.call (h7) ?_ | refine Ob.call (h8) ?_ | refine Ob.call (h9) ?_ | refine Ob.call (h10) ?_ | refine Ob.call (h11) ?_ | refine Ob.call (h12) ?_ | refine Ob.call (h13) ?_ | refine Ob.call (h14) ?_ | refine Ob.call (i1) ?_ | refine Ob.call (i2) ?_ | refine Ob.call (hw) ?_ | refine Ob.call (longs_spec [2, 5, 5, 8, 7, 7, 1]) ?_ | refine Ob.call (of_spec [0, 1, 2, 3, 4, 5]) ?_ | refine Ob.call (of_spec [1, 2, 3]) ?_);(conv=>whnf)) | (refine Fi.a ?_;conv=>whnf) | (refine Ob.b ?_;conv=>whnf)
  all_goals exact Lf
end Go.Px.Try
