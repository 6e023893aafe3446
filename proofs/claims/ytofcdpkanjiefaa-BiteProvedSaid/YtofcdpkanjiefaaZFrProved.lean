/- The statement BiteProved: THE STAGE'S THEOREM: the greatest change of a given curve that rises and falls, twice, is at least the depth of a given valley, and no less than the even change, which is half of the depth of the deepest valley, rounded up, or 0 if there is none; the curve's sum is no less than the near change. Conditions: none. -/
import Derived.Test.YtofcdpkanjiefaaJ10
import Derived.Test.YtofcdpkanjiefaaJ7
import Derived.Test.YtofcdpkanjiefaaRows
set_option linter.unusedVariables false
set_option linter.unusedSimpArgs false
/-! LwProved -/
namespace Go.Px.Try
open Go Go.Proofs Go.Px
set_option maxRecDepth 100000
theorem checkVal_rng {R : List Int} (hR : RdOk R) (i k j : Int) : ((checkValR R i k j).2 = 0 ∨ (checkValR R i k j).2 = 2) ∧ -1000 ≤ (checkValR R i k j).1 ∧ (checkValR R i k j).1 ≤ 1000 ∧ (checkValR R i k j).1 ≤ (valN R).2 := by
  have hv : 0 ≤ (valN R).2 := (vF_max R _).1
  unfold checkValR
  rw [if_neg (not_not_intro (checkRd_ok.2 hR))]
  by_cases hb : i < 0 ∨ k ≤ i ∨ j ≤ k ∨ (R.length : Int) ≤ j
  · rw [if_pos hb]; exact ⟨.inr rfl, by show (-1000 : Int) ≤ 0; omega, by show (0 : Int) ≤ 1000; omega, hv⟩
  · rw [if_neg hb]
    have hm := (vF_max R (allV R.length)).2.1 ⟨i.toNat, k.toNat, j.toNat⟩ (mem_allV (by simp only; omega) (by simp only; omega) (by simp only; omega))
    have v1 := hR.at' (i := i.toNat) (by omega)
    have v2 := hR.at' (i := k.toNat) (by omega)
    have v3 := hR.at' (i := j.toNat) (by omega)
    have e : vdep R ⟨i.toNat, k.toNat, j.toNat⟩ = dep R i.toNat k.toNat j.toNat := rfl
    rw [e] at hm
    refine ⟨.inl rfl, ?_, ?_, hm⟩ <;> simp only [dep] <;> omega
set_option maxHeartbeats 16000000 in
theorem BiteProved_spec (R : List Int) (p : Nat) (b : List Nat) (o t h : Nat) (hp : p < 256) (hb : (∀ x ∈ b, x < 65536) ∧ b.length ≤ maxLen) (ho : o < 256) (ht : t < 256) (hh : h < 256) :
    Fn Try.prog 7 [ints R, u8 p, u16s b, u8 o, u8 t, u8 h] (bool true) := by
  have hw := Works_spec
  by_cases hR : RdOk R
  case neg =>
    have hf := fine_no hR
    refine Fn.of_ex (cuts := []) tys hM Try.func7 rfl Try.call7 rfl ?_
    show exC Try.prog T [] _ false none 0 (entry 189 [ints R, u8 p, u16s b, u8 o, u8 t, u8 h]) (finQ T [ResultVar.tmp 12] _)
    conv => whnf
    repeat' first | ((first | refine Ob.a ?_ | refine Sp.tt ?_ | refine Sp.ff ?_ | refine Sp.yes ?_ | refine Sp.no ?_ | refine Sp.nyes ?_ | refine Sp.nno ?_);conv=>whnf) | (refine Sp.ne (fun hc => ?_) (fun hc => ?_) <;> (conv=>whnf)) | (refine Sp.dec (fun hc => ?_) (fun hc => ?_) <;> (conv=>whnf)) | (refine Sp.ndec (fun hc => ?_) (fun hc => ?_) <;> (conv=>whnf)) | (refine Sp.mk (fun hc => ?_) (fun hc => ?_) <;> (conv=>whnf)) | (apply Cl.go;(conv=>whnf); (first | refine Ob.call (hf) ?_ | refine Ob.call (hw) ?_);(conv=>whnf)) | (refine Fi.a ?_;conv=>whnf) | (refine Ob.b ?_;conv=>whnf)
    all_goals exact Lf
  have hf := fine_yes hR
  by_cases hbl : 20 < (b.length : Int)
  · refine Fn.of_ex (cuts := []) tys hM Try.func7 rfl Try.call7 rfl ?_
    show exC Try.prog T [] _ false none 0 (entry 189 [ints R, u8 p, u16s b, u8 o, u8 t, u8 h]) (finQ T [ResultVar.tmp 12] _)
    conv => whnf
    repeat' first | ((first | refine Ob.a ?_ | refine Sp.tt ?_ | refine Sp.ff ?_ | refine Sp.yes ?_ | refine Sp.no ?_ | refine Sp.nyes ?_ | refine Sp.nno ?_);conv=>whnf) | (refine Sp.ne (fun hc => ?_) (fun hc => ?_) <;> (conv=>whnf)) | (refine Sp.dec (fun hc => ?_) (fun hc => ?_) <;> (conv=>whnf)) | (refine Sp.ndec (fun hc => ?_) (fun hc => ?_) <;> (conv=>whnf)) | (refine Sp.mk (fun hc => ?_) (fun hc => ?_) <;> (conv=>whnf)) | (apply Cl.go;(conv=>whnf); (first | refine Ob.call (hf) ?_ | refine Ob.call (hw) ?_);(conv=>whnf)) | (refine Fi.a ?_;conv=>whnf) | (refine Ob.b ?_;conv=>whnf)
    all_goals first | (exfalso; omega) | exact Lf
  have h12 := hR.l12
  have h0 := hR.pos
  have hc := changes_spec hR
  have hpl : 0 ≤ (p : Int) % R.length ∧ (p : Int) % R.length < R.length := ⟨Int.emod_nonneg _ (by omega), Int.emod_lt_of_pos _ (by omega)⟩
  have hol : 0 ≤ (o : Int) % R.length ∧ (o : Int) % R.length < R.length := ⟨Int.emod_nonneg _ (by omega), Int.emod_lt_of_pos _ (by omega)⟩
  have htl : 0 ≤ (t : Int) % R.length ∧ (t : Int) % R.length < R.length := ⟨Int.emod_nonneg _ (by omega), Int.emod_lt_of_pos _ (by omega)⟩
  have hhl : 0 ≤ (h : Int) % R.length ∧ (h : Int) % R.length < R.length := ⟨Int.emod_nonneg _ (by omega), Int.emod_lt_of_pos _ (by omega)⟩
  have hcv := Curve_spec b R.length ((p : Int) % R.length).toNat hb.1 (by omega) (by omega) (by omega)
  rw [Int.toNat_of_nonneg hpl.1] at hcv
  have hok := cvL_ok (R := R) (b := b) (p := ((p : Int) % R.length).toNat) (by omega)
  generalize cvL b R.length ((p : Int) % R.length).toNat = c at *
  have a1 := CheckCurveP_spec R c (by omega) (by have := hok.len; omega)
  rw [checkCurve_ok hR hok] at a1
  simp only at a1
  have e1 := even_low hok.len.symm hok.un
  have e2 := near_low hok.len.symm hok.un
  rw [cost_to hok.len.symm] at e2
  have r1 := mostTo_rng hR hok.rng hok.len R.length (Nat.le_refl _)
  have r2 := costTo_rng hR hok.rng hok.len R.length (Nat.le_refl _)
  have a2 := CheckValleyP_spec R ((o : Int) % R.length) ((t : Int) % R.length) ((h : Int) % R.length) (by omega)
  have r3 := checkVal_rng hR ((o : Int) % R.length) ((t : Int) % R.length) ((h : Int) % R.length)
  generalize checkValR R ((o : Int) % R.length) ((t : Int) % R.length) ((h : Int) % R.length) = x2 at *
  have hev := even_val hR.pos
  have b2 := both_ge hR
  have b3 := both_le hR
  have hmx : 0 ≤ (valN R).2 ∧ (valN R).2 ≤ 1000 := vF_rng hR fun v hv => allV_lt hv
  have a3 := ValleyP_spec R (by omega)
  have hvr : valleyR R = if (valN R).2 = 0 then ((0 : Int), (0 : Int), (0 : Int), (5 : Int)) else (((valN R).1.a : Int), ((valN R).1.b : Int), ((valN R).1.c : Int), (0 : Int)) := if_neg (not_not_intro (checkRd_ok.2 hR))
  rw [hvr] at a3
  generalize mostTo R c R.length = am at *
  generalize costTo R c R.length = ac at *
  by_cases hz : (valN R).2 = 0
  · have hm0 : evenN R = 0 := by omega
    have hn0 : nearN R = 0 := by rw [hm0, Int.zero_mul] at b3; omega
    rw [if_pos hz] at a3
    simp only at a3
    rw [hm0, hn0] at hc
    rw [hz] at r3
    obtain ⟨x21, x22⟩ := x2
    simp only at a2 r3
    clear hvr hev b2 b3 hok
    rcases r3 with ⟨r3 | r3, r4⟩ <;> subst r3
    · refine Fn.of_ex (cuts := []) tys hM Try.func7 rfl Try.call7 rfl ?_
      show exC Try.prog T [] _ false none 0 (entry 189 [ints R, u8 p, u16s b, u8 o, u8 t, u8 h]) (finQ T [ResultVar.tmp 12] _)
      conv => whnf
      repeat' first | ((first | refine Ob.a ?_ | refine Sp.tt ?_ | refine Sp.ff ?_ | refine Sp.yes ?_ | refine Sp.no ?_ | refine Sp.nyes ?_ | refine Sp.nno ?_);conv=>whnf) | (refine Sp.ne (fun hc => ?_) (fun hc => ?_) <;> (conv=>whnf)) | (refine Sp.dec (fun hc => ?_) (fun hc => ?_) <;> (conv=>whnf)) | (refine Sp.ndec (fun hc => ?_) (fun hc => ?_) <;> (conv=>whnf)) | (refine Sp.mk (fun hc => ?_) (fun hc => ?_) <;> (conv=>whnf)) | (apply Cl.go;(conv=>whnf); (first | refine Ob.call (hf) ?_ | refine Ob.call (hc) ?_ | refine Ob.call (hcv) ?_ | refine Ob.call (a1) ?_ | refine Ob.call (a2) ?_ | refine Ob.call (a3) ?_ | refine Ob.call (hw) ?_);(conv=>whnf)) | (refine Fi.a ?_;conv=>whnf) | (refine Ob.b ?_;conv=>whnf)
      all_goals first | (exfalso; omega) | exact Lf
    · refine Fn.of_ex (cuts := []) tys hM Try.func7 rfl Try.call7 rfl ?_
      show exC Try.prog T [] _ false none 0 (entry 189 [ints R, u8 p, u16s b, u8 o, u8 t, u8 h]) (finQ T [ResultVar.tmp 12] _)
      conv => whnf
      repeat' first | ((first | refine Ob.a ?_ | refine Sp.tt ?_ | refine Sp.ff ?_ | refine Sp.yes ?_ | refine Sp.no ?_ | refine Sp.nyes ?_ | refine Sp.nno ?_);conv=>whnf) | (refine Sp.ne (fun hc => ?_) (fun hc => ?_) <;> (conv=>whnf)) | (refine Sp.dec (fun hc => ?_) (fun hc => ?_) <;> (conv=>whnf)) | (refine Sp.ndec (fun hc => ?_) (fun hc => ?_) <;> (conv=>whnf)) | (refine Sp.mk (fun hc => ?_) (fun hc => ?_) <;> (conv=>whnf)) | (apply Cl.go;(conv=>whnf); (first | refine Ob.call (hf) ?_ | refine Ob.call (hc) ?_ | refine Ob.call (hcv) ?_ | refine Ob.call (a1) ?_ | refine Ob.call (a2) ?_ | refine Ob.call (a3) ?_ | refine Ob.call (hw) ?_);(conv=>whnf)) | (refine Fi.a ?_;conv=>whnf) | (refine Ob.b ?_;conv=>whnf)
      all_goals first | (exfalso; omega) | exact Lf
  · rw [if_neg hz] at a3
    simp only at a3
    have hm := (vF_max R (allV R.length)).2.2
    have hm : (valN R).1 ∈ allV R.length ∧ vdep R (valN R).1 = (valN R).2 := by
      rcases hm with h | h
      · exact absurd h hz
      · exact h
    obtain ⟨hm1, hm2⟩ := hm
    obtain ⟨w1, w2, w3⟩ := allV_lt hm1
    have a4 := CheckValleyP_spec R ((valN R).1.a : Int) (valN R).1.b (valN R).1.c (by omega)
    have a5 := CheckValley_spec R ((valN R).1.a : Int) (valN R).1.b (valN R).1.c (by omega)
    have hval : checkValR R ((valN R).1.a : Int) (valN R).1.b (valN R).1.c = ((valN R).2, 0) := by
      unfold checkValR
      rw [if_neg (not_not_intro (checkRd_ok.2 hR)), if_neg (by omega), Int.toNat_natCast, Int.toNat_natCast, Int.toNat_natCast, ← hm2]; rfl
    rw [hval] at a4 a5
    simp only at a4 a5
    clear hvr b2 b3 hok hval hm1 hm2
    generalize valN R = fin at *
    generalize evenN R = m at *
    generalize nearN R = s at *
    obtain ⟨x21, x22⟩ := x2
    simp only at a2 r3
    rcases r3 with ⟨r3 | r3, r4⟩ <;> subst r3
    · refine Fn.of_ex (cuts := []) tys hM Try.func7 rfl Try.call7 rfl ?_
      show exC Try.prog T [] _ false none 0 (entry 189 [ints R, u8 p, u16s b, u8 o, u8 t, u8 h]) (finQ T [ResultVar.tmp 12] _)
      conv => whnf
      repeat' first | ((first | refine Ob.a ?_ | refine Sp.tt ?_ | refine Sp.ff ?_ | refine Sp.yes ?_ | refine Sp.no ?_ | refine Sp.nyes ?_ | refine Sp.nno ?_);conv=>whnf) | (refine Sp.ne (fun hc => ?_) (fun hc => ?_) <;> (conv=>whnf)) | (refine Sp.dec (fun hc => ?_) (fun hc => ?_) <;> (conv=>whnf)) | (refine Sp.ndec (fun hc => ?_) (fun hc => ?_) <;> (conv=>whnf)) | (refine Sp.mk (fun hc => ?_) (fun hc => ?_) <;> (conv=>whnf)) | (apply Cl.go;(conv=>whnf); (first | refine Ob.call (hf) ?_ | refine Ob.call (hc) ?_ | refine Ob.call (hcv) ?_ | refine Ob.call (a1) ?_ | refine Ob.call (a2) ?_ | refine Ob.call (a3) ?_ | refine Ob.call (a4) ?_ | refine Ob.call (a5) ?_ | refine Ob.call (hw) ?_);(conv=>whnf)) | (refine Fi.a ?_;conv=>whnf) | (refine Ob.b ?_;conv=>whnf)
      all_goals first | (exfalso; omega) | exact Lf
    · refine Fn.of_ex (cuts := []) tys hM Try.func7 rfl Try.call7 rfl ?_
      show exC Try.prog T [] _ false none 0 (entry 189 [ints R, u8 p, u16s b, u8 o, u8 t, u8 h]) (finQ T [ResultVar.tmp 12] _)
      conv => whnf
      repeat' first | ((first | refine Ob.a ?_ | refine Sp.tt ?_ | refine Sp.ff ?_ | refine Sp.yes ?_ | refine Sp.no ?_ | refine Sp.nyes ?_ | refine Sp.nno ?_);conv=>whnf) | (refine Sp.ne (fun hc => ?_) (fun hc => ?_) <;> (conv=>whnf)) | (refine Sp.dec (fun hc => ?_) (fun hc => ?_) <;> (conv=>whnf)) | (refine Sp.ndec (fun hc => ?_) (fun hc => ?_) <;> (conv=>whnf)) | (refine Sp.mk (fun hc => ?_) (fun hc => ?_) <;> (conv=>whnf)) | (apply Cl.go;(conv=>whnf); (first | refine Ob.call (hf) ?_ | refine Ob.call (hc) ?_ | refine Ob.call (hcv) ?_ | refine Ob.call (a1) ?_ | refine Ob.call (a2) ?_ | refine Ob.call (a3) ?_ | refine Ob.call (a4) ?_ | refine Ob.call (a5) ?_ | refine Ob.call (hw) ?_);(conv=>whnf)) | (refine Fi.a ?_;conv=>whnf) | (refine Ob.b ?_;conv=>whnf)
      all_goals first | (exfalso; omega) | exact Lf
end Go.Px.Try

namespace Go.Proofs.Ytofcdpkanjiefaa.biteProvedDone
open Go.ChangeShapes Go.WideShapes Go.ChangeAt Go.RowKit
open Go.Px
open Go.Px.Try (own laidOut)
set_option maxRecDepth 100000 in
theorem lifted (os : Os) (started : os.Started) (H : Type) (enc : TypeId × Value → H) :
    ReturnsInHanded {} Try.checked os 7 .any (Rows.biteProvedSpec.pre6 enc Try.prog Try.f7 Rows.biteProvedRow.domain false) (Rows.biteProvedSpec.post enc Try.prog Try.f7 false true false false) := by
  refine returnsInHanded_of_change (C := Try.checked) own started (by kernel_rfl) Try.func7
    (ChangeSpec.witness6 (enc := enc) (C := Try.checked) false ⟨#[], #[.slice none 0 0, .int .u8 0, .slice none 0 0, .int .u8 0, .int .u8 0, .int .u8 0], []⟩ 8 (by kernel_rfl) (by kernel_rfl) (by kernel_rfl) (by kernel_rfl)) ?_
  intro W base args ds gs before hval0 hW hcnd _
  have hval : ∀ (j : Nat) t v, Try.f7.params[j]? = some t → args[j]? = some v → Value.okWide Try.prog W .any base t v := hval0
  have hW' := hW
  obtain ⟨p, q, hA0, hV, rfl, hfz, hnd⟩ := hW
  have hA : DataW.TrodAll enc Try.prog W 0 (fun _ => true) true Try.f7.params.toList args.toList ds p := hA0
  rw [Try.params7] at hA hval
  obtain ⟨v0, vs0, d0, ds0, p0, q0, hargs, rfl, rfl, h0, r0⟩ := trodAll_cons hA
  obtain ⟨v1, vs1, d1, ds1, p1, q1, rfl, rfl, rfl, h1, r1⟩ := trodAll_cons r0
  obtain ⟨v2, vs2, d2, ds2, p2, q2, rfl, rfl, rfl, h2, r2⟩ := trodAll_cons r1
  obtain ⟨v3, vs3, d3, ds3, p3, q3, rfl, rfl, rfl, h3, r3⟩ := trodAll_cons r2
  obtain ⟨v4, vs4, d4, ds4, p4, q4, rfl, rfl, rfl, h4, r4⟩ := trodAll_cons r3
  obtain ⟨v5, vs5, d5, ds5, p5, q5, rfl, rfl, rfl, h5, r5⟩ := trodAll_cons r4
  obtain ⟨rfl, rfl, rfl⟩ := trodAll_nil r5
  obtain rfl : args = #[v0, v1, v2, v3, v4, v5] := by cases args; simp_all
  obtain ⟨rfl, rfl⟩ := trodVars_none hV
  have lt0 : ∀ x ∈ p0, x.block < W.heap.size := by have k := h0; obtain ⟨m, hm⟩ := k; exact DataW.trod_lt m _ _ _ hm
  obtain ⟨x0, g0, e0⟩ := Go.Px.Try.ints_arg h0 (hval 0 22 v0 rfl rfl)
  have lt1 : ∀ x ∈ p1, x.block < W.heap.size := by have k := h1; obtain ⟨m, hm⟩ := k; exact DataW.trod_lt m _ _ _ hm
  obtain ⟨x1, g1, e1⟩ := Go.Px.Try.u8_arg h1 (hval 1 5 v1 rfl rfl)
  have lt2 : ∀ x ∈ p2, x.block < W.heap.size := by have k := h2; obtain ⟨m, hm⟩ := k; exact DataW.trod_lt m _ _ _ hm
  obtain ⟨x2, g2, e2⟩ := Go.Px.Try.u16s_arg h2 (hval 2 49 v2 rfl rfl)
  have lt3 : ∀ x ∈ p3, x.block < W.heap.size := by have k := h3; obtain ⟨m, hm⟩ := k; exact DataW.trod_lt m _ _ _ hm
  obtain ⟨x3, g3, e3⟩ := Go.Px.Try.u8_arg h3 (hval 3 5 v3 rfl rfl)
  have lt4 : ∀ x ∈ p4, x.block < W.heap.size := by have k := h4; obtain ⟨m, hm⟩ := k; exact DataW.trod_lt m _ _ _ hm
  obtain ⟨x4, g4, e4⟩ := Go.Px.Try.u8_arg h4 (hval 4 5 v4 rfl rfl)
  have lt5 : ∀ x ∈ p5, x.block < W.heap.size := by have k := h5; obtain ⟨m, hm⟩ := k; exact DataW.trod_lt m _ _ _ hm
  obtain ⟨x5, g5, e5⟩ := Go.Px.Try.u8_arg h5 (hval 5 5 v5 rfl rfl)
  clear hA0 hval0
  refine ((Go.Px.Try.BiteProved_spec x0 x1 x2 x3 x4 x5 g1 g2 g3 g4 g5).2 (All W) W [v0, v1, v2, v3, v4, v5] (fun _ h => h) ⟨e0, e1, e2, e3, e4, e5, trivial⟩).mono fun e W' ⟨v, S', he, hr, _, _, bel⟩ => ?_
  obtain rfl : v = .bool true := hr
  subst he
  exact ⟨_, rfl, _, _, _, [], _, [], hW', trodAll_mk1 (shut_bool Try.underlying4 _), (trodAll_cons_mk (Below.trod laidOut (by kernel_rfl) (of_decide_eq_true (by kernel_rfl)) h0 bel lt0) (trodAll_cons_mk (Below.trod laidOut (by kernel_rfl) (of_decide_eq_true (by kernel_rfl)) h1 bel lt1) (trodAll_cons_mk (Below.trod laidOut (by kernel_rfl) (of_decide_eq_true (by kernel_rfl)) h2 bel lt2) (trodAll_cons_mk (Below.trod laidOut (by kernel_rfl) (of_decide_eq_true (by kernel_rfl)) h3 bel lt3) (trodAll_cons_mk (Below.trod laidOut (by kernel_rfl) (of_decide_eq_true (by kernel_rfl)) h4 bel lt4) (trodAll_cons_mk (Below.trod laidOut (by kernel_rfl) (of_decide_eq_true (by kernel_rfl)) h5 bel lt5) trodAll_mk0)))))), rfl, bel.frame _, fun h => by cases h⟩
theorem over : Rows.biteProvedRow.holds Try.pinned (OpenSpec.ofChange Rows.biteProvedSpec) :=
  OpenClaim.holds_of_wide 7 Try.f7 rfl rfl rfl rfl rfl rfl rfl ⟨rfl, rfl, rfl, rfl, rfl⟩ rfl rfl rfl rfl rfl (by kernel_rfl) Try.func7 (by kernel_rfl)
    (of_decide_eq_true (by kernel_rfl)) (by unfold Func.isWrapper; first | (rw [if_pos (by decide +kernel)]; kernel_rfl) | (rw [if_neg (by decide +kernel)]; exact ⟨rfl, rfl⟩))
    (fun os started H enc _ => lifted os started H enc)
theorem proved : Rows.BiteProvedSaid := over
#print axioms proved
end Go.Proofs.Ytofcdpkanjiefaa.biteProvedDone
