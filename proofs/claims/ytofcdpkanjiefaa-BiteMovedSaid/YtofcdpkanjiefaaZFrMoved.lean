/- The statement BiteMoved: if all readings are as much greater both changes stay; if they are as many times as great the near change is so, and the deepest valleys stay. Conditions: none. -/
import Derived.Test.YtofcdpkanjiefaaJ10
import Derived.Test.YtofcdpkanjiefaaJ7
import Derived.Test.YtofcdpkanjiefaaRows
set_option linter.unusedVariables false
set_option linter.unusedSimpArgs false
/-! LwMoved -/
namespace Go.Px.Try
open Go Go.Proofs Go.Px
set_option maxRecDepth 100000
theorem take_map {f : Int → Int} {R : List Int} {k : Nat} (h : k < R.length) : (R.take (k + 1)).map f = (R.take k).map f ++ [f (R.getD k 0)] := by
  rw [List.take_add_one, List.getElem?_eq_getElem h, List.map_append, List.getD_eq_getElem?_getD, List.getElem?_eq_getElem h]; rfl
set_option maxHeartbeats 32000000 in
theorem BiteMoved_spec (R : List Int) (mo ti : Nat) (hmo : mo < 65536) (hti : ti < 256) :
    Fn Try.prog 11 [ints R, u16 mo, u8 ti] (bool true) := by
  have hw := Works_spec
  by_cases hR : RdOk R
  case neg =>
    have hf := fine_no hR
    refine Fn.of_ex (cuts := []) tys hM Try.func11 rfl Try.call11 rfl ?_
    show exC Try.prog T [] _ false none 0 (entry 143 [ints R, u16 mo, u8 ti]) (finQ T [ResultVar.tmp 6] _)
    conv => whnf
    repeat' first | ((first | refine Ob.a ?_ | refine Sp.tt ?_ | refine Sp.ff ?_ | refine Sp.yes ?_ | refine Sp.no ?_ | refine Sp.nyes ?_ | refine Sp.nno ?_);conv=>whnf) | (refine Sp.ne (fun hc => ?_) (fun hc => ?_) <;> (conv=>whnf)) | (refine Sp.dec (fun hc => ?_) (fun hc => ?_) <;> (conv=>whnf)) | (refine Sp.ndec (fun hc => ?_) (fun hc => ?_) <;> (conv=>whnf)) | (refine Sp.mk (fun hc => ?_) (fun hc => ?_) <;> (conv=>whnf)) | (apply Cl.go;(conv=>whnf); (first | refine Ob.call (hf) ?_ | refine Ob.call (hw) ?_);(conv=>whnf)) | (refine Fi.a ?_;conv=>whnf) | (refine Ob.b ?_;conv=>whnf)
    all_goals exact Lf
  have hf := fine_yes hR
  have h12 := hR.l12
  have h0 := hR.pos
  have c1 := changes_spec hR
  have v1 := ValleyP_spec R (by omega)
  have ht : 0 < (1 : Int) + (ti : Int) % 4 := by omega
  have ht4 : (1 : Int) + (ti : Int) % 4 ≤ 4 := by omega
  have cx : RdOk (R.map (· + (mo : Int))) → Fn Try.prog 41 [ints (R.map (· + (mo : Int)))] (tpl [int (evenN R), int (nearN R), bool true]) := fun h => by
    have := changes_spec h
    rwa [even_add, near_add h0] at this
  have cy : RdOk (R.map ((1 + (ti : Int) % 4) * ·)) → Fn Try.prog 41 [ints (R.map ((1 + (ti : Int) % 4) * ·))] (tpl [int (evenN (R.map ((1 + (ti : Int) % 4) * ·))), int ((1 + (ti : Int) % 4) * nearN R), bool true]) := fun h => by
    have := changes_spec h
    rwa [near_mul h0 ht] at this
  have vy : RdOk (R.map ((1 + (ti : Int) % 4) * ·)) → valleyR (R.map ((1 + (ti : Int) % 4) * ·)) = valleyR R := fun h => by
    obtain ⟨e1, e2⟩ := val_mul (R := R) ht
    unfold valleyR
    rw [if_neg (not_not_intro (checkRd_ok.2 hR)), if_neg (not_not_intro (checkRd_ok.2 h)), e1, e2]
    by_cases hz : (valN R).2 = 0
    · rw [if_pos hz, if_pos (by rw [hz, Int.mul_zero])]
    · rw [if_neg hz, if_neg fun h => by rcases Int.mul_eq_zero.1 h with h | h <;> omega]
  have v2 := ValleyP_spec (R.map ((1 + (ti : Int) % 4) * ·)) (by rw [List.length_map]; omega)
  have hv : ∀ i : Int, 0 ≤ i → i < R.length → 0 ≤ R.getD i.toNat 0 ∧ R.getD i.toNat 0 ≤ 1000 := fun i a b => hR.rng _ (getD_mem_int (by omega))
  have hmv : ∀ i : Int, 0 ≤ i → i < R.length → 0 ≤ (1 + (ti : Int) % 4) * R.getD i.toNat 0 ∧ (1 + (ti : Int) % 4) * R.getD i.toNat 0 ≤ 4000 := fun i a b => by
    have := hv i a b
    have h1 := Int.mul_nonneg (Int.le_of_lt ht) this.1
    have h2 := Int.mul_le_mul ht4 this.2 this.1 (by omega : (0 : Int) ≤ 4)
    omega
  have hev := even_le hR
  have hnr := both_le hR
  have hnm : 0 ≤ (1 + (ti : Int) % 4) * nearN R ∧ (1 + (ti : Int) % 4) * nearN R ≤ 100000 := by
    have h3 := both_ge hR
    have h4 : evenN R * (R.length : Int) ≤ 1000 * 12 := Int.mul_le_mul hev.2 (by omega) (by omega) (by omega)
    have h1 := Int.mul_nonneg (Int.le_of_lt ht) (show 0 ≤ nearN R by omega)
    have h2 := Int.mul_le_mul ht4 (show nearN R ≤ 12000 by omega) (by omega) (by omega : (0 : Int) ≤ 4)
    omega
  have hsx : ∀ k, k < R.length → (R.take (k + 1)).map (· + (mo : Int)) = (R.take k).map (· + (mo : Int)) ++ [R.getD k 0 + (mo : Int)] := fun k h => take_map h
  have hsy : ∀ k, k < R.length → (R.take (k + 1)).map ((1 + (ti : Int) % 4) * ·) = (R.take k).map ((1 + (ti : Int) % 4) * ·) ++ [(1 + (ti : Int) % 4) * R.getD k 0] := fun k h => take_map h
  have hxf : R.map (· + (mo : Int)) = (R.take R.length).map (· + (mo : Int)) := by rw [List.take_length]
  have hyf : R.map ((1 + (ti : Int) % 4) * ·) = (R.take R.length).map ((1 + (ti : Int) % 4) * ·) := by rw [List.take_length]
  have hvr : ∃ a b c e : Int, valleyR R = (a, b, c, e) := ⟨_, _, _, _, rfl⟩
  obtain ⟨va, vb, vc, ve, hvr⟩ := hvr
  rw [hvr] at vy v1
  simp only at v1
  have v3 : RdOk (R.map ((1 + (ti : Int) % 4) * ·)) → Fn Try.prog 28 [ints (R.map ((1 + (ti : Int) % 4) * ·))] (tpl [int va, int vb, int vc, int ve]) := fun h => by
    rw [vy h] at v2; exact v2
  clear v2 vy hvr
  generalize R.map (· + (mo : Int)) = fx at *
  generalize R.map ((1 + (ti : Int) % 4) * ·) = fy at *
  generalize evenN fy = my at *
  generalize evenN R = m at *
  generalize nearN R = s at *
  refine Fn.of_ex (cuts := []) tys hM Try.func11 rfl Try.call11 rfl ?_
  show exC Try.prog T [] _ false none 0 (entry 143 [ints R, u16 mo, u8 ti]) (finQ T [ResultVar.tmp 6] _)
  conv => whnf
  repeat' first | ((first | refine Ob.a ?_ | refine Sp.tt ?_ | refine Sp.ff ?_ | refine Sp.yes ?_ | refine Sp.no ?_ | refine Sp.nyes ?_ | refine Sp.nno ?_);conv=>whnf) | (refine Sp.ne (fun hc => ?_) (fun hc => ?_) <;> (conv=>whnf)) | (refine Sp.dec (fun hc => ?_) (fun hc => ?_) <;> (conv=>whnf)) | (refine Sp.ndec (fun hc => ?_) (fun hc => ?_) <;> (conv=>whnf)) | (refine Sp.mk (fun hc => ?_) (fun hc => ?_) <;> (conv=>whnf)) | (apply Cl.go;(conv=>whnf); (first | refine Ob.call (hf) ?_);(conv=>whnf)) | (refine Fi.a ?_;conv=>whnf) | (refine Ob.b ?_;conv=>whnf)
  all_goals first | (exfalso; omega) | skip
  refine Lp.snap [0, 1, 2, 6, 7, 11, 12, 13, 14, 15, 16, 17, 18, 19, 20, 22, 23, 24, 25, 26, 60, 61, 62, 63, 64, 65, 66, 67, 68, 69, 70, 71, 72, 73, 75, 77, 78, 79, 80, 81, 82, 83, 84, 85, 86, 87, 88, 89, 90, 91, 92, 93, 95, 96, 98, 99, 100, 101, 102, 103, 104, 105, 106, 107, 108, 109, 110, 111, 112, 113, 114, 115, 116, 117, 118, 119, 120, 121, 122, 123, 124, 125, 126, 127, 128, 129, 130, 131, 132, 133, 134, 135, 136, 137, 138, 139, 140, 141, 142] 100 ?_
  (conv=>whnf)
  refine LpB.go 143 ({q : Int × (List Int × List Int) // (0 ≤ q.1 ∧ q.1 ≤ R.length) ∧ q.2.1 = (R.take q.1.toNat).map (· + (mo : Int)) ∧ q.2.2 = (R.take q.1.toNat).map ((1 + (ti : Int) % 4) * ·)}) 0 (fun ⟨(i, o, u), _⟩ nx => ([(10, .d (int i)), (8, .ms 9 1 0 o.length), (9, .ms 10 1 0 u.length)], [(9, .row true 2 1 o.length (rowOf int 0 o)), (10, .row true 2 1 u.length (rowOf int 0 u))])) (fun p => (R.length - p.1.1).toNat) (⟨(0, [], []), ⟨by simp only; omega, by simp only; omega⟩, by simp, by simp⟩) ?_ ?_
  · rintro ⟨⟨i, o, u⟩, ⟨i0, i1⟩, ho, hu⟩
    simp only at i0 i1 ho hu
    have hl : o.length = i.toNat := by rw [ho, List.length_map, List.length_take]; omega
    have hl2 : u.length = i.toNat := by rw [hu, List.length_map, List.length_take]; omega
    by_cases hi : i < R.length
    · have h1 := hsx i.toNat (by omega)
      have h2 := hsy i.toNat (by omega)
      rw [← ho, show i.toNat + 1 = (i + 1).toNat by omega] at h1
      rw [← hu, show i.toNat + 1 = (i + 1).toNat by omega] at h2
      have hmv := hmv i i0 hi
      have hv := hv i i0 hi
      clear hsx hsy
      conv => whnf
      repeat' first | ((first | refine Ob.a ?_ | refine Sp.tt ?_ | refine Sp.ff ?_ | refine Sp.yes ?_ | refine Sp.no ?_ | refine Sp.nyes ?_ | refine Sp.nno ?_);conv=>whnf) | (refine Sp.ne (fun hc => ?_) (fun hc => ?_) <;> (conv=>whnf)) | (refine Sp.dec (fun hc => ?_) (fun hc => ?_) <;> (conv=>whnf)) | (refine Sp.ndec (fun hc => ?_) (fun hc => ?_) <;> (conv=>whnf)) | (refine Sp.mk (fun hc => ?_) (fun hc => ?_) <;> (conv=>whnf)) | (refine Fi.a ?_;conv=>whnf) | (refine Ob.b ?_;conv=>whnf)
      all_goals exact ⟨rfl, ⟨(i + 1, o ++ [R.getD i.toNat 0 + (mo : Int)], u ++ [(1 + (ti : Int) % 4) * R.getD i.toNat 0]), ⟨by simp only; omega, by simp only; omega⟩, h1.symm, h2.symm⟩, Lf, by simp only; omega⟩
    · have e : fx = o := by rw [ho, hxf, show i.toNat = R.length by omega]
      have e2 : fy = u := by rw [hu, hyf, show i.toNat = R.length by omega]
      subst e
      subst e2
      clear hsx hsy
      by_cases hx : RdOk fx
      · have g1 := fine_yes hx
        have cx := cx hx
        by_cases hy : RdOk fy
        · have g2 := fine_yes hy
          have cy := cy hy
          have v3 := v3 hy
          have hmy := even_le hy
          conv => whnf
          repeat' first | ((first | refine Ob.a ?_ | refine Sp.tt ?_ | refine Sp.ff ?_ | refine Sp.yes ?_ | refine Sp.no ?_ | refine Sp.nyes ?_ | refine Sp.nno ?_);conv=>whnf) | (refine Sp.ne (fun hc => ?_) (fun hc => ?_) <;> (conv=>whnf)) | (refine Sp.dec (fun hc => ?_) (fun hc => ?_) <;> (conv=>whnf)) | (refine Sp.ndec (fun hc => ?_) (fun hc => ?_) <;> (conv=>whnf)) | (refine Sp.mk (fun hc => ?_) (fun hc => ?_) <;> (conv=>whnf)) | (apply Cl.go;(conv=>whnf); (first | refine Ob.call (c1) ?_ | refine Ob.call (v1) ?_ | refine Ob.call (g1) ?_ | refine Ob.call (cx) ?_ | refine Ob.call (g2) ?_ | refine Ob.call (cy) ?_ | refine Ob.call (v3) ?_ | refine Ob.call (hw) ?_);(conv=>whnf)) | (refine Fi.a ?_;conv=>whnf) | (refine Ob.b ?_;conv=>whnf)
          all_goals first | (exfalso; omega) | exact Lf
        · have g2 := fine_no hy
          clear cy v3
          conv => whnf
          repeat' first | ((first | refine Ob.a ?_ | refine Sp.tt ?_ | refine Sp.ff ?_ | refine Sp.yes ?_ | refine Sp.no ?_ | refine Sp.nyes ?_ | refine Sp.nno ?_);conv=>whnf) | (refine Sp.ne (fun hc => ?_) (fun hc => ?_) <;> (conv=>whnf)) | (refine Sp.dec (fun hc => ?_) (fun hc => ?_) <;> (conv=>whnf)) | (refine Sp.ndec (fun hc => ?_) (fun hc => ?_) <;> (conv=>whnf)) | (refine Sp.mk (fun hc => ?_) (fun hc => ?_) <;> (conv=>whnf)) | (apply Cl.go;(conv=>whnf); (first | refine Ob.call (c1) ?_ | refine Ob.call (v1) ?_ | refine Ob.call (g1) ?_ | refine Ob.call (cx) ?_ | refine Ob.call (g2) ?_ | refine Ob.call (hw) ?_);(conv=>whnf)) | (refine Fi.a ?_;conv=>whnf) | (refine Ob.b ?_;conv=>whnf)
          all_goals first | (exfalso; omega) | exact Lf
      · have g1 := fine_no hx
        clear cx
        by_cases hy : RdOk fy
        · have g2 := fine_yes hy
          have cy := cy hy
          have v3 := v3 hy
          have hmy := even_le hy
          conv => whnf
          repeat' first | ((first | refine Ob.a ?_ | refine Sp.tt ?_ | refine Sp.ff ?_ | refine Sp.yes ?_ | refine Sp.no ?_ | refine Sp.nyes ?_ | refine Sp.nno ?_);conv=>whnf) | (refine Sp.ne (fun hc => ?_) (fun hc => ?_) <;> (conv=>whnf)) | (refine Sp.dec (fun hc => ?_) (fun hc => ?_) <;> (conv=>whnf)) | (refine Sp.ndec (fun hc => ?_) (fun hc => ?_) <;> (conv=>whnf)) | (refine Sp.mk (fun hc => ?_) (fun hc => ?_) <;> (conv=>whnf)) | (apply Cl.go;(conv=>whnf); (first | refine Ob.call (c1) ?_ | refine Ob.call (v1) ?_ | refine Ob.call (g1) ?_ | refine Ob.call (g2) ?_ | refine Ob.call (cy) ?_ | refine Ob.call (v3) ?_ | refine Ob.call (hw) ?_);(conv=>whnf)) | (refine Fi.a ?_;conv=>whnf) | (refine Ob.b ?_;conv=>whnf)
          all_goals first | (exfalso; omega) | exact Lf
        · have g2 := fine_no hy
          clear cy v3
          conv => whnf
          repeat' first | ((first | refine Ob.a ?_ | refine Sp.tt ?_ | refine Sp.ff ?_ | refine Sp.yes ?_ | refine Sp.no ?_ | refine Sp.nyes ?_ | refine Sp.nno ?_);conv=>whnf) | (refine Sp.ne (fun hc => ?_) (fun hc => ?_) <;> (conv=>whnf)) | (refine Sp.dec (fun hc => ?_) (fun hc => ?_) <;> (conv=>whnf)) | (refine Sp.ndec (fun hc => ?_) (fun hc => ?_) <;> (conv=>whnf)) | (refine Sp.mk (fun hc => ?_) (fun hc => ?_) <;> (conv=>whnf)) | (apply Cl.go;(conv=>whnf); (first | refine Ob.call (c1) ?_ | refine Ob.call (v1) ?_ | refine Ob.call (g1) ?_ | refine Ob.call (g2) ?_ | refine Ob.call (hw) ?_);(conv=>whnf)) | (refine Fi.a ?_;conv=>whnf) | (refine Ob.b ?_;conv=>whnf)
          all_goals first | (exfalso; omega) | exact Lf
  · exact Lf
end Go.Px.Try

namespace Go.Proofs.Ytofcdpkanjiefaa.biteMovedDone
open Go.ChangeShapes Go.WideShapes Go.ChangeAt Go.RowKit
open Go.Px
open Go.Px.Try (own laidOut)
set_option maxRecDepth 100000 in
theorem lifted (os : Os) (started : os.Started) (H : Type) (enc : TypeId × Value → H) :
    ReturnsInHanded {} Try.checked os 11 .any (Rows.biteMovedSpec.pre6 enc Try.prog Try.f11 Rows.biteMovedRow.domain false) (Rows.biteMovedSpec.post enc Try.prog Try.f11 false true false false) := by
  refine returnsInHanded_of_change (C := Try.checked) own started (by kernel_rfl) Try.func11
    (ChangeSpec.witness6 (enc := enc) (C := Try.checked) false ⟨#[], #[.slice none 0 0, .int .u16 0, .int .u8 0], []⟩ 8 (by kernel_rfl) (by kernel_rfl) (by kernel_rfl) (by kernel_rfl)) ?_
  intro W base args ds gs before hval0 hW hcnd _
  have hval : ∀ (j : Nat) t v, Try.f11.params[j]? = some t → args[j]? = some v → Value.okWide Try.prog W .any base t v := hval0
  have hW' := hW
  obtain ⟨p, q, hA0, hV, rfl, hfz, hnd⟩ := hW
  have hA : DataW.TrodAll enc Try.prog W 0 (fun _ => true) true Try.f11.params.toList args.toList ds p := hA0
  rw [Try.params11] at hA hval
  obtain ⟨v0, vs0, d0, ds0, p0, q0, hargs, rfl, rfl, h0, r0⟩ := trodAll_cons hA
  obtain ⟨v1, vs1, d1, ds1, p1, q1, rfl, rfl, rfl, h1, r1⟩ := trodAll_cons r0
  obtain ⟨v2, vs2, d2, ds2, p2, q2, rfl, rfl, rfl, h2, r2⟩ := trodAll_cons r1
  obtain ⟨rfl, rfl, rfl⟩ := trodAll_nil r2
  obtain rfl : args = #[v0, v1, v2] := by cases args; simp_all
  obtain ⟨rfl, rfl⟩ := trodVars_none hV
  have lt0 : ∀ x ∈ p0, x.block < W.heap.size := by have k := h0; obtain ⟨m, hm⟩ := k; exact DataW.trod_lt m _ _ _ hm
  obtain ⟨x0, g0, e0⟩ := Go.Px.Try.ints_arg h0 (hval 0 22 v0 rfl rfl)
  have lt1 : ∀ x ∈ p1, x.block < W.heap.size := by have k := h1; obtain ⟨m, hm⟩ := k; exact DataW.trod_lt m _ _ _ hm
  obtain ⟨x1, g1, e1⟩ := Go.Px.Try.u16_arg h1 (hval 1 54 v1 rfl rfl)
  have lt2 : ∀ x ∈ p2, x.block < W.heap.size := by have k := h2; obtain ⟨m, hm⟩ := k; exact DataW.trod_lt m _ _ _ hm
  obtain ⟨x2, g2, e2⟩ := Go.Px.Try.u8_arg h2 (hval 2 5 v2 rfl rfl)
  clear hA0 hval0
  refine ((Go.Px.Try.BiteMoved_spec x0 x1 x2 g1 g2).2 (All W) W [v0, v1, v2] (fun _ h => h) ⟨e0, e1, e2, trivial⟩).mono fun e W' ⟨v, S', he, hr, _, _, bel⟩ => ?_
  obtain rfl : v = .bool true := hr
  subst he
  exact ⟨_, rfl, _, _, _, [], _, [], hW', trodAll_mk1 (shut_bool Try.underlying4 _), (trodAll_cons_mk (Below.trod laidOut (by kernel_rfl) (of_decide_eq_true (by kernel_rfl)) h0 bel lt0) (trodAll_cons_mk (Below.trod laidOut (by kernel_rfl) (of_decide_eq_true (by kernel_rfl)) h1 bel lt1) (trodAll_cons_mk (Below.trod laidOut (by kernel_rfl) (of_decide_eq_true (by kernel_rfl)) h2 bel lt2) trodAll_mk0))), rfl, bel.frame _, fun h => by cases h⟩
theorem over : Rows.biteMovedRow.holds Try.pinned (OpenSpec.ofChange Rows.biteMovedSpec) :=
  OpenClaim.holds_of_wide 11 Try.f11 rfl rfl rfl rfl rfl rfl rfl ⟨rfl, rfl, rfl, rfl, rfl⟩ rfl rfl rfl rfl rfl (by kernel_rfl) Try.func11 (by kernel_rfl)
    (of_decide_eq_true (by kernel_rfl)) (by unfold Func.isWrapper; first | (rw [if_pos (by decide +kernel)]; kernel_rfl) | (rw [if_neg (by decide +kernel)]; exact ⟨rfl, rfl⟩))
    (fun os started H enc _ => lifted os started H enc)
theorem proved : Rows.BiteMovedSaid := over
#print axioms proved
end Go.Proofs.Ytofcdpkanjiefaa.biteMovedDone
