/- The statement BiteTurned: if the row is turned round both changes stay, and peaks are counted from the other end. Conditions: none. -/
import Derived.Test.YtofcdpkanjiefaaJ10
import Derived.Test.YtofcdpkanjiefaaJ7
import Derived.Test.YtofcdpkanjiefaaJ8
import Derived.Test.YtofcdpkanjiefaaRows
set_option linter.unusedVariables false
set_option linter.unusedSimpArgs false
/-! LwTurned -/
namespace Go.Px.Try
open Go Go.Proofs Go.Px
set_option maxRecDepth 100000
set_option maxHeartbeats 32000000 in
theorem BiteTurned_spec (R : List Int) (nu : Nat) (hnu : nu < 65536) :
    Fn Try.prog 10 [ints R, u16 nu] (bool true) := by
  have hw := Works_spec
  by_cases hR : RdOk R
  case neg =>
    have hf := fine_no hR
    refine Fn.of_ex (cuts := []) tys hM Try.func10 rfl Try.call10 rfl ?_
    show exC Try.prog T [] _ false none 0 (entry 135 [ints R, u16 nu]) (finQ T [ResultVar.tmp 4] _)
    conv => whnf
    repeat' first | ((first | refine Ob.a ?_ | refine Sp.tt ?_ | refine Sp.ff ?_ | refine Sp.yes ?_ | refine Sp.no ?_ | refine Sp.nyes ?_ | refine Sp.nno ?_);conv=>whnf) | (refine Sp.ne (fun hc => ?_) (fun hc => ?_) <;> (conv=>whnf)) | (refine Sp.dec (fun hc => ?_) (fun hc => ?_) <;> (conv=>whnf)) | (refine Sp.ndec (fun hc => ?_) (fun hc => ?_) <;> (conv=>whnf)) | (refine Sp.mk (fun hc => ?_) (fun hc => ?_) <;> (conv=>whnf)) | (apply Cl.go;(conv=>whnf); (first | refine Ob.call (hf) ?_ | refine Ob.call (hw) ?_);(conv=>whnf)) | (refine Fi.a ?_;conv=>whnf) | (refine Ob.b ?_;conv=>whnf)
    all_goals exact Lf
  have hf := fine_yes hR
  have h12 := hR.l12
  have h0 := hR.pos
  have hRr := rdOk_rev hR
  have c1 := changes_spec hR
  have c2 := changes_spec hRr
  rw [even_rev hR.pos, near_rev hR.pos] at c2
  have hm1 : 0 ≤ (nu : Int) % 1001 ∧ (nu : Int) % 1001 ≤ 1000 := by omega
  have p1 := PeaksP_spec R ((nu : Int) % 1001) (by omega)
  have p2 := PeaksP_spec R.reverse ((nu : Int) % 1001) (by rw [List.length_reverse]; omega)
  have pe1 : ∀ R : List Int, RdOk R → peaksR R ((nu : Int) % 1001) = (pkL R ((nu : Int) % 1001), 0) := fun R hR => by
    unfold peaksR; rw [if_neg (not_not_intro (checkRd_ok.2 hR)), if_neg (by omega)]
  rw [pe1 _ hR] at p1
  rw [pe1 _ hRr] at p2
  simp only at p1 p2
  have lp := pk_len R ((nu : Int) % 1001)
  have hrv := pk_rev R ((nu : Int) % 1001)
  have hpm : ∀ i : Int, 0 ≤ i → i < (pkL R ((nu : Int) % 1001)).length → 0 ≤ (pkL R ((nu : Int) % 1001)).getD i.toNat 0 ∧ (pkL R ((nu : Int) % 1001)).getD i.toNat 0 < R.length := fun i a b => (pk_mem.1 (getD_mem_int (by omega))).1
  have hv : ∀ i : Int, 0 ≤ i → i < R.length → 0 ≤ R.getD i.toNat 0 ∧ R.getD i.toNat 0 ≤ 1000 := fun i a b => hR.rng _ (getD_mem_int (by omega))
  have hev := even_le hR
  have hlr : R.reverse.length = R.length := List.length_reverse
  have hs : ∀ i : Int, 0 ≤ i → i < R.length → (R.drop (i - 1 + 1).toNat).reverse = (R.drop (i + 1).toNat).reverse ++ [R.getD i.toNat 0] := fun i i0 i1 => by
    rw [show (i - 1 + 1).toNat = i.toNat by omega, show (i + 1).toNat = i.toNat + 1 by omega]
    exact drop_rev (by omega)
  have hfin : R.reverse = (R.drop 0).reverse := by rw [List.drop_zero]
  generalize hP : pkL R ((nu : Int) % 1001) = P at *
  generalize hQ : pkL R.reverse ((nu : Int) % 1001) = Q at *
  have hql : Q.length = P.length := by rw [hrv, List.length_reverse, List.length_map]
  have hq : ∀ i : Int, 0 ≤ i → i < P.length → Q.getD ((Q.length : Int) - 1 - i).toNat 0 = (R.length : Int) - 1 - P.getD i.toNat 0 := fun i a b => by
    rw [hql, hrv, getD_rev (by rw [List.length_map]; omega), List.length_map, show P.length - 1 - ((P.length : Int) - 1 - i).toNat = i.toNat by omega, List.getD_eq_getElem?_getD, List.getElem?_map, List.getD_eq_getElem?_getD, List.getElem?_eq_getElem (by omega)]; rfl
  clear hrv hQ hP pe1
  generalize evenN R = m at *
  generalize nearN R = s at *
  generalize R.reverse = fin at *
  refine Fn.of_ex (cuts := []) tys hM Try.func10 rfl Try.call10 rfl ?_
  show exC Try.prog T [] _ false none 0 (entry 135 [ints R, u16 nu]) (finQ T [ResultVar.tmp 4] _)
  conv => whnf
  repeat' first | ((first | refine Ob.a ?_ | refine Sp.tt ?_ | refine Sp.ff ?_ | refine Sp.yes ?_ | refine Sp.no ?_ | refine Sp.nyes ?_ | refine Sp.nno ?_);conv=>whnf) | (refine Sp.ne (fun hc => ?_) (fun hc => ?_) <;> (conv=>whnf)) | (refine Sp.dec (fun hc => ?_) (fun hc => ?_) <;> (conv=>whnf)) | (refine Sp.ndec (fun hc => ?_) (fun hc => ?_) <;> (conv=>whnf)) | (refine Sp.mk (fun hc => ?_) (fun hc => ?_) <;> (conv=>whnf)) | (apply Cl.go;(conv=>whnf); (first | refine Ob.call (hf) ?_);(conv=>whnf)) | (refine Fi.a ?_;conv=>whnf) | (refine Ob.b ?_;conv=>whnf)
  all_goals first | (exfalso; omega) | skip
  refine Lp.snap [0, 1, 4, 5, 8, 9, 10, 11, 12, 13, 14, 15, 16, 17, 18, 40, 41, 42, 43, 44, 45, 46, 47, 48, 49, 50, 51, 52, 53, 54, 55, 56, 57, 58, 59, 60, 61, 62, 63, 64, 65, 66, 67, 68, 69, 70, 71, 72, 73, 74, 75, 76, 77, 78, 79, 80, 81, 82, 83, 84, 85, 86, 87, 88, 89, 90, 91, 92, 93, 95, 96, 97, 99, 100, 101, 102, 103, 104, 105, 106, 107, 108, 109, 110, 111, 112, 113, 114, 115, 116, 117, 118, 119, 120, 121, 122, 123, 124, 125, 126, 127, 128, 129, 130, 131, 132, 134] 100 ?_
  (conv=>whnf)
  refine LpB.go 135 ({q : Int × List Int // (-1 ≤ q.1 ∧ q.1 < R.length) ∧ q.2 = (R.drop (q.1 + 1).toNat).reverse}) 0 (fun ⟨(i, o), _⟩ nx => ([(7, .d (int i)), (6, .ms 8 1 0 o.length)], [(8, .row true 2 1 o.length (rowOf int 0 o))])) (fun p => (p.1.1 + 1).toNat) (⟨((R.length : Int) - 1, []), ⟨by simp only; omega, by simp only; omega⟩, by simp⟩) ?_ ?_
  · rintro ⟨⟨i, o⟩, ⟨i0, i1⟩, ho⟩
    simp only at i0 i1 ho
    have hl : o.length = R.length - (i + 1).toNat := by rw [ho, List.length_reverse, List.length_drop]
    have hs := hs i
    rw [← ho] at hs
    by_cases hi : 0 ≤ i
    · have hs := hs hi i1
      conv => whnf
      repeat' first | ((first | refine Ob.a ?_ | refine Sp.tt ?_ | refine Sp.ff ?_ | refine Sp.yes ?_ | refine Sp.no ?_ | refine Sp.nyes ?_ | refine Sp.nno ?_);conv=>whnf) | (refine Sp.ne (fun hc => ?_) (fun hc => ?_) <;> (conv=>whnf)) | (refine Sp.dec (fun hc => ?_) (fun hc => ?_) <;> (conv=>whnf)) | (refine Sp.ndec (fun hc => ?_) (fun hc => ?_) <;> (conv=>whnf)) | (refine Sp.mk (fun hc => ?_) (fun hc => ?_) <;> (conv=>whnf)) | (refine Fi.a ?_;conv=>whnf) | (refine Ob.b ?_;conv=>whnf)
      all_goals exact ⟨rfl, ⟨(i - 1, o ++ [R.getD i.toNat 0]), ⟨by simp only; omega, by simp only; omega⟩, hs.symm⟩, Lf, by simp only; omega⟩
    · have e : fin = o := by rw [ho, hfin, show (i + 1).toNat = 0 by omega]
      subst e
      clear hs hfin
      conv => whnf
      repeat' first | ((first | refine Ob.a ?_ | refine Sp.tt ?_ | refine Sp.ff ?_ | refine Sp.yes ?_ | refine Sp.no ?_ | refine Sp.nyes ?_ | refine Sp.nno ?_);conv=>whnf) | (refine Sp.ne (fun hc => ?_) (fun hc => ?_) <;> (conv=>whnf)) | (refine Sp.dec (fun hc => ?_) (fun hc => ?_) <;> (conv=>whnf)) | (refine Sp.ndec (fun hc => ?_) (fun hc => ?_) <;> (conv=>whnf)) | (refine Sp.mk (fun hc => ?_) (fun hc => ?_) <;> (conv=>whnf)) | (apply Cl.go;(conv=>whnf); (first | refine Ob.call (c1) ?_ | refine Ob.call (c2) ?_ | refine Ob.call (p1) ?_ | refine Ob.call (p2) ?_);(conv=>whnf)) | (refine Fi.a ?_;conv=>whnf) | (refine Ob.b ?_;conv=>whnf)
      all_goals first | (exfalso; omega) | skip
      clear ho hl c1 c2 p1 p2
      refine Lp.snap [0, 1, 14, 16, 134] 100 ?_
      (conv=>whnf)
      refine LpB.go 135 ({i : Int // 0 ≤ i ∧ i ≤ P.length}) 0 (fun ⟨i, _⟩ nx => ([(18, .d (int i))], [])) (fun p => (P.length - p.1).toNat) (⟨0, by omega, by omega⟩) ?_ ?_
      · rintro ⟨i, i0, i1⟩
        by_cases hi2 : i < P.length
        · have h1 := hpm i i0 hi2
          have h2 := hq i i0 hi2
          have hi3 : 0 ≤ (Q.length : Int) - 1 - i ∧ (Q.length : Int) - 1 - i < Q.length := by omega
          clear hpm hq
          conv => whnf
          repeat' first | ((first | refine Ob.a ?_ | refine Sp.tt ?_ | refine Sp.ff ?_ | refine Sp.yes ?_ | refine Sp.no ?_ | refine Sp.nyes ?_ | refine Sp.nno ?_);conv=>whnf) | (refine Sp.ne (fun hc => ?_) (fun hc => ?_) <;> (conv=>whnf)) | (refine Sp.dec (fun hc => ?_) (fun hc => ?_) <;> (conv=>whnf)) | (refine Sp.ndec (fun hc => ?_) (fun hc => ?_) <;> (conv=>whnf)) | (refine Sp.mk (fun hc => ?_) (fun hc => ?_) <;> (conv=>whnf)) | (refine Fi.a ?_;conv=>whnf) | (refine Ob.b ?_;conv=>whnf)
          all_goals first | (exfalso; omega) | exact ⟨rfl, ⟨i + 1, by omega, by omega⟩, Lf, by simp only; omega⟩
        · conv => whnf
          repeat' first | ((first | refine Ob.a ?_ | refine Sp.tt ?_ | refine Sp.ff ?_ | refine Sp.yes ?_ | refine Sp.no ?_ | refine Sp.nyes ?_ | refine Sp.nno ?_);conv=>whnf) | (refine Sp.ne (fun hc => ?_) (fun hc => ?_) <;> (conv=>whnf)) | (refine Sp.dec (fun hc => ?_) (fun hc => ?_) <;> (conv=>whnf)) | (refine Sp.ndec (fun hc => ?_) (fun hc => ?_) <;> (conv=>whnf)) | (refine Sp.mk (fun hc => ?_) (fun hc => ?_) <;> (conv=>whnf)) | (apply Cl.go;(conv=>whnf); (first | refine Ob.call (hw) ?_);(conv=>whnf)) | (refine Fi.a ?_;conv=>whnf) | (refine Ob.b ?_;conv=>whnf)
          all_goals first | (exfalso; omega) | exact Lf
      · exact Lf
  · exact Lf
end Go.Px.Try

namespace Go.Proofs.Ytofcdpkanjiefaa.biteTurnedDone
open Go.ChangeShapes Go.WideShapes Go.ChangeAt Go.RowKit
open Go.Px
open Go.Px.Try (own laidOut)
set_option maxRecDepth 100000 in
theorem lifted (os : Os) (started : os.Started) (H : Type) (enc : TypeId × Value → H) :
    ReturnsInHanded {} Try.checked os 10 .any (Rows.biteTurnedSpec.pre6 enc Try.prog Try.f10 Rows.biteTurnedRow.domain false) (Rows.biteTurnedSpec.post enc Try.prog Try.f10 false true false false) := by
  refine returnsInHanded_of_change (C := Try.checked) own started (by kernel_rfl) Try.func10
    (ChangeSpec.witness6 (enc := enc) (C := Try.checked) false ⟨#[], #[.slice none 0 0, .int .u16 0], []⟩ 8 (by kernel_rfl) (by kernel_rfl) (by kernel_rfl) (by kernel_rfl)) ?_
  intro W base args ds gs before hval0 hW hcnd _
  have hval : ∀ (j : Nat) t v, Try.f10.params[j]? = some t → args[j]? = some v → Value.okWide Try.prog W .any base t v := hval0
  have hW' := hW
  obtain ⟨p, q, hA0, hV, rfl, hfz, hnd⟩ := hW
  have hA : DataW.TrodAll enc Try.prog W 0 (fun _ => true) true Try.f10.params.toList args.toList ds p := hA0
  rw [Try.params10] at hA hval
  obtain ⟨v0, vs0, d0, ds0, p0, q0, hargs, rfl, rfl, h0, r0⟩ := trodAll_cons hA
  obtain ⟨v1, vs1, d1, ds1, p1, q1, rfl, rfl, rfl, h1, r1⟩ := trodAll_cons r0
  obtain ⟨rfl, rfl, rfl⟩ := trodAll_nil r1
  obtain rfl : args = #[v0, v1] := by cases args; simp_all
  obtain ⟨rfl, rfl⟩ := trodVars_none hV
  have lt0 : ∀ x ∈ p0, x.block < W.heap.size := by have k := h0; obtain ⟨m, hm⟩ := k; exact DataW.trod_lt m _ _ _ hm
  obtain ⟨x0, g0, e0⟩ := Go.Px.Try.ints_arg h0 (hval 0 22 v0 rfl rfl)
  have lt1 : ∀ x ∈ p1, x.block < W.heap.size := by have k := h1; obtain ⟨m, hm⟩ := k; exact DataW.trod_lt m _ _ _ hm
  obtain ⟨x1, g1, e1⟩ := Go.Px.Try.u16_arg h1 (hval 1 54 v1 rfl rfl)
  clear hA0 hval0
  refine ((Go.Px.Try.BiteTurned_spec x0 x1 g1).2 (All W) W [v0, v1] (fun _ h => h) ⟨e0, e1, trivial⟩).mono fun e W' ⟨v, S', he, hr, _, _, bel⟩ => ?_
  obtain rfl : v = .bool true := hr
  subst he
  exact ⟨_, rfl, _, _, _, [], _, [], hW', trodAll_mk1 (shut_bool Try.underlying4 _), (trodAll_cons_mk (Below.trod laidOut (by kernel_rfl) (of_decide_eq_true (by kernel_rfl)) h0 bel lt0) (trodAll_cons_mk (Below.trod laidOut (by kernel_rfl) (of_decide_eq_true (by kernel_rfl)) h1 bel lt1) trodAll_mk0)), rfl, bel.frame _, fun h => by cases h⟩
theorem over : Rows.biteTurnedRow.holds Try.pinned (OpenSpec.ofChange Rows.biteTurnedSpec) :=
  OpenClaim.holds_of_wide 10 Try.f10 rfl rfl rfl rfl rfl rfl rfl ⟨rfl, rfl, rfl, rfl, rfl⟩ rfl rfl rfl rfl rfl (by kernel_rfl) Try.func10 (by kernel_rfl)
    (of_decide_eq_true (by kernel_rfl)) (by unfold Func.isWrapper; first | (rw [if_pos (by decide +kernel)]; kernel_rfl) | (rw [if_neg (by decide +kernel)]; exact ⟨rfl, rfl⟩))
    (fun os started H enc _ => lifted os started H enc)
theorem proved : Rows.BiteTurnedSaid := over
#print axioms proved
end Go.Proofs.Ytofcdpkanjiefaa.biteTurnedDone
