/- The statement BiteMore: with one more reading at an end no change is less; with another reading in the place of one the even change is not greater by more than half of their difference, rounded up, and the near one not by more than it. Conditions: none. -/
import Derived.Test.YtofcdpkanjiefaaJ10
import Derived.Test.YtofcdpkanjiefaaJ7
import Derived.Test.YtofcdpkanjiefaaRows
set_option linter.unusedVariables false
set_option linter.unusedSimpArgs false
/-! LwMore -/
namespace Go.Px.Try
open Go Go.Proofs Go.Px
set_option maxRecDepth 100000
theorem longs_nil : Fn Try.prog 46 [.v (.slice none 0 0)] (.v (.slice none 0 0)) := by
  refine Fn.of_ex (cuts := []) tys hM Try.func46 rfl Try.call46 rfl ?_
  show exC Try.prog T [] _ false none 0 (entry 4 [.v (.slice none 0 0)]) (finQ T [ResultVar.tmp 2] _)
  conv => whnf
  repeat' first | ((first | refine Ob.a ?_ | refine Sp.tt ?_ | refine Sp.ff ?_ | refine Sp.yes ?_ | refine Sp.no ?_ | refine Sp.nyes ?_ | refine Sp.nno ?_);conv=>whnf) | (refine Sp.ne (fun hc => ?_) (fun hc => ?_) <;> (conv=>whnf)) | (refine Sp.dec (fun hc => ?_) (fun hc => ?_) <;> (conv=>whnf)) | (refine Sp.ndec (fun hc => ?_) (fun hc => ?_) <;> (conv=>whnf)) | (refine Sp.mk (fun hc => ?_) (fun hc => ?_) <;> (conv=>whnf)) | (refine Fi.a ?_;conv=>whnf) | (refine Ob.b ?_;conv=>whnf)
  all_goals first | exact Lf
theorem longs_one (v : Int) : FnI Try.prog 46 2 1 1 (rowOf int 0 [v]) (rowOf int 0 [v]) [] (.ms 0 1 0 1) := by
  refine FnI.of_ex (cuts := []) tys hM Try.func46 rfl Try.call46 rfl ?_
  show exC Try.prog T [] _ false none 1 (entryI 4 _ _ _ _ []) (finG T 1 [ResultVar.tmp 2] _ _)
  conv => whnf
  repeat' first | ((first | refine Ob.a ?_ | refine Sp.tt ?_ | refine Sp.ff ?_ | refine Sp.yes ?_ | refine Sp.no ?_ | refine Sp.nyes ?_ | refine Sp.nno ?_);conv=>whnf) | (refine Sp.ne (fun hc => ?_) (fun hc => ?_) <;> (conv=>whnf)) | (refine Sp.dec (fun hc => ?_) (fun hc => ?_) <;> (conv=>whnf)) | (refine Sp.ndec (fun hc => ?_) (fun hc => ?_) <;> (conv=>whnf)) | (refine Sp.mk (fun hc => ?_) (fun hc => ?_) <;> (conv=>whnf)) | (refine Fi.a ?_;conv=>whnf) | (refine Ob.b ?_;conv=>whnf)
  all_goals first | exact Lf
theorem rdOk_set {R : List Int} (h : RdOk R) {v : Int} (hv : 0 ≤ v ∧ v ≤ 1000) (i : Nat) : RdOk (R.set i v) :=
  ⟨by rw [List.length_set]; exact h.l1, by rw [List.length_set]; exact h.l12, fun x hx => by
    rcases List.mem_or_eq_of_mem_set hx with hx | hx
    · exact h.rng x hx
    · subst hx; exact hv⟩
theorem rdOk_app {R : List Int} (h : RdOk R) {v : Int} (hv : 0 ≤ v ∧ v ≤ 1000) (hl : R.length < 12) : RdOk (R ++ [v]) :=
  ⟨by rw [List.length_append, List.length_singleton]; omega, by rw [List.length_append, List.length_singleton]; omega, fun x hx => by
    rcases List.mem_append.1 hx with hx | hx
    · exact h.rng x hx
    · rw [List.mem_singleton.1 hx]; exact hv⟩
theorem rdOk_cons {R : List Int} (h : RdOk R) {v : Int} (hv : 0 ≤ v ∧ v ≤ 1000) (hl : R.length < 12) : RdOk (v :: R) :=
  ⟨by rw [List.length_cons]; omega, by rw [List.length_cons]; omega, fun x hx => by
    rcases List.mem_cons.1 hx with hx | hx
    · subst hx; exact hv
    · exact h.rng x hx⟩
theorem dimp_row {t : Bool} {n : Nat} {F : Nat → DV} {l : List Int} (hn : n = l.length) (h : ∀ j, j < n → F j = int (l.getD j 0)) : DImp (.sl t 1 n F) (ints l) :=
  ImpS.expl hn (allN_iff.2 fun j hj => by rw [h j hj]; exact DImp.refl _)
set_option maxHeartbeats 32000000 in
theorem BiteMore_spec (R : List Int) (mo : Nat) (fi : Bool) (wh : Nat) (hmo : mo < 65536) (hwh : wh < 256) :
    Fn Try.prog 12 [ints R, u16 mo, bool fi, u8 wh] (bool true) := by
  have hw := Works_spec
  by_cases hR : RdOk R
  case neg =>
    have hf := fine_no hR
    refine Fn.of_ex (cuts := []) tys hM Try.func12 rfl Try.call12 rfl ?_
    show exC Try.prog T [] _ false none 0 (entry 126 [ints R, u16 mo, bool fi, u8 wh]) (finQ T [ResultVar.tmp 8] _)
    conv => whnf
    repeat' first | ((first | refine Ob.a ?_ | refine Sp.tt ?_ | refine Sp.ff ?_ | refine Sp.yes ?_ | refine Sp.no ?_ | refine Sp.nyes ?_ | refine Sp.nno ?_);conv=>whnf) | (refine Sp.ne (fun hc => ?_) (fun hc => ?_) <;> (conv=>whnf)) | (refine Sp.dec (fun hc => ?_) (fun hc => ?_) <;> (conv=>whnf)) | (refine Sp.ndec (fun hc => ?_) (fun hc => ?_) <;> (conv=>whnf)) | (refine Sp.mk (fun hc => ?_) (fun hc => ?_) <;> (conv=>whnf)) | (apply Cl.go;(conv=>whnf); (first | refine Ob.call (hf) ?_ | refine Ob.call (hw) ?_);(conv=>whnf)) | (refine Fi.a ?_;conv=>whnf) | (refine Ob.b ?_;conv=>whnf)
    all_goals exact Lf
  have hf := fine_yes hR
  have h12 := hR.l12
  have h0 := hR.pos
  by_cases hl : 12 ≤ (R.length : Int)
  · refine Fn.of_ex (cuts := []) tys hM Try.func12 rfl Try.call12 rfl ?_
    show exC Try.prog T [] _ false none 0 (entry 126 [ints R, u16 mo, bool fi, u8 wh]) (finQ T [ResultVar.tmp 8] _)
    conv => whnf
    repeat' first | ((first | refine Ob.a ?_ | refine Sp.tt ?_ | refine Sp.ff ?_ | refine Sp.yes ?_ | refine Sp.no ?_ | refine Sp.nyes ?_ | refine Sp.nno ?_);conv=>whnf) | (refine Sp.ne (fun hc => ?_) (fun hc => ?_) <;> (conv=>whnf)) | (refine Sp.dec (fun hc => ?_) (fun hc => ?_) <;> (conv=>whnf)) | (refine Sp.ndec (fun hc => ?_) (fun hc => ?_) <;> (conv=>whnf)) | (refine Sp.mk (fun hc => ?_) (fun hc => ?_) <;> (conv=>whnf)) | (apply Cl.go;(conv=>whnf); (first | refine Ob.call (hf) ?_ | refine Ob.call (hw) ?_);(conv=>whnf)) | (refine Fi.a ?_;conv=>whnf) | (refine Ob.b ?_;conv=>whnf)
    all_goals first | (exfalso; omega) | exact Lf
  have hv : 0 ≤ (mo : Int) % 1001 ∧ (mo : Int) % 1001 ≤ 1000 := by omega
  have hi : 0 ≤ (wh : Int) % R.length ∧ (wh : Int) % R.length < R.length := ⟨Int.emod_nonneg _ (by omega), Int.emod_lt_of_pos _ (by omega)⟩
  have hin : ((wh : Int) % R.length).toNat < R.length := by omega
  have k0 := longs_nil
  have k1 := longs_one ((mo : Int) % 1001)
  have o1 := rdOk_app hR hv (by omega)
  have o2 := rdOk_cons hR hv (by omega)
  have o3 := rdOk_set hR hv ((wh : Int) % R.length).toNat
  have c1 := changes_spec hR
  have c2 := changes_spec o1
  have c3 := changes_spec o2
  have c4 := changes_spec o3
  have e1 := even_le hR
  have e2 := even_le o1
  have e3 := even_le o2
  have e4 := even_le o3
  have m1 := more_even (v := (mo : Int) % 1001) h0 fun x hx => (o1.rng x hx).1
  have m2 := more_near (v := (mo : Int) % 1001) h0
  have m3 := first_even (v := (mo : Int) % 1001) h0 fun x hx => (o2.rng x hx).1
  have m4 := first_near (v := (mo : Int) % 1001) h0
  have m5 := set_even (v := (mo : Int) % 1001) hin
  have m6 := set_near (v := (mo : Int) % 1001) hin
  have n1 := both_ge hR
  have n2 := both_le hR
  have hnr : 0 ≤ nearN R ∧ nearN R ≤ 12000 := by
    have h4 : evenN R * (R.length : Int) ≤ 1000 * 12 := Int.mul_le_mul e1.2 (by omega) (by omega) (by omega)
    omega
  have hx : 0 ≤ R.getD ((wh : Int) % R.length).toNat 0 ∧ R.getD ((wh : Int) % R.length).toNat 0 ≤ 1000 := hR.rng _ (getD_mem_int hin)
  have hab : ab (rd R ((wh : Int) % R.length).toNat) ((mo : Int) % 1001) = max (R.getD ((wh : Int) % R.length).toNat 0 - (mo : Int) % 1001) ((mo : Int) % 1001 - R.getD ((wh : Int) % R.length).toNat 0) := rfl
  rw [hab] at m5 m6
  generalize evenN R = a at *
  generalize nearN R = b at *
  generalize evenN (R ++ [(mo : Int) % 1001]) = a1 at *
  generalize nearN (R ++ [(mo : Int) % 1001]) = b1 at *
  generalize evenN ((mo : Int) % 1001 :: R) = a2 at *
  generalize nearN ((mo : Int) % 1001 :: R) = b2 at *
  generalize evenN (R.set ((wh : Int) % R.length).toNat ((mo : Int) % 1001)) = a3 at *
  generalize nearN (R.set ((wh : Int) % R.length).toNat ((mo : Int) % 1001)) = b3 at *
  clear n2 hab
  cases fi
  · refine Fn.of_ex (cuts := []) tys hM Try.func12 rfl Try.call12 rfl ?_
    show exC Try.prog T [] _ false none 0 (entry 126 [ints R, u16 mo, bool false, u8 wh]) (finQ T [ResultVar.tmp 8] _)
    conv => whnf
    repeat' first | ((first | refine Ob.a ?_ | refine Sp.tt ?_ | refine Sp.ff ?_ | refine Sp.yes ?_ | refine Sp.no ?_ | refine Sp.nyes ?_ | refine Sp.nno ?_);conv=>whnf) | (refine Sp.ne (fun hc => ?_) (fun hc => ?_) <;> (conv=>whnf)) | (refine Sp.dec (fun hc => ?_) (fun hc => ?_) <;> (conv=>whnf)) | (refine Sp.ndec (fun hc => ?_) (fun hc => ?_) <;> (conv=>whnf)) | (refine Sp.mk (fun hc => ?_) (fun hc => ?_) <;> (conv=>whnf)) | (apply Cl.ip;(conv=>whnf); (first | (refine Ob.ipX (k1) ?_ ?_ ?_ ?_ ?_;(focus (first | exact rfl | omega)); (focus exact Lf); (focus exact Lf); (focus exact Lf)));(conv=>whnf)) | (apply Cl.go;(conv=>whnf); (first | refine Ob.call (hf) ?_ | refine Ob.call (k0) ?_ | refine Ob.call (c1) ?_);(conv=>whnf)) | (refine Fi.a ?_;conv=>whnf) | (refine Ob.b ?_;conv=>whnf)
    all_goals first | (exfalso; omega) | skip
    apply Cl.go
    (conv=>whnf)
    refine Ob.fn ?_ ?_ ?_ (c2)
    rotate_left
    all_goals try (repeat' first | (refine Edge.fast ?_) | ((conv=>whnf); first | exact True.intro | (refine And.intro ?_ ?_) | exact rfl | exact Nat.le_of_eq (Nat.zero_add _) | exact ImpS.refl _ | ((conv => arg 1; whnf); first | exact ImpS.refl _ | (refine ImpS.nil_eq ?_) | (refine ImpS.vnil_eq ?_) | (refine ImpS.row ?_) | (refine ImpS.rowN ?_ ?_) | (refine ImpS.sl_eq ?_) | (refine ImpS.expl rfl ?_)) | (refine row_snoc' ?_) | (apply row_upd) | exact cimp_none | exact cimp_same | exact List.not_mem_nil | exact DImp.refl _) | exact rfl | (refine And.intro ?_ ?_) | exact ImpS.refl _)
    all_goals try first | assumption | omega
    · refine dimp_row (by simp only [List.length_append, List.length_singleton]; omega) fun j hj => ?_
      show apd (0 + R.length) (apd 0 _ _) _ _ = _
      unfold apd
      by_cases hj2 : j < R.length
      · rw [if_pos (by omega), if_neg (by omega)]
        show int (R.getD (0 + j - 0) 0) = _
        rw [show 0 + j - 0 = j by omega, List.getD_eq_getElem?_getD, List.getD_eq_getElem?_getD, List.getElem?_append_left hj2]
      · rw [if_neg (by omega)]
        generalize hk : 0 + j - (0 + R.length) = k
        obtain rfl : k = 0 := by omega
        show int ((mo : Int) % 1001) = _
        rw [List.getD_eq_getElem?_getD, List.getElem?_append_right (by omega), show j - R.length = 0 by omega]; rfl
    · conv => whnf
      repeat' first | ((first | refine Ob.a ?_ | refine Sp.tt ?_ | refine Sp.ff ?_ | refine Sp.yes ?_ | refine Sp.no ?_ | refine Sp.nyes ?_ | refine Sp.nno ?_);conv=>whnf) | (refine Sp.ne (fun hc => ?_) (fun hc => ?_) <;> (conv=>whnf)) | (refine Sp.dec (fun hc => ?_) (fun hc => ?_) <;> (conv=>whnf)) | (refine Sp.ndec (fun hc => ?_) (fun hc => ?_) <;> (conv=>whnf)) | (refine Sp.mk (fun hc => ?_) (fun hc => ?_) <;> (conv=>whnf)) | (apply Cl.go;(conv=>whnf); (first | refine Ob.call (c2) ?_);(conv=>whnf)) | (refine Fi.a ?_;conv=>whnf) | (refine Ob.b ?_;conv=>whnf)
      apply Cl.go
      (conv=>whnf)
      refine Ob.fn ?_ ?_ ?_ (c4)
      rotate_left
      all_goals try (repeat' first | (refine Edge.fast ?_) | ((conv=>whnf); first | exact True.intro | (refine And.intro ?_ ?_) | exact rfl | exact Nat.le_of_eq (Nat.zero_add _) | exact ImpS.refl _ | ((conv => arg 1; whnf); first | exact ImpS.refl _ | (refine ImpS.nil_eq ?_) | (refine ImpS.vnil_eq ?_) | (refine ImpS.row ?_) | (refine ImpS.rowN ?_ ?_) | (refine ImpS.sl_eq ?_) | (refine ImpS.expl rfl ?_)) | (refine row_snoc' ?_) | (apply row_upd) | exact cimp_none | exact cimp_same | exact List.not_mem_nil | exact DImp.refl _) | exact rfl | (refine And.intro ?_ ?_) | exact ImpS.refl _)
      all_goals try first | assumption | omega
      · refine dimp_row (by rw [List.length_set]; omega) fun j hj => ?_
        show upE (0 + ((wh : Int) % R.length).toNat) _ (apd 0 _ _) _ = _
        unfold upE apd
        by_cases hj2 : j = ((wh : Int) % R.length).toNat
        · rw [if_pos (by omega)]
          show int ((mo : Int) % 1001) = _
          rw [hj2, List.getD_eq_getElem?_getD, List.getElem?_set_self hin]; rfl
        · rw [if_neg (by omega), if_neg (by omega)]
          show int (R.getD (0 + j - 0) 0) = _
          rw [show 0 + j - 0 = j by omega, List.getD_eq_getElem?_getD, List.getD_eq_getElem?_getD, List.getElem?_set_ne (by omega)]
      · conv => whnf
        repeat' first | ((first | refine Ob.a ?_ | refine Sp.tt ?_ | refine Sp.ff ?_ | refine Sp.yes ?_ | refine Sp.no ?_ | refine Sp.nyes ?_ | refine Sp.nno ?_);conv=>whnf) | (refine Sp.ne (fun hc => ?_) (fun hc => ?_) <;> (conv=>whnf)) | (refine Sp.dec (fun hc => ?_) (fun hc => ?_) <;> (conv=>whnf)) | (refine Sp.ndec (fun hc => ?_) (fun hc => ?_) <;> (conv=>whnf)) | (refine Sp.mk (fun hc => ?_) (fun hc => ?_) <;> (conv=>whnf)) | (apply Cl.go;(conv=>whnf); (first | refine Ob.call (hw) ?_);(conv=>whnf)) | (refine Fi.a ?_;conv=>whnf) | (refine Ob.b ?_;conv=>whnf)
        all_goals first | (exfalso; omega) | exact Lf
  · refine Fn.of_ex (cuts := []) tys hM Try.func12 rfl Try.call12 rfl ?_
    show exC Try.prog T [] _ false none 0 (entry 126 [ints R, u16 mo, bool true, u8 wh]) (finQ T [ResultVar.tmp 8] _)
    conv => whnf
    repeat' first | ((first | refine Ob.a ?_ | refine Sp.tt ?_ | refine Sp.ff ?_ | refine Sp.yes ?_ | refine Sp.no ?_ | refine Sp.nyes ?_ | refine Sp.nno ?_);conv=>whnf) | (refine Sp.ne (fun hc => ?_) (fun hc => ?_) <;> (conv=>whnf)) | (refine Sp.dec (fun hc => ?_) (fun hc => ?_) <;> (conv=>whnf)) | (refine Sp.ndec (fun hc => ?_) (fun hc => ?_) <;> (conv=>whnf)) | (refine Sp.mk (fun hc => ?_) (fun hc => ?_) <;> (conv=>whnf)) | (apply Cl.go;(conv=>whnf); (first | refine Ob.call (hf) ?_ | refine Ob.call (k0) ?_);(conv=>whnf)) | (refine Fi.a ?_;conv=>whnf) | (refine Ob.b ?_;conv=>whnf)
    all_goals first | (exfalso; omega) | skip
    apply Cl.ip
    conv => whnf
    refine Ob.ipX k1 rfl ?_ ?_ ?_ ?_
    · intro j hj
      obtain rfl : j = 0 := by omega
      exact CImp.refl (int ((mo : Int) % 1001))
    · exact Lf
    · exact Lf
    conv => whnf
    repeat' first | ((first | refine Ob.a ?_ | refine Sp.tt ?_ | refine Sp.ff ?_ | refine Sp.yes ?_ | refine Sp.no ?_ | refine Sp.nyes ?_ | refine Sp.nno ?_);conv=>whnf) | (refine Sp.ne (fun hc => ?_) (fun hc => ?_) <;> (conv=>whnf)) | (refine Sp.dec (fun hc => ?_) (fun hc => ?_) <;> (conv=>whnf)) | (refine Sp.ndec (fun hc => ?_) (fun hc => ?_) <;> (conv=>whnf)) | (refine Sp.mk (fun hc => ?_) (fun hc => ?_) <;> (conv=>whnf)) | (apply Cl.go;(conv=>whnf); (first | refine Ob.call (k0) ?_ | refine Ob.call (c1) ?_);(conv=>whnf)) | (refine Fi.a ?_;conv=>whnf) | (refine Ob.b ?_;conv=>whnf)
    all_goals first | (exfalso; omega) | skip
    apply Cl.go
    (conv=>whnf)
    refine Ob.fn ?_ ?_ ?_ (c3)
    rotate_left
    all_goals try (repeat' first | (refine Edge.fast ?_) | ((conv=>whnf); first | exact True.intro | (refine And.intro ?_ ?_) | exact rfl | exact Nat.le_of_eq (Nat.zero_add _) | exact ImpS.refl _ | ((conv => arg 1; whnf); first | exact ImpS.refl _ | (refine ImpS.nil_eq ?_) | (refine ImpS.vnil_eq ?_) | (refine ImpS.row ?_) | (refine ImpS.rowN ?_ ?_) | (refine ImpS.sl_eq ?_) | (refine ImpS.expl rfl ?_)) | (refine row_snoc' ?_) | (apply row_upd) | exact cimp_none | exact cimp_same | exact List.not_mem_nil | exact DImp.refl _) | exact rfl | (refine And.intro ?_ ?_) | exact ImpS.refl _)
    all_goals try first | assumption | omega
    · refine dimp_row (by rw [List.length_cons]; omega) fun j hj => ?_
      show apd 1 _ _ _ = _
      unfold apd
      cases j with
      | zero =>
        rw [if_pos (by omega)]
        rfl
      | succ k =>
        rw [if_neg (by omega)]
        show int (R.getD (0 + (k + 1) - 1) 0) = int (((mo : Int) % 1001 :: R).getD (k + 1) 0)
        rw [show 0 + (k + 1) - 1 = k by omega, List.getD_cons_succ]
    · conv => whnf
      repeat' first | ((first | refine Ob.a ?_ | refine Sp.tt ?_ | refine Sp.ff ?_ | refine Sp.yes ?_ | refine Sp.no ?_ | refine Sp.nyes ?_ | refine Sp.nno ?_);conv=>whnf) | (refine Sp.ne (fun hc => ?_) (fun hc => ?_) <;> (conv=>whnf)) | (refine Sp.dec (fun hc => ?_) (fun hc => ?_) <;> (conv=>whnf)) | (refine Sp.ndec (fun hc => ?_) (fun hc => ?_) <;> (conv=>whnf)) | (refine Sp.mk (fun hc => ?_) (fun hc => ?_) <;> (conv=>whnf)) | (apply Cl.go;(conv=>whnf); (first | refine Ob.call (c3) ?_);(conv=>whnf)) | (refine Fi.a ?_;conv=>whnf) | (refine Ob.b ?_;conv=>whnf)
      apply Cl.go
      (conv=>whnf)
      refine Ob.fn ?_ ?_ ?_ (c4)
      rotate_left
      all_goals try (repeat' first | (refine Edge.fast ?_) | ((conv=>whnf); first | exact True.intro | (refine And.intro ?_ ?_) | exact rfl | exact Nat.le_of_eq (Nat.zero_add _) | exact ImpS.refl _ | ((conv => arg 1; whnf); first | exact ImpS.refl _ | (refine ImpS.nil_eq ?_) | (refine ImpS.vnil_eq ?_) | (refine ImpS.row ?_) | (refine ImpS.rowN ?_ ?_) | (refine ImpS.sl_eq ?_) | (refine ImpS.expl rfl ?_)) | (refine row_snoc' ?_) | (apply row_upd) | exact cimp_none | exact cimp_same | exact List.not_mem_nil | exact DImp.refl _) | exact rfl | (refine And.intro ?_ ?_) | exact ImpS.refl _)
      all_goals try first | assumption | omega
      · refine dimp_row (by rw [List.length_set]; omega) fun j hj => ?_
        show upE (0 + ((wh : Int) % R.length).toNat) _ (apd 0 _ _) _ = _
        unfold upE apd
        by_cases hj2 : j = ((wh : Int) % R.length).toNat
        · rw [if_pos (by omega)]
          show int ((mo : Int) % 1001) = _
          rw [hj2, List.getD_eq_getElem?_getD, List.getElem?_set_self hin]; rfl
        · rw [if_neg (by omega), if_neg (by omega)]
          show int (R.getD (0 + j - 0) 0) = _
          rw [show 0 + j - 0 = j by omega, List.getD_eq_getElem?_getD, List.getD_eq_getElem?_getD, List.getElem?_set_ne (by omega)]
      · conv => whnf
        repeat' first | ((first | refine Ob.a ?_ | refine Sp.tt ?_ | refine Sp.ff ?_ | refine Sp.yes ?_ | refine Sp.no ?_ | refine Sp.nyes ?_ | refine Sp.nno ?_);conv=>whnf) | (refine Sp.ne (fun hc => ?_) (fun hc => ?_) <;> (conv=>whnf)) | (refine Sp.dec (fun hc => ?_) (fun hc => ?_) <;> (conv=>whnf)) | (refine Sp.ndec (fun hc => ?_) (fun hc => ?_) <;> (conv=>whnf)) | (refine Sp.mk (fun hc => ?_) (fun hc => ?_) <;> (conv=>whnf)) | (apply Cl.go;(conv=>whnf); (first | refine Ob.call (hw) ?_);(conv=>whnf)) | (refine Fi.a ?_;conv=>whnf) | (refine Ob.b ?_;conv=>whnf)
        all_goals first | (exfalso; omega) | exact Lf
end Go.Px.Try

namespace Go.Proofs.Ytofcdpkanjiefaa.biteMoreDone
open Go.ChangeShapes Go.WideShapes Go.ChangeAt Go.RowKit
open Go.Px
open Go.Px.Try (own laidOut)
set_option maxRecDepth 100000 in
theorem lifted (os : Os) (started : os.Started) (H : Type) (enc : TypeId × Value → H) :
    ReturnsInHanded {} Try.checked os 12 .any (Rows.biteMoreSpec.pre6 enc Try.prog Try.f12 Rows.biteMoreRow.domain false) (Rows.biteMoreSpec.post enc Try.prog Try.f12 false true false false) := by
  refine returnsInHanded_of_change (C := Try.checked) own started (by kernel_rfl) Try.func12
    (ChangeSpec.witness6 (enc := enc) (C := Try.checked) false ⟨#[], #[.slice none 0 0, .int .u16 0, .bool false, .int .u8 0], []⟩ 8 (by kernel_rfl) (by kernel_rfl) (by kernel_rfl) (by kernel_rfl)) ?_
  intro W base args ds gs before hval0 hW hcnd _
  have hval : ∀ (j : Nat) t v, Try.f12.params[j]? = some t → args[j]? = some v → Value.okWide Try.prog W .any base t v := hval0
  have hW' := hW
  obtain ⟨p, q, hA0, hV, rfl, hfz, hnd⟩ := hW
  have hA : DataW.TrodAll enc Try.prog W 0 (fun _ => true) true Try.f12.params.toList args.toList ds p := hA0
  rw [Try.params12] at hA hval
  obtain ⟨v0, vs0, d0, ds0, p0, q0, hargs, rfl, rfl, h0, r0⟩ := trodAll_cons hA
  obtain ⟨v1, vs1, d1, ds1, p1, q1, rfl, rfl, rfl, h1, r1⟩ := trodAll_cons r0
  obtain ⟨v2, vs2, d2, ds2, p2, q2, rfl, rfl, rfl, h2, r2⟩ := trodAll_cons r1
  obtain ⟨v3, vs3, d3, ds3, p3, q3, rfl, rfl, rfl, h3, r3⟩ := trodAll_cons r2
  obtain ⟨rfl, rfl, rfl⟩ := trodAll_nil r3
  obtain rfl : args = #[v0, v1, v2, v3] := by cases args; simp_all
  obtain ⟨rfl, rfl⟩ := trodVars_none hV
  have lt0 : ∀ x ∈ p0, x.block < W.heap.size := by have k := h0; obtain ⟨m, hm⟩ := k; exact DataW.trod_lt m _ _ _ hm
  obtain ⟨x0, g0, e0⟩ := Go.Px.Try.ints_arg h0 (hval 0 22 v0 rfl rfl)
  have lt1 : ∀ x ∈ p1, x.block < W.heap.size := by have k := h1; obtain ⟨m, hm⟩ := k; exact DataW.trod_lt m _ _ _ hm
  obtain ⟨x1, g1, e1⟩ := Go.Px.Try.u16_arg h1 (hval 1 54 v1 rfl rfl)
  have lt2 : ∀ x ∈ p2, x.block < W.heap.size := by have k := h2; obtain ⟨m, hm⟩ := k; exact DataW.trod_lt m _ _ _ hm
  obtain ⟨x2, g2, e2⟩ := Go.Px.Try.bool_arg h2 (hval 2 4 v2 rfl rfl)
  have lt3 : ∀ x ∈ p3, x.block < W.heap.size := by have k := h3; obtain ⟨m, hm⟩ := k; exact DataW.trod_lt m _ _ _ hm
  obtain ⟨x3, g3, e3⟩ := Go.Px.Try.u8_arg h3 (hval 3 5 v3 rfl rfl)
  clear hA0 hval0
  refine ((Go.Px.Try.BiteMore_spec x0 x1 x2 x3 g1 g3).2 (All W) W [v0, v1, v2, v3] (fun _ h => h) ⟨e0, e1, e2, e3, trivial⟩).mono fun e W' ⟨v, S', he, hr, _, _, bel⟩ => ?_
  obtain rfl : v = .bool true := hr
  subst he
  exact ⟨_, rfl, _, _, _, [], _, [], hW', trodAll_mk1 (shut_bool Try.underlying4 _), (trodAll_cons_mk (Below.trod laidOut (by kernel_rfl) (of_decide_eq_true (by kernel_rfl)) h0 bel lt0) (trodAll_cons_mk (Below.trod laidOut (by kernel_rfl) (of_decide_eq_true (by kernel_rfl)) h1 bel lt1) (trodAll_cons_mk (Below.trod laidOut (by kernel_rfl) (of_decide_eq_true (by kernel_rfl)) h2 bel lt2) (trodAll_cons_mk (Below.trod laidOut (by kernel_rfl) (of_decide_eq_true (by kernel_rfl)) h3 bel lt3) trodAll_mk0)))), rfl, bel.frame _, fun h => by cases h⟩
theorem over : Rows.biteMoreRow.holds Try.pinned (OpenSpec.ofChange Rows.biteMoreSpec) :=
  OpenClaim.holds_of_wide 12 Try.f12 rfl rfl rfl rfl rfl rfl rfl ⟨rfl, rfl, rfl, rfl, rfl⟩ rfl rfl rfl rfl rfl (by kernel_rfl) Try.func12 (by kernel_rfl)
    (of_decide_eq_true (by kernel_rfl)) (by unfold Func.isWrapper; first | (rw [if_pos (by decide +kernel)]; kernel_rfl) | (rw [if_neg (by decide +kernel)]; exact ⟨rfl, rfl⟩))
    (fun os started H enc _ => lifted os started H enc)
theorem proved : Rows.BiteMoreSaid := over
#print axioms proved
end Go.Proofs.Ytofcdpkanjiefaa.biteMoreDone
