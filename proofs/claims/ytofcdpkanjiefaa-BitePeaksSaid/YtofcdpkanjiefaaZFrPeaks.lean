/- The statement BitePeaks: there are peaks just if most is at least the even change; then the place of the greatest reading is one; with a greater most there are no fewer; a given curve whose greatest change is at most most has its peaks among them. Conditions: none. -/
import Derived.Test.YtofcdpkanjiefaaJ10
import Derived.Test.YtofcdpkanjiefaaJ7
import Derived.Test.YtofcdpkanjiefaaRows
set_option linter.unusedVariables false
set_option linter.unusedSimpArgs false
/-! LwPeaks -/
namespace Go.Px.Try
open Go Go.Proofs Go.Px
set_option maxRecDepth 100000
/-- The first of the greatest readings. -/
def mxA (f : Nat → Int) : Nat → Nat
  | 0 => 0
  | k + 1 => if f (mxA f k) < f (k + 1) then k + 1 else mxA f k
theorem mxA_le (f : Nat → Int) : ∀ k, mxA f k ≤ k ∧ ∀ j, j ≤ k → f j ≤ f (mxA f k)
  | 0 => ⟨Nat.le_refl _, fun j hj => by obtain rfl : j = 0 := by omega
                                        exact Int.le_refl _⟩
  | k + 1 => by
    obtain ⟨h1, h2⟩ := mxA_le f k
    rw [mxA]
    by_cases h : f (mxA f k) < f (k + 1)
    · rw [if_pos h]
      refine ⟨Nat.le_refl _, fun j hj => ?_⟩
      by_cases e : j = k + 1
      · subst e; exact Int.le_refl _
      · have := h2 j (by omega); omega
    · rw [if_neg h]
      refine ⟨by omega, fun j hj => ?_⟩
      by_cases e : j = k + 1
      · subst e; omega
      · exact h2 j (by omega)
set_option maxHeartbeats 32000000 in
theorem BitePeaks_spec (R : List Int) (nu mo pe : Nat) (b : List Nat) (hnu : nu < 65536) (hmo : mo < 256) (hpe : pe < 256) (hb : (∀ x ∈ b, x < 65536) ∧ b.length ≤ maxLen) :
    Fn Try.prog 9 [ints R, u16 nu, u8 mo, u8 pe, u16s b] (bool true) := by
  have hw := Works_spec
  by_cases hR : RdOk R
  case neg =>
    have hf := fine_no hR
    refine Fn.of_ex (cuts := []) tys hM Try.func9 rfl Try.call9 rfl ?_
    show exC Try.prog T [] _ false none 0 (entry 173 [ints R, u16 nu, u8 mo, u8 pe, u16s b]) (finQ T [ResultVar.tmp 10] _)
    conv => whnf
    repeat' first | ((first | refine Ob.a ?_ | refine Sp.tt ?_ | refine Sp.ff ?_ | refine Sp.yes ?_ | refine Sp.no ?_ | refine Sp.nyes ?_ | refine Sp.nno ?_);conv=>whnf) | (refine Sp.ne (fun hc => ?_) (fun hc => ?_) <;> (conv=>whnf)) | (refine Sp.dec (fun hc => ?_) (fun hc => ?_) <;> (conv=>whnf)) | (refine Sp.ndec (fun hc => ?_) (fun hc => ?_) <;> (conv=>whnf)) | (refine Sp.mk (fun hc => ?_) (fun hc => ?_) <;> (conv=>whnf)) | (apply Cl.go;(conv=>whnf); (first | refine Ob.call (hf) ?_ | refine Ob.call (hw) ?_);(conv=>whnf)) | (refine Fi.a ?_;conv=>whnf) | (refine Ob.b ?_;conv=>whnf)
    all_goals exact Lf
  have hf := fine_yes hR
  by_cases hbl : 20 < (b.length : Int)
  · refine Fn.of_ex (cuts := []) tys hM Try.func9 rfl Try.call9 rfl ?_
    show exC Try.prog T [] _ false none 0 (entry 173 [ints R, u16 nu, u8 mo, u8 pe, u16s b]) (finQ T [ResultVar.tmp 10] _)
    conv => whnf
    repeat' first | ((first | refine Ob.a ?_ | refine Sp.tt ?_ | refine Sp.ff ?_ | refine Sp.yes ?_ | refine Sp.no ?_ | refine Sp.nyes ?_ | refine Sp.nno ?_);conv=>whnf) | (refine Sp.ne (fun hc => ?_) (fun hc => ?_) <;> (conv=>whnf)) | (refine Sp.dec (fun hc => ?_) (fun hc => ?_) <;> (conv=>whnf)) | (refine Sp.ndec (fun hc => ?_) (fun hc => ?_) <;> (conv=>whnf)) | (refine Sp.mk (fun hc => ?_) (fun hc => ?_) <;> (conv=>whnf)) | (apply Cl.go;(conv=>whnf); (first | refine Ob.call (hf) ?_ | refine Ob.call (hw) ?_);(conv=>whnf)) | (refine Fi.a ?_;conv=>whnf) | (refine Ob.b ?_;conv=>whnf)
    all_goals first | (exfalso; omega) | exact Lf
  have h12 := hR.l12
  have h0 := hR.pos
  have hc := changes_spec hR
  have hpl : 0 ≤ (pe : Int) % R.length ∧ (pe : Int) % R.length < R.length := ⟨Int.emod_nonneg _ (by omega), Int.emod_lt_of_pos _ (by omega)⟩
  have hcv := Curve_spec b R.length ((pe : Int) % R.length).toNat hb.1 (by omega) (by omega) (by omega)
  rw [Int.toNat_of_nonneg hpl.1] at hcv
  have hok := cvL_ok (R := R) (b := b) (p := ((pe : Int) % R.length).toNat) (by omega)
  generalize cvL b R.length ((pe : Int) % R.length).toNat = c at *
  have hcl := hok.len
  have a1 := CheckCurveP_spec R c (by omega) (by omega)
  rw [checkCurve_ok hR hok] at a1
  simp only at a1
  have hm1 : 0 ≤ (nu : Int) % 1001 ∧ (nu : Int) % 1001 ≤ 1000 := by omega
  have hm2 : 0 ≤ min 1000 ((nu : Int) % 1001 + mo) ∧ min 1000 ((nu : Int) % 1001 + mo) ≤ 1000 := by omega
  have hm3 : (nu : Int) % 1001 ≤ min 1000 ((nu : Int) % 1001 + mo) := by omega
  have p1 := PeaksP_spec R ((nu : Int) % 1001) (by omega)
  have p2 := PeaksP_spec R (min 1000 ((nu : Int) % 1001 + mo)) (by omega)
  have pe1 : ∀ m : Int, 0 ≤ m ∧ m ≤ 1000 → peaksR R m = (pkL R m, 0) := fun m h => by
    unfold peaksR; rw [if_neg (not_not_intro (checkRd_ok.2 hR)), if_neg (by omega)]
  rw [pe1 _ hm1] at p1
  rw [pe1 _ hm2] at p2
  simp only at p1 p2
  have hsome := pk_some (R := R) (most := (nu : Int) % 1001) h0
  have hmore := fun x h => pk_more (R := R) (x := x) hm3 h
  have il1 := isList_spec (pkL R ((nu : Int) % 1001)) R.length (by have := pk_len R ((nu : Int) % 1001); omega) (fun x hx => (pk_mem.1 hx).1) (pk_inc R _)
  have il2 := isList_spec (pkL R (min 1000 ((nu : Int) % 1001 + mo))) R.length (by have := pk_len R (min 1000 ((nu : Int) % 1001 + mo)); omega) (fun x hx => (pk_mem.1 hx).1) (pk_inc R _)
  have lp := pk_len R ((nu : Int) % 1001)
  have lq := pk_len R (min 1000 ((nu : Int) % 1001 + mo))
  have hh1 := fun x => has_law (pkL R ((nu : Int) % 1001)) x (by omega)
  have hh2 := fun x => has_law (pkL R (min 1000 ((nu : Int) % 1001 + mo))) x (by omega)
  have htop := fun t (ht : IsTop R t) h => pk_top (R := R) (most := (nu : Int) % 1001) ht h
  have hcur := fun p hp h hm => pk_curve (R := R) (c := c) (most := (nu : Int) % 1001) (p := p) hcl.symm hp h hm
  have hat := fun (i : Nat) h => At_spec c i (by omega) h
  have hatq := fun p => atQ_iff (c := c) (p := p)
  have r1 := mostTo_rng hR hok.rng hok.len R.length (Nat.le_refl _)
  have hcr := costTo_rng hR hok.rng hok.len R.length (Nat.le_refl _)
  have hev := even_le hR
  have hv : ∀ i : Int, 0 ≤ i → i < R.length → 0 ≤ R.getD i.toNat 0 ∧ R.getD i.toNat 0 ≤ 1000 := fun i a b => hR.rng _ (getD_mem_int (by omega))
  generalize hP : pkL R ((nu : Int) % 1001) = P at *
  generalize hQ : pkL R (min 1000 ((nu : Int) % 1001 + mo)) = Q at *
  generalize mostTo R c R.length = am at *
  generalize costTo R c R.length = ac at *
  generalize evenN R = m at *
  generalize nearN R = s at *
  refine Fn.of_ex (cuts := []) tys hM Try.func9 rfl Try.call9 rfl ?_
  show exC Try.prog T [] _ false none 0 (entry 173 [ints R, u16 nu, u8 mo, u8 pe, u16s b]) (finQ T [ResultVar.tmp 10] _)
  conv => whnf
  repeat' first | ((first | refine Ob.a ?_ | refine Sp.tt ?_ | refine Sp.ff ?_ | refine Sp.yes ?_ | refine Sp.no ?_ | refine Sp.nyes ?_ | refine Sp.nno ?_);conv=>whnf) | (refine Sp.ne (fun hc => ?_) (fun hc => ?_) <;> (conv=>whnf)) | (refine Sp.dec (fun hc => ?_) (fun hc => ?_) <;> (conv=>whnf)) | (refine Sp.ndec (fun hc => ?_) (fun hc => ?_) <;> (conv=>whnf)) | (refine Sp.mk (fun hc => ?_) (fun hc => ?_) <;> (conv=>whnf)) | (apply Cl.go;(conv=>whnf); (first | refine Ob.call (hf) ?_ | refine Ob.call (hc) ?_ | refine Ob.call (p1) ?_ | refine Ob.call (p2) ?_ | refine Ob.call (il1) ?_ | refine Ob.call (il2) ?_);(conv=>whnf)) | (refine Fi.a ?_;conv=>whnf) | (refine Ob.b ?_;conv=>whnf)
  · exfalso; exact hc (by rw [decide_eq_decide]; omega)
  obtain ⟨B, hBe⟩ : ∃ B, mxA (fun j => R.getD j 0) = B := ⟨_, rfl⟩
  have hB0 : B 0 = 0 := by rw [← hBe]; rfl
  have hBs : ∀ k, B (k + 1) = if R.getD (B k) 0 < R.getD (k + 1) 0 then k + 1 else B k := fun k => by rw [← hBe]; rfl
  have hBl := mxA_le (fun j => R.getD j 0)
  rw [hBe] at hBl
  have hbest := hh1 (B ((R.length : Int).toNat - 1))
  have hbb : 0 < P.length → decide ((B ((R.length : Int).toNat - 1) : Int) ∈ P) = true := fun h => by
    refine decide_eq_true (htop _ ⟨?_, fun i hi => ?_⟩ h)
    · have := (hBl ((R.length : Int).toNat - 1)).1
      omega
    · exact (hBl ((R.length : Int).toNat - 1)).2 i (by omega)
  generalize decide ((B ((R.length : Int).toNat - 1) : Int) ∈ P) = bb at *
  clear hBe
  refine Lp.snap [0, 1, 2, 3, 4, 10, 11, 15, 17, 21, 22, 23, 25, 26, 110, 111, 112, 113, 114, 115, 116, 117, 119, 120, 121, 123, 124, 125, 126, 127, 128, 129, 130, 132, 133, 134, 135, 136, 137, 138, 139, 140, 141, 142, 143, 144, 145, 146, 147, 148, 149, 150, 151, 152, 153, 154, 155, 156, 157, 158, 159, 161, 162, 163, 164, 165, 166, 167, 168, 169, 170, 172] 100 ?_
  (conv=>whnf)
  refine LpB.go 173 ({i : Int // 0 ≤ i ∧ i ≤ R.length}) 0 (fun ⟨i, _⟩ nx => ([(20, .d (int i)), (19, .d (int (B (i.toNat - 1))))], [])) (fun p => (R.length - p.1).toNat) (⟨0, by omega, by omega⟩) ?_ ?_
  · rintro ⟨i, i0, i1⟩
    by_cases hi : i < R.length
    · have hb1 := (hBl (i.toNat - 1)).1
      have hst : B ((i + 1).toNat - 1) = if R.getD (B (i.toNat - 1)) 0 < R.getD i.toNat 0 then i.toNat else B (i.toNat - 1) := by
        rw [show (i + 1).toNat - 1 = i.toNat by omega]
        by_cases hz : i.toNat = 0
        · rw [hz, hB0]; split <;> first | rfl | exact hB0
        · have := hBs (i.toNat - 1)
          rwa [show i.toNat - 1 + 1 = i.toNat by omega] at this
      by_cases hc : R.getD (B (i.toNat - 1)) 0 < R.getD i.toNat 0
      · rw [if_pos hc] at hst
        have e7 : i = B ((i + 1).toNat - 1) := by omega
        have e9 : R.getD (B (i.toNat - 1) : Int).toNat 0 < R.getD i.toNat 0 := hc
        clear hst
        conv => whnf
        repeat' first | ((first | refine Ob.a ?_ | refine Sp.tt ?_ | refine Sp.ff ?_ | refine Sp.yes ?_ | refine Sp.no ?_ | refine Sp.nyes ?_ | refine Sp.nno ?_);conv=>whnf) | (refine Sp.ne (fun hc => ?_) (fun hc => ?_) <;> (conv=>whnf)) | (refine Sp.dec (fun hc => ?_) (fun hc => ?_) <;> (conv=>whnf)) | (refine Sp.ndec (fun hc => ?_) (fun hc => ?_) <;> (conv=>whnf)) | (refine Sp.mk (fun hc => ?_) (fun hc => ?_) <;> (conv=>whnf)) | (refine Fi.a ?_;conv=>whnf) | (refine Ob.b ?_;conv=>whnf)
        all_goals first | (exfalso; omega) | skip
        refine ⟨rfl, ⟨i + 1, by omega, by omega⟩, ?_, by simp only; omega⟩
        conv => whnf
        repeat' first | (refine Edge.fast ?_) | ((conv=>whnf); first | exact True.intro | (refine And.intro ?_ ?_) | exact rfl | exact Nat.le_of_eq (Nat.zero_add _) | exact ImpS.refl _ | ((conv => arg 1; whnf); first | exact ImpS.refl _ | (refine ImpS.nil_eq ?_) | (refine ImpS.vnil_eq ?_) | (refine ImpS.row ?_) | (refine ImpS.rowN ?_ ?_) | (refine ImpS.sl_eq ?_) | (refine ImpS.expl rfl ?_)) | (refine row_snoc' ?_) | exact MImp.refl _ | exact cimp_none | exact cimp_same | exact List.not_mem_nil | exact DImp.refl _) | exact rfl | (refine And.intro ?_ ?_) | exact ImpS.refl _
        all_goals first | exact e7
      · rw [if_neg hc] at hst
        have e7 : (B (i.toNat - 1) : Int) = B ((i + 1).toNat - 1) := by rw [hst]
        have e9 : ¬ R.getD (B (i.toNat - 1) : Int).toNat 0 < R.getD i.toNat 0 := hc
        clear hst
        conv => whnf
        repeat' first | ((first | refine Ob.a ?_ | refine Sp.tt ?_ | refine Sp.ff ?_ | refine Sp.yes ?_ | refine Sp.no ?_ | refine Sp.nyes ?_ | refine Sp.nno ?_);conv=>whnf) | (refine Sp.ne (fun hc => ?_) (fun hc => ?_) <;> (conv=>whnf)) | (refine Sp.dec (fun hc => ?_) (fun hc => ?_) <;> (conv=>whnf)) | (refine Sp.ndec (fun hc => ?_) (fun hc => ?_) <;> (conv=>whnf)) | (refine Sp.mk (fun hc => ?_) (fun hc => ?_) <;> (conv=>whnf)) | (refine Fi.a ?_;conv=>whnf) | (refine Ob.b ?_;conv=>whnf)
        all_goals first | (exfalso; omega) | skip
        refine ⟨rfl, ⟨i + 1, by omega, by omega⟩, ?_, by simp only; omega⟩
        conv => whnf
        repeat' first | (refine Edge.fast ?_) | ((conv=>whnf); first | exact True.intro | (refine And.intro ?_ ?_) | exact rfl | exact Nat.le_of_eq (Nat.zero_add _) | exact ImpS.refl _ | ((conv => arg 1; whnf); first | exact ImpS.refl _ | (refine ImpS.nil_eq ?_) | (refine ImpS.vnil_eq ?_) | (refine ImpS.row ?_) | (refine ImpS.rowN ?_ ?_) | (refine ImpS.sl_eq ?_) | (refine ImpS.expl rfl ?_)) | (refine row_snoc' ?_) | exact MImp.refl _ | exact cimp_none | exact cimp_same | exact List.not_mem_nil | exact DImp.refl _) | exact rfl | (refine And.intro ?_ ?_) | exact ImpS.refl _
        all_goals first | exact e7
    · have ek : i = R.length := by omega
      subst ek
      conv => whnf
      repeat' first | ((first | refine Ob.a ?_ | refine Sp.tt ?_ | refine Sp.ff ?_ | refine Sp.yes ?_ | refine Sp.no ?_ | refine Sp.nyes ?_ | refine Sp.nno ?_);conv=>whnf) | (refine Sp.ne (fun hc => ?_) (fun hc => ?_) <;> (conv=>whnf)) | (refine Sp.dec (fun hc => ?_) (fun hc => ?_) <;> (conv=>whnf)) | (refine Sp.ndec (fun hc => ?_) (fun hc => ?_) <;> (conv=>whnf)) | (refine Sp.mk (fun hc => ?_) (fun hc => ?_) <;> (conv=>whnf)) | (apply Cl.go;(conv=>whnf); (first | refine Ob.call (hbest) ?_);(conv=>whnf)) | (refine Fi.a ?_;conv=>whnf) | (refine Ob.b ?_;conv=>whnf)
      all_goals first | (exfalso; omega) | (exfalso; rw [hbb (by omega)] at hc; cases hc; done) | skip
      all_goals clear hbb hbest hBl hBs hB0
      all_goals
        refine Lp.snap [0, 1, 2, 3, 4, 11, 15, 17, 22, 23, 25, 26, 132, 133, 134, 135, 136, 137, 138, 139, 140, 141, 142, 143, 144, 145, 146, 147, 148, 149, 150, 151, 152, 153, 154, 155, 156, 157, 158, 159, 161, 162, 163, 164, 165, 166, 167, 168, 169, 170, 172] 100 ?_
        (conv=>whnf)
        refine LpB.go 173 ({i : Int // 0 ≤ i ∧ i ≤ P.length}) 0 (fun ⟨i, _⟩ nx => ([(21, .d (int i))], [])) (fun p => (P.length - p.1).toNat) (⟨0, by omega, by omega⟩) ?_ ?_
        · rintro ⟨i, i0, i1⟩
          by_cases hi2 : i < P.length
          · have hh := hh2 (P.getD i.toNat 0)
            rw [decide_eq_true (hmore _ (getD_mem_int (by omega)))] at hh
            conv => whnf
            repeat' first | ((first | refine Ob.a ?_ | refine Sp.tt ?_ | refine Sp.ff ?_ | refine Sp.yes ?_ | refine Sp.no ?_ | refine Sp.nyes ?_ | refine Sp.nno ?_);conv=>whnf) | (refine Sp.ne (fun hc => ?_) (fun hc => ?_) <;> (conv=>whnf)) | (refine Sp.dec (fun hc => ?_) (fun hc => ?_) <;> (conv=>whnf)) | (refine Sp.ndec (fun hc => ?_) (fun hc => ?_) <;> (conv=>whnf)) | (refine Sp.mk (fun hc => ?_) (fun hc => ?_) <;> (conv=>whnf)) | (apply Cl.go;(conv=>whnf); (first | refine Ob.call (hh) ?_);(conv=>whnf)) | (refine Fi.a ?_;conv=>whnf) | (refine Ob.b ?_;conv=>whnf)
            all_goals first | (exfalso; omega) | exact ⟨rfl, ⟨i + 1, by omega, by omega⟩, Lf, by simp only; omega⟩
          · have ek : i = P.length := by omega
            subst ek
            conv => whnf
            repeat' first | ((first | refine Ob.a ?_ | refine Sp.tt ?_ | refine Sp.ff ?_ | refine Sp.yes ?_ | refine Sp.no ?_ | refine Sp.nyes ?_ | refine Sp.nno ?_);conv=>whnf) | (refine Sp.ne (fun hc => ?_) (fun hc => ?_) <;> (conv=>whnf)) | (refine Sp.dec (fun hc => ?_) (fun hc => ?_) <;> (conv=>whnf)) | (refine Sp.ndec (fun hc => ?_) (fun hc => ?_) <;> (conv=>whnf)) | (refine Sp.mk (fun hc => ?_) (fun hc => ?_) <;> (conv=>whnf)) | (apply Cl.go;(conv=>whnf); (first | refine Ob.call (hcv) ?_ | refine Ob.call (a1) ?_);(conv=>whnf)) | (refine Fi.a ?_;conv=>whnf) | (refine Ob.b ?_;conv=>whnf)
            all_goals first | (exfalso; omega) | skip
            refine Lp.snap [0, 1, 2, 3, 4, 11, 15, 22, 23, 25, 172] 100 ?_
            (conv=>whnf)
            refine LpB.go 173 ({i : Int // 0 ≤ i ∧ i ≤ R.length}) 0 (fun ⟨i, _⟩ nx => ([(26, .d (int i))], [])) (fun p => (R.length - p.1).toNat) (⟨0, by omega, by omega⟩) ?_ ?_
            · rintro ⟨i, i0, i1⟩
              by_cases hi3 : i < R.length
              · have hh := hh1 i
                have ha := hat i.toNat (by omega)
                rw [Int.toNat_of_nonneg i0] at ha
                have hcu : am ≤ (nu : Int) % 1001 → atQ c i.toNat = true → decide (i ∈ P) = true := fun h g => by
                  have := hcur i.toNat (by omega) ((hatq _).1 g) h
                  rw [Int.toNat_of_nonneg i0] at this
                  exact decide_eq_true this
                generalize atQ c i.toNat = g1 at *
                generalize decide (i ∈ P) = g2 at *
                conv => whnf
                repeat' first | ((first | refine Ob.a ?_ | refine Sp.tt ?_ | refine Sp.ff ?_ | refine Sp.yes ?_ | refine Sp.no ?_ | refine Sp.nyes ?_ | refine Sp.nno ?_);conv=>whnf) | (refine Sp.ne (fun hc => ?_) (fun hc => ?_) <;> (conv=>whnf)) | (refine Sp.dec (fun hc => ?_) (fun hc => ?_) <;> (conv=>whnf)) | (refine Sp.ndec (fun hc => ?_) (fun hc => ?_) <;> (conv=>whnf)) | (refine Sp.mk (fun hc => ?_) (fun hc => ?_) <;> (conv=>whnf)) | (apply Cl.go;(conv=>whnf); (first | refine Ob.call (ha) ?_ | refine Ob.call (hh) ?_ | refine Ob.call (hw) ?_);(conv=>whnf)) | (refine Fi.a ?_;conv=>whnf) | (refine Ob.b ?_;conv=>whnf)
                all_goals first | (exfalso; omega) | exact ⟨rfl, ⟨i + 1, by omega, by omega⟩, Lf, by simp only; omega⟩ | exact Lf | (exfalso; rw [hcu (by assumption) (by assumption)] at hc; cases hc; done)
              · conv => whnf
                repeat' first | ((first | refine Ob.a ?_ | refine Sp.tt ?_ | refine Sp.ff ?_ | refine Sp.yes ?_ | refine Sp.no ?_ | refine Sp.nyes ?_ | refine Sp.nno ?_);conv=>whnf) | (refine Sp.ne (fun hc => ?_) (fun hc => ?_) <;> (conv=>whnf)) | (refine Sp.dec (fun hc => ?_) (fun hc => ?_) <;> (conv=>whnf)) | (refine Sp.ndec (fun hc => ?_) (fun hc => ?_) <;> (conv=>whnf)) | (refine Sp.mk (fun hc => ?_) (fun hc => ?_) <;> (conv=>whnf)) | (apply Cl.go;(conv=>whnf); (first | refine Ob.call (hw) ?_);(conv=>whnf)) | (refine Fi.a ?_;conv=>whnf) | (refine Ob.b ?_;conv=>whnf)
                all_goals first | (exfalso; omega) | exact Lf
            · exact Lf
        · exact Lf
  · have z : (0 : Int) = B (Int.toNat 0 - 1) := by rw [show Int.toNat 0 - 1 = 0 from rfl, hB0]; rfl
    conv => whnf
    repeat' first | (refine Edge.fast ?_) | ((conv=>whnf); first | exact True.intro | (refine And.intro ?_ ?_) | exact rfl | exact Nat.le_of_eq (Nat.zero_add _) | exact ImpS.refl _ | ((conv => arg 1; whnf); first | exact ImpS.refl _ | (refine ImpS.nil_eq ?_) | (refine ImpS.vnil_eq ?_) | (refine ImpS.row ?_) | (refine ImpS.rowN ?_ ?_) | (refine ImpS.sl_eq ?_) | (refine ImpS.expl rfl ?_)) | (refine row_snoc' ?_) | exact MImp.refl _ | exact cimp_none | exact cimp_same | exact List.not_mem_nil | exact DImp.refl _) | exact rfl | (refine And.intro ?_ ?_) | exact ImpS.refl _
    all_goals first | exact z
end Go.Px.Try

namespace Go.Proofs.Ytofcdpkanjiefaa.bitePeaksDone
open Go.ChangeShapes Go.WideShapes Go.ChangeAt Go.RowKit
open Go.Px
open Go.Px.Try (own laidOut)
set_option maxRecDepth 100000 in
theorem lifted (os : Os) (started : os.Started) (H : Type) (enc : TypeId × Value → H) :
    ReturnsInHanded {} Try.checked os 9 .any (Rows.bitePeaksSpec.pre6 enc Try.prog Try.f9 Rows.bitePeaksRow.domain false) (Rows.bitePeaksSpec.post enc Try.prog Try.f9 false true false false) := by
  refine returnsInHanded_of_change (C := Try.checked) own started (by kernel_rfl) Try.func9
    (ChangeSpec.witness6 (enc := enc) (C := Try.checked) false ⟨#[], #[.slice none 0 0, .int .u16 0, .int .u8 0, .int .u8 0, .slice none 0 0], []⟩ 8 (by kernel_rfl) (by kernel_rfl) (by kernel_rfl) (by kernel_rfl)) ?_
  intro W base args ds gs before hval0 hW hcnd _
  have hval : ∀ (j : Nat) t v, Try.f9.params[j]? = some t → args[j]? = some v → Value.okWide Try.prog W .any base t v := hval0
  have hW' := hW
  obtain ⟨p, q, hA0, hV, rfl, hfz, hnd⟩ := hW
  have hA : DataW.TrodAll enc Try.prog W 0 (fun _ => true) true Try.f9.params.toList args.toList ds p := hA0
  rw [Try.params9] at hA hval
  obtain ⟨v0, vs0, d0, ds0, p0, q0, hargs, rfl, rfl, h0, r0⟩ := trodAll_cons hA
  obtain ⟨v1, vs1, d1, ds1, p1, q1, rfl, rfl, rfl, h1, r1⟩ := trodAll_cons r0
  obtain ⟨v2, vs2, d2, ds2, p2, q2, rfl, rfl, rfl, h2, r2⟩ := trodAll_cons r1
  obtain ⟨v3, vs3, d3, ds3, p3, q3, rfl, rfl, rfl, h3, r3⟩ := trodAll_cons r2
  obtain ⟨v4, vs4, d4, ds4, p4, q4, rfl, rfl, rfl, h4, r4⟩ := trodAll_cons r3
  obtain ⟨rfl, rfl, rfl⟩ := trodAll_nil r4
  obtain rfl : args = #[v0, v1, v2, v3, v4] := by cases args; simp_all
  obtain ⟨rfl, rfl⟩ := trodVars_none hV
  have lt0 : ∀ x ∈ p0, x.block < W.heap.size := by have k := h0; obtain ⟨m, hm⟩ := k; exact DataW.trod_lt m _ _ _ hm
  obtain ⟨x0, g0, e0⟩ := Go.Px.Try.ints_arg h0 (hval 0 22 v0 rfl rfl)
  have lt1 : ∀ x ∈ p1, x.block < W.heap.size := by have k := h1; obtain ⟨m, hm⟩ := k; exact DataW.trod_lt m _ _ _ hm
  obtain ⟨x1, g1, e1⟩ := Go.Px.Try.u16_arg h1 (hval 1 54 v1 rfl rfl)
  have lt2 : ∀ x ∈ p2, x.block < W.heap.size := by have k := h2; obtain ⟨m, hm⟩ := k; exact DataW.trod_lt m _ _ _ hm
  obtain ⟨x2, g2, e2⟩ := Go.Px.Try.u8_arg h2 (hval 2 5 v2 rfl rfl)
  have lt3 : ∀ x ∈ p3, x.block < W.heap.size := by have k := h3; obtain ⟨m, hm⟩ := k; exact DataW.trod_lt m _ _ _ hm
  obtain ⟨x3, g3, e3⟩ := Go.Px.Try.u8_arg h3 (hval 3 5 v3 rfl rfl)
  have lt4 : ∀ x ∈ p4, x.block < W.heap.size := by have k := h4; obtain ⟨m, hm⟩ := k; exact DataW.trod_lt m _ _ _ hm
  obtain ⟨x4, g4, e4⟩ := Go.Px.Try.u16s_arg h4 (hval 4 49 v4 rfl rfl)
  clear hA0 hval0
  refine ((Go.Px.Try.BitePeaks_spec x0 x1 x2 x3 x4 g1 g2 g3 g4).2 (All W) W [v0, v1, v2, v3, v4] (fun _ h => h) ⟨e0, e1, e2, e3, e4, trivial⟩).mono fun e W' ⟨v, S', he, hr, _, _, bel⟩ => ?_
  obtain rfl : v = .bool true := hr
  subst he
  exact ⟨_, rfl, _, _, _, [], _, [], hW', trodAll_mk1 (shut_bool Try.underlying4 _), (trodAll_cons_mk (Below.trod laidOut (by kernel_rfl) (of_decide_eq_true (by kernel_rfl)) h0 bel lt0) (trodAll_cons_mk (Below.trod laidOut (by kernel_rfl) (of_decide_eq_true (by kernel_rfl)) h1 bel lt1) (trodAll_cons_mk (Below.trod laidOut (by kernel_rfl) (of_decide_eq_true (by kernel_rfl)) h2 bel lt2) (trodAll_cons_mk (Below.trod laidOut (by kernel_rfl) (of_decide_eq_true (by kernel_rfl)) h3 bel lt3) (trodAll_cons_mk (Below.trod laidOut (by kernel_rfl) (of_decide_eq_true (by kernel_rfl)) h4 bel lt4) trodAll_mk0))))), rfl, bel.frame _, fun h => by cases h⟩
theorem over : Rows.bitePeaksRow.holds Try.pinned (OpenSpec.ofChange Rows.bitePeaksSpec) :=
  OpenClaim.holds_of_wide 9 Try.f9 rfl rfl rfl rfl rfl rfl rfl ⟨rfl, rfl, rfl, rfl, rfl⟩ rfl rfl rfl rfl rfl (by kernel_rfl) Try.func9 (by kernel_rfl)
    (of_decide_eq_true (by kernel_rfl)) (by unfold Func.isWrapper; first | (rw [if_pos (by decide +kernel)]; kernel_rfl) | (rw [if_neg (by decide +kernel)]; exact ⟨rfl, rfl⟩))
    (fun os started H enc _ => lifted os started H enc)
theorem proved : Rows.BitePeaksSaid := over
#print axioms proved
end Go.Proofs.Ytofcdpkanjiefaa.bitePeaksDone
