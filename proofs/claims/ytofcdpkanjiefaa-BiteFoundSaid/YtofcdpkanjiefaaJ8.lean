/- Texts of this proof, joined (Bf7, Bf8): a small program logic over the model, and what functions of the program give. No statement of the seat is proved here. -/
import Derived.Test.YtofcdpkanjiefaaJ4
import Derived.Test.YtofcdpkanjiefaaJ7
set_option linter.unusedVariables false
set_option linter.unusedSimpArgs false

/-! Bf7 -/
namespace Go.Px.Try
open Go Go.Proofs Go.Px
set_option maxRecDepth 100000
def rsL (R : List Int) (i : Nat) : List Int := (List.range R.length).map (rsI R R i)
def rsT (R : List Int) (i k : Nat) : List Int := (List.range k).map (rsI R R i)
theorem rsL_len (R : List Int) (i : Nat) : (rsL R i).length = R.length := by simp [rsL]
theorem rsL_at {R : List Int} {i m : Nat} (h : m < R.length) : (rsL R i).getD m 0 = rsI R R i m := by
  unfold rsL
  rw [List.getD_eq_getElem?_getD, List.getElem?_map, List.getElem?_range h]; rfl
theorem rsT_succ (R : List Int) (i k : Nat) : rsT R i (k + 1) = rsT R i k ++ [rsI R R i k] := by
  unfold rsT; rw [List.range_succ, List.map_append]; rfl
theorem rsI_rng {R : List Int} (hR : RdOk R) : ∀ i k, i ≤ R.length → k < R.length → 0 ≤ rsI R R i k ∧ rsI R R i k ≤ 1000 * i
  | 0, _, _, _ => by simp [rsI]
  | i + 1, k, hi, hk => by
    obtain ⟨⟨m, m1, m2, m3⟩, h2⟩ := rsI_step (R := R) (l := R) (i := i) hk
    have ih1 := rsI_rng hR i m (by omega) m1
    have ih2 := rsI_rng hR i k (by omega) hk
    have h3 := h2 k hk (Int.le_refl _)
    have a1 : 0 ≤ R.getD i 0 ∧ R.getD i 0 ≤ 1000 := hR.rng _ (getD_mem_int (by omega))
    have a2 : 0 ≤ R.getD k 0 ∧ R.getD k 0 ≤ 1000 := hR.rng _ (getD_mem_int hk)
    have := ab_nn (R.getD i 0) (R.getD m 0)
    have h4 : ab (R.getD i 0) (R.getD k 0) ≤ 1000 := by unfold ab; omega
    omega
/-- The search for the least one, up to a place. -/
def rsB (R : List Int) (i k m : Nat) : Option Int := bstO (fun m => rsI R R i m + ab (R.getD i 0) (R.getD m 0)) (fun m => decide (R.getD m 0 ≤ R.getD k 0)) m
def rsV (R : List Int) (i k m : Nat) : Int := (rsB R i k m).getD 0
def rsF (R : List Int) (i k m : Nat) : Bool := (rsB R i k m).isSome
theorem rsB_skip {R : List Int} {i k m : Nat} (h : R.getD k 0 < R.getD m 0) : rsV R i k (m + 1) = rsV R i k m ∧ rsF R i k (m + 1) = rsF R i k m := by
  have : rsB R i k (m + 1) = rsB R i k m := by
    unfold rsB; rw [bstO, if_neg (by rw [decide_eq_true_eq]; omega)]
  unfold rsV rsF; rw [this]; exact ⟨rfl, rfl⟩
theorem rsB_take {R : List Int} {i k m : Nat} (h : ¬ R.getD k 0 < R.getD m 0) : rsF R i k (m + 1) = true ∧ rsV R i k (m + 1) = if rsF R i k m = false ∨ rsI R R i m + ab (R.getD i 0) (R.getD m 0) < rsV R i k m then rsI R R i m + ab (R.getD i 0) (R.getD m 0) else rsV R i k m := by
  have e : rsB R i k (m + 1) = (match rsB R i k m with
      | none => some (rsI R R i m + ab (R.getD i 0) (R.getD m 0))
      | some b => if rsI R R i m + ab (R.getD i 0) (R.getD m 0) < b then some (rsI R R i m + ab (R.getD i 0) (R.getD m 0)) else some b) := by
    unfold rsB; rw [bstO, if_pos (decide_eq_true (by omega))]
    rfl
  unfold rsV rsF
  rw [e]
  cases hb : rsB R i k m with
  | none => exact ⟨rfl, (if_pos (.inl rfl)).symm⟩
  | some b =>
    by_cases hc : rsI R R i m + ab (R.getD i 0) (R.getD m 0) < b
    · have e1 : (if (some b).isSome = false ∨ rsI R R i m + ab (R.getD i 0) (R.getD m 0) < (some b).getD 0 then rsI R R i m + ab (R.getD i 0) (R.getD m 0) else (some b).getD 0) = rsI R R i m + ab (R.getD i 0) (R.getD m 0) := if_pos (.inr hc)
      rw [e1]
      simp only [if_pos hc]
      exact ⟨rfl, rfl⟩
    · have e1 : (if (some b).isSome = false ∨ rsI R R i m + ab (R.getD i 0) (R.getD m 0) < (some b).getD 0 then rsI R R i m + ab (R.getD i 0) (R.getD m 0) else (some b).getD 0) = b := if_neg (fun h => h.elim (fun h => by cases h) hc)
      rw [e1]
      simp only [if_neg hc]
      exact ⟨rfl, rfl⟩
theorem rsV_rng {R : List Int} (hR : RdOk R) {i k m : Nat} (hi : i < R.length) (hm : m ≤ R.length) : 0 ≤ rsV R i k m ∧ rsV R i k m ≤ 13000 := by
  have h12 := hR.l12
  unfold rsV
  cases h : rsB R i k m with
  | none => simp
  | some b =>
    obtain ⟨⟨q, q1, _, q3⟩, _⟩ := bstO_some h
    have h1 := rsI_rng hR i q (by omega) (by omega)
    have a1 : 0 ≤ R.getD i 0 ∧ R.getD i 0 ≤ 1000 := hR.rng _ (getD_mem_int (by omega))
    have a2 : 0 ≤ R.getD q 0 ∧ R.getD q 0 ≤ 1000 := hR.rng _ (getD_mem_int (by omega))
    simp only [Option.getD_some]
    unfold ab at q3
    omega
theorem rsV_end (R : List Int) (i k : Nat) : rsV R i k R.length = rsI R R (i + 1) k := rfl
theorem rsL_zero (R : List Int) : rsL R 0 = List.replicate R.length 0 := by
  unfold rsL
  refine List.ext_getElem (by simp) fun j h1 h2 => ?_
  simp [rsI]
set_option maxHeartbeats 16000000 in
theorem risen_spec (R : List Int) (n : Nat) (hR : RdOk R) (hp : n < R.length) : Fn Try.prog 64 [ints R, int n] (ints (rsL R (n + 1))) := by
  have h12 := hR.l12
  have hv : ∀ i : Int, 0 ≤ i → i < R.length → 0 ≤ R.getD i.toNat 0 ∧ R.getD i.toNat 0 ≤ 1000 := fun i i0 i1 => hR.rng _ (getD_mem_int (by omega))
  have hz := rsL_zero R
  have hll := rsL_len R
  have hfin : rsL R (n + 1) = rsL R ((n : Int) + 1).toNat := by congr 1
  generalize rsL R (n + 1) = fin at *
  refine Fn.of_ex (cuts := []) tys hM Try.func64 rfl Try.call64 rfl ?_
  show exC Try.prog T [] _ false none 0 (entry 87 [ints R, int n]) (finQ T [ResultVar.tmp 4] _)
  conv => whnf
  repeat' first | ((first | refine Ob.a ?_ | refine Sp.tt ?_ | refine Sp.ff ?_ | refine Sp.yes ?_ | refine Sp.no ?_ | refine Sp.nyes ?_ | refine Sp.nno ?_);conv=>whnf) | (refine Sp.ne (fun hc => ?_) (fun hc => ?_) <;> (conv=>whnf)) | (refine Sp.dec (fun hc => ?_) (fun hc => ?_) <;> (conv=>whnf)) | (refine Sp.ndec (fun hc => ?_) (fun hc => ?_) <;> (conv=>whnf)) | (refine Sp.mk (fun hc => ?_) (fun hc => ?_) <;> (conv=>whnf)) | (refine Nx.mk (fun ka kb kx hx hs => ?_) (fun he => ?_) <;> (conv=>whnf)) | (refine Nx.mk (fun ka kx hx hs => ?_) (fun he => ?_) <;> (conv=>whnf)) | (refine Uk.mk (fun hn => ?_) ?_ <;> (conv=>whnf)) | (refine Fi.a ?_;conv=>whnf) | (refine Yl.a ?_ ?_ <;> (conv=>whnf)) | (refine Ob.b ?_;conv=>whnf)
  refine Lp.snap [0, 1, 4, 7, 8, 9, 10, 11, 12, 13, 23, 24, 26, 27, 28, 29, 30, 32, 33, 34, 35, 36, 38, 39, 40, 41, 42, 43, 44, 45, 46, 47, 49, 50, 51, 52, 53, 54, 55, 56, 57, 58, 59, 60, 61, 62, 63, 64, 65, 66, 67, 68, 69, 70, 71, 72, 73, 74, 75, 76, 77, 78, 80, 81, 82, 83, 84, 85, 86] 100 ?_
  (conv=>whnf)
  refine LpB.go 87 ({q : Int × List Int // (0 ≤ q.1 ∧ q.1 ≤ R.length) ∧ q.2 = List.replicate q.1.toNat 0}) 0 (fun ⟨(k, o), _⟩ nx => ([(6, .d (int k)), (5, .ms 1 1 0 o.length)], [(1, .row true 2 1 o.length (rowOf int 0 o))])) (fun p => (R.length - p.1.1).toNat) (⟨(0, []), ⟨by simp, by simp⟩, rfl⟩) ?_ ?_
  · rintro ⟨⟨k, o⟩, ⟨k0, k1⟩, ho⟩
    simp only at k0 k1 ho
    have hrl : o.length = k.toNat := by rw [ho]; exact List.length_replicate
    have hs : List.replicate (k + 1).toNat (0 : Int) = o ++ [0] := by
      rw [ho, show (k + 1).toNat = k.toNat + 1 by omega, List.replicate_succ']
    by_cases hk : k < R.length
    · conv => whnf
      repeat' first | ((first | refine Ob.a ?_ | refine Sp.tt ?_ | refine Sp.ff ?_ | refine Sp.yes ?_ | refine Sp.no ?_ | refine Sp.nyes ?_ | refine Sp.nno ?_);conv=>whnf) | (refine Sp.ne (fun hc => ?_) (fun hc => ?_) <;> (conv=>whnf)) | (refine Sp.dec (fun hc => ?_) (fun hc => ?_) <;> (conv=>whnf)) | (refine Sp.ndec (fun hc => ?_) (fun hc => ?_) <;> (conv=>whnf)) | (refine Sp.mk (fun hc => ?_) (fun hc => ?_) <;> (conv=>whnf)) | (refine Nx.mk (fun ka kb kx hx hs => ?_) (fun he => ?_) <;> (conv=>whnf)) | (refine Nx.mk (fun ka kx hx hs => ?_) (fun he => ?_) <;> (conv=>whnf)) | (refine Uk.mk (fun hn => ?_) ?_ <;> (conv=>whnf)) | (refine Fi.a ?_;conv=>whnf) | (refine Yl.a ?_ ?_ <;> (conv=>whnf)) | (refine Ob.b ?_;conv=>whnf)
      all_goals exact ⟨rfl, ⟨(k + 1, o ++ [0]), ⟨by simp only; omega, by simp only; omega⟩, hs.symm⟩, Lf, by simp only; omega⟩
    · have e0 : o = rsL R (Int.toNat 0) := by rw [ho, show k.toNat = R.length by omega]; exact hz.symm
      conv => whnf
      repeat' first | ((first | refine Ob.a ?_ | refine Sp.tt ?_ | refine Sp.ff ?_ | refine Sp.yes ?_ | refine Sp.no ?_ | refine Sp.nyes ?_ | refine Sp.nno ?_);conv=>whnf) | (refine Sp.ne (fun hc => ?_) (fun hc => ?_) <;> (conv=>whnf)) | (refine Sp.dec (fun hc => ?_) (fun hc => ?_) <;> (conv=>whnf)) | (refine Sp.ndec (fun hc => ?_) (fun hc => ?_) <;> (conv=>whnf)) | (refine Sp.mk (fun hc => ?_) (fun hc => ?_) <;> (conv=>whnf)) | (refine Nx.mk (fun ka kb kx hx hs => ?_) (fun he => ?_) <;> (conv=>whnf)) | (refine Nx.mk (fun ka kx hx hs => ?_) (fun he => ?_) <;> (conv=>whnf)) | (refine Uk.mk (fun hn => ?_) ?_ <;> (conv=>whnf)) | (refine Fi.a ?_;conv=>whnf) | (refine Yl.a ?_ ?_ <;> (conv=>whnf)) | (refine Ob.b ?_;conv=>whnf)
      refine Lp.snap [0, 1, 4, 86] 100 ?_
      (conv=>whnf)
      refine LpB.go 87 ({q : Int × List Int // (0 ≤ q.1 ∧ q.1 ≤ n + 1) ∧ q.2 = rsL R q.1.toNat}) 0 (fun ⟨(i, o), _⟩ nx => ([(7, .d (int i)), (5, .ms 1 1 0 o.length)], [(1, .row true 2 1 o.length (rowOf int 0 o))])) (fun p => ((n : Int) + 1 - p.1.1).toNat) (⟨(0, o), ⟨by simp only; omega, by simp only; omega⟩, e0⟩) ?_ ?_
      · clear hrl hs ho e0
        rintro ⟨⟨i, o⟩, ⟨i0, i1⟩, ho⟩
        simp only at i0 i1 ho
        have hol : o.length = R.length := by rw [ho]; exact hll _
        by_cases hi : i ≤ n
        · have hvi := hv i i0 (by omega)
          have hom : ∀ m : Int, 0 ≤ m → m < R.length → o.getD (0 + m.toNat) 0 = rsI R R i.toNat m.toNat ∧ 0 ≤ o.getD (0 + m.toNat) 0 ∧ o.getD (0 + m.toNat) 0 ≤ 13000 := fun m m0 m1 => by
            have e := rsL_at (R := R) (i := i.toNat) (m := m.toNat) (by omega)
            have := rsI_rng hR i.toNat m.toNat (by omega) (by omega)
            rw [Nat.zero_add, ho, e]; exact ⟨rfl, by omega, by omega⟩
          conv => whnf
          repeat' first | ((first | refine Ob.a ?_ | refine Sp.tt ?_ | refine Sp.ff ?_ | refine Sp.yes ?_ | refine Sp.no ?_ | refine Sp.nyes ?_ | refine Sp.nno ?_);conv=>whnf) | (refine Sp.ne (fun hc => ?_) (fun hc => ?_) <;> (conv=>whnf)) | (refine Sp.dec (fun hc => ?_) (fun hc => ?_) <;> (conv=>whnf)) | (refine Sp.ndec (fun hc => ?_) (fun hc => ?_) <;> (conv=>whnf)) | (refine Sp.mk (fun hc => ?_) (fun hc => ?_) <;> (conv=>whnf)) | (refine Nx.mk (fun ka kb kx hx hs => ?_) (fun he => ?_) <;> (conv=>whnf)) | (refine Nx.mk (fun ka kx hx hs => ?_) (fun he => ?_) <;> (conv=>whnf)) | (refine Uk.mk (fun hn => ?_) ?_ <;> (conv=>whnf)) | (refine Fi.a ?_;conv=>whnf) | (refine Yl.a ?_ ?_ <;> (conv=>whnf)) | (refine Ob.b ?_;conv=>whnf)
          refine Lp.snap [0, 1, 4, 5, 7, 23, 24, 26, 27, 85, 86] 100 ?_
          (conv=>whnf)
          refine LpB.go 87 ({q : Int × List Int // (0 ≤ q.1 ∧ q.1 ≤ R.length) ∧ q.2 = rsT R (i + 1).toNat q.1.toNat}) 0 (fun ⟨(k, x), _⟩ nx => ([(9, .d (int k)), (8, .ms 5 1 0 x.length)], [(5, .row true 2 1 x.length (rowOf int 0 x))])) (fun p => (R.length - p.1.1).toNat) (⟨(0, []), ⟨by simp, by simp⟩, rfl⟩) ?_ ?_
          · rintro ⟨⟨k, x⟩, ⟨k0, k1⟩, hx⟩
            simp only at k0 k1 hx
            have hxl : x.length = k.toNat := by rw [hx]; simp [rsT]
            by_cases hk : k < R.length
            · have hvk := hv k k0 hk
              have hrg := fun m h => rsV_rng hR (i := i.toNat) (k := k.toNat) (m := m) (by omega) h
              have hsk := fun m h => rsB_skip (R := R) (i := i.toNat) (k := k.toNat) (m := m) h
              have htk := fun m h => rsB_take (R := R) (i := i.toNat) (k := k.toNat) (m := m) h
              have hend : rsT R (i + 1).toNat (k + 1).toNat = x ++ [rsV R i.toNat k.toNat R.length] := by
                rw [hx, show (k + 1).toNat = k.toNat + 1 by omega, rsT_succ, rsV_end, show (i + 1).toNat = i.toNat + 1 by omega]
              have hz0 : 0 = rsV R i.toNat k.toNat (Int.toNat 0) := rfl
              have hz1 : false = rsF R i.toNat k.toNat (Int.toNat 0) := rfl
              generalize rsV R i.toNat k.toNat = V at *
              generalize rsF R i.toNat k.toNat = G at *
              conv => whnf
              repeat' first | ((first | refine Ob.a ?_ | refine Sp.tt ?_ | refine Sp.ff ?_ | refine Sp.yes ?_ | refine Sp.no ?_ | refine Sp.nyes ?_ | refine Sp.nno ?_);conv=>whnf) | (refine Sp.ne (fun hc => ?_) (fun hc => ?_) <;> (conv=>whnf)) | (refine Sp.dec (fun hc => ?_) (fun hc => ?_) <;> (conv=>whnf)) | (refine Sp.ndec (fun hc => ?_) (fun hc => ?_) <;> (conv=>whnf)) | (refine Sp.mk (fun hc => ?_) (fun hc => ?_) <;> (conv=>whnf)) | (refine Nx.mk (fun ka kb kx hx hs => ?_) (fun he => ?_) <;> (conv=>whnf)) | (refine Nx.mk (fun ka kx hx hs => ?_) (fun he => ?_) <;> (conv=>whnf)) | (refine Uk.mk (fun hn => ?_) ?_ <;> (conv=>whnf)) | (refine Fi.a ?_;conv=>whnf) | (refine Yl.a ?_ ?_ <;> (conv=>whnf)) | (refine Ob.b ?_;conv=>whnf)
              refine Lp.snap [0, 1, 4, 5, 7, 8, 9, 23, 24, 26, 27, 28, 29, 30, 32, 33, 81, 82, 83, 84, 85, 86] 100 ?_
              (conv=>whnf)
              refine LpB.go 87 ({m : Int // 0 ≤ m ∧ m ≤ R.length}) 0 (fun ⟨m, _⟩ nx => ([(12, .d (int m)), (10, .d (int (V m.toNat))), (11, .d (bool (G m.toNat)))], [])) (fun p => (R.length - p.1).toNat) (⟨0, by omega, by omega⟩) ?_ ?_
              · clear hz0 hz1
                rintro ⟨m, m0, m1⟩
                have hr1 := hrg m.toNat (by omega)
                have hsk := hsk m.toNat
                have htk := htk m.toNat
                rw [show m.toNat + 1 = (m + 1).toNat by omega] at hsk htk
                by_cases hm : m < R.length
                · have hvm := hv m m0 hm
                  obtain ⟨o1, o2, o3⟩ := hom m m0 hm
                  unfold ab at htk
                  rw [← o1] at htk
                  by_cases hc : R.getD k.toNat 0 < R.getD m.toNat 0
                  · obtain ⟨e1, e2⟩ := hsk hc
                    have e1 := e1.symm
                    have e2 := e2.symm
                    conv => whnf
                    repeat' first | ((first | refine Ob.a ?_ | refine Sp.tt ?_ | refine Sp.ff ?_ | refine Sp.yes ?_ | refine Sp.no ?_ | refine Sp.nyes ?_ | refine Sp.nno ?_);conv=>whnf) | (refine Sp.ne (fun hc => ?_) (fun hc => ?_) <;> (conv=>whnf)) | (refine Sp.dec (fun hc => ?_) (fun hc => ?_) <;> (conv=>whnf)) | (refine Sp.ndec (fun hc => ?_) (fun hc => ?_) <;> (conv=>whnf)) | (refine Sp.mk (fun hc => ?_) (fun hc => ?_) <;> (conv=>whnf)) | (refine Nx.mk (fun ka kb kx hx hs => ?_) (fun he => ?_) <;> (conv=>whnf)) | (refine Nx.mk (fun ka kx hx hs => ?_) (fun he => ?_) <;> (conv=>whnf)) | (refine Uk.mk (fun hn => ?_) ?_ <;> (conv=>whnf)) | (refine Fi.a ?_;conv=>whnf) | (refine Yl.a ?_ ?_ <;> (conv=>whnf)) | (refine Ob.b ?_;conv=>whnf)
                    all_goals exact ⟨rfl, ⟨m + 1, by omega, by omega⟩, Lf, by simp only; omega⟩
                  · obtain ⟨e1, e2⟩ := htk hc
                    have e1 := e1.symm
                    by_cases hlt : o.getD (0 + m.toNat) 0 + max (R.getD i.toNat 0 - R.getD m.toNat 0) (R.getD m.toNat 0 - R.getD i.toNat 0) < V m.toNat
                    · rw [if_pos (.inr hlt)] at e2
                      have e2 := e2.symm
                      conv => whnf
                      generalize G m.toNat = g at *
                      cases g with
                      | false =>
                        repeat' first | ((first | refine Ob.a ?_ | refine Sp.tt ?_ | refine Sp.ff ?_ | refine Sp.yes ?_ | refine Sp.no ?_ | refine Sp.nyes ?_ | refine Sp.nno ?_);conv=>whnf) | (refine Sp.ne (fun hc => ?_) (fun hc => ?_) <;> (conv=>whnf)) | (refine Sp.dec (fun hc => ?_) (fun hc => ?_) <;> (conv=>whnf)) | (refine Sp.ndec (fun hc => ?_) (fun hc => ?_) <;> (conv=>whnf)) | (refine Sp.mk (fun hc => ?_) (fun hc => ?_) <;> (conv=>whnf)) | (refine Nx.mk (fun ka kb kx hx hs => ?_) (fun he => ?_) <;> (conv=>whnf)) | (refine Nx.mk (fun ka kx hx hs => ?_) (fun he => ?_) <;> (conv=>whnf)) | (refine Uk.mk (fun hn => ?_) ?_ <;> (conv=>whnf)) | (refine Fi.a ?_;conv=>whnf) | (refine Yl.a ?_ ?_ <;> (conv=>whnf)) | (refine Ob.b ?_;conv=>whnf)
                        all_goals exact ⟨rfl, ⟨m + 1, by omega, by omega⟩, Lf, by simp only; omega⟩
                      | true =>
                        repeat' first | ((first | refine Ob.a ?_ | refine Sp.tt ?_ | refine Sp.ff ?_ | refine Sp.yes ?_ | refine Sp.no ?_ | refine Sp.nyes ?_ | refine Sp.nno ?_);conv=>whnf) | (refine Sp.ne (fun hc => ?_) (fun hc => ?_) <;> (conv=>whnf)) | (refine Sp.dec (fun hc => ?_) (fun hc => ?_) <;> (conv=>whnf)) | (refine Sp.ndec (fun hc => ?_) (fun hc => ?_) <;> (conv=>whnf)) | (refine Sp.mk (fun hc => ?_) (fun hc => ?_) <;> (conv=>whnf)) | (refine Nx.mk (fun ka kb kx hx hs => ?_) (fun he => ?_) <;> (conv=>whnf)) | (refine Nx.mk (fun ka kx hx hs => ?_) (fun he => ?_) <;> (conv=>whnf)) | (refine Uk.mk (fun hn => ?_) ?_ <;> (conv=>whnf)) | (refine Fi.a ?_;conv=>whnf) | (refine Yl.a ?_ ?_ <;> (conv=>whnf)) | (refine Ob.b ?_;conv=>whnf)
                        all_goals exact ⟨rfl, ⟨m + 1, by omega, by omega⟩, Lf, by simp only; omega⟩
                    · conv => whnf
                      generalize G m.toNat = g at *
                      cases g with
                      | false =>
                        rw [if_pos (.inl rfl)] at e2
                        have e2 := e2.symm
                        repeat' first | ((first | refine Ob.a ?_ | refine Sp.tt ?_ | refine Sp.ff ?_ | refine Sp.yes ?_ | refine Sp.no ?_ | refine Sp.nyes ?_ | refine Sp.nno ?_);conv=>whnf) | (refine Sp.ne (fun hc => ?_) (fun hc => ?_) <;> (conv=>whnf)) | (refine Sp.dec (fun hc => ?_) (fun hc => ?_) <;> (conv=>whnf)) | (refine Sp.ndec (fun hc => ?_) (fun hc => ?_) <;> (conv=>whnf)) | (refine Sp.mk (fun hc => ?_) (fun hc => ?_) <;> (conv=>whnf)) | (refine Nx.mk (fun ka kb kx hx hs => ?_) (fun he => ?_) <;> (conv=>whnf)) | (refine Nx.mk (fun ka kx hx hs => ?_) (fun he => ?_) <;> (conv=>whnf)) | (refine Uk.mk (fun hn => ?_) ?_ <;> (conv=>whnf)) | (refine Fi.a ?_;conv=>whnf) | (refine Yl.a ?_ ?_ <;> (conv=>whnf)) | (refine Ob.b ?_;conv=>whnf)
                        all_goals exact ⟨rfl, ⟨m + 1, by omega, by omega⟩, Lf, by simp only; omega⟩
                      | true =>
                        rw [if_neg (fun h => h.elim (fun h => by cases h) hlt)] at e2
                        have e2 := e2.symm
                        repeat' first | ((first | refine Ob.a ?_ | refine Sp.tt ?_ | refine Sp.ff ?_ | refine Sp.yes ?_ | refine Sp.no ?_ | refine Sp.nyes ?_ | refine Sp.nno ?_);conv=>whnf) | (refine Sp.ne (fun hc => ?_) (fun hc => ?_) <;> (conv=>whnf)) | (refine Sp.dec (fun hc => ?_) (fun hc => ?_) <;> (conv=>whnf)) | (refine Sp.ndec (fun hc => ?_) (fun hc => ?_) <;> (conv=>whnf)) | (refine Sp.mk (fun hc => ?_) (fun hc => ?_) <;> (conv=>whnf)) | (refine Nx.mk (fun ka kb kx hx hs => ?_) (fun he => ?_) <;> (conv=>whnf)) | (refine Nx.mk (fun ka kx hx hs => ?_) (fun he => ?_) <;> (conv=>whnf)) | (refine Uk.mk (fun hn => ?_) ?_ <;> (conv=>whnf)) | (refine Fi.a ?_;conv=>whnf) | (refine Yl.a ?_ ?_ <;> (conv=>whnf)) | (refine Ob.b ?_;conv=>whnf)
                        all_goals exact ⟨rfl, ⟨m + 1, by omega, by omega⟩, Lf, by simp only; omega⟩
                · have e : V m.toNat = V R.length := by congr 1; omega
                  rw [← e] at hend
                  conv => whnf
                  repeat' first | ((first | refine Ob.a ?_ | refine Sp.tt ?_ | refine Sp.ff ?_ | refine Sp.yes ?_ | refine Sp.no ?_ | refine Sp.nyes ?_ | refine Sp.nno ?_);conv=>whnf) | (refine Sp.ne (fun hc => ?_) (fun hc => ?_) <;> (conv=>whnf)) | (refine Sp.dec (fun hc => ?_) (fun hc => ?_) <;> (conv=>whnf)) | (refine Sp.ndec (fun hc => ?_) (fun hc => ?_) <;> (conv=>whnf)) | (refine Sp.mk (fun hc => ?_) (fun hc => ?_) <;> (conv=>whnf)) | (refine Nx.mk (fun ka kb kx hx hs => ?_) (fun he => ?_) <;> (conv=>whnf)) | (refine Nx.mk (fun ka kx hx hs => ?_) (fun he => ?_) <;> (conv=>whnf)) | (refine Uk.mk (fun hn => ?_) ?_ <;> (conv=>whnf)) | (refine Fi.a ?_;conv=>whnf) | (refine Yl.a ?_ ?_ <;> (conv=>whnf)) | (refine Ob.b ?_;conv=>whnf)
                  all_goals exact ⟨rfl, ⟨(k + 1, x ++ [V m.toNat]), ⟨by simp only; omega, by simp only; omega⟩, hend.symm⟩, Lf, by simp only; omega⟩
              · exact Lf
            · have e : x = rsL R (i + 1).toNat := by rw [hx, show k.toNat = R.length by omega]; rfl
              conv => whnf
              repeat' first | ((first | refine Ob.a ?_ | refine Sp.tt ?_ | refine Sp.ff ?_ | refine Sp.yes ?_ | refine Sp.no ?_ | refine Sp.nyes ?_ | refine Sp.nno ?_);conv=>whnf) | (refine Sp.ne (fun hc => ?_) (fun hc => ?_) <;> (conv=>whnf)) | (refine Sp.dec (fun hc => ?_) (fun hc => ?_) <;> (conv=>whnf)) | (refine Sp.ndec (fun hc => ?_) (fun hc => ?_) <;> (conv=>whnf)) | (refine Sp.mk (fun hc => ?_) (fun hc => ?_) <;> (conv=>whnf)) | (refine Nx.mk (fun ka kb kx hx hs => ?_) (fun he => ?_) <;> (conv=>whnf)) | (refine Nx.mk (fun ka kx hx hs => ?_) (fun he => ?_) <;> (conv=>whnf)) | (refine Uk.mk (fun hn => ?_) ?_ <;> (conv=>whnf)) | (refine Fi.a ?_;conv=>whnf) | (refine Yl.a ?_ ?_ <;> (conv=>whnf)) | (refine Ob.b ?_;conv=>whnf)
              all_goals exact ⟨rfl, ⟨(i + 1, x), ⟨by simp only; omega, by simp only; omega⟩, e⟩, Lf, by simp only; omega⟩
          · exact Lf
        · have e : o = fin := by rw [ho, hfin]; congr 1; omega
          conv => whnf
          repeat' first | ((first | refine Ob.a ?_ | refine Sp.tt ?_ | refine Sp.ff ?_ | refine Sp.yes ?_ | refine Sp.no ?_ | refine Sp.nyes ?_ | refine Sp.nno ?_);conv=>whnf) | (refine Sp.ne (fun hc => ?_) (fun hc => ?_) <;> (conv=>whnf)) | (refine Sp.dec (fun hc => ?_) (fun hc => ?_) <;> (conv=>whnf)) | (refine Sp.ndec (fun hc => ?_) (fun hc => ?_) <;> (conv=>whnf)) | (refine Sp.mk (fun hc => ?_) (fun hc => ?_) <;> (conv=>whnf)) | (refine Nx.mk (fun ka kb kx hx hs => ?_) (fun he => ?_) <;> (conv=>whnf)) | (refine Nx.mk (fun ka kx hx hs => ?_) (fun he => ?_) <;> (conv=>whnf)) | (refine Uk.mk (fun hn => ?_) ?_ <;> (conv=>whnf)) | (refine Fi.a ?_;conv=>whnf) | (refine Yl.a ?_ ?_ <;> (conv=>whnf)) | (refine Ob.b ?_;conv=>whnf)
          all_goals exact Lf
      · exact Lf
  · exact Lf
end Go.Px.Try

/-! Bf8 -/
namespace Go.Px.Try
open Go Go.Proofs Go.Px
set_option maxRecDepth 100000
theorem bstO_congr {f g : Nat → Int} {p : Nat → Bool} (h : ∀ m, f m = g m) : ∀ M, bstO f p M = bstO g p M := fun M => by
  rw [show f = g from funext h]
theorem rsI_congr {R l l' : List Int} : ∀ i, (∀ j, j < i → l.getD j 0 = l'.getD j 0) → ∀ k, rsI R l i k = rsI R l' i k
  | 0, _, _ => rfl
  | i + 1, h, k => by
    rw [rsI, rsI, bstO_congr fun m => by rw [rsI_congr i (fun j hj => h j (by omega)) m, h i (by omega)]]
theorem mnTo_congr {f g : Nat → Int} : ∀ n, f 0 = g 0 → (∀ k, k < n → f k = g k) → mnTo f n = mnTo g n
  | 0, h, _ => h
  | n + 1, h, hk => by
    rw [mnTo, mnTo, mnTo_congr n h (fun k hk' => hk k (by omega)), hk n (by omega)]
theorem ris_take {R : List Int} {i : Nat} (h0 : 0 < R.length) (hi : i < R.length) : mnTo (fun k => (rsL R (i + 1)).getD k 0) R.length = isoS (R.take (i + 1)) := by
  have hl : (R.take (i + 1)).length = i + 1 := by rw [List.length_take]; omega
  have h1 := rs_iso (R := R) (l := R.take (i + 1)) h0 (fun x hx => List.mem_of_mem_take hx)
  rw [hl] at h1
  rw [← h1.uniq (isoS_ok _)]
  refine mnTo_congr _ ?_ (fun k hk => ?_)
  · rw [rsL_at h0]; exact rsI_congr _ (fun j hj => (getD_take hj).symm) _
  · rw [rsL_at hk]; exact rsI_congr _ (fun j hj => (getD_take hj).symm) _
theorem isoS_rng {R : List Int} (hR : RdOk R) {i : Nat} (hi : i < R.length) : 0 ≤ isoS (R.take (i + 1)) ∧ isoS (R.take (i + 1)) ≤ 12000 := by
  have h12 := hR.l12
  rw [← ris_take hR.pos hi]
  obtain ⟨k, hk, e⟩ := mnTo_at (fun k => (rsL R (i + 1)).getD k 0) R.length
  have hk : k < R.length := by have := hR.pos; omega
  rw [e, rsL_at hk]
  have := rsI_rng hR (i + 1) k (by omega) hk
  omega
theorem rdOk_rev {R : List Int} (hR : RdOk R) : RdOk R.reverse := ⟨by rw [List.length_reverse]; exact hR.l1, by rw [List.length_reverse]; exact hR.l12, fun x hx => hR.rng x (List.mem_reverse.1 hx)⟩
theorem rev_take {R : List Int} {i : Nat} : R.reverse.take (R.length - i) = (R.drop i).reverse := by
  by_cases h : i ≤ R.length
  · rw [List.reverse_drop]
  · rw [show R.length - i = 0 by omega, List.take_zero, List.drop_eq_nil_of_le (by omega)]; rfl
theorem isoN_rng {R : List Int} (hR : RdOk R) {i : Nat} (hi : i + 1 < R.length) : 0 ≤ isoS (R.drop (i + 1)).reverse ∧ isoS (R.drop (i + 1)).reverse ≤ 12000 := by
  have := isoS_rng (rdOk_rev hR) (i := R.length - 2 - i) (by rw [List.length_reverse]; omega)
  rw [show R.length - 2 - i + 1 = R.length - (i + 1) by omega, rev_take] at this
  exact this
def nbT (R : List Int) : Nat → Int
  | 0 => 1099511627776
  | i + 1 => min (nbT R i) (nearF R i)
theorem nbT_le (R : List Int) : ∀ n, nbT R n ≤ 1099511627776 ∧ (∀ k, k < n → nbT R n ≤ nearF R k) ∧ (nbT R n = 1099511627776 ∨ ∃ k, k < n ∧ nbT R n = nearF R k)
  | 0 => ⟨Int.le_refl _, fun k hk => by omega, .inl rfl⟩
  | n + 1 => by
    obtain ⟨h1, h2, h3⟩ := nbT_le R n
    rw [nbT]
    refine ⟨by omega, fun k hk => ?_, ?_⟩
    · by_cases e : k = n
      · subst e; omega
      · have := h2 k (by omega); omega
    · by_cases hc : nbT R n ≤ nearF R n
      · rw [Int.min_eq_left hc]
        rcases h3 with e | ⟨k, hk, e⟩
        · exact .inl e
        · exact .inr ⟨k, by omega, e⟩
      · rw [Int.min_eq_right (by omega)]; exact .inr ⟨n, by omega, rfl⟩
theorem nearF_rng {R : List Int} (hR : RdOk R) {i : Nat} (hi : i < R.length) : 0 ≤ nearF R i ∧ nearF R i ≤ 24000 := by
  have h1 := isoS_rng hR hi
  have e : nearF R i = isoS (R.take (i + 1)) + isoS (R.drop (i + 1)).reverse := rfl
  rw [e]
  by_cases h : i + 1 < R.length
  · have := isoN_rng hR h; omega
  · rw [List.drop_eq_nil_of_le (by omega)]
    have : isoS ([] : List Int).reverse = 0 := rfl
    rw [this]; omega
theorem nbT_end {R : List Int} (hR : RdOk R) : nbT R R.length = nearN R := by
  obtain ⟨h1, h2, h3⟩ := nbT_le R R.length
  have h0 := hR.pos
  obtain ⟨k, hk, e⟩ := mnTo_at (nearF R) R.length
  have hk : k < R.length := by omega
  have e2 : nearN R = nearF R k := e
  have hm := fun k hk => mnTo_le (nearF R) R.length k hk
  rw [e2]
  rcases h3 with e3 | ⟨j, hj, e3⟩
  · have := h2 k hk
    have := nearF_rng hR hk
    omega
  · have a1 := h2 k hk
    have a2 := hm j hj
    rw [e] at a2
    omega
set_option maxHeartbeats 16000000 in
theorem NearOf_spec (R : List Int) (hR : RdOk R) : Fn Try.prog 27 [ints R] (int (nearN R)) := by
  have h12 := hR.l12
  have h0 := hR.pos
  have hris := fun (p : Int) (a : 0 ≤ p) (b : p.toNat < R.length) => risen_spec R p.toNat hR b
  have hriv := fun (p : Int) (a : p.toNat < R.reverse.length) => risen_spec R.reverse p.toNat (rdOk_rev hR) a
  have hbk := back_spec R (by omega)
  have hfin := nbT_end hR
  have hnb : ∀ p : Int, 0 ≤ p → p < R.length → nbT R (p + 1).toNat = min (nbT R p.toNat) (nearF R p.toNat) := fun p a b => by rw [show (p + 1).toNat = p.toNat + 1 by omega, nbT]
  have hnr : ∀ p : Int, 0 ≤ p → p < R.length → 0 ≤ nearF R p.toNat ∧ nearF R p.toNat ≤ 24000 := fun p a b => nearF_rng hR (by omega)
  have hz : nbT R (Int.toNat 0) = 1099511627776 := rfl
  rw [← hfin]
  generalize hN : nbT R = N at *
  clear hN
  refine Fn.of_ex (cuts := []) tys hM Try.func27 rfl Try.call27 rfl ?_
  show exC Try.prog T [] _ false none 0 (entry 67 [ints R]) (finQ T [ResultVar.tmp 2] _)
  conv => whnf
  repeat' first | ((first | refine Ob.a ?_ | refine Sp.tt ?_ | refine Sp.ff ?_ | refine Sp.yes ?_ | refine Sp.no ?_ | refine Sp.nyes ?_ | refine Sp.nno ?_);conv=>whnf) | (refine Sp.ne (fun hc => ?_) (fun hc => ?_) <;> (conv=>whnf)) | (refine Sp.dec (fun hc => ?_) (fun hc => ?_) <;> (conv=>whnf)) | (refine Sp.ndec (fun hc => ?_) (fun hc => ?_) <;> (conv=>whnf)) | (refine Sp.mk (fun hc => ?_) (fun hc => ?_) <;> (conv=>whnf)) | (refine Nx.mk (fun ka kb kx hx hs => ?_) (fun he => ?_) <;> (conv=>whnf)) | (refine Nx.mk (fun ka kx hx hs => ?_) (fun he => ?_) <;> (conv=>whnf)) | (refine Uk.mk (fun hn => ?_) ?_ <;> (conv=>whnf)) | (refine Fi.a ?_;conv=>whnf) | (refine Yl.a ?_ ?_ <;> (conv=>whnf)) | (refine Ob.b ?_;conv=>whnf)
  refine Lp.snap [0, 2, 3, 66] 100 ?_
  (conv=>whnf)
  refine LpB.go 67 ({p : Int // 0 ≤ p ∧ p ≤ R.length}) 0 (fun ⟨p, _⟩ nx => ([(5, .d (int p)), (4, .d (int (N p.toNat)))], [])) (fun p => (R.length - p.1).toNat) (⟨0, by omega, by omega⟩) ?_ ?_
  · rintro ⟨p, p0, p1⟩
    by_cases hp : p < R.length
    · have hris := hris p p0 (by omega)
      have hnb := hnb p p0 hp
      have hnr := hnr p p0 hp
      have hAe := ris_take (i := p.toNat) h0 (by omega)
      have hAr := isoS_rng hR (i := p.toNat) (by omega)
      have hAl := rsL_len R (p.toNat + 1)
      have eF : nearF R p.toNat = isoS (R.take (p.toNat + 1)) + isoS (R.drop (p.toNat + 1)).reverse := rfl
      rw [Int.toNat_of_nonneg p0] at hris
      generalize isoS (R.take (p.toNat + 1)) = x at *
      generalize rsL R (p.toNat + 1) = A at *
      have az : A.getD (Int.toNat 0) 0 = mnTo (fun k => A.getD k 0) (Int.toNat 0) := rfl
      have as' : ∀ k : Int, 0 ≤ k → mnTo (fun k => A.getD k 0) (k + 1).toNat = min (mnTo (fun k => A.getD k 0) k.toNat) (A.getD k.toNat 0) := fun k a => by rw [show (k + 1).toNat = k.toNat + 1 by omega, mnTo]
      generalize mnTo (fun k => A.getD k 0) = X at *
      conv => whnf
      repeat' first | ((first | refine Ob.a ?_ | refine Sp.tt ?_ | refine Sp.ff ?_ | refine Sp.yes ?_ | refine Sp.no ?_ | refine Sp.nyes ?_ | refine Sp.nno ?_);conv=>whnf) | (refine Sp.ne (fun hc => ?_) (fun hc => ?_) <;> (conv=>whnf)) | (refine Sp.dec (fun hc => ?_) (fun hc => ?_) <;> (conv=>whnf)) | (refine Sp.ndec (fun hc => ?_) (fun hc => ?_) <;> (conv=>whnf)) | (refine Sp.mk (fun hc => ?_) (fun hc => ?_) <;> (conv=>whnf)) | (apply Cl.go;(conv=>whnf); (first | refine Ob.call (hris) ?_);(conv=>whnf)) | (refine Nx.mk (fun ka kb kx hx hs => ?_) (fun he => ?_) <;> (conv=>whnf)) | (refine Nx.mk (fun ka kx hx hs => ?_) (fun he => ?_) <;> (conv=>whnf)) | (refine Uk.mk (fun hn => ?_) ?_ <;> (conv=>whnf)) | (refine Fi.a ?_;conv=>whnf) | (refine Yl.a ?_ ?_ <;> (conv=>whnf)) | (refine Ob.b ?_;conv=>whnf)
      refine Lp.snap [0, 2, 3, 4, 5, 6, 9, 10, 11, 14, 15, 17, 18, 19, 20, 21, 22, 23, 24, 36, 37, 38, 40, 41, 42, 43, 44, 45, 46, 47, 48, 49, 50, 51, 53, 54, 55, 56, 57, 58, 59, 60, 61, 62, 63, 64, 65, 66] 100 ?_
      (conv=>whnf)
      refine LpB.go 67 ({k : Int // 0 ≤ k ∧ k ≤ R.length}) 0 (fun ⟨k, _⟩ nx => ([(8, .d (int k)), (7, .d (int (X k.toNat)))], [])) (fun p => (R.length - p.1).toNat) (⟨0, by omega, by omega⟩) ?_ ?_
      · rintro ⟨k, k0, k1⟩
        by_cases hk : k < R.length
        · have e := (as' k k0).symm
          conv => whnf
          repeat' first | ((first | refine Ob.a ?_ | refine Sp.tt ?_ | refine Sp.ff ?_ | refine Sp.yes ?_ | refine Sp.no ?_ | refine Sp.nyes ?_ | refine Sp.nno ?_);conv=>whnf) | (refine Sp.ne (fun hc => ?_) (fun hc => ?_) <;> (conv=>whnf)) | (refine Sp.dec (fun hc => ?_) (fun hc => ?_) <;> (conv=>whnf)) | (refine Sp.ndec (fun hc => ?_) (fun hc => ?_) <;> (conv=>whnf)) | (refine Sp.mk (fun hc => ?_) (fun hc => ?_) <;> (conv=>whnf)) | (refine Nx.mk (fun ka kb kx hx hs => ?_) (fun he => ?_) <;> (conv=>whnf)) | (refine Nx.mk (fun ka kx hx hs => ?_) (fun he => ?_) <;> (conv=>whnf)) | (refine Uk.mk (fun hn => ?_) ?_ <;> (conv=>whnf)) | (refine Fi.a ?_;conv=>whnf) | (refine Yl.a ?_ ?_ <;> (conv=>whnf)) | (refine Ob.b ?_;conv=>whnf)
          all_goals first | (exfalso; omega) | exact ⟨rfl, ⟨k + 1, by omega, by omega⟩, Lf, by simp only; omega⟩
        · have ek : X k.toNat = x := by rw [← hAe]; congr 1; omega
          by_cases hlast : p + 1 < R.length
          · have hriv := hriv (R.length - 2 - p) (by rw [List.length_reverse]; omega)
            have hBe := ris_take (R := R.reverse) (i := (R.length - 2 - p : Int).toNat) (by rw [List.length_reverse]; omega) (by rw [List.length_reverse]; omega)
            have hBr := isoN_rng hR (i := p.toNat) (by omega)
            have hBl := rsL_len R.reverse ((R.length - 2 - p : Int).toNat + 1)
            rw [List.length_reverse] at hBl hBe
            rw [show (R.length - 2 - p : Int).toNat + 1 = R.length - (p.toNat + 1) by omega, rev_take] at hBe
            rw [show (R.length - 2 - p : Int).toNat + 1 = R.length - (p.toNat + 1) by omega] at hBl hriv
            rw [Int.toNat_of_nonneg (by omega)] at hriv
            generalize isoS (R.drop (p.toNat + 1)).reverse = y at *
            generalize rsL R.reverse (R.length - (p.toNat + 1)) = B at *
            have bz : B.getD (Int.toNat 0) 0 = mnTo (fun k => B.getD k 0) (Int.toNat 0) := rfl
            have bs : ∀ k : Int, 0 ≤ k → mnTo (fun k => B.getD k 0) (k + 1).toNat = min (mnTo (fun k => B.getD k 0) k.toNat) (B.getD k.toNat 0) := fun k a => by rw [show (k + 1).toNat = k.toNat + 1 by omega, mnTo]
            generalize mnTo (fun k => B.getD k 0) = Y at *
            conv => whnf
            repeat' first | ((first | refine Ob.a ?_ | refine Sp.tt ?_ | refine Sp.ff ?_ | refine Sp.yes ?_ | refine Sp.no ?_ | refine Sp.nyes ?_ | refine Sp.nno ?_);conv=>whnf) | (refine Sp.ne (fun hc => ?_) (fun hc => ?_) <;> (conv=>whnf)) | (refine Sp.dec (fun hc => ?_) (fun hc => ?_) <;> (conv=>whnf)) | (refine Sp.ndec (fun hc => ?_) (fun hc => ?_) <;> (conv=>whnf)) | (refine Sp.mk (fun hc => ?_) (fun hc => ?_) <;> (conv=>whnf)) | (apply Cl.go;(conv=>whnf); (first | refine Ob.call (hbk) ?_ | refine Ob.call (hriv) ?_);(conv=>whnf)) | (refine Nx.mk (fun ka kb kx hx hs => ?_) (fun he => ?_) <;> (conv=>whnf)) | (refine Nx.mk (fun ka kx hx hs => ?_) (fun he => ?_) <;> (conv=>whnf)) | (refine Uk.mk (fun hn => ?_) ?_ <;> (conv=>whnf)) | (refine Fi.a ?_;conv=>whnf) | (refine Yl.a ?_ ?_ <;> (conv=>whnf)) | (refine Ob.b ?_;conv=>whnf)
            refine Lp.snap [0, 2, 3, 4, 5, 6, 7, 8, 10, 14, 15, 17, 18, 19, 20, 21, 22, 23, 24, 25, 26, 28, 29, 30, 31, 32, 33, 34, 35, 36, 37, 38, 40, 41, 42, 43, 44, 45, 46, 47, 48, 49, 61, 62, 63, 64, 65, 66] 100 ?_
            (conv=>whnf)
            refine LpB.go 67 ({k : Int // 0 ≤ k ∧ k ≤ R.length}) 0 (fun ⟨k, _⟩ nx => ([(11, .d (int k)), (9, .d (int (Y k.toNat)))], [])) (fun p => (R.length - p.1).toNat) (⟨0, by omega, by omega⟩) ?_ ?_
            · rintro ⟨j, j0, j1⟩
              by_cases hj : j < R.length
              · have e := (bs j j0).symm
                conv => whnf
                repeat' first | ((first | refine Ob.a ?_ | refine Sp.tt ?_ | refine Sp.ff ?_ | refine Sp.yes ?_ | refine Sp.no ?_ | refine Sp.nyes ?_ | refine Sp.nno ?_);conv=>whnf) | (refine Sp.ne (fun hc => ?_) (fun hc => ?_) <;> (conv=>whnf)) | (refine Sp.dec (fun hc => ?_) (fun hc => ?_) <;> (conv=>whnf)) | (refine Sp.ndec (fun hc => ?_) (fun hc => ?_) <;> (conv=>whnf)) | (refine Sp.mk (fun hc => ?_) (fun hc => ?_) <;> (conv=>whnf)) | (refine Nx.mk (fun ka kb kx hx hs => ?_) (fun he => ?_) <;> (conv=>whnf)) | (refine Nx.mk (fun ka kx hx hs => ?_) (fun he => ?_) <;> (conv=>whnf)) | (refine Uk.mk (fun hn => ?_) ?_ <;> (conv=>whnf)) | (refine Fi.a ?_;conv=>whnf) | (refine Yl.a ?_ ?_ <;> (conv=>whnf)) | (refine Ob.b ?_;conv=>whnf)
                all_goals first | (exfalso; omega) | exact ⟨rfl, ⟨j + 1, by omega, by omega⟩, Lf, by simp only; omega⟩
              · have ej : Y j.toNat = y := by rw [← hBe]; congr 1; omega
                have e : min (N p.toNat) (X k.toNat + Y j.toNat) = N (p + 1).toNat := by rw [hnb, eF, ek, ej]
                have hb1 : 0 ≤ X k.toNat + Y j.toNat ∧ X k.toNat + Y j.toNat ≤ 24000 := by rw [ek, ej]; omega
                conv => whnf
                repeat' first | ((first | refine Ob.a ?_ | refine Sp.tt ?_ | refine Sp.ff ?_ | refine Sp.yes ?_ | refine Sp.no ?_ | refine Sp.nyes ?_ | refine Sp.nno ?_);conv=>whnf) | (refine Sp.ne (fun hc => ?_) (fun hc => ?_) <;> (conv=>whnf)) | (refine Sp.dec (fun hc => ?_) (fun hc => ?_) <;> (conv=>whnf)) | (refine Sp.ndec (fun hc => ?_) (fun hc => ?_) <;> (conv=>whnf)) | (refine Sp.mk (fun hc => ?_) (fun hc => ?_) <;> (conv=>whnf)) | (refine Nx.mk (fun ka kb kx hx hs => ?_) (fun he => ?_) <;> (conv=>whnf)) | (refine Nx.mk (fun ka kx hx hs => ?_) (fun he => ?_) <;> (conv=>whnf)) | (refine Uk.mk (fun hn => ?_) ?_ <;> (conv=>whnf)) | (refine Fi.a ?_;conv=>whnf) | (refine Yl.a ?_ ?_ <;> (conv=>whnf)) | (refine Ob.b ?_;conv=>whnf)
                all_goals first | (exfalso; omega) | exact ⟨rfl, ⟨p + 1, by omega, by omega⟩, Lf, by simp only; omega⟩
            · exact Lf
          · have ed : isoS (R.drop (p.toNat + 1)).reverse = 0 := by rw [List.drop_eq_nil_of_le (by omega)]; rfl
            have e : min (N p.toNat) (X k.toNat + 0) = N (p + 1).toNat := by rw [hnb, eF, ek, ed]
            have hb1 : 0 ≤ X k.toNat ∧ X k.toNat ≤ 24000 := by rw [ek]; omega
            conv => whnf
            repeat' first | ((first | refine Ob.a ?_ | refine Sp.tt ?_ | refine Sp.ff ?_ | refine Sp.yes ?_ | refine Sp.no ?_ | refine Sp.nyes ?_ | refine Sp.nno ?_);conv=>whnf) | (refine Sp.ne (fun hc => ?_) (fun hc => ?_) <;> (conv=>whnf)) | (refine Sp.dec (fun hc => ?_) (fun hc => ?_) <;> (conv=>whnf)) | (refine Sp.ndec (fun hc => ?_) (fun hc => ?_) <;> (conv=>whnf)) | (refine Sp.mk (fun hc => ?_) (fun hc => ?_) <;> (conv=>whnf)) | (refine Nx.mk (fun ka kb kx hx hs => ?_) (fun he => ?_) <;> (conv=>whnf)) | (refine Nx.mk (fun ka kx hx hs => ?_) (fun he => ?_) <;> (conv=>whnf)) | (refine Uk.mk (fun hn => ?_) ?_ <;> (conv=>whnf)) | (refine Fi.a ?_;conv=>whnf) | (refine Yl.a ?_ ?_ <;> (conv=>whnf)) | (refine Ob.b ?_;conv=>whnf)
            all_goals first | (exfalso; omega) | exact ⟨rfl, ⟨p + 1, by omega, by omega⟩, Lf, by simp only; omega⟩
      · exact Lf
    · have e : N p.toNat = N R.length := by congr 1; omega
      conv => whnf
      repeat' first | ((first | refine Ob.a ?_ | refine Sp.tt ?_ | refine Sp.ff ?_ | refine Sp.yes ?_ | refine Sp.no ?_ | refine Sp.nyes ?_ | refine Sp.nno ?_);conv=>whnf) | (refine Sp.ne (fun hc => ?_) (fun hc => ?_) <;> (conv=>whnf)) | (refine Sp.dec (fun hc => ?_) (fun hc => ?_) <;> (conv=>whnf)) | (refine Sp.ndec (fun hc => ?_) (fun hc => ?_) <;> (conv=>whnf)) | (refine Sp.mk (fun hc => ?_) (fun hc => ?_) <;> (conv=>whnf)) | (refine Nx.mk (fun ka kb kx hx hs => ?_) (fun he => ?_) <;> (conv=>whnf)) | (refine Nx.mk (fun ka kx hx hs => ?_) (fun he => ?_) <;> (conv=>whnf)) | (refine Uk.mk (fun hn => ?_) ?_ <;> (conv=>whnf)) | (refine Fi.a ?_;conv=>whnf) | (refine Yl.a ?_ ?_ <;> (conv=>whnf)) | (refine Ob.b ?_;conv=>whnf)
      all_goals first | (exfalso; omega) | exact Lf
  · exact Lf
end Go.Px.Try
