/- Texts of this proof, joined (Law3, FrB): a small program logic over the model, and what functions of the program give. No statement of the seat is proved here. -/
import Derived.Test.YtofcdpkanjiefaaJ6
import Derived.Test.YtofcdpkanjiefaaJ3
import Derived.Test.YtofcdpkanjiefaaJ9
set_option linter.unusedVariables false
set_option linter.unusedSimpArgs false

/-! Law3 -/
namespace Go.Px.Try
open Go Go.Proofs Go.Px
set_option maxRecDepth 100000
def u8 (n : Nat) : DV := .v (.int .u8 n)
def u16 (n : Nat) : DV := .v (.int .u16 n)
def u16s (l : List Nat) : DV := slOf 1 u16 0 l
/-- One of some numbers, round. -/
def numL (by' : List Nat) (i : Nat) : Nat := by'.getD (i % by'.length) 0
set_option maxHeartbeats 4000000 in
theorem number_spec (l : List Nat) (i : Int) (h0 : 0 ≤ i) (hl : l.length ≤ 20) (hb : ∀ x ∈ l, x < 65536) : Fn Try.prog 47 [u16s l, int i] (int (numL l i.toNat)) := by
  by_cases h : l.length = 0
  · have e : numL l i.toNat = 0 := by
      have : l = [] := List.length_eq_zero_iff.1 h
      subst this; rfl
    rw [e]
    refine Fn.of_ex (cuts := []) tys hM Try.func47 rfl Try.call47 rfl ?_
    show exC Try.prog T [] _ false none 0 (entry 16 [u16s l, int i]) (finQ T [ResultVar.tmp 4] _)
    conv => whnf
    repeat' first | ((first | refine Ob.a ?_ | refine Sp.tt ?_ | refine Sp.ff ?_ | refine Sp.yes ?_ | refine Sp.no ?_ | refine Sp.nyes ?_ | refine Sp.nno ?_);conv=>whnf) | (refine Sp.ne (fun hc => ?_) (fun hc => ?_) <;> (conv=>whnf)) | (refine Sp.dec (fun hc => ?_) (fun hc => ?_) <;> (conv=>whnf)) | (refine Sp.ndec (fun hc => ?_) (fun hc => ?_) <;> (conv=>whnf)) | (refine Sp.mk (fun hc => ?_) (fun hc => ?_) <;> (conv=>whnf)) | (refine Fi.a ?_;conv=>whnf) | (refine Ob.b ?_;conv=>whnf)
    all_goals first | (exfalso; omega) | exact Lf
  · have e : numL l i.toNat = l.getD (i % (l.length : Int)).toNat 0 := by
      unfold numL
      congr 1
      have : (i % (l.length : Int)) = ((i.toNat % l.length : Nat) : Int) := by
        rw [Int.natCast_emod, Int.toNat_of_nonneg h0]
      rw [this, Int.toNat_natCast]
    rw [e]
    have h1 : 0 ≤ i % (l.length : Int) ∧ i % (l.length : Int) < l.length := ⟨Int.emod_nonneg _ (by omega), Int.emod_lt_of_pos _ (by omega)⟩
    have h2 : l.getD (i % (l.length : Int)).toNat 0 < 65536 := by
      refine hb _ ?_
      rw [List.getD_eq_getElem?_getD, List.getElem?_eq_getElem (by omega)]; exact List.getElem_mem _
    refine Fn.of_ex (cuts := []) tys hM Try.func47 rfl Try.call47 rfl ?_
    show exC Try.prog T [] _ false none 0 (entry 16 [u16s l, int i]) (finQ T [ResultVar.tmp 4] _)
    conv => whnf
    repeat' first | ((first | refine Ob.a ?_ | refine Sp.tt ?_ | refine Sp.ff ?_ | refine Sp.yes ?_ | refine Sp.no ?_ | refine Sp.nyes ?_ | refine Sp.nno ?_);conv=>whnf) | (refine Sp.ne (fun hc => ?_) (fun hc => ?_) <;> (conv=>whnf)) | (refine Sp.dec (fun hc => ?_) (fun hc => ?_) <;> (conv=>whnf)) | (refine Sp.ndec (fun hc => ?_) (fun hc => ?_) <;> (conv=>whnf)) | (refine Sp.mk (fun hc => ?_) (fun hc => ?_) <;> (conv=>whnf)) | (refine Fi.a ?_;conv=>whnf) | (refine Ob.b ?_;conv=>whnf)
    all_goals first | (exfalso; omega) | exact Lf
theorem numL_lt {l : List Nat} (hb : ∀ x ∈ l, x < 65536) (i : Nat) : numL l i < 65536 := by
  unfold numL
  rw [List.getD_eq_getElem?_getD]
  cases h : l[i % l.length]? with
  | none => show 0 < 65536; omega
  | some x => exact hb x (List.mem_of_getElem? h)
section
variable (by' : List Nat) (n p : Nat)
def cv1 (j : Nat) : Int := ((numL by' j : Nat) : Int) % 1001
def cvM : Nat → Int
  | 0 => cv1 by' p
  | i + 1 => if i = p then cvM i else max (cvM i) (cv1 by' i)
def cvD : Nat → Int
  | 0 => cvM by' p n
  | d + 1 => min (cv1 by' (p - (d + 1))) (cvD d)
def cvU : Nat → Int
  | 0 => cvM by' p n
  | d + 1 => min (cv1 by' (p + (d + 1))) (cvU d)
/-- Rows on the way. -/
def cvA (i j : Nat) : Int := if j < i then cv1 by' j else 0
def cvB (i j : Nat) : Int := if j = p then cvM by' p i else cv1 by' j
def cvC (i j : Nat) : Int := if j ≤ p then (if i ≤ j then cvD by' n p (p - j) else cv1 by' j) else cv1 by' j
def cvE (i j : Nat) : Int := if j ≤ p then cvD by' n p (p - j) else if j < i then cvU by' n p (j - p) else cv1 by' j
/-- The curve. -/
def cvL : List Int := (List.range n).map (cvE by' n p n)
end
theorem cv1_rng (b : List Nat) (j : Nat) : 0 ≤ cv1 b j ∧ cv1 b j ≤ 1000 := by unfold cv1; omega
theorem cvM_rng (b : List Nat) (p : Nat) : ∀ i, 0 ≤ cvM b p i ∧ cvM b p i ≤ 1000
  | 0 => cv1_rng b p
  | i + 1 => by
    have h1 := cvM_rng b p i
    have h2 := cv1_rng b i
    rw [cvM]; split <;> omega
theorem cvD_rng (b : List Nat) (n p : Nat) : ∀ d, 0 ≤ cvD b n p d ∧ cvD b n p d ≤ 1000
  | 0 => cvM_rng b p n
  | d + 1 => by
    have h1 := cvD_rng b n p d
    have h2 := cv1_rng b (p - (d + 1))
    rw [cvD]; omega
theorem cvU_rng (b : List Nat) (n p : Nat) : ∀ d, 0 ≤ cvU b n p d ∧ cvU b n p d ≤ 1000
  | 0 => cvM_rng b p n
  | d + 1 => by
    have h1 := cvU_rng b n p d
    have h2 := cv1_rng b (p + (d + 1))
    rw [cvU]; omega
theorem cvL_len (b : List Nat) (n p : Nat) : (cvL b n p).length = n := by simp [cvL]
theorem cvL_at {b : List Nat} {n p j : Nat} (h : j < n) : (cvL b n p).getD j 0 = cvE b n p n j := by
  unfold cvL
  rw [List.getD_eq_getElem?_getD, List.getElem?_map, List.getElem?_range h]; rfl
theorem cvL_atB {b : List Nat} {n p : Nat} : atB (cvL b n p) p := fun i i1 i2 => by
  rw [cvL_len] at i2
  rw [cvL_at (by omega), cvL_at i2]
  unfold cvE
  refine ⟨fun hp => ?_, fun hp => ?_⟩
  · rw [if_pos (by omega), if_pos hp, show p - (i - 1) = (p - i) + 1 by omega, cvD]; omega
  · rw [if_neg (by omega), if_pos i2]
    obtain ⟨d, hd⟩ : ∃ d, i - p = d + 1 := ⟨i - p - 1, by omega⟩
    rw [hd, cvU]
    by_cases h : i - 1 ≤ p
    · rw [if_pos h, show p - (i - 1) = 0 by omega, show d = 0 by omega]
      show min _ (cvM b p n) ≤ cvM b p n
      omega
    · rw [if_neg h, if_pos (by omega), show i - 1 - p = d by omega]; omega
theorem cvL_ok {R : List Int} {b : List Nat} {p : Nat} (hp : p < R.length) : CvOk R (cvL b R.length p) :=
  ⟨cvL_len _ _ _, ⟨p, by rw [cvL_len]; exact hp, cvL_atB⟩, fun x hx => by
    obtain ⟨j, hj, rfl⟩ := mem_getD hx
    rw [cvL_len] at hj
    rw [cvL_at hj]
    unfold cvE
    split
    · exact cvD_rng ..
    · exact cvU_rng ..⟩
set_option maxHeartbeats 16000000 in
theorem Curve_spec (b : List Nat) (n p : Nat) (hb : ∀ x ∈ b, x < 65536) (hl : b.length ≤ 20) (hn : n ≤ 1000) (hp : p < n) : Fn Try.prog 42 [int n, int p, u16s b] (ints (cvL b n p)) := by
  have hnum := fun i a => number_spec b i a hl hb
  have s1 : ∀ i : Int, 0 ≤ i → ∀ j, j < n → cvA b (i + 1).toNat j = if j = 0 + i.toNat then ((numL b i.toNat : Nat) : Int) % 1001 else cvA b i.toNat j := fun i i0 j hj => by
    unfold cvA
    by_cases h : j = 0 + i.toNat
    · rw [if_pos h, if_pos (by omega), h, Nat.zero_add]; rfl
    · rw [if_neg h]
      by_cases h2 : j < i.toNat
      · rw [if_pos h2, if_pos (by omega)]
      · rw [if_neg h2, if_neg (by omega)]
  have z1 : ∀ j, j < n → 0 = cvA b (Int.toNat 0) j := fun j hj => (if_neg (by have : Int.toNat 0 = 0 := rfl; omega)).symm
  have z2 : ∀ i : Int, i ≤ n → ¬ i < n → ∀ j, j < n → cvA b i.toNat j = cvB b p (Int.toNat 0) j := fun i i1 i2 j hj => by
    unfold cvA cvB
    rw [if_pos (by omega)]
    by_cases h : j = p
    · rw [if_pos h, h]; rfl
    · rw [if_neg h]
  have s2 : ∀ i : Int, 0 ≤ i → i < n → ∀ j, j < n → cvB b p (i + 1).toNat j = if j = 0 + (p : Int).toNat then max (cvB b p i.toNat (0 + (p : Int).toNat)) (cvB b p i.toNat (0 + i.toNat)) else cvB b p i.toNat j := fun i i0 i1 j hj => by
    unfold cvB
    by_cases h : j = 0 + (p : Int).toNat
    · rw [if_pos h, if_pos (by omega), if_pos (by omega), show (i + 1).toNat = i.toNat + 1 by omega, cvM]
      by_cases h2 : i.toNat = p
      · rw [if_pos h2, if_pos (by omega)]; omega
      · rw [if_neg h2, if_neg (by omega), Nat.zero_add]
    · rw [if_neg h, if_neg (by omega), if_neg (by omega)]
  have z3 : ∀ i : Int, i ≤ n → ¬ i < n → ∀ j, j < n → cvB b p i.toNat j = cvC b n p ((p : Int) - 1 + 1).toNat j := fun i i1 i2 j hj => by
    unfold cvB cvC
    rw [show i.toNat = n by omega, show ((p : Int) - 1 + 1).toNat = p by omega]
    by_cases h : j = p
    · rw [if_pos h, if_pos (by omega), if_pos (by omega), h, Nat.sub_self]; rfl
    · rw [if_neg h]
      by_cases h2 : j ≤ p
      · rw [if_pos h2, if_neg (by omega)]
      · rw [if_neg h2]
  have s3 : ∀ i : Int, 0 ≤ i → i < p → ∀ j, j < n → cvC b n p (i - 1 + 1).toNat j = if j = 0 + i.toNat then min (cvC b n p (i + 1).toNat (0 + i.toNat)) (cvC b n p (i + 1).toNat (0 + (i + 1).toNat)) else cvC b n p (i + 1).toNat j := fun i i0 i1 j hj => by
    unfold cvC
    by_cases h : j = 0 + i.toNat
    · rw [if_pos h, if_pos (by omega), if_pos (by omega), if_pos (by omega), if_neg (by omega), if_pos (by omega), if_pos (by omega), h, Nat.zero_add, Nat.zero_add, show p - i.toNat = (p - (i + 1).toNat) + 1 by omega, cvD, show p - (p - (i + 1).toNat + 1) = i.toNat by omega]
    · rw [if_neg h]
      by_cases h2 : j ≤ p
      · rw [if_pos h2, if_pos h2]
        by_cases h3 : (i + 1).toNat ≤ j
        · rw [if_pos h3, if_pos (by omega)]
        · rw [if_neg h3, if_neg (by omega)]
      · rw [if_neg h2, if_neg h2]
  have z4 : ∀ i : Int, -1 ≤ i → ¬ 0 ≤ i → ∀ j, j < n → cvC b n p (i + 1).toNat j = cvE b n p ((p : Int) + 1).toNat j := fun i i1 i2 j hj => by
    unfold cvC cvE
    by_cases h : j ≤ p
    · rw [if_pos h, if_pos h, if_pos (by omega)]
    · rw [if_neg h, if_neg h, if_neg (by omega)]
  have s4 : ∀ i : Int, (p : Int) + 1 ≤ i → i < n → ∀ j, j < n → cvE b n p (i + 1).toNat j = if j = 0 + i.toNat then min (cvE b n p i.toNat (0 + i.toNat)) (cvE b n p i.toNat (0 + (i - 1).toNat)) else cvE b n p i.toNat j := fun i i0 i1 j hj => by
    unfold cvE
    by_cases h : j = 0 + i.toNat
    · rw [if_pos h, if_neg (by omega), if_pos (by omega), if_neg (by omega), if_neg (by omega)]
      obtain ⟨d, hd⟩ : ∃ d, j - p = d + 1 := ⟨j - p - 1, by omega⟩
      rw [hd, cvU, Nat.zero_add, Nat.zero_add, show p + (d + 1) = i.toNat by omega]
      by_cases h2 : (i - 1).toNat ≤ p
      · rw [if_pos h2, show p - (i - 1).toNat = 0 by omega, show d = 0 by omega]; rfl
      · rw [if_neg h2, if_pos (by omega), show (i - 1).toNat - p = d by omega]
    · rw [if_neg h]
      by_cases h2 : j ≤ p
      · rw [if_pos h2, if_pos h2]
      · rw [if_neg h2, if_neg h2]
        by_cases h3 : j < i.toNat
        · rw [if_pos h3, if_pos (by omega)]
        · rw [if_neg h3, if_neg (by omega)]
  have hEl := cvL_len b n p
  have z5 : ∀ i : Int, i ≤ n → ¬ i < n → ∀ j, j < n → cvE b n p i.toNat j = (cvL b n p).getD j 0 := fun i i1 i2 j hj => by
    rw [cvL_at hj, show i.toNat = n by omega]
  generalize cvL b n p = fin at *
  generalize cvA b = X1 at *
  generalize cvB b p = X2 at *
  generalize cvC b n p = X3 at *
  generalize cvE b n p = X4 at *
  refine Fn.of_ex (cuts := []) tys hM Try.func42 rfl Try.call42 rfl ?_
  show exC Try.prog T [] _ false none 0 (entry 83 [int n, int p, u16s b]) (finQ T [ResultVar.tmp 6] _)
  conv => whnf
  repeat' first | ((first | refine Ob.a ?_ | refine Sp.tt ?_ | refine Sp.ff ?_ | refine Sp.yes ?_ | refine Sp.no ?_ | refine Sp.nyes ?_ | refine Sp.nno ?_);conv=>whnf) | (refine Sp.ne (fun hc => ?_) (fun hc => ?_) <;> (conv=>whnf)) | (refine Sp.dec (fun hc => ?_) (fun hc => ?_) <;> (conv=>whnf)) | (refine Sp.ndec (fun hc => ?_) (fun hc => ?_) <;> (conv=>whnf)) | (refine Sp.mk (fun hc => ?_) (fun hc => ?_) <;> (conv=>whnf)) | (refine Fi.a ?_;conv=>whnf) | (refine Ob.b ?_;conv=>whnf)
  refine Lp.snap [0, 1, 2, 6, 7, 9, 10, 11, 26, 27, 29, 30, 31, 32, 33, 34, 35, 36, 37, 38, 39, 40, 41, 42, 43, 44, 45, 47, 48, 49, 50, 51, 52, 53, 54, 55, 56, 57, 58, 59, 60, 61, 62, 63, 64, 65, 67, 68, 69, 70, 71, 72, 73, 74, 75, 76, 77, 78, 79, 80, 81, 82] 100 ?_
  (conv=>whnf)
  refine LpB.go 83 ({i : Int // 0 ≤ i ∧ i ≤ n}) 0 (fun ⟨i, _⟩ nx => ([(8, .d (int i))], [(2, .row true 2 1 n (rowF (X1 i.toNat)))])) (fun p => (n - p.1).toNat) (⟨0, by omega, by omega⟩) ?_ ?_
  · rintro ⟨i, i0, i1⟩
    by_cases hi : i < n
    · have e := s1 i i0
      have hnum := hnum i i0
      conv => whnf
      repeat' first | ((first | refine Ob.a ?_ | refine Sp.tt ?_ | refine Sp.ff ?_ | refine Sp.yes ?_ | refine Sp.no ?_ | refine Sp.nyes ?_ | refine Sp.nno ?_);conv=>whnf) | (refine Sp.ne (fun hc => ?_) (fun hc => ?_) <;> (conv=>whnf)) | (refine Sp.dec (fun hc => ?_) (fun hc => ?_) <;> (conv=>whnf)) | (refine Sp.ndec (fun hc => ?_) (fun hc => ?_) <;> (conv=>whnf)) | (refine Sp.mk (fun hc => ?_) (fun hc => ?_) <;> (conv=>whnf)) | (apply Cl.go;(conv=>whnf); (first | refine Ob.call (hnum) ?_);(conv=>whnf)) | (refine Fi.a ?_;conv=>whnf) | (refine Ob.b ?_;conv=>whnf)
      all_goals first | (exfalso; omega) | exact ⟨rfl, ⟨i + 1, by omega, by omega⟩, Lf, by simp only; omega⟩
    · have z2 := z2 i i1 hi
      conv => whnf
      repeat' first | ((first | refine Ob.a ?_ | refine Sp.tt ?_ | refine Sp.ff ?_ | refine Sp.yes ?_ | refine Sp.no ?_ | refine Sp.nyes ?_ | refine Sp.nno ?_);conv=>whnf) | (refine Sp.ne (fun hc => ?_) (fun hc => ?_) <;> (conv=>whnf)) | (refine Sp.dec (fun hc => ?_) (fun hc => ?_) <;> (conv=>whnf)) | (refine Sp.ndec (fun hc => ?_) (fun hc => ?_) <;> (conv=>whnf)) | (refine Sp.mk (fun hc => ?_) (fun hc => ?_) <;> (conv=>whnf)) | (refine Fi.a ?_;conv=>whnf) | (refine Ob.b ?_;conv=>whnf)
      all_goals try (exfalso; omega)
      refine Lp.snap [0, 1, 2, 6, 7, 10, 11, 43, 44, 45, 47, 48, 49, 50, 51, 52, 53, 54, 55, 56, 57, 58, 59, 60, 61, 62, 63, 64, 65, 67, 68, 69, 70, 71, 72, 73, 74, 75, 76, 77, 78, 79, 80, 81, 82] 100 ?_
      (conv=>whnf)
      refine LpB.go 83 ({i : Int // 0 ≤ i ∧ i ≤ n}) 0 (fun ⟨i, _⟩ nx => ([(9, .d (int i))], [(2, .row true 2 1 n (rowF (X2 i.toNat)))])) (fun p => (n - p.1).toNat) (⟨0, by omega, by omega⟩) ?_ ?_
      · rintro ⟨i, i0, i1⟩
        by_cases hi : i < n
        · have e := s2 i i0 hi
          conv => whnf
          repeat' first | ((first | refine Ob.a ?_ | refine Sp.tt ?_ | refine Sp.ff ?_ | refine Sp.yes ?_ | refine Sp.no ?_ | refine Sp.nyes ?_ | refine Sp.nno ?_);conv=>whnf) | (refine Sp.ne (fun hc => ?_) (fun hc => ?_) <;> (conv=>whnf)) | (refine Sp.dec (fun hc => ?_) (fun hc => ?_) <;> (conv=>whnf)) | (refine Sp.ndec (fun hc => ?_) (fun hc => ?_) <;> (conv=>whnf)) | (refine Sp.mk (fun hc => ?_) (fun hc => ?_) <;> (conv=>whnf)) | (refine Fi.a ?_;conv=>whnf) | (refine Ob.b ?_;conv=>whnf)
          all_goals first | (exfalso; omega) | exact ⟨rfl, ⟨i + 1, by omega, by omega⟩, Lf, by simp only; omega⟩
        · have z3 := z3 i i1 hi
          conv => whnf
          repeat' first | ((first | refine Ob.a ?_ | refine Sp.tt ?_ | refine Sp.ff ?_ | refine Sp.yes ?_ | refine Sp.no ?_ | refine Sp.nyes ?_ | refine Sp.nno ?_);conv=>whnf) | (refine Sp.ne (fun hc => ?_) (fun hc => ?_) <;> (conv=>whnf)) | (refine Sp.dec (fun hc => ?_) (fun hc => ?_) <;> (conv=>whnf)) | (refine Sp.ndec (fun hc => ?_) (fun hc => ?_) <;> (conv=>whnf)) | (refine Sp.mk (fun hc => ?_) (fun hc => ?_) <;> (conv=>whnf)) | (refine Fi.a ?_;conv=>whnf) | (refine Ob.b ?_;conv=>whnf)
          all_goals try (exfalso; omega)
          refine Lp.snap [0, 1, 2, 6, 7, 11, 62, 63, 64, 65, 67, 68, 69, 70, 71, 72, 73, 74, 75, 76, 77, 78, 79, 80, 81, 82] 100 ?_
          (conv=>whnf)
          refine LpB.go 83 ({i : Int // -1 ≤ i ∧ i ≤ (p : Int) - 1}) 0 (fun ⟨i, _⟩ nx => ([(10, .d (int i))], [(2, .row true 2 1 n (rowF (X3 (i + 1).toNat)))])) (fun p => (p.1 + 1).toNat) (⟨(p : Int) - 1, by omega, by omega⟩) ?_ ?_
          · rintro ⟨i, i0, i1⟩
            by_cases hi : 0 ≤ i
            · have e := s3 i hi (by omega)
              conv => whnf
              repeat' first | ((first | refine Ob.a ?_ | refine Sp.tt ?_ | refine Sp.ff ?_ | refine Sp.yes ?_ | refine Sp.no ?_ | refine Sp.nyes ?_ | refine Sp.nno ?_);conv=>whnf) | (refine Sp.ne (fun hc => ?_) (fun hc => ?_) <;> (conv=>whnf)) | (refine Sp.dec (fun hc => ?_) (fun hc => ?_) <;> (conv=>whnf)) | (refine Sp.ndec (fun hc => ?_) (fun hc => ?_) <;> (conv=>whnf)) | (refine Sp.mk (fun hc => ?_) (fun hc => ?_) <;> (conv=>whnf)) | (refine Fi.a ?_;conv=>whnf) | (refine Ob.b ?_;conv=>whnf)
              all_goals first | (exfalso; omega) | exact ⟨rfl, ⟨i - 1, by omega, by omega⟩, Lf, by simp only; omega⟩
            · have z4 := z4 i i0 hi
              conv => whnf
              repeat' first | ((first | refine Ob.a ?_ | refine Sp.tt ?_ | refine Sp.ff ?_ | refine Sp.yes ?_ | refine Sp.no ?_ | refine Sp.nyes ?_ | refine Sp.nno ?_);conv=>whnf) | (refine Sp.ne (fun hc => ?_) (fun hc => ?_) <;> (conv=>whnf)) | (refine Sp.dec (fun hc => ?_) (fun hc => ?_) <;> (conv=>whnf)) | (refine Sp.ndec (fun hc => ?_) (fun hc => ?_) <;> (conv=>whnf)) | (refine Sp.mk (fun hc => ?_) (fun hc => ?_) <;> (conv=>whnf)) | (refine Fi.a ?_;conv=>whnf) | (refine Ob.b ?_;conv=>whnf)
              all_goals try (exfalso; omega)
              refine Lp.snap [0, 1, 2, 6, 7, 82] 100 ?_
              (conv=>whnf)
              refine LpB.go 83 ({i : Int // (p : Int) + 1 ≤ i ∧ i ≤ n}) 0 (fun ⟨i, _⟩ nx => ([(11, .d (int i))], [(2, .row true 2 1 n (rowF (X4 i.toNat)))])) (fun p => (n - p.1).toNat) (⟨(p : Int) + 1, by omega, by omega⟩) ?_ ?_
              · rintro ⟨i, i0, i1⟩
                by_cases hi : i < n
                · have e := s4 i i0 hi
                  conv => whnf
                  repeat' first | ((first | refine Ob.a ?_ | refine Sp.tt ?_ | refine Sp.ff ?_ | refine Sp.yes ?_ | refine Sp.no ?_ | refine Sp.nyes ?_ | refine Sp.nno ?_);conv=>whnf) | (refine Sp.ne (fun hc => ?_) (fun hc => ?_) <;> (conv=>whnf)) | (refine Sp.dec (fun hc => ?_) (fun hc => ?_) <;> (conv=>whnf)) | (refine Sp.ndec (fun hc => ?_) (fun hc => ?_) <;> (conv=>whnf)) | (refine Sp.mk (fun hc => ?_) (fun hc => ?_) <;> (conv=>whnf)) | (refine Fi.a ?_;conv=>whnf) | (refine Ob.b ?_;conv=>whnf)
                  all_goals first | (exfalso; omega) | exact ⟨rfl, ⟨i + 1, by omega, by omega⟩, Lf, by simp only; omega⟩
                · have e := z5 i i1 hi
                  have e2 : (n : Int).toNat = fin.length := by omega
                  conv => whnf
                  repeat' first | ((first | refine Ob.a ?_ | refine Sp.tt ?_ | refine Sp.ff ?_ | refine Sp.yes ?_ | refine Sp.no ?_ | refine Sp.nyes ?_ | refine Sp.nno ?_);conv=>whnf) | (refine Sp.ne (fun hc => ?_) (fun hc => ?_) <;> (conv=>whnf)) | (refine Sp.dec (fun hc => ?_) (fun hc => ?_) <;> (conv=>whnf)) | (refine Sp.ndec (fun hc => ?_) (fun hc => ?_) <;> (conv=>whnf)) | (refine Sp.mk (fun hc => ?_) (fun hc => ?_) <;> (conv=>whnf)) | (refine Fi.a ?_;conv=>whnf) | (refine Ob.b ?_;conv=>whnf)
                  all_goals first | (exfalso; omega) | exact Lf
              · exact Lf
          · exact Lf
      · exact Lf
  · have e := z1
    conv => whnf
    repeat' first | (refine Edge.fast ?_) | ((conv=>whnf); first | exact True.intro | (refine And.intro ?_ ?_) | exact rfl | exact Nat.le_of_eq (Nat.zero_add _) | exact ImpS.refl _ | ((conv => arg 1; whnf); first | exact ImpS.refl _ | (refine ImpS.nil_eq ?_) | (refine ImpS.vnil_eq ?_) | (refine ImpS.row ?_) | (refine ImpS.rowN ?_ ?_) | (refine ImpS.sl_eq ?_) | (refine ImpS.expl rfl ?_)) | (refine row_snoc' ?_) | exact MImp.refl _ | exact cimp_none | exact cimp_same | exact List.not_mem_nil | exact DImp.refl _) | exact rfl | (refine And.intro ?_ ?_) | exact ImpS.refl _
    all_goals first | omega | skip
    refine rowF_const (x := 0) ?_ e
    exact Lf
end Go.Px.Try

/-! FrB -/
namespace Go.Px.Try
open Go Go.Proofs Go.Px
theorem own : ownKnob Try.prog.godebug = none := by kernel_rfl
theorem laidOut : laidOutB Try.prog = true := by kernel_rfl
def I64 (n : Int) : Prop := (Lit.int .i64 n).wf = true
theorem I64_rng {n : Int} (h : I64 n) : -9223372036854775808 ≤ n ∧ n ≤ 9223372036854775807 := by
  simp only [I64, Lit.wf, IntKind.min, IntKind.max, Bool.and_eq_true, decide_eq_true_eq] at h
  have h1 := h.1
  have h2 := h.2
  simp [IntKind.signed, IntKind.bits] at h1 h2
  omega
theorem opnInts : Opn true Try.prog 22 (fun l : List Int => [ints l]) (fun l => (∀ n ∈ l, I64 n) ∧ l.length ≤ maxLen) :=
  Opn.slice (k := 1) Try.underlying22 (by kernel_rfl) (by decide) (fun _ => rfl) (fun a x hx => by simp at hx; rcases hx with rfl; trivial) 0 (Opn.int Try.underlying2)
set_option maxRecDepth 100000 in
theorem ints_arg {H : Type} {enc : TypeId × Value → H} {w : World} {base : Nat} {v : Value} {d : DataW H} {ps : List MemPlace} (ht : DataW.Trod enc Try.prog w 0 (fun _ => true) true 22 v d ps) (hv : Value.okWide Try.prog w .any base 22 v) :
    ∃ l : List Int, ((∀ n ∈ l, I64 n) ∧ l.length ≤ maxLen) ∧ Rep (All w) w (ints l) v := by
  have hs := plain_slice Try.underlying22 hv
  obtain ⟨a, len, cap, rfl⟩ := Go.WideShapes.okWide_slice Try.underlying22 hv
  obtain ⟨l, hg, hc⟩ := Opn.arg opnInts ht fun _ => hs
  exact ⟨l, hg, hc.one rfl⟩
set_option maxRecDepth 100000 in
theorem int_arg {H : Type} {enc : TypeId × Value → H} {w : World} {base : Nat} {v : Value} {d : DataW H} {ps : List MemPlace} (ht : DataW.Trod enc Try.prog w 0 (fun _ => true) true 3 v d ps) (hv : Value.okWide Try.prog w .any base 3 v) :
    ∃ n : Int, (-9223372036854775808 ≤ n ∧ n ≤ 9223372036854775807) ∧ Rep (All w) w (int n) v := by
  obtain ⟨n, hg, hc⟩ := Opn.arg (Opn.int (q := false) Try.underlying3) ht fun h => by cases h
  obtain ⟨k, rfl⟩ := Go.WideShapes.okWide_int Try.underlying3 hv
  exact ⟨n, I64_rng hg, hc.one rfl⟩
set_option maxRecDepth 100000 in
theorem u16_arg {H : Type} {enc : TypeId × Value → H} {w : World} {base : Nat} {v : Value} {d : DataW H} {ps : List MemPlace} (ht : DataW.Trod enc Try.prog w 0 (fun _ => true) true 54 v d ps) (hv : Value.okWide Try.prog w .any base 54 v) :
    ∃ n : Nat, n < 65536 ∧ Rep (All w) w (u16 n) v := by
  obtain ⟨n, hg, hc⟩ := Opn.arg (Opn.int (q := false) Try.underlying54) ht fun h => by cases h
  obtain ⟨k, rfl⟩ := Go.WideShapes.okWide_int Try.underlying54 hv
  have hr := hc.one rfl
  simp only [Lit.wf, IntKind.min, IntKind.max, Bool.and_eq_true, decide_eq_true_eq] at hg
  have hn : n = (n.toNat : Int) := by have := hg.1; simp [IntKind.signed] at this; omega
  refine ⟨n.toNat, by have := hg.2; simp [IntKind.signed, IntKind.bits] at this; omega, ?_⟩
  rw [hn] at hr; exact hr
set_option maxRecDepth 100000 in
theorem u8_arg {H : Type} {enc : TypeId × Value → H} {w : World} {base : Nat} {v : Value} {d : DataW H} {ps : List MemPlace} (ht : DataW.Trod enc Try.prog w 0 (fun _ => true) true 5 v d ps) (hv : Value.okWide Try.prog w .any base 5 v) :
    ∃ n : Nat, n < 256 ∧ Rep (All w) w (u8 n) v := by
  obtain ⟨n, hg, hc⟩ := Opn.arg (Opn.int (q := false) Try.underlying5) ht fun h => by cases h
  obtain ⟨k, rfl⟩ := Go.WideShapes.okWide_int Try.underlying5 hv
  have hr := hc.one rfl
  simp only [Lit.wf, IntKind.min, IntKind.max, Bool.and_eq_true, decide_eq_true_eq] at hg
  have hn : n = (n.toNat : Int) := by have := hg.1; simp [IntKind.signed] at this; omega
  refine ⟨n.toNat, by have := hg.2; simp [IntKind.signed, IntKind.bits] at this; omega, ?_⟩
  rw [hn] at hr; exact hr
set_option maxRecDepth 100000 in
theorem long_arg {H : Type} {enc : TypeId × Value → H} {w : World} {base : Nat} {v : Value} {d : DataW H} {ps : List MemPlace} (ht : DataW.Trod enc Try.prog w 0 (fun _ => true) true 2 v d ps) (hv : Value.okWide Try.prog w .any base 2 v) :
    ∃ n : Int, (-9223372036854775808 ≤ n ∧ n ≤ 9223372036854775807) ∧ Rep (All w) w (int n) v := by
  obtain ⟨n, hg, hc⟩ := Opn.arg (Opn.int (q := false) Try.underlying2) ht fun h => by cases h
  obtain ⟨k, rfl⟩ := Go.WideShapes.okWide_int Try.underlying2 hv
  exact ⟨n, I64_rng hg, hc.one rfl⟩
def U16 (n : Int) : Prop := (Lit.int .u16 n).wf = true
theorem U16_rng {n : Int} (h : U16 n) : 0 ≤ n ∧ n < 65536 := by
  simp only [U16, Lit.wf, IntKind.min, IntKind.max, Bool.and_eq_true, decide_eq_true_eq] at h
  have h1 := h.1
  have h2 := h.2
  simp [IntKind.signed, IntKind.bits] at h1 h2
  omega
theorem opnU16s : Opn true Try.prog 49 (fun l : List Int => [slOf 1 (fun n => .v (.int .u16 n)) 0 l]) (fun l => (∀ n ∈ l, U16 n) ∧ l.length ≤ maxLen) :=
  Opn.slice (k := 1) Try.underlying49 (by kernel_rfl) (by decide) (fun _ => rfl) (fun a x hx => by simp at hx; rcases hx with rfl; trivial) 0 (Opn.int (q := false) Try.underlying54)
set_option maxRecDepth 100000 in
theorem u16s_arg {H : Type} {enc : TypeId × Value → H} {w : World} {base : Nat} {v : Value} {d : DataW H} {ps : List MemPlace} (ht : DataW.Trod enc Try.prog w 0 (fun _ => true) true 49 v d ps) (hv : Value.okWide Try.prog w .any base 49 v) :
    ∃ l : List Nat, ((∀ x ∈ l, x < 65536) ∧ l.length ≤ maxLen) ∧ Rep (All w) w (u16s l) v := by
  have hs := plain_slice Try.underlying49 hv
  obtain ⟨a, len, cap, rfl⟩ := Go.WideShapes.okWide_slice Try.underlying49 hv
  obtain ⟨l, hg, hc⟩ := Opn.arg opnU16s ht fun _ => hs
  refine ⟨l.map Int.toNat, ⟨fun x hx => ?_, by rw [List.length_map]; exact hg.2⟩, ?_⟩
  · obtain ⟨y, hy, rfl⟩ := List.mem_map.1 hx
    have := U16_rng (hg.1 y hy); omega
  · have hr := hc.one rfl
    have e : u16s (l.map Int.toNat) = slOf 1 (fun n => .v (.int .u16 n)) 0 l := by
      unfold u16s slOf
      rw [List.length_map]
      congr 1
      funext i
      rw [List.getD_eq_getElem?_getD, List.getD_eq_getElem?_getD, List.getElem?_map]
      cases h : l[i]? with
      | none => rfl
      | some y =>
        have := U16_rng (hg.1 y (List.mem_of_getElem? h))
        show DV.v (.int .u16 ((y.toNat : Nat) : Int)) = .v (.int .u16 y)
        rw [Int.toNat_of_nonneg this.1]
    rw [e]; exact hr
set_option maxRecDepth 100000 in
theorem bool_arg {H : Type} {enc : TypeId × Value → H} {w : World} {base : Nat} {v : Value} {d : DataW H} {ps : List MemPlace} (ht : DataW.Trod enc Try.prog w 0 (fun _ => true) true 4 v d ps) (hv : Value.okWide Try.prog w .any base 4 v) :
    ∃ b : Bool, True ∧ Rep (All w) w (bool b) v := by
  obtain ⟨b, rfl, _, _⟩ := RowKit.open_bool Try.underlying4 hv ht
  exact ⟨b, trivial, rfl⟩
end Go.Px.Try
