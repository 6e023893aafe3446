/- The statement BiteFound: by Next the peak of a row that rises and falls strictly is found by no more tastes than are needed: all of them are as Tastes says, if the first one is chosen well. Conditions: none. -/
import Derived.Test.YtofcdpkanjiefaaJ6
import Derived.Test.YtofcdpkanjiefaaJ10
import Derived.Test.YtofcdpkanjiefaaRows
set_option linter.unusedVariables false
set_option linter.unusedSimpArgs false
/-! Bm14 -/
namespace Go.Px.Try
open Go Go.Proofs Go.Px
def hgU (N : Nat → Int) (t : Nat) : Nat → Int
  | 0 => 1073741824
  | k + 1 => hgU N t k - 1 - N (t + k + 1)
def hgD (N : Nat → Int) (t : Nat) : Nat → Int
  | 0 => 1073741824
  | k + 1 => hgD N t k - 1 - N (t - (k + 1))
/-- The height at a place. -/
def hgt (N : Nat → Int) (t j : Nat) : Int := if t ≤ j then hgU N t (j - t) else hgD N t (t - j)
theorem hgU_rng {N : Nat → Int} (hN : ∀ i, 0 ≤ N i ∧ N i < 65536) (t : Nat) : ∀ k : Nat, 1073741824 - 65536 * (k : Int) ≤ hgU N t k ∧ hgU N t k ≤ 1073741824
  | 0 => by rw [hgU]; omega
  | k + 1 => by
    have h := hgU_rng hN t k
    have h2 := hN (t + k + 1)
    rw [hgU]; omega
theorem hgD_rng {N : Nat → Int} (hN : ∀ i, 0 ≤ N i ∧ N i < 65536) (t : Nat) : ∀ k : Nat, 1073741824 - 65536 * (k : Int) ≤ hgD N t k ∧ hgD N t k ≤ 1073741824
  | 0 => by rw [hgD]; omega
  | k + 1 => by
    have h := hgD_rng hN t k
    have h2 := hN (t - (k + 1))
    rw [hgD]; omega
theorem hgt_rng {N : Nat → Int} (hN : ∀ i, 0 ≤ N i ∧ N i < 65536) {t j : Nat} (ht : t < 31) (hj : j < 31) : 0 ≤ hgt N t j ∧ hgt N t j ≤ 1073741824 := by
  unfold hgt
  split
  · have := hgU_rng hN t (j - t); omega
  · have := hgD_rng hN t (t - j); omega
theorem hgt_top (N : Nat → Int) (t : Nat) : hgt N t t = 1073741824 := by
  unfold hgt; rw [if_pos (Nat.le_refl _), Nat.sub_self]; rfl
theorem hgt_up {N : Nat → Int} {t i : Nat} (h : t < i) : hgt N t i = hgt N t (i - 1) - 1 - N i := by
  unfold hgt
  rw [if_pos (by omega), if_pos (by omega), show i - t = i - 1 - t + 1 by omega, hgU, show t + (i - 1 - t) + 1 = i by omega]
theorem hgt_dn {N : Nat → Int} {t i : Nat} (h : i < t) : hgt N t i = hgt N t (i + 1) - 1 - N i := by
  have e : hgt N t i = hgD N t (t - i) := if_neg (by omega)
  rw [e, show t - i = t - (i + 1) + 1 by omega, hgD, show t - (t - (i + 1) + 1) = i by omega]
  congr 2
  by_cases h2 : t = i + 1
  · rw [← h2, hgt_top, Nat.sub_self]; rfl
  · exact (if_neg (by omega)).symm
theorem hgt_fall {N : Nat → Int} (hN : ∀ i, 0 ≤ N i ∧ N i < 65536) {t i : Nat} (h : t ≤ i) : ∀ k, hgt N t (i + k + 1) < hgt N t i
  | 0 => by
    have h1 := hgt_up (N := N) (t := t) (i := i + 0 + 1) (by omega)
    have h2 := hN (i + 0 + 1)
    rw [show i + 0 + 1 - 1 = i by omega] at h1; omega
  | k + 1 => by
    have h0 := hgt_fall hN h k
    have h1 := hgt_up (N := N) (t := t) (i := i + (k + 1) + 1) (by omega)
    have h2 := hN (i + (k + 1) + 1)
    rw [show i + (k + 1) + 1 - 1 = i + k + 1 by omega] at h1; omega
theorem hgt_rise {N : Nat → Int} (hN : ∀ i, 0 ≤ N i ∧ N i < 65536) {t j : Nat} (h : j ≤ t) : ∀ k, k + 1 ≤ j → hgt N t (j - (k + 1)) < hgt N t j
  | 0, hk => by
    have h1 := hgt_dn (N := N) (t := t) (i := j - (0 + 1)) (by omega)
    have h2 := hN (j - (0 + 1))
    rw [show j - (0 + 1) + 1 = j by omega] at h1; omega
  | k + 1, hk => by
    have h0 := hgt_rise hN h k (by omega)
    have h1 := hgt_dn (N := N) (t := t) (i := j - (k + 1 + 1)) (by omega)
    have h2 := hN (j - (k + 1 + 1))
    rw [show j - (k + 1 + 1) + 1 = j - (k + 1) by omega] at h1; omega
/-- The row while it is laid: upwards from the peak, then downwards. -/
def r1F (N : Nat → Int) (t i j : Nat) : Int := if t ≤ j ∧ j < i then hgt N t j else 0
def r2F (N : Nat → Int) (t m j : Nat) : Int := if m ≤ j then hgt N t j else 0
theorem r1F_top (N : Nat → Int) (t j : Nat) : r1F N t (t + 1) j = if j = 0 + t then 1073741824 else 0 := by
  unfold r1F
  by_cases h : j = t
  · rw [if_pos (by omega), if_pos (by omega), h, hgt_top]
  · rw [if_neg (by omega), if_neg (by omega)]
theorem r1F_at {N : Nat → Int} {t i j : Nat} (h : t ≤ j) (h2 : j < i) : r1F N t i (0 + j) = hgt N t j := by
  unfold r1F; rw [Nat.zero_add, if_pos ⟨h, h2⟩]
theorem r2F_at {N : Nat → Int} {t m j : Nat} (h : m ≤ j) : r2F N t m (0 + j) = hgt N t j := by
  unfold r2F; rw [Nat.zero_add, if_pos h]
theorem r1F_succ {N : Nat → Int} {t i : Nat} (h : t < i) (j : Nat) : r1F N t (i + 1) j = if j = 0 + i then hgt N t (i - 1) - 1 - N i else r1F N t i j := by
  unfold r1F
  by_cases e : j = i
  · rw [if_pos (by omega), if_pos (by omega), e, hgt_up h]
  · rw [if_neg (show ¬ j = 0 + i by omega)]
    by_cases h3 : t ≤ j ∧ j < i
    · rw [if_pos h3, if_pos (by omega)]
    · rw [if_neg h3, if_neg (by omega)]
theorem r2F_of {N : Nat → Int} {t n j : Nat} (hj : j < n) : r1F N t n j = r2F N t t j := by
  unfold r1F r2F
  by_cases h : t ≤ j
  · rw [if_pos ⟨h, hj⟩, if_pos h]
  · rw [if_neg (by omega), if_neg h]
theorem r2F_succ {N : Nat → Int} {t i : Nat} (h : i < t) (j : Nat) : r2F N t i j = if j = 0 + i then hgt N t (i + 1) - 1 - N i else r2F N t (i + 1) j := by
  unfold r2F
  by_cases e : j = i
  · rw [if_pos (by omega), if_pos (by omega), e, hgt_dn h]
  · rw [if_neg (show ¬ j = 0 + i by omega)]
    by_cases h3 : i + 1 ≤ j
    · rw [if_pos h3, if_pos (by omega)]
    · rw [if_neg h3, if_neg (by omega)]
/-- The first place from which the fewest tastes are needed. -/
def atL (n : Nat) : Nat → Int × Int
  | 0 => (-1, n)
  | i + 1 => if ((nd i (n - 1 - i) : Nat) : Int) < (atL n i).2 then ((i : Int), ((nd i (n - 1 - i) : Nat) : Int)) else atL n i
theorem atL_spec {n : Nat} (h0 : 0 < n) (h : n ≤ 61) : ∀ i, i ≤ n → (-1 ≤ (atL n i).1 ∧ (atL n i).1 < i ∧ 0 ≤ (atL n i).2 ∧ (atL n i).2 ≤ n) ∧ (∀ l, l < i → (atL n i).2 ≤ ((nd l (n - 1 - l) : Nat) : Int)) ∧ (0 < i → 0 ≤ (atL n i).1 ∧ (atL n i).2 = ((nd (atL n i).1.toNat (n - 1 - (atL n i).1.toNat) : Nat) : Int))
  | 0, _ => ⟨by show (-1 : Int) ≤ -1 ∧ (-1 : Int) < ((0 : Nat) : Int) ∧ (0 : Int) ≤ n ∧ (n : Int) ≤ n; omega, fun l hl => by omega, fun h => by omega⟩
  | i + 1, hi => by
    obtain ⟨h1, h2, h3⟩ := atL_spec h0 h i (by omega)
    have b := (nd_facts (a := i) (b := n - 1 - i) (by omega)).2.2.1
    rw [atL]
    by_cases hc : ((nd i (n - 1 - i) : Nat) : Int) < (atL n i).2
    · rw [if_pos hc]
      refine ⟨⟨by simp only; omega, by simp only; omega, by simp only; omega, by simp only; omega⟩, fun l hl => ?_, fun _ => ⟨by simp only; omega, by simp only [Int.toNat_natCast]⟩⟩
      by_cases e : l = i
      · subst e; exact Int.le_refl _
      · have := h2 l (by omega)
        simp only; omega
    · rw [if_neg hc]
      refine ⟨by omega, fun l hl => ?_, fun _ => ?_⟩
      · by_cases e : l = i
        · subst e; omega
        · exact h2 l (by omega)
      · by_cases hz : 0 < i
        · exact h3 hz
        · obtain rfl : i = 0 := by omega
          exfalso
          have : (atL n 0).2 = n := rfl
          omega
end Go.Px.Try

/-! LwFound -/
namespace Go.Px.Try
open Go Go.Proofs Go.Px
set_option maxRecDepth 100000
theorem nxt_left {l r d : Int} (h : NxtOk l r d) (hd : d < 0) : nd (l + d).toNat (0 - d - 1).toNat < nd l.toNat r.toNat ∧ nd (0 - d - 1).toNat r.toNat < nd l.toNat r.toNat := by
  have h1 := h.lt
  have h2 := h.lo
  unfold afK afL at h1
  rw [if_pos (by omega), show l.toNat - (d + l).toNat - 1 = (0 - d - 1).toNat by omega, show l.toNat - ((0 - d - 1).toNat + 1) = (l + d).toNat by omega] at h1
  omega
theorem nxt_right {l r d : Int} (h0 : 0 ≤ l) (h : NxtOk l r d) (hd : 0 < d) : nd (d - 1).toNat (r - d).toNat < nd l.toNat r.toNat ∧ nd l.toNat (d - 1).toNat < nd l.toNat r.toNat := by
  have h1 := h.lt
  have h2 := h.hi
  unfold afK afR at h1
  rw [if_neg (by omega), show (d + l).toNat - l.toNat - 1 = (d - 1).toNat by omega, show r.toNat - ((d - 1).toNat + 1) = (r - d).toNat by omega] at h1
  omega
theorem atL_tst {n : Nat} (h : 2 ≤ n) (h2 : n ≤ 61) : 0 ≤ (atL n n).1 ∧ (atL n n).1 < n ∧ (atL n n).2 + 1 = ((tst n : Nat) : Int) ∧ (atL n n).2 = ((nd (atL n n).1.toNat (n - 1 - (atL n n).1.toNat) : Nat) : Int) ∧ tst n ≤ n := by
  obtain ⟨a1, a2, a3⟩ := atL_spec (by omega) h2 n (Nat.le_refl _)
  obtain ⟨a3, a4⟩ := a3 (by omega)
  obtain ⟨t1, t2, t3⟩ := tsTo_spec n n
  have e : tst n = tsTo n n := if_neg (by omega)
  have hb := (nd_facts (a := (atL n n).1.toNat) (b := n - 1 - (atL n n).1.toNat) (by omega)).2.2.1
  have t2 := t2 (atL n n).1.toNat (by omega)
  refine ⟨a3, a1.2.1, ?_, a4, by omega⟩
  rw [e]
  rcases t3 with t3 | ⟨l, hl, t3⟩
  · omega
  · have := a2 l hl
    omega
set_option maxHeartbeats 32000000 in
theorem BiteFound_spec (pl pk : Nat) (b : List Nat) (hpl : pl < 256) (hpk : pk < 256) (hb : (∀ x ∈ b, x < 65536) ∧ b.length ≤ maxLen) :
    Fn Try.prog 13 [u8 pl, u8 pk, u16s b] (bool true) := by
  have hw := Works_spec
  by_cases hbl : 20 < (b.length : Int)
  · refine Fn.of_ex (cuts := []) tys hM Try.func13 rfl Try.call13 rfl ?_
    show exC Try.prog T [] _ false none 0 (entry 258 [u8 pl, u8 pk, u16s b]) (finQ T [ResultVar.tmp 6] _)
    conv => whnf
    repeat' first | ((first | refine Ob.a ?_ | refine Sp.tt ?_ | refine Sp.ff ?_ | refine Sp.yes ?_ | refine Sp.no ?_ | refine Sp.nyes ?_ | refine Sp.nno ?_);conv=>whnf) | (refine Sp.ne (fun hc => ?_) (fun hc => ?_) <;> (conv=>whnf)) | (refine Sp.dec (fun hc => ?_) (fun hc => ?_) <;> (conv=>whnf)) | (refine Sp.ndec (fun hc => ?_) (fun hc => ?_) <;> (conv=>whnf)) | (refine Sp.mk (fun hc => ?_) (fun hc => ?_) <;> (conv=>whnf)) | (apply Cl.go;(conv=>whnf); (first | refine Ob.call (hw) ?_);(conv=>whnf)) | (refine Fi.a ?_;conv=>whnf) | (refine Ob.b ?_;conv=>whnf)
    all_goals first | (exfalso; omega) | exact Lf
  obtain ⟨n, hn⟩ : ∃ n : Nat, 1 + pl % 31 = n := ⟨_, rfl⟩
  have hn0 : 1 + (pl : Int) % 31 = n := by omega
  have hn1 : 1 ≤ n ∧ n ≤ 31 := by omega
  obtain ⟨t, ht⟩ : ∃ t : Nat, pk % n = t := ⟨_, rfl⟩
  have ht0 : (pk : Int) % (n : Int) = t := by rw [← Int.natCast_emod, ht]
  have hm0 : 0 ≤ (pk : Int) % (1 + (pl : Int) % 31) ∧ (pk : Int) % (1 + (pl : Int) % 31) < 1 + (pl : Int) % 31 := ⟨Int.emod_nonneg _ (by omega), Int.emod_lt_of_pos _ (by omega)⟩
  have hm1 : (pk : Int) % (1 + (pl : Int) % 31) = t := by rw [hn0]; exact ht0
  have ht1 : t < n := by rw [← ht]; exact Nat.mod_lt _ (by omega)
  have hnum := fun i a => number_spec b i a (by omega) hb.1
  have hN : ∀ i, (0 : Int) ≤ (numL b i : Int) ∧ (numL b i : Int) < 65536 := fun i => by
    refine ⟨by omega, ?_⟩
    have : numL b i < 65536 := by
      unfold numL
      rw [List.getD_eq_getElem?_getD]
      cases h : b[i % b.length]? with
      | none => exact (by decide : 0 < 65536)
      | some y => exact hb.1 y (List.mem_of_getElem? h)
    omega
  have ta := TastesP_spec n
  rw [show tastesR n = (((tst n : Nat) : Int), 0) by unfold tastesR; rw [if_neg (by omega), Int.toNat_natCast]] at ta
  simp only at ta
  have hrg := fun j : Nat => hgt_rng (N := fun i => (numL b i : Int)) (t := t) (j := j) hN (by omega)
  have hfall : Hid _ := ⟨fun i : Nat => hgt_fall (N := fun i => (numL b i : Int)) (t := t) (i := i) hN⟩
  have hrise : Hid _ := ⟨fun i : Nat => hgt_rise (N := fun i => (numL b i : Int)) (t := t) (j := i) hN⟩
  have f1 : Hid _ := ⟨fun i (h : t < i) j => r1F_succ (N := fun i => (numL b i : Int)) (t := t) (i := i) h j⟩
  have f2 : Hid _ := ⟨fun i (h : i < t) j => r2F_succ (N := fun i => (numL b i : Int)) (t := t) (i := i) h j⟩
  have f3 : Hid _ := ⟨fun i j (h : t ≤ j) (h2 : j < i) => r1F_at (N := fun i => (numL b i : Int)) (t := t) (i := i) (j := j) h h2⟩
  have f4 : Hid _ := ⟨fun m j (h : m ≤ j) => r2F_at (N := fun i => (numL b i : Int)) (t := t) (m := m) (j := j) h⟩
  have f5 : Hid _ := ⟨fun j (h : j < n) => r2F_of (N := fun i => (numL b i : Int)) (t := t) (n := n) (j := j) h⟩
  have f6 : Hid _ := ⟨r1F_top (fun i => (numL b i : Int)) t⟩
  generalize hgt (fun i => (numL b i : Int)) t = H at *
  generalize r1F (fun i => (numL b i : Int)) t = F1 at *
  generalize r2F (fun i => (numL b i : Int)) t = F2 at *
  refine Fn.of_ex (cuts := []) tys hM Try.func13 rfl Try.call13 rfl ?_
  show exC Try.prog T [] _ false none 0 (entry 258 [u8 pl, u8 pk, u16s b]) (finQ T [ResultVar.tmp 6] _)
  conv => whnf
  repeat' first | ((first | refine Ob.a ?_ | refine Sp.tt ?_ | refine Sp.ff ?_ | refine Sp.yes ?_ | refine Sp.no ?_ | refine Sp.nyes ?_ | refine Sp.nno ?_);conv=>whnf) | (refine Sp.ne (fun hc => ?_) (fun hc => ?_) <;> (conv=>whnf)) | (refine Sp.dec (fun hc => ?_) (fun hc => ?_) <;> (conv=>whnf)) | (refine Sp.ndec (fun hc => ?_) (fun hc => ?_) <;> (conv=>whnf)) | (refine Sp.mk (fun hc => ?_) (fun hc => ?_) <;> (conv=>whnf)) | (refine Fi.a ?_;conv=>whnf) | (refine Ob.b ?_;conv=>whnf)
  all_goals first | (exfalso; omega) | skip
  clear ht hn
  refine Lp.snap [0, 1, 2, 6, 7, 8, 9, 11, 12, 13, 14, 15, 16, 17, 18, 19, 20, 21, 22, 23, 24, 25, 26, 64, 65, 66, 68, 69, 70, 71, 72, 73, 74, 75, 76, 77, 78, 79, 80, 81, 82, 83, 84, 85, 86, 87, 88, 89, 90, 91, 92, 93, 94, 95, 96, 97, 98, 99, 100, 101, 102, 103, 104, 105, 107, 109, 110, 111, 112, 114, 115, 116, 117, 118, 119, 120, 121, 122, 123, 124, 125, 126, 127, 128, 129, 131, 132, 134, 135, 136, 137, 138, 139, 140, 141, 142, 144, 145, 146, 147, 148, 149, 150, 151, 152, 153, 154, 155, 156, 158, 159, 160, 161, 162, 163, 164, 165, 166, 167, 168, 169, 170, 171, 172, 173, 174, 175, 176, 177, 178, 179, 180, 181, 182, 183, 184, 185, 186, 187, 188, 189, 190, 191, 192, 193, 194, 195, 196, 198, 199, 200, 201, 202, 203, 204, 205, 206, 207, 208, 209, 210, 211, 212, 213, 214, 216, 217, 218, 219, 220, 221, 222, 223, 224, 225, 227, 228, 229, 231, 232, 233, 234, 235, 236, 237, 238, 239, 240, 241, 242, 243, 244, 245, 246, 247, 248, 249, 250, 251, 252, 253, 254, 255, 256, 257] 100 ?_
  (conv=>whnf)
  refine LpB.go 258 ({i : Int // (t : Int) + 1 ≤ i ∧ i ≤ n}) 0 (fun ⟨i, _⟩ nx => ([(7, .d (int n)), (8, .d (int t)), (9, .ms 15 1 0 n), (10, .d (int i))], [(15, .row true 2 1 n (rowF (F1 i.toNat)))])) (fun p => (n - p.1).toNat) (⟨(t : Int) + 1, by omega, by omega⟩) ?_ ?_
  · rintro ⟨i, i0, i1⟩
    by_cases hi : i < n
    · have hu := hnum i (by omega)
      have hNi := hN i.toNat
      have f3 := f3.h i.toNat (i - 1).toNat (by omega) (by omega)
      have f1 : Hid (∀ j, j < n → F1 (i + 1).toNat j = if j = 0 + i.toNat then F1 i.toNat (0 + (i - 1).toNat) - 1 - (numL b i.toNat : Int) else F1 i.toNat j) := ⟨fun j _ => by
        rw [show (i + 1).toNat = i.toNat + 1 by omega, f1.h i.toNat (by omega) j, f3, show i.toNat - 1 = (i - 1).toNat by omega]⟩
      have hrg := hrg (i - 1).toNat (by omega)
      conv => whnf
      repeat' first | ((first | refine Ob.a ?_ | refine Sp.tt ?_ | refine Sp.ff ?_ | refine Sp.yes ?_ | refine Sp.no ?_ | refine Sp.nyes ?_ | refine Sp.nno ?_);conv=>whnf) | (refine Sp.ne (fun hc => ?_) (fun hc => ?_) <;> (conv=>whnf)) | (refine Sp.dec (fun hc => ?_) (fun hc => ?_) <;> (conv=>whnf)) | (refine Sp.ndec (fun hc => ?_) (fun hc => ?_) <;> (conv=>whnf)) | (refine Sp.mk (fun hc => ?_) (fun hc => ?_) <;> (conv=>whnf)) | (apply Cl.go;(conv=>whnf); (first | refine Ob.call (hu) ?_);(conv=>whnf)) | (refine Fi.a ?_;conv=>whnf) | (refine Ob.b ?_;conv=>whnf)
      all_goals first | (exfalso; omega) | skip
      refine ⟨rfl, ⟨i + 1, by omega, by omega⟩, ?_, by simp only; omega⟩
      conv => whnf
      repeat' first | (refine Edge.fast ?_) | ((conv=>whnf); first | exact True.intro | (refine And.intro ?_ ?_) | exact rfl | exact Nat.le_of_eq (Nat.zero_add _) | exact ImpS.refl _ | ((conv => arg 1; whnf); first | exact ImpS.refl _ | (refine ImpS.nil_eq ?_) | (refine ImpS.vnil_eq ?_) | (refine ImpS.row ?_) | (refine ImpS.rowN ?_ ?_) | (refine ImpS.sl_eq ?_) | (refine ImpS.expl rfl ?_)) | (refine row_snoc' ?_) | exact MImp.refl _ | exact cimp_none | exact cimp_same | exact List.not_mem_nil | exact DImp.refl _) | exact rfl | (refine And.intro ?_ ?_) | exact ImpS.refl _
      refine rowF_upd ?_ f1.h
      exact Lf
    · have ek : i = n := by omega
      subst ek
      have f5 : Hid (∀ j, j < n → F1 (n : Int).toNat j = F2 ((t : Int) - 1 + 1).toNat j) := ⟨fun j h => by
        rw [Int.toNat_natCast, f5.h j h, show ((t : Int) - 1 + 1).toNat = t by omega]⟩
      conv => whnf
      repeat' first | ((first | refine Ob.a ?_ | refine Sp.tt ?_ | refine Sp.ff ?_ | refine Sp.yes ?_ | refine Sp.no ?_ | refine Sp.nyes ?_ | refine Sp.nno ?_);conv=>whnf) | (refine Sp.ne (fun hc => ?_) (fun hc => ?_) <;> (conv=>whnf)) | (refine Sp.dec (fun hc => ?_) (fun hc => ?_) <;> (conv=>whnf)) | (refine Sp.ndec (fun hc => ?_) (fun hc => ?_) <;> (conv=>whnf)) | (refine Sp.mk (fun hc => ?_) (fun hc => ?_) <;> (conv=>whnf)) | (refine Fi.a ?_;conv=>whnf) | (refine Ob.b ?_;conv=>whnf)
      all_goals first | (exfalso; omega) | skip
      refine Lp.snap [0, 1, 2, 6, 7, 8, 9, 12, 13, 14, 15, 16, 17, 18, 19, 20, 21, 22, 23, 24, 25, 26, 83, 84, 85, 86, 87, 88, 89, 90, 91, 92, 93, 94, 95, 96, 97, 98, 99, 100, 101, 102, 103, 104, 105, 107, 109, 110, 111, 112, 114, 115, 116, 117, 118, 119, 120, 121, 122, 123, 124, 125, 126, 127, 128, 129, 131, 132, 134, 135, 136, 137, 138, 139, 140, 141, 142, 144, 145, 146, 147, 148, 149, 150, 151, 152, 153, 154, 155, 156, 158, 159, 160, 161, 162, 163, 164, 165, 166, 167, 168, 169, 170, 171, 172, 173, 174, 175, 176, 177, 178, 179, 180, 181, 182, 183, 184, 185, 186, 187, 188, 189, 190, 191, 192, 193, 194, 195, 196, 198, 199, 200, 201, 202, 203, 204, 205, 206, 207, 208, 209, 210, 211, 212, 213, 214, 216, 217, 218, 219, 220, 221, 222, 223, 224, 225, 227, 228, 229, 231, 232, 233, 234, 235, 236, 237, 238, 239, 240, 241, 242, 243, 244, 245, 246, 247, 248, 249, 250, 251, 252, 253, 254, 255, 256, 257] 100 ?_
      (conv=>whnf)
      refine LpB.go 258 ({i : Int // -1 ≤ i ∧ i ≤ (t : Int) - 1}) 0 (fun ⟨i, _⟩ nx => ([(11, .d (int i))], [(15, .row true 2 1 n (rowF (F2 (i + 1).toNat)))])) (fun p => (p.1 + 1).toNat) (⟨(t : Int) - 1, by omega, by omega⟩) ?_ ?_
      · rintro ⟨i, i0, i1⟩
        by_cases hi : 0 ≤ i
        · have hu := hnum i (by omega)
          have hNi := hN i.toNat
          have f4 := f4.h (i + 1).toNat (i + 1).toNat (Nat.le_refl _)
          have f2 : Hid (∀ j, j < n → F2 (i - 1 + 1).toNat j = if j = 0 + i.toNat then F2 (i + 1).toNat (0 + (i + 1).toNat) - 1 - (numL b i.toNat : Int) else F2 (i + 1).toNat j) := ⟨fun j _ => by
            rw [show (i - 1 + 1).toNat = i.toNat by omega, f2.h i.toNat (by omega) j, f4, show i.toNat + 1 = (i + 1).toNat by omega]⟩
          have hrg := hrg (i + 1).toNat (by omega)
          conv => whnf
          repeat' first | ((first | refine Ob.a ?_ | refine Sp.tt ?_ | refine Sp.ff ?_ | refine Sp.yes ?_ | refine Sp.no ?_ | refine Sp.nyes ?_ | refine Sp.nno ?_);conv=>whnf) | (refine Sp.ne (fun hc => ?_) (fun hc => ?_) <;> (conv=>whnf)) | (refine Sp.dec (fun hc => ?_) (fun hc => ?_) <;> (conv=>whnf)) | (refine Sp.ndec (fun hc => ?_) (fun hc => ?_) <;> (conv=>whnf)) | (refine Sp.mk (fun hc => ?_) (fun hc => ?_) <;> (conv=>whnf)) | (apply Cl.go;(conv=>whnf); (first | refine Ob.call (hu) ?_);(conv=>whnf)) | (refine Fi.a ?_;conv=>whnf) | (refine Ob.b ?_;conv=>whnf)
          all_goals first | (exfalso; omega) | skip
          refine ⟨rfl, ⟨i - 1, by omega, by omega⟩, ?_, by simp only; omega⟩
          conv => whnf
          repeat' first | (refine Edge.fast ?_) | ((conv=>whnf); first | exact True.intro | (refine And.intro ?_ ?_) | exact rfl | exact Nat.le_of_eq (Nat.zero_add _) | exact ImpS.refl _ | ((conv => arg 1; whnf); first | exact ImpS.refl _ | (refine ImpS.nil_eq ?_) | (refine ImpS.vnil_eq ?_) | (refine ImpS.row ?_) | (refine ImpS.rowN ?_ ?_) | (refine ImpS.sl_eq ?_) | (refine ImpS.expl rfl ?_)) | (refine row_snoc' ?_) | exact MImp.refl _ | exact cimp_none | exact cimp_same | exact List.not_mem_nil | exact DImp.refl _) | exact rfl | (refine And.intro ?_ ?_) | exact ImpS.refl _
          refine rowF_upd ?_ f2.h
          exact Lf
        · have ek : i = -1 := by omega
          subst ek
          have f4 := fun j => f4.h ((-1 : Int) + 1).toNat j (Nat.zero_le _)
          have hup : Hid (∀ p q : Int, 0 ≤ p → p < q → q ≤ t → F2 ((-1 : Int) + 1).toNat (0 + p.toNat) < F2 ((-1 : Int) + 1).toNat (0 + q.toNat)) := ⟨fun p q h1 h2 h3 => by
            rw [f4, f4]
            have := hrise.h q.toNat (by omega) (q.toNat - p.toNat - 1) (by omega)
            rwa [show q.toNat - (q.toNat - p.toNat - 1 + 1) = p.toNat by omega] at this⟩
          have hdn : Hid (∀ p q : Int, (t : Int) ≤ p → p < q → F2 ((-1 : Int) + 1).toNat (0 + q.toNat) < F2 ((-1 : Int) + 1).toNat (0 + p.toNat)) := ⟨fun p q h1 h2 => by
            rw [f4, f4]
            have := hfall.h p.toNat (by omega) (q.toNat - p.toNat - 1)
            rwa [show p.toNat + (q.toNat - p.toNat - 1) + 1 = q.toNat by omega] at this⟩
          have hGr : ∀ p : Int, 0 ≤ p → p < n → 0 ≤ F2 ((-1 : Int) + 1).toNat (0 + p.toNat) ∧ F2 ((-1 : Int) + 1).toNat (0 + p.toNat) ≤ 1073741824 := fun p h1 h2 => by
            rw [f4]; exact hrg _ (by omega)
          clear f4 hrise hfall hrg
          by_cases hz : n = 1
          · have e0 : tst n = 0 := by rw [hz]; rfl
            rw [e0] at ta
            conv => whnf
            repeat' first | ((first | refine Ob.a ?_ | refine Sp.tt ?_ | refine Sp.ff ?_ | refine Sp.yes ?_ | refine Sp.no ?_ | refine Sp.nyes ?_ | refine Sp.nno ?_);conv=>whnf) | (refine Sp.ne (fun hc => ?_) (fun hc => ?_) <;> (conv=>whnf)) | (refine Sp.dec (fun hc => ?_) (fun hc => ?_) <;> (conv=>whnf)) | (refine Sp.ndec (fun hc => ?_) (fun hc => ?_) <;> (conv=>whnf)) | (refine Sp.mk (fun hc => ?_) (fun hc => ?_) <;> (conv=>whnf)) | (apply Cl.go;(conv=>whnf); (first | refine Ob.call (ta) ?_ | refine Ob.call (hw) ?_);(conv=>whnf)) | (refine Fi.a ?_;conv=>whnf) | (refine Ob.b ?_;conv=>whnf)
            all_goals first | (exfalso; omega) | exact Lf
          · obtain ⟨q1, q2, q3, q4, q5⟩ := atL_tst (n := n) (by omega) (by omega)
            have hA0 : atL n 0 = (-1, (n : Int)) := rfl
            have hAs : Hid (∀ i : Nat, atL n (i + 1) = if ((nd i (n - 1 - i) : Nat) : Int) < (atL n i).2 then ((i : Int), ((nd i (n - 1 - i) : Nat) : Int)) else atL n i) := ⟨fun i => rfl⟩
            have hAr : ∀ i : Nat, i ≤ n → (-1 ≤ (atL n i).1 ∧ (atL n i).1 < i ∧ 0 ≤ (atL n i).2 ∧ (atL n i).2 ≤ n) := fun i h => (atL_spec (by omega) (by omega) i h).1
            generalize atL n = A at *
            generalize tst n = al at *
            conv => whnf
            repeat' first | ((first | refine Ob.a ?_ | refine Sp.tt ?_ | refine Sp.ff ?_ | refine Sp.yes ?_ | refine Sp.no ?_ | refine Sp.nyes ?_ | refine Sp.nno ?_);conv=>whnf) | (refine Sp.ne (fun hc => ?_) (fun hc => ?_) <;> (conv=>whnf)) | (refine Sp.dec (fun hc => ?_) (fun hc => ?_) <;> (conv=>whnf)) | (refine Sp.ndec (fun hc => ?_) (fun hc => ?_) <;> (conv=>whnf)) | (refine Sp.mk (fun hc => ?_) (fun hc => ?_) <;> (conv=>whnf)) | (apply Cl.go;(conv=>whnf); (first | refine Ob.call (ta) ?_);(conv=>whnf)) | (refine Fi.a ?_;conv=>whnf) | (refine Ob.b ?_;conv=>whnf)
            all_goals first | (exfalso; omega) | skip
            refine Lp.snap [0, 1, 2, 7, 8, 9, 12, 19, 20, 21, 22, 23, 24, 25, 26, 136, 137, 138, 139, 140, 141, 142, 144, 145, 146, 147, 148, 149, 150, 151, 152, 153, 154, 155, 156, 158, 159, 160, 161, 162, 163, 164, 165, 166, 167, 168, 169, 170, 171, 172, 173, 174, 175, 176, 177, 178, 179, 180, 181, 182, 183, 184, 185, 186, 187, 188, 189, 190, 191, 192, 193, 194, 195, 196, 198, 199, 200, 201, 202, 203, 204, 205, 206, 207, 208, 209, 210, 211, 212, 213, 214, 216, 217, 218, 219, 220, 221, 222, 223, 224, 225, 227, 228, 229, 231, 232, 233, 234, 235, 236, 237, 238, 239, 240, 241, 242, 243, 244, 245, 246, 247, 248, 249, 250, 251, 252, 253, 254, 255, 256, 257] 100 ?_
            (conv=>whnf)
            refine LpB.go 258 ({i : Int // 0 ≤ i ∧ i ≤ n}) 0 (fun ⟨i, _⟩ nx => ([(14, .d (int (A i.toNat).1)), (15, .d (int (A i.toNat).2)), (16, .d (int i))], [])) (fun p => (n - p.1).toNat) (⟨0, by omega, by omega⟩) ?_ ?_
            · rintro ⟨i, i0, i1⟩
              by_cases hi3 : i < n
              · have hne := NeedP_spec i (n - 1 - i)
                rw [show needR i (n - 1 - i) = (((nd i.toNat ((n : Int) - 1 - i).toNat : Nat) : Int), 0) from if_neg (by omega)] at hne
                simp only at hne
                have hst := hAs.h i.toNat
                rw [show i.toNat + 1 = (i + 1).toNat by omega, show n - 1 - i.toNat = ((n : Int) - 1 - i).toNat by omega, show ((i.toNat : Nat) : Int) = i by omega] at hst
                have har := hAr i.toNat (by omega)
                generalize nd i.toNat ((n : Int) - 1 - i).toNat = v at *
                by_cases hc : (v : Int) < (A i.toNat).2
                · rw [if_pos hc] at hst
                  have e1 : Hid (i = (A (i + 1).toNat).1) := ⟨by rw [hst]⟩
                  have e2 : Hid ((v : Int) = (A (i + 1).toNat).2) := ⟨by rw [hst]⟩
                  clear hst
                  conv => whnf
                  repeat' first | ((first | refine Ob.a ?_ | refine Sp.tt ?_ | refine Sp.ff ?_ | refine Sp.yes ?_ | refine Sp.no ?_ | refine Sp.nyes ?_ | refine Sp.nno ?_);conv=>whnf) | (refine Sp.ne (fun hc => ?_) (fun hc => ?_) <;> (conv=>whnf)) | (refine Sp.dec (fun hc => ?_) (fun hc => ?_) <;> (conv=>whnf)) | (refine Sp.ndec (fun hc => ?_) (fun hc => ?_) <;> (conv=>whnf)) | (refine Sp.mk (fun hc => ?_) (fun hc => ?_) <;> (conv=>whnf)) | (apply Cl.go;(conv=>whnf); (first | refine Ob.call (hne) ?_);(conv=>whnf)) | (refine Fi.a ?_;conv=>whnf) | (refine Ob.b ?_;conv=>whnf)
                  all_goals first | (exfalso; omega) | skip
                  refine ⟨rfl, ⟨i + 1, by omega, by omega⟩, ?_, by simp only; omega⟩
                  conv => whnf
                  repeat' first | (refine Edge.fast ?_) | ((conv=>whnf); first | exact True.intro | (refine And.intro ?_ ?_) | exact rfl | exact Nat.le_of_eq (Nat.zero_add _) | exact ImpS.refl _ | ((conv => arg 1; whnf); first | exact ImpS.refl _ | (refine ImpS.nil_eq ?_) | (refine ImpS.vnil_eq ?_) | (refine ImpS.row ?_) | (refine ImpS.rowN ?_ ?_) | (refine ImpS.sl_eq ?_) | (refine ImpS.expl rfl ?_)) | (refine row_snoc' ?_) | exact MImp.refl _ | exact cimp_none | exact cimp_same | exact List.not_mem_nil | exact DImp.refl _) | exact rfl | (refine And.intro ?_ ?_) | exact ImpS.refl _
                  all_goals first | exact e1.h | exact e2.h
                · rw [if_neg hc] at hst
                  have e1 : Hid ((A i.toNat).1 = (A (i + 1).toNat).1) := ⟨by rw [hst]⟩
                  have e2 : Hid ((A i.toNat).2 = (A (i + 1).toNat).2) := ⟨by rw [hst]⟩
                  clear hst
                  conv => whnf
                  repeat' first | ((first | refine Ob.a ?_ | refine Sp.tt ?_ | refine Sp.ff ?_ | refine Sp.yes ?_ | refine Sp.no ?_ | refine Sp.nyes ?_ | refine Sp.nno ?_);conv=>whnf) | (refine Sp.ne (fun hc => ?_) (fun hc => ?_) <;> (conv=>whnf)) | (refine Sp.dec (fun hc => ?_) (fun hc => ?_) <;> (conv=>whnf)) | (refine Sp.ndec (fun hc => ?_) (fun hc => ?_) <;> (conv=>whnf)) | (refine Sp.mk (fun hc => ?_) (fun hc => ?_) <;> (conv=>whnf)) | (apply Cl.go;(conv=>whnf); (first | refine Ob.call (hne) ?_);(conv=>whnf)) | (refine Fi.a ?_;conv=>whnf) | (refine Ob.b ?_;conv=>whnf)
                  all_goals first | (exfalso; omega) | skip
                  refine ⟨rfl, ⟨i + 1, by omega, by omega⟩, ?_, by simp only; omega⟩
                  conv => whnf
                  repeat' first | (refine Edge.fast ?_) | ((conv=>whnf); first | exact True.intro | (refine And.intro ?_ ?_) | exact rfl | exact Nat.le_of_eq (Nat.zero_add _) | exact ImpS.refl _ | ((conv => arg 1; whnf); first | exact ImpS.refl _ | (refine ImpS.nil_eq ?_) | (refine ImpS.vnil_eq ?_) | (refine ImpS.row ?_) | (refine ImpS.rowN ?_ ?_) | (refine ImpS.sl_eq ?_) | (refine ImpS.expl rfl ?_)) | (refine row_snoc' ?_) | exact MImp.refl _ | exact cimp_none | exact cimp_same | exact List.not_mem_nil | exact DImp.refl _) | exact rfl | (refine And.intro ?_ ?_) | exact ImpS.refl _
                  all_goals first | exact e1.h | exact e2.h
              · have ek : i = n := by omega
                subst ek
                rw [show n - 1 - (A n).1.toNat = ((n : Int) - 1 - (A n).1).toNat by omega] at q4
                have en : A (n : Int).toNat = A n := by rw [Int.toNat_natCast]
                rw [← en] at q1 q2 q3 q4
                clear hAs hAr hA0 en
                conv => whnf
                repeat' first | ((first | refine Ob.a ?_ | refine Sp.tt ?_ | refine Sp.ff ?_ | refine Sp.yes ?_ | refine Sp.no ?_ | refine Sp.nyes ?_ | refine Sp.nno ?_);conv=>whnf) | (refine Sp.ne (fun hc => ?_) (fun hc => ?_) <;> (conv=>whnf)) | (refine Sp.dec (fun hc => ?_) (fun hc => ?_) <;> (conv=>whnf)) | (refine Sp.ndec (fun hc => ?_) (fun hc => ?_) <;> (conv=>whnf)) | (refine Sp.mk (fun hc => ?_) (fun hc => ?_) <;> (conv=>whnf)) | (refine Fi.a ?_;conv=>whnf) | (refine Ob.b ?_;conv=>whnf)
                all_goals first | (exfalso; omega) | skip
                refine Lp.snap [0, 1, 2, 8, 9, 12, 241, 242, 243, 244, 245, 246, 247, 248, 249, 250, 251, 252, 253, 254, 255, 256, 257] 100 ?_
                (conv=>whnf)
                refine LpB.go 258 ({q : Int × Int × Int × Int // (0 ≤ q.2.1 ∧ 0 ≤ q.2.2.1) ∧ (0 ≤ q.1 - q.2.1 ∧ q.1 + q.2.2.1 ≤ n - 1) ∧ (q.1 - q.2.1 ≤ t ∧ t ≤ q.1 + q.2.2.1) ∧ (1 ≤ q.2.2.2 ∧ ((nd q.2.1.toNat q.2.2.1.toNat : Nat) : Int) + q.2.2.2 ≤ al)}) 0 (fun ⟨(a, l, r, m), _⟩ nx => ([(14, .d (int a)), (19, .d (int l)), (20, .d (int r)), (21, .d (int m))], [])) (fun p => (p.1.2.1 + p.1.2.2.1).toNat) (⟨((A (n : Int).toNat).1, (A (n : Int).toNat).1, (n : Int) - 1 - (A (n : Int).toNat).1, 1), ⟨by simp only; omega, by simp only; omega⟩, ⟨by simp only; omega, by simp only; omega⟩, ⟨by simp only; omega, by simp only; omega⟩, ⟨by simp only; omega, by simp only; omega⟩⟩) ?_ ?_
                · rintro ⟨⟨a, l, r, m⟩, i1, i2, i3, i4⟩
                  simp only at i1 i2 i3 i4
                  have hzn := (nd_facts (a := l.toNat) (b := r.toNat) (by omega)).2.1
                  clear q1 q2 q3 q4
                  by_cases hlr : 0 < l + r
                  · obtain ⟨d, hd, hN⟩ := NextP_spec l r (by omega) (by omega) hlr
                    have hne := NeedP_spec l r
                    rw [show needR l r = (((nd l.toNat r.toNat : Nat) : Int), 0) from if_neg (by omega)] at hne
                    simp only at hne
                    have d1 := hd.lo
                    have d2 := hd.hi
                    have d3 := hd.nz
                    have hg1 := hGr a (by omega) (by omega)
                    have hg2 := hGr (a + d) (by omega) (by omega)
                    by_cases hd0 : d < 0
                    · obtain ⟨b1, b2⟩ := nxt_left hd hd0
                      have hu := hup.h (a + d) a (by omega) (by omega)
                      have hw2 := hdn.h (a + d) a
                      by_cases hg : F2 ((-1 : Int) + 1).toNat (0 + a.toNat) < F2 ((-1 : Int) + 1).toNat (0 + (a + d).toNat)
                      · have ha : (t : Int) < a := by omega
                        clear hu hw2 hd
                        conv => whnf
                        repeat' first | ((first | refine Ob.a ?_ | refine Sp.tt ?_ | refine Sp.ff ?_ | refine Sp.yes ?_ | refine Sp.no ?_ | refine Sp.nyes ?_ | refine Sp.nno ?_);conv=>whnf) | (refine Sp.ne (fun hc => ?_) (fun hc => ?_) <;> (conv=>whnf)) | (refine Sp.dec (fun hc => ?_) (fun hc => ?_) <;> (conv=>whnf)) | (refine Sp.ndec (fun hc => ?_) (fun hc => ?_) <;> (conv=>whnf)) | (refine Sp.mk (fun hc => ?_) (fun hc => ?_) <;> (conv=>whnf)) | (apply Cl.go;(conv=>whnf); (first | refine Ob.call (hne) ?_ | refine Ob.call (hN) ?_);(conv=>whnf)) | (refine Fi.a ?_;conv=>whnf) | (refine Ob.b ?_;conv=>whnf)
                        all_goals first | (exfalso; omega) | exact ⟨rfl, ⟨(a + d, l + d, 0 - d - 1, m + 1), ⟨by simp only; omega, by simp only; omega⟩, ⟨by simp only; omega, by simp only; omega⟩, ⟨by simp only; omega, by simp only; omega⟩, ⟨by simp only; omega, by simp only; omega⟩⟩, Lf, by simp only; omega⟩
                      · have ha : a + d < (t : Int) := by
                          by_cases h : (t : Int) ≤ a + d
                          · have := hw2 h (by omega); omega
                          · omega
                        clear hu hw2 hd
                        conv => whnf
                        repeat' first | ((first | refine Ob.a ?_ | refine Sp.tt ?_ | refine Sp.ff ?_ | refine Sp.yes ?_ | refine Sp.no ?_ | refine Sp.nyes ?_ | refine Sp.nno ?_);conv=>whnf) | (refine Sp.ne (fun hc => ?_) (fun hc => ?_) <;> (conv=>whnf)) | (refine Sp.dec (fun hc => ?_) (fun hc => ?_) <;> (conv=>whnf)) | (refine Sp.ndec (fun hc => ?_) (fun hc => ?_) <;> (conv=>whnf)) | (refine Sp.mk (fun hc => ?_) (fun hc => ?_) <;> (conv=>whnf)) | (apply Cl.go;(conv=>whnf); (first | refine Ob.call (hne) ?_ | refine Ob.call (hN) ?_);(conv=>whnf)) | (refine Fi.a ?_;conv=>whnf) | (refine Ob.b ?_;conv=>whnf)
                        all_goals first | (exfalso; omega) | exact ⟨rfl, ⟨(a, 0 - d - 1, r, m + 1), ⟨by simp only; omega, by simp only; omega⟩, ⟨by simp only; omega, by simp only; omega⟩, ⟨by simp only; omega, by simp only; omega⟩, ⟨by simp only; omega, by simp only; omega⟩⟩, Lf, by simp only; omega⟩
                    · obtain ⟨b1, b2⟩ := nxt_right i1.1 hd (by omega)
                      have hu := hup.h a (a + d) (by omega) (by omega)
                      have hw2 := hdn.h a (a + d)
                      by_cases hg : F2 ((-1 : Int) + 1).toNat (0 + a.toNat) < F2 ((-1 : Int) + 1).toNat (0 + (a + d).toNat)
                      · have ha : a < (t : Int) := by
                          by_cases h : (t : Int) ≤ a
                          · have := hw2 h (by omega); omega
                          · omega
                        clear hu hw2 hd
                        conv => whnf
                        repeat' first | ((first | refine Ob.a ?_ | refine Sp.tt ?_ | refine Sp.ff ?_ | refine Sp.yes ?_ | refine Sp.no ?_ | refine Sp.nyes ?_ | refine Sp.nno ?_);conv=>whnf) | (refine Sp.ne (fun hc => ?_) (fun hc => ?_) <;> (conv=>whnf)) | (refine Sp.dec (fun hc => ?_) (fun hc => ?_) <;> (conv=>whnf)) | (refine Sp.ndec (fun hc => ?_) (fun hc => ?_) <;> (conv=>whnf)) | (refine Sp.mk (fun hc => ?_) (fun hc => ?_) <;> (conv=>whnf)) | (apply Cl.go;(conv=>whnf); (first | refine Ob.call (hne) ?_ | refine Ob.call (hN) ?_);(conv=>whnf)) | (refine Fi.a ?_;conv=>whnf) | (refine Ob.b ?_;conv=>whnf)
                        all_goals first | (exfalso; omega) | exact ⟨rfl, ⟨(a + d, d - 1, r - d, m + 1), ⟨by simp only; omega, by simp only; omega⟩, ⟨by simp only; omega, by simp only; omega⟩, ⟨by simp only; omega, by simp only; omega⟩, ⟨by simp only; omega, by simp only; omega⟩⟩, Lf, by simp only; omega⟩
                      · have ha : (t : Int) < a + d := by omega
                        clear hu hw2 hd
                        conv => whnf
                        repeat' first | ((first | refine Ob.a ?_ | refine Sp.tt ?_ | refine Sp.ff ?_ | refine Sp.yes ?_ | refine Sp.no ?_ | refine Sp.nyes ?_ | refine Sp.nno ?_);conv=>whnf) | (refine Sp.ne (fun hc => ?_) (fun hc => ?_) <;> (conv=>whnf)) | (refine Sp.dec (fun hc => ?_) (fun hc => ?_) <;> (conv=>whnf)) | (refine Sp.ndec (fun hc => ?_) (fun hc => ?_) <;> (conv=>whnf)) | (refine Sp.mk (fun hc => ?_) (fun hc => ?_) <;> (conv=>whnf)) | (apply Cl.go;(conv=>whnf); (first | refine Ob.call (hne) ?_ | refine Ob.call (hN) ?_);(conv=>whnf)) | (refine Fi.a ?_;conv=>whnf) | (refine Ob.b ?_;conv=>whnf)
                        all_goals first | (exfalso; omega) | exact ⟨rfl, ⟨(a, l, d - 1, m + 1), ⟨by simp only; omega, by simp only; omega⟩, ⟨by simp only; omega, by simp only; omega⟩, ⟨by simp only; omega, by simp only; omega⟩, ⟨by simp only; omega, by simp only; omega⟩⟩, Lf, by simp only; omega⟩
                  · conv => whnf
                    repeat' first | ((first | refine Ob.a ?_ | refine Sp.tt ?_ | refine Sp.ff ?_ | refine Sp.yes ?_ | refine Sp.no ?_ | refine Sp.nyes ?_ | refine Sp.nno ?_);conv=>whnf) | (refine Sp.ne (fun hc => ?_) (fun hc => ?_) <;> (conv=>whnf)) | (refine Sp.dec (fun hc => ?_) (fun hc => ?_) <;> (conv=>whnf)) | (refine Sp.ndec (fun hc => ?_) (fun hc => ?_) <;> (conv=>whnf)) | (refine Sp.mk (fun hc => ?_) (fun hc => ?_) <;> (conv=>whnf)) | (apply Cl.go;(conv=>whnf); (first | refine Ob.call (hw) ?_);(conv=>whnf)) | (refine Fi.a ?_;conv=>whnf) | (refine Ob.b ?_;conv=>whnf)
                    all_goals first | (exfalso; omega) | exact Lf
                · exact Lf
            · have z1 : (-1 : Int) = (A (Int.toNat 0)).1 := by rw [show Int.toNat 0 = 0 from rfl, hA0]
              have z2 : (n : Int) = (A (Int.toNat 0)).2 := by rw [show Int.toNat 0 = 0 from rfl, hA0]
              conv => whnf
              repeat' first | (refine Edge.fast ?_) | ((conv=>whnf); first | exact True.intro | (refine And.intro ?_ ?_) | exact rfl | exact Nat.le_of_eq (Nat.zero_add _) | exact ImpS.refl _ | ((conv => arg 1; whnf); first | exact ImpS.refl _ | (refine ImpS.nil_eq ?_) | (refine ImpS.vnil_eq ?_) | (refine ImpS.row ?_) | (refine ImpS.rowN ?_ ?_) | (refine ImpS.sl_eq ?_) | (refine ImpS.expl rfl ?_)) | (refine row_snoc' ?_) | exact MImp.refl _ | exact cimp_none | exact cimp_same | exact List.not_mem_nil | exact DImp.refl _) | exact rfl | (refine And.intro ?_ ?_) | exact ImpS.refl _
              all_goals first | exact z1 | exact z2
      · conv => whnf
        repeat' first | (refine Edge.fast ?_) | ((conv=>whnf); first | exact True.intro | (refine And.intro ?_ ?_) | exact rfl | exact Nat.le_of_eq (Nat.zero_add _) | exact ImpS.refl _ | ((conv => arg 1; whnf); first | exact ImpS.refl _ | (refine ImpS.nil_eq ?_) | (refine ImpS.vnil_eq ?_) | (refine ImpS.row ?_) | (refine ImpS.rowN ?_ ?_) | (refine ImpS.sl_eq ?_) | (refine ImpS.expl rfl ?_)) | (refine row_snoc' ?_) | exact MImp.refl _ | exact cimp_none | exact cimp_same | exact List.not_mem_nil | exact DImp.refl _) | exact rfl | (refine And.intro ?_ ?_) | exact ImpS.refl _
        all_goals first | exact rowF_same f5.h
  · conv => whnf
    repeat' first | (refine Edge.fast ?_) | ((conv=>whnf); first | exact True.intro | (refine And.intro ?_ ?_) | exact rfl | exact Nat.le_of_eq (Nat.zero_add _) | exact ImpS.refl _ | ((conv => arg 1; whnf); first | exact ImpS.refl _ | (refine ImpS.nil_eq ?_) | (refine ImpS.vnil_eq ?_) | (refine ImpS.row ?_) | (refine ImpS.rowN ?_ ?_) | (refine ImpS.sl_eq ?_) | (refine ImpS.expl rfl ?_)) | (refine row_snoc' ?_) | exact MImp.refl _ | exact cimp_none | exact cimp_same | exact List.not_mem_nil | exact DImp.refl _) | exact rfl | (refine And.intro ?_ ?_) | exact ImpS.refl _
    all_goals first | exact hm1 | omega | skip
    intro j hj
    show CImp (upE (0 + ((pk : Int) % (1 + (pl : Int) % 31)).toNat) (int 1073741824) (fun _ => int 0) j) (int (F1 ((t : Int) + 1).toNat j))
    unfold upE
    rw [show ((t : Int) + 1).toNat = t + 1 by omega, f6.h j]
    by_cases h : j = 0 + t
    · rw [if_pos h, if_pos (by omega)]; exact CImp.refl _
    · rw [if_neg h, if_neg (by omega)]; exact CImp.refl _
end Go.Px.Try

namespace Go.Proofs.Ytofcdpkanjiefaa.biteFoundDone
open Go.ChangeShapes Go.WideShapes Go.ChangeAt Go.RowKit
open Go.Px
open Go.Px.Try (own laidOut)
set_option maxRecDepth 100000 in
theorem lifted (os : Os) (started : os.Started) (H : Type) (enc : TypeId × Value → H) :
    ReturnsInHanded {} Try.checked os 13 .any (Rows.biteFoundSpec.pre6 enc Try.prog Try.f13 Rows.biteFoundRow.domain false) (Rows.biteFoundSpec.post enc Try.prog Try.f13 false true false false) := by
  refine returnsInHanded_of_change (C := Try.checked) own started (by kernel_rfl) Try.func13
    (ChangeSpec.witness6 (enc := enc) (C := Try.checked) false ⟨#[], #[.int .u8 0, .int .u8 0, .slice none 0 0], []⟩ 8 (by kernel_rfl) (by kernel_rfl) (by kernel_rfl) (by kernel_rfl)) ?_
  intro W base args ds gs before hval0 hW hcnd _
  have hval : ∀ (j : Nat) t v, Try.f13.params[j]? = some t → args[j]? = some v → Value.okWide Try.prog W .any base t v := hval0
  have hW' := hW
  obtain ⟨p, q, hA0, hV, rfl, hfz, hnd⟩ := hW
  have hA : DataW.TrodAll enc Try.prog W 0 (fun _ => true) true Try.f13.params.toList args.toList ds p := hA0
  rw [Try.params13] at hA hval
  obtain ⟨v0, vs0, d0, ds0, p0, q0, hargs, rfl, rfl, h0, r0⟩ := trodAll_cons hA
  obtain ⟨v1, vs1, d1, ds1, p1, q1, rfl, rfl, rfl, h1, r1⟩ := trodAll_cons r0
  obtain ⟨v2, vs2, d2, ds2, p2, q2, rfl, rfl, rfl, h2, r2⟩ := trodAll_cons r1
  obtain ⟨rfl, rfl, rfl⟩ := trodAll_nil r2
  obtain rfl : args = #[v0, v1, v2] := by cases args; simp_all
  obtain ⟨rfl, rfl⟩ := trodVars_none hV
  have lt0 : ∀ x ∈ p0, x.block < W.heap.size := by have k := h0; obtain ⟨m, hm⟩ := k; exact DataW.trod_lt m _ _ _ hm
  obtain ⟨x0, g0, e0⟩ := Go.Px.Try.u8_arg h0 (hval 0 5 v0 rfl rfl)
  have lt1 : ∀ x ∈ p1, x.block < W.heap.size := by have k := h1; obtain ⟨m, hm⟩ := k; exact DataW.trod_lt m _ _ _ hm
  obtain ⟨x1, g1, e1⟩ := Go.Px.Try.u8_arg h1 (hval 1 5 v1 rfl rfl)
  have lt2 : ∀ x ∈ p2, x.block < W.heap.size := by have k := h2; obtain ⟨m, hm⟩ := k; exact DataW.trod_lt m _ _ _ hm
  obtain ⟨x2, g2, e2⟩ := Go.Px.Try.u16s_arg h2 (hval 2 49 v2 rfl rfl)
  clear hA0 hval0
  refine ((Go.Px.Try.BiteFound_spec x0 x1 x2 g0 g1 g2).2 (All W) W [v0, v1, v2] (fun _ h => h) ⟨e0, e1, e2, trivial⟩).mono fun e W' ⟨v, S', he, hr, _, _, bel⟩ => ?_
  obtain rfl : v = .bool true := hr
  subst he
  exact ⟨_, rfl, _, _, _, [], _, [], hW', trodAll_mk1 (shut_bool Try.underlying4 _), (trodAll_cons_mk (Below.trod laidOut (by kernel_rfl) (of_decide_eq_true (by kernel_rfl)) h0 bel lt0) (trodAll_cons_mk (Below.trod laidOut (by kernel_rfl) (of_decide_eq_true (by kernel_rfl)) h1 bel lt1) (trodAll_cons_mk (Below.trod laidOut (by kernel_rfl) (of_decide_eq_true (by kernel_rfl)) h2 bel lt2) trodAll_mk0))), rfl, bel.frame _, fun h => by cases h⟩
theorem over : Rows.biteFoundRow.holds Try.pinned (OpenSpec.ofChange Rows.biteFoundSpec) :=
  OpenClaim.holds_of_wide 13 Try.f13 rfl rfl rfl rfl rfl rfl rfl ⟨rfl, rfl, rfl, rfl, rfl⟩ rfl rfl rfl rfl rfl (by kernel_rfl) Try.func13 (by kernel_rfl)
    (of_decide_eq_true (by kernel_rfl)) (by unfold Func.isWrapper; first | (rw [if_pos (by decide +kernel)]; kernel_rfl) | (rw [if_neg (by decide +kernel)]; exact ⟨rfl, rfl⟩))
    (fun os started H enc _ => lifted os started H enc)
theorem proved : Rows.BiteFoundSaid := over
#print axioms proved
end Go.Proofs.Ytofcdpkanjiefaa.biteFoundDone
