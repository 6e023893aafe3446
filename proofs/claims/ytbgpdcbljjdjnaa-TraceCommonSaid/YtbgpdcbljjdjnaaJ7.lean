/- Texts of this proof, joined (Law1, Law2): a small program logic over the model, and what functions of the program give. No statement of the seat is proved here. -/
import Derived.Test.YtbgpdcbljjdjnaaJ6
set_option linter.unusedVariables false
set_option linter.unusedSimpArgs false

/-! Law1 -/
namespace Go.Px.Try
open Go Go.Proofs Go.Px
set_option maxRecDepth 100000
theorem eq_prefix {l l' : List Int} (hl : l.length = l'.length) (h : ∀ j, j < l.length → l.getD j 0 = l'.getD j 0) : l = l' := by
 refine List.ext_getElem hl fun i h1 h2 => ?_
 have := h i h1
 rwa [List.getD_eq_getElem?_getD, List.getElem?_eq_getElem h1, List.getD_eq_getElem?_getD, List.getElem?_eq_getElem h2] at this
theorem Ints_spec (a b : List Int) (ha : a.length < 1000000) : Fn Try.prog 23 [ints a, ints b] (bool (decide (a = b))) := by
 refine Fn.hide (D := fun r : Bool => bool r) fun r hr => ?_
 have hr0 := hr.h
 have h1 : ¬ a.length = b.length → r = false := fun h => by rw [← hr0]; exact decide_eq_false fun e => h (by rw [e])
 have h2 : ∀ j : Int, 0 ≤ j → j < a.length → ¬ a.getD j.toNat 0 = b.getD j.toNat 0 → r = false := fun j _ _ h => by rw [← hr0]; exact decide_eq_false fun e => h (by rw [e])
 have h3 : a.length = b.length → (∀ j : Int, 0 ≤ j → j < a.length → a.getD j.toNat 0 = b.getD j.toNat 0) → r = true := fun h h' => by
  rw [← hr0]; exact decide_eq_true (eq_prefix h fun j hj => by have := h' j (by omega) (by omega); rwa [Int.toNat_natCast] at this)
 refine Fn.of_ex (cuts := []) tys hM Try.func23 rfl Try.call23 rfl ?_
 show exC Try.prog T [] _ false none 0 (entry 26 [ints a, ints b]) (finQ T [ResultVar.tmp 4] _)
 conv => whnf
 repeat' first | ((first | refine Ob.a ?_ | refine Sp.tt ?_ | refine Sp.ff ?_ | refine Sp.yes ?_ | refine Sp.no ?_ | refine Sp.nyes ?_ | refine Sp.nno ?_);conv=>whnf) | ((first | refine Sp.ne (fun hc => ?_) fun hc => ?_ | refine Sp.dec (fun hc => ?_) fun hc => ?_ | refine Sp.ndec (fun hc => ?_) fun hc => ?_ | refine Sp.mk (fun hc => ?_) fun hc => ?_) <;> conv => whnf) | (refine Fi.a ?_;conv=>whnf) | (refine Ob.b ?_;conv=>whnf)
 ·exact ⟨trivial, (h1 (by omega)).symm⟩
 ·have hlen := hc
  refine Lp.snap [0, 1] 40 ?_
  (conv=>whnf)
  refine LpB.go 26 ({i : Int // (0 ≤ i ∧ i ≤ a.length) ∧ ∀ j : Int, 0 ≤ j → j < i → a.getD j.toNat 0 = b.getD j.toNat 0}) 0 (fun ⟨i, _⟩ nx => ([(5, .d (int i))], [])) (fun p => (a.length - p.1).toNat) (⟨0, ⟨by omega, by omega⟩, fun j _ _ => by omega⟩) ?_ ?_
  ·rintro ⟨i, ⟨hi0, hi⟩, hinv⟩
   conv => whnf
   repeat' first | ((first | refine Ob.a ?_ | refine Sp.tt ?_ | refine Sp.ff ?_ | refine Sp.yes ?_ | refine Sp.no ?_ | refine Sp.nyes ?_ | refine Sp.nno ?_);conv=>whnf) | ((first | refine Sp.ne (fun hc => ?_) fun hc => ?_ | refine Sp.dec (fun hc => ?_) fun hc => ?_ | refine Sp.ndec (fun hc => ?_) fun hc => ?_ | refine Sp.mk (fun hc => ?_) fun hc => ?_) <;> conv => whnf) | (refine Fi.a ?_;conv=>whnf) | (refine Ob.b ?_;conv=>whnf)
   ·exact ⟨trivial, (h2 i hi0 (by omega) hc).symm⟩
   ·exact ⟨rfl, ⟨i + 1, ⟨by omega, by omega⟩, fun j a b => if e : j = i then e ▸ hc else hinv j a (by omega)⟩, Lf, by simp only; omega⟩
   ·exact ⟨trivial, (h3 (by omega) fun j a b => hinv j a (by omega)).symm⟩
  ·exact Lf
theorem ints_same (l : List Int) (h : l.length < 1000000) : Fn Try.prog 23 [ints l, ints l] (bool true) := by
 have := Ints_spec l l h
 rwa [decide_eq_true rfl] at this
theorem of_spec (l : List Int) : Fn Try.prog 48 [ints l] (ints l) := by
 refine Fn.of_ex (cuts := []) tys hM Try.func48 rfl Try.call48 rfl ?_
 show exC Try.prog T [] _ false none 0 (entry 4 [ints l]) (finQ T [ResultVar.tmp 2] _)
 conv => whnf
 repeat' first | ((first | refine Ob.a ?_ | refine Sp.tt ?_ | refine Sp.ff ?_ | refine Sp.yes ?_ | refine Sp.no ?_ | refine Sp.nyes ?_ | refine Sp.nno ?_);conv=>whnf) | ((first | refine Sp.ne (fun hc => ?_) fun hc => ?_ | refine Sp.dec (fun hc => ?_) fun hc => ?_ | refine Sp.ndec (fun hc => ?_) fun hc => ?_ | refine Sp.mk (fun hc => ?_) fun hc => ?_) <;> conv => whnf) | (refine Fi.a ?_;conv=>whnf) | (refine Ob.b ?_;conv=>whnf)
 all_goals exact Lf
theorem lists_spec (l : List (List Int)) : Fn Try.prog 45 [slOf 1 ints [] l] (slOf 1 ints [] l) := by
 refine Fn.of_ex (cuts := []) tys hM Try.func45 rfl Try.call45 rfl ?_
 show exC Try.prog T [] _ false none 0 (entry 4 [slOf 1 ints [] l]) (finQ T [ResultVar.tmp 2] _)
 conv => whnf
 repeat' first | ((first | refine Ob.a ?_ | refine Sp.tt ?_ | refine Sp.ff ?_ | refine Sp.yes ?_ | refine Sp.no ?_ | refine Sp.nyes ?_ | refine Sp.nno ?_);conv=>whnf) | ((first | refine Sp.ne (fun hc => ?_) fun hc => ?_ | refine Sp.dec (fun hc => ?_) fun hc => ?_ | refine Sp.ndec (fun hc => ?_) fun hc => ?_ | refine Sp.mk (fun hc => ?_) fun hc => ?_) <;> conv => whnf) | (refine Fi.a ?_;conv=>whnf) | (refine Ob.b ?_;conv=>whnf)
 all_goals exact Lf
theorem by_spec (a b : Int) : Fn Try.prog 50 [int a, int b] (ratD (a, b)) := by
 refine Fn.of_ex (cuts := []) tys hM Try.func50 rfl Try.call50 rfl ?_
 show exC Try.prog T [] _ false none 0 (entry 8 [int a, int b]) (finQ T [ResultVar.cell 4 66] _)
 conv => whnf
 repeat' first | ((first | refine Ob.a ?_ | refine Sp.tt ?_ | refine Sp.ff ?_ | refine Sp.yes ?_ | refine Sp.no ?_ | refine Sp.nyes ?_ | refine Sp.nno ?_);conv=>whnf) | ((first | refine Sp.ne (fun hc => ?_) fun hc => ?_ | refine Sp.dec (fun hc => ?_) fun hc => ?_ | refine Sp.ndec (fun hc => ?_) fun hc => ?_ | refine Sp.mk (fun hc => ?_) fun hc => ?_) <;> conv => whnf) | (refine Fi.a ?_;conv=>whnf) | (refine Ob.b ?_;conv=>whnf)
 all_goals exact Lf
theorem Mix_spec (F : List (List Int)) : Fn Try.prog 79 [rowsD F] (mixD F) := by
 refine Fn.of_ex (cuts := []) tys hM Try.func79 rfl Try.call79 rfl ?_
 show exC Try.prog T [] _ false none 0 (entry 5 [rowsD F]) (finQ T [ResultVar.cell 2 24] _)
 conv => whnf
 repeat' first | ((first | refine Ob.a ?_ | refine Sp.tt ?_ | refine Sp.ff ?_ | refine Sp.yes ?_ | refine Sp.no ?_ | refine Sp.nyes ?_ | refine Sp.nno ?_);conv=>whnf) | ((first | refine Sp.ne (fun hc => ?_) fun hc => ?_ | refine Sp.dec (fun hc => ?_) fun hc => ?_ | refine Sp.ndec (fun hc => ?_) fun hc => ?_ | refine Sp.mk (fun hc => ?_) fun hc => ?_) <;> conv => whnf) | (refine Fi.a ?_;conv=>whnf) | (refine Ob.b ?_;conv=>whnf)
 all_goals exact Lf
def mixM : List (List Int) := [[], [], [], [0, 1], [1, 2], [3, 4], [5], [2, 6]]
set_option maxHeartbeats 4000000 in
theorem eight_spec : Fn Try.prog 52 [] (mixD mixM) := by
 have h := Mix_spec mixM
 refine Fn.of_ex (cuts := []) tys hM Try.func52 rfl Try.call52 rfl ?_
 show exC Try.prog T [] _ false none 0 (entry 13 []) (finQ T [ResultVar.cell 0 24] _)
 conv => whnf
 repeat' first | ((first | refine Ob.a ?_ | refine Sp.tt ?_ | refine Sp.ff ?_ | refine Sp.yes ?_ | refine Sp.no ?_ | refine Sp.nyes ?_ | refine Sp.nno ?_);conv=>whnf) | ((first | refine Sp.ne (fun hc => ?_) fun hc => ?_ | refine Sp.dec (fun hc => ?_) fun hc => ?_ | refine Sp.ndec (fun hc => ?_) fun hc => ?_ | refine Sp.mk (fun hc => ?_) fun hc => ?_) <;> conv => whnf) | (apply Cl.go;(conv=>whnf); (first | refine Ob.call (h) ?_ | refine Ob.call (of_spec [0, 1]) ?_ | refine Ob.call (of_spec [1, 2]) ?_ | refine Ob.call (of_spec [3, 4]) ?_ | refine Ob.call (of_spec [5]) ?_ | refine Ob.call (of_spec [2, 6]) ?_);(conv=>whnf)) | (refine Fi.a ?_;conv=>whnf) | (refine Ob.b ?_;conv=>whnf)
 all_goals first | exact Lf
def wideOk (l : List (List Int)) : Prop := l.length ≤ 14 ∧ ∀ w ∈ l, w.length ≤ 14
instance (l : List (List Int)) : Decidable (wideOk l) := by unfold wideOk; exact inferInstance
set_option maxHeartbeats 4000000 in
theorem wide_spec (l : List (List Int)) (hl : l.length ≤ 9223372036854775807) (hw : ∀ w ∈ l, w.length ≤ 9223372036854775807) : Fn Try.prog 35 [slOf 1 ints [] l] (bool (!decide (wideOk l))) := by
 refine Fn.hide (D := fun r : Bool => bool r) fun r hr => ?_
 have hr0 := hr.h
 clear hr
 have h1 : ∀ n : Int, (n ≤ 14 ↔ (l.length : Int) ≤ 14 ∧ ∀ j : Int, 0 ≤ j → j < l.length → ((l.getD j.toNat []).length : Int) ≤ 14) → decide (14 < n) = r := fun n hn => by
  rw [← hr0]
  have e : wideOk l ↔ n ≤ 14 := by
   rw [hn]
   constructor
   ·rintro ⟨a, b⟩
    exact ⟨by omega, fun j j0 j1 => by have := b _ (getD_mem (l := l) (i := j.toNat) (by omega) []); omega⟩
   ·rintro ⟨a, b⟩
    refine ⟨by omega, fun w hw => ?_⟩
    obtain ⟨j, hj, rfl⟩ := mem_getD (d := []) hw
    have := b j (by omega) (by omega)
    rw [Int.toNat_natCast] at this; omega
  by_cases h : n ≤ 14
  ·rw [decide_eq_false (by omega), decide_eq_true (e.2 h)]; rfl
  ·rw [decide_eq_true (by omega), decide_eq_false fun h2 => h (e.1 h2)]; rfl
 have hw2 := fun (j : Int) (a : 0 ≤ j) (b : j < l.length) => hw _ (getD_mem (l := l) (i := j.toNat) (by omega) [])
 clear hr0 hw
 refine Fn.of_ex (cuts := []) tys hM Try.func35 rfl Try.call35 rfl ?_
 show exC Try.prog T [] _ false none 0 (entry 22 [slOf 1 ints [] l]) (finQ T [ResultVar.tmp 2] _)
 conv => whnf
 repeat' first | ((first | refine Ob.a ?_ | refine Sp.tt ?_ | refine Sp.ff ?_ | refine Sp.yes ?_ | refine Sp.no ?_ | refine Sp.nyes ?_ | refine Sp.nno ?_);conv=>whnf) | ((first | refine Sp.ne (fun hc => ?_) fun hc => ?_ | refine Sp.dec (fun hc => ?_) fun hc => ?_ | refine Sp.ndec (fun hc => ?_) fun hc => ?_ | refine Sp.mk (fun hc => ?_) fun hc => ?_) <;> conv => whnf) | (refine Fi.a ?_;conv=>whnf) | (refine Ob.b ?_;conv=>whnf)
 refine Lp.snap [0, 2, 20, 21] 40 ?_
 (conv=>whnf)
 refine LpB.go 22 ({q : Int × Int // (0 ≤ q.1 ∧ q.1 ≤ l.length) ∧ (0 ≤ q.2 ∧ q.2 ≤ 9223372036854775807) ∧ (q.2 ≤ 14 ↔ (l.length : Int) ≤ 14 ∧ ∀ j : Int, 0 ≤ j → j < q.1 → ((l.getD j.toNat []).length : Int) ≤ 14)}) 0 (fun ⟨(i, n), _⟩ nx => ([(4, .d (int i)), (3, .d (int n))], [])) (fun p => (l.length - p.1.1).toNat) (⟨(0, l.length), ⟨by simp, by simp⟩, ⟨by simp only; omega, by simp only; omega⟩, ⟨fun h => ⟨h, fun j a b => by simp only at b; omega⟩, fun h => h.1⟩⟩) ?_ ?_
 ·rintro ⟨⟨i, n⟩, ⟨i0, i1⟩, ⟨n0, n1⟩, hn⟩
  simp only at i0 i1 n0 n1 hn
  by_cases hi : i < l.length
  ·have hw2 := hw2 i i0 hi
   have e : (max n ((l.getD i.toNat []).length : Int)) ≤ 14 ↔ (l.length : Int) ≤ 14 ∧ ∀ j : Int, 0 ≤ j → j < i + 1 → ((l.getD j.toNat []).length : Int) ≤ 14 := by
    constructor
    ·intro h
     obtain ⟨h1, h2⟩ := hn.1 (by omega)
     refine ⟨h1, fun j a b => ?_⟩
     by_cases e : j = i
     ·rw [e]; omega
     ·exact h2 j a (by omega)
    ·rintro ⟨h1, h2⟩
     have := hn.2 ⟨h1, fun j a b => h2 j a (by omega)⟩
     have := h2 i i0 (by omega)
     omega
   clear h1
   conv => whnf
   repeat' first | ((first | refine Ob.a ?_ | refine Sp.tt ?_ | refine Sp.ff ?_ | refine Sp.yes ?_ | refine Sp.no ?_ | refine Sp.nyes ?_ | refine Sp.nno ?_);conv=>whnf) | ((first | refine Sp.ne (fun hc => ?_) fun hc => ?_ | refine Sp.dec (fun hc => ?_) fun hc => ?_ | refine Sp.ndec (fun hc => ?_) fun hc => ?_ | refine Sp.mk (fun hc => ?_) fun hc => ?_) <;> conv => whnf) | (refine Fi.a ?_;conv=>whnf) | (refine Ob.b ?_;conv=>whnf)
   all_goals first | (exfalso; omega) | exact ⟨rfl, ⟨(i + 1, max n ((l.getD i.toNat []).length : Int)), ⟨by simp only; omega, by simp only; omega⟩, ⟨by simp only; omega, by simp only; omega⟩, e⟩, Lf, by simp only; omega⟩
  ·obtain rfl : i = l.length := by omega
   have e := h1 n hn
   clear h1
   conv => whnf
   repeat' first | ((first | refine Ob.a ?_ | refine Sp.tt ?_ | refine Sp.ff ?_ | refine Sp.yes ?_ | refine Sp.no ?_ | refine Sp.nyes ?_ | refine Sp.nno ?_);conv=>whnf) | ((first | refine Sp.ne (fun hc => ?_) fun hc => ?_ | refine Sp.dec (fun hc => ?_) fun hc => ?_ | refine Sp.ndec (fun hc => ?_) fun hc => ?_ | refine Sp.mk (fun hc => ?_) fun hc => ?_) <;> conv => whnf) | (refine Fi.a ?_;conv=>whnf) | (refine Ob.b ?_;conv=>whnf)
   all_goals first | (exfalso; omega) | exact ⟨trivial, e⟩
 ·exact Lf
theorem great_spec (F : List (List Int)) (hl : F.length ≤ 9223372036854775807) (hw : ∀ w ∈ F, w.length ≤ 9223372036854775807) : Fn Try.prog 15 [mixD F] (bool (!decide (wideOk F))) := by
 have h := wide_spec F hl hw
 generalize (!decide (wideOk F)) = b at *
 refine Fn.of_ex (cuts := []) tys hM Try.func15 rfl Try.call15 rfl ?_
 show exC Try.prog T [] _ false none 0 (entry 6 [mixD F]) (finQ T [ResultVar.tmp 2] _)
 conv => whnf
 repeat' first | ((first | refine Ob.a ?_ | refine Sp.tt ?_ | refine Sp.ff ?_ | refine Sp.yes ?_ | refine Sp.no ?_ | refine Sp.nyes ?_ | refine Sp.nno ?_);conv=>whnf) | ((first | refine Sp.ne (fun hc => ?_) fun hc => ?_ | refine Sp.dec (fun hc => ?_) fun hc => ?_ | refine Sp.ndec (fun hc => ?_) fun hc => ?_ | refine Sp.mk (fun hc => ?_) fun hc => ?_) <;> conv => whnf) | (apply Cl.go;(conv=>whnf); (first | refine Ob.call (h) ?_);(conv=>whnf)) | (refine Fi.a ?_;conv=>whnf) | (refine Ob.b ?_;conv=>whnf)
 all_goals exact Lf
theorem isI2 {f g : Nat → AV} (h0 : isI (f 0) ∧ isI (g 0)) (h1 : isI (f 1) ∧ isI (g 1)) : ∀ j, j < 2 → isI (f j) ∧ isI (g j) := by
 intro j hj
 rcases (show j = 0 ∨ j = 1 by omega) with rfl | rfl
 ·exact h0
 ·exact h1
set_option maxHeartbeats 4000000 in
theorem ratios_same (l : List (Int × Int)) (hl : l.length < 1000000) : Fn Try.prog 30 [slOf 2 ratD (0, 0) l, slOf 2 ratD (0, 0) l] (bool true) := by
 refine Fn.of_ex (cuts := []) tys hM Try.func30 rfl Try.call30 rfl ?_
 show exC Try.prog T [] _ false none 0 (entry 26 [slOf 2 ratD (0, 0) l, slOf 2 ratD (0, 0) l]) (finQ T [ResultVar.tmp 4] _)
 conv => whnf
 repeat' first | ((first | refine Ob.a ?_ | refine Sp.tt ?_ | refine Sp.ff ?_ | refine Sp.yes ?_ | refine Sp.no ?_ | refine Sp.nyes ?_ | refine Sp.nno ?_);conv=>whnf) | ((first | refine Sp.ne (fun hc => ?_) fun hc => ?_ | refine Sp.dec (fun hc => ?_) fun hc => ?_ | refine Sp.ndec (fun hc => ?_) fun hc => ?_ | refine Sp.mk (fun hc => ?_) fun hc => ?_) <;> conv => whnf) | (refine Fi.a ?_;conv=>whnf) | (refine Ob.b ?_;conv=>whnf)
 all_goals try (exfalso; omega)
 refine Lp.snap [0, 1] 40 ?_
 (conv=>whnf)
 refine LpB.go 26 ({i : Int // 0 ≤ i ∧ i ≤ l.length}) 0 (fun ⟨i, _⟩ nx => ([(5, .d (int i))], [])) (fun p => (l.length - p.1).toNat) (⟨0, by omega, by omega⟩) ?_ ?_
 ·rintro ⟨i, i0, i1⟩
  conv => whnf
  repeat' first | ((first | refine Ob.a ?_ | refine Sp.tt ?_ | refine Sp.ff ?_ | refine Sp.yes ?_ | refine Sp.no ?_ | refine Sp.nyes ?_ | refine Sp.nno ?_);conv=>whnf) | ((first | refine Sp.ne (fun hc => ?_) fun hc => ?_ | refine Sp.dec (fun hc => ?_) fun hc => ?_ | refine Sp.ndec (fun hc => ?_) fun hc => ?_ | refine Sp.mk (fun hc => ?_) fun hc => ?_) <;> conv => whnf) | (refine Fi.a ?_;conv=>whnf) | (refine Ob.go (fun _ => ?_) (isI2 ⟨⟨_, rfl⟩, ⟨_, rfl⟩⟩ ⟨⟨_, rfl⟩, ⟨_, rfl⟩⟩);conv=>whnf) | (refine Ob.b ?_;conv=>whnf)
  all_goals first | (exfalso; omega) | exact ⟨rfl, ⟨i + 1, by omega, by omega⟩, Lf, by simp only; omega⟩ | exact Lf | (exfalso; rename_i hq; exact hq fun _ _ => rfl)
 ·exact Lf
/-- A valid mix is not too great. -/
theorem mix_wide {F : List (List Int)} (h : MixOk F) : wideOk F := by
 have hl10 := h.l10
 refine ⟨by omega, fun w hw => ?_⟩
 obtain ⟨j, hj, rfl⟩ := mem_getD (d := []) hw
 have := frm_len' h hj
 change (F.getD j []).length ≤ j at this
 omega
theorem mix_small {F : List (List Int)} (h : wideOk F) : SmallM F := ⟨by have := h.1; omega, fun l hl => by have := h.2 l hl; omega⟩
theorem fine_spec (F : List (List Int)) (hl : F.length ≤ 9223372036854775807) (hw : ∀ w ∈ F, w.length ≤ 9223372036854775807) : Fn Try.prog 39 [mixD F] (bool (decide (checkM F = 0))) := by
 have hg := great_spec F hl hw
 by_cases h : wideOk F
 ·have hC := CheckMix_spec F (mix_small h).l (mix_small h).i
  rw [decide_eq_true h] at hg
  by_cases hm : MixOk F
  ·rw [checkM_ok.2 hm] at hC
   rw [decide_eq_true (checkM_ok.2 hm)]
   refine Fn.of_ex (cuts := []) tys hM Try.func39 rfl Try.call39 rfl ?_
   show exC Try.prog T [] _ false none 0 (entry 11 [mixD F]) (finQ T [ResultVar.tmp 2] _)
   conv => whnf
   repeat' first | ((first | refine Ob.a ?_ | refine Sp.tt ?_ | refine Sp.ff ?_ | refine Sp.yes ?_ | refine Sp.no ?_ | refine Sp.nyes ?_ | refine Sp.nno ?_);conv=>whnf) | ((first | refine Sp.ne (fun hc => ?_) fun hc => ?_ | refine Sp.dec (fun hc => ?_) fun hc => ?_ | refine Sp.ndec (fun hc => ?_) fun hc => ?_ | refine Sp.mk (fun hc => ?_) fun hc => ?_) <;> conv => whnf) | (apply Cl.go;(conv=>whnf); (first | refine Ob.call (hg) ?_ | refine Ob.call (hC) ?_);(conv=>whnf)) | (refine Fi.a ?_;conv=>whnf) | (refine Ob.b ?_;conv=>whnf)
   all_goals exact Lf
  ·have h0 : ¬ checkM F = 0 := fun h => hm (checkM_ok.1 h)
   rw [decide_eq_false h0]
   generalize checkM F = k at *
   have e : decide (k = 0) = false := decide_eq_false h0
   refine Fn.of_ex (cuts := []) tys hM Try.func39 rfl Try.call39 rfl ?_
   show exC Try.prog T [] _ false none 0 (entry 11 [mixD F]) (finQ T [ResultVar.tmp 2] _)
   conv => whnf
   repeat' first | ((first | refine Ob.a ?_ | refine Sp.tt ?_ | refine Sp.ff ?_ | refine Sp.yes ?_ | refine Sp.no ?_ | refine Sp.nyes ?_ | refine Sp.nno ?_);conv=>whnf) | ((first | refine Sp.ne (fun hc => ?_) fun hc => ?_ | refine Sp.dec (fun hc => ?_) fun hc => ?_ | refine Sp.ndec (fun hc => ?_) fun hc => ?_ | refine Sp.mk (fun hc => ?_) fun hc => ?_) <;> conv => whnf) | (apply Cl.go;(conv=>whnf); (first | refine Ob.call (hg) ?_ | refine Ob.call (hC) ?_);(conv=>whnf)) | (refine Fi.a ?_;conv=>whnf) | (refine Ob.b ?_;conv=>whnf)
   all_goals first | exact ⟨trivial, e⟩ | exact Lf
 ·rw [decide_eq_false h] at hg
  rw [decide_eq_false fun hm => h (mix_wide (checkM_ok.1 hm))]
  refine Fn.of_ex (cuts := []) tys hM Try.func39 rfl Try.call39 rfl ?_
  show exC Try.prog T [] _ false none 0 (entry 11 [mixD F]) (finQ T [ResultVar.tmp 2] _)
  conv => whnf
  repeat' first | ((first | refine Ob.a ?_ | refine Sp.tt ?_ | refine Sp.ff ?_ | refine Sp.yes ?_ | refine Sp.no ?_ | refine Sp.nyes ?_ | refine Sp.nno ?_);conv=>whnf) | ((first | refine Sp.ne (fun hc => ?_) fun hc => ?_ | refine Sp.dec (fun hc => ?_) fun hc => ?_ | refine Sp.ndec (fun hc => ?_) fun hc => ?_ | refine Sp.mk (fun hc => ?_) fun hc => ?_) <;> conv => whnf) | (apply Cl.go;(conv=>whnf); (first | refine Ob.call (hg) ?_);(conv=>whnf)) | (refine Fi.a ?_;conv=>whnf) | (refine Ob.b ?_;conv=>whnf)
  all_goals exact Lf
/-- The lots of a mix; the sacks that bits say. -/
def lotsL (F : List (List Int)) : List Int := lst F.length fun i => !sackB F i
def badL (F : List (List Int)) (b : Nat) : List Int := lst F.length fun i => sackB F i && bset b i
set_option maxHeartbeats 4000000 in
theorem Lots_spec (F : List (List Int)) (hm : MixOk F) : Fn Try.prog 40 [mixD F] (ints (lotsL F)) := by
 refine Fn.hide (D := fun r : List Int => ints r) fun c hc => ?_
 have hc0 := hc.h
 have hl10 := hm.l10
 clear hc
 refine Fn.of_ex (cuts := []) tys hM Try.func40 rfl Try.call40 rfl ?_
 show exC Try.prog T [] _ false none 0 (entry 24 [mixD F]) (finQ T [ResultVar.tmp 2] _)
 conv => whnf
 repeat' first | ((first | refine Ob.a ?_ | refine Sp.tt ?_ | refine Sp.ff ?_ | refine Sp.yes ?_ | refine Sp.no ?_ | refine Sp.nyes ?_ | refine Sp.nno ?_);conv=>whnf) | ((first | refine Sp.ne (fun hc => ?_) fun hc => ?_ | refine Sp.dec (fun hc => ?_) fun hc => ?_ | refine Sp.ndec (fun hc => ?_) fun hc => ?_ | refine Sp.mk (fun hc => ?_) fun hc => ?_) <;> conv => whnf) | (refine Fi.a ?_;conv=>whnf) | (refine Ob.b ?_;conv=>whnf)
 refine Lp.snap [0, 1, 2, 23] 40 ?_
 (conv=>whnf)
 refine LpB.go 24 ({q : Int × List Int // (0 ≤ q.1 ∧ q.1 ≤ F.length) ∧ q.2 = lst q.1.toNat fun i => !sackB F i}) 0 (fun ⟨(i, o), _⟩ nx => ([(4, .d (int i)), (3, .ms 2 1 0 o.length)], [(2, .row true 3 1 o.length (rowOf int 0 o))])) (fun p => (F.length - p.1.1).toNat) (⟨(0, []), ⟨by simp, by simp⟩, rfl⟩) ?_ ?_
 ·rintro ⟨⟨i, o⟩, ⟨i0, i1⟩, ho⟩
  simp only at i0 i1 ho
  have hlen : o.length ≤ i.toNat := by rw [ho]; exact lst_length_le _ _
  by_cases hi : i < F.length
  ·have hfl := frm_len' hm (i := i.toNat) (by omega)
   change (F.getD i.toNat []).length ≤ i.toNat at hfl
   have hst : lst (i + 1).toNat (fun i => !sackB F i) = o ++ if 0 < (F.getD i.toNat []).length then [i] else [] := by
    rw [show (i + 1).toNat = i.toNat + 1 by omega, lst_succ, ho, Int.toNat_of_nonneg i0]
    congr 1
    unfold sackB
    by_cases hz : frm F i.toNat = []
    ·rw [decide_eq_true hz, if_neg (by simp), if_neg (by rw [show F.getD i.toNat [] = [] from hz]; simp)]
    ·rw [decide_eq_false hz, if_pos (by simp), if_pos (show 0 < (F.getD i.toNat []).length from List.length_pos_iff.2 hz)]
   by_cases hz : 0 < (F.getD i.toNat []).length
   ·rw [if_pos hz] at hst
    conv => whnf
    repeat' first | ((first | refine Ob.a ?_ | refine Sp.tt ?_ | refine Sp.ff ?_ | refine Sp.yes ?_ | refine Sp.no ?_ | refine Sp.nyes ?_ | refine Sp.nno ?_);conv=>whnf) | ((first | refine Sp.ne (fun hc => ?_) fun hc => ?_ | refine Sp.dec (fun hc => ?_) fun hc => ?_ | refine Sp.ndec (fun hc => ?_) fun hc => ?_ | refine Sp.mk (fun hc => ?_) fun hc => ?_) <;> conv => whnf) | (refine Fi.a ?_;conv=>whnf) | (refine Ob.b ?_;conv=>whnf)
    all_goals first | (exfalso; omega) | exact ⟨rfl, ⟨(i + 1, o ++ [i]), ⟨by simp only; omega, by simp only; omega⟩, hst.symm⟩, Lf, by simp only; omega⟩
   ·rw [if_neg hz, List.append_nil] at hst
    conv => whnf
    repeat' first | ((first | refine Ob.a ?_ | refine Sp.tt ?_ | refine Sp.ff ?_ | refine Sp.yes ?_ | refine Sp.no ?_ | refine Sp.nyes ?_ | refine Sp.nno ?_);conv=>whnf) | ((first | refine Sp.ne (fun hc => ?_) fun hc => ?_ | refine Sp.dec (fun hc => ?_) fun hc => ?_ | refine Sp.ndec (fun hc => ?_) fun hc => ?_ | refine Sp.mk (fun hc => ?_) fun hc => ?_) <;> conv => whnf) | (refine Fi.a ?_;conv=>whnf) | (refine Ob.b ?_;conv=>whnf)
    all_goals first | (exfalso; omega) | exact ⟨rfl, ⟨(i + 1, o), ⟨by simp only; omega, by simp only; omega⟩, hst.symm⟩, Lf, by simp only; omega⟩
  ·have e : o = c := by rw [ho, ← hc0, show i.toNat = F.length by omega]; rfl
   conv => whnf
   repeat' first | ((first | refine Ob.a ?_ | refine Sp.tt ?_ | refine Sp.ff ?_ | refine Sp.yes ?_ | refine Sp.no ?_ | refine Sp.nyes ?_ | refine Sp.nno ?_);conv=>whnf) | ((first | refine Sp.ne (fun hc => ?_) fun hc => ?_ | refine Sp.dec (fun hc => ?_) fun hc => ?_ | refine Sp.ndec (fun hc => ?_) fun hc => ?_ | refine Sp.mk (fun hc => ?_) fun hc => ?_) <;> conv => whnf) | (refine Fi.a ?_;conv=>whnf) | (refine Ob.b ?_;conv=>whnf)
   all_goals exact Lf
 ·exact Lf
def u16 (n : Nat) : DV := .v (.int .u16 n)
def u8 (n : Nat) : DV := .v (.int .u8 n)
def u8s (l : List Nat) : DV := slOf 1 u8 0 l
theorem band16 (b k : Nat) : band .u16 ((b : Int) / 2 ^ k) 1 = ((b / 2 ^ k % 2 : Nat) : Int) := by
 have e : ((b : Int) / 2 ^ k) = ((b / 2 ^ k : Nat) : Int) := by simp
 rw [e]
 generalize b / 2 ^ k = c
 unfold band
 have h : (BitVec.ofInt IntKind.u16.bits (c : Int) &&& BitVec.ofInt IntKind.u16.bits 1).toNat = c % 2 := by
  have e1 : BitVec.ofInt IntKind.u16.bits (c : Int) = BitVec.ofNat 16 c := BitVec.ofInt_natCast 16 c
  have e2 : BitVec.ofInt IntKind.u16.bits 1 = BitVec.ofNat 16 1 := rfl
  rw [e1, e2]
  show (BitVec.ofNat 16 c &&& BitVec.ofNat 16 1).toNat = _
  rw [BitVec.toNat_and, BitVec.toNat_ofNat, BitVec.toNat_ofNat, show 1 % 2 ^ 16 = 1 from rfl, Nat.and_one_is_mod, Nat.mod_mod_of_dvd]
  decide
 rw [h, wrap_in]
 simp only [inR]
 omega
set_option maxHeartbeats 4000000 in
theorem Bad_spec (F : List (List Int)) (hm : MixOk F) (b : Nat) : Fn Try.prog 41 [mixD F, u16 b] (ints (badL F b)) := by
 refine Fn.hide (D := fun r : List Int => ints r) fun c hc => ?_
 have hc0 := hc.h
 have hl10 := hm.l10
 clear hc
 refine Fn.of_ex (cuts := []) tys hM Try.func41 rfl Try.call41 rfl ?_
 show exC Try.prog T [] _ false none 0 (entry 33 [mixD F, u16 b]) (finQ T [ResultVar.tmp 4] _)
 conv => whnf
 repeat' first | ((first | refine Ob.a ?_ | refine Sp.tt ?_ | refine Sp.ff ?_ | refine Sp.yes ?_ | refine Sp.no ?_ | refine Sp.nyes ?_ | refine Sp.nno ?_);conv=>whnf) | ((first | refine Sp.ne (fun hc => ?_) fun hc => ?_ | refine Sp.dec (fun hc => ?_) fun hc => ?_ | refine Sp.ndec (fun hc => ?_) fun hc => ?_ | refine Sp.mk (fun hc => ?_) fun hc => ?_) <;> conv => whnf) | (refine Fi.a ?_;conv=>whnf) | (refine Ob.b ?_;conv=>whnf)
 refine Lp.snap [0, 1, 2, 4, 32] 40 ?_
 (conv=>whnf)
 refine LpB.go 33 ({q : Int × List Int // (0 ≤ q.1 ∧ q.1 ≤ F.length) ∧ q.2 = lst q.1.toNat fun i => sackB F i && bset b i}) 0 (fun ⟨(i, o), _⟩ nx => ([(6, .d (int i)), (5, .ms 2 1 0 o.length)], [(2, .row true 3 1 o.length (rowOf int 0 o))])) (fun p => (F.length - p.1.1).toNat) (⟨(0, []), ⟨by simp, by simp⟩, rfl⟩) ?_ ?_
 ·rintro ⟨⟨i, o⟩, ⟨i0, i1⟩, ho⟩
  simp only at i0 i1 ho
  have hlen : o.length ≤ i.toNat := by rw [ho]; exact lst_length_le _ _
  by_cases hi : i < F.length
  ·have hfl := frm_len' hm (i := i.toNat) (by omega)
   have hb2 := band16 b i.toNat
   change (F.getD i.toNat []).length ≤ i.toNat at hfl
   have hst : lst (i + 1).toNat (fun i => sackB F i && bset b i) = o ++ if (F.getD i.toNat []).length = 0 ∧ b / 2 ^ i.toNat % 2 = 1 then [i] else [] := by
    rw [show (i + 1).toNat = i.toNat + 1 by omega, lst_succ, ho, Int.toNat_of_nonneg i0]
    congr 1
    unfold sackB bset
    by_cases hz : frm F i.toNat = []
    ·have hz' : (F.getD i.toNat []).length = 0 := by rw [show F.getD i.toNat [] = [] from hz]; rfl
     rw [decide_eq_true hz, Bool.true_and]
     by_cases hb : b / 2 ^ i.toNat % 2 = 1
     ·rw [decide_eq_true hb, if_pos rfl, if_pos ⟨hz', hb⟩]
     ·rw [decide_eq_false hb, if_neg (by simp), if_neg fun h => hb h.2]
    ·have hz' : ¬ (F.getD i.toNat []).length = 0 := fun h => hz (List.length_eq_zero_iff.1 h)
     rw [decide_eq_false hz, Bool.false_and, if_neg (by simp), if_neg fun h => hz' h.1]
   by_cases hz : (F.getD i.toNat []).length = 0
   ·by_cases hb : b / 2 ^ i.toNat % 2 = 1
    ·rw [if_pos ⟨hz, hb⟩] at hst
     have hq : ((b / 2 ^ i.toNat % 2 : Nat) : Int) = 1 := by omega
     rw [hq] at hb2
     conv => whnf
     repeat' first | ((first | refine Ob.a ?_ | refine Sp.tt ?_ | refine Sp.ff ?_ | refine Sp.yes ?_ | refine Sp.no ?_ | refine Sp.nyes ?_ | refine Sp.nno ?_);conv=>whnf) | ((first | refine Sp.ne (fun hc => ?_) fun hc => ?_ | refine Sp.dec (fun hc => ?_) fun hc => ?_ | refine Sp.ndec (fun hc => ?_) fun hc => ?_ | refine Sp.mk (fun hc => ?_) fun hc => ?_) <;> conv => whnf) | (refine Fi.a ?_;conv=>whnf) | (refine Ob.b ?_;conv=>whnf)
     all_goals first | (exfalso; omega) | exact ⟨rfl, ⟨(i + 1, o ++ [i]), ⟨by simp only; omega, by simp only; omega⟩, hst.symm⟩, Lf, by simp only; omega⟩
    ·rw [if_neg fun h => hb h.2, List.append_nil] at hst
     have hq : ((b / 2 ^ i.toNat % 2 : Nat) : Int) = 0 := by omega
     rw [hq] at hb2
     conv => whnf
     repeat' first | ((first | refine Ob.a ?_ | refine Sp.tt ?_ | refine Sp.ff ?_ | refine Sp.yes ?_ | refine Sp.no ?_ | refine Sp.nyes ?_ | refine Sp.nno ?_);conv=>whnf) | ((first | refine Sp.ne (fun hc => ?_) fun hc => ?_ | refine Sp.dec (fun hc => ?_) fun hc => ?_ | refine Sp.ndec (fun hc => ?_) fun hc => ?_ | refine Sp.mk (fun hc => ?_) fun hc => ?_) <;> conv => whnf) | (refine Fi.a ?_;conv=>whnf) | (refine Ob.b ?_;conv=>whnf)
     all_goals first | (exfalso; omega) | exact ⟨rfl, ⟨(i + 1, o), ⟨by simp only; omega, by simp only; omega⟩, hst.symm⟩, Lf, by simp only; omega⟩
   ·rw [if_neg fun h => hz h.1, List.append_nil] at hst
    conv => whnf
    repeat' first | ((first | refine Ob.a ?_ | refine Sp.tt ?_ | refine Sp.ff ?_ | refine Sp.yes ?_ | refine Sp.no ?_ | refine Sp.nyes ?_ | refine Sp.nno ?_);conv=>whnf) | ((first | refine Sp.ne (fun hc => ?_) fun hc => ?_ | refine Sp.dec (fun hc => ?_) fun hc => ?_ | refine Sp.ndec (fun hc => ?_) fun hc => ?_ | refine Sp.mk (fun hc => ?_) fun hc => ?_) <;> conv => whnf) | (refine Fi.a ?_;conv=>whnf) | (refine Ob.b ?_;conv=>whnf)
    all_goals first | (exfalso; omega) | exact ⟨rfl, ⟨(i + 1, o), ⟨by simp only; omega, by simp only; omega⟩, hst.symm⟩, Lf, by simp only; omega⟩
  ·have e : o = c := by rw [ho, ← hc0, show i.toNat = F.length by omega]; rfl
   conv => whnf
   repeat' first | ((first | refine Ob.a ?_ | refine Sp.tt ?_ | refine Sp.ff ?_ | refine Sp.yes ?_ | refine Sp.no ?_ | refine Sp.nyes ?_ | refine Sp.nno ?_);conv=>whnf) | ((first | refine Sp.ne (fun hc => ?_) fun hc => ?_ | refine Sp.dec (fun hc => ?_) fun hc => ?_ | refine Sp.ndec (fun hc => ?_) fun hc => ?_ | refine Sp.mk (fun hc => ?_) fun hc => ?_) <;> conv => whnf) | (refine Fi.a ?_;conv=>whnf) | (refine Ob.b ?_;conv=>whnf)
   all_goals exact Lf
 ·exact Lf
set_option maxHeartbeats 4000000 in
theorem cut_spec (F : List (List Int)) (bad : List Int) (lot : Int) (hk : BadOk F bad lot) : Fn Try.prog 42 [mixD F, ints bad, int lot] (tpl [ints (cutI F bad lot), bool true]) := by
 have hs := mix_small (mix_wide hk.mix)
 have hl10 := hk.mix.l10
 have hbl : bad.length < 1000 := by
  rw [lst_of_inc hk.ris.1 hk.ris.2]
  have := lst_length_le F.length fun i => decide ((i : Int) ∈ bad)
  omega
 have h0 := badE_ok.2 hk
 have h1 := CutP_spec F hs bad (by omega) lot
 have h2 := WaysP_spec F hs bad (by omega) lot
 rw [if_pos h0, h0] at h1 h2
 change Fn _ _ _ (tpl [ints (cutI F bad lot), int 0]) at h1
 change Fn _ _ _ (tpl [slOf 1 ints [] (wysI F bad lot), int 0]) at h2
 have hwl : (wysI F bad lot).length = lam0 F bad lot := wys_len hk
 have hcl : (cutI F bad lot).length = lam0 F bad lot := cut_len hk
 have hww := wys_way hk
 have hlb := lam_bad hk
 have hc10 : (cutI F bad lot).length ≤ 10 := by
  have h := cut_ris hk
  rw [lst_of_inc h.1 h.2]
  have := lst_length_le F.length fun i => decide ((i : Int) ∈ cutI F bad lot)
  omega
 have hwo : wideOk (wysI F bad lot) := ⟨by omega, fun w hw => by have := (hww w hw).2; omega⟩
 have h3 := wide_spec (wysI F bad lot) (by omega) fun w hw => by have := (hww w hw).2; omega
 rw [decide_eq_true hwo] at h3
 have h4 := CheckWaysP_spec F hs bad (by omega) lot (wysI F bad lot) (by omega) fun w hw => by have := (hww w hw).2; omega
 have h5 := CheckWays_spec F hs bad (by omega) lot (wysI F bad lot) (by omega) fun w hw => by have := (hww w hw).2; omega
 rw [wys_check hk, if_pos rfl] at h4 h5
 have h6 := CheckCutP_spec F hs bad (by omega) lot (cutI F bad lot) (by omega)
 have h7 := CheckCut_spec F hs bad (by omega) lot (cutI F bad lot) (by omega)
 rw [checkCut_cut hk] at h6 h7
 rw [← hcl] at hwl
 clear hcl hlb hww hwo
 generalize cutI F bad lot = c at *
 generalize wysI F bad lot = ws at *
 refine Fn.of_ex (cuts := []) tys hM Try.func42 rfl Try.call42 rfl ?_
 show exC Try.prog T [] _ false none 0 (entry 95 [mixD F, ints bad, int lot]) (finQ T [ResultVar.tmp 6, ResultVar.tmp 7] _)
 conv => whnf
 repeat' first | ((first | refine Ob.a ?_ | refine Sp.tt ?_ | refine Sp.ff ?_ | refine Sp.yes ?_ | refine Sp.no ?_ | refine Sp.nyes ?_ | refine Sp.nno ?_);conv=>whnf) | ((first | refine Sp.ne (fun hc => ?_) fun hc => ?_ | refine Sp.dec (fun hc => ?_) fun hc => ?_ | refine Sp.ndec (fun hc => ?_) fun hc => ?_ | refine Sp.mk (fun hc => ?_) fun hc => ?_) <;> conv => whnf) | (apply Cl.go;(conv=>whnf); (first | refine Ob.call (h1) ?_ | refine Ob.call (h2) ?_ | refine Ob.call (h3) ?_ | refine Ob.call (h4) ?_ | refine Ob.call (h5) ?_ | refine Ob.call (h6) ?_ | refine Ob.call (h7) ?_);(conv=>whnf)) | (refine Fi.a ?_;conv=>whnf) | (refine Ob.b ?_;conv=>whnf)
 all_goals first | (exfalso; omega) | (rename_i hq; exact absurd rfl hq) | exact Lf
end Go.Px.Try

/-! Law2 -/
namespace Go.Px.Try
open Go Go.Proofs Go.Px
set_option maxRecDepth 100000
section
variable {F : List (List Int)} {bad : List Int} {lot : Int} (hk : BadOk F bad lot)
include hk
theorem grw_low {m : Nat} {l : List Nat} (h : grwR F (inZ bad) lot.toNat m F.length [] 0 = some l) : lam0 F bad lot ≤ m := by
 obtain ⟨_, a2, a3, a4, a5⟩ := grwR_some F.length [] 0 l h List.Pairwise.nil (by simp)
 have h := lam_low hk (X := inS l) (inS_not.2 fun h => (a5 _ h).2 rfl) a3
 rw [cnt_list (nodup_inc a4) fun k hkk => by have := (a5 k hkk).1; omega, a2] at h
 omega
theorem grw_cut : grwR F (inZ bad) lot.toNat (lam0 F bad lot) F.length [] 0 = some (cutP F bad lot) := by
 have h := grwR_grdy (F := F) (bad := inZ bad) (lot := lot.toNat) (lam := lamW F (inZ bad) lot.toNat) (m := lam0 F bad lot) (o := cutP F bad lot) (fun W h => hklam hk W h) (by unfold lam0; rw [nil_inZ]) (cut_inv hk).1 (cut_inv hk).2 F.length 0 (by omega)
 have e : (cutP F bad lot).filter (fun k => decide (k < 0)) = [] := List.filter_eq_nil_iff.2 fun a _ => by simp
 rw [e] at h
 exact h
theorem cutI_eq {m : Nat} {o : List Nat} (hn : ∀ j, j < m → grwR F (inZ bad) lot.toNat j F.length [] 0 = none) (hs : grwR F (inZ bad) lot.toNat m F.length [] 0 = some o) : cutI F bad lot = zl o ∧ lam0 F bad lot = m := by
 have h1 := grw_low hk hs
 have h2 := grw_cut hk
 have h3 : lam0 F bad lot = m := by
  by_cases e : lam0 F bad lot < m
  ·rw [hn _ e] at h2; cases h2
  ·omega
 rw [h3, hs] at h2
 cases h2
 exact ⟨rfl, h3⟩
end
theorem smM : SmallM mixM := ⟨by decide, by decide⟩
theorem bad1 : BadOk mixM [0, 1] 7 := badE_ok.1 (by decide +kernel)
theorem bad2 : BadOk mixM [0, 1, 2] 7 := badE_ok.1 (by decide +kernel)
theorem bad3 : BadOk mixM [2] 3 := badE_ok.1 (by decide +kernel)
theorem bad4 : BadOk mixM [1] 5 := badE_ok.1 (by decide +kernel)
theorem w_sacks (x : Int) (l : List Int) (h : nodeE mixM [x] = 0) (h2 : sacksL mixM x.toNat = l) : Fn Try.prog 17 [mixD mixM, int x] (tpl [ints l, int 0]) := by
 have a := SacksP_spec mixM smM x
 rwa [h, if_pos rfl, h2] at a
theorem w_count (x n : Int) (h : nodeE mixM [x] = 0) (h2 : cg mixM (fun _ => false) x.toNat = n) : Fn Try.prog 19 [mixD mixM, int x] (tpl [int n, int 0]) := by
 have a := CountP_spec mixM smM x
 rwa [h, if_pos rfl, h2] at a
theorem w_count8 : Fn Try.prog 19 [mixD mixM, int 8] (tpl [int 0, int 2]) := by
 have a := CountP_spec mixM smM 8
 rwa [show nodeE mixM [8] = 2 by decide +kernel, if_neg (by decide)] at a
theorem w_through (x : Int) (l : List Int) (h : nodeE mixM [x] = 0) (h2 : thL mixM x.toNat = l) : Fn Try.prog 24 [mixD mixM, int x] (tpl [ints l, int 0]) := by
 have a := ThroughP_spec mixM smM x
 rwa [h, if_pos rfl, h2] at a
theorem w_parts (x : Int) (l : List (Int × Int)) (h : nodeE mixM [x] = 0) (h2 : partsL mixM x.toNat = l) : Fn Try.prog 26 [mixD mixM, int x] (tpl [slOf 2 ratD (0, 0) l, int 0]) := by
 have a := PartsP_spec mixM smM x
 rwa [h, if_pos rfl, h2] at a
theorem w_common (x y : Int) (l : List Int) (h : nodeE mixM [x, y] = 0) (h2 : coL mixM x.toNat y.toNat = l) : Fn Try.prog 28 [mixD mixM, int x, int y] (tpl [ints l, int 0]) := by
 have a := CommonP_spec mixM smM x y
 rwa [h, if_pos rfl, h2] at a
theorem w_cut {bad : List Int} {lot : Int} (hk : BadOk mixM bad lot) (hb : bad.length < 1000000) (l : List Int) (h2 : cutI mixM bad lot = l) : Fn Try.prog 31 [mixD mixM, ints bad, int lot] (tpl [ints l, int 0]) := by
 have a := CutP_spec mixM smM bad hb lot
 rw [badE_ok.2 hk, if_pos rfl] at a
 rw [← h2]; exact a
theorem w_checkCut (bad : List Int) (lot : Int) (c : List Int) (e : Int) (hb : bad.length < 1000000) (hc : c.length < 1000000) (h : checkCutR mixM bad lot c = e) : Fn Try.prog 33 [mixD mixM, ints bad, int lot, ints c] (int e) := h ▸ CheckCutP_spec mixM smM bad hb lot c hc
theorem w_checkWays (bad : List Int) (lot : Int) (ws : List (List Int)) (n e : Int) (hb : bad.length < 1000000) (hl : ws.length < 1000000) (hw : ∀ w ∈ ws, w.length < 1000000) (h : checkWaysR mixM bad lot ws = e) (h2 : (if e = 0 then (ws.length : Int) else 0) = n) : Fn Try.prog 36 [mixD mixM, ints bad, int lot, slOf 1 ints [] ws] (tpl [int n, int e]) := by
 have a := CheckWaysP_spec mixM smM bad hb lot ws hl hw
 rwa [h, h2] at a
theorem cutA : cutI mixM [0, 1] 7 = [5] := (cutI_eq bad1 (m := 1) (o := [5]) (by decide +kernel) (by decide +kernel)).1
theorem cutB : cutI mixM [0, 1, 2] 7 = [2, 5] ∧ lam0 mixM [0, 1, 2] 7 = 2 := cutI_eq bad2 (m := 2) (o := [2, 5]) (by decide +kernel) (by decide +kernel)
theorem cutC : cutI mixM [2] 3 = [] := (cutI_eq bad3 (m := 0) (o := []) (by decide +kernel) (by decide +kernel)).1
theorem cutD : cutI mixM [1] 5 = [1] := (cutI_eq bad4 (m := 1) (o := [1]) (by decide +kernel) (by decide +kernel)).1
theorem w_ways : ∃ ws : List (List Int), (ws.length = 2 ∧ ∀ w ∈ ws, w.length < 1000000) ∧ Fn Try.prog 38 [mixD mixM, ints [0, 1, 2], int 7] (tpl [slOf 1 ints [] ws, int 0]) ∧ Fn Try.prog 37 [mixD mixM, ints [0, 1, 2], int 7, slOf 1 ints [] ws] (tpl [int 2, int 0]) := by
 have a := WaysP_spec mixM smM [0, 1, 2] (by simp) 7
 rw [badE_ok.2 bad2, if_pos rfl] at a
 have hl := wys_len bad2
 rw [cutB.2] at hl
 have hw : ∀ w ∈ wysI mixM [0, 1, 2] 7, w.length < 1000000 := fun w hw => by have := (wys_way bad2 w hw).2; have : mixM.length = 8 := rfl; omega
 have b := CheckWays_spec mixM smM [0, 1, 2] (by simp) 7 (wysI mixM [0, 1, 2] 7) (by omega) hw
 rw [wys_check bad2, if_pos rfl, hl] at b
 exact ⟨_, ⟨hl, hw⟩, a, b⟩
theorem partsM : partsL mixM 7 = [(1, 8), (1, 4), (5, 8), (0, 1), (0, 1), (0, 1), (0, 1), (0, 1)] := by decide +kernel
set_option maxHeartbeats 16000000 in
theorem Works_spec : Fn Try.prog 16 [] (bool true) := by
 have g1 := eight_spec
 have h1 := w_sacks 3 [0, 1] (by decide +kernel) (by decide +kernel)
 have h2 := w_count 7 5 (by decide +kernel) (by decide +kernel)
 have h3 := w_count8
 have h4 := w_through 6 [5] (by decide +kernel) (by decide +kernel)
 have h5 := w_through 7 [] (by decide +kernel) (by decide +kernel)
 have h6 := w_parts 7 _ (by decide +kernel) partsM
 have h7 := w_common 3 4 [1] (by decide +kernel) (by decide +kernel)
 have h8 := w_common 6 7 [6] (by decide +kernel) (by decide +kernel)
 have h9 := w_cut bad1 (by simp) [5] cutA
 have h10 := w_cut bad2 (by simp) [2, 5] cutB.1
 have h11 := w_cut bad3 (by simp) [] cutC
 have h12 := w_checkCut [0, 1] 7 [3] 26 (by simp) (by simp) (by decide +kernel)
 have h13 := w_checkCut [0, 1] 7 [5] 0 (by simp) (by simp) (by decide +kernel)
 have h14 := w_checkCut [0, 1] 7 [7] 2 (by simp) (by simp) (by decide +kernel)
 have h15 := w_checkWays [0, 1, 2] 7 [[2, 7], [0, 3, 5, 6, 7]] 2 0 (by simp) (by simp) (by simp) (by decide +kernel) (by decide)
 have h16 := w_checkWays [0, 1, 2] 7 [[0, 3, 5, 6, 7], [1, 4, 5, 6, 7]] 0 16 (by simp) (by simp) (by simp) (by decide +kernel) (by decide)
 have h17 := w_checkWays [0, 1, 2] 7 [[2, 4, 7]] 0 26 (by simp) (by simp) (by simp) (by decide +kernel) (by decide)
 obtain ⟨ws, ⟨hl, hw⟩, h18, h19⟩ := w_ways
 have i1 := ints_same [0, 1] (by simp)
 have i2 := ints_same [5] (by simp)
 have i3 := ints_same [1] (by simp)
 have i4 := ints_same [6] (by simp)
 have i5 := ints_same [2, 5] (by simp)
 generalize mixM = F at *
 refine Fn.of_ex (cuts := []) tys hM Try.func16 rfl Try.call16 rfl ?_
 show exC Try.prog T [] _ false none 0 (entry 332 []) (finQ T [ResultVar.tmp 0] _)
 conv => whnf
 repeat' first | ((first | refine Ob.a ?_ | refine Sp.tt ?_ | refine Sp.ff ?_ | refine Sp.yes ?_ | refine Sp.no ?_ | refine Sp.nyes ?_ | refine Sp.nno ?_);conv=>whnf) | ((first | refine Sp.ne (fun hc => ?_) fun hc => ?_ | refine Sp.dec (fun hc => ?_) fun hc => ?_ | refine Sp.ndec (fun hc => ?_) fun hc => ?_ | refine Sp.mk (fun hc => ?_) fun hc => ?_) <;> conv => whnf) | (apply Cl.go;(conv=>whnf); (first | refine Ob.call (g1) ?_ | refine Ob.call (h1) ?_ | refine Ob.call (h2) ?_ | refine Ob.call (h3) ?_ | refine Ob.call (h4) ?_ | refine Ob.call (h5) ?_ | refine Ob.call (h6) ?_ | refine Ob.call (h7) ?_ | refine Ob.call (h8) ?_ | refine Ob.call (h9) ?_ | refine Ob.call (h10) ?_ | refine Ob.call (h11) ?_ | refine Ob.call (h12) ?_ | refine Ob.call (h13) ?_ | refine Ob.call (h14) ?_ | refine Ob.call (h15) ?_ | refine Ob.call (h16) ?_ | refine Ob.call (h17) ?_ | refine Ob.call (h18) ?_ | refine Ob.call (h19) ?_ | refine Ob.call (i1) ?_ | refine Ob.call (i2) ?_ | refine Ob.call (i3) ?_ | refine Ob.call (i4) ?_ | refine Ob.call (i5) ?_ | refine Ob.call (of_spec [0, 1]) ?_ | refine Ob.call (of_spec [0, 1, 2]) ?_ | refine Ob.call (of_spec [2]) ?_ | refine Ob.call (of_spec [3]) ?_ | refine Ob.call (of_spec [5]) ?_ | refine Ob.call (of_spec [7]) ?_ | refine Ob.call (of_spec [2, 7]) ?_ | refine Ob.call (of_spec [0, 3, 5, 6, 7]) ?_ | refine Ob.call (of_spec [1, 4, 5, 6, 7]) ?_ | refine Ob.call (of_spec [2, 4, 7]) ?_ | refine Ob.call (of_spec [1]) ?_ | refine Ob.call (of_spec [6]) ?_ | refine Ob.call (of_spec [2, 5]) ?_ | refine Ob.call (lists_spec [[2, 7], [0, 3, 5, 6, 7]]) ?_ | refine Ob.call (lists_spec [[0, 3, 5, 6, 7], [1, 4, 5, 6, 7]]) ?_ | refine Ob.call (lists_spec [[2, 4, 7]]) ?_ | refine Ob.call (by_spec 1 8) ?_ | refine Ob.call (by_spec 1 4) ?_ | refine Ob.call (by_spec 5 8) ?_ | refine Ob.call (by_spec 0 1) ?_);(conv=>whnf)) | (refine Fi.a ?_;conv=>whnf) | (refine Ob.go (fun _ => ?_) (isI2 ⟨⟨_, rfl⟩, ⟨_, rfl⟩⟩ ⟨⟨_, rfl⟩, ⟨_, rfl⟩⟩);conv=>whnf) | (refine Ob.b ?_;conv=>whnf)
 all_goals exact Lf
end Go.Px.Try
