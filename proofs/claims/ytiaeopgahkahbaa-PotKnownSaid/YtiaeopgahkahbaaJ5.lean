/- Texts of this proof, joined (Rf8, Lib, Pp1, Pp2, Pp3, Pp4, Pp5, Pp6, Pm7, Pm9, Pm10, Pm11, Pm12, PxSo, Srt, Pp14, Pp15, Pp7): a small program logic over the model, and what functions of the program give. No statement of the seat is proved here. -/
import Derived.Test.YtiaeopgahkahbaaJ4
import Derived.Test.YtiaeopgahkahbaaJ3
import Derived.Test.YtiaeopgahkahbaaJ1
import Derived.Shelf.Sort.Plain
import Derived.Shelf.Slices.In.SortNone
set_option linter.unusedVariables false
set_option linter.unusedSimpArgs false

/-! Rf8 -/
namespace Go.Px.Try
open Go Go.Proofs Go.Px
set_option maxRecDepth 100000
def blameLR (r : Row) : List Int × Int := if rowError r ≠ 0 then ([], rowError r) else ((List.range r.lots.length).map fun i => blameR (bestL r) (i : Nat), 0)
theorem manyL_succ (all : List (List Int)) (x : Int) {k : Nat} (h : k < all.length) : manyL (all.take (k + 1)) x = manyL (all.take k) x + (all.getD k []).count x := by
  unfold manyL; rw [take_succ_getD _ _ [] h, List.map_append, List.sum_append]; simp
theorem count_succ (l : List Int) (x : Int) {j : Nat} (h : j < l.length) : (l.take (j + 1)).count x = (l.take j).count x + if l.getD j 0 = x then 1 else 0 := by
  rw [take_succ_getD _ _ 0 h, List.count_append]
  congr 1
  by_cases e : l.getD j 0 = x
  · rw [if_pos e, e]; simp
  · rw [if_neg e]; exact List.count_eq_zero.2 (by simp; exact fun h => e (by rw [h]; simp))
theorem count_len (l : List Int) (x : Int) : l.count x ≤ l.length := List.count_le_length
theorem manyL_bound (x : Int) {b : Nat} : ∀ (all : List (List Int)), (∀ l ∈ all, l.length ≤ b) → manyL all x ≤ b * all.length
  | [], _ => by simp [manyL]
  | l :: all, h => by
    have h1 := manyL_bound x all fun y hy => h y (by simp [hy])
    have h2 := h l (by simp)
    have h3 := count_len l x
    have e : manyL (l :: all) x = l.count x + manyL all x := by simp [manyL]
    rw [e, List.length_cons, Nat.mul_succ]; omega
set_option maxHeartbeats 16000000 in
theorem Blame_spec (r : Row) (h1 : r.lots.length < 1000000) (h2 : r.weak.length < 1000000) : Fn Try.prog 31 [rowD r] (tpl [ints (blameLR r).1, int (blameLR r).2]) := by
  have hc := RowError_spec r h1 h2
  by_cases hr : rowError r = 0
  case neg =>
    have e : blameLR r = ([], rowError r) := if_pos hr
    rw [e]
    generalize rowError r = c at *
    refine Fn.of_ex (cuts := []) tys hM Try.func31 rfl Try.call31 rfl ?_
    show exC Try.prog T [] _ false none 0 (entry 62 [rowD r]) (finQ T [ResultVar.tmp 2, ResultVar.tmp 3] _)
    conv => whnf
    repeat' first | ((first | refine Ob.a ?_ | refine Sp.tt ?_ | refine Sp.ff ?_ | refine Sp.yes ?_ | refine Sp.no ?_ | refine Sp.nyes ?_ | refine Sp.nno ?_);conv=>whnf) | (refine Sp.ne (fun hc => ?_) (fun hc => ?_) <;> (conv=>whnf)) | (refine Sp.dec (fun hc => ?_) (fun hc => ?_) <;> (conv=>whnf)) | (refine Sp.ndec (fun hc => ?_) (fun hc => ?_) <;> (conv=>whnf)) | (refine Sp.mk (fun hc => ?_) (fun hc => ?_) <;> (conv=>whnf)) | (apply Cl.go;(conv=>whnf); (first | refine Ob.call (hc) ?_);(conv=>whnf)) | (refine Fi.a ?_;conv=>whnf) | (refine Ob.b ?_;conv=>whnf)
    all_goals exact Lf
  obtain ⟨hok, hex⟩ := rowError_ok.1 hr
  have hB := Best_spec r hok
  have hl10 := hok.l10
  have hblen : (bestL r).length ≤ 1024 := by
    unfold bestL; rw [swapGo_len]; exact Nat.le_trans (bestGo_len r _) (pow10 hl10)
  have hbl : ∀ l ∈ bestL r, l.length ≤ 10 := fun l hl => by
    obtain ⟨S, hS⟩ := hex
    obtain ⟨T, _, e⟩ := ((bestL_spec hS).2.1 l).1 hl
    rw [e]; exact Nat.le_trans (lst_length_le _ _) hl10
  have e : blameLR r = ((List.range r.lots.length).map fun i => blameR (bestL r) (i : Nat), 0) := if_neg (by omega)
  rw [e]
  rw [hr] at hc
  generalize hall : bestL r = A at *
  generalize hfin : (List.range r.lots.length).map (fun i => blameR A (i : Nat)) = fin
  refine Fn.of_ex (cuts := []) tys hM Try.func31 rfl Try.call31 rfl ?_
  show exC Try.prog T [] _ false none 0 (entry 62 [rowD r]) (finQ T [ResultVar.tmp 2, ResultVar.tmp 3] _)
  conv => whnf
  repeat' first | ((first | refine Ob.a ?_ | refine Sp.tt ?_ | refine Sp.ff ?_ | refine Sp.yes ?_ | refine Sp.no ?_ | refine Sp.nyes ?_ | refine Sp.nno ?_);conv=>whnf) | (refine Sp.ne (fun hc => ?_) (fun hc => ?_) <;> (conv=>whnf)) | (refine Sp.dec (fun hc => ?_) (fun hc => ?_) <;> (conv=>whnf)) | (refine Sp.ndec (fun hc => ?_) (fun hc => ?_) <;> (conv=>whnf)) | (refine Sp.mk (fun hc => ?_) (fun hc => ?_) <;> (conv=>whnf)) | (apply Cl.go;(conv=>whnf); (first | refine Ob.call (hc) ?_ | refine Ob.call (hB) ?_);(conv=>whnf)) | (refine Fi.a ?_;conv=>whnf) | (refine Ob.b ?_;conv=>whnf)
  refine Lp.snap [0, 1, 2, 3, 4, 61] 40 ?_
  (conv=>whnf)
  refine LpB.go 62 ({q : Int × List Int // (0 ≤ q.1 ∧ q.1 ≤ r.lots.length) ∧ q.2 = (List.range q.1.toNat).map fun i => blameR A (i : Nat)}) 0 (fun ⟨(i, o), _⟩ nx => ([(6, .d (int i)), (5, .ms 9 1 0 o.length)], [(9, .row true 3 1 o.length (rowOf int 0 o))])) (fun p => (r.lots.length - p.1.1).toNat) (⟨(0, []), ⟨by simp, by simp⟩, rfl⟩) ?_ ?_
  · rintro ⟨⟨i, o⟩, ⟨i0, i1⟩, ho⟩
    simp only at i0 i1 ho
    have hlen : o.length ≤ i.toNat := by rw [ho]; simp
    have hs : (List.range (i + 1).toNat).map (fun i => blameR A (i : Nat)) = o ++ [blameR A i] := by
      rw [show (i + 1).toNat = i.toNat + 1 by omega, List.range_succ, List.map_append, ho]
      simp [Int.toNat_of_nonneg i0]
    have he : ¬ i < r.lots.length → o = fin := fun hi => by rw [ho, ← hfin, show i.toNat = r.lots.length by omega]
    by_cases hil : i < r.lots.length
    case neg =>
      have e := he hil
      conv => whnf
      repeat' first | ((first | refine Ob.a ?_ | refine Sp.tt ?_ | refine Sp.ff ?_ | refine Sp.yes ?_ | refine Sp.no ?_ | refine Sp.nyes ?_ | refine Sp.nno ?_);conv=>whnf) | (refine Sp.ne (fun hc => ?_) (fun hc => ?_) <;> (conv=>whnf)) | (refine Sp.dec (fun hc => ?_) (fun hc => ?_) <;> (conv=>whnf)) | (refine Sp.ndec (fun hc => ?_) (fun hc => ?_) <;> (conv=>whnf)) | (refine Sp.mk (fun hc => ?_) (fun hc => ?_) <;> (conv=>whnf)) | (refine Fi.a ?_;conv=>whnf) | (refine Ob.b ?_;conv=>whnf)
      exact Lf
    conv => whnf
    repeat' first | ((first | refine Ob.a ?_ | refine Sp.tt ?_ | refine Sp.ff ?_ | refine Sp.yes ?_ | refine Sp.no ?_ | refine Sp.nyes ?_ | refine Sp.nno ?_);conv=>whnf) | (refine Sp.ne (fun hc => ?_) (fun hc => ?_) <;> (conv=>whnf)) | (refine Sp.dec (fun hc => ?_) (fun hc => ?_) <;> (conv=>whnf)) | (refine Sp.ndec (fun hc => ?_) (fun hc => ?_) <;> (conv=>whnf)) | (refine Sp.mk (fun hc => ?_) (fun hc => ?_) <;> (conv=>whnf)) | (refine Fi.a ?_;conv=>whnf) | (refine Ob.b ?_;conv=>whnf)
    refine Lp.snap [0, 1, 2, 3, 4, 5, 6, 10, 18, 19, 20, 21, 23, 24, 51, 52, 53, 55, 57, 58, 59, 60, 61] 40 ?_
    (conv=>whnf)
    refine LpB.go 62 ({q : Int × Nat // (0 ≤ q.1 ∧ q.1 ≤ A.length) ∧ q.2 = manyL (A.take q.1.toNat) i}) 0 (fun ⟨(k, n), _⟩ nx => ([(8, .d (int k)), (7, .d (int n))], [])) (fun p => (A.length - p.1.1).toNat) (⟨(0, 0), ⟨by simp, by simp⟩, rfl⟩) ?_ ?_
    · rintro ⟨⟨k, n⟩, ⟨k0, k1⟩, hn⟩
      simp only at k0 k1 hn
      have hnb : n ≤ 10 * 1024 := by
        rw [hn]
        refine Nat.le_trans (manyL_bound i (b := 10) _ fun l hl => hbl l (List.mem_of_mem_take hl)) (Nat.mul_le_mul (Nat.le_refl _) ?_)
        rw [List.length_take]; omega
      by_cases hkl : k < A.length
      · have hsk := manyL_succ A i (k := k.toNat) (by omega)
        have hAk := hbl _ (getD_mem (i := k.toNat) (l := A) (by omega) [])
        conv => whnf
        repeat' first | ((first | refine Ob.a ?_ | refine Sp.tt ?_ | refine Sp.ff ?_ | refine Sp.yes ?_ | refine Sp.no ?_ | refine Sp.nyes ?_ | refine Sp.nno ?_);conv=>whnf) | (refine Sp.ne (fun hc => ?_) (fun hc => ?_) <;> (conv=>whnf)) | (refine Sp.dec (fun hc => ?_) (fun hc => ?_) <;> (conv=>whnf)) | (refine Sp.ndec (fun hc => ?_) (fun hc => ?_) <;> (conv=>whnf)) | (refine Sp.mk (fun hc => ?_) (fun hc => ?_) <;> (conv=>whnf)) | (refine Fi.a ?_;conv=>whnf) | (refine Ob.b ?_;conv=>whnf)
        refine Lp.snap [0, 1, 2, 3, 4, 5, 6, 8, 10, 18, 19, 20, 21, 23, 24, 25, 26, 27, 29, 30, 51, 52, 53, 55, 57, 58, 59, 60, 61] 40 ?_
        (conv=>whnf)
        refine LpB.go 62 ({q : Int × Nat // (0 ≤ q.1 ∧ q.1 ≤ (A.getD k.toNat []).length) ∧ q.2 = n + ((A.getD k.toNat []).take q.1.toNat).count i}) 0 (fun ⟨(j, n'), _⟩ nx => ([(9, .d (int j)), (7, .d (int n'))], [])) (fun p => ((A.getD k.toNat []).length - p.1.1).toNat) (⟨(0, n), ⟨by simp, by simp⟩, by simp⟩) ?_ ?_
        · rintro ⟨⟨j, n'⟩, ⟨j0, j1⟩, hn'⟩
          simp only at j0 j1 hn'
          have hnb' : n' ≤ 10 * 1024 + 10 := by
            have := count_len ((A.getD k.toNat []).take j.toNat) i
            rw [List.length_take] at this; omega
          by_cases hjl : j < (A.getD k.toNat []).length
          · have hsj := count_succ (A.getD k.toNat []) i (j := j.toNat) (by omega)
            rw [show j.toNat + 1 = (j + 1).toNat by omega] at hsj
            by_cases hx : (A.getD k.toNat []).getD j.toNat 0 = i
            · rw [if_pos hx] at hsj
              conv => whnf
              repeat' first | ((first | refine Ob.a ?_ | refine Sp.tt ?_ | refine Sp.ff ?_ | refine Sp.yes ?_ | refine Sp.no ?_ | refine Sp.nyes ?_ | refine Sp.nno ?_);conv=>whnf) | (refine Sp.ne (fun hc => ?_) (fun hc => ?_) <;> (conv=>whnf)) | (refine Sp.dec (fun hc => ?_) (fun hc => ?_) <;> (conv=>whnf)) | (refine Sp.ndec (fun hc => ?_) (fun hc => ?_) <;> (conv=>whnf)) | (refine Sp.mk (fun hc => ?_) (fun hc => ?_) <;> (conv=>whnf)) | (refine Fi.a ?_;conv=>whnf) | (refine Ob.b ?_;conv=>whnf)
              exact ⟨rfl, ⟨(j + 1, n' + 1), ⟨by simp only; omega, by simp only; omega⟩, by simp only; omega⟩, Lf, by simp only; omega⟩
            · rw [if_neg hx] at hsj
              conv => whnf
              repeat' first | ((first | refine Ob.a ?_ | refine Sp.tt ?_ | refine Sp.ff ?_ | refine Sp.yes ?_ | refine Sp.no ?_ | refine Sp.nyes ?_ | refine Sp.nno ?_);conv=>whnf) | (refine Sp.ne (fun hc => ?_) (fun hc => ?_) <;> (conv=>whnf)) | (refine Sp.dec (fun hc => ?_) (fun hc => ?_) <;> (conv=>whnf)) | (refine Sp.ndec (fun hc => ?_) (fun hc => ?_) <;> (conv=>whnf)) | (refine Sp.mk (fun hc => ?_) (fun hc => ?_) <;> (conv=>whnf)) | (refine Fi.a ?_;conv=>whnf) | (refine Ob.b ?_;conv=>whnf)
              exact ⟨rfl, ⟨(j + 1, n'), ⟨by simp only; omega, by simp only; omega⟩, by simp only; omega⟩, Lf, by simp only; omega⟩
          · have e : n' = manyL (A.take (k + 1).toNat) i := by
              have ht : (A.getD k.toNat []).take j.toNat = A.getD k.toNat [] := List.take_of_length_le (by omega)
              rw [show (k + 1).toNat = k.toNat + 1 by omega, hsk, hn', hn, ht]
            conv => whnf
            repeat' first | ((first | refine Ob.a ?_ | refine Sp.tt ?_ | refine Sp.ff ?_ | refine Sp.yes ?_ | refine Sp.no ?_ | refine Sp.nyes ?_ | refine Sp.nno ?_);conv=>whnf) | (refine Sp.ne (fun hc => ?_) (fun hc => ?_) <;> (conv=>whnf)) | (refine Sp.dec (fun hc => ?_) (fun hc => ?_) <;> (conv=>whnf)) | (refine Sp.ndec (fun hc => ?_) (fun hc => ?_) <;> (conv=>whnf)) | (refine Sp.mk (fun hc => ?_) (fun hc => ?_) <;> (conv=>whnf)) | (refine Fi.a ?_;conv=>whnf) | (refine Ob.b ?_;conv=>whnf)
            exact ⟨rfl, ⟨(k + 1, n'), ⟨by simp only; omega, by simp only; omega⟩, e⟩, Lf, by simp only; omega⟩
        · exact Lf
      · have hnf : n = manyL A i := by rw [hn, List.take_of_length_le (by omega)]
        have hb : blameR A i = if n = 0 then 0 else if n = A.length then 2 else 1 := by rw [hnf]; rfl
        by_cases z1 : n = 0
        · have hv : blameR A i = 0 := by rw [hb, if_pos z1]
          conv => whnf
          repeat' first | ((first | refine Ob.a ?_ | refine Sp.tt ?_ | refine Sp.ff ?_ | refine Sp.yes ?_ | refine Sp.no ?_ | refine Sp.nyes ?_ | refine Sp.nno ?_);conv=>whnf) | (refine Sp.ne (fun hc => ?_) (fun hc => ?_) <;> (conv=>whnf)) | (refine Sp.dec (fun hc => ?_) (fun hc => ?_) <;> (conv=>whnf)) | (refine Sp.ndec (fun hc => ?_) (fun hc => ?_) <;> (conv=>whnf)) | (refine Sp.mk (fun hc => ?_) (fun hc => ?_) <;> (conv=>whnf)) | (refine Fi.a ?_;conv=>whnf) | (refine Ob.b ?_;conv=>whnf)
          all_goals exact ⟨rfl, ⟨(i + 1, o ++ [0]), ⟨by simp only; omega, by simp only; omega⟩, by rw [hs, hv]⟩, Lf, by simp only; omega⟩
        by_cases z2 : n = A.length
        · have hv : blameR A i = 2 := by rw [hb, if_neg z1, if_pos z2]
          conv => whnf
          repeat' first | ((first | refine Ob.a ?_ | refine Sp.tt ?_ | refine Sp.ff ?_ | refine Sp.yes ?_ | refine Sp.no ?_ | refine Sp.nyes ?_ | refine Sp.nno ?_);conv=>whnf) | (refine Sp.ne (fun hc => ?_) (fun hc => ?_) <;> (conv=>whnf)) | (refine Sp.dec (fun hc => ?_) (fun hc => ?_) <;> (conv=>whnf)) | (refine Sp.ndec (fun hc => ?_) (fun hc => ?_) <;> (conv=>whnf)) | (refine Sp.mk (fun hc => ?_) (fun hc => ?_) <;> (conv=>whnf)) | (refine Fi.a ?_;conv=>whnf) | (refine Ob.b ?_;conv=>whnf)
          all_goals exact ⟨rfl, ⟨(i + 1, o ++ [2]), ⟨by simp only; omega, by simp only; omega⟩, by rw [hs, hv]⟩, Lf, by simp only; omega⟩
        · have hv : blameR A i = 1 := by rw [hb, if_neg z1, if_neg z2]
          conv => whnf
          repeat' first | ((first | refine Ob.a ?_ | refine Sp.tt ?_ | refine Sp.ff ?_ | refine Sp.yes ?_ | refine Sp.no ?_ | refine Sp.nyes ?_ | refine Sp.nno ?_);conv=>whnf) | (refine Sp.ne (fun hc => ?_) (fun hc => ?_) <;> (conv=>whnf)) | (refine Sp.dec (fun hc => ?_) (fun hc => ?_) <;> (conv=>whnf)) | (refine Sp.ndec (fun hc => ?_) (fun hc => ?_) <;> (conv=>whnf)) | (refine Sp.mk (fun hc => ?_) (fun hc => ?_) <;> (conv=>whnf)) | (refine Fi.a ?_;conv=>whnf) | (refine Ob.b ?_;conv=>whnf)
          all_goals exact ⟨rfl, ⟨(i + 1, o ++ [1]), ⟨by simp only; omega, by simp only; omega⟩, by rw [hs, hv]⟩, Lf, by simp only; omega⟩
    · exact Lf
  · exact Lf
end Go.Px.Try

/-! Lib -/
namespace Go.Px.Try
open Go Go.Proofs Go.Px
set_option maxRecDepth 100000
def ixf {α : Type} (p : α → Bool) (l : List α) : Int := match l.findIdx? p with
  | some i => i
  | none => -1
theorem ixf_found {α : Type} {p : α → Bool} {l : List α} {d : α} {i : Nat} (hi : i < l.length) (h : p (l.getD i d) = true) (hn : ∀ j, j < i → p (l.getD j d) = false) : ixf p l = i := by
  have : l.findIdx? p = some i := by
    rw [List.findIdx?_eq_some_iff_getElem]
    refine ⟨hi, ?_, fun j hj => ?_⟩
    · rw [List.getD_eq_getElem?_getD, List.getElem?_eq_getElem hi] at h; exact h
    · have := hn j hj
      rw [List.getD_eq_getElem?_getD, List.getElem?_eq_getElem (by omega)] at this
      simpa using this
  unfold ixf
  rw [this]
theorem ixf_none {α : Type} {p : α → Bool} {l : List α} {d : α} (hn : ∀ j, j < l.length → p (l.getD j d) = false) : ixf p l = -1 := by
  have : l.findIdx? p = none := by
    rw [List.findIdx?_eq_none_iff]
    intro x hx
    obtain ⟨j, hj, rfl⟩ := List.getElem_of_mem hx
    have := hn j hj
    rw [List.getD_eq_getElem?_getD, List.getElem?_eq_getElem hj] at this
    exact this
  unfold ixf
  rw [this]
theorem ixf_any {α : Type} (p : α → Bool) (l : List α) : decide (0 ≤ ixf p l) = l.any p := by
  unfold ixf
  cases h : l.findIdx? p with
  | some i =>
    have := (List.findIdx?_eq_some_iff_getElem.1 h)
    obtain ⟨hi, hp, _⟩ := this
    rw [List.any_eq_true.2 ⟨l[i], List.getElem_mem hi, hp⟩]
    exact decide_eq_true (by simp)
  | none =>
    have := List.findIdx?_eq_none_iff.1 h
    rw [List.any_eq_false.2 fun x hx => by simp [this x hx]]
    decide
set_option maxHeartbeats 8000000 in
theorem index_ints1 (l : List Int) (g : Nat) (c : Nat → DV) (p : Int → Bool) (hl : l.length < 1000000) (hp : ∀ x ∈ l, Fn Try.prog g [int x, c 0] (bool (p x))) : Fn Try.prog 86 [slOf 1 int 0 l, .fn g 0 1 (fun _ => .top) c] (int (ixf p l)) := by
  refine Fn.hide (D := fun r : Int => int r) fun r hr => ?_
  refine Fn.of_ex (cuts := []) tys hM Try.func86 rfl Try.call86 rfl ?_
  show exC Try.prog T [] _ false none 0 (entry 19 [slOf 1 int 0 l, .fn g 0 1 (fun _ => .top) c]) (finQ T [ResultVar.tmp 4] _)
  conv => whnf
  repeat' first | ((first | refine Ob.a ?_ | refine Sp.tt ?_ | refine Sp.ff ?_ | refine Sp.yes ?_ | refine Sp.no ?_ | refine Sp.nyes ?_ | refine Sp.nno ?_);conv=>whnf) | (refine Sp.ne (fun hc => ?_) (fun hc => ?_) <;> (conv=>whnf)) | (refine Sp.dec (fun hc => ?_) (fun hc => ?_) <;> (conv=>whnf)) | (refine Sp.ndec (fun hc => ?_) (fun hc => ?_) <;> (conv=>whnf)) | (refine Sp.mk (fun hc => ?_) (fun hc => ?_) <;> (conv=>whnf)) | (refine Nx.mk (fun ka kb kx hx hs => ?_) (fun he => ?_) <;> (conv=>whnf)) | (refine Nx.mk (fun ka kx hx hs => ?_) (fun he => ?_) <;> (conv=>whnf)) | (refine Uk.mk (fun hn => ?_) ?_ <;> (conv=>whnf)) | (refine Fi.a ?_;conv=>whnf) | (refine Yl.a ?_ ?_ <;> (conv=>whnf)) | (refine Ob.b ?_;conv=>whnf)
  refine Lp.snap [0, 1, 7] 40 ?_
  (conv=>whnf)
  refine LpB.go 19 ({i : Int // 0 ≤ i ∧ i ≤ l.length ∧ ∀ j : Int, 0 ≤ j → j < i → p (l.getD j.toNat 0) = false}) 0 (fun ⟨i, _⟩ nx => ([(8, .d (int i))], [])) (fun p => (l.length - p.1).toNat) (⟨0, by omega, by omega, fun j _ _ => by omega⟩) ?_ ?_
  · rintro ⟨i, hi0, hi, hinv⟩
    have hpi : i < l.length → Fn Try.prog g [int (l.getD i.toNat 0), c 0] (bool (p (l.getD i.toNat 0))) := fun h => hp _ (getD_mem (by omega) _)
    have hfound : i < l.length → p (l.getD i.toNat 0) = true → r = i := fun h hx => by
      rw [← hr.h]
      refine ixf_found (d := 0) (i := i.toNat) (by omega) hx (fun j hj => ?_) |>.trans (by omega)
      have := hinv j (by omega) (by omega)
      rwa [Int.toNat_natCast] at this
    have hnone : ¬ i < l.length → r = -1 := fun h => by
      rw [← hr.h]
      refine ixf_none (d := 0) fun j hj => ?_
      have := hinv j (by omega) (by omega)
      rwa [Int.toNat_natCast] at this
    conv => whnf
    repeat' first | ((first | refine Ob.a ?_ | refine Sp.tt ?_ | refine Sp.ff ?_ | refine Sp.yes ?_ | refine Sp.no ?_ | refine Sp.nyes ?_ | refine Sp.nno ?_);conv=>whnf) | (refine Sp.ne (fun hc => ?_) (fun hc => ?_) <;> (conv=>whnf)) | (refine Sp.dec (fun hc => ?_) (fun hc => ?_) <;> (conv=>whnf)) | (refine Sp.ndec (fun hc => ?_) (fun hc => ?_) <;> (conv=>whnf)) | (refine Sp.mk (fun hc => ?_) (fun hc => ?_) <;> (conv=>whnf)) | (apply Cl.go;(conv=>whnf); (first | refine Ob.call (hpi (by omega)) ?_);(conv=>whnf)) | (refine Nx.mk (fun ka kb kx hx hs => ?_) (fun he => ?_) <;> (conv=>whnf)) | (refine Nx.mk (fun ka kx hx hs => ?_) (fun he => ?_) <;> (conv=>whnf)) | (refine Uk.mk (fun hn => ?_) ?_ <;> (conv=>whnf)) | (refine Fi.a ?_;conv=>whnf) | (refine Yl.a ?_ ?_ <;> (conv=>whnf)) | (refine Ob.b ?_;conv=>whnf)
    · have e := hfound (by omega) hc
      exact Lf
    · exact ⟨rfl, ⟨i + 1, by omega, by omega, fun j h1 h2 => if e : j = i then e ▸ hc else hinv j h1 (by omega)⟩, Lf, by simp only; omega⟩
    · have e := hnone (by omega)
      exact Lf
  · exact Lf
set_option maxHeartbeats 8000000 in
theorem contains_ints1 (l : List Int) (g : Nat) (c : Nat → DV) (p : Int → Bool) (hl : l.length < 1000000) (hp : ∀ x ∈ l, Fn Try.prog g [int x, c 0] (bool (p x))) : Fn Try.prog 58 [slOf 1 int 0 l, .fn g 0 1 (fun _ => .top) c] (bool (l.any p)) := by
  have ha := ixf_any p l
  have hx := index_ints1 l g c p hl hp
  generalize ixf p l = x at *
  rw [← ha]
  refine Fn.of_ex (cuts := []) tys hM Try.func58 rfl Try.call58 rfl ?_
  show exC Try.prog T [] _ false none 0 (entry 9 [slOf 1 int 0 l, .fn g 0 1 (fun _ => .top) c]) (finQ T [ResultVar.tmp 4] _)
  conv => whnf
  repeat' first | ((first | refine Ob.a ?_ | refine Sp.tt ?_ | refine Sp.ff ?_ | refine Sp.yes ?_ | refine Sp.no ?_ | refine Sp.nyes ?_ | refine Sp.nno ?_);conv=>whnf) | (refine Sp.ne (fun hc => ?_) (fun hc => ?_) <;> (conv=>whnf)) | (refine Sp.dec (fun hc => ?_) (fun hc => ?_) <;> (conv=>whnf)) | (refine Sp.ndec (fun hc => ?_) (fun hc => ?_) <;> (conv=>whnf)) | (refine Sp.mk (fun hc => ?_) (fun hc => ?_) <;> (conv=>whnf)) | (apply Cl.go;(conv=>whnf); (first | refine Ob.call (hx) ?_);(conv=>whnf)) | (refine Nx.mk (fun ka kb kx hx hs => ?_) (fun he => ?_) <;> (conv=>whnf)) | (refine Nx.mk (fun ka kx hx hs => ?_) (fun he => ?_) <;> (conv=>whnf)) | (refine Uk.mk (fun hn => ?_) ?_ <;> (conv=>whnf)) | (refine Fi.a ?_;conv=>whnf) | (refine Yl.a ?_ ?_ <;> (conv=>whnf)) | (refine Ob.b ?_;conv=>whnf)
  all_goals exact Lf
set_option maxHeartbeats 8000000 in
theorem index_ints2 (l : List Int) (g : Nat) (c : Nat → DV) (p : Int → Bool) (hl : l.length < 1000000) (hp : ∀ x ∈ l, Fn Try.prog g [int x, c 0, c 1] (bool (p x))) : Fn Try.prog 86 [slOf 1 int 0 l, .fn g 0 2 (fun _ => .top) c] (int (ixf p l)) := by
  refine Fn.hide (D := fun r : Int => int r) fun r hr => ?_
  refine Fn.of_ex (cuts := []) tys hM Try.func86 rfl Try.call86 rfl ?_
  show exC Try.prog T [] _ false none 0 (entry 19 [slOf 1 int 0 l, .fn g 0 2 (fun _ => .top) c]) (finQ T [ResultVar.tmp 4] _)
  conv => whnf
  repeat' first | ((first | refine Ob.a ?_ | refine Sp.tt ?_ | refine Sp.ff ?_ | refine Sp.yes ?_ | refine Sp.no ?_ | refine Sp.nyes ?_ | refine Sp.nno ?_);conv=>whnf) | (refine Sp.ne (fun hc => ?_) (fun hc => ?_) <;> (conv=>whnf)) | (refine Sp.dec (fun hc => ?_) (fun hc => ?_) <;> (conv=>whnf)) | (refine Sp.ndec (fun hc => ?_) (fun hc => ?_) <;> (conv=>whnf)) | (refine Sp.mk (fun hc => ?_) (fun hc => ?_) <;> (conv=>whnf)) | (refine Nx.mk (fun ka kb kx hx hs => ?_) (fun he => ?_) <;> (conv=>whnf)) | (refine Nx.mk (fun ka kx hx hs => ?_) (fun he => ?_) <;> (conv=>whnf)) | (refine Uk.mk (fun hn => ?_) ?_ <;> (conv=>whnf)) | (refine Fi.a ?_;conv=>whnf) | (refine Yl.a ?_ ?_ <;> (conv=>whnf)) | (refine Ob.b ?_;conv=>whnf)
  refine Lp.snap [0, 1, 7] 40 ?_
  (conv=>whnf)
  refine LpB.go 19 ({i : Int // 0 ≤ i ∧ i ≤ l.length ∧ ∀ j : Int, 0 ≤ j → j < i → p (l.getD j.toNat 0) = false}) 0 (fun ⟨i, _⟩ nx => ([(8, .d (int i))], [])) (fun p => (l.length - p.1).toNat) (⟨0, by omega, by omega, fun j _ _ => by omega⟩) ?_ ?_
  · rintro ⟨i, hi0, hi, hinv⟩
    have hpi : i < l.length → Fn Try.prog g [int (l.getD i.toNat 0), c 0, c 1] (bool (p (l.getD i.toNat 0))) := fun h => hp _ (getD_mem (by omega) _)
    have hfound : i < l.length → p (l.getD i.toNat 0) = true → r = i := fun h hx => by
      rw [← hr.h]
      refine ixf_found (d := 0) (i := i.toNat) (by omega) hx (fun j hj => ?_) |>.trans (by omega)
      have := hinv j (by omega) (by omega)
      rwa [Int.toNat_natCast] at this
    have hnone : ¬ i < l.length → r = -1 := fun h => by
      rw [← hr.h]
      refine ixf_none (d := 0) fun j hj => ?_
      have := hinv j (by omega) (by omega)
      rwa [Int.toNat_natCast] at this
    conv => whnf
    repeat' first | ((first | refine Ob.a ?_ | refine Sp.tt ?_ | refine Sp.ff ?_ | refine Sp.yes ?_ | refine Sp.no ?_ | refine Sp.nyes ?_ | refine Sp.nno ?_);conv=>whnf) | (refine Sp.ne (fun hc => ?_) (fun hc => ?_) <;> (conv=>whnf)) | (refine Sp.dec (fun hc => ?_) (fun hc => ?_) <;> (conv=>whnf)) | (refine Sp.ndec (fun hc => ?_) (fun hc => ?_) <;> (conv=>whnf)) | (refine Sp.mk (fun hc => ?_) (fun hc => ?_) <;> (conv=>whnf)) | (apply Cl.go;(conv=>whnf); (first | refine Ob.call (hpi (by omega)) ?_);(conv=>whnf)) | (refine Nx.mk (fun ka kb kx hx hs => ?_) (fun he => ?_) <;> (conv=>whnf)) | (refine Nx.mk (fun ka kx hx hs => ?_) (fun he => ?_) <;> (conv=>whnf)) | (refine Uk.mk (fun hn => ?_) ?_ <;> (conv=>whnf)) | (refine Fi.a ?_;conv=>whnf) | (refine Yl.a ?_ ?_ <;> (conv=>whnf)) | (refine Ob.b ?_;conv=>whnf)
    · have e := hfound (by omega) hc
      exact Lf
    · exact ⟨rfl, ⟨i + 1, by omega, by omega, fun j h1 h2 => if e : j = i then e ▸ hc else hinv j h1 (by omega)⟩, Lf, by simp only; omega⟩
    · have e := hnone (by omega)
      exact Lf
  · exact Lf
set_option maxHeartbeats 8000000 in
theorem contains_ints2 (l : List Int) (g : Nat) (c : Nat → DV) (p : Int → Bool) (hl : l.length < 1000000) (hp : ∀ x ∈ l, Fn Try.prog g [int x, c 0, c 1] (bool (p x))) : Fn Try.prog 58 [slOf 1 int 0 l, .fn g 0 2 (fun _ => .top) c] (bool (l.any p)) := by
  have ha := ixf_any p l
  have hx := index_ints2 l g c p hl hp
  generalize ixf p l = x at *
  rw [← ha]
  refine Fn.of_ex (cuts := []) tys hM Try.func58 rfl Try.call58 rfl ?_
  show exC Try.prog T [] _ false none 0 (entry 9 [slOf 1 int 0 l, .fn g 0 2 (fun _ => .top) c]) (finQ T [ResultVar.tmp 4] _)
  conv => whnf
  repeat' first | ((first | refine Ob.a ?_ | refine Sp.tt ?_ | refine Sp.ff ?_ | refine Sp.yes ?_ | refine Sp.no ?_ | refine Sp.nyes ?_ | refine Sp.nno ?_);conv=>whnf) | (refine Sp.ne (fun hc => ?_) (fun hc => ?_) <;> (conv=>whnf)) | (refine Sp.dec (fun hc => ?_) (fun hc => ?_) <;> (conv=>whnf)) | (refine Sp.ndec (fun hc => ?_) (fun hc => ?_) <;> (conv=>whnf)) | (refine Sp.mk (fun hc => ?_) (fun hc => ?_) <;> (conv=>whnf)) | (apply Cl.go;(conv=>whnf); (first | refine Ob.call (hx) ?_);(conv=>whnf)) | (refine Nx.mk (fun ka kb kx hx hs => ?_) (fun he => ?_) <;> (conv=>whnf)) | (refine Nx.mk (fun ka kx hx hs => ?_) (fun he => ?_) <;> (conv=>whnf)) | (refine Uk.mk (fun hn => ?_) ?_ <;> (conv=>whnf)) | (refine Fi.a ?_;conv=>whnf) | (refine Yl.a ?_ ?_ <;> (conv=>whnf)) | (refine Ob.b ?_;conv=>whnf)
  all_goals exact Lf
set_option maxHeartbeats 8000000 in
theorem index_lots1 (l : List Lot) (g : Nat) (c : Nat → DV) (p : Lot → Bool) (hl : l.length < 1000000) (hp : ∀ x ∈ l, Fn Try.prog g [lotD x, c 0] (bool (p x))) : Fn Try.prog 89 [slOf 2 lotD default l, .fn g 0 1 (fun _ => .top) c] (int (ixf p l)) := by
  refine Fn.hide (D := fun r : Int => int r) fun r hr => ?_
  refine Fn.of_ex (cuts := []) tys hM Try.func89 rfl Try.call89 rfl ?_
  show exC Try.prog T [] _ false none 0 (entry 19 [slOf 2 lotD default l, .fn g 0 1 (fun _ => .top) c]) (finQ T [ResultVar.tmp 4] _)
  conv => whnf
  repeat' first | ((first | refine Ob.a ?_ | refine Sp.tt ?_ | refine Sp.ff ?_ | refine Sp.yes ?_ | refine Sp.no ?_ | refine Sp.nyes ?_ | refine Sp.nno ?_);conv=>whnf) | (refine Sp.ne (fun hc => ?_) (fun hc => ?_) <;> (conv=>whnf)) | (refine Sp.dec (fun hc => ?_) (fun hc => ?_) <;> (conv=>whnf)) | (refine Sp.ndec (fun hc => ?_) (fun hc => ?_) <;> (conv=>whnf)) | (refine Sp.mk (fun hc => ?_) (fun hc => ?_) <;> (conv=>whnf)) | (refine Nx.mk (fun ka kb kx hx hs => ?_) (fun he => ?_) <;> (conv=>whnf)) | (refine Nx.mk (fun ka kx hx hs => ?_) (fun he => ?_) <;> (conv=>whnf)) | (refine Uk.mk (fun hn => ?_) ?_ <;> (conv=>whnf)) | (refine Fi.a ?_;conv=>whnf) | (refine Yl.a ?_ ?_ <;> (conv=>whnf)) | (refine Ob.b ?_;conv=>whnf)
  refine Lp.snap [0, 1, 7] 40 ?_
  (conv=>whnf)
  refine LpB.go 19 ({i : Int // 0 ≤ i ∧ i ≤ l.length ∧ ∀ j : Int, 0 ≤ j → j < i → p (l.getD j.toNat default) = false}) 0 (fun ⟨i, _⟩ nx => ([(8, .d (int i))], [])) (fun p => (l.length - p.1).toNat) (⟨0, by omega, by omega, fun j _ _ => by omega⟩) ?_ ?_
  · rintro ⟨i, hi0, hi, hinv⟩
    have hpi : i < l.length → Fn Try.prog g [lotD (l.getD i.toNat default), c 0] (bool (p (l.getD i.toNat default))) := fun h => hp _ (getD_mem (by omega) _)
    have hfound : i < l.length → p (l.getD i.toNat default) = true → r = i := fun h hx => by
      rw [← hr.h]
      refine ixf_found (d := default) (i := i.toNat) (by omega) hx (fun j hj => ?_) |>.trans (by omega)
      have := hinv j (by omega) (by omega)
      rwa [Int.toNat_natCast] at this
    have hnone : ¬ i < l.length → r = -1 := fun h => by
      rw [← hr.h]
      refine ixf_none (d := default) fun j hj => ?_
      have := hinv j (by omega) (by omega)
      rwa [Int.toNat_natCast] at this
    conv => whnf
    repeat' first | ((first | refine Ob.a ?_ | refine Sp.tt ?_ | refine Sp.ff ?_ | refine Sp.yes ?_ | refine Sp.no ?_ | refine Sp.nyes ?_ | refine Sp.nno ?_);conv=>whnf) | (refine Sp.ne (fun hc => ?_) (fun hc => ?_) <;> (conv=>whnf)) | (refine Sp.dec (fun hc => ?_) (fun hc => ?_) <;> (conv=>whnf)) | (refine Sp.ndec (fun hc => ?_) (fun hc => ?_) <;> (conv=>whnf)) | (refine Sp.mk (fun hc => ?_) (fun hc => ?_) <;> (conv=>whnf)) | (apply Cl.go;(conv=>whnf); (first | refine Ob.call (hpi (by omega)) ?_);(conv=>whnf)) | (refine Nx.mk (fun ka kb kx hx hs => ?_) (fun he => ?_) <;> (conv=>whnf)) | (refine Nx.mk (fun ka kx hx hs => ?_) (fun he => ?_) <;> (conv=>whnf)) | (refine Uk.mk (fun hn => ?_) ?_ <;> (conv=>whnf)) | (refine Fi.a ?_;conv=>whnf) | (refine Yl.a ?_ ?_ <;> (conv=>whnf)) | (refine Ob.b ?_;conv=>whnf)
    · have e := hfound (by omega) hc
      exact Lf
    · exact ⟨rfl, ⟨i + 1, by omega, by omega, fun j h1 h2 => if e : j = i then e ▸ hc else hinv j h1 (by omega)⟩, Lf, by simp only; omega⟩
    · have e := hnone (by omega)
      exact Lf
  · exact Lf
set_option maxHeartbeats 8000000 in
theorem contains_lots1 (l : List Lot) (g : Nat) (c : Nat → DV) (p : Lot → Bool) (hl : l.length < 1000000) (hp : ∀ x ∈ l, Fn Try.prog g [lotD x, c 0] (bool (p x))) : Fn Try.prog 67 [slOf 2 lotD default l, .fn g 0 1 (fun _ => .top) c] (bool (l.any p)) := by
  have ha := ixf_any p l
  have hx := index_lots1 l g c p hl hp
  generalize ixf p l = x at *
  rw [← ha]
  refine Fn.of_ex (cuts := []) tys hM Try.func67 rfl Try.call67 rfl ?_
  show exC Try.prog T [] _ false none 0 (entry 9 [slOf 2 lotD default l, .fn g 0 1 (fun _ => .top) c]) (finQ T [ResultVar.tmp 4] _)
  conv => whnf
  repeat' first | ((first | refine Ob.a ?_ | refine Sp.tt ?_ | refine Sp.ff ?_ | refine Sp.yes ?_ | refine Sp.no ?_ | refine Sp.nyes ?_ | refine Sp.nno ?_);conv=>whnf) | (refine Sp.ne (fun hc => ?_) (fun hc => ?_) <;> (conv=>whnf)) | (refine Sp.dec (fun hc => ?_) (fun hc => ?_) <;> (conv=>whnf)) | (refine Sp.ndec (fun hc => ?_) (fun hc => ?_) <;> (conv=>whnf)) | (refine Sp.mk (fun hc => ?_) (fun hc => ?_) <;> (conv=>whnf)) | (apply Cl.go;(conv=>whnf); (first | refine Ob.call (hx) ?_);(conv=>whnf)) | (refine Nx.mk (fun ka kb kx hx hs => ?_) (fun he => ?_) <;> (conv=>whnf)) | (refine Nx.mk (fun ka kx hx hs => ?_) (fun he => ?_) <;> (conv=>whnf)) | (refine Uk.mk (fun hn => ?_) ?_ <;> (conv=>whnf)) | (refine Fi.a ?_;conv=>whnf) | (refine Yl.a ?_ ?_ <;> (conv=>whnf)) | (refine Ob.b ?_;conv=>whnf)
  all_goals exact Lf
end Go.Px.Try

/-! Pp1 -/
namespace Go.Px.Try
open Go Go.Proofs Go.Px
set_option maxRecDepth 100000
def cellP (x : Int) : DV := .pt (.ag 1 fun _ => int x) 0
def shelfD (r : Row) : DV := .pt (rowD r) 0
def nilP : DV := .v (.pointer none)
theorem within1_spec (x lo hi : Int) : Fn Try.prog 88 [int x, cellP lo, cellP hi] (bool (!decide ((lo ≤ x ∧ x ≤ hi)))) := by
  refine Fn.hide (D := fun r : Bool => bool r) fun r hr => ?_
  have e1 : x < lo → r = true := fun h => by rw [← hr.h]; simp; omega
  have e2 : lo ≤ x → decide (hi < x) = r := fun h => by rw [← hr.h, ← decide_not]; exact decide_eq_decide.2 (by omega)
  refine Fn.of_ex (cuts := []) tys hM Try.func88 rfl Try.call88 rfl ?_
  show exC Try.prog T [] _ false none 0 (entry 13 [int x, cellP lo, cellP hi]) (finQ T [ResultVar.tmp 4] _)
  conv => whnf
  repeat' first | ((first | refine Ob.a ?_ | refine Sp.tt ?_ | refine Sp.ff ?_ | refine Sp.yes ?_ | refine Sp.no ?_ | refine Sp.nyes ?_ | refine Sp.nno ?_);conv=>whnf) | (refine Sp.ne (fun hc => ?_) (fun hc => ?_) <;> (conv=>whnf)) | (refine Sp.dec (fun hc => ?_) (fun hc => ?_) <;> (conv=>whnf)) | (refine Sp.ndec (fun hc => ?_) (fun hc => ?_) <;> (conv=>whnf)) | (refine Sp.mk (fun hc => ?_) (fun hc => ?_) <;> (conv=>whnf)) | (refine Nx.mk (fun ka kb kx hx hs => ?_) (fun he => ?_) <;> (conv=>whnf)) | (refine Nx.mk (fun ka kx hx hs => ?_) (fun he => ?_) <;> (conv=>whnf)) | (refine Uk.mk (fun hn => ?_) ?_ <;> (conv=>whnf)) | (refine Fi.a ?_;conv=>whnf) | (refine Yl.a ?_ ?_ <;> (conv=>whnf)) | (refine Ob.b ?_;conv=>whnf)
  all_goals first | (have e := e1 (by omega); exact Lf) | (have e := e2 (by omega); exact Lf)
theorem within_spec (lo hi : Int) (l : List Int) (hl : l.length < 1000000) : Fn Try.prog 66 [int lo, int hi, ints l] (bool (decide (∀ x ∈ l, (lo ≤ x ∧ x ≤ hi)))) := by
  have hc := contains_ints2 l 88 (fun j => [cellP lo, cellP hi].getD j .top) (fun x => !decide ((lo ≤ x ∧ x ≤ hi))) hl (fun x _ => within1_spec x lo hi)
  have e : (decide (∀ x ∈ l, (lo ≤ x ∧ x ≤ hi))) = !(l.any fun x => !decide ((lo ≤ x ∧ x ≤ hi))) := by
    rw [Bool.eq_iff_iff]
    simp
  rw [e]
  generalize (l.any fun x => !decide ((lo ≤ x ∧ x ≤ hi))) = b at *
  refine Fn.of_ex (cuts := []) tys hM Try.func66 rfl Try.call66 rfl ?_
  show exC Try.prog T [] _ false none 0 (entry 11 [int lo, int hi, ints l]) (finQ T [ResultVar.tmp 6] _)
  conv => whnf
  repeat' first | ((first | refine Ob.a ?_ | refine Sp.tt ?_ | refine Sp.ff ?_ | refine Sp.yes ?_ | refine Sp.no ?_ | refine Sp.nyes ?_ | refine Sp.nno ?_);conv=>whnf) | (refine Sp.ne (fun hc => ?_) (fun hc => ?_) <;> (conv=>whnf)) | (refine Sp.dec (fun hc => ?_) (fun hc => ?_) <;> (conv=>whnf)) | (refine Sp.ndec (fun hc => ?_) (fun hc => ?_) <;> (conv=>whnf)) | (refine Sp.mk (fun hc => ?_) (fun hc => ?_) <;> (conv=>whnf)) | (apply Cl.go;(conv=>whnf); (first | refine Ob.call (hc) ?_);(conv=>whnf)) | (refine Nx.mk (fun ka kb kx hx hs => ?_) (fun he => ?_) <;> (conv=>whnf)) | (refine Nx.mk (fun ka kx hx hs => ?_) (fun he => ?_) <;> (conv=>whnf)) | (refine Uk.mk (fun hn => ?_) ?_ <;> (conv=>whnf)) | (refine Fi.a ?_;conv=>whnf) | (refine Yl.a ?_ ?_ <;> (conv=>whnf)) | (refine Ob.b ?_;conv=>whnf)
  all_goals exact Lf
theorem within_is (lo hi : Int) (l : List Int) (q : Prop) [Decidable q] (hl : l.length < 1000000) (e : (∀ x ∈ l, lo ≤ x ∧ x ≤ hi) ↔ q) : Fn Try.prog 66 [int lo, int hi, ints l] (bool (decide q)) := by
  rw [← decide_eq_decide.2 e]; exact within_spec lo hi l hl
theorem within_one (lo hi x : Int) : Fn Try.prog 66 [int lo, int hi, ints [x]] (bool (decide (lo ≤ x ∧ x ≤ hi))) := within_is lo hi [x] _ (by simp) (by simp)
/-- From one on the list is strictly increasing. -/
def risFrom (nx b : Int) : List Int → Prop
  | [] => True
  | x :: l => (nx ≤ x ∧ x ≤ b - 1) ∧ risFrom (x + 1) b l
theorem risFrom_iff : ∀ (l : List Int) (nx b : Int), risFrom nx b l ↔ (∀ x ∈ l, nx ≤ x ∧ x < b) ∧ l.Pairwise (· < ·)
  | [], _, _ => by simp [risFrom]
  | x :: l, nx, b => by
    rw [risFrom, risFrom_iff l, List.pairwise_cons, List.forall_mem_cons]
    constructor
    · rintro ⟨h1, h2, h3⟩
      exact ⟨⟨by omega, fun y hy => by have := h2 y hy; omega⟩, fun y hy => by have := (h2 y hy).1; omega, h3⟩
    · rintro ⟨⟨h1, h2⟩, h3, h4⟩
      exact ⟨by omega, fun y hy => by have := h2 y hy; have := h3 y hy; omega, h4⟩
set_option maxHeartbeats 4000000 in
theorem rising_spec (l : List Int) (b : Int) (hl : l.length < 1000000) (hb : -1000000 ≤ b ∧ b ≤ 1000000) : Fn Try.prog 56 [ints l, int b] (bool (decide (risingL l b))) := by
  refine Fn.hide (D := fun r : Bool => bool r) fun c hr => ?_
  have h0 : ¬ risFrom 0 b l → c = false := fun h => by rw [← hr.h]; exact decide_eq_false fun k => h ((risFrom_iff l 0 b).2 k)
  have h1 : risFrom 0 b l → c = true := fun h => by rw [← hr.h]; exact decide_eq_true ((risFrom_iff l 0 b).1 h)
  have hw := fun nx x => within_one nx (b - 1) x
  refine Fn.of_ex (cuts := []) tys hM Try.func56 rfl Try.call56 rfl ?_
  show exC Try.prog T [] _ false none 0 (entry 24 [ints l, int b]) (finQ T [ResultVar.tmp 4] _)
  conv => whnf
  repeat' first | ((first | refine Ob.a ?_ | refine Sp.tt ?_ | refine Sp.ff ?_ | refine Sp.yes ?_ | refine Sp.no ?_ | refine Sp.nyes ?_ | refine Sp.nno ?_);conv=>whnf) | (refine Sp.ne (fun hc => ?_) (fun hc => ?_) <;> (conv=>whnf)) | (refine Sp.dec (fun hc => ?_) (fun hc => ?_) <;> (conv=>whnf)) | (refine Sp.ndec (fun hc => ?_) (fun hc => ?_) <;> (conv=>whnf)) | (refine Sp.mk (fun hc => ?_) (fun hc => ?_) <;> (conv=>whnf)) | (refine Nx.mk (fun ka kb kx hx hs => ?_) (fun he => ?_) <;> (conv=>whnf)) | (refine Nx.mk (fun ka kx hx hs => ?_) (fun he => ?_) <;> (conv=>whnf)) | (refine Uk.mk (fun hn => ?_) ?_ <;> (conv=>whnf)) | (refine Fi.a ?_;conv=>whnf) | (refine Yl.a ?_ ?_ <;> (conv=>whnf)) | (refine Ob.b ?_;conv=>whnf)
  refine Lp.snap [0, 1, 8, 9] 40 ?_
  (conv=>whnf)
  refine LpB.go 24 ({q : Int × Int // (0 ≤ q.1 ∧ q.1 ≤ l.length) ∧ (risFrom q.2 b (l.drop q.1.toNat) ↔ risFrom 0 b l) ∧ -1000000 ≤ q.2 ∧ q.2 ≤ 1000001}) 0 (fun ⟨(i, n), _⟩ nx => ([(10, .d (int i)), (5, .d (int n))], [])) (fun p => (l.length - p.1.1).toNat) (⟨(0, 0), ⟨by simp, by simp⟩, Iff.rfl, by simp, by simp⟩) ?_ ?_
  · rintro ⟨⟨i, n⟩, ⟨i0, i1⟩, hinv, n0, n1⟩
    simp only at i0 i1 hinv n0 n1
    by_cases hil : i < l.length
    · rw [drop_getD 0 (show i.toNat < l.length by omega), risFrom, show i.toNat + 1 = (i + 1).toNat by omega] at hinv
      have hw := hw n (l.getD i.toNat 0)
      by_cases hx : n ≤ l.getD i.toNat 0 ∧ l.getD i.toNat 0 ≤ b - 1
      · rw [decide_eq_true hx] at hw
        have e : risFrom (l.getD i.toNat 0 + 1) b (l.drop (i + 1).toNat) ↔ risFrom 0 b l := ⟨fun h => hinv.1 ⟨hx, h⟩, fun h => (hinv.2 h).2⟩
        conv => whnf
        repeat' first | ((first | refine Ob.a ?_ | refine Sp.tt ?_ | refine Sp.ff ?_ | refine Sp.yes ?_ | refine Sp.no ?_ | refine Sp.nyes ?_ | refine Sp.nno ?_);conv=>whnf) | (refine Sp.ne (fun hc => ?_) (fun hc => ?_) <;> (conv=>whnf)) | (refine Sp.dec (fun hc => ?_) (fun hc => ?_) <;> (conv=>whnf)) | (refine Sp.ndec (fun hc => ?_) (fun hc => ?_) <;> (conv=>whnf)) | (refine Sp.mk (fun hc => ?_) (fun hc => ?_) <;> (conv=>whnf)) | (apply Cl.go;(conv=>whnf); (first | refine Ob.call (hw) ?_);(conv=>whnf)) | (refine Nx.mk (fun ka kb kx hx hs => ?_) (fun he => ?_) <;> (conv=>whnf)) | (refine Nx.mk (fun ka kx hx hs => ?_) (fun he => ?_) <;> (conv=>whnf)) | (refine Uk.mk (fun hn => ?_) ?_ <;> (conv=>whnf)) | (refine Fi.a ?_;conv=>whnf) | (refine Yl.a ?_ ?_ <;> (conv=>whnf)) | (refine Ob.b ?_;conv=>whnf)
        exact ⟨rfl, ⟨(i + 1, l.getD i.toNat 0 + 1), ⟨by simp only; omega, by simp only; omega⟩, e, by simp only; omega, by simp only; omega⟩, Lf, by simp only; omega⟩
      · rw [decide_eq_false hx] at hw
        have e := h0 fun h => hx (hinv.2 h).1
        conv => whnf
        repeat' first | ((first | refine Ob.a ?_ | refine Sp.tt ?_ | refine Sp.ff ?_ | refine Sp.yes ?_ | refine Sp.no ?_ | refine Sp.nyes ?_ | refine Sp.nno ?_);conv=>whnf) | (refine Sp.ne (fun hc => ?_) (fun hc => ?_) <;> (conv=>whnf)) | (refine Sp.dec (fun hc => ?_) (fun hc => ?_) <;> (conv=>whnf)) | (refine Sp.ndec (fun hc => ?_) (fun hc => ?_) <;> (conv=>whnf)) | (refine Sp.mk (fun hc => ?_) (fun hc => ?_) <;> (conv=>whnf)) | (apply Cl.go;(conv=>whnf); (first | refine Ob.call (hw) ?_);(conv=>whnf)) | (refine Nx.mk (fun ka kb kx hx hs => ?_) (fun he => ?_) <;> (conv=>whnf)) | (refine Nx.mk (fun ka kx hx hs => ?_) (fun he => ?_) <;> (conv=>whnf)) | (refine Uk.mk (fun hn => ?_) ?_ <;> (conv=>whnf)) | (refine Fi.a ?_;conv=>whnf) | (refine Yl.a ?_ ?_ <;> (conv=>whnf)) | (refine Ob.b ?_;conv=>whnf)
        exact Lf
    · rw [List.drop_eq_nil_of_le (by omega)] at hinv
      have e := h1 (hinv.1 trivial)
      conv => whnf
      repeat' first | ((first | refine Ob.a ?_ | refine Sp.tt ?_ | refine Sp.ff ?_ | refine Sp.yes ?_ | refine Sp.no ?_ | refine Sp.nyes ?_ | refine Sp.nno ?_);conv=>whnf) | (refine Sp.ne (fun hc => ?_) (fun hc => ?_) <;> (conv=>whnf)) | (refine Sp.dec (fun hc => ?_) (fun hc => ?_) <;> (conv=>whnf)) | (refine Sp.ndec (fun hc => ?_) (fun hc => ?_) <;> (conv=>whnf)) | (refine Sp.mk (fun hc => ?_) (fun hc => ?_) <;> (conv=>whnf)) | (refine Nx.mk (fun ka kb kx hx hs => ?_) (fun he => ?_) <;> (conv=>whnf)) | (refine Nx.mk (fun ka kx hx hs => ?_) (fun he => ?_) <;> (conv=>whnf)) | (refine Uk.mk (fun hn => ?_) ?_ <;> (conv=>whnf)) | (refine Fi.a ?_;conv=>whnf) | (refine Yl.a ?_ ?_ <;> (conv=>whnf)) | (refine Ob.b ?_;conv=>whnf)
      exact Lf
  · exact Lf
theorem stray_spec (r : Row) (l : Lot) : Fn Try.prog 65 [lotD l, .pt (rowD r) 0] (bool (!decide (LotOk r l))) := by
  refine Fn.hide (D := fun r : Bool => bool r) fun c hr => ?_
  have e1 : l.lo < 0 → c = true := fun h => by rw [← hr.h, decide_eq_false fun hh => by unfold LotOk at hh; omega]; rfl
  have e2 : ¬ l.lo < 0 → l.hi < l.lo → c = true := fun h h' => by rw [← hr.h, decide_eq_false fun hh => by unfold LotOk at hh; omega]; rfl
  have e3 : ¬ l.lo < 0 → ¬ l.hi < l.lo → decide (r.pots ≤ l.hi) = c := fun h h' => by
    rw [← hr.h, ← decide_not]; exact decide_eq_decide.2 (by unfold LotOk; omega)
  refine Fn.of_ex (cuts := []) tys hM Try.func65 rfl Try.call65 rfl ?_
  show exC Try.prog T [] _ false none 0 (entry 21 [lotD l, .pt (rowD r) 0]) (finQ T [ResultVar.tmp 3] _)
  conv => whnf
  repeat' first | ((first | refine Ob.a ?_ | refine Sp.tt ?_ | refine Sp.ff ?_ | refine Sp.yes ?_ | refine Sp.no ?_ | refine Sp.nyes ?_ | refine Sp.nno ?_);conv=>whnf) | (refine Sp.ne (fun hc => ?_) (fun hc => ?_) <;> (conv=>whnf)) | (refine Sp.dec (fun hc => ?_) (fun hc => ?_) <;> (conv=>whnf)) | (refine Sp.ndec (fun hc => ?_) (fun hc => ?_) <;> (conv=>whnf)) | (refine Sp.mk (fun hc => ?_) (fun hc => ?_) <;> (conv=>whnf)) | (refine Nx.mk (fun ka kb kx hx hs => ?_) (fun he => ?_) <;> (conv=>whnf)) | (refine Nx.mk (fun ka kx hx hs => ?_) (fun he => ?_) <;> (conv=>whnf)) | (refine Uk.mk (fun hn => ?_) ?_ <;> (conv=>whnf)) | (refine Fi.a ?_;conv=>whnf) | (refine Yl.a ?_ ?_ <;> (conv=>whnf)) | (refine Ob.b ?_;conv=>whnf)
  all_goals first | (have e := e1 (by omega); exact Lf) | (have e := e2 (by omega) (by omega); exact Lf) | (have e := e3 (by omega) (by omega); exact Lf)
theorem strays_spec (r : Row) (hl : r.lots.length < 1000000) : Fn Try.prog 67 [slOf 2 lotD default r.lots, .fn 65 0 1 (fun _ => .top) (fun _ => .pt (rowD r) 0)] (bool (!decide (∀ l ∈ r.lots, LotOk r l))) := by
  have hc := contains_lots1 r.lots 65 (fun _ => .pt (rowD r) 0) (fun h => !decide (LotOk r h)) hl fun x _ => stray_spec r x
  have e : (r.lots.any fun x => !decide (LotOk r x)) = !decide (∀ h ∈ r.lots, LotOk r h) := by
    rw [Bool.eq_iff_iff]
    simp
  rw [e] at hc
  exact hc
set_option maxHeartbeats 8000000 in
theorem CheckRowP_spec (r : Row) (hl : r.lots.length < 1000000) (hw : r.weak.length < 1000000) : Fn Try.prog 23 [rowD r] (int (checkRow r)) := by
  refine Fn.hide (D := fun r : Int => int r) fun c hr => ?_
  have hc := hr.h
  have w1 := within_one 1 40 r.pots
  have w2 := strays_spec r hl
  have w3 := within_spec 0 (r.pots - 1) r.weak hw
  have e3 : (∀ p ∈ r.weak, 0 ≤ p ∧ p ≤ r.pots - 1) ↔ ∀ p ∈ r.weak, 0 ≤ p ∧ p < r.pots := ⟨fun h p hp => by have := h p hp; omega, fun h p hp => by have := h p hp; omega⟩
  rw [decide_eq_decide.2 e3] at w3
  by_cases h1 : 1 ≤ r.pots ∧ r.pots ≤ 40
  case neg =>
    have e : c = 3 := by rw [← hc]; exact if_pos (by omega)
    rw [decide_eq_false h1] at w1
    refine Fn.of_ex (cuts := []) tys hM Try.func23 rfl Try.call23 rfl ?_
    show exC Try.prog T [] _ false none 0 (entry 43 [rowD r]) (finQ T [ResultVar.tmp 2] _)
    conv => whnf
    repeat' first | ((first | refine Ob.a ?_ | refine Sp.tt ?_ | refine Sp.ff ?_ | refine Sp.yes ?_ | refine Sp.no ?_ | refine Sp.nyes ?_ | refine Sp.nno ?_);conv=>whnf) | (refine Sp.ne (fun hc => ?_) (fun hc => ?_) <;> (conv=>whnf)) | (refine Sp.dec (fun hc => ?_) (fun hc => ?_) <;> (conv=>whnf)) | (refine Sp.ndec (fun hc => ?_) (fun hc => ?_) <;> (conv=>whnf)) | (refine Sp.mk (fun hc => ?_) (fun hc => ?_) <;> (conv=>whnf)) | (apply Cl.go;(conv=>whnf); (first | refine Ob.call (w1) ?_);(conv=>whnf)) | (refine Nx.mk (fun ka kb kx hx hs => ?_) (fun he => ?_) <;> (conv=>whnf)) | (refine Nx.mk (fun ka kx hx hs => ?_) (fun he => ?_) <;> (conv=>whnf)) | (refine Uk.mk (fun hn => ?_) ?_ <;> (conv=>whnf)) | (refine Fi.a ?_;conv=>whnf) | (refine Yl.a ?_ ?_ <;> (conv=>whnf)) | (refine Ob.b ?_;conv=>whnf)
    all_goals exact Lf
  have w4 := rising_spec r.weak r.pots hw ⟨by omega, by omega⟩
  rw [decide_eq_true h1] at w1
  by_cases h2 : 10 < (r.lots.length : Int) ∨ 12 < (r.weak.length : Int)
  · have e : c = 6 := by rw [← hc]; unfold checkRow; rw [if_neg (by omega), if_pos (by omega)]
    refine Fn.of_ex (cuts := []) tys hM Try.func23 rfl Try.call23 rfl ?_
    show exC Try.prog T [] _ false none 0 (entry 43 [rowD r]) (finQ T [ResultVar.tmp 2] _)
    conv => whnf
    repeat' first | ((first | refine Ob.a ?_ | refine Sp.tt ?_ | refine Sp.ff ?_ | refine Sp.yes ?_ | refine Sp.no ?_ | refine Sp.nyes ?_ | refine Sp.nno ?_);conv=>whnf) | (refine Sp.ne (fun hc => ?_) (fun hc => ?_) <;> (conv=>whnf)) | (refine Sp.dec (fun hc => ?_) (fun hc => ?_) <;> (conv=>whnf)) | (refine Sp.ndec (fun hc => ?_) (fun hc => ?_) <;> (conv=>whnf)) | (refine Sp.mk (fun hc => ?_) (fun hc => ?_) <;> (conv=>whnf)) | (apply Cl.go;(conv=>whnf); (first | refine Ob.call (w1) ?_);(conv=>whnf)) | (refine Nx.mk (fun ka kb kx hx hs => ?_) (fun he => ?_) <;> (conv=>whnf)) | (refine Nx.mk (fun ka kx hx hs => ?_) (fun he => ?_) <;> (conv=>whnf)) | (refine Uk.mk (fun hn => ?_) ?_ <;> (conv=>whnf)) | (refine Fi.a ?_;conv=>whnf) | (refine Yl.a ?_ ?_ <;> (conv=>whnf)) | (refine Ob.b ?_;conv=>whnf)
    all_goals exact Lf
  have k : c = if ¬ ∀ l ∈ r.lots, LotOk r l then 3 else if ¬ ∀ p ∈ r.weak, 0 ≤ p ∧ p < r.pots then 3 else if risingL r.weak r.pots then 0 else 16 := by rw [← hc]; unfold checkRow; rw [if_neg (by omega), if_neg (by omega)]
  by_cases h3 : ∀ l ∈ r.lots, LotOk r l
  case neg =>
    rw [if_pos h3] at k
    rw [decide_eq_false h3] at w2
    refine Fn.of_ex (cuts := []) tys hM Try.func23 rfl Try.call23 rfl ?_
    show exC Try.prog T [] _ false none 0 (entry 43 [rowD r]) (finQ T [ResultVar.tmp 2] _)
    conv => whnf
    repeat' first | ((first | refine Ob.a ?_ | refine Sp.tt ?_ | refine Sp.ff ?_ | refine Sp.yes ?_ | refine Sp.no ?_ | refine Sp.nyes ?_ | refine Sp.nno ?_);conv=>whnf) | (refine Sp.ne (fun hc => ?_) (fun hc => ?_) <;> (conv=>whnf)) | (refine Sp.dec (fun hc => ?_) (fun hc => ?_) <;> (conv=>whnf)) | (refine Sp.ndec (fun hc => ?_) (fun hc => ?_) <;> (conv=>whnf)) | (refine Sp.mk (fun hc => ?_) (fun hc => ?_) <;> (conv=>whnf)) | (apply Cl.go;(conv=>whnf); (first | refine Ob.call (w1) ?_ | refine Ob.call (w2) ?_);(conv=>whnf)) | (refine Nx.mk (fun ka kb kx hx hs => ?_) (fun he => ?_) <;> (conv=>whnf)) | (refine Nx.mk (fun ka kx hx hs => ?_) (fun he => ?_) <;> (conv=>whnf)) | (refine Uk.mk (fun hn => ?_) ?_ <;> (conv=>whnf)) | (refine Fi.a ?_;conv=>whnf) | (refine Yl.a ?_ ?_ <;> (conv=>whnf)) | (refine Ob.b ?_;conv=>whnf)
    all_goals exact Lf
  rw [if_neg (not_not_intro h3)] at k
  rw [decide_eq_true h3] at w2
  by_cases h4 : ∀ p ∈ r.weak, 0 ≤ p ∧ p < r.pots
  case neg =>
    rw [if_pos h4] at k
    rw [decide_eq_false h4] at w3
    refine Fn.of_ex (cuts := []) tys hM Try.func23 rfl Try.call23 rfl ?_
    show exC Try.prog T [] _ false none 0 (entry 43 [rowD r]) (finQ T [ResultVar.tmp 2] _)
    conv => whnf
    repeat' first | ((first | refine Ob.a ?_ | refine Sp.tt ?_ | refine Sp.ff ?_ | refine Sp.yes ?_ | refine Sp.no ?_ | refine Sp.nyes ?_ | refine Sp.nno ?_);conv=>whnf) | (refine Sp.ne (fun hc => ?_) (fun hc => ?_) <;> (conv=>whnf)) | (refine Sp.dec (fun hc => ?_) (fun hc => ?_) <;> (conv=>whnf)) | (refine Sp.ndec (fun hc => ?_) (fun hc => ?_) <;> (conv=>whnf)) | (refine Sp.mk (fun hc => ?_) (fun hc => ?_) <;> (conv=>whnf)) | (apply Cl.go;(conv=>whnf); (first | refine Ob.call (w1) ?_ | refine Ob.call (w2) ?_ | refine Ob.call (w3) ?_);(conv=>whnf)) | (refine Nx.mk (fun ka kb kx hx hs => ?_) (fun he => ?_) <;> (conv=>whnf)) | (refine Nx.mk (fun ka kx hx hs => ?_) (fun he => ?_) <;> (conv=>whnf)) | (refine Uk.mk (fun hn => ?_) ?_ <;> (conv=>whnf)) | (refine Fi.a ?_;conv=>whnf) | (refine Yl.a ?_ ?_ <;> (conv=>whnf)) | (refine Ob.b ?_;conv=>whnf)
    all_goals exact Lf
  rw [if_neg (not_not_intro h4)] at k
  rw [decide_eq_true h4] at w3
  by_cases h5 : risingL r.weak r.pots
  · rw [if_pos h5] at k
    rw [decide_eq_true h5] at w4
    refine Fn.of_ex (cuts := []) tys hM Try.func23 rfl Try.call23 rfl ?_
    show exC Try.prog T [] _ false none 0 (entry 43 [rowD r]) (finQ T [ResultVar.tmp 2] _)
    conv => whnf
    repeat' first | ((first | refine Ob.a ?_ | refine Sp.tt ?_ | refine Sp.ff ?_ | refine Sp.yes ?_ | refine Sp.no ?_ | refine Sp.nyes ?_ | refine Sp.nno ?_);conv=>whnf) | (refine Sp.ne (fun hc => ?_) (fun hc => ?_) <;> (conv=>whnf)) | (refine Sp.dec (fun hc => ?_) (fun hc => ?_) <;> (conv=>whnf)) | (refine Sp.ndec (fun hc => ?_) (fun hc => ?_) <;> (conv=>whnf)) | (refine Sp.mk (fun hc => ?_) (fun hc => ?_) <;> (conv=>whnf)) | (apply Cl.go;(conv=>whnf); (first | refine Ob.call (w1) ?_ | refine Ob.call (w2) ?_ | refine Ob.call (w3) ?_ | refine Ob.call (w4) ?_);(conv=>whnf)) | (refine Nx.mk (fun ka kb kx hx hs => ?_) (fun he => ?_) <;> (conv=>whnf)) | (refine Nx.mk (fun ka kx hx hs => ?_) (fun he => ?_) <;> (conv=>whnf)) | (refine Uk.mk (fun hn => ?_) ?_ <;> (conv=>whnf)) | (refine Fi.a ?_;conv=>whnf) | (refine Yl.a ?_ ?_ <;> (conv=>whnf)) | (refine Ob.b ?_;conv=>whnf)
    all_goals exact Lf
  · rw [if_neg h5] at k
    rw [decide_eq_false h5] at w4
    refine Fn.of_ex (cuts := []) tys hM Try.func23 rfl Try.call23 rfl ?_
    show exC Try.prog T [] _ false none 0 (entry 43 [rowD r]) (finQ T [ResultVar.tmp 2] _)
    conv => whnf
    repeat' first | ((first | refine Ob.a ?_ | refine Sp.tt ?_ | refine Sp.ff ?_ | refine Sp.yes ?_ | refine Sp.no ?_ | refine Sp.nyes ?_ | refine Sp.nno ?_);conv=>whnf) | (refine Sp.ne (fun hc => ?_) (fun hc => ?_) <;> (conv=>whnf)) | (refine Sp.dec (fun hc => ?_) (fun hc => ?_) <;> (conv=>whnf)) | (refine Sp.ndec (fun hc => ?_) (fun hc => ?_) <;> (conv=>whnf)) | (refine Sp.mk (fun hc => ?_) (fun hc => ?_) <;> (conv=>whnf)) | (apply Cl.go;(conv=>whnf); (first | refine Ob.call (w1) ?_ | refine Ob.call (w2) ?_ | refine Ob.call (w3) ?_ | refine Ob.call (w4) ?_);(conv=>whnf)) | (refine Nx.mk (fun ka kb kx hx hs => ?_) (fun he => ?_) <;> (conv=>whnf)) | (refine Nx.mk (fun ka kx hx hs => ?_) (fun he => ?_) <;> (conv=>whnf)) | (refine Uk.mk (fun hn => ?_) ?_ <;> (conv=>whnf)) | (refine Fi.a ?_;conv=>whnf) | (refine Yl.a ?_ ?_ <;> (conv=>whnf)) | (refine Ob.b ?_;conv=>whnf)
    all_goals exact Lf
theorem has_spec (r : Row) (i p : Int) (hi : 0 ≤ i ∧ i < r.lots.length) : Fn Try.prog 60 [shelfD r, int i, int p] (bool (decide (Has (lotN r i.toNat) p))) := by
  refine Fn.hide (D := fun r : Bool => bool r) fun c hr => ?_
  have e1 : (lotN r i.toNat).lo ≤ p → decide (p ≤ (lotN r i.toNat).hi) = c := fun a => by rw [← hr.h]; exact decide_eq_decide.2 ⟨fun h => ⟨a, h⟩, fun h => h.2⟩
  have e2 : ¬ (lotN r i.toNat).lo ≤ p → c = false := fun a => by rw [← hr.h]; exact decide_eq_false fun h => a h.1
  unfold lotN at e1 e2
  refine Fn.of_ex (cuts := []) tys hM Try.func60 rfl Try.call60 rfl ?_
  show exC Try.prog T [] _ false none 0 (entry 26 [shelfD r, int i, int p]) (finQ T [ResultVar.tmp 6] _)
  conv => whnf
  repeat' first | ((first | refine Ob.a ?_ | refine Sp.tt ?_ | refine Sp.ff ?_ | refine Sp.yes ?_ | refine Sp.no ?_ | refine Sp.nyes ?_ | refine Sp.nno ?_);conv=>whnf) | (refine Sp.ne (fun hc => ?_) (fun hc => ?_) <;> (conv=>whnf)) | (refine Sp.dec (fun hc => ?_) (fun hc => ?_) <;> (conv=>whnf)) | (refine Sp.ndec (fun hc => ?_) (fun hc => ?_) <;> (conv=>whnf)) | (refine Sp.mk (fun hc => ?_) (fun hc => ?_) <;> (conv=>whnf)) | (refine Nx.mk (fun ka kb kx hx hs => ?_) (fun he => ?_) <;> (conv=>whnf)) | (refine Nx.mk (fun ka kx hx hs => ?_) (fun he => ?_) <;> (conv=>whnf)) | (refine Uk.mk (fun hn => ?_) ?_ <;> (conv=>whnf)) | (refine Fi.a ?_;conv=>whnf) | (refine Yl.a ?_ ?_ <;> (conv=>whnf)) | (refine Ob.b ?_;conv=>whnf)
  all_goals first | (have e := e1 (by omega); exact Lf) | (have e := e2 (by omega); exact Lf)
theorem size_spec (r : Row) (i : Int) (hr : RowOk r) (hi : 0 ≤ i ∧ i < r.lots.length) : Fn Try.prog 61 [shelfD r, int i] (int (zOf r i.toNat)) := by
  obtain ⟨⟨_, _⟩, _, _⟩ := lots_small hr (i := i.toNat) (by omega)
  have e : zOf r i.toNat = (r.lots.getD i.toNat default).hi - (r.lots.getD i.toNat default).lo + 1 := rfl
  rw [e]
  refine Fn.of_ex (cuts := []) tys hM Try.func61 rfl Try.call61 rfl ?_
  show exC Try.prog T [] _ false none 0 (entry 25 [shelfD r, int i]) (finQ T [ResultVar.tmp 4] _)
  conv => whnf
  repeat' first | ((first | refine Ob.a ?_ | refine Sp.tt ?_ | refine Sp.ff ?_ | refine Sp.yes ?_ | refine Sp.no ?_ | refine Sp.nyes ?_ | refine Sp.nno ?_);conv=>whnf) | (refine Sp.ne (fun hc => ?_) (fun hc => ?_) <;> (conv=>whnf)) | (refine Sp.dec (fun hc => ?_) (fun hc => ?_) <;> (conv=>whnf)) | (refine Sp.ndec (fun hc => ?_) (fun hc => ?_) <;> (conv=>whnf)) | (refine Sp.mk (fun hc => ?_) (fun hc => ?_) <;> (conv=>whnf)) | (refine Nx.mk (fun ka kb kx hx hs => ?_) (fun he => ?_) <;> (conv=>whnf)) | (refine Nx.mk (fun ka kx hx hs => ?_) (fun he => ?_) <;> (conv=>whnf)) | (refine Uk.mk (fun hn => ?_) ?_ <;> (conv=>whnf)) | (refine Fi.a ?_;conv=>whnf) | (refine Yl.a ?_ ?_ <;> (conv=>whnf)) | (refine Ob.b ?_;conv=>whnf)
  all_goals exact Lf
end Go.Px.Try

/-! Pp2 -/
namespace Go.Px.Try
open Go Go.Proofs Go.Px
set_option maxRecDepth 100000
theorem open_ok (r : Row) (h1 : r.lots.length < 1000000) (h2 : r.weak.length < 1000000) (hr : checkRow r = 0) : Fn Try.prog 55 [rowD r] (tpl [shelfD r, int 0]) := by
  have hc := CheckRowP_spec r h1 h2
  rw [hr] at hc
  refine Fn.of_ex (cuts := []) tys hM Try.func55 rfl Try.call55 rfl ?_
  show exC Try.prog T [] _ false none 0 (entry 13 [rowD r]) (finQ T [ResultVar.tmp 2, ResultVar.tmp 3] _)
  conv => whnf
  repeat' first | ((first | refine Ob.a ?_ | refine Sp.tt ?_ | refine Sp.ff ?_ | refine Sp.yes ?_ | refine Sp.no ?_ | refine Sp.nyes ?_ | refine Sp.nno ?_);conv=>whnf) | (refine Sp.ne (fun hc => ?_) (fun hc => ?_) <;> (conv=>whnf)) | (refine Sp.dec (fun hc => ?_) (fun hc => ?_) <;> (conv=>whnf)) | (refine Sp.ndec (fun hc => ?_) (fun hc => ?_) <;> (conv=>whnf)) | (refine Sp.mk (fun hc => ?_) (fun hc => ?_) <;> (conv=>whnf)) | (apply Cl.go;(conv=>whnf); (first | refine Ob.call (hc) ?_);(conv=>whnf)) | (refine Nx.mk (fun ka kb kx hx hs => ?_) (fun he => ?_) <;> (conv=>whnf)) | (refine Nx.mk (fun ka kx hx hs => ?_) (fun he => ?_) <;> (conv=>whnf)) | (refine Uk.mk (fun hn => ?_) ?_ <;> (conv=>whnf)) | (refine Fi.a ?_;conv=>whnf) | (refine Yl.a ?_ ?_ <;> (conv=>whnf)) | (refine Ob.b ?_;conv=>whnf)
  all_goals exact Lf
theorem open_err (r : Row) (h1 : r.lots.length < 1000000) (h2 : r.weak.length < 1000000) (hr : checkRow r ≠ 0) : Fn Try.prog 55 [rowD r] (tpl [nilP, int (checkRow r)]) := by
  have hc := CheckRowP_spec r h1 h2
  generalize checkRow r = c at *
  refine Fn.of_ex (cuts := []) tys hM Try.func55 rfl Try.call55 rfl ?_
  show exC Try.prog T [] _ false none 0 (entry 13 [rowD r]) (finQ T [ResultVar.tmp 2, ResultVar.tmp 3] _)
  conv => whnf
  repeat' first | ((first | refine Ob.a ?_ | refine Sp.tt ?_ | refine Sp.ff ?_ | refine Sp.yes ?_ | refine Sp.no ?_ | refine Sp.nyes ?_ | refine Sp.nno ?_);conv=>whnf) | (refine Sp.ne (fun hc => ?_) (fun hc => ?_) <;> (conv=>whnf)) | (refine Sp.dec (fun hc => ?_) (fun hc => ?_) <;> (conv=>whnf)) | (refine Sp.ndec (fun hc => ?_) (fun hc => ?_) <;> (conv=>whnf)) | (refine Sp.mk (fun hc => ?_) (fun hc => ?_) <;> (conv=>whnf)) | (apply Cl.go;(conv=>whnf); (first | refine Ob.call (hc) ?_);(conv=>whnf)) | (refine Nx.mk (fun ka kb kx hx hs => ?_) (fun he => ?_) <;> (conv=>whnf)) | (refine Nx.mk (fun ka kx hx hs => ?_) (fun he => ?_) <;> (conv=>whnf)) | (refine Uk.mk (fun hn => ?_) ?_ <;> (conv=>whnf)) | (refine Fi.a ?_;conv=>whnf) | (refine Yl.a ?_ ?_ <;> (conv=>whnf)) | (refine Ob.b ?_;conv=>whnf)
  all_goals exact Lf
theorem lst_len_le {S : Nat → Bool} {a b : Nat} (h : a ≤ b) : (lst a S).length ≤ (lst b S).length := by
  induction b with
  | zero => have : a = 0 := by omega
            subst this; exact Nat.le_refl _
  | succ b ih =>
    by_cases e : a = b + 1
    · subst e; exact Nat.le_refl _
    · rw [lst_succ, List.length_append]
      have := ih (by omega)
      omega
theorem lst_prefix {S : Nat → Bool} {a b : Nat} (h : a ≤ b) : ∃ t, lst b S = lst a S ++ t := by
  induction b with
  | zero => have : a = 0 := by omega
            subst this; exact ⟨[], by simp⟩
  | succ b ih =>
    by_cases e : a = b + 1
    · subst e; exact ⟨[], by simp⟩
    · obtain ⟨t, ht⟩ := ih (by omega)
      exact ⟨t ++ (if S b then [(b : Int)] else []), by rw [lst_succ, ht, List.append_assoc]⟩
theorem lst_at {S : Nat → Bool} {i n : Nat} (hi : i < n) (hs : S i = true) : (lst i S).length < (lst n S).length ∧ (lst n S).getD (lst i S).length 0 = i := by
  obtain ⟨t, ht⟩ := lst_prefix (S := S) (show i + 1 ≤ n by omega)
  rw [lst_succ, hs, if_pos rfl] at ht
  rw [ht]
  refine ⟨by simp, ?_⟩
  rw [List.append_assoc, List.getD_eq_getElem?_getD, List.getElem?_append_right (Nat.le_refl _)]
  simp
def havC (r : Row) (p : Int) : List DV := [.pt (.ag 1 fun _ => shelfD r) 0, cellP p]
def havF (r : Row) (p : Int) : DV := .fn 87 0 2 (fun _ => .top) (fun j => (havC r p).getD j .top)
theorem having_spec (r : Row) (p : Int) : Fn Try.prog 64 [shelfD r, int p] (havF r p) := by
  refine Fn.of_ex (cuts := []) tys hM Try.func64 rfl Try.call64 rfl ?_
  show exC Try.prog T [] _ false none 0 (entry 6 [shelfD r, int p]) (finQ T [ResultVar.tmp 4] _)
  conv => whnf
  repeat' first | ((first | refine Ob.a ?_ | refine Sp.tt ?_ | refine Sp.ff ?_ | refine Sp.yes ?_ | refine Sp.no ?_ | refine Sp.nyes ?_ | refine Sp.nno ?_);conv=>whnf) | (refine Sp.ne (fun hc => ?_) (fun hc => ?_) <;> (conv=>whnf)) | (refine Sp.dec (fun hc => ?_) (fun hc => ?_) <;> (conv=>whnf)) | (refine Sp.ndec (fun hc => ?_) (fun hc => ?_) <;> (conv=>whnf)) | (refine Sp.mk (fun hc => ?_) (fun hc => ?_) <;> (conv=>whnf)) | (refine Nx.mk (fun ka kb kx hx hs => ?_) (fun he => ?_) <;> (conv=>whnf)) | (refine Nx.mk (fun ka kx hx hs => ?_) (fun he => ?_) <;> (conv=>whnf)) | (refine Uk.mk (fun hn => ?_) ?_ <;> (conv=>whnf)) | (refine Fi.a ?_;conv=>whnf) | (refine Yl.a ?_ ?_ <;> (conv=>whnf)) | (refine Ob.b ?_;conv=>whnf)
  all_goals exact Lf
set_option maxHeartbeats 8000000 in
theorem having1_spec (r : Row) (p : Int) (hl : r.lots.length < 1000000) (L : List Int) (hL : L = havingL r p) :
    Seq Try.prog 87 [] (havC r p) L.length (fun k => [int (L.getD k 0)]) := by
  have hH := fun i hi => has_spec r i p hi
  have hat : ∀ i : Int, 0 ≤ i → i < r.lots.length → Has (lotN r i.toNat) p → (lst i.toNat (havS r p)).length < L.length ∧ L.getD (lst i.toNat (havS r p)).length 0 = i := fun i i0 i1 h => by
    have := lst_at (S := havS r p) (i := i.toNat) (n := r.lots.length) (by omega) (decide_eq_true h)
    rw [hL]
    refine ⟨this.1, ?_⟩
    show (lst r.lots.length (havS r p)).getD _ 0 = i
    rw [this.2]; omega
  have hnx : ∀ i : Int, 0 ≤ i → (lst (i + 1).toNat (havS r p)).length = (lst i.toNat (havS r p)).length + if Has (lotN r i.toNat) p then 1 else 0 := fun i i0 => by
    rw [show (i + 1).toNat = i.toNat + 1 by omega, lst_succ, List.length_append]
    congr 1
    by_cases h : Has (lotN r i.toNat) p
    · rw [if_pos h, if_pos (show havS r p i.toNat = true from decide_eq_true h)]; rfl
    · rw [if_neg h, if_neg (show ¬ havS r p i.toNat = true from fun e => h (of_decide_eq_true e))]; rfl
  have hend : ∀ i : Int, 0 ≤ i → i ≤ r.lots.length → ¬ i < r.lots.length → (lst i.toNat (havS r p)).length = L.length := fun i i0 i1 h => by
    rw [hL, show i.toNat = r.lots.length by omega]; rfl
  generalize hc : (fun i => (lst i (havS r p)).length) = cnt
  have hc' : ∀ i, (lst i (havS r p)).length = cnt i := fun i => by rw [← hc]
  simp only [hc'] at hat hnx hend
  have hc0 : cnt 0 = 0 := by rw [← hc]; rfl
  clear hc hc' hL
  refine Seq.of_ex (cuts := []) tys hM Try.func87 rfl Try.call87 rfl rfl fun ly => ?_
  show exC Try.prog T [] _ false (some ⟨ly, _, _⟩) 0 (entry 25 ([] ++ [.v (.func (.yield ly) #[] #[])] ++ havC r p)) (finY _)
  conv => whnf
  repeat' first | ((first | refine Ob.a ?_ | refine Sp.tt ?_ | refine Sp.ff ?_ | refine Sp.yes ?_ | refine Sp.no ?_ | refine Sp.nyes ?_ | refine Sp.nno ?_);conv=>whnf) | (refine Sp.ne (fun hc => ?_) (fun hc => ?_) <;> (conv=>whnf)) | (refine Sp.dec (fun hc => ?_) (fun hc => ?_) <;> (conv=>whnf)) | (refine Sp.ndec (fun hc => ?_) (fun hc => ?_) <;> (conv=>whnf)) | (refine Sp.mk (fun hc => ?_) (fun hc => ?_) <;> (conv=>whnf)) | (refine Nx.mk (fun ka kb kx hx hs => ?_) (fun he => ?_) <;> (conv=>whnf)) | (refine Nx.mk (fun ka kx hx hs => ?_) (fun he => ?_) <;> (conv=>whnf)) | (refine Uk.mk (fun hn => ?_) ?_ <;> (conv=>whnf)) | (refine Fi.a ?_;conv=>whnf) | (refine Yl.a ?_ ?_ <;> (conv=>whnf)) | (refine Ob.b ?_;conv=>whnf)
  refine Lp.go 25 {i : Int // 0 ≤ i ∧ i ≤ r.lots.length} (fun ⟨i, _⟩ => ⟨0, [(0, .d (.v (.func (.yield ly) #[] #[]))), (1, .d ((havC r p).getD 0 .top)), (2, .d ((havC r p).getD 1 .top)), (10, .d (int r.lots.length)), (11, .d (int i))], [], some (cnt i.toNat)⟩) (fun p => (r.lots.length - p.1).toNat) ⟨0, by omega, by omega⟩ ?_ ?_ rfl (fun _ => rfl)
  · rintro ⟨i, i0, i1⟩
    by_cases hil : i < r.lots.length
    · have hH := hH i ⟨i0, hil⟩
      have hnx := hnx i i0
      by_cases hh : Has (lotN r i.toNat) p
      · obtain ⟨e1, e2⟩ := hat i i0 hil hh
        rw [if_pos hh] at hnx
        rw [decide_eq_true hh] at hH
        conv => whnf
        repeat' first | ((first | refine Ob.a ?_ | refine Sp.tt ?_ | refine Sp.ff ?_ | refine Sp.yes ?_ | refine Sp.no ?_ | refine Sp.nyes ?_ | refine Sp.nno ?_);conv=>whnf) | (refine Sp.ne (fun hc => ?_) (fun hc => ?_) <;> (conv=>whnf)) | (refine Sp.dec (fun hc => ?_) (fun hc => ?_) <;> (conv=>whnf)) | (refine Sp.ndec (fun hc => ?_) (fun hc => ?_) <;> (conv=>whnf)) | (refine Sp.mk (fun hc => ?_) (fun hc => ?_) <;> (conv=>whnf)) | (apply Cl.go;(conv=>whnf); (first | refine Ob.call (hH) ?_);(conv=>whnf)) | (refine Nx.mk (fun ka kb kx hx hs => ?_) (fun he => ?_) <;> (conv=>whnf)) | (refine Nx.mk (fun ka kx hx hs => ?_) (fun he => ?_) <;> (conv=>whnf)) | (refine Uk.mk (fun hn => ?_) ?_ <;> (conv=>whnf)) | (refine Fi.a ?_;conv=>whnf) | (refine Yl.a ?_ ?_ <;> (conv=>whnf)) | (refine Ob.b ?_;conv=>whnf)
        all_goals first | exact .inl rfl | exact ⟨rfl, ⟨i + 1, by omega, by omega⟩, Lf, by simp only; omega⟩
      · rw [if_neg hh] at hnx
        rw [decide_eq_false hh] at hH
        conv => whnf
        repeat' first | ((first | refine Ob.a ?_ | refine Sp.tt ?_ | refine Sp.ff ?_ | refine Sp.yes ?_ | refine Sp.no ?_ | refine Sp.nyes ?_ | refine Sp.nno ?_);conv=>whnf) | (refine Sp.ne (fun hc => ?_) (fun hc => ?_) <;> (conv=>whnf)) | (refine Sp.dec (fun hc => ?_) (fun hc => ?_) <;> (conv=>whnf)) | (refine Sp.ndec (fun hc => ?_) (fun hc => ?_) <;> (conv=>whnf)) | (refine Sp.mk (fun hc => ?_) (fun hc => ?_) <;> (conv=>whnf)) | (apply Cl.go;(conv=>whnf); (first | refine Ob.call (hH) ?_);(conv=>whnf)) | (refine Nx.mk (fun ka kb kx hx hs => ?_) (fun he => ?_) <;> (conv=>whnf)) | (refine Nx.mk (fun ka kx hx hs => ?_) (fun he => ?_) <;> (conv=>whnf)) | (refine Uk.mk (fun hn => ?_) ?_ <;> (conv=>whnf)) | (refine Fi.a ?_;conv=>whnf) | (refine Yl.a ?_ ?_ <;> (conv=>whnf)) | (refine Ob.b ?_;conv=>whnf)
        all_goals first | exact .inl rfl | exact ⟨rfl, ⟨i + 1, by omega, by omega⟩, Lf, by simp only; omega⟩
    · have e := hend i i0 i1 hil
      conv => whnf
      repeat' first | ((first | refine Ob.a ?_ | refine Sp.tt ?_ | refine Sp.ff ?_ | refine Sp.yes ?_ | refine Sp.no ?_ | refine Sp.nyes ?_ | refine Sp.nno ?_);conv=>whnf) | (refine Sp.ne (fun hc => ?_) (fun hc => ?_) <;> (conv=>whnf)) | (refine Sp.dec (fun hc => ?_) (fun hc => ?_) <;> (conv=>whnf)) | (refine Sp.ndec (fun hc => ?_) (fun hc => ?_) <;> (conv=>whnf)) | (refine Sp.mk (fun hc => ?_) (fun hc => ?_) <;> (conv=>whnf)) | (refine Nx.mk (fun ka kb kx hx hs => ?_) (fun he => ?_) <;> (conv=>whnf)) | (refine Nx.mk (fun ka kx hx hs => ?_) (fun he => ?_) <;> (conv=>whnf)) | (refine Uk.mk (fun hn => ?_) ?_ <;> (conv=>whnf)) | (refine Fi.a ?_;conv=>whnf) | (refine Yl.a ?_ ?_ <;> (conv=>whnf)) | (refine Ob.b ?_;conv=>whnf)
      exact .inr (congrArg some e)
  · exact Lf
end Go.Px.Try

/-! Pp3 -/
namespace Go.Px.Try
open Go Go.Proofs Go.Px
set_option maxRecDepth 100000
theorem togB_iff {r : Row} {a b : Int} : togB r a b = true ↔ ∃ i, i < r.lots.length ∧ Has (lotN r i) a ∧ Has (lotN r i) b := by
  unfold togB
  rw [List.any_eq_true]
  constructor
  · rintro ⟨l, hl, h⟩
    obtain ⟨i, hi, rfl⟩ := List.getElem_of_mem hl
    simp only [Bool.and_eq_true, decide_eq_true_eq] at h
    refine ⟨i, hi, ?_⟩
    unfold lotN
    rw [List.getD_eq_getElem?_getD, List.getElem?_eq_getElem hi]
    exact h
  · rintro ⟨i, hi, h1, h2⟩
    exact ⟨_, lotN_mem hi, by simp [h1, h2]⟩
theorem mem_having {r : Row} {a : Int} {x : Int} : x ∈ havingL r a ↔ ∃ i, i < r.lots.length ∧ Has (lotN r i) a ∧ x = (i : Int) := by
  unfold havingL; rw [mem_lst]
  constructor
  · rintro ⟨i, h1, h2, rfl⟩; exact ⟨i, h1, of_decide_eq_true h2, rfl⟩
  · rintro ⟨i, h1, h2, rfl⟩; exact ⟨i, h1, decide_eq_true h2, rfl⟩
set_option maxHeartbeats 8000000 in
theorem together_spec (r : Row) (a b : Int) (hl : r.lots.length < 1000000) : Fn Try.prog 74 [shelfD r, int a, int b] (bool (togB r a b)) := by
  refine Fn.hide (D := fun r : Bool => bool r) fun c hr => ?_
  have hh := having_spec r a
  generalize hL : havingL r a = L
  have hsq := having1_spec r a hl L hL.symm
  have hmem : ∀ k, k < L.length → 0 ≤ L.getD k 0 ∧ L.getD k 0 < r.lots.length := fun k hk => by
    obtain ⟨i, h1, _, h3⟩ := mem_having.1 (show L.getD k 0 ∈ havingL r a by rw [hL]; exact getD_mem hk 0)
    omega
  have hH := fun k hk => has_spec r (L.getD k 0) b (hmem k hk)
  have e1 : ∀ k, k < L.length → Has (lotN r (L.getD k 0).toNat) b → c = true := fun k hk h => by
    rw [← hr.h]
    obtain ⟨i, h1, h2, h3⟩ := mem_having.1 (show L.getD k 0 ∈ havingL r a by rw [hL]; exact getD_mem hk 0)
    refine togB_iff.2 ⟨i, h1, h2, ?_⟩
    rw [h3] at h
    simpa using h
  have e2 : (∀ k, k < L.length → ¬ Has (lotN r (L.getD k 0).toNat) b) → c = false := fun h => by
    rw [← hr.h]
    cases e : togB r a b with
    | false => rfl
    | true =>
      obtain ⟨i, h1, h2, h3⟩ := togB_iff.1 e
      have hi : (i : Int) ∈ L := hL ▸ mem_having.2 ⟨i, h1, h2, rfl⟩
      obtain ⟨k, hk, hk'⟩ := List.getElem_of_mem hi
      refine absurd h3 ?_
      have := h k hk
      rw [List.getD_eq_getElem?_getD, List.getElem?_eq_getElem hk, Option.getD_some, hk'] at this
      simpa using this
  refine Fn.of_ex (cuts := []) tys hM Try.func74 rfl Try.call74 rfl ?_
  show exC Try.prog T [] _ false none 0 (entry 16 [shelfD r, int a, int b]) (finQ T [ResultVar.cell 6 4] _)
  conv => whnf
  repeat' first | ((first | refine Ob.a ?_ | refine Sp.tt ?_ | refine Sp.ff ?_ | refine Sp.yes ?_ | refine Sp.no ?_ | refine Sp.nyes ?_ | refine Sp.nno ?_);conv=>whnf) | (refine Sp.ne (fun hc => ?_) (fun hc => ?_) <;> (conv=>whnf)) | (refine Sp.dec (fun hc => ?_) (fun hc => ?_) <;> (conv=>whnf)) | (refine Sp.ndec (fun hc => ?_) (fun hc => ?_) <;> (conv=>whnf)) | (refine Sp.mk (fun hc => ?_) (fun hc => ?_) <;> (conv=>whnf)) | (apply Cl.go;(conv=>whnf); (first | refine Ob.call (hh) ?_);(conv=>whnf)) | (refine Nx.mk (fun ka kb kx hx hs => ?_) (fun he => ?_) <;> (conv=>whnf)) | (refine Nx.mk (fun ka kx hx hs => ?_) (fun he => ?_) <;> (conv=>whnf)) | (refine Uk.mk (fun hn => ?_) ?_ <;> (conv=>whnf)) | (refine Fi.a ?_;conv=>whnf) | (refine Yl.a ?_ ?_ <;> (conv=>whnf)) | (refine Ob.b ?_;conv=>whnf)
  refine Rg.snap [0, 1, 2, 3, 5, 6, 7, 11, 12, 13, 14] 40 ?_
  (conv=>whnf)
  refine RgB.go 16 ({p : Nat // p ≤ L.length ∧ ∀ k, k < p → ¬ Has (lotN r (L.getD k 0).toNat) b}) 0 (fun ⟨k, _⟩ nx => []) (fun p => p.1) (⟨0, by omega, fun k hk => by omega⟩) hsq ?_ ?_ ?_
  · rintro ⟨k, hk, hkk⟩ j hj0 hj
    simp only at hj0
    subst hj0
    have hH := hH k hj
    by_cases h : Has (lotN r (L.getD k 0).toNat) b
    · have e := e1 k hj h
      rw [decide_eq_true h] at hH
      conv => whnf
      repeat' first | ((first | refine Ob.a ?_ | refine Sp.tt ?_ | refine Sp.ff ?_ | refine Sp.yes ?_ | refine Sp.no ?_ | refine Sp.nyes ?_ | refine Sp.nno ?_);conv=>whnf) | (refine Sp.ne (fun hc => ?_) (fun hc => ?_) <;> (conv=>whnf)) | (refine Sp.dec (fun hc => ?_) (fun hc => ?_) <;> (conv=>whnf)) | (refine Sp.ndec (fun hc => ?_) (fun hc => ?_) <;> (conv=>whnf)) | (refine Sp.mk (fun hc => ?_) (fun hc => ?_) <;> (conv=>whnf)) | (apply Cl.go;(conv=>whnf); (first | refine Ob.call (hH) ?_);(conv=>whnf)) | (refine Nx.mk (fun ka kb kx hx hs => ?_) (fun he => ?_) <;> (conv=>whnf)) | (refine Nx.mk (fun ka kx hx hs => ?_) (fun he => ?_) <;> (conv=>whnf)) | (refine Uk.mk (fun hn => ?_) ?_ <;> (conv=>whnf)) | (refine Fi.a ?_;conv=>whnf) | (refine Yl.a ?_ ?_ <;> (conv=>whnf)) | (refine Ob.b ?_;conv=>whnf)
      refine Out.snap ?_
      conv => whnf
      refine OutB.go ?_
      conv => whnf
      repeat' first | ((first | refine Ob.a ?_ | refine Sp.tt ?_ | refine Sp.ff ?_ | refine Sp.yes ?_ | refine Sp.no ?_ | refine Sp.nyes ?_ | refine Sp.nno ?_);conv=>whnf) | (refine Sp.ne (fun hc => ?_) (fun hc => ?_) <;> (conv=>whnf)) | (refine Sp.dec (fun hc => ?_) (fun hc => ?_) <;> (conv=>whnf)) | (refine Sp.ndec (fun hc => ?_) (fun hc => ?_) <;> (conv=>whnf)) | (refine Sp.mk (fun hc => ?_) (fun hc => ?_) <;> (conv=>whnf)) | (refine Nx.mk (fun ka kb kx hx hs => ?_) (fun he => ?_) <;> (conv=>whnf)) | (refine Nx.mk (fun ka kx hx hs => ?_) (fun he => ?_) <;> (conv=>whnf)) | (refine Uk.mk (fun hn => ?_) ?_ <;> (conv=>whnf)) | (refine Fi.a ?_;conv=>whnf) | (refine Yl.a ?_ ?_ <;> (conv=>whnf)) | (refine Ob.b ?_;conv=>whnf)
      exact Lf
    · have e : ∀ k', k' < k + 1 → ¬ Has (lotN r (L.getD k' 0).toNat) b := fun k' hk' => by
        by_cases e : k' = k
        · subst e; exact h
        · exact hkk k' (by omega)
      rw [decide_eq_false h] at hH
      conv => whnf
      repeat' first | ((first | refine Ob.a ?_ | refine Sp.tt ?_ | refine Sp.ff ?_ | refine Sp.yes ?_ | refine Sp.no ?_ | refine Sp.nyes ?_ | refine Sp.nno ?_);conv=>whnf) | (refine Sp.ne (fun hc => ?_) (fun hc => ?_) <;> (conv=>whnf)) | (refine Sp.dec (fun hc => ?_) (fun hc => ?_) <;> (conv=>whnf)) | (refine Sp.ndec (fun hc => ?_) (fun hc => ?_) <;> (conv=>whnf)) | (refine Sp.mk (fun hc => ?_) (fun hc => ?_) <;> (conv=>whnf)) | (apply Cl.go;(conv=>whnf); (first | refine Ob.call (hH) ?_);(conv=>whnf)) | (refine Nx.mk (fun ka kb kx hx hs => ?_) (fun he => ?_) <;> (conv=>whnf)) | (refine Nx.mk (fun ka kx hx hs => ?_) (fun he => ?_) <;> (conv=>whnf)) | (refine Uk.mk (fun hn => ?_) ?_ <;> (conv=>whnf)) | (refine Fi.a ?_;conv=>whnf) | (refine Yl.a ?_ ?_ <;> (conv=>whnf)) | (refine Ob.b ?_;conv=>whnf)
      exact ⟨rfl, ⟨k + 1, by omega, e⟩, rfl, Lf⟩
  · rintro ⟨k, hk, hkk⟩ hk'
    simp only at hk'
    subst hk'
    have e := e2 hkk
    conv => whnf
    repeat' first | ((first | refine Ob.a ?_ | refine Sp.tt ?_ | refine Sp.ff ?_ | refine Sp.yes ?_ | refine Sp.no ?_ | refine Sp.nyes ?_ | refine Sp.nno ?_);conv=>whnf) | (refine Sp.ne (fun hc => ?_) (fun hc => ?_) <;> (conv=>whnf)) | (refine Sp.dec (fun hc => ?_) (fun hc => ?_) <;> (conv=>whnf)) | (refine Sp.ndec (fun hc => ?_) (fun hc => ?_) <;> (conv=>whnf)) | (refine Sp.mk (fun hc => ?_) (fun hc => ?_) <;> (conv=>whnf)) | (refine Nx.mk (fun ka kb kx hx hs => ?_) (fun he => ?_) <;> (conv=>whnf)) | (refine Nx.mk (fun ka kx hx hs => ?_) (fun he => ?_) <;> (conv=>whnf)) | (refine Uk.mk (fun hn => ?_) ?_ <;> (conv=>whnf)) | (refine Fi.a ?_;conv=>whnf) | (refine Yl.a ?_ ?_ <;> (conv=>whnf)) | (refine Ob.b ?_;conv=>whnf)
    exact Lf
  · exact Lf
/-- The best lot for a weak pot, as the program finds it: lot by lot of those that have it. -/
def putMin (c : Int) : Option Int → Option Int
  | none => some c
  | some b => if c < b then some c else some b
def upStep (r : Row) (W : List Int) (B : Nat → Bool) (l : List Int) (k : Nat) (acc : Option Int) (i : Nat) : Option Int :=
  if B i = true then acc else putMin (l.getD (fst (loN r) (hiN r) (fun j => W.getD j 0) i k) 0 + zOf r i) acc
theorem upStep_bestI (r : Row) (W : List Int) (B : Nat → Bool) (l : List Int) (k : Nat) : ∀ n, ((List.range n).filter (havS r (W.getD k 0))).foldl (upStep r W B l k) none = bestI (loN r) (hiN r) (zOf r) (fun j => W.getD j 0) (fun i => !B i) l k n
  | 0 => rfl
  | n + 1 => by
    have ih := upStep_bestI r W B l k n
    rw [List.range_succ, List.filter_append, List.foldl_append, ih, bestI]
    by_cases h : Has (lotN r n) (W.getD k 0)
    · have hs : havS r (W.getD k 0) n = true := decide_eq_true h
      rw [show [n].filter (havS r (W.getD k 0)) = [n] by rw [List.filter_cons, if_pos hs, List.filter_nil]]
      simp only [List.foldl_cons, List.foldl_nil]
      generalize bestI (loN r) (hiN r) (zOf r) (fun j => W.getD j 0) (fun i => !B i) l k n = acc
      cases hB : B n with
      | true =>
        rw [if_neg (by simp)]
        unfold upStep
        rw [if_pos hB]
      | false =>
        rw [if_pos ⟨by simp, h⟩]
        unfold upStep
        rw [if_neg (by rw [hB]; simp)]
        cases acc <;> rfl
    · have hs : havS r (W.getD k 0) n = false := decide_eq_false h
      rw [show [n].filter (havS r (W.getD k 0)) = [] by rw [List.filter_cons, if_neg (by rw [hs]; simp), List.filter_nil], if_neg fun hh => h hh.2, List.foldl_nil]
end Go.Px.Try

/-! Pp4 -/
namespace Go.Px.Try
open Go Go.Proofs Go.Px
set_option maxRecDepth 100000
def mk (B : Nat → Bool) (j : Nat) : Int := if B j = true then 1 else 0
def marksD (B : Nat → Bool) : DV := .ag 10 fun j => int (mk B j)
def sizeF (r : Row) : DV := .fn 61 1 0 (fun _ => shelfD r) (fun _ => .top)
def placesD (l : List Int) : DV := .ag 13 fun j => int (l.getD j 0)
def upD (o : Option (List Int)) : DV := match o with
  | some l => tpl [placesD l, bool true]
  | none => tpl [placesD [], bool false]
/-- The costs of the first k weak pots. -/
def upTo (r : Row) (W : List Int) (B : Nat → Bool) (k : Nat) : Option (List Int) := upL r.lots.length (loN r) (hiN r) (zOf r) (fun j => W.getD j 0) (fun i => !B i) k
def lotsOf (r : Row) (p : Int) : List Nat := (List.range r.lots.length).filter (havS r p)
theorem lotsOf_cast (r : Row) (p : Int) : havingL r p = (lotsOf r p).map fun i : Nat => (i : Int) := rfl
theorem upTo_succ (r : Row) (W : List Int) (B : Nat → Bool) {k : Nat} {l : List Int} (h : upTo r W B k = some l) : upTo r W B (k + 1) = match (lotsOf r (W.getD k 0)).foldl (upStep r W B l k) none with
    | none => none
    | some v => some (l ++ [v]) := by
  have e : (lotsOf r (W.getD k 0)).foldl (upStep r W B l k) none = _ := upStep_bestI r W B l k r.lots.length
  rw [e]
  show upL _ _ _ _ _ _ (k + 1) = _
  have h' : upL r.lots.length (loN r) (hiN r) (zOf r) (fun j => W.getD j 0) (fun i => !B i) k = some l := h
  rw [upL, h']
  rfl
theorem upTo_none (r : Row) (W : List Int) (B : Nat → Bool) {k : Nat} (h : upTo r W B k = none) : ∀ d, upTo r W B (k + d) = none
  | 0 => h
  | d + 1 => by
    have ih : upL r.lots.length (loN r) (hiN r) (zOf r) (fun j => W.getD j 0) (fun i => !B i) (k + d) = none := upTo_none r W B h d
    show upL _ _ _ _ _ _ (k + d + 1) = none
    rw [upL, ih]
theorem places_zero {f : Nat → DV} : ∀ j, j < 13 → CImp (mid 0 13 (fun _ => DV.v (Value.int IntKind.i64 0)) f j) (rowOf int 0 [0] j) := by
  intro j hj
  repeat (rcases j with _ | j; · exact ⟨rfl, rfl⟩)
  omega
theorem z00 : ∀ j : Nat, 0 ≤ [(0 : Int)].getD j 0 ∧ [(0 : Int)].getD j 0 ≤ 40 * 0 := fun j => by
  rcases j with _ | j <;> simp
/-- The costs with one more, if it is found. -/
def withA (l : List Int) (acc : Option Int) : List Int := match acc with
  | none => l
  | some v => l ++ [v]
theorem places_put {l : List Int} {acc : Option Int} {k : Nat} {v : Int} {w : DV} (hw : w = int v) (hl : l.length = k) : ∀ j, j < 13 → CImp (upE k w (rowOf int 0 (withA l acc)) j) (rowOf int 0 (l ++ [v]) j) := by
  subst hw
  intro j _
  unfold upE rowOf
  by_cases e : j = k
  · rw [if_pos e, e, ← hl, List.getD_eq_getElem?_getD, List.getElem?_append_right (Nat.le_refl _)]
    simp
    exact ⟨rfl, rfl⟩
  · rw [if_neg e]
    have h1 : (withA l acc).getD j 0 = (l ++ [v]).getD j 0 := by
      by_cases h : j < l.length
      · rw [List.getD_eq_getElem?_getD, List.getD_eq_getElem?_getD, List.getElem?_append_left h]
        cases acc with
        | none => rfl
        | some b => simp only [withA]; rw [List.getElem?_append_left h]
      · have e2 : (l ++ [v])[j]? = none := List.getElem?_eq_none (by simp; omega)
        have e3 : (withA l acc)[j]? = none := by
          cases acc with
          | none => exact List.getElem?_eq_none (by simp only [withA]; omega)
          | some b => exact List.getElem?_eq_none (by simp [withA]; omega)
        rw [List.getD_eq_getElem?_getD, List.getD_eq_getElem?_getD, e2, e3]
    rw [h1]
    exact ⟨rfl, rfl⟩
set_option maxHeartbeats 16000000 in
theorem upto_spec (r : Row) (hr : RowOk r) (W : List Int) (hW : W.length ≤ 12) (B : Nat → Bool) : Fn Try.prog 73 [shelfD r, ints W, marksD B, sizeF r] (upD (upTo r W B W.length)) := by
  have hl10 := hr.l10
  generalize hfin : upTo r W B W.length = fin
  refine Fn.of_ex (cuts := []) tys hM Try.func73 rfl Try.call73 rfl ?_
  show exC Try.prog T [] _ false none 0 (entry 74 [shelfD r, ints W, marksD B, sizeF r]) (finQ T [ResultVar.cell 8 87, ResultVar.tmp 9] _)
  conv => whnf
  repeat' first | ((first | refine Ob.a ?_ | refine Sp.tt ?_ | refine Sp.ff ?_ | refine Sp.yes ?_ | refine Sp.no ?_ | refine Sp.nyes ?_ | refine Sp.nno ?_);conv=>whnf) | (refine Sp.ne (fun hc => ?_) (fun hc => ?_) <;> (conv=>whnf)) | (refine Sp.dec (fun hc => ?_) (fun hc => ?_) <;> (conv=>whnf)) | (refine Sp.ndec (fun hc => ?_) (fun hc => ?_) <;> (conv=>whnf)) | (refine Sp.mk (fun hc => ?_) (fun hc => ?_) <;> (conv=>whnf)) | (refine Nx.mk (fun ka kb kx hx hs => ?_) (fun he => ?_) <;> (conv=>whnf)) | (refine Nx.mk (fun ka kx hx hs => ?_) (fun he => ?_) <;> (conv=>whnf)) | (refine Uk.mk (fun hn => ?_) ?_ <;> (conv=>whnf)) | (refine Fi.a ?_;conv=>whnf) | (refine Yl.a ?_ ?_ <;> (conv=>whnf)) | (refine Ob.b ?_;conv=>whnf)
  refine Lp.snap [0, 1, 2, 3, 4, 5, 6, 7, 8, 10, 18, 19, 28, 73] 40 ?_
  (conv=>whnf)
  refine LpB.go 74 ({q : Int × List Int // (0 ≤ q.1 ∧ q.1 ≤ W.length) ∧ upTo r W B q.1.toNat = some q.2 ∧ (q.2.length = q.1 + 1) ∧ ∀ j, 0 ≤ q.2.getD j 0 ∧ q.2.getD j 0 ≤ 40 * q.1}) 0 (fun ⟨(i, l), _⟩ nx => ([(20, .d (int i))], [(6, .row true 87 1 13 (rowOf int 0 l)), (2, .row true 79 1 10 (fun j => int (mk B j)))])) (fun p => (W.length - p.1.1).toNat) (⟨(0, [0]), ⟨by simp, by simp⟩, rfl, by simp, z00⟩) ?_ ?_
  · rintro ⟨⟨i, l⟩, ⟨i0, i1⟩, hup, hlen, hb⟩
    simp only at i0 i1 hup hlen hb
    have hh := having_spec r (W.getD i.toNat 0)
    have hsu := upTo_succ r W B hup
    have hLc := lotsOf_cast r (W.getD i.toNat 0)
    have hLmem : ∀ j, j < (lotsOf r (W.getD i.toNat 0)).length → (lotsOf r (W.getD i.toNat 0)).getD j 0 < r.lots.length ∧ Has (lotN r ((lotsOf r (W.getD i.toNat 0)).getD j 0)) (W.getD i.toNat 0) := fun j hj => by
      have := getD_mem hj 0
      unfold lotsOf at this ⊢
      rw [List.mem_filter] at this
      exact ⟨List.mem_range.1 this.1, of_decide_eq_true this.2⟩
    have hsq := having1_spec r (W.getD i.toNat 0) (by omega) _ hLc.symm
    generalize lotsOf r (W.getD i.toNat 0) = L at *
    clear hLc
    rw [List.length_map] at hsq
    have hget : ∀ j, (L.map fun i : Nat => (i : Int)).getD j 0 = ((L.getD j 0 : Nat) : Int) := fun j => by
      rw [List.getD_eq_getElem?_getD, List.getElem?_map, List.getD_eq_getElem?_getD]
      cases L[j]? <;> rfl
    simp only [hget] at hsq
    conv => whnf
    repeat' first | ((first | refine Ob.a ?_ | refine Sp.tt ?_ | refine Sp.ff ?_ | refine Sp.yes ?_ | refine Sp.no ?_ | refine Sp.nyes ?_ | refine Sp.nno ?_);conv=>whnf) | (refine Sp.ne (fun hc => ?_) (fun hc => ?_) <;> (conv=>whnf)) | (refine Sp.dec (fun hc => ?_) (fun hc => ?_) <;> (conv=>whnf)) | (refine Sp.ndec (fun hc => ?_) (fun hc => ?_) <;> (conv=>whnf)) | (refine Sp.mk (fun hc => ?_) (fun hc => ?_) <;> (conv=>whnf)) | (apply Cl.go;(conv=>whnf); (first | refine Ob.call (hh) ?_);(conv=>whnf)) | (refine Nx.mk (fun ka kb kx hx hs => ?_) (fun he => ?_) <;> (conv=>whnf)) | (refine Nx.mk (fun ka kx hx hs => ?_) (fun he => ?_) <;> (conv=>whnf)) | (refine Uk.mk (fun hn => ?_) ?_ <;> (conv=>whnf)) | (refine Fi.a ?_;conv=>whnf) | (refine Yl.a ?_ ?_ <;> (conv=>whnf)) | (refine Ob.b ?_;conv=>whnf)
    · refine Rg.snap [0, 1, 2, 3, 4, 5, 6, 7, 8, 9, 10, 11, 12, 13, 14, 15, 16, 18, 19, 20, 22, 23, 24, 25, 26, 28, 29, 30, 31, 33, 34, 35, 36, 37, 38, 39, 40, 41, 42, 43, 44, 46, 47, 48, 49, 50, 51, 52, 53, 54, 55, 56, 57, 58, 59, 60, 61, 62, 63, 65, 66, 67, 68, 69, 71, 72, 73] 40 ?_
      (conv=>whnf)
      refine RgB.go 74 ({q : Nat × Option Int // q.1 ≤ L.length ∧ q.2 = (L.take q.1).foldl (upStep r W B l i.toNat) none ∧ ∀ v, q.2 = some v → 0 ≤ v ∧ v ≤ 40 * (i + 1)}) 0 (fun ⟨(k, acc), _⟩ nx => [(6, .row true 87 1 13 (rowOf int 0 (withA l acc))), (14, .cs true 1 (fun _ => .d (bool acc.isSome)))]) (fun p => p.1.1) (⟨(0, none), by omega, rfl, fun v hv => by cases hv⟩) hsq ?_ ?_ ?_
      · rintro ⟨⟨k, acc⟩, hk, hacc, hab⟩ j hj0 hj
        simp only at hj0 hk hacc hab
        subst hj0
        obtain ⟨hLk, hLh⟩ := hLmem k hj
        have hstep : (L.take (k + 1)).foldl (upStep r W B l i.toNat) none = upStep r W B l i.toNat acc (L.getD k 0) := by
          rw [take_succ_getD L k 0 hj, List.foldl_append, ← hacc]; rfl
        generalize L.getD k 0 = x at *
        cases hB : B x with
        | true =>
          have e : acc = (L.take (k + 1)).foldl (upStep r W B l i.toNat) none := by rw [hstep]; unfold upStep; rw [if_pos hB]
          have hm : mk B (0 + ((x : Nat) : Int).toNat) = 1 := by rw [Nat.zero_add, Int.toNat_natCast]; exact if_pos hB
          conv => whnf
          repeat' first | ((first | refine Ob.a ?_ | refine Sp.tt ?_ | refine Sp.ff ?_ | refine Sp.yes ?_ | refine Sp.no ?_ | refine Sp.nyes ?_ | refine Sp.nno ?_);conv=>whnf) | (refine Sp.ne (fun hc => ?_) (fun hc => ?_) <;> (conv=>whnf)) | (refine Sp.dec (fun hc => ?_) (fun hc => ?_) <;> (conv=>whnf)) | (refine Sp.ndec (fun hc => ?_) (fun hc => ?_) <;> (conv=>whnf)) | (refine Sp.mk (fun hc => ?_) (fun hc => ?_) <;> (conv=>whnf)) | (refine Nx.mk (fun ka kb kx hx hs => ?_) (fun he => ?_) <;> (conv=>whnf)) | (refine Nx.mk (fun ka kx hx hs => ?_) (fun he => ?_) <;> (conv=>whnf)) | (refine Uk.mk (fun hn => ?_) ?_ <;> (conv=>whnf)) | (refine Fi.a ?_;conv=>whnf) | (refine Yl.a ?_ ?_ <;> (conv=>whnf)) | (refine Ob.b ?_;conv=>whnf)
          exact ⟨rfl, ⟨(k + 1, acc), by simp only; omega, e, hab⟩, rfl, Lf⟩
        | false =>
          have hm : mk B (0 + ((x : Nat) : Int).toNat) = 0 := by rw [Nat.zero_add, Int.toNat_natCast]; exact if_neg (by rw [hB]; simp)
          have hz1 := zOf_pos hr x
          have hz2 := zOf_le hr x
          have hS := size_spec r x hr ⟨by omega, by omega⟩
          rw [Int.toNat_natCast] at hS
          have hH := fun f : Nat => has_spec r x (W.getD f 0) ⟨by omega, by omega⟩
          conv => whnf
          repeat' first | ((first | refine Ob.a ?_ | refine Sp.tt ?_ | refine Sp.ff ?_ | refine Sp.yes ?_ | refine Sp.no ?_ | refine Sp.nyes ?_ | refine Sp.nno ?_);conv=>whnf) | (refine Sp.ne (fun hc => ?_) (fun hc => ?_) <;> (conv=>whnf)) | (refine Sp.dec (fun hc => ?_) (fun hc => ?_) <;> (conv=>whnf)) | (refine Sp.ndec (fun hc => ?_) (fun hc => ?_) <;> (conv=>whnf)) | (refine Sp.mk (fun hc => ?_) (fun hc => ?_) <;> (conv=>whnf)) | (refine Nx.mk (fun ka kb kx hx hs => ?_) (fun he => ?_) <;> (conv=>whnf)) | (refine Nx.mk (fun ka kx hx hs => ?_) (fun he => ?_) <;> (conv=>whnf)) | (refine Uk.mk (fun hn => ?_) ?_ <;> (conv=>whnf)) | (refine Fi.a ?_;conv=>whnf) | (refine Yl.a ?_ ?_ <;> (conv=>whnf)) | (refine Ob.b ?_;conv=>whnf)
          refine Lp.snap [0, 1, 2, 3, 4, 5, 6, 7, 8, 9, 10, 11, 12, 13, 14, 16, 18, 19, 20, 22, 23, 24, 25, 26, 28, 29, 30, 31, 33, 48, 49, 50, 51, 52, 53, 54, 55, 56, 57, 58, 59, 60, 61, 62, 63, 65, 66, 67, 68, 69, 71, 72, 73] 40 ?_
          (conv=>whnf)
          refine LpB.go 74 ({f : Nat // f ≤ i.toNat ∧ fst (loN r) (hiN r) (fun j => W.getD j 0) x f = fst (loN r) (hiN r) (fun j => W.getD j 0) x i.toNat}) 0 (fun ⟨f, _⟩ nx => ([(15, .d (int f))], [])) (fun p => p.1) (⟨i.toNat, Nat.le_refl _, rfl⟩) ?_ ?_
          · rintro ⟨f, hf, hff⟩
            by_cases hgo : ∃ g, f = g + 1 ∧ Has (lotN r x) (W.getD g 0)
            · obtain ⟨g, rfl, hg⟩ := hgo
              have hH := hH g
              rw [Int.toNat_natCast, decide_eq_true hg] at hH
              have hn : fst (loN r) (hiN r) (fun j => W.getD j 0) x g = fst (loN r) (hiN r) (fun j => W.getD j 0) x i.toNat := by
                rw [← hff, fst, if_pos (show cov (loN r) (hiN r) x (W.getD g 0) from hg)]
              have hi1 : (((g + 1 : Nat) : Int) - 1).toNat = g := by omega
              rw [← hi1] at hH
              conv => whnf
              repeat' first | ((first | refine Ob.a ?_ | refine Sp.tt ?_ | refine Sp.ff ?_ | refine Sp.yes ?_ | refine Sp.no ?_ | refine Sp.nyes ?_ | refine Sp.nno ?_);conv=>whnf) | (refine Sp.ne (fun hc => ?_) (fun hc => ?_) <;> (conv=>whnf)) | (refine Sp.dec (fun hc => ?_) (fun hc => ?_) <;> (conv=>whnf)) | (refine Sp.ndec (fun hc => ?_) (fun hc => ?_) <;> (conv=>whnf)) | (refine Sp.mk (fun hc => ?_) (fun hc => ?_) <;> (conv=>whnf)) | (apply Cl.go;(conv=>whnf); (first | refine Ob.call (hH) ?_);(conv=>whnf)) | (refine Nx.mk (fun ka kb kx hx hs => ?_) (fun he => ?_) <;> (conv=>whnf)) | (refine Nx.mk (fun ka kx hx hs => ?_) (fun he => ?_) <;> (conv=>whnf)) | (refine Uk.mk (fun hn => ?_) ?_ <;> (conv=>whnf)) | (refine Fi.a ?_;conv=>whnf) | (refine Yl.a ?_ ?_ <;> (conv=>whnf)) | (refine Ob.b ?_;conv=>whnf)
              exact ⟨rfl, ⟨g, by omega, hn⟩, Lf, by simp only; omega⟩
            · have hfe : fst (loN r) (hiN r) (fun j => W.getD j 0) x i.toNat = f := by
                rw [← hff]
                cases f with
                | zero => rfl
                | succ g => rw [fst, if_neg (show ¬ cov (loN r) (hiN r) x (W.getD g 0) from fun h => hgo ⟨g, rfl, h⟩)]
              have hlf : f < l.length := by omega
              have hof : (withA l acc).getD (0 + f) 0 = l.getD f 0 := by
                rw [Nat.zero_add]
                cases acc with
                | none => rfl
                | some b => simp only [withA]; exact getD_app hlf
              have hbf := hb f
              have hus : upStep r W B l i.toNat acc x = putMin (l.getD f 0 + zOf r x) acc := by
                unfold upStep
                rw [if_neg (by rw [hB]; simp), hfe]
              rw [hus] at hstep
              have hof2 : (withA l acc).getD (0 + ((f : Nat) : Int).toNat) 0 = l.getD f 0 := by rw [Int.toNat_natCast]; exact hof
              have hfin1 : ∀ v, some (l.getD f 0 + zOf r x) = some v → 0 ≤ v ∧ v ≤ 40 * (i + 1) := fun v hv => by cases hv; omega
              have hHf : f = 0 ∨ ∃ g, f = g + 1 ∧ Fn Try.prog 60 [shelfD r, int x, int (W.getD ((f : Int) - 1).toNat 0)] (bool false) := by
                cases f with
                | zero => exact .inl rfl
                | succ g =>
                  refine .inr ⟨g, rfl, ?_⟩
                  have hng : ¬ Has (lotN r x) (W.getD g 0) := fun h => hgo ⟨g, rfl, h⟩
                  have hi1 : (((g + 1 : Nat) : Int) - 1).toNat = g := by omega
                  have hH := hH g
                  rw [Int.toNat_natCast, decide_eq_false hng, ← hi1] at hH
                  exact hH
              clear hgo hfe hH hof
              have hHf' : 0 < (f : Int) → Fn Try.prog 60 [shelfD r, int x, int (W.getD ((f : Int) - 1).toNat 0)] (bool false) := fun h => by
                rcases hHf with h' | ⟨g, _, h'⟩
                · omega
                · exact h'
              clear hHf
              cases acc with
              | none =>
                have hpl : ∀ w, w = int (l.getD f 0 + zOf r x) → ∀ j, j < 13 → CImp (upE (0 + (i + 1).toNat) w (rowOf int 0 (withA l none)) j) (rowOf int 0 (l ++ [l.getD f 0 + zOf r x]) j) := fun w hw => places_put hw (by omega)
                conv => whnf
                repeat' first | ((first | refine Ob.a ?_ | refine Sp.tt ?_ | refine Sp.ff ?_ | refine Sp.yes ?_ | refine Sp.no ?_ | refine Sp.nyes ?_ | refine Sp.nno ?_);conv=>whnf) | (refine Sp.ne (fun hc => ?_) (fun hc => ?_) <;> (conv=>whnf)) | (refine Sp.dec (fun hc => ?_) (fun hc => ?_) <;> (conv=>whnf)) | (refine Sp.ndec (fun hc => ?_) (fun hc => ?_) <;> (conv=>whnf)) | (refine Sp.mk (fun hc => ?_) (fun hc => ?_) <;> (conv=>whnf)) | (apply Cl.go;(conv=>whnf); (first | refine Ob.call (hHf' (by omega)) ?_ | refine Ob.call (hS) ?_);(conv=>whnf)) | (refine Nx.mk (fun ka kb kx hx hs => ?_) (fun he => ?_) <;> (conv=>whnf)) | (refine Nx.mk (fun ka kx hx hs => ?_) (fun he => ?_) <;> (conv=>whnf)) | (refine Uk.mk (fun hn => ?_) ?_ <;> (conv=>whnf)) | (refine Fi.a ?_;conv=>whnf) | (refine Yl.a ?_ ?_ <;> (conv=>whnf)) | (refine Ob.b ?_;conv=>whnf)
                all_goals refine ⟨rfl, ⟨(k + 1, some (l.getD f 0 + zOf r x)), by simp only; omega, hstep.symm, hfin1⟩, rfl, ?_⟩
                all_goals (repeat' first | (refine Edge.fast ?_) | ((conv=>whnf); first | exact True.intro | (refine And.intro ?_ ?_) | exact rfl | exact Nat.le_of_eq (Nat.zero_add _) | exact ImpS.refl _ | ((conv => arg 1; whnf); first | exact ImpS.refl _ | (refine ImpS.nil_eq ?_) | (refine ImpS.vnil_eq ?_) | (refine ImpS.row ?_) | (refine ImpS.rowN ?_ ?_) | (refine ImpS.sl_eq ?_) | (refine ImpS.expl rfl ?_)) | (refine row_snoc' ?_) | exact MImp.refl _ | exact cimp_none | exact cimp_same | exact List.not_mem_nil | exact DImp.refl _) | exact rfl | (refine And.intro ?_ ?_) | exact ImpS.refl _)
                all_goals first | exact hpl _ (by rw [← hof2]; rfl) | omega
              | some b =>
                have hpl : ∀ w, w = int (l.getD f 0 + zOf r x) → ∀ j, j < 13 → CImp (upE (0 + (i + 1).toNat) w (rowOf int 0 (withA l (some b))) j) (rowOf int 0 (l ++ [l.getD f 0 + zOf r x]) j) := fun w hw => places_put hw (by omega)
                have hob : (withA l (some b)).getD (0 + (i + 1).toNat) 0 = b := by
                  rw [show 0 + (i + 1).toNat = l.length by omega]; exact getD_end
                have hbb := hab b rfl
                by_cases hlt : l.getD f 0 + zOf r x < b
                · have hst : (L.take (k + 1)).foldl (upStep r W B l i.toNat) none = some (l.getD f 0 + zOf r x) := by rw [hstep, putMin, if_pos hlt]
                  conv => whnf
                  repeat' first | ((first | refine Ob.a ?_ | refine Sp.tt ?_ | refine Sp.ff ?_ | refine Sp.yes ?_ | refine Sp.no ?_ | refine Sp.nyes ?_ | refine Sp.nno ?_);conv=>whnf) | (refine Sp.ne (fun hc => ?_) (fun hc => ?_) <;> (conv=>whnf)) | (refine Sp.dec (fun hc => ?_) (fun hc => ?_) <;> (conv=>whnf)) | (refine Sp.ndec (fun hc => ?_) (fun hc => ?_) <;> (conv=>whnf)) | (refine Sp.mk (fun hc => ?_) (fun hc => ?_) <;> (conv=>whnf)) | (apply Cl.go;(conv=>whnf); (first | refine Ob.call (hHf' (by omega)) ?_ | refine Ob.call (hS) ?_);(conv=>whnf)) | (refine Nx.mk (fun ka kb kx hx hs => ?_) (fun he => ?_) <;> (conv=>whnf)) | (refine Nx.mk (fun ka kx hx hs => ?_) (fun he => ?_) <;> (conv=>whnf)) | (refine Uk.mk (fun hn => ?_) ?_ <;> (conv=>whnf)) | (refine Fi.a ?_;conv=>whnf) | (refine Yl.a ?_ ?_ <;> (conv=>whnf)) | (refine Ob.b ?_;conv=>whnf)
                  all_goals refine ⟨rfl, ⟨(k + 1, some (l.getD f 0 + zOf r x)), by simp only; omega, hst.symm, hfin1⟩, rfl, ?_⟩
                  all_goals (repeat' first | (refine Edge.fast ?_) | ((conv=>whnf); first | exact True.intro | (refine And.intro ?_ ?_) | exact rfl | exact Nat.le_of_eq (Nat.zero_add _) | exact ImpS.refl _ | ((conv => arg 1; whnf); first | exact ImpS.refl _ | (refine ImpS.nil_eq ?_) | (refine ImpS.vnil_eq ?_) | (refine ImpS.row ?_) | (refine ImpS.rowN ?_ ?_) | (refine ImpS.sl_eq ?_) | (refine ImpS.expl rfl ?_)) | (refine row_snoc' ?_) | exact MImp.refl _ | exact cimp_none | exact cimp_same | exact List.not_mem_nil | exact DImp.refl _) | exact rfl | (refine And.intro ?_ ?_) | exact ImpS.refl _)
                  all_goals first | exact hpl _ (by rw [← hof2]; rfl) | omega
                · have hst : (L.take (k + 1)).foldl (upStep r W B l i.toNat) none = some b := by rw [hstep, putMin, if_neg hlt]
                  conv => whnf
                  repeat' first | ((first | refine Ob.a ?_ | refine Sp.tt ?_ | refine Sp.ff ?_ | refine Sp.yes ?_ | refine Sp.no ?_ | refine Sp.nyes ?_ | refine Sp.nno ?_);conv=>whnf) | (refine Sp.ne (fun hc => ?_) (fun hc => ?_) <;> (conv=>whnf)) | (refine Sp.dec (fun hc => ?_) (fun hc => ?_) <;> (conv=>whnf)) | (refine Sp.ndec (fun hc => ?_) (fun hc => ?_) <;> (conv=>whnf)) | (refine Sp.mk (fun hc => ?_) (fun hc => ?_) <;> (conv=>whnf)) | (apply Cl.go;(conv=>whnf); (first | refine Ob.call (hHf' (by omega)) ?_ | refine Ob.call (hS) ?_);(conv=>whnf)) | (refine Nx.mk (fun ka kb kx hx hs => ?_) (fun he => ?_) <;> (conv=>whnf)) | (refine Nx.mk (fun ka kx hx hs => ?_) (fun he => ?_) <;> (conv=>whnf)) | (refine Uk.mk (fun hn => ?_) ?_ <;> (conv=>whnf)) | (refine Fi.a ?_;conv=>whnf) | (refine Yl.a ?_ ?_ <;> (conv=>whnf)) | (refine Ob.b ?_;conv=>whnf)
                  all_goals exact ⟨rfl, ⟨(k + 1, some b), by simp only; omega, hst.symm, hab⟩, rfl, Lf⟩
          · exact Lf
      · rintro ⟨⟨k, acc⟩, hk, hacc, hab⟩ hk'
        simp only at hk' hk hacc hab
        rw [hk', List.take_length] at hacc
        rw [← hacc] at hsu
        cases acc with
        | none =>
          have e : fin = none := by
            rw [← hfin]
            have := upTo_none r W B hsu (W.length - (i.toNat + 1))
            rwa [show i.toNat + 1 + (W.length - (i.toNat + 1)) = W.length by omega] at this
          subst e
          conv => whnf
          repeat' first | ((first | refine Ob.a ?_ | refine Sp.tt ?_ | refine Sp.ff ?_ | refine Sp.yes ?_ | refine Sp.no ?_ | refine Sp.nyes ?_ | refine Sp.nno ?_);conv=>whnf) | (refine Sp.ne (fun hc => ?_) (fun hc => ?_) <;> (conv=>whnf)) | (refine Sp.dec (fun hc => ?_) (fun hc => ?_) <;> (conv=>whnf)) | (refine Sp.ndec (fun hc => ?_) (fun hc => ?_) <;> (conv=>whnf)) | (refine Sp.mk (fun hc => ?_) (fun hc => ?_) <;> (conv=>whnf)) | (refine Nx.mk (fun ka kb kx hx hs => ?_) (fun he => ?_) <;> (conv=>whnf)) | (refine Nx.mk (fun ka kx hx hs => ?_) (fun he => ?_) <;> (conv=>whnf)) | (refine Uk.mk (fun hn => ?_) ?_ <;> (conv=>whnf)) | (refine Fi.a ?_;conv=>whnf) | (refine Yl.a ?_ ?_ <;> (conv=>whnf)) | (refine Ob.b ?_;conv=>whnf)
          exact Lf
        | some v =>
          have hv := hab v rfl
          have hup2 : upTo r W B (i + 1).toNat = some (l ++ [v]) := by rw [show (i + 1).toNat = i.toNat + 1 by omega]; exact hsu
          have hb2 : ∀ j, 0 ≤ (l ++ [v]).getD j 0 ∧ (l ++ [v]).getD j 0 ≤ 40 * (i + 1) := fun j => by
            have := hb j
            by_cases h1 : j < l.length
            · rw [getD_app h1]; omega
            · by_cases h2 : j = l.length
              · rw [h2, getD_end]; omega
              · rw [List.getD_eq_getElem?_getD, List.getElem?_eq_none (by simp; omega)]; simp; omega
          conv => whnf
          repeat' first | ((first | refine Ob.a ?_ | refine Sp.tt ?_ | refine Sp.ff ?_ | refine Sp.yes ?_ | refine Sp.no ?_ | refine Sp.nyes ?_ | refine Sp.nno ?_);conv=>whnf) | (refine Sp.ne (fun hc => ?_) (fun hc => ?_) <;> (conv=>whnf)) | (refine Sp.dec (fun hc => ?_) (fun hc => ?_) <;> (conv=>whnf)) | (refine Sp.ndec (fun hc => ?_) (fun hc => ?_) <;> (conv=>whnf)) | (refine Sp.mk (fun hc => ?_) (fun hc => ?_) <;> (conv=>whnf)) | (refine Nx.mk (fun ka kb kx hx hs => ?_) (fun he => ?_) <;> (conv=>whnf)) | (refine Nx.mk (fun ka kx hx hs => ?_) (fun he => ?_) <;> (conv=>whnf)) | (refine Uk.mk (fun hn => ?_) ?_ <;> (conv=>whnf)) | (refine Fi.a ?_;conv=>whnf) | (refine Yl.a ?_ ?_ <;> (conv=>whnf)) | (refine Ob.b ?_;conv=>whnf)
          exact ⟨rfl, ⟨(i + 1, l ++ [v]), ⟨by simp only; omega, by simp only; omega⟩, hup2, by simp; omega, hb2⟩, Lf, by simp only; omega⟩
      · exact Lf
    · have e : fin = some l := by rw [← hfin, ← hup]; congr 1; omega
      subst e
      exact Lf
  · conv => whnf
    repeat' first | (refine Edge.fast ?_) | ((conv=>whnf); first | exact True.intro | (refine And.intro ?_ ?_) | exact rfl | exact Nat.le_of_eq (Nat.zero_add _) | exact ImpS.refl _ | ((conv => arg 1; whnf); first | exact ImpS.refl _ | (refine ImpS.nil_eq ?_) | (refine ImpS.vnil_eq ?_) | (refine ImpS.row ?_) | (refine ImpS.rowN ?_ ?_) | (refine ImpS.sl_eq ?_) | (refine ImpS.expl rfl ?_)) | (refine row_snoc' ?_) | exact MImp.refl _ | exact cimp_none | exact cimp_same | exact List.not_mem_nil | exact DImp.refl _) | exact rfl | (refine And.intro ?_ ?_) | exact ImpS.refl _
    exact places_zero
end Go.Px.Try

/-! Pp5 -/
namespace Go.Px.Try
open Go Go.Proofs Go.Px
set_option maxRecDepth 100000
def castL (l : List Nat) : List Int := l.map fun i : Nat => (i : Int)
theorem castL_getD (l : List Nat) (j : Nat) : (castL l).getD j 0 = ((l.getD j 0 : Nat) : Int) := by
  unfold castL
  rw [List.getD_eq_getElem?_getD, List.getElem?_map, List.getD_eq_getElem?_getD]
  cases l[j]? <;> rfl
theorem castL_len (l : List Nat) : (castL l).length = l.length := by simp [castL]
theorem sumL_take (z : Nat → Int) : ∀ (l : List Nat) (j : Nat), j < l.length → sumL z (l.take (j + 1)) = sumL z (l.take j) + z (l.getD j 0)
  | [], j, h => by simp at h
  | x :: l, 0, _ => by simp [sumL]
  | x :: l, j + 1, h => by
    have ih := sumL_take z l j (by simpa using h)
    rw [List.take_succ_cons, List.take_succ_cons, sumL, sumL, ih, List.getD_cons_succ]
    omega
theorem sumL_rng {r : Row} (h : RowOk r) : ∀ l : List Nat, 0 ≤ sumL (zOf r) l ∧ sumL (zOf r) l ≤ 40 * l.length
  | [] => by simp [sumL]
  | x :: l => by
    have := sumL_rng h l
    have := zOf_pos h x
    have := zOf_le h x
    rw [sumL, List.length_cons]; omega
theorem uptoR_rng {r : Row} (h : RowOk r) {W : List Int} (hW : W.Pairwise (· < ·)) {B : Nat → Bool} {l : List Int} (hl : uptoR r W B = some l) (j : Nat) : 0 ≤ l.getD j 0 ∧ l.getD j 0 ≤ 400 := by
  have hu := uptoR_ok h hW B
  rw [hl] at hu
  simp only at hu
  have h10 := h.l10
  by_cases hj : j ≤ W.length
  · obtain ⟨S, _, _, s3⟩ := hu.att j hj
    have := tot_bound (z := zOf r) (S := S) (b := 40) (by omega) r.lots.length fun i _ => ⟨by have := zOf_pos h i; omega, zOf_le h i⟩
    omega
  · rw [List.getD_eq_getElem?_getD, List.getElem?_eq_none (by have := hu.len; omega)]
    simp
set_option maxHeartbeats 16000000 in
theorem cost_spec (r : Row) (hr : RowOk r) (wi : List Nat) (hw : ∀ i ∈ wi, i < r.lots.length) (hwl : wi.length ≤ 20) (B : Nat → Bool) : Fn Try.prog 70 [shelfD r, ints (castL wi), marksD B] (tpl [int (costP r wi B).1, bool (costP r wi B).2]) := by
  have hl10 := hr.l10
  have hl12 := hr.w12
  have hWlen : (restW r wi).length ≤ 12 := Nat.le_trans (List.length_filter_le _ _) hl12
  have hU := upto_spec r hr (restW r wi) hWlen B
  have hcp : costP r wi B = match uptoR r (restW r wi) B with
    | some l => (sumL (zOf r) wi + l.getD (restW r wi).length 0, true)
    | none => (sumL (zOf r) wi, false) := rfl
  have hur : ∀ l, uptoR r (restW r wi) B = some l → 0 ≤ l.getD (restW r wi).length 0 ∧ l.getD (restW r wi).length 0 ≤ 400 := fun l h => uptoR_rng hr (restW_inc hr wi) h _
  have hue : upTo r (restW r wi) B (restW r wi).length = uptoR r (restW r wi) B := rfl
  rw [hue] at hU
  generalize uptoR r (restW r wi) B = u at *
  have hsr := sumL_rng hr wi
  have hcl := castL_len wi
  refine Fn.of_ex (cuts := []) tys hM Try.func70 rfl Try.call70 rfl ?_
  show exC Try.prog T [] _ false none 0 (entry 74 [shelfD r, ints (castL wi), marksD B]) (finQ T [ResultVar.tmp 6, ResultVar.tmp 7] _)
  conv => whnf
  repeat' first | ((first | refine Ob.a ?_ | refine Sp.tt ?_ | refine Sp.ff ?_ | refine Sp.yes ?_ | refine Sp.no ?_ | refine Sp.nyes ?_ | refine Sp.nno ?_);conv=>whnf) | (refine Sp.ne (fun hc => ?_) (fun hc => ?_) <;> (conv=>whnf)) | (refine Sp.dec (fun hc => ?_) (fun hc => ?_) <;> (conv=>whnf)) | (refine Sp.ndec (fun hc => ?_) (fun hc => ?_) <;> (conv=>whnf)) | (refine Sp.mk (fun hc => ?_) (fun hc => ?_) <;> (conv=>whnf)) | (refine Nx.mk (fun ka kb kx hx hs => ?_) (fun he => ?_) <;> (conv=>whnf)) | (refine Nx.mk (fun ka kx hx hs => ?_) (fun he => ?_) <;> (conv=>whnf)) | (refine Uk.mk (fun hn => ?_) ?_ <;> (conv=>whnf)) | (refine Fi.a ?_;conv=>whnf) | (refine Yl.a ?_ ?_ <;> (conv=>whnf)) | (refine Ob.b ?_;conv=>whnf)
  refine Lp.snap [0, 1, 2, 5, 6, 7, 9, 12, 14, 16, 17, 18, 21, 22, 33, 34, 35, 36, 37, 38, 39, 41, 42, 43, 44, 45, 47, 48, 49, 50, 51, 53, 54, 55, 56, 57, 58, 59, 60, 61, 62, 63, 64, 65, 66, 67, 68, 69, 70, 71, 72, 73] 40 ?_
  (conv=>whnf)
  refine LpB.go 74 ({q : Int × Int // (0 ≤ q.1 ∧ q.1 ≤ wi.length) ∧ q.2 = sumL (zOf r) (wi.take q.1.toNat) ∧ 0 ≤ q.2 ∧ q.2 ≤ 40 * q.1}) 0 (fun ⟨(i, n), _⟩ nx => ([(23, .d (int i)), (8, .d (int n)), (9, .fn 61 1 0 (fun _ => .d (shelfD r)) (fun _ => .d .top))], [(0, .row true 79 1 10 (fun j => int (mk B j)))])) (fun p => (wi.length - p.1.1).toNat) (⟨(0, 0), ⟨by simp, by simp⟩, rfl, by simp, by simp⟩) ?_ ?_
  · rintro ⟨⟨i, n⟩, ⟨i0, i1⟩, hn, n0, n1⟩
    simp only at i0 i1 hn n0 n1
    by_cases hil : i < wi.length
    · have hg := castL_getD wi i.toNat
      have hx := hw _ (getD_mem (i := i.toNat) (by omega) 0)
      have hS := size_spec r ((castL wi).getD i.toNat 0) hr ⟨by omega, by omega⟩
      have hs := sumL_take (zOf r) wi i.toNat (by omega)
      rw [hg, Int.toNat_natCast] at hS
      rw [← hg] at hS
      have hz1 := zOf_pos hr (wi.getD i.toNat 0)
      have hz2 := zOf_le hr (wi.getD i.toNat 0)
      have e : n + zOf r (wi.getD i.toNat 0) = sumL (zOf r) (wi.take (i + 1).toNat) := by rw [show (i + 1).toNat = i.toNat + 1 by omega, hs, hn]
      generalize zOf r (wi.getD i.toNat 0) = z at *
      conv => whnf
      repeat' first | ((first | refine Ob.a ?_ | refine Sp.tt ?_ | refine Sp.ff ?_ | refine Sp.yes ?_ | refine Sp.no ?_ | refine Sp.nyes ?_ | refine Sp.nno ?_);conv=>whnf) | (refine Sp.ne (fun hc => ?_) (fun hc => ?_) <;> (conv=>whnf)) | (refine Sp.dec (fun hc => ?_) (fun hc => ?_) <;> (conv=>whnf)) | (refine Sp.ndec (fun hc => ?_) (fun hc => ?_) <;> (conv=>whnf)) | (refine Sp.mk (fun hc => ?_) (fun hc => ?_) <;> (conv=>whnf)) | (apply Cl.go;(conv=>whnf); (first | refine Ob.call (hS) ?_);(conv=>whnf)) | (refine Nx.mk (fun ka kb kx hx hs => ?_) (fun he => ?_) <;> (conv=>whnf)) | (refine Nx.mk (fun ka kx hx hs => ?_) (fun he => ?_) <;> (conv=>whnf)) | (refine Uk.mk (fun hn => ?_) ?_ <;> (conv=>whnf)) | (refine Fi.a ?_;conv=>whnf) | (refine Yl.a ?_ ?_ <;> (conv=>whnf)) | (refine Ob.b ?_;conv=>whnf)
      exact ⟨rfl, ⟨(i + 1, n + z), ⟨by simp only; omega, by simp only; omega⟩, e, by simp only; omega, by simp only; omega⟩, Lf, by simp only; omega⟩
    · have hnf : n = sumL (zOf r) wi := by rw [hn, List.take_of_length_le (by omega)]
      conv => whnf
      repeat' first | ((first | refine Ob.a ?_ | refine Sp.tt ?_ | refine Sp.ff ?_ | refine Sp.yes ?_ | refine Sp.no ?_ | refine Sp.nyes ?_ | refine Sp.nno ?_);conv=>whnf) | (refine Sp.ne (fun hc => ?_) (fun hc => ?_) <;> (conv=>whnf)) | (refine Sp.dec (fun hc => ?_) (fun hc => ?_) <;> (conv=>whnf)) | (refine Sp.ndec (fun hc => ?_) (fun hc => ?_) <;> (conv=>whnf)) | (refine Sp.mk (fun hc => ?_) (fun hc => ?_) <;> (conv=>whnf)) | (refine Nx.mk (fun ka kb kx hx hs => ?_) (fun he => ?_) <;> (conv=>whnf)) | (refine Nx.mk (fun ka kx hx hs => ?_) (fun he => ?_) <;> (conv=>whnf)) | (refine Uk.mk (fun hn => ?_) ?_ <;> (conv=>whnf)) | (refine Fi.a ?_;conv=>whnf) | (refine Yl.a ?_ ?_ <;> (conv=>whnf)) | (refine Ob.b ?_;conv=>whnf)
      refine Lp.snap [0, 1, 2, 5, 6, 7, 8, 9, 17, 18, 37, 38, 59, 60, 61, 62, 63, 64, 65, 66, 67, 68, 69, 70, 71, 72, 73] 40 ?_
      (conv=>whnf)
      refine LpB.go 74 ({q : Int × List Int // (0 ≤ q.1 ∧ q.1 ≤ r.weak.length) ∧ q.2 = (r.weak.take q.1.toNat).filter fun p => !(wi.any fun i => decide (Has (lotN r i) p))}) 0 (fun ⟨(i, o), _⟩ nx => ([(39, .d (int i)), (12, .ms 2 1 0 o.length)], [(2, .row true 3 1 o.length (rowOf int 0 o))])) (fun p => (r.weak.length - p.1.1).toNat) (⟨(0, []), ⟨by simp, by simp⟩, rfl⟩) ?_ ?_
      · rintro ⟨⟨i, o⟩, ⟨i0, i1⟩, ho⟩
        simp only at i0 i1 ho
        by_cases hil2 : i < r.weak.length
        · have hol : o.length ≤ i.toNat := by
            rw [ho]; refine Nat.le_trans (List.length_filter_le _ _) ?_;rw [List.length_take]; omega
          have hs : (r.weak.take (i + 1).toNat).filter (fun p => !(wi.any fun i => decide (Has (lotN r i) p))) = o ++ if (wi.any fun k => decide (Has (lotN r k) (r.weak.getD i.toNat 0))) = false then [r.weak.getD i.toNat 0] else [] := by
            rw [show (i + 1).toNat = i.toNat + 1 by omega, take_succ_getD _ _ 0 (by omega), List.filter_append, ho]
            congr 1
            rw [List.filter_cons, List.filter_nil]
            cases e : wi.any fun k => decide (Has (lotN r k) (r.weak.getD i.toNat 0)) <;> rfl
          conv => whnf
          repeat' first | ((first | refine Ob.a ?_ | refine Sp.tt ?_ | refine Sp.ff ?_ | refine Sp.yes ?_ | refine Sp.no ?_ | refine Sp.nyes ?_ | refine Sp.nno ?_);conv=>whnf) | (refine Sp.ne (fun hc => ?_) (fun hc => ?_) <;> (conv=>whnf)) | (refine Sp.dec (fun hc => ?_) (fun hc => ?_) <;> (conv=>whnf)) | (refine Sp.ndec (fun hc => ?_) (fun hc => ?_) <;> (conv=>whnf)) | (refine Sp.mk (fun hc => ?_) (fun hc => ?_) <;> (conv=>whnf)) | (refine Nx.mk (fun ka kb kx hx hs => ?_) (fun he => ?_) <;> (conv=>whnf)) | (refine Nx.mk (fun ka kx hx hs => ?_) (fun he => ?_) <;> (conv=>whnf)) | (refine Uk.mk (fun hn => ?_) ?_ <;> (conv=>whnf)) | (refine Fi.a ?_;conv=>whnf) | (refine Yl.a ?_ ?_ <;> (conv=>whnf)) | (refine Ob.b ?_;conv=>whnf)
          refine Lp.snap [0, 1, 2, 5, 6, 7, 8, 9, 12, 14, 17, 18, 37, 38, 39, 41, 42, 43, 44, 54, 55, 56, 57, 58, 59, 60, 61, 62, 63, 64, 65, 66, 67, 68, 69, 70, 71, 72, 73] 40 ?_
          (conv=>whnf)
          refine LpB.go 74 ({j : Int // (0 ≤ j ∧ j ≤ wi.length) ∧ ∀ k, k < j.toNat → ¬ Has (lotN r (wi.getD k 0)) (r.weak.getD i.toNat 0)}) 0 (fun ⟨j, _⟩ nx => ([(45, .d (int j))], [])) (fun p => (wi.length - p.1).toNat) (⟨0, ⟨by simp, by simp⟩, fun k hk => by simp at hk⟩) ?_ ?_
          · rintro ⟨j, ⟨j0, j1⟩, hj⟩
            by_cases hjl : j < wi.length
            · have hg := castL_getD wi j.toNat
              have hx := hw _ (getD_mem (i := j.toNat) (by omega) 0)
              have hH := has_spec r ((castL wi).getD j.toNat 0) (r.weak.getD i.toNat 0) ⟨by omega, by omega⟩
              rw [hg, Int.toNat_natCast] at hH
              rw [← hg] at hH
              by_cases hh : Has (lotN r (wi.getD j.toNat 0)) (r.weak.getD i.toNat 0)
              · rw [decide_eq_true hh] at hH
                have hany : (wi.any fun k => decide (Has (lotN r k) (r.weak.getD i.toNat 0))) = true := List.any_eq_true.2 ⟨_, getD_mem (i := j.toNat) (by omega) 0, decide_eq_true hh⟩
                rw [if_neg (by rw [hany]; simp), List.append_nil] at hs
                conv => whnf
                repeat' first | ((first | refine Ob.a ?_ | refine Sp.tt ?_ | refine Sp.ff ?_ | refine Sp.yes ?_ | refine Sp.no ?_ | refine Sp.nyes ?_ | refine Sp.nno ?_);conv=>whnf) | (refine Sp.ne (fun hc => ?_) (fun hc => ?_) <;> (conv=>whnf)) | (refine Sp.dec (fun hc => ?_) (fun hc => ?_) <;> (conv=>whnf)) | (refine Sp.ndec (fun hc => ?_) (fun hc => ?_) <;> (conv=>whnf)) | (refine Sp.mk (fun hc => ?_) (fun hc => ?_) <;> (conv=>whnf)) | (apply Cl.go;(conv=>whnf); (first | refine Ob.call (hH) ?_);(conv=>whnf)) | (refine Nx.mk (fun ka kb kx hx hs => ?_) (fun he => ?_) <;> (conv=>whnf)) | (refine Nx.mk (fun ka kx hx hs => ?_) (fun he => ?_) <;> (conv=>whnf)) | (refine Uk.mk (fun hn => ?_) ?_ <;> (conv=>whnf)) | (refine Fi.a ?_;conv=>whnf) | (refine Yl.a ?_ ?_ <;> (conv=>whnf)) | (refine Ob.b ?_;conv=>whnf)
                exact ⟨rfl, ⟨(i + 1, o), ⟨by simp only; omega, by simp only; omega⟩, hs.symm⟩, Lf, by simp only; omega⟩
              · rw [decide_eq_false hh] at hH
                have e : ∀ k, k < (j + 1).toNat → ¬ Has (lotN r (wi.getD k 0)) (r.weak.getD i.toNat 0) := fun k hk => by
                  by_cases e : k < j.toNat
                  · exact hj k e
                  · obtain rfl : k = j.toNat := by omega
                    exact hh
                conv => whnf
                repeat' first | ((first | refine Ob.a ?_ | refine Sp.tt ?_ | refine Sp.ff ?_ | refine Sp.yes ?_ | refine Sp.no ?_ | refine Sp.nyes ?_ | refine Sp.nno ?_);conv=>whnf) | (refine Sp.ne (fun hc => ?_) (fun hc => ?_) <;> (conv=>whnf)) | (refine Sp.dec (fun hc => ?_) (fun hc => ?_) <;> (conv=>whnf)) | (refine Sp.ndec (fun hc => ?_) (fun hc => ?_) <;> (conv=>whnf)) | (refine Sp.mk (fun hc => ?_) (fun hc => ?_) <;> (conv=>whnf)) | (apply Cl.go;(conv=>whnf); (first | refine Ob.call (hH) ?_);(conv=>whnf)) | (refine Nx.mk (fun ka kb kx hx hs => ?_) (fun he => ?_) <;> (conv=>whnf)) | (refine Nx.mk (fun ka kx hx hs => ?_) (fun he => ?_) <;> (conv=>whnf)) | (refine Uk.mk (fun hn => ?_) ?_ <;> (conv=>whnf)) | (refine Fi.a ?_;conv=>whnf) | (refine Yl.a ?_ ?_ <;> (conv=>whnf)) | (refine Ob.b ?_;conv=>whnf)
                exact ⟨rfl, ⟨j + 1, ⟨by omega, by omega⟩, e⟩, Lf, by simp only; omega⟩
            · have hany : (wi.any fun k => decide (Has (lotN r k) (r.weak.getD i.toNat 0))) = false := List.any_eq_false.2 fun x hx => by
                obtain ⟨k, hk, rfl⟩ := List.getElem_of_mem hx
                have := hj k (by omega)
                rw [List.getD_eq_getElem?_getD, List.getElem?_eq_getElem hk] at this
                simpa using this
              rw [if_pos hany] at hs
              conv => whnf
              repeat' first | ((first | refine Ob.a ?_ | refine Sp.tt ?_ | refine Sp.ff ?_ | refine Sp.yes ?_ | refine Sp.no ?_ | refine Sp.nyes ?_ | refine Sp.nno ?_);conv=>whnf) | (refine Sp.ne (fun hc => ?_) (fun hc => ?_) <;> (conv=>whnf)) | (refine Sp.dec (fun hc => ?_) (fun hc => ?_) <;> (conv=>whnf)) | (refine Sp.ndec (fun hc => ?_) (fun hc => ?_) <;> (conv=>whnf)) | (refine Sp.mk (fun hc => ?_) (fun hc => ?_) <;> (conv=>whnf)) | (refine Nx.mk (fun ka kb kx hx hs => ?_) (fun he => ?_) <;> (conv=>whnf)) | (refine Nx.mk (fun ka kx hx hs => ?_) (fun he => ?_) <;> (conv=>whnf)) | (refine Uk.mk (fun hn => ?_) ?_ <;> (conv=>whnf)) | (refine Fi.a ?_;conv=>whnf) | (refine Yl.a ?_ ?_ <;> (conv=>whnf)) | (refine Ob.b ?_;conv=>whnf)
              exact ⟨rfl, ⟨(i + 1, o ++ [r.weak.getD i.toNat 0]), ⟨by simp only; omega, by simp only; omega⟩, hs.symm⟩, Lf, by simp only; omega⟩
          · exact Lf
        · have hof : o = restW r wi := by rw [ho, List.take_of_length_le (by omega)]; rfl
          rw [← hof] at hU hcp hur hWlen
          cases u with
          | none =>
            have hz : ([] : List Int).getD (0 + ((o.length : Nat) : Int).toNat) 0 = 0 := by simp
            have e1 : n + ([] : List Int).getD (0 + ((o.length : Nat) : Int).toNat) 0 = (costP r wi B).1 := by rw [hcp, hz, hnf]; simp
            have e2 : false = (costP r wi B).2 := by rw [hcp]
            clear hcp
            generalize costP r wi B = cp at *
            conv => whnf
            repeat' first | ((first | refine Ob.a ?_ | refine Sp.tt ?_ | refine Sp.ff ?_ | refine Sp.yes ?_ | refine Sp.no ?_ | refine Sp.nyes ?_ | refine Sp.nno ?_);conv=>whnf) | (refine Sp.ne (fun hc => ?_) (fun hc => ?_) <;> (conv=>whnf)) | (refine Sp.dec (fun hc => ?_) (fun hc => ?_) <;> (conv=>whnf)) | (refine Sp.ndec (fun hc => ?_) (fun hc => ?_) <;> (conv=>whnf)) | (refine Sp.mk (fun hc => ?_) (fun hc => ?_) <;> (conv=>whnf)) | (apply Cl.go;(conv=>whnf); (first | refine Ob.call (hU) ?_);(conv=>whnf)) | (refine Nx.mk (fun ka kb kx hx hs => ?_) (fun he => ?_) <;> (conv=>whnf)) | (refine Nx.mk (fun ka kx hx hs => ?_) (fun he => ?_) <;> (conv=>whnf)) | (refine Uk.mk (fun hn => ?_) ?_ <;> (conv=>whnf)) | (refine Fi.a ?_;conv=>whnf) | (refine Yl.a ?_ ?_ <;> (conv=>whnf)) | (refine Ob.b ?_;conv=>whnf)
            exact Lf
          | some l =>
            have hz : l.getD (0 + ((o.length : Nat) : Int).toNat) 0 = l.getD o.length 0 := by simp
            have hrl := hur l rfl
            have e1 : n + l.getD (0 + ((o.length : Nat) : Int).toNat) 0 = (costP r wi B).1 := by rw [hcp, hz, hnf]
            have e2 : true = (costP r wi B).2 := by rw [hcp]
            clear hcp
            generalize costP r wi B = cp at *
            conv => whnf
            repeat' first | ((first | refine Ob.a ?_ | refine Sp.tt ?_ | refine Sp.ff ?_ | refine Sp.yes ?_ | refine Sp.no ?_ | refine Sp.nyes ?_ | refine Sp.nno ?_);conv=>whnf) | (refine Sp.ne (fun hc => ?_) (fun hc => ?_) <;> (conv=>whnf)) | (refine Sp.dec (fun hc => ?_) (fun hc => ?_) <;> (conv=>whnf)) | (refine Sp.ndec (fun hc => ?_) (fun hc => ?_) <;> (conv=>whnf)) | (refine Sp.mk (fun hc => ?_) (fun hc => ?_) <;> (conv=>whnf)) | (apply Cl.go;(conv=>whnf); (first | refine Ob.call (hU) ?_);(conv=>whnf)) | (refine Nx.mk (fun ka kb kx hx hs => ?_) (fun he => ?_) <;> (conv=>whnf)) | (refine Nx.mk (fun ka kx hx hs => ?_) (fun he => ?_) <;> (conv=>whnf)) | (refine Uk.mk (fun hn => ?_) ?_ <;> (conv=>whnf)) | (refine Fi.a ?_;conv=>whnf) | (refine Yl.a ?_ ?_ <;> (conv=>whnf)) | (refine Ob.b ?_;conv=>whnf)
            exact Lf
      · exact Lf
  · exact Lf
end Go.Px.Try

/-! Pp6 -/
namespace Go.Px.Try
open Go Go.Proofs Go.Px
set_option maxRecDepth 100000
theorem explained_ok (r : Row) (h1 : r.lots.length < 1000000) (h2 : r.weak.length < 1000000) (he : rowError r = 0) : Fn Try.prog 68 [rowD r] (tpl [shelfD r, int (leastP r).1, int 0]) := by
  obtain ⟨hr, hS⟩ := rowError_ok.1 he
  have ho := open_ok r h1 h2 (checkRow_ok.2 hr)
  have hc := cost_spec r hr [] (fun i hi => by cases hi) (by simp) noB
  have hl := (leastP_ok hr).1.2 hS
  unfold leastP at hl ⊢
  rw [hl] at hc
  generalize (costP r [] noB).1 = n at *
  refine Fn.of_ex (cuts := []) tys hM Try.func68 rfl Try.call68 rfl ?_
  show exC Try.prog T [] _ false none 0 (entry 27 [rowD r]) (finQ T [ResultVar.tmp 2, ResultVar.tmp 3, ResultVar.tmp 4] _)
  conv => whnf
  repeat' first | ((first | refine Ob.a ?_ | refine Sp.tt ?_ | refine Sp.ff ?_ | refine Sp.yes ?_ | refine Sp.no ?_ | refine Sp.nyes ?_ | refine Sp.nno ?_);conv=>whnf) | (refine Sp.ne (fun hc => ?_) (fun hc => ?_) <;> (conv=>whnf)) | (refine Sp.dec (fun hc => ?_) (fun hc => ?_) <;> (conv=>whnf)) | (refine Sp.ndec (fun hc => ?_) (fun hc => ?_) <;> (conv=>whnf)) | (refine Sp.mk (fun hc => ?_) (fun hc => ?_) <;> (conv=>whnf)) | (apply Cl.go;(conv=>whnf); (first | refine Ob.call (ho) ?_ | refine Ob.call (hc) ?_);(conv=>whnf)) | (refine Nx.mk (fun ka kb kx hx hs => ?_) (fun he => ?_) <;> (conv=>whnf)) | (refine Nx.mk (fun ka kx hx hs => ?_) (fun he => ?_) <;> (conv=>whnf)) | (refine Uk.mk (fun hn => ?_) ?_ <;> (conv=>whnf)) | (refine Fi.a ?_;conv=>whnf) | (refine Yl.a ?_ ?_ <;> (conv=>whnf)) | (refine Ob.b ?_;conv=>whnf)
  all_goals exact Lf
theorem explained_err (r : Row) (h1 : r.lots.length < 1000000) (h2 : r.weak.length < 1000000) (he : rowError r ≠ 0) : Fn Try.prog 68 [rowD r] (tpl [nilP, int 0, int (rowError r)]) := by
  by_cases hr : checkRow r = 0
  case neg =>
    have ho := open_err r h1 h2 hr
    have e : rowError r = checkRow r := if_pos hr
    rw [e]
    generalize checkRow r = c at *
    refine Fn.of_ex (cuts := []) tys hM Try.func68 rfl Try.call68 rfl ?_
    show exC Try.prog T [] _ false none 0 (entry 27 [rowD r]) (finQ T [ResultVar.tmp 2, ResultVar.tmp 3, ResultVar.tmp 4] _)
    conv => whnf
    repeat' first | ((first | refine Ob.a ?_ | refine Sp.tt ?_ | refine Sp.ff ?_ | refine Sp.yes ?_ | refine Sp.no ?_ | refine Sp.nyes ?_ | refine Sp.nno ?_);conv=>whnf) | (refine Sp.ne (fun hc => ?_) (fun hc => ?_) <;> (conv=>whnf)) | (refine Sp.dec (fun hc => ?_) (fun hc => ?_) <;> (conv=>whnf)) | (refine Sp.ndec (fun hc => ?_) (fun hc => ?_) <;> (conv=>whnf)) | (refine Sp.mk (fun hc => ?_) (fun hc => ?_) <;> (conv=>whnf)) | (apply Cl.go;(conv=>whnf); (first | refine Ob.call (ho) ?_);(conv=>whnf)) | (refine Nx.mk (fun ka kb kx hx hs => ?_) (fun he => ?_) <;> (conv=>whnf)) | (refine Nx.mk (fun ka kx hx hs => ?_) (fun he => ?_) <;> (conv=>whnf)) | (refine Uk.mk (fun hn => ?_) ?_ <;> (conv=>whnf)) | (refine Fi.a ?_;conv=>whnf) | (refine Yl.a ?_ ?_ <;> (conv=>whnf)) | (refine Ob.b ?_;conv=>whnf)
    all_goals exact Lf
  have hok := checkRow_ok.1 hr
  have ho := open_ok r h1 h2 hr
  have hc := cost_spec r hok [] (fun i hi => by cases hi) (by simp) noB
  have hl : (costP r [] noB).2 = false := by
    cases e : (costP r [] noB).2 with
    | false => rfl
    | true => exact absurd (rowError_ok.2 ⟨hok, (leastP_ok hok).1.1 e⟩) he
  have e : rowError r = 22 := by
    unfold rowError at he ⊢
    rw [if_neg (not_not_intro hr)] at he ⊢
    split
    · rename_i h; rw [if_pos h] at he; exact absurd rfl he
    · rfl
  rw [e]
  rw [hl] at hc
  generalize (costP r [] noB).1 = n at *
  refine Fn.of_ex (cuts := []) tys hM Try.func68 rfl Try.call68 rfl ?_
  show exC Try.prog T [] _ false none 0 (entry 27 [rowD r]) (finQ T [ResultVar.tmp 2, ResultVar.tmp 3, ResultVar.tmp 4] _)
  conv => whnf
  repeat' first | ((first | refine Ob.a ?_ | refine Sp.tt ?_ | refine Sp.ff ?_ | refine Sp.yes ?_ | refine Sp.no ?_ | refine Sp.nyes ?_ | refine Sp.nno ?_);conv=>whnf) | (refine Sp.ne (fun hc => ?_) (fun hc => ?_) <;> (conv=>whnf)) | (refine Sp.dec (fun hc => ?_) (fun hc => ?_) <;> (conv=>whnf)) | (refine Sp.ndec (fun hc => ?_) (fun hc => ?_) <;> (conv=>whnf)) | (refine Sp.mk (fun hc => ?_) (fun hc => ?_) <;> (conv=>whnf)) | (apply Cl.go;(conv=>whnf); (first | refine Ob.call (ho) ?_ | refine Ob.call (hc) ?_);(conv=>whnf)) | (refine Nx.mk (fun ka kb kx hx hs => ?_) (fun he => ?_) <;> (conv=>whnf)) | (refine Nx.mk (fun ka kx hx hs => ?_) (fun he => ?_) <;> (conv=>whnf)) | (refine Uk.mk (fun hn => ?_) ?_ <;> (conv=>whnf)) | (refine Fi.a ?_;conv=>whnf) | (refine Yl.a ?_ ?_ <;> (conv=>whnf)) | (refine Ob.b ?_;conv=>whnf)
  all_goals exact Lf
def leastPR (r : Row) : Int × Int := if rowError r ≠ 0 then (0, rowError r) else ((leastP r).1, 0)
theorem LeastP_spec (r : Row) (h1 : r.lots.length < 1000000) (h2 : r.weak.length < 1000000) : Fn Try.prog 26 [rowD r] (tpl [int (leastPR r).1, int (leastPR r).2]) := by
  by_cases he : rowError r = 0
  · have hx := explained_ok r h1 h2 he
    have e : leastPR r = ((leastP r).1, 0) := if_neg (not_not_intro he)
    rw [e]
    generalize (leastP r).1 = n at *
    refine Fn.of_ex (cuts := []) tys hM Try.func26 rfl Try.call26 rfl ?_
    show exC Try.prog T [] _ false none 0 (entry 15 [rowD r]) (finQ T [ResultVar.tmp 2, ResultVar.tmp 3] _)
    conv => whnf
    repeat' first | ((first | refine Ob.a ?_ | refine Sp.tt ?_ | refine Sp.ff ?_ | refine Sp.yes ?_ | refine Sp.no ?_ | refine Sp.nyes ?_ | refine Sp.nno ?_);conv=>whnf) | (refine Sp.ne (fun hc => ?_) (fun hc => ?_) <;> (conv=>whnf)) | (refine Sp.dec (fun hc => ?_) (fun hc => ?_) <;> (conv=>whnf)) | (refine Sp.ndec (fun hc => ?_) (fun hc => ?_) <;> (conv=>whnf)) | (refine Sp.mk (fun hc => ?_) (fun hc => ?_) <;> (conv=>whnf)) | (apply Cl.go;(conv=>whnf); (first | refine Ob.call (hx) ?_);(conv=>whnf)) | (refine Nx.mk (fun ka kb kx hx hs => ?_) (fun he => ?_) <;> (conv=>whnf)) | (refine Nx.mk (fun ka kx hx hs => ?_) (fun he => ?_) <;> (conv=>whnf)) | (refine Uk.mk (fun hn => ?_) ?_ <;> (conv=>whnf)) | (refine Fi.a ?_;conv=>whnf) | (refine Yl.a ?_ ?_ <;> (conv=>whnf)) | (refine Ob.b ?_;conv=>whnf)
    all_goals exact Lf
  · have hx := explained_err r h1 h2 he
    have e : leastPR r = (0, rowError r) := if_pos he
    rw [e]
    generalize rowError r = n at *
    refine Fn.of_ex (cuts := []) tys hM Try.func26 rfl Try.call26 rfl ?_
    show exC Try.prog T [] _ false none 0 (entry 15 [rowD r]) (finQ T [ResultVar.tmp 2, ResultVar.tmp 3] _)
    conv => whnf
    repeat' first | ((first | refine Ob.a ?_ | refine Sp.tt ?_ | refine Sp.ff ?_ | refine Sp.yes ?_ | refine Sp.no ?_ | refine Sp.nyes ?_ | refine Sp.nno ?_);conv=>whnf) | (refine Sp.ne (fun hc => ?_) (fun hc => ?_) <;> (conv=>whnf)) | (refine Sp.dec (fun hc => ?_) (fun hc => ?_) <;> (conv=>whnf)) | (refine Sp.ndec (fun hc => ?_) (fun hc => ?_) <;> (conv=>whnf)) | (refine Sp.mk (fun hc => ?_) (fun hc => ?_) <;> (conv=>whnf)) | (apply Cl.go;(conv=>whnf); (first | refine Ob.call (hx) ?_);(conv=>whnf)) | (refine Nx.mk (fun ka kb kx hx hs => ?_) (fun he => ?_) <;> (conv=>whnf)) | (refine Nx.mk (fun ka kx hx hs => ?_) (fun he => ?_) <;> (conv=>whnf)) | (refine Uk.mk (fun hn => ?_) ?_ <;> (conv=>whnf)) | (refine Fi.a ?_;conv=>whnf) | (refine Yl.a ?_ ?_ <;> (conv=>whnf)) | (refine Ob.b ?_;conv=>whnf)
    all_goals exact Lf
theorem leastPR_eq (r : Row) : leastPR r = leastR r := by
  unfold leastPR leastR
  by_cases he : rowError r = 0
  · rw [if_neg (not_not_intro he), if_neg (not_not_intro he)]
    obtain ⟨hr, hS⟩ := rowError_ok.1 he
    rw [← headD_getD, least_eq hr ((leastP_ok hr).1.2 hS)]
  · rw [if_pos he, if_pos he]
def hadC (r : Row) (l : List Int) : List DV := [.pt (.ag 1 fun _ => ints l) 0, .pt (.ag 1 fun _ => shelfD r) 0]
theorem had1_spec (r : Row) (p i : Int) (hi : 0 ≤ i ∧ i < r.lots.length) : Fn Try.prog 59 [int i, .pt (.ag 1 fun _ => shelfD r) 0, cellP p] (bool (decide (Has (lotN r i.toNat) p))) := by
  have hH := has_spec r i p hi
  generalize decide (Has (lotN r i.toNat) p) = b at *
  refine Fn.of_ex (cuts := []) tys hM Try.func59 rfl Try.call59 rfl ?_
  show exC Try.prog T [] _ false none 0 (entry 9 [int i, DV.pt (DV.ag 1 fun _ => shelfD r) 0, cellP p]) (finQ T [ResultVar.tmp 4] _)
  conv => whnf
  repeat' first | ((first | refine Ob.a ?_ | refine Sp.tt ?_ | refine Sp.ff ?_ | refine Sp.yes ?_ | refine Sp.no ?_ | refine Sp.nyes ?_ | refine Sp.nno ?_);conv=>whnf) | (refine Sp.ne (fun hc => ?_) (fun hc => ?_) <;> (conv=>whnf)) | (refine Sp.dec (fun hc => ?_) (fun hc => ?_) <;> (conv=>whnf)) | (refine Sp.ndec (fun hc => ?_) (fun hc => ?_) <;> (conv=>whnf)) | (refine Sp.mk (fun hc => ?_) (fun hc => ?_) <;> (conv=>whnf)) | (apply Cl.go;(conv=>whnf); (first | refine Ob.call (hH) ?_);(conv=>whnf)) | (refine Nx.mk (fun ka kb kx hx hs => ?_) (fun he => ?_) <;> (conv=>whnf)) | (refine Nx.mk (fun ka kx hx hs => ?_) (fun he => ?_) <;> (conv=>whnf)) | (refine Uk.mk (fun hn => ?_) ?_ <;> (conv=>whnf)) | (refine Fi.a ?_;conv=>whnf) | (refine Yl.a ?_ ?_ <;> (conv=>whnf)) | (refine Ob.b ?_;conv=>whnf)
  all_goals exact Lf
theorem had_spec (r : Row) (l : List Int) (p : Int) (hl : LotsIn r l) (hll : l.length < 1000000) : Fn Try.prog 57 [int p, .pt (.ag 1 fun _ => ints l) 0, .pt (.ag 1 fun _ => shelfD r) 0] (bool (hadB r l p)) := by
  have hc := contains_ints2 l 59 (fun j => [DV.pt (.ag 1 fun _ => shelfD r) 0, cellP p].getD j .top) (fun x => decide (Has (lotN r x.toNat) p)) hll (fun x hx => had1_spec r p x (hl x hx))
  have e : hadB r l p = l.any fun x => decide (Has (lotN r x.toNat) p) := rfl
  rw [e]
  generalize (l.any fun x => decide (Has (lotN r x.toNat) p)) = b at *
  refine Fn.of_ex (cuts := []) tys hM Try.func57 rfl Try.call57 rfl ?_
  show exC Try.prog T [] _ false none 0 (entry 8 [int p, DV.pt (DV.ag 1 fun _ => ints l) 0, DV.pt (DV.ag 1 fun _ => shelfD r) 0]) (finQ T [ResultVar.tmp 4] _)
  conv => whnf
  repeat' first | ((first | refine Ob.a ?_ | refine Sp.tt ?_ | refine Sp.ff ?_ | refine Sp.yes ?_ | refine Sp.no ?_ | refine Sp.nyes ?_ | refine Sp.nno ?_);conv=>whnf) | (refine Sp.ne (fun hc => ?_) (fun hc => ?_) <;> (conv=>whnf)) | (refine Sp.dec (fun hc => ?_) (fun hc => ?_) <;> (conv=>whnf)) | (refine Sp.ndec (fun hc => ?_) (fun hc => ?_) <;> (conv=>whnf)) | (refine Sp.mk (fun hc => ?_) (fun hc => ?_) <;> (conv=>whnf)) | (apply Cl.go;(conv=>whnf); (first | refine Ob.call (hc) ?_);(conv=>whnf)) | (refine Nx.mk (fun ka kb kx hx hs => ?_) (fun he => ?_) <;> (conv=>whnf)) | (refine Nx.mk (fun ka kx hx hs => ?_) (fun he => ?_) <;> (conv=>whnf)) | (refine Uk.mk (fun hn => ?_) ?_ <;> (conv=>whnf)) | (refine Fi.a ?_;conv=>whnf) | (refine Yl.a ?_ ?_ <;> (conv=>whnf)) | (refine Ob.b ?_;conv=>whnf)
  all_goals exact Lf
set_option maxHeartbeats 8000000 in
theorem CheckLotsP_spec (r : Row) (l : List Int) (h1 : r.lots.length < 1000000) (h2 : r.weak.length < 1000000) (h3 : l.length < 1000000) : Fn Try.prog 19 [rowD r, ints l] (tpl [int (checkLotsR r l).1, int (checkLotsR r l).2]) := by
  by_cases hr : checkRow r = 0
  case neg =>
    have ho := open_err r h1 h2 hr
    have e : checkLotsR r l = (0, checkRow r) := if_pos hr
    rw [e]
    generalize checkRow r = c at *
    refine Fn.of_ex (cuts := []) tys hM Try.func19 rfl Try.call19 rfl ?_
    show exC Try.prog T [] _ false none 0 (entry 56 [rowD r, ints l]) (finQ T [ResultVar.tmp 4, ResultVar.tmp 5] _)
    conv => whnf
    repeat' first | ((first | refine Ob.a ?_ | refine Sp.tt ?_ | refine Sp.ff ?_ | refine Sp.yes ?_ | refine Sp.no ?_ | refine Sp.nyes ?_ | refine Sp.nno ?_);conv=>whnf) | (refine Sp.ne (fun hc => ?_) (fun hc => ?_) <;> (conv=>whnf)) | (refine Sp.dec (fun hc => ?_) (fun hc => ?_) <;> (conv=>whnf)) | (refine Sp.ndec (fun hc => ?_) (fun hc => ?_) <;> (conv=>whnf)) | (refine Sp.mk (fun hc => ?_) (fun hc => ?_) <;> (conv=>whnf)) | (apply Cl.go;(conv=>whnf); (first | refine Ob.call (ho) ?_);(conv=>whnf)) | (refine Nx.mk (fun ka kb kx hx hs => ?_) (fun he => ?_) <;> (conv=>whnf)) | (refine Nx.mk (fun ka kx hx hs => ?_) (fun he => ?_) <;> (conv=>whnf)) | (refine Uk.mk (fun hn => ?_) ?_ <;> (conv=>whnf)) | (refine Fi.a ?_;conv=>whnf) | (refine Yl.a ?_ ?_ <;> (conv=>whnf)) | (refine Ob.b ?_;conv=>whnf)
    all_goals exact Lf
  have hok := checkRow_ok.1 hr
  have ho := open_ok r h1 h2 hr
  have hri := rising_spec l r.lots.length h3 ⟨by omega, by omega⟩
  by_cases hrl : risingL l r.lots.length
  case neg =>
    have e : checkLotsR r l = (0, 2) := by unfold checkLotsR; rw [if_neg (by omega), if_pos hrl]
    rw [e]
    rw [decide_eq_false hrl] at hri
    refine Fn.of_ex (cuts := []) tys hM Try.func19 rfl Try.call19 rfl ?_
    show exC Try.prog T [] _ false none 0 (entry 56 [rowD r, ints l]) (finQ T [ResultVar.tmp 4, ResultVar.tmp 5] _)
    conv => whnf
    repeat' first | ((first | refine Ob.a ?_ | refine Sp.tt ?_ | refine Sp.ff ?_ | refine Sp.yes ?_ | refine Sp.no ?_ | refine Sp.nyes ?_ | refine Sp.nno ?_);conv=>whnf) | (refine Sp.ne (fun hc => ?_) (fun hc => ?_) <;> (conv=>whnf)) | (refine Sp.dec (fun hc => ?_) (fun hc => ?_) <;> (conv=>whnf)) | (refine Sp.ndec (fun hc => ?_) (fun hc => ?_) <;> (conv=>whnf)) | (refine Sp.mk (fun hc => ?_) (fun hc => ?_) <;> (conv=>whnf)) | (apply Cl.go;(conv=>whnf); (first | refine Ob.call (ho) ?_ | refine Ob.call (hri) ?_);(conv=>whnf)) | (refine Nx.mk (fun ka kb kx hx hs => ?_) (fun he => ?_) <;> (conv=>whnf)) | (refine Nx.mk (fun ka kx hx hs => ?_) (fun he => ?_) <;> (conv=>whnf)) | (refine Uk.mk (fun hn => ?_) ?_ <;> (conv=>whnf)) | (refine Fi.a ?_;conv=>whnf) | (refine Yl.a ?_ ?_ <;> (conv=>whnf)) | (refine Ob.b ?_;conv=>whnf)
    all_goals exact Lf
  have e : checkLotsR r l = if ¬ explL r l then (0, 22) else (callsL r l, 0) := by unfold checkLotsR; rw [if_neg (by omega), if_neg (not_not_intro hrl)]
  have hin := risingL_in hrl
  have hH := fun p => had_spec r l p hin h3
  rw [e]
  generalize hres : (if ¬ explL r l then ((0, 22) : Int × Int) else (callsL r l, 0)) = res
  obtain ⟨x, y⟩ := res
  rw [decide_eq_true hrl] at hri
  refine Fn.of_ex (cuts := []) tys hM Try.func19 rfl Try.call19 rfl ?_
  show exC Try.prog T [] _ false none 0 (entry 56 [rowD r, ints l]) (finQ T [ResultVar.tmp 4, ResultVar.tmp 5] _)
  conv => whnf
  repeat' first | ((first | refine Ob.a ?_ | refine Sp.tt ?_ | refine Sp.ff ?_ | refine Sp.yes ?_ | refine Sp.no ?_ | refine Sp.nyes ?_ | refine Sp.nno ?_);conv=>whnf) | (refine Sp.ne (fun hc => ?_) (fun hc => ?_) <;> (conv=>whnf)) | (refine Sp.dec (fun hc => ?_) (fun hc => ?_) <;> (conv=>whnf)) | (refine Sp.ndec (fun hc => ?_) (fun hc => ?_) <;> (conv=>whnf)) | (refine Sp.mk (fun hc => ?_) (fun hc => ?_) <;> (conv=>whnf)) | (apply Cl.go;(conv=>whnf); (first | refine Ob.call (ho) ?_ | refine Ob.call (hri) ?_);(conv=>whnf)) | (refine Nx.mk (fun ka kb kx hx hs => ?_) (fun he => ?_) <;> (conv=>whnf)) | (refine Nx.mk (fun ka kx hx hs => ?_) (fun he => ?_) <;> (conv=>whnf)) | (refine Uk.mk (fun hn => ?_) ?_ <;> (conv=>whnf)) | (refine Fi.a ?_;conv=>whnf) | (refine Yl.a ?_ ?_ <;> (conv=>whnf)) | (refine Ob.b ?_;conv=>whnf)
  refine Lp.snap [0, 1, 3, 6, 8, 11, 13, 32, 33, 43, 44, 45, 47, 48, 49, 50, 51, 52, 53, 54, 55] 40 ?_
  (conv=>whnf)
  refine LpB.go 56 ({k : Int // (0 ≤ k ∧ k ≤ r.weak.length) ∧ ∀ j, j < k.toNat → hadB r l (r.weak.getD j 0) = true}) 0 (fun ⟨k, _⟩ nx => ([(34, .d (int k)), (8, .fn 57 0 2 (fun _ => .d .top) (nthL [.ref 1 0, .ref 9 0]))], [(1, .cs true 1 (fun _ => .d (ints l))), (9, .cs true 1 (fun _ => .d (shelfD r)))])) (fun p => (r.weak.length - p.1).toNat) (⟨0, ⟨by omega, by omega⟩, fun j hj => by simp at hj⟩) ?_ ?_
  · rintro ⟨k, ⟨k0, k1⟩, hk⟩
    by_cases hkl : k < r.weak.length
    · have hH := hH (r.weak.getD k.toNat 0)
      cases hb : hadB r l (r.weak.getD k.toNat 0) with
      | true =>
        have e : ∀ j, j < (k + 1).toNat → hadB r l (r.weak.getD j 0) = true := fun j hj => by
          by_cases e : j < k.toNat
          · exact hk j e
          · obtain rfl : j = k.toNat := by omega
            exact hb
        rw [hb] at hH
        conv => whnf
        repeat' first | ((first | refine Ob.a ?_ | refine Sp.tt ?_ | refine Sp.ff ?_ | refine Sp.yes ?_ | refine Sp.no ?_ | refine Sp.nyes ?_ | refine Sp.nno ?_);conv=>whnf) | (refine Sp.ne (fun hc => ?_) (fun hc => ?_) <;> (conv=>whnf)) | (refine Sp.dec (fun hc => ?_) (fun hc => ?_) <;> (conv=>whnf)) | (refine Sp.ndec (fun hc => ?_) (fun hc => ?_) <;> (conv=>whnf)) | (refine Sp.mk (fun hc => ?_) (fun hc => ?_) <;> (conv=>whnf)) | (apply Cl.go;(conv=>whnf); (first | refine Ob.call (hH) ?_);(conv=>whnf)) | (refine Nx.mk (fun ka kb kx hx hs => ?_) (fun he => ?_) <;> (conv=>whnf)) | (refine Nx.mk (fun ka kx hx hs => ?_) (fun he => ?_) <;> (conv=>whnf)) | (refine Uk.mk (fun hn => ?_) ?_ <;> (conv=>whnf)) | (refine Fi.a ?_;conv=>whnf) | (refine Yl.a ?_ ?_ <;> (conv=>whnf)) | (refine Ob.b ?_;conv=>whnf)
        exact ⟨rfl, ⟨k + 1, ⟨by omega, by omega⟩, e⟩, Lf, by simp only; omega⟩
      | false =>
        have e : ((0, 22) : Int × Int) = (x, y) := by
          rw [← hres, if_pos]
          intro he
          have := hadB_iff.2 (he _ (getD_mem (i := k.toNat) (by omega) 0))
          rw [hb] at this; cases this
        injection e with e1 e2
        rw [hb] at hH
        conv => whnf
        repeat' first | ((first | refine Ob.a ?_ | refine Sp.tt ?_ | refine Sp.ff ?_ | refine Sp.yes ?_ | refine Sp.no ?_ | refine Sp.nyes ?_ | refine Sp.nno ?_);conv=>whnf) | (refine Sp.ne (fun hc => ?_) (fun hc => ?_) <;> (conv=>whnf)) | (refine Sp.dec (fun hc => ?_) (fun hc => ?_) <;> (conv=>whnf)) | (refine Sp.ndec (fun hc => ?_) (fun hc => ?_) <;> (conv=>whnf)) | (refine Sp.mk (fun hc => ?_) (fun hc => ?_) <;> (conv=>whnf)) | (apply Cl.go;(conv=>whnf); (first | refine Ob.call (hH) ?_);(conv=>whnf)) | (refine Nx.mk (fun ka kb kx hx hs => ?_) (fun he => ?_) <;> (conv=>whnf)) | (refine Nx.mk (fun ka kx hx hs => ?_) (fun he => ?_) <;> (conv=>whnf)) | (refine Uk.mk (fun hn => ?_) ?_ <;> (conv=>whnf)) | (refine Fi.a ?_;conv=>whnf) | (refine Yl.a ?_ ?_ <;> (conv=>whnf)) | (refine Ob.b ?_;conv=>whnf)
        all_goals exact Lf
    · have hex : explL r l := fun p hp => by
        obtain ⟨j, hj, rfl⟩ := List.getElem_of_mem hp
        have := hk j (by omega)
        rw [List.getD_eq_getElem?_getD, List.getElem?_eq_getElem hj] at this
        exact hadB_iff.1 this
      rw [if_neg (not_not_intro hex)] at hres
      injection hres with hx hy
      conv => whnf
      repeat' first | ((first | refine Ob.a ?_ | refine Sp.tt ?_ | refine Sp.ff ?_ | refine Sp.yes ?_ | refine Sp.no ?_ | refine Sp.nyes ?_ | refine Sp.nno ?_);conv=>whnf) | (refine Sp.ne (fun hc => ?_) (fun hc => ?_) <;> (conv=>whnf)) | (refine Sp.dec (fun hc => ?_) (fun hc => ?_) <;> (conv=>whnf)) | (refine Sp.ndec (fun hc => ?_) (fun hc => ?_) <;> (conv=>whnf)) | (refine Sp.mk (fun hc => ?_) (fun hc => ?_) <;> (conv=>whnf)) | (refine Nx.mk (fun ka kb kx hx hs => ?_) (fun he => ?_) <;> (conv=>whnf)) | (refine Nx.mk (fun ka kx hx hs => ?_) (fun he => ?_) <;> (conv=>whnf)) | (refine Uk.mk (fun hn => ?_) ?_ <;> (conv=>whnf)) | (refine Fi.a ?_;conv=>whnf) | (refine Yl.a ?_ ?_ <;> (conv=>whnf)) | (refine Ob.b ?_;conv=>whnf)
      refine Lp.snap [0, 1, 4, 5, 6, 43, 44, 55] 40 ?_
      (conv=>whnf)
      refine LpB.go 56 ({q : Int × Int // (0 ≤ q.1 ∧ q.1 ≤ l.length) ∧ q.2 = callsL r (l.take q.1.toNat) ∧ 0 ≤ q.2 ∧ q.2 ≤ 40 * q.1}) 0 (fun ⟨(i, n), _⟩ nx => ([(45, .d (int i)), (11, .d (int n))], [])) (fun p => (l.length - p.1.1).toNat) (⟨(0, 0), ⟨by simp, by simp⟩, rfl, by simp, by simp⟩) ?_ ?_
      · rintro ⟨⟨i, n⟩, ⟨i0, i1⟩, hn, n0, n1⟩
        simp only at i0 i1 hn n0 n1
        by_cases hil : i < l.length
        · have hx2 := hin _ (getD_mem (i := i.toNat) (by omega) 0)
          have hS := size_spec r (l.getD i.toNat 0) hok hx2
          have hs := callsL_take (r := r) (l := l) (i := i.toNat) (by omega)
          have hz1 := zOf_pos hok (l.getD i.toNat 0).toNat
          have hz2 := zOf_le hok (l.getD i.toNat 0).toNat
          have e : n + zOf r (l.getD i.toNat 0).toNat = callsL r (l.take (i + 1).toNat) := by rw [show (i + 1).toNat = i.toNat + 1 by omega, hs, hn]
          generalize zOf r (l.getD i.toNat 0).toNat = z at *
          conv => whnf
          repeat' first | ((first | refine Ob.a ?_ | refine Sp.tt ?_ | refine Sp.ff ?_ | refine Sp.yes ?_ | refine Sp.no ?_ | refine Sp.nyes ?_ | refine Sp.nno ?_);conv=>whnf) | (refine Sp.ne (fun hc => ?_) (fun hc => ?_) <;> (conv=>whnf)) | (refine Sp.dec (fun hc => ?_) (fun hc => ?_) <;> (conv=>whnf)) | (refine Sp.ndec (fun hc => ?_) (fun hc => ?_) <;> (conv=>whnf)) | (refine Sp.mk (fun hc => ?_) (fun hc => ?_) <;> (conv=>whnf)) | (apply Cl.go;(conv=>whnf); (first | refine Ob.call (hS) ?_);(conv=>whnf)) | (refine Nx.mk (fun ka kb kx hx hs => ?_) (fun he => ?_) <;> (conv=>whnf)) | (refine Nx.mk (fun ka kx hx hs => ?_) (fun he => ?_) <;> (conv=>whnf)) | (refine Uk.mk (fun hn => ?_) ?_ <;> (conv=>whnf)) | (refine Fi.a ?_;conv=>whnf) | (refine Yl.a ?_ ?_ <;> (conv=>whnf)) | (refine Ob.b ?_;conv=>whnf)
          exact ⟨rfl, ⟨(i + 1, n + z), ⟨by simp only; omega, by simp only; omega⟩, e, by simp only; omega, by simp only; omega⟩, Lf, by simp only; omega⟩
        · have e1 : n = x := by rw [hn, ← hx, List.take_of_length_le (by omega)]
          conv => whnf
          repeat' first | ((first | refine Ob.a ?_ | refine Sp.tt ?_ | refine Sp.ff ?_ | refine Sp.yes ?_ | refine Sp.no ?_ | refine Sp.nyes ?_ | refine Sp.nno ?_);conv=>whnf) | (refine Sp.ne (fun hc => ?_) (fun hc => ?_) <;> (conv=>whnf)) | (refine Sp.dec (fun hc => ?_) (fun hc => ?_) <;> (conv=>whnf)) | (refine Sp.ndec (fun hc => ?_) (fun hc => ?_) <;> (conv=>whnf)) | (refine Sp.mk (fun hc => ?_) (fun hc => ?_) <;> (conv=>whnf)) | (refine Nx.mk (fun ka kb kx hx hs => ?_) (fun he => ?_) <;> (conv=>whnf)) | (refine Nx.mk (fun ka kx hx hs => ?_) (fun he => ?_) <;> (conv=>whnf)) | (refine Uk.mk (fun hn => ?_) ?_ <;> (conv=>whnf)) | (refine Fi.a ?_;conv=>whnf) | (refine Yl.a ?_ ?_ <;> (conv=>whnf)) | (refine Ob.b ?_;conv=>whnf)
          exact Lf
      · exact Lf
  · exact Lf
set_option maxHeartbeats 8000000 in
theorem UnknownP_spec (r : Row) (h1 : r.lots.length < 1000000) (h2 : r.weak.length < 1000000) : Fn Try.prog 21 [rowD r] (tpl [ints (unknownRR r).1, int (unknownRR r).2]) := by
  by_cases hr : checkRow r = 0
  case neg =>
    have ho := open_err r h1 h2 hr
    have e : unknownRR r = ([], checkRow r) := if_pos hr
    rw [e]
    generalize checkRow r = c at *
    refine Fn.of_ex (cuts := []) tys hM Try.func21 rfl Try.call21 rfl ?_
    show exC Try.prog T [] _ false none 0 (entry 34 [rowD r]) (finQ T [ResultVar.tmp 2, ResultVar.tmp 3] _)
    conv => whnf
    repeat' first | ((first | refine Ob.a ?_ | refine Sp.tt ?_ | refine Sp.ff ?_ | refine Sp.yes ?_ | refine Sp.no ?_ | refine Sp.nyes ?_ | refine Sp.nno ?_);conv=>whnf) | (refine Sp.ne (fun hc => ?_) (fun hc => ?_) <;> (conv=>whnf)) | (refine Sp.dec (fun hc => ?_) (fun hc => ?_) <;> (conv=>whnf)) | (refine Sp.ndec (fun hc => ?_) (fun hc => ?_) <;> (conv=>whnf)) | (refine Sp.mk (fun hc => ?_) (fun hc => ?_) <;> (conv=>whnf)) | (apply Cl.go;(conv=>whnf); (first | refine Ob.call (ho) ?_);(conv=>whnf)) | (refine Nx.mk (fun ka kb kx hx hs => ?_) (fun he => ?_) <;> (conv=>whnf)) | (refine Nx.mk (fun ka kx hx hs => ?_) (fun he => ?_) <;> (conv=>whnf)) | (refine Uk.mk (fun hn => ?_) ?_ <;> (conv=>whnf)) | (refine Fi.a ?_;conv=>whnf) | (refine Yl.a ?_ ?_ <;> (conv=>whnf)) | (refine Ob.b ?_;conv=>whnf)
    all_goals exact Lf
  have ho := open_ok r h1 h2 hr
  have e : unknownRR r = (unknownR r, 0) := if_neg (not_not_intro hr)
  rw [e]
  generalize hu : unknownR r = c
  refine Fn.of_ex (cuts := []) tys hM Try.func21 rfl Try.call21 rfl ?_
  show exC Try.prog T [] _ false none 0 (entry 34 [rowD r]) (finQ T [ResultVar.tmp 2, ResultVar.tmp 3] _)
  conv => whnf
  repeat' first | ((first | refine Ob.a ?_ | refine Sp.tt ?_ | refine Sp.ff ?_ | refine Sp.yes ?_ | refine Sp.no ?_ | refine Sp.nyes ?_ | refine Sp.nno ?_);conv=>whnf) | (refine Sp.ne (fun hc => ?_) (fun hc => ?_) <;> (conv=>whnf)) | (refine Sp.dec (fun hc => ?_) (fun hc => ?_) <;> (conv=>whnf)) | (refine Sp.ndec (fun hc => ?_) (fun hc => ?_) <;> (conv=>whnf)) | (refine Sp.mk (fun hc => ?_) (fun hc => ?_) <;> (conv=>whnf)) | (apply Cl.go;(conv=>whnf); (first | refine Ob.call (ho) ?_);(conv=>whnf)) | (refine Nx.mk (fun ka kb kx hx hs => ?_) (fun he => ?_) <;> (conv=>whnf)) | (refine Nx.mk (fun ka kx hx hs => ?_) (fun he => ?_) <;> (conv=>whnf)) | (refine Uk.mk (fun hn => ?_) ?_ <;> (conv=>whnf)) | (refine Fi.a ?_;conv=>whnf) | (refine Yl.a ?_ ?_ <;> (conv=>whnf)) | (refine Ob.b ?_;conv=>whnf)
  refine Lp.snap [0, 2, 3, 4, 18, 19, 33] 40 ?_
  (conv=>whnf)
  refine LpB.go 34 ({q : Int × List Int // (0 ≤ q.1 ∧ q.1 ≤ r.weak.length) ∧ q.2 = (r.weak.take q.1.toNat).filter fun p => !(r.lots.any fun l => decide (Has l p))}) 0 (fun ⟨(i, o), _⟩ nx => ([(20, .d (int i)), (6, .ms 12 1 0 o.length)], [(12, .row true 3 1 o.length (rowOf int 0 o))])) (fun p => (r.weak.length - p.1.1).toNat) (⟨(0, []), ⟨by simp, by simp⟩, rfl⟩) ?_ ?_
  · rintro ⟨⟨i, o⟩, ⟨i0, i1⟩, ho⟩
    simp only at i0 i1 ho
    have hlen : o.length ≤ i.toNat := by
      rw [ho]; refine Nat.le_trans (List.length_filter_le _ _) ?_;rw [List.length_take]; omega
    by_cases hil : i < r.weak.length
    · have hs : (r.weak.take (i + 1).toNat).filter (fun p => !(r.lots.any fun l => decide (Has l p))) = o ++ if (r.lots.any fun l => decide (Has l (r.weak.getD i.toNat 0))) = false then [r.weak.getD i.toNat 0] else [] := by
        rw [show (i + 1).toNat = i.toNat + 1 by omega, take_succ_getD _ _ 0 (by omega), List.filter_append, ho]
        congr 1
        rw [List.filter_cons, List.filter_nil]
        cases e : r.lots.any fun l => decide (Has l (r.weak.getD i.toNat 0)) <;> rfl
      have hh := having_spec r (r.weak.getD i.toNat 0)
      have hz := havingL_nil (r := r) (p := r.weak.getD i.toNat 0)
      generalize hL : havingL r (r.weak.getD i.toNat 0) = L at *
      have hsq := having1_spec r (r.weak.getD i.toNat 0) h1 L hL.symm
      conv => whnf
      repeat' first | ((first | refine Ob.a ?_ | refine Sp.tt ?_ | refine Sp.ff ?_ | refine Sp.yes ?_ | refine Sp.no ?_ | refine Sp.nyes ?_ | refine Sp.nno ?_);conv=>whnf) | (refine Sp.ne (fun hc => ?_) (fun hc => ?_) <;> (conv=>whnf)) | (refine Sp.dec (fun hc => ?_) (fun hc => ?_) <;> (conv=>whnf)) | (refine Sp.ndec (fun hc => ?_) (fun hc => ?_) <;> (conv=>whnf)) | (refine Sp.mk (fun hc => ?_) (fun hc => ?_) <;> (conv=>whnf)) | (apply Cl.go;(conv=>whnf); (first | refine Ob.call (hh) ?_);(conv=>whnf)) | (refine Nx.mk (fun ka kb kx hx hs => ?_) (fun he => ?_) <;> (conv=>whnf)) | (refine Nx.mk (fun ka kx hx hs => ?_) (fun he => ?_) <;> (conv=>whnf)) | (refine Uk.mk (fun hn => ?_) ?_ <;> (conv=>whnf)) | (refine Fi.a ?_;conv=>whnf) | (refine Yl.a ?_ ?_ <;> (conv=>whnf)) | (refine Ob.b ?_;conv=>whnf)
      · refine Rg.snap [0, 1, 2, 3, 4, 5, 6, 8, 9, 10, 11, 12, 13, 14, 16, 17, 18, 19, 20, 22, 23, 24, 25, 28, 29, 30, 31, 32, 33] 40 ?_
        (conv=>whnf)
        refine RgB.go 34 ({p : Nat // p = 0}) 0 (fun ⟨k, _⟩ nx => []) (fun p => p.1) (⟨0, rfl⟩) hsq ?_ ?_ ?_
        · rintro ⟨k, hk⟩ j hj0 hj
          simp only at hj0
          have hne : ¬ (r.lots.any fun l => decide (Has l (r.weak.getD i.toNat 0))) = false := fun h => by
            rw [hz.2 h] at hj; simp at hj
          rw [if_neg hne, List.append_nil] at hs
          conv => whnf
          repeat' first | ((first | refine Ob.a ?_ | refine Sp.tt ?_ | refine Sp.ff ?_ | refine Sp.yes ?_ | refine Sp.no ?_ | refine Sp.nyes ?_ | refine Sp.nno ?_);conv=>whnf) | (refine Sp.ne (fun hc => ?_) (fun hc => ?_) <;> (conv=>whnf)) | (refine Sp.dec (fun hc => ?_) (fun hc => ?_) <;> (conv=>whnf)) | (refine Sp.ndec (fun hc => ?_) (fun hc => ?_) <;> (conv=>whnf)) | (refine Sp.mk (fun hc => ?_) (fun hc => ?_) <;> (conv=>whnf)) | (refine Nx.mk (fun ka kb kx hx hs => ?_) (fun he => ?_) <;> (conv=>whnf)) | (refine Nx.mk (fun ka kx hx hs => ?_) (fun he => ?_) <;> (conv=>whnf)) | (refine Uk.mk (fun hn => ?_) ?_ <;> (conv=>whnf)) | (refine Fi.a ?_;conv=>whnf) | (refine Yl.a ?_ ?_ <;> (conv=>whnf)) | (refine Ob.b ?_;conv=>whnf)
          refine Out.snap ?_
          conv => whnf
          refine OutB.go ?_
          conv => whnf
          repeat' first | ((first | refine Ob.a ?_ | refine Sp.tt ?_ | refine Sp.ff ?_ | refine Sp.yes ?_ | refine Sp.no ?_ | refine Sp.nyes ?_ | refine Sp.nno ?_);conv=>whnf) | (refine Sp.ne (fun hc => ?_) (fun hc => ?_) <;> (conv=>whnf)) | (refine Sp.dec (fun hc => ?_) (fun hc => ?_) <;> (conv=>whnf)) | (refine Sp.ndec (fun hc => ?_) (fun hc => ?_) <;> (conv=>whnf)) | (refine Sp.mk (fun hc => ?_) (fun hc => ?_) <;> (conv=>whnf)) | (refine Nx.mk (fun ka kb kx hx hs => ?_) (fun he => ?_) <;> (conv=>whnf)) | (refine Nx.mk (fun ka kx hx hs => ?_) (fun he => ?_) <;> (conv=>whnf)) | (refine Uk.mk (fun hn => ?_) ?_ <;> (conv=>whnf)) | (refine Fi.a ?_;conv=>whnf) | (refine Yl.a ?_ ?_ <;> (conv=>whnf)) | (refine Ob.b ?_;conv=>whnf)
          exact ⟨rfl, ⟨(i + 1, o), ⟨by simp only; omega, by simp only; omega⟩, hs.symm⟩, Lf, by simp only; omega⟩
        · rintro ⟨k, hk⟩ hk'
          simp only at hk'
          have hyes : (r.lots.any fun l => decide (Has l (r.weak.getD i.toNat 0))) = false := hz.1 (List.length_eq_zero_iff.1 (by omega))
          rw [if_pos hyes] at hs
          conv => whnf
          repeat' first | ((first | refine Ob.a ?_ | refine Sp.tt ?_ | refine Sp.ff ?_ | refine Sp.yes ?_ | refine Sp.no ?_ | refine Sp.nyes ?_ | refine Sp.nno ?_);conv=>whnf) | (refine Sp.ne (fun hc => ?_) (fun hc => ?_) <;> (conv=>whnf)) | (refine Sp.dec (fun hc => ?_) (fun hc => ?_) <;> (conv=>whnf)) | (refine Sp.ndec (fun hc => ?_) (fun hc => ?_) <;> (conv=>whnf)) | (refine Sp.mk (fun hc => ?_) (fun hc => ?_) <;> (conv=>whnf)) | (refine Nx.mk (fun ka kb kx hx hs => ?_) (fun he => ?_) <;> (conv=>whnf)) | (refine Nx.mk (fun ka kx hx hs => ?_) (fun he => ?_) <;> (conv=>whnf)) | (refine Uk.mk (fun hn => ?_) ?_ <;> (conv=>whnf)) | (refine Fi.a ?_;conv=>whnf) | (refine Yl.a ?_ ?_ <;> (conv=>whnf)) | (refine Ob.b ?_;conv=>whnf)
          exact ⟨rfl, ⟨(i + 1, o ++ [r.weak.getD i.toNat 0]), ⟨by simp only; omega, by simp only; omega⟩, hs.symm⟩, Lf, by simp only; omega⟩
        · exact Lf
    · have e : o = c := by rw [ho, ← hu, List.take_of_length_le (by omega)]; rfl
      conv => whnf
      repeat' first | ((first | refine Ob.a ?_ | refine Sp.tt ?_ | refine Sp.ff ?_ | refine Sp.yes ?_ | refine Sp.no ?_ | refine Sp.nyes ?_ | refine Sp.nno ?_);conv=>whnf) | (refine Sp.ne (fun hc => ?_) (fun hc => ?_) <;> (conv=>whnf)) | (refine Sp.dec (fun hc => ?_) (fun hc => ?_) <;> (conv=>whnf)) | (refine Sp.ndec (fun hc => ?_) (fun hc => ?_) <;> (conv=>whnf)) | (refine Sp.mk (fun hc => ?_) (fun hc => ?_) <;> (conv=>whnf)) | (refine Nx.mk (fun ka kb kx hx hs => ?_) (fun he => ?_) <;> (conv=>whnf)) | (refine Nx.mk (fun ka kx hx hs => ?_) (fun he => ?_) <;> (conv=>whnf)) | (refine Uk.mk (fun hn => ?_) ?_ <;> (conv=>whnf)) | (refine Fi.a ?_;conv=>whnf) | (refine Yl.a ?_ ?_ <;> (conv=>whnf)) | (refine Ob.b ?_;conv=>whnf)
      exact Lf
  · exact Lf
end Go.Px.Try

/-! Pm7 -/
namespace Go.Px.Try
open Go Go.Proofs Go.Px
/-- Can a pot follow another one? -/
def okL (r : Row) : Option Int → Int → Bool
  | none, _ => true
  | some y, x => !togB r y x
/-- The longest list of pots apart that can follow one, the first one of them. -/
def apF (r : Row) : Option Int → List Int → List Int
  | _, [] => []
  | last, x :: L => if okL r last x = true then (if (x :: apF r (some x) L).length < (apF r last L).length then apF r last L else x :: apF r (some x) L) else apF r last L
def lenA (r : Row) (last : Option Int) (L : List Int) : Nat := (apF r last L).length
theorem lenA_cons (r : Row) (last : Option Int) (x : Int) (L : List Int) : lenA r last (x :: L) = if okL r last x = true then max (1 + lenA r (some x) L) (lenA r last L) else lenA r last L := by
  unfold lenA
  rw [apF]
  split
  · split
    · rename_i h; rw [List.length_cons] at h; omega
    · rename_i h; rw [List.length_cons] at h; rw [List.length_cons]; omega
  · rfl
theorem togB_conv {r : Row} {a b c : Int} (h1 : a ≤ b) (h2 : b ≤ c) (h : togB r a c = true) : togB r b c = true ∧ togB r a b = true := by
  unfold togB at h ⊢
  rw [List.any_eq_true] at h
  obtain ⟨l, hl, hh⟩ := h
  simp only [Bool.and_eq_true, decide_eq_true_eq] at hh
  obtain ⟨⟨a1, a2⟩, ⟨c1, c2⟩⟩ := hh
  constructor
  · exact List.any_eq_true.2 ⟨l, hl, by simp only [Bool.and_eq_true, decide_eq_true_eq]; exact ⟨⟨by omega, by omega⟩, ⟨by omega, by omega⟩⟩⟩
  · exact List.any_eq_true.2 ⟨l, hl, by simp only [Bool.and_eq_true, decide_eq_true_eq]; exact ⟨⟨by omega, by omega⟩, ⟨by omega, by omega⟩⟩⟩
/-- A list of weak pots apart. -/
structure ApartOk (r : Row) (l : List Int) : Prop where
  ris : risingL l r.pots
  weak : ∀ p ∈ l, p ∈ r.weak
  apart : l.Pairwise (fun a b => togB r a b = false)
theorem checkApartR_ok {r : Row} (hr : RowOk r) {l : List Int} : checkApartR r l = 0 ↔ ApartOk r l := by
  have h0 := checkRow_ok.2 hr
  unfold checkApartR
  rw [if_neg (not_not_intro h0)]
  constructor
  · intro h
    split at h
    · cases h
    split at h
    · cases h
    split at h
    · rename_i a b c; exact ⟨Decidable.of_not_not a, Decidable.of_not_not b, c⟩
    · cases h
  · rintro ⟨a, b, c⟩
    rw [if_neg (not_not_intro a), if_neg (not_not_intro b), if_pos c]
theorem apart_snoc {r : Row} {l : List Int} {x : Int} (h : ApartOk r l) (hx : x ∈ r.weak) (hr : RowOk r) (hlt : ∀ y ∈ l, y < x) : ApartOk r (l ++ [x]) ↔ okL r l.getLast? x = true := by
  constructor
  · rintro ⟨_, _, h3⟩
    cases hl : l.getLast? with
    | none => rfl
    | some y =>
      have hy : y ∈ l := List.mem_of_getLast? hl
      rw [List.pairwise_append] at h3
      have := h3.2.2 y hy x (by simp)
      simp [okL, this]
  · intro ho
    refine ⟨⟨fun y hy => ?_, ?_⟩, fun y hy => ?_, ?_⟩
    · rcases List.mem_append.1 hy with hy | hy
      · exact h.ris.1 y hy
      · rw [List.mem_singleton.1 hy]; exact hr.rng x hx
    · rw [List.pairwise_append]
      exact ⟨h.ris.2, by simp, fun a ha b hb => by rw [List.mem_singleton.1 hb]; exact hlt a ha⟩
    · rcases List.mem_append.1 hy with hy | hy
      · exact h.weak y hy
      · rw [List.mem_singleton.1 hy]; exact hx
    · rw [List.pairwise_append]
      refine ⟨h.apart, by simp, fun a ha b hb => ?_⟩
      rw [List.mem_singleton.1 hb]
      cases e : togB r a x with
      | false => rfl
      | true =>
        cases hl : l.getLast? with
        | none => rw [List.getLast?_eq_none_iff] at hl; rw [hl] at ha; cases ha
        | some y =>
          have hy : y ∈ l := List.mem_of_getLast? hl
          have hay : a ≤ y := by
            obtain ⟨l', rfl⟩ := List.getLast?_eq_some_iff.1 hl
            rcases List.mem_append.1 ha with ha | ha
            · have := (List.pairwise_append.1 h.ris.2).2.2 a ha y (by simp); omega
            · rw [List.mem_singleton.1 ha]; exact Int.le_refl _
          have := (togB_conv hay (Int.le_of_lt (hlt y hy)) e).1
          rw [hl] at ho
          simp [okL, this] at ho
theorem growR_apF {r : Row} (hr : RowOk r) : ∀ (m : Nat) (begun best : List Int), m ≤ r.weak.length → ApartOk r begun → (∀ y ∈ begun, ∀ x ∈ r.weak.drop (r.weak.length - m), y < x) → begun.length ≤ best.length →
    growR r m begun best = if best.length < begun.length + lenA r begun.getLast? (r.weak.drop (r.weak.length - m)) then begun ++ apF r begun.getLast? (r.weak.drop (r.weak.length - m)) else best
  | 0, begun, best, _, _, _, hb => by
    rw [Nat.sub_zero, List.drop_length, growR, if_neg]
    simp [lenA, apF]; exact hb
  | m + 1, begun, best, hm, hA, hlt, hb => by
    have hi : r.weak.length - (m + 1) < r.weak.length := by omega
    have hd := drop_getD 0 hi
    rw [show r.weak.length - (m + 1) + 1 = r.weak.length - m by omega] at hd
    have hxw : r.weak.getD (r.weak.length - (m + 1)) 0 ∈ r.weak := getD_mem hi 0
    have hinc := weak_inc hr
    rw [growR]
    generalize hx : r.weak.getD (r.weak.length - (m + 1)) 0 = x at *
    have hltx : ∀ y ∈ begun, y < x := fun y hy => hlt y hy x (by rw [hd]; simp)
    have hlt' : ∀ y ∈ begun, ∀ z ∈ r.weak.drop (r.weak.length - m), y < z := fun y hy z hz => hlt y hy z (by rw [hd]; exact List.mem_cons_of_mem _ hz)
    have hxz : ∀ z ∈ r.weak.drop (r.weak.length - m), x < z := fun z hz => by
      obtain ⟨j, hj, rfl⟩ := List.getElem_of_mem hz
      rw [List.length_drop] at hj
      rw [List.getElem_drop, ← hx]
      have := hinc (r.weak.length - (m + 1)) (r.weak.length - m + j) (by omega) (by omega)
      rw [List.getD_eq_getElem?_getD (i := r.weak.length - m + j), List.getElem?_eq_getElem (by omega)] at this
      exact this
    rw [hd, lenA_cons, apF]
    have hc := apart_snoc hA hxw hr hltx
    rw [← checkApartR_ok hr] at hc
    by_cases ho : okL r begun.getLast? x = true
    · rw [if_pos (hc.2 ho), if_pos ho, if_pos ho]
      have hA2 := (apart_snoc hA hxw hr hltx).2 ho
      have hl2 : (begun ++ [x]).getLast? = some x := by simp
      have i1 := growR_apF hr m (begun ++ [x]) (begun ++ [x]) (by omega) hA2 (fun y hy z hz => by
        rcases List.mem_append.1 hy with hy | hy
        · exact hlt' y hy z hz
        · rw [List.mem_singleton.1 hy]; exact hxz z hz) (Nat.le_refl _)
      rw [hl2] at i1
      have ei : growR r m (begun ++ [x]) (begun ++ [x]) = begun ++ (x :: apF r (some x) (r.weak.drop (r.weak.length - m))) := by
        rw [i1]
        split
        · rw [List.append_assoc]; rfl
        · rename_i h
          have h0 : lenA r (some x) (r.weak.drop (r.weak.length - m)) = 0 := by omega
          rw [List.length_eq_zero_iff.1 h0]
      rw [ei]
      generalize hg : apF r (some x) (r.weak.drop (r.weak.length - m)) = a
      have hlen : lenA r (some x) (r.weak.drop (r.weak.length - m)) = a.length := by unfold lenA; rw [hg]
      rw [hlen]
      have hla : (begun ++ (x :: a)).length = begun.length + (1 + a.length) := by simp; omega
      rw [hla, List.length_cons]
      by_cases h1 : best.length < begun.length + (1 + a.length)
      · rw [if_pos h1]
        have i2 := growR_apF hr m begun (begun ++ (x :: a)) (by omega) hA hlt' (by rw [hla]; omega)
        rw [i2, hla]
        unfold lenA
        generalize apF r begun.getLast? (r.weak.drop (r.weak.length - m)) = b
        by_cases h2 : a.length + 1 < b.length
        · rw [if_pos (by omega), if_pos h2, if_pos (by omega)]
        · rw [if_neg (by omega), if_neg h2, if_pos (by omega)]
      · rw [if_neg h1]
        have i2 := growR_apF hr m begun best (by omega) hA hlt' hb
        rw [i2]
        unfold lenA
        generalize apF r begun.getLast? (r.weak.drop (r.weak.length - m)) = b
        by_cases h2 : a.length + 1 < b.length
        · rw [if_pos h2]
          by_cases h3 : best.length < begun.length + b.length
          · rw [if_pos h3, if_pos (by omega)]
          · rw [if_neg h3, if_neg (by omega)]
        · rw [if_neg h2, if_neg (by omega), if_neg (by omega)]
    · rw [if_neg fun h => ho (hc.1 h), if_neg ho, if_neg ho]
      exact growR_apF hr m begun best (by omega) hA hlt' hb
theorem apart_eq {r : Row} (hr : RowOk r) : growR r r.weak.length [] [] = apF r none r.weak := by
  rw [growR_apF hr r.weak.length [] [] (Nat.le_refl _) ⟨⟨fun x hx => (by cases hx), List.Pairwise.nil⟩, fun x hx => (by cases hx), List.Pairwise.nil⟩ (fun y hy => (by cases hy)) (Nat.le_refl _)]
  rw [Nat.sub_self, List.drop_zero]
  show (if 0 < 0 + lenA r none r.weak then [] ++ apF r none r.weak else []) = _
  split
  · rfl
  · rename_i h
    have h0 : lenA r none r.weak = 0 := by omega
    rw [List.length_eq_zero_iff.1 h0]
end Go.Px.Try

/-! Pm9 -/
namespace Go.Px.Try
open Go Go.Proofs Go.Px
theorem lenA_le (r : Row) : ∀ (L : List Int) (last : Option Int), lenA r last L ≤ L.length
  | [], _ => Nat.le_refl _
  | x :: L, last => by
    have h1 := lenA_le r L (some x)
    have h2 := lenA_le r L last
    rw [lenA_cons, List.length_cons]
    split <;> omega
/-- How many are apart at most from a weak pot on, with it. -/
def mA (r : Row) (k : Nat) : Int := 1 + lenA r (some (r.weak.getD k 0)) (r.weak.drop (k + 1))
/-- The same from k on, 0 elsewhere. -/
def mT (r : Row) (k j : Nat) : Int := if k ≤ j ∧ j < r.weak.length then mA r j else 0
theorem mA_rng (r : Row) {k : Nat} (h : k < r.weak.length) : 1 ≤ mA r k ∧ mA r k ≤ r.weak.length := by
  have := lenA_le r (r.weak.drop (k + 1)) (some (r.weak.getD k 0))
  rw [List.length_drop] at this
  unfold mA; omega
/-- One more of those behind. -/
theorem lenA_drop (r : Row) (y : Int) {j : Nat} (h : j < r.weak.length) : (lenA r (some y) (r.weak.drop j) : Int) = if togB r y (r.weak.getD j 0) = false then max (mA r j) (lenA r (some y) (r.weak.drop (j + 1))) else lenA r (some y) (r.weak.drop (j + 1)) := by
  rw [drop_getD 0 h, lenA_cons]
  show (((if (!togB r y (r.weak.getD j 0)) = true then _ else _ : Nat) : Int)) = _
  cases togB r y (r.weak.getD j 0) with
  | true => simp
  | false => simp [mA]; omega
theorem lenA_none (r : Row) {j : Nat} (h : j < r.weak.length) : (lenA r none (r.weak.drop j) : Int) = max (mA r j) (lenA r none (r.weak.drop (j + 1))) := by
  rw [drop_getD 0 h, lenA_cons]
  show (((if true = true then _ else _ : Nat) : Int)) = _
  simp [mA]; omega
/-- The last one taken. -/
def lastO (o : List Int) : Option Int := if o.length = 0 then none else some (o.getD (o.length - 1) 0)
theorem lastO_snoc (o : List Int) (x : Int) : lastO (o ++ [x]) = some x := by
  unfold lastO
  rw [if_neg (by simp), List.getD_eq_getElem?_getD, List.getElem?_append_right (by simp)]
  simp
/-- One more pot is looked at. -/
theorem apF_take (r : Row) (o : List Int) {k : Nat} (h : k < r.weak.length) (hok : okL r (lastO o) (r.weak.getD k 0) = true) (he : mA r k = lenA r (lastO o) (r.weak.drop k)) :
    o ++ apF r (lastO o) (r.weak.drop k) = (o ++ [r.weak.getD k 0]) ++ apF r (lastO (o ++ [r.weak.getD k 0])) (r.weak.drop (k + 1)) ∧ mA r k - 1 = lenA r (lastO (o ++ [r.weak.getD k 0])) (r.weak.drop (k + 1)) := by
  rw [lastO_snoc]
  refine ⟨?_, by unfold mA; omega⟩
  rw [drop_getD 0 h, lenA_cons, if_pos hok] at he
  rw [drop_getD 0 h, apF, if_pos hok, if_neg, List.append_assoc]
  · rfl
  · unfold mA lenA at he
    rw [List.length_cons]; omega
theorem apF_skip (r : Row) (o : List Int) {k : Nat} (h : k < r.weak.length) (hn : ¬ (mA r k = lenA r (lastO o) (r.weak.drop k) ∧ okL r (lastO o) (r.weak.getD k 0) = true)) :
    apF r (lastO o) (r.weak.drop k) = apF r (lastO o) (r.weak.drop (k + 1)) := by
  rw [drop_getD 0 h, apF]
  by_cases hok : okL r (lastO o) (r.weak.getD k 0) = true
  · rw [if_pos hok, if_pos]
    rw [drop_getD 0 h, lenA_cons, if_pos hok] at hn
    have hn : ¬ mA r k = _ := fun e => hn ⟨e, hok⟩
    unfold mA lenA at hn
    rw [List.length_cons]; omega
  · rw [if_neg hok]
theorem foldl_max_nn : ∀ (l : List Int) (a : Int), 0 ≤ a → 0 ≤ l.foldl max a
  | [], _, h => h
  | x :: l, a, h => foldl_max_nn l (max a x) (by omega)
/-- The most from the first one on. -/
theorem mT_max (r : Row) (hr : RowOk r) : ∀ d k, k + d = r.weak.length → ((List.range 13).map fun j => mT r k j).foldl max 0 = lenA r none (r.weak.drop k)
  | 0, k, h => by
    have e : ∀ j ∈ List.range 13, mT r k j = 0 := fun j _ => if_neg (by omega)
    rw [List.map_congr_left e, List.drop_eq_nil_of_le (by omega)]
    show List.foldl max 0 (List.map (fun _ => 0) (List.range 13)) = (0 : Int)
    decide
  | d + 1, k, h => by
    have ih := mT_max r hr d (k + 1) (by omega)
    have h12 := hr.w12
    rw [lenA_none r (by omega), ← ih]
    have hk : k < 13 := by omega
    have hm := (mA_rng r (k := k) (by omega)).1
    -- the same list but for one place
    have key : ∀ (n : Nat), ((List.range n).map fun j => mT r k j).foldl max 0 = if k < n then max (mA r k) (((List.range n).map fun j => mT r (k + 1) j).foldl max 0) else ((List.range n).map fun j => mT r (k + 1) j).foldl max 0 := by
      intro n
      induction n with
      | zero => simp
      | succ n ih =>
        rw [List.range_succ, List.map_append, List.map_append, List.foldl_append, List.foldl_append, ih]
        simp only [List.map_cons, List.map_nil, List.foldl_cons, List.foldl_nil]
        by_cases e : n = k
        · subst e
          have e1 : mT r n n = mA r n := if_pos ⟨Nat.le_refl _, by omega⟩
          have e2 : mT r (n + 1) n = 0 := if_neg (by omega)
          have e3 : 0 ≤ ((List.range n).map fun j => mT r (n + 1) j).foldl max 0 := foldl_max_nn _ _ (Int.le_refl _)
          rw [if_neg (by omega), if_pos (by omega), e1, e2]
          omega
        · have e1 : mT r k n = mT r (k + 1) n := by
            unfold mT
            by_cases h1 : k ≤ n ∧ n < r.weak.length
            · rw [if_pos h1, if_pos (by omega)]
            · rw [if_neg h1, if_neg (by omega)]
          rw [e1]
          by_cases h1 : k < n
          · rw [if_pos h1, if_pos (by omega)]; omega
          · rw [if_neg h1, if_neg (by omega)]
    rw [key 13, if_pos hk]
end Go.Px.Try

/-! Pm10 -/
namespace Go.Px.Try
open Go Go.Proofs Go.Px
def bestF (p : Int → Int → Bool) (l : List Int) : Int := (l.drop 1).foldl (fun out x => if p x out = true then x else out) (l.getD 0 0)
theorem bestF_step (p : Int → Int → Bool) (l : List Int) {j : Nat} (h : j + 1 < l.length) : ((l.drop 1).take (j + 1)).foldl (fun out x => if p x out = true then x else out) (l.getD 0 0) = (fun out => if p (l.getD (j + 1) 0) out = true then l.getD (j + 1) 0 else out) (((l.drop 1).take j).foldl (fun out x => if p x out = true then x else out) (l.getD 0 0)) := by
  rw [take_succ_getD _ j 0 (by simp; omega), List.foldl_append]
  have : (l.drop 1).getD j 0 = l.getD (j + 1) 0 := by
    rw [List.getD_eq_getElem?_getD, List.getElem?_drop, List.getD_eq_getElem?_getD, Nat.add_comm]
  rw [this]
  rfl
theorem foldl_best (f : Int → Int) : ∀ (l : List Int) (a : Int), (l.foldl (fun out x => if decide (f out < f x) = true then x else out) a = a ∨ l.foldl (fun out x => if decide (f out < f x) = true then x else out) a ∈ l) ∧ f a ≤ f (l.foldl (fun out x => if decide (f out < f x) = true then x else out) a) ∧ ∀ y ∈ l, f y ≤ f (l.foldl (fun out x => if decide (f out < f x) = true then x else out) a)
  | [], a => ⟨.inl rfl, Int.le_refl _, fun y hy => by cases hy⟩
  | x :: l, a => by
    rw [List.foldl_cons]
    by_cases h : f a < f x
    · rw [if_pos (decide_eq_true h)]
      obtain ⟨h1, h2, h3⟩ := foldl_best f l x
      refine ⟨.inr ?_, by omega, fun y hy => ?_⟩
      · rcases h1 with h1 | h1
        · rw [h1]; simp
        · exact List.mem_cons_of_mem _ h1
      · rcases List.mem_cons.1 hy with rfl | hy
        · exact h2
        · exact h3 y hy
    · rw [if_neg (by simpa using h)]
      obtain ⟨h1, h2, h3⟩ := foldl_best f l a
      refine ⟨?_, h2, fun y hy => ?_⟩
      · rcases h1 with h1 | h1
        · exact .inl h1
        · exact .inr (List.mem_cons_of_mem _ h1)
      · rcases List.mem_cons.1 hy with rfl | hy
        · omega
        · exact h3 y hy
/-- The lot that goes farthest of those that have a pot. -/
def farP (r : Row) (x out : Int) : Bool := decide (hiN r out.toNat < hiN r x.toNat)
theorem bestF_far (r : Row) {l : List Int} (h0 : 0 < l.length) : bestF (farP r) l ∈ l ∧ ∀ y ∈ l, hiN r y.toNat ≤ hiN r (bestF (farP r) l).toNat := by
  cases l with
  | nil => simp at h0
  | cons a l =>
    obtain ⟨h1, h2, h3⟩ := foldl_best (fun x => hiN r x.toNat) l a
    have e : bestF (farP r) (a :: l) = l.foldl (fun out x => if decide (hiN r out.toNat < hiN r x.toNat) = true then x else out) a := rfl
    rw [e]
    refine ⟨?_, fun y hy => ?_⟩
    · rcases h1 with h1 | h1
      · rw [h1]; simp
      · exact List.mem_cons_of_mem _ h1
    · rcases List.mem_cons.1 hy with rfl | hy
      · exact h2
      · exact h3 y hy
/-- The lots that are taken for the first weak pots, and how far they go. -/
def fewS (r : Row) : Nat → List Int × Int
  | 0 => ([], -1)
  | k + 1 => if r.weak.getD k 0 ≤ (fewS r k).2 then fewS r k else ((fewS r k).1 ++ [bestF (farP r) (havingL r (r.weak.getD k 0))], hiN r (bestF (farP r) (havingL r (r.weak.getD k 0))).toNat)
structure FewOk (r : Row) (k : Nat) (o : List Int) (e : Int) : Prop where
  rng : ∀ x ∈ o, 0 ≤ x ∧ x < r.lots.length
  cov : ∀ j, j < k → ∃ x ∈ o, Has (lotN r x.toNat) (r.weak.getD j 0)
  his : o.Pairwise fun a b => hiN r a.toNat < hiN r b.toNat
  top : ∀ x ∈ o, hiN r x.toNat ≤ e
  last : (o = [] ∧ e = -1) ∨ ∃ x ∈ o, hiN r x.toNat = e ∧ ∃ j, j < k ∧ loN r x.toNat ≤ r.weak.getD j 0
  apart : ∃ A : List Int, A.length = o.length ∧ (∀ a ∈ A, ∃ j, j < k ∧ a = r.weak.getD j 0) ∧ A.Pairwise (· < ·) ∧ A.Pairwise (fun a b => togB r a b = false) ∧ (∀ a ∈ A, a ≤ e) ∧ ∀ y, e < y → ∀ a ∈ A, togB r a y = false
theorem having_mem {r : Row} {p x : Int} : x ∈ havingL r p ↔ (0 ≤ x ∧ x < r.lots.length) ∧ Has (lotN r x.toNat) p := by
  rw [mem_having]
  constructor
  · rintro ⟨i, h1, h2, rfl⟩
    exact ⟨⟨by omega, by omega⟩, by simpa using h2⟩
  · rintro ⟨⟨h1, h2⟩, h3⟩
    exact ⟨x.toNat, by omega, h3, by omega⟩
theorem fewS_ok {r : Row} (hr : RowOk r) (hE : ∃ S, E r S) : ∀ k, k ≤ r.weak.length → FewOk r k (fewS r k).1 (fewS r k).2
  | 0, _ => ⟨fun x hx => (by cases hx), fun j hj => (by omega), List.Pairwise.nil, fun x hx => (by cases hx), .inl ⟨rfl, rfl⟩, [], rfl, fun a ha => (by cases ha), List.Pairwise.nil, List.Pairwise.nil, fun a ha => (by cases ha), fun y _ a ha => (by cases ha)⟩
  | k + 1, hk => by
    have ih := fewS_ok hr hE k (by omega)
    have hwm : r.weak.getD k 0 ∈ r.weak := getD_mem (by omega) 0
    have hw0 := hr.rng _ hwm
    have hinc : ∀ j, j < k → r.weak.getD j 0 < r.weak.getD k 0 := fun j hj => weak_inc hr j k hj (by omega)
    rw [fewS]
    generalize fewS r k = oe at *
    obtain ⟨o, e⟩ := oe
    simp only at ih ⊢
    generalize hw : r.weak.getD k 0 = w at *
    by_cases h : w ≤ e
    · rw [if_pos h]
      refine ⟨ih.rng, fun j hj => ?_, ih.his, ih.top, ?_, ?_⟩
      · by_cases hjk : j < k
        · exact ih.cov j hjk
        · obtain rfl : j = k := by omega
          rcases ih.last with ⟨_, h2⟩ | ⟨x, hx, h2, j, hj, h3⟩
          · omega
          · have := hinc j hj
            exact ⟨x, hx, by rw [hw]; exact ⟨by show loN r x.toNat ≤ w; omega, by show w ≤ hiN r x.toNat; omega⟩⟩
      · rcases ih.last with h2 | ⟨x, hx, h2, j, hj, h3⟩
        · exact .inl h2
        · exact .inr ⟨x, hx, h2, j, by omega, h3⟩
      · obtain ⟨A, a1, a2, a3⟩ := ih.apart
        exact ⟨A, a1, fun a ha => by obtain ⟨j, hj, h⟩ := a2 a ha; exact ⟨j, by omega, h⟩, a3⟩
    · rw [if_neg h]
      obtain ⟨S, hS⟩ := hE
      obtain ⟨i0, h1, _, h3⟩ := hS w hwm
      have hne : 0 < (havingL r w).length := List.length_pos_iff_exists_mem.2 ⟨_, mem_having.2 ⟨i0, h1, h3, rfl⟩⟩
      obtain ⟨hb1, hb2⟩ := bestF_far r hne
      generalize bestF (farP r) (havingL r w) = b at *
      obtain ⟨hb3, hb4⟩ := having_mem.1 hb1
      have hwh : w ≤ hiN r b.toNat := hb4.2
      refine ⟨fun x hx => ?_, fun j hj => ?_, ?_, fun x hx => ?_, ?_, ?_⟩
      · rcases List.mem_append.1 hx with hx | hx
        · exact ih.rng x hx
        · rw [List.mem_singleton.1 hx]; exact hb3
      · by_cases hjk : j < k
        · obtain ⟨x, hx, h⟩ := ih.cov j hjk
          exact ⟨x, List.mem_append_left _ hx, h⟩
        · obtain rfl : j = k := by omega
          exact ⟨b, by simp, by rw [hw]; exact hb4⟩
      · rw [List.pairwise_append]
        refine ⟨ih.his, List.pairwise_singleton _ _, fun x hx y hy => ?_⟩
        rw [List.mem_singleton.1 hy]
        have := ih.top x hx
        omega
      · rcases List.mem_append.1 hx with hx | hx
        · have := ih.top x hx
          omega
        · rw [List.mem_singleton.1 hx]; exact Int.le_refl _
      · exact .inr ⟨b, by simp, rfl, k, by omega, by rw [hw]; exact hb4.1⟩
      · obtain ⟨A, a1, a2, a3, a4, a5, a6⟩ := ih.apart
        refine ⟨A ++ [w], by simp [a1], fun a ha => ?_, ?_, ?_, fun a ha => ?_, fun y hy a ha => ?_⟩
        · rcases List.mem_append.1 ha with ha | ha
          · obtain ⟨j, hj, h⟩ := a2 a ha; exact ⟨j, by omega, h⟩
          · exact ⟨k, by omega, by rw [hw]; exact List.mem_singleton.1 ha⟩
        · rw [List.pairwise_append]
          refine ⟨a3, List.pairwise_singleton _ _, fun x hx y hy => ?_⟩
          rw [List.mem_singleton.1 hy]
          have := a5 x hx
          omega
        · rw [List.pairwise_append]
          refine ⟨a4, List.pairwise_singleton _ _, fun x hx y hy => ?_⟩
          rw [List.mem_singleton.1 hy]
          exact a6 w (by omega) x hx
        · rcases List.mem_append.1 ha with ha | ha
          · have := a5 a ha; omega
          · rw [List.mem_singleton.1 ha]; exact hwh
        · rcases List.mem_append.1 ha with ha | ha
          · exact a6 y (by omega) a ha
          · rw [List.mem_singleton.1 ha]
            cases ht : togB r w y with
            | false => rfl
            | true =>
              obtain ⟨i, h1, h2, h3⟩ := togB_iff.1 ht
              have := hb2 i (mem_having.2 ⟨i, h1, h2, rfl⟩)
              have h4 : y ≤ hiN r i := h3.2
              simp only [Int.toNat_natCast] at this
              omega
end Go.Px.Try

/-! Pm11 -/
namespace Go.Px.Try
open Go Go.Proofs Go.Px
/-- No list of pots apart is longer. -/
theorem apF_most (r : Row) : ∀ (L A : List Int) (last : Option Int), A.Sublist L → (∀ a ∈ A, okL r last a = true) → A.Pairwise (fun a b => togB r a b = false) → A.length ≤ lenA r last L
  | [], A, last, hs, _, _ => by rw [List.sublist_nil.1 hs]; exact Nat.zero_le _
  | x :: L, A, last, hs, hok, hp => by
    rw [lenA_cons]
    cases hs with
    | cons _ h =>
      have := apF_most r L A last h hok hp
      split <;> omega
    | cons_cons _ h =>
      rename_i A'
      rw [if_pos (hok x (by simp))]
      rw [List.pairwise_cons] at hp
      have := apF_most r L A' (some x) h (fun a ha => by show (!togB r x a) = true; rw [hp.1 a ha]; rfl) hp.2
      rw [List.length_cons]
      omega
theorem apF_sub (r : Row) : ∀ (L : List Int) (last : Option Int), (apF r last L).Sublist L
  | [], _ => List.Sublist.slnil
  | x :: L, last => by
    rw [apF]
    split
    · split
      · exact (apF_sub r L last).cons x
      · exact (apF_sub r L (some x)).cons_cons x
    · exact (apF_sub r L last).cons x
theorem apF_apart (r : Row) : ∀ (L : List Int) (last : Option Int), L.Pairwise (· < ·) → (∀ y, last = some y → ∀ x ∈ L, y < x) → (∀ a ∈ apF r last L, okL r last a = true) ∧ (apF r last L).Pairwise fun a b => togB r a b = false
  | [], _, _, _ => ⟨fun a ha => (by cases ha), List.Pairwise.nil⟩
  | x :: L, last, hL, hlt => by
    rw [List.pairwise_cons] at hL
    have ih1 := apF_apart r L last hL.2 fun y hy z hz => hlt y hy z (List.mem_cons_of_mem _ hz)
    have ih2 := apF_apart r L (some x) hL.2 fun y hy z hz => by cases hy; exact hL.1 z hz
    rw [apF]
    split
    · rename_i hok
      split
      · exact ih1
      · have hx : ∀ a ∈ apF r (some x) L, togB r x a = false := fun a ha => by
          have h : (!togB r x a) = true := ih2.1 a ha
          cases ht : togB r x a with
          | false => rfl
          | true => rw [ht] at h; cases h
        refine ⟨fun a ha => ?_, List.pairwise_cons.2 ⟨hx, ih2.2⟩⟩
        rcases List.mem_cons.1 ha with rfl | ha
        · exact hok
        · cases hlast : last with
          | none => rfl
          | some y =>
            show (!togB r y a) = true
            cases ht : togB r y a with
            | false => rfl
            | true =>
              have h1 := hlt y hlast x (by simp)
              have h2 := hL.1 a ((apF_sub r L (some x)).subset ha)
              have := (togB_conv (b := x) (by omega) (by omega) ht).1
              rw [hx a ha] at this; cases this
    · exact ih1
/-- An explanation has a lot for each of the pots apart. -/
theorem apart_le {r : Row} {S : Nat → Bool} (hS : E r S) {A : List Int} (hA : ∀ a ∈ A, a ∈ r.weak) (hi : A.Pairwise (· < ·)) (hp : A.Pairwise fun a b => togB r a b = false) : A.length ≤ (lst r.lots.length S).length := by
  have hf : ∀ a : Int, ∃ i : Int, a ∈ A → i ∈ lst r.lots.length S ∧ Has (lotN r i.toNat) a ∧ (0 ≤ i ∧ i < r.lots.length) := fun a => by
    by_cases ha : a ∈ A
    · obtain ⟨i, h1, h2, h3⟩ := hS a (hA a ha)
      exact ⟨i, fun _ => ⟨mem_lst_nat.2 ⟨h1, h2⟩, by simpa using h3, by omega, by omega⟩⟩
    · exact ⟨0, fun h => absurd h ha⟩
  obtain ⟨f, hf⟩ := Classical.axiomOfChoice hf
  have hnd : (A.map f).Nodup := by
    rw [List.nodup_iff_pairwise_ne, List.pairwise_map]
    refine (hp.and hi).imp_of_mem fun {a b} ha hb ⟨h1, _⟩ e => ?_
    have h2 := hf a ha
    have h3 := hf b hb
    rw [← e] at h3
    have : togB r a b = true := togB_iff.2 ⟨(f a).toNat, by omega, h2.2.1, h3.2.1⟩
    rw [h1] at this; cases this
  have := nodup_le (lst r.lots.length S) (A.map f) hnd fun x hx => by
    obtain ⟨a, ha, rfl⟩ := List.mem_map.1 hx
    exact (hf a ha).1
  rwa [List.length_map] at this
theorem sub_of_sorted : ∀ {A L : List Int}, A.Pairwise (· < ·) → L.Pairwise (· < ·) → (∀ a ∈ A, a ∈ L) → A.Sublist L
  | [], L, _, _, _ => List.nil_sublist L
  | a :: A, [], _, _, h => absurd (h a (by simp)) (by simp)
  | a :: A, x :: L, h1, h2, h => by
    rw [List.pairwise_cons] at h1 h2
    by_cases e : a = x
    · subst e
      refine List.Sublist.cons_cons a (sub_of_sorted h1.2 h2.2 fun b hb => ?_)
      have := h1.1 b hb
      rcases List.mem_cons.1 (h b (List.mem_cons_of_mem _ hb)) with e | e
      · omega
      · exact e
    · have ha : a ∈ L := (List.mem_cons.1 (h a (by simp))).resolve_left e
      refine List.Sublist.cons x (sub_of_sorted (List.pairwise_cons.2 h1) h2.2 fun b hb => ?_)
      rcases List.mem_cons.1 hb with rfl | hb
      · exact ha
      · have := h1.1 b hb
        have := h2.1 a ha
        rcases List.mem_cons.1 (h b (List.mem_cons_of_mem _ hb)) with e | e
        · omega
        · exact e
/-- The lots that are taken, as a set. -/
def fewSet (o : List Int) : Nat → Bool := fun i => o.contains (i : Int)
theorem sorted_ext : ∀ {l l' : List Int}, l.Pairwise (· < ·) → l'.Pairwise (· < ·) → (∀ x, x ∈ l ↔ x ∈ l') → l = l'
  | [], [], _, _, _ => rfl
  | [], y :: l', _, _, h => absurd ((h y).2 (by simp)) (by simp)
  | x :: l, [], _, _, h => absurd ((h x).1 (by simp)) (by simp)
  | x :: l, y :: l', h1, h2, h => by
    rw [List.pairwise_cons] at h1 h2
    have e : x = y := by
      have a := (h x).1 (by simp)
      have b := (h y).2 (by simp)
      rcases List.mem_cons.1 a with a | a
      · exact a
      · rcases List.mem_cons.1 b with b | b
        · exact b.symm
        · have := h1.1 y b; have := h2.1 x a; omega
    subst e
    congr 1
    refine sorted_ext h1.2 h2.2 fun z => ⟨fun hz => ?_, fun hz => ?_⟩
    · have := h1.1 z hz
      rcases List.mem_cons.1 ((h z).1 (List.mem_cons_of_mem _ hz)) with e | e
      · omega
      · exact e
    · have := h2.1 z hz
      rcases List.mem_cons.1 ((h z).2 (List.mem_cons_of_mem _ hz)) with e | e
      · omega
      · exact e
theorem few_nodup {r : Row} {o : List Int} (h : o.Pairwise fun a b => hiN r a.toNat < hiN r b.toNat) : o.Nodup :=
  List.nodup_iff_pairwise_ne.2 (h.imp fun {a b} hab e => by rw [e] at hab; omega)
/-- What is found, sorted. -/
def fewestP (r : Row) : List Int := srtL (fewS r r.weak.length).1
theorem srtL_sorted {o : List Int} (h : o.Nodup) : (srtL o).Pairwise (· < ·) ∧ ∀ x, x ∈ srtL o ↔ x ∈ o := by
  have hm : ∀ x, x ∈ srtL o ↔ x ∈ o := fun x => (List.mergeSort_perm o _).mem_iff
  refine ⟨?_, hm⟩
  have h1 : (srtL o).Pairwise fun a b => decide (a ≤ b) = true := List.pairwise_mergeSort (fun a b c h1 h2 => by simp at *; omega) (fun a b => by simp; omega) o
  have h2 : (srtL o).Nodup := (List.mergeSort_perm o _).nodup_iff.2 h
  rw [List.nodup_iff_pairwise_ne] at h2
  exact (h1.and h2).imp fun {a b} ⟨x, y⟩ => by
    have : a ≤ b := of_decide_eq_true x
    omega
theorem fewest_ok {r : Row} (hr : RowOk r) (hE : ∃ S, E r S) : ∃ S, E r S ∧ fewestP r = lst r.lots.length S ∧ (fewestP r).length = (apF r none r.weak).length := by
  have hf := fewS_ok hr hE r.weak.length (Nat.le_refl _)
  generalize ho : (fewS r r.weak.length).1 = o at *
  generalize (fewS r r.weak.length).2 = e at *
  have hnd := few_nodup hf.his
  obtain ⟨hs1, hs2⟩ := srtL_sorted hnd
  have hlen : (srtL o).length = o.length := List.length_mergeSort o
  have hSE : E r (fewSet o) := fun p hp => by
    obtain ⟨j, hj, rfl⟩ := List.getElem_of_mem hp
    obtain ⟨x, hx, h⟩ := hf.cov j hj
    rw [List.getD_eq_getElem?_getD, List.getElem?_eq_getElem hj] at h
    have := hf.rng x hx
    refine ⟨x.toNat, by omega, ?_, h⟩
    unfold fewSet
    rw [Int.toNat_of_nonneg this.1]
    exact List.contains_iff_mem.2 hx
  have hl : fewestP r = lst r.lots.length (fewSet o) := by
    unfold fewestP
    rw [ho]
    refine sorted_ext hs1 (lst_inc _ _) fun x => ?_
    rw [hs2, mem_lst]
    constructor
    · intro hx
      have := hf.rng x hx
      exact ⟨x.toNat, by omega, by unfold fewSet; rw [Int.toNat_of_nonneg this.1]; exact List.contains_iff_mem.2 hx, by omega⟩
    · rintro ⟨i, h1, h2, rfl⟩
      exact List.contains_iff_mem.1 h2
  refine ⟨_, hSE, hl, Nat.le_antisymm ?_ ?_⟩
  · obtain ⟨A, a1, a2, a3, a4, _, _⟩ := hf.apart
    have hAw : ∀ a ∈ A, a ∈ r.weak := fun a ha => by
      obtain ⟨j, hj, rfl⟩ := a2 a ha
      exact getD_mem hj 0
    have hsub : A.Sublist r.weak := sub_of_sorted a3 hr.inc hAw
    have := apF_most r r.weak A none hsub (fun _ _ => rfl) a4
    unfold fewestP
    rw [ho, hlen, ← a1]
    exact this
  · rw [hl]
    exact apart_le hSE (fun a ha => (apF_sub r r.weak none).subset ha) (List.Pairwise.sublist (apF_sub r r.weak none) hr.inc) (apF_apart r r.weak none hr.inc fun y hy => by cases hy).2
end Go.Px.Try

/-! Pm12 -/
namespace Go.Px.Try
open Go Go.Proofs Go.Px
theorem fewTo_min (r : Row) : ∀ b, (∀ c, c < b → explL r (listed c r.lots.length) → fewTo r b ≤ (listed c r.lots.length).length) ∧ (fewTo r b = r.lots.length ∨ ∃ c, c < b ∧ explL r (listed c r.lots.length) ∧ fewTo r b = (listed c r.lots.length).length)
  | 0 => ⟨fun c hc => by omega, .inl rfl⟩
  | b + 1 => by
    obtain ⟨h1, h2⟩ := fewTo_min r b
    rw [fewTo]
    by_cases h : (listed b r.lots.length).length < fewTo r b ∧ explL r (listed b r.lots.length)
    · rw [if_pos h]
      refine ⟨fun c hc he => ?_, .inr ⟨b, by omega, h.2, rfl⟩⟩
      by_cases e : c = b
      · subst e; exact Nat.le_refl _
      · have := h1 c (by omega) he
        omega
    · rw [if_neg h]
      refine ⟨fun c hc he => ?_, ?_⟩
      · by_cases e : c = b
        · subst e
          exact Nat.le_of_not_lt fun hl => h ⟨hl, he⟩
        · exact h1 c (by omega) he
      · rcases h2 with h2 | ⟨c, h3, h4⟩
        · exact .inl h2
        · exact .inr ⟨c, by omega, h4⟩
theorem fewestR_eq {r : Row} (hr : RowOk r) (hE : ∃ S, E r S) : (fewestP r).length = fewestR r := by
  obtain ⟨S, hS, h1, h2⟩ := fewest_ok hr hE
  obtain ⟨h3, h4⟩ := fewTo_min r (2 ^ r.lots.length)
  refine Nat.le_antisymm ?_ ?_
  · show _ ≤ fewTo r (2 ^ r.lots.length)
    rcases h4 with h4 | ⟨c, hc, he, h4⟩
    · rw [h4, h1]; exact lst_length_le _ _
    · rw [h4, h2]
      exact apart_le (explL_lst.1 he) (fun a ha => (apF_sub r r.weak none).subset ha) (List.Pairwise.sublist (apF_sub r r.weak none) hr.inc) (apF_apart r r.weak none hr.inc fun y hy => by cases hy).2
  · obtain ⟨b, hb, hbs⟩ := exists_bits S r.lots.length
    have e : listed b r.lots.length = lst r.lots.length S := lst_congr hbs
    have := h3 b hb (by rw [e]; exact explL_lst.2 hS)
    rw [e, ← h1] at this
    exact this
end Go.Px.Try

/-! PxSo -/
namespace Go.Px
open Go Go.RowKit Go.Proofs Go.Sort Go.Shelf
theorem srtL_len (L : List Int) : (srtL L).length = L.length := List.length_mergeSort L
theorem SortC.of {P : Program} {ρ : Ren} (Ly : Lays.n189 P ρ) (he : Ent P (ρ.f 189)) : SortC P (ρ.f 189) := by
  refine ⟨he, fun p cap w => Any.slices_Sort_int_none Ly p cap w, fun b o cap L c T w hb ho hL hn => ?_⟩
  have hlt : b < w.heap.size := (Array.getElem?_eq_some_iff.1 hb).1
  have hcell : ∀ j, j < L.length → c[o + j]? = some (.int .i64 (L.getD j 0)) := fun j hj => by
    have := hL j hj
    rw [Array.getD_eq_getD_getElem?, Array.getElem?_eq_getElem (by omega)] at this
    rw [Array.getElem?_eq_getElem (by omega)]
    exact congrArg some this
  have hH : Holds (Value.int .i64) w b o L.toArray := by
    intro j hj
    have hj' : j < L.length := by simpa using hj
    refine ⟨?_, by simp [World.frozen?, hb]⟩
    simp only [World.cell?, hb, Option.isSome_none, Bool.false_eq_true, if_false]
    rw [hcell j hj']
    simp [List.getD_eq_getElem?_getD, hj']
  refine (Any.slices_Sort_int Ly b o cap L w hH hlt (by omega)).mono ?_
  rintro e w' ⟨rfl, n, os, rfl⟩
  refine ⟨rfl, putCells (Value.int .i64) o (srtL L).toArray c, ⟨by simp [putCells], fun j => ?_⟩, rfl, rfl, rfl, ?_, fun k hk => ?_⟩
  · have hlen := srtL_len L
    rw [Array.getD_eq_getD_getElem?, Array.getD_eq_getD_getElem?]
    by_cases hj : j < c.size
    · by_cases hr : o ≤ j ∧ j < o + L.length
      · rw [if_pos hr]
        have h1 : j - o < (srtL L).length := by omega
        simp [putCells, hj, hr, hlen, h1, List.getD_eq_getElem?_getD]
      · rw [if_neg hr]
        simp [putCells, hj, hlen, hr]
    · rw [if_neg (by omega)]
      simp [putCells, hj]
  · simp [World.setRow, putRow, mapBlock, Sort.ahead]
  · rw [heap_grow_old _ _ (by simpa [Sort.ahead] using hk)]
    by_cases e : k = b
    · subst e
      rw [setRow_heap w k c _ T (0, 0) hb]
      simp [putRow, mapBlock, Sort.ahead, Array.getElem?_modify, hb, onCells, srtL]
    · rw [setRow_other w b k _ e]
      have : b ≠ k := fun h => e h.symm
      simp [putRow, mapBlock, Sort.ahead, Array.getElem?_modify, this]
end Go.Px

/-! Srt -/
namespace Go.Px.Try
open Go Go.Proofs Go.Px
set_option maxRecDepth 100000
def lays189_ren : Go.Shelf.Ren := ⟨fun | 189 => 81 | 125 => 93 | 257 => 92 | 128 => 104 | 129 => 105 | 294 => 95 | 295 => 96 | 296 => 97 | 297 => 98 | 298 => 99 | 299 => 100 | 216 => 101 | 300 => 102 | 301 => 103 | 328 => 106 | 329 => 107 | 330 => 108 | 331 => 109 | 332 => 110 | 215 => 111 | 343 => 112 | n => n, fun | 28 => 23 | 3 => 3 | 46 => 105 | 0 => 0 | 51 => 115 | 53 => 117 | 4 => 4 | 183 => 109 | 182 => 108 | 131 => 43 | 5 => 5 | 9 => 9 | 218 => 118 | 222 => 122 | 228 => 124 | 229 => 125 | n => n, fun | n => n⟩
theorem lays189 : Go.Proofs.Lays.n189 Try.prog lays189_ren where
  mixed := by kernel_rfl
  f125 := Try.func93.trans (congrArg some (by kernel_rfl))
  f128 := Try.func104.trans (congrArg some (by kernel_rfl))
  f129 := Try.func105.trans (congrArg some (by kernel_rfl))
  f189 := Try.func81.trans (congrArg some (by kernel_rfl))
  f215 := Try.func111.trans (congrArg some (by kernel_rfl))
  f216 := Try.func101.trans (congrArg some (by kernel_rfl))
  f257 := Try.func92.trans (congrArg some (by kernel_rfl))
  f294 := Try.func95.trans (congrArg some (by kernel_rfl))
  f295 := Try.func96.trans (congrArg some (by kernel_rfl))
  f296 := Try.func97.trans (congrArg some (by kernel_rfl))
  f297 := Try.func98.trans (congrArg some (by kernel_rfl))
  f298 := Try.func99.trans (congrArg some (by kernel_rfl))
  f299 := Try.func100.trans (congrArg some (by kernel_rfl))
  f300 := Try.func102.trans (congrArg some (by kernel_rfl))
  f301 := Try.func103.trans (congrArg some (by kernel_rfl))
  f328 := Try.func106.trans (congrArg some (by kernel_rfl))
  f329 := Try.func107.trans (congrArg some (by kernel_rfl))
  f330 := Try.func108.trans (congrArg some (by kernel_rfl))
  f331 := Try.func109.trans (congrArg some (by kernel_rfl))
  f332 := Try.func110.trans (congrArg some (by kernel_rfl))
  f343 := Try.func112.trans (congrArg some (by kernel_rfl))
  t0 := Try.underlying0
  a0 := Try.isAgg0
  z0 := Try.sizeOf0
  v0 := Try.zeroValue0
  t3 := Try.underlying3
  a3 := Try.isAgg3
  z3 := Try.sizeOf3
  v3 := Try.zeroValue3
  t4 := Try.underlying4
  a4 := Try.isAgg4
  z4 := Try.sizeOf4
  v4 := Try.zeroValue4
  t5 := Try.underlying5
  a5 := Try.isAgg5
  z5 := Try.sizeOf5
  v5 := Try.zeroValue5
  t9 := Try.underlying9
  a9 := Try.isAgg9
  z9 := Try.sizeOf9
  v9 := Try.zeroValue9
  t28 := Try.underlying23
  a28 := Try.isAgg23
  z28 := Try.sizeOf23
  v28 := Try.zeroValue23
  t46 := Try.underlying105
  a46 := Try.isAgg105
  z46 := Try.sizeOf105
  v46 := Try.zeroValue105
  t51 := Try.underlying115
  a51 := Try.isAgg115
  z51 := Try.sizeOf115
  v51 := Try.zeroValue115
  t53 := Try.underlying117
  a53 := Try.isAgg117
  z53 := Try.sizeOf117
  v53 := Try.zeroValue117
  t131 := Try.underlying43
  a131 := Try.isAgg43
  z131 := Try.sizeOf43
  v131 := Try.zeroValue43
  t182 := Try.underlying108
  a182 := Try.isAgg108
  z182 := Try.sizeOf108
  v182 := Try.zeroValue108
  t183 := Try.underlying109
  a183 := Try.isAgg109
  z183 := Try.sizeOf109
  v183 := Try.zeroValue109
  t218 := Try.underlying118
  a218 := Try.isAgg118
  z218 := Try.sizeOf118
  v218 := Try.zeroValue118
  t222 := Try.underlying122
  a222 := Try.isAgg122
  z222 := Try.sizeOf122
  v222 := Try.zeroValue122
  t228 := Try.underlying124
  a228 := Try.isAgg124
  z228 := Try.sizeOf124
  v228 := Try.zeroValue124
  t229 := Try.underlying125
  a229 := Try.isAgg125
  z229 := Try.sizeOf125
  v229 := Try.zeroValue125
theorem sortC : SortC Try.prog 81 := SortC.of lays189 Try.call81
end Go.Px.Try

/-! Pp14 -/
namespace Go.Px.Try
open Go Go.Proofs Go.Px
set_option maxRecDepth 100000
theorem ImpS.rowD {t : Bool} {n : Nat} {f : Nat → DV} {L : List Int} (hn : n = L.length) (hf : ∀ j, j < n → f j = int (L.getD j 0)) : ImpS (.sl t 1 n f) (ints L) := by
  subst hn
  exact ⟨Imp.sl (fun e => by cases e) (by simp) fun j hj => Imp.of_eq (hf j hj)⟩
set_option maxHeartbeats 8000000 in
theorem appendSeq_hav (r : Row) (p : Int) (hl : r.lots.length < 1000000) : Fn Try.prog 91 [.v (.slice none 0 0), havF r p] (ints (havingL r p)) := by
  generalize hL : havingL r p = L
  have hsq := having1_spec r p hl L hL.symm
  have hLl : L.length ≤ r.lots.length := by rw [← hL]; exact Nat.le_trans (Nat.le_of_eq (List.length_map ..)) (Nat.le_trans (List.length_filter_le _ _) (by simp))
  refine Fn.of_ex (cuts := []) tys hM Try.func91 rfl Try.call91 rfl ?_
  show exC Try.prog T [] _ false none 0 (entry 13 [.v (.slice none 0 0), havF r p]) (finQ T [ResultVar.tmp 4] _)
  conv => whnf
  repeat' first | ((first | refine Ob.a ?_ | refine Sp.tt ?_ | refine Sp.ff ?_ | refine Sp.yes ?_ | refine Sp.no ?_ | refine Sp.nyes ?_ | refine Sp.nno ?_);conv=>whnf) | (refine Sp.ne (fun hc => ?_) (fun hc => ?_) <;> (conv=>whnf)) | (refine Sp.dec (fun hc => ?_) (fun hc => ?_) <;> (conv=>whnf)) | (refine Sp.ndec (fun hc => ?_) (fun hc => ?_) <;> (conv=>whnf)) | (refine Sp.mk (fun hc => ?_) (fun hc => ?_) <;> (conv=>whnf)) | (refine Nx.mk (fun ka kb kx hx hs => ?_) (fun he => ?_) <;> (conv=>whnf)) | (refine Nx.mk (fun ka kx hx hs => ?_) (fun he => ?_) <;> (conv=>whnf)) | (refine Uk.mk (fun hn => ?_) ?_ <;> (conv=>whnf)) | (refine Fi.a ?_;conv=>whnf) | (refine Yl.a ?_ ?_ <;> (conv=>whnf)) | (refine Ob.b ?_;conv=>whnf)
  refine Rg.snap [0, 1, 2, 4] 40 ?_
  (conv=>whnf)
  refine RgB.go 13 ({k : Nat // k ≤ L.length}) 1 (fun ⟨k, _⟩ nx => match k with
    | 0 => []
    | k + 1 => [(0, .cs true 1 fun _ => .ms nx 1 0 (k + 1)), (nx, .row true 3 1 (k + 1) (rowOf int 0 (L.take (k + 1))))]) (fun p => p.1) (⟨0, by omega⟩) hsq ?_ ?_ ?_
  · rintro ⟨k, hk⟩ j hj0 hj
    simp only at hj0
    subst hj0
    have ht := take_succ_getD L k 0 hj
    have hln : (L.take k).length = k := by rw [List.length_take]; omega
    cases k with
    | zero =>
      have ht : L.take 1 = [L.getD 0 0] := by simpa using ht
      conv => whnf
      repeat' first | ((first | refine Ob.a ?_ | refine Sp.tt ?_ | refine Sp.ff ?_ | refine Sp.yes ?_ | refine Sp.no ?_ | refine Sp.nyes ?_ | refine Sp.nno ?_);conv=>whnf) | (refine Sp.ne (fun hc => ?_) (fun hc => ?_) <;> (conv=>whnf)) | (refine Sp.dec (fun hc => ?_) (fun hc => ?_) <;> (conv=>whnf)) | (refine Sp.ndec (fun hc => ?_) (fun hc => ?_) <;> (conv=>whnf)) | (refine Sp.mk (fun hc => ?_) (fun hc => ?_) <;> (conv=>whnf)) | (refine Nx.mk (fun ka kb kx hx hs => ?_) (fun he => ?_) <;> (conv=>whnf)) | (refine Nx.mk (fun ka kx hx hs => ?_) (fun he => ?_) <;> (conv=>whnf)) | (refine Uk.mk (fun hn => ?_) ?_ <;> (conv=>whnf)) | (refine Fi.a ?_;conv=>whnf) | (refine Yl.a ?_ ?_ <;> (conv=>whnf)) | (refine Ob.b ?_;conv=>whnf)
      refine ⟨rfl, ⟨1, hj⟩, rfl, ?_⟩
      conv => whnf
      repeat' first | (refine Edge.fast ?_) | ((conv=>whnf); first | exact True.intro | (refine And.intro ?_ ?_) | exact rfl | exact Nat.le_of_eq (Nat.zero_add _) | exact ImpS.refl _ | ((conv => arg 1; whnf); first | exact ImpS.refl _ | (refine ImpS.nil_eq ?_) | (refine ImpS.vnil_eq ?_) | (refine ImpS.row ?_) | (refine ImpS.rowN ?_ ?_) | (refine ImpS.sl_eq ?_) | (refine ImpS.expl rfl ?_)) | (refine row_snoc' ?_) | exact MImp.refl _ | exact cimp_none | exact cimp_same | exact List.not_mem_nil | exact DImp.refl _) | exact rfl | (refine And.intro ?_ ?_) | exact ImpS.refl _
      intro j hj2
      have h : ∀ f g : Nat → DV, CImp (g 0) (int (L.getD 0 0)) → CImp (apd 0 f g j) (rowOf int 0 (L.take (0 + 1)) j) := fun f g hg => by
        rw [show L.take (0 + 1) = [L.getD 0 0] from ht]
        exact row_first hg j hj2
      exact h _ _ ⟨rfl, rfl⟩
    | succ k =>
      conv => whnf
      repeat' first | ((first | refine Ob.a ?_ | refine Sp.tt ?_ | refine Sp.ff ?_ | refine Sp.yes ?_ | refine Sp.no ?_ | refine Sp.nyes ?_ | refine Sp.nno ?_);conv=>whnf) | (refine Sp.ne (fun hc => ?_) (fun hc => ?_) <;> (conv=>whnf)) | (refine Sp.dec (fun hc => ?_) (fun hc => ?_) <;> (conv=>whnf)) | (refine Sp.ndec (fun hc => ?_) (fun hc => ?_) <;> (conv=>whnf)) | (refine Sp.mk (fun hc => ?_) (fun hc => ?_) <;> (conv=>whnf)) | (refine Nx.mk (fun ka kb kx hx hs => ?_) (fun he => ?_) <;> (conv=>whnf)) | (refine Nx.mk (fun ka kx hx hs => ?_) (fun he => ?_) <;> (conv=>whnf)) | (refine Uk.mk (fun hn => ?_) ?_ <;> (conv=>whnf)) | (refine Fi.a ?_;conv=>whnf) | (refine Yl.a ?_ ?_ <;> (conv=>whnf)) | (refine Ob.b ?_;conv=>whnf)
      refine ⟨rfl, ⟨k + 1 + 1, hj⟩, rfl, ?_⟩
      conv => whnf
      repeat' first | (refine Edge.fast ?_) | ((conv=>whnf); first | exact True.intro | (refine And.intro ?_ ?_) | exact rfl | exact Nat.le_of_eq (Nat.zero_add _) | exact ImpS.refl _ | ((conv => arg 1; whnf); first | exact ImpS.refl _ | (refine ImpS.nil_eq ?_) | (refine ImpS.vnil_eq ?_) | (refine ImpS.row ?_) | (refine ImpS.rowN ?_ ?_) | (refine ImpS.sl_eq ?_) | (refine ImpS.expl rfl ?_)) | (refine row_snoc' ?_) | exact MImp.refl _ | exact cimp_none | exact cimp_same | exact List.not_mem_nil | exact DImp.refl _) | exact rfl | (refine And.intro ?_ ?_) | exact ImpS.refl _
      intro j hj2
      have h : ∀ g : Nat → DV, CImp (g 0) (int (L.getD (k + 1) 0)) → CImp (apd (k + 1) (rowOf int 0 (L.take (k + 1))) g j) (rowOf int 0 (L.take (k + 1 + 1)) j) := fun g hg => by
        have := row_snoc' (d := 0) (l := L.take (k + 1)) hg j (by rw [List.length_append, hln]; exact hj2)
        rw [hln] at this
        rw [ht]; exact this
      exact h _ ⟨rfl, rfl⟩
  · rintro ⟨k, hk⟩ hkn
    simp only at hkn
    subst hkn
    cases L with
    | nil =>
      conv => whnf
      repeat' first | ((first | refine Ob.a ?_ | refine Sp.tt ?_ | refine Sp.ff ?_ | refine Sp.yes ?_ | refine Sp.no ?_ | refine Sp.nyes ?_ | refine Sp.nno ?_);conv=>whnf) | (refine Sp.ne (fun hc => ?_) (fun hc => ?_) <;> (conv=>whnf)) | (refine Sp.dec (fun hc => ?_) (fun hc => ?_) <;> (conv=>whnf)) | (refine Sp.ndec (fun hc => ?_) (fun hc => ?_) <;> (conv=>whnf)) | (refine Sp.mk (fun hc => ?_) (fun hc => ?_) <;> (conv=>whnf)) | (refine Nx.mk (fun ka kb kx hx hs => ?_) (fun he => ?_) <;> (conv=>whnf)) | (refine Nx.mk (fun ka kx hx hs => ?_) (fun he => ?_) <;> (conv=>whnf)) | (refine Uk.mk (fun hn => ?_) ?_ <;> (conv=>whnf)) | (refine Fi.a ?_;conv=>whnf) | (refine Yl.a ?_ ?_ <;> (conv=>whnf)) | (refine Ob.b ?_;conv=>whnf)
      exact Lf
    | cons x L =>
      have e : (x :: L).take (L.length + 1) = x :: L := List.take_of_length_le (by simp)
      conv => whnf
      repeat' first | ((first | refine Ob.a ?_ | refine Sp.tt ?_ | refine Sp.ff ?_ | refine Sp.yes ?_ | refine Sp.no ?_ | refine Sp.nyes ?_ | refine Sp.nno ?_);conv=>whnf) | (refine Sp.ne (fun hc => ?_) (fun hc => ?_) <;> (conv=>whnf)) | (refine Sp.dec (fun hc => ?_) (fun hc => ?_) <;> (conv=>whnf)) | (refine Sp.ndec (fun hc => ?_) (fun hc => ?_) <;> (conv=>whnf)) | (refine Sp.mk (fun hc => ?_) (fun hc => ?_) <;> (conv=>whnf)) | (refine Nx.mk (fun ka kb kx hx hs => ?_) (fun he => ?_) <;> (conv=>whnf)) | (refine Nx.mk (fun ka kx hx hs => ?_) (fun he => ?_) <;> (conv=>whnf)) | (refine Uk.mk (fun hn => ?_) ?_ <;> (conv=>whnf)) | (refine Fi.a ?_;conv=>whnf) | (refine Yl.a ?_ ?_ <;> (conv=>whnf)) | (refine Ob.b ?_;conv=>whnf)
      conv => whnf
      conv => arg 1; whnf
      exact ImpS.rowD rfl fun j _ => by
        show rowOf int 0 (List.take (L.length + 1) (x :: L)) (0 + j) = _
        rw [Nat.zero_add, e]; rfl
  · exact Lf
theorem better_spec (r : Row) (a b : Int) (ha : 0 ≤ a ∧ a < r.lots.length) (hb : 0 ≤ b ∧ b < r.lots.length) : Fn Try.prog 80 [int a, int b, .pt (rowD r) 0] (bool (decide (hiN r b.toNat < hiN r a.toNat))) := by
  have e : decide (hiN r b.toNat < hiN r a.toNat) = decide ((r.lots.getD b.toNat default).hi < (r.lots.getD a.toNat default).hi) := rfl
  rw [e]
  refine Fn.of_ex (cuts := []) tys hM Try.func80 rfl Try.call80 rfl ?_
  show exC Try.prog T [] _ false none 0 (entry 19 [int a, int b, DV.pt (rowD r) 0]) (finQ T [ResultVar.tmp 5] _)
  conv => whnf
  repeat' first | ((first | refine Ob.a ?_ | refine Sp.tt ?_ | refine Sp.ff ?_ | refine Sp.yes ?_ | refine Sp.no ?_ | refine Sp.nyes ?_ | refine Sp.nno ?_);conv=>whnf) | (refine Sp.ne (fun hc => ?_) (fun hc => ?_) <;> (conv=>whnf)) | (refine Sp.dec (fun hc => ?_) (fun hc => ?_) <;> (conv=>whnf)) | (refine Sp.ndec (fun hc => ?_) (fun hc => ?_) <;> (conv=>whnf)) | (refine Sp.mk (fun hc => ?_) (fun hc => ?_) <;> (conv=>whnf)) | (refine Nx.mk (fun ka kb kx hx hs => ?_) (fun he => ?_) <;> (conv=>whnf)) | (refine Nx.mk (fun ka kx hx hs => ?_) (fun he => ?_) <;> (conv=>whnf)) | (refine Uk.mk (fun hn => ?_) ?_ <;> (conv=>whnf)) | (refine Fi.a ?_;conv=>whnf) | (refine Yl.a ?_ ?_ <;> (conv=>whnf)) | (refine Ob.b ?_;conv=>whnf)
  all_goals exact Lf
set_option maxHeartbeats 8000000 in
theorem best_spec (l : List Int) (g : Nat) (c : Nat → DV) (p : Int → Int → Bool) (h0 : 0 < l.length) (h1 : l.length < 1000000) (hp : ∀ x ∈ l, ∀ y ∈ l, Fn Try.prog g [int x, int y, c 0] (bool (p x y))) : Fn Try.prog 78 [ints l, .fn g 0 1 (fun _ => .top) c] (int (bestF p l)) := by
  generalize hfin : bestF p l = fin
  refine Fn.of_ex (cuts := []) tys hM Try.func78 rfl Try.call78 rfl ?_
  show exC Try.prog T [] _ false none 0 (entry 25 [ints l, .fn g 0 1 (fun _ => .top) c]) (finQ T [ResultVar.tmp 4] _)
  conv => whnf
  repeat' first | ((first | refine Ob.a ?_ | refine Sp.tt ?_ | refine Sp.ff ?_ | refine Sp.yes ?_ | refine Sp.no ?_ | refine Sp.nyes ?_ | refine Sp.nno ?_);conv=>whnf) | (refine Sp.ne (fun hc => ?_) (fun hc => ?_) <;> (conv=>whnf)) | (refine Sp.dec (fun hc => ?_) (fun hc => ?_) <;> (conv=>whnf)) | (refine Sp.ndec (fun hc => ?_) (fun hc => ?_) <;> (conv=>whnf)) | (refine Sp.mk (fun hc => ?_) (fun hc => ?_) <;> (conv=>whnf)) | (refine Nx.mk (fun ka kb kx hx hs => ?_) (fun he => ?_) <;> (conv=>whnf)) | (refine Nx.mk (fun ka kx hx hs => ?_) (fun he => ?_) <;> (conv=>whnf)) | (refine Uk.mk (fun hn => ?_) ?_ <;> (conv=>whnf)) | (refine Fi.a ?_;conv=>whnf) | (refine Yl.a ?_ ?_ <;> (conv=>whnf)) | (refine Ob.b ?_;conv=>whnf)
  refine Lp.snap [0, 1, 4, 12, 13, 24] 40 ?_
  (conv=>whnf)
  refine LpB.go 25 ({q : Int × Int // (0 ≤ q.1 ∧ q.1 ≤ l.length - 1) ∧ q.2 = ((l.drop 1).take q.1.toNat).foldl (fun out x => if p x out = true then x else out) (l.getD 0 0) ∧ q.2 ∈ l}) 0 (fun ⟨(i, o), _⟩ nx => ([(14, .d (int i)), (5, .d (int o))], [])) (fun p => (l.length - p.1.1).toNat) (⟨(0, l.getD 0 0), ⟨by simp, by simp only; omega⟩, rfl, getD_mem h0 0⟩) ?_ ?_
  · rintro ⟨⟨i, o⟩, ⟨i0, i1⟩, ho, hom⟩
    simp only at i0 i1 ho hom
    by_cases hil : i < l.length - 1
    · have hx : l.getD (Int.toNat 1 + i.toNat) 0 ∈ l := getD_mem (by simp; omega) 0
      have hs := bestF_step p l (j := i.toNat) (by omega)
      rw [← ho, show i.toNat + 1 = Int.toNat 1 + i.toNat by simp; omega] at hs
      have hp := hp _ hx _ hom
      have hi1 : Int.toNat 1 + i.toNat = (i + 1).toNat := by simp; omega
      cases hb : p (l.getD (Int.toNat 1 + i.toNat) 0) o with
      | true =>
        rw [hb] at hp
        simp only [hb, if_true] at hs
        have e : l.getD (Int.toNat 1 + i.toNat) 0 = ((l.drop 1).take (i + 1).toNat).foldl (fun out x => if p x out = true then x else out) (l.getD 0 0) := by rw [← hi1, hs]
        conv => whnf
        repeat' first | ((first | refine Ob.a ?_ | refine Sp.tt ?_ | refine Sp.ff ?_ | refine Sp.yes ?_ | refine Sp.no ?_ | refine Sp.nyes ?_ | refine Sp.nno ?_);conv=>whnf) | (refine Sp.ne (fun hc => ?_) (fun hc => ?_) <;> (conv=>whnf)) | (refine Sp.dec (fun hc => ?_) (fun hc => ?_) <;> (conv=>whnf)) | (refine Sp.ndec (fun hc => ?_) (fun hc => ?_) <;> (conv=>whnf)) | (refine Sp.mk (fun hc => ?_) (fun hc => ?_) <;> (conv=>whnf)) | (apply Cl.go;(conv=>whnf); (first | refine Ob.call (hp) ?_);(conv=>whnf)) | (refine Nx.mk (fun ka kb kx hx hs => ?_) (fun he => ?_) <;> (conv=>whnf)) | (refine Nx.mk (fun ka kx hx hs => ?_) (fun he => ?_) <;> (conv=>whnf)) | (refine Uk.mk (fun hn => ?_) ?_ <;> (conv=>whnf)) | (refine Fi.a ?_;conv=>whnf) | (refine Yl.a ?_ ?_ <;> (conv=>whnf)) | (refine Ob.b ?_;conv=>whnf)
        all_goals exact ⟨rfl, ⟨(i + 1, l.getD (Int.toNat 1 + i.toNat) 0), ⟨by simp only; omega, by simp only; omega⟩, e, hx⟩, Lf, by simp only; omega⟩
      | false =>
        rw [hb] at hp
        simp only [hb, Bool.false_eq_true, if_false] at hs
        have e : o = ((l.drop 1).take (i + 1).toNat).foldl (fun out x => if p x out = true then x else out) (l.getD 0 0) := by rw [← hi1, hs]
        conv => whnf
        repeat' first | ((first | refine Ob.a ?_ | refine Sp.tt ?_ | refine Sp.ff ?_ | refine Sp.yes ?_ | refine Sp.no ?_ | refine Sp.nyes ?_ | refine Sp.nno ?_);conv=>whnf) | (refine Sp.ne (fun hc => ?_) (fun hc => ?_) <;> (conv=>whnf)) | (refine Sp.dec (fun hc => ?_) (fun hc => ?_) <;> (conv=>whnf)) | (refine Sp.ndec (fun hc => ?_) (fun hc => ?_) <;> (conv=>whnf)) | (refine Sp.mk (fun hc => ?_) (fun hc => ?_) <;> (conv=>whnf)) | (apply Cl.go;(conv=>whnf); (first | refine Ob.call (hp) ?_);(conv=>whnf)) | (refine Nx.mk (fun ka kb kx hx hs => ?_) (fun he => ?_) <;> (conv=>whnf)) | (refine Nx.mk (fun ka kx hx hs => ?_) (fun he => ?_) <;> (conv=>whnf)) | (refine Uk.mk (fun hn => ?_) ?_ <;> (conv=>whnf)) | (refine Fi.a ?_;conv=>whnf) | (refine Yl.a ?_ ?_ <;> (conv=>whnf)) | (refine Ob.b ?_;conv=>whnf)
        all_goals exact ⟨rfl, ⟨(i + 1, o), ⟨by simp only; omega, by simp only; omega⟩, e, hom⟩, Lf, by simp only; omega⟩
    · have e : o = fin := by rw [ho, ← hfin, List.take_of_length_le (by simp; omega)]; rfl
      conv => whnf
      repeat' first | ((first | refine Ob.a ?_ | refine Sp.tt ?_ | refine Sp.ff ?_ | refine Sp.yes ?_ | refine Sp.no ?_ | refine Sp.nyes ?_ | refine Sp.nno ?_);conv=>whnf) | (refine Sp.ne (fun hc => ?_) (fun hc => ?_) <;> (conv=>whnf)) | (refine Sp.dec (fun hc => ?_) (fun hc => ?_) <;> (conv=>whnf)) | (refine Sp.ndec (fun hc => ?_) (fun hc => ?_) <;> (conv=>whnf)) | (refine Sp.mk (fun hc => ?_) (fun hc => ?_) <;> (conv=>whnf)) | (refine Nx.mk (fun ka kb kx hx hs => ?_) (fun he => ?_) <;> (conv=>whnf)) | (refine Nx.mk (fun ka kx hx hs => ?_) (fun he => ?_) <;> (conv=>whnf)) | (refine Uk.mk (fun hn => ?_) ?_ <;> (conv=>whnf)) | (refine Fi.a ?_;conv=>whnf) | (refine Yl.a ?_ ?_ <;> (conv=>whnf)) | (refine Ob.b ?_;conv=>whnf)
      exact Lf
  · exact Lf
end Go.Px.Try

/-! Pp15 -/
namespace Go.Px.Try
open Go Go.Proofs Go.Px
set_option maxRecDepth 100000
theorem collect_hav (r : Row) (p : Int) (hl : r.lots.length < 1000000) : Fn Try.prog 79 [havF r p] (ints (havingL r p)) := by
  have hc := appendSeq_hav r p hl
  generalize havingL r p = L at *
  refine Fn.of_ex (cuts := []) tys hM Try.func79 rfl Try.call79 rfl ?_
  show exC Try.prog T [] _ false none 0 (entry 5 [havF r p]) (finQ T [ResultVar.tmp 2] _)
  conv => whnf
  repeat' first | ((first | refine Ob.a ?_ | refine Sp.tt ?_ | refine Sp.ff ?_ | refine Sp.yes ?_ | refine Sp.no ?_ | refine Sp.nyes ?_ | refine Sp.nno ?_);conv=>whnf) | (refine Sp.ne (fun hc => ?_) (fun hc => ?_) <;> (conv=>whnf)) | (refine Sp.dec (fun hc => ?_) (fun hc => ?_) <;> (conv=>whnf)) | (refine Sp.ndec (fun hc => ?_) (fun hc => ?_) <;> (conv=>whnf)) | (refine Sp.mk (fun hc => ?_) (fun hc => ?_) <;> (conv=>whnf)) | (apply Cl.go;(conv=>whnf); (first | refine Ob.call (hc) ?_);(conv=>whnf)) | (refine Nx.mk (fun ka kb kx hx hs => ?_) (fun he => ?_) <;> (conv=>whnf)) | (refine Nx.mk (fun ka kx hx hs => ?_) (fun he => ?_) <;> (conv=>whnf)) | (refine Uk.mk (fun hn => ?_) ?_ <;> (conv=>whnf)) | (refine Fi.a ?_;conv=>whnf) | (refine Yl.a ?_ ?_ <;> (conv=>whnf)) | (refine Ob.b ?_;conv=>whnf)
  all_goals exact Lf
def fewestPR (r : Row) : List Int × Int := if rowError r ≠ 0 then ([], rowError r) else (fewestP r, 0)
theorem fewS_succ (r : Row) (k : Nat) : fewS r (k + 1) = if r.weak.getD k 0 ≤ (fewS r k).2 then fewS r k else ((fewS r k).1 ++ [bestF (farP r) (havingL r (r.weak.getD k 0))], hiN r (bestF (farP r) (havingL r (r.weak.getD k 0))).toNat) := rfl
theorem fewS_len (r : Row) : ∀ k, (fewS r k).1.length ≤ k
  | 0 => Nat.le_refl _
  | k + 1 => by
    have := fewS_len r k
    rw [fewS_succ]
    split
    · omega
    · simp; omega
set_option maxHeartbeats 16000000 in
theorem FewestP_spec (r : Row) (h1 : r.lots.length < 1000000) (h2 : r.weak.length < 1000000) : Fn Try.prog 39 [rowD r] (tpl [ints (fewestPR r).1, int (fewestPR r).2]) := by
  by_cases he : rowError r = 0
  case neg =>
    have hx := explained_err r h1 h2 he
    have e : fewestPR r = ([], rowError r) := if_pos he
    rw [e]
    generalize rowError r = n at *
    refine Fn.of_ex (cuts := []) tys hM Try.func39 rfl Try.call39 rfl ?_
    show exC Try.prog T [] _ false none 0 (entry 58 [rowD r]) (finQ T [ResultVar.tmp 2, ResultVar.tmp 3] _)
    conv => whnf
    repeat' first | ((first | refine Ob.a ?_ | refine Sp.tt ?_ | refine Sp.ff ?_ | refine Sp.yes ?_ | refine Sp.no ?_ | refine Sp.nyes ?_ | refine Sp.nno ?_);conv=>whnf) | (refine Sp.ne (fun hc => ?_) (fun hc => ?_) <;> (conv=>whnf)) | (refine Sp.dec (fun hc => ?_) (fun hc => ?_) <;> (conv=>whnf)) | (refine Sp.ndec (fun hc => ?_) (fun hc => ?_) <;> (conv=>whnf)) | (refine Sp.mk (fun hc => ?_) (fun hc => ?_) <;> (conv=>whnf)) | (apply Cl.go;(conv=>whnf); (first | refine Ob.call (hx) ?_);(conv=>whnf)) | (refine Nx.mk (fun ka kb kx hx hs => ?_) (fun he => ?_) <;> (conv=>whnf)) | (refine Nx.mk (fun ka kx hx hs => ?_) (fun he => ?_) <;> (conv=>whnf)) | (refine Uk.mk (fun hn => ?_) ?_ <;> (conv=>whnf)) | (refine Fi.a ?_;conv=>whnf) | (refine Yl.a ?_ ?_ <;> (conv=>whnf)) | (refine Ob.b ?_;conv=>whnf)
    all_goals exact Lf
  have hx := explained_ok r h1 h2 he
  obtain ⟨hr, hS⟩ := rowError_ok.1 he
  have h12 := hr.w12
  have e : fewestPR r = (srtL (fewS r r.weak.length).1, 0) := if_neg (not_not_intro he)
  rw [e]
  have hfl := fewS_len r
  have hfs := fewS_succ r
  have hf0 : fewS r 0 = ([], -1) := rfl
  have hfr := fun k hk => (fewS_ok hr hS k hk).rng
  generalize (leastP r).1 = n at *
  generalize fewS r = F at *
  refine Fn.of_ex (cuts := []) tys hM Try.func39 rfl Try.call39 rfl ?_
  show exC Try.prog T [] _ false none 0 (entry 58 [rowD r]) (finQ T [ResultVar.tmp 2, ResultVar.tmp 3] _)
  conv => whnf
  repeat' first | ((first | refine Ob.a ?_ | refine Sp.tt ?_ | refine Sp.ff ?_ | refine Sp.yes ?_ | refine Sp.no ?_ | refine Sp.nyes ?_ | refine Sp.nno ?_);conv=>whnf) | (refine Sp.ne (fun hc => ?_) (fun hc => ?_) <;> (conv=>whnf)) | (refine Sp.dec (fun hc => ?_) (fun hc => ?_) <;> (conv=>whnf)) | (refine Sp.ndec (fun hc => ?_) (fun hc => ?_) <;> (conv=>whnf)) | (refine Sp.mk (fun hc => ?_) (fun hc => ?_) <;> (conv=>whnf)) | (apply Cl.go;(conv=>whnf); (first | refine Ob.call (hx) ?_);(conv=>whnf)) | (refine Nx.mk (fun ka kb kx hx hs => ?_) (fun he => ?_) <;> (conv=>whnf)) | (refine Nx.mk (fun ka kx hx hs => ?_) (fun he => ?_) <;> (conv=>whnf)) | (refine Uk.mk (fun hn => ?_) ?_ <;> (conv=>whnf)) | (refine Fi.a ?_;conv=>whnf) | (refine Yl.a ?_ ?_ <;> (conv=>whnf)) | (refine Ob.b ?_;conv=>whnf)
  refine Lp.snap [0, 1, 2, 3, 4, 12, 23, 24, 49, 50, 51, 52, 53, 55, 57] 40 ?_
  (conv=>whnf)
  refine LpB.go 58 ({q : Int × List Int × Int // (0 ≤ q.1 ∧ q.1 ≤ r.weak.length) ∧ q.2 = F q.1.toNat}) 0 (fun ⟨(k, o, e), _⟩ nx => ([(25, .d (int k)), (7, .ms 14 1 0 o.length), (8, .d (int e))], [(14, .row true 3 1 o.length (rowOf int 0 o))])) (fun p => (r.weak.length - p.1.1).toNat) (⟨(0, [], -1), ⟨by simp, by simp⟩, hf0.symm⟩) ?_ ?_
  · rintro ⟨⟨k, o, e⟩, ⟨k0, k1⟩, hF⟩
    simp only at k0 k1 hF
    have hol : o.length ≤ k := by have := hfl k.toNat; rw [← hF] at this; simp only at this; omega
    by_cases hkl : k < r.weak.length
    · have hfs := hfs k.toNat
      rw [← hF, show k.toNat + 1 = (k + 1).toNat by omega] at hfs
      simp only at hfs
      by_cases hw : r.weak.getD k.toNat 0 ≤ e
      · rw [if_pos hw] at hfs
        conv => whnf
        repeat' first | ((first | refine Ob.a ?_ | refine Sp.tt ?_ | refine Sp.ff ?_ | refine Sp.yes ?_ | refine Sp.no ?_ | refine Sp.nyes ?_ | refine Sp.nno ?_);conv=>whnf) | (refine Sp.ne (fun hc => ?_) (fun hc => ?_) <;> (conv=>whnf)) | (refine Sp.dec (fun hc => ?_) (fun hc => ?_) <;> (conv=>whnf)) | (refine Sp.ndec (fun hc => ?_) (fun hc => ?_) <;> (conv=>whnf)) | (refine Sp.mk (fun hc => ?_) (fun hc => ?_) <;> (conv=>whnf)) | (refine Nx.mk (fun ka kb kx hx hs => ?_) (fun he => ?_) <;> (conv=>whnf)) | (refine Nx.mk (fun ka kx hx hs => ?_) (fun he => ?_) <;> (conv=>whnf)) | (refine Uk.mk (fun hn => ?_) ?_ <;> (conv=>whnf)) | (refine Fi.a ?_;conv=>whnf) | (refine Yl.a ?_ ?_ <;> (conv=>whnf)) | (refine Ob.b ?_;conv=>whnf)
        all_goals exact ⟨rfl, ⟨(k + 1, o, e), ⟨by simp only; omega, by simp only; omega⟩, hfs.symm⟩, Lf, by simp only; omega⟩
      · rw [if_neg hw] at hfs
        have hv := having_spec r (r.weak.getD k.toNat 0)
        have hc := collect_hav r (r.weak.getD k.toNat 0) h1
        have hmem : ∀ x ∈ havingL r (r.weak.getD k.toNat 0), 0 ≤ x ∧ x < r.lots.length := fun x hx => (having_mem.1 hx).1
        have hne : 0 < (havingL r (r.weak.getD k.toNat 0)).length := by
          obtain ⟨S, hS⟩ := hS
          obtain ⟨i, h1, _, h3⟩ := hS _ (getD_mem (i := k.toNat) (by omega) 0)
          exact List.length_pos_iff_exists_mem.2 ⟨_, mem_having.2 ⟨i, h1, h3, rfl⟩⟩
        have hll : (havingL r (r.weak.getD k.toNat 0)).length < 1000000 := by
          refine Nat.lt_of_le_of_lt ?_ h1
          exact Nat.le_trans (Nat.le_of_eq (List.length_map ..)) (Nat.le_trans (List.length_filter_le _ _) (by simp))
        have hb := best_spec (havingL r (r.weak.getD k.toNat 0)) 80 (fun _ => .pt (rowD r) 0) (farP r) hne hll (fun x hx y hy => better_spec r x y (hmem x hx) (hmem y hy))
        have hi := hmem _ (bestF_far r hne).1
        generalize bestF (farP r) (havingL r (r.weak.getD k.toNat 0)) = i at *
        conv => whnf
        repeat' first | ((first | refine Ob.a ?_ | refine Sp.tt ?_ | refine Sp.ff ?_ | refine Sp.yes ?_ | refine Sp.no ?_ | refine Sp.nyes ?_ | refine Sp.nno ?_);conv=>whnf) | (refine Sp.ne (fun hc => ?_) (fun hc => ?_) <;> (conv=>whnf)) | (refine Sp.dec (fun hc => ?_) (fun hc => ?_) <;> (conv=>whnf)) | (refine Sp.ndec (fun hc => ?_) (fun hc => ?_) <;> (conv=>whnf)) | (refine Sp.mk (fun hc => ?_) (fun hc => ?_) <;> (conv=>whnf)) | (apply Cl.go;(conv=>whnf); (first | refine Ob.call (hv) ?_ | refine Ob.call (hc) ?_ | refine Ob.call (hb) ?_);(conv=>whnf)) | (refine Nx.mk (fun ka kb kx hx hs => ?_) (fun he => ?_) <;> (conv=>whnf)) | (refine Nx.mk (fun ka kx hx hs => ?_) (fun he => ?_) <;> (conv=>whnf)) | (refine Uk.mk (fun hn => ?_) ?_ <;> (conv=>whnf)) | (refine Fi.a ?_;conv=>whnf) | (refine Yl.a ?_ ?_ <;> (conv=>whnf)) | (refine Ob.b ?_;conv=>whnf)
        all_goals exact ⟨rfl, ⟨(k + 1, o ++ [i], hiN r i.toNat), ⟨by simp only; omega, by simp only; omega⟩, hfs.symm⟩, Lf, by simp only; omega⟩
    · have e1 : (F r.weak.length).1 = o := by rw [show r.weak.length = k.toNat by omega, ← hF]
      rw [e1]
      conv => whnf
      repeat' first | ((first | refine Ob.a ?_ | refine Sp.tt ?_ | refine Sp.ff ?_ | refine Sp.yes ?_ | refine Sp.no ?_ | refine Sp.nyes ?_ | refine Sp.nno ?_);conv=>whnf) | (refine Sp.ne (fun hc => ?_) (fun hc => ?_) <;> (conv=>whnf)) | (refine Sp.dec (fun hc => ?_) (fun hc => ?_) <;> (conv=>whnf)) | (refine Sp.ndec (fun hc => ?_) (fun hc => ?_) <;> (conv=>whnf)) | (refine Sp.mk (fun hc => ?_) (fun hc => ?_) <;> (conv=>whnf)) | (refine Nx.mk (fun ka kb kx hx hs => ?_) (fun he => ?_) <;> (conv=>whnf)) | (refine Nx.mk (fun ka kx hx hs => ?_) (fun he => ?_) <;> (conv=>whnf)) | (refine Uk.mk (fun hn => ?_) ?_ <;> (conv=>whnf)) | (refine Fi.a ?_;conv=>whnf) | (refine Yl.a ?_ ?_ <;> (conv=>whnf)) | (refine Ob.b ?_;conv=>whnf)
      have hle : o.length ≤ 12 := by omega
      refine Cl.go (.ag 0 fun j => int ((srtL o).getD j 0)) ?_
      conv => whnf
      refine Ob.b ?_ ?_
      rotate_left
      · conv => whnf
        refine ⟨⟨by omega, o, by omega, by omega, fun j hj => ?_, fun j _ => rfl⟩, sortC⟩
        unfold mid rowOf
        rw [if_pos ⟨by omega, by omega⟩]
        simp
      conv => whnf
      repeat' first | ((first | refine Ob.a ?_ | refine Sp.tt ?_ | refine Sp.ff ?_ | refine Sp.yes ?_ | refine Sp.no ?_ | refine Sp.nyes ?_ | refine Sp.nno ?_);conv=>whnf) | (refine Sp.ne (fun hc => ?_) (fun hc => ?_) <;> (conv=>whnf)) | (refine Sp.dec (fun hc => ?_) (fun hc => ?_) <;> (conv=>whnf)) | (refine Sp.ndec (fun hc => ?_) (fun hc => ?_) <;> (conv=>whnf)) | (refine Sp.mk (fun hc => ?_) (fun hc => ?_) <;> (conv=>whnf)) | (refine Nx.mk (fun ka kb kx hx hs => ?_) (fun he => ?_) <;> (conv=>whnf)) | (refine Nx.mk (fun ka kx hx hs => ?_) (fun he => ?_) <;> (conv=>whnf)) | (refine Uk.mk (fun hn => ?_) ?_ <;> (conv=>whnf)) | (refine Fi.a ?_;conv=>whnf) | (refine Yl.a ?_ ?_ <;> (conv=>whnf)) | (refine Ob.b ?_;conv=>whnf)
      have hsl : (srtL o).length = o.length := srtL_len o
      refine ⟨rfl, ?_⟩
      conv => whnf
      refine ⟨⟨trivial, ?_⟩, ⟨rfl, rfl⟩⟩
      conv => whnf
      conv => arg 1; whnf
      refine ImpS.rowD (by show (↑o.length : Int).toNat = (srtL o).length; omega) fun j hj => ?_
      show mid 0 _ _ _ (0 + j) = _
      unfold mid
      rw [if_pos ⟨by omega, by omega⟩]
      show int ((srtL o).getD (0 + j - 0) 0) = _
      rw [Nat.zero_add, Nat.sub_zero]
  · exact Lf
end Go.Px.Try

/-! Pp7 -/
namespace Go.Px.Try
open Go Go.Proofs Go.Px
set_option maxRecDepth 100000
/-- Marks with one more. -/
theorem marks_put {B : Nat → Bool} {i : Nat} {w : DV} (hw : w = int 1) : ∀ j, j < 10 → CImp (upE i w (fun j => int (mk B j)) j) (int (mk (adj B i) j)) := by
  subst hw
  intro j _
  unfold upE mk adj
  by_cases e : j = i
  · rw [if_pos e, if_pos e, if_pos rfl]; exact ⟨rfl, rfl⟩
  · rw [if_neg e, if_neg e]; exact ⟨rfl, rfl⟩
theorem woB_succ_in {i : Nat} {out : List Nat} : ∀ j, woB (i + 1) (out ++ [i]) j = woB i out j := fun j => by
  unfold woB
  by_cases e : j = i
  · subst e; simp
  · have : (out ++ [i]).contains j = out.contains j := by
      cases h : out.contains j with
      | true => exact List.contains_iff_mem.2 (List.mem_append_left _ (List.contains_iff_mem.1 h))
      | false =>
        cases h2 : (out ++ [i]).contains j with
        | false => rfl
        | true =>
          rcases List.mem_append.1 (List.contains_iff_mem.1 h2) with h3 | h3
          · rw [List.contains_iff_mem.2 h3] at h; cases h
          · exact absurd (List.mem_singleton.1 h3) e
    rw [this]
    congr 1
    exact decide_eq_decide.2 (by omega)
theorem woB_succ_out {i : Nat} {out : List Nat} (h : ∀ x ∈ out, x < i) : ∀ j, woB (i + 1) out j = adj (woB i out) i j := fun j => by
  unfold woB adj
  by_cases e : j = i
  · subst e
    rw [if_pos rfl]
    have : out.contains j = false := by
      cases h2 : out.contains j with
      | false => rfl
      | true => have := h j (List.contains_iff_mem.1 h2); omega
    rw [this]; simp
  · rw [if_neg e]
    congr 1
    exact decide_eq_decide.2 (by omega)
theorem lotsGo_lt (r : Row) (opt : Int) : ∀ i, (∀ x ∈ lotsGo r opt i, x < i) ∧ (lotsGo r opt i).length ≤ i
  | 0 => ⟨fun x hx => (by cases hx), Nat.le_refl _⟩
  | i + 1 => by
    obtain ⟨h1, h2⟩ := lotsGo_lt r opt i
    rw [lotsGo]
    split
    · refine ⟨fun x hx => ?_, by simp; exact h2⟩
      rcases List.mem_append.1 hx with hx | hx
      · have := h1 x hx; omega
      · have := List.mem_singleton.1 hx; omega
    · exact ⟨fun x hx => by have := h1 x hx; omega, by omega⟩
theorem castL_snoc (l : List Nat) (i : Nat) : castL (l ++ [i]) = castL l ++ [(i : Int)] := by simp [castL]
theorem mk_congr {B B' : Nat → Bool} (h : ∀ j, B j = B' j) : B = B' := funext h
/-- A list of one's own that was cut, and grew at its end. -/
theorem ImpS.appd2 {α : Type} {t : Bool} {k n o : Nat} {enc : α → DV} {d : α} {L : List α} {x : α} {g : Nat → DV} (hn : n = L.length + 1) (ho : o = L.length) (hg : g 0 = enc x) : ImpS (.sl t k n fun i => apd o (fun j => rowOf enc d L (0 + j)) g (0 + i)) (slOf k enc d (L ++ [x])) := by
  subst ho; subst hn
  refine ⟨Imp.sl (fun e => by cases e) (by simp) fun j hj => Imp.of_eq ?_⟩
  rw [Nat.zero_add]
  unfold apd
  by_cases h : j < L.length
  · rw [if_pos h]
    show enc (L.getD (0 + j) d) = _
    rw [Nat.zero_add, List.getD_eq_getElem?_getD, List.getD_eq_getElem?_getD, List.getElem?_append_left h]
  · have : j = L.length := by omega
    subst this
    rw [if_neg h, Nat.sub_self, hg, List.getD_eq_getElem?_getD, List.getElem?_append_right (Nat.le_refl _)]
    simp
def lotsPR (r : Row) : List Int × Int := if rowError r ≠ 0 then ([], rowError r) else (castL (lotsGo r (leastP r).1 r.lots.length), 0)
theorem lotsPR_eq (r : Row) : lotsPR r = lotsR r := by
  unfold lotsPR lotsR
  by_cases he : rowError r = 0
  · rw [if_neg (not_not_intro he), if_neg (not_not_intro he)]
    obtain ⟨hr, hS⟩ := rowError_ok.1 he
    rw [← headD_getD, ← lots_eq hr ((leastP_ok hr).1.2 hS)]
    rfl
  · rw [if_pos he, if_pos he]
set_option maxHeartbeats 16000000 in
theorem LotsP_spec (r : Row) (h1 : r.lots.length < 1000000) (h2 : r.weak.length < 1000000) : Fn Try.prog 28 [rowD r] (tpl [ints (lotsPR r).1, int (lotsPR r).2]) := by
  by_cases he : rowError r = 0
  case neg =>
    have hx := explained_err r h1 h2 he
    have e : lotsPR r = ([], rowError r) := if_pos he
    rw [e]
    generalize rowError r = n at *
    refine Fn.of_ex (cuts := []) tys hM Try.func28 rfl Try.call28 rfl ?_
    show exC Try.prog T [] _ false none 0 (entry 55 [rowD r]) (finQ T [ResultVar.tmp 2, ResultVar.tmp 3] _)
    conv => whnf
    repeat' first | ((first | refine Ob.a ?_ | refine Sp.tt ?_ | refine Sp.ff ?_ | refine Sp.yes ?_ | refine Sp.no ?_ | refine Sp.nyes ?_ | refine Sp.nno ?_);conv=>whnf) | (refine Sp.ne (fun hc => ?_) (fun hc => ?_) <;> (conv=>whnf)) | (refine Sp.dec (fun hc => ?_) (fun hc => ?_) <;> (conv=>whnf)) | (refine Sp.ndec (fun hc => ?_) (fun hc => ?_) <;> (conv=>whnf)) | (refine Sp.mk (fun hc => ?_) (fun hc => ?_) <;> (conv=>whnf)) | (apply Cl.go;(conv=>whnf); (first | refine Ob.call (hx) ?_);(conv=>whnf)) | (refine Nx.mk (fun ka kb kx hx hs => ?_) (fun he => ?_) <;> (conv=>whnf)) | (refine Nx.mk (fun ka kx hx hs => ?_) (fun he => ?_) <;> (conv=>whnf)) | (refine Uk.mk (fun hn => ?_) ?_ <;> (conv=>whnf)) | (refine Fi.a ?_;conv=>whnf) | (refine Yl.a ?_ ?_ <;> (conv=>whnf)) | (refine Ob.b ?_;conv=>whnf)
    all_goals exact Lf
  have hx := explained_ok r h1 h2 he
  have hr := (rowError_ok.1 he).1
  have h10 := hr.l10
  have e : lotsPR r = (castL (lotsGo r (leastP r).1 r.lots.length), 0) := if_neg (not_not_intro he)
  rw [e]
  have hlt := fun i => lotsGo_lt r (leastP r).1 i
  have hst : ∀ i, lotsGo r (leastP r).1 (i + 1) = if (costP r (lotsGo r (leastP r).1 i ++ [i]) (woB i (lotsGo r (leastP r).1 i))).2 = true ∧ (costP r (lotsGo r (leastP r).1 i ++ [i]) (woB i (lotsGo r (leastP r).1 i))).1 = (leastP r).1 then lotsGo r (leastP r).1 i ++ [i] else lotsGo r (leastP r).1 i := fun i => rfl
  have h0 : lotsGo r (leastP r).1 0 = [] := rfl
  generalize (leastP r).1 = n at *
  generalize lotsGo r n = G at *
  generalize hfin : castL (G r.lots.length) = fin
  refine Fn.of_ex (cuts := []) tys hM Try.func28 rfl Try.call28 rfl ?_
  show exC Try.prog T [] _ false none 0 (entry 55 [rowD r]) (finQ T [ResultVar.tmp 2, ResultVar.tmp 3] _)
  conv => whnf
  repeat' first | ((first | refine Ob.a ?_ | refine Sp.tt ?_ | refine Sp.ff ?_ | refine Sp.yes ?_ | refine Sp.no ?_ | refine Sp.nyes ?_ | refine Sp.nno ?_);conv=>whnf) | (refine Sp.ne (fun hc => ?_) (fun hc => ?_) <;> (conv=>whnf)) | (refine Sp.dec (fun hc => ?_) (fun hc => ?_) <;> (conv=>whnf)) | (refine Sp.ndec (fun hc => ?_) (fun hc => ?_) <;> (conv=>whnf)) | (refine Sp.mk (fun hc => ?_) (fun hc => ?_) <;> (conv=>whnf)) | (apply Cl.go;(conv=>whnf); (first | refine Ob.call (hx) ?_);(conv=>whnf)) | (refine Nx.mk (fun ka kb kx hx hs => ?_) (fun he => ?_) <;> (conv=>whnf)) | (refine Nx.mk (fun ka kx hx hs => ?_) (fun he => ?_) <;> (conv=>whnf)) | (refine Uk.mk (fun hn => ?_) ?_ <;> (conv=>whnf)) | (refine Fi.a ?_;conv=>whnf) | (refine Yl.a ?_ ?_ <;> (conv=>whnf)) | (refine Ob.b ?_;conv=>whnf)
  refine Lp.snap [0, 2, 3, 4, 5, 8, 24, 54] 40 ?_
  (conv=>whnf)
  refine LpB.go 55 ({q : Nat × List Int × (Nat → Bool) × Bool // q.1 ≤ r.lots.length ∧ q.2.1 = castL (G q.1) ∧ q.2.2.1 = woB q.1 (G q.1)}) 0 (fun ⟨(i, o, B, b), _⟩ nx => ([(25, .d (int i)), (7, .ms 14 1 0 o.length)], [(14, .row b 3 1 o.length (rowOf int 0 o)), (15, .row true 79 1 10 (fun j => int (mk B j)))])) (fun p => r.lots.length - p.1.1) (⟨(0, [], woB 0 (G 0), true), Nat.zero_le _, by rw [h0]; rfl, rfl⟩) ?_ ?_
  · rintro ⟨⟨i, o, B, b⟩, hi, ho, hB⟩
    simp only at hi ho hB
    obtain ⟨hlt1, hlt2⟩ := hlt i
    have hol : o.length ≤ i := by rw [ho, castL_len]; exact hlt2
    by_cases hil : i < r.lots.length
    · have hc := cost_spec r hr (G i ++ [i]) (fun x hx => by
        rcases List.mem_append.1 hx with hx | hx
        · have := hlt1 x hx; omega
        · have := List.mem_singleton.1 hx; omega) (by simp; omega) B
      rw [castL_snoc, ← ho] at hc
      have hst := hst i
      rw [← hB] at hst
      generalize costP r (G i ++ [i]) B = cp at *
      obtain ⟨c1, c2⟩ := cp
      simp only at hst hc
      have hyes : c2 = true → c1 = n → o ++ [(i : Int)] = castL (G (i + 1)) ∧ B = woB (i + 1) (G (i + 1)) := fun a b => by
        rw [if_pos ⟨a, b⟩] at hst
        rw [hst, castL_snoc, ← ho]
        exact ⟨rfl, by rw [hB]; exact mk_congr fun j => (woB_succ_in j).symm⟩
      have hno : ¬ (c2 = true ∧ c1 = n) → o = castL (G (i + 1)) ∧ adj B i = woB (i + 1) (G (i + 1)) := fun a => by
        rw [if_neg a] at hst
        rw [hst]
        exact ⟨ho, by rw [hB]; exact mk_congr fun j => (woB_succ_out hlt1 j).symm⟩
      have hmp : ∀ w, w = int 1 → ∀ j, j < 10 → CImp (upE (0 + ((i : Nat) : Int).toNat) w (fun j => int (mk B j)) j) (int (mk (adj B i) j)) := fun w hw => by rw [Nat.zero_add, Int.toNat_natCast]; exact marks_put hw
      cases b
      · by_cases hc2 : c2 = true ∧ c1 = n
        · obtain ⟨rfl, rfl⟩ := hc2
          obtain ⟨e1, e2⟩ := hyes rfl rfl
          clear hyes hno hst
          conv => whnf
          repeat' first | ((first | refine Ob.a ?_ | refine Sp.tt ?_ | refine Sp.ff ?_ | refine Sp.yes ?_ | refine Sp.no ?_ | refine Sp.nyes ?_ | refine Sp.nno ?_);conv=>whnf) | (refine Sp.ne (fun hc => ?_) (fun hc => ?_) <;> (conv=>whnf)) | (refine Sp.dec (fun hc => ?_) (fun hc => ?_) <;> (conv=>whnf)) | (refine Sp.ndec (fun hc => ?_) (fun hc => ?_) <;> (conv=>whnf)) | (refine Sp.mk (fun hc => ?_) (fun hc => ?_) <;> (conv=>whnf)) | (refine Nx.mk (fun ka kb kx hx hs => ?_) (fun he => ?_) <;> (conv=>whnf)) | (refine Nx.mk (fun ka kx hx hs => ?_) (fun he => ?_) <;> (conv=>whnf)) | (refine Uk.mk (fun hn => ?_) ?_ <;> (conv=>whnf)) | (refine Fi.a ?_;conv=>whnf) | (refine Yl.a ?_ ?_ <;> (conv=>whnf)) | (refine Ob.b ?_;conv=>whnf)
          apply Cl.go
          (conv=>whnf)
          refine Ob.fn ?_ ?_ ?_ (hc)
          rotate_left
          all_goals try (repeat' first | (refine Edge.fast ?_) | ((conv=>whnf); first | exact True.intro | (refine And.intro ?_ ?_) | exact rfl | exact Nat.le_of_eq (Nat.zero_add _) | exact ImpS.refl _ | ((conv => arg 1; whnf); first | exact ImpS.refl _ | (refine ImpS.nil_eq ?_) | (refine ImpS.vnil_eq ?_) | (refine ImpS.row ?_) | (refine ImpS.rowN ?_ ?_) | (refine ImpS.sl_eq ?_) | (refine ImpS.expl rfl ?_)) | (refine row_snoc' ?_) | (apply row_upd) | exact cimp_none | exact cimp_same | exact List.not_mem_nil | exact DImp.refl _) | exact rfl | (refine And.intro ?_ ?_) | exact ImpS.refl _)
          all_goals try first | assumption | omega
          · conv => whnf
            conv => arg 1; whnf
            exact ImpS.appd2 (by omega) (by omega) rfl
          conv => whnf
          repeat' first | ((first | refine Ob.a ?_ | refine Sp.tt ?_ | refine Sp.ff ?_ | refine Sp.yes ?_ | refine Sp.no ?_ | refine Sp.nyes ?_ | refine Sp.nno ?_);conv=>whnf) | (refine Sp.ne (fun hc => ?_) (fun hc => ?_) <;> (conv=>whnf)) | (refine Sp.dec (fun hc => ?_) (fun hc => ?_) <;> (conv=>whnf)) | (refine Sp.ndec (fun hc => ?_) (fun hc => ?_) <;> (conv=>whnf)) | (refine Sp.mk (fun hc => ?_) (fun hc => ?_) <;> (conv=>whnf)) | (refine Nx.mk (fun ka kb kx hx hs => ?_) (fun he => ?_) <;> (conv=>whnf)) | (refine Nx.mk (fun ka kx hx hs => ?_) (fun he => ?_) <;> (conv=>whnf)) | (refine Uk.mk (fun hn => ?_) ?_ <;> (conv=>whnf)) | (refine Fi.a ?_;conv=>whnf) | (refine Yl.a ?_ ?_ <;> (conv=>whnf)) | (refine Ob.b ?_;conv=>whnf)
          exact ⟨rfl, ⟨(i + 1, o ++ [(i : Int)], B, true), hil, e1, e2⟩, Lf, by simp only; omega⟩
        · obtain ⟨e1, e2⟩ := hno hc2
          clear hyes hno hst
          cases c2
          · conv => whnf
            repeat' first | ((first | refine Ob.a ?_ | refine Sp.tt ?_ | refine Sp.ff ?_ | refine Sp.yes ?_ | refine Sp.no ?_ | refine Sp.nyes ?_ | refine Sp.nno ?_);conv=>whnf) | (refine Sp.ne (fun hc => ?_) (fun hc => ?_) <;> (conv=>whnf)) | (refine Sp.dec (fun hc => ?_) (fun hc => ?_) <;> (conv=>whnf)) | (refine Sp.ndec (fun hc => ?_) (fun hc => ?_) <;> (conv=>whnf)) | (refine Sp.mk (fun hc => ?_) (fun hc => ?_) <;> (conv=>whnf)) | (refine Nx.mk (fun ka kb kx hx hs => ?_) (fun he => ?_) <;> (conv=>whnf)) | (refine Nx.mk (fun ka kx hx hs => ?_) (fun he => ?_) <;> (conv=>whnf)) | (refine Uk.mk (fun hn => ?_) ?_ <;> (conv=>whnf)) | (refine Fi.a ?_;conv=>whnf) | (refine Yl.a ?_ ?_ <;> (conv=>whnf)) | (refine Ob.b ?_;conv=>whnf)
            apply Cl.go
            (conv=>whnf)
            refine Ob.fn ?_ ?_ ?_ (hc)
            rotate_left
            all_goals try (repeat' first | (refine Edge.fast ?_) | ((conv=>whnf); first | exact True.intro | (refine And.intro ?_ ?_) | exact rfl | exact Nat.le_of_eq (Nat.zero_add _) | exact ImpS.refl _ | ((conv => arg 1; whnf); first | exact ImpS.refl _ | (refine ImpS.nil_eq ?_) | (refine ImpS.vnil_eq ?_) | (refine ImpS.row ?_) | (refine ImpS.rowN ?_ ?_) | (refine ImpS.sl_eq ?_) | (refine ImpS.expl rfl ?_)) | (refine row_snoc' ?_) | (apply row_upd) | exact cimp_none | exact cimp_same | exact List.not_mem_nil | exact DImp.refl _) | exact rfl | (refine And.intro ?_ ?_) | exact ImpS.refl _)
            all_goals try first | assumption | omega
            · conv => whnf
              conv => arg 1; whnf
              exact ImpS.appd2 (by omega) (by omega) rfl
            conv => whnf
            repeat' first | ((first | refine Ob.a ?_ | refine Sp.tt ?_ | refine Sp.ff ?_ | refine Sp.yes ?_ | refine Sp.no ?_ | refine Sp.nyes ?_ | refine Sp.nno ?_);conv=>whnf) | (refine Sp.ne (fun hc => ?_) (fun hc => ?_) <;> (conv=>whnf)) | (refine Sp.dec (fun hc => ?_) (fun hc => ?_) <;> (conv=>whnf)) | (refine Sp.ndec (fun hc => ?_) (fun hc => ?_) <;> (conv=>whnf)) | (refine Sp.mk (fun hc => ?_) (fun hc => ?_) <;> (conv=>whnf)) | (refine Nx.mk (fun ka kb kx hx hs => ?_) (fun he => ?_) <;> (conv=>whnf)) | (refine Nx.mk (fun ka kx hx hs => ?_) (fun he => ?_) <;> (conv=>whnf)) | (refine Uk.mk (fun hn => ?_) ?_ <;> (conv=>whnf)) | (refine Fi.a ?_;conv=>whnf) | (refine Yl.a ?_ ?_ <;> (conv=>whnf)) | (refine Ob.b ?_;conv=>whnf)
            refine ⟨rfl, ⟨(i + 1, o, adj B i, false), hil, e1, e2⟩, ?_, by simp only; omega⟩
            repeat' first | (refine Edge.fast ?_) | ((conv=>whnf); first | exact True.intro | (refine And.intro ?_ ?_) | exact rfl | exact Nat.le_of_eq (Nat.zero_add _) | exact ImpS.refl _ | ((conv => arg 1; whnf); first | exact ImpS.refl _ | (refine ImpS.nil_eq ?_) | (refine ImpS.vnil_eq ?_) | (refine ImpS.row ?_) | (refine ImpS.rowN ?_ ?_) | (refine ImpS.sl_eq ?_) | (refine ImpS.expl rfl ?_)) | (refine row_snoc' ?_) | exact MImp.refl _ | exact cimp_none | exact cimp_same | exact List.not_mem_nil | exact DImp.refl _) | exact rfl | (refine And.intro ?_ ?_) | exact ImpS.refl _
            all_goals first | omega | exact hmp _ rfl
          · have hc3 : ¬ c1 = n := fun h => hc2 ⟨rfl, h⟩
            conv => whnf
            repeat' first | ((first | refine Ob.a ?_ | refine Sp.tt ?_ | refine Sp.ff ?_ | refine Sp.yes ?_ | refine Sp.no ?_ | refine Sp.nyes ?_ | refine Sp.nno ?_);conv=>whnf) | (refine Sp.ne (fun hc => ?_) (fun hc => ?_) <;> (conv=>whnf)) | (refine Sp.dec (fun hc => ?_) (fun hc => ?_) <;> (conv=>whnf)) | (refine Sp.ndec (fun hc => ?_) (fun hc => ?_) <;> (conv=>whnf)) | (refine Sp.mk (fun hc => ?_) (fun hc => ?_) <;> (conv=>whnf)) | (refine Nx.mk (fun ka kb kx hx hs => ?_) (fun he => ?_) <;> (conv=>whnf)) | (refine Nx.mk (fun ka kx hx hs => ?_) (fun he => ?_) <;> (conv=>whnf)) | (refine Uk.mk (fun hn => ?_) ?_ <;> (conv=>whnf)) | (refine Fi.a ?_;conv=>whnf) | (refine Yl.a ?_ ?_ <;> (conv=>whnf)) | (refine Ob.b ?_;conv=>whnf)
            apply Cl.go
            (conv=>whnf)
            refine Ob.fn ?_ ?_ ?_ (hc)
            rotate_left
            all_goals try (repeat' first | (refine Edge.fast ?_) | ((conv=>whnf); first | exact True.intro | (refine And.intro ?_ ?_) | exact rfl | exact Nat.le_of_eq (Nat.zero_add _) | exact ImpS.refl _ | ((conv => arg 1; whnf); first | exact ImpS.refl _ | (refine ImpS.nil_eq ?_) | (refine ImpS.vnil_eq ?_) | (refine ImpS.row ?_) | (refine ImpS.rowN ?_ ?_) | (refine ImpS.sl_eq ?_) | (refine ImpS.expl rfl ?_)) | (refine row_snoc' ?_) | (apply row_upd) | exact cimp_none | exact cimp_same | exact List.not_mem_nil | exact DImp.refl _) | exact rfl | (refine And.intro ?_ ?_) | exact ImpS.refl _)
            all_goals try first | assumption | omega
            · conv => whnf
              conv => arg 1; whnf
              exact ImpS.appd2 (by omega) (by omega) rfl
            conv => whnf
            repeat' first | ((first | refine Ob.a ?_ | refine Sp.tt ?_ | refine Sp.ff ?_ | refine Sp.yes ?_ | refine Sp.no ?_ | refine Sp.nyes ?_ | refine Sp.nno ?_);conv=>whnf) | (refine Sp.ne (fun hc => ?_) (fun hc => ?_) <;> (conv=>whnf)) | (refine Sp.dec (fun hc => ?_) (fun hc => ?_) <;> (conv=>whnf)) | (refine Sp.ndec (fun hc => ?_) (fun hc => ?_) <;> (conv=>whnf)) | (refine Sp.mk (fun hc => ?_) (fun hc => ?_) <;> (conv=>whnf)) | (refine Nx.mk (fun ka kb kx hx hs => ?_) (fun he => ?_) <;> (conv=>whnf)) | (refine Nx.mk (fun ka kx hx hs => ?_) (fun he => ?_) <;> (conv=>whnf)) | (refine Uk.mk (fun hn => ?_) ?_ <;> (conv=>whnf)) | (refine Fi.a ?_;conv=>whnf) | (refine Yl.a ?_ ?_ <;> (conv=>whnf)) | (refine Ob.b ?_;conv=>whnf)
            refine ⟨rfl, ⟨(i + 1, o, adj B i, false), hil, e1, e2⟩, ?_, by simp only; omega⟩
            repeat' first | (refine Edge.fast ?_) | ((conv=>whnf); first | exact True.intro | (refine And.intro ?_ ?_) | exact rfl | exact Nat.le_of_eq (Nat.zero_add _) | exact ImpS.refl _ | ((conv => arg 1; whnf); first | exact ImpS.refl _ | (refine ImpS.nil_eq ?_) | (refine ImpS.vnil_eq ?_) | (refine ImpS.row ?_) | (refine ImpS.rowN ?_ ?_) | (refine ImpS.sl_eq ?_) | (refine ImpS.expl rfl ?_)) | (refine row_snoc' ?_) | exact MImp.refl _ | exact cimp_none | exact cimp_same | exact List.not_mem_nil | exact DImp.refl _) | exact rfl | (refine And.intro ?_ ?_) | exact ImpS.refl _
            all_goals first | omega | exact hmp _ rfl
      · by_cases hc2 : c2 = true ∧ c1 = n
        · obtain ⟨rfl, rfl⟩ := hc2
          obtain ⟨e1, e2⟩ := hyes rfl rfl
          clear hyes hno hst
          conv => whnf
          repeat' first | ((first | refine Ob.a ?_ | refine Sp.tt ?_ | refine Sp.ff ?_ | refine Sp.yes ?_ | refine Sp.no ?_ | refine Sp.nyes ?_ | refine Sp.nno ?_);conv=>whnf) | (refine Sp.ne (fun hc => ?_) (fun hc => ?_) <;> (conv=>whnf)) | (refine Sp.dec (fun hc => ?_) (fun hc => ?_) <;> (conv=>whnf)) | (refine Sp.ndec (fun hc => ?_) (fun hc => ?_) <;> (conv=>whnf)) | (refine Sp.mk (fun hc => ?_) (fun hc => ?_) <;> (conv=>whnf)) | (refine Nx.mk (fun ka kb kx hx hs => ?_) (fun he => ?_) <;> (conv=>whnf)) | (refine Nx.mk (fun ka kx hx hs => ?_) (fun he => ?_) <;> (conv=>whnf)) | (refine Uk.mk (fun hn => ?_) ?_ <;> (conv=>whnf)) | (refine Fi.a ?_;conv=>whnf) | (refine Yl.a ?_ ?_ <;> (conv=>whnf)) | (refine Ob.b ?_;conv=>whnf)
          apply Cl.go
          (conv=>whnf)
          refine Ob.fn ?_ ?_ ?_ (hc)
          rotate_left
          all_goals try (repeat' first | (refine Edge.fast ?_) | ((conv=>whnf); first | exact True.intro | (refine And.intro ?_ ?_) | exact rfl | exact Nat.le_of_eq (Nat.zero_add _) | exact ImpS.refl _ | ((conv => arg 1; whnf); first | exact ImpS.refl _ | (refine ImpS.nil_eq ?_) | (refine ImpS.vnil_eq ?_) | (refine ImpS.row ?_) | (refine ImpS.rowN ?_ ?_) | (refine ImpS.sl_eq ?_) | (refine ImpS.expl rfl ?_)) | (refine row_snoc' ?_) | (apply row_upd) | exact cimp_none | exact cimp_same | exact List.not_mem_nil | exact DImp.refl _) | exact rfl | (refine And.intro ?_ ?_) | exact ImpS.refl _)
          all_goals try first | assumption | omega
          · conv => whnf
            conv => arg 1; whnf
            exact ImpS.appd2 (by omega) (by omega) rfl
          conv => whnf
          repeat' first | ((first | refine Ob.a ?_ | refine Sp.tt ?_ | refine Sp.ff ?_ | refine Sp.yes ?_ | refine Sp.no ?_ | refine Sp.nyes ?_ | refine Sp.nno ?_);conv=>whnf) | (refine Sp.ne (fun hc => ?_) (fun hc => ?_) <;> (conv=>whnf)) | (refine Sp.dec (fun hc => ?_) (fun hc => ?_) <;> (conv=>whnf)) | (refine Sp.ndec (fun hc => ?_) (fun hc => ?_) <;> (conv=>whnf)) | (refine Sp.mk (fun hc => ?_) (fun hc => ?_) <;> (conv=>whnf)) | (refine Nx.mk (fun ka kb kx hx hs => ?_) (fun he => ?_) <;> (conv=>whnf)) | (refine Nx.mk (fun ka kx hx hs => ?_) (fun he => ?_) <;> (conv=>whnf)) | (refine Uk.mk (fun hn => ?_) ?_ <;> (conv=>whnf)) | (refine Fi.a ?_;conv=>whnf) | (refine Yl.a ?_ ?_ <;> (conv=>whnf)) | (refine Ob.b ?_;conv=>whnf)
          exact ⟨rfl, ⟨(i + 1, o ++ [(i : Int)], B, true), hil, e1, e2⟩, Lf, by simp only; omega⟩
        · obtain ⟨e1, e2⟩ := hno hc2
          clear hyes hno hst
          cases c2
          · conv => whnf
            repeat' first | ((first | refine Ob.a ?_ | refine Sp.tt ?_ | refine Sp.ff ?_ | refine Sp.yes ?_ | refine Sp.no ?_ | refine Sp.nyes ?_ | refine Sp.nno ?_);conv=>whnf) | (refine Sp.ne (fun hc => ?_) (fun hc => ?_) <;> (conv=>whnf)) | (refine Sp.dec (fun hc => ?_) (fun hc => ?_) <;> (conv=>whnf)) | (refine Sp.ndec (fun hc => ?_) (fun hc => ?_) <;> (conv=>whnf)) | (refine Sp.mk (fun hc => ?_) (fun hc => ?_) <;> (conv=>whnf)) | (refine Nx.mk (fun ka kb kx hx hs => ?_) (fun he => ?_) <;> (conv=>whnf)) | (refine Nx.mk (fun ka kx hx hs => ?_) (fun he => ?_) <;> (conv=>whnf)) | (refine Uk.mk (fun hn => ?_) ?_ <;> (conv=>whnf)) | (refine Fi.a ?_;conv=>whnf) | (refine Yl.a ?_ ?_ <;> (conv=>whnf)) | (refine Ob.b ?_;conv=>whnf)
            apply Cl.go
            (conv=>whnf)
            refine Ob.fn ?_ ?_ ?_ (hc)
            rotate_left
            all_goals try (repeat' first | (refine Edge.fast ?_) | ((conv=>whnf); first | exact True.intro | (refine And.intro ?_ ?_) | exact rfl | exact Nat.le_of_eq (Nat.zero_add _) | exact ImpS.refl _ | ((conv => arg 1; whnf); first | exact ImpS.refl _ | (refine ImpS.nil_eq ?_) | (refine ImpS.vnil_eq ?_) | (refine ImpS.row ?_) | (refine ImpS.rowN ?_ ?_) | (refine ImpS.sl_eq ?_) | (refine ImpS.expl rfl ?_)) | (refine row_snoc' ?_) | (apply row_upd) | exact cimp_none | exact cimp_same | exact List.not_mem_nil | exact DImp.refl _) | exact rfl | (refine And.intro ?_ ?_) | exact ImpS.refl _)
            all_goals try first | assumption | omega
            · conv => whnf
              conv => arg 1; whnf
              exact ImpS.appd2 (by omega) (by omega) rfl
            conv => whnf
            repeat' first | ((first | refine Ob.a ?_ | refine Sp.tt ?_ | refine Sp.ff ?_ | refine Sp.yes ?_ | refine Sp.no ?_ | refine Sp.nyes ?_ | refine Sp.nno ?_);conv=>whnf) | (refine Sp.ne (fun hc => ?_) (fun hc => ?_) <;> (conv=>whnf)) | (refine Sp.dec (fun hc => ?_) (fun hc => ?_) <;> (conv=>whnf)) | (refine Sp.ndec (fun hc => ?_) (fun hc => ?_) <;> (conv=>whnf)) | (refine Sp.mk (fun hc => ?_) (fun hc => ?_) <;> (conv=>whnf)) | (refine Nx.mk (fun ka kb kx hx hs => ?_) (fun he => ?_) <;> (conv=>whnf)) | (refine Nx.mk (fun ka kx hx hs => ?_) (fun he => ?_) <;> (conv=>whnf)) | (refine Uk.mk (fun hn => ?_) ?_ <;> (conv=>whnf)) | (refine Fi.a ?_;conv=>whnf) | (refine Yl.a ?_ ?_ <;> (conv=>whnf)) | (refine Ob.b ?_;conv=>whnf)
            refine ⟨rfl, ⟨(i + 1, o, adj B i, false), hil, e1, e2⟩, ?_, by simp only; omega⟩
            repeat' first | (refine Edge.fast ?_) | ((conv=>whnf); first | exact True.intro | (refine And.intro ?_ ?_) | exact rfl | exact Nat.le_of_eq (Nat.zero_add _) | exact ImpS.refl _ | ((conv => arg 1; whnf); first | exact ImpS.refl _ | (refine ImpS.nil_eq ?_) | (refine ImpS.vnil_eq ?_) | (refine ImpS.row ?_) | (refine ImpS.rowN ?_ ?_) | (refine ImpS.sl_eq ?_) | (refine ImpS.expl rfl ?_)) | (refine row_snoc' ?_) | exact MImp.refl _ | exact cimp_none | exact cimp_same | exact List.not_mem_nil | exact DImp.refl _) | exact rfl | (refine And.intro ?_ ?_) | exact ImpS.refl _
            all_goals first | omega | exact hmp _ rfl
          · have hc3 : ¬ c1 = n := fun h => hc2 ⟨rfl, h⟩
            conv => whnf
            repeat' first | ((first | refine Ob.a ?_ | refine Sp.tt ?_ | refine Sp.ff ?_ | refine Sp.yes ?_ | refine Sp.no ?_ | refine Sp.nyes ?_ | refine Sp.nno ?_);conv=>whnf) | (refine Sp.ne (fun hc => ?_) (fun hc => ?_) <;> (conv=>whnf)) | (refine Sp.dec (fun hc => ?_) (fun hc => ?_) <;> (conv=>whnf)) | (refine Sp.ndec (fun hc => ?_) (fun hc => ?_) <;> (conv=>whnf)) | (refine Sp.mk (fun hc => ?_) (fun hc => ?_) <;> (conv=>whnf)) | (refine Nx.mk (fun ka kb kx hx hs => ?_) (fun he => ?_) <;> (conv=>whnf)) | (refine Nx.mk (fun ka kx hx hs => ?_) (fun he => ?_) <;> (conv=>whnf)) | (refine Uk.mk (fun hn => ?_) ?_ <;> (conv=>whnf)) | (refine Fi.a ?_;conv=>whnf) | (refine Yl.a ?_ ?_ <;> (conv=>whnf)) | (refine Ob.b ?_;conv=>whnf)
            apply Cl.go
            (conv=>whnf)
            refine Ob.fn ?_ ?_ ?_ (hc)
            rotate_left
            all_goals try (repeat' first | (refine Edge.fast ?_) | ((conv=>whnf); first | exact True.intro | (refine And.intro ?_ ?_) | exact rfl | exact Nat.le_of_eq (Nat.zero_add _) | exact ImpS.refl _ | ((conv => arg 1; whnf); first | exact ImpS.refl _ | (refine ImpS.nil_eq ?_) | (refine ImpS.vnil_eq ?_) | (refine ImpS.row ?_) | (refine ImpS.rowN ?_ ?_) | (refine ImpS.sl_eq ?_) | (refine ImpS.expl rfl ?_)) | (refine row_snoc' ?_) | (apply row_upd) | exact cimp_none | exact cimp_same | exact List.not_mem_nil | exact DImp.refl _) | exact rfl | (refine And.intro ?_ ?_) | exact ImpS.refl _)
            all_goals try first | assumption | omega
            · conv => whnf
              conv => arg 1; whnf
              exact ImpS.appd2 (by omega) (by omega) rfl
            conv => whnf
            repeat' first | ((first | refine Ob.a ?_ | refine Sp.tt ?_ | refine Sp.ff ?_ | refine Sp.yes ?_ | refine Sp.no ?_ | refine Sp.nyes ?_ | refine Sp.nno ?_);conv=>whnf) | (refine Sp.ne (fun hc => ?_) (fun hc => ?_) <;> (conv=>whnf)) | (refine Sp.dec (fun hc => ?_) (fun hc => ?_) <;> (conv=>whnf)) | (refine Sp.ndec (fun hc => ?_) (fun hc => ?_) <;> (conv=>whnf)) | (refine Sp.mk (fun hc => ?_) (fun hc => ?_) <;> (conv=>whnf)) | (refine Nx.mk (fun ka kb kx hx hs => ?_) (fun he => ?_) <;> (conv=>whnf)) | (refine Nx.mk (fun ka kx hx hs => ?_) (fun he => ?_) <;> (conv=>whnf)) | (refine Uk.mk (fun hn => ?_) ?_ <;> (conv=>whnf)) | (refine Fi.a ?_;conv=>whnf) | (refine Yl.a ?_ ?_ <;> (conv=>whnf)) | (refine Ob.b ?_;conv=>whnf)
            refine ⟨rfl, ⟨(i + 1, o, adj B i, false), hil, e1, e2⟩, ?_, by simp only; omega⟩
            repeat' first | (refine Edge.fast ?_) | ((conv=>whnf); first | exact True.intro | (refine And.intro ?_ ?_) | exact rfl | exact Nat.le_of_eq (Nat.zero_add _) | exact ImpS.refl _ | ((conv => arg 1; whnf); first | exact ImpS.refl _ | (refine ImpS.nil_eq ?_) | (refine ImpS.vnil_eq ?_) | (refine ImpS.row ?_) | (refine ImpS.rowN ?_ ?_) | (refine ImpS.sl_eq ?_) | (refine ImpS.expl rfl ?_)) | (refine row_snoc' ?_) | exact MImp.refl _ | exact cimp_none | exact cimp_same | exact List.not_mem_nil | exact DImp.refl _) | exact rfl | (refine And.intro ?_ ?_) | exact ImpS.refl _
            all_goals first | omega | exact hmp _ rfl
    · have e : o = fin := by rw [ho, ← hfin, show i = r.lots.length by omega]
      cases b
      · conv => whnf
        repeat' first | ((first | refine Ob.a ?_ | refine Sp.tt ?_ | refine Sp.ff ?_ | refine Sp.yes ?_ | refine Sp.no ?_ | refine Sp.nyes ?_ | refine Sp.nno ?_);conv=>whnf) | (refine Sp.ne (fun hc => ?_) (fun hc => ?_) <;> (conv=>whnf)) | (refine Sp.dec (fun hc => ?_) (fun hc => ?_) <;> (conv=>whnf)) | (refine Sp.ndec (fun hc => ?_) (fun hc => ?_) <;> (conv=>whnf)) | (refine Sp.mk (fun hc => ?_) (fun hc => ?_) <;> (conv=>whnf)) | (refine Nx.mk (fun ka kb kx hx hs => ?_) (fun he => ?_) <;> (conv=>whnf)) | (refine Nx.mk (fun ka kx hx hs => ?_) (fun he => ?_) <;> (conv=>whnf)) | (refine Uk.mk (fun hn => ?_) ?_ <;> (conv=>whnf)) | (refine Fi.a ?_;conv=>whnf) | (refine Yl.a ?_ ?_ <;> (conv=>whnf)) | (refine Ob.b ?_;conv=>whnf)
        exact Lf
      · conv => whnf
        repeat' first | ((first | refine Ob.a ?_ | refine Sp.tt ?_ | refine Sp.ff ?_ | refine Sp.yes ?_ | refine Sp.no ?_ | refine Sp.nyes ?_ | refine Sp.nno ?_);conv=>whnf) | (refine Sp.ne (fun hc => ?_) (fun hc => ?_) <;> (conv=>whnf)) | (refine Sp.dec (fun hc => ?_) (fun hc => ?_) <;> (conv=>whnf)) | (refine Sp.ndec (fun hc => ?_) (fun hc => ?_) <;> (conv=>whnf)) | (refine Sp.mk (fun hc => ?_) (fun hc => ?_) <;> (conv=>whnf)) | (refine Nx.mk (fun ka kb kx hx hs => ?_) (fun he => ?_) <;> (conv=>whnf)) | (refine Nx.mk (fun ka kx hx hs => ?_) (fun he => ?_) <;> (conv=>whnf)) | (refine Uk.mk (fun hn => ?_) ?_ <;> (conv=>whnf)) | (refine Fi.a ?_;conv=>whnf) | (refine Yl.a ?_ ?_ <;> (conv=>whnf)) | (refine Ob.b ?_;conv=>whnf)
        exact Lf
  · exact Lf
end Go.Px.Try
