/- Texts of this proof, joined (LwRows, LwProved, LwFewest, LwFellow, LwUnk0, LwBlamed, Lm1, Lm2, LwTurn): a small program logic over the model, and what functions of the program give. No statement of the seat is proved here. -/
import Derived.Test.YtiaeopgahkahbaaJ6
set_option linter.unusedVariables false
set_option linter.unusedSimpArgs false

/-! LwRows -/
namespace Go.Px.Try
open Go Go.Proofs Go.Px
set_option maxRecDepth 100000
theorem unknownRR_len (r : Row) : (unknownRR r).1.length ≤ r.weak.length := by
  unfold unknownRR
  split
  · simp
  · exact List.length_filter_le ..
set_option maxHeartbeats 16000000 in
theorem PotRows_spec (r : Row) (l : List Int) (hl : l.length ≤ 9223372036854775807) : Fn Try.prog 3 [rowD r, ints l] (bool true) := by
  have hw := Works_spec
  have c1 := long_spec l
  by_cases h1 : notGreat r
  case neg =>
    have hg := great_yes h1
    refine Fn.of_ex (cuts := []) tys hM Try.func3 rfl Try.call3 rfl ?_
    show exC Try.prog T [] _ false none 0 (entry 70 [rowD r, ints l]) (finQ T [ResultVar.tmp 4] _)
    conv => whnf
    repeat' first | ((first | refine Ob.a ?_ | refine Sp.tt ?_ | refine Sp.ff ?_ | refine Sp.yes ?_ | refine Sp.no ?_ | refine Sp.nyes ?_ | refine Sp.nno ?_);conv=>whnf) | (refine Sp.ne (fun hc => ?_) (fun hc => ?_) <;> (conv=>whnf)) | (refine Sp.dec (fun hc => ?_) (fun hc => ?_) <;> (conv=>whnf)) | (refine Sp.ndec (fun hc => ?_) (fun hc => ?_) <;> (conv=>whnf)) | (refine Sp.mk (fun hc => ?_) (fun hc => ?_) <;> (conv=>whnf)) | (apply Cl.go;(conv=>whnf); (first | refine Ob.call (hg) ?_ | refine Ob.call (c1) ?_ | refine Ob.call (hw) ?_);(conv=>whnf)) | (refine Fi.a ?_;conv=>whnf) | (refine Ob.b ?_;conv=>whnf)
    all_goals exact Lf
  have hg := great_no h1
  by_cases h2 : 20 < (l.length : Int)
  · rw [decide_eq_true h2] at c1
    refine Fn.of_ex (cuts := []) tys hM Try.func3 rfl Try.call3 rfl ?_
    show exC Try.prog T [] _ false none 0 (entry 70 [rowD r, ints l]) (finQ T [ResultVar.tmp 4] _)
    conv => whnf
    repeat' first | ((first | refine Ob.a ?_ | refine Sp.tt ?_ | refine Sp.ff ?_ | refine Sp.yes ?_ | refine Sp.no ?_ | refine Sp.nyes ?_ | refine Sp.nno ?_);conv=>whnf) | (refine Sp.ne (fun hc => ?_) (fun hc => ?_) <;> (conv=>whnf)) | (refine Sp.dec (fun hc => ?_) (fun hc => ?_) <;> (conv=>whnf)) | (refine Sp.ndec (fun hc => ?_) (fun hc => ?_) <;> (conv=>whnf)) | (refine Sp.mk (fun hc => ?_) (fun hc => ?_) <;> (conv=>whnf)) | (apply Cl.go;(conv=>whnf); (first | refine Ob.call (hg) ?_ | refine Ob.call (c1) ?_ | refine Ob.call (hw) ?_);(conv=>whnf)) | (refine Fi.a ?_;conv=>whnf) | (refine Ob.b ?_;conv=>whnf)
    all_goals exact Lf
  rw [decide_eq_false h2] at c1
  obtain ⟨g1, g2⟩ := h1
  have k1 : r.lots.length < 1000000 := by omega
  have k2 : r.weak.length < 1000000 := by omega
  have a1 := CheckLotsP_spec r l k1 k2 (by omega)
  have a2 := CheckLots_spec r l k1 k2 (by omega)
  have a3 := UnknownP_spec r k1 k2
  have a4 := Unknown_spec r k1 k2
  have a5 := CheckRowP_spec r k1 k2
  have a6 := CheckRow_spec r k1 k2
  have a7 := ints_same (unknownRR r).1 (by have := unknownRR_len r; omega)
  generalize checkLotsR r l = x1 at *
  generalize unknownRR r = x2 at *
  generalize checkRow r = x3 at *
  refine Fn.of_ex (cuts := []) tys hM Try.func3 rfl Try.call3 rfl ?_
  show exC Try.prog T [] _ false none 0 (entry 70 [rowD r, ints l]) (finQ T [ResultVar.tmp 4] _)
  conv => whnf
  repeat' first | ((first | refine Ob.a ?_ | refine Sp.tt ?_ | refine Sp.ff ?_ | refine Sp.yes ?_ | refine Sp.no ?_ | refine Sp.nyes ?_ | refine Sp.nno ?_);conv=>whnf) | (refine Sp.ne (fun hc => ?_) (fun hc => ?_) <;> (conv=>whnf)) | (refine Sp.dec (fun hc => ?_) (fun hc => ?_) <;> (conv=>whnf)) | (refine Sp.ndec (fun hc => ?_) (fun hc => ?_) <;> (conv=>whnf)) | (refine Sp.mk (fun hc => ?_) (fun hc => ?_) <;> (conv=>whnf)) | (apply Cl.go;(conv=>whnf); (first | refine Ob.call (hg) ?_ | refine Ob.call (c1) ?_ | refine Ob.call (a1) ?_ | refine Ob.call (a2) ?_ | refine Ob.call (a3) ?_ | refine Ob.call (a4) ?_ | refine Ob.call (a5) ?_ | refine Ob.call (a6) ?_ | refine Ob.call (a7) ?_ | refine Ob.call (hw) ?_);(conv=>whnf)) | (refine Fi.a ?_;conv=>whnf) | (refine Ob.b ?_;conv=>whnf)
  all_goals exact Lf
theorem lotsR_len (r : Row) : (lotsR r).1.length ≤ r.lots.length := by
  unfold lotsR
  split
  · simp
  · rename_i h
    exact (head_in (rowError_ok.1 (Decidable.of_not_not h)).2).2.1
theorem blameLR_len (r : Row) : (blameLR r).1.length ≤ r.lots.length := by
  unfold blameLR
  split
  · simp
  · simp
set_option maxHeartbeats 16000000 in
theorem PotLots_spec (r : Row) : Fn Try.prog 4 [rowD r] (bool true) := by
  have hw := Works_spec
  by_cases h1 : notGreat r
  case neg =>
    have hg := great_yes h1
    refine Fn.of_ex (cuts := []) tys hM Try.func4 rfl Try.call4 rfl ?_
    show exC Try.prog T [] _ false none 0 (entry 79 [rowD r]) (finQ T [ResultVar.tmp 2] _)
    conv => whnf
    repeat' first | ((first | refine Ob.a ?_ | refine Sp.tt ?_ | refine Sp.ff ?_ | refine Sp.yes ?_ | refine Sp.no ?_ | refine Sp.nyes ?_ | refine Sp.nno ?_);conv=>whnf) | (refine Sp.ne (fun hc => ?_) (fun hc => ?_) <;> (conv=>whnf)) | (refine Sp.dec (fun hc => ?_) (fun hc => ?_) <;> (conv=>whnf)) | (refine Sp.ndec (fun hc => ?_) (fun hc => ?_) <;> (conv=>whnf)) | (refine Sp.mk (fun hc => ?_) (fun hc => ?_) <;> (conv=>whnf)) | (apply Cl.go;(conv=>whnf); (first | refine Ob.call (hg) ?_ | refine Ob.call (hw) ?_);(conv=>whnf)) | (refine Fi.a ?_;conv=>whnf) | (refine Ob.b ?_;conv=>whnf)
    all_goals exact Lf
  have hg := great_no h1
  obtain ⟨g1, g2⟩ := h1
  have k1 : r.lots.length < 1000000 := by omega
  have k2 : r.weak.length < 1000000 := by omega
  have a1 := LeastP_spec r k1 k2
  have a2 := Least_spec r k1 k2
  have a3 := LotsP_spec r k1 k2
  have a4 := LotsR_spec r k1 k2
  have a5 := BlameP_spec r k1 k2
  have a6 := Blame_spec r k1 k2
  rw [leastPR_eq] at a1
  rw [lotsPR_eq] at a3
  rw [blamePR_eq] at a5
  have a7 := ints_same (lotsR r).1 (by have := lotsR_len r; omega)
  have a8 := ints_same (blameLR r).1 (by have := blameLR_len r; omega)
  generalize leastR r = x1 at *
  generalize lotsR r = x2 at *
  generalize blameLR r = x3 at *
  refine Fn.of_ex (cuts := []) tys hM Try.func4 rfl Try.call4 rfl ?_
  show exC Try.prog T [] _ false none 0 (entry 79 [rowD r]) (finQ T [ResultVar.tmp 2] _)
  conv => whnf
  repeat' first | ((first | refine Ob.a ?_ | refine Sp.tt ?_ | refine Sp.ff ?_ | refine Sp.yes ?_ | refine Sp.no ?_ | refine Sp.nyes ?_ | refine Sp.nno ?_);conv=>whnf) | (refine Sp.ne (fun hc => ?_) (fun hc => ?_) <;> (conv=>whnf)) | (refine Sp.dec (fun hc => ?_) (fun hc => ?_) <;> (conv=>whnf)) | (refine Sp.ndec (fun hc => ?_) (fun hc => ?_) <;> (conv=>whnf)) | (refine Sp.mk (fun hc => ?_) (fun hc => ?_) <;> (conv=>whnf)) | (apply Cl.go;(conv=>whnf); (first | refine Ob.call (hg) ?_ | refine Ob.call (a1) ?_ | refine Ob.call (a2) ?_ | refine Ob.call (a3) ?_ | refine Ob.call (a4) ?_ | refine Ob.call (a5) ?_ | refine Ob.call (a6) ?_ | refine Ob.call (a7) ?_ | refine Ob.call (a8) ?_ | refine Ob.call (hw) ?_);(conv=>whnf)) | (refine Fi.a ?_;conv=>whnf) | (refine Ob.b ?_;conv=>whnf)
  all_goals exact Lf
set_option maxHeartbeats 16000000 in
theorem PotPrices_spec (r : Row) (l : List Int) (hl : l.length ≤ 9223372036854775807) : Fn Try.prog 5 [rowD r, ints l] (bool true) := by
  have hw := Works_spec
  have c1 := long_spec l
  by_cases h1 : notGreat r
  case neg =>
    have hg := great_yes h1
    refine Fn.of_ex (cuts := []) tys hM Try.func5 rfl Try.call5 rfl ?_
    show exC Try.prog T [] _ false none 0 (entry 85 [rowD r, ints l]) (finQ T [ResultVar.tmp 4] _)
    conv => whnf
    repeat' first | ((first | refine Ob.a ?_ | refine Sp.tt ?_ | refine Sp.ff ?_ | refine Sp.yes ?_ | refine Sp.no ?_ | refine Sp.nyes ?_ | refine Sp.nno ?_);conv=>whnf) | (refine Sp.ne (fun hc => ?_) (fun hc => ?_) <;> (conv=>whnf)) | (refine Sp.dec (fun hc => ?_) (fun hc => ?_) <;> (conv=>whnf)) | (refine Sp.ndec (fun hc => ?_) (fun hc => ?_) <;> (conv=>whnf)) | (refine Sp.mk (fun hc => ?_) (fun hc => ?_) <;> (conv=>whnf)) | (apply Cl.go;(conv=>whnf); (first | refine Ob.call (hg) ?_ | refine Ob.call (c1) ?_ | refine Ob.call (hw) ?_);(conv=>whnf)) | (refine Fi.a ?_;conv=>whnf) | (refine Ob.b ?_;conv=>whnf)
    all_goals exact Lf
  have hg := great_no h1
  by_cases h2 : 20 < (l.length : Int)
  · rw [decide_eq_true h2] at c1
    refine Fn.of_ex (cuts := []) tys hM Try.func5 rfl Try.call5 rfl ?_
    show exC Try.prog T [] _ false none 0 (entry 85 [rowD r, ints l]) (finQ T [ResultVar.tmp 4] _)
    conv => whnf
    repeat' first | ((first | refine Ob.a ?_ | refine Sp.tt ?_ | refine Sp.ff ?_ | refine Sp.yes ?_ | refine Sp.no ?_ | refine Sp.nyes ?_ | refine Sp.nno ?_);conv=>whnf) | (refine Sp.ne (fun hc => ?_) (fun hc => ?_) <;> (conv=>whnf)) | (refine Sp.dec (fun hc => ?_) (fun hc => ?_) <;> (conv=>whnf)) | (refine Sp.ndec (fun hc => ?_) (fun hc => ?_) <;> (conv=>whnf)) | (refine Sp.mk (fun hc => ?_) (fun hc => ?_) <;> (conv=>whnf)) | (apply Cl.go;(conv=>whnf); (first | refine Ob.call (hg) ?_ | refine Ob.call (c1) ?_ | refine Ob.call (hw) ?_);(conv=>whnf)) | (refine Fi.a ?_;conv=>whnf) | (refine Ob.b ?_;conv=>whnf)
    all_goals exact Lf
  rw [decide_eq_false h2] at c1
  obtain ⟨g1, g2⟩ := h1
  have k1 : r.lots.length < 1000000 := by omega
  have k2 : r.weak.length < 1000000 := by omega
  have a1 := CheckPricesP_spec r l k1 k2 (by omega)
  have a2 := CheckPrices_spec r l k1 k2 (by omega)
  have a3 := PricesP_spec r k1 k2
  have a4 := Least_spec r k1 k2
  rw [← leastPR_eq] at a4
  by_cases he : rowError r = 0
  · have hs := sound_of he
    obtain ⟨p1, p2, p3⟩ := hs.prices
    have hpl := p2.len
    rw [p1] at a3
    rw [hs.least] at a4
    have a5 := CheckPrices_spec r (pricesP r) k1 k2 (by omega)
    rw [p3] at a5
    have c2 := long_spec (pricesP r)
    rw [decide_eq_false (by omega)] at c2
    generalize checkPricesR r l = x1 at *
    generalize pricesP r = p at *
    generalize optN r = v at *
    refine Fn.of_ex (cuts := []) tys hM Try.func5 rfl Try.call5 rfl ?_
    show exC Try.prog T [] _ false none 0 (entry 85 [rowD r, ints l]) (finQ T [ResultVar.tmp 4] _)
    conv => whnf
    repeat' first | ((first | refine Ob.a ?_ | refine Sp.tt ?_ | refine Sp.ff ?_ | refine Sp.yes ?_ | refine Sp.no ?_ | refine Sp.nyes ?_ | refine Sp.nno ?_);conv=>whnf) | (refine Sp.ne (fun hc => ?_) (fun hc => ?_) <;> (conv=>whnf)) | (refine Sp.dec (fun hc => ?_) (fun hc => ?_) <;> (conv=>whnf)) | (refine Sp.ndec (fun hc => ?_) (fun hc => ?_) <;> (conv=>whnf)) | (refine Sp.mk (fun hc => ?_) (fun hc => ?_) <;> (conv=>whnf)) | (apply Cl.go;(conv=>whnf); (first | refine Ob.call (hg) ?_ | refine Ob.call (c1) ?_ | refine Ob.call (c2) ?_ | refine Ob.call (a1) ?_ | refine Ob.call (a2) ?_ | refine Ob.call (a3) ?_ | refine Ob.call (a4) ?_ | refine Ob.call (a5) ?_ | refine Ob.call (hw) ?_);(conv=>whnf)) | (refine Fi.a ?_;conv=>whnf) | (refine Ob.b ?_;conv=>whnf)
    all_goals exact Lf
  · have p1 : pricesPR r = ([], rowError r) := if_pos he
    have p2 : leastPR r = (0, rowError r) := if_pos he
    rw [p1] at a3
    rw [p2] at a4
    have c2 := long_spec []
    rw [decide_eq_false (by simp)] at c2
    generalize checkPricesR r l = x1 at *
    refine Fn.of_ex (cuts := []) tys hM Try.func5 rfl Try.call5 rfl ?_
    show exC Try.prog T [] _ false none 0 (entry 85 [rowD r, ints l]) (finQ T [ResultVar.tmp 4] _)
    conv => whnf
    repeat' first | ((first | refine Ob.a ?_ | refine Sp.tt ?_ | refine Sp.ff ?_ | refine Sp.yes ?_ | refine Sp.no ?_ | refine Sp.nyes ?_ | refine Sp.nno ?_);conv=>whnf) | (refine Sp.ne (fun hc => ?_) (fun hc => ?_) <;> (conv=>whnf)) | (refine Sp.dec (fun hc => ?_) (fun hc => ?_) <;> (conv=>whnf)) | (refine Sp.ndec (fun hc => ?_) (fun hc => ?_) <;> (conv=>whnf)) | (refine Sp.mk (fun hc => ?_) (fun hc => ?_) <;> (conv=>whnf)) | (apply Cl.go;(conv=>whnf); (first | refine Ob.call (hg) ?_ | refine Ob.call (c1) ?_ | refine Ob.call (c2) ?_ | refine Ob.call (a1) ?_ | refine Ob.call (a2) ?_ | refine Ob.call (a3) ?_ | refine Ob.call (a4) ?_ | refine Ob.call (hw) ?_);(conv=>whnf)) | (refine Fi.a ?_;conv=>whnf) | (refine Ob.b ?_;conv=>whnf)
    all_goals exact Lf
theorem apF_len (r : Row) : (apF r none r.weak).length ≤ r.weak.length := (apF_sub r r.weak none).length_le
theorem apartR_len (r : Row) : (apartR r).1.length ≤ r.weak.length := by
  unfold apartR
  split
  · simp
  · rename_i h
    rw [apart_eq (checkRow_ok.1 (Decidable.of_not_not h))]
    exact apF_len r
theorem fellowsR_len (r : Row) (a : Int) : (fellowsR r a).1.length ≤ 40 := by
  unfold fellowsR
  split
  · simp
  · rename_i h
    have := (checkRow_ok.1 (Decidable.of_not_not h)).p40
    split
    · simp
    · exact Nat.le_trans (lst_length_le _ _) (by omega)
theorem Sound.few {r : Row} (h : Sound r) : ∃ S, E r S ∧ fewestPR r = (lst r.lots.length S, 0) ∧ (lst r.lots.length S).length = fewestR r ∧ (lst r.lots.length S).length = (apF r none r.weak).length := by
  obtain ⟨S, hS, h1, h2⟩ := fewest_ok h.ok h.ex
  have h3 := fewestR_eq h.ok h.ex
  rw [h1] at h2 h3
  exact ⟨S, hS, by unfold fewestPR; rw [if_neg (not_not_intro h.err), h1], h3, h2⟩
set_option maxHeartbeats 16000000 in
theorem PotAparts_spec (r : Row) (l : List Int) (w : Int) (hl : l.length ≤ 9223372036854775807) : Fn Try.prog 6 [rowD r, ints l, int w] (bool true) := by
  have hw := Works_spec
  have c1 := long_spec l
  by_cases h1 : notGreat r
  case neg =>
    have hg := great_yes h1
    refine Fn.of_ex (cuts := []) tys hM Try.func6 rfl Try.call6 rfl ?_
    show exC Try.prog T [] _ false none 0 (entry 120 [rowD r, ints l, int w]) (finQ T [ResultVar.tmp 6] _)
    conv => whnf
    repeat' first | ((first | refine Ob.a ?_ | refine Sp.tt ?_ | refine Sp.ff ?_ | refine Sp.yes ?_ | refine Sp.no ?_ | refine Sp.nyes ?_ | refine Sp.nno ?_);conv=>whnf) | (refine Sp.ne (fun hc => ?_) (fun hc => ?_) <;> (conv=>whnf)) | (refine Sp.dec (fun hc => ?_) (fun hc => ?_) <;> (conv=>whnf)) | (refine Sp.ndec (fun hc => ?_) (fun hc => ?_) <;> (conv=>whnf)) | (refine Sp.mk (fun hc => ?_) (fun hc => ?_) <;> (conv=>whnf)) | (apply Cl.go;(conv=>whnf); (first | refine Ob.call (hg) ?_ | refine Ob.call (c1) ?_ | refine Ob.call (hw) ?_);(conv=>whnf)) | (refine Fi.a ?_;conv=>whnf) | (refine Ob.b ?_;conv=>whnf)
    all_goals exact Lf
  have hg := great_no h1
  by_cases h2 : 20 < (l.length : Int)
  · rw [decide_eq_true h2] at c1
    refine Fn.of_ex (cuts := []) tys hM Try.func6 rfl Try.call6 rfl ?_
    show exC Try.prog T [] _ false none 0 (entry 120 [rowD r, ints l, int w]) (finQ T [ResultVar.tmp 6] _)
    conv => whnf
    repeat' first | ((first | refine Ob.a ?_ | refine Sp.tt ?_ | refine Sp.ff ?_ | refine Sp.yes ?_ | refine Sp.no ?_ | refine Sp.nyes ?_ | refine Sp.nno ?_);conv=>whnf) | (refine Sp.ne (fun hc => ?_) (fun hc => ?_) <;> (conv=>whnf)) | (refine Sp.dec (fun hc => ?_) (fun hc => ?_) <;> (conv=>whnf)) | (refine Sp.ndec (fun hc => ?_) (fun hc => ?_) <;> (conv=>whnf)) | (refine Sp.mk (fun hc => ?_) (fun hc => ?_) <;> (conv=>whnf)) | (apply Cl.go;(conv=>whnf); (first | refine Ob.call (hg) ?_ | refine Ob.call (c1) ?_ | refine Ob.call (hw) ?_);(conv=>whnf)) | (refine Fi.a ?_;conv=>whnf) | (refine Ob.b ?_;conv=>whnf)
    all_goals exact Lf
  rw [decide_eq_false h2] at c1
  obtain ⟨g1, g2⟩ := h1
  have k1 : r.lots.length < 1000000 := by omega
  have k2 : r.weak.length < 1000000 := by omega
  have a1 := ApartP_spec r k1 k2
  have a2 := Apart_spec r k1 k2
  have a3 := FellowsP_spec r w k1 k2
  have a4 := Fellows_spec r w k1 k2
  have a5 := FewestP_spec r k1 k2
  have a6 := RowError_spec r k1 k2
  have a7 := CheckApartP_spec r l k1 k2 (by omega)
  have a8 := CheckApart_spec r l k1 k2 (by omega)
  have b1 := ints_same (apartR r).1 (by have := apartR_len r; omega)
  have b2 := ints_same (fellowsR r w).1 (by have := fellowsR_len r w; omega)
  by_cases he : rowError r = 0
  · have hs := sound_of he
    obtain ⟨S, q1, q2, q3, _⟩ := hs.few
    have hll := lst_length_le r.lots.length S
    have a9 := FewestOf_spec r hs.ok
    rw [q2] at a5
    rw [he] at a6
    have b3 := CheckLots_spec r (lst r.lots.length S) k1 k2 (by omega)
    rw [checkLots_E hs.ok q1] at b3
    have c2 := long_spec (lst r.lots.length S)
    rw [decide_eq_false (by omega)] at c2
    generalize fellowsR r w = x1 at *
    generalize apartR r = x2 at *
    generalize checkApartR r l = x3 at *
    generalize totR r S = x4 at *
    generalize lst r.lots.length S = f at *
    generalize fewestR r = n at *
    have q5 : (((f, (0 : Int)).1.length : Nat) : Int) = (n : Int) := by show (f.length : Int) = n; omega
    refine Fn.of_ex (cuts := []) tys hM Try.func6 rfl Try.call6 rfl ?_
    show exC Try.prog T [] _ false none 0 (entry 120 [rowD r, ints l, int w]) (finQ T [ResultVar.tmp 6] _)
    conv => whnf
    repeat' first | ((first | refine Ob.a ?_ | refine Sp.tt ?_ | refine Sp.ff ?_ | refine Sp.yes ?_ | refine Sp.no ?_ | refine Sp.nyes ?_ | refine Sp.nno ?_);conv=>whnf) | (refine Sp.ne (fun hc => ?_) (fun hc => ?_) <;> (conv=>whnf)) | (refine Sp.dec (fun hc => ?_) (fun hc => ?_) <;> (conv=>whnf)) | (refine Sp.ndec (fun hc => ?_) (fun hc => ?_) <;> (conv=>whnf)) | (refine Sp.mk (fun hc => ?_) (fun hc => ?_) <;> (conv=>whnf)) | (apply Cl.go;(conv=>whnf); (first | refine Ob.call (hg) ?_ | refine Ob.call (c1) ?_ | refine Ob.call (c2) ?_ | refine Ob.call (a1) ?_ | refine Ob.call (a2) ?_ | refine Ob.call (a3) ?_ | refine Ob.call (a4) ?_ | refine Ob.call (a5) ?_ | refine Ob.call (a6) ?_ | refine Ob.call (a7) ?_ | refine Ob.call (a8) ?_ | refine Ob.call (a9) ?_ | refine Ob.call (b1) ?_ | refine Ob.call (b2) ?_ | refine Ob.call (b3) ?_ | refine Ob.call (hw) ?_);(conv=>whnf)) | (refine Fi.a ?_;conv=>whnf) | (refine Ob.b ?_;conv=>whnf)
    all_goals exact Lf
  · have p1 : fewestPR r = ([], rowError r) := if_pos he
    rw [p1] at a5
    have c2 := long_spec []
    rw [decide_eq_false (by simp)] at c2
    generalize fellowsR r w = x1 at *
    generalize apartR r = x2 at *
    generalize checkApartR r l = x3 at *
    refine Fn.of_ex (cuts := []) tys hM Try.func6 rfl Try.call6 rfl ?_
    show exC Try.prog T [] _ false none 0 (entry 120 [rowD r, ints l, int w]) (finQ T [ResultVar.tmp 6] _)
    conv => whnf
    repeat' first | ((first | refine Ob.a ?_ | refine Sp.tt ?_ | refine Sp.ff ?_ | refine Sp.yes ?_ | refine Sp.no ?_ | refine Sp.nyes ?_ | refine Sp.nno ?_);conv=>whnf) | (refine Sp.ne (fun hc => ?_) (fun hc => ?_) <;> (conv=>whnf)) | (refine Sp.dec (fun hc => ?_) (fun hc => ?_) <;> (conv=>whnf)) | (refine Sp.ndec (fun hc => ?_) (fun hc => ?_) <;> (conv=>whnf)) | (refine Sp.mk (fun hc => ?_) (fun hc => ?_) <;> (conv=>whnf)) | (apply Cl.go;(conv=>whnf); (first | refine Ob.call (hg) ?_ | refine Ob.call (c1) ?_ | refine Ob.call (c2) ?_ | refine Ob.call (a1) ?_ | refine Ob.call (a2) ?_ | refine Ob.call (a3) ?_ | refine Ob.call (a4) ?_ | refine Ob.call (a5) ?_ | refine Ob.call (a6) ?_ | refine Ob.call (a7) ?_ | refine Ob.call (a8) ?_ | refine Ob.call (b1) ?_ | refine Ob.call (b2) ?_ | refine Ob.call (hw) ?_);(conv=>whnf)) | (refine Fi.a ?_;conv=>whnf) | (refine Ob.b ?_;conv=>whnf)
    all_goals exact Lf
end Go.Px.Try

/-! LwProved -/
namespace Go.Px.Try
open Go Go.Proofs Go.Px
set_option maxRecDepth 100000
/-- A list that comes before another one: at the first place where they differ it is less. -/
theorem lessL_at {a b : List Int} (h : lessL a b = true) {i : Nat} (ha : i ≤ a.length) (hb : i ≤ b.length) (hag : ∀ j, j < i → a.getD j 0 = b.getD j 0) :
    (i < a.length → i < b.length → a.getD i 0 ≠ b.getD i 0 → a.getD i 0 < b.getD i 0) ∧ (¬ (i < a.length ∧ i < b.length) → a.length < b.length) := by
  rw [lessL_same i a b ha hb hag] at h
  constructor
  · intro h1 h2 h3
    rw [drop_getD 0 h1, drop_getD 0 h2, lessL, if_pos h3] at h
    exact of_decide_eq_true h
  · intro hn
    by_cases h1 : i < a.length
    · rw [drop_getD 0 h1, List.drop_eq_nil_of_le (show b.length ≤ i by omega), lessL] at h
      cases h
    · by_cases h2 : i < b.length
      · omega
      · rw [List.drop_eq_nil_of_le (show a.length ≤ i by omega), List.drop_eq_nil_of_le (show b.length ≤ i by omega), lessL] at h
        cases h
theorem notSound_fn {r : Row} (h : ¬ (notGreat r ∧ rowError r = 0)) : Fn Try.prog 44 [rowD r] (bool false) := by
  have := sound_spec r
  rwa [decide_eq_false h] at this
theorem sound_fn {r : Row} (h : notGreat r ∧ rowError r = 0) : Fn Try.prog 44 [rowD r] (bool true) := by
  have := sound_spec r
  rwa [decide_eq_true h] at this
theorem given_len (r : Row) (by' : List Nat) : (givenL r by').length ≤ r.lots.length := lst_length_le _ _
theorem given_check {r : Row} (h : Sound r) (by' : List Nat) : checkLotsR r (givenL r by') = (totR r (bset (givenB r by')), 0) := checkLots_E h.ok (given_E by' h.ex)
theorem lst_opt {r : Row} {S : Nat → Bool} (h : Opt r S) : OptL r (lst r.lots.length S) := ⟨S, h, rfl⟩
theorem prices_le {r : Row} (h : Sound r) {p : List Int} (hp : (checkPricesR r p).2 = 0) {S : Nat → Bool} (hS : E r S) : (checkPricesR r p).1 ≤ totR r S := by
  have h1 := (checkPricesR_right h.ok).1 hp
  have h2 := h1.proves hS
  have : checkPricesR r p = (sumTo p p.length, 0) := by
    unfold checkPricesR
    rw [if_neg (by rw [checkRow_ok.2 h.ok]; simp), if_neg (not_not_intro h1.len), if_neg (not_not_intro h1.rng), if_neg (not_not_intro h1.lots)]
  rw [this]; exact h2
set_option maxHeartbeats 16000000 in
theorem PotProved_spec (r : Row) (by' : List Nat) (p : List Int) (hb : (∀ x ∈ by', x < 256) ∧ by'.length ≤ maxLen) (hp : p.length ≤ maxLen) : Fn Try.prog 7 [rowD r, u8s by', ints p] (bool true) := by
  have hbl : by'.length ≤ 9223372036854775807 := Nat.le_trans hb.2 (by decide)
  have hpl : p.length ≤ 9223372036854775807 := Nat.le_trans hp (by decide)
  have hw := Works_spec
  have c1 := long_spec p
  by_cases h1 : notGreat r ∧ rowError r = 0
  case neg =>
    have hf := notSound_fn h1
    refine Fn.of_ex (cuts := []) tys hM Try.func7 rfl Try.call7 rfl ?_
    show exC Try.prog T [] _ false none 0 (entry 134 [rowD r, u8s by', ints p]) (finQ T [ResultVar.tmp 6] _)
    conv => whnf
    repeat' first | ((first | refine Ob.a ?_ | refine Sp.tt ?_ | refine Sp.ff ?_ | refine Sp.yes ?_ | refine Sp.no ?_ | refine Sp.nyes ?_ | refine Sp.nno ?_);conv=>whnf) | (refine Sp.ne (fun hc => ?_) (fun hc => ?_) <;> (conv=>whnf)) | (refine Sp.dec (fun hc => ?_) (fun hc => ?_) <;> (conv=>whnf)) | (refine Sp.ndec (fun hc => ?_) (fun hc => ?_) <;> (conv=>whnf)) | (refine Sp.mk (fun hc => ?_) (fun hc => ?_) <;> (conv=>whnf)) | (apply Cl.go;(conv=>whnf); (first | refine Ob.call (hf) ?_ | refine Ob.call (c1) ?_ | refine Ob.call (hw) ?_);(conv=>whnf)) | (refine Fi.a ?_;conv=>whnf) | (refine Ob.b ?_;conv=>whnf)
    all_goals exact Lf
  have hf := sound_fn h1
  have hs := sound_of h1.2
  by_cases h2 : 20 < (by'.length : Int)
  · refine Fn.of_ex (cuts := []) tys hM Try.func7 rfl Try.call7 rfl ?_
    show exC Try.prog T [] _ false none 0 (entry 134 [rowD r, u8s by', ints p]) (finQ T [ResultVar.tmp 6] _)
    conv => whnf
    repeat' first | ((first | refine Ob.a ?_ | refine Sp.tt ?_ | refine Sp.ff ?_ | refine Sp.yes ?_ | refine Sp.no ?_ | refine Sp.nyes ?_ | refine Sp.nno ?_);conv=>whnf) | (refine Sp.ne (fun hc => ?_) (fun hc => ?_) <;> (conv=>whnf)) | (refine Sp.dec (fun hc => ?_) (fun hc => ?_) <;> (conv=>whnf)) | (refine Sp.ndec (fun hc => ?_) (fun hc => ?_) <;> (conv=>whnf)) | (refine Sp.mk (fun hc => ?_) (fun hc => ?_) <;> (conv=>whnf)) | (apply Cl.go;(conv=>whnf); (first | refine Ob.call (hf) ?_ | refine Ob.call (c1) ?_ | refine Ob.call (hw) ?_);(conv=>whnf)) | (refine Fi.a ?_;conv=>whnf) | (refine Ob.b ?_;conv=>whnf)
    all_goals exact Lf
  by_cases h3 : 20 < (p.length : Int)
  · rw [decide_eq_true h3] at c1
    refine Fn.of_ex (cuts := []) tys hM Try.func7 rfl Try.call7 rfl ?_
    show exC Try.prog T [] _ false none 0 (entry 134 [rowD r, u8s by', ints p]) (finQ T [ResultVar.tmp 6] _)
    conv => whnf
    repeat' first | ((first | refine Ob.a ?_ | refine Sp.tt ?_ | refine Sp.ff ?_ | refine Sp.yes ?_ | refine Sp.no ?_ | refine Sp.nyes ?_ | refine Sp.nno ?_);conv=>whnf) | (refine Sp.ne (fun hc => ?_) (fun hc => ?_) <;> (conv=>whnf)) | (refine Sp.dec (fun hc => ?_) (fun hc => ?_) <;> (conv=>whnf)) | (refine Sp.ndec (fun hc => ?_) (fun hc => ?_) <;> (conv=>whnf)) | (refine Sp.mk (fun hc => ?_) (fun hc => ?_) <;> (conv=>whnf)) | (apply Cl.go;(conv=>whnf); (first | refine Ob.call (hf) ?_ | refine Ob.call (c1) ?_ | refine Ob.call (hw) ?_);(conv=>whnf)) | (refine Fi.a ?_;conv=>whnf) | (refine Ob.b ?_;conv=>whnf)
    all_goals exact Lf
  rw [decide_eq_false h3] at c1
  have h10 := hs.ok.l10
  have h12 := hs.ok.w12
  have k1 : r.lots.length < 1000000 := by omega
  have k2 : r.weak.length < 1000000 := by omega
  have hgl := given_len r by'
  have a0 := least_spec hs
  have a1 := Given_spec r by' hs.ok (by omega) hb.1
  have a2 := CheckLotsP_spec r (givenL r by') k1 k2 (by omega)
  have a3 := CheckPricesP_spec r p k1 k2 (by omega)
  have a4 := LotsP_spec r k1 k2
  rw [given_check hs by'] at a2
  have hgE := given_E by' hs.ex
  have q1 := hs.le hgE
  obtain ⟨U, hU, e, hmin⟩ := hs.best
  have hU2 := hs.opt.1 hU
  rw [e] at a4
  dsimp only at a4
  have q2 := fun h => prices_le hs (p := p) h hgE
  have q3 := fun h => prices_le hs (p := p) h hU2.1
  rw [hU2.2] at q3
  have hul := lst_length_le r.lots.length U
  have q4 : totR r (bset (givenB r by')) = optN r → ¬ lst r.lots.length U = givenL r by' → lessL (lst r.lots.length U) (givenL r by') = true := fun h1 h2 => by
    rcases lessL_tri (lst r.lots.length U) (givenL r by') with h | h | h
    · exact absurd h h2
    · exact h
    · have := hmin _ (lst_opt (hs.opt.2 ⟨hgE, h1⟩))
      rw [show lessL (lst r.lots.length (bset (givenB r by'))) (lst r.lots.length U) = lessL (givenL r by') (lst r.lots.length U) from rfl, h] at this; cases this
  have a5 := Ints_spec (lst r.lots.length U) (givenL r by') (by omega)
  generalize checkPricesR r p = x at *
  obtain ⟨x1, x2⟩ := x
  simp only at q2 q3
  generalize totR r (bset (givenB r by')) = a at *
  generalize givenL r by' = g at *
  generalize lst r.lots.length U = l at *
  generalize optN r = v at *
  have k3 : x2 = 0 → ¬ a < x1 := fun h => by have := q2 h; omega
  have k4 : x2 = 0 → ¬ v < x1 := fun h => by have := q3 h; omega
  by_cases hx : x2 = 0
  · have k3 := k3 hx
    have k4 := k4 hx
    by_cases hav : v < a
    · refine Fn.of_ex (cuts := []) tys hM Try.func7 rfl Try.call7 rfl ?_
      show exC Try.prog T [] _ false none 0 (entry 134 [rowD r, u8s by', ints p]) (finQ T [ResultVar.tmp 6] _)
      conv => whnf
      repeat' first | ((first | refine Ob.a ?_ | refine Sp.tt ?_ | refine Sp.ff ?_ | refine Sp.yes ?_ | refine Sp.no ?_ | refine Sp.nyes ?_ | refine Sp.nno ?_);conv=>whnf) | (refine Sp.ne (fun hc => ?_) (fun hc => ?_) <;> (conv=>whnf)) | (refine Sp.dec (fun hc => ?_) (fun hc => ?_) <;> (conv=>whnf)) | (refine Sp.ndec (fun hc => ?_) (fun hc => ?_) <;> (conv=>whnf)) | (refine Sp.mk (fun hc => ?_) (fun hc => ?_) <;> (conv=>whnf)) | (apply Cl.go;(conv=>whnf); (first | refine Ob.call (hf) ?_ | refine Ob.call (c1) ?_ | refine Ob.call (hw) ?_ | refine Ob.call (a0) ?_ | refine Ob.call (a1) ?_ | refine Ob.call (a2) ?_ | refine Ob.call (a3) ?_ | refine Ob.call (a4) ?_);(conv=>whnf)) | (refine Fi.a ?_;conv=>whnf) | (refine Ob.b ?_;conv=>whnf)
      all_goals exact Lf
    by_cases hlg : l = g
    · rw [decide_eq_true hlg] at a5
      refine Fn.of_ex (cuts := []) tys hM Try.func7 rfl Try.call7 rfl ?_
      show exC Try.prog T [] _ false none 0 (entry 134 [rowD r, u8s by', ints p]) (finQ T [ResultVar.tmp 6] _)
      conv => whnf
      repeat' first | ((first | refine Ob.a ?_ | refine Sp.tt ?_ | refine Sp.ff ?_ | refine Sp.yes ?_ | refine Sp.no ?_ | refine Sp.nyes ?_ | refine Sp.nno ?_);conv=>whnf) | (refine Sp.ne (fun hc => ?_) (fun hc => ?_) <;> (conv=>whnf)) | (refine Sp.dec (fun hc => ?_) (fun hc => ?_) <;> (conv=>whnf)) | (refine Sp.ndec (fun hc => ?_) (fun hc => ?_) <;> (conv=>whnf)) | (refine Sp.mk (fun hc => ?_) (fun hc => ?_) <;> (conv=>whnf)) | (apply Cl.go;(conv=>whnf); (first | refine Ob.call (hf) ?_ | refine Ob.call (c1) ?_ | refine Ob.call (hw) ?_ | refine Ob.call (a0) ?_ | refine Ob.call (a1) ?_ | refine Ob.call (a2) ?_ | refine Ob.call (a3) ?_ | refine Ob.call (a4) ?_ | refine Ob.call (a5) ?_);(conv=>whnf)) | (refine Fi.a ?_;conv=>whnf) | (refine Ob.b ?_;conv=>whnf)
      all_goals exact Lf
    rw [decide_eq_false hlg] at a5
    have hless := q4 (by omega) hlg
    refine Fn.of_ex (cuts := []) tys hM Try.func7 rfl Try.call7 rfl ?_
    show exC Try.prog T [] _ false none 0 (entry 134 [rowD r, u8s by', ints p]) (finQ T [ResultVar.tmp 6] _)
    conv => whnf
    repeat' first | ((first | refine Ob.a ?_ | refine Sp.tt ?_ | refine Sp.ff ?_ | refine Sp.yes ?_ | refine Sp.no ?_ | refine Sp.nyes ?_ | refine Sp.nno ?_);conv=>whnf) | (refine Sp.ne (fun hc => ?_) (fun hc => ?_) <;> (conv=>whnf)) | (refine Sp.dec (fun hc => ?_) (fun hc => ?_) <;> (conv=>whnf)) | (refine Sp.ndec (fun hc => ?_) (fun hc => ?_) <;> (conv=>whnf)) | (refine Sp.mk (fun hc => ?_) (fun hc => ?_) <;> (conv=>whnf)) | (apply Cl.go;(conv=>whnf); (first | refine Ob.call (hf) ?_ | refine Ob.call (c1) ?_ | refine Ob.call (hw) ?_ | refine Ob.call (a0) ?_ | refine Ob.call (a1) ?_ | refine Ob.call (a2) ?_ | refine Ob.call (a3) ?_ | refine Ob.call (a4) ?_ | refine Ob.call (a5) ?_);(conv=>whnf)) | (refine Fi.a ?_;conv=>whnf) | (refine Ob.b ?_;conv=>whnf)
    refine Lp.snap [0, 1, 2, 9, 14, 126, 127, 128, 129, 130, 131, 132, 133] 100 ?_
    (conv=>whnf)
    refine LpB.go 134 ({i : Int // (0 ≤ i ∧ i ≤ l.length ∧ i ≤ g.length) ∧ ∀ j : Nat, j < i.toNat → l.getD j 0 = g.getD j 0}) 0 (fun ⟨i, _⟩ nx => ([(16, .d (int i))], [])) (fun p => (l.length - p.1).toNat) (⟨0, ⟨by omega, by omega, by omega⟩, fun j hj => by simp at hj⟩) ?_ ?_
    · rintro ⟨i, ⟨i0, i1, i2⟩, hag⟩
      obtain ⟨h5, h6⟩ := lessL_at hless (i := i.toNat) (by omega) (by omega) hag
      have h5 : i < l.length → i < g.length → ¬ l.getD i.toNat 0 = g.getD i.toNat 0 → l.getD i.toNat 0 < g.getD i.toNat 0 := fun a b c => h5 (by omega) (by omega) c
      have h6 : ¬ (i < l.length ∧ i < g.length) → (l.length : Int) < g.length := fun h => by have := h6 (by omega); omega
      conv => whnf
      repeat' first | ((first | refine Ob.a ?_ | refine Sp.tt ?_ | refine Sp.ff ?_ | refine Sp.yes ?_ | refine Sp.no ?_ | refine Sp.nyes ?_ | refine Sp.nno ?_);conv=>whnf) | (refine Sp.ne (fun hc => ?_) (fun hc => ?_) <;> (conv=>whnf)) | (refine Sp.dec (fun hc => ?_) (fun hc => ?_) <;> (conv=>whnf)) | (refine Sp.ndec (fun hc => ?_) (fun hc => ?_) <;> (conv=>whnf)) | (refine Sp.mk (fun hc => ?_) (fun hc => ?_) <;> (conv=>whnf)) | (apply Cl.go;(conv=>whnf); (first | refine Ob.call (hw) ?_);(conv=>whnf)) | (refine Fi.a ?_;conv=>whnf) | (refine Ob.b ?_;conv=>whnf)
      all_goals first | exact Lf | (refine ⟨rfl, ⟨i + 1, ⟨by omega, by omega, by omega⟩, fun j hj => ?_⟩, Lf, by simp only; omega⟩; by_cases e : j < i.toNat; exact hag j e; obtain rfl : j = i.toNat := (by omega); assumption) | skip
    · exact Lf
  · by_cases hav : v < a
    · refine Fn.of_ex (cuts := []) tys hM Try.func7 rfl Try.call7 rfl ?_
      show exC Try.prog T [] _ false none 0 (entry 134 [rowD r, u8s by', ints p]) (finQ T [ResultVar.tmp 6] _)
      conv => whnf
      repeat' first | ((first | refine Ob.a ?_ | refine Sp.tt ?_ | refine Sp.ff ?_ | refine Sp.yes ?_ | refine Sp.no ?_ | refine Sp.nyes ?_ | refine Sp.nno ?_);conv=>whnf) | (refine Sp.ne (fun hc => ?_) (fun hc => ?_) <;> (conv=>whnf)) | (refine Sp.dec (fun hc => ?_) (fun hc => ?_) <;> (conv=>whnf)) | (refine Sp.ndec (fun hc => ?_) (fun hc => ?_) <;> (conv=>whnf)) | (refine Sp.mk (fun hc => ?_) (fun hc => ?_) <;> (conv=>whnf)) | (apply Cl.go;(conv=>whnf); (first | refine Ob.call (hf) ?_ | refine Ob.call (c1) ?_ | refine Ob.call (hw) ?_ | refine Ob.call (a0) ?_ | refine Ob.call (a1) ?_ | refine Ob.call (a2) ?_ | refine Ob.call (a3) ?_ | refine Ob.call (a4) ?_);(conv=>whnf)) | (refine Fi.a ?_;conv=>whnf) | (refine Ob.b ?_;conv=>whnf)
      all_goals exact Lf
    by_cases hlg : l = g
    · rw [decide_eq_true hlg] at a5
      refine Fn.of_ex (cuts := []) tys hM Try.func7 rfl Try.call7 rfl ?_
      show exC Try.prog T [] _ false none 0 (entry 134 [rowD r, u8s by', ints p]) (finQ T [ResultVar.tmp 6] _)
      conv => whnf
      repeat' first | ((first | refine Ob.a ?_ | refine Sp.tt ?_ | refine Sp.ff ?_ | refine Sp.yes ?_ | refine Sp.no ?_ | refine Sp.nyes ?_ | refine Sp.nno ?_);conv=>whnf) | (refine Sp.ne (fun hc => ?_) (fun hc => ?_) <;> (conv=>whnf)) | (refine Sp.dec (fun hc => ?_) (fun hc => ?_) <;> (conv=>whnf)) | (refine Sp.ndec (fun hc => ?_) (fun hc => ?_) <;> (conv=>whnf)) | (refine Sp.mk (fun hc => ?_) (fun hc => ?_) <;> (conv=>whnf)) | (apply Cl.go;(conv=>whnf); (first | refine Ob.call (hf) ?_ | refine Ob.call (c1) ?_ | refine Ob.call (hw) ?_ | refine Ob.call (a0) ?_ | refine Ob.call (a1) ?_ | refine Ob.call (a2) ?_ | refine Ob.call (a3) ?_ | refine Ob.call (a4) ?_ | refine Ob.call (a5) ?_);(conv=>whnf)) | (refine Fi.a ?_;conv=>whnf) | (refine Ob.b ?_;conv=>whnf)
      all_goals exact Lf
    rw [decide_eq_false hlg] at a5
    have hless := q4 (by omega) hlg
    refine Fn.of_ex (cuts := []) tys hM Try.func7 rfl Try.call7 rfl ?_
    show exC Try.prog T [] _ false none 0 (entry 134 [rowD r, u8s by', ints p]) (finQ T [ResultVar.tmp 6] _)
    conv => whnf
    repeat' first | ((first | refine Ob.a ?_ | refine Sp.tt ?_ | refine Sp.ff ?_ | refine Sp.yes ?_ | refine Sp.no ?_ | refine Sp.nyes ?_ | refine Sp.nno ?_);conv=>whnf) | (refine Sp.ne (fun hc => ?_) (fun hc => ?_) <;> (conv=>whnf)) | (refine Sp.dec (fun hc => ?_) (fun hc => ?_) <;> (conv=>whnf)) | (refine Sp.ndec (fun hc => ?_) (fun hc => ?_) <;> (conv=>whnf)) | (refine Sp.mk (fun hc => ?_) (fun hc => ?_) <;> (conv=>whnf)) | (apply Cl.go;(conv=>whnf); (first | refine Ob.call (hf) ?_ | refine Ob.call (c1) ?_ | refine Ob.call (hw) ?_ | refine Ob.call (a0) ?_ | refine Ob.call (a1) ?_ | refine Ob.call (a2) ?_ | refine Ob.call (a3) ?_ | refine Ob.call (a4) ?_ | refine Ob.call (a5) ?_);(conv=>whnf)) | (refine Fi.a ?_;conv=>whnf) | (refine Ob.b ?_;conv=>whnf)
    refine Lp.snap [0, 1, 2, 9, 14, 126, 127, 128, 129, 130, 131, 132, 133] 100 ?_
    (conv=>whnf)
    refine LpB.go 134 ({i : Int // (0 ≤ i ∧ i ≤ l.length ∧ i ≤ g.length) ∧ ∀ j : Nat, j < i.toNat → l.getD j 0 = g.getD j 0}) 0 (fun ⟨i, _⟩ nx => ([(16, .d (int i))], [])) (fun p => (l.length - p.1).toNat) (⟨0, ⟨by omega, by omega, by omega⟩, fun j hj => by simp at hj⟩) ?_ ?_
    · rintro ⟨i, ⟨i0, i1, i2⟩, hag⟩
      obtain ⟨h5, h6⟩ := lessL_at hless (i := i.toNat) (by omega) (by omega) hag
      have h5 : i < l.length → i < g.length → ¬ l.getD i.toNat 0 = g.getD i.toNat 0 → l.getD i.toNat 0 < g.getD i.toNat 0 := fun a b c => h5 (by omega) (by omega) c
      have h6 : ¬ (i < l.length ∧ i < g.length) → (l.length : Int) < g.length := fun h => by have := h6 (by omega); omega
      conv => whnf
      repeat' first | ((first | refine Ob.a ?_ | refine Sp.tt ?_ | refine Sp.ff ?_ | refine Sp.yes ?_ | refine Sp.no ?_ | refine Sp.nyes ?_ | refine Sp.nno ?_);conv=>whnf) | (refine Sp.ne (fun hc => ?_) (fun hc => ?_) <;> (conv=>whnf)) | (refine Sp.dec (fun hc => ?_) (fun hc => ?_) <;> (conv=>whnf)) | (refine Sp.ndec (fun hc => ?_) (fun hc => ?_) <;> (conv=>whnf)) | (refine Sp.mk (fun hc => ?_) (fun hc => ?_) <;> (conv=>whnf)) | (apply Cl.go;(conv=>whnf); (first | refine Ob.call (hw) ?_);(conv=>whnf)) | (refine Fi.a ?_;conv=>whnf) | (refine Ob.b ?_;conv=>whnf)
      all_goals first | exact Lf | (refine ⟨rfl, ⟨i + 1, ⟨by omega, by omega, by omega⟩, fun j hj => ?_⟩, Lf, by simp only; omega⟩; by_cases e : j < i.toNat; exact hag j e; obtain rfl : j = i.toNat := (by omega); assumption) | skip
    · exact Lf
end Go.Px.Try

/-! LwFewest -/
namespace Go.Px.Try
open Go Go.Proofs Go.Px
set_option maxRecDepth 100000
theorem band16 (b k : Nat) : band .u16 ((b : Int) / 2 ^ k) 1 = ((b / 2 ^ k % 2 : Nat) : Int) := by
  have e : ((b : Int) / 2 ^ k) = ((b / 2 ^ k : Nat) : Int) := by simp
  rw [e]
  generalize b / 2 ^ k = c
  unfold band
  have h : (BitVec.ofInt IntKind.u16.bits (c : Int) &&& BitVec.ofInt IntKind.u16.bits 1).toNat = c % 2 := by
    have e1 : BitVec.ofInt IntKind.u16.bits (c : Int) = BitVec.ofNat 16 c := BitVec.ofInt_natCast 16 c
    have e2 : BitVec.ofInt IntKind.u16.bits 1 = BitVec.ofNat 16 1 := rfl
    rw [e1, e2]
    show (BitVec.ofNat 16 c &&& BitVec.ofNat 16 1).toNat = _
    rw [BitVec.toNat_and, BitVec.toNat_ofNat, BitVec.toNat_ofNat, show 1 % 2 ^ 16 = 1 from rfl, Nat.and_one_is_mod, Nat.mod_mod_of_dvd]
    decide
  rw [h, wrap_in]
  simp only [inR]
  omega
/-- Weak pots, by bits. -/
def selW (r : Row) (b : Nat) : Nat → List Int
  | 0 => []
  | k + 1 => selW r b k ++ if b / 2 ^ k % 2 = 1 then [r.weak.getD k 0] else []
theorem selW_sub (r : Row) (b : Nat) : ∀ k, k ≤ r.weak.length → (selW r b k).Sublist (r.weak.take k)
  | 0, _ => by simp [selW]
  | k + 1, h => by
    rw [selW, take_succ_getD _ _ 0 h]
    refine (selW_sub r b k (by omega)).append ?_
    split
    · exact List.Sublist.refl _
    · exact List.nil_sublist _
theorem selW_len (r : Row) (b : Nat) : ∀ k, (selW r b k).length ≤ k
  | 0 => Nat.le_refl _
  | k + 1 => by
    have := selW_len r b k
    rw [selW, List.length_append]
    split <;> simp <;> omega
theorem Sound.apart {r : Row} (h : RowOk r) : apartR r = (apF r none r.weak, 0) := by
  unfold apartR
  rw [if_neg (by rw [checkRow_ok.2 h]; simp), apart_eq h]
theorem apF_ok {r : Row} (h : RowOk r) : ApartOk r (apF r none r.weak) := by
  have hs := apF_sub r r.weak none
  have hp := (apF_apart r r.weak none h.inc (fun y hy => by cases hy)).2
  exact ⟨⟨fun x hx => h.rng x (hs.mem hx), h.inc.sublist hs⟩, fun x hx => hs.mem hx, hp⟩
/-- Weak pots of a row: apart, or not. -/
theorem sel_check {r : Row} (h : RowOk r) {l : List Int} (hs : l.Sublist r.weak) : (checkApartR r l = 0 ∧ l.Pairwise (fun a b => togB r a b = false)) ∨ checkApartR r l = 16 := by
  unfold checkApartR
  rw [if_neg (by rw [checkRow_ok.2 h]; simp), if_neg (not_not_intro ⟨fun x hx => h.rng x (hs.mem hx), h.inc.sublist hs⟩), if_neg (not_not_intro fun x hx => hs.mem hx)]
  by_cases hp : l.Pairwise (fun a b => togB r a b = false)
  · rw [if_pos hp]; exact .inl ⟨rfl, hp⟩
  · rw [if_neg hp]; exact .inr rfl
theorem few_le {r : Row} (h : Sound r) {S : Nat → Bool} (hS : E r S) : fewestR r ≤ (lst r.lots.length S).length := by
  obtain ⟨b, h1, h2⟩ := exists_bits S r.lots.length
  have e : listed b r.lots.length = lst r.lots.length S := lst_congr h2
  have := (fewTo_min r (2 ^ r.lots.length)).1 b h1 (by rw [e]; exact explL_lst.2 hS)
  rw [e] at this
  exact this
set_option maxHeartbeats 16000000 in
theorem PotFewest_spec (r : Row) (by' : List Nat) (c : Nat) (hb : (∀ x ∈ by', x < 256) ∧ by'.length ≤ maxLen) (hc : c < 65536) : Fn Try.prog 8 [rowD r, u8s by', u16 c] (bool true) := by
  have hbl : by'.length ≤ 9223372036854775807 := Nat.le_trans hb.2 (by decide)
  have hw := Works_spec
  by_cases h1 : notGreat r ∧ rowError r = 0
  case neg =>
    have hf := notSound_fn h1
    refine Fn.of_ex (cuts := []) tys hM Try.func8 rfl Try.call8 rfl ?_
    show exC Try.prog T [] _ false none 0 (entry 133 [rowD r, u8s by', u16 c]) (finQ T [ResultVar.tmp 6] _)
    conv => whnf
    repeat' first | ((first | refine Ob.a ?_ | refine Sp.tt ?_ | refine Sp.ff ?_ | refine Sp.yes ?_ | refine Sp.no ?_ | refine Sp.nyes ?_ | refine Sp.nno ?_);conv=>whnf) | (refine Sp.ne (fun hc => ?_) (fun hc => ?_) <;> (conv=>whnf)) | (refine Sp.dec (fun hc => ?_) (fun hc => ?_) <;> (conv=>whnf)) | (refine Sp.ndec (fun hc => ?_) (fun hc => ?_) <;> (conv=>whnf)) | (refine Sp.mk (fun hc => ?_) (fun hc => ?_) <;> (conv=>whnf)) | (apply Cl.go;(conv=>whnf); (first | refine Ob.call (hf) ?_ | refine Ob.call (hw) ?_);(conv=>whnf)) | (refine Fi.a ?_;conv=>whnf) | (refine Ob.b ?_;conv=>whnf)
    all_goals exact Lf
  have hf := sound_fn h1
  have hs := sound_of h1.2
  by_cases h2 : 20 < (by'.length : Int)
  · refine Fn.of_ex (cuts := []) tys hM Try.func8 rfl Try.call8 rfl ?_
    show exC Try.prog T [] _ false none 0 (entry 133 [rowD r, u8s by', u16 c]) (finQ T [ResultVar.tmp 6] _)
    conv => whnf
    repeat' first | ((first | refine Ob.a ?_ | refine Sp.tt ?_ | refine Sp.ff ?_ | refine Sp.yes ?_ | refine Sp.no ?_ | refine Sp.nyes ?_ | refine Sp.nno ?_);conv=>whnf) | (refine Sp.ne (fun hc => ?_) (fun hc => ?_) <;> (conv=>whnf)) | (refine Sp.dec (fun hc => ?_) (fun hc => ?_) <;> (conv=>whnf)) | (refine Sp.ndec (fun hc => ?_) (fun hc => ?_) <;> (conv=>whnf)) | (refine Sp.mk (fun hc => ?_) (fun hc => ?_) <;> (conv=>whnf)) | (apply Cl.go;(conv=>whnf); (first | refine Ob.call (hf) ?_ | refine Ob.call (hw) ?_);(conv=>whnf)) | (refine Fi.a ?_;conv=>whnf) | (refine Ob.b ?_;conv=>whnf)
    all_goals exact Lf
  have h10 := hs.ok.l10
  have h12 := hs.ok.w12
  have k1 : r.lots.length < 1000000 := by omega
  have k2 : r.weak.length < 1000000 := by omega
  have hgl := given_len r by'
  have a1 := Given_spec r by' hs.ok (by omega) hb.1
  have a2 := FewestP_spec r k1 k2
  have a3 := ApartP_spec r k1 k2
  obtain ⟨U, hU, e1, e2, e3⟩ := hs.few
  rw [e1] at a2
  rw [Sound.apart hs.ok] at a3
  dsimp only at a2 a3
  have hul := lst_length_le r.lots.length U
  have hxl := apF_len r
  have hgE := given_E by' hs.ex
  have q1 := few_le hs hgE
  have c1 := long_spec (lst r.lots.length U)
  rw [decide_eq_false (by omega)] at c1
  have a4 := CheckLots_spec r (lst r.lots.length U) k1 k2 (by omega)
  rw [checkLots_E hs.ok hU] at a4
  have a5 := CheckApart_spec r (apF r none r.weak) k1 k2 (by omega)
  have a6 := CheckApartP_spec r (apF r none r.weak) k1 k2 (by omega)
  rw [(checkApartR_ok hs.ok).2 (apF_ok hs.ok)] at a5 a6
  have hsub := selW_sub r c r.weak.length (Nat.le_refl _)
  rw [List.take_length] at hsub
  have hsl := selW_len r c
  have hsel := sel_check hs.ok hsub
  have q2 : checkApartR r (selW r c r.weak.length) = 0 → (selW r c r.weak.length).length ≤ (apF r none r.weak).length ∧ (selW r c r.weak.length).length ≤ (givenL r by').length := fun h => by
    rcases hsel with h' | h'
    · exact ⟨apF_most r r.weak _ none hsub (fun a _ => rfl) h'.2, apart_le hgE (fun a ha => hsub.mem ha) (hs.ok.inc.sublist hsub) h'.2⟩
    · omega
  have a7 := CheckApartP_spec r (selW r c r.weak.length) k1 k2 (by have := hsl r.weak.length; omega)
  have q3 : (givenL r by').length = (lst r.lots.length (bset (givenB r by'))).length := rfl
  have hsS : ∀ k : Int, 0 ≤ k → k < r.weak.length → selW r c (k + 1).toNat = selW r c k.toNat ++ if c / 2 ^ k.toNat % 2 = 1 then [r.weak.getD k.toNat 0] else [] := fun k _ _ => by
    rw [show (k + 1).toNat = k.toNat + 1 by omega]; rfl
  generalize hW : selW r c r.weak.length = W at *
  have hsE : ∀ k : Int, 0 ≤ k ∧ k ≤ r.weak.length → ¬ k < r.weak.length → selW r c k.toNat = W := fun k _ _ => by rw [← hW, show k.toNat = r.weak.length by omega]
  rw [← q3] at q1
  have hse2 : checkApartR r W = 0 ∨ checkApartR r W = 16 := hsel.elim (fun h => .inl h.1) .inr
  generalize checkApartR r W = ce at *
  generalize givenL r by' = g at *
  generalize apF r none r.weak = x at *
  generalize totR r U = tu at *
  generalize lst r.lots.length U = f at *
  refine Fn.of_ex (cuts := []) tys hM Try.func8 rfl Try.call8 rfl ?_
  show exC Try.prog T [] _ false none 0 (entry 133 [rowD r, u8s by', u16 c]) (finQ T [ResultVar.tmp 6] _)
  conv => whnf
  repeat' first | ((first | refine Ob.a ?_ | refine Sp.tt ?_ | refine Sp.ff ?_ | refine Sp.yes ?_ | refine Sp.no ?_ | refine Sp.nyes ?_ | refine Sp.nno ?_);conv=>whnf) | (refine Sp.ne (fun hc => ?_) (fun hc => ?_) <;> (conv=>whnf)) | (refine Sp.dec (fun hc => ?_) (fun hc => ?_) <;> (conv=>whnf)) | (refine Sp.ndec (fun hc => ?_) (fun hc => ?_) <;> (conv=>whnf)) | (refine Sp.mk (fun hc => ?_) (fun hc => ?_) <;> (conv=>whnf)) | (apply Cl.go;(conv=>whnf); (first | refine Ob.call (hf) ?_ | refine Ob.call (hw) ?_ | refine Ob.call (a1) ?_ | refine Ob.call (a2) ?_ | refine Ob.call (a3) ?_);(conv=>whnf)) | (refine Fi.a ?_;conv=>whnf) | (refine Ob.b ?_;conv=>whnf)
  refine Lp.snap [0, 1, 2, 3, 6, 7, 8, 9, 10, 13, 14, 16, 56, 57, 58, 59, 60, 61, 62, 63, 64, 65, 66, 67, 68, 69, 70, 71, 72, 73, 74, 75, 76, 77, 78, 79, 80, 81, 82, 83, 84, 85, 87, 88, 89, 90, 91, 92, 93, 94, 95, 96, 97, 98, 99, 100, 101, 102, 103, 104, 105, 107, 108, 109, 110, 111, 112, 113, 114, 115, 116, 117, 118, 119, 120, 121, 122, 123, 124, 125, 126, 127, 128, 129, 130, 131, 132] 100 ?_
  (conv=>whnf)
  refine LpB.go 133 ({q : Int × List Int // (0 ≤ q.1 ∧ q.1 ≤ r.weak.length) ∧ q.2 = selW r c q.1.toNat}) 0 (fun ⟨(i, o), _⟩ nx => ([(12, .d (int i)), (11, .ms 24 1 0 o.length)], [(24, .row true 3 1 o.length (rowOf int 0 o))])) (fun p => (r.weak.length - p.1.1).toNat) (⟨(0, []), ⟨by simp, by simp⟩, rfl⟩) ?_ ?_
  · rintro ⟨⟨i, o⟩, ⟨i0, i1⟩, ho⟩
    simp only at i0 i1 ho
    have hb2 := band16 c i.toNat
    have hlen : o.length ≤ i.toNat := by rw [ho]; exact hsl _
    have hs := hsS i i0
    have he := hsE i ⟨i0, i1⟩
    rw [← ho] at hs he
    by_cases hiw : i < r.weak.length
    · have hs := hs hiw
      by_cases hbit : c / 2 ^ i.toNat % 2 = 1
      · rw [if_pos hbit] at hs
        have hq : ((c / 2 ^ i.toNat % 2 : Nat) : Int) = 1 := by omega
        rw [hq] at hb2
        conv => whnf
        repeat' first | ((first | refine Ob.a ?_ | refine Sp.tt ?_ | refine Sp.ff ?_ | refine Sp.yes ?_ | refine Sp.no ?_ | refine Sp.nyes ?_ | refine Sp.nno ?_);conv=>whnf) | (refine Sp.ne (fun hc => ?_) (fun hc => ?_) <;> (conv=>whnf)) | (refine Sp.dec (fun hc => ?_) (fun hc => ?_) <;> (conv=>whnf)) | (refine Sp.ndec (fun hc => ?_) (fun hc => ?_) <;> (conv=>whnf)) | (refine Sp.mk (fun hc => ?_) (fun hc => ?_) <;> (conv=>whnf)) | (refine Fi.a ?_;conv=>whnf) | (refine Ob.b ?_;conv=>whnf)
        all_goals exact ⟨rfl, ⟨(i + 1, o ++ [r.weak.getD i.toNat 0]), ⟨by simp only; omega, by simp only; omega⟩, hs.symm⟩, Lf, by simp only; omega⟩
      · rw [if_neg hbit, List.append_nil] at hs
        have hq : ((c / 2 ^ i.toNat % 2 : Nat) : Int) = 0 := by omega
        rw [hq] at hb2
        conv => whnf
        repeat' first | ((first | refine Ob.a ?_ | refine Sp.tt ?_ | refine Sp.ff ?_ | refine Sp.yes ?_ | refine Sp.no ?_ | refine Sp.nyes ?_ | refine Sp.nno ?_);conv=>whnf) | (refine Sp.ne (fun hc => ?_) (fun hc => ?_) <;> (conv=>whnf)) | (refine Sp.dec (fun hc => ?_) (fun hc => ?_) <;> (conv=>whnf)) | (refine Sp.ndec (fun hc => ?_) (fun hc => ?_) <;> (conv=>whnf)) | (refine Sp.mk (fun hc => ?_) (fun hc => ?_) <;> (conv=>whnf)) | (refine Fi.a ?_;conv=>whnf) | (refine Ob.b ?_;conv=>whnf)
        all_goals exact ⟨rfl, ⟨(i + 1, o), ⟨by simp only; omega, by simp only; omega⟩, hs.symm⟩, Lf, by simp only; omega⟩
    · have e := he hiw
      subst e
      have e3' : (f.length : Int) = x.length := by omega
      rcases hse2 with rfl | rfl
      · obtain ⟨q4, q5⟩ := q2 rfl
        conv => whnf
        repeat' first | ((first | refine Ob.a ?_ | refine Sp.tt ?_ | refine Sp.ff ?_ | refine Sp.yes ?_ | refine Sp.no ?_ | refine Sp.nyes ?_ | refine Sp.nno ?_);conv=>whnf) | (refine Sp.ne (fun hc => ?_) (fun hc => ?_) <;> (conv=>whnf)) | (refine Sp.dec (fun hc => ?_) (fun hc => ?_) <;> (conv=>whnf)) | (refine Sp.ndec (fun hc => ?_) (fun hc => ?_) <;> (conv=>whnf)) | (refine Sp.mk (fun hc => ?_) (fun hc => ?_) <;> (conv=>whnf)) | (apply Cl.go;(conv=>whnf); (first | refine Ob.call (a4) ?_ | refine Ob.call (a5) ?_ | refine Ob.call (a6) ?_ | refine Ob.call (a7) ?_ | refine Ob.call (a1) ?_ | refine Ob.call (c1) ?_ | refine Ob.call (hw) ?_);(conv=>whnf)) | (refine Fi.a ?_;conv=>whnf) | (refine Ob.b ?_;conv=>whnf)
        all_goals exact Lf
      · conv => whnf
        repeat' first | ((first | refine Ob.a ?_ | refine Sp.tt ?_ | refine Sp.ff ?_ | refine Sp.yes ?_ | refine Sp.no ?_ | refine Sp.nyes ?_ | refine Sp.nno ?_);conv=>whnf) | (refine Sp.ne (fun hc => ?_) (fun hc => ?_) <;> (conv=>whnf)) | (refine Sp.dec (fun hc => ?_) (fun hc => ?_) <;> (conv=>whnf)) | (refine Sp.ndec (fun hc => ?_) (fun hc => ?_) <;> (conv=>whnf)) | (refine Sp.mk (fun hc => ?_) (fun hc => ?_) <;> (conv=>whnf)) | (apply Cl.go;(conv=>whnf); (first | refine Ob.call (a4) ?_ | refine Ob.call (a5) ?_ | refine Ob.call (a6) ?_ | refine Ob.call (a7) ?_ | refine Ob.call (a1) ?_ | refine Ob.call (c1) ?_ | refine Ob.call (hw) ?_);(conv=>whnf)) | (refine Fi.a ?_;conv=>whnf) | (refine Ob.b ?_;conv=>whnf)
        all_goals exact Lf
  · exact Lf
end Go.Px.Try

/-! LwFellow -/
namespace Go.Px.Try
open Go Go.Proofs Go.Px
set_option maxRecDepth 100000
theorem notFine_fn {r : Row} (h : ¬ (notGreat r ∧ checkRow r = 0)) : Fn Try.prog 47 [rowD r] (bool false) := by
  have := fine_spec r
  rwa [decide_eq_false h] at this
theorem fine_fn {r : Row} (h : notGreat r ∧ checkRow r = 0) : Fn Try.prog 47 [rowD r] (bool true) := by
  have := fine_spec r
  rwa [decide_eq_true h] at this
theorem togB_comm (r : Row) (a b : Int) : togB r a b = togB r b a := by
  unfold togB
  congr 1
  funext l
  exact Bool.and_comm _ _
theorem fel_mem {r : Row} {a b : Int} (h : 0 ≤ b ∧ b < r.pots) : b ∈ lst r.pots.toNat (felS r a) ↔ b ≠ a ∧ togB r a b = true := by
  rw [show b = ((b.toNat : Nat) : Int) by omega, mem_lst_nat]
  unfold felS
  rw [Bool.and_eq_true, decide_eq_true_eq]
  exact ⟨fun h => h.2, fun h' => ⟨by omega, h'⟩⟩
theorem fel_none {r : Row} {a : Int} (h : havingL r a = []) : lst r.pots.toNat (felS r a) = [] := by
  rw [List.eq_nil_iff_forall_not_mem]
  intro x hx
  obtain ⟨i, _, h2, _⟩ := mem_lst.1 hx
  unfold felS at h2
  rw [Bool.and_eq_true] at h2
  have h3 := havingL_nil.1 h
  rw [List.any_eq_false] at h3
  have h4 := h2.2
  unfold togB at h4
  rw [List.any_eq_true] at h4
  obtain ⟨l, hl, hh⟩ := h4
  rw [Bool.and_eq_true] at hh
  exact h3 l hl hh.1
theorem apart_two {r : Row} {l : List Int} (hp : l.Pairwise fun a b => togB r a b = false) {a b : Int} (ha : a ∈ l) (hb : b ∈ l) (hne : a ≠ b) : togB r a b = false := by
  induction l with
  | nil => cases ha
  | cons x l ih =>
    rw [List.pairwise_cons] at hp
    rcases List.mem_cons.1 ha with rfl | ha'
    · rcases List.mem_cons.1 hb with rfl | hb'
      · exact absurd rfl hne
      · exact hp.1 _ hb'
    · rcases List.mem_cons.1 hb with rfl | hb'
      · rw [togB_comm]; exact hp.1 _ ha'
      · exact ih hp.2 ha' hb'
theorem fellows_ok {r : Row} (h : RowOk r) {a : Int} (ha : 0 ≤ a ∧ a < r.pots) : fellowsR r a = (lst r.pots.toNat (felS r a), 0) := by
  unfold fellowsR
  rw [if_neg (by rw [checkRow_ok.2 h]; simp), if_neg (by omega)]
set_option maxHeartbeats 16000000 in
theorem PotFellows_spec (r : Row) (u v : Nat) (hu : u < 256) (hv : v < 256) : Fn Try.prog 13 [rowD r, u8 u, u8 v] (bool true) := by
  have hw := Works_spec
  by_cases h1 : notGreat r ∧ checkRow r = 0
  case neg =>
    have hf := notFine_fn h1
    refine Fn.of_ex (cuts := []) tys hM Try.func13 rfl Try.call13 rfl ?_
    show exC Try.prog T [] _ false none 0 (entry 120 [rowD r, u8 u, u8 v]) (finQ T [ResultVar.tmp 6] _)
    conv => whnf
    repeat' first | ((first | refine Ob.a ?_ | refine Sp.tt ?_ | refine Sp.ff ?_ | refine Sp.yes ?_ | refine Sp.no ?_ | refine Sp.nyes ?_ | refine Sp.nno ?_);conv=>whnf) | (refine Sp.ne (fun hc => ?_) (fun hc => ?_) <;> (conv=>whnf)) | (refine Sp.dec (fun hc => ?_) (fun hc => ?_) <;> (conv=>whnf)) | (refine Sp.ndec (fun hc => ?_) (fun hc => ?_) <;> (conv=>whnf)) | (refine Sp.mk (fun hc => ?_) (fun hc => ?_) <;> (conv=>whnf)) | (apply Cl.go;(conv=>whnf); (first | refine Ob.call (hf) ?_ | refine Ob.call (hw) ?_);(conv=>whnf)) | (refine Fi.a ?_;conv=>whnf) | (refine Ob.b ?_;conv=>whnf)
    all_goals exact Lf
  have hf := fine_fn h1
  have hr := checkRow_ok.1 h1.2
  have p1 := hr.p1
  have p40 := hr.p40
  have h10 := hr.l10
  have h12 := hr.w12
  have k1 : r.lots.length < 1000000 := by omega
  have k2 : r.weak.length < 1000000 := by omega
  have ha : 0 ≤ (u : Int) % r.pots ∧ (u : Int) % r.pots < r.pots := ⟨Int.emod_nonneg _ (by omega), Int.emod_lt_of_pos _ (by omega)⟩
  have hb : 0 ≤ (v : Int) % r.pots ∧ (v : Int) % r.pots < r.pots := ⟨Int.emod_nonneg _ (by omega), Int.emod_lt_of_pos _ (by omega)⟩
  have a1 := fun a => FellowsP_spec r a k1 k2
  have a3 := ApartP_spec r k1 k2
  rw [Sound.apart hr] at a3
  have hxl := apF_len r
  have hap := apF_ok hr
  have hri := fun l (hl : List.length l < 1000000) => Rising_spec l r.pots hl
  have hfa := fellows_ok hr ha
  have hfb := fellows_ok hr hb
  have ma := fun b hb => fel_mem (r := r) (a := (u : Int) % r.pots) (b := b) hb
  have mb := fun b hb => fel_mem (r := r) (a := (v : Int) % r.pots) (b := b) hb
  have haa := ma _ ha
  have hab := ma _ hb
  have hba := mb _ ha
  have hbb := mb _ hb
  have htc := togB_comm r ((u : Int) % r.pots) ((v : Int) % r.pots)
  have hnil := fel_none (r := r) (a := (u : Int) % r.pots)
  have htw := fun x y (z : (u : Int) % r.pots ≠ (v : Int) % r.pots) => apart_two hap.apart (a := (u : Int) % r.pots) (b := (v : Int) % r.pots) x y z
  have c1 := FellowsP_spec r ((u : Int) % r.pots) k1 k2
  have c2 := FellowsP_spec r ((v : Int) % r.pots) k1 k2
  have c3 := Having_spec r ((u : Int) % r.pots) k1
  have hrl : ∀ S, risingL (lst r.pots.toNat S) r.pots := fun S => by
    have := lst_rising r.pots.toNat S
    rwa [Int.toNat_of_nonneg (by omega)] at this
  have hll := fun S => lst_length_le r.pots.toNat S
  have c4 := Rising_spec (lst r.pots.toNat (felS r ((u : Int) % r.pots))) r.pots (by have := hll (felS r ((u : Int) % r.pots)); omega)
  have c5 := Rising_spec (lst r.pots.toNat (felS r ((v : Int) % r.pots))) r.pots (by have := hll (felS r ((v : Int) % r.pots)); omega)
  rw [decide_eq_true (hrl _)] at c4 c5
  have d1 := fun i => has_law (lst r.pots.toNat (felS r ((u : Int) % r.pots))) i (by have := hll (felS r ((u : Int) % r.pots)); omega)
  have d2 := fun i => has_law (lst r.pots.toNat (felS r ((v : Int) % r.pots))) i (by have := hll (felS r ((v : Int) % r.pots)); omega)
  have d3 := fun i => has_law (apF r none r.weak) i (by omega)
  have d1a := d1 ((u : Int) % r.pots)
  have d1b := d1 ((v : Int) % r.pots)
  have d2a := d2 ((u : Int) % r.pots)
  have d2b := d2 ((v : Int) % r.pots)
  have d3a := d3 ((u : Int) % r.pots)
  have d3b := d3 ((v : Int) % r.pots)
  rw [hfa] at c1
  rw [hfb] at c2
  dsimp only at c1 c2 a3
  rw [decide_eq_false (fun h => (haa.1 h).1 rfl)] at d1a
  rw [decide_eq_false (fun h => (hbb.1 h).1 rfl)] at d2b
  have hsym : (u : Int) % r.pots ≠ (v : Int) % r.pots → decide ((v : Int) % r.pots ∈ lst r.pots.toNat (felS r ((u : Int) % r.pots))) = decide ((u : Int) % r.pots ∈ lst r.pots.toNat (felS r ((v : Int) % r.pots))) := fun hne =>
    decide_eq_decide.2 (hab.trans ⟨fun h => hba.2 ⟨hne, by rw [← htc]; exact h.2⟩, fun h => ⟨Ne.symm hne, by rw [htc]; exact (hba.1 h).2⟩⟩)
  have hno : (v : Int) % r.pots ∈ lst r.pots.toNat (felS r ((u : Int) % r.pots)) → (u : Int) % r.pots ∈ apF r none r.weak → (v : Int) % r.pots ∈ apF r none r.weak → False := fun x y z => by
    have h := hab.1 x
    have := htw y z (Ne.symm h.1)
    rw [h.2] at this; cases this
  have hln : ((havingL r ((u : Int) % r.pots)).length : Int) = 0 → ((lst r.pots.toNat (felS r ((u : Int) % r.pots))).length : Int) = 0 := fun h => by
    rw [hnil (List.length_eq_zero_iff.1 (by omega))]; rfl
  have hhl : (havingL r ((u : Int) % r.pots)).length ≤ r.lots.length := lst_length_le _ _
  have hla := hll (felS r ((u : Int) % r.pots))
  have hlb := hll (felS r ((v : Int) % r.pots))
  clear a1 hri ma mb haa hab hba hbb htc hnil htw hrl hll d1 d2 d3 hfa hfb hap
  generalize lst r.pots.toNat (felS r ((u : Int) % r.pots)) = l at *
  generalize lst r.pots.toNat (felS r ((v : Int) % r.pots)) = k at *
  generalize havingL r ((u : Int) % r.pots) = w at *
  generalize apF r none r.weak = x at *
  generalize hdd : decide ((v : Int) % r.pots ∈ l) = q1 at *
  generalize decide ((u : Int) % r.pots ∈ k) = q2 at *
  generalize hd3 : decide ((u : Int) % r.pots ∈ x) = q3 at *
  generalize hd4 : decide ((v : Int) % r.pots ∈ x) = q4 at *
  have hno2 : q1 = true → q3 = true → q4 = true → False := fun a b c => by
    rw [← hdd] at a; rw [← hd3] at b; rw [← hd4] at c
    exact hno (of_decide_eq_true a) (of_decide_eq_true b) (of_decide_eq_true c)
  clear hdd hd3 hd4 hno
  by_cases hne : (u : Int) % r.pots = (v : Int) % r.pots
  · refine Fn.of_ex (cuts := []) tys hM Try.func13 rfl Try.call13 rfl ?_
    show exC Try.prog T [] _ false none 0 (entry 120 [rowD r, u8 u, u8 v]) (finQ T [ResultVar.tmp 6] _)
    conv => whnf
    repeat' first | ((first | refine Ob.a ?_ | refine Sp.tt ?_ | refine Sp.ff ?_ | refine Sp.yes ?_ | refine Sp.no ?_ | refine Sp.nyes ?_ | refine Sp.nno ?_);conv=>whnf) | (refine Sp.ne (fun hc => ?_) (fun hc => ?_) <;> (conv=>whnf)) | (refine Sp.dec (fun hc => ?_) (fun hc => ?_) <;> (conv=>whnf)) | (refine Sp.ndec (fun hc => ?_) (fun hc => ?_) <;> (conv=>whnf)) | (refine Sp.mk (fun hc => ?_) (fun hc => ?_) <;> (conv=>whnf)) | (apply Cl.go;(conv=>whnf); (first | refine Ob.call (hf) ?_ | refine Ob.call (hw) ?_ | refine Ob.call (c1) ?_ | refine Ob.call (c2) ?_ | refine Ob.call (a3) ?_ | refine Ob.call (c4) ?_ | refine Ob.call (c5) ?_ | refine Ob.call (c3) ?_ | refine Ob.call (d1a) ?_ | refine Ob.call (d1b) ?_ | refine Ob.call (d2a) ?_ | refine Ob.call (d2b) ?_ | refine Ob.call (d3a) ?_ | refine Ob.call (d3b) ?_);(conv=>whnf)) | (refine Fi.a ?_;conv=>whnf) | (refine Ob.b ?_;conv=>whnf)
    all_goals exact Lf
  · have hsym := hsym hne
    subst hsym
    refine Fn.of_ex (cuts := []) tys hM Try.func13 rfl Try.call13 rfl ?_
    show exC Try.prog T [] _ false none 0 (entry 120 [rowD r, u8 u, u8 v]) (finQ T [ResultVar.tmp 6] _)
    conv => whnf
    repeat' first | ((first | refine Ob.a ?_ | refine Sp.tt ?_ | refine Sp.ff ?_ | refine Sp.yes ?_ | refine Sp.no ?_ | refine Sp.nyes ?_ | refine Sp.nno ?_);conv=>whnf) | (refine Sp.ne (fun hc => ?_) (fun hc => ?_) <;> (conv=>whnf)) | (refine Sp.dec (fun hc => ?_) (fun hc => ?_) <;> (conv=>whnf)) | (refine Sp.ndec (fun hc => ?_) (fun hc => ?_) <;> (conv=>whnf)) | (refine Sp.mk (fun hc => ?_) (fun hc => ?_) <;> (conv=>whnf)) | (apply Cl.go;(conv=>whnf); (first | refine Ob.call (hf) ?_ | refine Ob.call (hw) ?_ | refine Ob.call (c1) ?_ | refine Ob.call (c2) ?_ | refine Ob.call (a3) ?_ | refine Ob.call (c4) ?_ | refine Ob.call (c5) ?_ | refine Ob.call (c3) ?_ | refine Ob.call (d1a) ?_ | refine Ob.call (d1b) ?_ | refine Ob.call (d2a) ?_ | refine Ob.call (d2b) ?_ | refine Ob.call (d3a) ?_ | refine Ob.call (d3b) ?_);(conv=>whnf)) | (refine Fi.a ?_;conv=>whnf) | (refine Ob.b ?_;conv=>whnf)
    all_goals first | exact Lf | exact absurd rfl (by assumption)
end Go.Px.Try

/-! LwUnk0 -/
namespace Go.Px.Try
open Go Go.Proofs Go.Px
set_option maxRecDepth 100000
def hasB (r : Row) (p : Int) : Bool := r.lots.any fun l => decide (Has l p)
/-- A row without the weak pots that no lot has. -/
def knownL (r : Row) : List Int := r.weak.filter (hasB r)
def knW (r : Row) (k : Nat) : List Int := (r.weak.take k).filter (hasB r)
def unN (r : Row) (k : Nat) : Nat := ((r.weak.take k).filter fun p => !hasB r p).length
theorem filter_at {p : Int → Bool} {l : List Int} {k : Nat} (h : k < l.length) (hp : p (l.getD k 0) = true) : ((l.take k).filter p).length < (l.filter p).length ∧ (l.filter p).getD ((l.take k).filter p).length 0 = l.getD k 0 := by
  have e : l.filter p = (l.take k).filter p ++ l.getD k 0 :: (l.drop (k + 1)).filter p := by
    conv => lhs; rw [← List.take_append_drop k l, drop_getD 0 h]
    rw [List.filter_append, List.filter_cons_of_pos hp]
  rw [e]
  constructor
  · simp
  · rw [List.getD_eq_getElem?_getD, List.getElem?_append_right (Nat.le_refl _), Nat.sub_self]; rfl
theorem knW_succ (r : Row) {k : Nat} (h : k < r.weak.length) : knW r (k + 1) = knW r k ++ if hasB r (r.weak.getD k 0) = true then [r.weak.getD k 0] else [] := by
  unfold knW
  rw [take_succ_getD _ _ 0 h, List.filter_append]
  congr 1
  by_cases e : hasB r (r.weak.getD k 0) = true
  · rw [if_pos e, List.filter_cons_of_pos e]; rfl
  · rw [if_neg e, List.filter_cons_of_neg e]; rfl
theorem unN_succ (r : Row) {k : Nat} (h : k < r.weak.length) : unN r (k + 1) = unN r k + if hasB r (r.weak.getD k 0) = true then 0 else 1 := by
  unfold unN
  rw [take_succ_getD _ _ 0 h, List.filter_append, List.length_append]
  congr 1
  by_cases e : hasB r (r.weak.getD k 0) = true
  · rw [if_pos e, List.filter_cons_of_neg (by rw [e]; simp)]; rfl
  · rw [if_neg e, List.filter_cons_of_pos (by simpa using e)]; rfl
theorem unN_at {r : Row} {k : Nat} (h : k < r.weak.length) :
    (hasB r (r.weak.getD k 0) = true → unN r k < (unknownR r).length → (unknownR r).getD (unN r k) 0 ≠ r.weak.getD k 0) ∧
    (¬ hasB r (r.weak.getD k 0) = true → unN r k < (unknownR r).length ∧ (unknownR r).getD (unN r k) 0 = r.weak.getD k 0) := by
  constructor
  · intro hb hlt e
    have hm := getD_mem hlt 0
    rw [e] at hm
    have := (List.mem_filter.1 hm).2
    rw [show (r.lots.any fun l => decide (Has l (r.weak.getD k 0))) = hasB r (r.weak.getD k 0) from rfl, hb] at this; cases this
  · intro hb
    exact filter_at (p := fun p => !hasB r p) h (by simpa using hb)
theorem known_sound {r : Row} (h : RowOk r) : Sound ⟨r.pots, r.lots, knownL r⟩ := by
  have hs : (knownL r).Sublist r.weak := List.filter_sublist
  refine sound_mk (r := ⟨r.pots, r.lots, knownL r⟩) ⟨h.p1, h.p40, h.l10, Nat.le_trans hs.length_le h.w12, h.lots, fun x hx => h.rng x (hs.mem hx), h.inc.sublist hs⟩ (S := fun _ => true) ?_
  intro p hp
  have := (List.mem_filter.1 hp).2
  obtain ⟨i, hi, hH⟩ := any_lots.1 this
  exact ⟨i, hi, rfl, hH⟩
theorem unk_err {r : Row} (h : RowOk r) : rowError r = if unknownR r = [] then 0 else 22 := by
  unfold rowError
  rw [if_neg (by rw [checkRow_ok.2 h]; simp)]
  by_cases e : explL r (listed (2 ^ r.lots.length - 1) r.lots.length)
  · rw [if_pos e, if_pos (unknown_nil.2 (full_iff.1 e))]
  · rw [if_neg e, if_neg fun h => e (full_iff.2 (unknown_nil.1 h))]
theorem unk_lots {r : Row} (h : RowOk r) : (checkLotsR r (listed (2 ^ r.lots.length - 1) r.lots.length)).2 = rowError r := by
  have h0 : ¬ checkRow r ≠ 0 := not_not_intro (checkRow_ok.2 h)
  have hq : ¬ ¬ risingL (listed (2 ^ r.lots.length - 1) r.lots.length) r.lots.length := not_not_intro (lst_rising _ _)
  unfold checkLotsR rowError
  rw [if_neg h0, if_neg h0, if_neg hq]
  by_cases e : explL r (listed (2 ^ r.lots.length - 1) r.lots.length)
  · rw [if_neg (not_not_intro e), if_pos e]
  · rw [if_pos e, if_neg e]
/-- A row whose weak pots grow: what changes; sl: slots; id: the name of the row's cells. -/
def bldW (sl : List (Nat × AV)) (id : Nat) (p : Int) (L : DV) (nx : Nat) : List Int → List (Nat × AV) × List (Nat × Res)
  | [] => (sl, [(id, .cs true 3 (nthL [.d (int p), .d L, .d (.v (.slice none 0 0))]))])
  | y :: o => (sl, [(id, .cs true 3 (nthL [.d (int p), .d L, .ms nx 1 0 (y :: o).length])), (nx, .row true 3 1 (y :: o).length (rowOf int 0 (y :: o)))])
theorem unk_next {r : Row} {o : List Int} {k : Int} (h : k ≤ r.weak.length) (k0 : 0 ≤ k) (hk : k < r.weak.length) (ho : o = knW r k.toNat) {o' : List Int} (he : o' = knW r (k + 1).toNat) : (0 ≤ k + 1 ∧ k + 1 ≤ r.weak.length) ∧ o' = knW r (k + 1).toNat := ⟨⟨by omega, by omega⟩, he⟩
set_option maxHeartbeats 16000000 in
theorem PotUnknown_0 (r : Row) (hx : notGreat r ∧ checkRow r = 0 → rowError r = 0) : Fn Try.prog 9 [rowD r] (bool true) := by
  have hw := Works_spec
  by_cases h1 : notGreat r ∧ checkRow r = 0
  case neg =>
    have hf := notFine_fn h1
    refine Fn.of_ex (cuts := []) tys hM Try.func9 rfl Try.call9 rfl ?_
    show exC Try.prog T [] _ false none 0 (entry 128 [rowD r]) (finQ T [ResultVar.tmp 2] _)
    conv => whnf
    repeat' first | ((first | refine Ob.a ?_ | refine Sp.tt ?_ | refine Sp.ff ?_ | refine Sp.yes ?_ | refine Sp.no ?_ | refine Sp.nyes ?_ | refine Sp.nno ?_);conv=>whnf) | (refine Sp.ne (fun hc => ?_) (fun hc => ?_) <;> (conv=>whnf)) | (refine Sp.dec (fun hc => ?_) (fun hc => ?_) <;> (conv=>whnf)) | (refine Sp.ndec (fun hc => ?_) (fun hc => ?_) <;> (conv=>whnf)) | (refine Sp.mk (fun hc => ?_) (fun hc => ?_) <;> (conv=>whnf)) | (apply Cl.go;(conv=>whnf); (first | refine Ob.call (hf) ?_ | refine Ob.call (hw) ?_);(conv=>whnf)) | (refine Fi.a ?_;conv=>whnf) | (refine Ob.b ?_;conv=>whnf)
    all_goals exact Lf
  have hf := fine_fn h1
  have hr := checkRow_ok.1 h1.2
  have h10 := hr.l10
  have h12 := hr.w12
  have k1 : r.lots.length < 1000000 := by omega
  have k2 : r.weak.length < 1000000 := by omega
  have hpw := pow10 h10
  have hpi : (0 : Int) ≤ 1 * 2 ^ ((r.lots.length : Int)).toNat ∧ (1 : Int) * 2 ^ ((r.lots.length : Int)).toNat ≤ 4096 := by
    rw [Int.toNat_natCast, Int.one_mul]
    have e : ((2 : Int) ^ r.lots.length) = ((2 ^ r.lots.length : Nat) : Int) := by simp
    rw [e]; exact ⟨Int.natCast_nonneg _, Int.ofNat_le.2 (Nat.le_trans hpw (show 1024 ≤ 4096 by decide))⟩
  have hp0 : 0 < 2 ^ r.lots.length := Nat.two_pow_pos _
  have hpe : (1 : Int) * 2 ^ ((r.lots.length : Int)).toNat - 1 = ((2 ^ r.lots.length - 1 : Nat) : Int) := by
    rw [Int.toNat_natCast, Int.one_mul]
    have e : ((2 : Int) ^ r.lots.length) = ((2 ^ r.lots.length : Nat) : Int) := by simp
    rw [e]; omega
  have hsh : r.lots.length < 64 := by omega
  have hLi := Listed_spec (2 ^ r.lots.length - 1) r.lots.length (Nat.lt_of_lt_of_le (show _ < 2 ^ r.lots.length by omega) (Nat.le_trans hpw (by decide))) (by omega)
  have a3 := CheckLotsP_spec r (listed (2 ^ r.lots.length - 1) r.lots.length) k1 k2 (by have := listed_len (2 ^ r.lots.length - 1) r.lots.length; omega)
  rw [unk_lots hr] at a3
  rw [← hpe] at hLi
  have a1 := UnknownP_spec r k1 k2
  have e1 : unknownRR r = (unknownR r, 0) := if_neg (by rw [checkRow_ok.2 hr]; simp)
  rw [e1] at a1
  have a2 := LeastP_spec r k1 k2
  have e2 : (leastPR r).2 = rowError r := by
    unfold leastPR; split
    · rfl
    · rename_i h; exact (Decidable.of_not_not h).symm
  have hul : (unknownR r).length ≤ r.weak.length := List.length_filter_le ..
  have hre := unk_err hr
  have hx := hx h1
  have a4 := least_spec (known_sound hr)
  have hat := fun (k : Int) (k0 : 0 ≤ k) (k1 : k < r.weak.length) => unN_at (r := r) (k := k.toNat) (by omega)
  have hks := fun (k : Int) (k0 : 0 ≤ k) (k1 : k < r.weak.length) => knW_succ r (k := k.toNat) (by omega)
  have hus := fun (k : Int) (k0 : 0 ≤ k) (k1 : k < r.weak.length) => unN_succ r (k := k.toNat) (by omega)
  have hke : ∀ k : Int, 0 ≤ k ∧ k ≤ r.weak.length → ¬ k < r.weak.length → knW r k.toNat = knownL r ∧ unN r k.toNat = (unknownR r).length := fun k _ _ => by
    unfold knW unN; rw [show k.toNat = r.weak.length by omega, List.take_length]; exact ⟨rfl, rfl⟩
  have hunk : ∀ k, unN r k ≤ k := fun k => by
    unfold unN; exact Nat.le_trans (List.length_filter_le ..) (List.length_take_le ..)
  have hknl : ∀ k, (knW r k).length ≤ k := fun k => by
    unfold knW; exact Nat.le_trans (List.length_filter_le ..) (List.length_take_le ..)
  rw [e2] at a2
  dsimp only at a1 a2 a3
  generalize (checkLotsR r (listed (2 ^ r.lots.length - 1) r.lots.length)).1 = cl at *
  generalize listed (2 ^ r.lots.length - 1) r.lots.length = L at *
  generalize (leastPR r).1 = lp at *
  generalize optN ⟨r.pots, r.lots, knownL r⟩ = op at *
  have hre2 : (rowError r = 0 ∧ (unknownR r).length = 0) ∨ (rowError r = 22 ∧ (unknownR r).length ≠ 0) := by
    rw [hre]
    by_cases h : unknownR r = []
    · rw [if_pos h, h]; exact .inl ⟨rfl, rfl⟩
    · rw [if_neg h]; exact .inr ⟨rfl, fun e => h (List.length_eq_zero_iff.1 e)⟩
  clear hre
  generalize rowError r = re at *
  generalize unknownR r = u at *
  generalize hasB r = hb at *
  obtain ⟨rfl, hu0⟩ : re = 0 ∧ u.length = 0 := by rcases hre2 with h | h <;> omega
  refine Fn.of_ex (cuts := []) tys hM Try.func9 rfl Try.call9 rfl ?_
  show exC Try.prog T [] _ false none 0 (entry 128 [rowD r]) (finQ T [ResultVar.tmp 2] _)
  conv => whnf
  repeat' first | ((first | refine Ob.a ?_ | refine Sp.tt ?_ | refine Sp.ff ?_ | refine Sp.yes ?_ | refine Sp.no ?_ | refine Sp.nyes ?_ | refine Sp.nno ?_);conv=>whnf) | (refine Sp.ne (fun hc => ?_) (fun hc => ?_) <;> (conv=>whnf)) | (refine Sp.dec (fun hc => ?_) (fun hc => ?_) <;> (conv=>whnf)) | (refine Sp.ndec (fun hc => ?_) (fun hc => ?_) <;> (conv=>whnf)) | (refine Sp.mk (fun hc => ?_) (fun hc => ?_) <;> (conv=>whnf)) | (apply Cl.go;(conv=>whnf); (first | refine Ob.call (hf) ?_ | refine Ob.call (hw) ?_ | refine Ob.call (a1) ?_ | refine Ob.call (a2) ?_ | refine Ob.call (hLi) ?_ | refine Ob.call (a3) ?_);(conv=>whnf)) | (refine Fi.a ?_;conv=>whnf) | (refine Ob.b ?_;conv=>whnf)
  any_goals (exfalso; clear hke hks hus hat hunk hknl; simp_all; done)
  refine Lp.snap [0, 1, 2, 3, 9, 13, 113, 114, 115, 116, 117, 118, 119, 120, 121, 122, 123, 124, 125, 126, 127] 100 ?_
  (conv=>whnf)
  refine LpB.go 128 ({p : Int × List Int // (0 ≤ p.1 ∧ p.1 ≤ r.weak.length) ∧ p.2 = knW r p.1.toNat}) 1 (fun ⟨(k, o), _⟩ nx => bldW [(10, .d (int (unN r k.toNat))), (11, .d (int k))] 71 r.pots (slOf 2 lotD default r.lots) nx o) (fun p => (r.weak.length - p.1.1).toNat) (⟨(0, []), ⟨by simp, by simp only; omega⟩, rfl⟩) ?_ ?_ (hl := by rintro ⟨⟨k, o⟩, _⟩; cases o <;> rfl)
  · rintro ⟨⟨k, o⟩, ⟨k0, k1⟩, ho⟩
    simp only at k0 k1 ho
    have hat := hat k k0
    have hks := hks k k0
    have hus := hus k k0
    have hke := hke k ⟨k0, k1⟩
    have hun := hunk k.toNat
    have hol : o.length ≤ k.toNat := by rw [ho]; exact hknl _
    rw [← ho] at hks hke
    by_cases hk : k < r.weak.length
    · have hat := hat hk
      have hks := hks hk
      have hus := hus hk
      rw [show k.toNat + 1 = (k + 1).toNat by omega] at hks hus
      by_cases hB : hb (r.weak.getD k.toNat 0) = true
      · rw [if_pos hB] at hks hus
        have hat := hat.1 hB
        have hat2 : (unN r k.toNat : Int) < u.length → ¬ u.getD ((unN r k.toNat : Nat) : Int).toNat 0 = r.weak.getD k.toNat 0 := fun h => by
          rw [Int.toNat_natCast]; exact hat (by omega)
        clear hke
        have e : ((unN r k.toNat : Nat) : Int) = ((unN r (k + 1).toNat : Nat) : Int) := by omega
        cases o with
        | nil =>
          conv => whnf
          repeat' first | ((first | refine Ob.a ?_ | refine Sp.tt ?_ | refine Sp.ff ?_ | refine Sp.yes ?_ | refine Sp.no ?_ | refine Sp.nyes ?_ | refine Sp.nno ?_);conv=>whnf) | (refine Sp.ne (fun hc => ?_) (fun hc => ?_) <;> (conv=>whnf)) | (refine Sp.dec (fun hc => ?_) (fun hc => ?_) <;> (conv=>whnf)) | (refine Sp.ndec (fun hc => ?_) (fun hc => ?_) <;> (conv=>whnf)) | (refine Sp.mk (fun hc => ?_) (fun hc => ?_) <;> (conv=>whnf)) | (refine Fi.a ?_;conv=>whnf) | (refine Ob.b ?_;conv=>whnf)
          refine ⟨rfl, ⟨(k + 1, [r.weak.getD k.toNat 0]), unk_next k1 k0 hk ho hks.symm⟩, ?_, by simp only; omega⟩
          repeat' first | (refine Edge.fast ?_) | ((conv=>whnf); first | exact True.intro | (refine And.intro ?_ ?_) | exact rfl | exact Nat.le_of_eq (Nat.zero_add _) | exact ImpS.refl _ | ((conv => arg 1; whnf); first | exact ImpS.refl _ | (refine ImpS.nil_eq ?_) | (refine ImpS.vnil_eq ?_) | (refine ImpS.row ?_) | (refine ImpS.rowN ?_ ?_) | (refine ImpS.sl_eq ?_) | (refine ImpS.expl rfl ?_)) | (refine row_snoc' ?_) | (apply row_upd) | exact cimp_none | exact cimp_same | exact List.not_mem_nil | exact DImp.refl _) | exact rfl | (refine And.intro ?_ ?_) | exact ImpS.refl _
          all_goals first | omega | refine row_first ?_
          repeat' first | (refine Edge.fast ?_) | ((conv=>whnf); first | exact True.intro | (refine And.intro ?_ ?_) | exact rfl | exact Nat.le_of_eq (Nat.zero_add _) | exact ImpS.refl _ | ((conv => arg 1; whnf); first | exact ImpS.refl _ | (refine ImpS.nil_eq ?_) | (refine ImpS.vnil_eq ?_) | (refine ImpS.row ?_) | (refine ImpS.rowN ?_ ?_) | (refine ImpS.sl_eq ?_) | (refine ImpS.expl rfl ?_)) | (refine row_snoc' ?_) | (apply row_upd) | exact cimp_none | exact cimp_same | exact List.not_mem_nil | exact DImp.refl _) | exact rfl | (refine And.intro ?_ ?_) | exact ImpS.refl _
        | cons y o =>
          conv => whnf
          repeat' first | ((first | refine Ob.a ?_ | refine Sp.tt ?_ | refine Sp.ff ?_ | refine Sp.yes ?_ | refine Sp.no ?_ | refine Sp.nyes ?_ | refine Sp.nno ?_);conv=>whnf) | (refine Sp.ne (fun hc => ?_) (fun hc => ?_) <;> (conv=>whnf)) | (refine Sp.dec (fun hc => ?_) (fun hc => ?_) <;> (conv=>whnf)) | (refine Sp.ndec (fun hc => ?_) (fun hc => ?_) <;> (conv=>whnf)) | (refine Sp.mk (fun hc => ?_) (fun hc => ?_) <;> (conv=>whnf)) | (refine Fi.a ?_;conv=>whnf) | (refine Ob.b ?_;conv=>whnf)
          refine ⟨rfl, ⟨(k + 1, y :: o ++ [r.weak.getD k.toNat 0]), unk_next k1 k0 hk ho hks.symm⟩, ?_, by simp only; omega⟩
          repeat' first | (refine Edge.fast ?_) | ((conv=>whnf); first | exact True.intro | (refine And.intro ?_ ?_) | exact rfl | exact Nat.le_of_eq (Nat.zero_add _) | exact ImpS.refl _ | ((conv => arg 1; whnf); first | exact ImpS.refl _ | (refine ImpS.nil_eq ?_) | (refine ImpS.vnil_eq ?_) | (refine ImpS.row ?_) | (refine ImpS.rowN ?_ ?_) | (refine ImpS.sl_eq ?_) | (refine ImpS.expl rfl ?_)) | (refine row_snoc' ?_) | exact MImp.refl _ | exact cimp_none | exact cimp_same | exact List.not_mem_nil | exact DImp.refl _) | exact rfl | (refine And.intro ?_ ?_) | exact ImpS.refl _
          all_goals first | omega | (simp; done) | refine row_snoc' (l := y :: o) ?_
          repeat' first | (refine Edge.fast ?_) | ((conv=>whnf); first | exact True.intro | (refine And.intro ?_ ?_) | exact rfl | exact Nat.le_of_eq (Nat.zero_add _) | exact ImpS.refl _ | ((conv => arg 1; whnf); first | exact ImpS.refl _ | (refine ImpS.nil_eq ?_) | (refine ImpS.vnil_eq ?_) | (refine ImpS.row ?_) | (refine ImpS.rowN ?_ ?_) | (refine ImpS.sl_eq ?_) | (refine ImpS.expl rfl ?_)) | (refine row_snoc' ?_) | (apply row_upd) | exact cimp_none | exact cimp_same | exact List.not_mem_nil | exact DImp.refl _) | exact rfl | (refine And.intro ?_ ?_) | exact ImpS.refl _
      · rw [if_neg hB] at hks hus
        rw [List.append_nil] at hks
        obtain ⟨q1, q2⟩ := hat.2 hB
        omega
    · obtain ⟨e3, e4⟩ := hke hk
      rw [← e3] at a4
      have e5 : ((unN r k.toNat : Nat) : Int) = u.length := by omega
      clear hke hks hus hat
      cases o with
      | nil =>
        conv => whnf
        repeat' first | ((first | refine Ob.a ?_ | refine Sp.tt ?_ | refine Sp.ff ?_ | refine Sp.yes ?_ | refine Sp.no ?_ | refine Sp.nyes ?_ | refine Sp.nno ?_);conv=>whnf) | (refine Sp.ne (fun hc => ?_) (fun hc => ?_) <;> (conv=>whnf)) | (refine Sp.dec (fun hc => ?_) (fun hc => ?_) <;> (conv=>whnf)) | (refine Sp.ndec (fun hc => ?_) (fun hc => ?_) <;> (conv=>whnf)) | (refine Sp.mk (fun hc => ?_) (fun hc => ?_) <;> (conv=>whnf)) | (apply Cl.go;(conv=>whnf); (first | refine Ob.call (a4) ?_ | refine Ob.call (hw) ?_);(conv=>whnf)) | (refine Fi.a ?_;conv=>whnf) | (refine Ob.b ?_;conv=>whnf)
        all_goals exact Lf
      | cons y o =>
        conv => whnf
        repeat' first | ((first | refine Ob.a ?_ | refine Sp.tt ?_ | refine Sp.ff ?_ | refine Sp.yes ?_ | refine Sp.no ?_ | refine Sp.nyes ?_ | refine Sp.nno ?_);conv=>whnf) | (refine Sp.ne (fun hc => ?_) (fun hc => ?_) <;> (conv=>whnf)) | (refine Sp.dec (fun hc => ?_) (fun hc => ?_) <;> (conv=>whnf)) | (refine Sp.ndec (fun hc => ?_) (fun hc => ?_) <;> (conv=>whnf)) | (refine Sp.mk (fun hc => ?_) (fun hc => ?_) <;> (conv=>whnf)) | (apply Cl.go;(conv=>whnf); (first | refine Ob.call (a4) ?_ | refine Ob.call (hw) ?_);(conv=>whnf)) | (refine Fi.a ?_;conv=>whnf) | (refine Ob.b ?_;conv=>whnf)
        all_goals exact Lf
  · exact Lf
end Go.Px.Try

/-! LwBlamed -/
namespace Go.Px.Try
open Go Go.Proofs Go.Px
set_option maxRecDepth 100000
def blL (r : Row) : List Int := (List.range r.lots.length).map fun i => blameR (bestL r) (i : Nat)
theorem blL_len (r : Row) : (blL r).length = r.lots.length := by simp [blL]
theorem Sound.blame {r : Row} (h : Sound r) : blamePR r = (blL r, 0) := by
  rw [blamePR_eq]; exact if_neg (not_not_intro h.err)
theorem blL_at {r : Row} {i : Nat} (hi : i < r.lots.length) : (blL r).getD i 0 = blameR (bestL r) i := by
  unfold blL
  rw [List.getD_eq_getElem?_getD, List.getElem?_map, List.getElem?_range hi]; rfl
/-- When a lot is to blame: 0 if no best explanation has it, 2 if each one has it. -/
theorem Sound.blame_at {r : Row} (h : Sound r) {i : Nat} (hi : i < r.lots.length) :
    (0 ≤ (blL r).getD i 0 ∧ (blL r).getD i 0 ≤ 2) ∧ ((blL r).getD i 0 = 0 ↔ ∀ S, Opt r S → S i = false) ∧ ((blL r).getD i 0 = 2 ↔ ∀ S, Opt r S → S i = true) := by
  obtain ⟨S0, hS0⟩ := h.ex
  obtain ⟨b1, b2, _⟩ := bestL_spec hS0
  obtain ⟨T, hT1, hT2, _⟩ := h.att
  have hT : Opt r T := h.opt.2 ⟨hT1, hT2⟩
  obtain ⟨m1, m2, m3⟩ := manyL_facts (i : Int) (bestL r) fun l hl => ((b2 l).1 hl).inc
  have e0 : (∀ l ∈ bestL r, (i : Int) ∉ l) ↔ ∀ S, Opt r S → S i = false := by
    constructor
    · intro ha S hS
      have := ha _ ((b2 _).2 (lst_opt hS))
      rw [mem_lst_nat] at this
      cases hs : S i with
      | false => rfl
      | true => exact absurd ⟨hi, hs⟩ this
    · intro ha l hl hm
      obtain ⟨S, hS, rfl⟩ := (b2 l).1 hl
      have := (mem_lst_nat.1 hm).2
      rw [ha S hS] at this; cases this
  have e2 : (∀ l ∈ bestL r, (i : Int) ∈ l) ↔ ∀ S, Opt r S → S i = true := by
    constructor
    · intro ha S hS
      exact (mem_lst_nat.1 (ha _ ((b2 _).2 (lst_opt hS)))).2
    · intro ha l hl
      obtain ⟨S, hS, rfl⟩ := (b2 l).1 hl
      exact mem_lst_nat.2 ⟨hi, ha S hS⟩
  rw [blL_at hi]
  unfold blameR
  rw [← e0, ← e2, ← m2, ← m3]
  have hne : 0 < (bestL r).length := List.length_pos_iff.2 b1
  by_cases c1 : manyL (bestL r) i = 0
  · rw [if_pos c1]
    exact ⟨by omega, ⟨fun _ => c1, fun _ => rfl⟩, ⟨fun h => by omega, fun h => by omega⟩⟩
  · rw [if_neg c1]
    by_cases c2 : manyL (bestL r) i = (bestL r).length
    · rw [if_pos c2]
      exact ⟨by omega, ⟨fun h => by omega, fun h => absurd h c1⟩, ⟨fun _ => c2, fun _ => rfl⟩⟩
    · rw [if_neg c2]
      exact ⟨by omega, ⟨fun h => by omega, fun h => absurd h c1⟩, ⟨fun h => by omega, fun h => absurd h c2⟩⟩
set_option maxHeartbeats 16000000 in
theorem PotBlamed_spec (r : Row) (by' : List Nat) (hb : (∀ x ∈ by', x < 256) ∧ by'.length ≤ maxLen) : Fn Try.prog 14 [rowD r, u8s by'] (bool true) := by
  have hbl : by'.length ≤ 9223372036854775807 := Nat.le_trans hb.2 (by decide)
  have hw := Works_spec
  by_cases h1 : notGreat r ∧ rowError r = 0
  case neg =>
    have hf := notSound_fn h1
    refine Fn.of_ex (cuts := []) tys hM Try.func14 rfl Try.call14 rfl ?_
    show exC Try.prog T [] _ false none 0 (entry 144 [rowD r, u8s by']) (finQ T [ResultVar.tmp 4] _)
    conv => whnf
    repeat' first | ((first | refine Ob.a ?_ | refine Sp.tt ?_ | refine Sp.ff ?_ | refine Sp.yes ?_ | refine Sp.no ?_ | refine Sp.nyes ?_ | refine Sp.nno ?_);conv=>whnf) | (refine Sp.ne (fun hc => ?_) (fun hc => ?_) <;> (conv=>whnf)) | (refine Sp.dec (fun hc => ?_) (fun hc => ?_) <;> (conv=>whnf)) | (refine Sp.ndec (fun hc => ?_) (fun hc => ?_) <;> (conv=>whnf)) | (refine Sp.mk (fun hc => ?_) (fun hc => ?_) <;> (conv=>whnf)) | (apply Cl.go;(conv=>whnf); (first | refine Ob.call (hf) ?_ | refine Ob.call (hw) ?_);(conv=>whnf)) | (refine Fi.a ?_;conv=>whnf) | (refine Ob.b ?_;conv=>whnf)
    all_goals exact Lf
  have hf := sound_fn h1
  have hs := sound_of h1.2
  by_cases h2 : 20 < (by'.length : Int)
  · refine Fn.of_ex (cuts := []) tys hM Try.func14 rfl Try.call14 rfl ?_
    show exC Try.prog T [] _ false none 0 (entry 144 [rowD r, u8s by']) (finQ T [ResultVar.tmp 4] _)
    conv => whnf
    repeat' first | ((first | refine Ob.a ?_ | refine Sp.tt ?_ | refine Sp.ff ?_ | refine Sp.yes ?_ | refine Sp.no ?_ | refine Sp.nyes ?_ | refine Sp.nno ?_);conv=>whnf) | (refine Sp.ne (fun hc => ?_) (fun hc => ?_) <;> (conv=>whnf)) | (refine Sp.dec (fun hc => ?_) (fun hc => ?_) <;> (conv=>whnf)) | (refine Sp.ndec (fun hc => ?_) (fun hc => ?_) <;> (conv=>whnf)) | (refine Sp.mk (fun hc => ?_) (fun hc => ?_) <;> (conv=>whnf)) | (apply Cl.go;(conv=>whnf); (first | refine Ob.call (hf) ?_ | refine Ob.call (hw) ?_);(conv=>whnf)) | (refine Fi.a ?_;conv=>whnf) | (refine Ob.b ?_;conv=>whnf)
    all_goals exact Lf
  have h10 := hs.ok.l10
  have h12 := hs.ok.w12
  have k1 : r.lots.length < 1000000 := by omega
  have k2 : r.weak.length < 1000000 := by omega
  have hgl := given_len r by'
  have a0 := least_spec hs
  have a1 := Given_spec r by' hs.ok (by omega) hb.1
  have a2 := CheckLotsP_spec r (givenL r by') k1 k2 (by omega)
  have a3 := LotsP_spec r k1 k2
  have a4 := BlameP_spec r k1 k2
  rw [given_check hs by'] at a2
  rw [hs.blame] at a4
  have hgE := given_E by' hs.ex
  obtain ⟨U, hU, e, hmin⟩ := hs.best
  rw [e] at a3
  dsimp only at a2 a3 a4
  have hul := lst_length_le r.lots.length U
  have d1 := fun i : Int => has_law (lst r.lots.length U) i (by omega)
  have d2 := fun i : Int => has_law (givenL r by') i (by omega)
  have hbL := blL_len r
  have q : ∀ i : Nat, i < r.lots.length → (0 ≤ (blL r).getD i 0 ∧ (blL r).getD i 0 ≤ 2) ∧ ((i : Int) ∈ lst r.lots.length U → (blL r).getD i 0 ≠ 0) ∧ (¬ (i : Int) ∈ lst r.lots.length U → (blL r).getD i 0 ≠ 2) ∧
      (totR r (bset (givenB r by')) = optN r → ((i : Int) ∈ givenL r by' → (blL r).getD i 0 ≠ 0) ∧ (¬ (i : Int) ∈ givenL r by' → (blL r).getD i 0 ≠ 2)) := fun i hi => by
    obtain ⟨b0, b1, b2⟩ := hs.blame_at hi
    have main : ∀ S, Opt r S → ((i : Int) ∈ lst r.lots.length S → (blL r).getD i 0 ≠ 0) ∧ (¬ (i : Int) ∈ lst r.lots.length S → (blL r).getD i 0 ≠ 2) := fun S hS =>
      ⟨fun hm h => (by have := (mem_lst_nat.1 hm).2; rw [b1.1 h S hS] at this; cases this), fun hm h => hm (mem_lst_nat.2 ⟨hi, b2.1 h S hS⟩)⟩
    exact ⟨b0, (main U hU).1, (main U hU).2, fun h => main _ (hs.opt.2 ⟨hgE, h⟩)⟩
  generalize blL r = b at *
  generalize totR r (bset (givenB r by')) = a at *
  generalize givenL r by' = g at *
  generalize lst r.lots.length U = l at *
  generalize optN r = v at *
  refine Fn.of_ex (cuts := []) tys hM Try.func14 rfl Try.call14 rfl ?_
  show exC Try.prog T [] _ false none 0 (entry 144 [rowD r, u8s by']) (finQ T [ResultVar.tmp 4] _)
  conv => whnf
  repeat' first | ((first | refine Ob.a ?_ | refine Sp.tt ?_ | refine Sp.ff ?_ | refine Sp.yes ?_ | refine Sp.no ?_ | refine Sp.nyes ?_ | refine Sp.nno ?_);conv=>whnf) | (refine Sp.ne (fun hc => ?_) (fun hc => ?_) <;> (conv=>whnf)) | (refine Sp.dec (fun hc => ?_) (fun hc => ?_) <;> (conv=>whnf)) | (refine Sp.ndec (fun hc => ?_) (fun hc => ?_) <;> (conv=>whnf)) | (refine Sp.mk (fun hc => ?_) (fun hc => ?_) <;> (conv=>whnf)) | (apply Cl.go;(conv=>whnf); (first | refine Ob.call (hf) ?_ | refine Ob.call (hw) ?_ | refine Ob.call (a0) ?_ | refine Ob.call (a1) ?_ | refine Ob.call (a2) ?_ | refine Ob.call (a3) ?_ | refine Ob.call (a4) ?_);(conv=>whnf)) | (refine Fi.a ?_;conv=>whnf) | (refine Ob.b ?_;conv=>whnf)
  refine Lp.snap [0, 1, 5, 7, 9, 11, 12, 143] 100 ?_
  (conv=>whnf)
  refine LpB.go 144 ({i : Int // 0 ≤ i ∧ i ≤ b.length}) 0 (fun ⟨i, _⟩ nx => ([(14, .d (int i))], [])) (fun p => (b.length - p.1).toNat) (⟨0, by omega, by omega⟩) ?_ ?_
  · rintro ⟨i, i0, i1⟩
    have q := q i.toNat
    rw [Int.toNat_of_nonneg i0] at q
    have d1 := d1 i
    have d2 := d2 i
    conv => whnf
    repeat' first | ((first | refine Ob.a ?_ | refine Sp.tt ?_ | refine Sp.ff ?_ | refine Sp.yes ?_ | refine Sp.no ?_ | refine Sp.nyes ?_ | refine Sp.nno ?_);conv=>whnf) | (refine Sp.ne (fun hc => ?_) (fun hc => ?_) <;> (conv=>whnf)) | (refine Sp.dec (fun hc => ?_) (fun hc => ?_) <;> (conv=>whnf)) | (refine Sp.ndec (fun hc => ?_) (fun hc => ?_) <;> (conv=>whnf)) | (refine Sp.mk (fun hc => ?_) (fun hc => ?_) <;> (conv=>whnf)) | (apply Cl.go;(conv=>whnf); (first | refine Ob.call (d1) ?_ | refine Ob.call (d2) ?_ | refine Ob.call (hw) ?_);(conv=>whnf)) | (refine Fi.a ?_;conv=>whnf) | (refine Ob.b ?_;conv=>whnf)
    all_goals first | exact Lf | (exact ⟨rfl, ⟨i + 1, by omega, by omega⟩, Lf, by simp only; omega⟩) | (exfalso; obtain ⟨f1, f2, f3, f4⟩ := q (by omega); first | exact f2 (by assumption) (by assumption) | exact f3 (by assumption) (by assumption) | exact (f4 (by assumption)).1 (by assumption) (by assumption) | exact (f4 (by assumption)).2 (by assumption) (by assumption)) | skip
  · exact Lf
end Go.Px.Try

/-! Lm1 -/
namespace Go.Px.Try
open Go Go.Proofs Go.Px
theorem tot_z {z z' : Nat → Int} {S : Nat → Bool} : ∀ {n : Nat}, (∀ i, i < n → z i = z' i) → tot z S n = tot z' S n
  | 0, _ => rfl
  | n + 1, h => by rw [tot, tot, tot_z fun i hi => h i (by omega), h n (by omega)]
theorem few_least {r : Row} (h : Sound r) : (∃ S, E r S ∧ (lst r.lots.length S).length = (apF r none r.weak).length) ∧ ∀ S, E r S → (apF r none r.weak).length ≤ (lst r.lots.length S).length := by
  obtain ⟨S, h1, _, h3, h4⟩ := h.few
  exact ⟨⟨S, h1, h4⟩, fun T hT => by have := few_le h hT; omega⟩
/-! ### A row turned round -/
def trn (p : Int) (l : Lot) : Lot := ⟨p - 1 - l.hi, p - 1 - l.lo⟩
def turn (r : Row) : Row := ⟨r.pots, r.lots.map (trn r.pots), (r.weak.map fun w => r.pots - 1 - w).reverse⟩
theorem turn_len (r : Row) : (turn r).lots.length = r.lots.length := List.length_map ..
theorem lotN_turn {r : Row} {i : Nat} (h : i < r.lots.length) : lotN (turn r) i = trn r.pots (lotN r i) := by
  unfold lotN
  rw [List.getD_eq_getElem?_getD, List.getD_eq_getElem?_getD, List.getElem?_eq_getElem h, List.getElem?_eq_getElem (by rw [turn_len]; exact h)]
  simp [turn]
theorem has_trn {p w : Int} {l : Lot} : Has (trn p l) (p - 1 - w) ↔ Has l w := by
  unfold Has trn
  constructor <;> rintro ⟨h1, h2⟩ <;> constructor <;> (try simp only at h1 h2 ⊢) <;> omega
theorem turn_ok {r : Row} (h : RowOk r) : RowOk (turn r) := by
  refine ⟨h.p1, h.p40, by rw [turn_len]; exact h.l10, ?_, ?_, ?_, ?_⟩
  · show ((r.weak.map fun w => r.pots - 1 - w).reverse).length ≤ 12
    rw [List.length_reverse, List.length_map]; exact h.w12
  · intro l hl
    obtain ⟨l', h1, rfl⟩ := List.mem_map.1 hl
    have := h.lots _ h1
    unfold trn
    simp only [turn]
    omega
  · intro w hw
    obtain ⟨w', h1, rfl⟩ := List.mem_map.1 (List.mem_reverse.1 hw)
    have := h.rng _ h1
    simp only [turn]
    omega
  · show ((r.weak.map fun w => r.pots - 1 - w).reverse).Pairwise (· < ·)
    rw [List.pairwise_reverse, List.pairwise_map]
    exact h.inc.imp fun h => by omega
theorem E_turn {r : Row} {S : Nat → Bool} : E (turn r) S ↔ E r S := by
  unfold E
  rw [turn_len]
  constructor
  · intro h p hp
    obtain ⟨i, h1, h2, h3⟩ := h (r.pots - 1 - p) (List.mem_reverse.2 (List.mem_map.2 ⟨p, hp, rfl⟩))
    rw [lotN_turn h1, has_trn] at h3
    exact ⟨i, h1, h2, h3⟩
  · intro h p hp
    obtain ⟨w, hw, rfl⟩ := List.mem_map.1 (List.mem_reverse.1 hp)
    obtain ⟨i, h1, h2, h3⟩ := h w hw
    exact ⟨i, h1, h2, by rw [lotN_turn h1, has_trn]; exact h3⟩
theorem totR_turn (r : Row) (S : Nat → Bool) : totR (turn r) S = totR r S := by
  unfold totR
  rw [turn_len]
  refine tot_z fun i hi => ?_
  unfold zOf
  rw [lotN_turn hi]
  unfold lsize trn
  simp only
  omega
theorem Opt_turn {r : Row} {S : Nat → Bool} : Opt (turn r) S ↔ Opt r S := by
  unfold Opt
  simp only [E_turn, totR_turn]
theorem turn_sound {r : Row} (h : Sound r) : Sound (turn r) := by
  obtain ⟨S, hS⟩ := h.ex
  exact sound_mk (turn_ok h.ok) (E_turn.2 hS)
theorem turn_opt {r : Row} (h : Sound r) : optN (turn r) = optN r := by
  obtain ⟨T, h1, h2, _⟩ := h.att
  rw [optN_is (turn_sound h) (E_turn.2 h1) fun S hS => by rw [totR_turn, totR_turn, h2]; exact h.le (E_turn.1 hS), totR_turn, h2]
theorem turn_blame {r : Row} (h : Sound r) : blL (turn r) = blL r := by
  refine eq_prefix (by rw [blL_len, blL_len, turn_len]) fun j hj => ?_
  rw [blL_len, turn_len] at hj
  obtain ⟨a1, a2, a3⟩ := (turn_sound h).blame_at (i := j) (by rw [turn_len]; exact hj)
  obtain ⟨b1, b2, b3⟩ := h.blame_at hj
  simp only [Opt_turn] at a2 a3
  rw [← b2] at a2
  rw [← b3] at a3
  omega
theorem turn_apart {r : Row} (h : Sound r) : (apF (turn r) none (turn r).weak).length = (apF r none r.weak).length := by
  obtain ⟨⟨S, s1, s2⟩, s3⟩ := few_least h
  obtain ⟨⟨T, t1, t2⟩, t3⟩ := few_least (turn_sound h)
  have h1 := s3 T (E_turn.1 t1)
  have h2 := t3 S (E_turn.2 s1)
  rw [turn_len] at t2 h2
  omega
/-! ### Less weak pots, one more lot -/
theorem fewer_sound {r : Row} (h : Sound r) {W : List Int} (hW : W.Sublist r.weak) : Sound ⟨r.pots, r.lots, W⟩ ∧ optN ⟨r.pots, r.lots, W⟩ ≤ optN r := by
  obtain ⟨T, h1, h2, _⟩ := h.att
  have hT : E ⟨r.pots, r.lots, W⟩ T := fun p hp => h1 p (hW.mem hp)
  have hs : Sound ⟨r.pots, r.lots, W⟩ := sound_mk (r := ⟨r.pots, r.lots, W⟩) ⟨h.ok.p1, h.ok.p40, h.ok.l10, Nat.le_trans hW.length_le h.ok.w12, h.ok.lots, fun x hx => h.ok.rng x (hW.mem hx), h.ok.inc.sublist hW⟩ hT
  have h3 := hs.le hT
  have h4 : totR ⟨r.pots, r.lots, W⟩ T = totR r T := rfl
  exact ⟨hs, by omega⟩
def more (r : Row) (l : Lot) : Row := ⟨r.pots, r.lots ++ [l], r.weak⟩
theorem lotN_more {r : Row} {l : Lot} {i : Nat} (h : i < r.lots.length) : lotN (more r l) i = lotN r i := by
  unfold lotN more
  rw [List.getD_eq_getElem?_getD, List.getD_eq_getElem?_getD, List.getElem?_append_left h]
theorem more_sound {r : Row} (h : Sound r) {l : Lot} (hy : RowOk (more r l)) : Sound (more r l) ∧ optN (more r l) ≤ optN r := by
  obtain ⟨T, h1, h2, h3⟩ := h.att
  have hl : (more r l).lots.length = r.lots.length + 1 := by simp [more]
  have hT : E (more r l) T := fun p hp => by
    obtain ⟨i, a, b, c⟩ := h1 p hp
    exact ⟨i, by omega, b, by rw [lotN_more a]; exact c⟩
  have hs := sound_mk hy hT
  have h4 := hs.le hT
  have h5 : totR (more r l) T = totR r T := by
    unfold totR
    rw [hl, tot]
    have : T r.lots.length = false := by
      cases e : T r.lots.length with
      | false => rfl
      | true => have := h3 _ e; omega
    rw [this]
    simp only [Bool.false_eq_true, if_false, Int.add_zero]
    exact tot_z fun i hi => by unfold zOf; rw [lotN_more hi]
  exact ⟨hs, by omega⟩
/-! ### One lot less -/
def less1 (r : Row) (i : Nat) : Row := ⟨r.pots, r.lots.take i ++ r.lots.drop (i + 1), r.weak⟩
def skp (i j : Nat) : Nat := if j < i then j else j + 1
def lift1 (i : Nat) (T : Nat → Bool) : Nat → Bool := fun j => if j < i then T j else if j = i then false else T (j - 1)
theorem less1_len {r : Row} {i : Nat} (h : i < r.lots.length) : (less1 r i).lots.length + 1 = r.lots.length := by
  simp [less1, List.length_take, List.length_drop]; omega
theorem lotN_less1 {r : Row} {i j : Nat} (h : i < r.lots.length) : lotN (less1 r i) j = lotN r (skp i j) := by
  unfold lotN less1 skp
  simp only [List.getD_eq_getElem?_getD]
  congr 1
  rw [List.getElem?_append, List.length_take, Nat.min_eq_left (by omega)]
  split
  · rw [List.getElem?_take]; rw [if_pos (by assumption)]
  · rw [List.getElem?_drop]; congr 1; omega
theorem lift1_skp (i : Nat) (T : Nat → Bool) (j : Nat) : lift1 i T (skp i j) = T j := by
  unfold lift1 skp
  by_cases h : j < i
  · rw [if_pos h, if_pos h]
  · rw [if_neg h, if_neg (by omega), if_neg (by omega)]; rfl
theorem tot_skp (z : Nat → Int) (T : Nat → Bool) (i : Nat) : ∀ n, i ≤ n → tot (fun j => z (skp i j)) T n = tot z (lift1 i T) (n + 1)
  | 0, h => by
    have : i = 0 := by omega
    subst this
    simp [tot, lift1]
  | n + 1, h => by
    by_cases e : i = n + 1
    · subst e
      have h1 : tot (fun j => z (skp (n + 1) j)) T (n + 1) = tot z (lift1 (n + 1) T) (n + 1) := by
        rw [tot_z (z' := z) fun j hj => by unfold skp; rw [if_pos hj]]
        exact tot_congr fun j hj => by unfold lift1; rw [if_pos hj]
      rw [h1]
      conv => rhs; rw [tot]
      have : lift1 (n + 1) T (n + 1) = false := by unfold lift1; rw [if_neg (by omega), if_pos rfl]
      rw [this]; simp
    · rw [tot, tot_skp z T i n (by omega)]
      conv => rhs; rw [tot]
      have h1 : skp i n = n + 1 := if_neg (by omega)
      have h2 := lift1_skp i T n
      rw [h1] at h2
      rw [h1, h2]
theorem totR_less1 {r : Row} {i : Nat} (h : i < r.lots.length) (T : Nat → Bool) : totR (less1 r i) T = totR r (lift1 i T) := by
  have hl := less1_len h
  unfold totR
  rw [← hl, ← tot_skp _ _ _ _ (by omega)]
  exact tot_z fun j _ => by unfold zOf; rw [lotN_less1 h]
theorem E_less1 {r : Row} {i : Nat} (h : i < r.lots.length) {T : Nat → Bool} : E (less1 r i) T ↔ E r (lift1 i T) := by
  have hl := less1_len h
  constructor
  · intro hE p hp
    obtain ⟨j, h1, h2, h3⟩ := hE p hp
    rw [lotN_less1 h] at h3
    exact ⟨skp i j, by unfold skp; split <;> omega, by rw [lift1_skp]; exact h2, h3⟩
  · intro hE p hp
    obtain ⟨j, h1, h2, h3⟩ := hE p hp
    have hne : j ≠ i := fun e => by
      subst e
      unfold lift1 at h2
      rw [if_neg (by omega), if_pos rfl] at h2; cases h2
    have hj : skp i (if j < i then j else j - 1) = j := by
      unfold skp
      by_cases h : j < i
      · rw [if_pos h, if_pos h]
      · rw [if_neg h, if_neg (by omega)]; omega
    refine ⟨if j < i then j else j - 1, by split <;> omega, ?_, ?_⟩
    · rw [← lift1_skp i T, hj]; exact h2
    · rw [lotN_less1 h, hj]; exact h3
theorem lift1_of {r : Row} {i : Nat} (h : i < r.lots.length) {S : Nat → Bool} (hS : S i = false) : lift1 i (fun j => S (skp i j)) = S := by
  funext j
  unfold lift1 skp
  dsimp only
  by_cases h1 : j < i
  · rw [if_pos h1, if_pos h1]
  · rw [if_neg h1]
    by_cases h2 : j = i
    · rw [if_pos h2, h2, hS]
    · rw [if_neg h2, if_neg (by omega)]; congr 1; omega
theorem less1_ok {r : Row} (h : RowOk r) {i : Nat} (hi : i < r.lots.length) : RowOk (less1 r i) := by
  have hl := less1_len hi
  refine ⟨h.p1, h.p40, by have := h.l10; omega, h.w12, fun l hl => ?_, h.rng, h.inc⟩
  rcases List.mem_append.1 hl with h' | h'
  · exact h.lots _ (List.mem_of_mem_take h')
  · exact h.lots _ (List.mem_of_mem_drop h')
/-- Without a lot that is always to blame more pots are called back, or the row cannot be explained. -/
theorem less1_always {r : Row} (h : Sound r) {i : Nat} (hi : i < r.lots.length) (ha : ∀ S, Opt r S → S i = true) : rowError (less1 r i) = 22 ∨ rowError (less1 r i) = 0 ∧ optN r < optN (less1 r i) := by
  by_cases e : rowError (less1 r i) = 0
  · right
    refine ⟨e, ?_⟩
    have hs := sound_of e
    obtain ⟨T, h1, h2, _⟩ := hs.att
    have h3 := (E_less1 hi).1 h1
    rw [totR_less1 hi] at h2
    have h4 := h.le h3
    by_cases h5 : totR r (lift1 i T) = optN r
    · have := ha _ (h.opt.2 ⟨h3, h5⟩)
      unfold lift1 at this
      rw [if_neg (by omega), if_pos rfl] at this; cases this
    · omega
  · left
    unfold rowError at e ⊢
    rw [if_neg (by rw [checkRow_ok.2 (less1_ok h.ok hi)]; simp)] at e ⊢
    split at e
    · exact absurd rfl e
    · rename_i h'; rw [if_neg h']
/-- Without another one just as many. -/
theorem less1_not {r : Row} (h : Sound r) {i : Nat} (hi : i < r.lots.length) (ha : ¬ ∀ S, Opt r S → S i = true) : rowError (less1 r i) = 0 ∧ optN (less1 r i) = optN r := by
  have : ∃ S, Opt r S ∧ S i = false := Classical.byContradiction fun hc => ha fun S hS => by
    cases e : S i with
    | true => rfl
    | false => exact absurd ⟨S, hS, e⟩ hc
  obtain ⟨S, hS, hf⟩ := this
  have hS2 := h.opt.1 hS
  have e := lift1_of hi hf
  have hE : E (less1 r i) (fun j => S (skp i j)) := (E_less1 hi).2 (by rw [e]; exact hS2.1)
  have hs := sound_mk (less1_ok h.ok hi) hE
  refine ⟨hs.err, ?_⟩
  rw [optN_is hs hE fun T hT => ?_, totR_less1 hi, e, hS2.2]
  rw [totR_less1 hi, totR_less1 hi, e, hS2.2]
  exact h.le ((E_less1 hi).1 hT)
end Go.Px.Try

/-! Lm2 -/
namespace Go.Px.Try
open Go Go.Proofs Go.Px
def shL (p : Int) (l : Lot) : Lot := ⟨l.lo + p, l.hi + p⟩
def cat (a b : Row) : Row := ⟨a.pots + b.pots, a.lots ++ b.lots.map (shL a.pots), a.weak ++ b.weak.map (· + a.pots)⟩
theorem cat_len (a b : Row) : (cat a b).lots.length = a.lots.length + b.lots.length := by simp [cat]
theorem lotN_cat1 {a b : Row} {i : Nat} (h : i < a.lots.length) : lotN (cat a b) i = lotN a i := by
  unfold lotN cat
  rw [List.getD_eq_getElem?_getD, List.getD_eq_getElem?_getD, List.getElem?_append_left h]
theorem lotN_cat2 {a b : Row} {i : Nat} (h : i < b.lots.length) : lotN (cat a b) (a.lots.length + i) = shL a.pots (lotN b i) := by
  unfold lotN cat
  rw [List.getD_eq_getElem?_getD, List.getD_eq_getElem?_getD, List.getElem?_append_right (by omega), Nat.add_sub_cancel_left, List.getElem?_map, List.getElem?_eq_getElem h]
  rfl
theorem has_shL {p w : Int} {l : Lot} : Has (shL p l) (w + p) ↔ Has l w := by
  unfold Has shL
  constructor <;> rintro ⟨h1, h2⟩ <;> constructor <;> (try simp only at h1 h2 ⊢) <;> omega
theorem cat_ok {a b : Row} (ha : RowOk a) (hb : RowOk b) (h1 : a.pots + b.pots ≤ 40) (h2 : a.lots.length + b.lots.length ≤ 10) (h3 : a.weak.length + b.weak.length ≤ 12) : RowOk (cat a b) := by
  have a1 := ha.p1
  have b1 := hb.p1
  refine ⟨by simp only [cat]; omega, h1, by rw [cat_len]; exact h2, by simp only [cat, List.length_append, List.length_map]; exact h3, ?_, ?_, ?_⟩
  · intro l hl
    rcases List.mem_append.1 hl with h | h
    · have := ha.lots _ h; simp only [cat]; omega
    · obtain ⟨l', h4, rfl⟩ := List.mem_map.1 h
      have := hb.lots _ h4
      simp only [cat, shL]; omega
  · intro w hw
    rcases List.mem_append.1 hw with h | h
    · have := ha.rng _ h; simp only [cat]; omega
    · obtain ⟨w', h4, rfl⟩ := List.mem_map.1 h
      have := hb.rng _ h4
      simp only [cat]; omega
  · show (a.weak ++ b.weak.map (· + a.pots)).Pairwise (· < ·)
    rw [List.pairwise_append, List.pairwise_map]
    refine ⟨ha.inc, hb.inc.imp fun h => by omega, fun x hx y hy => ?_⟩
    obtain ⟨w', h4, rfl⟩ := List.mem_map.1 hy
    have := ha.rng _ hx
    have := hb.rng _ h4
    omega
theorem E_cat {a b : Row} (ha : RowOk a) (hb : RowOk b) {S : Nat → Bool} : E (cat a b) S ↔ E a S ∧ E b fun i => S (a.lots.length + i) := by
  constructor
  · intro h
    constructor
    · intro p hp
      obtain ⟨i, h1, h2, h3⟩ := h p (List.mem_append.2 (.inl hp))
      rw [cat_len] at h1
      by_cases hi : i < a.lots.length
      · exact ⟨i, hi, h2, by rwa [lotN_cat1 hi] at h3⟩
      · obtain ⟨k, rfl⟩ : ∃ k, i = a.lots.length + k := ⟨i - a.lots.length, by omega⟩
        rw [lotN_cat2 (by omega)] at h3
        have h4 := hb.lots _ (lotN_mem (r := b) (i := k) (by omega))
        have h5 := ha.rng _ hp
        have h6 := h3.1
        simp only [shL] at h6
        omega
    · intro p hp
      obtain ⟨i, h1, h2, h3⟩ := h (p + a.pots) (List.mem_append.2 (.inr (List.mem_map.2 ⟨p, hp, rfl⟩)))
      rw [cat_len] at h1
      by_cases hi : i < a.lots.length
      · rw [lotN_cat1 hi] at h3
        have h4 := ha.lots _ (lotN_mem (r := a) (i := i) hi)
        have h5 := hb.rng _ hp
        have h6 := h3.2
        omega
      · obtain ⟨k, rfl⟩ : ∃ k, i = a.lots.length + k := ⟨i - a.lots.length, by omega⟩
        rw [lotN_cat2 (by omega), has_shL] at h3
        exact ⟨k, by omega, h2, h3⟩
  · rintro ⟨h1, h2⟩ p hp
    rcases List.mem_append.1 hp with h | h
    · obtain ⟨i, a1, a2, a3⟩ := h1 p h
      exact ⟨i, by rw [cat_len]; omega, a2, by rw [lotN_cat1 a1]; exact a3⟩
    · obtain ⟨w, h4, rfl⟩ := List.mem_map.1 h
      obtain ⟨i, a1, a2, a3⟩ := h2 w h4
      exact ⟨a.lots.length + i, by rw [cat_len]; omega, a2, by rw [lotN_cat2 a1, has_shL]; exact a3⟩
theorem tot_cat {z : Nat → Int} {S : Nat → Bool} (n : Nat) : ∀ m, tot z S (n + m) = tot z S n + tot (fun i => z (n + i)) (fun i => S (n + i)) m
  | 0 => by simp [tot]
  | m + 1 => by rw [← Nat.add_assoc, tot, tot, tot_cat n m]; omega
theorem totR_cat (a b : Row) (S : Nat → Bool) : totR (cat a b) S = totR a S + totR b fun i => S (a.lots.length + i) := by
  unfold totR
  rw [cat_len, tot_cat]
  congr 1
  · exact tot_z fun i hi => by unfold zOf; rw [lotN_cat1 hi]
  · exact tot_z fun i hi => by unfold zOf; rw [lotN_cat2 hi]; unfold lsize shL; simp only; omega
def both (n : Nat) (S T : Nat → Bool) : Nat → Bool := fun i => if i < n then S i else T (i - n)
theorem both1 {n : Nat} {S T : Nat → Bool} {i : Nat} (h : i < n) : both n S T i = S i := if_pos h
theorem both2 (n : Nat) (S T : Nat → Bool) : (fun i => both n S T (n + i)) = T := by
  funext i; unfold both; rw [if_neg (by omega), Nat.add_sub_cancel_left]
theorem E_congr {r : Row} {S T : Nat → Bool} (h : ∀ i, i < r.lots.length → S i = T i) : E r S ↔ E r T := by
  constructor <;> intro hE p hp <;> obtain ⟨i, h1, h2, h3⟩ := hE p hp
  · exact ⟨i, h1, by rw [← h i h1]; exact h2, h3⟩
  · exact ⟨i, h1, by rw [h i h1]; exact h2, h3⟩
theorem totR_congr {r : Row} {S T : Nat → Bool} (h : ∀ i, i < r.lots.length → S i = T i) : totR r S = totR r T := tot_congr h
theorem cat_sound {a b : Row} (ha : Sound a) (hb : Sound b) (hx : RowOk (cat a b)) : Sound (cat a b) ∧ optN (cat a b) = optN a + optN b := by
  obtain ⟨S, s1, s2, _⟩ := ha.att
  obtain ⟨T, t1, t2, _⟩ := hb.att
  have hl : ∀ i, i < a.lots.length → both a.lots.length S T i = S i := fun i hi => both1 hi
  have hE : E (cat a b) (both a.lots.length S T) := (E_cat ha.ok hb.ok).2 ⟨(E_congr hl).2 s1, by rw [both2]; exact t1⟩
  have ht : totR (cat a b) (both a.lots.length S T) = optN a + optN b := by rw [totR_cat, totR_congr hl, both2, s2, t2]
  have hs := sound_mk hx hE
  refine ⟨hs, ?_⟩
  rw [optN_is hs hE fun U hU => ?_, ht]
  rw [ht, totR_cat]
  obtain ⟨u1, u2⟩ := (E_cat ha.ok hb.ok).1 hU
  have := ha.le u1
  have := hb.le u2
  omega
/-! ### Weak pots apart -/
theorem tog_cat1 {a b : Row} (ha : RowOk a) (hb : RowOk b) {x y : Int} (hx : 0 ≤ x ∧ x < a.pots) : togB (cat a b) x y = togB a x y := by
  unfold togB cat
  rw [List.any_append]
  have : ((b.lots.map (shL a.pots)).any fun l => decide (Has l x) && decide (Has l y)) = false := by
    rw [List.any_eq_false]
    intro l hl
    obtain ⟨l', h4, rfl⟩ := List.mem_map.1 hl
    have := hb.lots _ h4
    rw [decide_eq_false (fun h => by have := h.1; simp only [shL] at this; omega)]
    simp
  rw [this, Bool.or_false]
theorem tog_cat2 {a b : Row} (ha : RowOk a) (hb : RowOk b) {x y : Int} (hy : 0 ≤ y ∧ y < b.pots) : togB (cat a b) (x + a.pots) (y + a.pots) = togB b x y := by
  unfold togB cat
  rw [List.any_append]
  have : (a.lots.any fun l => decide (Has l (x + a.pots)) && decide (Has l (y + a.pots))) = false := by
    rw [List.any_eq_false]
    intro l hl
    have := ha.lots _ hl
    rw [decide_eq_false (p := Has l (y + a.pots)) (fun h => by have := h.2; omega)]
    simp
  rw [this, Bool.false_or, List.any_map]
  congr 1
  funext l
  simp only [Function.comp, has_shL]
theorem tog_cat3 {a b : Row} (ha : RowOk a) (hb : RowOk b) {x y : Int} (hx : 0 ≤ x ∧ x < a.pots) (hy : 0 ≤ y) : togB (cat a b) x (y + a.pots) = false := by
  rw [tog_cat1 ha hb hx]
  unfold togB
  rw [List.any_eq_false]
  intro l hl
  have := ha.lots _ hl
  rw [decide_eq_false (p := Has l (y + a.pots)) (fun h => by have := h.2; omega)]
  simp
theorem apF_cat2 {a b : Row} (ha : RowOk a) (hb : RowOk b) : ∀ (M : List Int) (last last' : Option Int), (∀ x ∈ M, 0 ≤ x ∧ x < b.pots) → (∀ x ∈ M, okL (cat a b) last (x + a.pots) = okL b last' x) →
    apF (cat a b) last (M.map (· + a.pots)) = (apF b last' M).map (· + a.pots)
  | [], _, _, _, _ => rfl
  | x :: M, last, last', hr, hk => by
    have h1 := apF_cat2 ha hb M (some (x + a.pots)) (some x) (fun y hy => hr y (List.mem_cons_of_mem _ hy)) fun y hy => by
      show (!togB (cat a b) (x + a.pots) (y + a.pots)) = !togB b x y
      rw [tog_cat2 ha hb (hr y (List.mem_cons_of_mem _ hy))]
    have h2 := apF_cat2 ha hb M last last' (fun y hy => hr y (List.mem_cons_of_mem _ hy)) fun y hy => hk y (List.mem_cons_of_mem _ hy)
    rw [List.map_cons, apF, apF, h1, h2, hk x (List.mem_cons_self ..)]
    simp only [List.length_cons, List.length_map]
    split
    · split <;> simp
    · rfl
theorem apF_cat {a b : Row} (ha : RowOk a) (hb : RowOk b) : ∀ (L : List Int) (last : Option Int), (∀ x ∈ L, 0 ≤ x ∧ x < a.pots) → (∀ y, last = some y → 0 ≤ y ∧ y < a.pots) →
    apF (cat a b) last (L ++ b.weak.map (· + a.pots)) = apF a last L ++ (apF b none b.weak).map (· + a.pots)
  | [], last, _, hl => by
    rw [List.nil_append, show apF a last [] = [] by cases last <;> rfl, List.nil_append]
    refine apF_cat2 ha hb _ _ _ hb.rng fun x hx => ?_
    cases last with
    | none => rfl
    | some y =>
      show (!togB (cat a b) y (x + a.pots)) = true
      rw [tog_cat3 ha hb (hl y rfl) (hb.rng x hx).1]; rfl
  | x :: L, last, hr, hl => by
    have hx := hr x (List.mem_cons_self ..)
    have h1 := apF_cat ha hb L (some x) (fun y hy => hr y (List.mem_cons_of_mem _ hy)) fun y hy => by cases hy; exact hx
    have h2 := apF_cat ha hb L last (fun y hy => hr y (List.mem_cons_of_mem _ hy)) hl
    have h3 : okL (cat a b) last x = okL a last x := by
      cases last with
      | none => rfl
      | some y =>
        show (!togB (cat a b) y x) = !togB a y x
        rw [tog_cat1 ha hb (hl y rfl)]
    rw [List.cons_append, apF, apF, h1, h2, h3]
    simp only [List.length_cons, List.length_append, List.length_map]
    split
    · by_cases h4 : (apF a (some x) L).length + 1 < (apF a last L).length
      · rw [if_pos (by omega), if_pos h4]
      · rw [if_neg (by omega), if_neg h4]; rfl
    · rfl
theorem cat_apart {a b : Row} (ha : RowOk a) (hb : RowOk b) : apF (cat a b) none (cat a b).weak = apF a none a.weak ++ (apF b none b.weak).map (· + a.pots) :=
  apF_cat ha hb a.weak none ha.rng fun y h => by cases h
end Go.Px.Try

/-! LwTurn -/
namespace Go.Px.Try
open Go Go.Proofs Go.Px
set_option maxRecDepth 100000
/-- A row whose lots grow, one whose weak pots grow: what changes; sl: slots; id: the name of the row's cells. -/
def bldL (sl : List (Nat × AV)) (id : Nat) (p : Int) (nx : Nat) : List Lot → List (Nat × AV) × List (Nat × Res)
  | [] => (sl, [(id, .cs true 3 (nthL [.d (int p), .d (.v (.slice none 0 0)), .d (.v (.slice none 0 0))]))])
  | y :: o => (sl, [(id, .cs true 3 (nthL [.d (int p), .ms nx 2 0 (y :: o).length, .d (.v (.slice none 0 0))])), (nx, .row true 51 2 (y :: o).length (rowOf lotD default (y :: o)))])
def bldV (sl : List (Nat × AV)) (id : Nat) (p : Int) (L : AV) (nx : Nat) : List Int → List (Nat × AV) × List (Nat × Res)
  | [] => (sl, [(id, .cs true 3 (nthL [.d (int p), L, .d (.v (.slice none 0 0))]))])
  | y :: o => (sl, [(id, .cs true 3 (nthL [.d (int p), L, .ms nx 1 0 (y :: o).length])), (nx, .row true 3 1 (y :: o).length (rowOf int 0 (y :: o)))])
def tlL (r : Row) (i : Nat) : List Lot := (r.lots.take i).map (trn r.pots)
def twL (r : Row) (m : Nat) : List Int := ((r.weak.drop m).map fun w => r.pots - 1 - w).reverse
theorem tlL_succ (r : Row) {i : Nat} (h : i < r.lots.length) : tlL r (i + 1) = tlL r i ++ [trn r.pots (r.lots.getD i default)] := by
  unfold tlL; rw [take_succ_getD _ _ default h, List.map_append]; rfl
theorem twL_succ (r : Row) {m : Nat} (h : m < r.weak.length) : twL r m = twL r (m + 1) ++ [r.pots - 1 - r.weak.getD m 0] := by
  unfold twL; rw [drop_getD 0 h, List.map_cons, List.reverse_cons]
theorem tlL_len (r : Row) (i : Nat) (h : i ≤ r.lots.length) : (tlL r i).length = i := by
  unfold tlL; rw [List.length_map, List.length_take]; omega
theorem twL_len (r : Row) (m : Nat) : (twL r m).length = r.weak.length - m := by
  unfold twL; rw [List.length_reverse, List.length_map, List.length_drop]
/-- What the walk needs. -/
structure TuT (r x : Row) (by' g : List Nat) (G c a : List Int) (b1 : List Int) (v t : Int) : Prop where
  hw : Fn Try.prog 18 [] (bool true)
  hf : Fn Try.prog 44 [rowD r] (bool true)
  a1 : Fn Try.prog 46 [rowD r, u8s by'] (ints G)
  a2 : Fn Try.prog 19 [rowD r, ints G] (tpl [int t, int 0])
  a3 : Fn Try.prog 19 [rowD x, ints G] (tpl [int t, int 0])
  a4 : Fn Try.prog 45 [rowD r] (tpl [int v, bool true])
  a5 : Fn Try.prog 45 [rowD x] (tpl [int v, bool true])
  a6 : Fn Try.prog 30 [rowD r] (tpl [ints c, int 0])
  a7 : Fn Try.prog 30 [rowD x] (tpl [ints c, int 0])
  a8 : Fn Try.prog 25 [ints c, ints c] (bool true)
  a9 : Fn Try.prog 35 [rowD r] (tpl [ints a, int 0])
  a10 : Fn Try.prog 35 [rowD x] (tpl [ints b1, int 0])
  lab : (a.length : Int) = b1.length
  hp : x.pots = r.pots
  hl : x.lots = tlL r r.lots.length
  hwk : x.weak = twL r 0
set_option maxHeartbeats 16000000 in
theorem turned_walk {r x : Row} {by' g : List Nat} {G c a b1 : List Int} {v t : Int} (hr : RowOk r) (hb : ¬ 20 < (by'.length : Int)) (h : TuT r x by' g G c a b1 v t) : Fn Try.prog 10 [rowD r, u8s by'] (bool true) := by
  obtain ⟨hw, hf, a1, a2, a3, a4, a5, a6, a7, a8, a9, a10, lab, hp, hl, hwk⟩ := h
  obtain ⟨p1, p40, h10, h12, hlo, hrg, _⟩ := hr
  have hlo2 : ∀ i : Nat, i < r.lots.length → (0 ≤ (r.lots.getD i default).lo ∧ (r.lots.getD i default).lo ≤ (r.lots.getD i default).hi ∧ (r.lots.getD i default).hi < r.pots) := fun i hi => hlo _ (getD_mem hi default)
  have hrg2 : ∀ i : Nat, i < r.weak.length → 0 ≤ r.weak.getD i 0 ∧ r.weak.getD i 0 < r.pots := fun i hi => hrg _ (getD_mem hi 0)
  have t1 := fun (i : Int) (i0 : 0 ≤ i) (i1 : i < r.lots.length) => tlL_succ r (i := i.toNat) (by omega)
  have t2 := fun (i : Int) (i0 : 0 ≤ i) (i1 : i < r.weak.length) => twL_succ r (m := i.toNat) (by omega)
  have l1 := tlL_len r
  have l2 := twL_len r
  clear hlo hrg
  obtain ⟨xp, xl, xw⟩ := x
  subst hp
  simp only at hl hwk
  refine Fn.of_ex (cuts := []) tys hM Try.func10 rfl Try.call10 rfl ?_
  show exC Try.prog T [] _ false none 0 (entry 190 [rowD r, u8s by']) (finQ T [ResultVar.tmp 4] _)
  conv => whnf
  repeat' first | ((first | refine Ob.a ?_ | refine Sp.tt ?_ | refine Sp.ff ?_ | refine Sp.yes ?_ | refine Sp.no ?_ | refine Sp.nyes ?_ | refine Sp.nno ?_);conv=>whnf) | (refine Sp.ne (fun hc => ?_) (fun hc => ?_) <;> (conv=>whnf)) | (refine Sp.dec (fun hc => ?_) (fun hc => ?_) <;> (conv=>whnf)) | (refine Sp.ndec (fun hc => ?_) (fun hc => ?_) <;> (conv=>whnf)) | (refine Sp.mk (fun hc => ?_) (fun hc => ?_) <;> (conv=>whnf)) | (apply Cl.go;(conv=>whnf); (first | refine Ob.call (hf) ?_ | refine Ob.call (hw) ?_);(conv=>whnf)) | (refine Fi.a ?_;conv=>whnf) | (refine Ob.b ?_;conv=>whnf)
  refine Lp.snap [0, 1, 2, 4, 5, 7, 8, 9, 10, 11, 12, 13, 14, 15, 16, 17, 18, 19, 20, 21, 22, 23, 24, 70, 71, 72, 73, 74, 76, 77, 78, 79, 80, 81, 82, 83, 84, 85, 86, 87, 88, 89, 90, 91, 92, 93, 94, 95, 96, 97, 98, 99, 100, 101, 102, 103, 104, 105, 106, 107, 108, 109, 110, 111, 112, 113, 114, 115, 116, 117, 118, 119, 120, 121, 122, 123, 124, 125, 126, 127, 128, 129, 130, 131, 132, 133, 134, 135, 136, 137, 138, 139, 140, 141, 142, 143, 144, 145, 146, 147, 148, 149, 150, 151, 152, 153, 154, 155, 156, 157, 158, 159, 160, 161, 162, 163, 164, 165, 166, 167, 168, 169, 170, 171, 172, 173, 174, 175, 176, 177, 178, 179, 180, 181, 182, 183, 184, 185, 186, 187, 188, 189] 150 ?_
  (conv=>whnf)
  refine LpB.go 190 ({p : Int × List Lot // (0 ≤ p.1 ∧ p.1 ≤ r.lots.length) ∧ p.2 = tlL r p.1.toNat}) 1 (fun ⟨(i, o), _⟩ nx => bldL [(6, .d (int i))] 13 r.pots nx o) (fun p => (r.lots.length - p.1.1).toNat) (⟨(0, []), ⟨by simp, by simp only; omega⟩, rfl⟩) ?_ ?_ (hl := by rintro ⟨⟨i, o⟩, _⟩; cases o <;> rfl)
  · rintro ⟨⟨i, o⟩, ⟨i0, i1⟩, ho⟩
    simp only at i0 i1 ho
    have hol := l1 i.toNat (by omega)
    rw [← ho] at hol
    by_cases hi : i < r.lots.length
    · obtain ⟨g1, g2, g3⟩ := hlo2 i.toNat (by omega)
      have hs : tlL r (i + 1).toNat = o ++ [trn r.pots (r.lots.getD i.toNat default)] := by
        rw [ho, show (i + 1).toNat = i.toNat + 1 by omega, t1 i i0 hi]
      cases o with
      | nil =>
        conv => whnf
        repeat' first | ((first | refine Ob.a ?_ | refine Sp.tt ?_ | refine Sp.ff ?_ | refine Sp.yes ?_ | refine Sp.no ?_ | refine Sp.nyes ?_ | refine Sp.nno ?_);conv=>whnf) | (refine Sp.ne (fun hc => ?_) (fun hc => ?_) <;> (conv=>whnf)) | (refine Sp.dec (fun hc => ?_) (fun hc => ?_) <;> (conv=>whnf)) | (refine Sp.ndec (fun hc => ?_) (fun hc => ?_) <;> (conv=>whnf)) | (refine Sp.mk (fun hc => ?_) (fun hc => ?_) <;> (conv=>whnf)) | (refine Fi.a ?_;conv=>whnf) | (refine Ob.b ?_;conv=>whnf)
        refine ⟨rfl, ⟨(i + 1, [trn r.pots (r.lots.getD i.toNat default)]), ⟨by simp only; omega, by simp only; omega⟩, hs.symm⟩, ?_, by simp only; omega⟩
        repeat' first | (refine Edge.fast ?_) | ((conv=>whnf); first | exact True.intro | (refine And.intro ?_ ?_) | exact rfl | exact Nat.le_of_eq (Nat.zero_add _) | exact ImpS.refl _ | ((conv => arg 1; whnf); first | exact ImpS.refl _ | (refine ImpS.nil_eq ?_) | (refine ImpS.vnil_eq ?_) | (refine ImpS.row ?_) | (refine ImpS.rowN ?_ ?_) | (refine ImpS.sl_eq ?_) | (refine ImpS.expl rfl ?_)) | (refine row_snoc' ?_) | (apply row_upd) | exact cimp_none | exact cimp_same | exact List.not_mem_nil | exact DImp.refl _) | exact rfl | (refine And.intro ?_ ?_) | exact ImpS.refl _
        all_goals first | omega | refine row_first ?_
        repeat' first | (refine Edge.fast ?_) | ((conv=>whnf); first | exact True.intro | (refine And.intro ?_ ?_) | exact rfl | exact Nat.le_of_eq (Nat.zero_add _) | exact ImpS.refl _ | ((conv => arg 1; whnf); first | exact ImpS.refl _ | (refine ImpS.nil_eq ?_) | (refine ImpS.vnil_eq ?_) | (refine ImpS.row ?_) | (refine ImpS.rowN ?_ ?_) | (refine ImpS.sl_eq ?_) | (refine ImpS.expl rfl ?_)) | (refine row_snoc' ?_) | (apply row_upd) | exact cimp_none | exact cimp_same | exact List.not_mem_nil | exact DImp.refl _) | exact rfl | (refine And.intro ?_ ?_) | exact ImpS.refl _
      | cons y o =>
        conv => whnf
        repeat' first | ((first | refine Ob.a ?_ | refine Sp.tt ?_ | refine Sp.ff ?_ | refine Sp.yes ?_ | refine Sp.no ?_ | refine Sp.nyes ?_ | refine Sp.nno ?_);conv=>whnf) | (refine Sp.ne (fun hc => ?_) (fun hc => ?_) <;> (conv=>whnf)) | (refine Sp.dec (fun hc => ?_) (fun hc => ?_) <;> (conv=>whnf)) | (refine Sp.ndec (fun hc => ?_) (fun hc => ?_) <;> (conv=>whnf)) | (refine Sp.mk (fun hc => ?_) (fun hc => ?_) <;> (conv=>whnf)) | (refine Fi.a ?_;conv=>whnf) | (refine Ob.b ?_;conv=>whnf)
        refine ⟨rfl, ⟨(i + 1, y :: o ++ [trn r.pots (r.lots.getD i.toNat default)]), ⟨by simp only; omega, by simp only; omega⟩, hs.symm⟩, ?_, by simp only; omega⟩
        repeat' first | (refine Edge.fast ?_) | ((conv=>whnf); first | exact True.intro | (refine And.intro ?_ ?_) | exact rfl | exact Nat.le_of_eq (Nat.zero_add _) | exact ImpS.refl _ | ((conv => arg 1; whnf); first | exact ImpS.refl _ | (refine ImpS.nil_eq ?_) | (refine ImpS.vnil_eq ?_) | (refine ImpS.row ?_) | (refine ImpS.rowN ?_ ?_) | (refine ImpS.sl_eq ?_) | (refine ImpS.expl rfl ?_)) | (refine row_snoc' ?_) | exact MImp.refl _ | exact cimp_none | exact cimp_same | exact List.not_mem_nil | exact DImp.refl _) | exact rfl | (refine And.intro ?_ ?_) | exact ImpS.refl _
        all_goals first | omega | (simp; done) | refine row_snoc' (l := y :: o) ?_
        repeat' first | (refine Edge.fast ?_) | ((conv=>whnf); first | exact True.intro | (refine And.intro ?_ ?_) | exact rfl | exact Nat.le_of_eq (Nat.zero_add _) | exact ImpS.refl _ | ((conv => arg 1; whnf); first | exact ImpS.refl _ | (refine ImpS.nil_eq ?_) | (refine ImpS.vnil_eq ?_) | (refine ImpS.row ?_) | (refine ImpS.rowN ?_ ?_) | (refine ImpS.sl_eq ?_) | (refine ImpS.expl rfl ?_)) | (refine row_snoc' ?_) | (apply row_upd) | exact cimp_none | exact cimp_same | exact List.not_mem_nil | exact DImp.refl _) | exact rfl | (refine And.intro ?_ ?_) | exact ImpS.refl _
    · have e : o = xl := by rw [ho, hl, show i.toNat = r.lots.length by omega]
      subst e
      clear t1
      cases o with
      | nil =>
        conv => whnf
        repeat' first | ((first | refine Ob.a ?_ | refine Sp.tt ?_ | refine Sp.ff ?_ | refine Sp.yes ?_ | refine Sp.no ?_ | refine Sp.nyes ?_ | refine Sp.nno ?_);conv=>whnf) | (refine Sp.ne (fun hc => ?_) (fun hc => ?_) <;> (conv=>whnf)) | (refine Sp.dec (fun hc => ?_) (fun hc => ?_) <;> (conv=>whnf)) | (refine Sp.ndec (fun hc => ?_) (fun hc => ?_) <;> (conv=>whnf)) | (refine Sp.mk (fun hc => ?_) (fun hc => ?_) <;> (conv=>whnf)) | (refine Fi.a ?_;conv=>whnf) | (refine Ob.b ?_;conv=>whnf)
        refine Lp.snap [0, 1, 2, 4, 5, 8, 9, 10, 11, 12, 13, 14, 15, 16, 17, 18, 19, 20, 21, 22, 23, 24, 92, 93, 94, 95, 96, 97, 98, 99, 100, 101, 102, 103, 104, 105, 106, 107, 108, 109, 110, 111, 112, 113, 114, 115, 116, 117, 118, 119, 120, 121, 122, 123, 124, 125, 126, 127, 128, 129, 130, 131, 132, 133, 134, 135, 136, 137, 138, 139, 140, 141, 142, 143, 144, 145, 146, 147, 148, 149, 150, 151, 152, 153, 154, 155, 156, 157, 158, 159, 160, 161, 162, 163, 164, 165, 166, 167, 168, 169, 170, 171, 172, 173, 174, 175, 176, 177, 178, 179, 180, 181, 182, 183, 184, 185, 186, 187, 188, 189] 150 ?_
        (conv=>whnf)
        refine LpB.go 190 ({p : Int × List Int // (-1 ≤ p.1 ∧ p.1 < r.weak.length) ∧ p.2 = twL r (p.1 + 1).toNat}) 1 (fun ⟨(k, w), _⟩ nx => bldV [(7, .d (int k))] 13 r.pots (.d (.v (.slice none 0 0))) nx w) (fun p => (p.1.1 + 1).toNat) (⟨(r.weak.length - 1, []), ⟨by simp only; omega, by simp only; omega⟩, (List.eq_nil_of_length_eq_zero (by rw [l2]; simp only; omega)).symm⟩) ?_ ?_ (hl := by rintro ⟨⟨k, w⟩, _⟩; cases w <;> rfl)
        · rintro ⟨⟨k, w⟩, ⟨k0, k1⟩, hwi⟩
          simp only at k0 k1 hwi
          have hwl := l2 (k + 1).toNat
          rw [← hwi] at hwl
          by_cases hk : 0 ≤ k
          · obtain ⟨g1, g2⟩ := hrg2 k.toNat (by omega)
            have hs : twL r (k - 1 + 1).toNat = w ++ [r.pots - 1 - r.weak.getD k.toNat 0] := by
              rw [hwi, show (k - 1 + 1).toNat = k.toNat by omega, t2 k hk k1, show (k + 1).toNat = k.toNat + 1 by omega]
            cases w with
            | nil =>
              conv => whnf
              repeat' first | ((first | refine Ob.a ?_ | refine Sp.tt ?_ | refine Sp.ff ?_ | refine Sp.yes ?_ | refine Sp.no ?_ | refine Sp.nyes ?_ | refine Sp.nno ?_);conv=>whnf) | (refine Sp.ne (fun hc => ?_) (fun hc => ?_) <;> (conv=>whnf)) | (refine Sp.dec (fun hc => ?_) (fun hc => ?_) <;> (conv=>whnf)) | (refine Sp.ndec (fun hc => ?_) (fun hc => ?_) <;> (conv=>whnf)) | (refine Sp.mk (fun hc => ?_) (fun hc => ?_) <;> (conv=>whnf)) | (refine Fi.a ?_;conv=>whnf) | (refine Ob.b ?_;conv=>whnf)
              refine ⟨rfl, ⟨(k - 1, [r.pots - 1 - r.weak.getD k.toNat 0]), ⟨by simp only; omega, by simp only; omega⟩, hs.symm⟩, ?_, by simp only; omega⟩
              repeat' first | (refine Edge.fast ?_) | ((conv=>whnf); first | exact True.intro | (refine And.intro ?_ ?_) | exact rfl | exact Nat.le_of_eq (Nat.zero_add _) | exact ImpS.refl _ | ((conv => arg 1; whnf); first | exact ImpS.refl _ | (refine ImpS.nil_eq ?_) | (refine ImpS.vnil_eq ?_) | (refine ImpS.row ?_) | (refine ImpS.rowN ?_ ?_) | (refine ImpS.sl_eq ?_) | (refine ImpS.expl rfl ?_)) | (refine row_snoc' ?_) | (apply row_upd) | exact cimp_none | exact cimp_same | exact List.not_mem_nil | exact DImp.refl _) | exact rfl | (refine And.intro ?_ ?_) | exact ImpS.refl _
              all_goals first | omega | refine row_first ?_
              repeat' first | (refine Edge.fast ?_) | ((conv=>whnf); first | exact True.intro | (refine And.intro ?_ ?_) | exact rfl | exact Nat.le_of_eq (Nat.zero_add _) | exact ImpS.refl _ | ((conv => arg 1; whnf); first | exact ImpS.refl _ | (refine ImpS.nil_eq ?_) | (refine ImpS.vnil_eq ?_) | (refine ImpS.row ?_) | (refine ImpS.rowN ?_ ?_) | (refine ImpS.sl_eq ?_) | (refine ImpS.expl rfl ?_)) | (refine row_snoc' ?_) | (apply row_upd) | exact cimp_none | exact cimp_same | exact List.not_mem_nil | exact DImp.refl _) | exact rfl | (refine And.intro ?_ ?_) | exact ImpS.refl _
            | cons z w =>
              conv => whnf
              repeat' first | ((first | refine Ob.a ?_ | refine Sp.tt ?_ | refine Sp.ff ?_ | refine Sp.yes ?_ | refine Sp.no ?_ | refine Sp.nyes ?_ | refine Sp.nno ?_);conv=>whnf) | (refine Sp.ne (fun hc => ?_) (fun hc => ?_) <;> (conv=>whnf)) | (refine Sp.dec (fun hc => ?_) (fun hc => ?_) <;> (conv=>whnf)) | (refine Sp.ndec (fun hc => ?_) (fun hc => ?_) <;> (conv=>whnf)) | (refine Sp.mk (fun hc => ?_) (fun hc => ?_) <;> (conv=>whnf)) | (refine Fi.a ?_;conv=>whnf) | (refine Ob.b ?_;conv=>whnf)
              refine ⟨rfl, ⟨(k - 1, z :: w ++ [r.pots - 1 - r.weak.getD k.toNat 0]), ⟨by simp only; omega, by simp only; omega⟩, hs.symm⟩, ?_, by simp only; omega⟩
              repeat' first | (refine Edge.fast ?_) | ((conv=>whnf); first | exact True.intro | (refine And.intro ?_ ?_) | exact rfl | exact Nat.le_of_eq (Nat.zero_add _) | exact ImpS.refl _ | ((conv => arg 1; whnf); first | exact ImpS.refl _ | (refine ImpS.nil_eq ?_) | (refine ImpS.vnil_eq ?_) | (refine ImpS.row ?_) | (refine ImpS.rowN ?_ ?_) | (refine ImpS.sl_eq ?_) | (refine ImpS.expl rfl ?_)) | (refine row_snoc' ?_) | exact MImp.refl _ | exact cimp_none | exact cimp_same | exact List.not_mem_nil | exact DImp.refl _) | exact rfl | (refine And.intro ?_ ?_) | exact ImpS.refl _
              all_goals first | omega | (simp; done) | refine row_snoc' (l := z :: w) ?_
              repeat' first | (refine Edge.fast ?_) | ((conv=>whnf); first | exact True.intro | (refine And.intro ?_ ?_) | exact rfl | exact Nat.le_of_eq (Nat.zero_add _) | exact ImpS.refl _ | ((conv => arg 1; whnf); first | exact ImpS.refl _ | (refine ImpS.nil_eq ?_) | (refine ImpS.vnil_eq ?_) | (refine ImpS.row ?_) | (refine ImpS.rowN ?_ ?_) | (refine ImpS.sl_eq ?_) | (refine ImpS.expl rfl ?_)) | (refine row_snoc' ?_) | (apply row_upd) | exact cimp_none | exact cimp_same | exact List.not_mem_nil | exact DImp.refl _) | exact rfl | (refine And.intro ?_ ?_) | exact ImpS.refl _
          · have e : w = xw := by rw [hwi, hwk, show (k + 1).toNat = 0 by omega]
            subst e
            cases w with
            | nil =>
              conv => whnf
              repeat' first | ((first | refine Ob.a ?_ | refine Sp.tt ?_ | refine Sp.ff ?_ | refine Sp.yes ?_ | refine Sp.no ?_ | refine Sp.nyes ?_ | refine Sp.nno ?_);conv=>whnf) | (refine Sp.ne (fun hc => ?_) (fun hc => ?_) <;> (conv=>whnf)) | (refine Sp.dec (fun hc => ?_) (fun hc => ?_) <;> (conv=>whnf)) | (refine Sp.ndec (fun hc => ?_) (fun hc => ?_) <;> (conv=>whnf)) | (refine Sp.mk (fun hc => ?_) (fun hc => ?_) <;> (conv=>whnf)) | (apply Cl.go;(conv=>whnf); (first | refine Ob.call (a1) ?_ | refine Ob.call (a2) ?_ | refine Ob.call (a3) ?_ | refine Ob.call (a4) ?_ | refine Ob.call (a5) ?_ | refine Ob.call (a6) ?_ | refine Ob.call (a7) ?_ | refine Ob.call (a8) ?_ | refine Ob.call (a9) ?_ | refine Ob.call (a10) ?_ | refine Ob.call (hw) ?_);(conv=>whnf)) | (refine Fi.a ?_;conv=>whnf) | (refine Ob.b ?_;conv=>whnf)
              all_goals exact Lf
            | cons z w =>
              conv => whnf
              repeat' first | ((first | refine Ob.a ?_ | refine Sp.tt ?_ | refine Sp.ff ?_ | refine Sp.yes ?_ | refine Sp.no ?_ | refine Sp.nyes ?_ | refine Sp.nno ?_);conv=>whnf) | (refine Sp.ne (fun hc => ?_) (fun hc => ?_) <;> (conv=>whnf)) | (refine Sp.dec (fun hc => ?_) (fun hc => ?_) <;> (conv=>whnf)) | (refine Sp.ndec (fun hc => ?_) (fun hc => ?_) <;> (conv=>whnf)) | (refine Sp.mk (fun hc => ?_) (fun hc => ?_) <;> (conv=>whnf)) | (apply Cl.go;(conv=>whnf); (first | refine Ob.call (a1) ?_ | refine Ob.call (a2) ?_ | refine Ob.call (a3) ?_ | refine Ob.call (a4) ?_ | refine Ob.call (a5) ?_ | refine Ob.call (a6) ?_ | refine Ob.call (a7) ?_ | refine Ob.call (a8) ?_ | refine Ob.call (a9) ?_ | refine Ob.call (a10) ?_ | refine Ob.call (hw) ?_);(conv=>whnf)) | (refine Fi.a ?_;conv=>whnf) | (refine Ob.b ?_;conv=>whnf)
              all_goals exact Lf
        · exact Lf
      | cons y o =>
        conv => whnf
        repeat' first | ((first | refine Ob.a ?_ | refine Sp.tt ?_ | refine Sp.ff ?_ | refine Sp.yes ?_ | refine Sp.no ?_ | refine Sp.nyes ?_ | refine Sp.nno ?_);conv=>whnf) | (refine Sp.ne (fun hc => ?_) (fun hc => ?_) <;> (conv=>whnf)) | (refine Sp.dec (fun hc => ?_) (fun hc => ?_) <;> (conv=>whnf)) | (refine Sp.ndec (fun hc => ?_) (fun hc => ?_) <;> (conv=>whnf)) | (refine Sp.mk (fun hc => ?_) (fun hc => ?_) <;> (conv=>whnf)) | (refine Fi.a ?_;conv=>whnf) | (refine Ob.b ?_;conv=>whnf)
        refine Lp.snap [0, 1, 2, 4, 5, 8, 9, 10, 11, 12, 13, 14, 15, 16, 17, 18, 19, 20, 21, 22, 23, 24, 92, 93, 94, 95, 96, 97, 98, 99, 100, 101, 102, 103, 104, 105, 106, 107, 108, 109, 110, 111, 112, 113, 114, 115, 116, 117, 118, 119, 120, 121, 122, 123, 124, 125, 126, 127, 128, 129, 130, 131, 132, 133, 134, 135, 136, 137, 138, 139, 140, 141, 142, 143, 144, 145, 146, 147, 148, 149, 150, 151, 152, 153, 154, 155, 156, 157, 158, 159, 160, 161, 162, 163, 164, 165, 166, 167, 168, 169, 170, 171, 172, 173, 174, 175, 176, 177, 178, 179, 180, 181, 182, 183, 184, 185, 186, 187, 188, 189] 150 ?_
        (conv=>whnf)
        refine LpB.go 190 ({p : Int × List Int // (-1 ≤ p.1 ∧ p.1 < r.weak.length) ∧ p.2 = twL r (p.1 + 1).toNat}) 1 (fun ⟨(k, w), _⟩ nx => bldV [(7, .d (int k))] 13 r.pots (.ms 14 2 0 (y :: o).length) nx w) (fun p => (p.1.1 + 1).toNat) (⟨(r.weak.length - 1, []), ⟨by simp only; omega, by simp only; omega⟩, (List.eq_nil_of_length_eq_zero (by rw [l2]; simp only; omega)).symm⟩) ?_ ?_ (hl := by rintro ⟨⟨k, w⟩, _⟩; cases w <;> rfl)
        · rintro ⟨⟨k, w⟩, ⟨k0, k1⟩, hwi⟩
          simp only at k0 k1 hwi
          have hwl := l2 (k + 1).toNat
          rw [← hwi] at hwl
          by_cases hk : 0 ≤ k
          · obtain ⟨g1, g2⟩ := hrg2 k.toNat (by omega)
            have hs : twL r (k - 1 + 1).toNat = w ++ [r.pots - 1 - r.weak.getD k.toNat 0] := by
              rw [hwi, show (k - 1 + 1).toNat = k.toNat by omega, t2 k hk k1, show (k + 1).toNat = k.toNat + 1 by omega]
            cases w with
            | nil =>
              conv => whnf
              repeat' first | ((first | refine Ob.a ?_ | refine Sp.tt ?_ | refine Sp.ff ?_ | refine Sp.yes ?_ | refine Sp.no ?_ | refine Sp.nyes ?_ | refine Sp.nno ?_);conv=>whnf) | (refine Sp.ne (fun hc => ?_) (fun hc => ?_) <;> (conv=>whnf)) | (refine Sp.dec (fun hc => ?_) (fun hc => ?_) <;> (conv=>whnf)) | (refine Sp.ndec (fun hc => ?_) (fun hc => ?_) <;> (conv=>whnf)) | (refine Sp.mk (fun hc => ?_) (fun hc => ?_) <;> (conv=>whnf)) | (refine Fi.a ?_;conv=>whnf) | (refine Ob.b ?_;conv=>whnf)
              refine ⟨rfl, ⟨(k - 1, [r.pots - 1 - r.weak.getD k.toNat 0]), ⟨by simp only; omega, by simp only; omega⟩, hs.symm⟩, ?_, by simp only; omega⟩
              repeat' first | (refine Edge.fast ?_) | ((conv=>whnf); first | exact True.intro | (refine And.intro ?_ ?_) | exact rfl | exact Nat.le_of_eq (Nat.zero_add _) | exact ImpS.refl _ | ((conv => arg 1; whnf); first | exact ImpS.refl _ | (refine ImpS.nil_eq ?_) | (refine ImpS.vnil_eq ?_) | (refine ImpS.row ?_) | (refine ImpS.rowN ?_ ?_) | (refine ImpS.sl_eq ?_) | (refine ImpS.expl rfl ?_)) | (refine row_snoc' ?_) | (apply row_upd) | exact cimp_none | exact cimp_same | exact List.not_mem_nil | exact DImp.refl _) | exact rfl | (refine And.intro ?_ ?_) | exact ImpS.refl _
              all_goals first | omega | refine row_first ?_
              repeat' first | (refine Edge.fast ?_) | ((conv=>whnf); first | exact True.intro | (refine And.intro ?_ ?_) | exact rfl | exact Nat.le_of_eq (Nat.zero_add _) | exact ImpS.refl _ | ((conv => arg 1; whnf); first | exact ImpS.refl _ | (refine ImpS.nil_eq ?_) | (refine ImpS.vnil_eq ?_) | (refine ImpS.row ?_) | (refine ImpS.rowN ?_ ?_) | (refine ImpS.sl_eq ?_) | (refine ImpS.expl rfl ?_)) | (refine row_snoc' ?_) | (apply row_upd) | exact cimp_none | exact cimp_same | exact List.not_mem_nil | exact DImp.refl _) | exact rfl | (refine And.intro ?_ ?_) | exact ImpS.refl _
            | cons z w =>
              conv => whnf
              repeat' first | ((first | refine Ob.a ?_ | refine Sp.tt ?_ | refine Sp.ff ?_ | refine Sp.yes ?_ | refine Sp.no ?_ | refine Sp.nyes ?_ | refine Sp.nno ?_);conv=>whnf) | (refine Sp.ne (fun hc => ?_) (fun hc => ?_) <;> (conv=>whnf)) | (refine Sp.dec (fun hc => ?_) (fun hc => ?_) <;> (conv=>whnf)) | (refine Sp.ndec (fun hc => ?_) (fun hc => ?_) <;> (conv=>whnf)) | (refine Sp.mk (fun hc => ?_) (fun hc => ?_) <;> (conv=>whnf)) | (refine Fi.a ?_;conv=>whnf) | (refine Ob.b ?_;conv=>whnf)
              refine ⟨rfl, ⟨(k - 1, z :: w ++ [r.pots - 1 - r.weak.getD k.toNat 0]), ⟨by simp only; omega, by simp only; omega⟩, hs.symm⟩, ?_, by simp only; omega⟩
              repeat' first | (refine Edge.fast ?_) | ((conv=>whnf); first | exact True.intro | (refine And.intro ?_ ?_) | exact rfl | exact Nat.le_of_eq (Nat.zero_add _) | exact ImpS.refl _ | ((conv => arg 1; whnf); first | exact ImpS.refl _ | (refine ImpS.nil_eq ?_) | (refine ImpS.vnil_eq ?_) | (refine ImpS.row ?_) | (refine ImpS.rowN ?_ ?_) | (refine ImpS.sl_eq ?_) | (refine ImpS.expl rfl ?_)) | (refine row_snoc' ?_) | exact MImp.refl _ | exact cimp_none | exact cimp_same | exact List.not_mem_nil | exact DImp.refl _) | exact rfl | (refine And.intro ?_ ?_) | exact ImpS.refl _
              all_goals first | omega | (simp; done) | refine row_snoc' (l := z :: w) ?_
              repeat' first | (refine Edge.fast ?_) | ((conv=>whnf); first | exact True.intro | (refine And.intro ?_ ?_) | exact rfl | exact Nat.le_of_eq (Nat.zero_add _) | exact ImpS.refl _ | ((conv => arg 1; whnf); first | exact ImpS.refl _ | (refine ImpS.nil_eq ?_) | (refine ImpS.vnil_eq ?_) | (refine ImpS.row ?_) | (refine ImpS.rowN ?_ ?_) | (refine ImpS.sl_eq ?_) | (refine ImpS.expl rfl ?_)) | (refine row_snoc' ?_) | (apply row_upd) | exact cimp_none | exact cimp_same | exact List.not_mem_nil | exact DImp.refl _) | exact rfl | (refine And.intro ?_ ?_) | exact ImpS.refl _
          · have e : w = xw := by rw [hwi, hwk, show (k + 1).toNat = 0 by omega]
            subst e
            cases w with
            | nil =>
              conv => whnf
              repeat' first | ((first | refine Ob.a ?_ | refine Sp.tt ?_ | refine Sp.ff ?_ | refine Sp.yes ?_ | refine Sp.no ?_ | refine Sp.nyes ?_ | refine Sp.nno ?_);conv=>whnf) | (refine Sp.ne (fun hc => ?_) (fun hc => ?_) <;> (conv=>whnf)) | (refine Sp.dec (fun hc => ?_) (fun hc => ?_) <;> (conv=>whnf)) | (refine Sp.ndec (fun hc => ?_) (fun hc => ?_) <;> (conv=>whnf)) | (refine Sp.mk (fun hc => ?_) (fun hc => ?_) <;> (conv=>whnf)) | (apply Cl.go;(conv=>whnf); (first | refine Ob.call (a1) ?_ | refine Ob.call (a2) ?_ | refine Ob.call (a3) ?_ | refine Ob.call (a4) ?_ | refine Ob.call (a5) ?_ | refine Ob.call (a6) ?_ | refine Ob.call (a7) ?_ | refine Ob.call (a8) ?_ | refine Ob.call (a9) ?_ | refine Ob.call (a10) ?_ | refine Ob.call (hw) ?_);(conv=>whnf)) | (refine Fi.a ?_;conv=>whnf) | (refine Ob.b ?_;conv=>whnf)
              all_goals exact Lf
            | cons z w =>
              conv => whnf
              repeat' first | ((first | refine Ob.a ?_ | refine Sp.tt ?_ | refine Sp.ff ?_ | refine Sp.yes ?_ | refine Sp.no ?_ | refine Sp.nyes ?_ | refine Sp.nno ?_);conv=>whnf) | (refine Sp.ne (fun hc => ?_) (fun hc => ?_) <;> (conv=>whnf)) | (refine Sp.dec (fun hc => ?_) (fun hc => ?_) <;> (conv=>whnf)) | (refine Sp.ndec (fun hc => ?_) (fun hc => ?_) <;> (conv=>whnf)) | (refine Sp.mk (fun hc => ?_) (fun hc => ?_) <;> (conv=>whnf)) | (apply Cl.go;(conv=>whnf); (first | refine Ob.call (a1) ?_ | refine Ob.call (a2) ?_ | refine Ob.call (a3) ?_ | refine Ob.call (a4) ?_ | refine Ob.call (a5) ?_ | refine Ob.call (a6) ?_ | refine Ob.call (a7) ?_ | refine Ob.call (a8) ?_ | refine Ob.call (a9) ?_ | refine Ob.call (a10) ?_ | refine Ob.call (hw) ?_);(conv=>whnf)) | (refine Fi.a ?_;conv=>whnf) | (refine Ob.b ?_;conv=>whnf)
              all_goals exact Lf
        · exact Lf
  · exact Lf
end Go.Px.Try
