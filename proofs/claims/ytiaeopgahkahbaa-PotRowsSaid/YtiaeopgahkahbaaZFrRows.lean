/- The statement PotRows: which rows are valid, how many pots lots call back, and which weak pots no lot has, are what the definitions say, or the error. Conditions: none. -/
import Derived.Test.YtiaeopgahkahbaaJ6
import Derived.Test.YtiaeopgahkahbaaRows
set_option linter.unusedVariables false
set_option linter.unusedSimpArgs false
/-! LwRows -/
namespace Go.Px.Try
open Go Go.Proofs Go.Px
set_option maxRecDepth 100000
theorem unknownRR_len (r : Row) : (unknownRR r).1.length ≤ r.weak.length := by
  unfold unknownRR
  split
  · simp
  · exact List.length_filter_le ..
set_option maxHeartbeats 16000000 in
theorem PotRows_spec (r : Row) (l : List Int) (hl : l.length ≤ 9223372036854775807) : Fn Try.prog 3 [rowD r, ints l] (bool true) := by
  have hw := Works_spec
  have c1 := long_spec l
  by_cases h1 : notGreat r
  case neg =>
    have hg := great_yes h1
    refine Fn.of_ex (cuts := []) tys hM Try.func3 rfl Try.call3 rfl ?_
    show exC Try.prog T [] _ false none 0 (entry 70 [rowD r, ints l]) (finQ T [ResultVar.tmp 4] _)
    conv => whnf
    repeat' first | ((first | refine Ob.a ?_ | refine Sp.tt ?_ | refine Sp.ff ?_ | refine Sp.yes ?_ | refine Sp.no ?_ | refine Sp.nyes ?_ | refine Sp.nno ?_);conv=>whnf) | (refine Sp.ne (fun hc => ?_) (fun hc => ?_) <;> (conv=>whnf)) | (refine Sp.dec (fun hc => ?_) (fun hc => ?_) <;> (conv=>whnf)) | (refine Sp.ndec (fun hc => ?_) (fun hc => ?_) <;> (conv=>whnf)) | (refine Sp.mk (fun hc => ?_) (fun hc => ?_) <;> (conv=>whnf)) | (apply Cl.go;(conv=>whnf); (first | refine Ob.call (hg) ?_ | refine Ob.call (c1) ?_ | refine Ob.call (hw) ?_);(conv=>whnf)) | (refine Fi.a ?_;conv=>whnf) | (refine Ob.b ?_;conv=>whnf)
    all_goals exact Lf
  have hg := great_no h1
  by_cases h2 : 20 < (l.length : Int)
  · rw [decide_eq_true h2] at c1
    refine Fn.of_ex (cuts := []) tys hM Try.func3 rfl Try.call3 rfl ?_
    show exC Try.prog T [] _ false none 0 (entry 70 [rowD r, ints l]) (finQ T [ResultVar.tmp 4] _)
    conv => whnf
    repeat' first | ((first | refine Ob.a ?_ | refine Sp.tt ?_ | refine Sp.ff ?_ | refine Sp.yes ?_ | refine Sp.no ?_ | refine Sp.nyes ?_ | refine Sp.nno ?_);conv=>whnf) | (refine Sp.ne (fun hc => ?_) (fun hc => ?_) <;> (conv=>whnf)) | (refine Sp.dec (fun hc => ?_) (fun hc => ?_) <;> (conv=>whnf)) | (refine Sp.ndec (fun hc => ?_) (fun hc => ?_) <;> (conv=>whnf)) | (refine Sp.mk (fun hc => ?_) (fun hc => ?_) <;> (conv=>whnf)) | (apply Cl.go;(conv=>whnf); (first | refine Ob.call (hg) ?_ | refine Ob.call (c1) ?_ | refine Ob.call (hw) ?_);(conv=>whnf)) | (refine Fi.a ?_;conv=>whnf) | (refine Ob.b ?_;conv=>whnf)
    all_goals exact Lf
  rw [decide_eq_false h2] at c1
  obtain ⟨g1, g2⟩ := h1
  have k1 : r.lots.length < 1000000 := by omega
  have k2 : r.weak.length < 1000000 := by omega
  have a1 := CheckLotsP_spec r l k1 k2 (by omega)
  have a2 := CheckLots_spec r l k1 k2 (by omega)
  have a3 := UnknownP_spec r k1 k2
  have a4 := Unknown_spec r k1 k2
  have a5 := CheckRowP_spec r k1 k2
  have a6 := CheckRow_spec r k1 k2
  have a7 := ints_same (unknownRR r).1 (by have := unknownRR_len r; omega)
  generalize checkLotsR r l = x1 at *
  generalize unknownRR r = x2 at *
  generalize checkRow r = x3 at *
  refine Fn.of_ex (cuts := []) tys hM Try.func3 rfl Try.call3 rfl ?_
  show exC Try.prog T [] _ false none 0 (entry 70 [rowD r, ints l]) (finQ T [ResultVar.tmp 4] _)
  conv => whnf
  repeat' first | ((first | refine Ob.a ?_ | refine Sp.tt ?_ | refine Sp.ff ?_ | refine Sp.yes ?_ | refine Sp.no ?_ | refine Sp.nyes ?_ | refine Sp.nno ?_);conv=>whnf) | (refine Sp.ne (fun hc => ?_) (fun hc => ?_) <;> (conv=>whnf)) | (refine Sp.dec (fun hc => ?_) (fun hc => ?_) <;> (conv=>whnf)) | (refine Sp.ndec (fun hc => ?_) (fun hc => ?_) <;> (conv=>whnf)) | (refine Sp.mk (fun hc => ?_) (fun hc => ?_) <;> (conv=>whnf)) | (apply Cl.go;(conv=>whnf); (first | refine Ob.call (hg) ?_ | refine Ob.call (c1) ?_ | refine Ob.call (a1) ?_ | refine Ob.call (a2) ?_ | refine Ob.call (a3) ?_ | refine Ob.call (a4) ?_ | refine Ob.call (a5) ?_ | refine Ob.call (a6) ?_ | refine Ob.call (a7) ?_ | refine Ob.call (hw) ?_);(conv=>whnf)) | (refine Fi.a ?_;conv=>whnf) | (refine Ob.b ?_;conv=>whnf)
  all_goals exact Lf
theorem lotsR_len (r : Row) : (lotsR r).1.length ≤ r.lots.length := by
  unfold lotsR
  split
  · simp
  · rename_i h
    exact (head_in (rowError_ok.1 (Decidable.of_not_not h)).2).2.1
theorem blameLR_len (r : Row) : (blameLR r).1.length ≤ r.lots.length := by
  unfold blameLR
  split
  · simp
  · simp
set_option maxHeartbeats 16000000 in
theorem PotLots_spec (r : Row) : Fn Try.prog 4 [rowD r] (bool true) := by
  have hw := Works_spec
  by_cases h1 : notGreat r
  case neg =>
    have hg := great_yes h1
    refine Fn.of_ex (cuts := []) tys hM Try.func4 rfl Try.call4 rfl ?_
    show exC Try.prog T [] _ false none 0 (entry 79 [rowD r]) (finQ T [ResultVar.tmp 2] _)
    conv => whnf
    repeat' first | ((first | refine Ob.a ?_ | refine Sp.tt ?_ | refine Sp.ff ?_ | refine Sp.yes ?_ | refine Sp.no ?_ | refine Sp.nyes ?_ | refine Sp.nno ?_);conv=>whnf) | (refine Sp.ne (fun hc => ?_) (fun hc => ?_) <;> (conv=>whnf)) | (refine Sp.dec (fun hc => ?_) (fun hc => ?_) <;> (conv=>whnf)) | (refine Sp.ndec (fun hc => ?_) (fun hc => ?_) <;> (conv=>whnf)) | (refine Sp.mk (fun hc => ?_) (fun hc => ?_) <;> (conv=>whnf)) | (apply Cl.go;(conv=>whnf); (first | refine Ob.call (hg) ?_ | refine Ob.call (hw) ?_);(conv=>whnf)) | (refine Fi.a ?_;conv=>whnf) | (refine Ob.b ?_;conv=>whnf)
    all_goals exact Lf
  have hg := great_no h1
  obtain ⟨g1, g2⟩ := h1
  have k1 : r.lots.length < 1000000 := by omega
  have k2 : r.weak.length < 1000000 := by omega
  have a1 := LeastP_spec r k1 k2
  have a2 := Least_spec r k1 k2
  have a3 := LotsP_spec r k1 k2
  have a4 := LotsR_spec r k1 k2
  have a5 := BlameP_spec r k1 k2
  have a6 := Blame_spec r k1 k2
  rw [leastPR_eq] at a1
  rw [lotsPR_eq] at a3
  rw [blamePR_eq] at a5
  have a7 := ints_same (lotsR r).1 (by have := lotsR_len r; omega)
  have a8 := ints_same (blameLR r).1 (by have := blameLR_len r; omega)
  generalize leastR r = x1 at *
  generalize lotsR r = x2 at *
  generalize blameLR r = x3 at *
  refine Fn.of_ex (cuts := []) tys hM Try.func4 rfl Try.call4 rfl ?_
  show exC Try.prog T [] _ false none 0 (entry 79 [rowD r]) (finQ T [ResultVar.tmp 2] _)
  conv => whnf
  repeat' first | ((first | refine Ob.a ?_ | refine Sp.tt ?_ | refine Sp.ff ?_ | refine Sp.yes ?_ | refine Sp.no ?_ | refine Sp.nyes ?_ | refine Sp.nno ?_);conv=>whnf) | (refine Sp.ne (fun hc => ?_) (fun hc => ?_) <;> (conv=>whnf)) | (refine Sp.dec (fun hc => ?_) (fun hc => ?_) <;> (conv=>whnf)) | (refine Sp.ndec (fun hc => ?_) (fun hc => ?_) <;> (conv=>whnf)) | (refine Sp.mk (fun hc => ?_) (fun hc => ?_) <;> (conv=>whnf)) | (apply Cl.go;(conv=>whnf); (first | refine Ob.call (hg) ?_ | refine Ob.call (a1) ?_ | refine Ob.call (a2) ?_ | refine Ob.call (a3) ?_ | refine Ob.call (a4) ?_ | refine Ob.call (a5) ?_ | refine Ob.call (a6) ?_ | refine Ob.call (a7) ?_ | refine Ob.call (a8) ?_ | refine Ob.call (hw) ?_);(conv=>whnf)) | (refine Fi.a ?_;conv=>whnf) | (refine Ob.b ?_;conv=>whnf)
  all_goals exact Lf
set_option maxHeartbeats 16000000 in
theorem PotPrices_spec (r : Row) (l : List Int) (hl : l.length ≤ 9223372036854775807) : Fn Try.prog 5 [rowD r, ints l] (bool true) := by
  have hw := Works_spec
  have c1 := long_spec l
  by_cases h1 : notGreat r
  case neg =>
    have hg := great_yes h1
    refine Fn.of_ex (cuts := []) tys hM Try.func5 rfl Try.call5 rfl ?_
    show exC Try.prog T [] _ false none 0 (entry 85 [rowD r, ints l]) (finQ T [ResultVar.tmp 4] _)
    conv => whnf
    repeat' first | ((first | refine Ob.a ?_ | refine Sp.tt ?_ | refine Sp.ff ?_ | refine Sp.yes ?_ | refine Sp.no ?_ | refine Sp.nyes ?_ | refine Sp.nno ?_);conv=>whnf) | (refine Sp.ne (fun hc => ?_) (fun hc => ?_) <;> (conv=>whnf)) | (refine Sp.dec (fun hc => ?_) (fun hc => ?_) <;> (conv=>whnf)) | (refine Sp.ndec (fun hc => ?_) (fun hc => ?_) <;> (conv=>whnf)) | (refine Sp.mk (fun hc => ?_) (fun hc => ?_) <;> (conv=>whnf)) | (apply Cl.go;(conv=>whnf); (first | refine Ob.call (hg) ?_ | refine Ob.call (c1) ?_ | refine Ob.call (hw) ?_);(conv=>whnf)) | (refine Fi.a ?_;conv=>whnf) | (refine Ob.b ?_;conv=>whnf)
    all_goals exact Lf
  have hg := great_no h1
  by_cases h2 : 20 < (l.length : Int)
  · rw [decide_eq_true h2] at c1
    refine Fn.of_ex (cuts := []) tys hM Try.func5 rfl Try.call5 rfl ?_
    show exC Try.prog T [] _ false none 0 (entry 85 [rowD r, ints l]) (finQ T [ResultVar.tmp 4] _)
    conv => whnf
    repeat' first | ((first | refine Ob.a ?_ | refine Sp.tt ?_ | refine Sp.ff ?_ | refine Sp.yes ?_ | refine Sp.no ?_ | refine Sp.nyes ?_ | refine Sp.nno ?_);conv=>whnf) | (refine Sp.ne (fun hc => ?_) (fun hc => ?_) <;> (conv=>whnf)) | (refine Sp.dec (fun hc => ?_) (fun hc => ?_) <;> (conv=>whnf)) | (refine Sp.ndec (fun hc => ?_) (fun hc => ?_) <;> (conv=>whnf)) | (refine Sp.mk (fun hc => ?_) (fun hc => ?_) <;> (conv=>whnf)) | (apply Cl.go;(conv=>whnf); (first | refine Ob.call (hg) ?_ | refine Ob.call (c1) ?_ | refine Ob.call (hw) ?_);(conv=>whnf)) | (refine Fi.a ?_;conv=>whnf) | (refine Ob.b ?_;conv=>whnf)
    all_goals exact Lf
  rw [decide_eq_false h2] at c1
  obtain ⟨g1, g2⟩ := h1
  have k1 : r.lots.length < 1000000 := by omega
  have k2 : r.weak.length < 1000000 := by omega
  have a1 := CheckPricesP_spec r l k1 k2 (by omega)
  have a2 := CheckPrices_spec r l k1 k2 (by omega)
  have a3 := PricesP_spec r k1 k2
  have a4 := Least_spec r k1 k2
  rw [← leastPR_eq] at a4
  by_cases he : rowError r = 0
  · have hs := sound_of he
    obtain ⟨p1, p2, p3⟩ := hs.prices
    have hpl := p2.len
    rw [p1] at a3
    rw [hs.least] at a4
    have a5 := CheckPrices_spec r (pricesP r) k1 k2 (by omega)
    rw [p3] at a5
    have c2 := long_spec (pricesP r)
    rw [decide_eq_false (by omega)] at c2
    generalize checkPricesR r l = x1 at *
    generalize pricesP r = p at *
    generalize optN r = v at *
    refine Fn.of_ex (cuts := []) tys hM Try.func5 rfl Try.call5 rfl ?_
    show exC Try.prog T [] _ false none 0 (entry 85 [rowD r, ints l]) (finQ T [ResultVar.tmp 4] _)
    conv => whnf
    repeat' first | ((first | refine Ob.a ?_ | refine Sp.tt ?_ | refine Sp.ff ?_ | refine Sp.yes ?_ | refine Sp.no ?_ | refine Sp.nyes ?_ | refine Sp.nno ?_);conv=>whnf) | (refine Sp.ne (fun hc => ?_) (fun hc => ?_) <;> (conv=>whnf)) | (refine Sp.dec (fun hc => ?_) (fun hc => ?_) <;> (conv=>whnf)) | (refine Sp.ndec (fun hc => ?_) (fun hc => ?_) <;> (conv=>whnf)) | (refine Sp.mk (fun hc => ?_) (fun hc => ?_) <;> (conv=>whnf)) | (apply Cl.go;(conv=>whnf); (first | refine Ob.call (hg) ?_ | refine Ob.call (c1) ?_ | refine Ob.call (c2) ?_ | refine Ob.call (a1) ?_ | refine Ob.call (a2) ?_ | refine Ob.call (a3) ?_ | refine Ob.call (a4) ?_ | refine Ob.call (a5) ?_ | refine Ob.call (hw) ?_);(conv=>whnf)) | (refine Fi.a ?_;conv=>whnf) | (refine Ob.b ?_;conv=>whnf)
    all_goals exact Lf
  · have p1 : pricesPR r = ([], rowError r) := if_pos he
    have p2 : leastPR r = (0, rowError r) := if_pos he
    rw [p1] at a3
    rw [p2] at a4
    have c2 := long_spec []
    rw [decide_eq_false (by simp)] at c2
    generalize checkPricesR r l = x1 at *
    refine Fn.of_ex (cuts := []) tys hM Try.func5 rfl Try.call5 rfl ?_
    show exC Try.prog T [] _ false none 0 (entry 85 [rowD r, ints l]) (finQ T [ResultVar.tmp 4] _)
    conv => whnf
    repeat' first | ((first | refine Ob.a ?_ | refine Sp.tt ?_ | refine Sp.ff ?_ | refine Sp.yes ?_ | refine Sp.no ?_ | refine Sp.nyes ?_ | refine Sp.nno ?_);conv=>whnf) | (refine Sp.ne (fun hc => ?_) (fun hc => ?_) <;> (conv=>whnf)) | (refine Sp.dec (fun hc => ?_) (fun hc => ?_) <;> (conv=>whnf)) | (refine Sp.ndec (fun hc => ?_) (fun hc => ?_) <;> (conv=>whnf)) | (refine Sp.mk (fun hc => ?_) (fun hc => ?_) <;> (conv=>whnf)) | (apply Cl.go;(conv=>whnf); (first | refine Ob.call (hg) ?_ | refine Ob.call (c1) ?_ | refine Ob.call (c2) ?_ | refine Ob.call (a1) ?_ | refine Ob.call (a2) ?_ | refine Ob.call (a3) ?_ | refine Ob.call (a4) ?_ | refine Ob.call (hw) ?_);(conv=>whnf)) | (refine Fi.a ?_;conv=>whnf) | (refine Ob.b ?_;conv=>whnf)
    all_goals exact Lf
theorem apF_len (r : Row) : (apF r none r.weak).length ≤ r.weak.length := (apF_sub r r.weak none).length_le
theorem apartR_len (r : Row) : (apartR r).1.length ≤ r.weak.length := by
  unfold apartR
  split
  · simp
  · rename_i h
    rw [apart_eq (checkRow_ok.1 (Decidable.of_not_not h))]
    exact apF_len r
theorem fellowsR_len (r : Row) (a : Int) : (fellowsR r a).1.length ≤ 40 := by
  unfold fellowsR
  split
  · simp
  · rename_i h
    have := (checkRow_ok.1 (Decidable.of_not_not h)).p40
    split
    · simp
    · exact Nat.le_trans (lst_length_le _ _) (by omega)
theorem Sound.few {r : Row} (h : Sound r) : ∃ S, E r S ∧ fewestPR r = (lst r.lots.length S, 0) ∧ (lst r.lots.length S).length = fewestR r ∧ (lst r.lots.length S).length = (apF r none r.weak).length := by
  obtain ⟨S, hS, h1, h2⟩ := fewest_ok h.ok h.ex
  have h3 := fewestR_eq h.ok h.ex
  rw [h1] at h2 h3
  exact ⟨S, hS, by unfold fewestPR; rw [if_neg (not_not_intro h.err), h1], h3, h2⟩
set_option maxHeartbeats 16000000 in
theorem PotAparts_spec (r : Row) (l : List Int) (w : Int) (hl : l.length ≤ 9223372036854775807) : Fn Try.prog 6 [rowD r, ints l, int w] (bool true) := by
  have hw := Works_spec
  have c1 := long_spec l
  by_cases h1 : notGreat r
  case neg =>
    have hg := great_yes h1
    refine Fn.of_ex (cuts := []) tys hM Try.func6 rfl Try.call6 rfl ?_
    show exC Try.prog T [] _ false none 0 (entry 120 [rowD r, ints l, int w]) (finQ T [ResultVar.tmp 6] _)
    conv => whnf
    repeat' first | ((first | refine Ob.a ?_ | refine Sp.tt ?_ | refine Sp.ff ?_ | refine Sp.yes ?_ | refine Sp.no ?_ | refine Sp.nyes ?_ | refine Sp.nno ?_);conv=>whnf) | (refine Sp.ne (fun hc => ?_) (fun hc => ?_) <;> (conv=>whnf)) | (refine Sp.dec (fun hc => ?_) (fun hc => ?_) <;> (conv=>whnf)) | (refine Sp.ndec (fun hc => ?_) (fun hc => ?_) <;> (conv=>whnf)) | (refine Sp.mk (fun hc => ?_) (fun hc => ?_) <;> (conv=>whnf)) | (apply Cl.go;(conv=>whnf); (first | refine Ob.call (hg) ?_ | refine Ob.call (c1) ?_ | refine Ob.call (hw) ?_);(conv=>whnf)) | (refine Fi.a ?_;conv=>whnf) | (refine Ob.b ?_;conv=>whnf)
    all_goals exact Lf
  have hg := great_no h1
  by_cases h2 : 20 < (l.length : Int)
  · rw [decide_eq_true h2] at c1
    refine Fn.of_ex (cuts := []) tys hM Try.func6 rfl Try.call6 rfl ?_
    show exC Try.prog T [] _ false none 0 (entry 120 [rowD r, ints l, int w]) (finQ T [ResultVar.tmp 6] _)
    conv => whnf
    repeat' first | ((first | refine Ob.a ?_ | refine Sp.tt ?_ | refine Sp.ff ?_ | refine Sp.yes ?_ | refine Sp.no ?_ | refine Sp.nyes ?_ | refine Sp.nno ?_);conv=>whnf) | (refine Sp.ne (fun hc => ?_) (fun hc => ?_) <;> (conv=>whnf)) | (refine Sp.dec (fun hc => ?_) (fun hc => ?_) <;> (conv=>whnf)) | (refine Sp.ndec (fun hc => ?_) (fun hc => ?_) <;> (conv=>whnf)) | (refine Sp.mk (fun hc => ?_) (fun hc => ?_) <;> (conv=>whnf)) | (apply Cl.go;(conv=>whnf); (first | refine Ob.call (hg) ?_ | refine Ob.call (c1) ?_ | refine Ob.call (hw) ?_);(conv=>whnf)) | (refine Fi.a ?_;conv=>whnf) | (refine Ob.b ?_;conv=>whnf)
    all_goals exact Lf
  rw [decide_eq_false h2] at c1
  obtain ⟨g1, g2⟩ := h1
  have k1 : r.lots.length < 1000000 := by omega
  have k2 : r.weak.length < 1000000 := by omega
  have a1 := ApartP_spec r k1 k2
  have a2 := Apart_spec r k1 k2
  have a3 := FellowsP_spec r w k1 k2
  have a4 := Fellows_spec r w k1 k2
  have a5 := FewestP_spec r k1 k2
  have a6 := RowError_spec r k1 k2
  have a7 := CheckApartP_spec r l k1 k2 (by omega)
  have a8 := CheckApart_spec r l k1 k2 (by omega)
  have b1 := ints_same (apartR r).1 (by have := apartR_len r; omega)
  have b2 := ints_same (fellowsR r w).1 (by have := fellowsR_len r w; omega)
  by_cases he : rowError r = 0
  · have hs := sound_of he
    obtain ⟨S, q1, q2, q3, _⟩ := hs.few
    have hll := lst_length_le r.lots.length S
    have a9 := FewestOf_spec r hs.ok
    rw [q2] at a5
    rw [he] at a6
    have b3 := CheckLots_spec r (lst r.lots.length S) k1 k2 (by omega)
    rw [checkLots_E hs.ok q1] at b3
    have c2 := long_spec (lst r.lots.length S)
    rw [decide_eq_false (by omega)] at c2
    generalize fellowsR r w = x1 at *
    generalize apartR r = x2 at *
    generalize checkApartR r l = x3 at *
    generalize totR r S = x4 at *
    generalize lst r.lots.length S = f at *
    generalize fewestR r = n at *
    have q5 : (((f, (0 : Int)).1.length : Nat) : Int) = (n : Int) := by show (f.length : Int) = n; omega
    refine Fn.of_ex (cuts := []) tys hM Try.func6 rfl Try.call6 rfl ?_
    show exC Try.prog T [] _ false none 0 (entry 120 [rowD r, ints l, int w]) (finQ T [ResultVar.tmp 6] _)
    conv => whnf
    repeat' first | ((first | refine Ob.a ?_ | refine Sp.tt ?_ | refine Sp.ff ?_ | refine Sp.yes ?_ | refine Sp.no ?_ | refine Sp.nyes ?_ | refine Sp.nno ?_);conv=>whnf) | (refine Sp.ne (fun hc => ?_) (fun hc => ?_) <;> (conv=>whnf)) | (refine Sp.dec (fun hc => ?_) (fun hc => ?_) <;> (conv=>whnf)) | (refine Sp.ndec (fun hc => ?_) (fun hc => ?_) <;> (conv=>whnf)) | (refine Sp.mk (fun hc => ?_) (fun hc => ?_) <;> (conv=>whnf)) | (apply Cl.go;(conv=>whnf); (first | refine Ob.call (hg) ?_ | refine Ob.call (c1) ?_ | refine Ob.call (c2) ?_ | refine Ob.call (a1) ?_ | refine Ob.call (a2) ?_ | refine Ob.call (a3) ?_ | refine Ob.call (a4) ?_ | refine Ob.call (a5) ?_ | refine Ob.call (a6) ?_ | refine Ob.call (a7) ?_ | refine Ob.call (a8) ?_ | refine Ob.call (a9) ?_ | refine Ob.call (b1) ?_ | refine Ob.call (b2) ?_ | refine Ob.call (b3) ?_ | refine Ob.call (hw) ?_);(conv=>whnf)) | (refine Fi.a ?_;conv=>whnf) | (refine Ob.b ?_;conv=>whnf)
    all_goals exact Lf
  · have p1 : fewestPR r = ([], rowError r) := if_pos he
    rw [p1] at a5
    have c2 := long_spec []
    rw [decide_eq_false (by simp)] at c2
    generalize fellowsR r w = x1 at *
    generalize apartR r = x2 at *
    generalize checkApartR r l = x3 at *
    refine Fn.of_ex (cuts := []) tys hM Try.func6 rfl Try.call6 rfl ?_
    show exC Try.prog T [] _ false none 0 (entry 120 [rowD r, ints l, int w]) (finQ T [ResultVar.tmp 6] _)
    conv => whnf
    repeat' first | ((first | refine Ob.a ?_ | refine Sp.tt ?_ | refine Sp.ff ?_ | refine Sp.yes ?_ | refine Sp.no ?_ | refine Sp.nyes ?_ | refine Sp.nno ?_);conv=>whnf) | (refine Sp.ne (fun hc => ?_) (fun hc => ?_) <;> (conv=>whnf)) | (refine Sp.dec (fun hc => ?_) (fun hc => ?_) <;> (conv=>whnf)) | (refine Sp.ndec (fun hc => ?_) (fun hc => ?_) <;> (conv=>whnf)) | (refine Sp.mk (fun hc => ?_) (fun hc => ?_) <;> (conv=>whnf)) | (apply Cl.go;(conv=>whnf); (first | refine Ob.call (hg) ?_ | refine Ob.call (c1) ?_ | refine Ob.call (c2) ?_ | refine Ob.call (a1) ?_ | refine Ob.call (a2) ?_ | refine Ob.call (a3) ?_ | refine Ob.call (a4) ?_ | refine Ob.call (a5) ?_ | refine Ob.call (a6) ?_ | refine Ob.call (a7) ?_ | refine Ob.call (a8) ?_ | refine Ob.call (b1) ?_ | refine Ob.call (b2) ?_ | refine Ob.call (hw) ?_);(conv=>whnf)) | (refine Fi.a ?_;conv=>whnf) | (refine Ob.b ?_;conv=>whnf)
    all_goals exact Lf
end Go.Px.Try

namespace Go.Proofs.Ytiaeopgahkahbaa.potRowsDone
open Go.ChangeShapes Go.WideShapes Go.ChangeAt Go.RowKit
open Go.Px
open Go.Px.Try (own laidOut)
set_option maxRecDepth 100000 in
theorem lifted (os : Os) (started : os.Started) (H : Type) (enc : TypeId × Value → H) :
    ReturnsInHanded {} Try.checked os 3 .any (Rows.potRowsSpec.pre6 enc Try.prog Try.f3 Rows.potRowsRow.domain false) (Rows.potRowsSpec.post enc Try.prog Try.f3 false true false false) := by
  refine returnsInHanded_of_change (C := Try.checked) own started (by kernel_rfl) Try.func3
    (ChangeSpec.witness6 (enc := enc) (C := Try.checked) false ⟨#[], #[.agg #[.int .i64 0, .slice none 0 0, .slice none 0 0], .slice none 0 0], []⟩ 8 (by kernel_rfl) (by kernel_rfl) (by kernel_rfl) (by kernel_rfl)) ?_
  intro W base args ds gs before hval0 hW hcnd _
  have hval : ∀ (j : Nat) t v, Try.f3.params[j]? = some t → args[j]? = some v → Value.okWide Try.prog W .any base t v := hval0
  have hW' := hW
  obtain ⟨p, q, hA0, hV, rfl, hfz, hnd⟩ := hW
  have hA : DataW.TrodAll enc Try.prog W 0 (fun _ => true) true Try.f3.params.toList args.toList ds p := hA0
  rw [Try.params3] at hA hval
  obtain ⟨v0, vs0, d0, ds0, p0, q0, hargs, rfl, rfl, h0, r0⟩ := trodAll_cons hA
  obtain ⟨v1, vs1, d1, ds1, p1, q1, rfl, rfl, rfl, h1, r1⟩ := trodAll_cons r0
  obtain ⟨rfl, rfl, rfl⟩ := trodAll_nil r1
  obtain rfl : args = #[v0, v1] := by cases args; simp_all
  obtain ⟨rfl, rfl⟩ := trodVars_none hV
  have lt0 : ∀ x ∈ p0, x.block < W.heap.size := by have k := h0; obtain ⟨m, hm⟩ := k; exact DataW.trod_lt m _ _ _ hm
  obtain ⟨x0, g0, e0⟩ := Go.Px.Try.row_arg h0 (hval 0 25 v0 rfl rfl)
  have lt1 : ∀ x ∈ p1, x.block < W.heap.size := by have k := h1; obtain ⟨m, hm⟩ := k; exact DataW.trod_lt m _ _ _ hm
  obtain ⟨x1, g1, e1⟩ := Go.Px.Try.ints_arg h1 (hval 1 23 v1 rfl rfl)
  clear hA0 hval0
  refine ((Go.Px.Try.PotRows_spec x0 x1 (Nat.le_trans g1.2 (by decide))).2 (All W) W [v0, v1] (fun _ h => h) ⟨e0, e1, trivial⟩).mono fun e W' ⟨v, S', he, hr, _, _, bel⟩ => ?_
  obtain rfl : v = .bool true := hr
  subst he
  exact ⟨_, rfl, _, _, _, [], _, [], hW', trodAll_mk1 (shut_bool Try.underlying4 _), (trodAll_cons_mk (Below.trod laidOut (by kernel_rfl) (of_decide_eq_true (by kernel_rfl)) h0 bel lt0) (trodAll_cons_mk (Below.trod laidOut (by kernel_rfl) (of_decide_eq_true (by kernel_rfl)) h1 bel lt1) trodAll_mk0)), rfl, bel.frame _, fun h => by cases h⟩
theorem over : Rows.potRowsRow.holds Try.pinned (OpenSpec.ofChange Rows.potRowsSpec) :=
  OpenClaim.holds_of_wide 3 Try.f3 rfl rfl rfl rfl rfl rfl rfl ⟨rfl, rfl, rfl, rfl, rfl⟩ rfl rfl rfl rfl rfl (by kernel_rfl) Try.func3 (by kernel_rfl)
    (of_decide_eq_true (by kernel_rfl)) (by unfold Func.isWrapper; first | (rw [if_pos (by decide +kernel)]; kernel_rfl) | (rw [if_neg (by decide +kernel)]; exact ⟨rfl, rfl⟩))
    (fun os started H enc _ => lifted os started H enc)
theorem proved : Rows.PotRowsSaid := over
#print axioms proved
end Go.Proofs.Ytiaeopgahkahbaa.potRowsDone
