/- Texts of this proof, joined (Bp12, Bp13, Bm13, Bp14, Bp15, Bp16, Bp17, Law1, Law2, Law3, FrB): a small program logic over the model, and what functions of the program give. No statement of the seat is proved here. -/
import Derived.Test.YtofcdpkanjiefaaJ5
import Derived.Test.YtofcdpkanjiefaaJ3
set_option linter.unusedVariables false
set_option linter.unusedSimpArgs false

/-! Bp12 -/
namespace Go.Px.Try
open Go Go.Proofs Go.Px
set_option maxRecDepth 100000
theorem nrC_ok {R : List Int} (hR : RdOk R) {p : Nat} (hp : p < R.length) : CvOk R (nrC R p) ∧ cost R (nrC R p) = nearF R p := by
  have h12 := hR.l12
  have hAl : (nrA R p).length = p + 1 := by unfold nrA; rw [List.length_take]; omega
  have hA0 : nrA R p ≠ [] := fun e => by rw [e] at hAl; simp at hAl
  have hAs := stp_ok (L := nrA R p) (by omega)
  obtain ⟨a1, a2, a3, a4, a5⟩ := rise_ok hA0 ⟨hAs.1, hAs.2⟩
  have hAi := a5.uniq (isoS_ok (nrA R p))
  have hRe : R = nrA R p ++ R.drop (p + 1) := (List.take_append_drop _ _).symm
  have hAm : ∀ y ∈ riC (nrA R p) (stpL (nrA R p)), 0 ≤ y ∧ y ≤ 1000 := fun y hy => hR.rng y (List.mem_of_mem_take (a4 y hy))
  by_cases e : p + 1 = R.length
  · have hn : nrC R p = riC (nrA R p) (stpL (nrA R p)) ++ [] := by unfold nrC; rw [if_pos e]
    have hRA : nrA R p = R := by unfold nrA; rw [e, List.take_length]
    rw [hn]
    refine ⟨⟨by rw [List.append_nil, ← a1, hAl]; exact e, unim_parts (by rw [← a1]; omega) a2 List.Pairwise.nil, fun y hy => hAm y (by simpa using hy)⟩, ?_⟩
    rw [List.append_nil]
    have h2 : nearF R p = isoS (nrA R p) + isoS (R.drop (p + 1)).reverse := rfl
    rw [h2, e, List.drop_length, ← hAi, ← a3, hRA]
    show _ = _ + isoS []
    rw [show isoS [] = 0 from rfl, Int.add_zero]
  · have hDl : (R.drop (p + 1)).length = R.length - (p + 1) := List.length_drop
    have hBl : (nrB R p).length = R.length - (p + 1) := by unfold nrB; rw [List.length_reverse]; exact hDl
    have hB0 : nrB R p ≠ [] := fun e => by rw [e] at hBl; simp at hBl; omega
    have hBs := stp_ok (L := nrB R p) (by omega)
    obtain ⟨b1, b2, b3, b4, b5⟩ := rise_ok hB0 ⟨hBs.1, hBs.2⟩
    have hBi := b5.uniq (isoS_ok (nrB R p))
    have hn : nrC R p = riC (nrA R p) (stpL (nrA R p)) ++ (riC (nrB R p) (stpL (nrB R p))).reverse := by unfold nrC; rw [if_neg e]
    rw [hn]
    refine ⟨⟨by rw [List.length_append, List.length_reverse, ← a1, ← b1]; omega, unim_parts (by rw [← a1]; omega) a2 (by rw [List.reverse_reverse]; exact b2), fun y hy => ?_⟩, ?_⟩
    · rcases List.mem_append.1 hy with h | h
      · exact hAm y h
      · exact hR.rng y (List.mem_of_mem_drop (List.mem_reverse.1 (b4 y (List.mem_reverse.1 h))))
    · have h2 : nearF R p = isoS (nrA R p) + isoS (nrB R p) := rfl
      have h3 : cost R (riC (nrA R p) (stpL (nrA R p)) ++ (riC (nrB R p) (stpL (nrB R p))).reverse) = cost (nrA R p ++ R.drop (p + 1)) (riC (nrA R p) (stpL (nrA R p)) ++ (riC (nrB R p) (stpL (nrB R p))).reverse) := by rw [← hRe]
      rw [h3, cost_append _ _ a1, a3, h2, hAi, ← hBi, ← b3]
      congr 1
      have := cost_reverse (l := nrB R p) (s := riC (nrB R p) (stpL (nrB R p))) b1
      rw [← this]
      unfold nrB
      rw [List.reverse_reverse]
/-- Paths. -/
def pathE (x : List Int × Int) : DV := pathD x.1 x.2
theorem Near1_spec (a b : List Int × Int) : Fn Try.prog 62 [pathE a, pathE b] (bool (decide (a.2 < b.2))) := by
  refine Fn.of_ex (cuts := []) tys hM Try.func62 rfl Try.call62 rfl ?_
  show exC Try.prog T [] _ false none 0 (entry 10 [pathE a, pathE b]) (finQ T [ResultVar.tmp 4] _)
  conv => whnf
  repeat' first | ((first | refine Ob.a ?_ | refine Sp.tt ?_ | refine Sp.ff ?_ | refine Sp.yes ?_ | refine Sp.no ?_ | refine Sp.nyes ?_ | refine Sp.nno ?_);conv=>whnf) | (refine Sp.ne (fun hc => ?_) (fun hc => ?_) <;> (conv=>whnf)) | (refine Sp.dec (fun hc => ?_) (fun hc => ?_) <;> (conv=>whnf)) | (refine Sp.ndec (fun hc => ?_) (fun hc => ?_) <;> (conv=>whnf)) | (refine Sp.mk (fun hc => ?_) (fun hc => ?_) <;> (conv=>whnf)) | (refine Nx.mk (fun ka kb kx hx hs => ?_) (fun he => ?_) <;> (conv=>whnf)) | (refine Nx.mk (fun ka kx hx hs => ?_) (fun he => ?_) <;> (conv=>whnf)) | (refine Uk.mk (fun hn => ?_) ?_ <;> (conv=>whnf)) | (refine Ap.a ?_ ?_ <;> (conv=>whnf)) | (refine Fi.a ?_;conv=>whnf) | (refine Yl.a ?_ ?_ <;> (conv=>whnf)) | (refine Ob.b ?_;conv=>whnf)
  all_goals exact Lf
def bstP (l : List (List Int × Int)) (i : Nat) : List Int × Int := ((l.drop 1).take i).foldl (fun out x => if x.2 < out.2 then x else out) (l.getD 0 ([], 0))
theorem bstP_succ {l : List (List Int × Int)} {i : Nat} (h : i + 1 < l.length) : bstP l (i + 1) = if (l.getD (1 + i) ([], 0)).2 < (bstP l i).2 then l.getD (1 + i) ([], 0) else bstP l i := by
  unfold bstP
  have hi : i < (l.drop 1).length := by rw [List.length_drop]; omega
  rw [List.take_succ_eq_append_getElem hi, List.foldl_append]
  have : (l.drop 1)[i] = l.getD (1 + i) ([], 0) := by
    rw [List.getElem_drop, List.getD_eq_getElem?_getD, List.getElem?_eq_getElem]; rfl
  rw [this]; rfl
set_option maxHeartbeats 8000000 in
theorem best_path (l : List (List Int × Int)) (h0 : 0 < l.length) (h1 : l.length < 1000000) : Fn Try.prog 61 [slOf 2 pathE ([], 0) l, .fn 62 0 0 (fun _ => .top) (fun _ => .top)] (pathE (bstP l (l.length - 1))) := by
  have hb := fun x y => Near1_spec x y
  have hs : ∀ i, i + 1 < l.length → _ := fun i hi => bstP_succ (l := l) hi
  have hz : bstP l 0 = l.getD 0 ([], 0) := rfl
  generalize hfin : bstP l (l.length - 1) = fin at *
  generalize bstP l = B at *
  refine Fn.of_ex (cuts := []) tys hM Try.func61 rfl Try.call61 rfl ?_
  show exC Try.prog T [] _ false none 0 (entry 25 [slOf 2 pathE ([], 0) l, .fn 62 0 0 (fun _ => .top) (fun _ => .top)]) (finQ T [ResultVar.cell 4 87] _)
  conv => whnf
  repeat' first | ((first | refine Ob.a ?_ | refine Sp.tt ?_ | refine Sp.ff ?_ | refine Sp.yes ?_ | refine Sp.no ?_ | refine Sp.nyes ?_ | refine Sp.nno ?_);conv=>whnf) | (refine Sp.ne (fun hc => ?_) (fun hc => ?_) <;> (conv=>whnf)) | (refine Sp.dec (fun hc => ?_) (fun hc => ?_) <;> (conv=>whnf)) | (refine Sp.ndec (fun hc => ?_) (fun hc => ?_) <;> (conv=>whnf)) | (refine Sp.mk (fun hc => ?_) (fun hc => ?_) <;> (conv=>whnf)) | (refine Nx.mk (fun ka kb kx hx hs => ?_) (fun he => ?_) <;> (conv=>whnf)) | (refine Nx.mk (fun ka kx hx hs => ?_) (fun he => ?_) <;> (conv=>whnf)) | (refine Uk.mk (fun hn => ?_) ?_ <;> (conv=>whnf)) | (refine Ap.a ?_ ?_ <;> (conv=>whnf)) | (refine Fi.a ?_;conv=>whnf) | (refine Yl.a ?_ ?_ <;> (conv=>whnf)) | (refine Ob.b ?_;conv=>whnf)
  refine Lp.snap [0, 1, 4, 5, 12, 13, 24] 100 ?_
  (conv=>whnf)
  refine LpB.go 25 ({q : Int × (List Int × Int) // (0 ≤ q.1 ∧ q.1 ≤ l.length - 1) ∧ q.2 = B q.1.toNat}) 0 (fun ⟨(i, o), _⟩ nx => ([(14, .d (int i))], [(4, .cs true 2 fun j => .d ([ints o.1, int o.2].getD j .top))])) (fun p => (l.length - p.1.1).toNat) (⟨(0, l.getD 0 ([], 0)), ⟨by simp, by simp only; omega⟩, hz.symm⟩) ?_ ?_
  · rintro ⟨⟨i, o⟩, ⟨i0, i1⟩, ho⟩
    simp only at i0 i1 ho
    by_cases hil : i < l.length - 1
    · have hs := hs i.toNat (by omega)
      rw [← ho, show i.toNat + 1 = (i + 1).toNat by omega, show 1 + i.toNat = Int.toNat 1 + i.toNat from rfl] at hs
      have hp := hb (l.getD (Int.toNat 1 + i.toNat) ([], 0)) o
      by_cases hc : (l.getD (Int.toNat 1 + i.toNat) ([], 0)).2 < o.2
      · rw [decide_eq_true hc] at hp
        rw [if_pos hc] at hs
        conv => whnf
        repeat' first | ((first | refine Ob.a ?_ | refine Sp.tt ?_ | refine Sp.ff ?_ | refine Sp.yes ?_ | refine Sp.no ?_ | refine Sp.nyes ?_ | refine Sp.nno ?_);conv=>whnf) | (refine Sp.ne (fun hc => ?_) (fun hc => ?_) <;> (conv=>whnf)) | (refine Sp.dec (fun hc => ?_) (fun hc => ?_) <;> (conv=>whnf)) | (refine Sp.ndec (fun hc => ?_) (fun hc => ?_) <;> (conv=>whnf)) | (refine Sp.mk (fun hc => ?_) (fun hc => ?_) <;> (conv=>whnf)) | (apply Cl.go;(conv=>whnf); (first | refine Ob.call (hp) ?_);(conv=>whnf)) | (refine Nx.mk (fun ka kb kx hx hs => ?_) (fun he => ?_) <;> (conv=>whnf)) | (refine Nx.mk (fun ka kx hx hs => ?_) (fun he => ?_) <;> (conv=>whnf)) | (refine Uk.mk (fun hn => ?_) ?_ <;> (conv=>whnf)) | (refine Ap.a ?_ ?_ <;> (conv=>whnf)) | (refine Fi.a ?_;conv=>whnf) | (refine Yl.a ?_ ?_ <;> (conv=>whnf)) | (refine Ob.b ?_;conv=>whnf)
        all_goals exact ⟨rfl, ⟨(i + 1, l.getD (Int.toNat 1 + i.toNat) ([], 0)), ⟨by simp only; omega, by simp only; omega⟩, hs.symm⟩, Lf, by simp only; omega⟩
      · rw [decide_eq_false hc] at hp
        rw [if_neg hc] at hs
        conv => whnf
        repeat' first | ((first | refine Ob.a ?_ | refine Sp.tt ?_ | refine Sp.ff ?_ | refine Sp.yes ?_ | refine Sp.no ?_ | refine Sp.nyes ?_ | refine Sp.nno ?_);conv=>whnf) | (refine Sp.ne (fun hc => ?_) (fun hc => ?_) <;> (conv=>whnf)) | (refine Sp.dec (fun hc => ?_) (fun hc => ?_) <;> (conv=>whnf)) | (refine Sp.ndec (fun hc => ?_) (fun hc => ?_) <;> (conv=>whnf)) | (refine Sp.mk (fun hc => ?_) (fun hc => ?_) <;> (conv=>whnf)) | (apply Cl.go;(conv=>whnf); (first | refine Ob.call (hp) ?_);(conv=>whnf)) | (refine Nx.mk (fun ka kb kx hx hs => ?_) (fun he => ?_) <;> (conv=>whnf)) | (refine Nx.mk (fun ka kx hx hs => ?_) (fun he => ?_) <;> (conv=>whnf)) | (refine Uk.mk (fun hn => ?_) ?_ <;> (conv=>whnf)) | (refine Ap.a ?_ ?_ <;> (conv=>whnf)) | (refine Fi.a ?_;conv=>whnf) | (refine Yl.a ?_ ?_ <;> (conv=>whnf)) | (refine Ob.b ?_;conv=>whnf)
        all_goals exact ⟨rfl, ⟨(i + 1, o), ⟨by simp only; omega, by simp only; omega⟩, hs.symm⟩, Lf, by simp only; omega⟩
    · have e : o = fin := by rw [ho, ← hfin]; congr 1; omega
      obtain rfl : fin = o := e.symm
      conv => whnf
      repeat' first | ((first | refine Ob.a ?_ | refine Sp.tt ?_ | refine Sp.ff ?_ | refine Sp.yes ?_ | refine Sp.no ?_ | refine Sp.nyes ?_ | refine Sp.nno ?_);conv=>whnf) | (refine Sp.ne (fun hc => ?_) (fun hc => ?_) <;> (conv=>whnf)) | (refine Sp.dec (fun hc => ?_) (fun hc => ?_) <;> (conv=>whnf)) | (refine Sp.ndec (fun hc => ?_) (fun hc => ?_) <;> (conv=>whnf)) | (refine Sp.mk (fun hc => ?_) (fun hc => ?_) <;> (conv=>whnf)) | (refine Nx.mk (fun ka kb kx hx hs => ?_) (fun he => ?_) <;> (conv=>whnf)) | (refine Nx.mk (fun ka kx hx hs => ?_) (fun he => ?_) <;> (conv=>whnf)) | (refine Uk.mk (fun hn => ?_) ?_ <;> (conv=>whnf)) | (refine Ap.a ?_ ?_ <;> (conv=>whnf)) | (refine Fi.a ?_;conv=>whnf) | (refine Yl.a ?_ ?_ <;> (conv=>whnf)) | (refine Ob.b ?_;conv=>whnf)
      all_goals exact Lf
  · exact Lf
end Go.Px.Try

/-! Bp13 -/
namespace Go.Px.Try
open Go Go.Proofs Go.Px
set_option maxRecDepth 100000
def trT (R : List Int) (i : Nat) : List (List Int × Int) := (List.range i).map fun p => (nrC R p, nearF R p)
theorem trT_len (R : List Int) (i : Nat) : (trT R i).length = i := by simp [trT]
theorem trT_succ (R : List Int) (i : Nat) : trT R (i + 1) = trT R i ++ [(nrC R i, nearF R i)] := by
  unfold trT; rw [List.range_succ, List.map_append]; rfl
theorem trT_at {R : List Int} {i j : Nat} (h : j < i) : (trT R i).getD j ([], 0) = (nrC R j, nearF R j) := by
  unfold trT
  rw [List.getD_eq_getElem?_getD, List.getElem?_map, List.getElem?_range h]; rfl
theorem bst_low {R : List Int} {n : Nat} : ∀ i, i < n → bstP (trT R n) i = (nrC R (lowA (nearF R) i), nearF R (lowA (nearF R) i))
  | 0, h => by
    show (trT R n).getD 0 ([], 0) = _
    rw [trT_at h]; rfl
  | i + 1, h => by
    rw [bstP_succ (by rw [trT_len]; exact h), bst_low i (by omega), trT_at (by omega), lowA, Nat.add_comm 1 i]
    by_cases hc : nearF R (i + 1) < nearF R (lowA (nearF R) i)
    · rw [if_pos hc, if_pos hc]
    · rw [if_neg hc, if_neg hc]
theorem low_near {R : List Int} (h0 : 0 < R.length) : nearF R (lowA (nearF R) (R.length - 1)) = nearN R := by
  obtain ⟨k, hk, e⟩ := mnTo_at (nearF R) R.length
  have h1 := lowA_min (nearF R) (R.length - 1) k (by omega)
  have h2 := mnTo_le (nearF R) R.length (lowA (nearF R) (R.length - 1)) (by have := lowA_le (nearF R) (R.length - 1); omega)
  show _ = mnTo (nearF R) R.length
  omega
theorem NearP_bad (R : List Int) (h1 : R.length < 1000000) (hr : checkRd R ≠ 0) : Fn Try.prog 25 [ints R] (tpl [int 0, ints [], int (checkRd R)]) := by
  have ho := open_bad R h1 hr
  generalize checkRd R = q at *
  refine Fn.of_ex (cuts := []) tys hM Try.func25 rfl Try.call25 rfl ?_
  show exC Try.prog T [] _ false none 0 (entry 43 [ints R]) (finQ T [ResultVar.tmp 2, ResultVar.tmp 3, ResultVar.tmp 4] _)
  conv => whnf
  repeat' first | ((first | refine Ob.a ?_ | refine Sp.tt ?_ | refine Sp.ff ?_ | refine Sp.yes ?_ | refine Sp.no ?_ | refine Sp.nyes ?_ | refine Sp.nno ?_);conv=>whnf) | (refine Sp.ne (fun hc => ?_) (fun hc => ?_) <;> (conv=>whnf)) | (refine Sp.dec (fun hc => ?_) (fun hc => ?_) <;> (conv=>whnf)) | (refine Sp.ndec (fun hc => ?_) (fun hc => ?_) <;> (conv=>whnf)) | (refine Sp.mk (fun hc => ?_) (fun hc => ?_) <;> (conv=>whnf)) | (apply Cl.go;(conv=>whnf); (first | refine Ob.call (ho) ?_);(conv=>whnf)) | (refine Nx.mk (fun ka kb kx hx hs => ?_) (fun he => ?_) <;> (conv=>whnf)) | (refine Nx.mk (fun ka kx hx hs => ?_) (fun he => ?_) <;> (conv=>whnf)) | (refine Uk.mk (fun hn => ?_) ?_ <;> (conv=>whnf)) | (refine Ap.a ?_ ?_ <;> (conv=>whnf)) | (refine Fi.a ?_;conv=>whnf) | (refine Yl.a ?_ ?_ <;> (conv=>whnf)) | (refine Ob.b ?_;conv=>whnf)
  all_goals exact Lf
set_option maxHeartbeats 8000000 in
theorem NearP_spec (R : List Int) (hR : RdOk R) : ∃ c, CvOk R c ∧ costTo R c R.length = nearN R ∧ Fn Try.prog 25 [ints R] (tpl [int (nearN R), ints c, int 0]) := by
  have h12 := hR.l12
  have h0 := hR.pos
  have hlo := lowA_le (nearF R) (R.length - 1)
  obtain ⟨c1, c2⟩ := nrC_ok hR (p := lowA (nearF R) (R.length - 1)) (by omega)
  refine ⟨nrC R (lowA (nearF R) (R.length - 1)), c1, ?_, ?_⟩
  · rw [← cost_to c1.len.symm, c2, low_near h0]
  have hl := c1.len
  rw [← low_near h0]
  have ho := open_ok R hR
  have hnr := fun p a b => near_spec R p hR a b
  have hb := best_path (trT R R.length) (by rw [trT_len]; exact h0) (by rw [trT_len]; omega)
  rw [trT_len, bst_low _ (by omega)] at hb
  have htl := trT_len R
  have hts : ∀ i : Int, 0 ≤ i → trT R (i + 1).toNat = trT R i.toNat ++ [(nrC R i.toNat, nearF R i.toNat)] := fun i i0 => by
    rw [show (i + 1).toNat = i.toNat + 1 by omega]; exact trT_succ R _
  have htz : trT R (Int.toNat 0) = [] := rfl
  generalize nrC R (lowA (nearF R) (R.length - 1)) = c at *
  generalize nearF R (lowA (nearF R) (R.length - 1)) = s at *
  generalize trT R = X at *
  clear c1 c2
  refine Fn.of_ex (cuts := []) tys hM Try.func25 rfl Try.call25 rfl ?_
  show exC Try.prog T [] _ false none 0 (entry 43 [ints R]) (finQ T [ResultVar.tmp 2, ResultVar.tmp 3, ResultVar.tmp 4] _)
  conv => whnf
  repeat' first | ((first | refine Ob.a ?_ | refine Sp.tt ?_ | refine Sp.ff ?_ | refine Sp.yes ?_ | refine Sp.no ?_ | refine Sp.nyes ?_ | refine Sp.nno ?_);conv=>whnf) | (refine Sp.ne (fun hc => ?_) (fun hc => ?_) <;> (conv=>whnf)) | (refine Sp.dec (fun hc => ?_) (fun hc => ?_) <;> (conv=>whnf)) | (refine Sp.ndec (fun hc => ?_) (fun hc => ?_) <;> (conv=>whnf)) | (refine Sp.mk (fun hc => ?_) (fun hc => ?_) <;> (conv=>whnf)) | (apply Cl.go;(conv=>whnf); (first | refine Ob.call (ho) ?_);(conv=>whnf)) | (refine Nx.mk (fun ka kb kx hx hs => ?_) (fun he => ?_) <;> (conv=>whnf)) | (refine Nx.mk (fun ka kx hx hs => ?_) (fun he => ?_) <;> (conv=>whnf)) | (refine Uk.mk (fun hn => ?_) ?_ <;> (conv=>whnf)) | (refine Ap.a ?_ ?_ <;> (conv=>whnf)) | (refine Fi.a ?_;conv=>whnf) | (refine Yl.a ?_ ?_ <;> (conv=>whnf)) | (refine Ob.b ?_;conv=>whnf)
  refine Lp.snap [0, 2, 3, 4, 5, 9, 10, 20, 31, 32, 33, 34, 35, 36, 37, 38, 40, 41, 42] 100 ?_
  (conv=>whnf)
  refine LpB.go 43 ({q : Int × List (List Int × Int) // (0 ≤ q.1 ∧ q.1 ≤ R.length) ∧ q.2 = X q.1.toNat}) 0 (fun ⟨(i, o), _⟩ nx => ([(21, .d (int i)), (7, .ms 12 2 0 o.length)], [(12, .row true 87 2 o.length (rowOf pathE ([], 0) o))])) (fun p => (R.length - p.1.1).toNat) (⟨(0, []), ⟨by simp, by simp⟩, htz.symm⟩) ?_ ?_
  · rintro ⟨⟨i, o⟩, ⟨i0, i1⟩, hx⟩
    simp only at i0 i1 hx
    have hol : o.length = i.toNat := by rw [hx]; exact htl _
    by_cases hi : i < R.length
    · have hnr := hnr i i0 hi
      have hts := hts i i0
      rw [← hx] at hts
      conv => whnf
      repeat' first | ((first | refine Ob.a ?_ | refine Sp.tt ?_ | refine Sp.ff ?_ | refine Sp.yes ?_ | refine Sp.no ?_ | refine Sp.nyes ?_ | refine Sp.nno ?_);conv=>whnf) | (refine Sp.ne (fun hc => ?_) (fun hc => ?_) <;> (conv=>whnf)) | (refine Sp.dec (fun hc => ?_) (fun hc => ?_) <;> (conv=>whnf)) | (refine Sp.ndec (fun hc => ?_) (fun hc => ?_) <;> (conv=>whnf)) | (refine Sp.mk (fun hc => ?_) (fun hc => ?_) <;> (conv=>whnf)) | (apply Cl.go;(conv=>whnf); (first | refine Ob.call (hnr) ?_);(conv=>whnf)) | (refine Nx.mk (fun ka kb kx hx hs => ?_) (fun he => ?_) <;> (conv=>whnf)) | (refine Nx.mk (fun ka kx hx hs => ?_) (fun he => ?_) <;> (conv=>whnf)) | (refine Uk.mk (fun hn => ?_) ?_ <;> (conv=>whnf)) | (refine Ap.a ?_ ?_ <;> (conv=>whnf)) | (refine Fi.a ?_;conv=>whnf) | (refine Yl.a ?_ ?_ <;> (conv=>whnf)) | (refine Ob.b ?_;conv=>whnf)
      all_goals exact ⟨rfl, ⟨(i + 1, o ++ [(nrC R i.toNat, nearF R i.toNat)]), ⟨by simp only; omega, by simp only; omega⟩, hts.symm⟩, Lf, by simp only; omega⟩
    · have e : X R.length = o := by rw [hx]; congr 1; omega
      rw [e] at hb
      have hlc : c.length = (R.length : Int).toNat := by omega
      conv => whnf
      repeat' first | ((first | refine Ob.a ?_ | refine Sp.tt ?_ | refine Sp.ff ?_ | refine Sp.yes ?_ | refine Sp.no ?_ | refine Sp.nyes ?_ | refine Sp.nno ?_);conv=>whnf) | (refine Sp.ne (fun hc => ?_) (fun hc => ?_) <;> (conv=>whnf)) | (refine Sp.dec (fun hc => ?_) (fun hc => ?_) <;> (conv=>whnf)) | (refine Sp.ndec (fun hc => ?_) (fun hc => ?_) <;> (conv=>whnf)) | (refine Sp.mk (fun hc => ?_) (fun hc => ?_) <;> (conv=>whnf)) | (apply Cl.go;(conv=>whnf); (first | refine Ob.call (hb) ?_);(conv=>whnf)) | (refine Nx.mk (fun ka kb kx hx hs => ?_) (fun he => ?_) <;> (conv=>whnf)) | (refine Nx.mk (fun ka kx hx hs => ?_) (fun he => ?_) <;> (conv=>whnf)) | (refine Uk.mk (fun hn => ?_) ?_ <;> (conv=>whnf)) | (refine Ap.a ?_ ?_ <;> (conv=>whnf)) | (refine Fi.a ?_;conv=>whnf) | (refine Yl.a ?_ ?_ <;> (conv=>whnf)) | (refine Ob.b ?_;conv=>whnf)
      all_goals first | exact Lf
  · exact Lf
end Go.Px.Try

/-! Bm13 -/
namespace Go.Px.Try
open Go Go.Proofs Go.Px
/-- The least number of a list. -/
def mnB (l : List Int) (i : Nat) : Int := ((l.drop 1).take i).foldl (fun out x => if x < out then x else out) (l.getD 0 0)
def mnI (l : List Int) : Int := mnB l (l.length - 1)
theorem mnB_succ {l : List Int} {i : Nat} (h : i + 1 < l.length) : mnB l (i + 1) = if l.getD (1 + i) 0 < mnB l i then l.getD (1 + i) 0 else mnB l i := by
  unfold mnB
  have hi : i < (l.drop 1).length := by rw [List.length_drop]; omega
  rw [List.take_succ_eq_append_getElem hi, List.foldl_append]
  have : (l.drop 1)[i] = l.getD (1 + i) 0 := by
    rw [List.getElem_drop, List.getD_eq_getElem?_getD, List.getElem?_eq_getElem]; rfl
  rw [this]; rfl
theorem mnB_spec {l : List Int} : ∀ i, i < l.length → (∀ j, j ≤ i → mnB l i ≤ l.getD j 0) ∧ ∃ j, j ≤ i ∧ mnB l i = l.getD j 0
  | 0, _ => ⟨fun j hj => by
      obtain rfl : j = 0 := by omega
      exact Int.le_refl _, 0, Nat.le_refl _, rfl⟩
  | i + 1, h => by
    obtain ⟨h1, j, h2, h3⟩ := mnB_spec (l := l) i (by omega)
    rw [mnB_succ h, Nat.add_comm 1 i]
    by_cases hc : l.getD (i + 1) 0 < mnB l i
    · rw [if_pos hc]
      refine ⟨fun k hk => ?_, i + 1, Nat.le_refl _, rfl⟩
      by_cases e : k = i + 1
      · subst e; exact Int.le_refl _
      · have := h1 k (by omega); omega
    · rw [if_neg hc]
      refine ⟨fun k hk => ?_, j, by omega, h3⟩
      by_cases e : k = i + 1
      · subst e; omega
      · exact h1 k (by omega)
theorem mnI_spec {l : List Int} (h : 0 < l.length) : (∀ x ∈ l, mnI l ≤ x) ∧ mnI l ∈ l := by
  obtain ⟨h1, j, h2, h3⟩ := mnB_spec (l := l) (l.length - 1) (by omega)
  refine ⟨fun x hx => ?_, ?_⟩
  · obtain ⟨j, hj, rfl⟩ := mem_getD hx
    exact h1 j (by omega)
  · show mnB l (l.length - 1) ∈ l
    rw [h3]; exact getD_mem_int (by omega)
theorem bsL_le (a b : Nat) : ∀ d, bsL a b d ≤ a + b ∧ ∀ e, e < d → bsL a b d ≤ 1 + afL a b e
  | 0 => ⟨Nat.le_refl _, fun e he => by omega⟩
  | d + 1 => by
    obtain ⟨h1, h2⟩ := bsL_le a b d
    rw [bsL]
    refine ⟨by omega, fun e he => ?_⟩
    by_cases hd : e = d
    · subst hd; omega
    · have := h2 e (by omega); omega
theorem bsR_le (a b : Nat) : ∀ d, bsR a b d ≤ bsL a b a ∧ ∀ e, e < d → bsR a b d ≤ 1 + afR a b e
  | 0 => ⟨Nat.le_refl _, fun e he => by omega⟩
  | d + 1 => by
    obtain ⟨h1, h2⟩ := bsR_le a b d
    rw [bsR]
    refine ⟨by omega, fun e he => ?_⟩
    by_cases hd : e = d
    · subst hd; omega
    · have := h2 e (by omega); omega
theorem bsR_at (a b : Nat) : ∀ d, bsR a b d = bsL a b a ∨ ∃ e, e < d ∧ bsR a b d = 1 + afR a b e
  | 0 => .inl rfl
  | d + 1 => by
    rw [bsR]
    by_cases h : bsR a b d ≤ 1 + afR a b d
    · rw [Nat.min_eq_left h]
      rcases bsR_at a b d with e | ⟨e, he, h2⟩
      · exact .inl e
      · exact .inr ⟨e, by omega, h2⟩
    · rw [Nat.min_eq_right (by omega)]
      exact .inr ⟨d, by omega, rfl⟩
/-- What is needed after a taste; k: how far from the left end. -/
def afK (a b k : Nat) : Nat := if k < a then afL a b (a - k - 1) else afR a b (k - a - 1)
/-- The tries; k: how many tastes are looked at. -/
def trL (a b : Nat) : Nat → List Int
  | 0 => [((a + b : Nat) : Int)]
  | k + 1 => if k = a then trL a b k else trL a b k ++ [((1 + afK a b k : Nat) : Int)]
theorem trL_pos (a b : Nat) : ∀ k, 0 < (trL a b k).length ∧ (trL a b k).length ≤ k + 1
  | 0 => ⟨by simp [trL], by simp [trL]⟩
  | k + 1 => by
    have := trL_pos a b k
    rw [trL]; split
    · omega
    · rw [List.length_append, List.length_singleton]; omega
theorem trL_mem {a b : Nat} {x : Int} : ∀ {k}, x ∈ trL a b k ↔ x = ((a + b : Nat) : Int) ∨ ∃ j, j < k ∧ j ≠ a ∧ x = ((1 + afK a b j : Nat) : Int)
  | 0 => by simp [trL]
  | k + 1 => by
    rw [trL]
    by_cases h : k = a
    · rw [if_pos h, trL_mem]
      constructor
      · rintro (e | ⟨j, h1, h2, h3⟩)
        · exact .inl e
        · exact .inr ⟨j, by omega, h2, h3⟩
      · rintro (e | ⟨j, h1, h2, h3⟩)
        · exact .inl e
        · exact .inr ⟨j, by omega, h2, h3⟩
    · rw [if_neg h, List.mem_append, List.mem_singleton, trL_mem]
      constructor
      · rintro ((e | ⟨j, h1, h2, h3⟩) | e)
        · exact .inl e
        · exact .inr ⟨j, by omega, h2, h3⟩
        · exact .inr ⟨k, by omega, h, e⟩
      · rintro (e | ⟨j, h1, h2, h3⟩)
        · exact .inl (.inl e)
        · by_cases hj : j = k
          · subst hj; exact .inr h3
          · exact .inl (.inr ⟨j, by omega, h2, h3⟩)
theorem trL_min {a b : Nat} (h : a + b ≤ 60) : mnI (trL a b (a + b + 1)) = nd a b := by
  obtain ⟨h1, h2⟩ := mnI_spec (trL_pos a b (a + b + 1)).1
  rw [nd_rec h]
  have l1 := bsL_le a b a
  have l2 := bsR_le a b b
  apply Int.le_antisymm
  · rcases bsR_at a b b with e | ⟨e, he, h3⟩
    · rcases bsL_at a b a with e2 | ⟨e2, he2, h3⟩
      · rw [e, e2]; exact h1 _ (trL_mem.2 (.inl rfl))
      · rw [e, h3]
        refine h1 _ (trL_mem.2 (.inr ⟨a - e2 - 1, by omega, by omega, ?_⟩))
        unfold afK; rw [if_pos (by omega), show a - (a - e2 - 1) - 1 = e2 by omega]
    · rw [h3]
      refine h1 _ (trL_mem.2 (.inr ⟨a + e + 1, by omega, by omega, ?_⟩))
      unfold afK; rw [if_neg (by omega), show a + e + 1 - a - 1 = e by omega]
  · rcases trL_mem.1 h2 with e | ⟨j, h3, h4, h5⟩
    · rw [e]; omega
    · rw [h5]
      unfold afK
      by_cases hj : j < a
      · rw [if_pos hj]
        have := l1.2 (a - j - 1) (by omega)
        omega
      · rw [if_neg hj]
        have := l2.2 (j - a - 1) (by omega)
        omega
/-- The program's map on the way: q: how many places there are at most. -/
def ndM (q all left : Int) : List Int → Option Int
  | [x, y] => if x = q + 1 ∧ y = 0 then some 0 else if 0 ≤ x ∧ 0 ≤ y ∧ (x + y < all ∨ x + y = all ∧ x < left) then some ((nd x.toNat y.toNat : Nat) : Int) else none
  | _ => none
def ndR (q : Int) : List Int → Option Int
  | [x, y] => if 0 ≤ x ∧ 0 ≤ y ∧ x + y ≤ q then some ((nd x.toNat y.toNat : Nat) : Int) else none
  | _ => none
theorem list2 {P : List Int → Prop} (h2 : ∀ x y, P [x, y]) (h0 : P []) (h1 : ∀ x, P [x]) (h3 : ∀ x y z l, P (x :: y :: z :: l)) : ∀ k, P k
  | [] => h0
  | [x] => h1 x
  | [x, y] => h2 x y
  | x :: y :: z :: l => h3 x y z l
theorem ndM_start {q : Int} (k : List Int) : (if k = [q + 1, 0] then some 0 else none) = ndM q 0 0 k := by
  revert k
  refine list2 (fun x y => ?_) rfl (fun x => ?_) (fun x y z l => ?_)
  · by_cases h : x = q + 1 ∧ y = 0
    · obtain ⟨rfl, rfl⟩ := h
      rw [if_pos rfl, ndM, if_pos ⟨rfl, rfl⟩]
    · rw [if_neg (fun e => h (by simpa using e)), ndM, if_neg h, if_neg (by omega)]
  · rw [if_neg (by simp)]; rfl
  · rw [if_neg (by simp)]; rfl
theorem ndM_upd {q all left v : Int} (h0 : 0 ≤ left) (h1 : left ≤ all) (h2 : all ≤ q) (hv : v = ((nd left.toNat (all - left).toNat : Nat) : Int)) (k : List Int) : (if k = [left, all - left] then some v else ndM q all left k) = ndM q all (left + 1) k := by
  revert k
  refine list2 (fun x y => ?_) rfl (fun x => ?_) (fun x y z l => ?_)
  · by_cases h : x = left ∧ y = all - left
    · obtain ⟨rfl, rfl⟩ := h
      rw [if_pos rfl, ndM, if_neg (by omega), if_pos (by omega), hv]
    · rw [if_neg (fun e => h (by simpa using e)), ndM, ndM]
      by_cases h3 : x = q + 1 ∧ y = 0
      · rw [if_pos h3, if_pos h3]
      · rw [if_neg h3, if_neg h3]
        by_cases h4 : 0 ≤ x ∧ 0 ≤ y ∧ (x + y < all ∨ x + y = all ∧ x < left)
        · rw [if_pos h4, if_pos (by omega)]
        · rw [if_neg h4, if_neg (by omega)]
  · rw [if_neg (by simp)]; rfl
  · rw [if_neg (by simp)]; rfl
theorem ndM_all {q all : Int} (k : List Int) : ndM q all (all + 1) k = ndM q (all + 1) 0 k := by
  revert k
  refine list2 (fun x y => ?_) rfl (fun x => rfl) (fun x y z l => rfl)
  rw [ndM, ndM]
  by_cases h3 : x = q + 1 ∧ y = 0
  · rw [if_pos h3, if_pos h3]
  · rw [if_neg h3, if_neg h3]
    by_cases h4 : 0 ≤ x ∧ 0 ≤ y ∧ (x + y < all ∨ x + y = all ∧ x < all + 1)
    · rw [if_pos h4, if_pos (by omega)]
    · rw [if_neg h4, if_neg (by omega)]
theorem ndM_end {q : Int} (h0 : 0 ≤ q) (k : List Int) : (if k = [q + 1, 0] then none else ndM q (q + 1) 0 k) = ndR q k := by
  revert k
  refine list2 (fun x y => ?_) rfl (fun x => ?_) (fun x y z l => ?_)
  · by_cases h : x = q + 1 ∧ y = 0
    · obtain ⟨rfl, rfl⟩ := h
      rw [if_pos rfl, ndR, if_neg (by omega)]
    · rw [if_neg (fun e => h (by simpa using e)), ndM, ndR, if_neg h]
      by_cases h4 : 0 ≤ x ∧ 0 ≤ y ∧ x + y ≤ q
      · rw [if_pos h4, if_pos (by omega)]
      · rw [if_neg h4, if_neg (by omega)]
  · rw [if_neg (by simp)]; rfl
  · rw [if_neg (by simp)]; rfl
theorem ndM_get {q all left x y : Int} (h : x + y ≤ q) (hx : 0 ≤ x) (hy : 0 ≤ y) (hl : x + y < all) : (ndM q all left [x, y]).getD 0 = ((nd x.toNat y.toNat : Nat) : Int) := by
  rw [ndM, if_neg (by omega), if_pos ⟨hx, hy, .inl hl⟩]; rfl
theorem ndR_get {q x y : Int} (h : x + y ≤ q) (hx : 0 ≤ x) (hy : 0 ≤ y) : (ndR q [x, y]).getD 0 = ((nd x.toNat y.toNat : Nat) : Int) := by
  rw [ndR, if_pos ⟨hx, hy, h⟩]; rfl
end Go.Px.Try

/-! Bp14 -/
namespace Go.Px.Try
open Go Go.Proofs Go.Px
set_option maxRecDepth 100000
theorem less1_spec (a b : Int) : Fn Try.prog 81 [int a, int b] (bool (decide (a < b))) := by
  refine Fn.of_ex (cuts := []) tys hM Try.func81 rfl Try.call81 rfl ?_
  show exC Try.prog T [] _ false none 0 (entry 8 [int a, int b]) (finQ T [ResultVar.tmp 4] _)
  conv => whnf
  repeat' first | ((first | refine Ob.a ?_ | refine Sp.tt ?_ | refine Sp.ff ?_ | refine Sp.yes ?_ | refine Sp.no ?_ | refine Sp.nyes ?_ | refine Sp.nno ?_);conv=>whnf) | (refine Sp.ne (fun hc => ?_) (fun hc => ?_) <;> (conv=>whnf)) | (refine Sp.dec (fun hc => ?_) (fun hc => ?_) <;> (conv=>whnf)) | (refine Sp.ndec (fun hc => ?_) (fun hc => ?_) <;> (conv=>whnf)) | (refine Sp.mk (fun hc => ?_) (fun hc => ?_) <;> (conv=>whnf)) | (refine Nx.mk (fun ka kb kx hx hs => ?_) (fun he => ?_) <;> (conv=>whnf)) | (refine Nx.mk (fun ka kx hx hs => ?_) (fun he => ?_) <;> (conv=>whnf)) | (refine Uk.mk (fun hn => ?_) ?_ <;> (conv=>whnf)) | (refine Ap.a ?_ ?_ <;> (conv=>whnf)) | (refine Fi.a ?_;conv=>whnf) | (refine Yl.a ?_ ?_ <;> (conv=>whnf)) | (refine Ob.b ?_;conv=>whnf)
  all_goals exact Lf
theorem less2_spec (a b : Int) : Fn Try.prog 68 [int a, int b] (bool (decide (a < b))) := by
  refine Fn.of_ex (cuts := []) tys hM Try.func68 rfl Try.call68 rfl ?_
  show exC Try.prog T [] _ false none 0 (entry 8 [int a, int b]) (finQ T [ResultVar.tmp 4] _)
  conv => whnf
  repeat' first | ((first | refine Ob.a ?_ | refine Sp.tt ?_ | refine Sp.ff ?_ | refine Sp.yes ?_ | refine Sp.no ?_ | refine Sp.nyes ?_ | refine Sp.nno ?_);conv=>whnf) | (refine Sp.ne (fun hc => ?_) (fun hc => ?_) <;> (conv=>whnf)) | (refine Sp.dec (fun hc => ?_) (fun hc => ?_) <;> (conv=>whnf)) | (refine Sp.ndec (fun hc => ?_) (fun hc => ?_) <;> (conv=>whnf)) | (refine Sp.mk (fun hc => ?_) (fun hc => ?_) <;> (conv=>whnf)) | (refine Nx.mk (fun ka kb kx hx hs => ?_) (fun he => ?_) <;> (conv=>whnf)) | (refine Nx.mk (fun ka kx hx hs => ?_) (fun he => ?_) <;> (conv=>whnf)) | (refine Uk.mk (fun hn => ?_) ?_ <;> (conv=>whnf)) | (refine Ap.a ?_ ?_ <;> (conv=>whnf)) | (refine Fi.a ?_;conv=>whnf) | (refine Yl.a ?_ ?_ <;> (conv=>whnf)) | (refine Ob.b ?_;conv=>whnf)
  all_goals exact Lf
set_option maxHeartbeats 8000000 in
theorem best_int (l : List Int) (g : Nat) (h0 : 0 < l.length) (h1 : l.length < 1000000) (hp : ∀ x y, Fn Try.prog g [int x, int y] (bool (decide (x < y)))) : Fn Try.prog 67 [ints l, .fn g 0 0 (fun _ => .top) (fun _ => .top)] (int (mnI l)) := by
  have hs : ∀ i, i + 1 < l.length → _ := fun i hi => mnB_succ (l := l) hi
  have hz : mnB l 0 = l.getD 0 0 := rfl
  have hfin : mnI l = mnB l (l.length - 1) := rfl
  generalize mnI l = fin at *
  generalize mnB l = B at *
  refine Fn.of_ex (cuts := []) tys hM Try.func67 rfl Try.call67 rfl ?_
  show exC Try.prog T [] _ false none 0 (entry 25 [ints l, .fn g 0 0 (fun _ => .top) (fun _ => .top)]) (finQ T [ResultVar.tmp 4] _)
  conv => whnf
  repeat' first | ((first | refine Ob.a ?_ | refine Sp.tt ?_ | refine Sp.ff ?_ | refine Sp.yes ?_ | refine Sp.no ?_ | refine Sp.nyes ?_ | refine Sp.nno ?_);conv=>whnf) | (refine Sp.ne (fun hc => ?_) (fun hc => ?_) <;> (conv=>whnf)) | (refine Sp.dec (fun hc => ?_) (fun hc => ?_) <;> (conv=>whnf)) | (refine Sp.ndec (fun hc => ?_) (fun hc => ?_) <;> (conv=>whnf)) | (refine Sp.mk (fun hc => ?_) (fun hc => ?_) <;> (conv=>whnf)) | (refine Nx.mk (fun ka kb kx hx hs => ?_) (fun he => ?_) <;> (conv=>whnf)) | (refine Nx.mk (fun ka kx hx hs => ?_) (fun he => ?_) <;> (conv=>whnf)) | (refine Uk.mk (fun hn => ?_) ?_ <;> (conv=>whnf)) | (refine Ap.a ?_ ?_ <;> (conv=>whnf)) | (refine Fi.a ?_;conv=>whnf) | (refine Yl.a ?_ ?_ <;> (conv=>whnf)) | (refine Ob.b ?_;conv=>whnf)
  refine Lp.snap [0, 1, 4, 12, 13, 24] 100 ?_
  (conv=>whnf)
  refine LpB.go 25 ({q : Int × Int // (0 ≤ q.1 ∧ q.1 ≤ l.length - 1) ∧ q.2 = B q.1.toNat}) 0 (fun ⟨(i, o), _⟩ nx => ([(14, .d (int i)), (5, .d (int o))], [])) (fun p => (l.length - p.1.1).toNat) (⟨(0, l.getD 0 0), ⟨by simp, by simp only; omega⟩, hz.symm⟩) ?_ ?_
  · rintro ⟨⟨i, o⟩, ⟨i0, i1⟩, ho⟩
    simp only at i0 i1 ho
    by_cases hil : i < l.length - 1
    · have hs := hs i.toNat (by omega)
      rw [← ho, show i.toNat + 1 = (i + 1).toNat by omega, show 1 + i.toNat = Int.toNat 1 + i.toNat from rfl] at hs
      have hp := hp (l.getD (Int.toNat 1 + i.toNat) 0) o
      by_cases hc : l.getD (Int.toNat 1 + i.toNat) 0 < o
      · rw [decide_eq_true hc] at hp
        rw [if_pos hc] at hs
        conv => whnf
        repeat' first | ((first | refine Ob.a ?_ | refine Sp.tt ?_ | refine Sp.ff ?_ | refine Sp.yes ?_ | refine Sp.no ?_ | refine Sp.nyes ?_ | refine Sp.nno ?_);conv=>whnf) | (refine Sp.ne (fun hc => ?_) (fun hc => ?_) <;> (conv=>whnf)) | (refine Sp.dec (fun hc => ?_) (fun hc => ?_) <;> (conv=>whnf)) | (refine Sp.ndec (fun hc => ?_) (fun hc => ?_) <;> (conv=>whnf)) | (refine Sp.mk (fun hc => ?_) (fun hc => ?_) <;> (conv=>whnf)) | (apply Cl.go;(conv=>whnf); (first | refine Ob.call (hp) ?_);(conv=>whnf)) | (refine Nx.mk (fun ka kb kx hx hs => ?_) (fun he => ?_) <;> (conv=>whnf)) | (refine Nx.mk (fun ka kx hx hs => ?_) (fun he => ?_) <;> (conv=>whnf)) | (refine Uk.mk (fun hn => ?_) ?_ <;> (conv=>whnf)) | (refine Ap.a ?_ ?_ <;> (conv=>whnf)) | (refine Fi.a ?_;conv=>whnf) | (refine Yl.a ?_ ?_ <;> (conv=>whnf)) | (refine Ob.b ?_;conv=>whnf)
        all_goals exact ⟨rfl, ⟨(i + 1, l.getD (Int.toNat 1 + i.toNat) 0), ⟨by simp only; omega, by simp only; omega⟩, hs.symm⟩, Lf, by simp only; omega⟩
      · rw [decide_eq_false hc] at hp
        rw [if_neg hc] at hs
        conv => whnf
        repeat' first | ((first | refine Ob.a ?_ | refine Sp.tt ?_ | refine Sp.ff ?_ | refine Sp.yes ?_ | refine Sp.no ?_ | refine Sp.nyes ?_ | refine Sp.nno ?_);conv=>whnf) | (refine Sp.ne (fun hc => ?_) (fun hc => ?_) <;> (conv=>whnf)) | (refine Sp.dec (fun hc => ?_) (fun hc => ?_) <;> (conv=>whnf)) | (refine Sp.ndec (fun hc => ?_) (fun hc => ?_) <;> (conv=>whnf)) | (refine Sp.mk (fun hc => ?_) (fun hc => ?_) <;> (conv=>whnf)) | (apply Cl.go;(conv=>whnf); (first | refine Ob.call (hp) ?_);(conv=>whnf)) | (refine Nx.mk (fun ka kb kx hx hs => ?_) (fun he => ?_) <;> (conv=>whnf)) | (refine Nx.mk (fun ka kx hx hs => ?_) (fun he => ?_) <;> (conv=>whnf)) | (refine Uk.mk (fun hn => ?_) ?_ <;> (conv=>whnf)) | (refine Ap.a ?_ ?_ <;> (conv=>whnf)) | (refine Fi.a ?_;conv=>whnf) | (refine Yl.a ?_ ?_ <;> (conv=>whnf)) | (refine Ob.b ?_;conv=>whnf)
        all_goals exact ⟨rfl, ⟨(i + 1, o), ⟨by simp only; omega, by simp only; omega⟩, hs.symm⟩, Lf, by simp only; omega⟩
    · have e : o = fin := by rw [ho, hfin]; congr 1; omega
      conv => whnf
      repeat' first | ((first | refine Ob.a ?_ | refine Sp.tt ?_ | refine Sp.ff ?_ | refine Sp.yes ?_ | refine Sp.no ?_ | refine Sp.nyes ?_ | refine Sp.nno ?_);conv=>whnf) | (refine Sp.ne (fun hc => ?_) (fun hc => ?_) <;> (conv=>whnf)) | (refine Sp.dec (fun hc => ?_) (fun hc => ?_) <;> (conv=>whnf)) | (refine Sp.ndec (fun hc => ?_) (fun hc => ?_) <;> (conv=>whnf)) | (refine Sp.mk (fun hc => ?_) (fun hc => ?_) <;> (conv=>whnf)) | (refine Nx.mk (fun ka kb kx hx hs => ?_) (fun he => ?_) <;> (conv=>whnf)) | (refine Nx.mk (fun ka kx hx hs => ?_) (fun he => ?_) <;> (conv=>whnf)) | (refine Uk.mk (fun hn => ?_) ?_ <;> (conv=>whnf)) | (refine Ap.a ?_ ?_ <;> (conv=>whnf)) | (refine Fi.a ?_;conv=>whnf) | (refine Yl.a ?_ ?_ <;> (conv=>whnf)) | (refine Ob.b ?_;conv=>whnf)
      all_goals exact Lf
  · exact Lf
def sidesD (a b : Int) : DV := .ag 2 fun j => [int a, int b].getD j .top
def ktS : KT := ⟨true, 2⟩
set_option maxHeartbeats 8000000 in
theorem after_left (l r d : Int) (m : List Int → Option Int) (hl : 0 ≤ l ∧ l ≤ 1000) (hr : 0 ≤ r ∧ r ≤ 1000) (hd : -1000 ≤ d ∧ d ≤ 0) :
    Fn Try.prog 69 [sidesD l r, int d, .mp ktS m] (int (max ((m [l + d, 0 - d - 1]).getD 0) ((m [0 - d - 1, r]).getD 0))) := by
  refine Fn.of_ex (cuts := []) tys hM Try.func69 rfl Try.call69 rfl ?_
  show exC Try.prog T [] _ false none 0 (entry 44 [sidesD l r, int d, .mp ktS m]) (finQ T [ResultVar.tmp 6] _)
  conv => whnf
  repeat' first | ((first | refine Ob.a ?_ | refine Sp.tt ?_ | refine Sp.ff ?_ | refine Sp.yes ?_ | refine Sp.no ?_ | refine Sp.nyes ?_ | refine Sp.nno ?_);conv=>whnf) | (refine Sp.ne (fun hc => ?_) (fun hc => ?_) <;> (conv=>whnf)) | (refine Sp.dec (fun hc => ?_) (fun hc => ?_) <;> (conv=>whnf)) | (refine Sp.ndec (fun hc => ?_) (fun hc => ?_) <;> (conv=>whnf)) | (refine Sp.mk (fun hc => ?_) (fun hc => ?_) <;> (conv=>whnf)) | (refine Nx.mk (fun ka kb kx hx hs => ?_) (fun he => ?_) <;> (conv=>whnf)) | (refine Nx.mk (fun ka kx hx hs => ?_) (fun he => ?_) <;> (conv=>whnf)) | (refine Uk.mk (fun hn => ?_) ?_ <;> (conv=>whnf)) | (refine Ap.a ?_ ?_ <;> (conv=>whnf)) | (refine Fi.a ?_;conv=>whnf) | (refine Yl.a ?_ ?_ <;> (conv=>whnf)) | (refine Ob.b ?_;conv=>whnf)
  all_goals first | (exfalso; omega) | exact Lf
set_option maxHeartbeats 8000000 in
theorem after_right (l r d : Int) (m : List Int → Option Int) (hl : 0 ≤ l ∧ l ≤ 1000) (hr : 0 ≤ r ∧ r ≤ 1000) (hd : 0 < d ∧ d ≤ 1000) :
    Fn Try.prog 69 [sidesD l r, int d, .mp ktS m] (int (max ((m [d - 1, r - d]).getD 0) ((m [l, d - 1]).getD 0))) := by
  refine Fn.of_ex (cuts := []) tys hM Try.func69 rfl Try.call69 rfl ?_
  show exC Try.prog T [] _ false none 0 (entry 44 [sidesD l r, int d, .mp ktS m]) (finQ T [ResultVar.tmp 6] _)
  conv => whnf
  repeat' first | ((first | refine Ob.a ?_ | refine Sp.tt ?_ | refine Sp.ff ?_ | refine Sp.yes ?_ | refine Sp.no ?_ | refine Sp.nyes ?_ | refine Sp.nno ?_);conv=>whnf) | (refine Sp.ne (fun hc => ?_) (fun hc => ?_) <;> (conv=>whnf)) | (refine Sp.dec (fun hc => ?_) (fun hc => ?_) <;> (conv=>whnf)) | (refine Sp.ndec (fun hc => ?_) (fun hc => ?_) <;> (conv=>whnf)) | (refine Sp.mk (fun hc => ?_) (fun hc => ?_) <;> (conv=>whnf)) | (refine Nx.mk (fun ka kb kx hx hs => ?_) (fun he => ?_) <;> (conv=>whnf)) | (refine Nx.mk (fun ka kx hx hs => ?_) (fun he => ?_) <;> (conv=>whnf)) | (refine Uk.mk (fun hn => ?_) ?_ <;> (conv=>whnf)) | (refine Ap.a ?_ ?_ <;> (conv=>whnf)) | (refine Fi.a ?_;conv=>whnf) | (refine Yl.a ?_ ?_ <;> (conv=>whnf)) | (refine Ob.b ?_;conv=>whnf)
  all_goals first | (exfalso; omega) | exact Lf
end Go.Px.Try

/-! Bp15 -/
namespace Go.Px.Try
open Go Go.Proofs Go.Px
set_option maxRecDepth 100000
set_option maxHeartbeats 16000000 in
theorem needs_spec (q : Int) (q0 : 0 ≤ q) (q1 : q ≤ 60) : Fn Try.prog 66 [int q] (.mp ktS (ndR q)) := by
  have hb := fun l a b => best_int l 81 a b less1_spec
  have hal := fun l r d m a b c => after_left l r d m a b c
  have har := fun l r d m a b c => after_right l r d m a b c
  have hst : MImp (updM (fun _ => none) [q + 1, 0] 0) (ndM q 0 0) := fun k => ndM_start k
  have hup : ∀ all left v : Int, 0 ≤ left → left ≤ all → all ≤ q → v = ((nd left.toNat (all - left).toNat : Nat) : Int) → MImp (updM (ndM q all left) [left, all - left] v) (ndM q all (left + 1)) := fun all left v a b c d k => ndM_upd a b c d k
  have hnx : ∀ all : Int, MImp (ndM q all (all + 1)) (ndM q (all + 1) 0) := fun all k => ndM_all k
  have hen : MImp (delM (ndM q (q + 1) 0) [q + 1, 0]) (ndR q) := fun k => ndM_end q0 k
  have hge : ∀ all left x y : Int, x + y ≤ q → 0 ≤ x → 0 ≤ y → x + y < all → (ndM q all left [x, y]).getD 0 = ((nd x.toNat y.toNat : Nat) : Int) := fun all left x y a b c d => ndM_get a b c d
  generalize ndR q = fin at *
  generalize ndM q = M at *
  refine Fn.of_ex (cuts := []) tys hM Try.func66 rfl Try.call66 rfl ?_
  show exC Try.prog T [] _ false none 0 (entry 61 [int q]) (finQ T [ResultVar.tmp 2] _)
  conv => whnf
  repeat' first | ((first | refine Ob.a ?_ | refine Sp.tt ?_ | refine Sp.ff ?_ | refine Sp.yes ?_ | refine Sp.no ?_ | refine Sp.nyes ?_ | refine Sp.nno ?_);conv=>whnf) | (refine Sp.ne (fun hc => ?_) (fun hc => ?_) <;> (conv=>whnf)) | (refine Sp.dec (fun hc => ?_) (fun hc => ?_) <;> (conv=>whnf)) | (refine Sp.ndec (fun hc => ?_) (fun hc => ?_) <;> (conv=>whnf)) | (refine Sp.mk (fun hc => ?_) (fun hc => ?_) <;> (conv=>whnf)) | (refine Nx.mk (fun ka kb kx hx hs => ?_) (fun he => ?_) <;> (conv=>whnf)) | (refine Nx.mk (fun ka kx hx hs => ?_) (fun he => ?_) <;> (conv=>whnf)) | (refine Uk.mk (fun hn => ?_) ?_ <;> (conv=>whnf)) | (refine Ap.a ?_ ?_ <;> (conv=>whnf)) | (refine Fi.a ?_;conv=>whnf) | (refine Yl.a ?_ ?_ <;> (conv=>whnf)) | (refine Ob.b ?_;conv=>whnf)
  refine Lp.snap [0, 2, 3, 15, 56, 57, 58, 59, 60] 100 ?_
  (conv=>whnf)
  refine LpB.go 61 ({a : Int // 0 ≤ a ∧ a ≤ q + 1}) 0 (fun ⟨a, _⟩ nx => ([(16, .d (int a))], [(1, .mp true ktS (M a 0))])) (fun p => (q + 1 - p.1).toNat) (⟨0, by omega, by omega⟩) ?_ ?_
  · rintro ⟨a, a0, a1⟩
    by_cases ha : a < q + 1
    · have hnx := hnx a
      conv => whnf
      repeat' first | ((first | refine Ob.a ?_ | refine Sp.tt ?_ | refine Sp.ff ?_ | refine Sp.yes ?_ | refine Sp.no ?_ | refine Sp.nyes ?_ | refine Sp.nno ?_);conv=>whnf) | (refine Sp.ne (fun hc => ?_) (fun hc => ?_) <;> (conv=>whnf)) | (refine Sp.dec (fun hc => ?_) (fun hc => ?_) <;> (conv=>whnf)) | (refine Sp.ndec (fun hc => ?_) (fun hc => ?_) <;> (conv=>whnf)) | (refine Sp.mk (fun hc => ?_) (fun hc => ?_) <;> (conv=>whnf)) | (refine Nx.mk (fun ka kb kx hx hs => ?_) (fun he => ?_) <;> (conv=>whnf)) | (refine Nx.mk (fun ka kx hx hs => ?_) (fun he => ?_) <;> (conv=>whnf)) | (refine Uk.mk (fun hn => ?_) ?_ <;> (conv=>whnf)) | (refine Ap.a ?_ ?_ <;> (conv=>whnf)) | (refine Fi.a ?_;conv=>whnf) | (refine Yl.a ?_ ?_ <;> (conv=>whnf)) | (refine Ob.b ?_;conv=>whnf)
      refine Lp.snap [0, 2, 3, 4, 15, 16, 18, 19, 20, 55, 56, 57, 58, 59, 60] 100 ?_
      (conv=>whnf)
      refine LpB.go 61 ({l : Int // 0 ≤ l ∧ l ≤ a + 1}) 0 (fun ⟨l, _⟩ nx => ([(21, .d (int l))], [(1, .mp true ktS (M a l))])) (fun p => (a + 1 - p.1).toNat) (⟨0, by omega, by omega⟩) ?_ ?_
      · rintro ⟨l, l0, l1⟩
        by_cases hl : l < a + 1
        · conv => whnf
          repeat' first | ((first | refine Ob.a ?_ | refine Sp.tt ?_ | refine Sp.ff ?_ | refine Sp.yes ?_ | refine Sp.no ?_ | refine Sp.nyes ?_ | refine Sp.nno ?_);conv=>whnf) | (refine Sp.ne (fun hc => ?_) (fun hc => ?_) <;> (conv=>whnf)) | (refine Sp.dec (fun hc => ?_) (fun hc => ?_) <;> (conv=>whnf)) | (refine Sp.ndec (fun hc => ?_) (fun hc => ?_) <;> (conv=>whnf)) | (refine Sp.mk (fun hc => ?_) (fun hc => ?_) <;> (conv=>whnf)) | (refine Nx.mk (fun ka kb kx hx hs => ?_) (fun he => ?_) <;> (conv=>whnf)) | (refine Nx.mk (fun ka kx hx hs => ?_) (fun he => ?_) <;> (conv=>whnf)) | (refine Uk.mk (fun hn => ?_) ?_ <;> (conv=>whnf)) | (refine Ap.a ?_ ?_ <;> (conv=>whnf)) | (refine Fi.a ?_;conv=>whnf) | (refine Yl.a ?_ ?_ <;> (conv=>whnf)) | (refine Ob.b ?_;conv=>whnf)
          refine Lp.snap [0, 2, 3, 4, 5, 6, 15, 16, 18, 19, 20, 21, 23, 24, 25, 26, 27, 28, 29, 30, 31, 32, 33, 50, 51, 52, 53, 54, 55, 56, 57, 58, 59, 60] 100 ?_
          (conv=>whnf)
          refine LpB.go 61 ({y : Int × List Int // (0 - l ≤ y.1 ∧ y.1 ≤ a - l + 1) ∧ y.2 = trL l.toNat (a - l).toNat (y.1 + l).toNat}) 0 (fun ⟨(d, o), _⟩ nx => ([(8, .d (int d)), (7, .ms 13 1 0 o.length), (30, .d .top)], [(13, .row true 3 1 o.length (rowOf int 0 o))])) (fun p => (a - l + 1 - p.1.1).toNat) (⟨(0 - l, [a]), ⟨by simp only; omega, by simp only; omega⟩, by simp only; rw [show (0 - l + l).toNat = 0 by omega, trL]; congr 1; omega⟩) ?_ ?_
          · rintro ⟨⟨d, o⟩, ⟨d0, d1⟩, ho⟩
            simp only at d0 d1 ho
            have hop := trL_pos l.toNat (a - l).toNat (d + l).toNat
            rw [← ho] at hop
            by_cases hd : d ≤ a - l
            · have hs : trL l.toNat (a - l).toNat (d + 1 + l).toNat = if (d + l).toNat = l.toNat then o else o ++ [((1 + afK l.toNat (a - l).toNat (d + l).toNat : Nat) : Int)] := by
                rw [ho, show (d + 1 + l).toNat = (d + l).toNat + 1 by omega, trL]
              by_cases hz : d = 0
              · rw [if_pos (by omega)] at hs
                conv => whnf
                repeat' first | ((first | refine Ob.a ?_ | refine Sp.tt ?_ | refine Sp.ff ?_ | refine Sp.yes ?_ | refine Sp.no ?_ | refine Sp.nyes ?_ | refine Sp.nno ?_);conv=>whnf) | (refine Sp.ne (fun hc => ?_) (fun hc => ?_) <;> (conv=>whnf)) | (refine Sp.dec (fun hc => ?_) (fun hc => ?_) <;> (conv=>whnf)) | (refine Sp.ndec (fun hc => ?_) (fun hc => ?_) <;> (conv=>whnf)) | (refine Sp.mk (fun hc => ?_) (fun hc => ?_) <;> (conv=>whnf)) | (refine Nx.mk (fun ka kb kx hx hs => ?_) (fun he => ?_) <;> (conv=>whnf)) | (refine Nx.mk (fun ka kx hx hs => ?_) (fun he => ?_) <;> (conv=>whnf)) | (refine Uk.mk (fun hn => ?_) ?_ <;> (conv=>whnf)) | (refine Ap.a ?_ ?_ <;> (conv=>whnf)) | (refine Fi.a ?_;conv=>whnf) | (refine Yl.a ?_ ?_ <;> (conv=>whnf)) | (refine Ob.b ?_;conv=>whnf)
                all_goals first | (exfalso; omega) | exact ⟨rfl, ⟨(d + 1, o), ⟨by simp only; omega, by simp only; omega⟩, hs.symm⟩, Lf, by simp only; omega⟩
              · rw [if_neg (by omega)] at hs
                by_cases hn : d ≤ 0
                · have hal := hal l (a - l) d (M a l) ⟨by omega, by omega⟩ ⟨by omega, by omega⟩ ⟨by omega, hn⟩
                  have g1 := hge a l (l + d) (0 - d - 1) (by omega) (by omega) (by omega) (by omega)
                  have g2 := hge a l (0 - d - 1) (a - l) (by omega) (by omega) (by omega) (by omega)
                  have b1 := (nd_facts (a := (l + d).toNat) (b := (0 - d - 1).toNat) (by omega)).2.2.1
                  have b2 := (nd_facts (a := (0 - d - 1).toNat) (b := (a - l).toNat) (by omega)).2.2.1
                  have hv : ((1 + afK l.toNat (a - l).toNat (d + l).toNat : Nat) : Int) = 1 + max ((M a l [l + d, 0 - d - 1]).getD 0) ((M a l [0 - d - 1, a - l]).getD 0) := by
                    rw [g1, g2]
                    unfold afK afL
                    rw [if_pos (by omega), show l.toNat - (d + l).toNat - 1 = (0 - d - 1).toNat by omega, show l.toNat - ((0 - d - 1).toNat + 1) = (l + d).toNat by omega]
                    omega
                  rw [hv] at hs
                  have hv1 : 0 ≤ max ((M a l [l + d, 0 - d - 1]).getD 0) ((M a l [0 - d - 1, a - l]).getD 0) ∧ max ((M a l [l + d, 0 - d - 1]).getD 0) ((M a l [0 - d - 1, a - l]).getD 0) ≤ 60 := by rw [g1, g2]; omega
                  clear hv g1 g2 b1 b2
                  generalize max ((M a l [l + d, 0 - d - 1]).getD 0) ((M a l [0 - d - 1, a - l]).getD 0) = z at *
                  conv => whnf
                  repeat' first | ((first | refine Ob.a ?_ | refine Sp.tt ?_ | refine Sp.ff ?_ | refine Sp.yes ?_ | refine Sp.no ?_ | refine Sp.nyes ?_ | refine Sp.nno ?_);conv=>whnf) | (refine Sp.ne (fun hc => ?_) (fun hc => ?_) <;> (conv=>whnf)) | (refine Sp.dec (fun hc => ?_) (fun hc => ?_) <;> (conv=>whnf)) | (refine Sp.ndec (fun hc => ?_) (fun hc => ?_) <;> (conv=>whnf)) | (refine Sp.mk (fun hc => ?_) (fun hc => ?_) <;> (conv=>whnf)) | (apply Cl.go;(conv=>whnf); (first | refine Ob.call (hal) ?_);(conv=>whnf)) | (refine Nx.mk (fun ka kb kx hx hs => ?_) (fun he => ?_) <;> (conv=>whnf)) | (refine Nx.mk (fun ka kx hx hs => ?_) (fun he => ?_) <;> (conv=>whnf)) | (refine Uk.mk (fun hn => ?_) ?_ <;> (conv=>whnf)) | (refine Ap.a ?_ ?_ <;> (conv=>whnf)) | (refine Fi.a ?_;conv=>whnf) | (refine Yl.a ?_ ?_ <;> (conv=>whnf)) | (refine Ob.b ?_;conv=>whnf)
                  all_goals first | (exfalso; omega) | exact ⟨rfl, ⟨(d + 1, o ++ [1 + z]), ⟨by simp only; omega, by simp only; omega⟩, hs.symm⟩, Lf, by simp only; omega⟩
                · have har := har l (a - l) d (M a l) ⟨by omega, by omega⟩ ⟨by omega, by omega⟩ ⟨by omega, by omega⟩
                  have g1 := hge a l (d - 1) (a - l - d) (by omega) (by omega) (by omega) (by omega)
                  have g2 := hge a l l (d - 1) (by omega) (by omega) (by omega) (by omega)
                  have b1 := (nd_facts (a := (d - 1).toNat) (b := (a - l - d).toNat) (by omega)).2.2.1
                  have b2 := (nd_facts (a := l.toNat) (b := (d - 1).toNat) (by omega)).2.2.1
                  have hv : ((1 + afK l.toNat (a - l).toNat (d + l).toNat : Nat) : Int) = 1 + max ((M a l [d - 1, a - l - d]).getD 0) ((M a l [l, d - 1]).getD 0) := by
                    rw [g1, g2]
                    unfold afK afR
                    rw [if_neg (by omega), show (d + l).toNat - l.toNat - 1 = (d - 1).toNat by omega, show (a - l).toNat - ((d - 1).toNat + 1) = (a - l - d).toNat by omega]
                    omega
                  rw [hv] at hs
                  have hv1 : 0 ≤ max ((M a l [d - 1, a - l - d]).getD 0) ((M a l [l, d - 1]).getD 0) ∧ max ((M a l [d - 1, a - l - d]).getD 0) ((M a l [l, d - 1]).getD 0) ≤ 60 := by rw [g1, g2]; omega
                  clear hv g1 g2 b1 b2
                  generalize max ((M a l [d - 1, a - l - d]).getD 0) ((M a l [l, d - 1]).getD 0) = z at *
                  conv => whnf
                  repeat' first | ((first | refine Ob.a ?_ | refine Sp.tt ?_ | refine Sp.ff ?_ | refine Sp.yes ?_ | refine Sp.no ?_ | refine Sp.nyes ?_ | refine Sp.nno ?_);conv=>whnf) | (refine Sp.ne (fun hc => ?_) (fun hc => ?_) <;> (conv=>whnf)) | (refine Sp.dec (fun hc => ?_) (fun hc => ?_) <;> (conv=>whnf)) | (refine Sp.ndec (fun hc => ?_) (fun hc => ?_) <;> (conv=>whnf)) | (refine Sp.mk (fun hc => ?_) (fun hc => ?_) <;> (conv=>whnf)) | (apply Cl.go;(conv=>whnf); (first | refine Ob.call (har) ?_);(conv=>whnf)) | (refine Nx.mk (fun ka kb kx hx hs => ?_) (fun he => ?_) <;> (conv=>whnf)) | (refine Nx.mk (fun ka kx hx hs => ?_) (fun he => ?_) <;> (conv=>whnf)) | (refine Uk.mk (fun hn => ?_) ?_ <;> (conv=>whnf)) | (refine Ap.a ?_ ?_ <;> (conv=>whnf)) | (refine Fi.a ?_;conv=>whnf) | (refine Yl.a ?_ ?_ <;> (conv=>whnf)) | (refine Ob.b ?_;conv=>whnf)
                  all_goals first | (exfalso; omega) | exact ⟨rfl, ⟨(d + 1, o ++ [1 + z]), ⟨by simp only; omega, by simp only; omega⟩, hs.symm⟩, Lf, by simp only; omega⟩
            · have hb := hb o hop.1 (by omega)
              have hm : mnI o = ((nd l.toNat (a - l).toNat : Nat) : Int) := by
                rw [ho, show (d + l).toNat = l.toNat + (a - l).toNat + 1 by omega]
                exact trL_min (by omega)
              have hup := hup a l (mnI o) l0 (by omega) (by omega) hm
              generalize mnI o = w at *
              conv => whnf
              repeat' first | ((first | refine Ob.a ?_ | refine Sp.tt ?_ | refine Sp.ff ?_ | refine Sp.yes ?_ | refine Sp.no ?_ | refine Sp.nyes ?_ | refine Sp.nno ?_);conv=>whnf) | (refine Sp.ne (fun hc => ?_) (fun hc => ?_) <;> (conv=>whnf)) | (refine Sp.dec (fun hc => ?_) (fun hc => ?_) <;> (conv=>whnf)) | (refine Sp.ndec (fun hc => ?_) (fun hc => ?_) <;> (conv=>whnf)) | (refine Sp.mk (fun hc => ?_) (fun hc => ?_) <;> (conv=>whnf)) | (apply Cl.go;(conv=>whnf); (first | refine Ob.call (hb) ?_);(conv=>whnf)) | (refine Nx.mk (fun ka kb kx hx hs => ?_) (fun he => ?_) <;> (conv=>whnf)) | (refine Nx.mk (fun ka kx hx hs => ?_) (fun he => ?_) <;> (conv=>whnf)) | (refine Uk.mk (fun hn => ?_) ?_ <;> (conv=>whnf)) | (refine Ap.a ?_ ?_ <;> (conv=>whnf)) | (refine Fi.a ?_;conv=>whnf) | (refine Yl.a ?_ ?_ <;> (conv=>whnf)) | (refine Ob.b ?_;conv=>whnf)
              all_goals first | (exfalso; omega) | exact ⟨rfl, ⟨l + 1, by omega, by omega⟩, Lf, by simp only; omega⟩
          · conv => whnf
            repeat' first | (refine Edge.fast ?_) | ((conv=>whnf); first | exact True.intro | (refine And.intro ?_ ?_) | exact rfl | exact Nat.le_of_eq (Nat.zero_add _) | exact ImpS.refl _ | ((conv => arg 1; whnf); first | exact ImpS.refl _ | (refine ImpS.nil_eq ?_) | (refine ImpS.vnil_eq ?_) | (refine ImpS.row ?_) | (refine ImpS.rowN ?_ ?_) | (refine ImpS.sl_eq ?_) | (refine ImpS.expl rfl ?_)) | (refine row_snoc' ?_) | exact MImp.refl _ | exact cimp_none | exact cimp_same | exact List.not_mem_nil | exact DImp.refl _) | exact rfl | (refine And.intro ?_ ?_) | exact ImpS.refl _
            all_goals first | exact Lf | (intro j hj; obtain rfl : j = 0 := by (have : j < 1 := hj; omega)
                                          exact Lf)
        · obtain rfl : l = a + 1 := by omega
          conv => whnf
          repeat' first | ((first | refine Ob.a ?_ | refine Sp.tt ?_ | refine Sp.ff ?_ | refine Sp.yes ?_ | refine Sp.no ?_ | refine Sp.nyes ?_ | refine Sp.nno ?_);conv=>whnf) | (refine Sp.ne (fun hc => ?_) (fun hc => ?_) <;> (conv=>whnf)) | (refine Sp.dec (fun hc => ?_) (fun hc => ?_) <;> (conv=>whnf)) | (refine Sp.ndec (fun hc => ?_) (fun hc => ?_) <;> (conv=>whnf)) | (refine Sp.mk (fun hc => ?_) (fun hc => ?_) <;> (conv=>whnf)) | (refine Nx.mk (fun ka kb kx hx hs => ?_) (fun he => ?_) <;> (conv=>whnf)) | (refine Nx.mk (fun ka kx hx hs => ?_) (fun he => ?_) <;> (conv=>whnf)) | (refine Uk.mk (fun hn => ?_) ?_ <;> (conv=>whnf)) | (refine Ap.a ?_ ?_ <;> (conv=>whnf)) | (refine Fi.a ?_;conv=>whnf) | (refine Yl.a ?_ ?_ <;> (conv=>whnf)) | (refine Ob.b ?_;conv=>whnf)
          all_goals first | (exfalso; omega) | exact ⟨rfl, ⟨a + 1, by omega, by omega⟩, Lf, by simp only; omega⟩
      · exact Lf
    · obtain rfl : a = q + 1 := by omega
      conv => whnf
      repeat' first | ((first | refine Ob.a ?_ | refine Sp.tt ?_ | refine Sp.ff ?_ | refine Sp.yes ?_ | refine Sp.no ?_ | refine Sp.nyes ?_ | refine Sp.nno ?_);conv=>whnf) | (refine Sp.ne (fun hc => ?_) (fun hc => ?_) <;> (conv=>whnf)) | (refine Sp.dec (fun hc => ?_) (fun hc => ?_) <;> (conv=>whnf)) | (refine Sp.ndec (fun hc => ?_) (fun hc => ?_) <;> (conv=>whnf)) | (refine Sp.mk (fun hc => ?_) (fun hc => ?_) <;> (conv=>whnf)) | (refine Nx.mk (fun ka kb kx hx hs => ?_) (fun he => ?_) <;> (conv=>whnf)) | (refine Nx.mk (fun ka kx hx hs => ?_) (fun he => ?_) <;> (conv=>whnf)) | (refine Uk.mk (fun hn => ?_) ?_ <;> (conv=>whnf)) | (refine Ap.a ?_ ?_ <;> (conv=>whnf)) | (refine Fi.a ?_;conv=>whnf) | (refine Yl.a ?_ ?_ <;> (conv=>whnf)) | (refine Ob.b ?_;conv=>whnf)
      all_goals first | (exfalso; omega) | exact Lf
  · exact Lf
end Go.Px.Try

/-! Bp16 -/
namespace Go.Px.Try
open Go Go.Proofs Go.Px
set_option maxRecDepth 100000
def needR (a b : Int) : Int × Int := if a < 0 ∨ 30 < a ∨ b < 0 ∨ 30 < b then (0, 3) else (((nd a.toNat b.toNat : Nat) : Int), 0)
set_option maxHeartbeats 8000000 in
theorem NeedP_spec (a b : Int) : Fn Try.prog 33 [int a, int b] (tpl [int (needR a b).1, int (needR a b).2]) := by
  have hw := within_is 0 30 [a, b] ((0 ≤ a ∧ a ≤ 30) ∧ (0 ≤ b ∧ b ≤ 30)) (by simp) (by simp)
  by_cases h : (0 ≤ a ∧ a ≤ 30) ∧ (0 ≤ b ∧ b ≤ 30)
  · have e : needR a b = (((nd a.toNat b.toNat : Nat) : Int), 0) := if_neg (by omega)
    have hn := needs_spec (a + b) (by omega) (by omega)
    have hg := ndR_get (q := a + b) (x := a) (y := b) (Int.le_refl _) (by omega) (by omega)
    rw [e, ← hg]
    rw [decide_eq_true h] at hw
    generalize ndR (a + b) = M at *
    refine Fn.of_ex (cuts := []) tys hM Try.func33 rfl Try.call33 rfl ?_
    show exC Try.prog T [] _ false none 0 (entry 19 [int a, int b]) (finQ T [ResultVar.tmp 4, ResultVar.tmp 5] _)
    conv => whnf
    repeat' first | ((first | refine Ob.a ?_ | refine Sp.tt ?_ | refine Sp.ff ?_ | refine Sp.yes ?_ | refine Sp.no ?_ | refine Sp.nyes ?_ | refine Sp.nno ?_);conv=>whnf) | (refine Sp.ne (fun hc => ?_) (fun hc => ?_) <;> (conv=>whnf)) | (refine Sp.dec (fun hc => ?_) (fun hc => ?_) <;> (conv=>whnf)) | (refine Sp.ndec (fun hc => ?_) (fun hc => ?_) <;> (conv=>whnf)) | (refine Sp.mk (fun hc => ?_) (fun hc => ?_) <;> (conv=>whnf)) | (apply Cl.go;(conv=>whnf); (first | refine Ob.call (hw) ?_ | refine Ob.call (hn) ?_);(conv=>whnf)) | (refine Nx.mk (fun ka kb kx hx hs => ?_) (fun he => ?_) <;> (conv=>whnf)) | (refine Nx.mk (fun ka kx hx hs => ?_) (fun he => ?_) <;> (conv=>whnf)) | (refine Uk.mk (fun hn => ?_) ?_ <;> (conv=>whnf)) | (refine Ap.a ?_ ?_ <;> (conv=>whnf)) | (refine Fi.a ?_;conv=>whnf) | (refine Yl.a ?_ ?_ <;> (conv=>whnf)) | (refine Ob.b ?_;conv=>whnf)
    all_goals exact Lf
  · have e : needR a b = (0, 3) := if_pos (by omega)
    rw [e]
    rw [decide_eq_false h] at hw
    refine Fn.of_ex (cuts := []) tys hM Try.func33 rfl Try.call33 rfl ?_
    show exC Try.prog T [] _ false none 0 (entry 19 [int a, int b]) (finQ T [ResultVar.tmp 4, ResultVar.tmp 5] _)
    conv => whnf
    repeat' first | ((first | refine Ob.a ?_ | refine Sp.tt ?_ | refine Sp.ff ?_ | refine Sp.yes ?_ | refine Sp.no ?_ | refine Sp.nyes ?_ | refine Sp.nno ?_);conv=>whnf) | (refine Sp.ne (fun hc => ?_) (fun hc => ?_) <;> (conv=>whnf)) | (refine Sp.dec (fun hc => ?_) (fun hc => ?_) <;> (conv=>whnf)) | (refine Sp.ndec (fun hc => ?_) (fun hc => ?_) <;> (conv=>whnf)) | (refine Sp.mk (fun hc => ?_) (fun hc => ?_) <;> (conv=>whnf)) | (apply Cl.go;(conv=>whnf); (first | refine Ob.call (hw) ?_);(conv=>whnf)) | (refine Nx.mk (fun ka kb kx hx hs => ?_) (fun he => ?_) <;> (conv=>whnf)) | (refine Nx.mk (fun ka kx hx hs => ?_) (fun he => ?_) <;> (conv=>whnf)) | (refine Uk.mk (fun hn => ?_) ?_ <;> (conv=>whnf)) | (refine Ap.a ?_ ?_ <;> (conv=>whnf)) | (refine Fi.a ?_;conv=>whnf) | (refine Yl.a ?_ ?_ <;> (conv=>whnf)) | (refine Ob.b ?_;conv=>whnf)
    all_goals exact Lf
theorem first_ex {P : Nat → Prop} : ∀ (n : Nat), P n → ∃ k, k ≤ n ∧ P k ∧ ∀ j, j < k → ¬ P j := by
  intro n
  induction n using Nat.strongRecOn with
  | ind n ih =>
    intro h
    by_cases hn : ∃ j, j < n ∧ P j
    · obtain ⟨j, h1, h2⟩ := hn
      obtain ⟨k, a, b, c⟩ := ih j h1 h2
      exact ⟨k, by omega, b, c⟩
    · exact ⟨n, Nat.le_refl _, h, fun j hj hp => hn ⟨j, hj, hp⟩⟩
theorem nxt_ex {a b : Nat} (h0 : 0 < a + b) (h : a + b ≤ 60) : ∃ k, k ≤ a + b ∧ k ≠ a ∧ afK a b k < nd a b := by
  have hL : ∀ e, e < a → e + 1 ≤ a ∧ a - e - 1 ≤ a + b := fun e he => by omega
  rw [nd_rec h]
  rcases bsR_at a b b with e | ⟨e, he, h3⟩
  · rcases bsL_at a b a with e2 | ⟨e2, he2, h3⟩
    · rw [e, e2]
      by_cases ha : 0 < a
      · refine ⟨0, by omega, by omega, ?_⟩
        unfold afK afL
        rw [if_pos ha]
        have b1 := (nd_facts (a := a - (a - 0 - 1 + 1)) (b := a - 0 - 1) (by omega)).2.2.1
        have b2 := (nd_facts (a := a - 0 - 1) (b := b) (by omega)).2.2.1
        omega
      · refine ⟨a + b, by omega, by omega, ?_⟩
        unfold afK afR
        rw [if_neg (by omega)]
        have b1 := (nd_facts (a := a + b - a - 1) (b := b - (a + b - a - 1 + 1)) (by omega)).2.2.1
        have b2 := (nd_facts (a := a) (b := a + b - a - 1) (by omega)).2.2.1
        omega
    · rw [e, h3]
      refine ⟨a - e2 - 1, by omega, by omega, ?_⟩
      unfold afK; rw [if_pos (by omega), show a - (a - e2 - 1) - 1 = e2 by omega]; omega
  · rw [h3]
    refine ⟨a + e + 1, by omega, by omega, ?_⟩
    unfold afK; rw [if_neg (by omega), show a + e + 1 - a - 1 = e by omega]; omega
/-- A taste after which less is needed. -/
structure NxtOk (l r d : Int) : Prop where
  lo : 0 - l ≤ d
  hi : d ≤ r
  nz : d ≠ 0
  lt : afK l.toNat r.toNat (d + l).toNat < nd l.toNat r.toNat
theorem NextP_bad (a b : Int) (h : a < 0 ∨ 30 < a ∨ b < 0 ∨ 30 < b) : Fn Try.prog 37 [int a, int b] (tpl [int 0, int 3]) := by
  have hn := NeedP_spec a b
  rw [show needR a b = (0, 3) from if_pos h] at hn
  refine Fn.of_ex (cuts := []) tys hM Try.func37 rfl Try.call37 rfl ?_
  show exC Try.prog T [] _ false none 0 (entry 49 [int a, int b]) (finQ T [ResultVar.tmp 4, ResultVar.tmp 5] _)
  conv => whnf
  repeat' first | ((first | refine Ob.a ?_ | refine Sp.tt ?_ | refine Sp.ff ?_ | refine Sp.yes ?_ | refine Sp.no ?_ | refine Sp.nyes ?_ | refine Sp.nno ?_);conv=>whnf) | (refine Sp.ne (fun hc => ?_) (fun hc => ?_) <;> (conv=>whnf)) | (refine Sp.dec (fun hc => ?_) (fun hc => ?_) <;> (conv=>whnf)) | (refine Sp.ndec (fun hc => ?_) (fun hc => ?_) <;> (conv=>whnf)) | (refine Sp.mk (fun hc => ?_) (fun hc => ?_) <;> (conv=>whnf)) | (apply Cl.go;(conv=>whnf); (first | refine Ob.call (hn) ?_);(conv=>whnf)) | (refine Nx.mk (fun ka kb kx hx hs => ?_) (fun he => ?_) <;> (conv=>whnf)) | (refine Nx.mk (fun ka kx hx hs => ?_) (fun he => ?_) <;> (conv=>whnf)) | (refine Uk.mk (fun hn => ?_) ?_ <;> (conv=>whnf)) | (refine Ap.a ?_ ?_ <;> (conv=>whnf)) | (refine Fi.a ?_;conv=>whnf) | (refine Yl.a ?_ ?_ <;> (conv=>whnf)) | (refine Ob.b ?_;conv=>whnf)
  all_goals exact Lf
theorem NextP_none : Fn Try.prog 37 [int 0, int 0] (tpl [int 0, int 5]) := by
  have hn := NeedP_spec 0 0
  rw [show needR 0 0 = (0, 0) by decide +kernel] at hn
  refine Fn.of_ex (cuts := []) tys hM Try.func37 rfl Try.call37 rfl ?_
  show exC Try.prog T [] _ false none 0 (entry 49 [int 0, int 0]) (finQ T [ResultVar.tmp 4, ResultVar.tmp 5] _)
  conv => whnf
  repeat' first | ((first | refine Ob.a ?_ | refine Sp.tt ?_ | refine Sp.ff ?_ | refine Sp.yes ?_ | refine Sp.no ?_ | refine Sp.nyes ?_ | refine Sp.nno ?_);conv=>whnf) | (refine Sp.ne (fun hc => ?_) (fun hc => ?_) <;> (conv=>whnf)) | (refine Sp.dec (fun hc => ?_) (fun hc => ?_) <;> (conv=>whnf)) | (refine Sp.ndec (fun hc => ?_) (fun hc => ?_) <;> (conv=>whnf)) | (refine Sp.mk (fun hc => ?_) (fun hc => ?_) <;> (conv=>whnf)) | (apply Cl.go;(conv=>whnf); (first | refine Ob.call (hn) ?_);(conv=>whnf)) | (refine Nx.mk (fun ka kb kx hx hs => ?_) (fun he => ?_) <;> (conv=>whnf)) | (refine Nx.mk (fun ka kx hx hs => ?_) (fun he => ?_) <;> (conv=>whnf)) | (refine Uk.mk (fun hn => ?_) ?_ <;> (conv=>whnf)) | (refine Ap.a ?_ ?_ <;> (conv=>whnf)) | (refine Fi.a ?_;conv=>whnf) | (refine Yl.a ?_ ?_ <;> (conv=>whnf)) | (refine Ob.b ?_;conv=>whnf)
  all_goals first | (exfalso; omega) | exact Lf
set_option maxHeartbeats 8000000 in
theorem NextP_spec (l r : Int) (hl : 0 ≤ l ∧ l ≤ 30) (hr : 0 ≤ r ∧ r ≤ 30) (h0 : 0 < l + r) : ∃ d, NxtOk l r d ∧ Fn Try.prog 37 [int l, int r] (tpl [int d, int 0]) := by
  obtain ⟨k0, k1, k2, k3⟩ := nxt_ex (a := l.toNat) (b := r.toNat) (by omega) (by omega)
  obtain ⟨k, hk, ⟨hka, hkl⟩, hkn⟩ := first_ex (P := fun k => k ≠ l.toNat ∧ afK l.toNat r.toNat k < nd l.toNat r.toNat) k0 ⟨k2, k3⟩
  refine ⟨(k : Int) - l, ⟨by omega, by omega, by omega, by rw [show ((k : Int) - l + l).toNat = k by omega]; exact hkl⟩, ?_⟩
  have hn := NeedP_spec l r
  rw [show needR l r = (((nd l.toNat r.toNat : Nat) : Int), 0) from if_neg (by omega)] at hn
  have hmap := needs_spec (l + r) (by omega) (by omega)
  have hal := fun d a => after_left l r d (ndR (l + r)) (by omega) (by omega) a
  have har := fun d a => after_right l r d (ndR (l + r)) (by omega) (by omega) a
  have hge : ∀ x y : Int, x + y ≤ l + r → 0 ≤ x → 0 ≤ y → (ndR (l + r) [x, y]).getD 0 = ((nd x.toNat y.toNat : Nat) : Int) := fun x y a b c => ndR_get a b c
  have hv1 : ∀ d : Int, 0 - l ≤ d → d ≤ 0 → d ≠ 0 → max ((ndR (l + r) [l + d, 0 - d - 1]).getD 0) ((ndR (l + r) [0 - d - 1, r]).getD 0) = ((afK l.toNat r.toNat (d + l).toNat : Nat) : Int) := fun d a b c => by
    rw [hge _ _ (by omega) (by omega) (by omega), hge _ _ (by omega) (by omega) (by omega)]
    unfold afK afL
    rw [if_pos (by omega), show l.toNat - (d + l).toNat - 1 = (0 - d - 1).toNat by omega, show l.toNat - ((0 - d - 1).toNat + 1) = (l + d).toNat by omega]
    omega
  have hv2 : ∀ d : Int, 0 < d → d ≤ r → max ((ndR (l + r) [d - 1, r - d]).getD 0) ((ndR (l + r) [l, d - 1]).getD 0) = ((afK l.toNat r.toNat (d + l).toNat : Nat) : Int) := fun d a b => by
    rw [hge _ _ (by omega) (by omega) (by omega), hge _ _ (by omega) (by omega) (by omega)]
    unfold afK afR
    rw [if_neg (by omega), show (d + l).toNat - l.toNat - 1 = (d - 1).toNat by omega, show r.toNat - ((d - 1).toNat + 1) = (r - d).toNat by omega]
    omega
  generalize ndR (l + r) = M at *
  have hno : ∀ d : Int, 0 - l ≤ d → d < (k : Int) - l → d ≠ 0 → ((nd l.toNat r.toNat : Nat) : Int) ≤ ((afK l.toNat r.toNat (d + l).toNat : Nat) : Int) := fun d a b c => by
    have := hkn (d + l).toNat (by omega)
    have h2 : ¬ afK l.toNat r.toNat (d + l).toNat < nd l.toNat r.toNat := fun h => this ⟨by omega, h⟩
    omega
  generalize nd l.toNat r.toNat = w at *
  refine Fn.of_ex (cuts := []) tys hM Try.func37 rfl Try.call37 rfl ?_
  show exC Try.prog T [] _ false none 0 (entry 49 [int l, int r]) (finQ T [ResultVar.tmp 4, ResultVar.tmp 5] _)
  conv => whnf
  repeat' first | ((first | refine Ob.a ?_ | refine Sp.tt ?_ | refine Sp.ff ?_ | refine Sp.yes ?_ | refine Sp.no ?_ | refine Sp.nyes ?_ | refine Sp.nno ?_);conv=>whnf) | (refine Sp.ne (fun hc => ?_) (fun hc => ?_) <;> (conv=>whnf)) | (refine Sp.dec (fun hc => ?_) (fun hc => ?_) <;> (conv=>whnf)) | (refine Sp.ndec (fun hc => ?_) (fun hc => ?_) <;> (conv=>whnf)) | (refine Sp.mk (fun hc => ?_) (fun hc => ?_) <;> (conv=>whnf)) | (apply Cl.go;(conv=>whnf); (first | refine Ob.call (hn) ?_ | refine Ob.call (hmap) ?_);(conv=>whnf)) | (refine Nx.mk (fun ka kb kx hx hs => ?_) (fun he => ?_) <;> (conv=>whnf)) | (refine Nx.mk (fun ka kx hx hs => ?_) (fun he => ?_) <;> (conv=>whnf)) | (refine Uk.mk (fun hn => ?_) ?_ <;> (conv=>whnf)) | (refine Ap.a ?_ ?_ <;> (conv=>whnf)) | (refine Fi.a ?_;conv=>whnf) | (refine Yl.a ?_ ?_ <;> (conv=>whnf)) | (refine Ob.b ?_;conv=>whnf)
  all_goals try (exfalso; omega)
  refine Lp.snap [0, 1, 6, 8] 100 ?_
  (conv=>whnf)
  refine LpB.go 49 ({d : Int // 0 - l ≤ d ∧ d ≤ (k : Int) - l}) 0 (fun ⟨d, _⟩ nx => ([(9, .d (int d))], [])) (fun p => (r + 1 - p.1).toNat) (⟨0 - l, by omega, by omega⟩) ?_ ?_
  · rintro ⟨d, d0, d1⟩
    by_cases hd : d < (k : Int) - l
    · have hno := hno d d0 hd
      by_cases hz : d = 0
      · conv => whnf
        repeat' first | ((first | refine Ob.a ?_ | refine Sp.tt ?_ | refine Sp.ff ?_ | refine Sp.yes ?_ | refine Sp.no ?_ | refine Sp.nyes ?_ | refine Sp.nno ?_);conv=>whnf) | (refine Sp.ne (fun hc => ?_) (fun hc => ?_) <;> (conv=>whnf)) | (refine Sp.dec (fun hc => ?_) (fun hc => ?_) <;> (conv=>whnf)) | (refine Sp.ndec (fun hc => ?_) (fun hc => ?_) <;> (conv=>whnf)) | (refine Sp.mk (fun hc => ?_) (fun hc => ?_) <;> (conv=>whnf)) | (refine Nx.mk (fun ka kb kx hx hs => ?_) (fun he => ?_) <;> (conv=>whnf)) | (refine Nx.mk (fun ka kx hx hs => ?_) (fun he => ?_) <;> (conv=>whnf)) | (refine Uk.mk (fun hn => ?_) ?_ <;> (conv=>whnf)) | (refine Ap.a ?_ ?_ <;> (conv=>whnf)) | (refine Fi.a ?_;conv=>whnf) | (refine Yl.a ?_ ?_ <;> (conv=>whnf)) | (refine Ob.b ?_;conv=>whnf)
        all_goals first | (exfalso; omega) | exact ⟨rfl, ⟨d + 1, by omega, by omega⟩, Lf, by simp only; omega⟩
      · by_cases hn : d ≤ 0
        · have hal := hal d ⟨by omega, hn⟩
          rw [hv1 d d0 hn hz] at hal
          have hno := hno hz
          conv => whnf
          repeat' first | ((first | refine Ob.a ?_ | refine Sp.tt ?_ | refine Sp.ff ?_ | refine Sp.yes ?_ | refine Sp.no ?_ | refine Sp.nyes ?_ | refine Sp.nno ?_);conv=>whnf) | (refine Sp.ne (fun hc => ?_) (fun hc => ?_) <;> (conv=>whnf)) | (refine Sp.dec (fun hc => ?_) (fun hc => ?_) <;> (conv=>whnf)) | (refine Sp.ndec (fun hc => ?_) (fun hc => ?_) <;> (conv=>whnf)) | (refine Sp.mk (fun hc => ?_) (fun hc => ?_) <;> (conv=>whnf)) | (apply Cl.go;(conv=>whnf); (first | refine Ob.call (hal) ?_);(conv=>whnf)) | (refine Nx.mk (fun ka kb kx hx hs => ?_) (fun he => ?_) <;> (conv=>whnf)) | (refine Nx.mk (fun ka kx hx hs => ?_) (fun he => ?_) <;> (conv=>whnf)) | (refine Uk.mk (fun hn => ?_) ?_ <;> (conv=>whnf)) | (refine Ap.a ?_ ?_ <;> (conv=>whnf)) | (refine Fi.a ?_;conv=>whnf) | (refine Yl.a ?_ ?_ <;> (conv=>whnf)) | (refine Ob.b ?_;conv=>whnf)
          all_goals first | (exfalso; omega) | exact ⟨rfl, ⟨d + 1, by omega, by omega⟩, Lf, by simp only; omega⟩
        · have har := har d ⟨by omega, by omega⟩
          rw [hv2 d (by omega) (by omega)] at har
          have hno := hno hz
          conv => whnf
          repeat' first | ((first | refine Ob.a ?_ | refine Sp.tt ?_ | refine Sp.ff ?_ | refine Sp.yes ?_ | refine Sp.no ?_ | refine Sp.nyes ?_ | refine Sp.nno ?_);conv=>whnf) | (refine Sp.ne (fun hc => ?_) (fun hc => ?_) <;> (conv=>whnf)) | (refine Sp.dec (fun hc => ?_) (fun hc => ?_) <;> (conv=>whnf)) | (refine Sp.ndec (fun hc => ?_) (fun hc => ?_) <;> (conv=>whnf)) | (refine Sp.mk (fun hc => ?_) (fun hc => ?_) <;> (conv=>whnf)) | (apply Cl.go;(conv=>whnf); (first | refine Ob.call (har) ?_);(conv=>whnf)) | (refine Nx.mk (fun ka kb kx hx hs => ?_) (fun he => ?_) <;> (conv=>whnf)) | (refine Nx.mk (fun ka kx hx hs => ?_) (fun he => ?_) <;> (conv=>whnf)) | (refine Uk.mk (fun hn => ?_) ?_ <;> (conv=>whnf)) | (refine Ap.a ?_ ?_ <;> (conv=>whnf)) | (refine Fi.a ?_;conv=>whnf) | (refine Yl.a ?_ ?_ <;> (conv=>whnf)) | (refine Ob.b ?_;conv=>whnf)
          all_goals first | (exfalso; omega) | exact ⟨rfl, ⟨d + 1, by omega, by omega⟩, Lf, by simp only; omega⟩
    · obtain rfl : d = (k : Int) - l := by omega
      have hkl : ((afK l.toNat r.toNat ((k : Int) - l + l).toNat : Nat) : Int) < (w : Nat) := by rw [show ((k : Int) - l + l).toNat = k by omega]; omega
      by_cases hn : (k : Int) - l ≤ 0
      · have hal := hal _ ⟨by omega, hn⟩
        rw [hv1 _ d0 hn (by omega)] at hal
        conv => whnf
        repeat' first | ((first | refine Ob.a ?_ | refine Sp.tt ?_ | refine Sp.ff ?_ | refine Sp.yes ?_ | refine Sp.no ?_ | refine Sp.nyes ?_ | refine Sp.nno ?_);conv=>whnf) | (refine Sp.ne (fun hc => ?_) (fun hc => ?_) <;> (conv=>whnf)) | (refine Sp.dec (fun hc => ?_) (fun hc => ?_) <;> (conv=>whnf)) | (refine Sp.ndec (fun hc => ?_) (fun hc => ?_) <;> (conv=>whnf)) | (refine Sp.mk (fun hc => ?_) (fun hc => ?_) <;> (conv=>whnf)) | (apply Cl.go;(conv=>whnf); (first | refine Ob.call (hal) ?_);(conv=>whnf)) | (refine Nx.mk (fun ka kb kx hx hs => ?_) (fun he => ?_) <;> (conv=>whnf)) | (refine Nx.mk (fun ka kx hx hs => ?_) (fun he => ?_) <;> (conv=>whnf)) | (refine Uk.mk (fun hn => ?_) ?_ <;> (conv=>whnf)) | (refine Ap.a ?_ ?_ <;> (conv=>whnf)) | (refine Fi.a ?_;conv=>whnf) | (refine Yl.a ?_ ?_ <;> (conv=>whnf)) | (refine Ob.b ?_;conv=>whnf)
        all_goals first | (exfalso; omega) | exact Lf
      · have har := har ((k : Int) - l) ⟨by omega, by omega⟩
        rw [hv2 _ (by omega) (by omega)] at har
        conv => whnf
        repeat' first | ((first | refine Ob.a ?_ | refine Sp.tt ?_ | refine Sp.ff ?_ | refine Sp.yes ?_ | refine Sp.no ?_ | refine Sp.nyes ?_ | refine Sp.nno ?_);conv=>whnf) | (refine Sp.ne (fun hc => ?_) (fun hc => ?_) <;> (conv=>whnf)) | (refine Sp.dec (fun hc => ?_) (fun hc => ?_) <;> (conv=>whnf)) | (refine Sp.ndec (fun hc => ?_) (fun hc => ?_) <;> (conv=>whnf)) | (refine Sp.mk (fun hc => ?_) (fun hc => ?_) <;> (conv=>whnf)) | (apply Cl.go;(conv=>whnf); (first | refine Ob.call (har) ?_);(conv=>whnf)) | (refine Nx.mk (fun ka kb kx hx hs => ?_) (fun he => ?_) <;> (conv=>whnf)) | (refine Nx.mk (fun ka kx hx hs => ?_) (fun he => ?_) <;> (conv=>whnf)) | (refine Uk.mk (fun hn => ?_) ?_ <;> (conv=>whnf)) | (refine Ap.a ?_ ?_ <;> (conv=>whnf)) | (refine Fi.a ?_;conv=>whnf) | (refine Yl.a ?_ ?_ <;> (conv=>whnf)) | (refine Ob.b ?_;conv=>whnf)
        all_goals first | (exfalso; omega) | exact Lf
  · exact Lf
end Go.Px.Try

/-! Bp17 -/
namespace Go.Px.Try
open Go Go.Proofs Go.Px
set_option maxRecDepth 100000
def tastesR (n : Int) : Int × Int := if n < 1 ∨ 61 < n then (0, 3) else (((tst n.toNat : Nat) : Int), 0)
def tsL (n i : Nat) : List Int := (List.range i).map fun l => ((1 + nd l (n - 1 - l) : Nat) : Int)
theorem tsL_succ (n i : Nat) : tsL n (i + 1) = tsL n i ++ [((1 + nd i (n - 1 - i) : Nat) : Int)] := by
  unfold tsL; rw [List.range_succ, List.map_append]; rfl
theorem tsL_len (n i : Nat) : (tsL n i).length = i := by simp [tsL]
theorem tsTo_spec (n : Nat) : ∀ i, tsTo n i ≤ n ∧ (∀ l, l < i → tsTo n i ≤ 1 + nd l (n - 1 - l)) ∧ (tsTo n i = n ∨ ∃ l, l < i ∧ tsTo n i = 1 + nd l (n - 1 - l))
  | 0 => ⟨Nat.le_refl _, fun l hl => by omega, .inl rfl⟩
  | i + 1 => by
    obtain ⟨h1, h2, h3⟩ := tsTo_spec n i
    rw [tsTo]
    refine ⟨by omega, fun l hl => ?_, ?_⟩
    · by_cases e : l = i
      · subst e; omega
      · have := h2 l (by omega); omega
    · by_cases hc : tsTo n i ≤ 1 + nd i (n - 1 - i)
      · rw [Nat.min_eq_left hc]
        rcases h3 with e | ⟨l, hl, e⟩
        · exact .inl e
        · exact .inr ⟨l, by omega, e⟩
      · rw [Nat.min_eq_right (by omega)]; exact .inr ⟨i, by omega, rfl⟩
theorem tsL_min {n : Nat} (h : 2 ≤ n) (h2 : n ≤ 61) : mnI (tsL n n) = ((tst n : Nat) : Int) := by
  obtain ⟨m1, m2⟩ := mnI_spec (l := tsL n n) (by rw [tsL_len]; omega)
  obtain ⟨t1, t2, t3⟩ := tsTo_spec n n
  have e : tst n = tsTo n n := if_neg (by omega)
  rw [e]
  have hmem : ∀ l, l < n → ((1 + nd l (n - 1 - l) : Nat) : Int) ∈ tsL n n := fun l hl => List.mem_map.2 ⟨l, List.mem_range.2 hl, rfl⟩
  obtain ⟨q, hq, hq2⟩ := List.mem_map.1 m2
  have hq := List.mem_range.1 hq
  apply Int.le_antisymm
  · rcases t3 with e2 | ⟨l, hl, e2⟩
    · rw [e2]
      have := m1 _ (hmem 0 (by omega))
      have b := (nd_facts (a := 0) (b := n - 1 - 0) (by omega)).2.2.1
      omega
    · rw [e2]; exact m1 _ (hmem l hl)
  · rw [← hq2]
    have := t2 q hq
    omega
set_option maxHeartbeats 8000000 in
theorem TastesP_spec (n : Int) : Fn Try.prog 35 [int n] (tpl [int (tastesR n).1, int (tastesR n).2]) := by
  have hw := within_one 1 61 n
  by_cases h : 1 ≤ n ∧ n ≤ 61
  case neg =>
    have e : tastesR n = (0, 3) := if_pos (by omega)
    rw [e]
    rw [decide_eq_false h] at hw
    refine Fn.of_ex (cuts := []) tys hM Try.func35 rfl Try.call35 rfl ?_
    show exC Try.prog T [] _ false none 0 (entry 35 [int n]) (finQ T [ResultVar.tmp 2, ResultVar.tmp 3] _)
    conv => whnf
    repeat' first | ((first | refine Ob.a ?_ | refine Sp.tt ?_ | refine Sp.ff ?_ | refine Sp.yes ?_ | refine Sp.no ?_ | refine Sp.nyes ?_ | refine Sp.nno ?_);conv=>whnf) | (refine Sp.ne (fun hc => ?_) (fun hc => ?_) <;> (conv=>whnf)) | (refine Sp.dec (fun hc => ?_) (fun hc => ?_) <;> (conv=>whnf)) | (refine Sp.ndec (fun hc => ?_) (fun hc => ?_) <;> (conv=>whnf)) | (refine Sp.mk (fun hc => ?_) (fun hc => ?_) <;> (conv=>whnf)) | (apply Cl.go;(conv=>whnf); (first | refine Ob.call (hw) ?_);(conv=>whnf)) | (refine Nx.mk (fun ka kb kx hx hs => ?_) (fun he => ?_) <;> (conv=>whnf)) | (refine Nx.mk (fun ka kx hx hs => ?_) (fun he => ?_) <;> (conv=>whnf)) | (refine Uk.mk (fun hn => ?_) ?_ <;> (conv=>whnf)) | (refine Ap.a ?_ ?_ <;> (conv=>whnf)) | (refine Fi.a ?_;conv=>whnf) | (refine Yl.a ?_ ?_ <;> (conv=>whnf)) | (refine Ob.b ?_;conv=>whnf)
    all_goals exact Lf
  rw [decide_eq_true h] at hw
  have e : tastesR n = (((tst n.toNat : Nat) : Int), 0) := if_neg (by omega)
  rw [e]
  by_cases h1 : n = 1
  · subst h1
    have e1 : ((tst (Int.toNat 1) : Nat) : Int) = 0 := rfl
    rw [e1]
    refine Fn.of_ex (cuts := []) tys hM Try.func35 rfl Try.call35 rfl ?_
    show exC Try.prog T [] _ false none 0 (entry 35 [int 1]) (finQ T [ResultVar.tmp 2, ResultVar.tmp 3] _)
    conv => whnf
    repeat' first | ((first | refine Ob.a ?_ | refine Sp.tt ?_ | refine Sp.ff ?_ | refine Sp.yes ?_ | refine Sp.no ?_ | refine Sp.nyes ?_ | refine Sp.nno ?_);conv=>whnf) | (refine Sp.ne (fun hc => ?_) (fun hc => ?_) <;> (conv=>whnf)) | (refine Sp.dec (fun hc => ?_) (fun hc => ?_) <;> (conv=>whnf)) | (refine Sp.ndec (fun hc => ?_) (fun hc => ?_) <;> (conv=>whnf)) | (refine Sp.mk (fun hc => ?_) (fun hc => ?_) <;> (conv=>whnf)) | (apply Cl.go;(conv=>whnf); (first | refine Ob.call (hw) ?_);(conv=>whnf)) | (refine Nx.mk (fun ka kb kx hx hs => ?_) (fun he => ?_) <;> (conv=>whnf)) | (refine Nx.mk (fun ka kx hx hs => ?_) (fun he => ?_) <;> (conv=>whnf)) | (refine Uk.mk (fun hn => ?_) ?_ <;> (conv=>whnf)) | (refine Ap.a ?_ ?_ <;> (conv=>whnf)) | (refine Fi.a ?_;conv=>whnf) | (refine Yl.a ?_ ?_ <;> (conv=>whnf)) | (refine Ob.b ?_;conv=>whnf)
    all_goals first | (exfalso; omega) | exact Lf
  rw [← tsL_min (by omega) (by omega)]
  have hmap := needs_spec (n - 1) (by omega) (by omega)
  have hb := best_int (tsL n.toNat n.toNat) 68 (by rw [tsL_len]; omega) (by rw [tsL_len]; omega) less2_spec
  have hge : ∀ x : Int, 0 ≤ x → x < n → (ndR (n - 1) [x, n - 1 - x]).getD 0 = ((nd x.toNat (n.toNat - 1 - x.toNat) : Nat) : Int) := fun x a b => by
    rw [ndR_get (by omega) a (by omega), show (n - 1 - x).toNat = n.toNat - 1 - x.toNat by omega]
  have hts : ∀ i : Int, 0 ≤ i → i < n → tsL n.toNat (i + 1).toNat = tsL n.toNat i.toNat ++ [1 + (ndR (n - 1) [i, n - 1 - i]).getD 0] := fun i i0 i1 => by
    rw [show (i + 1).toNat = i.toNat + 1 by omega, tsL_succ, hge i i0 i1]
    congr 2
  have hbd : ∀ x : Int, 0 ≤ x → x < n → 0 ≤ (ndR (n - 1) [x, n - 1 - x]).getD 0 ∧ (ndR (n - 1) [x, n - 1 - x]).getD 0 ≤ 60 := fun x a b => by
    rw [hge x a b]
    have := (nd_facts (a := x.toNat) (b := n.toNat - 1 - x.toNat) (by omega)).2.2.1
    omega
  have htl := tsL_len n.toNat
  have htz : tsL n.toNat (Int.toNat 0) = [] := rfl
  have hfin : ∀ i : Int, i ≤ n → ¬ i < n → tsL n.toNat i.toNat = tsL n.toNat n.toNat := fun i a b => by rw [show i = n by omega]
  clear hge
  generalize ndR (n - 1) = M at *
  generalize mnI (tsL n.toNat n.toNat) = w at *
  generalize hF : tsL n.toNat n.toNat = F at *
  generalize tsL n.toNat = X at *
  refine Fn.of_ex (cuts := []) tys hM Try.func35 rfl Try.call35 rfl ?_
  show exC Try.prog T [] _ false none 0 (entry 35 [int n]) (finQ T [ResultVar.tmp 2, ResultVar.tmp 3] _)
  conv => whnf
  repeat' first | ((first | refine Ob.a ?_ | refine Sp.tt ?_ | refine Sp.ff ?_ | refine Sp.yes ?_ | refine Sp.no ?_ | refine Sp.nyes ?_ | refine Sp.nno ?_);conv=>whnf) | (refine Sp.ne (fun hc => ?_) (fun hc => ?_) <;> (conv=>whnf)) | (refine Sp.dec (fun hc => ?_) (fun hc => ?_) <;> (conv=>whnf)) | (refine Sp.ndec (fun hc => ?_) (fun hc => ?_) <;> (conv=>whnf)) | (refine Sp.mk (fun hc => ?_) (fun hc => ?_) <;> (conv=>whnf)) | (apply Cl.go;(conv=>whnf); (first | refine Ob.call (hw) ?_ | refine Ob.call (hmap) ?_);(conv=>whnf)) | (refine Nx.mk (fun ka kb kx hx hs => ?_) (fun he => ?_) <;> (conv=>whnf)) | (refine Nx.mk (fun ka kx hx hs => ?_) (fun he => ?_) <;> (conv=>whnf)) | (refine Uk.mk (fun hn => ?_) ?_ <;> (conv=>whnf)) | (refine Ap.a ?_ ?_ <;> (conv=>whnf)) | (refine Fi.a ?_;conv=>whnf) | (refine Yl.a ?_ ?_ <;> (conv=>whnf)) | (refine Ob.b ?_;conv=>whnf)
  all_goals try (exfalso; omega)
  refine Lp.snap [0, 2, 3, 4, 16, 33, 34] 100 ?_
  (conv=>whnf)
  refine LpB.go 35 ({q : Int × List Int // (0 ≤ q.1 ∧ q.1 ≤ n) ∧ q.2 = X q.1.toNat}) 0 (fun ⟨(i, o), _⟩ nx => ([(17, .d (int i)), (5, .ms 12 1 0 o.length)], [(12, .row true 3 1 o.length (rowOf int 0 o))])) (fun p => (n - p.1.1).toNat) (⟨(0, []), ⟨by simp only; omega, by simp only; omega⟩, htz.symm⟩) ?_ ?_
  · rintro ⟨⟨i, o⟩, ⟨i0, i1⟩, ho⟩
    simp only at i0 i1 ho
    have hol : o.length = i.toNat := by rw [ho]; exact htl _
    by_cases hi : i < n
    · have hts := hts i i0 hi
      rw [← ho] at hts
      have hbd := hbd i i0 hi
      conv => whnf
      repeat' first | ((first | refine Ob.a ?_ | refine Sp.tt ?_ | refine Sp.ff ?_ | refine Sp.yes ?_ | refine Sp.no ?_ | refine Sp.nyes ?_ | refine Sp.nno ?_);conv=>whnf) | (refine Sp.ne (fun hc => ?_) (fun hc => ?_) <;> (conv=>whnf)) | (refine Sp.dec (fun hc => ?_) (fun hc => ?_) <;> (conv=>whnf)) | (refine Sp.ndec (fun hc => ?_) (fun hc => ?_) <;> (conv=>whnf)) | (refine Sp.mk (fun hc => ?_) (fun hc => ?_) <;> (conv=>whnf)) | (refine Nx.mk (fun ka kb kx hx hs => ?_) (fun he => ?_) <;> (conv=>whnf)) | (refine Nx.mk (fun ka kx hx hs => ?_) (fun he => ?_) <;> (conv=>whnf)) | (refine Uk.mk (fun hn => ?_) ?_ <;> (conv=>whnf)) | (refine Ap.a ?_ ?_ <;> (conv=>whnf)) | (refine Fi.a ?_;conv=>whnf) | (refine Yl.a ?_ ?_ <;> (conv=>whnf)) | (refine Ob.b ?_;conv=>whnf)
      all_goals first | (exfalso; omega) | exact ⟨rfl, ⟨(i + 1, o ++ [1 + (M [i, n - 1 - i]).getD 0]), ⟨by simp only; omega, by simp only; omega⟩, hts.symm⟩, Lf, by simp only; omega⟩
    · have e : F = o := by rw [ho, hfin i i1 hi]
      subst e
      conv => whnf
      repeat' first | ((first | refine Ob.a ?_ | refine Sp.tt ?_ | refine Sp.ff ?_ | refine Sp.yes ?_ | refine Sp.no ?_ | refine Sp.nyes ?_ | refine Sp.nno ?_);conv=>whnf) | (refine Sp.ne (fun hc => ?_) (fun hc => ?_) <;> (conv=>whnf)) | (refine Sp.dec (fun hc => ?_) (fun hc => ?_) <;> (conv=>whnf)) | (refine Sp.ndec (fun hc => ?_) (fun hc => ?_) <;> (conv=>whnf)) | (refine Sp.mk (fun hc => ?_) (fun hc => ?_) <;> (conv=>whnf)) | (apply Cl.go;(conv=>whnf); (first | refine Ob.call (hb) ?_);(conv=>whnf)) | (refine Nx.mk (fun ka kb kx hx hs => ?_) (fun he => ?_) <;> (conv=>whnf)) | (refine Nx.mk (fun ka kx hx hs => ?_) (fun he => ?_) <;> (conv=>whnf)) | (refine Uk.mk (fun hn => ?_) ?_ <;> (conv=>whnf)) | (refine Ap.a ?_ ?_ <;> (conv=>whnf)) | (refine Fi.a ?_;conv=>whnf) | (refine Yl.a ?_ ?_ <;> (conv=>whnf)) | (refine Ob.b ?_;conv=>whnf)
      all_goals first | (exfalso; omega) | exact Lf
  · exact Lf
end Go.Px.Try

/-! Law1 -/
namespace Go.Px.Try
open Go Go.Proofs Go.Px
set_option maxRecDepth 100000
theorem eq_prefix {l l' : List Int} (hl : l.length = l'.length) (h : ∀ j, j < l.length → l.getD j 0 = l'.getD j 0) : l = l' := list_eq hl fun i hi => h i hi
theorem Ints_spec (a b : List Int) (ha : a.length < 1000000) : Fn Try.prog 32 [ints a, ints b] (bool (decide (a = b))) := by
  refine Fn.hide (D := fun r : Bool => bool r) fun r hr => ?_
  have hr0 := hr.h
  have h1 : ¬ a.length = b.length → r = false := fun h => by rw [← hr0]; exact decide_eq_false fun e => h (by rw [e])
  have h2 : ∀ j : Int, 0 ≤ j → j < a.length → ¬ a.getD j.toNat 0 = b.getD j.toNat 0 → r = false := fun j _ _ h => by rw [← hr0]; exact decide_eq_false fun e => h (by rw [e])
  have h3 : a.length = b.length → (∀ j : Int, 0 ≤ j → j < a.length → a.getD j.toNat 0 = b.getD j.toNat 0) → r = true := fun h h' => by
    rw [← hr0]; exact decide_eq_true (eq_prefix h fun j hj => by have := h' j (by omega) (by omega); rwa [Int.toNat_natCast] at this)
  refine Fn.of_ex (cuts := []) tys hM Try.func32 rfl Try.call32 rfl ?_
  show exC Try.prog T [] _ false none 0 (entry 26 [ints a, ints b]) (finQ T [ResultVar.tmp 4] _)
  conv => whnf
  repeat' first | ((first | refine Ob.a ?_ | refine Sp.tt ?_ | refine Sp.ff ?_ | refine Sp.yes ?_ | refine Sp.no ?_ | refine Sp.nyes ?_ | refine Sp.nno ?_);conv=>whnf) | (refine Sp.ne (fun hc => ?_) (fun hc => ?_) <;> (conv=>whnf)) | (refine Sp.dec (fun hc => ?_) (fun hc => ?_) <;> (conv=>whnf)) | (refine Sp.ndec (fun hc => ?_) (fun hc => ?_) <;> (conv=>whnf)) | (refine Sp.mk (fun hc => ?_) (fun hc => ?_) <;> (conv=>whnf)) | (refine Ap.a ?_ ?_ <;> (conv=>whnf)) | (refine Fi.a ?_;conv=>whnf) | (refine Ob.b ?_;conv=>whnf)
  · exact ⟨trivial, (h1 (by omega)).symm⟩
  · have hlen := hc
    refine Lp.snap [0, 1] 40 ?_
    (conv=>whnf)
    refine LpB.go 26 ({i : Int // (0 ≤ i ∧ i ≤ a.length) ∧ ∀ j : Int, 0 ≤ j → j < i → a.getD j.toNat 0 = b.getD j.toNat 0}) 0 (fun ⟨i, _⟩ nx => ([(5, .d (int i))], [])) (fun p => (a.length - p.1).toNat) (⟨0, ⟨by omega, by omega⟩, fun j _ _ => by omega⟩) ?_ ?_
    · rintro ⟨i, ⟨hi0, hi⟩, hinv⟩
      conv => whnf
      repeat' first | ((first | refine Ob.a ?_ | refine Sp.tt ?_ | refine Sp.ff ?_ | refine Sp.yes ?_ | refine Sp.no ?_ | refine Sp.nyes ?_ | refine Sp.nno ?_);conv=>whnf) | (refine Sp.ne (fun hc => ?_) (fun hc => ?_) <;> (conv=>whnf)) | (refine Sp.dec (fun hc => ?_) (fun hc => ?_) <;> (conv=>whnf)) | (refine Sp.ndec (fun hc => ?_) (fun hc => ?_) <;> (conv=>whnf)) | (refine Sp.mk (fun hc => ?_) (fun hc => ?_) <;> (conv=>whnf)) | (refine Ap.a ?_ ?_ <;> (conv=>whnf)) | (refine Fi.a ?_;conv=>whnf) | (refine Ob.b ?_;conv=>whnf)
      · exact ⟨trivial, (h2 i hi0 (by omega) hc).symm⟩
      · exact ⟨rfl, ⟨i + 1, ⟨by omega, by omega⟩, fun j a b => if e : j = i then e ▸ hc else hinv j a (by omega)⟩, Lf, by simp only; omega⟩
      · exact ⟨trivial, (h3 (by omega) fun j a b => hinv j a (by omega)).symm⟩
    · exact Lf
theorem ints_same (l : List Int) (h : l.length < 1000000) : Fn Try.prog 32 [ints l, ints l] (bool true) := by
  have := Ints_spec l l h
  rwa [decide_eq_true rfl] at this
theorem of_spec (l : List Int) : Fn Try.prog 50 [ints l] (ints l) := by
  refine Fn.of_ex (cuts := []) tys hM Try.func50 rfl Try.call50 rfl ?_
  show exC Try.prog T [] _ false none 0 (entry 4 [ints l]) (finQ T [ResultVar.tmp 2] _)
  conv => whnf
  repeat' first | ((first | refine Ob.a ?_ | refine Sp.tt ?_ | refine Sp.ff ?_ | refine Sp.yes ?_ | refine Sp.no ?_ | refine Sp.nyes ?_ | refine Sp.nno ?_);conv=>whnf) | (refine Sp.ne (fun hc => ?_) (fun hc => ?_) <;> (conv=>whnf)) | (refine Sp.dec (fun hc => ?_) (fun hc => ?_) <;> (conv=>whnf)) | (refine Sp.ndec (fun hc => ?_) (fun hc => ?_) <;> (conv=>whnf)) | (refine Sp.mk (fun hc => ?_) (fun hc => ?_) <;> (conv=>whnf)) | (refine Ap.a ?_ ?_ <;> (conv=>whnf)) | (refine Fi.a ?_;conv=>whnf) | (refine Ob.b ?_;conv=>whnf)
  all_goals exact Lf
theorem longs_spec (l : List Int) : Fn Try.prog 46 [ints l] (ints l) := by
  refine Fn.of_ex (cuts := []) tys hM Try.func46 rfl Try.call46 rfl ?_
  show exC Try.prog T [] _ false none 0 (entry 4 [ints l]) (finQ T [ResultVar.tmp 2] _)
  conv => whnf
  repeat' first | ((first | refine Ob.a ?_ | refine Sp.tt ?_ | refine Sp.ff ?_ | refine Sp.yes ?_ | refine Sp.no ?_ | refine Sp.nyes ?_ | refine Sp.nno ?_);conv=>whnf) | (refine Sp.ne (fun hc => ?_) (fun hc => ?_) <;> (conv=>whnf)) | (refine Sp.dec (fun hc => ?_) (fun hc => ?_) <;> (conv=>whnf)) | (refine Sp.ndec (fun hc => ?_) (fun hc => ?_) <;> (conv=>whnf)) | (refine Sp.mk (fun hc => ?_) (fun hc => ?_) <;> (conv=>whnf)) | (refine Ap.a ?_ ?_ <;> (conv=>whnf)) | (refine Fi.a ?_;conv=>whnf) | (refine Ob.b ?_;conv=>whnf)
  all_goals exact Lf
def rowA : List Int := [2, 5, 3, 8, 6, 7, 1]
def rowB : List Int := [1, 4, 4, 2]
theorem seven_spec : Fn Try.prog 48 [] (ints rowA) := by
  have h := longs_spec rowA
  refine Fn.of_ex (cuts := []) tys hM Try.func48 rfl Try.call48 rfl ?_
  show exC Try.prog T [] _ false none 0 (entry 3 []) (finQ T [ResultVar.tmp 0] _)
  conv => whnf
  repeat' first | ((first | refine Ob.a ?_ | refine Sp.tt ?_ | refine Sp.ff ?_ | refine Sp.yes ?_ | refine Sp.no ?_ | refine Sp.nyes ?_ | refine Sp.nno ?_);conv=>whnf) | (refine Sp.ne (fun hc => ?_) (fun hc => ?_) <;> (conv=>whnf)) | (refine Sp.dec (fun hc => ?_) (fun hc => ?_) <;> (conv=>whnf)) | (refine Sp.ndec (fun hc => ?_) (fun hc => ?_) <;> (conv=>whnf)) | (refine Sp.mk (fun hc => ?_) (fun hc => ?_) <;> (conv=>whnf)) | (apply Cl.go;(conv=>whnf); (first | refine Ob.call (h) ?_);(conv=>whnf)) | (refine Ap.a ?_ ?_ <;> (conv=>whnf)) | (refine Fi.a ?_;conv=>whnf) | (refine Ob.b ?_;conv=>whnf)
  all_goals exact Lf
theorem four_spec : Fn Try.prog 49 [] (ints rowB) := by
  have h := longs_spec rowB
  refine Fn.of_ex (cuts := []) tys hM Try.func49 rfl Try.call49 rfl ?_
  show exC Try.prog T [] _ false none 0 (entry 3 []) (finQ T [ResultVar.tmp 0] _)
  conv => whnf
  repeat' first | ((first | refine Ob.a ?_ | refine Sp.tt ?_ | refine Sp.ff ?_ | refine Sp.yes ?_ | refine Sp.no ?_ | refine Sp.nyes ?_ | refine Sp.nno ?_);conv=>whnf) | (refine Sp.ne (fun hc => ?_) (fun hc => ?_) <;> (conv=>whnf)) | (refine Sp.dec (fun hc => ?_) (fun hc => ?_) <;> (conv=>whnf)) | (refine Sp.ndec (fun hc => ?_) (fun hc => ?_) <;> (conv=>whnf)) | (refine Sp.mk (fun hc => ?_) (fun hc => ?_) <;> (conv=>whnf)) | (apply Cl.go;(conv=>whnf); (first | refine Ob.call (h) ?_);(conv=>whnf)) | (refine Ap.a ?_ ?_ <;> (conv=>whnf)) | (refine Fi.a ?_;conv=>whnf) | (refine Ob.b ?_;conv=>whnf)
  all_goals exact Lf
theorem great_spec (l : List Int) : Fn Try.prog 16 [ints l] (bool (decide (20 < (l.length : Int)))) := by
  refine Fn.of_ex (cuts := []) tys hM Try.func16 rfl Try.call16 rfl ?_
  show exC Try.prog T [] _ false none 0 (entry 6 [ints l]) (finQ T [ResultVar.tmp 2] _)
  conv => whnf
  repeat' first | ((first | refine Ob.a ?_ | refine Sp.tt ?_ | refine Sp.ff ?_ | refine Sp.yes ?_ | refine Sp.no ?_ | refine Sp.nyes ?_ | refine Sp.nno ?_);conv=>whnf) | (refine Sp.ne (fun hc => ?_) (fun hc => ?_) <;> (conv=>whnf)) | (refine Sp.dec (fun hc => ?_) (fun hc => ?_) <;> (conv=>whnf)) | (refine Sp.ndec (fun hc => ?_) (fun hc => ?_) <;> (conv=>whnf)) | (refine Sp.mk (fun hc => ?_) (fun hc => ?_) <;> (conv=>whnf)) | (refine Ap.a ?_ ?_ <;> (conv=>whnf)) | (refine Fi.a ?_;conv=>whnf) | (refine Ob.b ?_;conv=>whnf)
  all_goals exact Lf
theorem fine_yes {R : List Int} (hR : RdOk R) : Fn Try.prog 40 [ints R] (bool true) := by
  have h12 := hR.l12
  have h1 := great_spec R
  rw [decide_eq_false (by omega)] at h1
  have h2 := CheckRow_spec R (by omega)
  rw [checkRd_ok.2 hR] at h2
  refine Fn.of_ex (cuts := []) tys hM Try.func40 rfl Try.call40 rfl ?_
  show exC Try.prog T [] _ false none 0 (entry 11 [ints R]) (finQ T [ResultVar.tmp 2] _)
  conv => whnf
  repeat' first | ((first | refine Ob.a ?_ | refine Sp.tt ?_ | refine Sp.ff ?_ | refine Sp.yes ?_ | refine Sp.no ?_ | refine Sp.nyes ?_ | refine Sp.nno ?_);conv=>whnf) | (refine Sp.ne (fun hc => ?_) (fun hc => ?_) <;> (conv=>whnf)) | (refine Sp.dec (fun hc => ?_) (fun hc => ?_) <;> (conv=>whnf)) | (refine Sp.ndec (fun hc => ?_) (fun hc => ?_) <;> (conv=>whnf)) | (refine Sp.mk (fun hc => ?_) (fun hc => ?_) <;> (conv=>whnf)) | (apply Cl.go;(conv=>whnf); (first | refine Ob.call (h1) ?_ | refine Ob.call (h2) ?_);(conv=>whnf)) | (refine Ap.a ?_ ?_ <;> (conv=>whnf)) | (refine Fi.a ?_;conv=>whnf) | (refine Ob.b ?_;conv=>whnf)
  all_goals exact Lf
theorem fine_no {R : List Int} (hR : ¬ RdOk R) : Fn Try.prog 40 [ints R] (bool false) := by
  have h1 := great_spec R
  by_cases hg : 20 < (R.length : Int)
  · rw [decide_eq_true hg] at h1
    refine Fn.of_ex (cuts := []) tys hM Try.func40 rfl Try.call40 rfl ?_
    show exC Try.prog T [] _ false none 0 (entry 11 [ints R]) (finQ T [ResultVar.tmp 2] _)
    conv => whnf
    repeat' first | ((first | refine Ob.a ?_ | refine Sp.tt ?_ | refine Sp.ff ?_ | refine Sp.yes ?_ | refine Sp.no ?_ | refine Sp.nyes ?_ | refine Sp.nno ?_);conv=>whnf) | (refine Sp.ne (fun hc => ?_) (fun hc => ?_) <;> (conv=>whnf)) | (refine Sp.dec (fun hc => ?_) (fun hc => ?_) <;> (conv=>whnf)) | (refine Sp.ndec (fun hc => ?_) (fun hc => ?_) <;> (conv=>whnf)) | (refine Sp.mk (fun hc => ?_) (fun hc => ?_) <;> (conv=>whnf)) | (apply Cl.go;(conv=>whnf); (first | refine Ob.call (h1) ?_);(conv=>whnf)) | (refine Ap.a ?_ ?_ <;> (conv=>whnf)) | (refine Fi.a ?_;conv=>whnf) | (refine Ob.b ?_;conv=>whnf)
    all_goals exact Lf
  · rw [decide_eq_false hg] at h1
    have h2 := CheckRow_spec R (by omega)
    have h3 : checkRd R ≠ 0 := fun h => hR (checkRd_ok.1 h)
    generalize checkRd R = q at *
    refine Fn.of_ex (cuts := []) tys hM Try.func40 rfl Try.call40 rfl ?_
    show exC Try.prog T [] _ false none 0 (entry 11 [ints R]) (finQ T [ResultVar.tmp 2] _)
    conv => whnf
    repeat' first | ((first | refine Ob.a ?_ | refine Sp.tt ?_ | refine Sp.ff ?_ | refine Sp.yes ?_ | refine Sp.no ?_ | refine Sp.nyes ?_ | refine Sp.nno ?_);conv=>whnf) | (refine Sp.ne (fun hc => ?_) (fun hc => ?_) <;> (conv=>whnf)) | (refine Sp.dec (fun hc => ?_) (fun hc => ?_) <;> (conv=>whnf)) | (refine Sp.ndec (fun hc => ?_) (fun hc => ?_) <;> (conv=>whnf)) | (refine Sp.mk (fun hc => ?_) (fun hc => ?_) <;> (conv=>whnf)) | (apply Cl.go;(conv=>whnf); (first | refine Ob.call (h1) ?_ | refine Ob.call (h2) ?_);(conv=>whnf)) | (refine Ap.a ?_ ?_ <;> (conv=>whnf)) | (refine Fi.a ?_;conv=>whnf) | (refine Ob.b ?_;conv=>whnf)
    all_goals first | (exfalso; omega) | exact Lf
theorem has_law (l : List Int) (x : Int) (hl : l.length < 1000000) : Fn Try.prog 44 [ints l, int x] (bool (decide (x ∈ l))) := by
  refine Fn.hide (D := fun r : Bool => bool r) fun r hr => ?_
  have hr0 := hr.h
  have h1 : ∀ j : Int, 0 ≤ j → j < l.length → l.getD j.toNat 0 = x → r = true := fun j a b h => by
    rw [← hr0]; exact decide_eq_true (by rw [← h]; exact getD_mem (by omega) 0)
  have h2 : (∀ j : Int, 0 ≤ j → j < l.length → ¬ l.getD j.toNat 0 = x) → r = false := fun h => by
    rw [← hr0]
    refine decide_eq_false fun hx => ?_
    obtain ⟨j, hj, e⟩ := mem_getD hx
    exact h j (by omega) (by omega) (by rw [Int.toNat_natCast]; exact e.symm)
  refine Fn.of_ex (cuts := []) tys hM Try.func44 rfl Try.call44 rfl ?_
  show exC Try.prog T [] _ false none 0 (entry 18 [ints l, int x]) (finQ T [ResultVar.tmp 4] _)
  conv => whnf
  repeat' first | ((first | refine Ob.a ?_ | refine Sp.tt ?_ | refine Sp.ff ?_ | refine Sp.yes ?_ | refine Sp.no ?_ | refine Sp.nyes ?_ | refine Sp.nno ?_);conv=>whnf) | (refine Sp.ne (fun hc => ?_) (fun hc => ?_) <;> (conv=>whnf)) | (refine Sp.dec (fun hc => ?_) (fun hc => ?_) <;> (conv=>whnf)) | (refine Sp.ndec (fun hc => ?_) (fun hc => ?_) <;> (conv=>whnf)) | (refine Sp.mk (fun hc => ?_) (fun hc => ?_) <;> (conv=>whnf)) | (refine Ap.a ?_ ?_ <;> (conv=>whnf)) | (refine Fi.a ?_;conv=>whnf) | (refine Ob.b ?_;conv=>whnf)
  refine Lp.snap [0, 1] 40 ?_
  (conv=>whnf)
  refine LpB.go 18 ({i : Int // (0 ≤ i ∧ i ≤ l.length) ∧ ∀ j : Int, 0 ≤ j → j < i → ¬ l.getD j.toNat 0 = x}) 0 (fun ⟨i, _⟩ nx => ([(5, .d (int i))], [])) (fun p => (l.length - p.1).toNat) (⟨0, ⟨by omega, by omega⟩, fun j _ _ => by omega⟩) ?_ ?_
  · rintro ⟨i, ⟨hi0, hi⟩, hinv⟩
    conv => whnf
    repeat' first | ((first | refine Ob.a ?_ | refine Sp.tt ?_ | refine Sp.ff ?_ | refine Sp.yes ?_ | refine Sp.no ?_ | refine Sp.nyes ?_ | refine Sp.nno ?_);conv=>whnf) | (refine Sp.ne (fun hc => ?_) (fun hc => ?_) <;> (conv=>whnf)) | (refine Sp.dec (fun hc => ?_) (fun hc => ?_) <;> (conv=>whnf)) | (refine Sp.ndec (fun hc => ?_) (fun hc => ?_) <;> (conv=>whnf)) | (refine Sp.mk (fun hc => ?_) (fun hc => ?_) <;> (conv=>whnf)) | (refine Ap.a ?_ ?_ <;> (conv=>whnf)) | (refine Fi.a ?_;conv=>whnf) | (refine Ob.b ?_;conv=>whnf)
    · have e := h1 i hi0 (by omega) hc
      exact Lf
    · exact ⟨rfl, ⟨i + 1, ⟨by omega, by omega⟩, fun j a b => if e : j = i then e ▸ hc else hinv j a (by omega)⟩, Lf, by simp only; omega⟩
    · have e := h2 fun j a b => hinv j a (by omega)
      exact Lf
  · exact Lf
/-- A list of places is one, as the law asks. -/
theorem isList_spec (l : List Int) (b : Int) (hl : l.length < 1000000) (h1 : ∀ x ∈ l, 0 ≤ x ∧ x < b) (h2 : l.Pairwise (· < ·)) : Fn Try.prog 43 [ints l, int b] (bool true) := by
  have h3 : ∀ i : Int, 0 ≤ i → i < l.length → 0 ≤ l.getD i.toNat 0 ∧ l.getD i.toNat 0 < b := fun i a c => h1 _ (getD_mem_int (by omega))
  have h4 : ∀ i : Int, 0 < i → i < l.length → l.getD (i - 1).toNat 0 < l.getD i.toNat 0 := fun i a c => getD_lt h2 _ _ (by omega) (by omega)
  clear h1 h2
  refine Fn.of_ex (cuts := []) tys hM Try.func43 rfl Try.call43 rfl ?_
  show exC Try.prog T [] _ false none 0 (entry 41 [ints l, int b]) (finQ T [ResultVar.tmp 4] _)
  conv => whnf
  repeat' first | ((first | refine Ob.a ?_ | refine Sp.tt ?_ | refine Sp.ff ?_ | refine Sp.yes ?_ | refine Sp.no ?_ | refine Sp.nyes ?_ | refine Sp.nno ?_);conv=>whnf) | (refine Sp.ne (fun hc => ?_) (fun hc => ?_) <;> (conv=>whnf)) | (refine Sp.dec (fun hc => ?_) (fun hc => ?_) <;> (conv=>whnf)) | (refine Sp.ndec (fun hc => ?_) (fun hc => ?_) <;> (conv=>whnf)) | (refine Sp.mk (fun hc => ?_) (fun hc => ?_) <;> (conv=>whnf)) | (refine Ap.a ?_ ?_ <;> (conv=>whnf)) | (refine Fi.a ?_;conv=>whnf) | (refine Ob.b ?_;conv=>whnf)
  refine Lp.snap [0, 1] 40 ?_
  (conv=>whnf)
  refine LpB.go 41 ({i : Int // 0 ≤ i ∧ i ≤ l.length}) 0 (fun ⟨i, _⟩ nx => ([(5, .d (int i))], [])) (fun p => (l.length - p.1).toNat) (⟨0, by omega, by omega⟩) ?_ ?_
  · rintro ⟨i, i0, i1⟩
    by_cases hi : i < l.length
    · have h3 := h3 i i0 hi
      by_cases hz : 0 < i
      · have h4 := h4 i hz hi
        conv => whnf
        repeat' first | ((first | refine Ob.a ?_ | refine Sp.tt ?_ | refine Sp.ff ?_ | refine Sp.yes ?_ | refine Sp.no ?_ | refine Sp.nyes ?_ | refine Sp.nno ?_);conv=>whnf) | (refine Sp.ne (fun hc => ?_) (fun hc => ?_) <;> (conv=>whnf)) | (refine Sp.dec (fun hc => ?_) (fun hc => ?_) <;> (conv=>whnf)) | (refine Sp.ndec (fun hc => ?_) (fun hc => ?_) <;> (conv=>whnf)) | (refine Sp.mk (fun hc => ?_) (fun hc => ?_) <;> (conv=>whnf)) | (refine Ap.a ?_ ?_ <;> (conv=>whnf)) | (refine Fi.a ?_;conv=>whnf) | (refine Ob.b ?_;conv=>whnf)
        all_goals first | (exfalso; omega) | exact ⟨rfl, ⟨i + 1, by omega, by omega⟩, Lf, by simp only; omega⟩
      · conv => whnf
        repeat' first | ((first | refine Ob.a ?_ | refine Sp.tt ?_ | refine Sp.ff ?_ | refine Sp.yes ?_ | refine Sp.no ?_ | refine Sp.nyes ?_ | refine Sp.nno ?_);conv=>whnf) | (refine Sp.ne (fun hc => ?_) (fun hc => ?_) <;> (conv=>whnf)) | (refine Sp.dec (fun hc => ?_) (fun hc => ?_) <;> (conv=>whnf)) | (refine Sp.ndec (fun hc => ?_) (fun hc => ?_) <;> (conv=>whnf)) | (refine Sp.mk (fun hc => ?_) (fun hc => ?_) <;> (conv=>whnf)) | (refine Ap.a ?_ ?_ <;> (conv=>whnf)) | (refine Fi.a ?_;conv=>whnf) | (refine Ob.b ?_;conv=>whnf)
        all_goals first | (exfalso; omega) | exact ⟨rfl, ⟨i + 1, by omega, by omega⟩, Lf, by simp only; omega⟩
    · conv => whnf
      repeat' first | ((first | refine Ob.a ?_ | refine Sp.tt ?_ | refine Sp.ff ?_ | refine Sp.yes ?_ | refine Sp.no ?_ | refine Sp.nyes ?_ | refine Sp.nno ?_);conv=>whnf) | (refine Sp.ne (fun hc => ?_) (fun hc => ?_) <;> (conv=>whnf)) | (refine Sp.dec (fun hc => ?_) (fun hc => ?_) <;> (conv=>whnf)) | (refine Sp.ndec (fun hc => ?_) (fun hc => ?_) <;> (conv=>whnf)) | (refine Sp.mk (fun hc => ?_) (fun hc => ?_) <;> (conv=>whnf)) | (refine Ap.a ?_ ?_ <;> (conv=>whnf)) | (refine Fi.a ?_;conv=>whnf) | (refine Ob.b ?_;conv=>whnf)
      all_goals first | (exfalso; omega) | exact Lf
  · exact Lf
theorem checkCurve_ok {R c : List Int} (hR : RdOk R) (h : CvOk R c) : checkCurveR R c = (mostTo R c R.length, costTo R c R.length, 0) := by
  unfold checkCurveR
  rw [if_neg (not_not_intro (checkRd_ok.2 hR)), if_neg (not_not_intro h.len), if_neg (not_not_intro h.rng), if_neg (by rw [isQ_iff.2 h.un]; simp)]
set_option maxHeartbeats 8000000 in
theorem changes_spec {R : List Int} (hR : RdOk R) : Fn Try.prog 41 [ints R] (tpl [int (evenN R), int (nearN R), bool true]) := by
  have h12 := hR.l12
  obtain ⟨c, c1, c2, c3⟩ := EvenP_spec R hR
  obtain ⟨d, d1, d2, d3⟩ := NearP_spec R hR
  have gc := great_spec c
  have gd := great_spec d
  rw [decide_eq_false (by have := c1.len; omega)] at gc
  rw [decide_eq_false (by have := d1.len; omega)] at gd
  have a1 := CheckCurveP_spec R c (by omega) (by have := c1.len; omega)
  have a2 := CheckCurveP_spec R d (by omega) (by have := d1.len; omega)
  have a3 := CheckCurve_spec R c (by omega) (by have := c1.len; omega)
  have a4 := CheckCurve_spec R d (by omega) (by have := d1.len; omega)
  rw [checkCurve_ok hR c1, c2] at a1 a3
  rw [checkCurve_ok hR d1, d2] at a2 a4
  simp only at a1 a2 a3 a4
  generalize evenN R = m at *
  generalize nearN R = n at *
  generalize costTo R c R.length = z1 at *
  generalize mostTo R d R.length = z2 at *
  clear c1 c2 d1 d2
  refine Fn.of_ex (cuts := []) tys hM Try.func41 rfl Try.call41 rfl ?_
  show exC Try.prog T [] _ false none 0 (entry 113 [ints R]) (finQ T [ResultVar.tmp 2, ResultVar.tmp 3, ResultVar.tmp 4] _)
  conv => whnf
  repeat' first | ((first | refine Ob.a ?_ | refine Sp.tt ?_ | refine Sp.ff ?_ | refine Sp.yes ?_ | refine Sp.no ?_ | refine Sp.nyes ?_ | refine Sp.nno ?_);conv=>whnf) | (refine Sp.ne (fun hc => ?_) (fun hc => ?_) <;> (conv=>whnf)) | (refine Sp.dec (fun hc => ?_) (fun hc => ?_) <;> (conv=>whnf)) | (refine Sp.ndec (fun hc => ?_) (fun hc => ?_) <;> (conv=>whnf)) | (refine Sp.mk (fun hc => ?_) (fun hc => ?_) <;> (conv=>whnf)) | (apply Cl.go;(conv=>whnf); (first | refine Ob.call (c3) ?_ | refine Ob.call (d3) ?_ | refine Ob.call (gc) ?_ | refine Ob.call (gd) ?_ | refine Ob.call (a1) ?_ | refine Ob.call (a2) ?_ | refine Ob.call (a3) ?_ | refine Ob.call (a4) ?_);(conv=>whnf)) | (refine Ap.a ?_ ?_ <;> (conv=>whnf)) | (refine Fi.a ?_;conv=>whnf) | (refine Ob.b ?_;conv=>whnf)
  all_goals first | (exfalso; omega) | exact Lf
end Go.Px.Try

/-! Law2 -/
namespace Go.Px.Try
open Go Go.Proofs Go.Px
set_option maxRecDepth 100000
theorem rdA : RdOk rowA := checkRd_ok.1 (by decide +kernel)
theorem rdB : RdOk rowB := checkRd_ok.1 (by decide +kernel)
theorem w_cc (c : List Int) (x : Int × Int × Int) (hl : c.length < 1000000) (h : checkCurveR rowA c = x) : Fn Try.prog 18 [ints rowA, ints c] (tpl [int x.1, int x.2.1, int x.2.2]) := h ▸ CheckCurveP_spec rowA c (by decide) hl
theorem w_cv (i k j : Int) (x : Int × Int) (h : checkValR rowA i k j = x) : Fn Try.prog 20 [ints rowA, int i, int k, int j] (tpl [int x.1, int x.2]) := h ▸ CheckValleyP_spec rowA i k j (by decide)
theorem w_pk (R : List Int) (m : Int) (x : List Int × Int) (hl : R.length < 1000000) (h : peaksR R m = x) : Fn Try.prog 30 [ints R, int m] (tpl [ints x.1, int x.2]) := h ▸ PeaksP_spec R m hl
theorem w_vA : Fn Try.prog 28 [ints rowA] (tpl [int 1, int 2, int 3, int 0]) := by
  have h := ValleyP_spec rowA (by decide)
  rwa [show valleyR rowA = (1, 2, 3, 0) by decide +kernel] at h
theorem w_vB : Fn Try.prog 28 [ints rowB] (tpl [int 0, int 0, int 0, int 5]) := by
  have h := ValleyP_spec rowB (by decide)
  rwa [show valleyR rowB = (0, 0, 0, 5) by decide +kernel] at h
theorem w_need (a b : Int) (x : Int × Int) (h : needR a b = x) : Fn Try.prog 33 [int a, int b] (tpl [int x.1, int x.2]) := h ▸ NeedP_spec a b
theorem w_tastes (a : Int) (x : Int × Int) (h : tastesR a = x) : Fn Try.prog 35 [int a] (tpl [int x.1, int x.2]) := h ▸ TastesP_spec a
theorem evenA : evenN rowA = 1 := by decide +kernel
theorem nearA : nearN rowA = 3 := by decide +kernel
theorem nearB : nearN rowB = 0 := by decide +kernel
theorem evenB : evenN rowB = 0 := by decide +kernel
theorem w_even (R : List Int) (m : Int) (hR : RdOk R) (h : evenN R = m) : ∃ c, Fn Try.prog 24 [ints R] (tpl [int m, ints c, int 0]) ∧ ∃ s, Fn Try.prog 19 [ints R, ints c] (tpl [int m, int s, int 0]) := by
  obtain ⟨c, c1, c2, c3⟩ := EvenP_spec R hR
  have := hR.l12
  have a := CheckCurve_spec R c (by omega) (by have := c1.len; omega)
  rw [checkCurve_ok hR c1, c2, h] at a
  rw [h] at c3
  exact ⟨c, c3, _, a⟩
theorem w_near (R : List Int) (m : Int) (hR : RdOk R) (h : nearN R = m) : ∃ c, Fn Try.prog 25 [ints R] (tpl [int m, ints c, int 0]) ∧ ∃ s, Fn Try.prog 19 [ints R, ints c] (tpl [int s, int m, int 0]) := by
  obtain ⟨c, c1, c2, c3⟩ := NearP_spec R hR
  have := hR.l12
  have a := CheckCurve_spec R c (by omega) (by have := c1.len; omega)
  rw [checkCurve_ok hR c1, c2, h] at a
  rw [h] at c3
  exact ⟨c, c3, _, a⟩
set_option maxHeartbeats 16000000 in
theorem Works_spec : Fn Try.prog 17 [] (bool true) := by
  have g1 := seven_spec
  have g2 := four_spec
  have h1 := w_cc [2, 4, 4, 8, 7, 7, 1] (1, 3, 0) (by simp) (by decide +kernel)
  have h2 := w_cc rowA (0, 0, 21) (by simp [rowA]) (by decide +kernel)
  have h3 := w_cc [2, 4, 4] (0, 0, 15) (by simp) (by decide +kernel)
  have h4 := w_cv 1 2 3 (2, 0) (by decide +kernel)
  have h5 := w_cv 1 1 3 (0, 2) (by decide +kernel)
  have h6 := w_vA
  have h7 := w_vB
  obtain ⟨c, h8, s, h8'⟩ := w_even rowA 1 rdA evenA
  obtain ⟨d, h9, t, h9'⟩ := w_near rowA 3 rdA nearA
  obtain ⟨f, h10, _⟩ := w_near rowB 0 rdB nearB
  have h11 := w_pk rowA 1 ([3, 4, 5], 0) (by decide) (by decide +kernel)
  have h12 := w_pk rowB 0 ([1, 2], 0) (by decide) (by decide +kernel)
  have h13 := w_pk rowB 1001 ([], 3) (by decide) (by decide +kernel)
  have h14 := w_need 2 1 (2, 0) (by decide +kernel)
  have h15 := w_need 31 0 (0, 3) (by decide +kernel)
  have h16 := NextP_none
  have h17 := w_tastes 12 (5, 0) (by decide +kernel)
  have h18 := w_tastes 62 (0, 3) (by decide +kernel)
  have i1 := ints_same [3, 4, 5] (by simp)
  have i2 := ints_same [1, 2] (by simp)
  generalize rowA = ra at *
  generalize rowB = rb at *
  refine Fn.of_ex (cuts := []) tys hM Try.func17 rfl Try.call17 rfl ?_
  show exC Try.prog T [] _ false none 0 (entry 309 []) (finQ T [ResultVar.tmp 0] _)
  conv => whnf
  repeat' first | ((first | refine Ob.a ?_ | refine Sp.tt ?_ | refine Sp.ff ?_ | refine Sp.yes ?_ | refine Sp.no ?_ | refine Sp.nyes ?_ | refine Sp.nno ?_);conv=>whnf) | (refine Sp.ne (fun hc => ?_) (fun hc => ?_) <;> (conv=>whnf)) | (refine Sp.dec (fun hc => ?_) (fun hc => ?_) <;> (conv=>whnf)) | (refine Sp.ndec (fun hc => ?_) (fun hc => ?_) <;> (conv=>whnf)) | (refine Sp.mk (fun hc => ?_) (fun hc => ?_) <;> (conv=>whnf)) | (apply Cl.go;(conv=>whnf); (first | refine Ob.call (g1) ?_ | refine Ob.call (g2) ?_ | refine Ob.call (h1) ?_ | refine Ob.call (h2) ?_ | refine Ob.call (h3) ?_ | refine Ob.call (h4) ?_ | refine Ob.call (h5) ?_ | refine Ob.call (h6) ?_ | refine Ob.call (h7) ?_ | refine Ob.call (h8) ?_ | refine Ob.call (h8') ?_ | refine Ob.call (h9) ?_ | refine Ob.call (h9') ?_ | refine Ob.call (h10) ?_ | refine Ob.call (h11) ?_ | refine Ob.call (h12) ?_ | refine Ob.call (h13) ?_ | refine Ob.call (h14) ?_ | refine Ob.call (h15) ?_ | refine Ob.call (h16) ?_ | refine Ob.call (h17) ?_ | refine Ob.call (h18) ?_ | refine Ob.call (i1) ?_ | refine Ob.call (i2) ?_ | refine Ob.call (longs_spec [2, 4, 4, 8, 7, 7, 1]) ?_ | refine Ob.call (longs_spec [2, 4, 4]) ?_ | refine Ob.call (of_spec [3, 4, 5]) ?_ | refine Ob.call (of_spec [1, 2]) ?_);(conv=>whnf)) | (refine Ap.a ?_ ?_ <;> (conv=>whnf)) | (refine Fi.a ?_;conv=>whnf) | (refine Ob.b ?_;conv=>whnf)
  all_goals exact Lf
end Go.Px.Try

/-! Law3 -/
namespace Go.Px.Try
open Go Go.Proofs Go.Px
set_option maxRecDepth 100000
def u8 (n : Nat) : DV := .v (.int .u8 n)
def u16 (n : Nat) : DV := .v (.int .u16 n)
def u16s (l : List Nat) : DV := slOf 1 u16 0 l
/-- One of some numbers, round. -/
def numL (by' : List Nat) (i : Nat) : Nat := by'.getD (i % by'.length) 0
set_option maxHeartbeats 4000000 in
theorem number_spec (l : List Nat) (i : Int) (h0 : 0 ≤ i) (hl : l.length ≤ 20) (hb : ∀ x ∈ l, x < 65536) : Fn Try.prog 47 [u16s l, int i] (int (numL l i.toNat)) := by
  by_cases h : l.length = 0
  · have e : numL l i.toNat = 0 := by
      have : l = [] := List.length_eq_zero_iff.1 h
      subst this; rfl
    rw [e]
    refine Fn.of_ex (cuts := []) tys hM Try.func47 rfl Try.call47 rfl ?_
    show exC Try.prog T [] _ false none 0 (entry 16 [u16s l, int i]) (finQ T [ResultVar.tmp 4] _)
    conv => whnf
    repeat' first | ((first | refine Ob.a ?_ | refine Sp.tt ?_ | refine Sp.ff ?_ | refine Sp.yes ?_ | refine Sp.no ?_ | refine Sp.nyes ?_ | refine Sp.nno ?_);conv=>whnf) | (refine Sp.ne (fun hc => ?_) (fun hc => ?_) <;> (conv=>whnf)) | (refine Sp.dec (fun hc => ?_) (fun hc => ?_) <;> (conv=>whnf)) | (refine Sp.ndec (fun hc => ?_) (fun hc => ?_) <;> (conv=>whnf)) | (refine Sp.mk (fun hc => ?_) (fun hc => ?_) <;> (conv=>whnf)) | (refine Ap.a ?_ ?_ <;> (conv=>whnf)) | (refine Fi.a ?_;conv=>whnf) | (refine Ob.b ?_;conv=>whnf)
    all_goals first | (exfalso; omega) | exact Lf
  · have e : numL l i.toNat = l.getD (i % (l.length : Int)).toNat 0 := by
      unfold numL
      congr 1
      have : (i % (l.length : Int)) = ((i.toNat % l.length : Nat) : Int) := by
        rw [Int.natCast_emod, Int.toNat_of_nonneg h0]
      rw [this, Int.toNat_natCast]
    rw [e]
    have h1 : 0 ≤ i % (l.length : Int) ∧ i % (l.length : Int) < l.length := ⟨Int.emod_nonneg _ (by omega), Int.emod_lt_of_pos _ (by omega)⟩
    have h2 : l.getD (i % (l.length : Int)).toNat 0 < 65536 := by
      refine hb _ ?_
      rw [List.getD_eq_getElem?_getD, List.getElem?_eq_getElem (by omega)]; exact List.getElem_mem _
    refine Fn.of_ex (cuts := []) tys hM Try.func47 rfl Try.call47 rfl ?_
    show exC Try.prog T [] _ false none 0 (entry 16 [u16s l, int i]) (finQ T [ResultVar.tmp 4] _)
    conv => whnf
    repeat' first | ((first | refine Ob.a ?_ | refine Sp.tt ?_ | refine Sp.ff ?_ | refine Sp.yes ?_ | refine Sp.no ?_ | refine Sp.nyes ?_ | refine Sp.nno ?_);conv=>whnf) | (refine Sp.ne (fun hc => ?_) (fun hc => ?_) <;> (conv=>whnf)) | (refine Sp.dec (fun hc => ?_) (fun hc => ?_) <;> (conv=>whnf)) | (refine Sp.ndec (fun hc => ?_) (fun hc => ?_) <;> (conv=>whnf)) | (refine Sp.mk (fun hc => ?_) (fun hc => ?_) <;> (conv=>whnf)) | (refine Ap.a ?_ ?_ <;> (conv=>whnf)) | (refine Fi.a ?_;conv=>whnf) | (refine Ob.b ?_;conv=>whnf)
    all_goals first | (exfalso; omega) | exact Lf
theorem numL_lt {l : List Nat} (hb : ∀ x ∈ l, x < 65536) (i : Nat) : numL l i < 65536 := by
  unfold numL
  rw [List.getD_eq_getElem?_getD]
  cases h : l[i % l.length]? with
  | none => show 0 < 65536; omega
  | some x => exact hb x (List.mem_of_getElem? h)
section
variable (by' : List Nat) (n p : Nat)
def cv1 (j : Nat) : Int := ((numL by' j : Nat) : Int) % 1001
def cvM : Nat → Int
  | 0 => cv1 by' p
  | i + 1 => if i = p then cvM i else max (cvM i) (cv1 by' i)
def cvD : Nat → Int
  | 0 => cvM by' p n
  | d + 1 => min (cv1 by' (p - (d + 1))) (cvD d)
def cvU : Nat → Int
  | 0 => cvM by' p n
  | d + 1 => min (cv1 by' (p + (d + 1))) (cvU d)
/-- Rows on the way. -/
def cvA (i j : Nat) : Int := if j < i then cv1 by' j else 0
def cvB (i j : Nat) : Int := if j = p then cvM by' p i else cv1 by' j
def cvC (i j : Nat) : Int := if j ≤ p then (if i ≤ j then cvD by' n p (p - j) else cv1 by' j) else cv1 by' j
def cvE (i j : Nat) : Int := if j ≤ p then cvD by' n p (p - j) else if j < i then cvU by' n p (j - p) else cv1 by' j
/-- The curve. -/
def cvL : List Int := (List.range n).map (cvE by' n p n)
end
theorem cv1_rng (b : List Nat) (j : Nat) : 0 ≤ cv1 b j ∧ cv1 b j ≤ 1000 := by unfold cv1; omega
theorem cvM_rng (b : List Nat) (p : Nat) : ∀ i, 0 ≤ cvM b p i ∧ cvM b p i ≤ 1000
  | 0 => cv1_rng b p
  | i + 1 => by
    have h1 := cvM_rng b p i
    have h2 := cv1_rng b i
    rw [cvM]; split <;> omega
theorem cvD_rng (b : List Nat) (n p : Nat) : ∀ d, 0 ≤ cvD b n p d ∧ cvD b n p d ≤ 1000
  | 0 => cvM_rng b p n
  | d + 1 => by
    have h1 := cvD_rng b n p d
    have h2 := cv1_rng b (p - (d + 1))
    rw [cvD]; omega
theorem cvU_rng (b : List Nat) (n p : Nat) : ∀ d, 0 ≤ cvU b n p d ∧ cvU b n p d ≤ 1000
  | 0 => cvM_rng b p n
  | d + 1 => by
    have h1 := cvU_rng b n p d
    have h2 := cv1_rng b (p + (d + 1))
    rw [cvU]; omega
theorem cvL_len (b : List Nat) (n p : Nat) : (cvL b n p).length = n := by simp [cvL]
theorem cvL_at {b : List Nat} {n p j : Nat} (h : j < n) : (cvL b n p).getD j 0 = cvE b n p n j := by
  unfold cvL
  rw [List.getD_eq_getElem?_getD, List.getElem?_map, List.getElem?_range h]; rfl
theorem cvL_atB {b : List Nat} {n p : Nat} : atB (cvL b n p) p := fun i i1 i2 => by
  rw [cvL_len] at i2
  rw [cvL_at (by omega), cvL_at i2]
  unfold cvE
  refine ⟨fun hp => ?_, fun hp => ?_⟩
  · rw [if_pos (by omega), if_pos hp, show p - (i - 1) = (p - i) + 1 by omega, cvD]; omega
  · rw [if_neg (by omega), if_pos i2]
    obtain ⟨d, hd⟩ : ∃ d, i - p = d + 1 := ⟨i - p - 1, by omega⟩
    rw [hd, cvU]
    by_cases h : i - 1 ≤ p
    · rw [if_pos h, show p - (i - 1) = 0 by omega, show d = 0 by omega]
      show min _ (cvM b p n) ≤ cvM b p n
      omega
    · rw [if_neg h, if_pos (by omega), show i - 1 - p = d by omega]; omega
theorem cvL_ok {R : List Int} {b : List Nat} {p : Nat} (hp : p < R.length) : CvOk R (cvL b R.length p) :=
  ⟨cvL_len _ _ _, ⟨p, by rw [cvL_len]; exact hp, cvL_atB⟩, fun x hx => by
    obtain ⟨j, hj, rfl⟩ := mem_getD hx
    rw [cvL_len] at hj
    rw [cvL_at hj]
    unfold cvE
    split
    · exact cvD_rng ..
    · exact cvU_rng ..⟩
set_option maxHeartbeats 16000000 in
theorem Curve_spec (b : List Nat) (n p : Nat) (hb : ∀ x ∈ b, x < 65536) (hl : b.length ≤ 20) (hn : n ≤ 1000) (hp : p < n) : Fn Try.prog 42 [int n, int p, u16s b] (ints (cvL b n p)) := by
  have hnum := fun i a => number_spec b i a hl hb
  have s1 : ∀ i : Int, 0 ≤ i → ∀ j, j < n → cvA b (i + 1).toNat j = if j = 0 + i.toNat then ((numL b i.toNat : Nat) : Int) % 1001 else cvA b i.toNat j := fun i i0 j hj => by
    unfold cvA
    by_cases h : j = 0 + i.toNat
    · rw [if_pos h, if_pos (by omega), h, Nat.zero_add]; rfl
    · rw [if_neg h]
      by_cases h2 : j < i.toNat
      · rw [if_pos h2, if_pos (by omega)]
      · rw [if_neg h2, if_neg (by omega)]
  have z1 : ∀ j, j < n → 0 = cvA b (Int.toNat 0) j := fun j hj => (if_neg (by have : Int.toNat 0 = 0 := rfl; omega)).symm
  have z2 : ∀ i : Int, i ≤ n → ¬ i < n → ∀ j, j < n → cvA b i.toNat j = cvB b p (Int.toNat 0) j := fun i i1 i2 j hj => by
    unfold cvA cvB
    rw [if_pos (by omega)]
    by_cases h : j = p
    · rw [if_pos h, h]; rfl
    · rw [if_neg h]
  have s2 : ∀ i : Int, 0 ≤ i → i < n → ∀ j, j < n → cvB b p (i + 1).toNat j = if j = 0 + (p : Int).toNat then max (cvB b p i.toNat (0 + (p : Int).toNat)) (cvB b p i.toNat (0 + i.toNat)) else cvB b p i.toNat j := fun i i0 i1 j hj => by
    unfold cvB
    by_cases h : j = 0 + (p : Int).toNat
    · rw [if_pos h, if_pos (by omega), if_pos (by omega), show (i + 1).toNat = i.toNat + 1 by omega, cvM]
      by_cases h2 : i.toNat = p
      · rw [if_pos h2, if_pos (by omega)]; omega
      · rw [if_neg h2, if_neg (by omega), Nat.zero_add]
    · rw [if_neg h, if_neg (by omega), if_neg (by omega)]
  have z3 : ∀ i : Int, i ≤ n → ¬ i < n → ∀ j, j < n → cvB b p i.toNat j = cvC b n p ((p : Int) - 1 + 1).toNat j := fun i i1 i2 j hj => by
    unfold cvB cvC
    rw [show i.toNat = n by omega, show ((p : Int) - 1 + 1).toNat = p by omega]
    by_cases h : j = p
    · rw [if_pos h, if_pos (by omega), if_pos (by omega), h, Nat.sub_self]; rfl
    · rw [if_neg h]
      by_cases h2 : j ≤ p
      · rw [if_pos h2, if_neg (by omega)]
      · rw [if_neg h2]
  have s3 : ∀ i : Int, 0 ≤ i → i < p → ∀ j, j < n → cvC b n p (i - 1 + 1).toNat j = if j = 0 + i.toNat then min (cvC b n p (i + 1).toNat (0 + i.toNat)) (cvC b n p (i + 1).toNat (0 + (i + 1).toNat)) else cvC b n p (i + 1).toNat j := fun i i0 i1 j hj => by
    unfold cvC
    by_cases h : j = 0 + i.toNat
    · rw [if_pos h, if_pos (by omega), if_pos (by omega), if_pos (by omega), if_neg (by omega), if_pos (by omega), if_pos (by omega), h, Nat.zero_add, Nat.zero_add, show p - i.toNat = (p - (i + 1).toNat) + 1 by omega, cvD, show p - (p - (i + 1).toNat + 1) = i.toNat by omega]
    · rw [if_neg h]
      by_cases h2 : j ≤ p
      · rw [if_pos h2, if_pos h2]
        by_cases h3 : (i + 1).toNat ≤ j
        · rw [if_pos h3, if_pos (by omega)]
        · rw [if_neg h3, if_neg (by omega)]
      · rw [if_neg h2, if_neg h2]
  have z4 : ∀ i : Int, -1 ≤ i → ¬ 0 ≤ i → ∀ j, j < n → cvC b n p (i + 1).toNat j = cvE b n p ((p : Int) + 1).toNat j := fun i i1 i2 j hj => by
    unfold cvC cvE
    by_cases h : j ≤ p
    · rw [if_pos h, if_pos h, if_pos (by omega)]
    · rw [if_neg h, if_neg h, if_neg (by omega)]
  have s4 : ∀ i : Int, (p : Int) + 1 ≤ i → i < n → ∀ j, j < n → cvE b n p (i + 1).toNat j = if j = 0 + i.toNat then min (cvE b n p i.toNat (0 + i.toNat)) (cvE b n p i.toNat (0 + (i - 1).toNat)) else cvE b n p i.toNat j := fun i i0 i1 j hj => by
    unfold cvE
    by_cases h : j = 0 + i.toNat
    · rw [if_pos h, if_neg (by omega), if_pos (by omega), if_neg (by omega), if_neg (by omega)]
      obtain ⟨d, hd⟩ : ∃ d, j - p = d + 1 := ⟨j - p - 1, by omega⟩
      rw [hd, cvU, Nat.zero_add, Nat.zero_add, show p + (d + 1) = i.toNat by omega]
      by_cases h2 : (i - 1).toNat ≤ p
      · rw [if_pos h2, show p - (i - 1).toNat = 0 by omega, show d = 0 by omega]; rfl
      · rw [if_neg h2, if_pos (by omega), show (i - 1).toNat - p = d by omega]
    · rw [if_neg h]
      by_cases h2 : j ≤ p
      · rw [if_pos h2, if_pos h2]
      · rw [if_neg h2, if_neg h2]
        by_cases h3 : j < i.toNat
        · rw [if_pos h3, if_pos (by omega)]
        · rw [if_neg h3, if_neg (by omega)]
  have hEl := cvL_len b n p
  have z5 : ∀ i : Int, i ≤ n → ¬ i < n → ∀ j, j < n → cvE b n p i.toNat j = (cvL b n p).getD j 0 := fun i i1 i2 j hj => by
    rw [cvL_at hj, show i.toNat = n by omega]
  generalize cvL b n p = fin at *
  generalize cvA b = X1 at *
  generalize cvB b p = X2 at *
  generalize cvC b n p = X3 at *
  generalize cvE b n p = X4 at *
  refine Fn.of_ex (cuts := []) tys hM Try.func42 rfl Try.call42 rfl ?_
  show exC Try.prog T [] _ false none 0 (entry 83 [int n, int p, u16s b]) (finQ T [ResultVar.tmp 6] _)
  conv => whnf
  repeat' first | ((first | refine Ob.a ?_ | refine Sp.tt ?_ | refine Sp.ff ?_ | refine Sp.yes ?_ | refine Sp.no ?_ | refine Sp.nyes ?_ | refine Sp.nno ?_);conv=>whnf) | (refine Sp.ne (fun hc => ?_) (fun hc => ?_) <;> (conv=>whnf)) | (refine Sp.dec (fun hc => ?_) (fun hc => ?_) <;> (conv=>whnf)) | (refine Sp.ndec (fun hc => ?_) (fun hc => ?_) <;> (conv=>whnf)) | (refine Sp.mk (fun hc => ?_) (fun hc => ?_) <;> (conv=>whnf)) | (refine Ap.a ?_ ?_ <;> (conv=>whnf)) | (refine Fi.a ?_;conv=>whnf) | (refine Ob.b ?_;conv=>whnf)
  refine Lp.snap [0, 1, 2, 6, 7, 9, 10, 11, 26, 27, 29, 30, 31, 32, 33, 34, 35, 36, 37, 38, 39, 40, 41, 42, 43, 44, 45, 47, 48, 49, 50, 51, 52, 53, 54, 55, 56, 57, 58, 59, 60, 61, 62, 63, 64, 65, 67, 68, 69, 70, 71, 72, 73, 74, 75, 76, 77, 78, 79, 80, 81, 82] 100 ?_
  (conv=>whnf)
  refine LpB.go 83 ({i : Int // 0 ≤ i ∧ i ≤ n}) 0 (fun ⟨i, _⟩ nx => ([(8, .d (int i))], [(2, .row true 2 1 n (rowF (X1 i.toNat)))])) (fun p => (n - p.1).toNat) (⟨0, by omega, by omega⟩) ?_ ?_
  · rintro ⟨i, i0, i1⟩
    by_cases hi : i < n
    · have e := s1 i i0
      have hnum := hnum i i0
      conv => whnf
      repeat' first | ((first | refine Ob.a ?_ | refine Sp.tt ?_ | refine Sp.ff ?_ | refine Sp.yes ?_ | refine Sp.no ?_ | refine Sp.nyes ?_ | refine Sp.nno ?_);conv=>whnf) | (refine Sp.ne (fun hc => ?_) (fun hc => ?_) <;> (conv=>whnf)) | (refine Sp.dec (fun hc => ?_) (fun hc => ?_) <;> (conv=>whnf)) | (refine Sp.ndec (fun hc => ?_) (fun hc => ?_) <;> (conv=>whnf)) | (refine Sp.mk (fun hc => ?_) (fun hc => ?_) <;> (conv=>whnf)) | (apply Cl.go;(conv=>whnf); (first | refine Ob.call (hnum) ?_);(conv=>whnf)) | (refine Ap.a ?_ ?_ <;> (conv=>whnf)) | (refine Fi.a ?_;conv=>whnf) | (refine Ob.b ?_;conv=>whnf)
      all_goals first | (exfalso; omega) | exact ⟨rfl, ⟨i + 1, by omega, by omega⟩, Lf, by simp only; omega⟩
    · have z2 := z2 i i1 hi
      conv => whnf
      repeat' first | ((first | refine Ob.a ?_ | refine Sp.tt ?_ | refine Sp.ff ?_ | refine Sp.yes ?_ | refine Sp.no ?_ | refine Sp.nyes ?_ | refine Sp.nno ?_);conv=>whnf) | (refine Sp.ne (fun hc => ?_) (fun hc => ?_) <;> (conv=>whnf)) | (refine Sp.dec (fun hc => ?_) (fun hc => ?_) <;> (conv=>whnf)) | (refine Sp.ndec (fun hc => ?_) (fun hc => ?_) <;> (conv=>whnf)) | (refine Sp.mk (fun hc => ?_) (fun hc => ?_) <;> (conv=>whnf)) | (refine Ap.a ?_ ?_ <;> (conv=>whnf)) | (refine Fi.a ?_;conv=>whnf) | (refine Ob.b ?_;conv=>whnf)
      all_goals try (exfalso; omega)
      refine Lp.snap [0, 1, 2, 6, 7, 10, 11, 43, 44, 45, 47, 48, 49, 50, 51, 52, 53, 54, 55, 56, 57, 58, 59, 60, 61, 62, 63, 64, 65, 67, 68, 69, 70, 71, 72, 73, 74, 75, 76, 77, 78, 79, 80, 81, 82] 100 ?_
      (conv=>whnf)
      refine LpB.go 83 ({i : Int // 0 ≤ i ∧ i ≤ n}) 0 (fun ⟨i, _⟩ nx => ([(9, .d (int i))], [(2, .row true 2 1 n (rowF (X2 i.toNat)))])) (fun p => (n - p.1).toNat) (⟨0, by omega, by omega⟩) ?_ ?_
      · rintro ⟨i, i0, i1⟩
        by_cases hi : i < n
        · have e := s2 i i0 hi
          conv => whnf
          repeat' first | ((first | refine Ob.a ?_ | refine Sp.tt ?_ | refine Sp.ff ?_ | refine Sp.yes ?_ | refine Sp.no ?_ | refine Sp.nyes ?_ | refine Sp.nno ?_);conv=>whnf) | (refine Sp.ne (fun hc => ?_) (fun hc => ?_) <;> (conv=>whnf)) | (refine Sp.dec (fun hc => ?_) (fun hc => ?_) <;> (conv=>whnf)) | (refine Sp.ndec (fun hc => ?_) (fun hc => ?_) <;> (conv=>whnf)) | (refine Sp.mk (fun hc => ?_) (fun hc => ?_) <;> (conv=>whnf)) | (refine Ap.a ?_ ?_ <;> (conv=>whnf)) | (refine Fi.a ?_;conv=>whnf) | (refine Ob.b ?_;conv=>whnf)
          all_goals first | (exfalso; omega) | exact ⟨rfl, ⟨i + 1, by omega, by omega⟩, Lf, by simp only; omega⟩
        · have z3 := z3 i i1 hi
          conv => whnf
          repeat' first | ((first | refine Ob.a ?_ | refine Sp.tt ?_ | refine Sp.ff ?_ | refine Sp.yes ?_ | refine Sp.no ?_ | refine Sp.nyes ?_ | refine Sp.nno ?_);conv=>whnf) | (refine Sp.ne (fun hc => ?_) (fun hc => ?_) <;> (conv=>whnf)) | (refine Sp.dec (fun hc => ?_) (fun hc => ?_) <;> (conv=>whnf)) | (refine Sp.ndec (fun hc => ?_) (fun hc => ?_) <;> (conv=>whnf)) | (refine Sp.mk (fun hc => ?_) (fun hc => ?_) <;> (conv=>whnf)) | (refine Ap.a ?_ ?_ <;> (conv=>whnf)) | (refine Fi.a ?_;conv=>whnf) | (refine Ob.b ?_;conv=>whnf)
          all_goals try (exfalso; omega)
          refine Lp.snap [0, 1, 2, 6, 7, 11, 62, 63, 64, 65, 67, 68, 69, 70, 71, 72, 73, 74, 75, 76, 77, 78, 79, 80, 81, 82] 100 ?_
          (conv=>whnf)
          refine LpB.go 83 ({i : Int // -1 ≤ i ∧ i ≤ (p : Int) - 1}) 0 (fun ⟨i, _⟩ nx => ([(10, .d (int i))], [(2, .row true 2 1 n (rowF (X3 (i + 1).toNat)))])) (fun p => (p.1 + 1).toNat) (⟨(p : Int) - 1, by omega, by omega⟩) ?_ ?_
          · rintro ⟨i, i0, i1⟩
            by_cases hi : 0 ≤ i
            · have e := s3 i hi (by omega)
              conv => whnf
              repeat' first | ((first | refine Ob.a ?_ | refine Sp.tt ?_ | refine Sp.ff ?_ | refine Sp.yes ?_ | refine Sp.no ?_ | refine Sp.nyes ?_ | refine Sp.nno ?_);conv=>whnf) | (refine Sp.ne (fun hc => ?_) (fun hc => ?_) <;> (conv=>whnf)) | (refine Sp.dec (fun hc => ?_) (fun hc => ?_) <;> (conv=>whnf)) | (refine Sp.ndec (fun hc => ?_) (fun hc => ?_) <;> (conv=>whnf)) | (refine Sp.mk (fun hc => ?_) (fun hc => ?_) <;> (conv=>whnf)) | (refine Ap.a ?_ ?_ <;> (conv=>whnf)) | (refine Fi.a ?_;conv=>whnf) | (refine Ob.b ?_;conv=>whnf)
              all_goals first | (exfalso; omega) | exact ⟨rfl, ⟨i - 1, by omega, by omega⟩, Lf, by simp only; omega⟩
            · have z4 := z4 i i0 hi
              conv => whnf
              repeat' first | ((first | refine Ob.a ?_ | refine Sp.tt ?_ | refine Sp.ff ?_ | refine Sp.yes ?_ | refine Sp.no ?_ | refine Sp.nyes ?_ | refine Sp.nno ?_);conv=>whnf) | (refine Sp.ne (fun hc => ?_) (fun hc => ?_) <;> (conv=>whnf)) | (refine Sp.dec (fun hc => ?_) (fun hc => ?_) <;> (conv=>whnf)) | (refine Sp.ndec (fun hc => ?_) (fun hc => ?_) <;> (conv=>whnf)) | (refine Sp.mk (fun hc => ?_) (fun hc => ?_) <;> (conv=>whnf)) | (refine Ap.a ?_ ?_ <;> (conv=>whnf)) | (refine Fi.a ?_;conv=>whnf) | (refine Ob.b ?_;conv=>whnf)
              all_goals try (exfalso; omega)
              refine Lp.snap [0, 1, 2, 6, 7, 82] 100 ?_
              (conv=>whnf)
              refine LpB.go 83 ({i : Int // (p : Int) + 1 ≤ i ∧ i ≤ n}) 0 (fun ⟨i, _⟩ nx => ([(11, .d (int i))], [(2, .row true 2 1 n (rowF (X4 i.toNat)))])) (fun p => (n - p.1).toNat) (⟨(p : Int) + 1, by omega, by omega⟩) ?_ ?_
              · rintro ⟨i, i0, i1⟩
                by_cases hi : i < n
                · have e := s4 i i0 hi
                  conv => whnf
                  repeat' first | ((first | refine Ob.a ?_ | refine Sp.tt ?_ | refine Sp.ff ?_ | refine Sp.yes ?_ | refine Sp.no ?_ | refine Sp.nyes ?_ | refine Sp.nno ?_);conv=>whnf) | (refine Sp.ne (fun hc => ?_) (fun hc => ?_) <;> (conv=>whnf)) | (refine Sp.dec (fun hc => ?_) (fun hc => ?_) <;> (conv=>whnf)) | (refine Sp.ndec (fun hc => ?_) (fun hc => ?_) <;> (conv=>whnf)) | (refine Sp.mk (fun hc => ?_) (fun hc => ?_) <;> (conv=>whnf)) | (refine Ap.a ?_ ?_ <;> (conv=>whnf)) | (refine Fi.a ?_;conv=>whnf) | (refine Ob.b ?_;conv=>whnf)
                  all_goals first | (exfalso; omega) | exact ⟨rfl, ⟨i + 1, by omega, by omega⟩, Lf, by simp only; omega⟩
                · have e := z5 i i1 hi
                  have e2 : (n : Int).toNat = fin.length := by omega
                  conv => whnf
                  repeat' first | ((first | refine Ob.a ?_ | refine Sp.tt ?_ | refine Sp.ff ?_ | refine Sp.yes ?_ | refine Sp.no ?_ | refine Sp.nyes ?_ | refine Sp.nno ?_);conv=>whnf) | (refine Sp.ne (fun hc => ?_) (fun hc => ?_) <;> (conv=>whnf)) | (refine Sp.dec (fun hc => ?_) (fun hc => ?_) <;> (conv=>whnf)) | (refine Sp.ndec (fun hc => ?_) (fun hc => ?_) <;> (conv=>whnf)) | (refine Sp.mk (fun hc => ?_) (fun hc => ?_) <;> (conv=>whnf)) | (refine Ap.a ?_ ?_ <;> (conv=>whnf)) | (refine Fi.a ?_;conv=>whnf) | (refine Ob.b ?_;conv=>whnf)
                  all_goals first | (exfalso; omega) | exact Lf
              · exact Lf
          · exact Lf
      · exact Lf
  · have e := z1
    conv => whnf
    repeat' first | (refine Edge.fast ?_) | ((conv=>whnf); first | exact True.intro | (refine And.intro ?_ ?_) | exact rfl | exact Nat.le_of_eq (Nat.zero_add _) | exact ImpS.refl _ | ((conv => arg 1; whnf); first | exact ImpS.refl _ | (refine ImpS.nil_eq ?_) | (refine ImpS.vnil_eq ?_) | (refine ImpS.row ?_) | (refine ImpS.rowN ?_ ?_) | (refine ImpS.sl_eq ?_) | (refine ImpS.expl rfl ?_)) | (refine row_snoc' ?_) | exact MImp.refl _ | exact cimp_none | exact cimp_same | exact List.not_mem_nil | exact DImp.refl _) | exact rfl | (refine And.intro ?_ ?_) | exact ImpS.refl _
    all_goals first | omega | skip
    refine rowF_const (x := 0) ?_ e
    exact Lf
end Go.Px.Try

/-! FrB -/
namespace Go.Px.Try
open Go Go.Proofs Go.Px
theorem own : ownKnob Try.prog.godebug = none := by kernel_rfl
theorem laidOut : laidOutB Try.prog = true := by kernel_rfl
def I64 (n : Int) : Prop := (Lit.int .i64 n).wf = true
theorem I64_rng {n : Int} (h : I64 n) : -9223372036854775808 ≤ n ∧ n ≤ 9223372036854775807 := by
  simp only [I64, Lit.wf, IntKind.min, IntKind.max, Bool.and_eq_true, decide_eq_true_eq] at h
  have h1 := h.1
  have h2 := h.2
  simp [IntKind.signed, IntKind.bits] at h1 h2
  omega
theorem opnInts : Opn true Try.prog 22 (fun l : List Int => [ints l]) (fun l => (∀ n ∈ l, I64 n) ∧ l.length ≤ maxLen) :=
  Opn.slice (k := 1) Try.underlying22 (by kernel_rfl) (by decide) (fun _ => rfl) (fun a x hx => by simp at hx; rcases hx with rfl; trivial) 0 (Opn.int Try.underlying2)
set_option maxRecDepth 100000 in
theorem ints_arg {H : Type} {enc : TypeId × Value → H} {w : World} {base : Nat} {v : Value} {d : DataW H} {ps : List MemPlace} (ht : DataW.Trod enc Try.prog w 0 (fun _ => true) true 22 v d ps) (hv : Value.okWide Try.prog w .any base 22 v) :
    ∃ l : List Int, ((∀ n ∈ l, I64 n) ∧ l.length ≤ maxLen) ∧ Rep (All w) w (ints l) v := by
  have hs := plain_slice Try.underlying22 hv
  obtain ⟨a, len, cap, rfl⟩ := Go.WideShapes.okWide_slice Try.underlying22 hv
  obtain ⟨l, hg, hc⟩ := Opn.arg opnInts ht fun _ => hs
  exact ⟨l, hg, hc.one rfl⟩
set_option maxRecDepth 100000 in
theorem int_arg {H : Type} {enc : TypeId × Value → H} {w : World} {base : Nat} {v : Value} {d : DataW H} {ps : List MemPlace} (ht : DataW.Trod enc Try.prog w 0 (fun _ => true) true 3 v d ps) (hv : Value.okWide Try.prog w .any base 3 v) :
    ∃ n : Int, (-9223372036854775808 ≤ n ∧ n ≤ 9223372036854775807) ∧ Rep (All w) w (int n) v := by
  obtain ⟨n, hg, hc⟩ := Opn.arg (Opn.int (q := false) Try.underlying3) ht fun h => by cases h
  obtain ⟨k, rfl⟩ := Go.WideShapes.okWide_int Try.underlying3 hv
  exact ⟨n, I64_rng hg, hc.one rfl⟩
set_option maxRecDepth 100000 in
theorem u16_arg {H : Type} {enc : TypeId × Value → H} {w : World} {base : Nat} {v : Value} {d : DataW H} {ps : List MemPlace} (ht : DataW.Trod enc Try.prog w 0 (fun _ => true) true 54 v d ps) (hv : Value.okWide Try.prog w .any base 54 v) :
    ∃ n : Nat, n < 65536 ∧ Rep (All w) w (u16 n) v := by
  obtain ⟨n, hg, hc⟩ := Opn.arg (Opn.int (q := false) Try.underlying54) ht fun h => by cases h
  obtain ⟨k, rfl⟩ := Go.WideShapes.okWide_int Try.underlying54 hv
  have hr := hc.one rfl
  simp only [Lit.wf, IntKind.min, IntKind.max, Bool.and_eq_true, decide_eq_true_eq] at hg
  have hn : n = (n.toNat : Int) := by have := hg.1; simp [IntKind.signed] at this; omega
  refine ⟨n.toNat, by have := hg.2; simp [IntKind.signed, IntKind.bits] at this; omega, ?_⟩
  rw [hn] at hr; exact hr
set_option maxRecDepth 100000 in
theorem u8_arg {H : Type} {enc : TypeId × Value → H} {w : World} {base : Nat} {v : Value} {d : DataW H} {ps : List MemPlace} (ht : DataW.Trod enc Try.prog w 0 (fun _ => true) true 5 v d ps) (hv : Value.okWide Try.prog w .any base 5 v) :
    ∃ n : Nat, n < 256 ∧ Rep (All w) w (u8 n) v := by
  obtain ⟨n, hg, hc⟩ := Opn.arg (Opn.int (q := false) Try.underlying5) ht fun h => by cases h
  obtain ⟨k, rfl⟩ := Go.WideShapes.okWide_int Try.underlying5 hv
  have hr := hc.one rfl
  simp only [Lit.wf, IntKind.min, IntKind.max, Bool.and_eq_true, decide_eq_true_eq] at hg
  have hn : n = (n.toNat : Int) := by have := hg.1; simp [IntKind.signed] at this; omega
  refine ⟨n.toNat, by have := hg.2; simp [IntKind.signed, IntKind.bits] at this; omega, ?_⟩
  rw [hn] at hr; exact hr
set_option maxRecDepth 100000 in
theorem long_arg {H : Type} {enc : TypeId × Value → H} {w : World} {base : Nat} {v : Value} {d : DataW H} {ps : List MemPlace} (ht : DataW.Trod enc Try.prog w 0 (fun _ => true) true 2 v d ps) (hv : Value.okWide Try.prog w .any base 2 v) :
    ∃ n : Int, (-9223372036854775808 ≤ n ∧ n ≤ 9223372036854775807) ∧ Rep (All w) w (int n) v := by
  obtain ⟨n, hg, hc⟩ := Opn.arg (Opn.int (q := false) Try.underlying2) ht fun h => by cases h
  obtain ⟨k, rfl⟩ := Go.WideShapes.okWide_int Try.underlying2 hv
  exact ⟨n, I64_rng hg, hc.one rfl⟩
def U16 (n : Int) : Prop := (Lit.int .u16 n).wf = true
theorem U16_rng {n : Int} (h : U16 n) : 0 ≤ n ∧ n < 65536 := by
  simp only [U16, Lit.wf, IntKind.min, IntKind.max, Bool.and_eq_true, decide_eq_true_eq] at h
  have h1 := h.1
  have h2 := h.2
  simp [IntKind.signed, IntKind.bits] at h1 h2
  omega
theorem opnU16s : Opn true Try.prog 49 (fun l : List Int => [slOf 1 (fun n => .v (.int .u16 n)) 0 l]) (fun l => (∀ n ∈ l, U16 n) ∧ l.length ≤ maxLen) :=
  Opn.slice (k := 1) Try.underlying49 (by kernel_rfl) (by decide) (fun _ => rfl) (fun a x hx => by simp at hx; rcases hx with rfl; trivial) 0 (Opn.int (q := false) Try.underlying54)
set_option maxRecDepth 100000 in
theorem u16s_arg {H : Type} {enc : TypeId × Value → H} {w : World} {base : Nat} {v : Value} {d : DataW H} {ps : List MemPlace} (ht : DataW.Trod enc Try.prog w 0 (fun _ => true) true 49 v d ps) (hv : Value.okWide Try.prog w .any base 49 v) :
    ∃ l : List Nat, ((∀ x ∈ l, x < 65536) ∧ l.length ≤ maxLen) ∧ Rep (All w) w (u16s l) v := by
  have hs := plain_slice Try.underlying49 hv
  obtain ⟨a, len, cap, rfl⟩ := Go.WideShapes.okWide_slice Try.underlying49 hv
  obtain ⟨l, hg, hc⟩ := Opn.arg opnU16s ht fun _ => hs
  refine ⟨l.map Int.toNat, ⟨fun x hx => ?_, by rw [List.length_map]; exact hg.2⟩, ?_⟩
  · obtain ⟨y, hy, rfl⟩ := List.mem_map.1 hx
    have := U16_rng (hg.1 y hy); omega
  · have hr := hc.one rfl
    have e : u16s (l.map Int.toNat) = slOf 1 (fun n => .v (.int .u16 n)) 0 l := by
      unfold u16s slOf
      rw [List.length_map]
      congr 1
      funext i
      rw [List.getD_eq_getElem?_getD, List.getD_eq_getElem?_getD, List.getElem?_map]
      cases h : l[i]? with
      | none => rfl
      | some y =>
        have := U16_rng (hg.1 y (List.mem_of_getElem? h))
        show DV.v (.int .u16 ((y.toNat : Nat) : Int)) = .v (.int .u16 y)
        rw [Int.toNat_of_nonneg this.1]
    rw [e]; exact hr
set_option maxRecDepth 100000 in
theorem bool_arg {H : Type} {enc : TypeId × Value → H} {w : World} {base : Nat} {v : Value} {d : DataW H} {ps : List MemPlace} (ht : DataW.Trod enc Try.prog w 0 (fun _ => true) true 4 v d ps) (hv : Value.okWide Try.prog w .any base 4 v) :
    ∃ b : Bool, True ∧ Rep (All w) w (bool b) v := by
  obtain ⟨b, rfl, _, _⟩ := RowKit.open_bool Try.underlying4 hv ht
  exact ⟨b, trivial, rfl⟩
end Go.Px.Try
