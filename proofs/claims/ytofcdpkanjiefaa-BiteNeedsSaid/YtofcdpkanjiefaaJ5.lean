/- Texts of this proof, joined (Bl4, Bl5, Bl6, Bp1, Bp2, Bp3, Bp4, Bp5, Bp6, Bp7, Bp8, Bp9, Bm12, Bp10, Bl7, Bl8, Bp11): a small program logic over the model, and what functions of the program give. No statement of the seat is proved here. -/
import Derived.Test.YtofcdpkanjiefaaJ4
import Derived.Lib.SliceRun
import Derived.Lib.AppendZerosOnto
set_option linter.unusedVariables false
set_option linter.unusedSimpArgs false

/-! Bl4 -/
namespace Go.Px.Try
open Go Go.Proofs Go.Px
set_option maxRecDepth 100000
/-- A row of which i elements at each end are exchanged. -/
def rvF (L : List Int) (i a : Nat) : Int := if a < i ∨ L.length ≤ a + i then L.getD (L.length - 1 - a) 0 else L.getD a 0
def rvL (L : List Int) (i : Nat) : List Int := (List.range L.length).map (rvF L i)
theorem rvL_len (L : List Int) (i : Nat) : (rvL L i).length = L.length := by simp [rvL]
theorem rvL_at {L : List Int} {i a : Nat} (h : a < L.length) : (rvL L i).getD a 0 = rvF L i a := by
  unfold rvL
  rw [List.getD_eq_getElem?_getD, List.getElem?_map, List.getElem?_range h]; rfl
theorem rvL_zero (L : List Int) : rvL L 0 = L := list_eq (rvL_len L 0) fun i hi => by
  rw [rvL_len] at hi
  show (rvL L 0).getD i 0 = L.getD i 0
  rw [rvL_at hi, rvF, if_neg (by omega)]
theorem rvL_end {L : List Int} {i : Nat} (h : L.length ≤ i + i + 1) : rvL L i = L.reverse := list_eq (by rw [rvL_len, List.length_reverse]) fun a ha => by
  rw [rvL_len] at ha
  show (rvL L i).getD a 0 = L.reverse.getD a 0
  rw [rvL_at ha, getD_rev ha, rvF]
  by_cases hc : a < i ∨ L.length ≤ a + i
  · rw [if_pos hc]
  · rw [if_neg hc]; congr 1; omega
theorem rvL_step {L : List Int} {i : Nat} (h : i + i + 1 < L.length) : ∀ a, a < L.length → (rvL L (i + 1)).getD a 0 = if a = L.length - 1 - i then (rvL L i).getD i 0 else if a = i then (rvL L i).getD (L.length - 1 - i) 0 else (rvL L i).getD a 0 := fun a ha => by
  rw [rvL_at ha, rvL_at ha, rvL_at (by omega), rvL_at (by omega)]
  unfold rvF
  by_cases e1 : a = L.length - 1 - i
  · rw [if_pos e1, if_pos (by omega), if_neg (by omega)]; congr 1; omega
  · rw [if_neg e1]
    by_cases e2 : a = i
    · rw [if_pos e2, if_pos (by omega), if_neg (by omega)]; congr 1; omega
    · rw [if_neg e2]
      by_cases e3 : a < i ∨ L.length ≤ a + i
      · rw [if_pos e3, if_pos (by omega)]
      · rw [if_neg e3, if_neg (by omega)]
set_option maxHeartbeats 8000000 in
theorem Reverse_spec (L : List Int) (h1 : L.length < 1000) : FnI Try.prog 79 2 1 L.length (rowOf int 0 L) (rowOf int 0 L.reverse) [] (.d .top) := by
  have hln := rvL_len L
  have hst : ∀ i : Int, 0 ≤ i → i < L.length - 1 - i → ∀ a, a < L.length → (rvL L (i + 1).toNat).getD a 0 = if a = 0 + (L.length - 1 - i : Int).toNat then (rvL L i.toNat).getD (0 + i.toNat) 0 else if a = 0 + i.toNat then (rvL L i.toNat).getD (0 + (L.length - 1 - i : Int).toNat) 0 else (rvL L i.toNat).getD a 0 := fun i i0 i1 a ha => by
    rw [show (i + 1).toNat = i.toNat + 1 by omega, Nat.zero_add, Nat.zero_add, show (L.length - 1 - i : Int).toNat = L.length - 1 - i.toNat by omega]
    exact rvL_step (by omega) a ha
  have hend : ∀ i : Int, 0 ≤ i → ¬ i < L.length - 1 - i → rvL L i.toNat = L.reverse := fun i i0 i1 => rvL_end (by omega)
  have hz : L = rvL L (Int.toNat 0) := (rvL_zero L).symm
  generalize L.reverse = fin at *
  generalize rvL L = X at *
  refine FnI.of_ex (cuts := []) tys hM Try.func79 rfl Try.call79 rfl ?_
  show exC Try.prog T [] _ false none 1 (entryI 28 _ _ _ _ []) (finG T 1 [] _ _)
  conv => whnf
  repeat' first | ((first | refine Ob.a ?_ | refine Sp.tt ?_ | refine Sp.ff ?_ | refine Sp.yes ?_ | refine Sp.no ?_ | refine Sp.nyes ?_ | refine Sp.nno ?_);conv=>whnf) | (refine Sp.ne (fun hc => ?_) (fun hc => ?_) <;> (conv=>whnf)) | (refine Sp.dec (fun hc => ?_) (fun hc => ?_) <;> (conv=>whnf)) | (refine Sp.ndec (fun hc => ?_) (fun hc => ?_) <;> (conv=>whnf)) | (refine Sp.mk (fun hc => ?_) (fun hc => ?_) <;> (conv=>whnf)) | (refine Nx.mk (fun ka kb kx hx hs => ?_) (fun he => ?_) <;> (conv=>whnf)) | (refine Nx.mk (fun ka kx hx hs => ?_) (fun he => ?_) <;> (conv=>whnf)) | (refine Uk.mk (fun hn => ?_) ?_ <;> (conv=>whnf)) | (refine Ap.a ?_ ?_ <;> (conv=>whnf)) | (refine Fi.a ?_;conv=>whnf) | (refine Yl.a ?_ ?_ <;> (conv=>whnf)) | (refine Ob.b ?_;conv=>whnf)
  refine Lp.snap [0] 100 ?_
  (conv=>whnf)
  refine LpB.go 28 ({q : Int × List Int // (0 ≤ q.1 ∧ q.1 ≤ L.length) ∧ q.2 = X q.1.toNat}) 0 (fun ⟨(i, M), _⟩ nx => ([(2, .d (int i)), (3, .d (int (L.length - 1 - i)))], [(0, .row true 2 1 L.length (rowOf int 0 M))])) (fun p => (L.length - p.1.1).toNat) (⟨(0, L), ⟨by simp, by simp⟩, hz⟩) ?_ ?_
  · rintro ⟨⟨i, M⟩, ⟨i0, i1⟩, hM⟩
    simp only at i0 i1 hM
    by_cases hi : i < L.length - 1 - i
    · have e := hst i i0 hi
      rw [← hM] at e
      have e2 : (L.length : Int) - 1 - i - 1 = L.length - 1 - (i + 1) := by omega
      conv => whnf
      repeat' first | ((first | refine Ob.a ?_ | refine Sp.tt ?_ | refine Sp.ff ?_ | refine Sp.yes ?_ | refine Sp.no ?_ | refine Sp.nyes ?_ | refine Sp.nno ?_);conv=>whnf) | (refine Sp.ne (fun hc => ?_) (fun hc => ?_) <;> (conv=>whnf)) | (refine Sp.dec (fun hc => ?_) (fun hc => ?_) <;> (conv=>whnf)) | (refine Sp.ndec (fun hc => ?_) (fun hc => ?_) <;> (conv=>whnf)) | (refine Sp.mk (fun hc => ?_) (fun hc => ?_) <;> (conv=>whnf)) | (refine Nx.mk (fun ka kb kx hx hs => ?_) (fun he => ?_) <;> (conv=>whnf)) | (refine Nx.mk (fun ka kx hx hs => ?_) (fun he => ?_) <;> (conv=>whnf)) | (refine Uk.mk (fun hn => ?_) ?_ <;> (conv=>whnf)) | (refine Ap.a ?_ ?_ <;> (conv=>whnf)) | (refine Fi.a ?_;conv=>whnf) | (refine Yl.a ?_ ?_ <;> (conv=>whnf)) | (refine Ob.b ?_;conv=>whnf)
      all_goals exact ⟨rfl, ⟨(i + 1, X (i + 1).toNat), ⟨by simp only; omega, by simp only; omega⟩, rfl⟩, Lf, by simp only; omega⟩
    · have e := hend i i0 hi
      rw [← hM] at e
      subst e
      conv => whnf
      repeat' first | ((first | refine Ob.a ?_ | refine Sp.tt ?_ | refine Sp.ff ?_ | refine Sp.yes ?_ | refine Sp.no ?_ | refine Sp.nyes ?_ | refine Sp.nno ?_);conv=>whnf) | (refine Sp.ne (fun hc => ?_) (fun hc => ?_) <;> (conv=>whnf)) | (refine Sp.dec (fun hc => ?_) (fun hc => ?_) <;> (conv=>whnf)) | (refine Sp.ndec (fun hc => ?_) (fun hc => ?_) <;> (conv=>whnf)) | (refine Sp.mk (fun hc => ?_) (fun hc => ?_) <;> (conv=>whnf)) | (refine Nx.mk (fun ka kb kx hx hs => ?_) (fun he => ?_) <;> (conv=>whnf)) | (refine Nx.mk (fun ka kx hx hs => ?_) (fun he => ?_) <;> (conv=>whnf)) | (refine Uk.mk (fun hn => ?_) ?_ <;> (conv=>whnf)) | (refine Ap.a ?_ ?_ <;> (conv=>whnf)) | (refine Fi.a ?_;conv=>whnf) | (refine Yl.a ?_ ?_ <;> (conv=>whnf)) | (refine Ob.b ?_;conv=>whnf)
      all_goals exact Lf
  · exact Lf
/-- Of nothing. -/
theorem Reverse_none : Fn Try.prog 79 [ints []] .top := by
  refine Fn.of_ex (cuts := []) tys hM Try.func79 rfl Try.call79 rfl ?_
  show exC Try.prog T [] _ false none 0 (entry 28 [ints []]) (finQ T [] _)
  conv => whnf
  repeat' first | ((first | refine Ob.a ?_ | refine Sp.tt ?_ | refine Sp.ff ?_ | refine Sp.yes ?_ | refine Sp.no ?_ | refine Sp.nyes ?_ | refine Sp.nno ?_);conv=>whnf) | (refine Sp.ne (fun hc => ?_) (fun hc => ?_) <;> (conv=>whnf)) | (refine Sp.dec (fun hc => ?_) (fun hc => ?_) <;> (conv=>whnf)) | (refine Sp.ndec (fun hc => ?_) (fun hc => ?_) <;> (conv=>whnf)) | (refine Sp.mk (fun hc => ?_) (fun hc => ?_) <;> (conv=>whnf)) | (refine Nx.mk (fun ka kb kx hx hs => ?_) (fun he => ?_) <;> (conv=>whnf)) | (refine Nx.mk (fun ka kx hx hs => ?_) (fun he => ?_) <;> (conv=>whnf)) | (refine Uk.mk (fun hn => ?_) ?_ <;> (conv=>whnf)) | (refine Ap.a ?_ ?_ <;> (conv=>whnf)) | (refine Fi.a ?_;conv=>whnf) | (refine Yl.a ?_ ?_ <;> (conv=>whnf)) | (refine Ob.b ?_;conv=>whnf)
  refine Lp.snap [0] 100 ?_
  (conv=>whnf)
  refine LpB.go 28 (Unit) 0 (fun _ nx => ([(2, .d (int 0)), (3, .d (int (-1)))], [])) (fun p => 0) (()) ?_ ?_
  · rintro ⟨⟩
    conv => whnf
    repeat' first | ((first | refine Ob.a ?_ | refine Sp.tt ?_ | refine Sp.ff ?_ | refine Sp.yes ?_ | refine Sp.no ?_ | refine Sp.nyes ?_ | refine Sp.nno ?_);conv=>whnf) | (refine Sp.ne (fun hc => ?_) (fun hc => ?_) <;> (conv=>whnf)) | (refine Sp.dec (fun hc => ?_) (fun hc => ?_) <;> (conv=>whnf)) | (refine Sp.ndec (fun hc => ?_) (fun hc => ?_) <;> (conv=>whnf)) | (refine Sp.mk (fun hc => ?_) (fun hc => ?_) <;> (conv=>whnf)) | (refine Nx.mk (fun ka kb kx hx hs => ?_) (fun he => ?_) <;> (conv=>whnf)) | (refine Nx.mk (fun ka kx hx hs => ?_) (fun he => ?_) <;> (conv=>whnf)) | (refine Uk.mk (fun hn => ?_) ?_ <;> (conv=>whnf)) | (refine Ap.a ?_ ?_ <;> (conv=>whnf)) | (refine Fi.a ?_;conv=>whnf) | (refine Yl.a ?_ ?_ <;> (conv=>whnf)) | (refine Ob.b ?_;conv=>whnf)
    all_goals exact Lf
  · exact Lf
end Go.Px.Try

/-! Bl5 -/
namespace Go.Px.Try
open Go Go.Proofs Go.Px
set_option maxRecDepth 100000
theorem row_app0 {α : Type} {enc : α → DV} {d : α} {l : List α} {z : Nat → DV} {n : Nat} : ∀ j, j < n → CImp (apd 0 z (fun i => enc (l.getD i d)) j) (rowOf enc d l j) := fun j hj => by
  unfold apd rowOf
  rw [if_neg (Nat.not_lt_zero j)]
  exact CImp.refl _
set_option maxHeartbeats 8000000 in
theorem Clone_spec (L : List Int) (h0 : 0 < L.length) (h1 : L.length < 1000) : FnF Try.prog 78 [ints L] 2 1 L.length (rowOf int 0 L) (.ms 0 1 0 L.length) := by
  refine FnF.of_ex (cuts := []) tys hM Try.func78 rfl Try.call78 rfl ?_
  show exC Try.prog T [] _ false none 0 (entry 8 [ints L]) (finG T 0 [ResultVar.tmp 2] _ _)
  conv => whnf
  repeat' first | ((first | refine Ob.a ?_ | refine Sp.tt ?_ | refine Sp.ff ?_ | refine Sp.yes ?_ | refine Sp.no ?_ | refine Sp.nyes ?_ | refine Sp.nno ?_);conv=>whnf) | (refine Sp.ne (fun hc => ?_) (fun hc => ?_) <;> (conv=>whnf)) | (refine Sp.dec (fun hc => ?_) (fun hc => ?_) <;> (conv=>whnf)) | (refine Sp.ndec (fun hc => ?_) (fun hc => ?_) <;> (conv=>whnf)) | (refine Sp.mk (fun hc => ?_) (fun hc => ?_) <;> (conv=>whnf)) | (refine Nx.mk (fun ka kb kx hx hs => ?_) (fun he => ?_) <;> (conv=>whnf)) | (refine Nx.mk (fun ka kx hx hs => ?_) (fun he => ?_) <;> (conv=>whnf)) | (refine Uk.mk (fun hn => ?_) ?_ <;> (conv=>whnf)) | (refine Ap.a ?_ ?_ <;> (conv=>whnf)) | (refine Fi.a ?_;conv=>whnf) | (refine Yl.a ?_ ?_ <;> (conv=>whnf)) | (refine Ob.b ?_;conv=>whnf)
  all_goals try (exfalso; omega)
  · conv => whnf
    repeat' first | (refine Edge.fast ?_) | ((conv=>whnf); first | exact True.intro | (refine And.intro ?_ ?_) | exact rfl | exact Nat.le_of_eq (Nat.zero_add _) | exact ImpS.refl _ | ((conv => arg 1; whnf); first | exact ImpS.refl _ | (refine ImpS.nil_eq ?_) | (refine ImpS.vnil_eq ?_) | (refine ImpS.row ?_) | (refine ImpS.rowN ?_ ?_) | (refine ImpS.sl_eq ?_) | (refine ImpS.expl rfl ?_)) | (refine row_snoc' ?_) | exact MImp.refl _ | exact cimp_none | exact cimp_same | exact List.not_mem_nil | exact DImp.refl _) | exact rfl | (refine And.intro ?_ ?_) | exact ImpS.refl _
    all_goals first | omega | exact Lf
def itC (L : List Int) : List DV := [.pt (.ag 1 fun _ => ints L) 0]
def itF (L : List Int) : DV := .fn 90 0 1 (fun _ => .top) (fun j => (itC L).getD j .top)
theorem Values_spec (L : List Int) : Fn Try.prog 86 [ints L] (itF L) := by
  refine Fn.of_ex (cuts := []) tys hM Try.func86 rfl Try.call86 rfl ?_
  show exC Try.prog T [] _ false none 0 (entry 4 [ints L]) (finQ T [ResultVar.tmp 2] _)
  conv => whnf
  repeat' first | ((first | refine Ob.a ?_ | refine Sp.tt ?_ | refine Sp.ff ?_ | refine Sp.yes ?_ | refine Sp.no ?_ | refine Sp.nyes ?_ | refine Sp.nno ?_);conv=>whnf) | (refine Sp.ne (fun hc => ?_) (fun hc => ?_) <;> (conv=>whnf)) | (refine Sp.dec (fun hc => ?_) (fun hc => ?_) <;> (conv=>whnf)) | (refine Sp.ndec (fun hc => ?_) (fun hc => ?_) <;> (conv=>whnf)) | (refine Sp.mk (fun hc => ?_) (fun hc => ?_) <;> (conv=>whnf)) | (refine Nx.mk (fun ka kb kx hx hs => ?_) (fun he => ?_) <;> (conv=>whnf)) | (refine Nx.mk (fun ka kx hx hs => ?_) (fun he => ?_) <;> (conv=>whnf)) | (refine Uk.mk (fun hn => ?_) ?_ <;> (conv=>whnf)) | (refine Ap.a ?_ ?_ <;> (conv=>whnf)) | (refine Fi.a ?_;conv=>whnf) | (refine Yl.a ?_ ?_ <;> (conv=>whnf)) | (refine Ob.b ?_;conv=>whnf)
  all_goals exact Lf
set_option maxHeartbeats 8000000 in
theorem Values1_spec (L : List Int) (h1 : L.length < 1000000) : Seq Try.prog 90 [] (itC L) L.length (fun k => [int (L.getD k 0)]) := by
  refine Seq.of_ex (cuts := []) tys hM Try.func90 rfl Try.call90 rfl rfl fun ly => ?_
  show exC Try.prog T [] _ false (some ⟨ly, _, _⟩) 0 (entry 16 ([] ++ [.v (.func (.yield ly) #[] #[])] ++ itC L)) (finY _)
  conv => whnf
  repeat' first | ((first | refine Ob.a ?_ | refine Sp.tt ?_ | refine Sp.ff ?_ | refine Sp.yes ?_ | refine Sp.no ?_ | refine Sp.nyes ?_ | refine Sp.nno ?_);conv=>whnf) | (refine Sp.ne (fun hc => ?_) (fun hc => ?_) <;> (conv=>whnf)) | (refine Sp.dec (fun hc => ?_) (fun hc => ?_) <;> (conv=>whnf)) | (refine Sp.ndec (fun hc => ?_) (fun hc => ?_) <;> (conv=>whnf)) | (refine Sp.mk (fun hc => ?_) (fun hc => ?_) <;> (conv=>whnf)) | (refine Nx.mk (fun ka kb kx hx hs => ?_) (fun he => ?_) <;> (conv=>whnf)) | (refine Nx.mk (fun ka kx hx hs => ?_) (fun he => ?_) <;> (conv=>whnf)) | (refine Uk.mk (fun hn => ?_) ?_ <;> (conv=>whnf)) | (refine Ap.a ?_ ?_ <;> (conv=>whnf)) | (refine Fi.a ?_;conv=>whnf) | (refine Yl.a ?_ ?_ <;> (conv=>whnf)) | (refine Ob.b ?_;conv=>whnf)
  refine Lp.go 16 {i : Int // 0 ≤ i ∧ i ≤ L.length} (fun ⟨i, _⟩ => ⟨0, [(0, .d (.v (.func (.yield ly) #[] #[]))), (5, .d (ints L)), (6, .d (int L.length)), (7, .d (int i))], [], some i.toNat⟩) (fun p => (L.length - p.1).toNat) ⟨0, by omega, by omega⟩ ?_ ?_ rfl (fun _ => rfl)
  · rintro ⟨i, i0, i1⟩
    by_cases hi : i < L.length
    · have e : some (i.toNat + 1) = some (i + 1).toNat := by congr 1; omega
      have e2 : i.toNat < L.length := by omega
      conv => whnf
      repeat' first | ((first | refine Ob.a ?_ | refine Sp.tt ?_ | refine Sp.ff ?_ | refine Sp.yes ?_ | refine Sp.no ?_ | refine Sp.nyes ?_ | refine Sp.nno ?_);conv=>whnf) | (refine Sp.ne (fun hc => ?_) (fun hc => ?_) <;> (conv=>whnf)) | (refine Sp.dec (fun hc => ?_) (fun hc => ?_) <;> (conv=>whnf)) | (refine Sp.ndec (fun hc => ?_) (fun hc => ?_) <;> (conv=>whnf)) | (refine Sp.mk (fun hc => ?_) (fun hc => ?_) <;> (conv=>whnf)) | (refine Nx.mk (fun ka kb kx hx hs => ?_) (fun he => ?_) <;> (conv=>whnf)) | (refine Nx.mk (fun ka kx hx hs => ?_) (fun he => ?_) <;> (conv=>whnf)) | (refine Uk.mk (fun hn => ?_) ?_ <;> (conv=>whnf)) | (refine Ap.a ?_ ?_ <;> (conv=>whnf)) | (refine Fi.a ?_;conv=>whnf) | (refine Yl.a ?_ ?_ <;> (conv=>whnf)) | (refine Ob.b ?_;conv=>whnf)
      all_goals first | exact .inl rfl | exact ⟨rfl, ⟨i + 1, by omega, by omega⟩, Lf, by simp only; omega⟩
    · have e : i.toNat = L.length := by omega
      conv => whnf
      repeat' first | ((first | refine Ob.a ?_ | refine Sp.tt ?_ | refine Sp.ff ?_ | refine Sp.yes ?_ | refine Sp.no ?_ | refine Sp.nyes ?_ | refine Sp.nno ?_);conv=>whnf) | (refine Sp.ne (fun hc => ?_) (fun hc => ?_) <;> (conv=>whnf)) | (refine Sp.dec (fun hc => ?_) (fun hc => ?_) <;> (conv=>whnf)) | (refine Sp.ndec (fun hc => ?_) (fun hc => ?_) <;> (conv=>whnf)) | (refine Sp.mk (fun hc => ?_) (fun hc => ?_) <;> (conv=>whnf)) | (refine Nx.mk (fun ka kb kx hx hs => ?_) (fun he => ?_) <;> (conv=>whnf)) | (refine Nx.mk (fun ka kx hx hs => ?_) (fun he => ?_) <;> (conv=>whnf)) | (refine Uk.mk (fun hn => ?_) ?_ <;> (conv=>whnf)) | (refine Ap.a ?_ ?_ <;> (conv=>whnf)) | (refine Fi.a ?_;conv=>whnf) | (refine Yl.a ?_ ?_ <;> (conv=>whnf)) | (refine Ob.b ?_;conv=>whnf)
      exact .inr (congrArg some e)
  · exact Lf
theorem take_succ_getD (L : List Int) (k : Nat) (d : Int) (h : k < L.length) : L.take (k + 1) = L.take k ++ [L.getD k d] := by
  rw [List.take_succ_eq_append_getElem h, List.getD_eq_getElem?_getD, List.getElem?_eq_getElem h]; rfl
theorem row_first5 {α : Type} {enc : α → DV} {d : α} {x : α} {f g : Nat → DV} (h : CImp (g 0) (enc x)) : ∀ j, j < [x].length → CImp (apd 0 f g j) (rowOf enc d [x] j) := by
  intro j hj
  have : j = 0 := by simp at hj; omega
  subst this
  exact h
set_option maxHeartbeats 8000000 in
theorem AppendSeq_spec (L : List Int) (h0 : 0 < L.length) (h1 : L.length < 1000000) : FnF Try.prog 91 [.v (.slice none 0 0), itF L] 2 1 L.length (rowOf int 0 L) (.ms 0 1 0 L.length) := by
  have hsq := Values1_spec L h1
  refine FnF.of_ex (cuts := []) tys hM Try.func91 rfl Try.call91 rfl ?_
  show exC Try.prog T [] _ false none 0 (entry 13 [.v (.slice none 0 0), itF L]) (finG T 0 [ResultVar.tmp 4] _ _)
  conv => whnf
  repeat' first | ((first | refine Ob.a ?_ | refine Sp.tt ?_ | refine Sp.ff ?_ | refine Sp.yes ?_ | refine Sp.no ?_ | refine Sp.nyes ?_ | refine Sp.nno ?_);conv=>whnf) | (refine Sp.ne (fun hc => ?_) (fun hc => ?_) <;> (conv=>whnf)) | (refine Sp.dec (fun hc => ?_) (fun hc => ?_) <;> (conv=>whnf)) | (refine Sp.ndec (fun hc => ?_) (fun hc => ?_) <;> (conv=>whnf)) | (refine Sp.mk (fun hc => ?_) (fun hc => ?_) <;> (conv=>whnf)) | (refine Nx.mk (fun ka kb kx hx hs => ?_) (fun he => ?_) <;> (conv=>whnf)) | (refine Nx.mk (fun ka kx hx hs => ?_) (fun he => ?_) <;> (conv=>whnf)) | (refine Uk.mk (fun hn => ?_) ?_ <;> (conv=>whnf)) | (refine Ap.a ?_ ?_ <;> (conv=>whnf)) | (refine Fi.a ?_;conv=>whnf) | (refine Yl.a ?_ ?_ <;> (conv=>whnf)) | (refine Ob.b ?_;conv=>whnf)
  refine Rg.snap [0, 1, 2, 4] 40 ?_
  (conv=>whnf)
  refine RgB.go 13 ({k : Nat // k ≤ L.length}) 1 (fun ⟨k, _⟩ nx => match k with
    | 0 => []
    | k + 1 => [(0, .cs true 1 fun _ => .ms nx 1 0 (k + 1)), (nx, .row true 2 1 (k + 1) (rowOf int 0 (L.take (k + 1))))]) (fun p => p.1) (⟨0, by omega⟩) hsq ?_ ?_ ?_
  · rintro ⟨k, hk⟩ j hj0 hj
    simp only at hj0
    subst hj0
    have ht := take_succ_getD L k 0 hj
    have hln : (L.take k).length = k := by rw [List.length_take]; omega
    cases k with
    | zero =>
      have ht : L.take 1 = [L.getD 0 0] := by simpa using ht
      conv => whnf
      repeat' first | ((first | refine Ob.a ?_ | refine Sp.tt ?_ | refine Sp.ff ?_ | refine Sp.yes ?_ | refine Sp.no ?_ | refine Sp.nyes ?_ | refine Sp.nno ?_);conv=>whnf) | (refine Sp.ne (fun hc => ?_) (fun hc => ?_) <;> (conv=>whnf)) | (refine Sp.dec (fun hc => ?_) (fun hc => ?_) <;> (conv=>whnf)) | (refine Sp.ndec (fun hc => ?_) (fun hc => ?_) <;> (conv=>whnf)) | (refine Sp.mk (fun hc => ?_) (fun hc => ?_) <;> (conv=>whnf)) | (refine Nx.mk (fun ka kb kx hx hs => ?_) (fun he => ?_) <;> (conv=>whnf)) | (refine Nx.mk (fun ka kx hx hs => ?_) (fun he => ?_) <;> (conv=>whnf)) | (refine Uk.mk (fun hn => ?_) ?_ <;> (conv=>whnf)) | (refine Ap.a ?_ ?_ <;> (conv=>whnf)) | (refine Fi.a ?_;conv=>whnf) | (refine Yl.a ?_ ?_ <;> (conv=>whnf)) | (refine Ob.b ?_;conv=>whnf)
      refine ⟨rfl, ⟨1, hj⟩, rfl, ?_⟩
      conv => whnf
      repeat' first | (refine Edge.fast ?_) | ((conv=>whnf); first | exact True.intro | (refine And.intro ?_ ?_) | exact rfl | exact Nat.le_of_eq (Nat.zero_add _) | exact ImpS.refl _ | ((conv => arg 1; whnf); first | exact ImpS.refl _ | (refine ImpS.nil_eq ?_) | (refine ImpS.vnil_eq ?_) | (refine ImpS.row ?_) | (refine ImpS.rowN ?_ ?_) | (refine ImpS.sl_eq ?_) | (refine ImpS.expl rfl ?_)) | (refine row_snoc' ?_) | exact MImp.refl _ | exact cimp_none | exact cimp_same | exact List.not_mem_nil | exact DImp.refl _) | exact rfl | (refine And.intro ?_ ?_) | exact ImpS.refl _
      intro j hj2
      have h : ∀ f g : Nat → DV, CImp (g 0) (int (L.getD 0 0)) → CImp (apd 0 f g j) (rowOf int 0 (L.take (0 + 1)) j) := fun f g hg => by
        rw [show L.take (0 + 1) = [L.getD 0 0] from ht]
        exact row_first5 hg j hj2
      exact h _ _ ⟨rfl, rfl⟩
    | succ k =>
      conv => whnf
      repeat' first | ((first | refine Ob.a ?_ | refine Sp.tt ?_ | refine Sp.ff ?_ | refine Sp.yes ?_ | refine Sp.no ?_ | refine Sp.nyes ?_ | refine Sp.nno ?_);conv=>whnf) | (refine Sp.ne (fun hc => ?_) (fun hc => ?_) <;> (conv=>whnf)) | (refine Sp.dec (fun hc => ?_) (fun hc => ?_) <;> (conv=>whnf)) | (refine Sp.ndec (fun hc => ?_) (fun hc => ?_) <;> (conv=>whnf)) | (refine Sp.mk (fun hc => ?_) (fun hc => ?_) <;> (conv=>whnf)) | (refine Nx.mk (fun ka kb kx hx hs => ?_) (fun he => ?_) <;> (conv=>whnf)) | (refine Nx.mk (fun ka kx hx hs => ?_) (fun he => ?_) <;> (conv=>whnf)) | (refine Uk.mk (fun hn => ?_) ?_ <;> (conv=>whnf)) | (refine Ap.a ?_ ?_ <;> (conv=>whnf)) | (refine Fi.a ?_;conv=>whnf) | (refine Yl.a ?_ ?_ <;> (conv=>whnf)) | (refine Ob.b ?_;conv=>whnf)
      refine ⟨rfl, ⟨k + 1 + 1, hj⟩, rfl, ?_⟩
      conv => whnf
      repeat' first | (refine Edge.fast ?_) | ((conv=>whnf); first | exact True.intro | (refine And.intro ?_ ?_) | exact rfl | exact Nat.le_of_eq (Nat.zero_add _) | exact ImpS.refl _ | ((conv => arg 1; whnf); first | exact ImpS.refl _ | (refine ImpS.nil_eq ?_) | (refine ImpS.vnil_eq ?_) | (refine ImpS.row ?_) | (refine ImpS.rowN ?_ ?_) | (refine ImpS.sl_eq ?_) | (refine ImpS.expl rfl ?_)) | (refine row_snoc' ?_) | exact MImp.refl _ | exact cimp_none | exact cimp_same | exact List.not_mem_nil | exact DImp.refl _) | exact rfl | (refine And.intro ?_ ?_) | exact ImpS.refl _
      intro j hj2
      have h : ∀ g : Nat → DV, CImp (g 0) (int (L.getD (k + 1) 0)) → CImp (apd (k + 1) (rowOf int 0 (L.take (k + 1))) g j) (rowOf int 0 (L.take (k + 1 + 1)) j) := fun g hg => by
        have := row_snoc' (d := 0) (l := L.take (k + 1)) hg j (by rw [List.length_append, hln]; exact hj2)
        rw [hln] at this
        rw [ht]; exact this
      exact h _ ⟨rfl, rfl⟩
  · rintro ⟨k, hk⟩ hkn
    simp only at hkn
    subst hkn
    cases L with
    | nil => exact absurd h0 (by simp)
    | cons x L =>
      have e : (x :: L).take (L.length + 1) = x :: L := List.take_of_length_le (by simp)
      conv => whnf
      repeat' first | ((first | refine Ob.a ?_ | refine Sp.tt ?_ | refine Sp.ff ?_ | refine Sp.yes ?_ | refine Sp.no ?_ | refine Sp.nyes ?_ | refine Sp.nno ?_);conv=>whnf) | (refine Sp.ne (fun hc => ?_) (fun hc => ?_) <;> (conv=>whnf)) | (refine Sp.dec (fun hc => ?_) (fun hc => ?_) <;> (conv=>whnf)) | (refine Sp.ndec (fun hc => ?_) (fun hc => ?_) <;> (conv=>whnf)) | (refine Sp.mk (fun hc => ?_) (fun hc => ?_) <;> (conv=>whnf)) | (refine Nx.mk (fun ka kb kx hx hs => ?_) (fun he => ?_) <;> (conv=>whnf)) | (refine Nx.mk (fun ka kx hx hs => ?_) (fun he => ?_) <;> (conv=>whnf)) | (refine Uk.mk (fun hn => ?_) ?_ <;> (conv=>whnf)) | (refine Ap.a ?_ ?_ <;> (conv=>whnf)) | (refine Fi.a ?_;conv=>whnf) | (refine Yl.a ?_ ?_ <;> (conv=>whnf)) | (refine Ob.b ?_;conv=>whnf)
      rw [e]
      exact Lf
  · exact Lf
set_option maxHeartbeats 8000000 in
theorem Collect_spec (L : List Int) (h0 : 0 < L.length) (h1 : L.length < 1000000) : FnF Try.prog 88 [itF L] 2 1 L.length (rowOf int 0 L) (.ms 0 1 0 L.length) := by
  have h := AppendSeq_spec L h0 h1
  refine FnF.of_ex (cuts := []) tys hM Try.func88 rfl Try.call88 rfl ?_
  show exC Try.prog T [] _ false none 0 (entry 5 [itF L]) (finG T 0 [ResultVar.tmp 2] _ _)
  conv => whnf
  repeat' first | ((first | refine Ob.a ?_ | refine Sp.tt ?_ | refine Sp.ff ?_ | refine Sp.yes ?_ | refine Sp.no ?_ | refine Sp.nyes ?_ | refine Sp.nno ?_);conv=>whnf) | (refine Sp.ne (fun hc => ?_) (fun hc => ?_) <;> (conv=>whnf)) | (refine Sp.dec (fun hc => ?_) (fun hc => ?_) <;> (conv=>whnf)) | (refine Sp.ndec (fun hc => ?_) (fun hc => ?_) <;> (conv=>whnf)) | (refine Sp.mk (fun hc => ?_) (fun hc => ?_) <;> (conv=>whnf)) | (apply Cl.fr;(conv=>whnf); (first | (refine Ob.frX (h) ?_ ?_ ?_;(focus exact Lf); (focus exact Lf)));(conv=>whnf)) | (refine Nx.mk (fun ka kb kx hx hs => ?_) (fun he => ?_) <;> (conv=>whnf)) | (refine Nx.mk (fun ka kx hx hs => ?_) (fun he => ?_) <;> (conv=>whnf)) | (refine Uk.mk (fun hn => ?_) ?_ <;> (conv=>whnf)) | (refine Ap.a ?_ ?_ <;> (conv=>whnf)) | (refine Fi.a ?_;conv=>whnf) | (refine Yl.a ?_ ?_ <;> (conv=>whnf)) | (refine Ob.b ?_;conv=>whnf)
  all_goals exact Lf
set_option maxHeartbeats 8000000 in
theorem Sorted_spec (L : List Int) (h0 : 0 < L.length) (h1 : L.length ≤ 12) : FnF Try.prog 85 [itF L] 2 1 L.length (rowOf int 0 (sortI L)) (.ms 0 1 0 L.length) := by
  have h := Collect_spec L h0 (by omega)
  have hs := Sort_spec L h1
  refine FnF.of_ex (cuts := []) tys hM Try.func85 rfl Try.call85 rfl ?_
  show exC Try.prog T [] _ false none 0 (entry 9 [itF L]) (finG T 0 [ResultVar.tmp 2] _ _)
  conv => whnf
  repeat' first | ((first | refine Ob.a ?_ | refine Sp.tt ?_ | refine Sp.ff ?_ | refine Sp.yes ?_ | refine Sp.no ?_ | refine Sp.nyes ?_ | refine Sp.nno ?_);conv=>whnf) | (refine Sp.ne (fun hc => ?_) (fun hc => ?_) <;> (conv=>whnf)) | (refine Sp.dec (fun hc => ?_) (fun hc => ?_) <;> (conv=>whnf)) | (refine Sp.ndec (fun hc => ?_) (fun hc => ?_) <;> (conv=>whnf)) | (refine Sp.mk (fun hc => ?_) (fun hc => ?_) <;> (conv=>whnf)) | (apply Cl.ip;(conv=>whnf); (first | (refine Ob.ipX (hs) ?_ ?_ ?_ ?_ ?_;(focus (first | exact rfl | omega)); (focus exact Lf); (focus exact Lf); (focus exact Lf)));(conv=>whnf)) | (apply Cl.fr;(conv=>whnf); (first | (refine Ob.frX (h) ?_ ?_ ?_;(focus exact Lf); (focus exact Lf)));(conv=>whnf)) | (refine Nx.mk (fun ka kb kx hx hs => ?_) (fun he => ?_) <;> (conv=>whnf)) | (refine Nx.mk (fun ka kx hx hs => ?_) (fun he => ?_) <;> (conv=>whnf)) | (refine Uk.mk (fun hn => ?_) ?_ <;> (conv=>whnf)) | (refine Ap.a ?_ ?_ <;> (conv=>whnf)) | (refine Fi.a ?_;conv=>whnf) | (refine Yl.a ?_ ?_ <;> (conv=>whnf)) | (refine Ob.b ?_;conv=>whnf)
  all_goals exact Lf
end Go.Px.Try

/-! Bl6 -/
namespace Go.Px.Try
open Go Go.Proofs Go.Px
set_option maxRecDepth 100000
theorem cmpTo_zero {M : List Int} (h : 0 < M.length) : cmpTo M 0 = M.take 1 := rfl
theorem row_clear {F : Nat → Int} {l : List Int} {o m n : Nat} {z : Nat → DV} (hz : CImp (z 0) (int 0)) (hc : ∀ j, z j = z 0) (h : ∀ a, a < n → l.getD a 0 = if o ≤ a ∧ a < o + m then 0 else F a) : ∀ j, j < n → CImp (mid o m z (rowF F) j) (rowOf int 0 l j) := fun j hj => by
  unfold mid rowOf rowF
  rw [h j hj]
  by_cases e : o ≤ j ∧ j < o + m
  · rw [if_pos e, if_pos e, hc]; exact hz
  · rw [if_neg e, if_neg e]; exact CImp.refl _
/-- The row on the way. -/
def cmF (M : List Int) (q a : Nat) : Int := if a < (cmpTo M q).length then (cmpTo M q).getD a 0 else M.getD a 0
set_option maxHeartbeats 16000000 in
theorem Compact_spec (M : List Int) (h0 : 0 < M.length) (h1 : M.length < 1000) : FnI Try.prog 84 2 1 M.length (rowOf int 0 M) (rowOf int 0 (cmpL M)) [] (.ms 0 1 0 (cmpL M).length) := by
  have hlen := cmpTo_len M
  have hfin : cmpL M = cmpTo M (M.length - 1) := rfl
  have hstep : ∀ b, b + 1 < M.length → cmpTo M (b + 1) = if M.getD (b + 1) 0 = M.getD b 0 then cmpTo M b else cmpTo M b ++ [M.getD (b + 1) 0] := fun b _ => rfl
  have hone : cmpTo M 0 = M.take 1 := rfl
  have hF : ∀ q a, cmF M q a = if a < (cmpTo M q).length then (cmpTo M q).getD a 0 else M.getD a 0 := fun q a => rfl
  generalize cmpL M = fin at *
  generalize cmpTo M = X at *
  generalize cmF M = F at *
  refine FnI.of_ex (cuts := []) tys hM Try.func84 rfl Try.call84 rfl ?_
  show exC Try.prog T [] _ false none 1 (entryI 61 _ _ _ _ []) (finG T 1 [ResultVar.tmp 2] _ _)
  conv => whnf
  repeat' first | ((first | refine Ob.a ?_ | refine Sp.tt ?_ | refine Sp.ff ?_ | refine Sp.yes ?_ | refine Sp.no ?_ | refine Sp.nyes ?_ | refine Sp.nno ?_);conv=>whnf) | (refine Sp.ne (fun hc => ?_) (fun hc => ?_) <;> (conv=>whnf)) | (refine Sp.dec (fun hc => ?_) (fun hc => ?_) <;> (conv=>whnf)) | (refine Sp.ndec (fun hc => ?_) (fun hc => ?_) <;> (conv=>whnf)) | (refine Sp.mk (fun hc => ?_) (fun hc => ?_) <;> (conv=>whnf)) | (refine Nx.mk (fun ka kb kx hx hs => ?_) (fun he => ?_) <;> (conv=>whnf)) | (refine Nx.mk (fun ka kx hx hs => ?_) (fun he => ?_) <;> (conv=>whnf)) | (refine Uk.mk (fun hn => ?_) ?_ <;> (conv=>whnf)) | (refine Ap.a ?_ ?_ <;> (conv=>whnf)) | (refine Fi.a ?_;conv=>whnf) | (refine Yl.a ?_ ?_ <;> (conv=>whnf)) | (refine Ob.b ?_;conv=>whnf)
  · have e : fin = M := by rw [hfin, show M.length - 1 = 0 by omega, hone, List.take_of_length_le (by omega)]
    subst e
    exact Lf
  refine Lp.snap [0, 60] 100 ?_
  (conv=>whnf)
  refine LpB.go 61 ({k : Int // (1 ≤ k ∧ k ≤ M.length) ∧ X (k - 1).toNat = M.take k.toNat}) 0 (fun ⟨k, _⟩ nx => ([(3, .d (int k))], [])) (fun p => (M.length - p.1).toNat) (⟨1, ⟨by omega, by omega⟩, hone⟩) ?_ ?_
  · rintro ⟨k, ⟨k0, k1⟩, hX⟩
    by_cases hk : k < M.length
    · have hst := hstep (k - 1).toNat (by omega)
      rw [show (k - 1).toNat + 1 = k.toNat by omega, hX] at hst
      by_cases hc : M.getD (0 + k.toNat) 0 = M.getD (0 + (k - 1).toNat) 0
      case neg =>
        have e : X (k + 1 - 1).toNat = M.take (k + 1).toNat := by
          rw [Nat.zero_add, Nat.zero_add] at hc
          rw [show (k + 1 - 1).toNat = k.toNat by omega, hst, if_neg hc, show (k + 1).toNat = k.toNat + 1 by omega, take_succ_getD M _ 0 (by omega)]
        conv => whnf
        repeat' first | ((first | refine Ob.a ?_ | refine Sp.tt ?_ | refine Sp.ff ?_ | refine Sp.yes ?_ | refine Sp.no ?_ | refine Sp.nyes ?_ | refine Sp.nno ?_);conv=>whnf) | (refine Sp.ne (fun hc => ?_) (fun hc => ?_) <;> (conv=>whnf)) | (refine Sp.dec (fun hc => ?_) (fun hc => ?_) <;> (conv=>whnf)) | (refine Sp.ndec (fun hc => ?_) (fun hc => ?_) <;> (conv=>whnf)) | (refine Sp.mk (fun hc => ?_) (fun hc => ?_) <;> (conv=>whnf)) | (refine Nx.mk (fun ka kb kx hx hs => ?_) (fun he => ?_) <;> (conv=>whnf)) | (refine Nx.mk (fun ka kx hx hs => ?_) (fun he => ?_) <;> (conv=>whnf)) | (refine Uk.mk (fun hn => ?_) ?_ <;> (conv=>whnf)) | (refine Ap.a ?_ ?_ <;> (conv=>whnf)) | (refine Fi.a ?_;conv=>whnf) | (refine Yl.a ?_ ?_ <;> (conv=>whnf)) | (refine Ob.b ?_;conv=>whnf)
        all_goals first | exact ⟨rfl, ⟨k + 1, ⟨by omega, by omega⟩, e⟩, Lf, by simp only; omega⟩ | (exfalso; omega)
      rw [if_pos (by rw [Nat.zero_add, Nat.zero_add] at hc; exact hc)] at hst
      have hl0 : (X k.toNat).length = k.toNat := by rw [hst, List.length_take]; omega
      have hF0 : ∀ a, a < M.length → M.getD a 0 = F (k + 1 - 1).toNat a := fun a ha => by
        rw [show (k + 1 - 1).toNat = k.toNat by omega, hF, hl0, hst]
        by_cases e : a < k.toNat
        · rw [if_pos e]; exact (getD_take e).symm
        · rw [if_neg e]
      have hz0 : k = ((X (k + 1 - 1).toNat).length : Int) := by rw [show (k + 1 - 1).toNat = k.toNat by omega, hl0]; omega
      clear hst
      conv => whnf
      repeat' first | ((first | refine Ob.a ?_ | refine Sp.tt ?_ | refine Sp.ff ?_ | refine Sp.yes ?_ | refine Sp.no ?_ | refine Sp.nyes ?_ | refine Sp.nno ?_);conv=>whnf) | (refine Sp.ne (fun hc => ?_) (fun hc => ?_) <;> (conv=>whnf)) | (refine Sp.dec (fun hc => ?_) (fun hc => ?_) <;> (conv=>whnf)) | (refine Sp.ndec (fun hc => ?_) (fun hc => ?_) <;> (conv=>whnf)) | (refine Sp.mk (fun hc => ?_) (fun hc => ?_) <;> (conv=>whnf)) | (refine Nx.mk (fun ka kb kx hx hs => ?_) (fun he => ?_) <;> (conv=>whnf)) | (refine Nx.mk (fun ka kx hx hs => ?_) (fun he => ?_) <;> (conv=>whnf)) | (refine Uk.mk (fun hn => ?_) ?_ <;> (conv=>whnf)) | (refine Ap.a ?_ ?_ <;> (conv=>whnf)) | (refine Fi.a ?_;conv=>whnf) | (refine Yl.a ?_ ?_ <;> (conv=>whnf)) | (refine Ob.b ?_;conv=>whnf)
      all_goals try (exfalso; omega)
      refine Lp.snap [0, 2, 4, 10, 11, 12, 14, 15, 16, 17, 18, 19, 20, 21, 22, 23, 24, 26, 27, 28, 54, 55, 56, 57, 58, 59, 60] 100 ?_
      (conv=>whnf)
      refine LpB.go 61 ({y : Int // (1 ≤ y ∧ y ≤ M.length - k) ∧ ((X (k + y - 1).toNat).length : Int) ≤ k + y - 1}) 0 (fun ⟨y, _⟩ nx => ([(3, .d (int (X (k + y - 1).toNat).length)), (5, .d (int y))], [(0, .row true 2 1 M.length (rowF (F (k + y - 1).toNat)))])) (fun p => (M.length - p.1).toNat) (⟨1, ⟨by omega, by omega⟩, by rw [← hz0]; omega⟩) ?_ ?_
      · rintro ⟨y, ⟨y0, y1⟩, hy⟩
        obtain ⟨q, hq⟩ : ∃ q, (k + y - 1).toNat = q := ⟨_, rfl⟩
        have hxl := hlen q (by omega)
        rw [hq] at hy
        by_cases hyn : y < M.length - k
        · have hst := hstep q (by omega)
          have v1 : F q (0 + k.toNat + y.toNat) = M.getD (q + 1) 0 := by
            rw [hF, if_neg (by omega)]; congr 1; omega
          have v2 : F q (0 + k.toNat + (y - 1).toNat) = M.getD q 0 := by
            rw [hF, if_neg (by omega)]; congr 1; omega
          have hq1 : (k + (y + 1) - 1).toNat = q + 1 := by omega
          have hFq := hF q
          have hFq1 := hF (q + 1)
          have hq' := hq.symm
          by_cases hc : M.getD (q + 1) 0 = M.getD q 0
          · rw [if_pos hc] at hst
            have hc2 : F q (0 + k.toNat + y.toNat) = F q (0 + k.toNat + (y - 1).toNat) := by rw [v1, v2]; exact hc
            have e1 : ((X (k + y - 1).toNat).length : Int) = (X (k + (y + 1) - 1).toNat).length := by rw [hq, hq1, hst]
            have e2 : ∀ a, a < M.length → F (k + y - 1).toNat a = F (k + (y + 1) - 1).toNat a := fun a _ => by rw [hq, hq1, hFq, hFq1, hst]
            rw [← hq] at hc2
            conv => whnf
            repeat' first | ((first | refine Ob.a ?_ | refine Sp.tt ?_ | refine Sp.ff ?_ | refine Sp.yes ?_ | refine Sp.no ?_ | refine Sp.nyes ?_ | refine Sp.nno ?_);conv=>whnf) | (refine Sp.ne (fun hc => ?_) (fun hc => ?_) <;> (conv=>whnf)) | (refine Sp.dec (fun hc => ?_) (fun hc => ?_) <;> (conv=>whnf)) | (refine Sp.ndec (fun hc => ?_) (fun hc => ?_) <;> (conv=>whnf)) | (refine Sp.mk (fun hc => ?_) (fun hc => ?_) <;> (conv=>whnf)) | (refine Nx.mk (fun ka kb kx hx hs => ?_) (fun he => ?_) <;> (conv=>whnf)) | (refine Nx.mk (fun ka kx hx hs => ?_) (fun he => ?_) <;> (conv=>whnf)) | (refine Uk.mk (fun hn => ?_) ?_ <;> (conv=>whnf)) | (refine Ap.a ?_ ?_ <;> (conv=>whnf)) | (refine Fi.a ?_;conv=>whnf) | (refine Yl.a ?_ ?_ <;> (conv=>whnf)) | (refine Ob.b ?_;conv=>whnf)
            all_goals first | exact ⟨rfl, ⟨y + 1, ⟨by omega, by omega⟩, by rw [hq1, hst]; omega⟩, Lf, by simp only; omega⟩ | (exfalso; omega)
          · rw [if_neg hc] at hst
            have hc2 : ¬ F q (0 + k.toNat + y.toNat) = F q (0 + k.toNat + (y - 1).toNat) := by rw [v1, v2]; exact hc
            have e1 : ((X (k + y - 1).toNat).length : Int) + 1 = (X (k + (y + 1) - 1).toNat).length := by rw [hq, hq1, hst, List.length_append, List.length_singleton]; omega
            have e2 : ∀ a, a < M.length → F (k + (y + 1) - 1).toNat a = if a = 0 + ((X (k + y - 1).toNat).length : Int).toNat then F (k + y - 1).toNat (0 + k.toNat + y.toNat) else F (k + y - 1).toNat a := fun a _ => by
              rw [hq, hq1, v1, hFq, hFq1, hst, List.length_append, List.length_singleton, Int.toNat_natCast, Nat.zero_add]
              by_cases ea : a = (X q).length
              · subst ea
                rw [if_pos rfl, if_pos (by omega), List.getD_eq_getElem?_getD, List.getElem?_append_right (Nat.le_refl _)]; simp
              · rw [if_neg ea]
                by_cases eb : a < (X q).length
                · rw [if_pos eb, if_pos (by omega), List.getD_eq_getElem?_getD, List.getElem?_append_left eb, ← List.getD_eq_getElem?_getD]
                · rw [if_neg eb, if_neg (by omega)]
            rw [← hq] at hc2 hy
            have hyl : (X (k + y - 1).toNat).length ≤ q := by omega
            conv => whnf
            repeat' first | ((first | refine Ob.a ?_ | refine Sp.tt ?_ | refine Sp.ff ?_ | refine Sp.yes ?_ | refine Sp.no ?_ | refine Sp.nyes ?_ | refine Sp.nno ?_);conv=>whnf) | (refine Sp.ne (fun hc => ?_) (fun hc => ?_) <;> (conv=>whnf)) | (refine Sp.dec (fun hc => ?_) (fun hc => ?_) <;> (conv=>whnf)) | (refine Sp.ndec (fun hc => ?_) (fun hc => ?_) <;> (conv=>whnf)) | (refine Sp.mk (fun hc => ?_) (fun hc => ?_) <;> (conv=>whnf)) | (refine Nx.mk (fun ka kb kx hx hs => ?_) (fun he => ?_) <;> (conv=>whnf)) | (refine Nx.mk (fun ka kx hx hs => ?_) (fun he => ?_) <;> (conv=>whnf)) | (refine Uk.mk (fun hn => ?_) ?_ <;> (conv=>whnf)) | (refine Ap.a ?_ ?_ <;> (conv=>whnf)) | (refine Fi.a ?_;conv=>whnf) | (refine Yl.a ?_ ?_ <;> (conv=>whnf)) | (refine Ob.b ?_;conv=>whnf)
            all_goals first | exact ⟨rfl, ⟨y + 1, ⟨by omega, by omega⟩, by rw [hq1, hst, List.length_append, List.length_singleton]; rw [hq] at hy; omega⟩, Lf, by simp only; omega⟩ | (exfalso; omega)
        · have hqe : q = M.length - 1 := by omega
          have ef : X (k + y - 1).toNat = fin := by rw [hq, hqe, ← hfin]
          have hFn : ∀ a, a < M.length → fin.getD a 0 = if 0 + fin.length ≤ a ∧ a < 0 + fin.length + (M.length - fin.length) then 0 else F (k + y - 1).toNat a := fun a ha => by
            rw [hF, ef]
            by_cases ea : a < fin.length
            · rw [if_neg (by omega), if_pos ea]
            · rw [if_pos (by omega), List.getD_eq_getElem?_getD, List.getElem?_eq_none (by omega)]; rfl
          have hfl : fin.length ≤ M.length := by rw [← ef, hq]; omega
          have hxl2 : (X (k + y - 1).toNat).length ≤ M.length := by rw [ef]; exact hfl
          conv => whnf
          repeat' first | ((first | refine Ob.a ?_ | refine Sp.tt ?_ | refine Sp.ff ?_ | refine Sp.yes ?_ | refine Sp.no ?_ | refine Sp.nyes ?_ | refine Sp.nno ?_);conv=>whnf) | (refine Sp.ne (fun hc => ?_) (fun hc => ?_) <;> (conv=>whnf)) | (refine Sp.dec (fun hc => ?_) (fun hc => ?_) <;> (conv=>whnf)) | (refine Sp.ndec (fun hc => ?_) (fun hc => ?_) <;> (conv=>whnf)) | (refine Sp.mk (fun hc => ?_) (fun hc => ?_) <;> (conv=>whnf)) | (refine Nx.mk (fun ka kb kx hx hs => ?_) (fun he => ?_) <;> (conv=>whnf)) | (refine Nx.mk (fun ka kx hx hs => ?_) (fun he => ?_) <;> (conv=>whnf)) | (refine Uk.mk (fun hn => ?_) ?_ <;> (conv=>whnf)) | (refine Ap.a ?_ ?_ <;> (conv=>whnf)) | (refine Fi.a ?_;conv=>whnf) | (refine Yl.a ?_ ?_ <;> (conv=>whnf)) | (refine Ob.b ?_;conv=>whnf)
          all_goals try (exfalso; omega)
          refine ⟨trivial, ?_, rfl⟩
          conv => whnf
          repeat' first | (refine Edge.fast ?_) | ((conv=>whnf); first | exact True.intro | (refine And.intro ?_ ?_) | exact rfl | exact Nat.le_of_eq (Nat.zero_add _) | exact ImpS.refl _ | ((conv => arg 1; whnf); first | exact ImpS.refl _ | (refine ImpS.nil_eq ?_) | (refine ImpS.vnil_eq ?_) | (refine ImpS.row ?_) | (refine ImpS.rowN ?_ ?_) | (refine ImpS.sl_eq ?_) | (refine ImpS.expl rfl ?_)) | (refine row_snoc' ?_) | exact MImp.refl _ | exact cimp_none | exact cimp_same | exact List.not_mem_nil | exact DImp.refl _) | exact rfl | (refine And.intro ?_ ?_) | exact ImpS.refl _
          · rw [ef, Int.toNat_natCast]
          · rw [ef, Int.toNat_natCast]
            refine row_clear (by exact Lf) (fun _ => rfl) ?_
            exact hFn
      · conv => whnf
        repeat' first | (refine Edge.fast ?_) | ((conv=>whnf); first | exact True.intro | (refine And.intro ?_ ?_) | exact rfl | exact Nat.le_of_eq (Nat.zero_add _) | exact ImpS.refl _ | ((conv => arg 1; whnf); first | exact ImpS.refl _ | (refine ImpS.nil_eq ?_) | (refine ImpS.vnil_eq ?_) | (refine ImpS.row ?_) | (refine ImpS.rowN ?_ ?_) | (refine ImpS.sl_eq ?_) | (refine ImpS.expl rfl ?_)) | (refine row_snoc' ?_) | exact MImp.refl _ | exact cimp_none | exact cimp_same | exact List.not_mem_nil | exact DImp.refl _) | exact rfl | (refine And.intro ?_ ?_) | exact ImpS.refl _
        all_goals first | exact hz0 | skip
        exact fun j hj => by
          show CImp (int (M.getD j 0)) (int (F _ j))
          rw [hF0 j hj]; exact CImp.refl _
    · have e : fin = M := by rw [hfin, show M.length - 1 = (k - 1).toNat by omega, hX, List.take_of_length_le (by omega)]
      subst e
      conv => whnf
      repeat' first | ((first | refine Ob.a ?_ | refine Sp.tt ?_ | refine Sp.ff ?_ | refine Sp.yes ?_ | refine Sp.no ?_ | refine Sp.nyes ?_ | refine Sp.nno ?_);conv=>whnf) | (refine Sp.ne (fun hc => ?_) (fun hc => ?_) <;> (conv=>whnf)) | (refine Sp.dec (fun hc => ?_) (fun hc => ?_) <;> (conv=>whnf)) | (refine Sp.ndec (fun hc => ?_) (fun hc => ?_) <;> (conv=>whnf)) | (refine Sp.mk (fun hc => ?_) (fun hc => ?_) <;> (conv=>whnf)) | (refine Nx.mk (fun ka kb kx hx hs => ?_) (fun he => ?_) <;> (conv=>whnf)) | (refine Nx.mk (fun ka kx hx hs => ?_) (fun he => ?_) <;> (conv=>whnf)) | (refine Uk.mk (fun hn => ?_) ?_ <;> (conv=>whnf)) | (refine Ap.a ?_ ?_ <;> (conv=>whnf)) | (refine Fi.a ?_;conv=>whnf) | (refine Yl.a ?_ ?_ <;> (conv=>whnf)) | (refine Ob.b ?_;conv=>whnf)
      all_goals exact Lf
  · exact Lf
end Go.Px.Try

/-! Bp1 -/
namespace Go.Px.Try
open Go Go.Proofs Go.Px
set_option maxRecDepth 100000
def cellP (x : Int) : DV := .pt (.ag 1 fun _ => int x) 0
def lineD (R : List Int) : DV := .ag 1 fun _ => ints R
def cupD (R : List Int) : DV := .pt (lineD R) 0
def nilP : DV := .v (.pointer none)
theorem within1_spec (x lo hi : Int) : Fn Try.prog 71 [int x, cellP lo, cellP hi] (bool (!decide ((lo ≤ x ∧ x ≤ hi)))) := by
  refine Fn.hide (D := fun r : Bool => bool r) fun r hr => ?_
  have e1 : x < lo → r = true := fun h => by rw [← hr.h]; simp; omega
  have e2 : lo ≤ x → decide (hi < x) = r := fun h => by rw [← hr.h, ← decide_not]; exact decide_eq_decide.2 (by omega)
  refine Fn.of_ex (cuts := []) tys hM Try.func71 rfl Try.call71 rfl ?_
  show exC Try.prog T [] _ false none 0 (entry 13 [int x, cellP lo, cellP hi]) (finQ T [ResultVar.tmp 4] _)
  conv => whnf
  repeat' first | ((first | refine Ob.a ?_ | refine Sp.tt ?_ | refine Sp.ff ?_ | refine Sp.yes ?_ | refine Sp.no ?_ | refine Sp.nyes ?_ | refine Sp.nno ?_);conv=>whnf) | (refine Sp.ne (fun hc => ?_) (fun hc => ?_) <;> (conv=>whnf)) | (refine Sp.dec (fun hc => ?_) (fun hc => ?_) <;> (conv=>whnf)) | (refine Sp.ndec (fun hc => ?_) (fun hc => ?_) <;> (conv=>whnf)) | (refine Sp.mk (fun hc => ?_) (fun hc => ?_) <;> (conv=>whnf)) | (refine Nx.mk (fun ka kb kx hx hs => ?_) (fun he => ?_) <;> (conv=>whnf)) | (refine Nx.mk (fun ka kx hx hs => ?_) (fun he => ?_) <;> (conv=>whnf)) | (refine Uk.mk (fun hn => ?_) ?_ <;> (conv=>whnf)) | (refine Ap.a ?_ ?_ <;> (conv=>whnf)) | (refine Fi.a ?_;conv=>whnf) | (refine Yl.a ?_ ?_ <;> (conv=>whnf)) | (refine Ob.b ?_;conv=>whnf)
  all_goals first | (have e := e1 (by omega); exact Lf) | (have e := e2 (by omega); exact Lf)
theorem within_spec (lo hi : Int) (l : List Int) (hl : l.length < 1000000) : Fn Try.prog 52 [int lo, int hi, ints l] (bool (decide (∀ x ∈ l, (lo ≤ x ∧ x ≤ hi)))) := by
  have hc := contains_ints2 l 71 (fun j => [cellP lo, cellP hi].getD j .top) (fun x => !decide ((lo ≤ x ∧ x ≤ hi))) hl (fun x _ => within1_spec x lo hi)
  have e : (decide (∀ x ∈ l, (lo ≤ x ∧ x ≤ hi))) = !(l.any fun x => !decide ((lo ≤ x ∧ x ≤ hi))) := by
    rw [Bool.eq_iff_iff]
    simp
  rw [e]
  generalize (l.any fun x => !decide ((lo ≤ x ∧ x ≤ hi))) = b at *
  refine Fn.of_ex (cuts := []) tys hM Try.func52 rfl Try.call52 rfl ?_
  show exC Try.prog T [] _ false none 0 (entry 11 [int lo, int hi, ints l]) (finQ T [ResultVar.tmp 6] _)
  conv => whnf
  repeat' first | ((first | refine Ob.a ?_ | refine Sp.tt ?_ | refine Sp.ff ?_ | refine Sp.yes ?_ | refine Sp.no ?_ | refine Sp.nyes ?_ | refine Sp.nno ?_);conv=>whnf) | (refine Sp.ne (fun hc => ?_) (fun hc => ?_) <;> (conv=>whnf)) | (refine Sp.dec (fun hc => ?_) (fun hc => ?_) <;> (conv=>whnf)) | (refine Sp.ndec (fun hc => ?_) (fun hc => ?_) <;> (conv=>whnf)) | (refine Sp.mk (fun hc => ?_) (fun hc => ?_) <;> (conv=>whnf)) | (apply Cl.go;(conv=>whnf); (first | refine Ob.call (hc) ?_);(conv=>whnf)) | (refine Nx.mk (fun ka kb kx hx hs => ?_) (fun he => ?_) <;> (conv=>whnf)) | (refine Nx.mk (fun ka kx hx hs => ?_) (fun he => ?_) <;> (conv=>whnf)) | (refine Uk.mk (fun hn => ?_) ?_ <;> (conv=>whnf)) | (refine Ap.a ?_ ?_ <;> (conv=>whnf)) | (refine Fi.a ?_;conv=>whnf) | (refine Yl.a ?_ ?_ <;> (conv=>whnf)) | (refine Ob.b ?_;conv=>whnf)
  all_goals exact Lf
theorem within_is (lo hi : Int) (l : List Int) (q : Prop) [Decidable q] (hl : l.length < 1000000) (e : (∀ x ∈ l, lo ≤ x ∧ x ≤ hi) ↔ q) : Fn Try.prog 52 [int lo, int hi, ints l] (bool (decide q)) := by
  rw [← decide_eq_decide.2 e]; exact within_spec lo hi l hl
theorem within_one (lo hi x : Int) : Fn Try.prog 52 [int lo, int hi, ints [x]] (bool (decide (lo ≤ x ∧ x ≤ hi))) := within_is lo hi [x] _ (by simp) (by simp)
set_option maxHeartbeats 4000000 in
theorem CheckRowP_spec (R : List Int) (hl : R.length < 1000000) : Fn Try.prog 22 [ints R] (int (checkRd R)) := by
  refine Fn.hide (D := fun r : Int => int r) fun c hr => ?_
  have hc := hr.h
  have w1 := within_one 1 12 R.length
  have w2 := within_spec 0 1000 R hl
  by_cases h1 : 1 ≤ (R.length : Int) ∧ (R.length : Int) ≤ 12
  · rw [decide_eq_true h1] at w1
    by_cases h2 : ∀ x ∈ R, 0 ≤ x ∧ x ≤ 1000
    · rw [decide_eq_true h2] at w2
      have e : c = 0 := by rw [← hc]; unfold checkRd; rw [if_neg (by omega), if_pos h2]
      refine Fn.of_ex (cuts := []) tys hM Try.func22 rfl Try.call22 rfl ?_
      show exC Try.prog T [] _ false none 0 (entry 13 [ints R]) (finQ T [ResultVar.tmp 2] _)
      conv => whnf
      repeat' first | ((first | refine Ob.a ?_ | refine Sp.tt ?_ | refine Sp.ff ?_ | refine Sp.yes ?_ | refine Sp.no ?_ | refine Sp.nyes ?_ | refine Sp.nno ?_);conv=>whnf) | (refine Sp.ne (fun hc => ?_) (fun hc => ?_) <;> (conv=>whnf)) | (refine Sp.dec (fun hc => ?_) (fun hc => ?_) <;> (conv=>whnf)) | (refine Sp.ndec (fun hc => ?_) (fun hc => ?_) <;> (conv=>whnf)) | (refine Sp.mk (fun hc => ?_) (fun hc => ?_) <;> (conv=>whnf)) | (apply Cl.go;(conv=>whnf); (first | refine Ob.call (w1) ?_ | refine Ob.call (w2) ?_);(conv=>whnf)) | (refine Nx.mk (fun ka kb kx hx hs => ?_) (fun he => ?_) <;> (conv=>whnf)) | (refine Nx.mk (fun ka kx hx hs => ?_) (fun he => ?_) <;> (conv=>whnf)) | (refine Uk.mk (fun hn => ?_) ?_ <;> (conv=>whnf)) | (refine Ap.a ?_ ?_ <;> (conv=>whnf)) | (refine Fi.a ?_;conv=>whnf) | (refine Yl.a ?_ ?_ <;> (conv=>whnf)) | (refine Ob.b ?_;conv=>whnf)
      all_goals exact Lf
    · rw [decide_eq_false h2] at w2
      have e : c = 3 := by rw [← hc]; unfold checkRd; rw [if_neg (by omega), if_neg h2]
      refine Fn.of_ex (cuts := []) tys hM Try.func22 rfl Try.call22 rfl ?_
      show exC Try.prog T [] _ false none 0 (entry 13 [ints R]) (finQ T [ResultVar.tmp 2] _)
      conv => whnf
      repeat' first | ((first | refine Ob.a ?_ | refine Sp.tt ?_ | refine Sp.ff ?_ | refine Sp.yes ?_ | refine Sp.no ?_ | refine Sp.nyes ?_ | refine Sp.nno ?_);conv=>whnf) | (refine Sp.ne (fun hc => ?_) (fun hc => ?_) <;> (conv=>whnf)) | (refine Sp.dec (fun hc => ?_) (fun hc => ?_) <;> (conv=>whnf)) | (refine Sp.ndec (fun hc => ?_) (fun hc => ?_) <;> (conv=>whnf)) | (refine Sp.mk (fun hc => ?_) (fun hc => ?_) <;> (conv=>whnf)) | (apply Cl.go;(conv=>whnf); (first | refine Ob.call (w1) ?_ | refine Ob.call (w2) ?_);(conv=>whnf)) | (refine Nx.mk (fun ka kb kx hx hs => ?_) (fun he => ?_) <;> (conv=>whnf)) | (refine Nx.mk (fun ka kx hx hs => ?_) (fun he => ?_) <;> (conv=>whnf)) | (refine Uk.mk (fun hn => ?_) ?_ <;> (conv=>whnf)) | (refine Ap.a ?_ ?_ <;> (conv=>whnf)) | (refine Fi.a ?_;conv=>whnf) | (refine Yl.a ?_ ?_ <;> (conv=>whnf)) | (refine Ob.b ?_;conv=>whnf)
      all_goals exact Lf
  · rw [decide_eq_false h1] at w1
    have e : c = 6 := by rw [← hc]; exact if_pos (by omega)
    refine Fn.of_ex (cuts := []) tys hM Try.func22 rfl Try.call22 rfl ?_
    show exC Try.prog T [] _ false none 0 (entry 13 [ints R]) (finQ T [ResultVar.tmp 2] _)
    conv => whnf
    repeat' first | ((first | refine Ob.a ?_ | refine Sp.tt ?_ | refine Sp.ff ?_ | refine Sp.yes ?_ | refine Sp.no ?_ | refine Sp.nyes ?_ | refine Sp.nno ?_);conv=>whnf) | (refine Sp.ne (fun hc => ?_) (fun hc => ?_) <;> (conv=>whnf)) | (refine Sp.dec (fun hc => ?_) (fun hc => ?_) <;> (conv=>whnf)) | (refine Sp.ndec (fun hc => ?_) (fun hc => ?_) <;> (conv=>whnf)) | (refine Sp.mk (fun hc => ?_) (fun hc => ?_) <;> (conv=>whnf)) | (apply Cl.go;(conv=>whnf); (first | refine Ob.call (w1) ?_);(conv=>whnf)) | (refine Nx.mk (fun ka kb kx hx hs => ?_) (fun he => ?_) <;> (conv=>whnf)) | (refine Nx.mk (fun ka kx hx hs => ?_) (fun he => ?_) <;> (conv=>whnf)) | (refine Uk.mk (fun hn => ?_) ?_ <;> (conv=>whnf)) | (refine Ap.a ?_ ?_ <;> (conv=>whnf)) | (refine Fi.a ?_;conv=>whnf) | (refine Yl.a ?_ ?_ <;> (conv=>whnf)) | (refine Ob.b ?_;conv=>whnf)
    all_goals exact Lf
theorem open_bad (R : List Int) (hl : R.length < 1000000) (hr : checkRd R ≠ 0) : Fn Try.prog 51 [ints R] (tpl [nilP, int (checkRd R)]) := by
  have hk := CheckRowP_spec R hl
  generalize checkRd R = q at *
  refine Fn.of_ex (cuts := []) tys hM Try.func51 rfl Try.call51 rfl ?_
  show exC Try.prog T [] _ false none 0 (entry 14 [ints R]) (finQ T [ResultVar.tmp 2, ResultVar.tmp 3] _)
  conv => whnf
  repeat' first | ((first | refine Ob.a ?_ | refine Sp.tt ?_ | refine Sp.ff ?_ | refine Sp.yes ?_ | refine Sp.no ?_ | refine Sp.nyes ?_ | refine Sp.nno ?_);conv=>whnf) | (refine Sp.ne (fun hc => ?_) (fun hc => ?_) <;> (conv=>whnf)) | (refine Sp.dec (fun hc => ?_) (fun hc => ?_) <;> (conv=>whnf)) | (refine Sp.ndec (fun hc => ?_) (fun hc => ?_) <;> (conv=>whnf)) | (refine Sp.mk (fun hc => ?_) (fun hc => ?_) <;> (conv=>whnf)) | (apply Cl.go;(conv=>whnf); (first | refine Ob.call (hk) ?_);(conv=>whnf)) | (refine Nx.mk (fun ka kb kx hx hs => ?_) (fun he => ?_) <;> (conv=>whnf)) | (refine Nx.mk (fun ka kx hx hs => ?_) (fun he => ?_) <;> (conv=>whnf)) | (refine Uk.mk (fun hn => ?_) ?_ <;> (conv=>whnf)) | (refine Ap.a ?_ ?_ <;> (conv=>whnf)) | (refine Fi.a ?_;conv=>whnf) | (refine Yl.a ?_ ?_ <;> (conv=>whnf)) | (refine Ob.b ?_;conv=>whnf)
  all_goals exact Lf
theorem open_ok (R : List Int) (hR : RdOk R) : Fn Try.prog 51 [ints R] (tpl [cupD R, int 0]) := by
  have h12 := hR.l12
  have hk := CheckRowP_spec R (by omega)
  rw [checkRd_ok.2 hR] at hk
  refine Fn.of_ex (cuts := []) tys hM Try.func51 rfl Try.call51 rfl ?_
  show exC Try.prog T [] _ false none 0 (entry 14 [ints R]) (finQ T [ResultVar.tmp 2, ResultVar.tmp 3] _)
  conv => whnf
  repeat' first | ((first | refine Ob.a ?_ | refine Sp.tt ?_ | refine Sp.ff ?_ | refine Sp.yes ?_ | refine Sp.no ?_ | refine Sp.nyes ?_ | refine Sp.nno ?_);conv=>whnf) | (refine Sp.ne (fun hc => ?_) (fun hc => ?_) <;> (conv=>whnf)) | (refine Sp.dec (fun hc => ?_) (fun hc => ?_) <;> (conv=>whnf)) | (refine Sp.ndec (fun hc => ?_) (fun hc => ?_) <;> (conv=>whnf)) | (refine Sp.mk (fun hc => ?_) (fun hc => ?_) <;> (conv=>whnf)) | (apply Cl.go;(conv=>whnf); (first | refine Ob.call (hk) ?_);(conv=>whnf)) | (refine Nx.mk (fun ka kb kx hx hs => ?_) (fun he => ?_) <;> (conv=>whnf)) | (refine Nx.mk (fun ka kx hx hs => ?_) (fun he => ?_) <;> (conv=>whnf)) | (refine Uk.mk (fun hn => ?_) ?_ <;> (conv=>whnf)) | (refine Ap.a ?_ ?_ <;> (conv=>whnf)) | (refine Fi.a ?_;conv=>whnf) | (refine Yl.a ?_ ?_ <;> (conv=>whnf)) | (refine Ob.b ?_;conv=>whnf)
  all_goals exact Lf
theorem off_spec (R : List Int) (i n : Int) (hR : RdOk R) (hi : 0 ≤ i ∧ i < R.length) (hn : -100000 ≤ n ∧ n ≤ 100000) : Fn Try.prog 53 [lineD R, int i, int n] (int (ab (R.getD i.toNat 0) n)) := by
  have hv : 0 ≤ R.getD i.toNat 0 ∧ R.getD i.toNat 0 ≤ 1000 := hR.rng _ (getD_mem_int (by omega))
  have e : ab (R.getD i.toNat 0) n = max (R.getD i.toNat 0 - n) (n - R.getD i.toNat 0) := rfl
  rw [e]
  refine Fn.of_ex (cuts := []) tys hM Try.func53 rfl Try.call53 rfl ?_
  show exC Try.prog T [] _ false none 0 (entry 22 [lineD R, int i, int n]) (finQ T [ResultVar.tmp 6] _)
  conv => whnf
  repeat' first | ((first | refine Ob.a ?_ | refine Sp.tt ?_ | refine Sp.ff ?_ | refine Sp.yes ?_ | refine Sp.no ?_ | refine Sp.nyes ?_ | refine Sp.nno ?_);conv=>whnf) | (refine Sp.ne (fun hc => ?_) (fun hc => ?_) <;> (conv=>whnf)) | (refine Sp.dec (fun hc => ?_) (fun hc => ?_) <;> (conv=>whnf)) | (refine Sp.ndec (fun hc => ?_) (fun hc => ?_) <;> (conv=>whnf)) | (refine Sp.mk (fun hc => ?_) (fun hc => ?_) <;> (conv=>whnf)) | (refine Nx.mk (fun ka kb kx hx hs => ?_) (fun he => ?_) <;> (conv=>whnf)) | (refine Nx.mk (fun ka kx hx hs => ?_) (fun he => ?_) <;> (conv=>whnf)) | (refine Uk.mk (fun hn => ?_) ?_ <;> (conv=>whnf)) | (refine Ap.a ?_ ?_ <;> (conv=>whnf)) | (refine Fi.a ?_;conv=>whnf) | (refine Yl.a ?_ ?_ <;> (conv=>whnf)) | (refine Ob.b ?_;conv=>whnf)
  all_goals exact Lf
def val3 (a b c : Int) : DV := .ag 3 fun j => [int a, int b, int c].getD j .top
theorem depthP_spec (R : List Int) (i k j : Int) (hR : RdOk R) (ha : 0 ≤ i ∧ i < R.length) (hb : 0 ≤ k ∧ k < R.length) (hc : 0 ≤ j ∧ j < R.length) : Fn Try.prog 56 [lineD R, val3 i k j] (int (dep R i.toNat k.toNat j.toNat)) := by
  have va : 0 ≤ R.getD i.toNat 0 ∧ R.getD i.toNat 0 ≤ 1000 := hR.rng _ (getD_mem_int (by omega))
  have vb : 0 ≤ R.getD k.toNat 0 ∧ R.getD k.toNat 0 ≤ 1000 := hR.rng _ (getD_mem_int (by omega))
  have vc : 0 ≤ R.getD j.toNat 0 ∧ R.getD j.toNat 0 ≤ 1000 := hR.rng _ (getD_mem_int (by omega))
  have e : dep R i.toNat k.toNat j.toNat = min (R.getD i.toNat 0) (R.getD j.toNat 0) - R.getD k.toNat 0 := rfl
  rw [e]
  clear e
  refine Fn.of_ex (cuts := []) tys hM Try.func56 rfl Try.call56 rfl ?_
  show exC Try.prog T [] _ false none 0 (entry 25 [lineD R, val3 i k j]) (finQ T [ResultVar.tmp 4] _)
  conv => whnf
  repeat' first | ((first | refine Ob.a ?_ | refine Sp.tt ?_ | refine Sp.ff ?_ | refine Sp.yes ?_ | refine Sp.no ?_ | refine Sp.nyes ?_ | refine Sp.nno ?_);conv=>whnf) | (refine Sp.ne (fun hc => ?_) (fun hc => ?_) <;> (conv=>whnf)) | (refine Sp.dec (fun hc => ?_) (fun hc => ?_) <;> (conv=>whnf)) | (refine Sp.ndec (fun hc => ?_) (fun hc => ?_) <;> (conv=>whnf)) | (refine Sp.mk (fun hc => ?_) (fun hc => ?_) <;> (conv=>whnf)) | (refine Nx.mk (fun ka kb kx hx hs => ?_) (fun he => ?_) <;> (conv=>whnf)) | (refine Nx.mk (fun ka kx hx hs => ?_) (fun he => ?_) <;> (conv=>whnf)) | (refine Uk.mk (fun hn => ?_) ?_ <;> (conv=>whnf)) | (refine Ap.a ?_ ?_ <;> (conv=>whnf)) | (refine Fi.a ?_;conv=>whnf) | (refine Yl.a ?_ ?_ <;> (conv=>whnf)) | (refine Ob.b ?_;conv=>whnf)
  all_goals exact Lf
set_option maxHeartbeats 4000000 in
theorem CheckValleyP_spec (R : List Int) (i k j : Int) (h1 : R.length < 1000000) : Fn Try.prog 20 [ints R, int i, int k, int j] (tpl [int (checkValR R i k j).1, int (checkValR R i k j).2]) := by
  by_cases hr : checkRd R = 0
  case neg =>
    have e : checkValR R i k j = (0, checkRd R) := if_pos hr
    have ho := open_bad R h1 hr
    rw [e]
    generalize checkRd R = q at *
    refine Fn.of_ex (cuts := []) tys hM Try.func20 rfl Try.call20 rfl ?_
    show exC Try.prog T [] _ false none 0 (entry 49 [ints R, int i, int k, int j]) (finQ T [ResultVar.tmp 8, ResultVar.tmp 9] _)
    conv => whnf
    repeat' first | ((first | refine Ob.a ?_ | refine Sp.tt ?_ | refine Sp.ff ?_ | refine Sp.yes ?_ | refine Sp.no ?_ | refine Sp.nyes ?_ | refine Sp.nno ?_);conv=>whnf) | (refine Sp.ne (fun hc => ?_) (fun hc => ?_) <;> (conv=>whnf)) | (refine Sp.dec (fun hc => ?_) (fun hc => ?_) <;> (conv=>whnf)) | (refine Sp.ndec (fun hc => ?_) (fun hc => ?_) <;> (conv=>whnf)) | (refine Sp.mk (fun hc => ?_) (fun hc => ?_) <;> (conv=>whnf)) | (apply Cl.go;(conv=>whnf); (first | refine Ob.call (ho) ?_);(conv=>whnf)) | (refine Nx.mk (fun ka kb kx hx hs => ?_) (fun he => ?_) <;> (conv=>whnf)) | (refine Nx.mk (fun ka kx hx hs => ?_) (fun he => ?_) <;> (conv=>whnf)) | (refine Uk.mk (fun hn => ?_) ?_ <;> (conv=>whnf)) | (refine Ap.a ?_ ?_ <;> (conv=>whnf)) | (refine Fi.a ?_;conv=>whnf) | (refine Yl.a ?_ ?_ <;> (conv=>whnf)) | (refine Ob.b ?_;conv=>whnf)
    all_goals exact Lf
  have hR := checkRd_ok.1 hr
  have h12 := hR.l12
  have ho := open_ok R hR
  by_cases hb : i < 0 ∨ k ≤ i ∨ j ≤ k ∨ (R.length : Int) ≤ j
  · have e : checkValR R i k j = (0, 2) := by unfold checkValR; rw [if_neg (not_not_intro hr), if_pos hb]
    rw [e]
    refine Fn.of_ex (cuts := []) tys hM Try.func20 rfl Try.call20 rfl ?_
    show exC Try.prog T [] _ false none 0 (entry 49 [ints R, int i, int k, int j]) (finQ T [ResultVar.tmp 8, ResultVar.tmp 9] _)
    conv => whnf
    repeat' first | ((first | refine Ob.a ?_ | refine Sp.tt ?_ | refine Sp.ff ?_ | refine Sp.yes ?_ | refine Sp.no ?_ | refine Sp.nyes ?_ | refine Sp.nno ?_);conv=>whnf) | (refine Sp.ne (fun hc => ?_) (fun hc => ?_) <;> (conv=>whnf)) | (refine Sp.dec (fun hc => ?_) (fun hc => ?_) <;> (conv=>whnf)) | (refine Sp.ndec (fun hc => ?_) (fun hc => ?_) <;> (conv=>whnf)) | (refine Sp.mk (fun hc => ?_) (fun hc => ?_) <;> (conv=>whnf)) | (apply Cl.go;(conv=>whnf); (first | refine Ob.call (ho) ?_);(conv=>whnf)) | (refine Nx.mk (fun ka kb kx hx hs => ?_) (fun he => ?_) <;> (conv=>whnf)) | (refine Nx.mk (fun ka kx hx hs => ?_) (fun he => ?_) <;> (conv=>whnf)) | (refine Uk.mk (fun hn => ?_) ?_ <;> (conv=>whnf)) | (refine Ap.a ?_ ?_ <;> (conv=>whnf)) | (refine Fi.a ?_;conv=>whnf) | (refine Yl.a ?_ ?_ <;> (conv=>whnf)) | (refine Ob.b ?_;conv=>whnf)
    all_goals first | exact Lf | (exfalso; omega)
  · have e : checkValR R i k j = (dep R i.toNat k.toNat j.toNat, 0) := by unfold checkValR; rw [if_neg (not_not_intro hr), if_neg hb]
    have hd := depthP_spec R i k j hR (by omega) (by omega) (by omega)
    rw [e]
    generalize dep R i.toNat k.toNat j.toNat = d at *
    refine Fn.of_ex (cuts := []) tys hM Try.func20 rfl Try.call20 rfl ?_
    show exC Try.prog T [] _ false none 0 (entry 49 [ints R, int i, int k, int j]) (finQ T [ResultVar.tmp 8, ResultVar.tmp 9] _)
    conv => whnf
    repeat' first | ((first | refine Ob.a ?_ | refine Sp.tt ?_ | refine Sp.ff ?_ | refine Sp.yes ?_ | refine Sp.no ?_ | refine Sp.nyes ?_ | refine Sp.nno ?_);conv=>whnf) | (refine Sp.ne (fun hc => ?_) (fun hc => ?_) <;> (conv=>whnf)) | (refine Sp.dec (fun hc => ?_) (fun hc => ?_) <;> (conv=>whnf)) | (refine Sp.ndec (fun hc => ?_) (fun hc => ?_) <;> (conv=>whnf)) | (refine Sp.mk (fun hc => ?_) (fun hc => ?_) <;> (conv=>whnf)) | (apply Cl.go;(conv=>whnf); (first | refine Ob.call (ho) ?_ | refine Ob.call (hd) ?_);(conv=>whnf)) | (refine Nx.mk (fun ka kb kx hx hs => ?_) (fun he => ?_) <;> (conv=>whnf)) | (refine Nx.mk (fun ka kx hx hs => ?_) (fun he => ?_) <;> (conv=>whnf)) | (refine Uk.mk (fun hn => ?_) ?_ <;> (conv=>whnf)) | (refine Ap.a ?_ ?_ <;> (conv=>whnf)) | (refine Fi.a ?_;conv=>whnf) | (refine Yl.a ?_ ?_ <;> (conv=>whnf)) | (refine Ob.b ?_;conv=>whnf)
    all_goals first | exact Lf | (exfalso; omega)
end Go.Px.Try

/-! Bp2 -/
namespace Go.Px.Try
open Go Go.Proofs Go.Px
set_option maxRecDepth 100000
def valC (R : List Int) : List DV := [.pt (.ag 1 fun _ => cupD R) 0]
def valF (R : List Int) : DV := .fn 83 0 1 (fun _ => .top) (fun j => (valC R).getD j .top)
theorem valleys_spec (R : List Int) : Fn Try.prog 72 [cupD R] (valF R) := by
  refine Fn.of_ex (cuts := []) tys hM Try.func72 rfl Try.call72 rfl ?_
  show exC Try.prog T [] _ false none 0 (entry 4 [cupD R]) (finQ T [ResultVar.tmp 2] _)
  conv => whnf
  repeat' first | ((first | refine Ob.a ?_ | refine Sp.tt ?_ | refine Sp.ff ?_ | refine Sp.yes ?_ | refine Sp.no ?_ | refine Sp.nyes ?_ | refine Sp.nno ?_);conv=>whnf) | (refine Sp.ne (fun hc => ?_) (fun hc => ?_) <;> (conv=>whnf)) | (refine Sp.dec (fun hc => ?_) (fun hc => ?_) <;> (conv=>whnf)) | (refine Sp.ndec (fun hc => ?_) (fun hc => ?_) <;> (conv=>whnf)) | (refine Sp.mk (fun hc => ?_) (fun hc => ?_) <;> (conv=>whnf)) | (refine Nx.mk (fun ka kb kx hx hs => ?_) (fun he => ?_) <;> (conv=>whnf)) | (refine Nx.mk (fun ka kx hx hs => ?_) (fun he => ?_) <;> (conv=>whnf)) | (refine Uk.mk (fun hn => ?_) ?_ <;> (conv=>whnf)) | (refine Ap.a ?_ ?_ <;> (conv=>whnf)) | (refine Fi.a ?_;conv=>whnf) | (refine Yl.a ?_ ?_ <;> (conv=>whnf)) | (refine Ob.b ?_;conv=>whnf)
  all_goals exact Lf
def valsD (L : List Val) (k : Nat) : DV := val3 (L.getD k default).a (L.getD k default).b (L.getD k default).c
set_option maxHeartbeats 16000000 in
theorem valleys1_spec (R : List Int) (h1 : R.length < 1000) :
    Seq Try.prog 83 [] (valC R) (allV R.length).length (fun k => [valsD (allV R.length) k]) := by
  have hat : ∀ i k j : Int, 0 ≤ i → i + 1 ≤ k → k + 1 ≤ j → j < R.length → (befV R.length i.toNat (k - (i + 1)).toNat (j - (k + 1)).toNat).length < (allV R.length).length ∧
      i = (((allV R.length).getD (befV R.length i.toNat (k - (i + 1)).toNat (j - (k + 1)).toNat).length default).a : Int) ∧ k = (((allV R.length).getD (befV R.length i.toNat (k - (i + 1)).toNat (j - (k + 1)).toNat).length default).b : Int) ∧
      j = (((allV R.length).getD (befV R.length i.toNat (k - (i + 1)).toNat (j - (k + 1)).toNat).length default).c : Int) := fun i k j i0 k0 j0 jl => by
    have := befV_at (n := R.length) (i := i.toNat) (dk := (k - (i + 1)).toNat) (dj := (j - (k + 1)).toNat) (by omega) (by omega) (by omega)
    rw [this.2]
    refine ⟨this.1, ?_, ?_, ?_⟩ <;> simp only <;> omega
  have sj : ∀ i k j : Int, 0 ≤ i → i + 1 ≤ k → k + 1 ≤ j → j < R.length → (befV R.length i.toNat (k - (i + 1)).toNat (j - (k + 1)).toNat).length + 1 = (befV R.length i.toNat (k - (i + 1)).toNat (j + 1 - (k + 1)).toNat).length := fun i k j i0 k0 j0 jl => by
    rw [show (j + 1 - (k + 1)).toNat = (j - (k + 1)).toNat + 1 by omega, befV_succ, List.length_append]; rfl
  have sk : ∀ i k j : Int, 0 ≤ i → i + 1 ≤ k → k < R.length → j = R.length → (befV R.length i.toNat (k - (i + 1)).toNat (j - (k + 1)).toNat).length = (befV R.length i.toNat (k + 1 - (i + 1)).toNat 0).length := fun i k j i0 k0 kl e => by
    subst e
    rw [show (k + 1 - (i + 1)).toNat = (k - (i + 1)).toNat + 1 by omega, befV_k]
    congr 2; omega
  have si : ∀ i k : Int, 0 ≤ i → i < R.length → k = R.length → (befV R.length i.toNat (k - (i + 1)).toNat 0).length = (befV R.length (i + 1).toNat 0 0).length := fun i k i0 il e => by
    subst e
    rw [show (i + 1).toNat = i.toNat + 1 by omega, befV_i]
    congr 2; omega
  have hend : ∀ i : Int, i = R.length → (befV R.length i.toNat 0 0).length = (allV R.length).length := fun i e => by
    subst e; rw [Int.toNat_natCast, befV_end]
  generalize hC : (fun i dk dj => (befV R.length i dk dj).length) = C
  have hC' : ∀ i dk dj, (befV R.length i dk dj).length = C i dk dj := fun i dk dj => by rw [← hC]
  simp only [hC'] at hat sj sk si hend
  have h0 : C 0 0 0 = 0 := by rw [← hC]; rfl
  clear hC hC'
  generalize allV R.length = L at *
  refine Seq.of_ex (cuts := []) tys hM Try.func83 rfl Try.call83 rfl rfl fun ly => ?_
  show exC Try.prog T [] _ false (some ⟨ly, _, _⟩) 0 (entry 39 ([] ++ [.v (.func (.yield ly) #[] #[])] ++ valC R)) (finY _)
  conv => whnf
  repeat' first | ((first | refine Ob.a ?_ | refine Sp.tt ?_ | refine Sp.ff ?_ | refine Sp.yes ?_ | refine Sp.no ?_ | refine Sp.nyes ?_ | refine Sp.nno ?_);conv=>whnf) | (refine Sp.ne (fun hc => ?_) (fun hc => ?_) <;> (conv=>whnf)) | (refine Sp.dec (fun hc => ?_) (fun hc => ?_) <;> (conv=>whnf)) | (refine Sp.ndec (fun hc => ?_) (fun hc => ?_) <;> (conv=>whnf)) | (refine Sp.mk (fun hc => ?_) (fun hc => ?_) <;> (conv=>whnf)) | (refine Nx.mk (fun ka kb kx hx hs => ?_) (fun he => ?_) <;> (conv=>whnf)) | (refine Nx.mk (fun ka kx hx hs => ?_) (fun he => ?_) <;> (conv=>whnf)) | (refine Uk.mk (fun hn => ?_) ?_ <;> (conv=>whnf)) | (refine Ap.a ?_ ?_ <;> (conv=>whnf)) | (refine Fi.a ?_;conv=>whnf) | (refine Yl.a ?_ ?_ <;> (conv=>whnf)) | (refine Ob.b ?_;conv=>whnf)
  refine Lp.go 39 {i : Int // 0 ≤ i ∧ i ≤ R.length} (fun ⟨i, _⟩ => ⟨0, [(0, .d (.v (.func (.yield ly) #[] #[]))), (1, .d ((valC R).getD 0 .top)), (3, .d (int R.length)), (13, .d (int R.length)), (14, .d (int i))], [], some (C i.toNat 0 0)⟩) (fun p => (R.length - p.1).toNat) ⟨0, by omega, by omega⟩ ?_ ?_ rfl (fun _ => rfl)
  · rintro ⟨i, i0, i1⟩
    by_cases hi : i < R.length
    · conv => whnf
      repeat' first | ((first | refine Ob.a ?_ | refine Sp.tt ?_ | refine Sp.ff ?_ | refine Sp.yes ?_ | refine Sp.no ?_ | refine Sp.nyes ?_ | refine Sp.nno ?_);conv=>whnf) | (refine Sp.ne (fun hc => ?_) (fun hc => ?_) <;> (conv=>whnf)) | (refine Sp.dec (fun hc => ?_) (fun hc => ?_) <;> (conv=>whnf)) | (refine Sp.ndec (fun hc => ?_) (fun hc => ?_) <;> (conv=>whnf)) | (refine Sp.mk (fun hc => ?_) (fun hc => ?_) <;> (conv=>whnf)) | (refine Nx.mk (fun ka kb kx hx hs => ?_) (fun he => ?_) <;> (conv=>whnf)) | (refine Nx.mk (fun ka kx hx hs => ?_) (fun he => ?_) <;> (conv=>whnf)) | (refine Uk.mk (fun hn => ?_) ?_ <;> (conv=>whnf)) | (refine Ap.a ?_ ?_ <;> (conv=>whnf)) | (refine Fi.a ?_;conv=>whnf) | (refine Yl.a ?_ ?_ <;> (conv=>whnf)) | (refine Ob.b ?_;conv=>whnf)
      refine Lp.go 39 {k : Int // i + 1 ≤ k ∧ k ≤ R.length} (fun ⟨k, _⟩ => ⟨0, [(0, .d (.v (.func (.yield ly) #[] #[]))), (1, .d ((valC R).getD 0 .top)), (3, .d (int R.length)), (13, .d (int R.length)), (14, .d (int i)), (4, .d (int i)), (5, .d (int k))], [], some (C i.toNat (k - (i + 1)).toNat 0)⟩) (fun p => (R.length - p.1).toNat) ⟨i + 1, by omega, by omega⟩ ?_ ?_ rfl (fun _ => rfl)
      · rintro ⟨k, k0, k1⟩
        by_cases hk : k < R.length
        · conv => whnf
          repeat' first | ((first | refine Ob.a ?_ | refine Sp.tt ?_ | refine Sp.ff ?_ | refine Sp.yes ?_ | refine Sp.no ?_ | refine Sp.nyes ?_ | refine Sp.nno ?_);conv=>whnf) | (refine Sp.ne (fun hc => ?_) (fun hc => ?_) <;> (conv=>whnf)) | (refine Sp.dec (fun hc => ?_) (fun hc => ?_) <;> (conv=>whnf)) | (refine Sp.ndec (fun hc => ?_) (fun hc => ?_) <;> (conv=>whnf)) | (refine Sp.mk (fun hc => ?_) (fun hc => ?_) <;> (conv=>whnf)) | (refine Nx.mk (fun ka kb kx hx hs => ?_) (fun he => ?_) <;> (conv=>whnf)) | (refine Nx.mk (fun ka kx hx hs => ?_) (fun he => ?_) <;> (conv=>whnf)) | (refine Uk.mk (fun hn => ?_) ?_ <;> (conv=>whnf)) | (refine Ap.a ?_ ?_ <;> (conv=>whnf)) | (refine Fi.a ?_;conv=>whnf) | (refine Yl.a ?_ ?_ <;> (conv=>whnf)) | (refine Ob.b ?_;conv=>whnf)
          refine Lp.go 39 {j : Int // k + 1 ≤ j ∧ j ≤ R.length} (fun ⟨j, _⟩ => ⟨0, [(0, .d (.v (.func (.yield ly) #[] #[]))), (1, .d ((valC R).getD 0 .top)), (3, .d (int R.length)), (13, .d (int R.length)), (14, .d (int i)), (4, .d (int i)), (5, .d (int k)), (6, .d (int j))], [], some (C i.toNat (k - (i + 1)).toNat (j - (k + 1)).toNat)⟩) (fun p => (R.length - p.1).toNat) ⟨k + 1, by omega, by omega⟩ ?_ ?_ rfl (fun _ => rfl)
          · rintro ⟨j, j0, j1⟩
            by_cases hj : j < R.length
            · obtain ⟨e1, e2, e3, e4⟩ := hat i k j i0 k0 j0 hj
              have e5 := sj i k j i0 k0 j0 hj
              have e6 := congrArg some e5
              conv => whnf
              repeat' first | ((first | refine Ob.a ?_ | refine Sp.tt ?_ | refine Sp.ff ?_ | refine Sp.yes ?_ | refine Sp.no ?_ | refine Sp.nyes ?_ | refine Sp.nno ?_);conv=>whnf) | (refine Sp.ne (fun hc => ?_) (fun hc => ?_) <;> (conv=>whnf)) | (refine Sp.dec (fun hc => ?_) (fun hc => ?_) <;> (conv=>whnf)) | (refine Sp.ndec (fun hc => ?_) (fun hc => ?_) <;> (conv=>whnf)) | (refine Sp.mk (fun hc => ?_) (fun hc => ?_) <;> (conv=>whnf)) | (refine Nx.mk (fun ka kb kx hx hs => ?_) (fun he => ?_) <;> (conv=>whnf)) | (refine Nx.mk (fun ka kx hx hs => ?_) (fun he => ?_) <;> (conv=>whnf)) | (refine Uk.mk (fun hn => ?_) ?_ <;> (conv=>whnf)) | (refine Ap.a ?_ ?_ <;> (conv=>whnf)) | (refine Fi.a ?_;conv=>whnf) | (refine Yl.a ?_ ?_ <;> (conv=>whnf)) | (refine Ob.b ?_;conv=>whnf)
              all_goals first | exact .inl rfl | exact ⟨rfl, ⟨j + 1, by omega, by omega⟩, Lf, by simp only; omega⟩
            · have e5 := sk i k j i0 k0 hk (by omega)
              conv => whnf
              repeat' first | ((first | refine Ob.a ?_ | refine Sp.tt ?_ | refine Sp.ff ?_ | refine Sp.yes ?_ | refine Sp.no ?_ | refine Sp.nyes ?_ | refine Sp.nno ?_);conv=>whnf) | (refine Sp.ne (fun hc => ?_) (fun hc => ?_) <;> (conv=>whnf)) | (refine Sp.dec (fun hc => ?_) (fun hc => ?_) <;> (conv=>whnf)) | (refine Sp.ndec (fun hc => ?_) (fun hc => ?_) <;> (conv=>whnf)) | (refine Sp.mk (fun hc => ?_) (fun hc => ?_) <;> (conv=>whnf)) | (refine Nx.mk (fun ka kb kx hx hs => ?_) (fun he => ?_) <;> (conv=>whnf)) | (refine Nx.mk (fun ka kx hx hs => ?_) (fun he => ?_) <;> (conv=>whnf)) | (refine Uk.mk (fun hn => ?_) ?_ <;> (conv=>whnf)) | (refine Ap.a ?_ ?_ <;> (conv=>whnf)) | (refine Fi.a ?_;conv=>whnf) | (refine Yl.a ?_ ?_ <;> (conv=>whnf)) | (refine Ob.b ?_;conv=>whnf)
              all_goals first | exact .inl rfl | exact ⟨rfl, ⟨k + 1, by omega, by omega⟩, Lf, by simp only; omega⟩
          · have e5 : some (C i.toNat (k - (i + 1)).toNat 0) = some (C i.toNat (k - (i + 1)).toNat (k + 1 - (k + 1)).toNat) := by congr 2; omega
            exact Lf
        · have e5 := si i k i0 hi (by omega)
          conv => whnf
          repeat' first | ((first | refine Ob.a ?_ | refine Sp.tt ?_ | refine Sp.ff ?_ | refine Sp.yes ?_ | refine Sp.no ?_ | refine Sp.nyes ?_ | refine Sp.nno ?_);conv=>whnf) | (refine Sp.ne (fun hc => ?_) (fun hc => ?_) <;> (conv=>whnf)) | (refine Sp.dec (fun hc => ?_) (fun hc => ?_) <;> (conv=>whnf)) | (refine Sp.ndec (fun hc => ?_) (fun hc => ?_) <;> (conv=>whnf)) | (refine Sp.mk (fun hc => ?_) (fun hc => ?_) <;> (conv=>whnf)) | (refine Nx.mk (fun ka kb kx hx hs => ?_) (fun he => ?_) <;> (conv=>whnf)) | (refine Nx.mk (fun ka kx hx hs => ?_) (fun he => ?_) <;> (conv=>whnf)) | (refine Uk.mk (fun hn => ?_) ?_ <;> (conv=>whnf)) | (refine Ap.a ?_ ?_ <;> (conv=>whnf)) | (refine Fi.a ?_;conv=>whnf) | (refine Yl.a ?_ ?_ <;> (conv=>whnf)) | (refine Ob.b ?_;conv=>whnf)
          all_goals first | exact .inl rfl | exact ⟨rfl, ⟨i + 1, by omega, by omega⟩, Lf, by simp only; omega⟩
      · have e5 : some (C i.toNat 0 0) = some (C i.toNat (i + 1 - (i + 1)).toNat 0) := by congr 2; omega
        exact Lf
    · have e := hend i (by omega)
      conv => whnf
      repeat' first | ((first | refine Ob.a ?_ | refine Sp.tt ?_ | refine Sp.ff ?_ | refine Sp.yes ?_ | refine Sp.no ?_ | refine Sp.nyes ?_ | refine Sp.nno ?_);conv=>whnf) | (refine Sp.ne (fun hc => ?_) (fun hc => ?_) <;> (conv=>whnf)) | (refine Sp.dec (fun hc => ?_) (fun hc => ?_) <;> (conv=>whnf)) | (refine Sp.ndec (fun hc => ?_) (fun hc => ?_) <;> (conv=>whnf)) | (refine Sp.mk (fun hc => ?_) (fun hc => ?_) <;> (conv=>whnf)) | (refine Nx.mk (fun ka kb kx hx hs => ?_) (fun he => ?_) <;> (conv=>whnf)) | (refine Nx.mk (fun ka kx hx hs => ?_) (fun he => ?_) <;> (conv=>whnf)) | (refine Uk.mk (fun hn => ?_) ?_ <;> (conv=>whnf)) | (refine Ap.a ?_ ?_ <;> (conv=>whnf)) | (refine Fi.a ?_;conv=>whnf) | (refine Yl.a ?_ ?_ <;> (conv=>whnf)) | (refine Ob.b ?_;conv=>whnf)
      exact .inr (congrArg some e)
  · have e5 : some 0 = some (C (Int.toNat 0) 0 0) := by rw [show Int.toNat 0 = 0 from rfl, h0]
    exact Lf
end Go.Px.Try

/-! Bp3 -/
namespace Go.Px.Try
open Go Go.Proofs Go.Px
set_option maxRecDepth 100000
def valD (v : Val) : DV := val3 v.a v.b v.c
def ValOk (R : List Int) (v : Val) : Prop := v.a < R.length ∧ v.b < R.length ∧ v.c < R.length
set_option maxHeartbeats 4000000 in
theorem deepest1_spec (R : List Int) (a b : Val) (hR : RdOk R) (ha : ValOk R a) (hb : ValOk R b) : Fn Try.prog 74 [valD a, valD b, .pt (.ag 1 fun _ => cupD R) 0] (bool (decide (vdep R b < vdep R a))) := by
  have h1 := depthP_spec R a.a a.b a.c hR ⟨by omega, by have := ha.1; omega⟩ ⟨by omega, by have := ha.2.1; omega⟩ ⟨by omega, by have := ha.2.2; omega⟩
  have h2 := depthP_spec R b.a b.b b.c hR ⟨by omega, by have := hb.1; omega⟩ ⟨by omega, by have := hb.2.1; omega⟩ ⟨by omega, by have := hb.2.2; omega⟩
  simp only [Int.toNat_natCast] at h1 h2
  have e1 : vdep R a = dep R a.a a.b a.c := rfl
  have e2 : vdep R b = dep R b.a b.b b.c := rfl
  rw [e1, e2]
  clear e1 e2
  generalize dep R a.a a.b a.c = x at *
  generalize dep R b.a b.b b.c = y at *
  refine Fn.of_ex (cuts := []) tys hM Try.func74 rfl Try.call74 rfl ?_
  show exC Try.prog T [] _ false none 0 (entry 19 [valD a, valD b, .pt (.ag 1 fun _ => cupD R) 0]) (finQ T [ResultVar.tmp 5] _)
  conv => whnf
  repeat' first | ((first | refine Ob.a ?_ | refine Sp.tt ?_ | refine Sp.ff ?_ | refine Sp.yes ?_ | refine Sp.no ?_ | refine Sp.nyes ?_ | refine Sp.nno ?_);conv=>whnf) | (refine Sp.ne (fun hc => ?_) (fun hc => ?_) <;> (conv=>whnf)) | (refine Sp.dec (fun hc => ?_) (fun hc => ?_) <;> (conv=>whnf)) | (refine Sp.ndec (fun hc => ?_) (fun hc => ?_) <;> (conv=>whnf)) | (refine Sp.mk (fun hc => ?_) (fun hc => ?_) <;> (conv=>whnf)) | (apply Cl.go;(conv=>whnf); (first | refine Ob.call (h1) ?_ | refine Ob.call (h2) ?_);(conv=>whnf)) | (refine Nx.mk (fun ka kb kx hx hs => ?_) (fun he => ?_) <;> (conv=>whnf)) | (refine Nx.mk (fun ka kx hx hs => ?_) (fun he => ?_) <;> (conv=>whnf)) | (refine Uk.mk (fun hn => ?_) ?_ <;> (conv=>whnf)) | (refine Ap.a ?_ ?_ <;> (conv=>whnf)) | (refine Fi.a ?_;conv=>whnf) | (refine Yl.a ?_ ?_ <;> (conv=>whnf)) | (refine Ob.b ?_;conv=>whnf)
  all_goals exact Lf
theorem bestV_take (R : List Int) (l : List Val) (i : Nat) (h : i < (l.drop 1).length) : ((l.drop 1).take (i + 1)).foldl (fun out x => if vdep R out < vdep R x then x else out) (l.getD 0 default) =
    if vdep R (((l.drop 1).take i).foldl (fun out x => if vdep R out < vdep R x then x else out) (l.getD 0 default)) < vdep R (l.getD (1 + i) default) then l.getD (1 + i) default else ((l.drop 1).take i).foldl (fun out x => if vdep R out < vdep R x then x else out) (l.getD 0 default) := by
  rw [List.take_succ_eq_append_getElem h, List.foldl_append]
  have : (l.drop 1)[i] = l.getD (1 + i) default := by
    rw [List.getElem_drop, List.getD_eq_getElem?_getD, List.getElem?_eq_getElem]; rfl
  rw [this]; rfl
set_option maxHeartbeats 8000000 in
theorem best_val (R : List Int) (l : List Val) (hR : RdOk R) (h0 : 0 < l.length) (h1 : l.length < 1000000) (hl : ∀ v ∈ l, ValOk R v) : Fn Try.prog 73 [slOf 3 valD default l, .fn 74 0 1 (fun _ => .top) (fun _ => .pt (.ag 1 fun _ => cupD R) 0)] (valD (bestV R l)) := by
  have hb := fun x y hx hy => deepest1_spec R x y hR hx hy
  have hs := bestV_take R l
  have hfin : bestV R l = ((l.drop 1).take (l.drop 1).length).foldl (fun out x => if vdep R out < vdep R x then x else out) (l.getD 0 default) := by rw [List.take_length]; rfl
  have hz : ((l.drop 1).take 0).foldl (fun out x => if vdep R out < vdep R x then x else out) (l.getD 0 default) = l.getD 0 default := rfl
  generalize bestV R l = fin at *
  have hld : (l.drop 1).length = l.length - 1 := List.length_drop
  rw [hld] at hfin hs
  generalize hB : (fun i => ((l.drop 1).take i).foldl (fun out x => if vdep R out < vdep R x then x else out) (l.getD 0 default)) = B
  have hB' : ∀ i, ((l.drop 1).take i).foldl (fun out x => if vdep R out < vdep R x then x else out) (l.getD 0 default) = B i := fun i => by rw [← hB]
  simp only [hB'] at hs hfin hz
  clear hB hB' hld
  refine Fn.of_ex (cuts := []) tys hM Try.func73 rfl Try.call73 rfl ?_
  show exC Try.prog T [] _ false none 0 (entry 25 [slOf 3 valD default l, .fn 74 0 1 (fun _ => .top) (fun _ => .pt (.ag 1 fun _ => cupD R) 0)]) (finQ T [ResultVar.cell 4 80] _)
  conv => whnf
  repeat' first | ((first | refine Ob.a ?_ | refine Sp.tt ?_ | refine Sp.ff ?_ | refine Sp.yes ?_ | refine Sp.no ?_ | refine Sp.nyes ?_ | refine Sp.nno ?_);conv=>whnf) | (refine Sp.ne (fun hc => ?_) (fun hc => ?_) <;> (conv=>whnf)) | (refine Sp.dec (fun hc => ?_) (fun hc => ?_) <;> (conv=>whnf)) | (refine Sp.ndec (fun hc => ?_) (fun hc => ?_) <;> (conv=>whnf)) | (refine Sp.mk (fun hc => ?_) (fun hc => ?_) <;> (conv=>whnf)) | (refine Nx.mk (fun ka kb kx hx hs => ?_) (fun he => ?_) <;> (conv=>whnf)) | (refine Nx.mk (fun ka kx hx hs => ?_) (fun he => ?_) <;> (conv=>whnf)) | (refine Uk.mk (fun hn => ?_) ?_ <;> (conv=>whnf)) | (refine Ap.a ?_ ?_ <;> (conv=>whnf)) | (refine Fi.a ?_;conv=>whnf) | (refine Yl.a ?_ ?_ <;> (conv=>whnf)) | (refine Ob.b ?_;conv=>whnf)
  refine Lp.snap [0, 1, 4, 5, 12, 13, 24] 40 ?_
  (conv=>whnf)
  refine LpB.go 25 ({q : Int × Val // (0 ≤ q.1 ∧ q.1 ≤ l.length - 1) ∧ q.2 = B q.1.toNat ∧ ValOk R q.2}) 0 (fun ⟨(i, o), _⟩ nx => ([(14, .d (int i))], [(4, .cs true 3 fun j => .d ([int o.a, int o.b, int o.c].getD j .top))])) (fun p => (l.length - p.1.1).toNat) (⟨(0, l.getD 0 default), ⟨by simp, by simp only; omega⟩, hz.symm, hl _ (getD_mem h0 _)⟩) ?_ ?_
  · rintro ⟨⟨i, o⟩, ⟨i0, i1⟩, ho, hom⟩
    simp only at i0 i1 ho hom
    by_cases hil : i < l.length - 1
    · have hx : l.getD (Int.toNat 1 + i.toNat) default ∈ l := getD_mem (by simp; omega) _
      have hs := hs i.toNat (by omega)
      rw [← ho, show i.toNat + 1 = (i + 1).toNat by omega, show 1 + i.toNat = Int.toNat 1 + i.toNat from rfl] at hs
      have hp := hb _ _ (hl _ hx) hom
      have hxm := hl _ hx
      by_cases hc : vdep R o < vdep R (l.getD (Int.toNat 1 + i.toNat) default)
      · rw [decide_eq_true hc] at hp
        rw [if_pos hc] at hs
        conv => whnf
        repeat' first | ((first | refine Ob.a ?_ | refine Sp.tt ?_ | refine Sp.ff ?_ | refine Sp.yes ?_ | refine Sp.no ?_ | refine Sp.nyes ?_ | refine Sp.nno ?_);conv=>whnf) | (refine Sp.ne (fun hc => ?_) (fun hc => ?_) <;> (conv=>whnf)) | (refine Sp.dec (fun hc => ?_) (fun hc => ?_) <;> (conv=>whnf)) | (refine Sp.ndec (fun hc => ?_) (fun hc => ?_) <;> (conv=>whnf)) | (refine Sp.mk (fun hc => ?_) (fun hc => ?_) <;> (conv=>whnf)) | (apply Cl.go;(conv=>whnf); (first | refine Ob.call (hp) ?_);(conv=>whnf)) | (refine Nx.mk (fun ka kb kx hx hs => ?_) (fun he => ?_) <;> (conv=>whnf)) | (refine Nx.mk (fun ka kx hx hs => ?_) (fun he => ?_) <;> (conv=>whnf)) | (refine Uk.mk (fun hn => ?_) ?_ <;> (conv=>whnf)) | (refine Ap.a ?_ ?_ <;> (conv=>whnf)) | (refine Fi.a ?_;conv=>whnf) | (refine Yl.a ?_ ?_ <;> (conv=>whnf)) | (refine Ob.b ?_;conv=>whnf)
        all_goals exact ⟨rfl, ⟨(i + 1, l.getD (Int.toNat 1 + i.toNat) default), ⟨by simp only; omega, by simp only; omega⟩, hs.symm, hxm⟩, Lf, by simp only; omega⟩
      · rw [decide_eq_false hc] at hp
        rw [if_neg hc] at hs
        conv => whnf
        repeat' first | ((first | refine Ob.a ?_ | refine Sp.tt ?_ | refine Sp.ff ?_ | refine Sp.yes ?_ | refine Sp.no ?_ | refine Sp.nyes ?_ | refine Sp.nno ?_);conv=>whnf) | (refine Sp.ne (fun hc => ?_) (fun hc => ?_) <;> (conv=>whnf)) | (refine Sp.dec (fun hc => ?_) (fun hc => ?_) <;> (conv=>whnf)) | (refine Sp.ndec (fun hc => ?_) (fun hc => ?_) <;> (conv=>whnf)) | (refine Sp.mk (fun hc => ?_) (fun hc => ?_) <;> (conv=>whnf)) | (apply Cl.go;(conv=>whnf); (first | refine Ob.call (hp) ?_);(conv=>whnf)) | (refine Nx.mk (fun ka kb kx hx hs => ?_) (fun he => ?_) <;> (conv=>whnf)) | (refine Nx.mk (fun ka kx hx hs => ?_) (fun he => ?_) <;> (conv=>whnf)) | (refine Uk.mk (fun hn => ?_) ?_ <;> (conv=>whnf)) | (refine Ap.a ?_ ?_ <;> (conv=>whnf)) | (refine Fi.a ?_;conv=>whnf) | (refine Yl.a ?_ ?_ <;> (conv=>whnf)) | (refine Ob.b ?_;conv=>whnf)
        all_goals exact ⟨rfl, ⟨(i + 1, o), ⟨by simp only; omega, by simp only; omega⟩, hs.symm, hom⟩, Lf, by simp only; omega⟩
    · have e : o = fin := by rw [ho, hfin]; congr 1; omega
      obtain rfl : fin = o := e.symm
      conv => whnf
      repeat' first | ((first | refine Ob.a ?_ | refine Sp.tt ?_ | refine Sp.ff ?_ | refine Sp.yes ?_ | refine Sp.no ?_ | refine Sp.nyes ?_ | refine Sp.nno ?_);conv=>whnf) | (refine Sp.ne (fun hc => ?_) (fun hc => ?_) <;> (conv=>whnf)) | (refine Sp.dec (fun hc => ?_) (fun hc => ?_) <;> (conv=>whnf)) | (refine Sp.ndec (fun hc => ?_) (fun hc => ?_) <;> (conv=>whnf)) | (refine Sp.mk (fun hc => ?_) (fun hc => ?_) <;> (conv=>whnf)) | (refine Nx.mk (fun ka kb kx hx hs => ?_) (fun he => ?_) <;> (conv=>whnf)) | (refine Nx.mk (fun ka kx hx hs => ?_) (fun he => ?_) <;> (conv=>whnf)) | (refine Uk.mk (fun hn => ?_) ?_ <;> (conv=>whnf)) | (refine Ap.a ?_ ?_ <;> (conv=>whnf)) | (refine Fi.a ?_;conv=>whnf) | (refine Yl.a ?_ ?_ <;> (conv=>whnf)) | (refine Ob.b ?_;conv=>whnf)
      all_goals exact Lf
  · exact Lf
end Go.Px.Try

/-! Bp4 -/
namespace Go.Px.Try
open Go Go.Proofs Go.Px
set_option maxRecDepth 100000
theorem row_first {α : Type} {enc : α → DV} {d : α} {x : α} {f g : Nat → DV} (h : CImp (g 0) (enc x)) : ∀ j, j < [x].length → CImp (apd 0 f g j) (rowOf enc d [x] j) := by
  intro j hj
  have : j = 0 := by simp at hj; omega
  subst this
  exact h
theorem deepL_mem {R : List Int} {L : List Val} {v : Val} (h : v ∈ deepL R L) : v ∈ L := (List.mem_filter.1 h).1
/-- The list of deep valleys, in its variable. -/
def deepM (nx : Nat) (D : List Val) : List (Nat × Res) :=
  match D.isEmpty with
  | true => []
  | false => [(3, .cs true 1 fun _ => .ms nx 3 0 D.length), (nx, .row true 80 3 D.length (rowOf valD default D))]
theorem allV_small : ∀ n, n < 13 → (allV n).length < 1000 := by decide +kernel
set_option maxHeartbeats 8000000 in
theorem deepest_spec (R : List Int) (hR : RdOk R) : Fn Try.prog 58 [cupD R] (tpl [valD (valN R).1, bool (decide (0 < (valN R).2))]) := by
  have h12 := hR.l12
  have hv := valleys_spec R
  have hsq := valleys1_spec R (by omega)
  have hdp := fun i k j a b c => depthP_spec R i k j hR a b c
  have hL := fun v (h : v ∈ allV R.length) => allV_lt h
  have hbest : ∀ D : List Val, 0 < D.length → D.length < 1000000 → (∀ v ∈ D, ValOk R v) → _ := fun D h0 h1 h => best_val R D hR h0 h1 h
  have hsn : ∀ k, k < (allV R.length).length → deepL R ((allV R.length).take (k + 1)) = if 0 < vdep R ((allV R.length).getD k default) then deepL R ((allV R.length).take k) ++ [(allV R.length).getD k default] else deepL R ((allV R.length).take k) := fun k hk => by
    have e : (allV R.length).take (k + 1) = (allV R.length).take k ++ [(allV R.length).getD k default] := by
      rw [List.take_succ_eq_append_getElem hk, List.getD_eq_getElem?_getD, List.getElem?_eq_getElem hk]; rfl
    rw [e, deepL_snoc]
  have hLs : (allV R.length).length < 1000 := allV_small R.length (by omega)
  have hvF := vF_eq R (allV R.length)
  have hval : vF R (allV R.length) = valN R := rfl
  rw [hval] at hvF
  generalize valN R = fin at *
  generalize allV R.length = L at *
  refine Fn.of_ex (cuts := []) tys hM Try.func58 rfl Try.call58 rfl ?_
  show exC Try.prog T [] _ false none 0 (entry 27 [cupD R]) (finQ T [ResultVar.cell 2 80, ResultVar.tmp 3] _)
  conv => whnf
  repeat' first | ((first | refine Ob.a ?_ | refine Sp.tt ?_ | refine Sp.ff ?_ | refine Sp.yes ?_ | refine Sp.no ?_ | refine Sp.nyes ?_ | refine Sp.nno ?_);conv=>whnf) | (refine Sp.ne (fun hc => ?_) (fun hc => ?_) <;> (conv=>whnf)) | (refine Sp.dec (fun hc => ?_) (fun hc => ?_) <;> (conv=>whnf)) | (refine Sp.ndec (fun hc => ?_) (fun hc => ?_) <;> (conv=>whnf)) | (refine Sp.mk (fun hc => ?_) (fun hc => ?_) <;> (conv=>whnf)) | (apply Cl.go;(conv=>whnf); (first | refine Ob.call (hv) ?_);(conv=>whnf)) | (refine Nx.mk (fun ka kb kx hx hs => ?_) (fun he => ?_) <;> (conv=>whnf)) | (refine Nx.mk (fun ka kx hx hs => ?_) (fun he => ?_) <;> (conv=>whnf)) | (refine Uk.mk (fun hn => ?_) ?_ <;> (conv=>whnf)) | (refine Ap.a ?_ ?_ <;> (conv=>whnf)) | (refine Fi.a ?_;conv=>whnf) | (refine Yl.a ?_ ?_ <;> (conv=>whnf)) | (refine Ob.b ?_;conv=>whnf)
  refine Rg.snap [0, 1, 2, 3, 4, 5, 8, 9, 10, 11, 12, 13, 14, 16, 17, 18, 19, 20, 21, 23, 24, 25, 26] 40 ?_
  (conv=>whnf)
  refine RgB.go 27 ({q : Nat × List Val // q.1 ≤ L.length ∧ q.2 = deepL R (L.take q.1) ∧ q.2.length ≤ q.1}) 1 (fun ⟨(k, D), _⟩ nx => deepM nx D) (fun p => p.1.1) (⟨(0, []), by simp, by simp [deepL], by simp⟩) hsq ?_ ?_ ?_
  · rintro ⟨⟨k, D⟩, hk, hD, hDl⟩ j hj0 hj
    simp only at hj0 hk hD hDl
    subst hj0
    obtain ⟨w1, w2, w3⟩ := hL _ (getD_mem hj default)
    have hsn := hsn k hj
    rw [← hD] at hsn
    have hdp := hdp (L.getD k default).a (L.getD k default).b (L.getD k default).c ⟨by omega, by omega⟩ ⟨by omega, by omega⟩ ⟨by omega, by omega⟩
    simp only [Int.toNat_natCast] at hdp
    have hdd : vdep R (L.getD k default) = dep R (L.getD k default).a (L.getD k default).b (L.getD k default).c := rfl
    rw [← hdd] at hdp
    clear hdd
    cases D with
    | nil =>
      by_cases hc : 0 < vdep R (L.getD k default)
      · rw [if_pos hc] at hsn
        conv => whnf
        repeat' first | ((first | refine Ob.a ?_ | refine Sp.tt ?_ | refine Sp.ff ?_ | refine Sp.yes ?_ | refine Sp.no ?_ | refine Sp.nyes ?_ | refine Sp.nno ?_);conv=>whnf) | (refine Sp.ne (fun hc => ?_) (fun hc => ?_) <;> (conv=>whnf)) | (refine Sp.dec (fun hc => ?_) (fun hc => ?_) <;> (conv=>whnf)) | (refine Sp.ndec (fun hc => ?_) (fun hc => ?_) <;> (conv=>whnf)) | (refine Sp.mk (fun hc => ?_) (fun hc => ?_) <;> (conv=>whnf)) | (apply Cl.go;(conv=>whnf); (first | refine Ob.call (hdp) ?_);(conv=>whnf)) | (refine Nx.mk (fun ka kb kx hx hs => ?_) (fun he => ?_) <;> (conv=>whnf)) | (refine Nx.mk (fun ka kx hx hs => ?_) (fun he => ?_) <;> (conv=>whnf)) | (refine Uk.mk (fun hn => ?_) ?_ <;> (conv=>whnf)) | (refine Ap.a ?_ ?_ <;> (conv=>whnf)) | (refine Fi.a ?_;conv=>whnf) | (refine Yl.a ?_ ?_ <;> (conv=>whnf)) | (refine Ob.b ?_;conv=>whnf)
        refine ⟨rfl, ⟨(k + 1, [L.getD k default]), hj, hsn.symm, by simp⟩, rfl, ?_⟩
        conv => whnf
        repeat' first | (refine Edge.fast ?_) | ((conv=>whnf); first | exact True.intro | (refine And.intro ?_ ?_) | exact rfl | exact Nat.le_of_eq (Nat.zero_add _) | exact ImpS.refl _ | ((conv => arg 1; whnf); first | exact ImpS.refl _ | (refine ImpS.nil_eq ?_) | (refine ImpS.vnil_eq ?_) | (refine ImpS.row ?_) | (refine ImpS.rowN ?_ ?_) | (refine ImpS.sl_eq ?_) | (refine ImpS.expl rfl ?_)) | (refine row_snoc' ?_) | exact MImp.refl _ | exact cimp_none | exact cimp_same | exact List.not_mem_nil | exact DImp.refl _) | exact rfl | (refine And.intro ?_ ?_) | exact ImpS.refl _
        refine fun j hj => row_first (enc := valD) (x := L.getD k default) ?_ j hj
        exact Lf
      · rw [if_neg hc] at hsn
        conv => whnf
        repeat' first | ((first | refine Ob.a ?_ | refine Sp.tt ?_ | refine Sp.ff ?_ | refine Sp.yes ?_ | refine Sp.no ?_ | refine Sp.nyes ?_ | refine Sp.nno ?_);conv=>whnf) | (refine Sp.ne (fun hc => ?_) (fun hc => ?_) <;> (conv=>whnf)) | (refine Sp.dec (fun hc => ?_) (fun hc => ?_) <;> (conv=>whnf)) | (refine Sp.ndec (fun hc => ?_) (fun hc => ?_) <;> (conv=>whnf)) | (refine Sp.mk (fun hc => ?_) (fun hc => ?_) <;> (conv=>whnf)) | (apply Cl.go;(conv=>whnf); (first | refine Ob.call (hdp) ?_);(conv=>whnf)) | (refine Nx.mk (fun ka kb kx hx hs => ?_) (fun he => ?_) <;> (conv=>whnf)) | (refine Nx.mk (fun ka kx hx hs => ?_) (fun he => ?_) <;> (conv=>whnf)) | (refine Uk.mk (fun hn => ?_) ?_ <;> (conv=>whnf)) | (refine Ap.a ?_ ?_ <;> (conv=>whnf)) | (refine Fi.a ?_;conv=>whnf) | (refine Yl.a ?_ ?_ <;> (conv=>whnf)) | (refine Ob.b ?_;conv=>whnf)
        all_goals exact ⟨rfl, ⟨(k + 1, []), hj, hsn.symm, by simp⟩, rfl, Lf⟩
    | cons v D =>
      by_cases hc : 0 < vdep R (L.getD k default)
      · rw [if_pos hc] at hsn
        conv => whnf
        repeat' first | ((first | refine Ob.a ?_ | refine Sp.tt ?_ | refine Sp.ff ?_ | refine Sp.yes ?_ | refine Sp.no ?_ | refine Sp.nyes ?_ | refine Sp.nno ?_);conv=>whnf) | (refine Sp.ne (fun hc => ?_) (fun hc => ?_) <;> (conv=>whnf)) | (refine Sp.dec (fun hc => ?_) (fun hc => ?_) <;> (conv=>whnf)) | (refine Sp.ndec (fun hc => ?_) (fun hc => ?_) <;> (conv=>whnf)) | (refine Sp.mk (fun hc => ?_) (fun hc => ?_) <;> (conv=>whnf)) | (apply Cl.go;(conv=>whnf); (first | refine Ob.call (hdp) ?_);(conv=>whnf)) | (refine Nx.mk (fun ka kb kx hx hs => ?_) (fun he => ?_) <;> (conv=>whnf)) | (refine Nx.mk (fun ka kx hx hs => ?_) (fun he => ?_) <;> (conv=>whnf)) | (refine Uk.mk (fun hn => ?_) ?_ <;> (conv=>whnf)) | (refine Ap.a ?_ ?_ <;> (conv=>whnf)) | (refine Fi.a ?_;conv=>whnf) | (refine Yl.a ?_ ?_ <;> (conv=>whnf)) | (refine Ob.b ?_;conv=>whnf)
        all_goals exact ⟨rfl, ⟨(k + 1, (v :: D) ++ [L.getD k default]), hj, hsn.symm, by simp only [List.length_append, List.length_singleton]; omega⟩, rfl, Lf⟩
      · rw [if_neg hc] at hsn
        conv => whnf
        repeat' first | ((first | refine Ob.a ?_ | refine Sp.tt ?_ | refine Sp.ff ?_ | refine Sp.yes ?_ | refine Sp.no ?_ | refine Sp.nyes ?_ | refine Sp.nno ?_);conv=>whnf) | (refine Sp.ne (fun hc => ?_) (fun hc => ?_) <;> (conv=>whnf)) | (refine Sp.dec (fun hc => ?_) (fun hc => ?_) <;> (conv=>whnf)) | (refine Sp.ndec (fun hc => ?_) (fun hc => ?_) <;> (conv=>whnf)) | (refine Sp.mk (fun hc => ?_) (fun hc => ?_) <;> (conv=>whnf)) | (apply Cl.go;(conv=>whnf); (first | refine Ob.call (hdp) ?_);(conv=>whnf)) | (refine Nx.mk (fun ka kb kx hx hs => ?_) (fun he => ?_) <;> (conv=>whnf)) | (refine Nx.mk (fun ka kx hx hs => ?_) (fun he => ?_) <;> (conv=>whnf)) | (refine Uk.mk (fun hn => ?_) ?_ <;> (conv=>whnf)) | (refine Ap.a ?_ ?_ <;> (conv=>whnf)) | (refine Fi.a ?_;conv=>whnf) | (refine Yl.a ?_ ?_ <;> (conv=>whnf)) | (refine Ob.b ?_;conv=>whnf)
        all_goals exact ⟨rfl, ⟨(k + 1, v :: D), hj, hsn.symm, by simp only; omega⟩, rfl, Lf⟩
  · rintro ⟨⟨k, D⟩, hk, hD, hDl⟩ hkn
    simp only at hkn hk hD hDl
    cases D with
    | nil =>
      rw [hkn, List.take_length] at hD
      have e := hvF.1 hD.symm
      subst e
      conv => whnf
      repeat' first | ((first | refine Ob.a ?_ | refine Sp.tt ?_ | refine Sp.ff ?_ | refine Sp.yes ?_ | refine Sp.no ?_ | refine Sp.nyes ?_ | refine Sp.nno ?_);conv=>whnf) | (refine Sp.ne (fun hc => ?_) (fun hc => ?_) <;> (conv=>whnf)) | (refine Sp.dec (fun hc => ?_) (fun hc => ?_) <;> (conv=>whnf)) | (refine Sp.ndec (fun hc => ?_) (fun hc => ?_) <;> (conv=>whnf)) | (refine Sp.mk (fun hc => ?_) (fun hc => ?_) <;> (conv=>whnf)) | (refine Nx.mk (fun ka kb kx hx hs => ?_) (fun he => ?_) <;> (conv=>whnf)) | (refine Nx.mk (fun ka kx hx hs => ?_) (fun he => ?_) <;> (conv=>whnf)) | (refine Uk.mk (fun hn => ?_) ?_ <;> (conv=>whnf)) | (refine Ap.a ?_ ?_ <;> (conv=>whnf)) | (refine Fi.a ?_;conv=>whnf) | (refine Yl.a ?_ ?_ <;> (conv=>whnf)) | (refine Ob.b ?_;conv=>whnf)
      all_goals exact Lf
    | cons v D =>
      rw [hkn, List.take_length] at hD
      obtain ⟨e1, e2⟩ := hvF.2 (by rw [← hD]; simp)
      rw [← hD] at e1
      have hb := hbest (v :: D) (by simp) (by omega) fun x hx => by
        rw [hD] at hx
        have := hL x (deepL_mem hx)
        exact ⟨by omega, by omega, by omega⟩
      rw [show bestV R (v :: D) = fin.1 by rw [e1]] at hb
      have e3 : decide (0 < fin.2) = true := decide_eq_true e2
      rw [e3]
      conv => whnf
      repeat' first | ((first | refine Ob.a ?_ | refine Sp.tt ?_ | refine Sp.ff ?_ | refine Sp.yes ?_ | refine Sp.no ?_ | refine Sp.nyes ?_ | refine Sp.nno ?_);conv=>whnf) | (refine Sp.ne (fun hc => ?_) (fun hc => ?_) <;> (conv=>whnf)) | (refine Sp.dec (fun hc => ?_) (fun hc => ?_) <;> (conv=>whnf)) | (refine Sp.ndec (fun hc => ?_) (fun hc => ?_) <;> (conv=>whnf)) | (refine Sp.mk (fun hc => ?_) (fun hc => ?_) <;> (conv=>whnf)) | (apply Cl.go;(conv=>whnf); (first | refine Ob.call (hb) ?_);(conv=>whnf)) | (refine Nx.mk (fun ka kb kx hx hs => ?_) (fun he => ?_) <;> (conv=>whnf)) | (refine Nx.mk (fun ka kx hx hs => ?_) (fun he => ?_) <;> (conv=>whnf)) | (refine Uk.mk (fun hn => ?_) ?_ <;> (conv=>whnf)) | (refine Ap.a ?_ ?_ <;> (conv=>whnf)) | (refine Fi.a ?_;conv=>whnf) | (refine Yl.a ?_ ?_ <;> (conv=>whnf)) | (refine Ob.b ?_;conv=>whnf)
      all_goals exact Lf
  · exact Lf
end Go.Px.Try

/-! Bp5 -/
namespace Go.Px.Try
open Go Go.Proofs Go.Px
set_option maxRecDepth 100000
set_option maxHeartbeats 4000000 in
theorem ValleyP_spec (R : List Int) (h1 : R.length < 1000000) : Fn Try.prog 28 [ints R] (tpl [int (valleyR R).1, int (valleyR R).2.1, int (valleyR R).2.2.1, int (valleyR R).2.2.2]) := by
  by_cases hr : checkRd R = 0
  case neg =>
    have e : valleyR R = (0, 0, 0, checkRd R) := if_pos hr
    have ho := open_bad R h1 hr
    rw [e]
    generalize checkRd R = q at *
    refine Fn.of_ex (cuts := []) tys hM Try.func28 rfl Try.call28 rfl ?_
    show exC Try.prog T [] _ false none 0 (entry 31 [ints R]) (finQ T [ResultVar.tmp 2, ResultVar.tmp 3, ResultVar.tmp 4, ResultVar.tmp 5] _)
    conv => whnf
    repeat' first | ((first | refine Ob.a ?_ | refine Sp.tt ?_ | refine Sp.ff ?_ | refine Sp.yes ?_ | refine Sp.no ?_ | refine Sp.nyes ?_ | refine Sp.nno ?_);conv=>whnf) | (refine Sp.ne (fun hc => ?_) (fun hc => ?_) <;> (conv=>whnf)) | (refine Sp.dec (fun hc => ?_) (fun hc => ?_) <;> (conv=>whnf)) | (refine Sp.ndec (fun hc => ?_) (fun hc => ?_) <;> (conv=>whnf)) | (refine Sp.mk (fun hc => ?_) (fun hc => ?_) <;> (conv=>whnf)) | (apply Cl.go;(conv=>whnf); (first | refine Ob.call (ho) ?_);(conv=>whnf)) | (refine Nx.mk (fun ka kb kx hx hs => ?_) (fun he => ?_) <;> (conv=>whnf)) | (refine Nx.mk (fun ka kx hx hs => ?_) (fun he => ?_) <;> (conv=>whnf)) | (refine Uk.mk (fun hn => ?_) ?_ <;> (conv=>whnf)) | (refine Ap.a ?_ ?_ <;> (conv=>whnf)) | (refine Fi.a ?_;conv=>whnf) | (refine Yl.a ?_ ?_ <;> (conv=>whnf)) | (refine Ob.b ?_;conv=>whnf)
    all_goals exact Lf
  have hR := checkRd_ok.1 hr
  have hn : ¬ checkRd R ≠ 0 := not_not_intro hr
  have ho := open_ok R hR
  have hd := deepest_spec R hR
  have e : valleyR R = if (valN R).2 = 0 then ((0 : Int), (0 : Int), (0 : Int), (5 : Int)) else (((valN R).1.a : Int), ((valN R).1.b : Int), ((valN R).1.c : Int), (0 : Int)) := if_neg hn
  have h0 : 0 ≤ (valN R).2 := (vF_max R _).1
  rw [e]
  clear e
  generalize valN R = fin at *
  by_cases hc : 0 < fin.2
  · rw [if_neg (by omega)]
    rw [decide_eq_true hc] at hd
    refine Fn.of_ex (cuts := []) tys hM Try.func28 rfl Try.call28 rfl ?_
    show exC Try.prog T [] _ false none 0 (entry 31 [ints R]) (finQ T [ResultVar.tmp 2, ResultVar.tmp 3, ResultVar.tmp 4, ResultVar.tmp 5] _)
    conv => whnf
    repeat' first | ((first | refine Ob.a ?_ | refine Sp.tt ?_ | refine Sp.ff ?_ | refine Sp.yes ?_ | refine Sp.no ?_ | refine Sp.nyes ?_ | refine Sp.nno ?_);conv=>whnf) | (refine Sp.ne (fun hc => ?_) (fun hc => ?_) <;> (conv=>whnf)) | (refine Sp.dec (fun hc => ?_) (fun hc => ?_) <;> (conv=>whnf)) | (refine Sp.ndec (fun hc => ?_) (fun hc => ?_) <;> (conv=>whnf)) | (refine Sp.mk (fun hc => ?_) (fun hc => ?_) <;> (conv=>whnf)) | (apply Cl.go;(conv=>whnf); (first | refine Ob.call (ho) ?_ | refine Ob.call (hd) ?_);(conv=>whnf)) | (refine Nx.mk (fun ka kb kx hx hs => ?_) (fun he => ?_) <;> (conv=>whnf)) | (refine Nx.mk (fun ka kx hx hs => ?_) (fun he => ?_) <;> (conv=>whnf)) | (refine Uk.mk (fun hn => ?_) ?_ <;> (conv=>whnf)) | (refine Ap.a ?_ ?_ <;> (conv=>whnf)) | (refine Fi.a ?_;conv=>whnf) | (refine Yl.a ?_ ?_ <;> (conv=>whnf)) | (refine Ob.b ?_;conv=>whnf)
    all_goals exact Lf
  · rw [if_pos (by omega)]
    rw [decide_eq_false hc] at hd
    refine Fn.of_ex (cuts := []) tys hM Try.func28 rfl Try.call28 rfl ?_
    show exC Try.prog T [] _ false none 0 (entry 31 [ints R]) (finQ T [ResultVar.tmp 2, ResultVar.tmp 3, ResultVar.tmp 4, ResultVar.tmp 5] _)
    conv => whnf
    repeat' first | ((first | refine Ob.a ?_ | refine Sp.tt ?_ | refine Sp.ff ?_ | refine Sp.yes ?_ | refine Sp.no ?_ | refine Sp.nyes ?_ | refine Sp.nno ?_);conv=>whnf) | (refine Sp.ne (fun hc => ?_) (fun hc => ?_) <;> (conv=>whnf)) | (refine Sp.dec (fun hc => ?_) (fun hc => ?_) <;> (conv=>whnf)) | (refine Sp.ndec (fun hc => ?_) (fun hc => ?_) <;> (conv=>whnf)) | (refine Sp.mk (fun hc => ?_) (fun hc => ?_) <;> (conv=>whnf)) | (apply Cl.go;(conv=>whnf); (first | refine Ob.call (ho) ?_ | refine Ob.call (hd) ?_);(conv=>whnf)) | (refine Nx.mk (fun ka kb kx hx hs => ?_) (fun he => ?_) <;> (conv=>whnf)) | (refine Nx.mk (fun ka kx hx hs => ?_) (fun he => ?_) <;> (conv=>whnf)) | (refine Uk.mk (fun hn => ?_) ?_ <;> (conv=>whnf)) | (refine Ap.a ?_ ?_ <;> (conv=>whnf)) | (refine Fi.a ?_;conv=>whnf) | (refine Yl.a ?_ ?_ <;> (conv=>whnf)) | (refine Ob.b ?_;conv=>whnf)
    all_goals exact Lf
theorem off_iff {R : List Int} {i : Nat} {m : Int} (hm : 0 ≤ m) : offN R i ≤ 2 * m ↔ ∀ k, k < R.length → ∀ j, j < k → (k ≤ i → R.getD j 0 - R.getD k 0 ≤ 2 * m) ∧ (i ≤ j → R.getD k 0 - R.getD j 0 ≤ 2 * m) := by
  constructor
  · intro h k hk j hj
    have := offN_le (R := R) (p := i) hj hk
    exact ⟨fun h1 => Int.le_trans (this.1 h1) h, fun h1 => Int.le_trans (this.2 h1) h⟩
  · intro h
    rcases offN_at R i with e | ⟨j, k, h1, h2, h3⟩
    · omega
    · have := h k h2 j h1
      rcases h3 with ⟨h4, h5⟩ | ⟨h4, h5⟩
      · rw [h5]; exact this.1 h4
      · rw [h5]; exact this.2 h4
set_option maxHeartbeats 16000000 in
theorem PeaksP_spec (R : List Int) (most : Int) (h1 : R.length < 1000000) : Fn Try.prog 30 [ints R, int most] (tpl [ints (peaksR R most).1, int (peaksR R most).2]) := by
  by_cases hr : checkRd R = 0
  case neg =>
    have e : peaksR R most = ([], checkRd R) := if_pos hr
    have ho := open_bad R h1 hr
    rw [e]
    generalize checkRd R = q at *
    refine Fn.of_ex (cuts := []) tys hM Try.func30 rfl Try.call30 rfl ?_
    show exC Try.prog T [] _ false none 0 (entry 86 [ints R, int most]) (finQ T [ResultVar.tmp 4, ResultVar.tmp 5] _)
    conv => whnf
    repeat' first | ((first | refine Ob.a ?_ | refine Sp.tt ?_ | refine Sp.ff ?_ | refine Sp.yes ?_ | refine Sp.no ?_ | refine Sp.nyes ?_ | refine Sp.nno ?_);conv=>whnf) | (refine Sp.ne (fun hc => ?_) (fun hc => ?_) <;> (conv=>whnf)) | (refine Sp.dec (fun hc => ?_) (fun hc => ?_) <;> (conv=>whnf)) | (refine Sp.ndec (fun hc => ?_) (fun hc => ?_) <;> (conv=>whnf)) | (refine Sp.mk (fun hc => ?_) (fun hc => ?_) <;> (conv=>whnf)) | (apply Cl.go;(conv=>whnf); (first | refine Ob.call (ho) ?_);(conv=>whnf)) | (refine Nx.mk (fun ka kb kx hx hs => ?_) (fun he => ?_) <;> (conv=>whnf)) | (refine Nx.mk (fun ka kx hx hs => ?_) (fun he => ?_) <;> (conv=>whnf)) | (refine Uk.mk (fun hn => ?_) ?_ <;> (conv=>whnf)) | (refine Ap.a ?_ ?_ <;> (conv=>whnf)) | (refine Fi.a ?_;conv=>whnf) | (refine Yl.a ?_ ?_ <;> (conv=>whnf)) | (refine Ob.b ?_;conv=>whnf)
    all_goals exact Lf
  have hR := checkRd_ok.1 hr
  have h12 := hR.l12
  have hn : ¬ checkRd R ≠ 0 := not_not_intro hr
  have ho := open_ok R hR
  have hw := within_one 0 1000 most
  by_cases hb : 0 ≤ most ∧ most ≤ 1000
  case neg =>
    have e : peaksR R most = ([], 3) := by unfold peaksR; rw [if_neg hn, if_pos (by omega)]
    rw [e]
    rw [decide_eq_false hb] at hw
    refine Fn.of_ex (cuts := []) tys hM Try.func30 rfl Try.call30 rfl ?_
    show exC Try.prog T [] _ false none 0 (entry 86 [ints R, int most]) (finQ T [ResultVar.tmp 4, ResultVar.tmp 5] _)
    conv => whnf
    repeat' first | ((first | refine Ob.a ?_ | refine Sp.tt ?_ | refine Sp.ff ?_ | refine Sp.yes ?_ | refine Sp.no ?_ | refine Sp.nyes ?_ | refine Sp.nno ?_);conv=>whnf) | (refine Sp.ne (fun hc => ?_) (fun hc => ?_) <;> (conv=>whnf)) | (refine Sp.dec (fun hc => ?_) (fun hc => ?_) <;> (conv=>whnf)) | (refine Sp.ndec (fun hc => ?_) (fun hc => ?_) <;> (conv=>whnf)) | (refine Sp.mk (fun hc => ?_) (fun hc => ?_) <;> (conv=>whnf)) | (apply Cl.go;(conv=>whnf); (first | refine Ob.call (ho) ?_ | refine Ob.call (hw) ?_);(conv=>whnf)) | (refine Nx.mk (fun ka kb kx hx hs => ?_) (fun he => ?_) <;> (conv=>whnf)) | (refine Nx.mk (fun ka kx hx hs => ?_) (fun he => ?_) <;> (conv=>whnf)) | (refine Uk.mk (fun hn => ?_) ?_ <;> (conv=>whnf)) | (refine Ap.a ?_ ?_ <;> (conv=>whnf)) | (refine Fi.a ?_;conv=>whnf) | (refine Yl.a ?_ ?_ <;> (conv=>whnf)) | (refine Ob.b ?_;conv=>whnf)
    all_goals exact Lf
  have e : peaksR R most = (pkL R most, 0) := by unfold peaksR; rw [if_neg hn, if_neg (by omega)]
  rw [e]
  rw [decide_eq_true hb] at hw
  have hlen := pkT_len R most
  have hs : ∀ i : Int, 0 ≤ i → pkT R most (i + 1).toNat = pkT R most i.toNat ++ if offN R i.toNat ≤ 2 * most then [i] else [] := fun i i0 => by
    rw [show (i + 1).toNat = i.toNat + 1 by omega, pkT_succ, Int.toNat_of_nonneg i0]
  have hfin : pkL R most = pkT R most R.length := rfl
  have hv : ∀ i : Int, 0 ≤ i → i < R.length → 0 ≤ R.getD i.toNat 0 ∧ R.getD i.toNat 0 ≤ 1000 := fun i i0 i1 => hR.rng _ (getD_mem_int (by omega))
  have hoff : ∀ i : Int, 0 ≤ i → (offN R i.toNat ≤ 2 * most ↔ ∀ k : Int, 0 ≤ k → k < R.length → ∀ j : Int, 0 ≤ j → j < k → (k ≤ i → R.getD j.toNat 0 - R.getD k.toNat 0 ≤ 2 * most) ∧ (i ≤ j → R.getD k.toNat 0 - R.getD j.toNat 0 ≤ 2 * most)) := fun i i0 => by
    rw [off_iff hb.1]
    constructor
    · intro h k k0 k1 j j0 j1
      have := h k.toNat (by omega) j.toNat (by omega)
      exact ⟨fun h' => this.1 (by omega), fun h' => this.2 (by omega)⟩
    · intro h k k1 j j1
      have := h k (by omega) (by omega) j (by omega) (by omega)
      simp only [Int.toNat_natCast] at this
      exact ⟨fun h' => this.1 (by omega), fun h' => this.2 (by omega)⟩
  generalize pkL R most = fin at *
  generalize offN R = A at *
  clear e
  refine Fn.of_ex (cuts := []) tys hM Try.func30 rfl Try.call30 rfl ?_
  show exC Try.prog T [] _ false none 0 (entry 86 [ints R, int most]) (finQ T [ResultVar.tmp 4, ResultVar.tmp 5] _)
  conv => whnf
  repeat' first | ((first | refine Ob.a ?_ | refine Sp.tt ?_ | refine Sp.ff ?_ | refine Sp.yes ?_ | refine Sp.no ?_ | refine Sp.nyes ?_ | refine Sp.nno ?_);conv=>whnf) | (refine Sp.ne (fun hc => ?_) (fun hc => ?_) <;> (conv=>whnf)) | (refine Sp.dec (fun hc => ?_) (fun hc => ?_) <;> (conv=>whnf)) | (refine Sp.ndec (fun hc => ?_) (fun hc => ?_) <;> (conv=>whnf)) | (refine Sp.mk (fun hc => ?_) (fun hc => ?_) <;> (conv=>whnf)) | (apply Cl.go;(conv=>whnf); (first | refine Ob.call (ho) ?_ | refine Ob.call (hw) ?_);(conv=>whnf)) | (refine Nx.mk (fun ka kb kx hx hs => ?_) (fun he => ?_) <;> (conv=>whnf)) | (refine Nx.mk (fun ka kx hx hs => ?_) (fun he => ?_) <;> (conv=>whnf)) | (refine Uk.mk (fun hn => ?_) ?_ <;> (conv=>whnf)) | (refine Ap.a ?_ ?_ <;> (conv=>whnf)) | (refine Fi.a ?_;conv=>whnf) | (refine Yl.a ?_ ?_ <;> (conv=>whnf)) | (refine Ob.b ?_;conv=>whnf)
  refine Lp.snap [0, 1, 4, 5, 29, 85] 100 ?_
  (conv=>whnf)
  refine LpB.go 86 ({q : Int × List Int // (0 ≤ q.1 ∧ q.1 ≤ R.length) ∧ q.2 = pkT R most q.1.toNat}) 0 (fun ⟨(i, o), _⟩ nx => ([(30, .d (int i)), (8, .ms 17 1 0 o.length)], [(17, .row true 3 1 o.length (rowOf int 0 o))])) (fun p => (R.length - p.1.1).toNat) (⟨(0, []), ⟨by simp, by simp⟩, rfl⟩) ?_ ?_
  · rintro ⟨⟨i, o⟩, ⟨i0, i1⟩, ho2⟩
    simp only at i0 i1 ho2
    have hl := hlen i.toNat
    rw [← ho2] at hl
    have hs := hs i i0
    rw [← ho2] at hs
    have hoff := hoff i i0
    by_cases hi : i < R.length
    · have hbad : ¬ A i.toNat ≤ 2 * most → o = pkT R most (i + 1).toNat := fun h => by rw [hs, if_neg h, List.append_nil]
      have hgood : A i.toNat ≤ 2 * most → o ++ [i] = pkT R most (i + 1).toNat := fun h => by rw [hs, if_pos h]
      clear hs
      conv => whnf
      repeat' first | ((first | refine Ob.a ?_ | refine Sp.tt ?_ | refine Sp.ff ?_ | refine Sp.yes ?_ | refine Sp.no ?_ | refine Sp.nyes ?_ | refine Sp.nno ?_);conv=>whnf) | (refine Sp.ne (fun hc => ?_) (fun hc => ?_) <;> (conv=>whnf)) | (refine Sp.dec (fun hc => ?_) (fun hc => ?_) <;> (conv=>whnf)) | (refine Sp.ndec (fun hc => ?_) (fun hc => ?_) <;> (conv=>whnf)) | (refine Sp.mk (fun hc => ?_) (fun hc => ?_) <;> (conv=>whnf)) | (refine Nx.mk (fun ka kb kx hx hs => ?_) (fun he => ?_) <;> (conv=>whnf)) | (refine Nx.mk (fun ka kx hx hs => ?_) (fun he => ?_) <;> (conv=>whnf)) | (refine Uk.mk (fun hn => ?_) ?_ <;> (conv=>whnf)) | (refine Ap.a ?_ ?_ <;> (conv=>whnf)) | (refine Fi.a ?_;conv=>whnf) | (refine Yl.a ?_ ?_ <;> (conv=>whnf)) | (refine Ob.b ?_;conv=>whnf)
      refine Lp.snap [0, 1, 4, 5, 8, 9, 29, 30, 32, 33, 34, 75, 76, 77, 78, 79, 80, 81, 82, 83, 84, 85] 100 ?_
      (conv=>whnf)
      refine LpB.go 86 ({k : Int // (0 ≤ k ∧ k ≤ R.length) ∧ ∀ q : Int, 0 ≤ q → q < k → ∀ j : Int, 0 ≤ j → j < q → (q ≤ i → R.getD j.toNat 0 - R.getD q.toNat 0 ≤ 2 * most) ∧ (i ≤ j → R.getD q.toNat 0 - R.getD j.toNat 0 ≤ 2 * most)}) 0 (fun ⟨k, _⟩ nx => ([(35, .d (int k))], [])) (fun p => (R.length - p.1).toNat) (⟨0, ⟨by omega, by omega⟩, fun q q0 q1 => by omega⟩) ?_ ?_
      · rintro ⟨k, ⟨k0, k1⟩, hkk⟩
        by_cases hk : k < R.length
        · have vk := hv k k0 hk
          conv => whnf
          repeat' first | ((first | refine Ob.a ?_ | refine Sp.tt ?_ | refine Sp.ff ?_ | refine Sp.yes ?_ | refine Sp.no ?_ | refine Sp.nyes ?_ | refine Sp.nno ?_);conv=>whnf) | (refine Sp.ne (fun hc => ?_) (fun hc => ?_) <;> (conv=>whnf)) | (refine Sp.dec (fun hc => ?_) (fun hc => ?_) <;> (conv=>whnf)) | (refine Sp.ndec (fun hc => ?_) (fun hc => ?_) <;> (conv=>whnf)) | (refine Sp.mk (fun hc => ?_) (fun hc => ?_) <;> (conv=>whnf)) | (refine Nx.mk (fun ka kb kx hx hs => ?_) (fun he => ?_) <;> (conv=>whnf)) | (refine Nx.mk (fun ka kx hx hs => ?_) (fun he => ?_) <;> (conv=>whnf)) | (refine Uk.mk (fun hn => ?_) ?_ <;> (conv=>whnf)) | (refine Ap.a ?_ ?_ <;> (conv=>whnf)) | (refine Fi.a ?_;conv=>whnf) | (refine Yl.a ?_ ?_ <;> (conv=>whnf)) | (refine Ob.b ?_;conv=>whnf)
          refine Lp.snap [0, 1, 4, 5, 8, 9, 10, 11, 29, 30, 32, 33, 34, 35, 37, 38, 39, 40, 41, 42, 43, 74, 75, 76, 77, 78, 79, 80, 81, 82, 83, 84, 85] 100 ?_
          (conv=>whnf)
          refine LpB.go 86 ({j : Int // (0 ≤ j ∧ j ≤ k) ∧ ∀ q : Int, 0 ≤ q → q < j → (k ≤ i → R.getD q.toNat 0 - R.getD k.toNat 0 ≤ 2 * most) ∧ (i ≤ q → R.getD k.toNat 0 - R.getD q.toNat 0 ≤ 2 * most)}) 0 (fun ⟨j, _⟩ nx => ([(44, .d (int j))], [])) (fun p => (k - p.1).toNat) (⟨0, ⟨by omega, by omega⟩, fun q q0 q1 => by omega⟩) ?_ ?_
          · rintro ⟨j, ⟨j0, j1⟩, hjj⟩
            by_cases hj : j < k
            · have vj := hv j j0 (by omega)
              by_cases hP : (k ≤ i ∧ 2 * most < R.getD j.toNat 0 - R.getD k.toNat 0) ∨ (i ≤ j ∧ 2 * most < R.getD k.toNat 0 - R.getD j.toNat 0)
              · have e := hbad fun h => by
                  have := hoff.1 h k k0 hk j j0 hj
                  rcases hP with ⟨p1, p2⟩ | ⟨p1, p2⟩
                  · have := this.1 p1; omega
                  · have := this.2 p1; omega
                clear hbad hgood hoff
                conv => whnf
                repeat' first | ((first | refine Ob.a ?_ | refine Sp.tt ?_ | refine Sp.ff ?_ | refine Sp.yes ?_ | refine Sp.no ?_ | refine Sp.nyes ?_ | refine Sp.nno ?_);conv=>whnf) | (refine Sp.ne (fun hc => ?_) (fun hc => ?_) <;> (conv=>whnf)) | (refine Sp.dec (fun hc => ?_) (fun hc => ?_) <;> (conv=>whnf)) | (refine Sp.ndec (fun hc => ?_) (fun hc => ?_) <;> (conv=>whnf)) | (refine Sp.mk (fun hc => ?_) (fun hc => ?_) <;> (conv=>whnf)) | (refine Nx.mk (fun ka kb kx hx hs => ?_) (fun he => ?_) <;> (conv=>whnf)) | (refine Nx.mk (fun ka kx hx hs => ?_) (fun he => ?_) <;> (conv=>whnf)) | (refine Uk.mk (fun hn => ?_) ?_ <;> (conv=>whnf)) | (refine Ap.a ?_ ?_ <;> (conv=>whnf)) | (refine Fi.a ?_;conv=>whnf) | (refine Yl.a ?_ ?_ <;> (conv=>whnf)) | (refine Ob.b ?_;conv=>whnf)
                all_goals first | exact ⟨rfl, ⟨(i + 1, o), ⟨by simp only; omega, by simp only; omega⟩, e⟩, Lf, by simp only; omega⟩ | (exfalso; omega)
              · have hjn : ∀ q : Int, 0 ≤ q → q < j + 1 → (k ≤ i → R.getD q.toNat 0 - R.getD k.toNat 0 ≤ 2 * most) ∧ (i ≤ q → R.getD k.toNat 0 - R.getD q.toNat 0 ≤ 2 * most) := fun q q0 q1 => by
                  by_cases hq : q < j
                  · exact hjj q q0 hq
                  · obtain rfl : q = j := by omega
                    exact ⟨fun h => by omega, fun h => by omega⟩
                clear hbad hgood hoff
                conv => whnf
                repeat' first | ((first | refine Ob.a ?_ | refine Sp.tt ?_ | refine Sp.ff ?_ | refine Sp.yes ?_ | refine Sp.no ?_ | refine Sp.nyes ?_ | refine Sp.nno ?_);conv=>whnf) | (refine Sp.ne (fun hc => ?_) (fun hc => ?_) <;> (conv=>whnf)) | (refine Sp.dec (fun hc => ?_) (fun hc => ?_) <;> (conv=>whnf)) | (refine Sp.ndec (fun hc => ?_) (fun hc => ?_) <;> (conv=>whnf)) | (refine Sp.mk (fun hc => ?_) (fun hc => ?_) <;> (conv=>whnf)) | (refine Nx.mk (fun ka kb kx hx hs => ?_) (fun he => ?_) <;> (conv=>whnf)) | (refine Nx.mk (fun ka kx hx hs => ?_) (fun he => ?_) <;> (conv=>whnf)) | (refine Uk.mk (fun hn => ?_) ?_ <;> (conv=>whnf)) | (refine Ap.a ?_ ?_ <;> (conv=>whnf)) | (refine Fi.a ?_;conv=>whnf) | (refine Yl.a ?_ ?_ <;> (conv=>whnf)) | (refine Ob.b ?_;conv=>whnf)
                all_goals first | exact ⟨rfl, ⟨j + 1, ⟨by omega, by omega⟩, hjn⟩, Lf, by simp only; omega⟩ | (exfalso; omega)
            · have hkn : ∀ q : Int, 0 ≤ q → q < k + 1 → ∀ j : Int, 0 ≤ j → j < q → (q ≤ i → R.getD j.toNat 0 - R.getD q.toNat 0 ≤ 2 * most) ∧ (i ≤ j → R.getD q.toNat 0 - R.getD j.toNat 0 ≤ 2 * most) := fun q q0 q1 y y0 y1 => by
                by_cases hq : q < k
                · exact hkk q q0 hq y y0 y1
                · obtain rfl : q = k := by omega
                  exact hjj y y0 (by omega)
              clear hbad hgood hoff
              conv => whnf
              repeat' first | ((first | refine Ob.a ?_ | refine Sp.tt ?_ | refine Sp.ff ?_ | refine Sp.yes ?_ | refine Sp.no ?_ | refine Sp.nyes ?_ | refine Sp.nno ?_);conv=>whnf) | (refine Sp.ne (fun hc => ?_) (fun hc => ?_) <;> (conv=>whnf)) | (refine Sp.dec (fun hc => ?_) (fun hc => ?_) <;> (conv=>whnf)) | (refine Sp.ndec (fun hc => ?_) (fun hc => ?_) <;> (conv=>whnf)) | (refine Sp.mk (fun hc => ?_) (fun hc => ?_) <;> (conv=>whnf)) | (refine Nx.mk (fun ka kb kx hx hs => ?_) (fun he => ?_) <;> (conv=>whnf)) | (refine Nx.mk (fun ka kx hx hs => ?_) (fun he => ?_) <;> (conv=>whnf)) | (refine Uk.mk (fun hn => ?_) ?_ <;> (conv=>whnf)) | (refine Ap.a ?_ ?_ <;> (conv=>whnf)) | (refine Fi.a ?_;conv=>whnf) | (refine Yl.a ?_ ?_ <;> (conv=>whnf)) | (refine Ob.b ?_;conv=>whnf)
              all_goals exact ⟨rfl, ⟨k + 1, ⟨by omega, by omega⟩, hkn⟩, Lf, by simp only; omega⟩
          · exact Lf
        · have e := hgood (hoff.2 fun q q0 q1 => hkk q q0 (by omega))
          clear hbad hgood hoff
          conv => whnf
          repeat' first | ((first | refine Ob.a ?_ | refine Sp.tt ?_ | refine Sp.ff ?_ | refine Sp.yes ?_ | refine Sp.no ?_ | refine Sp.nyes ?_ | refine Sp.nno ?_);conv=>whnf) | (refine Sp.ne (fun hc => ?_) (fun hc => ?_) <;> (conv=>whnf)) | (refine Sp.dec (fun hc => ?_) (fun hc => ?_) <;> (conv=>whnf)) | (refine Sp.ndec (fun hc => ?_) (fun hc => ?_) <;> (conv=>whnf)) | (refine Sp.mk (fun hc => ?_) (fun hc => ?_) <;> (conv=>whnf)) | (refine Nx.mk (fun ka kb kx hx hs => ?_) (fun he => ?_) <;> (conv=>whnf)) | (refine Nx.mk (fun ka kx hx hs => ?_) (fun he => ?_) <;> (conv=>whnf)) | (refine Uk.mk (fun hn => ?_) ?_ <;> (conv=>whnf)) | (refine Ap.a ?_ ?_ <;> (conv=>whnf)) | (refine Fi.a ?_;conv=>whnf) | (refine Yl.a ?_ ?_ <;> (conv=>whnf)) | (refine Ob.b ?_;conv=>whnf)
          all_goals exact ⟨rfl, ⟨(i + 1, o ++ [i]), ⟨by simp only; omega, by simp only; omega⟩, e⟩, Lf, by simp only; omega⟩
      · exact Lf
    · have e : o = fin := by rw [ho2, hfin, show i.toNat = R.length by omega]
      conv => whnf
      repeat' first | ((first | refine Ob.a ?_ | refine Sp.tt ?_ | refine Sp.ff ?_ | refine Sp.yes ?_ | refine Sp.no ?_ | refine Sp.nyes ?_ | refine Sp.nno ?_);conv=>whnf) | (refine Sp.ne (fun hc => ?_) (fun hc => ?_) <;> (conv=>whnf)) | (refine Sp.dec (fun hc => ?_) (fun hc => ?_) <;> (conv=>whnf)) | (refine Sp.ndec (fun hc => ?_) (fun hc => ?_) <;> (conv=>whnf)) | (refine Sp.mk (fun hc => ?_) (fun hc => ?_) <;> (conv=>whnf)) | (refine Nx.mk (fun ka kb kx hx hs => ?_) (fun he => ?_) <;> (conv=>whnf)) | (refine Nx.mk (fun ka kx hx hs => ?_) (fun he => ?_) <;> (conv=>whnf)) | (refine Uk.mk (fun hn => ?_) ?_ <;> (conv=>whnf)) | (refine Ap.a ?_ ?_ <;> (conv=>whnf)) | (refine Fi.a ?_;conv=>whnf) | (refine Yl.a ?_ ?_ <;> (conv=>whnf)) | (refine Ob.b ?_;conv=>whnf)
      all_goals exact Lf
  · exact Lf
end Go.Px.Try

/-! Bp6 -/
namespace Go.Px.Try
open Go Go.Proofs Go.Px
set_option maxRecDepth 100000
/-- Whether some number ahead of a place is greater than the next one. -/
def fallB (c : List Int) : Nat → Bool
  | 0 => false
  | i + 1 => fallB c i || decide (c.getD (i + 1) 0 < c.getD i 0)
theorem fallB_ex {c : List Int} : ∀ {i : Nat}, fallB c i = true → ∃ j, j < i ∧ c.getD (j + 1) 0 < c.getD j 0
  | i + 1, h => by
    unfold fallB at h
    rcases Bool.or_eq_true_iff.1 h with h | h
    · obtain ⟨j, h1, h2⟩ := fallB_ex h; exact ⟨j, by omega, h2⟩
    · exact ⟨i, by omega, of_decide_eq_true h⟩
theorem fall_bad {c : List Int} {i : Nat} (hi : i + 1 < c.length) (h : fallB c i = true) (hb : c.getD i 0 < c.getD (i + 1) 0) : ¬ unim c := by
  rintro ⟨p, hp, ha⟩
  obtain ⟨j, h1, h2⟩ := fallB_ex h
  have a1 := ha (j + 1) (by omega) (by omega)
  have a2 := ha (i + 1) (by omega) hi
  simp only [Nat.add_sub_cancel] at a1 a2
  by_cases hjp : j + 1 ≤ p
  · have := a1.1 hjp; omega
  · have := a2.2 (by omega); omega
/-- All is well up to a place. -/
structure WellTo (c : List Int) (i : Nat) : Prop where
  n : fallB c i = false → ∀ j, j < i → c.getD j 0 ≤ c.getD (j + 1) 0
  y : fallB c i = true → ∃ p, p < i ∧ (∀ j, j < p → c.getD j 0 ≤ c.getD (j + 1) 0) ∧ ∀ j, p ≤ j → j < i → c.getD (j + 1) 0 ≤ c.getD j 0
theorem well_zero (c : List Int) : WellTo c 0 := ⟨fun _ j hj => by omega, fun h => by cases h⟩
theorem well_succ {c : List Int} {i : Nat} (h : WellTo c i) (hb : ¬ (fallB c i = true ∧ c.getD i 0 < c.getD (i + 1) 0)) : WellTo c (i + 1) := by
  cases hf : fallB c i with
  | true =>
    have hb : c.getD (i + 1) 0 ≤ c.getD i 0 := by
      have : ¬ c.getD i 0 < c.getD (i + 1) 0 := fun h => hb ⟨hf, h⟩
      omega
    obtain ⟨p, h1, h2, h3⟩ := h.y hf
    have e : fallB c (i + 1) = true := by unfold fallB; rw [hf]; rfl
    exact ⟨fun hh => (by rw [e] at hh; cases hh), fun _ => ⟨p, by omega, h2, fun j j0 j1 => by
      by_cases hj : j < i
      · exact h3 j j0 hj
      · obtain rfl : j = i := by omega
        exact hb⟩⟩
  | false =>
    by_cases hc : c.getD (i + 1) 0 < c.getD i 0
    · have e : fallB c (i + 1) = true := by unfold fallB; rw [hf, decide_eq_true hc]; rfl
      exact ⟨fun hh => (by rw [e] at hh; cases hh), fun _ => ⟨i, by omega, h.n hf, fun j j0 j1 => by
        obtain rfl : j = i := by omega
        omega⟩⟩
    · have e : fallB c (i + 1) = false := by unfold fallB; rw [hf, decide_eq_false hc]; rfl
      exact ⟨fun _ j hj => by
        by_cases hj : j < i
        · exact h.n hf j hj
        · obtain rfl : j = i := by omega
          omega, fun hh => by rw [e] at hh; cases hh⟩
theorem well_unim {c : List Int} (h0 : 0 < c.length) (h : WellTo c (c.length - 1)) : unim c := by
  cases hf : fallB c (c.length - 1) with
  | true =>
    obtain ⟨p, h1, h2, h3⟩ := h.y hf
    refine ⟨p, by omega, fun i i1 i2 => ⟨fun hp => ?_, fun hp => ?_⟩⟩
    · have := h2 (i - 1) (by omega); rwa [show i - 1 + 1 = i by omega] at this
    · have := h3 (i - 1) (by omega) (by omega); rwa [show i - 1 + 1 = i by omega] at this
  | false =>
    refine ⟨c.length - 1, by omega, fun i i1 i2 => ⟨fun hp => ?_, fun hp => by omega⟩⟩
    have := h.n hf (i - 1) (by omega); rwa [show i - 1 + 1 = i by omega] at this
set_option maxHeartbeats 16000000 in
theorem CheckCurveP_spec (R c : List Int) (h1 : R.length < 1000000) (h2 : c.length < 1000000) : Fn Try.prog 18 [ints R, ints c] (tpl [int (checkCurveR R c).1, int (checkCurveR R c).2.1, int (checkCurveR R c).2.2]) := by
  by_cases hr : checkRd R = 0
  case neg =>
    have e : checkCurveR R c = (0, 0, checkRd R) := if_pos hr
    have ho := open_bad R h1 hr
    rw [e]
    generalize checkRd R = q at *
    refine Fn.of_ex (cuts := []) tys hM Try.func18 rfl Try.call18 rfl ?_
    show exC Try.prog T [] _ false none 0 (entry 95 [ints R, ints c]) (finQ T [ResultVar.tmp 4, ResultVar.tmp 5, ResultVar.tmp 6] _)
    conv => whnf
    repeat' first | ((first | refine Ob.a ?_ | refine Sp.tt ?_ | refine Sp.ff ?_ | refine Sp.yes ?_ | refine Sp.no ?_ | refine Sp.nyes ?_ | refine Sp.nno ?_);conv=>whnf) | (refine Sp.ne (fun hc => ?_) (fun hc => ?_) <;> (conv=>whnf)) | (refine Sp.dec (fun hc => ?_) (fun hc => ?_) <;> (conv=>whnf)) | (refine Sp.ndec (fun hc => ?_) (fun hc => ?_) <;> (conv=>whnf)) | (refine Sp.mk (fun hc => ?_) (fun hc => ?_) <;> (conv=>whnf)) | (apply Cl.go;(conv=>whnf); (first | refine Ob.call (ho) ?_);(conv=>whnf)) | (refine Nx.mk (fun ka kb kx hx hs => ?_) (fun he => ?_) <;> (conv=>whnf)) | (refine Nx.mk (fun ka kx hx hs => ?_) (fun he => ?_) <;> (conv=>whnf)) | (refine Uk.mk (fun hn => ?_) ?_ <;> (conv=>whnf)) | (refine Ap.a ?_ ?_ <;> (conv=>whnf)) | (refine Fi.a ?_;conv=>whnf) | (refine Yl.a ?_ ?_ <;> (conv=>whnf)) | (refine Ob.b ?_;conv=>whnf)
    all_goals exact Lf
  have hR := checkRd_ok.1 hr
  have h12 := hR.l12
  have hl1 := hR.l1
  have hn : ¬ checkRd R ≠ 0 := not_not_intro hr
  have ho := open_ok R hR
  by_cases hl : c.length = R.length
  case neg =>
    have e : checkCurveR R c = (0, 0, 15) := by unfold checkCurveR; rw [if_neg hn, if_pos hl]
    rw [e]
    refine Fn.of_ex (cuts := []) tys hM Try.func18 rfl Try.call18 rfl ?_
    show exC Try.prog T [] _ false none 0 (entry 95 [ints R, ints c]) (finQ T [ResultVar.tmp 4, ResultVar.tmp 5, ResultVar.tmp 6] _)
    conv => whnf
    repeat' first | ((first | refine Ob.a ?_ | refine Sp.tt ?_ | refine Sp.ff ?_ | refine Sp.yes ?_ | refine Sp.no ?_ | refine Sp.nyes ?_ | refine Sp.nno ?_);conv=>whnf) | (refine Sp.ne (fun hc => ?_) (fun hc => ?_) <;> (conv=>whnf)) | (refine Sp.dec (fun hc => ?_) (fun hc => ?_) <;> (conv=>whnf)) | (refine Sp.ndec (fun hc => ?_) (fun hc => ?_) <;> (conv=>whnf)) | (refine Sp.mk (fun hc => ?_) (fun hc => ?_) <;> (conv=>whnf)) | (apply Cl.go;(conv=>whnf); (first | refine Ob.call (ho) ?_);(conv=>whnf)) | (refine Nx.mk (fun ka kb kx hx hs => ?_) (fun he => ?_) <;> (conv=>whnf)) | (refine Nx.mk (fun ka kx hx hs => ?_) (fun he => ?_) <;> (conv=>whnf)) | (refine Uk.mk (fun hn => ?_) ?_ <;> (conv=>whnf)) | (refine Ap.a ?_ ?_ <;> (conv=>whnf)) | (refine Fi.a ?_;conv=>whnf) | (refine Yl.a ?_ ?_ <;> (conv=>whnf)) | (refine Ob.b ?_;conv=>whnf)
    all_goals first | exact Lf | (exfalso; omega)
  have hw := within_spec 0 1000 c h2
  by_cases hc : ∀ x ∈ c, 0 ≤ x ∧ x ≤ 1000
  case neg =>
    have e : checkCurveR R c = (0, 0, 3) := by unfold checkCurveR; rw [if_neg hn, if_neg (not_not_intro hl), if_pos hc]
    rw [e]
    rw [decide_eq_false hc] at hw
    refine Fn.of_ex (cuts := []) tys hM Try.func18 rfl Try.call18 rfl ?_
    show exC Try.prog T [] _ false none 0 (entry 95 [ints R, ints c]) (finQ T [ResultVar.tmp 4, ResultVar.tmp 5, ResultVar.tmp 6] _)
    conv => whnf
    repeat' first | ((first | refine Ob.a ?_ | refine Sp.tt ?_ | refine Sp.ff ?_ | refine Sp.yes ?_ | refine Sp.no ?_ | refine Sp.nyes ?_ | refine Sp.nno ?_);conv=>whnf) | (refine Sp.ne (fun hc => ?_) (fun hc => ?_) <;> (conv=>whnf)) | (refine Sp.dec (fun hc => ?_) (fun hc => ?_) <;> (conv=>whnf)) | (refine Sp.ndec (fun hc => ?_) (fun hc => ?_) <;> (conv=>whnf)) | (refine Sp.mk (fun hc => ?_) (fun hc => ?_) <;> (conv=>whnf)) | (apply Cl.go;(conv=>whnf); (first | refine Ob.call (ho) ?_ | refine Ob.call (hw) ?_);(conv=>whnf)) | (refine Nx.mk (fun ka kb kx hx hs => ?_) (fun he => ?_) <;> (conv=>whnf)) | (refine Nx.mk (fun ka kx hx hs => ?_) (fun he => ?_) <;> (conv=>whnf)) | (refine Uk.mk (fun hn => ?_) ?_ <;> (conv=>whnf)) | (refine Ap.a ?_ ?_ <;> (conv=>whnf)) | (refine Fi.a ?_;conv=>whnf) | (refine Yl.a ?_ ?_ <;> (conv=>whnf)) | (refine Ob.b ?_;conv=>whnf)
    all_goals first | exact Lf | (exfalso; omega)
  rw [decide_eq_true hc] at hw
  have e : checkCurveR R c = if isQ c = false then ((0 : Int), (0 : Int), (21 : Int)) else (mostTo R c R.length, costTo R c R.length, (0 : Int)) := by
    unfold checkCurveR; rw [if_neg hn, if_neg (not_not_intro hl), if_neg (not_not_intro hc)]
  have hq1 : unim c → isQ c = true := isQ_iff.2
  have hq2 : ¬ unim c → isQ c = false := fun h => by
    cases hb : isQ c with
    | true => exact absurd (isQ_iff.1 hb) h
    | false => rfl
  have hcv : ∀ i : Int, 0 ≤ i → i < c.length → 0 ≤ c.getD i.toNat 0 ∧ c.getD i.toNat 0 ≤ 1000 := fun i i0 i1 => hc _ (getD_mem_int (by omega))
  have hof := fun i n a b => off_spec R i n hR a b
  have hm0 : ∀ i : Int, 0 ≤ i → i < R.length → mostTo R c (i + 1).toNat = max (mostTo R c i.toNat) (ab (R.getD i.toNat 0) (c.getD i.toNat 0)) := fun i i0 i1 => by
    rw [show (i + 1).toNat = i.toNat + 1 by omega]; rfl
  have hs0 : ∀ i : Int, 0 ≤ i → i < R.length → costTo R c (i + 1).toNat = costTo R c i.toNat + ab (R.getD i.toNat 0) (c.getD i.toNat 0) := fun i i0 i1 => by
    rw [show (i + 1).toNat = i.toNat + 1 by omega]; rfl
  have hmr := mostTo_rng hR hc hl
  have hcr := costTo_rng hR hc hl
  rw [e]
  clear e
  refine Fn.of_ex (cuts := []) tys hM Try.func18 rfl Try.call18 rfl ?_
  show exC Try.prog T [] _ false none 0 (entry 95 [ints R, ints c]) (finQ T [ResultVar.tmp 4, ResultVar.tmp 5, ResultVar.tmp 6] _)
  conv => whnf
  repeat' first | ((first | refine Ob.a ?_ | refine Sp.tt ?_ | refine Sp.ff ?_ | refine Sp.yes ?_ | refine Sp.no ?_ | refine Sp.nyes ?_ | refine Sp.nno ?_);conv=>whnf) | (refine Sp.ne (fun hc => ?_) (fun hc => ?_) <;> (conv=>whnf)) | (refine Sp.dec (fun hc => ?_) (fun hc => ?_) <;> (conv=>whnf)) | (refine Sp.ndec (fun hc => ?_) (fun hc => ?_) <;> (conv=>whnf)) | (refine Sp.mk (fun hc => ?_) (fun hc => ?_) <;> (conv=>whnf)) | (apply Cl.go;(conv=>whnf); (first | refine Ob.call (ho) ?_ | refine Ob.call (hw) ?_);(conv=>whnf)) | (refine Nx.mk (fun ka kb kx hx hs => ?_) (fun he => ?_) <;> (conv=>whnf)) | (refine Nx.mk (fun ka kx hx hs => ?_) (fun he => ?_) <;> (conv=>whnf)) | (refine Uk.mk (fun hn => ?_) ?_ <;> (conv=>whnf)) | (refine Ap.a ?_ ?_ <;> (conv=>whnf)) | (refine Fi.a ?_;conv=>whnf) | (refine Yl.a ?_ ?_ <;> (conv=>whnf)) | (refine Ob.b ?_;conv=>whnf)
  refine Lp.snap [0, 1, 7, 11, 12, 13, 14, 15, 37, 68, 69, 70, 71, 72, 73, 74, 75, 77, 78, 79, 80, 81, 82, 83, 84, 85, 86, 87, 88, 89, 90, 91, 92, 93, 94] 100 ?_
  (conv=>whnf)
  refine LpB.go 95 ({i : Int // (0 ≤ i ∧ i ≤ c.length - 1) ∧ WellTo c i.toNat}) 0 (fun ⟨i, _⟩ nx => ([(38, .d (int i)), (9, .d (bool (fallB c i.toNat)))], [])) (fun p => (c.length - p.1).toNat) (⟨0, ⟨by omega, by omega⟩, well_zero c⟩) ?_ ?_
  · rintro ⟨i, ⟨i0, i1⟩, hwl⟩
    by_cases hi : i < c.length - 1
    · have v1 := hcv i i0 (by omega)
      have v2 := hcv (i + 1) (by omega) (by omega)
      have hbad : fallB c i.toNat = true → c.getD i.toNat 0 < c.getD (i + 1).toNat 0 → isQ c = false := fun h3 h4 => hq2 (fall_bad (i := i.toNat) (by omega) h3 (by rw [show i.toNat + 1 = (i + 1).toNat by omega]; exact h4))
      have hgood : ¬ (fallB c i.toNat = true ∧ c.getD i.toNat 0 < c.getD (i + 1).toNat 0) → WellTo c (i + 1).toNat := fun h => by
        rw [show (i + 1).toNat = i.toNat + 1 by omega]
        refine well_succ hwl fun h3 => h ⟨h3.1, ?_⟩
        rw [show (i + 1).toNat = i.toNat + 1 by omega]; exact h3.2
      have hst : (fallB c i.toNat || decide (c.getD (i + 1).toNat 0 < c.getD i.toNat 0)) = fallB c (i + 1).toNat := by
        rw [show (i + 1).toNat = i.toNat + 1 by omega]; rfl
      have hst1 : fallB c i.toNat = true → true = fallB c (i + 1).toNat := fun h => by rw [← hst, h]; rfl
      have hst2 : fallB c i.toNat = false → decide (c.getD (i + 1).toNat 0 < c.getD i.toNat 0) = fallB c (i + 1).toNat := fun h => by rw [← hst, h, Bool.false_or]
      clear hst
      by_cases hlt : c.getD i.toNat 0 < c.getD (i + 1).toNat 0
      · conv => whnf
        cases hg : fallB c i.toNat with
        | true =>
          have e := hbad hg hlt
          rw [if_pos e]
          repeat' first | ((first | refine Ob.a ?_ | refine Sp.tt ?_ | refine Sp.ff ?_ | refine Sp.yes ?_ | refine Sp.no ?_ | refine Sp.nyes ?_ | refine Sp.nno ?_);conv=>whnf) | (refine Sp.ne (fun hc => ?_) (fun hc => ?_) <;> (conv=>whnf)) | (refine Sp.dec (fun hc => ?_) (fun hc => ?_) <;> (conv=>whnf)) | (refine Sp.ndec (fun hc => ?_) (fun hc => ?_) <;> (conv=>whnf)) | (refine Sp.mk (fun hc => ?_) (fun hc => ?_) <;> (conv=>whnf)) | (refine Nx.mk (fun ka kb kx hx hs => ?_) (fun he => ?_) <;> (conv=>whnf)) | (refine Nx.mk (fun ka kx hx hs => ?_) (fun he => ?_) <;> (conv=>whnf)) | (refine Uk.mk (fun hn => ?_) ?_ <;> (conv=>whnf)) | (refine Ap.a ?_ ?_ <;> (conv=>whnf)) | (refine Fi.a ?_;conv=>whnf) | (refine Yl.a ?_ ?_ <;> (conv=>whnf)) | (refine Ob.b ?_;conv=>whnf)
          all_goals exact Lf
        | false =>
          have e := hgood (fun h => by rw [hg] at h; cases h.1)
          have e2 := hst2 hg
          clear hst1 hst2 hbad hgood
          repeat' first | ((first | refine Ob.a ?_ | refine Sp.tt ?_ | refine Sp.ff ?_ | refine Sp.yes ?_ | refine Sp.no ?_ | refine Sp.nyes ?_ | refine Sp.nno ?_);conv=>whnf) | (refine Sp.ne (fun hc => ?_) (fun hc => ?_) <;> (conv=>whnf)) | (refine Sp.dec (fun hc => ?_) (fun hc => ?_) <;> (conv=>whnf)) | (refine Sp.ndec (fun hc => ?_) (fun hc => ?_) <;> (conv=>whnf)) | (refine Sp.mk (fun hc => ?_) (fun hc => ?_) <;> (conv=>whnf)) | (refine Nx.mk (fun ka kb kx hx hs => ?_) (fun he => ?_) <;> (conv=>whnf)) | (refine Nx.mk (fun ka kx hx hs => ?_) (fun he => ?_) <;> (conv=>whnf)) | (refine Uk.mk (fun hn => ?_) ?_ <;> (conv=>whnf)) | (refine Ap.a ?_ ?_ <;> (conv=>whnf)) | (refine Fi.a ?_;conv=>whnf) | (refine Yl.a ?_ ?_ <;> (conv=>whnf)) | (refine Ob.b ?_;conv=>whnf)
          all_goals exact ⟨rfl, ⟨i + 1, ⟨by omega, by omega⟩, e⟩, Lf, by simp only; omega⟩
      · conv => whnf
        have e := hgood (fun h => hlt h.2)
        cases hg : fallB c i.toNat with
        | true =>
          have e2 := hst1 hg
          clear hst1 hst2 hbad hgood
          repeat' first | ((first | refine Ob.a ?_ | refine Sp.tt ?_ | refine Sp.ff ?_ | refine Sp.yes ?_ | refine Sp.no ?_ | refine Sp.nyes ?_ | refine Sp.nno ?_);conv=>whnf) | (refine Sp.ne (fun hc => ?_) (fun hc => ?_) <;> (conv=>whnf)) | (refine Sp.dec (fun hc => ?_) (fun hc => ?_) <;> (conv=>whnf)) | (refine Sp.ndec (fun hc => ?_) (fun hc => ?_) <;> (conv=>whnf)) | (refine Sp.mk (fun hc => ?_) (fun hc => ?_) <;> (conv=>whnf)) | (refine Nx.mk (fun ka kb kx hx hs => ?_) (fun he => ?_) <;> (conv=>whnf)) | (refine Nx.mk (fun ka kx hx hs => ?_) (fun he => ?_) <;> (conv=>whnf)) | (refine Uk.mk (fun hn => ?_) ?_ <;> (conv=>whnf)) | (refine Ap.a ?_ ?_ <;> (conv=>whnf)) | (refine Fi.a ?_;conv=>whnf) | (refine Yl.a ?_ ?_ <;> (conv=>whnf)) | (refine Ob.b ?_;conv=>whnf)
          all_goals exact ⟨rfl, ⟨i + 1, ⟨by omega, by omega⟩, e⟩, Lf, by simp only; omega⟩
        | false =>
          have e2 := hst2 hg
          clear hst1 hst2 hbad hgood
          repeat' first | ((first | refine Ob.a ?_ | refine Sp.tt ?_ | refine Sp.ff ?_ | refine Sp.yes ?_ | refine Sp.no ?_ | refine Sp.nyes ?_ | refine Sp.nno ?_);conv=>whnf) | (refine Sp.ne (fun hc => ?_) (fun hc => ?_) <;> (conv=>whnf)) | (refine Sp.dec (fun hc => ?_) (fun hc => ?_) <;> (conv=>whnf)) | (refine Sp.ndec (fun hc => ?_) (fun hc => ?_) <;> (conv=>whnf)) | (refine Sp.mk (fun hc => ?_) (fun hc => ?_) <;> (conv=>whnf)) | (refine Nx.mk (fun ka kb kx hx hs => ?_) (fun he => ?_) <;> (conv=>whnf)) | (refine Nx.mk (fun ka kx hx hs => ?_) (fun he => ?_) <;> (conv=>whnf)) | (refine Uk.mk (fun hn => ?_) ?_ <;> (conv=>whnf)) | (refine Ap.a ?_ ?_ <;> (conv=>whnf)) | (refine Fi.a ?_;conv=>whnf) | (refine Yl.a ?_ ?_ <;> (conv=>whnf)) | (refine Ob.b ?_;conv=>whnf)
          all_goals exact ⟨rfl, ⟨i + 1, ⟨by omega, by omega⟩, e⟩, Lf, by simp only; omega⟩
    · have e := hq1 (well_unim (by omega) (by rw [show c.length - 1 = i.toNat by omega]; exact hwl))
      rw [if_neg (by rw [e]; simp)]
      conv => whnf
      repeat' first | ((first | refine Ob.a ?_ | refine Sp.tt ?_ | refine Sp.ff ?_ | refine Sp.yes ?_ | refine Sp.no ?_ | refine Sp.nyes ?_ | refine Sp.nno ?_);conv=>whnf) | (refine Sp.ne (fun hc => ?_) (fun hc => ?_) <;> (conv=>whnf)) | (refine Sp.dec (fun hc => ?_) (fun hc => ?_) <;> (conv=>whnf)) | (refine Sp.ndec (fun hc => ?_) (fun hc => ?_) <;> (conv=>whnf)) | (refine Sp.mk (fun hc => ?_) (fun hc => ?_) <;> (conv=>whnf)) | (refine Nx.mk (fun ka kb kx hx hs => ?_) (fun he => ?_) <;> (conv=>whnf)) | (refine Nx.mk (fun ka kx hx hs => ?_) (fun he => ?_) <;> (conv=>whnf)) | (refine Uk.mk (fun hn => ?_) ?_ <;> (conv=>whnf)) | (refine Ap.a ?_ ?_ <;> (conv=>whnf)) | (refine Fi.a ?_;conv=>whnf) | (refine Yl.a ?_ ?_ <;> (conv=>whnf)) | (refine Ob.b ?_;conv=>whnf)
      refine Lp.snap [0, 1, 4, 5, 6, 11, 73, 74, 93, 94] 100 ?_
      (conv=>whnf)
      refine LpB.go 95 ({i : Int // 0 ≤ i ∧ i ≤ c.length}) 0 (fun ⟨i, _⟩ nx => ([(75, .d (int i)), (12, .d (int (mostTo R c i.toNat))), (13, .d (int (costTo R c i.toNat)))], [])) (fun p => (c.length - p.1).toNat) (⟨0, by omega, by omega⟩) ?_ ?_
      · rintro ⟨i, i0, i1⟩
        by_cases hi : i < c.length
        · have v1 := hcv i i0 hi
          have hof := hof i (c.getD i.toNat 0) ⟨i0, by omega⟩ ⟨by omega, by omega⟩
          have e1 := (hm0 i i0 (by omega)).symm
          have e2 := (hs0 i i0 (by omega)).symm
          have r1 := hmr i.toNat (by omega)
          have r2 := hcr i.toNat (by omega)
          have vR : 0 ≤ R.getD i.toNat 0 ∧ R.getD i.toNat 0 ≤ 1000 := hR.rng _ (getD_mem_int (by omega))
          have r3 : 0 ≤ ab (R.getD i.toNat 0) (c.getD i.toNat 0) ∧ ab (R.getD i.toNat 0) (c.getD i.toNat 0) ≤ 1000 := by unfold ab; omega
          generalize ab (R.getD i.toNat 0) (c.getD i.toNat 0) = d at *
          conv => whnf
          repeat' first | ((first | refine Ob.a ?_ | refine Sp.tt ?_ | refine Sp.ff ?_ | refine Sp.yes ?_ | refine Sp.no ?_ | refine Sp.nyes ?_ | refine Sp.nno ?_);conv=>whnf) | (refine Sp.ne (fun hc => ?_) (fun hc => ?_) <;> (conv=>whnf)) | (refine Sp.dec (fun hc => ?_) (fun hc => ?_) <;> (conv=>whnf)) | (refine Sp.ndec (fun hc => ?_) (fun hc => ?_) <;> (conv=>whnf)) | (refine Sp.mk (fun hc => ?_) (fun hc => ?_) <;> (conv=>whnf)) | (apply Cl.go;(conv=>whnf); (first | refine Ob.call (hof) ?_);(conv=>whnf)) | (refine Nx.mk (fun ka kb kx hx hs => ?_) (fun he => ?_) <;> (conv=>whnf)) | (refine Nx.mk (fun ka kx hx hs => ?_) (fun he => ?_) <;> (conv=>whnf)) | (refine Uk.mk (fun hn => ?_) ?_ <;> (conv=>whnf)) | (refine Ap.a ?_ ?_ <;> (conv=>whnf)) | (refine Fi.a ?_;conv=>whnf) | (refine Yl.a ?_ ?_ <;> (conv=>whnf)) | (refine Ob.b ?_;conv=>whnf)
          all_goals exact ⟨rfl, ⟨i + 1, by omega, by omega⟩, Lf, by simp only; omega⟩
        · have e1 : i.toNat = R.length := by omega
          conv => whnf
          rw [e1]
          repeat' first | ((first | refine Ob.a ?_ | refine Sp.tt ?_ | refine Sp.ff ?_ | refine Sp.yes ?_ | refine Sp.no ?_ | refine Sp.nyes ?_ | refine Sp.nno ?_);conv=>whnf) | (refine Sp.ne (fun hc => ?_) (fun hc => ?_) <;> (conv=>whnf)) | (refine Sp.dec (fun hc => ?_) (fun hc => ?_) <;> (conv=>whnf)) | (refine Sp.ndec (fun hc => ?_) (fun hc => ?_) <;> (conv=>whnf)) | (refine Sp.mk (fun hc => ?_) (fun hc => ?_) <;> (conv=>whnf)) | (refine Nx.mk (fun ka kb kx hx hs => ?_) (fun he => ?_) <;> (conv=>whnf)) | (refine Nx.mk (fun ka kx hx hs => ?_) (fun he => ?_) <;> (conv=>whnf)) | (refine Uk.mk (fun hn => ?_) ?_ <;> (conv=>whnf)) | (refine Ap.a ?_ ?_ <;> (conv=>whnf)) | (refine Fi.a ?_;conv=>whnf) | (refine Yl.a ?_ ?_ <;> (conv=>whnf)) | (refine Ob.b ?_;conv=>whnf)
          all_goals exact Lf
      · exact Lf
  · exact Lf
end Go.Px.Try

/-! Bp7 -/
namespace Go.Px.Try
open Go Go.Proofs Go.Px
set_option maxRecDepth 100000
/-- The greatest number. -/
def mxTo (l : List Int) : Nat → Int
  | 0 => l.getD 0 0
  | n + 1 => max (mxTo l n) (l.getD (n + 1) 0)
def mxL (l : List Int) : Int := mxTo l (l.length - 1)
theorem mxTo_le (l : List Int) : ∀ n j, j ≤ n → l.getD j 0 ≤ mxTo l n
  | 0, j, h => by obtain rfl : j = 0 := by omega
                  exact Int.le_refl _
  | n + 1, j, h => by
    rw [mxTo]
    by_cases e : j = n + 1
    · subst e; omega
    · have := mxTo_le l n j (by omega); omega
theorem mxTo_at (l : List Int) : ∀ n, ∃ j, j ≤ n ∧ l.getD j 0 = mxTo l n
  | 0 => ⟨0, Nat.le_refl _, rfl⟩
  | n + 1 => by
    rw [mxTo]
    obtain ⟨j, h1, h2⟩ := mxTo_at l n
    by_cases h : l.getD (n + 1) 0 ≤ mxTo l n
    · exact ⟨j, by omega, by omega⟩
    · exact ⟨n + 1, Nat.le_refl _, by omega⟩
/-- The first place of a number. -/
structure FirstAt (l : List Int) (x : Int) (t : Nat) : Prop where
  lt : t < l.length
  at' : l.getD t 0 = x
  no : ∀ j, j < t → l.getD j 0 ≠ x
theorem ex_first {l : List Int} {x : Int} {j : Nat} (hj : j < l.length) (h : l.getD j 0 = x) : ∃ t, FirstAt l x t := by
  induction j using Nat.strongRecOn with
  | ind j ih =>
    by_cases hn : ∃ i, i < j ∧ l.getD i 0 = x
    · obtain ⟨i, h1, h2⟩ := hn
      exact ih i h1 (by omega) h2
    · exact ⟨j, hj, h, fun i hi e => hn ⟨i, hi, e⟩⟩
theorem ex_top' {l : List Int} (h0 : 0 < l.length) : ∃ t, FirstAt l (mxL l) t ∧ IsTop l t := by
  obtain ⟨j, h1, h2⟩ := mxTo_at l (l.length - 1)
  obtain ⟨t, ht⟩ := ex_first (l := l) (x := mxL l) (j := j) (by omega) h2
  refine ⟨t, ht, ht.lt, fun i hi => ?_⟩
  show l.getD i 0 ≤ l.getD t 0
  rw [ht.at']
  exact mxTo_le l _ i (by omega)
set_option maxHeartbeats 4000000 in
theorem Max_spec (l : List Int) (h0 : 0 < l.length) (h1 : l.length < 1000000) : Fn Try.prog 76 [ints l] (int (mxL l)) := by
  have hs : ∀ i : Int, 1 ≤ i → i < l.length → max (mxTo l (i - 1).toNat) (l.getD i.toNat 0) = mxTo l (i + 1 - 1).toNat := fun i i0 i1 => by
    rw [show (i + 1 - 1).toNat = (i - 1).toNat + 1 by omega, mxTo, show (i - 1).toNat + 1 = i.toNat by omega]
  have hz : l.getD (Int.toNat 0) 0 = mxTo l (1 - 1 : Int).toNat := rfl
  have he : ∀ i : Int, 1 ≤ i → i ≤ l.length → ¬ i < l.length → mxTo l (i - 1).toNat = mxL l := fun i i0 i1 i2 => by
    show _ = mxTo l (l.length - 1); congr 1; omega
  generalize mxL l = r at *
  generalize mxTo l = M at *
  refine Fn.of_ex (cuts := []) tys hM Try.func76 rfl Try.call76 rfl ?_
  show exC Try.prog T [] _ false none 0 (entry 25 [ints l]) (finQ T [ResultVar.tmp 2] _)
  conv => whnf
  repeat' first | ((first | refine Ob.a ?_ | refine Sp.tt ?_ | refine Sp.ff ?_ | refine Sp.yes ?_ | refine Sp.no ?_ | refine Sp.nyes ?_ | refine Sp.nno ?_);conv=>whnf) | (refine Sp.ne (fun hc => ?_) (fun hc => ?_) <;> (conv=>whnf)) | (refine Sp.dec (fun hc => ?_) (fun hc => ?_) <;> (conv=>whnf)) | (refine Sp.ndec (fun hc => ?_) (fun hc => ?_) <;> (conv=>whnf)) | (refine Sp.mk (fun hc => ?_) (fun hc => ?_) <;> (conv=>whnf)) | (refine Nx.mk (fun ka kb kx hx hs => ?_) (fun he => ?_) <;> (conv=>whnf)) | (refine Nx.mk (fun ka kx hx hs => ?_) (fun he => ?_) <;> (conv=>whnf)) | (refine Uk.mk (fun hn => ?_) ?_ <;> (conv=>whnf)) | (refine Ap.a ?_ ?_ <;> (conv=>whnf)) | (refine Fi.a ?_;conv=>whnf) | (refine Yl.a ?_ ?_ <;> (conv=>whnf)) | (refine Ob.b ?_;conv=>whnf)
  refine Lp.snap [0, 2, 24] 100 ?_
  (conv=>whnf)
  refine LpB.go 25 ({i : Int // 1 ≤ i ∧ i ≤ l.length}) 0 (fun ⟨i, _⟩ nx => ([(4, .d (int i)), (3, .d (int (M (i - 1).toNat)))], [])) (fun p => (l.length - p.1).toNat) (⟨1, by omega, by omega⟩) ?_ ?_
  · rintro ⟨i, i0, i1⟩
    by_cases hi : i < l.length
    · have e := hs i i0 hi
      conv => whnf
      repeat' first | ((first | refine Ob.a ?_ | refine Sp.tt ?_ | refine Sp.ff ?_ | refine Sp.yes ?_ | refine Sp.no ?_ | refine Sp.nyes ?_ | refine Sp.nno ?_);conv=>whnf) | (refine Sp.ne (fun hc => ?_) (fun hc => ?_) <;> (conv=>whnf)) | (refine Sp.dec (fun hc => ?_) (fun hc => ?_) <;> (conv=>whnf)) | (refine Sp.ndec (fun hc => ?_) (fun hc => ?_) <;> (conv=>whnf)) | (refine Sp.mk (fun hc => ?_) (fun hc => ?_) <;> (conv=>whnf)) | (refine Nx.mk (fun ka kb kx hx hs => ?_) (fun he => ?_) <;> (conv=>whnf)) | (refine Nx.mk (fun ka kx hx hs => ?_) (fun he => ?_) <;> (conv=>whnf)) | (refine Uk.mk (fun hn => ?_) ?_ <;> (conv=>whnf)) | (refine Ap.a ?_ ?_ <;> (conv=>whnf)) | (refine Fi.a ?_;conv=>whnf) | (refine Yl.a ?_ ?_ <;> (conv=>whnf)) | (refine Ob.b ?_;conv=>whnf)
      all_goals exact ⟨rfl, ⟨i + 1, by omega, by omega⟩, Lf, by simp only; omega⟩
    · have e := he i i0 i1 hi
      conv => whnf
      repeat' first | ((first | refine Ob.a ?_ | refine Sp.tt ?_ | refine Sp.ff ?_ | refine Sp.yes ?_ | refine Sp.no ?_ | refine Sp.nyes ?_ | refine Sp.nno ?_);conv=>whnf) | (refine Sp.ne (fun hc => ?_) (fun hc => ?_) <;> (conv=>whnf)) | (refine Sp.dec (fun hc => ?_) (fun hc => ?_) <;> (conv=>whnf)) | (refine Sp.ndec (fun hc => ?_) (fun hc => ?_) <;> (conv=>whnf)) | (refine Sp.mk (fun hc => ?_) (fun hc => ?_) <;> (conv=>whnf)) | (refine Nx.mk (fun ka kb kx hx hs => ?_) (fun he => ?_) <;> (conv=>whnf)) | (refine Nx.mk (fun ka kx hx hs => ?_) (fun he => ?_) <;> (conv=>whnf)) | (refine Uk.mk (fun hn => ?_) ?_ <;> (conv=>whnf)) | (refine Ap.a ?_ ?_ <;> (conv=>whnf)) | (refine Fi.a ?_;conv=>whnf) | (refine Yl.a ?_ ?_ <;> (conv=>whnf)) | (refine Ob.b ?_;conv=>whnf)
      all_goals exact Lf
  · exact Lf
set_option maxHeartbeats 4000000 in
theorem Index_spec (l : List Int) (x : Int) (t : Nat) (ht : FirstAt l x t) (h1 : l.length < 1000000) : Fn Try.prog 75 [ints l, int x] (int t) := by
  have htl := ht.lt
  have h2 : l.getD (t : Int).toNat 0 = x := ht.at'
  have h3 : ∀ i : Int, 0 ≤ i → i < t → ¬ x = l.getD i.toNat 0 := fun i i0 i1 h => ht.no i.toNat (by omega) h.symm
  clear ht
  refine Fn.of_ex (cuts := []) tys hM Try.func75 rfl Try.call75 rfl ?_
  show exC Try.prog T [] _ false none 0 (entry 19 [ints l, int x]) (finQ T [ResultVar.tmp 4] _)
  conv => whnf
  repeat' first | ((first | refine Ob.a ?_ | refine Sp.tt ?_ | refine Sp.ff ?_ | refine Sp.yes ?_ | refine Sp.no ?_ | refine Sp.nyes ?_ | refine Sp.nno ?_);conv=>whnf) | (refine Sp.ne (fun hc => ?_) (fun hc => ?_) <;> (conv=>whnf)) | (refine Sp.dec (fun hc => ?_) (fun hc => ?_) <;> (conv=>whnf)) | (refine Sp.ndec (fun hc => ?_) (fun hc => ?_) <;> (conv=>whnf)) | (refine Sp.mk (fun hc => ?_) (fun hc => ?_) <;> (conv=>whnf)) | (refine Nx.mk (fun ka kb kx hx hs => ?_) (fun he => ?_) <;> (conv=>whnf)) | (refine Nx.mk (fun ka kx hx hs => ?_) (fun he => ?_) <;> (conv=>whnf)) | (refine Uk.mk (fun hn => ?_) ?_ <;> (conv=>whnf)) | (refine Ap.a ?_ ?_ <;> (conv=>whnf)) | (refine Fi.a ?_;conv=>whnf) | (refine Yl.a ?_ ?_ <;> (conv=>whnf)) | (refine Ob.b ?_;conv=>whnf)
  refine Lp.snap [0, 1, 7] 100 ?_
  (conv=>whnf)
  refine LpB.go 19 ({i : Int // 0 ≤ i ∧ i ≤ t}) 0 (fun ⟨i, _⟩ nx => ([(8, .d (int i))], [])) (fun p => (l.length - p.1).toNat) (⟨0, by omega, by omega⟩) ?_ ?_
  · rintro ⟨i, i0, i1⟩
    by_cases hi : i < t
    · have e := h3 i i0 hi
      conv => whnf
      repeat' first | ((first | refine Ob.a ?_ | refine Sp.tt ?_ | refine Sp.ff ?_ | refine Sp.yes ?_ | refine Sp.no ?_ | refine Sp.nyes ?_ | refine Sp.nno ?_);conv=>whnf) | (refine Sp.ne (fun hc => ?_) (fun hc => ?_) <;> (conv=>whnf)) | (refine Sp.dec (fun hc => ?_) (fun hc => ?_) <;> (conv=>whnf)) | (refine Sp.ndec (fun hc => ?_) (fun hc => ?_) <;> (conv=>whnf)) | (refine Sp.mk (fun hc => ?_) (fun hc => ?_) <;> (conv=>whnf)) | (refine Nx.mk (fun ka kb kx hx hs => ?_) (fun he => ?_) <;> (conv=>whnf)) | (refine Nx.mk (fun ka kx hx hs => ?_) (fun he => ?_) <;> (conv=>whnf)) | (refine Uk.mk (fun hn => ?_) ?_ <;> (conv=>whnf)) | (refine Ap.a ?_ ?_ <;> (conv=>whnf)) | (refine Fi.a ?_;conv=>whnf) | (refine Yl.a ?_ ?_ <;> (conv=>whnf)) | (refine Ob.b ?_;conv=>whnf)
      all_goals first | exact ⟨rfl, ⟨i + 1, by omega, by omega⟩, Lf, by simp only; omega⟩ | (exfalso; omega)
    · obtain rfl : i = t := by omega
      conv => whnf
      repeat' first | ((first | refine Ob.a ?_ | refine Sp.tt ?_ | refine Sp.ff ?_ | refine Sp.yes ?_ | refine Sp.no ?_ | refine Sp.nyes ?_ | refine Sp.nno ?_);conv=>whnf) | (refine Sp.ne (fun hc => ?_) (fun hc => ?_) <;> (conv=>whnf)) | (refine Sp.dec (fun hc => ?_) (fun hc => ?_) <;> (conv=>whnf)) | (refine Sp.ndec (fun hc => ?_) (fun hc => ?_) <;> (conv=>whnf)) | (refine Sp.mk (fun hc => ?_) (fun hc => ?_) <;> (conv=>whnf)) | (refine Nx.mk (fun ka kb kx hx hs => ?_) (fun he => ?_) <;> (conv=>whnf)) | (refine Nx.mk (fun ka kx hx hs => ?_) (fun he => ?_) <;> (conv=>whnf)) | (refine Uk.mk (fun hn => ?_) ?_ <;> (conv=>whnf)) | (refine Ap.a ?_ ?_ <;> (conv=>whnf)) | (refine Fi.a ?_;conv=>whnf) | (refine Yl.a ?_ ?_ <;> (conv=>whnf)) | (refine Ob.b ?_;conv=>whnf)
      all_goals first | exact Lf | (exfalso; omega)
  · exact Lf
end Go.Px.Try

/-! Bp8 -/
namespace Go.Px.Try
open Go Go.Proofs Go.Px
set_option maxRecDepth 100000
/-- Rows on the way: up to a place the readings less what may change; the greatest from the left; from the right. -/
def ev1 (R : List Int) (m : Int) (i j : Nat) : Int := if j < i then e0 R m j else 0
def ev2 (R : List Int) (m : Int) (i j : Nat) : Int := if j < i then upM R m j else e0 R m j
def ev3 (R : List Int) (m : Int) (t i j : Nat) : Int := if j < i then o1F R m t j else dnD R m t (R.length - 1 - j)
theorem upM_rng {R : List Int} {m : Int} (hR : RdOk R) (hm : 0 ≤ m) {i : Nat} (hi : i < R.length) : 0 ≤ upM R m i ∧ upM R m i ≤ 1000 := by
  obtain ⟨j, h1, h2⟩ := upM_at R m i
  have := hR.at' (i := j) (by omega)
  rw [h2]; unfold e0; omega
theorem o1F_rng {R : List Int} {m : Int} (hR : RdOk R) (hm : 0 ≤ m) {t i : Nat} (hi : i < R.length) : 0 ≤ o1F R m t i ∧ o1F R m t i ≤ 1000 := by
  unfold o1F
  split
  · exact upM_rng hR hm hi
  · have := hR.at' hi
    unfold e0; omega
theorem dnD_rng {R : List Int} {m : Int} (hR : RdOk R) (hm : 0 ≤ m) {t d : Nat} : 0 ≤ dnD R m t d ∧ dnD R m t d ≤ 1000 := by
  obtain ⟨i, h1, h2, h3⟩ := dnD_at R m t d
  have h0 := hR.pos
  rw [h3]; exact o1F_rng hR hm (by omega)
set_option maxHeartbeats 8000000 in
theorem even_spec (R : List Int) (m : Int) (t : Nat) (hR : RdOk R) (hm : 0 ≤ m ∧ m ≤ 1000) (ht : FirstAt R (mxL R) t) : Fn Try.prog 59 [cupD R, int m] (ints (evL R m t)) := by
  have h12 := hR.l12
  have hl0 := hR.pos
  have hX := Max_spec R hl0 (by omega)
  have hI := Index_spec R (mxL R) t ht (by omega)
  have htl := ht.lt
  generalize mxL R = mx at *
  clear ht
  have hv : ∀ i : Int, 0 ≤ i → i < R.length → 0 ≤ R.getD i.toNat 0 ∧ R.getD i.toNat 0 ≤ 1000 := fun i i0 i1 => hR.rng _ (getD_mem_int (by omega))
  have z1 : ∀ j, j < R.length → 0 = ev1 R m (Int.toNat 0) j := fun j hj => (if_neg (by omega)).symm
  have s1 : ∀ i : Int, 0 ≤ i → i < R.length → ∀ j, j < R.length → ev1 R m (i + 1).toNat j = if j = 0 + i.toNat then max 0 (R.getD i.toNat 0 - m) else ev1 R m i.toNat j := fun i i0 i1 j hj => by
    unfold ev1
    by_cases h : j = 0 + i.toNat
    · subst h; rw [if_pos rfl, if_pos (by omega), Nat.zero_add]; rfl
    · rw [if_neg h]
      by_cases h2 : j < i.toNat
      · rw [if_pos h2, if_pos (by omega)]
      · rw [if_neg h2, if_neg (by omega)]
  have z2 : ∀ i : Int, i ≤ R.length → ¬ i < R.length → ∀ j, j < R.length → ev1 R m i.toNat j = ev2 R m (Int.toNat 1) j := fun i i0 i1 j hj => by
    unfold ev1 ev2
    rw [if_pos (by omega)]
    by_cases h : j < Int.toNat 1
    · have : j = 0 := by
        have : Int.toNat 1 = 1 := rfl
        omega
      subst this; rw [if_pos h]; rfl
    · rw [if_neg h]
  have s2 : ∀ i : Int, 1 ≤ i → i ≤ t → ∀ j, j < R.length → ev2 R m (i + 1).toNat j = if j = 0 + i.toNat then max (ev2 R m i.toNat (0 + i.toNat)) (ev2 R m i.toNat (0 + (i - 1).toNat)) else ev2 R m i.toNat j := fun i i0 i1 j hj => by
    by_cases h : j = 0 + i.toNat
    · subst h; rw [if_pos rfl]
      unfold ev2
      rw [if_pos (by omega), if_neg (by omega), if_pos (by omega), Nat.zero_add, Nat.zero_add]
      obtain ⟨q, hq⟩ : ∃ q, i.toNat = q + 1 := ⟨i.toNat - 1, by omega⟩
      rw [show (i - 1).toNat = q by omega, hq]; rfl
    · rw [if_neg h]
      unfold ev2
      by_cases h2 : j < i.toNat
      · rw [if_pos h2, if_pos (by omega)]
      · rw [if_neg h2, if_neg (by omega)]
  have z3 : ∀ i : Int, i ≤ t + 1 → ¬ i ≤ t → ∀ j, j < R.length → ev2 R m i.toNat j = ev3 R m t ((R.length : Int) - 2 + 1).toNat j := fun i i0 i1 j hj => by
    have ho : ev2 R m i.toNat j = o1F R m t j := by
      unfold ev2 o1F
      by_cases h : j ≤ t
      · rw [if_pos h, if_pos (by omega)]
      · rw [if_neg h, if_neg (by omega)]
    rw [ho]
    unfold ev3
    by_cases h : j < ((R.length : Int) - 2 + 1).toNat
    · rw [if_pos h]
    · rw [if_neg h, show j = R.length - 1 by omega, show R.length - 1 - (R.length - 1) = 0 by omega]; rfl
  have s3 : ∀ i : Int, (t : Int) ≤ i → i ≤ (R.length : Int) - 2 → ∀ j, j < R.length → ev3 R m t (i - 1 + 1).toNat j = if j = 0 + i.toNat then max (ev3 R m t (i + 1).toNat (0 + i.toNat)) (ev3 R m t (i + 1).toNat (0 + (i + 1).toNat)) else ev3 R m t (i + 1).toNat j := fun i i0 i1 j hj => by
    by_cases h : j = 0 + i.toNat
    · subst h; rw [if_pos rfl]
      unfold ev3
      rw [if_neg (by omega), if_pos (by omega), if_neg (by omega), Nat.zero_add, Nat.zero_add, show R.length - 1 - i.toNat = (R.length - 1 - (i + 1).toNat) + 1 by omega, dnD, show R.length - 1 - (R.length - 1 - (i + 1).toNat + 1) = i.toNat by omega]
    · rw [if_neg h]
      unfold ev3
      by_cases h2 : j < (i - 1 + 1).toNat
      · rw [if_pos h2, if_pos (by omega)]
      · rw [if_neg h2, if_neg (by omega)]
  have hEl := evL_len R m t
  have s4 : ∀ i : Int, (t : Int) - 1 ≤ i → i < t → ∀ j, j < R.length → ev3 R m t (i + 1).toNat j = (evL R m t).getD j 0 := fun i i0 i1 j hj => by
    have : (evL R m t).getD j 0 = evF R m t j := evL_at hj
    rw [this]
    unfold ev3 evF o1F
    by_cases h : j < t
    · rw [if_pos (by omega), if_pos (by omega), if_pos h]
    · rw [if_neg (by omega), if_neg h]
  generalize evL R m t = fin at *
  generalize ev1 R m = X1 at *
  generalize ev2 R m = X2 at *
  generalize ev3 R m t = X3 at *
  refine Fn.of_ex (cuts := []) tys hM Try.func59 rfl Try.call59 rfl ?_
  show exC Try.prog T [] _ false none 0 (entry 90 [cupD R, int m]) (finQ T [ResultVar.tmp 4] _)
  conv => whnf
  repeat' first | ((first | refine Ob.a ?_ | refine Sp.tt ?_ | refine Sp.ff ?_ | refine Sp.yes ?_ | refine Sp.no ?_ | refine Sp.nyes ?_ | refine Sp.nno ?_);conv=>whnf) | (refine Sp.ne (fun hc => ?_) (fun hc => ?_) <;> (conv=>whnf)) | (refine Sp.dec (fun hc => ?_) (fun hc => ?_) <;> (conv=>whnf)) | (refine Sp.ndec (fun hc => ?_) (fun hc => ?_) <;> (conv=>whnf)) | (refine Sp.mk (fun hc => ?_) (fun hc => ?_) <;> (conv=>whnf)) | (apply Cl.go;(conv=>whnf); (first | refine Ob.call (hX) ?_ | refine Ob.call (hI) ?_);(conv=>whnf)) | (refine Nx.mk (fun ka kb kx hx hs => ?_) (fun he => ?_) <;> (conv=>whnf)) | (refine Nx.mk (fun ka kx hx hs => ?_) (fun he => ?_) <;> (conv=>whnf)) | (refine Uk.mk (fun hn => ?_) ?_ <;> (conv=>whnf)) | (refine Ap.a ?_ ?_ <;> (conv=>whnf)) | (refine Fi.a ?_;conv=>whnf) | (refine Yl.a ?_ ?_ <;> (conv=>whnf)) | (refine Ob.b ?_;conv=>whnf)
  refine Lp.snap [0, 1, 4, 5, 6, 7, 10, 11, 36, 37, 51, 52, 54, 55, 56, 57, 58, 59, 60, 61, 62, 63, 64, 65, 66, 67, 68, 69, 70, 71, 72, 74, 75, 76, 77, 78, 79, 80, 81, 82, 83, 84, 85, 86, 87, 88, 89] 100 ?_
  (conv=>whnf)
  refine LpB.go 90 ({i : Int // 0 ≤ i ∧ i ≤ R.length}) 0 (fun ⟨i, _⟩ nx => ([(38, .d (int i))], [(22, .row true 2 1 R.length (rowF (X1 i.toNat)))])) (fun p => (R.length - p.1).toNat) (⟨0, by omega, by omega⟩) ?_ ?_
  · rintro ⟨i, i0, i1⟩
    by_cases hi : i < R.length
    · have v1 := hv i i0 hi
      have e := s1 i i0 hi
      conv => whnf
      repeat' first | ((first | refine Ob.a ?_ | refine Sp.tt ?_ | refine Sp.ff ?_ | refine Sp.yes ?_ | refine Sp.no ?_ | refine Sp.nyes ?_ | refine Sp.nno ?_);conv=>whnf) | (refine Sp.ne (fun hc => ?_) (fun hc => ?_) <;> (conv=>whnf)) | (refine Sp.dec (fun hc => ?_) (fun hc => ?_) <;> (conv=>whnf)) | (refine Sp.ndec (fun hc => ?_) (fun hc => ?_) <;> (conv=>whnf)) | (refine Sp.mk (fun hc => ?_) (fun hc => ?_) <;> (conv=>whnf)) | (refine Nx.mk (fun ka kb kx hx hs => ?_) (fun he => ?_) <;> (conv=>whnf)) | (refine Nx.mk (fun ka kx hx hs => ?_) (fun he => ?_) <;> (conv=>whnf)) | (refine Uk.mk (fun hn => ?_) ?_ <;> (conv=>whnf)) | (refine Ap.a ?_ ?_ <;> (conv=>whnf)) | (refine Fi.a ?_;conv=>whnf) | (refine Yl.a ?_ ?_ <;> (conv=>whnf)) | (refine Ob.b ?_;conv=>whnf)
      all_goals exact ⟨rfl, ⟨i + 1, by omega, by omega⟩, Lf, by simp only; omega⟩
    · have z2 := z2 i i1 hi
      conv => whnf
      repeat' first | ((first | refine Ob.a ?_ | refine Sp.tt ?_ | refine Sp.ff ?_ | refine Sp.yes ?_ | refine Sp.no ?_ | refine Sp.nyes ?_ | refine Sp.nno ?_);conv=>whnf) | (refine Sp.ne (fun hc => ?_) (fun hc => ?_) <;> (conv=>whnf)) | (refine Sp.dec (fun hc => ?_) (fun hc => ?_) <;> (conv=>whnf)) | (refine Sp.ndec (fun hc => ?_) (fun hc => ?_) <;> (conv=>whnf)) | (refine Sp.mk (fun hc => ?_) (fun hc => ?_) <;> (conv=>whnf)) | (refine Nx.mk (fun ka kb kx hx hs => ?_) (fun he => ?_) <;> (conv=>whnf)) | (refine Nx.mk (fun ka kx hx hs => ?_) (fun he => ?_) <;> (conv=>whnf)) | (refine Uk.mk (fun hn => ?_) ?_ <;> (conv=>whnf)) | (refine Ap.a ?_ ?_ <;> (conv=>whnf)) | (refine Fi.a ?_;conv=>whnf) | (refine Yl.a ?_ ?_ <;> (conv=>whnf)) | (refine Ob.b ?_;conv=>whnf)
      refine Lp.snap [0, 1, 4, 5, 6, 7, 11, 69, 70, 71, 72, 74, 75, 76, 77, 78, 79, 80, 81, 82, 83, 84, 85, 86, 87, 88, 89] 100 ?_
      (conv=>whnf)
      refine LpB.go 90 ({i : Int // 1 ≤ i ∧ i ≤ t + 1}) 0 (fun ⟨i, _⟩ nx => ([(10, .d (int i))], [(22, .row true 2 1 R.length (rowF (X2 i.toNat)))])) (fun p => (t + 1 - p.1).toNat) (⟨1, by omega, by omega⟩) ?_ ?_
      · rintro ⟨i, i0, i1⟩
        by_cases hi : i ≤ t
        · have e := s2 i i0 hi
          conv => whnf
          repeat' first | ((first | refine Ob.a ?_ | refine Sp.tt ?_ | refine Sp.ff ?_ | refine Sp.yes ?_ | refine Sp.no ?_ | refine Sp.nyes ?_ | refine Sp.nno ?_);conv=>whnf) | (refine Sp.ne (fun hc => ?_) (fun hc => ?_) <;> (conv=>whnf)) | (refine Sp.dec (fun hc => ?_) (fun hc => ?_) <;> (conv=>whnf)) | (refine Sp.ndec (fun hc => ?_) (fun hc => ?_) <;> (conv=>whnf)) | (refine Sp.mk (fun hc => ?_) (fun hc => ?_) <;> (conv=>whnf)) | (refine Nx.mk (fun ka kb kx hx hs => ?_) (fun he => ?_) <;> (conv=>whnf)) | (refine Nx.mk (fun ka kx hx hs => ?_) (fun he => ?_) <;> (conv=>whnf)) | (refine Uk.mk (fun hn => ?_) ?_ <;> (conv=>whnf)) | (refine Ap.a ?_ ?_ <;> (conv=>whnf)) | (refine Fi.a ?_;conv=>whnf) | (refine Yl.a ?_ ?_ <;> (conv=>whnf)) | (refine Ob.b ?_;conv=>whnf)
          all_goals exact ⟨rfl, ⟨i + 1, by omega, by omega⟩, Lf, by simp only; omega⟩
        · have z3 := z3 i i1 hi
          conv => whnf
          repeat' first | ((first | refine Ob.a ?_ | refine Sp.tt ?_ | refine Sp.ff ?_ | refine Sp.yes ?_ | refine Sp.no ?_ | refine Sp.nyes ?_ | refine Sp.nno ?_);conv=>whnf) | (refine Sp.ne (fun hc => ?_) (fun hc => ?_) <;> (conv=>whnf)) | (refine Sp.dec (fun hc => ?_) (fun hc => ?_) <;> (conv=>whnf)) | (refine Sp.ndec (fun hc => ?_) (fun hc => ?_) <;> (conv=>whnf)) | (refine Sp.mk (fun hc => ?_) (fun hc => ?_) <;> (conv=>whnf)) | (refine Nx.mk (fun ka kb kx hx hs => ?_) (fun he => ?_) <;> (conv=>whnf)) | (refine Nx.mk (fun ka kx hx hs => ?_) (fun he => ?_) <;> (conv=>whnf)) | (refine Uk.mk (fun hn => ?_) ?_ <;> (conv=>whnf)) | (refine Ap.a ?_ ?_ <;> (conv=>whnf)) | (refine Fi.a ?_;conv=>whnf) | (refine Yl.a ?_ ?_ <;> (conv=>whnf)) | (refine Ob.b ?_;conv=>whnf)
          refine Lp.snap [0, 1, 4, 6, 7, 89] 100 ?_
          (conv=>whnf)
          refine LpB.go 90 ({i : Int // (t : Int) - 1 ≤ i ∧ i ≤ (R.length : Int) - 2}) 0 (fun ⟨i, _⟩ nx => ([(11, .d (int i))], [(22, .row true 2 1 R.length (rowF (X3 (i + 1).toNat)))])) (fun p => (p.1 + 1).toNat) (⟨(R.length : Int) - 2, by omega, by omega⟩) ?_ ?_
          · rintro ⟨k, k0, k1⟩
            by_cases hk : k < t
            · have e := s4 k k0 hk
              conv => whnf
              repeat' first | ((first | refine Ob.a ?_ | refine Sp.tt ?_ | refine Sp.ff ?_ | refine Sp.yes ?_ | refine Sp.no ?_ | refine Sp.nyes ?_ | refine Sp.nno ?_);conv=>whnf) | (refine Sp.ne (fun hc => ?_) (fun hc => ?_) <;> (conv=>whnf)) | (refine Sp.dec (fun hc => ?_) (fun hc => ?_) <;> (conv=>whnf)) | (refine Sp.ndec (fun hc => ?_) (fun hc => ?_) <;> (conv=>whnf)) | (refine Sp.mk (fun hc => ?_) (fun hc => ?_) <;> (conv=>whnf)) | (refine Nx.mk (fun ka kb kx hx hs => ?_) (fun he => ?_) <;> (conv=>whnf)) | (refine Nx.mk (fun ka kx hx hs => ?_) (fun he => ?_) <;> (conv=>whnf)) | (refine Uk.mk (fun hn => ?_) ?_ <;> (conv=>whnf)) | (refine Ap.a ?_ ?_ <;> (conv=>whnf)) | (refine Fi.a ?_;conv=>whnf) | (refine Yl.a ?_ ?_ <;> (conv=>whnf)) | (refine Ob.b ?_;conv=>whnf)
              all_goals exact Lf
            · have e := s3 k (by omega) k1
              conv => whnf
              repeat' first | ((first | refine Ob.a ?_ | refine Sp.tt ?_ | refine Sp.ff ?_ | refine Sp.yes ?_ | refine Sp.no ?_ | refine Sp.nyes ?_ | refine Sp.nno ?_);conv=>whnf) | (refine Sp.ne (fun hc => ?_) (fun hc => ?_) <;> (conv=>whnf)) | (refine Sp.dec (fun hc => ?_) (fun hc => ?_) <;> (conv=>whnf)) | (refine Sp.ndec (fun hc => ?_) (fun hc => ?_) <;> (conv=>whnf)) | (refine Sp.mk (fun hc => ?_) (fun hc => ?_) <;> (conv=>whnf)) | (refine Nx.mk (fun ka kb kx hx hs => ?_) (fun he => ?_) <;> (conv=>whnf)) | (refine Nx.mk (fun ka kx hx hs => ?_) (fun he => ?_) <;> (conv=>whnf)) | (refine Uk.mk (fun hn => ?_) ?_ <;> (conv=>whnf)) | (refine Ap.a ?_ ?_ <;> (conv=>whnf)) | (refine Fi.a ?_;conv=>whnf) | (refine Yl.a ?_ ?_ <;> (conv=>whnf)) | (refine Ob.b ?_;conv=>whnf)
              all_goals exact ⟨rfl, ⟨k - 1, by omega, by omega⟩, Lf, by simp only; omega⟩
          · exact Lf
      · exact Lf
  · have e := z1
    conv => whnf
    repeat' first | (refine Edge.fast ?_) | ((conv=>whnf); first | exact True.intro | (refine And.intro ?_ ?_) | exact rfl | exact Nat.le_of_eq (Nat.zero_add _) | exact ImpS.refl _ | ((conv => arg 1; whnf); first | exact ImpS.refl _ | (refine ImpS.nil_eq ?_) | (refine ImpS.vnil_eq ?_) | (refine ImpS.row ?_) | (refine ImpS.rowN ?_ ?_) | (refine ImpS.sl_eq ?_) | (refine ImpS.expl rfl ?_)) | (refine row_snoc' ?_) | exact MImp.refl _ | exact cimp_none | exact cimp_same | exact List.not_mem_nil | exact DImp.refl _) | exact rfl | (refine And.intro ?_ ?_) | exact ImpS.refl _
    refine rowF_const (x := 0) ?_ e
    exact Lf
end Go.Px.Try

/-! Bp9 -/
namespace Go.Px.Try
open Go Go.Proofs Go.Px
set_option maxRecDepth 100000
/-- A curve that is well formed. -/
structure CvOk (R c : List Int) : Prop where
  len : c.length = R.length
  un : unim c
  rng : ∀ x ∈ c, 0 ≤ x ∧ x ≤ 1000
theorem EvenP_bad (R : List Int) (h1 : R.length < 1000000) (hr : checkRd R ≠ 0) : Fn Try.prog 24 [ints R] (tpl [int 0, ints [], int (checkRd R)]) := by
  have ho := open_bad R h1 hr
  generalize checkRd R = q at *
  refine Fn.of_ex (cuts := []) tys hM Try.func24 rfl Try.call24 rfl ?_
  show exC Try.prog T [] _ false none 0 (entry 36 [ints R]) (finQ T [ResultVar.tmp 2, ResultVar.tmp 3, ResultVar.tmp 4] _)
  conv => whnf
  repeat' first | ((first | refine Ob.a ?_ | refine Sp.tt ?_ | refine Sp.ff ?_ | refine Sp.yes ?_ | refine Sp.no ?_ | refine Sp.nyes ?_ | refine Sp.nno ?_);conv=>whnf) | (refine Sp.ne (fun hc => ?_) (fun hc => ?_) <;> (conv=>whnf)) | (refine Sp.dec (fun hc => ?_) (fun hc => ?_) <;> (conv=>whnf)) | (refine Sp.ndec (fun hc => ?_) (fun hc => ?_) <;> (conv=>whnf)) | (refine Sp.mk (fun hc => ?_) (fun hc => ?_) <;> (conv=>whnf)) | (apply Cl.go;(conv=>whnf); (first | refine Ob.call (ho) ?_);(conv=>whnf)) | (refine Nx.mk (fun ka kb kx hx hs => ?_) (fun he => ?_) <;> (conv=>whnf)) | (refine Nx.mk (fun ka kx hx hs => ?_) (fun he => ?_) <;> (conv=>whnf)) | (refine Uk.mk (fun hn => ?_) ?_ <;> (conv=>whnf)) | (refine Ap.a ?_ ?_ <;> (conv=>whnf)) | (refine Fi.a ?_;conv=>whnf) | (refine Yl.a ?_ ?_ <;> (conv=>whnf)) | (refine Ob.b ?_;conv=>whnf)
  all_goals exact Lf
theorem evL_ok {R : List Int} (hR : RdOk R) {t : Nat} (ht : IsTop R t) : CvOk R (evL R (evenN R) t) ∧ mostTo R (evL R (evenN R) t) R.length = evenN R := by
  refine ⟨⟨evL_len _ _ _, ⟨t, by rw [evL_len]; exact ht.1, even_atB R _ ht.1⟩, fun x hx => ?_⟩, even_ok ht hR.nn⟩
  obtain ⟨j, hj, rfl⟩ := mem_getD hx
  rw [evL_len] at hj
  have e : (evL R (evenN R) t).getD j 0 = evF R (evenN R) t j := evL_at hj
  rw [e]
  exact even_rng (evenN_nn R) (by omega) ht (fun i hi => (hR.at' hi).2) hj
set_option maxHeartbeats 4000000 in
theorem EvenP_spec (R : List Int) (hR : RdOk R) : ∃ c, CvOk R c ∧ mostTo R c R.length = evenN R ∧ Fn Try.prog 24 [ints R] (tpl [int (evenN R), ints c, int 0]) := by
  obtain ⟨t, h1, h2⟩ := ex_top' hR.pos
  obtain ⟨h3, h4⟩ := evL_ok hR h2
  refine ⟨evL R (evenN R) t, h3, h4, ?_⟩
  have h12 := hR.l12
  have ho := open_ok R hR
  have hd := deepest_spec R hR
  have hev := even_val hR.pos
  have hmx : 0 ≤ (valN R).2 ∧ (valN R).2 ≤ 1000 := vF_rng hR fun v hv => allV_lt hv
  have hdp : 0 < (valN R).2 → Fn Try.prog 56 [lineD R, valD (valN R).1] (int (valN R).2) := fun h => by
    have hm := (vF_max R (allV R.length)).2.2
    rcases hm with hm | ⟨hm1, hm2⟩
    · have : (valN R).2 = 0 := hm; omega
    · obtain ⟨w1, w2, w3⟩ := allV_lt hm1
      have := depthP_spec R ((valN R).1.a : Int) (valN R).1.b (valN R).1.c hR ⟨by omega, by show ((vF R (allV R.length)).1.a : Int) < _; omega⟩ ⟨by omega, by show ((vF R (allV R.length)).1.b : Int) < _; omega⟩ ⟨by omega, by show ((vF R (allV R.length)).1.c : Int) < _; omega⟩
      simp only [Int.toNat_natCast] at this
      have e : dep R (valN R).1.a (valN R).1.b (valN R).1.c = (valN R).2 := hm2
      rw [e] at this
      exact this
  have hE := even_spec R (evenN R) t hR ⟨by omega, by omega⟩ h1
  generalize evL R (evenN R) t = L at *
  generalize evenN R = m at *
  clear h3 h4
  generalize valN R = fin at *
  by_cases hc : 0 < fin.2
  · have hdp := hdp hc
    have e1 : (fin.2 + 1).tdiv 2 = m := by rw [Int.tdiv_eq_ediv_of_nonneg (by omega)]; omega
    rw [decide_eq_true hc] at hd
    refine Fn.of_ex (cuts := []) tys hM Try.func24 rfl Try.call24 rfl ?_
    show exC Try.prog T [] _ false none 0 (entry 36 [ints R]) (finQ T [ResultVar.tmp 2, ResultVar.tmp 3, ResultVar.tmp 4] _)
    conv => whnf
    repeat' first | ((first | refine Ob.a ?_ | refine Sp.tt ?_ | refine Sp.ff ?_ | refine Sp.yes ?_ | refine Sp.no ?_ | refine Sp.nyes ?_ | refine Sp.nno ?_);conv=>whnf) | (refine Sp.ne (fun hc => ?_) (fun hc => ?_) <;> (conv=>whnf)) | (refine Sp.dec (fun hc => ?_) (fun hc => ?_) <;> (conv=>whnf)) | (refine Sp.ndec (fun hc => ?_) (fun hc => ?_) <;> (conv=>whnf)) | (refine Sp.mk (fun hc => ?_) (fun hc => ?_) <;> (conv=>whnf)) | (apply Cl.go;(conv=>whnf); (first | refine Ob.call (ho) ?_ | refine Ob.call (hd) ?_ | refine Ob.call (hdp) ?_ | refine Ob.call (hE) ?_);(conv=>whnf)) | (refine Nx.mk (fun ka kb kx hx hs => ?_) (fun he => ?_) <;> (conv=>whnf)) | (refine Nx.mk (fun ka kx hx hs => ?_) (fun he => ?_) <;> (conv=>whnf)) | (refine Uk.mk (fun hn => ?_) ?_ <;> (conv=>whnf)) | (refine Ap.a ?_ ?_ <;> (conv=>whnf)) | (refine Fi.a ?_;conv=>whnf) | (refine Yl.a ?_ ?_ <;> (conv=>whnf)) | (refine Ob.b ?_;conv=>whnf)
    all_goals first | exact Lf
  · have e1 : m = 0 := by omega
    subst e1
    rw [decide_eq_false hc] at hd
    refine Fn.of_ex (cuts := []) tys hM Try.func24 rfl Try.call24 rfl ?_
    show exC Try.prog T [] _ false none 0 (entry 36 [ints R]) (finQ T [ResultVar.tmp 2, ResultVar.tmp 3, ResultVar.tmp 4] _)
    conv => whnf
    repeat' first | ((first | refine Ob.a ?_ | refine Sp.tt ?_ | refine Sp.ff ?_ | refine Sp.yes ?_ | refine Sp.no ?_ | refine Sp.nyes ?_ | refine Sp.nno ?_);conv=>whnf) | (refine Sp.ne (fun hc => ?_) (fun hc => ?_) <;> (conv=>whnf)) | (refine Sp.dec (fun hc => ?_) (fun hc => ?_) <;> (conv=>whnf)) | (refine Sp.ndec (fun hc => ?_) (fun hc => ?_) <;> (conv=>whnf)) | (refine Sp.mk (fun hc => ?_) (fun hc => ?_) <;> (conv=>whnf)) | (apply Cl.go;(conv=>whnf); (first | refine Ob.call (ho) ?_ | refine Ob.call (hd) ?_ | refine Ob.call (hE) ?_);(conv=>whnf)) | (refine Nx.mk (fun ka kb kx hx hs => ?_) (fun he => ?_) <;> (conv=>whnf)) | (refine Nx.mk (fun ka kx hx hs => ?_) (fun he => ?_) <;> (conv=>whnf)) | (refine Uk.mk (fun hn => ?_) ?_ <;> (conv=>whnf)) | (refine Ap.a ?_ ?_ <;> (conv=>whnf)) | (refine Fi.a ?_;conv=>whnf) | (refine Yl.a ?_ ?_ <;> (conv=>whnf)) | (refine Ob.b ?_;conv=>whnf)
    all_goals exact Lf
end Go.Px.Try

/-! Bm12 -/
namespace Go.Px.Try
open Go Go.Proofs Go.Px
section
variable (l K : List Int)
def dpL (i k : Nat) : Int := dpI (stepsOf K) l i k
def loL (i k : Nat) : Nat := lowA (dpL l K i) k
/-- Which number the curve has, from its end on. -/
def kA : Nat → Nat
  | 0 => riK l K
  | d + 1 => loL l K (l.length - 1 - d) (kA d)
def bkT (i k : Nat) : List Int := (List.range k).map fun j => (loL l K i j : Int)
def frT (i : Nat) : List (List Int) := (List.range i).map fun i => bkT l K i K.length
/-- The sums on the way. -/
def leF (i q : Nat) : Int := if q < K.length then dpL l K i q else 0
def nxF (i k q : Nat) : Int := if q < k then dpL l K (i + 1) q else 0
def cuF (i j : Nat) : Int := if i < j + 1 then (riC l K).getD j 0 else 0
end
theorem loL_le (l K : List Int) (i k : Nat) : loL l K i k ≤ k := lowA_le _ k
theorem loL_succ (l K : List Int) (i k : Nat) : loL l K i (k + 1) = if dpL l K i (k + 1) < dpL l K i (loL l K i k) then k + 1 else loL l K i k := rfl
theorem dpL_succ (l K : List Int) (i k : Nat) : dpL l K (i + 1) k = dpL l K i (loL l K i k) + ab (l.getD i 0) (K.getD k 0) := rfl
theorem dpL_zero (l K : List Int) (k : Nat) : dpL l K 0 k = 0 := rfl
theorem kA_lt {l K : List Int} (hK : 0 < K.length) : ∀ d, kA l K d < K.length
  | 0 => by
    have := lowA_le (dpI (stepsOf K) l l.length) (K.length - 1)
    show riK l K < K.length
    unfold riK; omega
  | d + 1 => by
    have h1 := kA_lt (l := l) hK d
    have h2 := loL_le l K (l.length - 1 - d) (kA l K d)
    rw [kA]; omega
theorem riC_walk (l K : List Int) : ∀ d, d ≤ l.length → ∃ T, riC l K = crI (stepsOf K) l (l.length - d) (kA l K d) ++ T
  | 0, _ => ⟨[], by rw [List.append_nil]; rfl⟩
  | d + 1, h => by
    obtain ⟨T, hT⟩ := riC_walk l K d (by omega)
    refine ⟨stepsOf K (kA l K d) :: T, ?_⟩
    rw [hT, show l.length - d = (l.length - (d + 1)) + 1 by omega, crI, List.append_assoc]
    have e : lowA (dpI (stepsOf K) l (l.length - (d + 1))) (kA l K d) = kA l K (d + 1) := by
      rw [kA, show l.length - 1 - d = l.length - (d + 1) by omega]; rfl
    rw [e]; rfl
theorem riC_at {l K : List Int} {d : Nat} (h : d < l.length) : (riC l K).getD (l.length - 1 - d) 0 = K.getD (kA l K d) 0 := by
  obtain ⟨T, hT⟩ := riC_walk l K d (by omega)
  rw [hT, show l.length - d = (l.length - 1 - d) + 1 by omega, crI, List.append_assoc]
  rw [List.getD_eq_getElem?_getD, List.getElem?_append_right (by rw [crI_len]; omega), crI_len, Nat.sub_self]
  rfl
theorem bkT_len (l K : List Int) (i k : Nat) : (bkT l K i k).length = k := by simp [bkT]
theorem bkT_succ (l K : List Int) (i k : Nat) : bkT l K i (k + 1) = bkT l K i k ++ [(loL l K i k : Int)] := by
  unfold bkT; rw [List.range_succ, List.map_append]; rfl
theorem bkT_at {l K : List Int} {i k j : Nat} (h : j < k) : (bkT l K i k).getD j 0 = loL l K i j := by
  unfold bkT
  rw [List.getD_eq_getElem?_getD, List.getElem?_map, List.getElem?_range h]; rfl
theorem frT_len (l K : List Int) (i : Nat) : (frT l K i).length = i := by simp [frT]
theorem frT_succ (l K : List Int) (i : Nat) : frT l K (i + 1) = frT l K i ++ [bkT l K i K.length] := by
  unfold frT; rw [List.range_succ, List.map_append]; rfl
theorem frT_at {l K : List Int} {i j : Nat} (h : j < i) : (frT l K i).getD j [] = bkT l K j K.length := by
  unfold frT
  rw [List.getD_eq_getElem?_getD, List.getElem?_map, List.getElem?_range h]; rfl
theorem dpL_rng {l K : List Int} (hl : ∀ x ∈ l, 0 ≤ x ∧ x ≤ 1000) (hK : ∀ x ∈ K, 0 ≤ x ∧ x ≤ 1000) : ∀ i k, i ≤ l.length → k < K.length → 0 ≤ dpL l K i k ∧ dpL l K i k ≤ 1000 * i
  | 0, _, _, _ => by simp [dpL, dpI]
  | i + 1, k, hi, hk => by
    have h1 := loL_le l K i k
    have ih := dpL_rng hl hK i (loL l K i k) (by omega) (by omega)
    have a1 := hl _ (getD_mem_int (l := l) (j := i) (by omega))
    have a2 := hK _ (getD_mem_int (l := K) (j := k) hk)
    rw [dpL_succ]
    unfold ab
    omega
theorem riC_len (l K : List Int) : (riC l K).length = l.length := crI_len ..
end Go.Px.Try

/-! Bp10 -/
namespace Go.Px.Try
open Go Go.Proofs Go.Px
set_option maxRecDepth 100000
/-- A path whose curve is one's own. -/
def pathA (n : Nat) (s : Int) : AV := .ag 2 fun j => match j with
  | 0 => .ms 0 1 0 n
  | _ => .d (int s)
def toNat' (i : Int) : Nat := (i + 1).toNat
set_option maxHeartbeats 32000000 in
theorem rise_spec (l : List Int) (h0 : 0 < l.length) (h1 : l.length ≤ 12) (hv : ∀ x ∈ l, 0 ≤ x ∧ x ≤ 1000) : FnF Try.prog 77 [ints l] 2 1 l.length (rowOf int 0 (riC l (stpL l))) (pathA l.length (riS l (stpL l))) := by
  have hV := Values_spec l
  have hS := Sorted_spec l h0 h1
  have hsl := sortI_len l
  have hC := Compact_spec (sortI l) (by omega) (by omega)
  obtain ⟨k0, k1⟩ := stp_len h0
  have hKv : ∀ x ∈ stpL l, 0 ≤ x ∧ x ≤ 1000 := fun x hx => hv x ((stp_ok h0).2 x |>.1 hx)
  rw [hsl, show cmpL (sortI l) = stpL l from rfl] at hC
  generalize stpL l = K at *
  have hdr : ∀ i k, i ≤ l.length → k < K.length → 0 ≤ dpL l K i k ∧ dpL l K i k ≤ 12000 := fun i k hi hk => by
    have := dpL_rng hv hKv i k hi hk
    omega
  have hlv : ∀ i : Int, 0 ≤ i → i < l.length → 0 ≤ l.getD i.toNat 0 ∧ l.getD i.toNat 0 ≤ 1000 := fun i i0 i1 => hv _ (getD_mem_int (by omega))
  have hkv : ∀ i : Int, 0 ≤ i → i < K.length → 0 ≤ K.getD (0 + i.toNat) 0 ∧ K.getD (0 + i.toNat) 0 ≤ 1000 := fun i i0 i1 => hKv _ (getD_mem_int (by omega))
  refine FnF.of_ex (cuts := []) tys hM Try.func77 rfl Try.call77 rfl ?_
  show exC Try.prog T [] _ false none 0 (entry 119 [ints l]) (finG T 0 [ResultVar.cell 2 87] _ _)
  conv => whnf
  repeat' first | ((first | refine Ob.a ?_ | refine Sp.tt ?_ | refine Sp.ff ?_ | refine Sp.yes ?_ | refine Sp.no ?_ | refine Sp.nyes ?_ | refine Sp.nno ?_);conv=>whnf) | (refine Sp.ne (fun hc => ?_) (fun hc => ?_) <;> (conv=>whnf)) | (refine Sp.dec (fun hc => ?_) (fun hc => ?_) <;> (conv=>whnf)) | (refine Sp.ndec (fun hc => ?_) (fun hc => ?_) <;> (conv=>whnf)) | (refine Sp.mk (fun hc => ?_) (fun hc => ?_) <;> (conv=>whnf)) | (apply Cl.ip;(conv=>whnf); (first | (refine Ob.ipX (hC) ?_ ?_ ?_ ?_ ?_;(focus (first | exact rfl | omega)); (focus exact Lf); (focus exact Lf); (focus exact Lf)));(conv=>whnf)) | (apply Cl.fr;(conv=>whnf); (first | (refine Ob.frX (hS) ?_ ?_ ?_;(focus exact Lf); (focus exact Lf)));(conv=>whnf)) | (apply Cl.go;(conv=>whnf); (first | refine Ob.call (hV) ?_);(conv=>whnf)) | (refine Nx.mk (fun ka kb kx hx hs => ?_) (fun he => ?_) <;> (conv=>whnf)) | (refine Nx.mk (fun ka kx hx hs => ?_) (fun he => ?_) <;> (conv=>whnf)) | (refine Uk.mk (fun hn => ?_) ?_ <;> (conv=>whnf)) | (refine Ap.a ?_ ?_ <;> (conv=>whnf)) | (refine Fi.a ?_;conv=>whnf) | (refine Yl.a ?_ ?_ <;> (conv=>whnf)) | (refine Ob.b ?_;conv=>whnf)
  clear hC hS hV hsl
  refine Lp.snap [0, 2, 3, 4, 13, 14, 15, 16, 26, 27, 75, 76, 77, 79, 80, 81, 82, 83, 84, 85, 87, 88, 89, 90, 91, 92, 93, 94, 95, 96, 97, 98, 99, 101, 102, 103, 104, 105, 106, 107, 108, 109, 110, 111, 112, 113, 114, 115, 116, 117, 118] 100 ?_
  (conv=>whnf)
  refine LpB.go 119 ({q : Int × List (List Int) // (0 ≤ q.1 ∧ q.1 ≤ l.length) ∧ q.2 = frT l K q.1.toNat}) 0 (fun ⟨(i, fr), _⟩ nx => ([(28, .d (int i)), (5, .ms 12 1 0 fr.length)], [(9, .row true 120 1 12 (rowF (leF l K i.toNat))), (12, .row true 37 1 fr.length (rowOf ints [] fr))])) (fun p => (l.length - p.1.1).toNat) (⟨(0, []), ⟨by simp, by simp⟩, rfl⟩) ?_ ?_
  · rintro ⟨⟨i, fr⟩, ⟨i0, i1⟩, hfr⟩
    simp only at i0 i1 hfr
    have hfl : fr.length = i.toNat := by rw [hfr]; exact frT_len ..
    by_cases hi : i < l.length
    · have hlv := hlv i i0 hi
      conv => whnf
      repeat' first | ((first | refine Ob.a ?_ | refine Sp.tt ?_ | refine Sp.ff ?_ | refine Sp.yes ?_ | refine Sp.no ?_ | refine Sp.nyes ?_ | refine Sp.nno ?_);conv=>whnf) | (refine Sp.ne (fun hc => ?_) (fun hc => ?_) <;> (conv=>whnf)) | (refine Sp.dec (fun hc => ?_) (fun hc => ?_) <;> (conv=>whnf)) | (refine Sp.ndec (fun hc => ?_) (fun hc => ?_) <;> (conv=>whnf)) | (refine Sp.mk (fun hc => ?_) (fun hc => ?_) <;> (conv=>whnf)) | (refine Nx.mk (fun ka kb kx hx hs => ?_) (fun he => ?_) <;> (conv=>whnf)) | (refine Nx.mk (fun ka kx hx hs => ?_) (fun he => ?_) <;> (conv=>whnf)) | (refine Uk.mk (fun hn => ?_) ?_ <;> (conv=>whnf)) | (refine Ap.a ?_ ?_ <;> (conv=>whnf)) | (refine Fi.a ?_;conv=>whnf) | (refine Yl.a ?_ ?_ <;> (conv=>whnf)) | (refine Ob.b ?_;conv=>whnf)
      · refine Lp.snap [0, 2, 3, 4, 5, 7, 8, 13, 14, 15, 16, 26, 27, 28, 30, 31, 32, 33, 35, 36, 37, 69, 70, 71, 72, 73, 74, 75, 76, 77, 79, 80, 81, 82, 83, 84, 85, 87, 88, 89, 90, 91, 92, 93, 94, 95, 96, 97, 98, 99, 101, 102, 103, 104, 105, 106, 107, 108, 109, 110, 111, 112, 113, 114, 115, 116, 117, 118] 100 ?_
        (conv=>whnf)
        refine LpB.go 119 ({q : Int × List Int // (0 ≤ q.1 ∧ q.1 ≤ K.length) ∧ q.2 = bkT l K i.toNat q.1.toNat}) 0 (fun ⟨(k, bk), _⟩ nx => ([(38, .d (int k)), (10, .d (int (loL l K i.toNat (k.toNat - 1)))), (9, .ms 23 1 0 bk.length)], [(17, .row true 120 1 12 (rowF (nxF l K i.toNat k.toNat))), (23, .row true 3 1 bk.length (rowOf int 0 bk))])) (fun p => (K.length - p.1.1).toNat) (⟨(0, []), ⟨by simp, by simp⟩, rfl⟩) ?_ ?_
        · rintro ⟨⟨k, bk⟩, ⟨k0, k1⟩, hbk⟩
          simp only at k0 k1 hbk
          have hbl : bk.length = k.toNat := by rw [hbk]; exact bkT_len ..
          by_cases hk : k < K.length
          · have hkv := hkv k k0 hk
            have hlo := loL_le l K i.toNat (k.toNat - 1)
            have hlo2 := loL_le l K i.toNat k.toNat
            have hr1 := hdr i.toNat k.toNat (by omega) (by omega)
            have hr2 := hdr i.toNat (loL l K i.toNat (k.toNat - 1)) (by omega) (by omega)
            have hr3 := hdr (i.toNat + 1) k.toNat (by omega) (by omega)
            have e1 : leF l K i.toNat (0 + k.toNat) = dpL l K i.toNat k.toNat := by unfold leF; rw [if_pos (by omega), Nat.zero_add]
            have e2 : leF l K i.toNat (0 + (loL l K i.toNat (k.toNat - 1) : Int).toNat) = dpL l K i.toNat (loL l K i.toNat (k.toNat - 1)) := by unfold leF; rw [if_pos (by omega), Nat.zero_add, Int.toNat_natCast]
            have e3 := dpL_succ l K i.toNat k.toNat
            have e4 := bkT_succ l K i.toNat k.toNat
            have e5 : (k + 1).toNat - 1 = k.toNat := by omega
            have e6 : (k + 1).toNat = k.toNat + 1 := by omega
            have hnx : ∀ v, v = dpL l K (i.toNat + 1) k.toNat → ∀ a, a < 12 → nxF l K i.toNat (k + 1).toNat a = if a = 0 + k.toNat then v else nxF l K i.toNat k.toNat a := fun v hv a _ => by
              rw [e6, hv]; unfold nxF
              by_cases h : a = 0 + k.toNat
              · rw [if_pos h, if_pos (by omega), h, Nat.zero_add]
              · rw [if_neg h]
                by_cases h2 : a < k.toNat
                · rw [if_pos h2, if_pos (by omega)]
                · rw [if_neg h2, if_neg (by omega)]
            have hll : loL l K i.toNat k.toNat = if dpL l K i.toNat k.toNat < dpL l K i.toNat (loL l K i.toNat (k.toNat - 1)) then k.toNat else loL l K i.toNat (k.toNat - 1) := by
              by_cases hz : k.toNat = 0
              · have h1 : loL l K i.toNat k.toNat = 0 := by omega
                have h2 : loL l K i.toNat (k.toNat - 1) = 0 := by omega
                rw [h1, h2, hz, if_neg (by omega)]
              · have := loL_succ l K i.toNat (k.toNat - 1)
                rwa [show k.toNat - 1 + 1 = k.toNat by omega] at this
            by_cases hc : dpL l K i.toNat k.toNat < dpL l K i.toNat (loL l K i.toNat (k.toNat - 1))
            · rw [if_pos hc] at hll
              have hnx := hnx (leF l K i.toNat (0 + k.toNat) + max (l.getD i.toNat 0 - K.getD (0 + k.toNat) 0) (K.getD (0 + k.toNat) 0 - l.getD i.toNat 0)) (by rw [e3, e1, hll, Nat.zero_add]; rfl)
              rw [hll, show ((k.toNat : Nat) : Int) = k by omega, ← e6] at e4
              have e7 : k = loL l K i.toNat ((k + 1).toNat - 1) := by rw [e5, hll]; omega
              rw [← hbk] at e4
              have e9 : leF l K i.toNat (0 + k.toNat) < leF l K i.toNat (0 + (loL l K i.toNat (k.toNat - 1) : Int).toNat) := by rw [e1, e2]; exact hc
              have e10 : 0 ≤ leF l K i.toNat (0 + k.toNat) ∧ leF l K i.toNat (0 + k.toNat) ≤ 12000 := by rw [e1]; omega
              clear hll e3 hr3 hr1 hr2
              conv => whnf
              repeat' first | ((first | refine Ob.a ?_ | refine Sp.tt ?_ | refine Sp.ff ?_ | refine Sp.yes ?_ | refine Sp.no ?_ | refine Sp.nyes ?_ | refine Sp.nno ?_);conv=>whnf) | (refine Sp.ne (fun hc => ?_) (fun hc => ?_) <;> (conv=>whnf)) | (refine Sp.dec (fun hc => ?_) (fun hc => ?_) <;> (conv=>whnf)) | (refine Sp.ndec (fun hc => ?_) (fun hc => ?_) <;> (conv=>whnf)) | (refine Sp.mk (fun hc => ?_) (fun hc => ?_) <;> (conv=>whnf)) | (refine Nx.mk (fun ka kb kx hx hs => ?_) (fun he => ?_) <;> (conv=>whnf)) | (refine Nx.mk (fun ka kx hx hs => ?_) (fun he => ?_) <;> (conv=>whnf)) | (refine Uk.mk (fun hn => ?_) ?_ <;> (conv=>whnf)) | (refine Ap.a ?_ ?_ <;> (conv=>whnf)) | (refine Fi.a ?_;conv=>whnf) | (refine Yl.a ?_ ?_ <;> (conv=>whnf)) | (refine Ob.b ?_;conv=>whnf)
              all_goals first | (exfalso; omega) | skip
              have e11 : bk.length + 1 = (bk ++ [k]).length := by rw [List.length_append, List.length_singleton]
              refine ⟨rfl, ⟨(k + 1, bk ++ [k]), ⟨by simp only; omega, by simp only; omega⟩, e4.symm⟩, ?_, by simp only; omega⟩
              conv => whnf
              repeat' first | (refine Edge.fast ?_) | ((conv=>whnf); first | exact True.intro | (refine And.intro ?_ ?_) | exact rfl | exact Nat.le_of_eq (Nat.zero_add _) | exact ImpS.refl _ | ((conv => arg 1; whnf); first | exact ImpS.refl _ | (refine ImpS.nil_eq ?_) | (refine ImpS.vnil_eq ?_) | (refine ImpS.row ?_) | (refine ImpS.rowN ?_ ?_) | (refine ImpS.sl_eq ?_) | (refine ImpS.expl rfl ?_)) | (refine row_snoc' ?_) | exact MImp.refl _ | exact cimp_none | exact cimp_same | exact List.not_mem_nil | exact DImp.refl _) | exact rfl | (refine And.intro ?_ ?_) | exact ImpS.refl _
              all_goals first | exact e7 | exact e11 | skip
              refine rowF_upd ?_ hnx
              exact Lf
            · rw [if_neg hc] at hll
              have hnx := hnx (leF l K i.toNat (0 + (loL l K i.toNat (k.toNat - 1) : Int).toNat) + max (l.getD i.toNat 0 - K.getD (0 + k.toNat) 0) (K.getD (0 + k.toNat) 0 - l.getD i.toNat 0)) (by rw [e3, e2, hll, Nat.zero_add]; rfl)
              rw [hll, ← e6] at e4
              have e7 : (loL l K i.toNat (k.toNat - 1) : Int) = loL l K i.toNat ((k + 1).toNat - 1) := by rw [e5, hll]
              rw [← hbk] at e4
              have e9 : ¬ leF l K i.toNat (0 + k.toNat) < leF l K i.toNat (0 + (loL l K i.toNat (k.toNat - 1) : Int).toNat) := by rw [e1, e2]; exact hc
              have e10 : 0 ≤ leF l K i.toNat (0 + (loL l K i.toNat (k.toNat - 1) : Int).toNat) ∧ leF l K i.toNat (0 + (loL l K i.toNat (k.toNat - 1) : Int).toNat) ≤ 12000 := by rw [e2]; omega
              clear hll e3 hr3 hr1 hr2
              conv => whnf
              repeat' first | ((first | refine Ob.a ?_ | refine Sp.tt ?_ | refine Sp.ff ?_ | refine Sp.yes ?_ | refine Sp.no ?_ | refine Sp.nyes ?_ | refine Sp.nno ?_);conv=>whnf) | (refine Sp.ne (fun hc => ?_) (fun hc => ?_) <;> (conv=>whnf)) | (refine Sp.dec (fun hc => ?_) (fun hc => ?_) <;> (conv=>whnf)) | (refine Sp.ndec (fun hc => ?_) (fun hc => ?_) <;> (conv=>whnf)) | (refine Sp.mk (fun hc => ?_) (fun hc => ?_) <;> (conv=>whnf)) | (refine Nx.mk (fun ka kb kx hx hs => ?_) (fun he => ?_) <;> (conv=>whnf)) | (refine Nx.mk (fun ka kx hx hs => ?_) (fun he => ?_) <;> (conv=>whnf)) | (refine Uk.mk (fun hn => ?_) ?_ <;> (conv=>whnf)) | (refine Ap.a ?_ ?_ <;> (conv=>whnf)) | (refine Fi.a ?_;conv=>whnf) | (refine Yl.a ?_ ?_ <;> (conv=>whnf)) | (refine Ob.b ?_;conv=>whnf)
              all_goals first | (exfalso; omega) | skip
              refine ⟨rfl, ⟨(k + 1, bk ++ [(loL l K i.toNat (k.toNat - 1) : Int)]), ⟨by simp only; omega, by simp only; omega⟩, e4.symm⟩, ?_, by simp only; omega⟩
              conv => whnf
              repeat' first | (refine Edge.fast ?_) | ((conv=>whnf); first | exact True.intro | (refine And.intro ?_ ?_) | exact rfl | exact Nat.le_of_eq (Nat.zero_add _) | exact ImpS.refl _ | ((conv => arg 1; whnf); first | exact ImpS.refl _ | (refine ImpS.nil_eq ?_) | (refine ImpS.vnil_eq ?_) | (refine ImpS.row ?_) | (refine ImpS.rowN ?_ ?_) | (refine ImpS.sl_eq ?_) | (refine ImpS.expl rfl ?_)) | (refine row_snoc' ?_) | exact MImp.refl _ | exact cimp_none | exact cimp_same | exact List.not_mem_nil | exact DImp.refl _) | exact rfl | (refine And.intro ?_ ?_) | exact ImpS.refl _
              all_goals first | exact e7 | (rw [List.length_append, List.length_singleton]; done) | skip
              refine rowF_upd ?_ hnx
              exact Lf
          · have ek : k = K.length := by omega
            subst ek
            have e1 := frT_succ l K i.toNat
            rw [Int.toNat_natCast] at hbk
            rw [← hbk, ← hfr, show i.toNat + 1 = (i + 1).toNat by omega] at e1
            have e2 : ∀ j, j < 12 → nxF l K i.toNat (K.length : Int).toNat j = leF l K (i + 1).toNat j := fun j _ => by
              rw [Int.toNat_natCast, show (i + 1).toNat = i.toNat + 1 by omega]; rfl
            conv => whnf
            repeat' first | ((first | refine Ob.a ?_ | refine Sp.tt ?_ | refine Sp.ff ?_ | refine Sp.yes ?_ | refine Sp.no ?_ | refine Sp.nyes ?_ | refine Sp.nno ?_);conv=>whnf) | (refine Sp.ne (fun hc => ?_) (fun hc => ?_) <;> (conv=>whnf)) | (refine Sp.dec (fun hc => ?_) (fun hc => ?_) <;> (conv=>whnf)) | (refine Sp.ndec (fun hc => ?_) (fun hc => ?_) <;> (conv=>whnf)) | (refine Sp.mk (fun hc => ?_) (fun hc => ?_) <;> (conv=>whnf)) | (refine Nx.mk (fun ka kb kx hx hs => ?_) (fun he => ?_) <;> (conv=>whnf)) | (refine Nx.mk (fun ka kx hx hs => ?_) (fun he => ?_) <;> (conv=>whnf)) | (refine Uk.mk (fun hn => ?_) ?_ <;> (conv=>whnf)) | (refine Ap.a ?_ ?_ <;> (conv=>whnf)) | (refine Fi.a ?_;conv=>whnf) | (refine Yl.a ?_ ?_ <;> (conv=>whnf)) | (refine Ob.b ?_;conv=>whnf)
            all_goals first | (exfalso; omega) | skip
            refine ⟨rfl, ⟨(i + 1, fr ++ [bk]), ⟨by simp only; omega, by simp only; omega⟩, e1.symm⟩, ?_, by simp only; omega⟩
            conv => whnf
            repeat' first | (refine Edge.fast ?_) | ((conv=>whnf); first | exact True.intro | (refine And.intro ?_ ?_) | exact rfl | exact Nat.le_of_eq (Nat.zero_add _) | exact ImpS.refl _ | ((conv => arg 1; whnf); first | exact ImpS.refl _ | (refine ImpS.nil_eq ?_) | (refine ImpS.vnil_eq ?_) | (refine ImpS.row ?_) | (refine ImpS.rowN ?_ ?_) | (refine ImpS.sl_eq ?_) | (refine ImpS.expl rfl ?_)) | (refine row_snoc' ?_) | exact MImp.refl _ | exact cimp_none | exact cimp_same | exact List.not_mem_nil | exact DImp.refl _) | exact rfl | (refine And.intro ?_ ?_) | exact ImpS.refl _
            all_goals first | (rw [List.length_append, List.length_singleton]; done) | skip
            intro j hj
            show CImp (int (nxF l K i.toNat (K.length : Int).toNat j)) (int (leF l K (i + 1).toNat j))
            rw [e2 j hj]; exact CImp.refl _
        · have z0 : ∀ j, nxF l K i.toNat (Int.toNat 0) j = 0 := fun j => if_neg (Nat.not_lt_zero j)
          have z1 : loL l K i.toNat ((Int.toNat 0) - 1) = 0 := rfl
          conv => whnf
          repeat' first | (refine Edge.fast ?_) | ((conv=>whnf); first | exact True.intro | (refine And.intro ?_ ?_) | exact rfl | exact Nat.le_of_eq (Nat.zero_add _) | exact ImpS.refl _ | ((conv => arg 1; whnf); first | exact ImpS.refl _ | (refine ImpS.nil_eq ?_) | (refine ImpS.vnil_eq ?_) | (refine ImpS.row ?_) | (refine ImpS.rowN ?_ ?_) | (refine ImpS.sl_eq ?_) | (refine ImpS.expl rfl ?_)) | (refine row_snoc' ?_) | exact MImp.refl _ | exact cimp_none | exact cimp_same | exact List.not_mem_nil | exact DImp.refl _) | exact rfl | (refine And.intro ?_ ?_) | exact ImpS.refl _
          all_goals try rw [z1]
          all_goals first | (intro j hj; show CImp (int 0) (int (nxF l K i.toNat (Int.toNat 0) j)); rw [z0]; exact CImp.refl _) | exact Lf
      · refine Lp.snap [0, 2, 3, 4, 5, 7, 8, 13, 14, 15, 16, 26, 27, 28, 30, 31, 32, 33, 35, 36, 37, 69, 70, 71, 72, 73, 74, 75, 76, 77, 79, 80, 81, 82, 83, 84, 85, 87, 88, 89, 90, 91, 92, 93, 94, 95, 96, 97, 98, 99, 101, 102, 103, 104, 105, 106, 107, 108, 109, 110, 111, 112, 113, 114, 115, 116, 117, 118] 100 ?_
        (conv=>whnf)
        refine LpB.go 119 ({q : Int × List Int // (0 ≤ q.1 ∧ q.1 ≤ K.length) ∧ q.2 = bkT l K i.toNat q.1.toNat}) 0 (fun ⟨(k, bk), _⟩ nx => ([(38, .d (int k)), (10, .d (int (loL l K i.toNat (k.toNat - 1)))), (9, .ms 21 1 0 bk.length)], [(17, .row true 120 1 12 (rowF (nxF l K i.toNat k.toNat))), (21, .row true 3 1 bk.length (rowOf int 0 bk))])) (fun p => (K.length - p.1.1).toNat) (⟨(0, []), ⟨by simp, by simp⟩, rfl⟩) ?_ ?_
        · rintro ⟨⟨k, bk⟩, ⟨k0, k1⟩, hbk⟩
          simp only at k0 k1 hbk
          have hbl : bk.length = k.toNat := by rw [hbk]; exact bkT_len ..
          by_cases hk : k < K.length
          · have hkv := hkv k k0 hk
            have hlo := loL_le l K i.toNat (k.toNat - 1)
            have hlo2 := loL_le l K i.toNat k.toNat
            have hr1 := hdr i.toNat k.toNat (by omega) (by omega)
            have hr2 := hdr i.toNat (loL l K i.toNat (k.toNat - 1)) (by omega) (by omega)
            have hr3 := hdr (i.toNat + 1) k.toNat (by omega) (by omega)
            have e1 : leF l K i.toNat (0 + k.toNat) = dpL l K i.toNat k.toNat := by unfold leF; rw [if_pos (by omega), Nat.zero_add]
            have e2 : leF l K i.toNat (0 + (loL l K i.toNat (k.toNat - 1) : Int).toNat) = dpL l K i.toNat (loL l K i.toNat (k.toNat - 1)) := by unfold leF; rw [if_pos (by omega), Nat.zero_add, Int.toNat_natCast]
            have e3 := dpL_succ l K i.toNat k.toNat
            have e4 := bkT_succ l K i.toNat k.toNat
            have e5 : (k + 1).toNat - 1 = k.toNat := by omega
            have e6 : (k + 1).toNat = k.toNat + 1 := by omega
            have hnx : ∀ v, v = dpL l K (i.toNat + 1) k.toNat → ∀ a, a < 12 → nxF l K i.toNat (k + 1).toNat a = if a = 0 + k.toNat then v else nxF l K i.toNat k.toNat a := fun v hv a _ => by
              rw [e6, hv]; unfold nxF
              by_cases h : a = 0 + k.toNat
              · rw [if_pos h, if_pos (by omega), h, Nat.zero_add]
              · rw [if_neg h]
                by_cases h2 : a < k.toNat
                · rw [if_pos h2, if_pos (by omega)]
                · rw [if_neg h2, if_neg (by omega)]
            have hll : loL l K i.toNat k.toNat = if dpL l K i.toNat k.toNat < dpL l K i.toNat (loL l K i.toNat (k.toNat - 1)) then k.toNat else loL l K i.toNat (k.toNat - 1) := by
              by_cases hz : k.toNat = 0
              · have h1 : loL l K i.toNat k.toNat = 0 := by omega
                have h2 : loL l K i.toNat (k.toNat - 1) = 0 := by omega
                rw [h1, h2, hz, if_neg (by omega)]
              · have := loL_succ l K i.toNat (k.toNat - 1)
                rwa [show k.toNat - 1 + 1 = k.toNat by omega] at this
            by_cases hc : dpL l K i.toNat k.toNat < dpL l K i.toNat (loL l K i.toNat (k.toNat - 1))
            · rw [if_pos hc] at hll
              have hnx := hnx (leF l K i.toNat (0 + k.toNat) + max (l.getD i.toNat 0 - K.getD (0 + k.toNat) 0) (K.getD (0 + k.toNat) 0 - l.getD i.toNat 0)) (by rw [e3, e1, hll, Nat.zero_add]; rfl)
              rw [hll, show ((k.toNat : Nat) : Int) = k by omega, ← e6] at e4
              have e7 : k = loL l K i.toNat ((k + 1).toNat - 1) := by rw [e5, hll]; omega
              rw [← hbk] at e4
              have e9 : leF l K i.toNat (0 + k.toNat) < leF l K i.toNat (0 + (loL l K i.toNat (k.toNat - 1) : Int).toNat) := by rw [e1, e2]; exact hc
              have e10 : 0 ≤ leF l K i.toNat (0 + k.toNat) ∧ leF l K i.toNat (0 + k.toNat) ≤ 12000 := by rw [e1]; omega
              clear hll e3 hr3 hr1 hr2
              conv => whnf
              repeat' first | ((first | refine Ob.a ?_ | refine Sp.tt ?_ | refine Sp.ff ?_ | refine Sp.yes ?_ | refine Sp.no ?_ | refine Sp.nyes ?_ | refine Sp.nno ?_);conv=>whnf) | (refine Sp.ne (fun hc => ?_) (fun hc => ?_) <;> (conv=>whnf)) | (refine Sp.dec (fun hc => ?_) (fun hc => ?_) <;> (conv=>whnf)) | (refine Sp.ndec (fun hc => ?_) (fun hc => ?_) <;> (conv=>whnf)) | (refine Sp.mk (fun hc => ?_) (fun hc => ?_) <;> (conv=>whnf)) | (refine Nx.mk (fun ka kb kx hx hs => ?_) (fun he => ?_) <;> (conv=>whnf)) | (refine Nx.mk (fun ka kx hx hs => ?_) (fun he => ?_) <;> (conv=>whnf)) | (refine Uk.mk (fun hn => ?_) ?_ <;> (conv=>whnf)) | (refine Ap.a ?_ ?_ <;> (conv=>whnf)) | (refine Fi.a ?_;conv=>whnf) | (refine Yl.a ?_ ?_ <;> (conv=>whnf)) | (refine Ob.b ?_;conv=>whnf)
              all_goals first | (exfalso; omega) | skip
              have e11 : bk.length + 1 = (bk ++ [k]).length := by rw [List.length_append, List.length_singleton]
              refine ⟨rfl, ⟨(k + 1, bk ++ [k]), ⟨by simp only; omega, by simp only; omega⟩, e4.symm⟩, ?_, by simp only; omega⟩
              conv => whnf
              repeat' first | (refine Edge.fast ?_) | ((conv=>whnf); first | exact True.intro | (refine And.intro ?_ ?_) | exact rfl | exact Nat.le_of_eq (Nat.zero_add _) | exact ImpS.refl _ | ((conv => arg 1; whnf); first | exact ImpS.refl _ | (refine ImpS.nil_eq ?_) | (refine ImpS.vnil_eq ?_) | (refine ImpS.row ?_) | (refine ImpS.rowN ?_ ?_) | (refine ImpS.sl_eq ?_) | (refine ImpS.expl rfl ?_)) | (refine row_snoc' ?_) | exact MImp.refl _ | exact cimp_none | exact cimp_same | exact List.not_mem_nil | exact DImp.refl _) | exact rfl | (refine And.intro ?_ ?_) | exact ImpS.refl _
              all_goals first | exact e7 | exact e11 | skip
              refine rowF_upd ?_ hnx
              exact Lf
            · rw [if_neg hc] at hll
              have hnx := hnx (leF l K i.toNat (0 + (loL l K i.toNat (k.toNat - 1) : Int).toNat) + max (l.getD i.toNat 0 - K.getD (0 + k.toNat) 0) (K.getD (0 + k.toNat) 0 - l.getD i.toNat 0)) (by rw [e3, e2, hll, Nat.zero_add]; rfl)
              rw [hll, ← e6] at e4
              have e7 : (loL l K i.toNat (k.toNat - 1) : Int) = loL l K i.toNat ((k + 1).toNat - 1) := by rw [e5, hll]
              rw [← hbk] at e4
              have e9 : ¬ leF l K i.toNat (0 + k.toNat) < leF l K i.toNat (0 + (loL l K i.toNat (k.toNat - 1) : Int).toNat) := by rw [e1, e2]; exact hc
              have e10 : 0 ≤ leF l K i.toNat (0 + (loL l K i.toNat (k.toNat - 1) : Int).toNat) ∧ leF l K i.toNat (0 + (loL l K i.toNat (k.toNat - 1) : Int).toNat) ≤ 12000 := by rw [e2]; omega
              clear hll e3 hr3 hr1 hr2
              conv => whnf
              repeat' first | ((first | refine Ob.a ?_ | refine Sp.tt ?_ | refine Sp.ff ?_ | refine Sp.yes ?_ | refine Sp.no ?_ | refine Sp.nyes ?_ | refine Sp.nno ?_);conv=>whnf) | (refine Sp.ne (fun hc => ?_) (fun hc => ?_) <;> (conv=>whnf)) | (refine Sp.dec (fun hc => ?_) (fun hc => ?_) <;> (conv=>whnf)) | (refine Sp.ndec (fun hc => ?_) (fun hc => ?_) <;> (conv=>whnf)) | (refine Sp.mk (fun hc => ?_) (fun hc => ?_) <;> (conv=>whnf)) | (refine Nx.mk (fun ka kb kx hx hs => ?_) (fun he => ?_) <;> (conv=>whnf)) | (refine Nx.mk (fun ka kx hx hs => ?_) (fun he => ?_) <;> (conv=>whnf)) | (refine Uk.mk (fun hn => ?_) ?_ <;> (conv=>whnf)) | (refine Ap.a ?_ ?_ <;> (conv=>whnf)) | (refine Fi.a ?_;conv=>whnf) | (refine Yl.a ?_ ?_ <;> (conv=>whnf)) | (refine Ob.b ?_;conv=>whnf)
              all_goals first | (exfalso; omega) | skip
              refine ⟨rfl, ⟨(k + 1, bk ++ [(loL l K i.toNat (k.toNat - 1) : Int)]), ⟨by simp only; omega, by simp only; omega⟩, e4.symm⟩, ?_, by simp only; omega⟩
              conv => whnf
              repeat' first | (refine Edge.fast ?_) | ((conv=>whnf); first | exact True.intro | (refine And.intro ?_ ?_) | exact rfl | exact Nat.le_of_eq (Nat.zero_add _) | exact ImpS.refl _ | ((conv => arg 1; whnf); first | exact ImpS.refl _ | (refine ImpS.nil_eq ?_) | (refine ImpS.vnil_eq ?_) | (refine ImpS.row ?_) | (refine ImpS.rowN ?_ ?_) | (refine ImpS.sl_eq ?_) | (refine ImpS.expl rfl ?_)) | (refine row_snoc' ?_) | exact MImp.refl _ | exact cimp_none | exact cimp_same | exact List.not_mem_nil | exact DImp.refl _) | exact rfl | (refine And.intro ?_ ?_) | exact ImpS.refl _
              all_goals first | exact e7 | (rw [List.length_append, List.length_singleton]; done) | skip
              refine rowF_upd ?_ hnx
              exact Lf
          · have ek : k = K.length := by omega
            subst ek
            have e1 := frT_succ l K i.toNat
            rw [Int.toNat_natCast] at hbk
            rw [← hbk, ← hfr, show i.toNat + 1 = (i + 1).toNat by omega] at e1
            have e2 : ∀ j, j < 12 → nxF l K i.toNat (K.length : Int).toNat j = leF l K (i + 1).toNat j := fun j _ => by
              rw [Int.toNat_natCast, show (i + 1).toNat = i.toNat + 1 by omega]; rfl
            conv => whnf
            repeat' first | ((first | refine Ob.a ?_ | refine Sp.tt ?_ | refine Sp.ff ?_ | refine Sp.yes ?_ | refine Sp.no ?_ | refine Sp.nyes ?_ | refine Sp.nno ?_);conv=>whnf) | (refine Sp.ne (fun hc => ?_) (fun hc => ?_) <;> (conv=>whnf)) | (refine Sp.dec (fun hc => ?_) (fun hc => ?_) <;> (conv=>whnf)) | (refine Sp.ndec (fun hc => ?_) (fun hc => ?_) <;> (conv=>whnf)) | (refine Sp.mk (fun hc => ?_) (fun hc => ?_) <;> (conv=>whnf)) | (refine Nx.mk (fun ka kb kx hx hs => ?_) (fun he => ?_) <;> (conv=>whnf)) | (refine Nx.mk (fun ka kx hx hs => ?_) (fun he => ?_) <;> (conv=>whnf)) | (refine Uk.mk (fun hn => ?_) ?_ <;> (conv=>whnf)) | (refine Ap.a ?_ ?_ <;> (conv=>whnf)) | (refine Fi.a ?_;conv=>whnf) | (refine Yl.a ?_ ?_ <;> (conv=>whnf)) | (refine Ob.b ?_;conv=>whnf)
            all_goals first | (exfalso; omega) | skip
            refine ⟨rfl, ⟨(i + 1, fr ++ [bk]), ⟨by simp only; omega, by simp only; omega⟩, e1.symm⟩, ?_, by simp only; omega⟩
            conv => whnf
            repeat' first | (refine Edge.fast ?_) | ((conv=>whnf); first | exact True.intro | (refine And.intro ?_ ?_) | exact rfl | exact Nat.le_of_eq (Nat.zero_add _) | exact ImpS.refl _ | ((conv => arg 1; whnf); first | exact ImpS.refl _ | (refine ImpS.nil_eq ?_) | (refine ImpS.vnil_eq ?_) | (refine ImpS.row ?_) | (refine ImpS.rowN ?_ ?_) | (refine ImpS.sl_eq ?_) | (refine ImpS.expl rfl ?_)) | (refine row_snoc' ?_) | exact MImp.refl _ | exact cimp_none | exact cimp_same | exact List.not_mem_nil | exact DImp.refl _) | exact rfl | (refine And.intro ?_ ?_) | exact ImpS.refl _
            all_goals first | (rw [List.length_append, List.length_singleton]; done) | skip
            intro j hj
            show CImp (int (nxF l K i.toNat (K.length : Int).toNat j)) (int (leF l K (i + 1).toNat j))
            rw [e2 j hj]; exact CImp.refl _
        · have z0 : ∀ j, nxF l K i.toNat (Int.toNat 0) j = 0 := fun j => if_neg (Nat.not_lt_zero j)
          have z1 : loL l K i.toNat ((Int.toNat 0) - 1) = 0 := rfl
          conv => whnf
          repeat' first | (refine Edge.fast ?_) | ((conv=>whnf); first | exact True.intro | (refine And.intro ?_ ?_) | exact rfl | exact Nat.le_of_eq (Nat.zero_add _) | exact ImpS.refl _ | ((conv => arg 1; whnf); first | exact ImpS.refl _ | (refine ImpS.nil_eq ?_) | (refine ImpS.vnil_eq ?_) | (refine ImpS.row ?_) | (refine ImpS.rowN ?_ ?_) | (refine ImpS.sl_eq ?_) | (refine ImpS.expl rfl ?_)) | (refine row_snoc' ?_) | exact MImp.refl _ | exact cimp_none | exact cimp_same | exact List.not_mem_nil | exact DImp.refl _) | exact rfl | (refine And.intro ?_ ?_) | exact ImpS.refl _
          all_goals try rw [z1]
          all_goals first | (intro j hj; show CImp (int 0) (int (nxF l K i.toNat (Int.toNat 0) j)); rw [z0]; exact CImp.refl _) | exact Lf
    · have ei : i = l.length := by omega
      subst ei
      rw [Int.toNat_natCast] at hfr
      conv => whnf
      repeat' first | ((first | refine Ob.a ?_ | refine Sp.tt ?_ | refine Sp.ff ?_ | refine Sp.yes ?_ | refine Sp.no ?_ | refine Sp.nyes ?_ | refine Sp.nno ?_);conv=>whnf) | (refine Sp.ne (fun hc => ?_) (fun hc => ?_) <;> (conv=>whnf)) | (refine Sp.dec (fun hc => ?_) (fun hc => ?_) <;> (conv=>whnf)) | (refine Sp.ndec (fun hc => ?_) (fun hc => ?_) <;> (conv=>whnf)) | (refine Sp.mk (fun hc => ?_) (fun hc => ?_) <;> (conv=>whnf)) | (refine Nx.mk (fun ka kb kx hx hs => ?_) (fun he => ?_) <;> (conv=>whnf)) | (refine Nx.mk (fun ka kx hx hs => ?_) (fun he => ?_) <;> (conv=>whnf)) | (refine Uk.mk (fun hn => ?_) ?_ <;> (conv=>whnf)) | (refine Ap.a ?_ ?_ <;> (conv=>whnf)) | (refine Fi.a ?_;conv=>whnf) | (refine Yl.a ?_ ?_ <;> (conv=>whnf)) | (refine Ob.b ?_;conv=>whnf)
      refine Lp.snap [0, 2, 3, 4, 5, 15, 16, 76, 89, 90, 91, 92, 93, 94, 95, 96, 97, 98, 99, 101, 102, 103, 104, 105, 106, 107, 108, 109, 110, 111, 112, 113, 114, 115, 116, 117, 118] 100 ?_
      (conv=>whnf)
      refine LpB.go 119 ({k : Int // 0 ≤ k ∧ k ≤ K.length}) 0 (fun ⟨k, _⟩ nx => ([(77, .d (int k)), (13, .d (int (loL l K l.length (k.toNat - 1))))], [])) (fun p => (K.length - p.1).toNat) (⟨0, by omega, by omega⟩) ?_ ?_
      · rintro ⟨k, k0, k1⟩
        by_cases hk : k < K.length
        · have hlo := loL_le l K l.length (k.toNat - 1)
          have hlo2 := loL_le l K l.length k.toNat
          have e1 : leF l K (l.length : Int).toNat (0 + k.toNat) = dpL l K l.length k.toNat := by unfold leF; rw [if_pos (by omega), Nat.zero_add, Int.toNat_natCast]
          have e2 : leF l K (l.length : Int).toNat (0 + (loL l K l.length (k.toNat - 1) : Int).toNat) = dpL l K l.length (loL l K l.length (k.toNat - 1)) := by unfold leF; rw [if_pos (by omega), Nat.zero_add, Int.toNat_natCast, Int.toNat_natCast]
          have hll : loL l K l.length k.toNat = if dpL l K l.length k.toNat < dpL l K l.length (loL l K l.length (k.toNat - 1)) then k.toNat else loL l K l.length (k.toNat - 1) := by
            by_cases hz : k.toNat = 0
            · have h1 : loL l K l.length k.toNat = 0 := by omega
              have h2 : loL l K l.length (k.toNat - 1) = 0 := by omega
              rw [h1, h2, hz, if_neg (by omega)]
            · have := loL_succ l K l.length (k.toNat - 1)
              rwa [show k.toNat - 1 + 1 = k.toNat by omega] at this
          by_cases hc : dpL l K l.length k.toNat < dpL l K l.length (loL l K l.length (k.toNat - 1))
          · rw [if_pos hc] at hll
            have e7 : k = loL l K l.length ((k + 1).toNat - 1) := by rw [show (k + 1).toNat - 1 = k.toNat by omega, hll]; omega
            have e9 : leF l K (l.length : Int).toNat (0 + k.toNat) < leF l K (l.length : Int).toNat (0 + (loL l K l.length (k.toNat - 1) : Int).toNat) := by rw [e1, e2]; exact hc
            clear hll e1 e2
            conv => whnf
            repeat' first | ((first | refine Ob.a ?_ | refine Sp.tt ?_ | refine Sp.ff ?_ | refine Sp.yes ?_ | refine Sp.no ?_ | refine Sp.nyes ?_ | refine Sp.nno ?_);conv=>whnf) | (refine Sp.ne (fun hc => ?_) (fun hc => ?_) <;> (conv=>whnf)) | (refine Sp.dec (fun hc => ?_) (fun hc => ?_) <;> (conv=>whnf)) | (refine Sp.ndec (fun hc => ?_) (fun hc => ?_) <;> (conv=>whnf)) | (refine Sp.mk (fun hc => ?_) (fun hc => ?_) <;> (conv=>whnf)) | (refine Nx.mk (fun ka kb kx hx hs => ?_) (fun he => ?_) <;> (conv=>whnf)) | (refine Nx.mk (fun ka kx hx hs => ?_) (fun he => ?_) <;> (conv=>whnf)) | (refine Uk.mk (fun hn => ?_) ?_ <;> (conv=>whnf)) | (refine Ap.a ?_ ?_ <;> (conv=>whnf)) | (refine Fi.a ?_;conv=>whnf) | (refine Yl.a ?_ ?_ <;> (conv=>whnf)) | (refine Ob.b ?_;conv=>whnf)
            all_goals first | (exfalso; omega) | exact ⟨rfl, ⟨k + 1, by omega, by omega⟩, Lf, by simp only; omega⟩
          · rw [if_neg hc] at hll
            have e7 : (loL l K l.length (k.toNat - 1) : Int) = loL l K l.length ((k + 1).toNat - 1) := by rw [show (k + 1).toNat - 1 = k.toNat by omega, hll]
            have e9 : ¬ leF l K (l.length : Int).toNat (0 + k.toNat) < leF l K (l.length : Int).toNat (0 + (loL l K l.length (k.toNat - 1) : Int).toNat) := by rw [e1, e2]; exact hc
            clear hll e1 e2
            conv => whnf
            repeat' first | ((first | refine Ob.a ?_ | refine Sp.tt ?_ | refine Sp.ff ?_ | refine Sp.yes ?_ | refine Sp.no ?_ | refine Sp.nyes ?_ | refine Sp.nno ?_);conv=>whnf) | (refine Sp.ne (fun hc => ?_) (fun hc => ?_) <;> (conv=>whnf)) | (refine Sp.dec (fun hc => ?_) (fun hc => ?_) <;> (conv=>whnf)) | (refine Sp.ndec (fun hc => ?_) (fun hc => ?_) <;> (conv=>whnf)) | (refine Sp.mk (fun hc => ?_) (fun hc => ?_) <;> (conv=>whnf)) | (refine Nx.mk (fun ka kb kx hx hs => ?_) (fun he => ?_) <;> (conv=>whnf)) | (refine Nx.mk (fun ka kx hx hs => ?_) (fun he => ?_) <;> (conv=>whnf)) | (refine Uk.mk (fun hn => ?_) ?_ <;> (conv=>whnf)) | (refine Ap.a ?_ ?_ <;> (conv=>whnf)) | (refine Fi.a ?_;conv=>whnf) | (refine Yl.a ?_ ?_ <;> (conv=>whnf)) | (refine Ob.b ?_;conv=>whnf)
            all_goals first | (exfalso; omega) | exact ⟨rfl, ⟨k + 1, by omega, by omega⟩, Lf, by simp only; omega⟩
        · have ek : k = K.length := by omega
          subst ek
          have hka : loL l K l.length ((K.length : Int).toNat - 1) = kA l K 0 := by rw [Int.toNat_natCast]; rfl
          have hkl := kA_lt (l := l) (K := K) (by omega)
          have hkl0 := hkl 0
          rw [← hka] at hkl0
          conv => whnf
          repeat' first | ((first | refine Ob.a ?_ | refine Sp.tt ?_ | refine Sp.ff ?_ | refine Sp.yes ?_ | refine Sp.no ?_ | refine Sp.nyes ?_ | refine Sp.nno ?_);conv=>whnf) | (refine Sp.ne (fun hc => ?_) (fun hc => ?_) <;> (conv=>whnf)) | (refine Sp.dec (fun hc => ?_) (fun hc => ?_) <;> (conv=>whnf)) | (refine Sp.ndec (fun hc => ?_) (fun hc => ?_) <;> (conv=>whnf)) | (refine Sp.mk (fun hc => ?_) (fun hc => ?_) <;> (conv=>whnf)) | (refine Nx.mk (fun ka kb kx hx hs => ?_) (fun he => ?_) <;> (conv=>whnf)) | (refine Nx.mk (fun ka kx hx hs => ?_) (fun he => ?_) <;> (conv=>whnf)) | (refine Uk.mk (fun hn => ?_) ?_ <;> (conv=>whnf)) | (refine Ap.a ?_ ?_ <;> (conv=>whnf)) | (refine Fi.a ?_;conv=>whnf) | (refine Yl.a ?_ ?_ <;> (conv=>whnf)) | (refine Ob.b ?_;conv=>whnf)
          all_goals first | (exfalso; omega) | skip
          refine Lp.snap [0, 2, 3, 5, 15, 118] 100 ?_
          (conv=>whnf)
          refine LpB.go 119 ({i : Int // -1 ≤ i ∧ i ≤ (l.length : Int) - 1}) 0 (fun ⟨i, _⟩ nx => ([(16, .d (int i)), (13, .d (int (kA l K ((l.length : Int) - 1 - i).toNat)))], [(16, .row true 2 1 l.length (rowF (cuF l K (toNat' i))))])) (fun p => (p.1 + 1).toNat) (⟨(l.length : Int) - 1, by omega, by omega⟩) ?_ ?_
          · rintro ⟨i, i0, i1⟩
            by_cases hi : 0 ≤ i
            · obtain ⟨d, hd⟩ : ∃ d, ((l.length : Int) - 1 - i).toNat = d := ⟨_, rfl⟩
              have hd1 : ((l.length : Int) - 1 - (i - 1)).toNat = d + 1 := by omega
              have hkd := hkl d
              have hkd1 := hkl (d + 1)
              have hat := riC_at (l := l) (K := K) (d := d) (by omega)
              rw [show l.length - 1 - d = i.toNat by omega] at hat
              have hka1 : kA l K (d + 1) = loL l K i.toNat (kA l K d) := by rw [kA, show l.length - 1 - d = i.toNat by omega]
              have hf1 : fr.getD (0 + i.toNat) [] = bkT l K i.toNat K.length := by rw [hfr, Nat.zero_add]; exact frT_at (by omega)
              have hf2 : (fr.getD (0 + i.toNat) []).length = K.length := by rw [hf1]; exact bkT_len ..
              have hf3 : (fr.getD (0 + i.toNat) []).getD (kA l K ((l.length : Int) - 1 - i).toNat : Int).toNat 0 = kA l K ((l.length : Int) - 1 - (i - 1)).toNat := by
                rw [hd, hd1, hka1, hf1, Int.toNat_natCast]; exact bkT_at hkd
              have hcu : ∀ a, a < l.length → cuF l K (toNat' (i - 1)) a = if a = 0 + i.toNat then K.getD (0 + (kA l K ((l.length : Int) - 1 - i).toNat : Int).toNat) 0 else cuF l K (toNat' i) a := fun a ha => by
                unfold cuF toNat'
                by_cases h : a = 0 + i.toNat
                · rw [if_pos h, if_pos (by omega), h, Nat.zero_add, hat, Nat.zero_add, hd, Int.toNat_natCast]
                · rw [if_neg h]
                  by_cases h2 : (i + 1).toNat < a + 1
                  · rw [if_pos h2, if_pos (by omega)]
                  · rw [if_neg h2, if_neg (by omega)]
              have hkdi : kA l K ((l.length : Int) - 1 - i).toNat < K.length := hkl _
              clear hf1 hat hka1
              conv => whnf
              repeat' first | ((first | refine Ob.a ?_ | refine Sp.tt ?_ | refine Sp.ff ?_ | refine Sp.yes ?_ | refine Sp.no ?_ | refine Sp.nyes ?_ | refine Sp.nno ?_);conv=>whnf) | (refine Sp.ne (fun hc => ?_) (fun hc => ?_) <;> (conv=>whnf)) | (refine Sp.dec (fun hc => ?_) (fun hc => ?_) <;> (conv=>whnf)) | (refine Sp.ndec (fun hc => ?_) (fun hc => ?_) <;> (conv=>whnf)) | (refine Sp.mk (fun hc => ?_) (fun hc => ?_) <;> (conv=>whnf)) | (refine Nx.mk (fun ka kb kx hx hs => ?_) (fun he => ?_) <;> (conv=>whnf)) | (refine Nx.mk (fun ka kx hx hs => ?_) (fun he => ?_) <;> (conv=>whnf)) | (refine Uk.mk (fun hn => ?_) ?_ <;> (conv=>whnf)) | (refine Ap.a ?_ ?_ <;> (conv=>whnf)) | (refine Fi.a ?_;conv=>whnf) | (refine Yl.a ?_ ?_ <;> (conv=>whnf)) | (refine Ob.b ?_;conv=>whnf)
              all_goals first | (exfalso; omega) | skip
              all_goals exact ⟨rfl, ⟨i - 1, by omega, by omega⟩, Lf, by simp only; omega⟩
            · have hce : ∀ a, a < l.length → cuF l K (toNat' i) a = (riC l K).getD a 0 := fun a ha => by
                unfold cuF toNat'; rw [if_pos (by omega)]
              conv => whnf
              repeat' first | ((first | refine Ob.a ?_ | refine Sp.tt ?_ | refine Sp.ff ?_ | refine Sp.yes ?_ | refine Sp.no ?_ | refine Sp.nyes ?_ | refine Sp.nno ?_);conv=>whnf) | (refine Sp.ne (fun hc => ?_) (fun hc => ?_) <;> (conv=>whnf)) | (refine Sp.dec (fun hc => ?_) (fun hc => ?_) <;> (conv=>whnf)) | (refine Sp.ndec (fun hc => ?_) (fun hc => ?_) <;> (conv=>whnf)) | (refine Sp.mk (fun hc => ?_) (fun hc => ?_) <;> (conv=>whnf)) | (refine Nx.mk (fun ka kb kx hx hs => ?_) (fun he => ?_) <;> (conv=>whnf)) | (refine Nx.mk (fun ka kx hx hs => ?_) (fun he => ?_) <;> (conv=>whnf)) | (refine Uk.mk (fun hn => ?_) ?_ <;> (conv=>whnf)) | (refine Ap.a ?_ ?_ <;> (conv=>whnf)) | (refine Fi.a ?_;conv=>whnf) | (refine Yl.a ?_ ?_ <;> (conv=>whnf)) | (refine Ob.b ?_;conv=>whnf)
              all_goals first | (exfalso; omega) | skip
              have hsm : leF l K (l.length : Int).toNat (0 + (loL l K l.length ((K.length : Int).toNat - 1) : Int).toNat) = riS l K := by
                unfold leF
                rw [if_pos (by omega), Nat.zero_add, Int.toNat_natCast, Int.toNat_natCast, Int.toNat_natCast]; rfl
              conv => whnf
              repeat' first | (refine Edge.fast ?_) | ((conv=>whnf); first | exact True.intro | (refine And.intro ?_ ?_) | exact rfl | exact Nat.le_of_eq (Nat.zero_add _) | exact ImpS.refl _ | ((conv => arg 1; whnf); first | exact ImpS.refl _ | (refine ImpS.nil_eq ?_) | (refine ImpS.vnil_eq ?_) | (refine ImpS.row ?_) | (refine ImpS.rowN ?_ ?_) | (refine ImpS.sl_eq ?_) | (refine ImpS.expl rfl ?_)) | (refine row_snoc' ?_) | exact MImp.refl _ | exact cimp_none | exact cimp_same | exact List.not_mem_nil | exact DImp.refl _) | exact rfl | (refine And.intro ?_ ?_) | exact ImpS.refl _
              all_goals first | exact hsm | omega | skip
              exact fun a ha => by
                show CImp (int (cuF l K (toNat' i) a)) (int ((riC l K).getD a 0))
                rw [hce a ha]; exact CImp.refl _
          · have hz : ∀ a, a < l.length → 0 = cuF l K (toNat' ((l.length : Int) - 1)) a := fun a ha => by
              unfold cuF toNat'; rw [if_neg (by omega)]
            have hk0 : (loL l K l.length ((K.length : Int).toNat - 1) : Int) = kA l K ((l.length : Int) - 1 - ((l.length : Int) - 1)).toNat := by rw [hka, show ((l.length : Int) - 1 - ((l.length : Int) - 1)).toNat = 0 by omega]
            conv => whnf
            repeat' first | (refine Edge.fast ?_) | ((conv=>whnf); first | exact True.intro | (refine And.intro ?_ ?_) | exact rfl | exact Nat.le_of_eq (Nat.zero_add _) | exact ImpS.refl _ | ((conv => arg 1; whnf); first | exact ImpS.refl _ | (refine ImpS.nil_eq ?_) | (refine ImpS.vnil_eq ?_) | (refine ImpS.row ?_) | (refine ImpS.rowN ?_ ?_) | (refine ImpS.sl_eq ?_) | (refine ImpS.expl rfl ?_)) | (refine row_snoc' ?_) | exact MImp.refl _ | exact cimp_none | exact cimp_same | exact List.not_mem_nil | exact DImp.refl _) | exact rfl | (refine And.intro ?_ ?_) | exact ImpS.refl _
            all_goals first | exact hk0 | omega | skip
            exact fun a ha => by
              show CImp (int 0) (int (cuF l K (toNat' ((l.length : Int) - 1)) a))
              rw [hz a ha]; exact CImp.refl _
      · exact Lf
  · have z0 : ∀ j, leF l K (Int.toNat 0) j = 0 := fun j => by unfold leF; split <;> rfl
    conv => whnf
    repeat' first | (refine Edge.fast ?_) | ((conv=>whnf); first | exact True.intro | (refine And.intro ?_ ?_) | exact rfl | exact Nat.le_of_eq (Nat.zero_add _) | exact ImpS.refl _ | ((conv => arg 1; whnf); first | exact ImpS.refl _ | (refine ImpS.nil_eq ?_) | (refine ImpS.vnil_eq ?_) | (refine ImpS.row ?_) | (refine ImpS.rowN ?_ ?_) | (refine ImpS.sl_eq ?_) | (refine ImpS.expl rfl ?_)) | (refine row_snoc' ?_) | exact MImp.refl _ | exact cimp_none | exact cimp_same | exact List.not_mem_nil | exact DImp.refl _) | exact rfl | (refine And.intro ?_ ?_) | exact ImpS.refl _
    intro j hj
    show CImp (mid 0 12 (fun x => zE ti2) (fun x => DV.v (Value.int IntKind.i64 0)) j) (int (leF l K (Int.toNat 0) j))
    rw [z0]
    unfold mid
    rw [if_pos ⟨Nat.zero_le _, by omega⟩]
    exact Lf
end Go.Px.Try

/-! Bl7 -/
namespace Go.Proofs
open Go Go.RowKit Go.Lib Go.Px
set_option maxRecDepth 100000
set_option maxHeartbeats 4000000 in
theorem Try.grow_run (n : Nat) (w : World) (h0 : 1 ≤ n) (h1 : n ≤ 1000) :
    Calls Try.prog 87 #[.slice none 0 0, .int .i64 n] w fun e w' =>
      e = .returned (.slice (some ⟨w.heap.size, 0, none⟩) 0 (grownCap w n 0 2)) ∧
      w' = w.drew.alloc (.cells (#[] ++ Builtin.zeroCells (Value.int IntKind.i64 0).cells n ++ Builtin.zeroCells (Value.int IntKind.i64 0).cells (grownCap w n 0 2 - n)) 2) := by
  have hw1 : wrap64 ((0 : Int) - 0) = 0 := by unfold wrap64; omega
  have hw2 : wrap64 ((n : Int) - 0) = n := by unfold wrap64; omega
  have hw3 : ¬ ((n : Int) < 0) := by omega
  have hw4 : (n : Int) > 0 := by omega
  have hold : (Builtin.firstCells 1 0 (.slice none 0 0)).run Try.prog w.drew = .ok #[] w.drew := run_firstCells_none w.drew 1 0 0 0
  obtain ⟨i0, hi0, hz0, hs0, hb0⟩ := Px.Try.tok2.info
  have hs0 : i0.size = 1 := hs0
  have hb0 : i0.bytes = 8 := hb0
  have hz0 : i0.zero = some (Value.int IntKind.i64 0) := hz0
  have hrz : ∀ ty, (Builtin.append_ #[22, 3] ty #[.slice none 0 0, .int .i64 (n : Int)]).run Try.prog w =
      .ok (.slice (some ⟨w.heap.size, 0, none⟩) n (grownCap w n 0 2)) (w.drew.alloc (.cells (#[] ++ Builtin.zeroCells (Value.int IntKind.i64 0).cells n ++ Builtin.zeroCells (Value.int IntKind.i64 0).cells (grownCap w n 0 2 - n)) 2)) := fun ty => by
    have h := Lib.run_append_grow_zeros w 22 3 ty 2 i0 (Value.int IntKind.i64 0) .i64 .i64 Try.underlying22 Try.underlying3 hi0 hz0 none 0 0 [] (by rw [hs0]; exact hold) n (by omega) (by omega) (by omega) (by omega) (by rw [hb0]; omega)
      (growslice_fits (by omega) (by rw [hb0]; omega))
    rw [Nat.zero_add] at h
    exact h
  have hGn : n ≤ grownCap w n 0 2 := grownCap_ge w _ _ _
  obtain ⟨G, hG⟩ : ∃ G, G = grownCap w n 0 2 := ⟨_, rfl⟩
  rw [← hG] at hrz hGn ⊢
  have hG63 : G ≤ 9223372036854775807 := by
    have := grownCap_le_maxLen w n 0 2 (by unfold maxLen; omega)
    rw [← hG] at this
    unfold maxLen at this
    omega
  go_enter Try.func87, Try.ntmps87
  go_wp2_with (at_builtin; refine Lib.wpList_append_run _ rfl _ _ _ _ rfl _ _ rfl rfl _ _ (hrz _) ?_)
  all_goals (go_ret; exact ⟨rfl, rfl⟩)
end Go.Proofs
namespace Go.Px.Try
open Go Go.Proofs Go.Px Go.RowKit
set_option maxRecDepth 100000
theorem Grow_spec (n : Int) (h0 : 1 ≤ n) (h1 : n ≤ 1000) : FnF Try.prog 87 [.v (.slice none 0 0), int n] 2 1 0 (rowOf int 0 []) (.ms 0 1 0 0) := by
  obtain ⟨m, rfl⟩ : ∃ m : Nat, n = m := ⟨n.toNat, by omega⟩
  refine ⟨Try.call87, fun S w vals hS hv => ?_⟩
  obtain ⟨u, v, rfl⟩ : ∃ u v, vals = [u, v] := by
    match vals, hv with
    | [u, v], _ => exact ⟨u, v, rfl⟩
  have e1 : u = .slice none 0 0 := hv.1
  have e2 : v = .int .i64 m := hv.2.1
  subst e1; subst e2
  refine (Proofs.Try.grow_run m w (by omega) (by omega)).mono ?_
  rintro e w' ⟨rfl, rfl⟩
  have hG := grownCap_ge w m 0 2
  have hM := grownCap_le_maxLen w m 0 2 (by unfold maxLen; omega)
  generalize grownCap w m 0 2 = G at *
  have hsz : (#[] ++ Builtin.zeroCells (Value.int IntKind.i64 0).cells m ++ Builtin.zeroCells (Value.int IntKind.i64 0).cells (G - m)).size = G := by
    have hc : (Value.int IntKind.i64 0).cells.size = 1 := rfl
    rw [Array.size_append, Array.size_append, size_zeroCells, size_zeroCells, hc]
    show 0 + m * 1 + (G - m) * 1 = G
    omega
  generalize (#[] ++ Builtin.zeroCells (Value.int IntKind.i64 0).cells m ++ Builtin.zeroCells (Value.int IntKind.i64 0).cells (G - m)) = c at *
  have hbl : Below w.heap.size w (w.drew.alloc (.cells c 2)) := (Below.refl _ w).drew.alloc (Nat.le_refl _) _
  have hhp : (w.drew.alloc (.cells c 2)).heap[w.heap.size]? = some (.cells c 2 (0, 0)) := new_heap w.drew _
  refine ⟨_, ⟨S, fun j => bif Nat.beq j 0 then .at w.heap.size else .un, []⟩, rfl, fun j hj => ?_, fun _ h => h, fun _ h => .inl h, hbl, .inr ⟨w.heap.size, c, rfl, hhp, Nat.zero_le _, ?_, fun i hi => absurd hi (Nat.not_lt_zero i)⟩, .inr ⟨w.heap.size, 0, G, c, 2, rfl, rfl, Nat.zero_le _, hM, hhp, .inl ⟨rfl, by rw [hsz]; omega⟩⟩⟩
  · show (bif Nat.beq j 0 then Loc.at w.heap.size else .un) = .un
    rw [beq_ne hj]; rfl
  · show ¬ S w.heap.size ∧ w.heap.size ≤ w.heap.size
    exact ⟨fun h => Nat.lt_irrefl _ (hS _ h), Nat.le_refl _⟩
theorem row_app {l l' : List Int} : ∀ j, j < (l ++ l').length → CImp (apd l.length (rowOf int 0 l) (fun i => int (l'.getD i 0)) j) (rowOf int 0 (l ++ l') j) := fun j _ => by
  unfold apd rowOf
  by_cases h : j < l.length
  · rw [if_pos h, List.getD_eq_getElem?_getD (l := l ++ l'), List.getElem?_append_left h, ← List.getD_eq_getElem?_getD]; exact CImp.refl _
  · rw [if_neg h, List.getD_eq_getElem?_getD (l := l ++ l'), List.getElem?_append_right (by omega), ← List.getD_eq_getElem?_getD]; exact CImp.refl _
def lenTo (Ls : List (List Int)) : Nat → Nat
  | 0 => 0
  | i + 1 => lenTo Ls i + (Ls.getD i []).length
def catTo (Ls : List (List Int)) : Nat → List Int
  | 0 => []
  | i + 1 => catTo Ls i ++ Ls.getD i []
theorem catTo_len (Ls : List (List Int)) : ∀ i, (catTo Ls i).length = lenTo Ls i
  | 0 => rfl
  | i + 1 => by rw [catTo, List.length_append, catTo_len Ls i]; rfl
theorem lenTo_le (Ls : List (List Int)) : ∀ i, i ≤ Ls.length → lenTo Ls i ≤ lenTo Ls Ls.length := fun i hi => by
  obtain ⟨d, hd⟩ : ∃ d, Ls.length = i + d := ⟨Ls.length - i, by omega⟩
  rw [hd]
  clear hd hi
  induction d with
  | zero => exact Nat.le_refl _
  | succ d ih => rw [← Nat.add_assoc, lenTo]; omega
set_option maxHeartbeats 8000000 in
theorem Concat_spec (Ls : List (List Int)) (h0 : 1 ≤ lenTo Ls Ls.length) (h1 : lenTo Ls Ls.length ≤ 1000) (h2 : Ls.length ≤ 1000) : Fn Try.prog 80 [slOf 1 ints [] Ls] (ints (catTo Ls Ls.length)) := by
  have hle := lenTo_le Ls
  have hG := fun n a b => Grow_spec n a b
  have hst : ∀ i : Int, 0 ≤ i → ((lenTo Ls i.toNat : Nat) : Int) + ((Ls.getD i.toNat []).length : Int) = (lenTo Ls (i + 1).toNat : Nat) := fun i i0 => by
    rw [show (i + 1).toNat = i.toNat + 1 by omega, lenTo]; omega
  have hcs : ∀ i : Int, 0 ≤ i → catTo Ls (i + 1).toNat = catTo Ls i.toNat ++ Ls.getD i.toNat [] := fun i i0 => by
    rw [show (i + 1).toNat = i.toNat + 1 by omega, catTo]
  have hcl := catTo_len Ls
  have hfin : catTo Ls Ls.length = catTo Ls Ls.length := rfl
  generalize hF : catTo Ls Ls.length = fin at *
  have hz : lenTo Ls (Int.toNat 0) = 0 := rfl
  have hcz : catTo Ls (Int.toNat 0) = [] := rfl
  generalize catTo Ls = X at *
  generalize lenTo Ls = Y at *
  refine Fn.of_ex (cuts := []) tys hM Try.func80 rfl Try.call80 rfl ?_
  show exC Try.prog T [] _ false none 0 (entry 36 [slOf 1 ints [] Ls]) (finQ T [ResultVar.tmp 2] _)
  conv => whnf
  repeat' first | ((first | refine Ob.a ?_ | refine Sp.tt ?_ | refine Sp.ff ?_ | refine Sp.yes ?_ | refine Sp.no ?_ | refine Sp.nyes ?_ | refine Sp.nno ?_);conv=>whnf) | (refine Sp.ne (fun hc => ?_) (fun hc => ?_) <;> (conv=>whnf)) | (refine Sp.dec (fun hc => ?_) (fun hc => ?_) <;> (conv=>whnf)) | (refine Sp.ndec (fun hc => ?_) (fun hc => ?_) <;> (conv=>whnf)) | (refine Sp.mk (fun hc => ?_) (fun hc => ?_) <;> (conv=>whnf)) | (refine Nx.mk (fun ka kb kx hx hs => ?_) (fun he => ?_) <;> (conv=>whnf)) | (refine Nx.mk (fun ka kx hx hs => ?_) (fun he => ?_) <;> (conv=>whnf)) | (refine Uk.mk (fun hn => ?_) ?_ <;> (conv=>whnf)) | (refine Ap.a ?_ ?_ <;> (conv=>whnf)) | (refine Fi.a ?_;conv=>whnf) | (refine Yl.a ?_ ?_ <;> (conv=>whnf)) | (refine Ob.b ?_;conv=>whnf)
  refine Lp.snap [0, 2, 6, 8, 9, 10, 23, 24, 25, 26, 27, 29, 30, 31, 32, 33, 34, 35] 100 ?_
  (conv=>whnf)
  refine LpB.go 36 ({i : Int // 0 ≤ i ∧ i ≤ Ls.length}) 0 (fun ⟨i, _⟩ nx => ([(11, .d (int i)), (3, .d (int (Y i.toNat : Nat)))], [])) (fun p => (Ls.length - p.1).toNat) (⟨0, by omega, by omega⟩) ?_ ?_
  · rintro ⟨i, i0, i1⟩
    by_cases hi : i < Ls.length
    · have hst := hst i i0
      have hle := hle (i + 1).toNat (by omega)
      conv => whnf
      repeat' first | ((first | refine Ob.a ?_ | refine Sp.tt ?_ | refine Sp.ff ?_ | refine Sp.yes ?_ | refine Sp.no ?_ | refine Sp.nyes ?_ | refine Sp.nno ?_);conv=>whnf) | (refine Sp.ne (fun hc => ?_) (fun hc => ?_) <;> (conv=>whnf)) | (refine Sp.dec (fun hc => ?_) (fun hc => ?_) <;> (conv=>whnf)) | (refine Sp.ndec (fun hc => ?_) (fun hc => ?_) <;> (conv=>whnf)) | (refine Sp.mk (fun hc => ?_) (fun hc => ?_) <;> (conv=>whnf)) | (refine Nx.mk (fun ka kb kx hx hs => ?_) (fun he => ?_) <;> (conv=>whnf)) | (refine Nx.mk (fun ka kx hx hs => ?_) (fun he => ?_) <;> (conv=>whnf)) | (refine Uk.mk (fun hn => ?_) ?_ <;> (conv=>whnf)) | (refine Ap.a ?_ ?_ <;> (conv=>whnf)) | (refine Fi.a ?_;conv=>whnf) | (refine Yl.a ?_ ?_ <;> (conv=>whnf)) | (refine Ob.b ?_;conv=>whnf)
      all_goals first | exact ⟨rfl, ⟨i + 1, by omega, by omega⟩, Lf, by simp only; omega⟩ | (exfalso; omega)
    · have ei : i.toNat = Ls.length := by omega
      have hG := hG (Y i.toNat : Nat) (by rw [ei]; omega) (by rw [ei]; omega)
      conv => whnf
      repeat' first | ((first | refine Ob.a ?_ | refine Sp.tt ?_ | refine Sp.ff ?_ | refine Sp.yes ?_ | refine Sp.no ?_ | refine Sp.nyes ?_ | refine Sp.nno ?_);conv=>whnf) | (refine Sp.ne (fun hc => ?_) (fun hc => ?_) <;> (conv=>whnf)) | (refine Sp.dec (fun hc => ?_) (fun hc => ?_) <;> (conv=>whnf)) | (refine Sp.ndec (fun hc => ?_) (fun hc => ?_) <;> (conv=>whnf)) | (refine Sp.mk (fun hc => ?_) (fun hc => ?_) <;> (conv=>whnf)) | (apply Cl.fr;(conv=>whnf); (first | (refine Ob.frX (hG) ?_ ?_ ?_;(focus exact Lf); (focus exact Lf)));(conv=>whnf)) | (refine Nx.mk (fun ka kb kx hx hs => ?_) (fun he => ?_) <;> (conv=>whnf)) | (refine Nx.mk (fun ka kx hx hs => ?_) (fun he => ?_) <;> (conv=>whnf)) | (refine Uk.mk (fun hn => ?_) ?_ <;> (conv=>whnf)) | (refine Ap.a ?_ ?_ <;> (conv=>whnf)) | (refine Fi.a ?_;conv=>whnf) | (refine Yl.a ?_ ?_ <;> (conv=>whnf)) | (refine Ob.b ?_;conv=>whnf)
      refine Lp.snap [0, 2, 25, 26, 35] 100 ?_
      (conv=>whnf)
      refine LpB.go 36 ({q : Int × List Int // (0 ≤ q.1 ∧ q.1 ≤ Ls.length) ∧ q.2 = X q.1.toNat}) 0 (fun ⟨(j, o), _⟩ nx => ([(27, .d (int j)), (6, .ms 3 1 0 o.length)], [(3, .row true 2 1 o.length (rowOf int 0 o))])) (fun p => (Ls.length - p.1.1).toNat) (⟨(0, []), ⟨by simp, by simp⟩, hcz.symm⟩) ?_ ?_
      · rintro ⟨⟨j, o⟩, ⟨j0, j1⟩, ho⟩
        simp only at j0 j1 ho
        by_cases hj : j < Ls.length
        · have hcs := hcs j j0
          have hl1 := hcl (j + 1).toNat
          have hle1 := hle (j + 1).toNat (by omega)
          rw [← ho] at hcs
          rw [hcs, List.length_append] at hl1
          have e1 : o.length + (Ls.getD j.toNat []).length = (o ++ Ls.getD j.toNat []).length := by rw [List.length_append]
          have ro := row_app (l := o) (l' := Ls.getD j.toNat [])
          conv => whnf
          repeat' first | ((first | refine Ob.a ?_ | refine Sp.tt ?_ | refine Sp.ff ?_ | refine Sp.yes ?_ | refine Sp.no ?_ | refine Sp.nyes ?_ | refine Sp.nno ?_);conv=>whnf) | (refine Sp.ne (fun hc => ?_) (fun hc => ?_) <;> (conv=>whnf)) | (refine Sp.dec (fun hc => ?_) (fun hc => ?_) <;> (conv=>whnf)) | (refine Sp.ndec (fun hc => ?_) (fun hc => ?_) <;> (conv=>whnf)) | (refine Sp.mk (fun hc => ?_) (fun hc => ?_) <;> (conv=>whnf)) | (refine Nx.mk (fun ka kb kx hx hs => ?_) (fun he => ?_) <;> (conv=>whnf)) | (refine Nx.mk (fun ka kx hx hs => ?_) (fun he => ?_) <;> (conv=>whnf)) | (refine Uk.mk (fun hn => ?_) ?_ <;> (conv=>whnf)) | (refine Ap.a ?_ ?_ <;> (conv=>whnf)) | (refine Fi.a ?_;conv=>whnf) | (refine Yl.a ?_ ?_ <;> (conv=>whnf)) | (refine Ob.b ?_;conv=>whnf)
          all_goals first | (exfalso; omega) | skip
          all_goals refine ⟨rfl, ⟨(j + 1, o ++ Ls.getD j.toNat []), ⟨by simp only; omega, by simp only; omega⟩, hcs.symm⟩, ?_, by simp only; omega⟩
          all_goals conv => whnf
          repeat' first | (refine Edge.fast ?_) | ((conv=>whnf); first | exact True.intro | (refine And.intro ?_ ?_) | exact rfl | exact Nat.le_of_eq (Nat.zero_add _) | exact ImpS.refl _ | ((conv => arg 1; whnf); first | exact ImpS.refl _ | (refine ImpS.nil_eq ?_) | (refine ImpS.vnil_eq ?_) | (refine ImpS.row ?_) | (refine ImpS.rowN ?_ ?_) | (refine ImpS.sl_eq ?_) | (refine ImpS.expl rfl ?_)) | (refine row_snoc' ?_) | exact MImp.refl _ | exact cimp_none | exact cimp_same | exact List.not_mem_nil | exact DImp.refl _) | exact rfl | (refine And.intro ?_ ?_) | exact ImpS.refl _
          all_goals first | exact e1 | exact ro
        · have e : o = fin := by rw [ho, ← hF]; congr 1; omega
          subst e
          conv => whnf
          repeat' first | ((first | refine Ob.a ?_ | refine Sp.tt ?_ | refine Sp.ff ?_ | refine Sp.yes ?_ | refine Sp.no ?_ | refine Sp.nyes ?_ | refine Sp.nno ?_);conv=>whnf) | (refine Sp.ne (fun hc => ?_) (fun hc => ?_) <;> (conv=>whnf)) | (refine Sp.dec (fun hc => ?_) (fun hc => ?_) <;> (conv=>whnf)) | (refine Sp.ndec (fun hc => ?_) (fun hc => ?_) <;> (conv=>whnf)) | (refine Sp.mk (fun hc => ?_) (fun hc => ?_) <;> (conv=>whnf)) | (refine Nx.mk (fun ka kb kx hx hs => ?_) (fun he => ?_) <;> (conv=>whnf)) | (refine Nx.mk (fun ka kx hx hs => ?_) (fun he => ?_) <;> (conv=>whnf)) | (refine Uk.mk (fun hn => ?_) ?_ <;> (conv=>whnf)) | (refine Ap.a ?_ ?_ <;> (conv=>whnf)) | (refine Fi.a ?_;conv=>whnf) | (refine Yl.a ?_ ?_ <;> (conv=>whnf)) | (refine Ob.b ?_;conv=>whnf)
          all_goals exact Lf
      · exact Lf
  · have e : (0 : Int) = (Y (Int.toNat 0) : Nat) := by rw [hz]; rfl
    exact Lf
end Go.Px.Try

/-! Bl8 -/
namespace Go.Px.Try
open Go Go.Proofs Go.Px
set_option maxRecDepth 100000
set_option maxHeartbeats 8000000 in
theorem Clone_none : Fn Try.prog 78 [ints []] (ints []) := by
  refine Fn.of_ex (cuts := []) tys hM Try.func78 rfl Try.call78 rfl ?_
  show exC Try.prog T [] _ false none 0 (entry 8 [ints []]) (finQ T [ResultVar.tmp 2] _)
  conv => whnf
  repeat' first | ((first | refine Ob.a ?_ | refine Sp.tt ?_ | refine Sp.ff ?_ | refine Sp.yes ?_ | refine Sp.no ?_ | refine Sp.nyes ?_ | refine Sp.nno ?_);conv=>whnf) | (refine Sp.ne (fun hc => ?_) (fun hc => ?_) <;> (conv=>whnf)) | (refine Sp.dec (fun hc => ?_) (fun hc => ?_) <;> (conv=>whnf)) | (refine Sp.ndec (fun hc => ?_) (fun hc => ?_) <;> (conv=>whnf)) | (refine Sp.mk (fun hc => ?_) (fun hc => ?_) <;> (conv=>whnf)) | (refine Nx.mk (fun ka kb kx hx hs => ?_) (fun he => ?_) <;> (conv=>whnf)) | (refine Nx.mk (fun ka kx hx hs => ?_) (fun he => ?_) <;> (conv=>whnf)) | (refine Uk.mk (fun hn => ?_) ?_ <;> (conv=>whnf)) | (refine Ap.a ?_ ?_ <;> (conv=>whnf)) | (refine Fi.a ?_;conv=>whnf) | (refine Yl.a ?_ ?_ <;> (conv=>whnf)) | (refine Ob.b ?_;conv=>whnf)
  all_goals exact Lf
theorem rise_none : Fn Try.prog 77 [ints []] (st [.v (.slice none 0 0), int 0]) := by
  refine Fn.of_ex (cuts := []) tys hM Try.func77 rfl Try.call77 rfl ?_
  show exC Try.prog T [] _ false none 0 (entry 119 [ints []]) (finQ T [ResultVar.cell 2 87] _)
  conv => whnf
  repeat' first | ((first | refine Ob.a ?_ | refine Sp.tt ?_ | refine Sp.ff ?_ | refine Sp.yes ?_ | refine Sp.no ?_ | refine Sp.nyes ?_ | refine Sp.nno ?_);conv=>whnf) | (refine Sp.ne (fun hc => ?_) (fun hc => ?_) <;> (conv=>whnf)) | (refine Sp.dec (fun hc => ?_) (fun hc => ?_) <;> (conv=>whnf)) | (refine Sp.ndec (fun hc => ?_) (fun hc => ?_) <;> (conv=>whnf)) | (refine Sp.mk (fun hc => ?_) (fun hc => ?_) <;> (conv=>whnf)) | (refine Nx.mk (fun ka kb kx hx hs => ?_) (fun he => ?_) <;> (conv=>whnf)) | (refine Nx.mk (fun ka kx hx hs => ?_) (fun he => ?_) <;> (conv=>whnf)) | (refine Uk.mk (fun hn => ?_) ?_ <;> (conv=>whnf)) | (refine Ap.a ?_ ?_ <;> (conv=>whnf)) | (refine Fi.a ?_;conv=>whnf) | (refine Yl.a ?_ ?_ <;> (conv=>whnf)) | (refine Ob.b ?_;conv=>whnf)
  all_goals exact Lf
end Go.Px.Try

/-! Bp11 -/
namespace Go.Px.Try
open Go Go.Proofs Go.Px
set_option maxRecDepth 100000
def pathD (C : List Int) (s : Int) : DV := .ag 2 fun j => match j with
  | 0 => ints C
  | _ => int s
def nrA (R : List Int) (p : Nat) : List Int := R.take (p + 1)
def nrB (R : List Int) (p : Nat) : List Int := (R.drop (p + 1)).reverse
/-- The curve, and its sum. -/
def nrC (R : List Int) (p : Nat) : List Int := riC (nrA R p) (stpL (nrA R p)) ++ if p + 1 = R.length then [] else (riC (nrB R p) (stpL (nrB R p))).reverse
theorem ris_iso {l : List Int} (h : 0 < l.length) : riS l (stpL l) = isoS l := by
  have h0 : l ≠ [] := fun e => by rw [e] at h; simp at h
  have hs := stp_ok h
  exact (rise_ok h0 ⟨hs.1, hs.2⟩).2.2.2.2.uniq (isoS_ok l)
theorem riS_rng {l : List Int} (h0 : 0 < l.length) (h1 : l.length ≤ 12) (hv : ∀ x ∈ l, 0 ≤ x ∧ x ≤ 1000) : 0 ≤ riS l (stpL l) ∧ riS l (stpL l) ≤ 12000 := by
  have hk := stp_len h0
  have := dpL_rng (l := l) (K := stpL l) hv (fun x hx => hv x ((stp_ok h0).2 x |>.1 hx)) l.length (riK l (stpL l)) (Nat.le_refl _) (by
    have := lowA_le (dpI (stepsOf (stpL l)) l l.length) ((stpL l).length - 1)
    unfold riK; omega)
  have e : riS l (stpL l) = dpL l (stpL l) l.length (riK l (stpL l)) := rfl
  rw [e]; omega
set_option maxHeartbeats 16000000 in
theorem near_spec (R : List Int) (p : Int) (hR : RdOk R) (p0 : 0 ≤ p) (p1 : p < R.length) : Fn Try.prog 60 [cupD R, int p] (pathD (nrC R p.toNat) (nearF R p.toNat)) := by
  have h12 := hR.l12
  have hAl : (nrA R p.toNat).length = p.toNat + 1 := by unfold nrA; rw [List.length_take]; omega
  have hA := rise_spec (nrA R p.toNat) (by omega) (by omega) (fun x hx => hR.rng x (List.mem_of_mem_take hx))
  have hAs := ris_iso (l := nrA R p.toNat) (by omega)
  have fA1 : (p + 1).toNat = (nrA R p.toNat).length := by omega
  have fA2 : ∀ j, j < (p + 1).toNat → (fun i => int (R.getD i 0)) j = int ((nrA R p.toNat).getD j 0) := fun j hj => by
    show int _ = int _
    unfold nrA; rw [getD_take (by omega)]
  have hAc := riC_len (nrA R p.toNat) (stpL (nrA R p.toNat))
  have hAn := riS_rng (l := nrA R p.toNat) (by omega) (by omega) (fun x hx => hR.rng x (List.mem_of_mem_take hx))
  by_cases hp : p.toNat + 1 = R.length
  · have hs : nearF R p.toNat = riS (nrA R p.toNat) (stpL (nrA R p.toNat)) + 0 := by
      unfold nearF
      rw [hAs, show R.take (p.toNat + 1) = nrA R p.toNat from rfl, hp, List.drop_length]; rfl
    have hC : nrC R p.toNat = catTo [riC (nrA R p.toNat) (stpL (nrA R p.toNat)), []] 2 := by
      unfold nrC; rw [if_pos hp]; rfl
    have hcat := Concat_spec [riC (nrA R p.toNat) (stpL (nrA R p.toNat)), []] (by show 1 ≤ 0 + (riC (nrA R p.toNat) (stpL (nrA R p.toNat))).length + 0; rw [hAc]; omega) (by show 0 + (riC (nrA R p.toNat) (stpL (nrA R p.toNat))).length + 0 ≤ 1000; rw [hAc]; omega) (by simp)
    rw [hs, hC]
    have fB1 : R.length - (p + 1).toNat = ([] : List Int).length := by show _ = 0; omega
    have fB2 : ∀ j, j < R.length - (p + 1).toNat → (fun i => (fun i => int (R.getD i 0)) ((p + 1).toNat + i)) j = int (([] : List Int).getD j 0) := fun j hj => by omega
    have hcl := Clone_none
    have hrv := Reverse_none
    have hr0 := rise_none
    generalize riS (nrA R p.toNat) (stpL (nrA R p.toNat)) = s at *
    generalize riC (nrA R p.toNat) (stpL (nrA R p.toNat)) = C at *
    generalize nrA R p.toNat = A at *
    refine Fn.of_ex (cuts := []) tys hM Try.func60 rfl Try.call60 rfl ?_
    show exC Try.prog T [] _ false none 0 (entry 45 [cupD R, int p]) (finQ T [ResultVar.cell 4 87] _)
    conv => whnf
    repeat' first | ((first | refine Ob.a ?_ | refine Sp.tt ?_ | refine Sp.ff ?_ | refine Sp.yes ?_ | refine Sp.no ?_ | refine Sp.nyes ?_ | refine Sp.nno ?_);conv=>whnf) | (refine Sp.ne (fun hc => ?_) (fun hc => ?_) <;> (conv=>whnf)) | (refine Sp.dec (fun hc => ?_) (fun hc => ?_) <;> (conv=>whnf)) | (refine Sp.ndec (fun hc => ?_) (fun hc => ?_) <;> (conv=>whnf)) | (refine Sp.mk (fun hc => ?_) (fun hc => ?_) <;> (conv=>whnf)) | (apply Cl.fr;(conv=>whnf); (first | (refine Ob.frX (hA) ?_ ?_ ?_;(focus exact Lf); (focus exact Lf)));(conv=>whnf)) | (apply Cl.go;(conv=>whnf); (first | refine Ob.call (hcl) ?_ | refine Ob.call (hrv) ?_ | refine Ob.call (hr0) ?_ | refine Ob.call (hcat) ?_);(conv=>whnf)) | (refine Nx.mk (fun ka kb kx hx hs => ?_) (fun he => ?_) <;> (conv=>whnf)) | (refine Nx.mk (fun ka kx hx hs => ?_) (fun he => ?_) <;> (conv=>whnf)) | (refine Uk.mk (fun hn => ?_) ?_ <;> (conv=>whnf)) | (refine Ap.a ?_ ?_ <;> (conv=>whnf)) | (refine Fi.a ?_;conv=>whnf) | (refine Yl.a ?_ ?_ <;> (conv=>whnf)) | (refine Ob.b ?_;conv=>whnf)
    all_goals exact Lf
  · have hDl : (R.drop (p.toNat + 1)).length = R.length - (p.toNat + 1) := List.length_drop
    have hBl : (nrB R p.toNat).length = R.length - (p.toNat + 1) := by unfold nrB; rw [List.length_reverse]; exact hDl
    have hBv : ∀ x ∈ nrB R p.toNat, 0 ≤ x ∧ x ≤ 1000 := fun x hx => hR.rng x (List.mem_of_mem_drop (List.mem_reverse.1 hx))
    have hB := rise_spec (nrB R p.toNat) (by omega) (by omega) hBv
    have hBs := ris_iso (l := nrB R p.toNat) (by omega)
    have hBc := riC_len (nrB R p.toNat) (stpL (nrB R p.toNat))
    have hBn := riS_rng (l := nrB R p.toNat) (by omega) (by omega) hBv
    have hs : nearF R p.toNat = riS (nrA R p.toNat) (stpL (nrA R p.toNat)) + riS (nrB R p.toNat) (stpL (nrB R p.toNat)) := by
      unfold nearF
      rw [hAs, hBs]; rfl
    have hC : nrC R p.toNat = catTo [riC (nrA R p.toNat) (stpL (nrA R p.toNat)), (riC (nrB R p.toNat) (stpL (nrB R p.toNat))).reverse] 2 := by
      unfold nrC; rw [if_neg hp]; rfl
    have hcat := Concat_spec [riC (nrA R p.toNat) (stpL (nrA R p.toNat)), (riC (nrB R p.toNat) (stpL (nrB R p.toNat))).reverse] (by show 1 ≤ 0 + (riC (nrA R p.toNat) (stpL (nrA R p.toNat))).length + (riC (nrB R p.toNat) (stpL (nrB R p.toNat))).reverse.length; rw [hAc]; omega)
      (by show 0 + (riC (nrA R p.toNat) (stpL (nrA R p.toNat))).length + (riC (nrB R p.toNat) (stpL (nrB R p.toNat))).reverse.length ≤ 1000; rw [List.length_reverse, hAc, hBc]; omega) (by simp)
    rw [hs, hC]
    have hcl := Clone_spec (R.drop (p.toNat + 1)) (by omega) (by omega)
    have hrv := Reverse_spec (R.drop (p.toNat + 1)) (by omega)
    have hrc := Reverse_spec (riC (nrB R p.toNat) (stpL (nrB R p.toNat))) (by omega)
    have hnb : nrB R p.toNat = (R.drop (p.toNat + 1)).reverse := rfl
    rw [← hnb] at hrv
    have fB1 : R.length - (p + 1).toNat = (R.drop (p.toNat + 1)).length := by omega
    have fB2 : ∀ j, j < R.length - (p + 1).toNat → (fun i => (fun i => int (R.getD i 0)) ((p + 1).toNat + i)) j = int ((R.drop (p.toNat + 1)).getD j 0) := fun j hj => by
      show int _ = int _
      rw [getD_drop, show (p + 1).toNat = p.toNat + 1 by omega]
    have hBl2 : (R.drop (p.toNat + 1)).length = (nrB R p.toNat).length := by omega
    rw [hBc] at hrc
    have hrl : (riC (nrB R p.toNat) (stpL (nrB R p.toNat))).reverse.length = (nrB R p.toNat).length := by rw [List.length_reverse, hBc]
    clear hnb hDl
    generalize riS (nrA R p.toNat) (stpL (nrA R p.toNat)) = s at *
    generalize riC (nrA R p.toNat) (stpL (nrA R p.toNat)) = C at *
    generalize riS (nrB R p.toNat) (stpL (nrB R p.toNat)) = s' at *
    generalize riC (nrB R p.toNat) (stpL (nrB R p.toNat)) = C' at *
    generalize C'.reverse = C'' at *
    generalize nrA R p.toNat = A at *
    generalize nrB R p.toNat = B at *
    generalize R.drop (p.toNat + 1) = D at *
    refine Fn.of_ex (cuts := []) tys hM Try.func60 rfl Try.call60 rfl ?_
    show exC Try.prog T [] _ false none 0 (entry 45 [cupD R, int p]) (finQ T [ResultVar.cell 4 87] _)
    conv => whnf
    repeat' first | ((first | refine Ob.a ?_ | refine Sp.tt ?_ | refine Sp.ff ?_ | refine Sp.yes ?_ | refine Sp.no ?_ | refine Sp.nyes ?_ | refine Sp.nno ?_);conv=>whnf) | (refine Sp.ne (fun hc => ?_) (fun hc => ?_) <;> (conv=>whnf)) | (refine Sp.dec (fun hc => ?_) (fun hc => ?_) <;> (conv=>whnf)) | (refine Sp.ndec (fun hc => ?_) (fun hc => ?_) <;> (conv=>whnf)) | (refine Sp.mk (fun hc => ?_) (fun hc => ?_) <;> (conv=>whnf)) | (apply Cl.ip;(conv=>whnf); (first | (refine Ob.ipX (hrv) ?_ ?_ ?_ ?_ ?_;(focus (first | exact rfl | omega)); (focus exact Lf); (focus exact Lf); (focus exact Lf)) | (refine Ob.ipX (hrc) ?_ ?_ ?_ ?_ ?_;(focus (first | exact rfl | omega)); (focus exact Lf); (focus exact Lf); (focus exact Lf)));(conv=>whnf)) | (apply Cl.fr;(conv=>whnf); (first | (refine Ob.frX (hA) ?_ ?_ ?_;(focus exact Lf); (focus exact Lf)) | (refine Ob.frX (hcl) ?_ ?_ ?_;(focus exact Lf); (focus exact Lf)) | (refine Ob.frX (hB) ?_ ?_ ?_;(focus exact Lf); (focus exact Lf)));(conv=>whnf)) | (apply Cl.go;(conv=>whnf); (first | refine Ob.call (hcat) ?_);(conv=>whnf)) | (refine Nx.mk (fun ka kb kx hx hs => ?_) (fun he => ?_) <;> (conv=>whnf)) | (refine Nx.mk (fun ka kx hx hs => ?_) (fun he => ?_) <;> (conv=>whnf)) | (refine Uk.mk (fun hn => ?_) ?_ <;> (conv=>whnf)) | (refine Ap.a ?_ ?_ <;> (conv=>whnf)) | (refine Fi.a ?_;conv=>whnf) | (refine Yl.a ?_ ?_ <;> (conv=>whnf)) | (refine Ob.b ?_;conv=>whnf)
    all_goals exact Lf
end Go.Px.Try
