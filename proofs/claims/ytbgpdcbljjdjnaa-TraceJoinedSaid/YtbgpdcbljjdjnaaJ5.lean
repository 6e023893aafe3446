/- Texts of this proof, joined (Tl1, Tf7, Tp6, Tm10, Tp7, Tp8, Tl2, Tm11, Tm12, Tp9, Tp10, Tm9, Tp3, Tp4, Tp5, Tp11, Tp12, Tl3, Tf8): a small program logic over the model, and what functions of the program give. No statement of the seat is proved here. -/
import Derived.Test.YtbgpdcbljjdjnaaJ4
set_option linter.unusedVariables false
set_option linter.unusedSimpArgs false

/-! Tl1 -/
namespace Go.Px.Try
open Go Go.Proofs Go.Px
set_option maxRecDepth 100000
theorem getD_rev {l : List Int} {i : Nat} (h : i < l.length) : l.reverse.getD i 0 = l.getD (l.length - 1 - i) 0 := by
 rw [List.getD_eq_getElem?_getD, List.getD_eq_getElem?_getD, List.getElem?_reverse h]
theorem list_eq {l l' : List Int} (hl : l.length = l'.length) (h : ∀ i, i < l.length → l.getD i 0 = l'.getD i 0) : l = l' := by
 apply List.ext_getElem?
 intro j
 by_cases hj : j < l.length
 ·have := h j hj
  rw [List.getD_eq_getElem?_getD, List.getD_eq_getElem?_getD, List.getElem?_eq_getElem hj, List.getElem?_eq_getElem (by omega)] at this
  rw [List.getElem?_eq_getElem hj, List.getElem?_eq_getElem (by omega)]
  simpa using this
 ·rw [List.getElem?_eq_none (by omega), List.getElem?_eq_none (by omega)]
/-- A row of which i elements at each end are exchanged. -/
def rvF (L : List Int) (i a : Nat) : Int := if a < i ∨ L.length ≤ a + i then L.getD (L.length - 1 - a) 0 else L.getD a 0
def rvL (L : List Int) (i : Nat) : List Int := (List.range L.length).map (rvF L i)
theorem rvL_len (L : List Int) (i : Nat) : (rvL L i).length = L.length := by simp [rvL]
theorem rvL_at {L : List Int} {i a : Nat} (h : a < L.length) : (rvL L i).getD a 0 = rvF L i a := by
 unfold rvL
 rw [List.getD_eq_getElem?_getD, List.getElem?_map, List.getElem?_range h]; rfl
theorem rvL_zero (L : List Int) : rvL L 0 = L := list_eq (rvL_len L 0) fun i hi => by
 rw [rvL_len] at hi
 show (rvL L 0).getD i 0 = L.getD i 0
 rw [rvL_at hi, rvF, if_neg (by omega)]
theorem rvL_end {L : List Int} {i : Nat} (h : L.length ≤ i + i + 1) : rvL L i = L.reverse := list_eq (by rw [rvL_len, List.length_reverse]) fun a ha => by
 rw [rvL_len] at ha
 show (rvL L i).getD a 0 = L.reverse.getD a 0
 rw [rvL_at ha, getD_rev ha, rvF]
 by_cases hc : a < i ∨ L.length ≤ a + i
 ·rw [if_pos hc]
 ·rw [if_neg hc]; congr 1; omega
theorem rvL_step {L : List Int} {i : Nat} (h : i + i + 1 < L.length) : ∀ a, a < L.length → (rvL L (i + 1)).getD a 0 = if a = L.length - 1 - i then (rvL L i).getD i 0 else if a = i then (rvL L i).getD (L.length - 1 - i) 0 else (rvL L i).getD a 0 := fun a ha => by
 rw [rvL_at ha, rvL_at ha, rvL_at (by omega), rvL_at (by omega)]
 unfold rvF
 by_cases e1 : a = L.length - 1 - i
 ·rw [if_pos e1, if_pos (by omega), if_neg (by omega)]; congr 1; omega
 ·rw [if_neg e1]
  by_cases e2 : a = i
  ·rw [if_pos e2, if_pos (by omega), if_neg (by omega)]; congr 1; omega
  ·rw [if_neg e2]
   by_cases e3 : a < i ∨ L.length ≤ a + i
   ·rw [if_pos e3, if_pos (by omega)]
   ·rw [if_neg e3, if_neg (by omega)]
set_option maxHeartbeats 8000000 in
theorem Reverse_spec (L : List Int) (h1 : L.length < 1000) : FnI Try.prog 112 3 1 L.length (rowOf int 0 L) (rowOf int 0 L.reverse) [] (.d .top) := by
 have hln := rvL_len L
 have hst : ∀ i : Int, 0 ≤ i → i < L.length - 1 - i → ∀ a, a < L.length → (rvL L (i + 1).toNat).getD a 0 = if a = 0 + (L.length - 1 - i : Int).toNat then (rvL L i.toNat).getD (0 + i.toNat) 0 else if a = 0 + i.toNat then (rvL L i.toNat).getD (0 + (L.length - 1 - i : Int).toNat) 0 else (rvL L i.toNat).getD a 0 := fun i i0 i1 a ha => by
  rw [show (i + 1).toNat = i.toNat + 1 by omega, Nat.zero_add, Nat.zero_add, show (L.length - 1 - i : Int).toNat = L.length - 1 - i.toNat by omega]
  exact rvL_step (by omega) a ha
 have hend : ∀ i : Int, 0 ≤ i → ¬ i < L.length - 1 - i → rvL L i.toNat = L.reverse := fun i i0 i1 => rvL_end (by omega)
 have hz : L = rvL L (Int.toNat 0) := (rvL_zero L).symm
 generalize L.reverse = fin at *
 generalize rvL L = X at *
 refine FnI.of_ex (cuts := []) tys hM Try.func112 rfl Try.call112 rfl ?_
 show exC Try.prog T [] _ false none 1 (entryI 28 _ _ _ _ []) (finG T 1 [] _ _)
 conv => whnf
 repeat' first | ((first | refine Ob.a ?_ | refine Sp.tt ?_ | refine Sp.ff ?_ | refine Sp.yes ?_ | refine Sp.no ?_ | refine Sp.nyes ?_ | refine Sp.nno ?_ | refine Fi.a ?_);conv=>whnf) | ((first | refine Sp.ne ?_ ?_ | refine Sp.dec ?_ ?_ | refine Sp.ndec ?_ ?_ | refine Sp.mk ?_ ?_) <;> intro hc <;> conv => whnf) | (refine Ob.b ?_;conv=>whnf)
 refine Lp.snap [0] 100 ?_
 (conv=>whnf)
 refine LpB.go 28 ({q : Int × List Int // (0 ≤ q.1 ∧ q.1 ≤ L.length) ∧ q.2 = X q.1.toNat}) 0 (fun ⟨(i, M), _⟩ nx => ([(2, .d (int i)), (3, .d (int (L.length - 1 - i)))], [(0, .row true 3 1 L.length (rowOf int 0 M))])) (fun p => (L.length - p.1.1).toNat) (⟨(0, L), ⟨by simp, by simp⟩, hz⟩) ?_ ?_
 ·rintro ⟨⟨i, M⟩, ⟨i0, i1⟩, hM⟩
  simp only at i0 i1 hM
  by_cases hi : i < L.length - 1 - i
  ·have e := hst i i0 hi
   rw [← hM] at e
   have e2 : (L.length : Int) - 1 - i - 1 = L.length - 1 - (i + 1) := by omega
   conv => whnf
   repeat' first | ((first | refine Ob.a ?_ | refine Sp.tt ?_ | refine Sp.ff ?_ | refine Sp.yes ?_ | refine Sp.no ?_ | refine Sp.nyes ?_ | refine Sp.nno ?_ | refine Fi.a ?_);conv=>whnf) | ((first | refine Sp.ne ?_ ?_ | refine Sp.dec ?_ ?_ | refine Sp.ndec ?_ ?_ | refine Sp.mk ?_ ?_) <;> intro hc <;> conv => whnf) | (refine Ob.b ?_;conv=>whnf)
   all_goals exact ⟨rfl, ⟨(i + 1, X (i + 1).toNat), ⟨by simp only; omega, by simp only; omega⟩, rfl⟩, Lf, by simp only; omega⟩
  ·have e := hend i i0 hi
   rw [← hM] at e
   subst e
   conv => whnf
   repeat' first | ((first | refine Ob.a ?_ | refine Sp.tt ?_ | refine Sp.ff ?_ | refine Sp.yes ?_ | refine Sp.no ?_ | refine Sp.nyes ?_ | refine Sp.nno ?_ | refine Fi.a ?_);conv=>whnf) | ((first | refine Sp.ne ?_ ?_ | refine Sp.dec ?_ ?_ | refine Sp.ndec ?_ ?_ | refine Sp.mk ?_ ?_) <;> intro hc <;> conv => whnf) | (refine Ob.b ?_;conv=>whnf)
   all_goals exact Lf
 ·exact Lf
end Go.Px.Try

/-! Tf7 -/
namespace Go.Px.Try
open Go Go.Proofs Go.Px
set_option maxRecDepth 100000
/-- A list that was copied, and grew at its end. -/
theorem ImpS.appd1 {α : Type} {t : Bool} {k n o : Nat} {enc : α → DV} {d : α} {L : List α} {x : α} {z g : Nat → DV} (hn : n = L.length + 1) (ho : o = L.length) (hg : g 0 = enc x) : ImpS (.sl t k n fun i => apd o (apd 0 z (fun i => enc (L.getD i d))) g (0 + i)) (slOf k enc d (L ++ [x])) := by
 subst ho; subst hn
 refine ⟨Imp.sl (fun e => by cases e) (by simp) fun j hj => Imp.of_eq ?_⟩
 rw [Nat.zero_add]
 unfold apd
 by_cases h : j < L.length
 ·rw [if_pos h, if_neg (by omega), Nat.sub_zero]
  show enc (L.getD j d) = _
  rw [List.getD_eq_getElem?_getD, List.getD_eq_getElem?_getD, List.getElem?_append_left h]
 ·have : j = L.length := by omega
  subst this
  rw [if_neg h, Nat.sub_self, hg, List.getD_eq_getElem?_getD, List.getElem?_append_right (Nat.le_refl _)]
  simp
def zl (l : List Nat) : List Int := l.map fun i : Nat => (i : Int)
theorem zl_len (l : List Nat) : (zl l).length = l.length := by simp [zl]
theorem zl_snoc (l : List Nat) (i : Nat) : zl (l ++ [i]) = zl l ++ [(i : Int)] := by simp [zl]
theorem mem_zl {l : List Nat} {x : Int} : x ∈ zl l ↔ ∃ i ∈ l, (i : Int) = x := by simp [zl]
theorem mem_zl_nat {l : List Nat} {i : Nat} : (i : Int) ∈ zl l ↔ i ∈ l := by
 rw [mem_zl]
 constructor
 ·rintro ⟨j, hj, e⟩; rwa [show i = j by omega]
 ·intro h; exact ⟨i, h, rfl⟩
theorem inZ_zl (l : List Nat) : inZ (zl l) = inS l := funext fun i => by
 unfold inZ
 rw [Bool.eq_iff_iff, decide_eq_true_eq, inS_iff, mem_zl_nat]
def grD (r : Option (List Nat)) : DV := match r with
 | some l => tpl [ints (zl l), bool true]
 | none => tpl [.top, bool false]
set_option maxHeartbeats 8000000 in
theorem grown_spec (F : List (List Int)) (bad : List Int) (lot : Int) (hk : BadOk F bad lot) (hbl : bad.length < 1000000) (many : Nat) (h10 : many ≤ 1000) : ∀ (f i : Nat) (begun : List Nat), i + f = F.length → begun.length ≤ i → (∀ k ∈ begun, k < 10) →
  Fn Try.prog 95 [mixD F, ints bad, int lot, ints (zl begun), int i, int many] (grD (grwR F (inZ bad) lot.toNat many f begun i))
 | f, i, begun, hf, hbg, hb10 => by
  have hm := hk.mix
  have hl10 := hm.l10
  have hl0 := hk.l0
  have hl1 := hk.l1
  have hz := zl_len begun
  have hG : ∀ (f' : Nat), f' < f → ∀ (q : Nat), q + 1 + f' = F.length → begun.length ≤ q → Fn Try.prog 95 [mixD F, ints bad, int lot, ints (zl begun ++ [(q : Int)]), int (q + 1 : Nat), int many] (grD (grwR F (inZ bad) lot.toNat many f' (begun ++ [q]) (q + 1))) := fun f' hf' q hq hbq => by
   have := grown_spec F bad lot hk hbl many h10 f' (q + 1) (begun ++ [q]) hq (by rw [List.length_append]; simp; omega) fun k hk => by
    rcases List.mem_append.1 hk with h | h
    ·exact hb10 k h
    ·rw [List.mem_singleton.1 h]; omega
   rw [zl_snoc] at this
   exact this
  by_cases hmany : begun.length = many
  ·have hbb := Bits_spec bad hbl fun x hx => by have := hk.ris.1 x hx; omega
   have hbc := Bits_spec (zl begun) (by omega) fun x hx => by
    obtain ⟨j, hj, rfl⟩ := mem_zl.1 hx
    have := hb10 j hj; omega
   have hF := Free_spec F hm (bitsOf bad) (bitsOf (zl begun)) (F.length + 1) lot hk.l0 (by omega) hk.l1
   rw [inZ_bits fun x hx => (hk.ris.1 x hx).1, inZ_bits fun x hx => by
    obtain ⟨j, hj, rfl⟩ := mem_zl.1 hx
    omega] at hF
   rw [inZ_zl] at hF
   have hun : grwR F (inZ bad) lot.toNat many f begun i = if fr F (inZ bad) (inS begun) lot.toNat = false then some begun else none := by
    unfold grwR; rw [if_pos hmany]
   rw [hun]
   have hzm : ((zl begun).length : Int) = many := by omega
   clear hun hG
   generalize fr F (inZ bad) (inS begun) lot.toNat = b at *
   cases b with
   | false =>
    rw [if_pos rfl]
    show Fn Try.prog _ _ (tpl [ints (zl begun), bool true])
    generalize zl begun = zb at *
    refine Fn.of_ex (cuts := []) tys hM Try.func95 rfl Try.call95 rfl ?_
    show exC Try.prog T [] _ false none 0 (entry 59 [mixD F, ints bad, int lot, ints zb, int i, int many]) (finQ T [ResultVar.tmp 12, ResultVar.tmp 13] _)
    conv => whnf
    repeat' first | ((first | refine Ob.a ?_ | refine Sp.tt ?_ | refine Sp.ff ?_ | refine Sp.yes ?_ | refine Sp.no ?_ | refine Sp.nyes ?_ | refine Sp.nno ?_ | refine Fi.a ?_);conv=>whnf) | ((first | refine Sp.ne ?_ ?_ | refine Sp.dec ?_ ?_ | refine Sp.ndec ?_ ?_ | refine Sp.mk ?_ ?_) <;> intro hc <;> conv => whnf) | (apply Cl.go;(conv=>whnf); (first | refine Ob.call (hbb) ?_ | refine Ob.call (hbc) ?_ | refine Ob.call (hF) ?_);(conv=>whnf)) | (refine Ob.b ?_;conv=>whnf)
    all_goals first | exact Lf | (exfalso; omega)
   | true =>
    rw [if_neg (by simp)]
    generalize zl begun = zb at *
    refine Fn.of_ex (cuts := []) tys hM Try.func95 rfl Try.call95 rfl ?_
    show exC Try.prog T [] _ false none 0 (entry 59 [mixD F, ints bad, int lot, ints zb, int i, int many]) (finQ T [ResultVar.tmp 12, ResultVar.tmp 13] _)
    conv => whnf
    repeat' first | ((first | refine Ob.a ?_ | refine Sp.tt ?_ | refine Sp.ff ?_ | refine Sp.yes ?_ | refine Sp.no ?_ | refine Sp.nyes ?_ | refine Sp.nno ?_ | refine Fi.a ?_);conv=>whnf) | ((first | refine Sp.ne ?_ ?_ | refine Sp.dec ?_ ?_ | refine Sp.ndec ?_ ?_ | refine Sp.mk ?_ ?_) <;> intro hc <;> conv => whnf) | (apply Cl.go;(conv=>whnf); (first | refine Ob.call (hbb) ?_ | refine Ob.call (hbc) ?_ | refine Ob.call (hF) ?_);(conv=>whnf)) | (refine Ob.b ?_;conv=>whnf)
    all_goals first | exact Lf | (exfalso; omega)
  ·have hzm : ¬ ((zl begun).length : Int) = many := by omega
   have hun : ∀ f i, grwR F (inZ bad) lot.toNat many (f + 1) begun i = if i = lot.toNat then grwR F (inZ bad) lot.toNat many f begun (i + 1) else
    match grwR F (inZ bad) lot.toNat many f (begun ++ [i]) (i + 1) with
    | some l => some l
    | none => grwR F (inZ bad) lot.toNat many f begun (i + 1) := fun f i => by
     rw [grwR, if_neg hmany]
     rfl
   have hun0 : ∀ i, grwR F (inZ bad) lot.toNat many 0 begun i = none := fun i => by
     rw [grwR, if_neg hmany]
   generalize hfin : grwR F (inZ bad) lot.toNat many f begun i = fin
   have hzl : (zl begun).length ≤ i := by omega
   generalize zl begun = zb at *
   refine Fn.of_ex (cuts := []) tys hM Try.func95 rfl Try.call95 rfl ?_
   show exC Try.prog T [] _ false none 0 (entry 59 [mixD F, ints bad, int lot, ints zb, int i, int many]) (finQ T [ResultVar.tmp 12, ResultVar.tmp 13] _)
   conv => whnf
   repeat' first | ((first | refine Ob.a ?_ | refine Sp.tt ?_ | refine Sp.ff ?_ | refine Sp.yes ?_ | refine Sp.no ?_ | refine Sp.nyes ?_ | refine Sp.nno ?_ | refine Fi.a ?_);conv=>whnf) | ((first | refine Sp.ne ?_ ?_ | refine Sp.dec ?_ ?_ | refine Sp.ndec ?_ ?_ | refine Sp.mk ?_ ?_) <;> intro hc <;> conv => whnf) | (refine Ob.b ?_;conv=>whnf)
   all_goals try (exfalso; omega)
   refine Lp.snap [0, 1, 2, 3, 4, 5, 6] 40 ?_
   (conv=>whnf)
   refine LpB.go 59 ({q : Int // (i ≤ q ∧ q ≤ F.length) ∧ grwR F (inZ bad) lot.toNat many (F.length - q).toNat begun q.toNat = fin}) 0 (fun ⟨q, _⟩ nx => ([(14, .d (int q))], [])) (fun p => (F.length - p.1).toNat) (⟨i, ⟨by omega, by omega⟩, by rw [show (F.length - (i : Int)).toNat = f by omega, Int.toNat_natCast]; exact hfin⟩) ?_ ?_
   ·rintro ⟨q, ⟨q0, q1⟩, hinv⟩
    by_cases hq : q < F.length
    ·obtain ⟨f', hf'⟩ : ∃ f', (F.length - q).toNat = f' + 1 := ⟨(F.length - q).toNat - 1, by omega⟩
     rw [hf', hun] at hinv
     by_cases hql : q = lot
     ·rw [if_pos (by rw [hql])] at hinv
      have e : grwR F (inZ bad) lot.toNat many (F.length - (q + 1)).toNat begun (q + 1).toNat = fin := by
       rw [show (F.length - (q + 1)).toNat = f' by omega, show (q + 1).toNat = q.toNat + 1 by omega]; exact hinv
      conv => whnf
      repeat' first | ((first | refine Ob.a ?_ | refine Sp.tt ?_ | refine Sp.ff ?_ | refine Sp.yes ?_ | refine Sp.no ?_ | refine Sp.nyes ?_ | refine Sp.nno ?_ | refine Fi.a ?_);conv=>whnf) | ((first | refine Sp.ne ?_ ?_ | refine Sp.dec ?_ ?_ | refine Sp.ndec ?_ ?_ | refine Sp.mk ?_ ?_) <;> intro hc <;> conv => whnf) | (refine Ob.b ?_;conv=>whnf)
      all_goals first | exact ⟨rfl, ⟨q + 1, ⟨by omega, by omega⟩, e⟩, Lf, by simp only; omega⟩ | (exfalso; omega)
     ·rw [if_neg (by omega)] at hinv
      have hG := hG f' (by omega) q.toNat (by omega) (by omega)
      rw [Int.toNat_of_nonneg (show 0 ≤ q by omega), show ((q.toNat + 1 : Nat) : Int) = q + 1 by omega] at hG
      have e0 : grwR F (inZ bad) lot.toNat many f' begun (q.toNat + 1) = fin → grwR F (inZ bad) lot.toNat many (F.length - (q + 1)).toNat begun (q + 1).toNat = fin := fun e => by
       rw [show (F.length - (q + 1)).toNat = f' by omega, show (q + 1).toNat = q.toNat + 1 by omega]; exact e
      generalize grwR F (inZ bad) lot.toNat many f' (begun ++ [q.toNat]) (q.toNat + 1) = r at *
      cases r with
      | some l =>
       have e : some l = fin := hinv
       subst e
       conv => whnf
       repeat' first | ((first | refine Ob.a ?_ | refine Sp.tt ?_ | refine Sp.ff ?_ | refine Sp.yes ?_ | refine Sp.no ?_ | refine Sp.nyes ?_ | refine Sp.nno ?_ | refine Fi.a ?_);conv=>whnf) | ((first | refine Sp.ne ?_ ?_ | refine Sp.dec ?_ ?_ | refine Sp.ndec ?_ ?_ | refine Sp.mk ?_ ?_) <;> intro hc <;> conv => whnf) | (refine Ob.b ?_;conv=>whnf)
       apply Cl.go
       (conv=>whnf)
       refine Ob.fn ?_ ?_ ?_ (hG)
       rotate_left
       all_goals try (repeat' first | (refine Edge.fast ?_) | ((conv=>whnf); first | exact True.intro | (refine And.intro ?_ ?_) | exact rfl | exact Nat.le_of_eq (Nat.zero_add _) | exact ImpS.refl _ | ((conv => arg 1; whnf); first | exact ImpS.refl _ | (refine ImpS.nil_eq ?_) | (refine ImpS.vnil_eq ?_) | (refine ImpS.row ?_) | (refine ImpS.rowN ?_ ?_) | (refine ImpS.sl_eq ?_) | (refine ImpS.expl rfl ?_)) | (refine row_snoc' ?_) | (apply row_upd) | exact cimp_none | exact cimp_same | exact List.not_mem_nil | exact DImp.refl _) | exact rfl | (refine And.intro ?_ ?_) | exact ImpS.refl _)
       all_goals try first | assumption | omega
       ·conv => whnf
        conv => arg 1; whnf
        exact ImpS.appd1 (by omega) (by omega) rfl
       conv => whnf
       repeat' first | ((first | refine Ob.a ?_ | refine Sp.tt ?_ | refine Sp.ff ?_ | refine Sp.yes ?_ | refine Sp.no ?_ | refine Sp.nyes ?_ | refine Sp.nno ?_ | refine Fi.a ?_);conv=>whnf) | ((first | refine Sp.ne ?_ ?_ | refine Sp.dec ?_ ?_ | refine Sp.ndec ?_ ?_ | refine Sp.mk ?_ ?_) <;> intro hc <;> conv => whnf) | (refine Ob.b ?_;conv=>whnf)
       all_goals first | exact Lf | (exfalso; omega)
      | none =>
       have e := e0 hinv
       conv => whnf
       repeat' first | ((first | refine Ob.a ?_ | refine Sp.tt ?_ | refine Sp.ff ?_ | refine Sp.yes ?_ | refine Sp.no ?_ | refine Sp.nyes ?_ | refine Sp.nno ?_ | refine Fi.a ?_);conv=>whnf) | ((first | refine Sp.ne ?_ ?_ | refine Sp.dec ?_ ?_ | refine Sp.ndec ?_ ?_ | refine Sp.mk ?_ ?_) <;> intro hc <;> conv => whnf) | (refine Ob.b ?_;conv=>whnf)
       apply Cl.go
       (conv=>whnf)
       refine Ob.fn ?_ ?_ ?_ (hG)
       rotate_left
       all_goals try (repeat' first | (refine Edge.fast ?_) | ((conv=>whnf); first | exact True.intro | (refine And.intro ?_ ?_) | exact rfl | exact Nat.le_of_eq (Nat.zero_add _) | exact ImpS.refl _ | ((conv => arg 1; whnf); first | exact ImpS.refl _ | (refine ImpS.nil_eq ?_) | (refine ImpS.vnil_eq ?_) | (refine ImpS.row ?_) | (refine ImpS.rowN ?_ ?_) | (refine ImpS.sl_eq ?_) | (refine ImpS.expl rfl ?_)) | (refine row_snoc' ?_) | (apply row_upd) | exact cimp_none | exact cimp_same | exact List.not_mem_nil | exact DImp.refl _) | exact rfl | (refine And.intro ?_ ?_) | exact ImpS.refl _)
       all_goals try first | assumption | omega
       ·conv => whnf
        conv => arg 1; whnf
        exact ImpS.appd1 (by omega) (by omega) rfl
       conv => whnf
       repeat' first | ((first | refine Ob.a ?_ | refine Sp.tt ?_ | refine Sp.ff ?_ | refine Sp.yes ?_ | refine Sp.no ?_ | refine Sp.nyes ?_ | refine Sp.nno ?_ | refine Fi.a ?_);conv=>whnf) | ((first | refine Sp.ne ?_ ?_ | refine Sp.dec ?_ ?_ | refine Sp.ndec ?_ ?_ | refine Sp.mk ?_ ?_) <;> intro hc <;> conv => whnf) | (refine Ob.b ?_;conv=>whnf)
       all_goals first | exact ⟨rfl, ⟨q + 1, ⟨by omega, by omega⟩, e⟩, Lf, by simp only; omega⟩ | (exfalso; omega)
    ·have e : fin = none := by rw [← hinv, show (F.length - q).toNat = 0 by omega]; exact hun0 _
     subst e
     conv => whnf
     repeat' first | ((first | refine Ob.a ?_ | refine Sp.tt ?_ | refine Sp.ff ?_ | refine Sp.yes ?_ | refine Sp.no ?_ | refine Sp.nyes ?_ | refine Sp.nno ?_ | refine Fi.a ?_);conv=>whnf) | ((first | refine Sp.ne ?_ ?_ | refine Sp.dec ?_ ?_ | refine Sp.ndec ?_ ?_ | refine Sp.mk ?_ ?_) <;> intro hc <;> conv => whnf) | (refine Ob.b ?_;conv=>whnf)
     all_goals first | exact Lf | (exfalso; omega)
   ·exact Lf
 termination_by f => f
end Go.Px.Try

/-! Tp6 -/
namespace Go.Px.Try
open Go Go.Proofs Go.Px
set_option maxRecDepth 100000
open Classical in
/-- A map that has 1 for each edge of a set. -/
noncomputable def edM (p : Int → Int → Prop) : List Int → Option Int := fun k => match k with
 | [u, v] => if p u v then some 1 else none
 | _ => none
open Classical in
theorem edM_congr {p q : Int → Int → Prop} (h : ∀ u v, p u v ↔ q u v) : MImp (edM p) (edM q) := fun k => by
 unfold edM
 split
 ·rename_i u v
  rw [propext (h u v)]
 ·rfl
open Classical in
theorem edM_upd {p q : Int → Int → Prop} {a b : Int} (h : ∀ u v, q u v ↔ p u v ∨ (u = a ∧ v = b)) : MImp (updM (edM p) [a, b] 1) (edM q) := fun k => by
 unfold updM
 by_cases e : k = [a, b]
 ·rw [if_pos e, e]
  show _ = if q a b then some 1 else none
  rw [if_pos ((h a b).2 (.inr ⟨rfl, rfl⟩))]
 ·rw [if_neg e]
  unfold edM
  split
  ·rename_i u v
   have : p u v ↔ q u v := by
    rw [h]
    exact ⟨.inl, fun hq => hq.resolve_right fun ⟨h1, h2⟩ => e (by rw [h1, h2])⟩
   rw [propext this]
  ·rfl
open Classical in
theorem edM_del {p q : Int → Int → Prop} {a b : Int} (h : ∀ u v, q u v ↔ p u v ∧ ¬ (u = a ∧ v = b)) : MImp (delM (edM p) [a, b]) (edM q) := fun k => by
 unfold delM
 by_cases e : k = [a, b]
 ·rw [if_pos e, e]
  show _ = if q a b then some 1 else none
  rw [if_neg fun hq => ((h a b).1 hq).2 ⟨rfl, rfl⟩]
 ·rw [if_neg e]
  unfold edM
  split
  ·rename_i u v
   have : p u v ↔ q u v := by
    rw [h]
    exact ⟨fun hp => ⟨hp, fun ⟨h1, h2⟩ => e (by rw [h1, h2])⟩, fun h => h.1⟩
   rw [propext this]
  ·rfl
open Classical in
theorem edM_none {p : Int → Int → Prop} (h : ∀ u v, ¬ p u v) : MImp (fun _ => none) (edM p) := fun k => by
 unfold edM
 split
 ·rw [if_neg (h _ _)]
 ·rfl
theorem in_spec (x : Int) (h0 : 0 ≤ x) (h1 : x ≤ 1000) : Fn Try.prog 90 [int x] (int (1 + 2 * x)) := by
 refine Fn.of_ex (cuts := []) tys hM Try.func90 rfl Try.call90 rfl ?_
 show exC Try.prog T [] _ false none 0 (entry 6 [int x]) (finQ T [ResultVar.tmp 2] _)
 conv => whnf
 repeat' first | ((first | refine Ob.a ?_ | refine Sp.tt ?_ | refine Sp.ff ?_ | refine Sp.yes ?_ | refine Sp.no ?_ | refine Sp.nyes ?_ | refine Sp.nno ?_ | refine Fi.a ?_);conv=>whnf) | ((first | refine Sp.ne ?_ ?_ | refine Sp.dec ?_ ?_ | refine Sp.ndec ?_ ?_ | refine Sp.mk ?_ ?_) <;> intro hc <;> conv => whnf) | (refine Ob.b ?_;conv=>whnf)
 all_goals exact Lf
theorem out_spec (x : Int) (h0 : 0 ≤ x) (h1 : x ≤ 1000) : Fn Try.prog 94 [int x] (int (2 + 2 * x)) := by
 refine Fn.of_ex (cuts := []) tys hM Try.func94 rfl Try.call94 rfl ?_
 show exC Try.prog T [] _ false none 0 (entry 6 [int x]) (finQ T [ResultVar.tmp 2] _)
 conv => whnf
 repeat' first | ((first | refine Ob.a ?_ | refine Sp.tt ?_ | refine Sp.ff ?_ | refine Sp.yes ?_ | refine Sp.no ?_ | refine Sp.nyes ?_ | refine Sp.nno ?_ | refine Fi.a ?_);conv=>whnf) | ((first | refine Sp.ne ?_ ?_ | refine Sp.dec ?_ ?_ | refine Sp.ndec ?_ ?_ | refine Sp.mk ?_ ?_) <;> intro hc <;> conv => whnf) | (refine Ob.b ?_;conv=>whnf)
 all_goals exact Lf
theorem room1_spec (i : Int) (W : List Int) (hW : W.length < 1000000) : Fn Try.prog 111 [int i, .pt (.ag 1 fun _ => ints W) 0] (bool (decide (i ∈ W))) := by
 have hc := contains_spec W i hW
 generalize decide (i ∈ W) = b at *
 refine Fn.of_ex (cuts := []) tys hM Try.func111 rfl Try.call111 rfl ?_
 show exC Try.prog T [] _ false none 0 (entry 7 [int i, .pt (.ag 1 fun _ => ints W) 0]) (finQ T [ResultVar.tmp 3] _)
 conv => whnf
 repeat' first | ((first | refine Ob.a ?_ | refine Sp.tt ?_ | refine Sp.ff ?_ | refine Sp.yes ?_ | refine Sp.no ?_ | refine Sp.nyes ?_ | refine Sp.nno ?_ | refine Fi.a ?_);conv=>whnf) | ((first | refine Sp.ne ?_ ?_ | refine Sp.dec ?_ ?_ | refine Sp.ndec ?_ ?_ | refine Sp.mk ?_ ?_) <;> intro hc <;> conv => whnf) | (apply Cl.go;(conv=>whnf); (first | refine Ob.call (hc) ?_);(conv=>whnf)) | (refine Ob.b ?_;conv=>whnf)
 all_goals exact Lf
/-- The edges of the nodes below i; of the node i itself, up to k of its list. -/
def rmP (F : List (List Int)) (lot : Int) (i : Int) (u v : Int) : Prop := (∃ j : Int, 0 ≤ j ∧ j < i ∧ j ≠ lot ∧ u = 1 + 2 * j ∧ v = 2 + 2 * j) ∨ ∃ j x : Int, 0 ≤ j ∧ j < i ∧ x ∈ F.getD j.toNat [] ∧ u = 2 + 2 * x ∧ v = 1 + 2 * j
def rmI (lot : Int) (i : Int) (u v : Int) : Prop := i ≠ lot ∧ u = 1 + 2 * i ∧ v = 2 + 2 * i
def rmK (F : List (List Int)) (lot : Int) (i : Int) (k : Nat) (u v : Int) : Prop := rmP F lot i u v ∨ rmI lot i u v ∨ ∃ x : Int, x ∈ (F.getD i.toNat []).take k ∧ u = 2 + 2 * x ∧ v = 1 + 2 * i
def rmB (F : List (List Int)) (lot : Int) (bad : List Int) (b : Nat) (u v : Int) : Prop := rmP F lot F.length u v ∨ ∃ x : Int, x ∈ bad.take b ∧ u = 0 ∧ v = 1 + 2 * x
def rmD (F : List (List Int)) (lot : Int) (bad W : List Int) (i : Int) (u v : Int) : Prop := rmB F lot bad bad.length u v ∧ ¬ ∃ j : Int, 0 ≤ j ∧ j < i ∧ j ∈ W ∧ u = 1 + 2 * j ∧ v = 2 + 2 * j
theorem rmK_zero {F : List (List Int)} {lot i : Int} (u v : Int) : rmK F lot i 0 u v ↔ rmP F lot i u v ∨ rmI lot i u v := by
 unfold rmK
 refine or_congr_right ⟨fun h => h.resolve_right fun ⟨x, hx, _⟩ => by simp at hx, .inl⟩
theorem rmK_succ {F : List (List Int)} {lot i : Int} {k : Nat} (hk : k < (F.getD i.toNat []).length) (u v : Int) : rmK F lot i (k + 1) u v ↔ rmK F lot i k u v ∨ (u = 2 + 2 * (F.getD i.toNat []).getD k 0 ∧ v = 1 + 2 * i) := by
 unfold rmK
 rw [take_succ_getD _ k 0 hk, or_assoc, or_assoc]
 refine or_congr_right (or_congr_right ?_)
 constructor
 ·rintro ⟨x, hx, h1, h2⟩
  rcases List.mem_append.1 hx with h | h
  ·exact .inl ⟨x, h, h1, h2⟩
  ·rw [List.mem_singleton.1 h] at h1; exact .inr ⟨h1, h2⟩
 ·rintro (⟨x, hx, h1, h2⟩ | ⟨h1, h2⟩)
  ·exact ⟨x, List.mem_append_left _ hx, h1, h2⟩
  ·exact ⟨_, List.mem_append_right _ (List.mem_singleton.2 rfl), h1, h2⟩
theorem rmP_succ {F : List (List Int)} {lot i : Int} (i0 : 0 ≤ i) {k : Nat} (hk : k = (F.getD i.toNat []).length) (u v : Int) : rmK F lot i k u v ↔ rmP F lot (i + 1) u v := by
 subst hk
 unfold rmK rmP rmI
 rw [List.take_length]
 constructor
 ·rintro ((⟨j, a, b, h⟩ | ⟨j, x, a, b, h⟩) | ⟨a, b, c⟩ | ⟨x, a, b, c⟩)
  ·exact .inl ⟨j, a, by omega, h⟩
  ·exact .inr ⟨j, x, a, by omega, h⟩
  ·exact .inl ⟨i, i0, by omega, a, b, c⟩
  ·exact .inr ⟨i, x, i0, by omega, a, b, c⟩
 ·rintro (⟨j, a, b, h⟩ | ⟨j, x, a, b, h⟩)
  ·by_cases e : j = i
   ·subst e; exact .inr (.inl h)
   ·exact .inl (.inl ⟨j, a, by omega, h⟩)
  ·by_cases e : j = i
   ·subst e; exact .inr (.inr ⟨x, h⟩)
   ·exact .inl (.inr ⟨j, x, a, by omega, h⟩)
theorem rmB_succ {F : List (List Int)} {lot : Int} {bad : List Int} {b : Nat} (hb : b < bad.length) (u v : Int) : rmB F lot bad (b + 1) u v ↔ rmB F lot bad b u v ∨ (u = 0 ∧ v = 1 + 2 * bad.getD b 0) := by
 unfold rmB
 rw [take_succ_getD bad b 0 hb, or_assoc]
 refine or_congr_right ?_
 constructor
 ·rintro ⟨x, hx, h1, h2⟩
  rcases List.mem_append.1 hx with h | h
  ·exact .inl ⟨x, h, h1, h2⟩
  ·rw [List.mem_singleton.1 h] at h2; exact .inr ⟨h1, h2⟩
 ·rintro (⟨x, hx, h1, h2⟩ | ⟨h1, h2⟩)
  ·exact ⟨x, List.mem_append_left _ hx, h1, h2⟩
  ·exact ⟨_, List.mem_append_right _ (List.mem_singleton.2 rfl), h1, h2⟩
theorem rmB_zero {F : List (List Int)} {lot : Int} {bad : List Int} (u v : Int) : rmB F lot bad 0 u v ↔ rmP F lot F.length u v := by
 unfold rmB
 exact ⟨fun h => h.resolve_right fun ⟨x, hx, _⟩ => by simp at hx, .inl⟩
theorem rmD_zero {F : List (List Int)} {lot : Int} {bad W : List Int} (u v : Int) : rmD F lot bad W 0 u v ↔ rmB F lot bad bad.length u v := by
 unfold rmD
 exact ⟨fun h => h.1, fun h => ⟨h, fun ⟨j, a, b, _⟩ => by omega⟩⟩
theorem rmD_in {F : List (List Int)} {lot : Int} {bad W : List Int} {i : Int} (i0 : 0 ≤ i) (hi : i ∈ W) (u v : Int) : rmD F lot bad W (i + 1) u v ↔ rmD F lot bad W i u v ∧ ¬ (u = 1 + 2 * i ∧ v = 2 + 2 * i) := by
 unfold rmD
 rw [and_assoc]
 refine and_congr_right fun _ => ?_
 constructor
 ·intro h
  exact ⟨fun ⟨j, a, b, c⟩ => h ⟨j, a, by omega, c⟩, fun ⟨a, b⟩ => h ⟨i, i0, by omega, hi, a, b⟩⟩
 ·rintro ⟨h1, h2⟩ ⟨j, a, b, c, d, e⟩
  by_cases q : j = i
  ·subst q; exact h2 ⟨d, e⟩
  ·exact h1 ⟨j, a, by omega, c, d, e⟩
theorem rmD_out {F : List (List Int)} {lot : Int} {bad W : List Int} {i : Int} (hi : i ∉ W) (u v : Int) : rmD F lot bad W i u v ↔ rmD F lot bad W (i + 1) u v := by
 unfold rmD
 refine and_congr_right fun _ => not_congr ⟨fun ⟨j, a, b, c⟩ => ⟨j, a, by omega, c⟩, fun ⟨j, a, b, c, d⟩ => ⟨j, a, ?_, c, d⟩⟩
 have : j ≠ i := fun e => hi (e ▸ c)
 omega
set_option maxHeartbeats 16000000 in
theorem room_spec (F : List (List Int)) (hs : SmallM F) (bad : List Int) (lot : Int) (hk : BadOk F bad lot) (hbl : bad.length < 1000000) (W : List Int) (hW : W.length < 1000000) :
  FnN Try.prog 88 [netD F (ints bad) lot, ints W] (.mp true ⟨true, 2⟩ (edM (rmD F lot bad W F.length))) (.mp 0) := by
 have hm := hk.mix
 have hl10 := hm.l10
 have hL := list_spec F (ints bad) lot
 have hsq := fun (i : Int) (a : 0 ≤ i) (b : i < F.length) => list1_spec F hs (ints bad) lot i a b _ rfl
 have hel : ∀ (i : Int), 0 ≤ i → i < F.length → ∀ x ∈ F.getD i.toNat [], 0 ≤ x ∧ x < i := fun i a b x hx => by
  have := (hm.ris i.toNat (by omega)).1 x hx; omega
 have hI := in_spec
 have hO := out_spec
 have hR1 := fun i => room1_spec i W hW
 have hbd : ∀ x ∈ bad, 0 ≤ x ∧ x < (F.length : Int) := hk.ris.1
 refine FnN.of_ex (cuts := []) tys hM Try.func88 rfl Try.call88 rfl ?_
 show exC Try.prog T [] _ false none 0 (entry 80 [netD F (ints bad) lot, ints W]) (finG T 0 [ResultVar.tmp 4] _ _)
 conv => whnf
 repeat' first | ((first | refine Ob.a ?_ | refine Sp.tt ?_ | refine Sp.ff ?_ | refine Sp.yes ?_ | refine Sp.no ?_ | refine Sp.nyes ?_ | refine Sp.nno ?_ | refine Fi.a ?_);conv=>whnf) | ((first | refine Sp.ne ?_ ?_ | refine Sp.dec ?_ ?_ | refine Sp.ndec ?_ ?_ | refine Sp.mk ?_ ?_) <;> intro hc <;> conv => whnf) | (refine Ob.b ?_;conv=>whnf)
 refine Lp.snap [0, 1, 4, 5, 6, 10, 11, 19, 38, 46, 47, 48, 49, 50, 51, 53, 54, 55, 56, 57, 58, 59, 60, 61, 62, 63, 64, 65, 66, 68, 69, 70, 72, 73, 74, 75, 76, 77, 78, 79] 40 ?_
 (conv=>whnf)
 refine LpB.go 80 ({i : Int // 0 ≤ i ∧ i ≤ F.length}) 0 (fun ⟨i, _⟩ nx => ([(20, .d (int i))], [(2, .mp true ⟨true, 2⟩ (edM (rmP F lot i)))])) (fun p => (F.length - p.1).toNat) (⟨0, by omega, by omega⟩) ?_ ?_
 ·rintro ⟨i, i0, i1⟩
  by_cases hi : i < F.length
  ·have hsq := hsq i i0 hi
   have hel := hel i i0 hi
   have hIi := hI i i0 (by omega)
   have hOi := hO i i0 (by omega)
   have hOk := fun (k : Nat) (h : k < (F.getD i.toNat []).length) => hO ((F.getD i.toNat []).getD k 0) (hel _ (getD_mem h 0)).1 (by have := hel _ (getD_mem h 0); omega)
   have e3 : ∀ k, k < (F.getD i.toNat []).length → MImp (updM (edM (rmK F lot i k)) [2 + 2 * (F.getD i.toNat []).getD k 0, 1 + 2 * i] 1) (edM (rmK F lot i (k + 1))) := fun k h => edM_upd fun u v => rmK_succ h u v
   have e4 : ∀ k, k = (F.getD i.toNat []).length → MImp (edM (rmK F lot i k)) (edM (rmP F lot (i + 1))) := fun k h => edM_congr fun u v => rmP_succ i0 h u v
   by_cases hil : i = lot
   ·have e2 : MImp (edM (rmP F lot i)) (edM (rmK F lot i 0)) := edM_congr fun u v => by rw [rmK_zero]; unfold rmI; simp [hil]
    conv => whnf
    repeat' first | ((first | refine Ob.a ?_ | refine Sp.tt ?_ | refine Sp.ff ?_ | refine Sp.yes ?_ | refine Sp.no ?_ | refine Sp.nyes ?_ | refine Sp.nno ?_ | refine Fi.a ?_);conv=>whnf) | ((first | refine Sp.ne ?_ ?_ | refine Sp.dec ?_ ?_ | refine Sp.ndec ?_ ?_ | refine Sp.mk ?_ ?_) <;> intro hc <;> conv => whnf) | (apply Cl.go;(conv=>whnf); (first | refine Ob.call (hIi) ?_ | refine Ob.call (hOi) ?_ | refine Ob.call (hL i) ?_);(conv=>whnf)) | (refine Ob.b ?_;conv=>whnf)
    all_goals try (exfalso; omega)
    refine Rg.snap [0, 1, 4, 5, 6, 7, 8, 10, 11, 19, 20, 22, 23, 24, 25, 26, 27, 29, 30, 31, 32, 33, 34, 35, 36, 38, 39, 40, 41, 42, 43, 44, 45, 46, 47, 48, 49, 50, 51, 53, 54, 55, 56, 57, 58, 59, 60, 61, 62, 63, 64, 65, 66, 68, 69, 70, 72, 73, 74, 75, 76, 77, 78, 79] 40 ?_
    (conv=>whnf)
    refine RgB.go 80 ({k : Nat // k ≤ (F.getD i.toNat []).length}) 0 (fun ⟨k, _⟩ nx => [(2, .mp true ⟨true, 2⟩ (edM (rmK F lot i k)))]) (fun p => p.1) (⟨0, by omega⟩) hsq ?_ ?_ ?_
    ·rintro ⟨k, hk⟩ j hj0 hj
     simp only at hj0
     subst hj0
     have e3 := e3 k hj
     have hOk := hOk k hj
     conv => whnf
     repeat' first | ((first | refine Ob.a ?_ | refine Sp.tt ?_ | refine Sp.ff ?_ | refine Sp.yes ?_ | refine Sp.no ?_ | refine Sp.nyes ?_ | refine Sp.nno ?_ | refine Fi.a ?_);conv=>whnf) | ((first | refine Sp.ne ?_ ?_ | refine Sp.dec ?_ ?_ | refine Sp.ndec ?_ ?_ | refine Sp.mk ?_ ?_) <;> intro hc <;> conv => whnf) | (apply Cl.go;(conv=>whnf); (first | refine Ob.call (hIi) ?_ | refine Ob.call (hOk) ?_);(conv=>whnf)) | (refine Ob.b ?_;conv=>whnf)
     all_goals first | exact ⟨rfl, ⟨k + 1, hj⟩, rfl, Lf⟩
    ·rintro ⟨k, hk⟩ hk'
     simp only at hk'
     have e4 := e4 k hk'
     conv => whnf
     repeat' first | ((first | refine Ob.a ?_ | refine Sp.tt ?_ | refine Sp.ff ?_ | refine Sp.yes ?_ | refine Sp.no ?_ | refine Sp.nyes ?_ | refine Sp.nno ?_ | refine Fi.a ?_);conv=>whnf) | ((first | refine Sp.ne ?_ ?_ | refine Sp.dec ?_ ?_ | refine Sp.ndec ?_ ?_ | refine Sp.mk ?_ ?_) <;> intro hc <;> conv => whnf) | (refine Ob.b ?_;conv=>whnf)
     all_goals first | exact ⟨rfl, ⟨i + 1, by omega, by omega⟩, Lf, by simp only; omega⟩
    ·exact Lf
   ·have e1 : MImp (updM (edM (rmP F lot i)) [1 + 2 * i, 2 + 2 * i] 1) (edM (rmK F lot i 0)) := edM_upd fun u v => by rw [rmK_zero]; unfold rmI; simp [hil]
    conv => whnf
    repeat' first | ((first | refine Ob.a ?_ | refine Sp.tt ?_ | refine Sp.ff ?_ | refine Sp.yes ?_ | refine Sp.no ?_ | refine Sp.nyes ?_ | refine Sp.nno ?_ | refine Fi.a ?_);conv=>whnf) | ((first | refine Sp.ne ?_ ?_ | refine Sp.dec ?_ ?_ | refine Sp.ndec ?_ ?_ | refine Sp.mk ?_ ?_) <;> intro hc <;> conv => whnf) | (apply Cl.go;(conv=>whnf); (first | refine Ob.call (hIi) ?_ | refine Ob.call (hOi) ?_ | refine Ob.call (hL i) ?_);(conv=>whnf)) | (refine Ob.b ?_;conv=>whnf)
    all_goals try (exfalso; omega)
    refine Rg.snap [0, 1, 4, 5, 6, 7, 8, 10, 11, 19, 20, 22, 23, 24, 25, 26, 27, 29, 30, 31, 32, 33, 34, 35, 36, 38, 39, 40, 41, 42, 43, 44, 45, 46, 47, 48, 49, 50, 51, 53, 54, 55, 56, 57, 58, 59, 60, 61, 62, 63, 64, 65, 66, 68, 69, 70, 72, 73, 74, 75, 76, 77, 78, 79] 40 ?_
    (conv=>whnf)
    refine RgB.go 80 ({k : Nat // k ≤ (F.getD i.toNat []).length}) 0 (fun ⟨k, _⟩ nx => [(2, .mp true ⟨true, 2⟩ (edM (rmK F lot i k)))]) (fun p => p.1) (⟨0, by omega⟩) hsq ?_ ?_ ?_
    ·rintro ⟨k, hk⟩ j hj0 hj
     simp only at hj0
     subst hj0
     have e3 := e3 k hj
     have hOk := hOk k hj
     conv => whnf
     repeat' first | ((first | refine Ob.a ?_ | refine Sp.tt ?_ | refine Sp.ff ?_ | refine Sp.yes ?_ | refine Sp.no ?_ | refine Sp.nyes ?_ | refine Sp.nno ?_ | refine Fi.a ?_);conv=>whnf) | ((first | refine Sp.ne ?_ ?_ | refine Sp.dec ?_ ?_ | refine Sp.ndec ?_ ?_ | refine Sp.mk ?_ ?_) <;> intro hc <;> conv => whnf) | (apply Cl.go;(conv=>whnf); (first | refine Ob.call (hIi) ?_ | refine Ob.call (hOk) ?_);(conv=>whnf)) | (refine Ob.b ?_;conv=>whnf)
     all_goals first | exact ⟨rfl, ⟨k + 1, hj⟩, rfl, Lf⟩
    ·rintro ⟨k, hk⟩ hk'
     simp only at hk'
     have e4 := e4 k hk'
     conv => whnf
     repeat' first | ((first | refine Ob.a ?_ | refine Sp.tt ?_ | refine Sp.ff ?_ | refine Sp.yes ?_ | refine Sp.no ?_ | refine Sp.nyes ?_ | refine Sp.nno ?_ | refine Fi.a ?_);conv=>whnf) | ((first | refine Sp.ne ?_ ?_ | refine Sp.dec ?_ ?_ | refine Sp.ndec ?_ ?_ | refine Sp.mk ?_ ?_) <;> intro hc <;> conv => whnf) | (refine Ob.b ?_;conv=>whnf)
     all_goals first | exact ⟨rfl, ⟨i + 1, by omega, by omega⟩, Lf, by simp only; omega⟩
    ·exact Lf
  ·have ei : i = F.length := by omega
   have e1 : MImp (edM (rmP F lot i)) (edM (rmB F lot bad 0)) := edM_congr fun u v => by rw [rmB_zero, ei]
   conv => whnf
   repeat' first | ((first | refine Ob.a ?_ | refine Sp.tt ?_ | refine Sp.ff ?_ | refine Sp.yes ?_ | refine Sp.no ?_ | refine Sp.nyes ?_ | refine Sp.nno ?_ | refine Fi.a ?_);conv=>whnf) | ((first | refine Sp.ne ?_ ?_ | refine Sp.dec ?_ ?_ | refine Sp.ndec ?_ ?_ | refine Sp.mk ?_ ?_) <;> intro hc <;> conv => whnf) | (refine Ob.b ?_;conv=>whnf)
   refine Lp.snap [0, 1, 4, 5, 6, 11, 49, 50, 60, 61, 62, 63, 64, 65, 66, 68, 69, 70, 72, 73, 74, 75, 76, 77, 78, 79] 40 ?_
   (conv=>whnf)
   refine LpB.go 80 ({i : Int // 0 ≤ i ∧ i ≤ bad.length}) 0 (fun ⟨i, _⟩ nx => ([(51, .d (int i))], [(2, .mp true ⟨true, 2⟩ (edM (rmB F lot bad i.toNat)))])) (fun p => (bad.length - p.1).toNat) (⟨0, by omega, by omega⟩) ?_ ?_
   ·rintro ⟨i, i0, i1⟩
    by_cases hi : i < bad.length
    ·have hb := hbd _ (getD_mem (l := bad) (i := i.toNat) (by omega) 0)
     have hIb := hI (bad.getD i.toNat 0) hb.1 (by omega)
     have e : MImp (updM (edM (rmB F lot bad i.toNat)) [0, 1 + 2 * bad.getD i.toNat 0] 1) (edM (rmB F lot bad (i + 1).toNat)) := edM_upd fun u v => by rw [show (i + 1).toNat = i.toNat + 1 by omega, rmB_succ (by omega)]
     conv => whnf
     repeat' first | ((first | refine Ob.a ?_ | refine Sp.tt ?_ | refine Sp.ff ?_ | refine Sp.yes ?_ | refine Sp.no ?_ | refine Sp.nyes ?_ | refine Sp.nno ?_ | refine Fi.a ?_);conv=>whnf) | ((first | refine Sp.ne ?_ ?_ | refine Sp.dec ?_ ?_ | refine Sp.ndec ?_ ?_ | refine Sp.mk ?_ ?_) <;> intro hc <;> conv => whnf) | (apply Cl.go;(conv=>whnf); (first | refine Ob.call (hIb) ?_);(conv=>whnf)) | (refine Ob.b ?_;conv=>whnf)
     all_goals first | exact ⟨rfl, ⟨i + 1, by omega, by omega⟩, Lf, by simp only; omega⟩
    ·have e : MImp (edM (rmB F lot bad i.toNat)) (edM (rmD F lot bad W 0)) := edM_congr fun u v => by rw [rmD_zero, show i.toNat = bad.length by omega]
     conv => whnf
     repeat' first | ((first | refine Ob.a ?_ | refine Sp.tt ?_ | refine Sp.ff ?_ | refine Sp.yes ?_ | refine Sp.no ?_ | refine Sp.nyes ?_ | refine Sp.nno ?_ | refine Fi.a ?_);conv=>whnf) | ((first | refine Sp.ne ?_ ?_ | refine Sp.dec ?_ ?_ | refine Sp.ndec ?_ ?_ | refine Sp.mk ?_ ?_) <;> intro hc <;> conv => whnf) | (refine Ob.b ?_;conv=>whnf)
     refine Lp.snap [0, 1, 4, 5, 6, 65, 79] 40 ?_
     (conv=>whnf)
     refine LpB.go 80 ({i : Int // 0 ≤ i ∧ i ≤ F.length}) 0 (fun ⟨i, _⟩ nx => ([(66, .d (int i))], [(2, .mp true ⟨true, 2⟩ (edM (rmD F lot bad W i)))])) (fun p => (F.length - p.1).toNat) (⟨0, by omega, by omega⟩) ?_ ?_
     ·rintro ⟨i, i0, i1⟩
      by_cases hi : i < F.length
      ·have hR := hR1 i
       have hIi := hI i i0 (by omega)
       have hOi := hO i i0 (by omega)
       by_cases hw : i ∈ W
       ·rw [decide_eq_true hw] at hR
        have e : MImp (delM (edM (rmD F lot bad W i)) [1 + 2 * i, 2 + 2 * i]) (edM (rmD F lot bad W (i + 1))) := edM_del fun u v => rmD_in i0 hw u v
        conv => whnf
        repeat' first | ((first | refine Ob.a ?_ | refine Sp.tt ?_ | refine Sp.ff ?_ | refine Sp.yes ?_ | refine Sp.no ?_ | refine Sp.nyes ?_ | refine Sp.nno ?_ | refine Fi.a ?_);conv=>whnf) | ((first | refine Sp.ne ?_ ?_ | refine Sp.dec ?_ ?_ | refine Sp.ndec ?_ ?_ | refine Sp.mk ?_ ?_) <;> intro hc <;> conv => whnf) | (apply Cl.go;(conv=>whnf); (first | refine Ob.call (hR) ?_ | refine Ob.call (hIi) ?_ | refine Ob.call (hOi) ?_);(conv=>whnf)) | (refine Ob.b ?_;conv=>whnf)
        all_goals first | exact ⟨rfl, ⟨i + 1, by omega, by omega⟩, Lf, by simp only; omega⟩
       ·rw [decide_eq_false hw] at hR
        have e : MImp (edM (rmD F lot bad W i)) (edM (rmD F lot bad W (i + 1))) := edM_congr fun u v => rmD_out hw u v
        conv => whnf
        repeat' first | ((first | refine Ob.a ?_ | refine Sp.tt ?_ | refine Sp.ff ?_ | refine Sp.yes ?_ | refine Sp.no ?_ | refine Sp.nyes ?_ | refine Sp.nno ?_ | refine Fi.a ?_);conv=>whnf) | ((first | refine Sp.ne ?_ ?_ | refine Sp.dec ?_ ?_ | refine Sp.ndec ?_ ?_ | refine Sp.mk ?_ ?_) <;> intro hc <;> conv => whnf) | (apply Cl.go;(conv=>whnf); (first | refine Ob.call (hR) ?_);(conv=>whnf)) | (refine Ob.b ?_;conv=>whnf)
        all_goals first | exact ⟨rfl, ⟨i + 1, by omega, by omega⟩, Lf, by simp only; omega⟩
      ·have e : i = F.length := by omega
       subst e
       conv => whnf
       repeat' first | ((first | refine Ob.a ?_ | refine Sp.tt ?_ | refine Sp.ff ?_ | refine Sp.yes ?_ | refine Sp.no ?_ | refine Sp.nyes ?_ | refine Sp.nno ?_ | refine Fi.a ?_);conv=>whnf) | ((first | refine Sp.ne ?_ ?_ | refine Sp.dec ?_ ?_ | refine Sp.ndec ?_ ?_ | refine Sp.mk ?_ ?_) <;> intro hc <;> conv => whnf) | (refine Ob.b ?_;conv=>whnf)
       all_goals first | exact Lf
     ·exact Lf
   ·exact Lf
 ·have e : MImp (fun _ => none) (edM (rmP F lot 0)) := edM_none fun u v h => by
   rcases h with ⟨j, a, b, _⟩ | ⟨j, x, a, b, _⟩ <;> omega
  exact Lf
end Go.Px.Try

/-! Tm10 -/
namespace Go.Px.Try
open Go Go.Proofs Go.Px
def updN (b : Nat → Nat) (k v : Nat) : Nat → Nat := fun j => if j = k then v else b j
/-- The points 1 to k, looked at from the point a. -/
def bInn (c : Nat → Nat → Int) (a : Nat) : Nat → (Nat → Nat) × List Nat → (Nat → Nat) × List Nat
 | 0, s => s
 | k + 1, s => if (bInn c a k s).1 (k + 1) = 0 ∧ 0 < c a (k + 1) then (updN (bInn c a k s).1 (k + 1) (a + 1), (bInn c a k s).2 ++ [k + 1]) else bInn c a k s
def bfsF (c : Nat → Nat → Int) (N : Nat) : Nat → (Nat → Nat) × List Nat → (Nat → Nat)
 | 0, s => s.1
 | f + 1, s => match s.2 with
  | [] => s.1
  | a :: q => bfsF c N f (bInn c a (N - 1) (s.1, q))
def bfs (c : Nat → Nat → Int) (N : Nat) : Nat → Nat := bfsF c N (2 * N) (fun _ => 0, [0])
def uns (b : Nat → Nat) : Nat → Nat
 | 0 => 0
 | n + 1 => uns b n + if 1 ≤ n ∧ b n = 0 then 1 else 0
theorem uns_upd {b : Nat → Nat} {k v : Nat} (h1 : 1 ≤ k) (hb : b k = 0) (hv : v ≠ 0) : ∀ {n : Nat}, uns (updN b k v) n + (if k < n then 1 else 0) = uns b n
 | 0 => by simp [uns]
 | n + 1 => by
  have ih := uns_upd (n := n) h1 hb hv
  rw [uns, uns]
  by_cases e : k = n
  ·subst e
   rw [if_neg (by omega)] at ih
   have : updN b k v k = v := if_pos rfl
   rw [this, if_neg (by simp [hv]), if_pos (by omega), if_pos ⟨h1, hb⟩]
   omega
  ·have : updN b k v n = b n := if_neg (fun h => e h.symm)
   rw [this]
   by_cases hl : k < n
   ·rw [if_pos hl] at ih; rw [if_pos (show k < n + 1 by omega)]; omega
   ·rw [if_neg hl] at ih; rw [if_neg (show ¬ k < n + 1 by omega)]; omega
theorem uns_le (b : Nat → Nat) : ∀ n, uns b n ≤ n - 1
 | 0 => by simp [uns]
 | n + 1 => by
  have := uns_le b n
  rw [uns]
  split <;> omega
theorem uns_zero : ∀ n, uns (fun _ => 0) n = n - 1
 | 0 => rfl
 | n + 1 => by
  rw [uns, uns_zero n]
  split <;> omega
def seenB (b : Nat → Nat) (x : Nat) : Prop := x = 0 ∨ b x ≠ 0
/-- What is known while the points are looked at from the point a, up to k. -/
structure BI (c : Nat → Nat → Int) (N : Nat) (b : Nat → Nat) (q : List Nat) (a k : Nat) : Prop where
 tree : ∃ (r : Nat → Nat) (cnt : Nat), r 0 = 0 ∧ 0 < cnt ∧ cnt + uns b N ≤ N ∧ ∀ x, b x ≠ 0 → 1 ≤ x ∧ x < N ∧ seenB b (b x - 1) ∧ b x - 1 < N ∧ 0 < c (b x - 1) x ∧ r (b x - 1) < r x ∧ r x < cnt
 que : ∀ x ∈ q, seenB b x ∧ x < N
 cl : ∀ x v, seenB b x → x < N → x ∉ q → ¬ (x = a ∧ k < v) → 1 ≤ v → v < N → 0 < c x v → b v ≠ 0
theorem BI.start {c : Nat → Nat → Int} {N : Nat} (h : 0 < N) : BI c N (fun _ => 0) [0] N 0 := by
 refine ⟨⟨fun _ => 0, 1, rfl, by omega, by rw [uns_zero]; omega, fun x hx => absurd rfl hx⟩, fun x hx => ?_, fun x v hx _ hq => ?_⟩
 ·rw [List.mem_singleton.1 hx]; exact ⟨.inl rfl, h⟩
 ·rcases hx with e | e
  ·subst e; exact absurd (List.mem_singleton.2 rfl) hq
  ·exact absurd rfl e
theorem BI.pop {c : Nat → Nat → Int} {N : Nat} {b : Nat → Nat} {a : Nat} {q : List Nat} (h : BI c N b (a :: q) N 0) : BI c N b q a 0 := by
 refine ⟨h.tree, fun x hx => h.que x (List.mem_cons_of_mem _ hx), fun x v hx hxN hq hk hv hvN hc => ?_⟩
 by_cases e : x = a
 ·exact absurd ⟨e, by omega⟩ hk
 ·exact h.cl x v hx hxN (fun hm => (List.mem_cons.1 hm).elim e hq) (fun h => by omega) hv hvN hc
theorem BI.next {c : Nat → Nat → Int} {N : Nat} {b : Nat → Nat} {a : Nat} {q : List Nat} {k : Nat} (h : BI c N b q a k) (hk : N ≤ k + 1) : BI c N b q N 0 := by
 refine ⟨h.tree, h.que, fun x v hx hxN hq _ hv hvN hc => h.cl x v hx hxN hq (fun h => by omega) hv hvN hc⟩
theorem BI.push {c : Nat → Nat → Int} {N : Nat} {b : Nat → Nat} {a : Nat} {q : List Nat} {k : Nat} (h : BI c N b q a k) (ha : seenB b a) (haN : a < N) (hk : k + 1 < N) (hb : b (k + 1) = 0) (hc : 0 < c a (k + 1)) : BI c N (updN b (k + 1) (a + 1)) (q ++ [k + 1]) a (k + 1) := by
 have hat : updN b (k + 1) (a + 1) (k + 1) = a + 1 := if_pos rfl
 have hoth : ∀ x, x ≠ k + 1 → updN b (k + 1) (a + 1) x = b x := fun x e => if_neg e
 have hseen : ∀ x, seenB b x → seenB (updN b (k + 1) (a + 1)) x := fun x hx => by
  rcases hx with e | e
  ·exact .inl e
  ·refine .inr ?_
   by_cases e2 : x = k + 1
   ·rw [e2, hat]; omega
   ·rw [hoth x e2]; exact e
 refine ⟨?_, fun x hx => ?_, fun x v hx hxN hq hkv hv hvN hcv => ?_⟩
 ·obtain ⟨r, cnt, r0, c0, hcnt, hr⟩ := h.tree
  have hu := uns_upd (b := b) (k := k + 1) (v := a + 1) (by omega) hb (by omega) (n := N)
  rw [if_pos hk] at hu
  have hrb : ∀ x, seenB b x → r x < cnt := fun x hx => by
   rcases hx with e | e
   ·subst e; omega
   ·exact (hr x e).2.2.2.2.2.2
  refine ⟨fun x => if x = k + 1 then cnt else r x, cnt + 1, by simp [r0], by omega, by omega, fun x hx => ?_⟩
  by_cases e : x = k + 1
  ·subst e
   rw [hat]
   simp only [Nat.add_sub_cancel, if_true]
   refine ⟨by omega, hk, hseen a ha, haN, hc, ?_, by omega⟩
   have hne : a ≠ k + 1 := fun e => by
    rcases ha with e2 | e2
    ·omega
    ·rw [e, hb] at e2; exact e2 rfl
   rw [if_neg hne]
   exact hrb a ha
  ·rw [hoth x e] at hx ⊢
   obtain ⟨q1, q2, q3, q4, q5, q6, q7⟩ := hr x hx
   refine ⟨q1, q2, hseen _ q3, q4, q5, ?_, ?_⟩
   ·have hne : b x - 1 ≠ k + 1 := fun e2 => by
     rw [e2] at q3
     rcases q3 with e3 | e3
     ·omega
     ·exact e3 hb
    simp only [if_neg e, if_neg hne]; exact q6
   ·simp only [if_neg e]; omega
 ·rcases List.mem_append.1 hx with hx | hx
  ·exact ⟨hseen x (h.que x hx).1, (h.que x hx).2⟩
  ·rw [List.mem_singleton.1 hx]
   exact ⟨.inr (by rw [hat]; omega), hk⟩
 ·by_cases e : v = k + 1
  ·rw [e, hat]; omega
  ·rw [hoth v e]
   have hxk : x ≠ k + 1 := fun e2 => hq (by rw [e2]; exact List.mem_append_right _ (List.mem_singleton.2 rfl))
   have hx' : seenB b x := by
    rcases hx with e2 | e2
    ·exact .inl e2
    ·rw [hoth x hxk] at e2; exact .inr e2
   exact h.cl x v hx' hxN (fun hm => hq (List.mem_append_left _ hm)) (fun ⟨e2, e3⟩ => hkv ⟨e2, by omega⟩) hv hvN hcv
theorem BI.skip {c : Nat → Nat → Int} {N : Nat} {b : Nat → Nat} {a : Nat} {q : List Nat} {k : Nat} (h : BI c N b q a k) (hn : ¬ (b (k + 1) = 0 ∧ 0 < c a (k + 1))) : BI c N b q a (k + 1) := by
 refine ⟨h.tree, h.que, fun x v hx hxN hq hkv hv hvN hcv => ?_⟩
 by_cases e : x = a ∧ v = k + 1
 ·obtain ⟨rfl, rfl⟩ := e
  exact fun hb => hn ⟨hb, hcv⟩
 ·exact h.cl x v hx hxN hq (fun ⟨e2, e3⟩ => hkv ⟨e2, by by_cases e4 : v = k + 1; exact absurd ⟨e2, e4⟩ e; omega⟩) hv hvN hcv
theorem bInn_ok {c : Nat → Nat → Int} {N : Nat} {a : Nat} (haN : a < N) : ∀ (k : Nat) (s : (Nat → Nat) × List Nat), k < N → seenB s.1 a → BI c N s.1 s.2 a 0 →
  BI c N (bInn c a k s).1 (bInn c a k s).2 a k ∧ seenB (bInn c a k s).1 a ∧ 2 * uns (bInn c a k s).1 N + (bInn c a k s).2.length ≤ 2 * uns s.1 N + s.2.length
 | 0, s, _, ha, h => ⟨h, ha, Nat.le_refl _⟩
 | k + 1, s, hk, ha, h => by
  obtain ⟨h1, h2, h3⟩ := bInn_ok haN k s (by omega) ha h
  rw [bInn]
  by_cases hc : (bInn c a k s).1 (k + 1) = 0 ∧ 0 < c a (k + 1)
  ·rw [if_pos hc]
   refine ⟨h1.push h2 haN hk hc.1 hc.2, ?_, ?_⟩
   ·rcases h2 with e | e
    ·exact .inl e
    ·refine .inr ?_
     show updN _ _ _ a ≠ 0
     unfold updN
     split
     ·omega
     ·exact e
   ·have hu := uns_upd (b := (bInn c a k s).1) (k := k + 1) (v := a + 1) (by omega) hc.1 (by omega) (n := N)
    rw [if_pos hk] at hu
    show 2 * uns (updN _ _ _) N + (_ ++ [_]).length ≤ _
    rw [List.length_append, List.length_singleton]
    omega
  ·rw [if_neg hc]
   exact ⟨h1.skip hc, h2, h3⟩
theorem bfsF_ok {c : Nat → Nat → Int} {N : Nat} : ∀ (f : Nat) (s : (Nat → Nat) × List Nat), 2 * uns s.1 N + s.2.length ≤ f → BI c N s.1 s.2 N 0 → BI c N (bfsF c N f s) [] N 0
 | 0, (b, q), hf, h => by
  have : q = [] := List.length_eq_zero_iff.1 (by simp only at hf; omega)
  subst this; exact h
 | f + 1, (b, q), hf, h => by
  rw [bfsF]
  cases q with
  | nil => exact h
  | cons a q =>
   have haq := h.que a (List.mem_cons_self ..)
   obtain ⟨h1, _, h3⟩ := bInn_ok haq.2 (N - 1) (b, q) (by have := haq.2; omega) haq.1 h.pop
   show BI c N (bfsF c N f (bInn c a (N - 1) (b, q))) [] N 0
   refine bfsF_ok f _ ?_ (h1.next (by omega))
   simp only [List.length_cons] at hf h3
   omega
theorem bfs_ok (c : Nat → Nat → Int) {N : Nat} (h : 0 < N) : BI c N (bfs c N) [] N 0 := bfsF_ok _ _ (by
 show 2 * uns (fun _ => 0) N + 1 ≤ 2 * N
 rw [uns_zero]; omega) (BI.start h)
/-- Back from a point to the first one. -/
def bkL (b : Nat → Nat) : Nat → Nat → List Nat
 | 0, x => [x]
 | f + 1, x => if x = 0 then [x] else x :: bkL b f (b x - 1)
theorem bkL_ne (b : Nat → Nat) : ∀ f x, bkL b f x ≠ []
 | 0, x => by simp [bkL]
 | f + 1, x => by rw [bkL]; split <;> simp
def srchL (c : Nat → Nat → Int) (N t : Nat) : List Nat := if bfs c N t = 0 then [] else (bkL (bfs c N) N t).reverse
/-- A row of edges with room. -/
def rmy (c : Nat → Nat → Int) : List Nat → Prop
 | a :: b :: l => 0 < c a b ∧ rmy c (b :: l)
 | _ => True
theorem bk_ok {c : Nat → Nat → Int} {N : Nat} {b : Nat → Nat} {r : Nat → Nat} {cnt : Nat} (r0 : r 0 = 0) (hr : ∀ x, b x ≠ 0 → 1 ≤ x ∧ x < N ∧ seenB b (b x - 1) ∧ b x - 1 < N ∧ 0 < c (b x - 1) x ∧ r (b x - 1) < r x ∧ r x < cnt) :
  ∀ (f x : Nat) (acc : List Nat), r x ≤ f → seenB b x → x < N → rmy c (x :: acc) → (∀ y ∈ acc, r x < r y ∧ y < N) → (acc.map r).Pairwise (· < ·) →
  ∃ l, (bkL b f x).reverse ++ acc = 0 :: l ∧ rmy c (0 :: l) ∧ ((0 :: l).map r).Pairwise (· < ·) ∧ (∀ y ∈ 0 :: l, y < N)
 | f, x, acc, hf, hx, hxN, hrm, hac, hp => by
  by_cases e : x = 0
  ·subst e
   have : bkL b f 0 = [0] := by cases f <;> simp [bkL]
   refine ⟨acc, by rw [this]; rfl, hrm, ?_, fun y hy => ?_⟩
   ·rw [List.map_cons, List.pairwise_cons]
    refine ⟨fun z hz => ?_, hp⟩
    obtain ⟨y, hy, rfl⟩ := List.mem_map.1 hz
    exact (hac y hy).1
   ·rcases List.mem_cons.1 hy with e | hy
    ·omega
    ·exact (hac y hy).2
  ·have hb : b x ≠ 0 := hx.resolve_left e
   obtain ⟨q1, q2, q3, q4, q5, q6, q7⟩ := hr x hb
   cases f with
   | zero => omega
   | succ f =>
    have ih := bk_ok r0 hr f (b x - 1) (x :: acc) (by omega) q3 q4 ⟨q5, hrm⟩ (fun y hy => by
     rcases List.mem_cons.1 hy with e | hy
     ·rw [e]; exact ⟨q6, hxN⟩
     ·exact ⟨by have := (hac y hy).1; omega, (hac y hy).2⟩) (by
     rw [List.map_cons, List.pairwise_cons]
     refine ⟨fun z hz => ?_, hp⟩
     obtain ⟨y, hy, rfl⟩ := List.mem_map.1 hz
     exact (hac y hy).1)
    rw [bkL, if_neg e, List.reverse_cons, List.append_assoc]
    exact ih
theorem bkL_head (b : Nat → Nat) : ∀ f x, (bkL b f x).head? = some x
 | 0, x => rfl
 | f + 1, x => by rw [bkL]; split <;> rfl
theorem srch_some {c : Nat → Nat → Int} {N t : Nat} (h0 : 0 < N) (htN : t < N) (h : srchL c N t ≠ []) : ∃ l, srchL c N t = 0 :: l ∧ rmy c (0 :: l) ∧ (0 :: l).Nodup ∧ (∀ y ∈ 0 :: l, y < N) ∧ (0 :: l).getLast (List.cons_ne_nil _ _) = t := by
 have hI := bfs_ok c h0
 unfold srchL at h ⊢
 by_cases hb : bfs c N t = 0
 ·rw [if_pos hb] at h; exact absurd rfl h
 ·rw [if_neg hb]
  obtain ⟨r, cnt, r0, c0, hcnt, hr⟩ := hI.tree
  have hrt := (hr t hb).2.2.2.2.2.2
  obtain ⟨l, h1, h2, h3, h4⟩ := bk_ok r0 hr N t [] (by omega) (.inr hb) htN trivial (fun y hy => by cases hy) List.Pairwise.nil
  rw [List.append_nil] at h1
  refine ⟨l, h1, h2, ?_, h4, ?_⟩
  ·exact (List.pairwise_map.1 h3).imp fun h e => by subst e; omega
  ·have h5 := bkL_head (bfs c N) N t
   have h6 : (0 :: l).getLast? = some t := by rw [← h1, List.getLast?_reverse]; exact h5
   rw [List.getLast?_eq_some_getLast (List.cons_ne_nil _ _)] at h6
   exact Option.some.inj h6
theorem srch_none {c : Nat → Nat → Int} {N t : Nat} (h0 : 0 < N) (ht : t ≠ 0) (h : srchL c N t = []) : ∃ R : Nat → Bool, R 0 = true ∧ R t = false ∧ ∀ a v, a < N → v < N → R a = true → R v = false → c a v ≤ 0 := by
 have hI := bfs_ok c h0
 have hb : bfs c N t = 0 := by
  unfold srchL at h
  by_cases hb : bfs c N t = 0
  ·exact hb
  ·rw [if_neg hb] at h
   exact absurd (List.reverse_eq_nil_iff.1 h) (bkL_ne _ _ _)
 refine ⟨fun x => decide (x = 0) || decide (bfs c N x ≠ 0), by simp, by simp [ht, hb], fun a v ha hv hRa hRv => ?_⟩
 rw [Bool.or_eq_true, decide_eq_true_eq, decide_eq_true_eq] at hRa
 rw [Bool.or_eq_false_iff, decide_eq_false_iff_not, decide_eq_false_iff_not, Classical.not_not] at hRv
 refine Classical.byContradiction fun hc => ?_
 exact hI.cl a v hRa ha (by simp) (fun h => by omega) (by omega) hv (by omega) hRv.2
end Go.Px.Try

/-! Tp7 -/
namespace Go.Px.Try
open Go Go.Proofs Go.Px
set_option maxRecDepth 100000
theorem zl_getD (l : List Nat) (j : Nat) : (zl l).getD j 0 = ((l.getD j 0 : Nat) : Int) := by
 unfold zl
 rw [List.getD_eq_getElem?_getD, List.getD_eq_getElem?_getD, List.getElem?_map]
 cases l[j]? <;> rfl
theorem drop_snoc {l : List Nat} {off x : Nat} (ho : off ≤ l.length) : (l ++ [x]).drop off = l.drop off ++ [x] := List.drop_append_of_le_length ho
def znF (l : List Nat) : Nat → DV := rowOf int 0 (zl l)
theorem row_snocA {l : List Nat} {n x m : Nat} {g : Nat → DV} (hn : n = l.length) (h : CImp (g 0) (int x)) (hm : m = (l ++ [x]).length) : ∀ j, j < m → CImp (apd n (znF l) g j) (znF (l ++ [x]) j) := by
 subst hn; subst hm
 intro j hj
 have := row_snoc' (enc := int) (d := 0) (l := zl l) h j (by rw [List.length_append, zl_len]; simpa using hj)
 rw [zl_len, ← zl_snoc] at this
 exact this
theorem row_snocB {l : List Nat} {off n x m : Nat} {g : Nat → DV} (hn : n = l.length - off) (ho : off ≤ l.length) (h : CImp (g 0) (int x)) (hm : m = (l.drop off ++ [x]).length) : ∀ j, j < m → CImp (apd n (fun j => znF l (off + j)) g j) (znF (l.drop off ++ [x]) j) := by
 have e : (fun j => znF l (off + j)) = znF (l.drop off) := by
  funext j
  unfold znF rowOf
  rw [zl_getD, zl_getD, List.getD_eq_getElem?_getD, List.getD_eq_getElem?_getD, List.getElem?_drop]
 rw [e]
 exact row_snocA (by rw [hn, List.length_drop]) h hm
theorem row_firstA {x m : Nat} {g : Nat → DV} (h : CImp (g 0) (int x)) (hm : m ≤ 1 := by decide) : ∀ j, j < m → CImp (g j) (znF [x] j) := by
 intro j hj
 obtain rfl : j = 0 := by omega
 exact h
theorem zl_rev (l : List Nat) : zl l.reverse = (zl l).reverse := by unfold zl; rw [List.map_reverse]
/-- The numbers before the points. -/
def bF (b : Nat → Nat) : Nat → Int := fun j => (b j : Int)
/-- How the search stands inside the row of point a, ahead of point t. -/
def bS (c : Nat → Nat → Int) (a : Nat) (s : (Nat → Nat) × List Nat) (t : Int) : (Nat → Nat) × List Nat := bInn c a (t - 1).toNat s
theorem bS_next (c : Nat → Nat → Int) (a : Nat) (s : (Nat → Nat) × List Nat) {t : Int} (h : 1 ≤ t) : bS c a s (t + 1) = if (bS c a s t).1 t.toNat = 0 ∧ 0 < c a t.toNat then (updN (bS c a s t).1 t.toNat (a + 1), (bS c a s t).2 ++ [t.toNat]) else bS c a s t := by
 unfold bS
 have hk1 : (t - 1).toNat + 1 = t.toNat := by omega
 rw [show (t + 1 - 1).toNat = (t - 1).toNat + 1 by omega, bInn, hk1]
theorem bkL_len (b : Nat → Nat) : ∀ f x, (bkL b f x).length ≤ f + 1
 | 0, x => by simp [bkL]
 | f + 1, x => by
  rw [bkL]
  split
  ·simp
  ·have := bkL_len b f (b x - 1)
   simp only [List.length_cons]; omega
set_option maxHeartbeats 32000000 in
theorem search_spec (F : List (List Int)) (hm : MixOk F) (B : DV) (lot : Int) (l0 : 0 ≤ lot) (l1 : lot < F.length) (m : List Int → Option Int) (c : Nat → Nat → Int) (hc : ∀ u v : Nat, (m [(u : Int), (v : Int)]).getD 0 = c u v) :
  Fn Try.prog 89 [netD F B lot, .mp ⟨true, 2⟩ m] (ints (zl (srchL c (2 + 2 * F.length) (pin lot.toNat)))) := by
 have hl10 := hm.l10
 have hI := in_spec lot l0 (by omega)
 have hV := fun (L : List Nat) (h : L.length < 1000) => Reverse_spec (zl L) (by rw [zl_len]; exact h)
 obtain ⟨N, hN⟩ : ∃ N, N = 2 + 2 * F.length := ⟨_, rfl⟩
 have hN2 : (2 : Int) + 2 * F.length = N := by omega
 have hN22 : N ≤ 22 := by omega
 have hNp : 0 < N := by omega
 rw [← hN]
 have hbfs := bfs_ok c hNp
 obtain ⟨fin, hfin⟩ : ∃ fin, bfs c N = fin := ⟨_, rfl⟩
 rw [hfin] at hbfs
 have hsr : srchL c N (pin lot.toNat) = if fin (pin lot.toNat) = 0 then [] else (bkL fin N (pin lot.toNat)).reverse := by unfold srchL; rw [hfin]
 rw [hsr]
 clear hsr
 have hstart : bfsF c N (2 * N) (fun _ => 0, [0]) = fin := hfin
 have hu0 : 2 * uns (fun _ => 0) N + 1 ≤ 2 * N := by rw [uns_zero]; omega
 have hBI0 := BI.start (c := c) hNp
 have hbN : ∀ (b : Nat → Nat) (q : List Nat) (a k : Nat), BI c N b q a k → ∀ x, b x ≤ N := fun b q a k h x => by
  by_cases e : b x = 0
  ·omega
  ·obtain ⟨r, cnt, _, _, _, hr⟩ := h.tree
   have := (hr x e).2.2.2.1
   omega
 refine Fn.of_ex (cuts := []) tys hM Try.func89 rfl Try.call89 rfl ?_
 show exC Try.prog T [] _ false none 0 (entry 83 [netD F B lot, .mp ⟨true, 2⟩ m]) (finQ T [ResultVar.tmp 4] _)
 conv => whnf
 repeat' first | ((first | refine Ob.a ?_ | refine Sp.tt ?_ | refine Sp.ff ?_ | refine Sp.yes ?_ | refine Sp.no ?_ | refine Sp.nyes ?_ | refine Sp.nno ?_ | refine Fi.a ?_);conv=>whnf) | ((first | refine Sp.ne ?_ ?_ | refine Sp.dec ?_ ?_ | refine Sp.ndec ?_ ?_ | refine Sp.mk ?_ ?_) <;> intro hc <;> conv => whnf) | (refine Ap.a ?_ ?_ <;> (conv=>whnf)) | (refine Ob.b ?_;conv=>whnf)
 refine Lp.snap [0, 1, 4, 5, 9, 10, 57, 58, 59, 60, 61, 62, 63, 64, 65, 67, 68, 69, 71, 72, 73, 74, 75, 76, 77, 78, 79, 80, 82] 40 ?_
 (conv=>whnf)
 refine LpB.go 83 ({s : (Nat × Nat) × List Nat × (Nat → Nat) // s.1.2 ≤ s.2.1.length ∧ s.2.1.length ≤ 1000 ∧ bfsF c N s.1.1 (s.2.2, s.2.1.drop s.1.2) = fin ∧ BI c N s.2.2 (s.2.1.drop s.1.2) N 0 ∧ 2 * uns s.2.2 N + (s.2.1.length - s.1.2) ≤ s.1.1 ∧ 2 * uns s.2.2 N + s.2.1.length ≤ 2 * N}) 0 (fun ⟨((f, off), L, b), _⟩ nx => ([(5, .ms 9 1 0 N), (6, .ms 11 1 off (L.length - off))], [(9, .row true 3 1 N (rowF (bF b))), (11, .row true 3 1 L.length (znF L))])) (fun p => p.1.1.1) (⟨((2 * N, 0), [0], fun _ => 0), by simp, by simp, hstart, hBI0, by simp; omega, by simp; omega⟩) ?_ ?_
 ·rintro ⟨⟨⟨f, off⟩, L, b⟩, ho, hL10, hf, hbi, hmu, hmu2⟩
  simp only at ho hL10 hf hbi hmu hmu2
  by_cases hq : off < L.length
  ·have hdrop : L.drop off = L.getD off 0 :: L.drop (off + 1) := by
    rw [List.drop_eq_getElem_cons hq, List.getD_eq_getElem?_getD, List.getElem?_eq_getElem hq]; rfl
   obtain ⟨f', rfl⟩ : ∃ f', f = f' + 1 := ⟨f - 1, by omega⟩
   have haq := hbi.que (L.getD off 0) (by rw [hdrop]; exact List.mem_cons_self ..)
   have hpop : BI c N b (L.drop (off + 1)) (L.getD off 0) 0 := BI.pop (by rw [← hdrop]; exact hbi)
   have hrun := fun k (hk : k < N) => bInn_ok haq.2 k (b, L.drop (off + 1)) hk haq.1 hpop
   have hf : bfsF c N f' (bInn c (L.getD off 0) (N - 1) (b, L.drop (off + 1))) = fin := by
    rw [hdrop] at hf; exact hf
   have ha : (zl L).getD (off + Int.toNat 0) 0 = ((L.getD off 0 : Nat) : Int) := by rw [show off + Int.toNat 0 = off from rfl, zl_getD]
   have haN := haq.2
   have hcc := fun (v : Int) (v0 : 0 ≤ v) => hc (L.getD off 0) v.toNat
   generalize L.getD off 0 = a at *
   have hmu3 : 2 * uns b N + (L.drop (off + 1)).length + 1 ≤ f' + 1 := by rw [List.length_drop]; omega
   have hmu4 : 2 * uns b N + (L.drop (off + 1)).length ≤ 2 * uns b N + (L.length - (off + 1)) := by rw [List.length_drop]; omega
   conv => whnf
   repeat' first | ((first | refine Ob.a ?_ | refine Sp.tt ?_ | refine Sp.ff ?_ | refine Sp.yes ?_ | refine Sp.no ?_ | refine Sp.nyes ?_ | refine Sp.nno ?_ | refine Fi.a ?_);conv=>whnf) | ((first | refine Sp.ne ?_ ?_ | refine Sp.dec ?_ ?_ | refine Sp.ndec ?_ ?_ | refine Sp.mk ?_ ?_) <;> intro hc <;> conv => whnf) | (refine Ap.a ?_ ?_ <;> (conv=>whnf)) | (refine Ob.b ?_;conv=>whnf)
   refine Lp.snap [0, 1, 4, 5, 7, 9, 10, 21, 22, 24, 25, 26, 27, 28, 57, 58, 59, 60, 61, 62, 63, 64, 65, 67, 68, 69, 71, 72, 73, 74, 75, 76, 77, 78, 79, 80, 82] 40 ?_
   (conv=>whnf)
   refine LpB.go 83 ({s : Int × Nat × List Nat // (1 ≤ s.1 ∧ s.1 ≤ N) ∧ s.2.1 ≤ s.2.2.length ∧ s.2.2.drop s.2.1 = (bS c a (b, L.drop (off + 1)) s.1).2 ∧ 2 * uns (bS c a (b, L.drop (off + 1)) s.1).1 N + s.2.2.length ≤ 2 * N}) 0 (fun ⟨(t, off', L'), _⟩ nx => ([(7, .d (int a)), (8, .d (int t)), (6, .ms 11 1 off' (L'.length - off')), (21, .d .top), (24, .d .top), (25, .d .top), (27, .d .top), (28, .d .top)], [(9, .row true 3 1 N (rowF (bF (bS c a (b, L.drop (off + 1)) t).1))), (11, .row true 3 1 L'.length (znF L'))])) (fun p => (N - p.1.1).toNat) (⟨(1, off + 1, L), ⟨by simp, by simp only; omega⟩, by simp only; omega, rfl, hmu2⟩) ?_ ?_
   ·rintro ⟨⟨t, off', L'⟩, ⟨t0, t1⟩, ho', hd', hL'⟩
    simp only at t0 t1 ho' hd' hL'
    by_cases ht : t < N
    ·obtain ⟨r1, r2, r3⟩ := hrun (t - 1).toNat (by omega)
     have hcc := hcc t (by omega)
     rw [Int.toNat_of_nonneg (show 0 ≤ t by omega)] at hcc
     have hnext := bS_next c a (b, L.drop (off + 1)) t0
     rw [show bInn c a (t - 1).toNat (b, L.drop (off + 1)) = bS c a (b, L.drop (off + 1)) t from rfl] at r1 r2 r3
     have hbb := hbN _ _ _ _ r1 t.toNat
     have hbv : bF (bS c a (b, L.drop (off + 1)) t).1 (0 + t.toNat) = (((bS c a (b, L.drop (off + 1)) t).1 t.toNat : Nat) : Int) := by rw [Nat.zero_add]; rfl
     by_cases hc1 : (bS c a (b, L.drop (off + 1)) t).1 t.toNat = 0 ∧ 0 < c a t.toNat
     ·rw [if_pos hc1] at hnext
      have hu := uns_upd (b := (bS c a (b, L.drop (off + 1)) t).1) (k := t.toNat) (v := a + 1) (by omega) hc1.1 (by omega) (n := N)
      rw [if_pos (show t.toNat < N by omega)] at hu
      have hc2 := hc1.1
      have hc3 := hc1.2
      have e9 : ∀ j, j < N → bF (bS c a (b, L.drop (off + 1)) (t + 1)).1 j = if j = 0 + t.toNat then (a : Int) + 1 else bF (bS c a (b, L.drop (off + 1)) t).1 j := fun j _ => by
       rw [hnext, Nat.zero_add]
       show ((updN (bS c a (b, L.drop (off + 1)) t).1 t.toNat (a + 1) j : Nat) : Int) = _
       unfold updN
       split
       ·omega
       ·rfl
      have hx : CImp (int t) (int ((t.toNat : Nat) : Int)) := ⟨rfl, by omega⟩
      have hmu5 : 2 * uns (bS c a (b, L.drop (off + 1)) (t + 1)).1 N + (L'.length + 1) ≤ 2 * N := by rw [hnext]; show 2 * uns (updN (bS c a (b, L.drop (off + 1)) t).1 t.toNat (a + 1)) N + _ ≤ _; omega
      have hd5 : L'.drop off' ++ [t.toNat] = (bS c a (b, L.drop (off + 1)) (t + 1)).2 := by rw [hnext, hd']
      cases off' with
      | zero =>
       conv => whnf
       repeat' first | ((first | refine Ob.a ?_ | refine Sp.tt ?_ | refine Sp.ff ?_ | refine Sp.yes ?_ | refine Sp.no ?_ | refine Sp.nyes ?_ | refine Sp.nno ?_ | refine Fi.a ?_);conv=>whnf) | ((first | refine Sp.ne ?_ ?_ | refine Sp.dec ?_ ?_ | refine Sp.ndec ?_ ?_ | refine Sp.mk ?_ ?_) <;> intro hc <;> conv => whnf) | (refine Ap.a ?_ ?_ <;> (conv=>whnf)) | (refine Ob.b ?_;conv=>whnf)
       all_goals try (exfalso; omega)
       all_goals (refine ⟨rfl, ⟨(t + 1, 0, L' ++ [t.toNat]), ⟨by simp only; omega, by simp only; omega⟩, by simp, hd5, by simp only [List.length_append, List.length_singleton]; exact hmu5⟩, ?_, by simp only; omega⟩;(conv=>whnf); repeat' first | (refine Edge.fast ?_) | ((conv=>whnf); first | exact True.intro | (refine And.intro ?_ ?_) | exact rfl | exact Nat.le_of_eq (Nat.zero_add _) | exact ImpS.refl _ | ((conv => arg 1; whnf); first | exact ImpS.refl _ | (refine ImpS.nil_eq ?_) | (refine ImpS.vnil_eq ?_) | (refine ImpS.row ?_) | (refine ImpS.rowN ?_ ?_) | (refine ImpS.sl_eq ?_) | (refine ImpS.expl rfl ?_)) | (refine row_snoc' ?_) | exact MImp.refl _ | exact cimp_none | exact cimp_same | exact List.not_mem_nil | exact DImp.refl _) | exact rfl | (refine And.intro ?_ ?_) | exact ImpS.refl _)
       all_goals first | exact rowF_upd ⟨rfl, rfl⟩ e9 | exact row_snocA (by omega) hx (by simp) | (simp; omega) | omega | (simp only [List.length_append, List.length_singleton, List.length_drop]; omega)
      | succ o =>
       conv => whnf
       repeat' first | ((first | refine Ob.a ?_ | refine Sp.tt ?_ | refine Sp.ff ?_ | refine Sp.yes ?_ | refine Sp.no ?_ | refine Sp.nyes ?_ | refine Sp.nno ?_ | refine Fi.a ?_);conv=>whnf) | ((first | refine Sp.ne ?_ ?_ | refine Sp.dec ?_ ?_ | refine Sp.ndec ?_ ?_ | refine Sp.mk ?_ ?_) <;> intro hc <;> conv => whnf) | (refine Ap.a ?_ ?_ <;> (conv=>whnf)) | (refine Ob.b ?_;conv=>whnf)
       all_goals try (exfalso; omega)
       ·refine ⟨rfl, ⟨(t + 1, 0, L'.drop (o + 1) ++ [t.toNat]), ⟨by simp only; omega, by simp only; omega⟩, by simp, hd5, by simp only [List.length_append, List.length_singleton, List.length_drop]; omega⟩, ?_, by simp only; omega⟩
        conv => whnf
        repeat' first | (refine Edge.fast ?_) | ((conv=>whnf); first | exact True.intro | (refine And.intro ?_ ?_) | exact rfl | exact Nat.le_of_eq (Nat.zero_add _) | exact ImpS.refl _ | ((conv => arg 1; whnf); first | exact ImpS.refl _ | (refine ImpS.nil_eq ?_) | (refine ImpS.vnil_eq ?_) | (refine ImpS.row ?_) | (refine ImpS.rowN ?_ ?_) | (refine ImpS.sl_eq ?_) | (refine ImpS.expl rfl ?_)) | (refine row_snoc' ?_) | exact MImp.refl _ | exact cimp_none | exact cimp_same | exact List.not_mem_nil | exact DImp.refl _) | exact rfl | (refine And.intro ?_ ?_) | exact ImpS.refl _
        all_goals first | exact rowF_upd ⟨rfl, rfl⟩ e9 | exact row_snocB (by omega) ho' hx (by simp) | (simp; omega) | omega | (simp only [List.length_append, List.length_singleton, List.length_drop]; omega)
       ·refine ⟨rfl, ⟨(t + 1, o + 1, L' ++ [t.toNat]), ⟨by simp only; omega, by simp only; omega⟩, by simp only [List.length_append, List.length_singleton]; omega, by simp only; rw [drop_snoc ho']; exact hd5, by simp only [List.length_append, List.length_singleton]; exact hmu5⟩, ?_, by simp only; omega⟩
        conv => whnf
        repeat' first | (refine Edge.fast ?_) | ((conv=>whnf); first | exact True.intro | (refine And.intro ?_ ?_) | exact rfl | exact Nat.le_of_eq (Nat.zero_add _) | exact ImpS.refl _ | ((conv => arg 1; whnf); first | exact ImpS.refl _ | (refine ImpS.nil_eq ?_) | (refine ImpS.vnil_eq ?_) | (refine ImpS.row ?_) | (refine ImpS.rowN ?_ ?_) | (refine ImpS.sl_eq ?_) | (refine ImpS.expl rfl ?_)) | (refine row_snoc' ?_) | exact MImp.refl _ | exact cimp_none | exact cimp_same | exact List.not_mem_nil | exact DImp.refl _) | exact rfl | (refine And.intro ?_ ?_) | exact ImpS.refl _
        all_goals first | exact rowF_upd ⟨rfl, rfl⟩ e9 | exact row_snocA (by omega) hx (by simp) | (simp; omega) | omega | (simp only [List.length_append, List.length_singleton, List.length_drop]; omega)
     ·rw [if_neg hc1] at hnext
      have hn1 : (((bS c a (b, L.drop (off + 1)) t).1 t.toNat : Nat) : Int) = 0 → ¬ 0 < c a t.toNat := fun h1 h2 => hc1 ⟨by omega, h2⟩
      have e9 : ∀ j, j < N → bF (bS c a (b, L.drop (off + 1)) t).1 j = bF (bS c a (b, L.drop (off + 1)) (t + 1)).1 j := fun j _ => by rw [hnext]
      have hmu5 : 2 * uns (bS c a (b, L.drop (off + 1)) (t + 1)).1 N + L'.length ≤ 2 * N := by rw [hnext]; exact hL'
      have hd5 : L'.drop off' = (bS c a (b, L.drop (off + 1)) (t + 1)).2 := by rw [hnext, hd']
      by_cases hz : (((bS c a (b, L.drop (off + 1)) t).1 t.toNat : Nat) : Int) = 0
      ·have hn2 := hn1 hz
       conv => whnf
       repeat' first | ((first | refine Ob.a ?_ | refine Sp.tt ?_ | refine Sp.ff ?_ | refine Sp.yes ?_ | refine Sp.no ?_ | refine Sp.nyes ?_ | refine Sp.nno ?_ | refine Fi.a ?_);conv=>whnf) | ((first | refine Sp.ne ?_ ?_ | refine Sp.dec ?_ ?_ | refine Sp.ndec ?_ ?_ | refine Sp.mk ?_ ?_) <;> intro hc <;> conv => whnf) | (refine Ap.a ?_ ?_ <;> (conv=>whnf)) | (refine Ob.b ?_;conv=>whnf)
       all_goals first | (exfalso; omega) | exact ⟨rfl, ⟨(t + 1, off', L'), ⟨by simp only; omega, by simp only; omega⟩, ho', hd5, hmu5⟩, Lf, by simp only; omega⟩
      ·conv => whnf
       repeat' first | ((first | refine Ob.a ?_ | refine Sp.tt ?_ | refine Sp.ff ?_ | refine Sp.yes ?_ | refine Sp.no ?_ | refine Sp.nyes ?_ | refine Sp.nno ?_ | refine Fi.a ?_);conv=>whnf) | ((first | refine Sp.ne ?_ ?_ | refine Sp.dec ?_ ?_ | refine Sp.ndec ?_ ?_ | refine Sp.mk ?_ ?_) <;> intro hc <;> conv => whnf) | (refine Ap.a ?_ ?_ <;> (conv=>whnf)) | (refine Ob.b ?_;conv=>whnf)
       all_goals first | (exfalso; omega) | exact ⟨rfl, ⟨(t + 1, off', L'), ⟨by simp only; omega, by simp only; omega⟩, ho', hd5, hmu5⟩, Lf, by simp only; omega⟩
    ·obtain ⟨r1, r2, r3⟩ := hrun (N - 1) (by omega)
     have hk1 : bS c a (b, L.drop (off + 1)) t = bInn c a (N - 1) (b, L.drop (off + 1)) := by unfold bS; rw [show (t - 1).toNat = N - 1 by omega]
     rw [hk1] at hd' hL'
     rw [← hd'] at r1
     have e9 : ∀ j, j < N → bF (bS c a (b, L.drop (off + 1)) t).1 j = bF (bInn c a (N - 1) (b, L.drop (off + 1))).1 j := fun j _ => by rw [hk1]
     have hr3 : 2 * uns (bInn c a (N - 1) (b, L.drop (off + 1))).1 N + (L'.length - off') ≤ f' := by
      rw [← hd'] at r3
      rw [List.length_drop] at r3
      simp only at r3
      omega
     have hf2 : bfsF c N f' ((bInn c a (N - 1) (b, L.drop (off + 1))).1, L'.drop off') = fin := by rw [hd']; exact hf
     conv => whnf
     repeat' first | ((first | refine Ob.a ?_ | refine Sp.tt ?_ | refine Sp.ff ?_ | refine Sp.yes ?_ | refine Sp.no ?_ | refine Sp.nyes ?_ | refine Sp.nno ?_ | refine Fi.a ?_);conv=>whnf) | ((first | refine Sp.ne ?_ ?_ | refine Sp.dec ?_ ?_ | refine Sp.ndec ?_ ?_ | refine Sp.mk ?_ ?_) <;> intro hc <;> conv => whnf) | (refine Ap.a ?_ ?_ <;> (conv=>whnf)) | (refine Ob.b ?_;conv=>whnf)
     all_goals first | exact ⟨rfl, ⟨((f', off'), L', (bInn c a (N - 1) (b, L.drop (off + 1))).1), ho', by simp only; omega, hf2, r1.next (by omega), hr3, hL'⟩, Lf, by simp only; omega⟩
   ·have e9 : ∀ j, j < N → bF b j = bF (bS c a (b, L.drop (off + 1)) 1).1 j := fun j _ => rfl
    exact Lf
  ·have hnil : L.drop off = [] := List.drop_eq_nil_of_le (by omega)
   have hbf : b = fin := by
    rw [hnil] at hf
    cases f <;> exact hf
   have hat : pin lot.toNat < N := by unfold pin; omega
   obtain ⟨r, cnt, t1, t2, t3, tr⟩ := hbfs.tree
   have e7 : bF b (0 + (1 + 2 * lot).toNat) = ((fin (pin lot.toNat) : Nat) : Int) := by
    rw [hbf, Nat.zero_add, show (1 + 2 * lot).toNat = pin lot.toNat by unfold pin; omega]; rfl
   have hxs : seenB fin (pin lot.toNat) ∨ fin (pin lot.toNat) = 0 := by by_cases e : fin (pin lot.toNat) = 0; exact .inr e; exact .inl (.inr e)
   have hrk : ∀ x, seenB fin x → fin x ≠ 0 → r (fin x - 1) < r x ∧ r x < cnt ∧ seenB fin (fin x - 1) ∧ fin x - 1 < N := fun x _ hx => by
    have := tr x hx
    exact ⟨this.2.2.2.2.2.1, this.2.2.2.2.2.2, this.2.2.1, this.2.2.2.1⟩
   have hcN : cnt ≤ N := by omega
   clear hfin
   by_cases hz : fin (pin lot.toNat) = 0
   ·have hz2 : ((fin (pin lot.toNat) : Nat) : Int) = 0 := by omega
    rw [if_pos hz]
    conv => whnf
    repeat' first | ((first | refine Ob.a ?_ | refine Sp.tt ?_ | refine Sp.ff ?_ | refine Sp.yes ?_ | refine Sp.no ?_ | refine Sp.nyes ?_ | refine Sp.nno ?_ | refine Fi.a ?_);conv=>whnf) | ((first | refine Sp.ne ?_ ?_ | refine Sp.dec ?_ ?_ | refine Sp.ndec ?_ ?_ | refine Sp.mk ?_ ?_) <;> intro hc <;> conv => whnf) | (apply Cl.go;(conv=>whnf); (first | refine Ob.call (hI) ?_);(conv=>whnf)) | (refine Ap.a ?_ ?_ <;> (conv=>whnf)) | (refine Ob.b ?_;conv=>whnf)
    exact Lf
   ·have hz2 : ¬ ((fin (pin lot.toNat) : Nat) : Int) = 0 := by omega
    rw [if_neg hz]
    have hs1 : seenB fin (pin lot.toNat) := .inr hz
    obtain ⟨T, hT⟩ : ∃ T, bkL fin N (pin lot.toNat) = T := ⟨_, rfl⟩
    rw [hT]
    have hT2 : T.length ≤ N + 1 := by rw [← hT]; exact bkL_len ..
    conv => whnf
    repeat' first | ((first | refine Ob.a ?_ | refine Sp.tt ?_ | refine Sp.ff ?_ | refine Sp.yes ?_ | refine Sp.no ?_ | refine Sp.nyes ?_ | refine Sp.nno ?_ | refine Fi.a ?_);conv=>whnf) | ((first | refine Sp.ne ?_ ?_ | refine Sp.dec ?_ ?_ | refine Sp.ndec ?_ ?_ | refine Sp.mk ?_ ?_) <;> intro hc <;> conv => whnf) | (apply Cl.go;(conv=>whnf); (first | refine Ob.call (hI) ?_);(conv=>whnf)) | (refine Ap.a ?_ ?_ <;> (conv=>whnf)) | (refine Ob.b ?_;conv=>whnf)
    refine Lp.snap [0, 1, 4, 5, 80, 82] 40 ?_
    (conv=>whnf)
    refine LpB.go 83 ({s : Nat × Nat × List Nat // s.2.2 ++ bkL fin s.1 s.2.1 = T ∧ seenB fin s.2.1 ∧ s.2.1 < N ∧ r s.2.1 ≤ s.1}) 0 (fun ⟨(f, x, l'), _⟩ nx => ([(9, .d (int x)), (10, .ms 27 1 0 (l'.length + 1))], [(27, .row true 3 1 (l'.length + 1) (znF (l' ++ [x])))])) (fun p => p.1.1) (⟨(N, pin lot.toNat, []), by simp [hT], hs1, hat, by have := (hrk _ hs1 hz).2.1; simp only; omega⟩) ?_ ?_
    ·rintro ⟨⟨f, x, l'⟩, hl, hx, hxN, hrx⟩
     simp only at hl hx hxN hrx
     have hlen : l'.length ≤ N := by
      have := congrArg List.length hl
      rw [List.length_append] at this
      have h2 : 1 ≤ (bkL fin f x).length := List.length_pos_iff.2 (bkL_ne fin f x)
      omega
     have e7 : bF b (0 + Int.toNat x) = ((fin x : Nat) : Int) := by rw [hbf, Nat.zero_add]; rfl
     by_cases hx0 : x = 0
     ·subst hx0
      have hTl : T = l' ++ [0] := by rw [← hl]; cases f <;> simp [bkL]
      have hVT : FnI Try.prog 112 3 1 (l'.length + 1) (znF (l' ++ [0])) (rowOf int 0 (zl T.reverse)) [] (.d .top) := by
       have := hV T (by omega)
       rw [zl_len, ← zl_rev, hTl, List.length_append] at this
       rw [hTl]; exact this
      have hTlen : (zl T.reverse).length = l'.length + 1 := by rw [zl_len, List.length_reverse, hTl]; simp
      conv => whnf
      repeat' first | ((first | refine Ob.a ?_ | refine Sp.tt ?_ | refine Sp.ff ?_ | refine Sp.yes ?_ | refine Sp.no ?_ | refine Sp.nyes ?_ | refine Sp.nno ?_ | refine Fi.a ?_);conv=>whnf) | ((first | refine Sp.ne ?_ ?_ | refine Sp.dec ?_ ?_ | refine Sp.ndec ?_ ?_ | refine Sp.mk ?_ ?_) <;> intro hc <;> conv => whnf) | (apply Cl.ip;(conv=>whnf); (first | (refine Ob.ipX (hVT) ?_ ?_ ?_ ?_ ?_;(focus (first | exact rfl | omega)); (focus exact Lf); (focus exact Lf); (focus exact Lf)));(conv=>whnf)) | (refine Ap.a ?_ ?_ <;> (conv=>whnf)) | (refine Ob.b ?_;conv=>whnf)
      exact Lf
     ·have hfx : fin x ≠ 0 := hx.elim (fun h => absurd h hx0) id
      obtain ⟨k1, k2, k3, k4⟩ := hrk x hx hfx
      obtain ⟨f', rfl⟩ : ∃ f', f = f' + 1 := ⟨f - 1, by omega⟩
      rw [bkL, if_neg hx0] at hl
      have hfN : fin x ≤ N := by omega
      have hxx : CImp (int (bF b (0 + Int.toNat x) - 1)) (int ((fin x - 1 : Nat) : Int)) := ⟨rfl, by rw [e7]; omega⟩
      have hl2 : (l' ++ [x]) ++ bkL fin f' (fin x - 1) = T := by simpa using hl
      have hc1 : (((fin x - 1 : Nat) : Int)) = (fin x : Int) - 1 := by omega
      conv => whnf
      repeat' first | ((first | refine Ob.a ?_ | refine Sp.tt ?_ | refine Sp.ff ?_ | refine Sp.yes ?_ | refine Sp.no ?_ | refine Sp.nyes ?_ | refine Sp.nno ?_ | refine Fi.a ?_);conv=>whnf) | ((first | refine Sp.ne ?_ ?_ | refine Sp.dec ?_ ?_ | refine Sp.ndec ?_ ?_ | refine Sp.mk ?_ ?_) <;> intro hc <;> conv => whnf) | (refine Ap.a ?_ ?_ <;> (conv=>whnf)) | (refine Ob.b ?_;conv=>whnf)
      all_goals (refine ⟨rfl, ⟨(f', fin x - 1, l' ++ [x]), hl2, k3, k4, by simp only; omega⟩, ?_, by simp only; omega⟩;(conv=>whnf); repeat' first | (refine Edge.fast ?_) | ((conv=>whnf); first | exact True.intro | (refine And.intro ?_ ?_) | exact rfl | exact Nat.le_of_eq (Nat.zero_add _) | exact ImpS.refl _ | ((conv => arg 1; whnf); first | exact ImpS.refl _ | (refine ImpS.nil_eq ?_) | (refine ImpS.vnil_eq ?_) | (refine ImpS.row ?_) | (refine ImpS.rowN ?_ ?_) | (refine ImpS.sl_eq ?_) | (refine ImpS.expl rfl ?_)) | (refine row_snoc' ?_) | exact MImp.refl _ | exact cimp_none | exact cimp_same | exact List.not_mem_nil | exact DImp.refl _) | exact rfl | (refine And.intro ?_ ?_) | exact ImpS.refl _)
      all_goals first | exact row_snocA (by simp) hxx (by simp) | (simp; done) | omega | (simp only [List.length_append, List.length_singleton]; omega)
    ·conv => whnf
     repeat' first | (refine Edge.fast ?_) | ((conv=>whnf); first | exact True.intro | (refine And.intro ?_ ?_) | exact rfl | exact Nat.le_of_eq (Nat.zero_add _) | exact ImpS.refl _ | ((conv => arg 1; whnf); first | exact ImpS.refl _ | (refine ImpS.nil_eq ?_) | (refine ImpS.vnil_eq ?_) | (refine ImpS.row ?_) | (refine ImpS.rowN ?_ ?_) | (refine ImpS.sl_eq ?_) | (refine ImpS.expl rfl ?_)) | (refine row_snoc' ?_) | exact MImp.refl _ | exact cimp_none | exact cimp_same | exact List.not_mem_nil | exact DImp.refl _) | exact rfl | (refine And.intro ?_ ?_) | exact ImpS.refl _
     all_goals first | omega | (simp only [pin]; omega) | exact row_firstA ⟨rfl, by simp only [pin]; omega⟩
 ·have e9 : ∀ j, j < N → CImp (int 0) (rowF (bF fun _ => 0) j) := fun j _ => ⟨rfl, rfl⟩
  conv => whnf
  repeat' first | (refine Edge.fast ?_) | ((conv=>whnf); first | exact True.intro | (refine And.intro ?_ ?_) | exact rfl | exact Nat.le_of_eq (Nat.zero_add _) | exact ImpS.refl _ | ((conv => arg 1; whnf); first | exact ImpS.refl _ | (refine ImpS.nil_eq ?_) | (refine ImpS.vnil_eq ?_) | (refine ImpS.row ?_) | (refine ImpS.rowN ?_ ?_) | (refine ImpS.sl_eq ?_) | (refine ImpS.expl rfl ?_)) | (refine row_snoc' ?_) | exact MImp.refl _ | exact cimp_none | exact cimp_same | exact List.not_mem_nil | exact DImp.refl _) | exact rfl | (refine And.intro ?_ ?_) | exact ImpS.refl _
  all_goals first | omega | exact row_firstA ⟨rfl, rfl⟩ | exact e9
end Go.Px.Try

/-! Tp8 -/
namespace Go.Px.Try
open Go Go.Proofs Go.Px
set_option maxRecDepth 100000
/-- The best one of a list's first ones. -/
def bstF (p : Int → Int → Bool) (l : List Int) (k : Nat) : Int := ((l.drop 1).take k).foldl (fun o x => if p x o = true then x else o) (l.getD 0 0)
theorem bstF_succ {p : Int → Int → Bool} {l : List Int} {k : Nat} (h : k + 1 < l.length) : bstF p l (k + 1) = if p (l.getD (1 + k) 0) (bstF p l k) = true then l.getD (1 + k) 0 else bstF p l k := by
 unfold bstF
 have e : (l.drop 1).take (k + 1) = (l.drop 1).take k ++ [l.getD (1 + k) 0] := by
  rw [take_succ_getD _ _ 0 (by rw [List.length_drop]; omega)]
  congr 1
  rw [List.getD_eq_getElem?_getD, List.getD_eq_getElem?_getD, List.getElem?_drop]
 rw [e, List.foldl_append]
 rfl
theorem bstF_mem {p : Int → Int → Bool} {l : List Int} (h0 : 0 < l.length) : ∀ k, k < l.length → bstF p l k ∈ l
 | 0, _ => by
  show l.getD 0 0 ∈ l
  exact getD_mem h0 0
 | k + 1, h => by
  rw [bstF_succ h]
  split
  ·exact getD_mem (by omega) 0
  ·exact bstF_mem h0 k (by omega)
set_option maxHeartbeats 8000000 in
theorem best_int (l : List Int) (g : Nat) (cc : Nat → DV) (p : Int → Int → Bool) (h0 : 0 < l.length) (h1 : l.length < 1000000) (hp : ∀ x y, x ∈ l → y ∈ l → Fn Try.prog g [int x, int y, cc 0, cc 1, cc 2] (bool (p x y))) : Fn Try.prog 91 [ints l, .fn g 0 3 (fun _ => .top) cc] (int (bstF p l (l.length - 1))) := by
 have hs : ∀ i, i + 1 < l.length → _ := fun i hi => bstF_succ (p := p) (l := l) hi
 have hz : bstF p l 0 = l.getD 0 0 := rfl
 have hm : ∀ i, i < l.length → bstF p l i ∈ l := fun i hi => bstF_mem h0 i hi
 have hg : ∀ i, i < l.length → l.getD i 0 ∈ l := fun i hi => getD_mem hi 0
 generalize bstF p l = B at *
 refine Fn.of_ex (cuts := []) tys hM Try.func91 rfl Try.call91 rfl ?_
 show exC Try.prog T [] _ false none 0 (entry 25 [ints l, .fn g 0 3 (fun _ => .top) cc]) (finQ T [ResultVar.tmp 4] _)
 conv => whnf
 repeat' first | ((first | refine Ob.a ?_ | refine Sp.tt ?_ | refine Sp.ff ?_ | refine Sp.yes ?_ | refine Sp.no ?_ | refine Sp.nyes ?_ | refine Sp.nno ?_ | refine Fi.a ?_);conv=>whnf) | ((first | refine Sp.ne ?_ ?_ | refine Sp.dec ?_ ?_ | refine Sp.ndec ?_ ?_ | refine Sp.mk ?_ ?_) <;> intro hc <;> conv => whnf) | (refine Ob.b ?_;conv=>whnf)
 refine Lp.snap [0, 1, 4, 12, 13, 24] 100 ?_
 (conv=>whnf)
 refine LpB.go 25 ({q : Int × Int // (0 ≤ q.1 ∧ q.1 ≤ l.length - 1) ∧ q.2 = B q.1.toNat}) 0 (fun ⟨(i, o), _⟩ nx => ([(14, .d (int i)), (5, .d (int o))], [])) (fun p => (l.length - p.1.1).toNat) (⟨(0, l.getD 0 0), ⟨by simp, by simp only; omega⟩, hz.symm⟩) ?_ ?_
 ·rintro ⟨⟨i, o⟩, ⟨i0, i1⟩, ho⟩
  simp only at i0 i1 ho
  by_cases hil : i < l.length - 1
  ·have hs := hs i.toNat (by omega)
   rw [← ho, show i.toNat + 1 = (i + 1).toNat by omega, show 1 + i.toNat = Int.toNat 1 + i.toNat from rfl] at hs
   have hp := hp (l.getD (Int.toNat 1 + i.toNat) 0) o (hg _ (by simp; omega)) (by rw [ho]; exact hm _ (by omega))
   by_cases hc : p (l.getD (Int.toNat 1 + i.toNat) 0) o = true
   ·rw [hc] at hp
    rw [if_pos hc] at hs
    conv => whnf
    repeat' first | ((first | refine Ob.a ?_ | refine Sp.tt ?_ | refine Sp.ff ?_ | refine Sp.yes ?_ | refine Sp.no ?_ | refine Sp.nyes ?_ | refine Sp.nno ?_ | refine Fi.a ?_);conv=>whnf) | ((first | refine Sp.ne ?_ ?_ | refine Sp.dec ?_ ?_ | refine Sp.ndec ?_ ?_ | refine Sp.mk ?_ ?_) <;> intro hc <;> conv => whnf) | (apply Cl.go;(conv=>whnf); (first | refine Ob.call (hp) ?_);(conv=>whnf)) | (refine Ob.b ?_;conv=>whnf)
    all_goals exact ⟨rfl, ⟨(i + 1, l.getD (Int.toNat 1 + i.toNat) 0), ⟨by simp only; omega, by simp only; omega⟩, hs.symm⟩, Lf, by simp only; omega⟩
   ·rw [if_neg hc] at hs
    rw [Bool.not_eq_true] at hc
    rw [hc] at hp
    conv => whnf
    repeat' first | ((first | refine Ob.a ?_ | refine Sp.tt ?_ | refine Sp.ff ?_ | refine Sp.yes ?_ | refine Sp.no ?_ | refine Sp.nyes ?_ | refine Sp.nno ?_ | refine Fi.a ?_);conv=>whnf) | ((first | refine Sp.ne ?_ ?_ | refine Sp.dec ?_ ?_ | refine Sp.ndec ?_ ?_ | refine Sp.mk ?_ ?_) <;> intro hc <;> conv => whnf) | (apply Cl.go;(conv=>whnf); (first | refine Ob.call (hp) ?_);(conv=>whnf)) | (refine Ob.b ?_;conv=>whnf)
    all_goals exact ⟨rfl, ⟨(i + 1, o), ⟨by simp only; omega, by simp only; omega⟩, hs.symm⟩, Lf, by simp only; omega⟩
  ·have e : o = B (l.length - 1) := by rw [ho]; congr 1; omega
   conv => whnf
   repeat' first | ((first | refine Ob.a ?_ | refine Sp.tt ?_ | refine Sp.ff ?_ | refine Sp.yes ?_ | refine Sp.no ?_ | refine Sp.nyes ?_ | refine Sp.nno ?_ | refine Fi.a ?_);conv=>whnf) | ((first | refine Sp.ne ?_ ?_ | refine Sp.dec ?_ ?_ | refine Sp.ndec ?_ ?_ | refine Sp.mk ?_ ?_) <;> intro hc <;> conv => whnf) | (refine Ob.b ?_;conv=>whnf)
   all_goals exact Lf
 ·exact Lf
/-- Which nodes are used, as an array. -/
def usI (U : Nat → Bool) : Nat → Int := fun j => if U j = true then 1 else 0
set_option maxHeartbeats 8000000 in
theorem ways1_spec (U : Nat → Bool) (m : List Int → Option Int) (w : List Int) (a b : Int) (b0 : 0 ≤ b) (b1 : b < 10) (h0 : 0 < w.length) (h1 : w.length < 1000) (hw : 0 ≤ w.getD 0 0 ∧ w.getD 0 0 < 10) :
  Fn Try.prog 93 [int a, int b, .pt (.ag 10 (rowF (usI U))) 0, .pt (.ag 1 fun _ => .mp ⟨true, 2⟩ m) 0, .pt (.ag 1 fun _ => ints w) 0] (bool (U b.toNat || decide ((m [1 + 2 * w.getD 0 0, 2 + 2 * b]).getD 0 = 0))) := by
 have hI := in_spec (w.getD 0 0) hw.1 (by omega)
 have hO := out_spec b b0 (by omega)
 have hb : 0 + b.toNat * ti2.size < 10 := by rw [show ti2.size = 1 from rfl]; omega
 have hu : usI U (0 + b.toNat * ti2.size) = if U b.toNat = true then 1 else 0 := by rw [show ti2.size = 1 from rfl, Nat.mul_one, Nat.zero_add]; rfl
 cases hU : U b.toNat with
 | true =>
  rw [hU, if_pos rfl] at hu
  refine Fn.of_ex (cuts := []) tys hM Try.func93 rfl Try.call93 rfl ?_
  show exC Try.prog T [] _ false none 0 (entry 24 [int a, int b, .pt (.ag 10 (rowF (usI U))) 0, .pt (.ag 1 fun _ => .mp ⟨true, 2⟩ m) 0, .pt (.ag 1 fun _ => ints w) 0]) (finQ T [ResultVar.tmp 7] _)
  conv => whnf
  repeat' first | ((first | refine Ob.a ?_ | refine Sp.tt ?_ | refine Sp.ff ?_ | refine Sp.yes ?_ | refine Sp.no ?_ | refine Sp.nyes ?_ | refine Sp.nno ?_ | refine Fi.a ?_);conv=>whnf) | ((first | refine Sp.ne ?_ ?_ | refine Sp.dec ?_ ?_ | refine Sp.ndec ?_ ?_ | refine Sp.mk ?_ ?_) <;> intro hc <;> conv => whnf) | (apply Cl.go;(conv=>whnf); (first | refine Ob.call (hI) ?_ | refine Ob.call (hO) ?_);(conv=>whnf)) | (refine Ob.b ?_;conv=>whnf)
  all_goals first | (exfalso; omega) | exact Lf
 | false =>
  rw [hU, if_neg (by decide)] at hu
  refine Fn.of_ex (cuts := []) tys hM Try.func93 rfl Try.call93 rfl ?_
  show exC Try.prog T [] _ false none 0 (entry 24 [int a, int b, .pt (.ag 10 (rowF (usI U))) 0, .pt (.ag 1 fun _ => .mp ⟨true, 2⟩ m) 0, .pt (.ag 1 fun _ => ints w) 0]) (finQ T [ResultVar.tmp 7] _)
  conv => whnf
  repeat' first | ((first | refine Ob.a ?_ | refine Sp.tt ?_ | refine Sp.ff ?_ | refine Sp.yes ?_ | refine Sp.no ?_ | refine Sp.nyes ?_ | refine Sp.nno ?_ | refine Fi.a ?_);conv=>whnf) | ((first | refine Sp.ne ?_ ?_ | refine Sp.dec ?_ ?_ | refine Sp.ndec ?_ ?_ | refine Sp.mk ?_ ?_) <;> intro hc <;> conv => whnf) | (apply Cl.go;(conv=>whnf); (first | refine Ob.call (hI) ?_ | refine Ob.call (hO) ?_);(conv=>whnf)) | (refine Ob.b ?_;conv=>whnf)
  all_goals first | (exfalso; omega) | exact Lf
end Go.Px.Try

/-! Tl2 -/
namespace Go.Px.Try
open Go Go.Proofs Go.Px
set_option maxRecDepth 100000
theorem row_first5 {α : Type} {enc : α → DV} {d : α} {x : α} {f g : Nat → DV} (h : CImp (g 0) (enc x)) : ∀ j, j < [x].length → CImp (apd 0 f g j) (rowOf enc d [x] j) := by
 intro j hj
 have : j = 0 := by simp at hj; omega
 subst this
 exact h
set_option maxHeartbeats 8000000 in
theorem AppendSeq_spec (F : List (List Int)) (hs : SmallM F) (B : DV) (l i : Int) (i0 : 0 ≤ i) (i1 : i < F.length) (L : List Int) (hL : F.getD i.toNat [] = L) (h0 : 0 < L.length) : FnF Try.prog 113 [.v (.slice none 0 0), itF F B l i] 3 1 L.length (rowOf int 0 L) (.ms 0 1 0 L.length) := by
 have hsq := list1_spec F hs B l i i0 i1 L hL
 have h1 : L.length < 1000000 := by rw [← hL]; exact hs.i _ (getD_mem (by omega) [])
 clear hL
 refine FnF.of_ex (cuts := []) tys hM Try.func113 rfl Try.call113 rfl ?_
 show exC Try.prog T [] _ false none 0 (entry 13 [.v (.slice none 0 0), itF F B l i]) (finG T 0 [ResultVar.tmp 4] _ _)
 conv => whnf
 repeat' first | ((first | refine Ob.a ?_ | refine Sp.tt ?_ | refine Sp.ff ?_ | refine Sp.yes ?_ | refine Sp.no ?_ | refine Sp.nyes ?_ | refine Sp.nno ?_ | refine Fi.a ?_);conv=>whnf) | ((first | refine Sp.ne ?_ ?_ | refine Sp.dec ?_ ?_ | refine Sp.ndec ?_ ?_ | refine Sp.mk ?_ ?_) <;> intro hc <;> conv => whnf) | (refine Ob.b ?_;conv=>whnf)
 refine Rg.snap [0, 1, 2, 4] 40 ?_
 (conv=>whnf)
 refine RgB.go 13 ({k : Nat // k ≤ L.length}) 1 (fun ⟨k, _⟩ nx => match k with
  | 0 => []
  | k + 1 => [(0, .cs true 1 fun _ => .ms nx 1 0 (k + 1)), (nx, .row true 3 1 (k + 1) (rowOf int 0 (L.take (k + 1))))]) (fun p => p.1) (⟨0, by omega⟩) hsq ?_ ?_ ?_
 ·rintro ⟨k, hk⟩ j hj0 hj
  simp only at hj0
  subst hj0
  have ht := take_succ_getD L k 0 hj
  have hln : (L.take k).length = k := by rw [List.length_take]; omega
  cases k with
  | zero =>
   have ht : L.take 1 = [L.getD 0 0] := by simpa using ht
   conv => whnf
   repeat' first | ((first | refine Ob.a ?_ | refine Sp.tt ?_ | refine Sp.ff ?_ | refine Sp.yes ?_ | refine Sp.no ?_ | refine Sp.nyes ?_ | refine Sp.nno ?_ | refine Fi.a ?_);conv=>whnf) | ((first | refine Sp.ne ?_ ?_ | refine Sp.dec ?_ ?_ | refine Sp.ndec ?_ ?_ | refine Sp.mk ?_ ?_) <;> intro hc <;> conv => whnf) | (refine Ob.b ?_;conv=>whnf)
   refine ⟨rfl, ⟨1, hj⟩, rfl, ?_⟩
   conv => whnf
   repeat' first | (refine Edge.fast ?_) | ((conv=>whnf); first | exact True.intro | (refine And.intro ?_ ?_) | exact rfl | exact Nat.le_of_eq (Nat.zero_add _) | exact ImpS.refl _ | ((conv => arg 1; whnf); first | exact ImpS.refl _ | (refine ImpS.nil_eq ?_) | (refine ImpS.vnil_eq ?_) | (refine ImpS.row ?_) | (refine ImpS.rowN ?_ ?_) | (refine ImpS.sl_eq ?_) | (refine ImpS.expl rfl ?_)) | (refine row_snoc' ?_) | exact MImp.refl _ | exact cimp_none | exact cimp_same | exact List.not_mem_nil | exact DImp.refl _) | exact rfl | (refine And.intro ?_ ?_) | exact ImpS.refl _
   intro j hj2
   have h : ∀ f g : Nat → DV, CImp (g 0) (int (L.getD 0 0)) → CImp (apd 0 f g j) (rowOf int 0 (L.take (0 + 1)) j) := fun f g hg => by
    rw [show L.take (0 + 1) = [L.getD 0 0] from ht]
    exact row_first5 hg j hj2
   exact h _ _ ⟨rfl, rfl⟩
  | succ k =>
   conv => whnf
   repeat' first | ((first | refine Ob.a ?_ | refine Sp.tt ?_ | refine Sp.ff ?_ | refine Sp.yes ?_ | refine Sp.no ?_ | refine Sp.nyes ?_ | refine Sp.nno ?_ | refine Fi.a ?_);conv=>whnf) | ((first | refine Sp.ne ?_ ?_ | refine Sp.dec ?_ ?_ | refine Sp.ndec ?_ ?_ | refine Sp.mk ?_ ?_) <;> intro hc <;> conv => whnf) | (refine Ob.b ?_;conv=>whnf)
   refine ⟨rfl, ⟨k + 1 + 1, hj⟩, rfl, ?_⟩
   conv => whnf
   repeat' first | (refine Edge.fast ?_) | ((conv=>whnf); first | exact True.intro | (refine And.intro ?_ ?_) | exact rfl | exact Nat.le_of_eq (Nat.zero_add _) | exact ImpS.refl _ | ((conv => arg 1; whnf); first | exact ImpS.refl _ | (refine ImpS.nil_eq ?_) | (refine ImpS.vnil_eq ?_) | (refine ImpS.row ?_) | (refine ImpS.rowN ?_ ?_) | (refine ImpS.sl_eq ?_) | (refine ImpS.expl rfl ?_)) | (refine row_snoc' ?_) | exact MImp.refl _ | exact cimp_none | exact cimp_same | exact List.not_mem_nil | exact DImp.refl _) | exact rfl | (refine And.intro ?_ ?_) | exact ImpS.refl _
   intro j hj2
   have h : ∀ g : Nat → DV, CImp (g 0) (int (L.getD (k + 1) 0)) → CImp (apd (k + 1) (rowOf int 0 (L.take (k + 1))) g j) (rowOf int 0 (L.take (k + 1 + 1)) j) := fun g hg => by
    have := row_snoc' (d := 0) (l := L.take (k + 1)) hg j (by rw [List.length_append, hln]; exact hj2)
    rw [hln] at this
    rw [ht]; exact this
   exact h _ ⟨rfl, rfl⟩
 ·rintro ⟨k, hk⟩ hkn
  simp only at hkn
  subst hkn
  cases L with
  | nil => exact absurd h0 (by simp)
  | cons x L =>
   have e : (x :: L).take (L.length + 1) = x :: L := List.take_of_length_le (by simp)
   conv => whnf
   repeat' first | ((first | refine Ob.a ?_ | refine Sp.tt ?_ | refine Sp.ff ?_ | refine Sp.yes ?_ | refine Sp.no ?_ | refine Sp.nyes ?_ | refine Sp.nno ?_ | refine Fi.a ?_);conv=>whnf) | ((first | refine Sp.ne ?_ ?_ | refine Sp.dec ?_ ?_ | refine Sp.ndec ?_ ?_ | refine Sp.mk ?_ ?_) <;> intro hc <;> conv => whnf) | (refine Ob.b ?_;conv=>whnf)
   rw [e]
   exact Lf
 ·exact Lf
set_option maxHeartbeats 8000000 in
theorem Collect_spec (F : List (List Int)) (hs : SmallM F) (B : DV) (l i : Int) (i0 : 0 ≤ i) (i1 : i < F.length) (L : List Int) (hL : F.getD i.toNat [] = L) (h0 : 0 < L.length) : FnF Try.prog 92 [itF F B l i] 3 1 L.length (rowOf int 0 L) (.ms 0 1 0 L.length) := by
 have h := AppendSeq_spec F hs B l i i0 i1 L hL h0
 refine FnF.of_ex (cuts := []) tys hM Try.func92 rfl Try.call92 rfl ?_
 show exC Try.prog T [] _ false none 0 (entry 5 [itF F B l i]) (finG T 0 [ResultVar.tmp 2] _ _)
 conv => whnf
 repeat' first | ((first | refine Ob.a ?_ | refine Sp.tt ?_ | refine Sp.ff ?_ | refine Sp.yes ?_ | refine Sp.no ?_ | refine Sp.nyes ?_ | refine Sp.nno ?_ | refine Fi.a ?_);conv=>whnf) | ((first | refine Sp.ne ?_ ?_ | refine Sp.dec ?_ ?_ | refine Sp.ndec ?_ ?_ | refine Sp.mk ?_ ?_) <;> intro hc <;> conv => whnf) | (apply Cl.fr;(conv=>whnf); (first | (refine Ob.frX (h) ?_ ?_ ?_;(focus exact Lf); (focus exact Lf)));(conv=>whnf)) | (refine Ob.b ?_;conv=>whnf)
 all_goals exact Lf
end Go.Px.Try

/-! Tm11 -/
namespace Go.Px.Try
open Go Go.Proofs Go.Px
def resC (cap φ : Nat → Nat → Int) : Nat → Nat → Int := fun u v => cap u v - φ u v
/-- The row that is found, and the flow after k rows. -/
def rowN (F : List (List Int)) (bad W : Nat → Bool) (lot : Nat) (φ : Nat → Nat → Int) : List Nat := srchL (resC (capB F bad W lot) φ) (2 + 2 * F.length) (pin lot)
def flowN (F : List (List Int)) (bad W : Nat → Bool) (lot : Nat) : Nat → Nat → Nat → Int
 | 0 => fun _ _ => 0
 | k + 1 => pushes (flowN F bad W lot k) (rowN F bad W lot (flowN F bad W lot k))
/-- How many rows are found, from v on, but no more than so many. -/
def fdN (F : List (List Int)) (bad W : Nat → Bool) (lot : Nat) : Nat → Nat → Nat
 | 0, v => v
 | f + 1, v => if rowN F bad W lot (flowN F bad W lot v) = [] then v else fdN F bad W lot f (v + 1)
theorem rmy_roomy {cap φ : Nat → Nat → Int} : ∀ {l : List Nat}, rmy (resC cap φ) l → roomy cap φ l
 | [], _ => trivial
 | [_], _ => trivial
 | a :: b :: l, h => ⟨by have := h.1; unfold resC at this; omega, rmy_roomy h.2⟩
theorem rmy_pred {c : Nat → Nat → Int} : ∀ {l : List Nat} {a : Nat}, rmy c (a :: l) → ∀ y ∈ l, ∃ x, 0 < c x y
 | [], _, _, y, hy => by cases hy
 | b :: l, a, h, y, hy => by
  rcases List.mem_cons.1 hy with e | hy
  ·subst e; exact ⟨a, h.1⟩
  ·exact rmy_pred h.2 y hy
section
variable {F : List (List Int)} (h : MixOk F) {bad W : Nat → Bool} {lot : Nat} (hlot : lot < F.length) (hne : frm F lot ≠ []) (hbad : ∀ i, bad i = true → frm F i = []) (hWl : W lot = false)
include h hlot hne hbad
theorem flow_zero : Flow (1 + 2 * F.length) (pin lot) (capB F bad W lot) (fun _ _ => 0) (0 : Nat) := by
 have _ := h; have _ := hlot; have _ := hne; have _ := hbad
 refine ⟨fun _ _ => by simp, fun a b => cap_nn .., fun a _ => ?_⟩
 rw [sm_zero fun _ _ => rfl]
 split
 ·rfl
 ·split <;> rfl
theorem flow_top {φ : Nat → Nat → Int} {v : Int} (hf : Flow (1 + 2 * F.length) (pin lot) (capB F bad W lot) φ v) (x : Nat) : resC (capB F bad W lot) φ x (1 + 2 * F.length) ≤ 0 := by
 have _ := h; have _ := hlot; have _ := hne; have _ := hbad
 have e1 : capB F bad W lot x (1 + 2 * F.length) = 0 := if_neg fun he => by
  rcases edge_cases he with ⟨_, i, hv, hi, _⟩ | ⟨i, hu, hv, hi, _⟩ | ⟨k, i, hu, hv, hi, _⟩ <;> simp only [pin, pout] at hv <;> omega
 have e2 : capB F bad W lot (1 + 2 * F.length) x = 0 := if_neg fun he => by
  rcases edge_cases he with ⟨hu, _⟩ | ⟨i, hu, hv, hi, _⟩ | ⟨k, i, hu, hv, hi, hk⟩
  ·omega
  ·simp only [pin] at hu; omega
  ·simp only [pout] at hu; omega
 have h1 := hf.skew x (1 + 2 * F.length)
 have h2 := hf.le (1 + 2 * F.length) x
 unfold resC
 omega
theorem row_some {φ : Nat → Nat → Int} {v : Int} (hf : Flow (1 + 2 * F.length) (pin lot) (capB F bad W lot) φ v) (hr : rowN F bad W lot φ ≠ []) : ∃ l, rowN F bad W lot φ = 0 :: l ∧ roomy (capB F bad W lot) φ (0 :: l) ∧ (0 :: l).Nodup ∧ (∀ y ∈ 0 :: l, y < 1 + 2 * F.length) ∧ (0 :: l).getLast (List.cons_ne_nil _ _) = pin lot := by
 obtain ⟨l, h1, h2, h3, h4, h5⟩ := srch_some (by omega) (show pin lot < 2 + 2 * F.length by unfold pin; omega) hr
 refine ⟨l, h1, rmy_roomy h2, h3, fun y hy => ?_, h5⟩
 have hy2 := h4 y hy
 rcases List.mem_cons.1 hy with e | hy
 ·omega
 ·obtain ⟨x, hx⟩ := rmy_pred h2 y hy
  by_cases e : y = 1 + 2 * F.length
  ·subst e
   have := flow_top h hlot hne hbad hf x
   omega
  ·omega
theorem flowN_ok : ∀ k, (∀ j, j < k → rowN F bad W lot (flowN F bad W lot j) ≠ []) → Flow (1 + 2 * F.length) (pin lot) (capB F bad W lot) (flowN F bad W lot k) (k : Int)
 | 0, _ => flow_zero h hlot hne hbad
 | k + 1, hk => by
  have ih := flowN_ok k fun j hj => hk j (by omega)
  obtain ⟨l, h1, h2, h3, h4, h5⟩ := row_some h hlot hne hbad ih (hk k (by omega))
  rw [flowN, h1]
  have := ih.more (cap_nn F bad W lot) (by unfold pin; omega) h2 h3 h4 h5
  rw [show ((k + 1 : Nat) : Int) = (k : Int) + 1 by omega]
  exact this
theorem bad_lot : bad lot = false := by
 have _ := h; have _ := hlot
 cases hb : bad lot with
 | false => rfl
 | true => exact absurd (hbad lot hb) hne
include hWl
theorem flow_low {φ : Nat → Nat → Int} {v : Nat} (hf : Flow (1 + 2 * F.length) (pin lot) (capB F bad W lot) φ v) {X : Nat → Bool} (hXl : X lot = false) (hX : fr F bad (fun i => W i || X i) lot = false) : (v : Int) ≤ cntS X F.length := by
 have hbl := bad_lot h hlot hne hbad
 have hG := fg_of h hf hlot hbl
 have hsl : sOf φ lot = false := by
  cases hs : sOf φ lot with
  | false => rfl
  | true => rw [hG.se hs] at hbl; cases hbl
 exact cut_ge h hG hbad hWl (ways_ok h hG hlot hsl v (Nat.le_refl _)) hXl hX
theorem flow_le {φ : Nat → Nat → Int} {v : Nat} (hf : Flow (1 + 2 * F.length) (pin lot) (capB F bad W lot) φ v) : v ≤ F.length := by
 have := flow_low h hlot hne hbad hWl hf (X := fun i => decide (i ≠ lot)) (by simp) (by
  rw [fr_eq h bad _ hlot, if_neg hne]
  rw [hWl]
  simp only [ne_eq, not_true, decide_false, Bool.or_self, Bool.not_false, Bool.true_and]
  rw [List.any_eq_false]
  intro k hk
  have hk0 := (h.ris lot hlot).1 k hk
  rw [fr_eq h bad _ (by omega), decide_eq_true (show k.toNat ≠ lot by omega), Bool.or_true]
  simp)
 have h2 : ∀ n, cntS (fun i => decide (i ≠ lot)) n ≤ n := by
  intro n
  unfold cntS
  induction n with
  | zero => simp [sm]
  | succ n ih =>
   rw [sm]
   split <;> omega
 have := h2 F.length
 omega
theorem lam_row {v : Nat} (hk : ∀ j, j < v → rowN F bad W lot (flowN F bad W lot j) ≠ []) (hv : rowN F bad W lot (flowN F bad W lot v) = []) : Lam F bad lot W v := by
 have hf := flowN_ok h hlot hne hbad v hk
 obtain ⟨R, r0, rt, hR⟩ := srch_none (by omega) (show pin lot ≠ 0 by unfold pin; omega) hv
 obtain ⟨C, c1, c2, c3⟩ := ex_cut h hlot hne hbad hf r0 rt fun a b ha hb hRa hRb => by
  have h1 := hR a b (by omega) (by omega) hRa hRb
  have h2 := hf.le a b
  unfold resC at h1
  omega
 have hCl : C lot = false := by
  cases e : C lot with
  | false => rfl
  | true => exact absurd rfl (c1 lot e).2
 refine ⟨⟨C, c1, ?_, c3⟩, fun X hXl hX => flow_low h hlot hne hbad hWl hf hXl hX⟩
 have := flow_low h hlot hne hbad hWl hf hCl c3
 omega
theorem fdN_spec : ∀ (f v : Nat), (∀ j, j < v → rowN F bad W lot (flowN F bad W lot j) ≠ []) → (∀ j, j < fdN F bad W lot f v → rowN F bad W lot (flowN F bad W lot j) ≠ []) ∧ (fdN F bad W lot f v = v + f ∨ rowN F bad W lot (flowN F bad W lot (fdN F bad W lot f v)) = [])
 | 0, v, hk => by
  have _ := h; have _ := hlot; have _ := hne; have _ := hbad; have _ := hWl
  exact ⟨hk, .inl rfl⟩
 | f + 1, v, hk => by
  rw [fdN]
  by_cases e : rowN F bad W lot (flowN F bad W lot v) = []
  ·rw [if_pos e]; exact ⟨hk, .inr e⟩
  ·rw [if_neg e]
   obtain ⟨h1, h2⟩ := fdN_spec f (v + 1) fun j hj => by
    by_cases e2 : j = v
    ·subst e2; exact e
    ·exact hk j (by omega)
   exact ⟨h1, h2.imp (fun e => by omega) id⟩
/-- How many nodes a shortest cut has, besides some nodes. -/
def lamW (F : List (List Int)) (bad : Nat → Bool) (lot : Nat) (W : Nat → Bool) : Nat := fdN F bad W lot F.length 0
theorem lam_is : Lam F bad lot W (lamW F bad lot W) := by
 obtain ⟨h1, h2⟩ := fdN_spec h hlot hne hbad hWl F.length 0 fun j hj => by omega
 have hrow : rowN F bad W lot (flowN F bad W lot (lamW F bad lot W)) = [] := by
  rcases h2 with e | e
  ·refine Classical.byContradiction fun hc => ?_
   have hf := flowN_ok h hlot hne hbad (lamW F bad lot W + 1) fun j hj => by
    by_cases e2 : j = lamW F bad lot W
    ·rw [e2]; exact hc
    ·exact h1 j (by unfold lamW at *; omega)
   have := flow_le h hlot hne hbad hWl hf
   unfold lamW at this
   omega
  ·exact e
 exact lam_row h hlot hne hbad hWl h1 hrow
theorem fd_one : 0 < fdN F bad W lot 1 0 ↔ fr F bad W lot = true := by
 obtain ⟨h1, h2⟩ := fdN_spec h hlot hne hbad hWl 1 0 fun j hj => by omega
 constructor
 ·intro h0
  have hf := flowN_ok h hlot hne hbad 1 fun j hj => h1 j (by omega)
  refine Classical.byContradiction fun hc => ?_
  have := flow_low h hlot hne hbad hWl hf (X := fun _ => false) rfl (by simpa using hc)
  have hz : cntS (fun _ => false) F.length = 0 := sm_zero fun _ _ => rfl
  omega
 ·intro hfr
  refine Nat.pos_of_ne_zero fun e => ?_
  rcases h2 with e2 | e2
  ·omega
  ·rw [e] at e2
   obtain ⟨C, c1, c2, c3⟩ := (lam_row h hlot hne hbad hWl (v := 0) (fun j hj => by omega) e2).att
   have : ∀ i, C i = false := fun i => by
    cases hC : C i with
    | false => rfl
    | true =>
     have h3 := c1 i hC
     have h4 : cntS C F.length ≥ 1 := by
      have := sm_ge_one (f := fun i => if C i = true then 1 else 0) (k := i) (n := F.length) (fun j _ => by split <;> omega) h3.1
      rw [if_pos hC] at this
      exact this
     omega
   have hq : (fun i => W i || C i) = W := funext fun i => by rw [this i, Bool.or_false]
   rw [hq, hfr] at c3; cases c3
end
end Go.Px.Try

/-! Tm12 -/
namespace Go.Px.Try
open Go Go.Proofs Go.Px
theorem pushes_snoc : ∀ (l : List Nat) (φ : Nat → Nat → Int) (a b : Nat), pushes φ (l ++ [a, b]) = push (pushes φ (l ++ [a])) a b
 | [], φ, a, b => rfl
 | [x], φ, a, b => rfl
 | x :: y :: l, φ, a, b => pushes_snoc (y :: l) (push φ x y) a b
theorem pushes_take (L : List Nat) (φ : Nat → Nat → Int) {i : Nat} (h : i + 1 < L.length) : pushes φ (L.take (i + 1 + 1)) = push (pushes φ (L.take (i + 1))) (L.getD i 0) (L.getD (i + 1) 0) := by
 have t1 : L.take (i + 1) = L.take i ++ [L.getD i 0] := by
  rw [List.take_add_one, List.getD_eq_getElem?_getD, List.getElem?_eq_getElem (by omega)]; rfl
 have t2 : L.take (i + 1 + 1) = L.take i ++ [L.getD i 0, L.getD (i + 1) 0] := by
  rw [List.take_add_one, t1, List.getD_eq_getElem?_getD (l := L) (i := i + 1), List.getElem?_eq_getElem h]; simp
 rw [t2, pushes_snoc, ← t1]
theorem pushes_near : ∀ (l : List Nat) (φ : Nat → Nat → Int) (u v : Nat), pushes φ l u v ≤ φ u v + l.length ∧ φ u v ≤ pushes φ l u v + l.length
 | [], φ, u, v => by simp [pushes]
 | [x], φ, u, v => by simp only [pushes, List.length_cons, List.length_nil]; omega
 | x :: y :: l, φ, u, v => by
  have h1 := pushes_near (y :: l) (push φ x y) u v
  have h2 : push φ x y u v ≤ φ u v + 1 ∧ φ u v ≤ push φ x y u v + 1 := by
   unfold push
   split
   ·omega
   ·split <;> omega
  rw [pushes]
  simp only [List.length_cons] at h1 ⊢
  omega
theorem res_push {cap φ : Nat → Nat → Int} {a b u v : Nat} : resC cap (push φ a b) u v = if u = a ∧ v = b then resC cap φ u v - 1 else if u = b ∧ v = a then resC cap φ u v + 1 else resC cap φ u v := by
 unfold resC push
 split
 ·omega
 ·split <;> omega
theorem res_small {N t : Nat} {cap φ : Nat → Nat → Int} {w : Int} (hf : Flow N t cap φ w) (hc : ∀ a b, 0 ≤ cap a b ∧ cap a b ≤ 1) (u v : Nat) : 0 ≤ resC cap φ u v ∧ resC cap φ u v ≤ 2 := by
 have h1 := hf.le u v
 have h2 := hf.le v u
 have h3 := hf.skew u v
 have h4 := hc u v
 have h5 := hc v u
 unfold resC
 omega
theorem cap_01 (F : List (List Int)) (bad W : Nat → Bool) (lot a b : Nat) : 0 ≤ capB F bad W lot a b ∧ capB F bad W lot a b ≤ 1 := by
 unfold capB
 split <;> omega
/-- What a way back knows at each step. -/
structure BkI (F : List (List Int)) (g : Nat → Nat → Bool) (s : Nat → Bool) (lot : Nat) (U : Nat → Bool) : Prop where
 cl : ∀ k j, U k = true → g k j = true → j = lot ∨ U j = true
 ul : U lot = false
 ex : ∃ k, g k lot = true ∧ U k = false
theorem back_step {F : List (List Int)} (hF : MixOk F) {bad W : Nat → Bool} {lot : Nat} {g : Nat → Nat → Bool} {s : Nat → Bool} {v : Nat} (hG : FG F bad W lot g s v) (hlot : lot < F.length) {U : Nat → Bool} (hB : BkI F g s lot U) {cur : Nat} {w0 : List Nat} {U' : Nat → Bool} (hp : PW g lot U (cur :: w0) U') (hs : s cur = false) :
  ∃ q : Nat, pickK F g U' cur = q ∧ frm F cur ≠ [] ∧ cur < F.length ∧ q < cur ∧ PW g lot U (q :: cur :: w0) (mark U' q) := by
 have hpred : ∃ k, g k cur = true ∧ U' k = false := by
  by_cases hcl' : cur = lot
  ·subst hcl'
   obtain ⟨k, h1, h2⟩ := hB.ex
   refine ⟨k, h1, ?_⟩
   cases h : U' k with
   | false => rfl
   | true =>
    rcases (hp.used k).1 h with h' | ⟨h', h''⟩
    ·rw [h2] at h'; cases h'
    ·have hlt := (hF.ris _ hlot).1 _ (hG.ge h1).2.1
     rcases List.mem_cons.1 h' with e | e
     ·exact absurd e h''
     ·have := (List.pairwise_cons.1 hp.inc).1 k e; omega
  ·have hgo : ∃ j, g cur j = true := by
    obtain ⟨j, _, hj⟩ := gW_succ hp.way hp.last (List.mem_cons_self ..) hcl'
    exact ⟨j, hj⟩
   obtain ⟨j, hj⟩ := hgo
   rcases hG.come hcl' hj with h | ⟨k, hk⟩
   ·rw [hs] at h; cases h
   ·refine ⟨k, hk, ?_⟩
    cases h : U' k with
    | false => rfl
    | true =>
     rcases (hp.used k).1 h with h' | ⟨h', h''⟩
     ·rcases hB.cl k cur h' hk with e | e
      ·exact absurd e hcl'
      ·have := hp.fresh cur (List.mem_cons_self ..) hcl'; rw [e] at this; cases this
     ·have hck := (hG.ge hk)
      have hlt := (hF.ris _ hck.1).1 _ hck.2.1
      rcases List.mem_cons.1 h' with e | e
      ·omega
      ·have := (List.pairwise_cons.1 hp.inc).1 k e; omega
 obtain ⟨k, hk, hUk⟩ := hpred
 have hgk := hG.ge hk
 obtain ⟨q, e1, e2, e3, e4⟩ := pickK_good hF hgk.1 hgk.2.1 hUk hk
 have hlt := (hF.ris _ hgk.1).1 _ e2
 have hql := (hG.ge e4).2.2.1
 refine ⟨q, e1, fun e => ?_, hgk.1, by omega, by simp, ⟨e4, hp.way⟩, by have := hp.last; simpa using this, ?_, fun x hx hxl => ?_, fun x => ?_⟩
 ·rw [e] at e2; cases e2
 ·refine List.pairwise_cons.2 ⟨fun x hx => ?_, hp.inc⟩
  rcases List.mem_cons.1 hx with e | e
  ·omega
  ·have := (List.pairwise_cons.1 hp.inc).1 x e; omega
 ·rcases List.mem_cons.1 hx with e | e
  ·subst e
   cases h : U x with
   | false => rfl
   | true => have := (hp.used x).2 (.inl h); rw [e3] at this; cases this
  ·exact hp.fresh x e hxl
 ·unfold mark
  by_cases e : x = q
  ·rw [if_pos e]; subst e
   exact ⟨fun _ => .inr ⟨List.mem_cons_self .., hql⟩, fun _ => rfl⟩
  ·rw [if_neg e, hp.used x]
   constructor
   ·rintro (h | ⟨h, h'⟩)
    ·exact .inl h
    ·exact .inr ⟨List.mem_cons_of_mem _ h, h'⟩
   ·rintro (h | ⟨h, h'⟩)
    ·exact .inl h
    ·rcases List.mem_cons.1 h with e' | e'
     ·exact absurd e' e
     ·exact .inr ⟨e', h'⟩
/-- A way back begins well. -/
theorem back_init {F : List (List Int)} {bad W : Nat → Bool} {lot : Nat} {g : Nat → Nat → Bool} {s : Nat → Bool} {v r : Nat} (hG : FG F bad W lot g s v) (hr : r < v) {ws : List (List Nat)} {U : Nat → Bool} (ih : WInv F lot g s r ws U) : BkI F g s lot U ∧ PW g lot U [lot] U := by
 refine ⟨⟨fun k j hk hj => ?_, ?_, ?_⟩, by simp, trivial, rfl, List.pairwise_singleton _ _, fun k hk hkl => absurd (by simpa using hk) hkl, fun k => ⟨fun h => .inl h, fun h => ?_⟩⟩
 ·obtain ⟨h1, w, h2, h3⟩ := (ih.used k).1 hk
  obtain ⟨a1, a2, _⟩ := ih.way w h2
  obtain ⟨j', h4, h5⟩ := gW_succ a1 a2 h3 h1
  have := hG.out hj h5
  subst this
  by_cases e : j = lot
  ·exact .inl e
  ·exact .inr ((ih.used j).2 ⟨e, w, h2, h4⟩)
 ·cases h : U lot with
  | false => rfl
  | true => exact absurd rfl ((ih.used lot).1 h).1
 ·obtain ⟨k, h1, h2, h3⟩ := cnt_lt (A := fun k => g k lot && U k) (B := fun k => g k lot) (n := F.length) (by rw [ih.cnt, hG.cnt]; omega)
  exact ⟨k, h2, by rw [h2] at h3; simpa using h3⟩
 ·rcases h with h | ⟨h, h'⟩
  ·exact h
  ·exact absurd (by simpa using h) h'
/-- The program's choice is the same. -/
theorem pick_eq {F : List (List Int)} {g : Nat → Nat → Bool} {U : Nat → Bool} {cur : Nat} {p : Int → Int → Bool} (hp : ∀ x o, o ∈ frm F cur → p x o = (U o.toNat || !g o.toNat cur)) : ∀ (l : List Int) (a : Int), (∀ x ∈ a :: l, x ∈ frm F cur) → l.foldl (fun o x => if p x o = true then x else o) a = l.foldl (pickS g U cur) a
 | [], a, _ => rfl
 | b :: l, a, h => by
  rw [List.foldl_cons, List.foldl_cons]
  have e : (if p b a = true then b else a) = pickS g U cur a b := by
   unfold pickS
   rw [hp b a (h a (List.mem_cons_self ..))]
   cases U a.toNat <;> cases g a.toNat cur <;> simp
  rw [e]
  refine pick_eq hp l _ fun x hx => ?_
  rcases List.mem_cons.1 hx with e2 | hx
  ·rw [e2]
   unfold pickS
   split
   ·exact h b (by simp)
   ·exact h a (by simp)
  ·exact h x (by simp [hx])
end Go.Px.Try

/-! Tp9 -/
namespace Go.Px.Try
open Go Go.Proofs Go.Px
set_option maxRecDepth 100000
open Classical in
theorem edM_cap {F : List (List Int)} {bad : List Int} {lot : Int} (hk : BadOk F bad lot) (W : List Int) (u v : Nat) : (edM (rmD F lot bad W F.length) [(u : Int), (v : Int)]).getD 0 = capB F (inZ bad) (inZ W) lot.toNat u v := by
 have l0 := hk.l0
 have l1 := hk.l1
 have key : rmD F lot bad W F.length u v ↔ edgeB F (inZ bad) (inZ W) lot.toNat u v = true := by
  unfold rmD rmB rmP
  constructor
  ·rintro ⟨(⟨j, j0, j1, jl, hu, hv⟩ | ⟨j, x, j0, j1, hx, hu, hv⟩) | ⟨x, hx, hu, hv⟩, hn⟩
   ·obtain ⟨a, rfl⟩ : ∃ a : Nat, j = a := ⟨j.toNat, by omega⟩
    obtain rfl : u = pin a := by unfold pin; omega
    obtain rfl : v = pout a := by unfold pout; omega
    refine edge_in.2 ⟨by omega, by omega, ?_⟩
    unfold inZ
    exact decide_eq_false fun hW => hn ⟨a, j0, j1, hW, hu, hv⟩
   ·obtain ⟨a, rfl⟩ : ∃ a : Nat, j = a := ⟨j.toNat, by omega⟩
    have hx0 := ((hk.mix.ris a (by omega)).1 x hx).1
    obtain ⟨b, rfl⟩ : ∃ b : Nat, x = b := ⟨x.toNat, by omega⟩
    obtain rfl : u = pout b := by unfold pout; omega
    obtain rfl : v = pin a := by unfold pin; omega
    exact edge_out.2 ⟨by omega, hx⟩
   ·rw [List.take_length] at hx
    have hx0 := hk.ris.1 x hx
    obtain ⟨b, rfl⟩ : ∃ b : Nat, x = b := ⟨x.toNat, by omega⟩
    obtain rfl : u = 0 := by omega
    obtain rfl : v = pin b := by unfold pin; omega
    exact edge_src.2 ⟨by omega, decide_eq_true hx⟩
  ·intro he
   rcases edge_cases he with ⟨hu, i, hv, hi, hb⟩ | ⟨i, hu, hv, hi, hl, hw⟩ | ⟨k, i, hu, hv, hi, hk2⟩
   ·subst hu; subst hv
    refine ⟨.inr ⟨i, by rw [List.take_length]; exact of_decide_eq_true hb, rfl, by unfold pin; omega⟩, ?_⟩
    rintro ⟨j, j0, j1, _, hu, _⟩
    omega
   ·subst hu; subst hv
    refine ⟨.inl (.inl ⟨i, by omega, by omega, by omega, by unfold pin; omega, by unfold pout; omega⟩), ?_⟩
    rintro ⟨j, j0, j1, hjW, hu, _⟩
    have e : j = i := by unfold pin at hu; omega
    subst e
    unfold inZ at hw
    exact of_decide_eq_false hw hjW
   ·subst hu; subst hv
    refine ⟨.inl (.inr ⟨i, k, by omega, by omega, hk2, by unfold pout; omega, by unfold pin; omega⟩), ?_⟩
    rintro ⟨j, j0, j1, _, hu, _⟩
    unfold pout at hu; omega
 unfold edM capB
 by_cases h : rmD F lot bad W F.length u v
 ·rw [if_pos (key.1 h)]; simp [h]
 ·rw [if_neg fun h2 => h (key.2 h2)]; simp [h]
theorem res_src {F : List (List Int)} (h : MixOk F) {bad W : Nat → Bool} {lot : Nat} {φ : Nat → Nat → Int} {v : Int} (hf : Flow (1 + 2 * F.length) (pin lot) (capB F bad W lot) φ v) (i : Nat) : resC (capB F bad W lot) φ (pin i) 0 = if sOf φ i = true then 1 else 0 := by
 have h1 : capB F bad W lot (pin i) 0 = 0 := by unfold capB; rw [no_back_src h]; simp
 have h2 := hf.skew (pin i) 0
 unfold resC sOf
 rw [h1]
 rcases flow_src h hf i with e | e <;> rw [e] at h2 ⊢ <;> simp <;> omega
theorem res_g {F : List (List Int)} (h : MixOk F) {bad W : Nat → Bool} {lot : Nat} {φ : Nat → Nat → Int} {v : Int} (hf : Flow (1 + 2 * F.length) (pin lot) (capB F bad W lot) φ v) {k i : Nat} (hki : k ≠ i) : resC (capB F bad W lot) φ (pin i) (pout k) = if gOf φ k i = true then 1 else 0 := by
 have h1 : capB F bad W lot (pin i) (pout k) = 0 := if_neg fun e => by
  rcases edge_cases e with ⟨a, _⟩ | ⟨j, a, b, _⟩ | ⟨j, i', a, _⟩
  ·unfold pin at a; omega
  ·unfold pin pout at *; omega
  ·unfold pin pout at a; omega
 have h2 := hf.skew (pin i) (pout k)
 unfold resC gOf
 rw [h1]
 rcases flow_out h hf hki with e | e <;> rw [e] at h2 ⊢ <;> simp <;> omega
theorem updM_push {m : List Int → Option Int} {cap ψ : Nat → Nat → Int} {a b : Nat} {A B : Int} (hm : ∀ u v : Nat, (m [(u : Int), (v : Int)]).getD 0 = resC cap ψ u v) (hab : a ≠ b) (hA : A = a) (hB : B = b) (u v : Nat) : ((updM (updM m [A, B] ((m [A, B]).getD 0 - 1)) [B, A] (((updM m [A, B] ((m [A, B]).getD 0 - 1)) [B, A]).getD 0 + 1)) [(u : Int), (v : Int)]).getD 0 = resC cap (push ψ a b) u v := by
 subst hA; subst hB
 rw [res_push, ← hm u v]
 have h1 := hm a b
 have h2 := hm b a
 have e1 : ([(b : Int), (a : Int)] : List Int) ≠ [(a : Int), (b : Int)] := fun e => hab (by injection e; omega)
 have e2 : updM m [(a : Int), (b : Int)] ((m [(a : Int), (b : Int)]).getD 0 - 1) [(b : Int), (a : Int)] = m [(b : Int), (a : Int)] := if_neg e1
 rw [e2]
 unfold updM
 by_cases h3 : u = b ∧ v = a
 ·obtain ⟨rfl, rfl⟩ := h3
  rw [if_pos rfl, if_neg (fun h => hab h.2), if_pos ⟨rfl, rfl⟩]
  rfl
 ·rw [if_neg (show ([(u : Int), (v : Int)] : List Int) ≠ [(b : Int), (a : Int)] from fun e => h3 (by injection e with e1 e2; injection e2 with e2 _; omega)), if_neg h3]
  by_cases h4 : u = a ∧ v = b
  ·obtain ⟨rfl, rfl⟩ := h4
   rw [if_pos rfl, if_pos ⟨rfl, rfl⟩]; rfl
  ·rw [if_neg (show ([(u : Int), (v : Int)] : List Int) ≠ [(a : Int), (b : Int)] from fun e => h4 (by injection e with e1 e2; injection e2 with e2 _; omega)), if_neg h4]
theorem updM_ne {m : List Int → Option Int} {A B x : Int} (h : A ≠ B) : ((updM m [A, B] x) [B, A]).getD 0 = (m [B, A]).getD 0 := by
 unfold updM
 rw [if_neg fun e => h (by injection e with e1 _; exact e1.symm)]
theorem best_way {F : List (List Int)} (h : MixOk F) (hs : SmallM F) {bad W : Nat → Bool} {lot : Nat} {φ : Nat → Nat → Int} {v : Int} (hf : Flow (1 + 2 * F.length) (pin lot) (capB F bad W lot) φ v) {m : List Int → Option Int} (hmm : ∀ u w : Nat, (m [(u : Int), (w : Int)]).getD 0 = resC (capB F bad W lot) φ u w) {cur : Nat} (hc : cur < F.length) (hne : frm F cur ≠ []) (U : Nat → Bool) (w0 : List Nat) (hw : w0.length < 100) :
  Fn Try.prog 91 [ints (frm F cur), .fn 93 0 3 (fun _ => .top) (fun j => [DV.pt (.ag 10 (rowF (usI U))) 0, DV.pt (.ag 1 fun _ => .mp ⟨true, 2⟩ m) 0, DV.pt (.ag 1 fun _ => ints (zl (cur :: w0))) 0].getD j .top)] (int (pickK F (gOf φ) U cur)) := by
 have hl10 := h.l10
 have hris := (h.ris cur hc).1
 have hp : ∀ x o : Int, o ∈ frm F cur → (U o.toNat || decide ((m [1 + 2 * (zl (cur :: w0)).getD 0 0, 2 + 2 * o]).getD 0 = 0)) = (U o.toNat || !gOf φ o.toNat cur) := fun x o ho => by
  have h1 := hris o ho
  have h2 := hmm (pin cur) (pout o.toNat)
  rw [res_g h hf (show o.toNat ≠ cur by omega)] at h2
  have e1 : (1 + 2 * (zl (cur :: w0)).getD 0 0 : Int) = (pin cur : Nat) := by show (1 + 2 * (cur : Int)) = _; unfold pin; omega
  have e2 : (2 + 2 * o : Int) = (pout o.toNat : Nat) := by unfold pout; omega
  rw [e1, e2, h2]
  cases gOf φ o.toNat cur <;> simp
 have hlen : 0 < (frm F cur).length := List.length_pos_iff.2 hne
 have := best_int (frm F cur) 93 (fun j => [DV.pt (.ag 10 (rowF (usI U))) 0, DV.pt (.ag 1 fun _ => .mp ⟨true, 2⟩ m) 0, DV.pt (.ag 1 fun _ => ints (zl (cur :: w0))) 0].getD j .top) (fun _ o => (U o.toNat || decide ((m [1 + 2 * (zl (cur :: w0)).getD 0 0, 2 + 2 * o]).getD 0 = 0))) hlen (hs.i _ (getD_mem hc [])) fun x y hx hy =>
  ways1_spec U m (zl (cur :: w0)) x y (hris y hy).1 (by have := hris y hy; omega) (by rw [zl_len]; simp) (by rw [zl_len]; simp only [List.length_cons]; omega) ⟨by show (0 : Int) ≤ cur; omega, by show (cur : Int) < 10; omega⟩
 have e : bstF (fun _ o => (U o.toNat || decide ((m [1 + 2 * (zl (cur :: w0)).getD 0 0, 2 + 2 * o]).getD 0 = 0))) (frm F cur) ((frm F cur).length - 1) = pickK F (gOf φ) U cur := by
  unfold bstF pickK
  rw [List.take_of_length_le (by rw [List.length_drop]; omega)]
  exact pick_eq hp _ _ fun x hx => by
   rcases List.mem_cons.1 hx with e | hx
   ·rw [e]; exact getD_mem hlen 0
   ·exact List.mem_of_mem_drop hx
 rw [e] at this
 exact this
end Go.Px.Try

/-! Tp10 -/
namespace Go.Px.Try
open Go Go.Proofs Go.Px
set_option maxRecDepth 100000
theorem nodup_lt : ∀ {n : Nat} {l : List Nat}, l.Nodup → (∀ y ∈ l, y < n) → l.length ≤ n
 | 0, [], _, _ => Nat.le_refl _
 | 0, a :: l, _, h => absurd (h a (List.mem_cons_self ..)) (by omega)
 | n + 1, l, h, hn => by
  have h1 := nodup_lt (n := n) (h.erase n) fun y hy => by
   have h2 := h.mem_erase_iff.1 hy
   have h3 := hn y h2.2
   omega
  have h2 := List.length_erase (a := n) (l := l)
  split at h2 <;> omega
theorem nodup_ne {l : List Nat} (h : l.Nodup) {i j : Nat} (hij : i < j) (hj : j < l.length) : l.getD i 0 ≠ l.getD j 0 := by
 rw [List.getD_eq_getElem?_getD, List.getD_eq_getElem?_getD, List.getElem?_eq_getElem (by omega), List.getElem?_eq_getElem hj]
 exact List.pairwise_iff_getElem.1 h i j (by omega) hj hij
/-- The row of ways. -/
def wysF (F : List (List Int)) (g : Nat → Nat → Bool) (s : Nat → Bool) (lot r : Nat) : Nat → DV := rowOf ints [] ((waysGo F g s lot r).1.map zl)
theorem row_zl (t : Bool) (w : List Nat) : CImp (.sl t 1 w.length fun j => znF w (0 + j)) (ints (zl w)) := by
 exact (ImpS.rowN (zl_len w).symm rfl : ImpS _ _)
theorem us_mark {U : Nat → Bool} {q j : Nat} : usI (mark U q) j = if j = 0 + (q : Int).toNat then 1 else usI U j := by
 rw [Int.toNat_natCast, Nat.zero_add]
 unfold usI mark
 by_cases h : j = q
 ·rw [if_pos h, if_pos h, if_pos rfl]
 ·rw [if_neg h, if_neg h]
theorem wys_snoc {F : List (List Int)} {g : Nat → Nat → Bool} {s : Nat → Bool} {lot r : Nat} {w : List Nat} {G : Nat → DV} (hl : (waysGo F g s lot r).1.length = r) (he : (waysGo F g s lot (r + 1)).1 = (waysGo F g s lot r).1 ++ [w]) (h : CImp (G 0) (ints (zl w))) : ∀ j, j < r + 1 → CImp (apd r (wysF F g s lot r) G j) (wysF F g s lot (r + 1) j) := by
 intro j hj
 have := row_snoc' (enc := ints) (d := []) (l := (waysGo F g s lot r).1.map zl) h j (by rw [List.length_append, List.length_map, hl]; exact hj)
 rw [List.length_map, hl] at this
 unfold wysF
 rw [he, List.map_append]
 exact this
theorem row_consA {w : List Nat} {q m : Nat} {G H : Nat → DV} (h : CImp (G 0) (int q)) (hH : ∀ j, j < w.length → CImp (H j) (znF w j)) (hm : m = (q :: w).length) : ∀ j, j < m → CImp (apd 1 G H j) (znF (q :: w) j) := by
 subst hm
 intro j hj
 unfold apd
 cases j with
 | zero => exact h
 | succ j =>
  rw [if_neg (by omega), show j + 1 - 1 = j by omega]
  exact hH j (by simp only [List.length_cons] at hj; omega)
theorem us_ne {F : List (List Int)} (hF : MixOk F) {bad W : Nat → Bool} {lot : Nat} {g : Nat → Nat → Bool} {s : Nat → Bool} {v r : Nat} (hG : FG F bad W lot g s v) {ws : List (List Nat)} {U : Nat → Bool} (h : WInv F lot g s r ws U) (hr : 0 < r) : ¬ ∀ j, j < 10 → usI U (j + 0) = 0 := by
 intro hz
 have hl10 := hF.l10
 have h1 := h.cnt
 have h2 : cntS (fun k => g k lot && U k) F.length = 0 := sm_zero fun i hi => by
  have h3 := hz i (by omega)
  unfold usI at h3
  have h4 : U i = false := by
   cases hU : U i with
   | false => rfl
   | true => rw [Nat.add_zero, if_pos hU] at h3; cases h3
  show (if (g i lot && U i) = true then (1 : Int) else 0) = 0
  rw [h4, Bool.and_false]; rfl
 omega
theorem pw_hd {g : Nat → Nat → Bool} {lot cur : Nat} {w0 : List Nat} {U U' : Nat → Bool} (hp : PW g lot U (cur :: w0) U') : cur ≤ lot := by
 have hl := hp.last
 cases w0 with
 | nil => simp at hl; omega
 | cons b l =>
  have h := List.mem_of_getLast? (show (b :: l).getLast? = some lot by simpa using hl)
  have := (List.pairwise_cons.1 hp.inc).1 lot h
  omega
/-- The ways that the program gives. -/
def waysL (F : List (List Int)) (bad W : List Int) (lot : Int) (most : Nat) : List (List Int) :=
 (waysGo F (gOf (flowN F (inZ bad) (inZ W) lot.toNat (fdN F (inZ bad) (inZ W) lot.toNat most 0))) (sOf (flowN F (inZ bad) (inZ W) lot.toNat (fdN F (inZ bad) (inZ W) lot.toNat most 0))) lot.toNat (fdN F (inZ bad) (inZ W) lot.toNat most 0)).1.map zl
set_option maxHeartbeats 32000000 in
theorem ways_spec (F : List (List Int)) (hs : SmallM F) (bad : List Int) (lot : Int) (hk : BadOk F bad lot) (hbl : bad.length < 1000000) (W : List Int) (hW : W.length < 1000000) (hWl : lot ∉ W) (most : Nat) (hmo : most < 1000000) :
  Fn Try.prog 70 [netD F (ints bad) lot, ints W, int most] (slOf 1 ints [] (waysL F bad W lot most)) := by
 have hm := hk.mix
 have hbl' := hbl
 have l0 := hk.l0
 have l1 := hk.l1
 have hl10 := hm.l10
 have hR := room_spec F hs bad lot hk hbl W hW
 have hS := fun m c hc => search_spec F hm (ints bad) lot l0 l1 m c hc
 have hcap := edM_cap hk W
 have hbad : ∀ i, inZ bad i = true → frm F i = [] := fun i hi => hk.sk i (of_decide_eq_true hi)
 have hWf : inZ W lot.toNat = false := decide_eq_false (by rw [Int.toNat_of_nonneg l0]; exact hWl)
 have hlt : lot.toNat < F.length := by omega
 have hflow := flowN_ok hm hlt hk.ne hbad (W := inZ W)
 have hsome := fun (φ : Nat → Nat → Int) (v : Int) h1 h2 => row_some (φ := φ) (v := v) (W := inZ W) hm hlt hk.ne hbad h1 h2
 have hc01 := cap_01 F (inZ bad) (inZ W) lot.toNat
 have hRow : ∀ (v : Nat) (m : List Int → Option Int), (∀ u w : Nat, (m [(u : Int), (w : Int)]).getD 0 = resC (capB F (inZ bad) (inZ W) lot.toNat) (flowN F (inZ bad) (inZ W) lot.toNat v) u w) → Fn Try.prog 89 [netD F (ints bad) lot, .mp ⟨true, 2⟩ m] (ints (zl (rowN F (inZ bad) (inZ W) lot.toNat (flowN F (inZ bad) (inZ W) lot.toNat v)))) := fun v m h => hS m _ h
 have hnx : ∀ v, flowN F (inZ bad) (inZ W) lot.toNat (v + 1) = pushes (flowN F (inZ bad) (inZ W) lot.toNat v) (rowN F (inZ bad) (inZ W) lot.toNat (flowN F (inZ bad) (inZ W) lot.toNat v)) := fun v => rfl
 have hfd : ∀ f v, fdN F (inZ bad) (inZ W) lot.toNat (f + 1) v = if rowN F (inZ bad) (inZ W) lot.toNat (flowN F (inZ bad) (inZ W) lot.toNat v) = [] then v else fdN F (inZ bad) (inZ W) lot.toNat f (v + 1) := fun f v => rfl
 have hf0 : ∀ v, fdN F (inZ bad) (inZ W) lot.toNat 0 v = v := fun v => rfl
 have hm0 : ∀ u w : Nat, (edM (rmD F lot bad W F.length) [(u : Int), (w : Int)]).getD 0 = resC (capB F (inZ bad) (inZ W) lot.toNat) (flowN F (inZ bad) (inZ W) lot.toNat 0) u w := fun u w => by
  rw [hcap u w]; unfold resC; rw [show flowN F (inZ bad) (inZ W) lot.toNat 0 u w = 0 from rfl]; omega
 have hres0 : waysL F bad W lot most = (waysGo F (gOf (flowN F (inZ bad) (inZ W) lot.toNat (fdN F (inZ bad) (inZ W) lot.toNat most 0))) (sOf (flowN F (inZ bad) (inZ W) lot.toNat (fdN F (inZ bad) (inZ W) lot.toNat most 0))) lot.toNat (fdN F (inZ bad) (inZ W) lot.toNat most 0)).1.map zl := rfl
 obtain ⟨WL, hWL⟩ : ∃ WL, waysL F bad W lot most = WL := ⟨_, rfl⟩
 rw [hWL] at hres0 ⊢
 have hres : ∀ v, fdN F (inZ bad) (inZ W) lot.toNat most 0 = v → WL = (waysGo F (gOf (flowN F (inZ bad) (inZ W) lot.toNat v)) (sOf (flowN F (inZ bad) (inZ W) lot.toNat v)) lot.toNat v).1.map zl := fun v hv => by rw [hres0, hv]
 clear hcap hS hres0 hWL
 generalize hFD : fdN F (inZ bad) (inZ W) lot.toNat = FD at *
 generalize edM (rmD F lot bad W F.length) = M0 at *
 generalize hR0 : rowN F (inZ bad) (inZ W) lot.toNat = Rw at *
 generalize hP0 : flowN F (inZ bad) (inZ W) lot.toNat = P at *
 generalize hC0 : capB F (inZ bad) (inZ W) lot.toNat = cp at *
 have hP1 : P 0 = fun _ _ => 0 := by rw [← hP0]; rfl
 clear hFD hP0 hR0
 refine Fn.of_ex (cuts := [14]) tys hM Try.func70 rfl Try.call70 rfl ?_
 show exC Try.prog T [14] _ false none 0 (entry 121 [netD F (ints bad) lot, ints W, int most]) (finQ T [ResultVar.tmp 6] _)
 conv => whnf
 repeat' first | ((first | refine Ob.a ?_ | refine Sp.tt ?_ | refine Sp.ff ?_ | refine Sp.yes ?_ | refine Sp.no ?_ | refine Sp.nyes ?_ | refine Sp.nno ?_ | refine Fi.a ?_);conv=>whnf) | ((first | refine Sp.ne ?_ ?_ | refine Sp.dec ?_ ?_ | refine Sp.ndec ?_ ?_ | refine Sp.mk ?_ ?_) <;> intro hc <;> conv => whnf) | (apply Cl.nw;(conv=>whnf); (first | (refine Ob.nwX (hR) ?_ ?_ ?_;(focus exact Lf); (focus exact Lf)));(conv=>whnf)) | (refine Ob.b ?_;conv=>whnf)
 refine Ct.go 121 {q : Nat × (List Int → Option Int) // q.1 ≤ most ∧ (∀ j, j < q.1 → Rw (P j) ≠ []) ∧ FD most 0 = q.1 ∧ ∀ u w : Nat, (q.2 [(u : Int), (w : Int)]).getD 0 = resC cp (P q.1) u w} (fun p => match p with | ⟨(v, m), _⟩ => ⟨5, [(0, .d (netD F (ints bad) lot)), (7, .ref 4 0), (8, .d (int v))], [(3, .mp true ⟨true, 2⟩ m), (4, .cs true 1 fun _ => .mp 3)], some 0⟩) ?_ ?_ rfl (fun _ => rfl)
 ·refine Lp.snap [0, 1, 2, 6, 7, 9, 12, 13, 14, 15, 69, 71, 72, 74, 75, 76, 77, 78, 79, 80, 81, 82, 83, 84, 85, 86, 87, 88, 89, 90, 91, 92, 93, 94, 95, 96, 98, 99, 100, 101, 102, 103, 104, 105, 106, 107, 108, 109, 110, 111, 112, 113, 114, 115, 116, 117, 118, 120] 40 ?_
  (conv=>whnf)
  refine LpB.go 121 ({q : Nat × (List Int → Option Int) // q.1 ≤ most ∧ (∀ j, j < q.1 → Rw (P j) ≠ []) ∧ FD (most - q.1) q.1 = FD most 0 ∧ ∀ u w : Nat, (q.2 [(u : Int), (w : Int)]).getD 0 = resC cp (P q.1) u w}) 0 (fun ⟨(v, m), _⟩ nx => ([(8, .d (int v))], [(3, .mp true ⟨true, 2⟩ m)])) (fun p => most - p.1.1) (⟨(0, M0), by simp, by simp, by simp, hm0⟩) ?_ ?_
  ·rintro ⟨⟨v, m⟩, hv, hrows, hFe, hmm⟩
   simp only at hv hrows hFe hmm
   have hRv := hRow v m hmm
   have hfl := hflow v hrows
   have hsm := res_small hfl hc01
   have hso := hsome _ _ hfl
   have hnx := hnx v
   have hfd := hfd (most - v - 1) v
   have hno : NoMp (ints (zl (Rw (P v)))) := ⟨fun _ => trivial⟩
   by_cases hgo : v < most ∧ Rw (P v) ≠ []
   ·obtain ⟨hg1, hg2⟩ := hgo
    obtain ⟨l, hl1, _, hl2, hl3, hl4⟩ := hso hg2
    rw [if_neg hg2, show most - v - 1 + 1 = most - v by omega, hFe] at hfd
    have hl5 : 2 ≤ (Rw (P v)).length := by
     rw [hl1]
     cases l with
     | nil => exact absurd (show 0 = pin lot.toNat from hl4) (by unfold pin; omega)
     | cons a l => simp
    rw [← hl1] at hl2 hl3
    have hlz := zl_len (Rw (P v))
    have hrows2 : ∀ j, j < v + 1 → Rw (P j) ≠ [] := fun j hj => by
     by_cases e : j = v
     ·rw [e]; exact hg2
     ·exact hrows j (by omega)
    have hll : (Rw (P v)).length ≤ 23 := by
     have := nodup_lt (n := 1 + 2 * F.length) hl2 hl3
     omega
    clear hl1 hl4 hso
    generalize Rw (P v) = L at *
    have hm1 : ∀ u w : Nat, (m [(u : Int), (w : Int)]).getD 0 = resC cp (pushes (P v) (L.take (Int.toNat 0 + 1))) u w := fun u w => by
     have e : pushes (P v) (L.take (Int.toNat 0 + 1)) = P v := by
      cases L with
      | nil => rfl
      | cons a l => rfl
     rw [e]; exact hmm u w
    conv => whnf
    repeat' first | ((first | refine Ob.a ?_ | refine Sp.tt ?_ | refine Sp.ff ?_ | refine Sp.yes ?_ | refine Sp.no ?_ | refine Sp.nyes ?_ | refine Sp.nno ?_ | refine Fi.a ?_);conv=>whnf) | ((first | refine Sp.ne ?_ ?_ | refine Sp.dec ?_ ?_ | refine Sp.ndec ?_ ?_ | refine Sp.mk ?_ ?_) <;> intro hc <;> conv => whnf) | (apply Cl.ln;(conv=>whnf); (first | (refine Ob.lnX (hRv) ?_ ?_ ?_ ?_;(focus assumption); (focus exact Lf); (focus exact Lf)));(conv=>whnf)) | (refine Ob.b ?_;conv=>whnf)
    all_goals try (exfalso; omega)
    refine Lp.snap [0, 1, 2, 6, 7, 8, 9, 10, 12, 13, 14, 15, 21, 22, 24, 25, 26, 27, 28, 30, 31, 32, 67, 68, 69, 71, 72, 74, 75, 76, 77, 78, 79, 80, 81, 82, 83, 84, 85, 86, 87, 88, 89, 90, 91, 92, 93, 94, 95, 96, 98, 99, 100, 101, 102, 103, 104, 105, 106, 107, 108, 109, 110, 111, 112, 113, 114, 115, 116, 117, 118, 120] 40 ?_
    (conv=>whnf)
    refine LpB.go 121 ({q : Int × (List Int → Option Int) // (0 ≤ q.1 ∧ q.1 ≤ L.length - 1) ∧ ∀ u w : Nat, (q.2 [(u : Int), (w : Int)]).getD 0 = resC cp (pushes (P v) (L.take (q.1.toNat + 1))) u w}) 0 (fun ⟨(i, m), _⟩ nx => ([(33, .d (int i))], [(3, .mp true ⟨true, 2⟩ m)])) (fun p => (L.length - p.1.1).toNat) (⟨(0, m), ⟨by simp, by simp only; omega⟩, hm1⟩) ?_ ?_
    ·rintro ⟨⟨i, m⟩, ⟨i0, i1⟩, hmm⟩
     simp only at i0 i1 hmm
     by_cases hi : i < L.length - 1
     ·have hA := zl_getD L i.toNat
      have hB := zl_getD L (i + 1).toNat
      have hab : L.getD i.toNat 0 ≠ L.getD (i + 1).toNat 0 := nodup_ne hl2 (by omega) (by omega)
      have hpt := pushes_take L (P v) (i := i.toNat) (by omega)
      rw [show i.toNat + 1 = (i + 1).toNat by omega] at hpt hmm
      have hAB := hmm (L.getD i.toNat 0) (L.getD (i + 1).toNat 0)
      have hBA := hmm (L.getD (i + 1).toNat 0) (L.getD i.toNat 0)
      rw [← hA, ← hB] at hAB hBA
      have hsA := hsm (L.getD i.toNat 0) (L.getD (i + 1).toNat 0)
      have hsB := hsm (L.getD (i + 1).toNat 0) (L.getD i.toNat 0)
      have hnA := pushes_near (L.take (i + 1).toNat) (P v) (L.getD i.toNat 0) (L.getD (i + 1).toNat 0)
      have hnB := pushes_near (L.take (i + 1).toNat) (P v) (L.getD (i + 1).toNat 0) (L.getD i.toNat 0)
      rw [List.length_take] at hnA hnB
      have hup := fun u w => updM_push hmm hab hA hB u w
      rw [← hpt] at hup
      have hne : (zl L).getD i.toNat 0 ≠ (zl L).getD (i + 1).toNat 0 := by rw [hA, hB]; omega
      have hq1 : -100 ≤ (m [(zl L).getD i.toNat 0, (zl L).getD (i + 1).toNat 0]).getD 0 ∧ (m [(zl L).getD i.toNat 0, (zl L).getD (i + 1).toNat 0]).getD 0 ≤ 100 := by rw [hAB]; unfold resC at *; omega
      have hq2 : -100 ≤ ((updM m [(zl L).getD i.toNat 0, (zl L).getD (i + 1).toNat 0] ((m [(zl L).getD i.toNat 0, (zl L).getD (i + 1).toNat 0]).getD 0 - 1)) [(zl L).getD (i + 1).toNat 0, (zl L).getD i.toNat 0]).getD 0 ∧ ((updM m [(zl L).getD i.toNat 0, (zl L).getD (i + 1).toNat 0] ((m [(zl L).getD i.toNat 0, (zl L).getD (i + 1).toNat 0]).getD 0 - 1)) [(zl L).getD (i + 1).toNat 0, (zl L).getD i.toNat 0]).getD 0 ≤ 100 := by rw [updM_ne hne, hBA]; unfold resC at *; omega
      clear hA hB hAB hBA hsA hsB hnA hnB hmm
      conv => whnf
      repeat' first | ((first | refine Ob.a ?_ | refine Sp.tt ?_ | refine Sp.ff ?_ | refine Sp.yes ?_ | refine Sp.no ?_ | refine Sp.nyes ?_ | refine Sp.nno ?_ | refine Fi.a ?_);conv=>whnf) | ((first | refine Sp.ne ?_ ?_ | refine Sp.dec ?_ ?_ | refine Sp.ndec ?_ ?_ | refine Sp.mk ?_ ?_) <;> intro hc <;> conv => whnf) | (refine Ob.b ?_;conv=>whnf)
      all_goals first | (exfalso; omega) | exact ⟨rfl, ⟨(i + 1, _), ⟨by simp only; omega, by simp only; omega⟩, by simp only; exact hup⟩, Lf, by simp only; omega⟩
     ·have e : i.toNat + 1 = L.length := by omega
      rw [e, List.take_length, ← hnx] at hmm
      have hFe2 : FD (most - (v + 1)) (v + 1) = FD most 0 := by rw [hfd, Nat.sub_sub]
      conv => whnf
      repeat' first | ((first | refine Ob.a ?_ | refine Sp.tt ?_ | refine Sp.ff ?_ | refine Sp.yes ?_ | refine Sp.no ?_ | refine Sp.nyes ?_ | refine Sp.nno ?_ | refine Fi.a ?_);conv=>whnf) | ((first | refine Sp.ne ?_ ?_ | refine Sp.dec ?_ ?_ | refine Sp.ndec ?_ ?_ | refine Sp.mk ?_ ?_) <;> intro hc <;> conv => whnf) | (refine Ob.b ?_;conv=>whnf)
      all_goals first | exact ⟨rfl, ⟨(v + 1, m), by simp only; omega, hrows2, hFe2, hmm⟩, Lf, by simp only; omega⟩
    ·exact Lf
   ·have hvF : FD most 0 = v := by
     rw [← hFe]
     by_cases hv2 : v < most
     ·rw [show most - v = most - v - 1 + 1 by omega, hfd, if_pos (Classical.byContradiction fun h => hgo ⟨hv2, h⟩)]
     ·rw [show most - v = 0 by omega, hf0]
    clear hfd hf0
    have hlz := zl_len (Rw (P v))
    have hv3 : (v : Int) < most → (Rw (P v)).length = 0 := fun h => by
     have h2 : Rw (P v) = [] := Classical.byContradiction fun h2 => hgo ⟨by omega, h2⟩
     rw [h2]; rfl
    conv => whnf
    repeat' first | ((first | refine Ob.a ?_ | refine Sp.tt ?_ | refine Sp.ff ?_ | refine Sp.yes ?_ | refine Sp.no ?_ | refine Sp.nyes ?_ | refine Sp.nno ?_ | refine Fi.a ?_);conv=>whnf) | ((first | refine Sp.ne ?_ ?_ | refine Sp.dec ?_ ?_ | refine Sp.ndec ?_ ?_ | refine Sp.mk ?_ ?_) <;> intro hc <;> conv => whnf) | (apply Cl.ln;(conv=>whnf); (first | (refine Ob.lnX (hRv) ?_ ?_ ?_ ?_;(focus assumption); (focus exact Lf); (focus exact Lf)));(conv=>whnf)) | (refine Ob.b ?_;conv=>whnf)
    all_goals first | (exfalso; omega) | exact ⟨rfl, ⟨(v, m), hv, hrows, hvF, hmm⟩, Lf⟩
  ·exact Lf
 ·rintro ⟨⟨v, m⟩, hv, hrows, hvF, hmm⟩
  simp only at hv hrows hvF hmm
  have hfl := hflow v hrows
  have hres := hres v hvF
  have hfl' : Flow (1 + 2 * F.length) (pin lot.toNat) (capB F (inZ bad) (inZ W) lot.toNat) (P v) (v : Int) := by rw [hC0]; exact hfl
  have hmm' : ∀ u w : Nat, (m [(u : Int), (w : Int)]).getD 0 = resC (capB F (inZ bad) (inZ W) lot.toNat) (P v) u w := by rw [hC0]; exact hmm
  have hbl := bad_lot hm hlt hk.ne hbad
  have hG := fg_of hm hfl' hlt hbl
  have hsl : sOf (P v) lot.toNat = false := by
   cases e : sOf (P v) lot.toNat with
   | false => rfl
   | true => rw [hG.se e] at hbl; cases hbl
  have hwo := ways_ok hm hG hlt hsl
  have hbst := fun (cur : Nat) (h1 : cur < F.length) (h2 : frm F cur ≠ []) U w0 h3 => best_way hm hs hfl' hmm' h1 h2 U w0 h3
  have hsrc : ∀ cur : Nat, (m [1 + 2 * (cur : Int), 0]).getD 0 = if sOf (P v) cur = true then 1 else 0 := fun cur => by
   rw [← res_src hm hfl' cur, ← hmm' (pin cur) 0, show ((pin cur : Nat) : Int) = 1 + 2 * (cur : Int) by unfold pin; omega]
   rfl
  clear hmm' hfl' hfl
  generalize hg : gOf (P v) = g at *
  generalize hs' : sOf (P v) = s at *
  by_cases hv0 : v = 0
  ·have hWL : WL = [] := by rw [hres, hv0]; rfl
   subst hWL
   have hv1 : (v : Int) = 0 := by omega
   conv => whnf
   repeat' first | ((first | refine Ob.a ?_ | refine Sp.tt ?_ | refine Sp.ff ?_ | refine Sp.yes ?_ | refine Sp.no ?_ | refine Sp.nyes ?_ | refine Sp.nno ?_ | refine Fi.a ?_);conv=>whnf) | ((first | refine Sp.ne ?_ ?_ | refine Sp.dec ?_ ?_ | refine Sp.ndec ?_ ?_ | refine Sp.mk ?_ ?_) <;> intro hc <;> conv => whnf) | (refine Ob.b ?_;conv=>whnf)
   all_goals first | (exfalso; omega) | exact Lf
  ·conv => whnf
   repeat' first | ((first | refine Ob.a ?_ | refine Sp.tt ?_ | refine Sp.ff ?_ | refine Sp.yes ?_ | refine Sp.no ?_ | refine Sp.nyes ?_ | refine Sp.nno ?_ | refine Fi.a ?_);conv=>whnf) | ((first | refine Sp.ne ?_ ?_ | refine Sp.dec ?_ ?_ | refine Sp.ndec ?_ ?_ | refine Sp.mk ?_ ?_) <;> intro hc <;> conv => whnf) | (refine Ob.b ?_;conv=>whnf)
   all_goals try (exfalso; omega)
   refine Lp.snap [0, 1, 2, 6, 7, 12, 71, 117, 118, 120] 40 ?_
   (conv=>whnf)
   refine LpB.go 121 ({r : Nat // r ≤ v}) 0 (fun ⟨r, _⟩ nx => ([(72, .d (int r)), (13, .ms 8 1 0 r)], [(7, .row true 77 1 10 (rowF (usI (waysGo F g s lot.toNat r).2))), (8, .row true 27 1 r (wysF F g s lot.toNat r))])) (fun p => v - p.1) (⟨0, by omega⟩) ?_ ?_
   ·rintro ⟨r, hr⟩
    by_cases hr2 : r < v
    ·obtain ⟨hB, hp0⟩ := back_init hG hr2 (hwo r hr)
     have hgo : waysGo F g s lot.toNat (r + 1) = ((waysGo F g s lot.toNat r).1 ++ [(backW F g s (lot.toNat + 1) (waysGo F g s lot.toNat r).2 [lot.toNat]).1], (backW F g s (lot.toNat + 1) (waysGo F g s lot.toNat r).2 [lot.toNat]).2) := rfl
     have hlenr := (hwo r hr).len
     generalize hU : (waysGo F g s lot.toNat r).2 = U at *
     conv => whnf
     repeat' first | ((first | refine Ob.a ?_ | refine Sp.tt ?_ | refine Sp.ff ?_ | refine Sp.yes ?_ | refine Sp.no ?_ | refine Sp.nyes ?_ | refine Sp.nno ?_ | refine Fi.a ?_);conv=>whnf) | ((first | refine Sp.ne ?_ ?_ | refine Sp.dec ?_ ?_ | refine Sp.ndec ?_ ?_ | refine Sp.mk ?_ ?_) <;> intro hc <;> conv => whnf) | (refine Ob.b ?_;conv=>whnf)
     refine Lp.snap [0, 1, 2, 6, 7, 12, 13, 14, 71, 72, 74, 75, 76, 77, 78, 112, 113, 114, 115, 116, 117, 118, 120] 40 ?_
     (conv=>whnf)
     refine LpB.go 121 ({q : Nat × List Nat × (Nat → Bool) // backW F g s q.1 q.2.2 q.2.1 = backW F g s (lot.toNat + 1) U [lot.toNat] ∧ PW g lot.toNat U q.2.1 q.2.2 ∧ q.2.1.headD 0 < q.1 ∧ q.2.1.length + q.1 = lot.toNat + 2}) 0 (fun ⟨(f, w, U'), _⟩ nx => ([(14, .ref 15 0), (78, .d .top)], [(15, .cs true 1 (fun _ => .ms 14 1 0 w.length)), (14, .row true 3 1 w.length (znF w)), (7, .row true 77 1 10 (rowF (usI U')))])) (fun p => p.1.1) (⟨(lot.toNat + 1, [lot.toNat], U), rfl, hp0, by simp, by simp only [List.length_singleton]; omega⟩) ?_ ?_
     ·rintro ⟨⟨f, w, U'⟩, hbk, hp, hhd, hwf⟩
      simp only at hbk hp hhd hwf
      obtain ⟨cur, w0, rfl⟩ : ∃ cur w0, w = cur :: w0 := by
       cases w with
       | nil => exact absurd rfl hp.ne
       | cons a l => exact ⟨a, l, rfl⟩
      obtain ⟨f', rfl⟩ : ∃ f', f = f' + 1 := ⟨f - 1, by omega⟩
      have hh : (cur :: w0).headD 0 = cur := rfl
      rw [backW, hh] at hbk
      rw [hh] at hhd
      have hfr : (cur :: w0).length ≤ 12 := by omega
      have hcl : cur < F.length := by have := pw_hd hp; omega
      have hrow : znF (cur :: w0) (0 + Int.toNat 0) = int cur := rfl
      have hI := in_spec (cur : Int) (by omega) (by omega)
      have hcon := contains_spec bad cur hbl'
      have hsr := hsrc cur
      by_cases hs1 : s cur = true
      ·rw [if_pos hs1] at hbk hsr
       have hbd : (cur : Int) ∈ bad := of_decide_eq_true (hG.se hs1)
       rw [← hbk] at hgo
       have hgo1 := congrArg Prod.fst hgo
       have hgo2 := congrArg Prod.snd hgo
       rw [decide_eq_true hbd] at hcon
       conv => whnf
       repeat' first | ((first | refine Ob.a ?_ | refine Sp.tt ?_ | refine Sp.ff ?_ | refine Sp.yes ?_ | refine Sp.no ?_ | refine Sp.nyes ?_ | refine Sp.nno ?_ | refine Fi.a ?_);conv=>whnf) | ((first | refine Sp.ne ?_ ?_ | refine Sp.dec ?_ ?_ | refine Sp.ndec ?_ ?_ | refine Sp.mk ?_ ?_) <;> intro hc <;> conv => whnf) | (apply Cl.go;(conv=>whnf); (first | refine Ob.call (hI) ?_ | refine Ob.call (hcon) ?_);(conv=>whnf)) | (refine Ob.b ?_;conv=>whnf)
       all_goals try (exfalso; omega)
       all_goals (refine ⟨rfl, ⟨r + 1, hr2⟩, ?_, by simp only; omega⟩;(conv=>whnf); repeat' first | (refine Edge.fast ?_) | ((conv=>whnf); first | exact True.intro | (refine And.intro ?_ ?_) | exact rfl | exact Nat.le_of_eq (Nat.zero_add _) | exact ImpS.refl _ | ((conv => arg 1; whnf); first | exact ImpS.refl _ | (refine ImpS.nil_eq ?_) | (refine ImpS.vnil_eq ?_) | (refine ImpS.row ?_) | (refine ImpS.rowN ?_ ?_) | (refine ImpS.sl_eq ?_) | (refine ImpS.expl rfl ?_)) | (refine row_snoc' ?_) | exact MImp.refl _ | exact cimp_none | exact cimp_same | exact List.not_mem_nil | exact DImp.refl _) | exact rfl | (refine And.intro ?_ ?_) | exact ImpS.refl _)
       all_goals first | (refine wys_snoc hlenr hgo1 ?_;(conv=>whnf); (conv => arg 1; whnf); exact ImpS.rowN (zl_len _).symm rfl) | exact fun j _ => (by rw [hgo2]; exact CImp.refl _)
      ·rw [if_neg hs1] at hbk hsr
       have hs1 : s cur = false := by simpa using hs1
       obtain ⟨q, e1, e2, _, e4, e5⟩ := back_step hm hG hlt hB hp hs1
       have hb2 := hbst cur hcl e2 U' w0 (by simp only [List.length_cons] at hfr; omega)
       have hls := list_spec F (ints bad) lot cur
       have hco := Collect_spec F hs (ints bad) lot cur (by omega) (by omega) (frm F cur) (by rw [Int.toNat_natCast]; rfl) (List.length_pos_iff.2 e2)
       rw [e1] at hb2 hbk
       rw [Int.toNat_natCast] at hbk
       have e9 : ∀ j, j < 10 → usI (mark U' q) j = if j = 0 + (q : Int).toNat then 1 else usI U' j := fun j _ => us_mark
       have hlz : (zl (cur :: w0)).length = (cur :: w0).length := zl_len _
       have hl0 : 0 < (cur :: w0).length := Nat.succ_pos _
       have hmk : ∀ k : List Int, m k = m k := fun _ => rfl
       clear e1
       by_cases hbd : (cur : Int) ∈ bad
       ·rw [decide_eq_true hbd] at hcon
        conv => whnf
        repeat' first | ((first | refine Ob.a ?_ | refine Sp.tt ?_ | refine Sp.ff ?_ | refine Sp.yes ?_ | refine Sp.no ?_ | refine Sp.nyes ?_ | refine Sp.nno ?_ | refine Fi.a ?_);conv=>whnf) | ((first | refine Sp.ne ?_ ?_ | refine Sp.dec ?_ ?_ | refine Sp.ndec ?_ ?_ | refine Sp.mk ?_ ?_) <;> intro hc <;> conv => whnf) | (apply Cl.fr;(conv=>whnf); (first | (refine Ob.frX (hco) ?_ ?_ ?_;(focus exact Lf); (focus exact Lf)));(conv=>whnf)) | (apply Cl.go;(conv=>whnf); (first | refine Ob.call (hI) ?_ | refine Ob.call (hcon) ?_ | refine Ob.call (hls) ?_ | refine Ob.call (hb2) ?_);(conv=>whnf)) | (refine Ob.b ?_;conv=>whnf)
        all_goals try (exfalso; omega)
        all_goals (refine ⟨rfl, ⟨(f', q :: cur :: w0, mark U' q), hbk, e5, by simp only [List.headD_cons]; omega, by simp only [List.length_cons] at hwf ⊢; omega⟩, ?_, by simp only; omega⟩;(conv=>whnf); repeat' first | (refine Edge.fast ?_) | ((conv=>whnf); first | exact True.intro | (refine And.intro ?_ ?_) | exact rfl | exact Nat.le_of_eq (Nat.zero_add _) | exact ImpS.refl _ | ((conv => arg 1; whnf); first | exact ImpS.refl _ | (refine ImpS.nil_eq ?_) | (refine ImpS.vnil_eq ?_) | (refine ImpS.row ?_) | (refine ImpS.rowN ?_ ?_) | (refine ImpS.sl_eq ?_) | (refine ImpS.expl rfl ?_)) | (refine row_snoc' ?_) | exact MImp.refl _ | exact cimp_none | exact cimp_same | exact List.not_mem_nil | exact DImp.refl _) | exact rfl | (refine And.intro ?_ ?_) | exact ImpS.refl _)
        all_goals first | exact rowF_upd ⟨rfl, rfl⟩ e9 | exact row_consA ⟨rfl, rfl⟩ (fun j _ => by simp only [Nat.zero_add]; exact CImp.refl _) (by simp only [List.length_cons]; omega) | exact row_consA ⟨rfl, rfl⟩ (fun j _ => by simp only [Nat.zero_add]; exact CImp.refl _) (by simp only [List.length_cons]) | (simp only [List.length_cons]; omega)
       ·rw [decide_eq_false hbd] at hcon
        conv => whnf
        repeat' first | ((first | refine Ob.a ?_ | refine Sp.tt ?_ | refine Sp.ff ?_ | refine Sp.yes ?_ | refine Sp.no ?_ | refine Sp.nyes ?_ | refine Sp.nno ?_ | refine Fi.a ?_);conv=>whnf) | ((first | refine Sp.ne ?_ ?_ | refine Sp.dec ?_ ?_ | refine Sp.ndec ?_ ?_ | refine Sp.mk ?_ ?_) <;> intro hc <;> conv => whnf) | (apply Cl.fr;(conv=>whnf); (first | (refine Ob.frX (hco) ?_ ?_ ?_;(focus exact Lf); (focus exact Lf)));(conv=>whnf)) | (apply Cl.go;(conv=>whnf); (first | refine Ob.call (hI) ?_ | refine Ob.call (hcon) ?_ | refine Ob.call (hls) ?_ | refine Ob.call (hb2) ?_);(conv=>whnf)) | (refine Ob.b ?_;conv=>whnf)
        all_goals try (exfalso; omega)
        all_goals (refine ⟨rfl, ⟨(f', q :: cur :: w0, mark U' q), hbk, e5, by simp only [List.headD_cons]; omega, by simp only [List.length_cons] at hwf ⊢; omega⟩, ?_, by simp only; omega⟩;(conv=>whnf); repeat' first | (refine Edge.fast ?_) | ((conv=>whnf); first | exact True.intro | (refine And.intro ?_ ?_) | exact rfl | exact Nat.le_of_eq (Nat.zero_add _) | exact ImpS.refl _ | ((conv => arg 1; whnf); first | exact ImpS.refl _ | (refine ImpS.nil_eq ?_) | (refine ImpS.vnil_eq ?_) | (refine ImpS.row ?_) | (refine ImpS.rowN ?_ ?_) | (refine ImpS.sl_eq ?_) | (refine ImpS.expl rfl ?_)) | (refine row_snoc' ?_) | exact MImp.refl _ | exact cimp_none | exact cimp_same | exact List.not_mem_nil | exact DImp.refl _) | exact rfl | (refine And.intro ?_ ?_) | exact ImpS.refl _)
        all_goals first | exact rowF_upd ⟨rfl, rfl⟩ e9 | exact row_consA ⟨rfl, rfl⟩ (fun j _ => by simp only [Nat.zero_add]; exact CImp.refl _) (by simp only [List.length_cons]; omega) | exact row_consA ⟨rfl, rfl⟩ (fun j _ => by simp only [Nat.zero_add]; exact CImp.refl _) (by simp only [List.length_cons]) | (simp only [List.length_cons]; omega)
     ·conv => whnf
      repeat' first | (refine Edge.fast ?_) | ((conv=>whnf); first | exact True.intro | (refine And.intro ?_ ?_) | exact rfl | exact Nat.le_of_eq (Nat.zero_add _) | exact ImpS.refl _ | ((conv => arg 1; whnf); first | exact ImpS.refl _ | (refine ImpS.nil_eq ?_) | (refine ImpS.vnil_eq ?_) | (refine ImpS.row ?_) | (refine ImpS.rowN ?_ ?_) | (refine ImpS.sl_eq ?_) | (refine ImpS.expl rfl ?_)) | (refine row_snoc' ?_) | exact MImp.refl _ | exact cimp_none | exact cimp_same | exact List.not_mem_nil | exact DImp.refl _) | exact rfl | (refine And.intro ?_ ?_) | exact ImpS.refl _
      all_goals first | exact fun j _ => (by rw [hU]; exact CImp.refl _) | exact row_firstA ⟨rfl, by omega⟩ (by simp)
    ·obtain rfl : r = v := by omega
     have hcn : ¬ ∀ j, j < 10 → usI (waysGo F g s lot.toNat r).2 (j + 0) = 0 := us_ne hm hG (hwo r hr) (by omega)
     have e : ∀ j, j < r → CImp (wysF F g s lot.toNat r j) (ints (WL.getD j [])) := fun j _ => by rw [hres]; exact CImp.refl _
     have hwl : WL.length = r := by rw [hres, List.length_map, (hwo r hr).len]
     conv => whnf
     repeat' first | ((first | refine Ob.a ?_ | refine Sp.tt ?_ | refine Sp.ff ?_ | refine Sp.yes ?_ | refine Sp.no ?_ | refine Sp.nyes ?_ | refine Sp.nno ?_ | refine Fi.a ?_);conv=>whnf) | ((first | refine Sp.ne ?_ ?_ | refine Sp.dec ?_ ?_ | refine Sp.ndec ?_ ?_ | refine Sp.mk ?_ ?_) <;> intro hc <;> conv => whnf) | (refine Ob.b ?_;conv=>whnf)
     all_goals try (exfalso; rename_i hc; exact hcn fun j hj => hc j hj)
     all_goals try (exfalso; exact hcn fun j hj => hc j hj)
     conv => whnf
     repeat' first | (refine Edge.fast ?_) | ((conv=>whnf); first | exact True.intro | (refine And.intro ?_ ?_) | exact rfl | exact Nat.le_of_eq (Nat.zero_add _) | exact ImpS.refl _ | ((conv => arg 1; whnf); first | exact ImpS.refl _ | (refine ImpS.nil_eq ?_) | (refine ImpS.vnil_eq ?_) | (refine ImpS.row ?_) | (refine ImpS.rowN ?_ ?_) | (refine ImpS.sl_eq ?_) | (refine ImpS.expl rfl ?_)) | (refine row_snoc' ?_) | exact MImp.refl _ | exact cimp_none | exact cimp_same | exact List.not_mem_nil | exact DImp.refl _) | exact rfl | (refine And.intro ?_ ?_) | exact ImpS.refl _
     all_goals first | exact hres.symm | exact hwl.symm | (rw [← hres]; exact hwl.symm)
   ·conv => whnf
    repeat' first | (refine Edge.fast ?_) | ((conv=>whnf); first | exact True.intro | (refine And.intro ?_ ?_) | exact rfl | exact Nat.le_of_eq (Nat.zero_add _) | exact ImpS.refl _ | ((conv => arg 1; whnf); first | exact ImpS.refl _ | (refine ImpS.nil_eq ?_) | (refine ImpS.vnil_eq ?_) | (refine ImpS.row ?_) | (refine ImpS.rowN ?_ ?_) | (refine ImpS.sl_eq ?_) | (refine ImpS.expl rfl ?_)) | (refine row_snoc' ?_) | exact MImp.refl _ | exact cimp_none | exact cimp_same | exact List.not_mem_nil | exact DImp.refl _) | exact rfl | (refine And.intro ?_ ?_) | exact ImpS.refl _
end Go.Px.Try

/-! Tm9 -/
namespace Go.Px.Try
open Go Go.Proofs Go.Px
/-- j comes next to x by a node above i. -/
def cmU (F : List (List Int)) (x : Nat) (i : Int) (j : Nat) : Bool := decide (j = x) || (List.range F.length).any fun m => decide (i < (m : Int)) && (cm F x m && decide ((j : Int) ∈ frm F m))
theorem cmU_iff {F : List (List Int)} {x : Nat} {i : Int} {j : Nat} : cmU F x i j = true ↔ j = x ∨ ∃ m, m < F.length ∧ i < (m : Int) ∧ cm F x m = true ∧ (j : Int) ∈ frm F m := by
 unfold cmU
 rw [Bool.or_eq_true, decide_eq_true_eq, List.any_eq_true]
 refine or_congr_right ?_
 constructor
 ·rintro ⟨m, h1, h2⟩
  rw [Bool.and_eq_true, Bool.and_eq_true, decide_eq_true_eq, decide_eq_true_eq] at h2
  exact ⟨m, List.mem_range.1 h1, h2⟩
 ·rintro ⟨m, h1, h2⟩
  refine ⟨m, List.mem_range.2 h1, ?_⟩
  rw [Bool.and_eq_true, Bool.and_eq_true, decide_eq_true_eq, decide_eq_true_eq]
  exact h2
theorem cm_back {F : List (List Int)} (h : MixOk F) {x : Nat} (hx : x < F.length) {j : Nat} : cm F x j = true ↔ j = x ∨ ∃ m, m < F.length ∧ cm F x m = true ∧ (j : Int) ∈ frm F m := by
 constructor
 ·have key : ∀ x, x < F.length → cm F x j = true → j = x ∨ ∃ m, m < F.length ∧ cm F x m = true ∧ (j : Int) ∈ frm F m := by
   intro x
   induction x using Nat.strongRecOn with
   | ind x ih =>
    intro hx hc
    rcases (cm_true h hx).1 hc with e | ⟨k, hk, hc⟩
    ·exact .inl e.symm
    ·have hkx := frm_lt h hx hk
     refine .inr ?_
     rcases ih k hkx (by omega) hc with e | ⟨m, h1, h2, h3⟩
     ·subst e; exact ⟨x, hx, cm_self h hx, hk⟩
     ·exact ⟨m, h1, (cm_true h hx).2 (.inr ⟨k, hk, h2⟩), h3⟩
  exact key x hx
 ·rintro (rfl | ⟨m, h1, h2, h3⟩)
  ·exact cm_self h hx
  ·have := frm_lt h h1 h3
   exact cm_trans h x hx h2 ((cm_true h h1).2 (.inr ⟨j, h3, cm_self h (by omega)⟩))
/-- At the node i itself all is known. -/
theorem cmU_at {F : List (List Int)} (h : MixOk F) {x : Nat} (hx : x < F.length) (i : Nat) : cmU F x i i = cm F x i := by
 rw [Bool.eq_iff_iff, cmU_iff, cm_back h hx]
 refine or_congr_right ⟨fun ⟨m, h1, _, h2⟩ => ⟨m, h1, h2⟩, fun ⟨m, h1, h2, h3⟩ => ⟨m, h1, ?_, h2, h3⟩⟩
 have := frm_lt h h1 h3
 omega
theorem cmU_end {F : List (List Int)} (h : MixOk F) {x : Nat} (hx : x < F.length) (j : Nat) : cmU F x (-1) j = cm F x j := by
 rw [Bool.eq_iff_iff, cmU_iff, cm_back h hx]
 exact or_congr_right ⟨fun ⟨m, h1, _, h2⟩ => ⟨m, h1, h2⟩, fun ⟨m, h1, h2⟩ => ⟨m, h1, by omega, h2⟩⟩
theorem cmU_start {F : List (List Int)} (h : MixOk F) {x : Nat} (hx : x < F.length) (j : Nat) : cmU F x x j = decide (j = x) := by
 rw [Bool.eq_iff_iff, cmU_iff, decide_eq_true_eq]
 refine ⟨fun hc => hc.elim id fun ⟨m, h1, h2, h3, _⟩ => ?_, .inl⟩
 have := cm_le h x hx h3
 omega
/-- One node further: it comes of none, or all of its list are there, too. -/
theorem cmU_skip {F : List (List Int)} {x : Nat} {i : Nat} (hc : cm F x i = false) (j : Nat) : cmU F x ((i : Int) - 1) j = cmU F x i j := by
 rw [Bool.eq_iff_iff, cmU_iff, cmU_iff]
 refine or_congr_right ⟨fun ⟨m, h1, h2, h3, h4⟩ => ⟨m, h1, ?_, h3, h4⟩, fun ⟨m, h1, h2, h3⟩ => ⟨m, h1, by omega, h3⟩⟩
 have : m ≠ i := fun e => by rw [e, hc] at h3; cases h3
 omega
theorem cmU_step {F : List (List Int)} {x : Nat} {i : Nat} (hi : i < F.length) (hc : cm F x i = true) (j : Nat) : cmU F x ((i : Int) - 1) j = (cmU F x i j || decide ((j : Int) ∈ frm F i)) := by
 rw [Bool.eq_iff_iff, Bool.or_eq_true, cmU_iff, cmU_iff, decide_eq_true_eq]
 constructor
 ·rintro (e | ⟨m, h1, h2, h3, h4⟩)
  ·exact .inl (.inl e)
  ·by_cases e : m = i
   ·subst e; exact .inr h4
   ·exact .inl (.inr ⟨m, h1, by omega, h3, h4⟩)
 ·rintro ((e | ⟨m, h1, h2, h3, h4⟩) | h4)
  ·exact .inl e
  ·exact .inr ⟨m, h1, by omega, h3, h4⟩
  ·exact .inr ⟨i, hi, by omega, hc, h4⟩
def b1 (b : Bool) : Int := if b = true then 1 else 0
/-- What the marks are within the list of the node i. -/
def cmK (F : List (List Int)) (x i k : Nat) (j : Nat) : Bool := cmU F x i j || decide ((j : Int) ∈ (frm F i).take k)
theorem cmK_succ {F : List (List Int)} {x i k j : Nat} (hk : k < (frm F i).length) (hn : 0 ≤ (frm F i).getD k 0) : b1 (cmK F x i (k + 1) j) = if j = ((frm F i).getD k 0).toNat then 1 else b1 (cmK F x i k j) := by
 unfold cmK
 rw [take_succ_getD (frm F i) k 0 hk]
 by_cases e : j = ((frm F i).getD k 0).toNat
 ·rw [if_pos e]
  have : decide ((j : Int) ∈ (frm F i).take k ++ [(frm F i).getD k 0]) = true := decide_eq_true (List.mem_append_right _ (List.mem_singleton.2 (by omega)))
  rw [this, Bool.or_true]; rfl
 ·rw [if_neg e]
  have : decide ((j : Int) ∈ (frm F i).take k ++ [(frm F i).getD k 0]) = decide ((j : Int) ∈ (frm F i).take k) := decide_eq_decide.2 (by
   rw [List.mem_append, List.mem_singleton]
   exact ⟨fun h => h.resolve_right fun e2 => e (by omega), .inl⟩)
  rw [this]
theorem cmK_zero {F : List (List Int)} {x i j : Nat} : cmK F x i 0 j = cmU F x i j := by simp [cmK]
theorem cmK_all {F : List (List Int)} {x i j k : Nat} (hi : i < F.length) (hc : cm F x i = true) (hk : k = (frm F i).length) : cmK F x i k j = cmU F x ((i : Int) - 1) j := by
 subst hk
 rw [cmU_step hi hc]
 simp [cmK]
/-- The counts of the nodes below one; those above are not yet there. -/
def cgU (F : List (List Int)) (gone : Nat → Bool) (i : Int) (j : Nat) : Int := if (j : Int) < i then cg F gone j else 0
end Go.Px.Try

/-! Tp3 -/
namespace Go.Px.Try
open Go Go.Proofs Go.Px
set_option maxRecDepth 100000
def marksD (G : Nat → Int) : DV := .ag 10 fun j => int (G j)
theorem row_first1 {i n : Nat} {v w : DV} {G : Nat → Int} {x y : Int} (h : CImp v (int x)) (hw : CImp w (int y)) (hG : ∀ j, j < n → G j = if j = i then x else y) : ∀ j, j < n → CImp (upE i v (fun _ => w) j) (rowF G j) := by
 intro j hj
 unfold upE rowF
 rw [hG j hj]
 by_cases e : j = i
 ·rw [if_pos e, if_pos e]; exact h
 ·rw [if_neg e, if_neg e]; exact hw
theorem cimp0 (x : Int) : CImp (.v (.int .i64 x)) (int x) := ⟨rfl, rfl⟩
/-- The marks of the nodes of which one comes. -/
def cmG (F : List (List Int)) (x : Nat) : Nat → Int := fun j => b1 (cm F x j)
def cuF (F : List (List Int)) (x : Nat) (i : Int) : Nat → Int := fun j => b1 (cmU F x i j)
def ckF (F : List (List Int)) (x i k : Nat) : Nat → Int := fun j => b1 (cmK F x i k j)
set_option maxHeartbeats 16000000 in
theorem comes_spec (F : List (List Int)) (hs : SmallM F) (hm : MixOk F) (B : DV) (l x : Int) (x0 : 0 ≤ x) (x1 : x < F.length) : Fn Try.prog 54 [netD F B l, int x] (marksD (cmG F x.toNat)) := by
 have hl10 := hm.l10
 have hL := list_spec F B l
 have hsq := fun (i : Int) (a : 0 ≤ i) (b : i < F.length) => list1_spec F hs B l i a b _ rfl
 have hat := fun (i : Nat) => cmU_at hm (x := x.toNat) (by omega) i
 have hend := fun (j : Nat) => cmU_end hm (x := x.toNat) (by omega) j
 have hstart := fun (j : Nat) => cmU_start hm (x := x.toNat) (by omega) j
 have hskip := fun (i : Nat) (h : cm F x.toNat i = false) (j : Nat) => cmU_skip h j
 have hall := fun (i j k : Nat) (hi : i < F.length) (h : cm F x.toNat i = true) (hk : k = (frm F i).length) => cmK_all (j := j) hi h hk
 have hel := fun (i : Nat) (hi : i < F.length) => (hm.ris i hi).1
 have hfin : marksD (cmG F x.toNat) = marksD (cuF F x.toNat (-1)) := by
  show (marksD fun j => b1 (cm F x.toNat j)) = marksD fun j => b1 (cmU F x.toNat (-1) j)
  congr 1; funext j; rw [hend]
 rw [hfin]
 clear hfin hend
 have hxx : ((x.toNat : Nat) : Int) = x := by omega
 refine Fn.of_ex (cuts := []) tys hM Try.func54 rfl Try.call54 rfl ?_
 show exC Try.prog T [] _ false none 0 (entry 26 [netD F B l, int x]) (finQ T [ResultVar.cell 4 77] _)
 conv => whnf
 repeat' first | ((first | refine Ob.a ?_ | refine Sp.tt ?_ | refine Sp.ff ?_ | refine Sp.yes ?_ | refine Sp.no ?_ | refine Sp.nyes ?_ | refine Sp.nno ?_ | refine Fi.a ?_);conv=>whnf) | ((first | refine Sp.ne ?_ ?_ | refine Sp.dec ?_ ?_ | refine Sp.ndec ?_ ?_ | refine Sp.mk ?_ ?_) <;> intro hc <;> conv => whnf) | (refine Ob.b ?_;conv=>whnf)
 refine Lp.snap [0, 1, 4, 5, 22, 25] 40 ?_
 (conv=>whnf)
 refine LpB.go 26 ({i : Int // -1 ≤ i ∧ i ≤ x}) 0 (fun ⟨i, _⟩ nx => ([(6, .d (int i))], [(1, .row true 77 1 10 (rowF (cuF F x.toNat i)))])) (fun p => (p.1 + 1).toNat) (⟨x, by omega, by omega⟩) ?_ ?_
 ·rintro ⟨i, i0, i1⟩
  by_cases hi : 0 ≤ i
  ·have hat := hat i.toNat
   rw [Int.toNat_of_nonneg hi] at hat
   have hv : cuF F x.toNat i i.toNat = b1 (cm F x.toNat i.toNat) := by show b1 (cmU F x.toNat i i.toNat) = _; rw [hat]
   have hv0 : cuF F x.toNat i (0 + i.toNat) = b1 (cm F x.toNat i.toNat) := by show b1 (cmU F x.toNat i (0 + i.toNat)) = _; rw [Nat.zero_add, hat]
   have hsq := hsq i hi (by omega)
   have hskip := hskip i.toNat
   have hall := fun (j k : Nat) => hall i.toNat j k (by omega)
   have hel := hel i.toNat (by omega)
   rw [Int.toNat_of_nonneg hi] at hskip hall
   cases hcm : cm F x.toNat i.toNat with
   | false =>
    rw [hcm] at hv hv0
    have hv0 : cuF F x.toNat i (0 + i.toNat) = 0 := hv0
    have hv : cuF F x.toNat i i.toNat = 0 := hv
    have e : ∀ j, j < 10 → cuF F x.toNat i j = cuF F x.toNat (i - 1) j := fun j _ => by show b1 _ = b1 _; rw [hskip hcm]
    conv => whnf
    repeat' first | ((first | refine Ob.a ?_ | refine Sp.tt ?_ | refine Sp.ff ?_ | refine Sp.yes ?_ | refine Sp.no ?_ | refine Sp.nyes ?_ | refine Sp.nno ?_ | refine Fi.a ?_);conv=>whnf) | ((first | refine Sp.ne ?_ ?_ | refine Sp.dec ?_ ?_ | refine Sp.ndec ?_ ?_ | refine Sp.mk ?_ ?_) <;> intro hc <;> conv => whnf) | (refine Ob.b ?_;conv=>whnf)
    all_goals first | (exfalso; omega) | exact ⟨rfl, ⟨i - 1, by omega, by omega⟩, Lf, by simp only; omega⟩
   | true =>
    rw [hcm] at hv hv0
    have hv0 : cuF F x.toNat i (0 + i.toNat) = 1 := hv0
    have hv : cuF F x.toNat i i.toNat = 1 := hv
    conv => whnf
    repeat' first | ((first | refine Ob.a ?_ | refine Sp.tt ?_ | refine Sp.ff ?_ | refine Sp.yes ?_ | refine Sp.no ?_ | refine Sp.nyes ?_ | refine Sp.nno ?_ | refine Fi.a ?_);conv=>whnf) | ((first | refine Sp.ne ?_ ?_ | refine Sp.dec ?_ ?_ | refine Sp.ndec ?_ ?_ | refine Sp.mk ?_ ?_) <;> intro hc <;> conv => whnf) | (apply Cl.go;(conv=>whnf); (first | refine Ob.call (hL i) ?_);(conv=>whnf)) | (refine Ob.b ?_;conv=>whnf)
    all_goals try (exfalso; omega)
    refine Rg.snap [0, 1, 4, 5, 6, 7, 11, 13, 14, 15, 16, 17, 19, 20, 22, 23, 24, 25] 40 ?_
    (conv=>whnf)
    refine RgB.go 26 ({k : Nat // k ≤ (F.getD i.toNat []).length}) 0 (fun ⟨k, _⟩ nx => [(1, .row true 77 1 10 (rowF (ckF F x.toNat i.toNat k)))]) (fun p => p.1) (⟨0, by omega⟩) hsq ?_ ?_ ?_
    ·rintro ⟨k, hk⟩ j hj0 hj
     simp only at hj0
     subst hj0
     have hx := hel _ (getD_mem (l := frm F i.toNat) hj 0)
     have hsucc := fun (j : Nat) => cmK_succ (F := F) (x := x.toNat) (i := i.toNat) (j := j) hj hx.1
     have hx0 : 0 ≤ (F.getD i.toNat []).getD k 0 := hx.1
     have hx1 : (F.getD i.toNat []).getD k 0 < i := by have h : (F.getD i.toNat []).getD k 0 < (i.toNat : Int) := hx.2; omega
     have e : ∀ j, j < 10 → ckF F x.toNat i.toNat (k + 1) j = if j = 0 + ((F.getD i.toNat []).getD k 0).toNat then 1 else ckF F x.toNat i.toNat k j := fun j _ => by rw [Nat.zero_add]; exact hsucc j
     conv => whnf
     repeat' first | ((first | refine Ob.a ?_ | refine Sp.tt ?_ | refine Sp.ff ?_ | refine Sp.yes ?_ | refine Sp.no ?_ | refine Sp.nyes ?_ | refine Sp.nno ?_ | refine Fi.a ?_);conv=>whnf) | ((first | refine Sp.ne ?_ ?_ | refine Sp.dec ?_ ?_ | refine Sp.ndec ?_ ?_ | refine Sp.mk ?_ ?_) <;> intro hc <;> conv => whnf) | (refine Ob.b ?_;conv=>whnf)
     all_goals first | exact ⟨rfl, ⟨k + 1, hj⟩, rfl, Lf⟩
    ·rintro ⟨k, hk⟩ hk'
     simp only at hk'
     have e : ∀ j, j < 10 → ckF F x.toNat i.toNat k j = cuF F x.toNat (i - 1) j := fun j _ => by show b1 _ = b1 _; rw [hall j k hcm hk']
     conv => whnf
     repeat' first | ((first | refine Ob.a ?_ | refine Sp.tt ?_ | refine Sp.ff ?_ | refine Sp.yes ?_ | refine Sp.no ?_ | refine Sp.nyes ?_ | refine Sp.nno ?_ | refine Fi.a ?_);conv=>whnf) | ((first | refine Sp.ne ?_ ?_ | refine Sp.dec ?_ ?_ | refine Sp.ndec ?_ ?_ | refine Sp.mk ?_ ?_) <;> intro hc <;> conv => whnf) | (refine Ob.b ?_;conv=>whnf)
     all_goals first | exact ⟨rfl, ⟨i - 1, by omega, by omega⟩, Lf, by simp only; omega⟩
    ·have e : ∀ j, j < 10 → cuF F x.toNat i j = ckF F x.toNat i.toNat 0 j := fun j _ => by show b1 _ = b1 _; rw [cmK_zero, Int.toNat_of_nonneg hi]
     exact Lf
  ·have e : i = -1 := by omega
   subst e
   conv => whnf
   repeat' first | ((first | refine Ob.a ?_ | refine Sp.tt ?_ | refine Sp.ff ?_ | refine Sp.yes ?_ | refine Sp.no ?_ | refine Sp.nyes ?_ | refine Sp.nno ?_ | refine Fi.a ?_);conv=>whnf) | ((first | refine Sp.ne ?_ ?_ | refine Sp.dec ?_ ?_ | refine Sp.ndec ?_ ?_ | refine Sp.mk ?_ ?_) <;> intro hc <;> conv => whnf) | (refine Ob.b ?_;conv=>whnf)
   all_goals first | exact Lf
 ·have e : ∀ j, j < 10 → cuF F x.toNat x j = if j = 0 + x.toNat then 1 else 0 := fun j _ => by
   show b1 _ = _
   have := hstart j
   rw [hxx] at this
   rw [this, Nat.zero_add]
   unfold b1
   by_cases e : j = x.toNat
   ·rw [if_pos e, decide_eq_true e]; rfl
   ·rw [if_neg e, decide_eq_false e]; rfl
  conv => whnf
  repeat' first | (refine Edge.fast ?_) | ((conv=>whnf); first | exact True.intro | (refine And.intro ?_ ?_) | exact rfl | exact Nat.le_of_eq (Nat.zero_add _) | exact ImpS.refl _ | ((conv => arg 1; whnf); first | exact ImpS.refl _ | (refine ImpS.nil_eq ?_) | (refine ImpS.vnil_eq ?_) | (refine ImpS.row ?_) | (refine ImpS.rowN ?_ ?_) | (refine ImpS.sl_eq ?_) | (refine ImpS.expl rfl ?_)) | (refine row_snoc' ?_) | exact MImp.refl _ | exact cimp_none | exact cimp_same | exact List.not_mem_nil | exact DImp.refl _) | exact rfl | (refine And.intro ?_ ?_) | exact ImpS.refl _
  all_goals first | exact row_first1 (cimp0 1) (cimp0 0) e
end Go.Px.Try

/-! Tp4 -/
namespace Go.Px.Try
open Go Go.Proofs Go.Px
set_option maxRecDepth 100000
/-- The counts below i, and v at i. -/
def cgK (F : List (List Int)) (gone : Nat → Bool) (i v : Int) : Nat → Int := fun j => if (j : Int) < i then cg F gone j else if (j : Int) = i then v else 0
theorem cgK_lt {F : List (List Int)} {gone : Nat → Bool} {i v : Int} {j : Nat} (h : (j : Int) < i) : cgK F gone i v j = cg F gone j := if_pos h
theorem cgK_at {F : List (List Int)} {gone : Nat → Bool} {i v : Int} {j : Nat} (h : (j : Int) = i) : cgK F gone i v j = v := by
 unfold cgK; rw [if_neg (by omega), if_pos h]
theorem cgK_set {F : List (List Int)} {gone : Nat → Bool} {i v w : Int} {j : Nat} : cgK F gone i w j = if (j : Int) = i then w else cgK F gone i v j := by
 unfold cgK
 by_cases h1 : (j : Int) < i
 ·rw [if_pos h1, if_pos h1, if_neg (by omega)]
 ·rw [if_neg h1, if_neg h1]
  by_cases h2 : (j : Int) = i
  ·rw [if_pos h2, if_pos h2]
  ·rw [if_neg h2, if_neg h2, if_neg h2]
theorem cgK_next {F : List (List Int)} {gone : Nat → Bool} {i v : Int} (h : 0 ≤ i → v = cg F gone i.toNat) {j : Nat} : cgK F gone (i + 1) 0 j = cgK F gone i v j := by
 unfold cgK
 by_cases h1 : (j : Int) < i
 ·rw [if_pos h1, if_pos (by omega)]
 ·rw [if_neg h1]
  by_cases h2 : (j : Int) = i
  ·rw [if_pos h2, if_pos (by omega), h (by omega), show j = i.toNat by omega]
  ·rw [if_neg h2, if_neg (by omega)]
   split <;> rfl
set_option maxHeartbeats 16000000 in
theorem counts_spec0 (F : List (List Int)) (hs : SmallM F) (hm : MixOk F) (B : DV) (l : Int) (gone : Nat → Bool) (g : Nat) (c : Nat → DV) (hg : ∀ i : Int, 0 ≤ i → i < F.length → Fn Try.prog g [int i] (bool (gone i.toNat))) :
  Fn Try.prog 57 [netD F B l, .fn g 0 0 (fun _ => .top) c] (marksD (cgK F gone F.length 0)) := by
 have hl10 := hm.l10
 have hS := sack_spec F hs B l
 have hL := list_spec F B l
 have hsq := fun (i : Int) (a : 0 ≤ i) (b : i < F.length) => list1_spec F hs B l i a b _ rfl
 have hel := fun (i : Nat) (hi : i < F.length) => (hm.ris i hi).1
 have heq := fun (i : Nat) (hi : i < F.length) => cg_eq hm gone hi
 have hle := fun (i : Nat) (hi : i < F.length) => cg_le hm gone i hi
 have hnn := fun (i : Nat) (hi : i < F.length) => cg_nn hm gone i hi
 have htk := fun (i : Nat) (hi : i < F.length) (k : Nat) => cg_take_le hm gone hi k
 have hpw : ∀ i : Nat, i < F.length → (2 : Int) ^ i ≤ 1024 := fun i hi => pow1024 (by omega)
 refine Fn.of_ex (cuts := []) tys hM Try.func57 rfl Try.call57 rfl ?_
 show exC Try.prog T [] _ false none 0 (entry 41 [netD F B l, .fn g 0 0 (fun _ => .top) c]) (finQ T [ResultVar.cell 4 77] _)
 conv => whnf
 repeat' first | ((first | refine Ob.a ?_ | refine Sp.tt ?_ | refine Sp.ff ?_ | refine Sp.yes ?_ | refine Sp.no ?_ | refine Sp.nyes ?_ | refine Sp.nno ?_ | refine Fi.a ?_);conv=>whnf) | ((first | refine Sp.ne ?_ ?_ | refine Sp.dec ?_ ?_ | refine Sp.ndec ?_ ?_ | refine Sp.mk ?_ ?_) <;> intro hc <;> conv => whnf) | (refine Ob.b ?_;conv=>whnf)
 refine Lp.snap [0, 1, 4, 5, 13, 30, 40] 40 ?_
 (conv=>whnf)
 refine LpB.go 41 ({i : Int // 0 ≤ i ∧ i ≤ F.length}) 0 (fun ⟨i, _⟩ nx => ([(14, .d (int i))], [(1, .row true 77 1 10 (rowF (cgK F gone i 0)))])) (fun p => (F.length - p.1).toNat) (⟨0, by omega, by omega⟩) ?_ ?_
 ·rintro ⟨i, i0, i1⟩
  by_cases hi : i < F.length
  ·have hg := hg i i0 hi
   have hS := hS i i0 hi
   have hsq := hsq i i0 hi
   have hel := hel i.toNat (by omega)
   have heq := heq i.toNat (by omega)
   have htk := htk i.toNat (by omega)
   have hpw' := hpw i.toNat (by omega)
   cases hgo : gone i.toNat with
   | true =>
    rw [hgo, if_pos rfl] at heq
    rw [hgo] at hg
    have e : ∀ j, j < 10 → cgK F gone i 0 j = cgK F gone (i + 1) 0 j := fun j _ => (cgK_next (fun _ => heq.symm)).symm
    clear hsq hS heq htk
    conv => whnf
    repeat' first | ((first | refine Ob.a ?_ | refine Sp.tt ?_ | refine Sp.ff ?_ | refine Sp.yes ?_ | refine Sp.no ?_ | refine Sp.nyes ?_ | refine Sp.nno ?_ | refine Fi.a ?_);conv=>whnf) | ((first | refine Sp.ne ?_ ?_ | refine Sp.dec ?_ ?_ | refine Sp.ndec ?_ ?_ | refine Sp.mk ?_ ?_) <;> intro hc <;> conv => whnf) | (apply Cl.go;(conv=>whnf); (first | refine Ob.call (hg) ?_);(conv=>whnf)) | (refine Ob.b ?_;conv=>whnf)
    all_goals first | exact ⟨rfl, ⟨i + 1, by omega, by omega⟩, Lf, by simp only; omega⟩
   | false =>
    rw [hgo, if_neg (by simp)] at heq
    rw [hgo] at hg
    cases hsk : sackB F i.toNat with
    | true =>
     have hnil : frm F i.toNat = [] := of_decide_eq_true hsk
     rw [if_pos hnil] at heq
     rw [hsk] at hS
     have hnl : F.getD i.toNat [] = [] := hnil
     rw [hnl] at hsq
     have hsq : Seq Try.prog 98 [] (itC F B l i) 0 (fun k => [int (([] : List Int).getD k 0)]) := hsq
     have e0 : ∀ j, j < 10 → cgK F gone i 1 j = if j = 0 + i.toNat then 1 else cgK F gone i 0 j := fun j _ => by
      rw [cgK_set (v := 0)]
      by_cases h : (j : Int) = i
      ·rw [if_pos h, if_pos (by omega)]
      ·rw [if_neg h, if_neg (by omega)]
     have e : ∀ j, j < 10 → cgK F gone i 1 j = cgK F gone (i + 1) 0 j := fun j _ => (cgK_next (fun _ => heq.symm)).symm
     clear heq htk
     conv => whnf
     repeat' first | ((first | refine Ob.a ?_ | refine Sp.tt ?_ | refine Sp.ff ?_ | refine Sp.yes ?_ | refine Sp.no ?_ | refine Sp.nyes ?_ | refine Sp.nno ?_ | refine Fi.a ?_);conv=>whnf) | ((first | refine Sp.ne ?_ ?_ | refine Sp.dec ?_ ?_ | refine Sp.ndec ?_ ?_ | refine Sp.mk ?_ ?_) <;> intro hc <;> conv => whnf) | (apply Cl.go;(conv=>whnf); (first | refine Ob.call (hg) ?_ | refine Ob.call (hS) ?_ | refine Ob.call (hL i) ?_);(conv=>whnf)) | (refine Ob.b ?_;conv=>whnf)
     refine Rg.snap [0, 1, 4, 5, 6, 7, 13, 14, 16, 18, 19, 20, 22, 23, 24, 25, 26, 27, 28, 30, 31, 32, 33, 34, 35, 36, 37, 38, 39, 40] 40 ?_
     (conv=>whnf)
     refine RgB.go 41 ({k : Nat // k = 0}) 0 (fun ⟨k, _⟩ nx => [(1, .row true 77 1 10 (rowF (cgK F gone i 1)))]) (fun p => p.1) (⟨0, rfl⟩) hsq ?_ ?_ ?_
     ·rintro ⟨k, rfl⟩ j hj0 hj
      exact absurd hj (Nat.not_lt_zero _)
     ·rintro ⟨k, rfl⟩ hk'
      conv => whnf
      repeat' first | ((first | refine Ob.a ?_ | refine Sp.tt ?_ | refine Sp.ff ?_ | refine Sp.yes ?_ | refine Sp.no ?_ | refine Sp.nyes ?_ | refine Sp.nno ?_ | refine Fi.a ?_);conv=>whnf) | ((first | refine Sp.ne ?_ ?_ | refine Sp.dec ?_ ?_ | refine Sp.ndec ?_ ?_ | refine Sp.mk ?_ ?_) <;> intro hc <;> conv => whnf) | (refine Ob.b ?_;conv=>whnf)
      all_goals first | exact ⟨rfl, ⟨i + 1, by omega, by omega⟩, Lf, by simp only; omega⟩
     ·exact Lf
    | false =>
     have hnil : ¬ frm F i.toNat = [] := of_decide_eq_false hsk
     rw [if_neg hnil] at heq
     rw [hsk] at hS
     conv => whnf
     repeat' first | ((first | refine Ob.a ?_ | refine Sp.tt ?_ | refine Sp.ff ?_ | refine Sp.yes ?_ | refine Sp.no ?_ | refine Sp.nyes ?_ | refine Sp.nno ?_ | refine Fi.a ?_);conv=>whnf) | ((first | refine Sp.ne ?_ ?_ | refine Sp.dec ?_ ?_ | refine Sp.ndec ?_ ?_ | refine Sp.mk ?_ ?_) <;> intro hc <;> conv => whnf) | (apply Cl.go;(conv=>whnf); (first | refine Ob.call (hg) ?_ | refine Ob.call (hS) ?_ | refine Ob.call (hL i) ?_);(conv=>whnf)) | (refine Ob.b ?_;conv=>whnf)
     refine Rg.snap [0, 1, 4, 5, 6, 7, 13, 14, 16, 18, 19, 20, 22, 23, 24, 25, 26, 27, 28, 30, 31, 32, 33, 34, 35, 36, 37, 38, 39, 40] 40 ?_
     (conv=>whnf)
     refine RgB.go 41 ({k : Nat // k ≤ (F.getD i.toNat []).length}) 0 (fun ⟨k, _⟩ nx => [(1, .row true 77 1 10 (rowF (cgK F gone i (isum ((F.getD i.toNat []).take k) (cg F gone)))))]) (fun p => p.1) (⟨0, by omega⟩) hsq ?_ ?_ ?_
     ·rintro ⟨k, hk⟩ j hj0 hj
      simp only at hj0
      subst hj0
      have hx : 0 ≤ (F.getD i.toNat []).getD k 0 ∧ (F.getD i.toNat []).getD k 0 < (i.toNat : Int) := hel _ (getD_mem (l := frm F i.toNat) hj 0)
      have hs2 : isum ((F.getD i.toNat []).take (k + 1)) (cg F gone) = isum ((F.getD i.toNat []).take k) (cg F gone) + cg F gone ((F.getD i.toNat []).getD k 0).toNat := by rw [take_succ_getD _ k 0 hj, isum_snoc]
      have hb1 := htk k
      have hb2 := htk (k + 1)
      change 0 ≤ isum ((F.getD i.toNat []).take k) (cg F gone) ∧ isum ((F.getD i.toNat []).take k) (cg F gone) ≤ 2 ^ i.toNat at hb1
      change 0 ≤ isum ((F.getD i.toNat []).take (k + 1)) (cg F gone) ∧ isum ((F.getD i.toNat []).take (k + 1)) (cg F gone) ≤ 2 ^ i.toNat at hb2
      rw [hs2] at hb2
      have hv1 : cgK F gone i (isum ((F.getD i.toNat []).take k) (cg F gone)) (0 + i.toNat) = isum ((F.getD i.toNat []).take k) (cg F gone) := cgK_at (by omega)
      have hv2 : cgK F gone i (isum ((F.getD i.toNat []).take k) (cg F gone)) (0 + ((F.getD i.toNat []).getD k 0).toNat) = cg F gone ((F.getD i.toNat []).getD k 0).toNat := by rw [Nat.zero_add]; exact cgK_lt (by omega)
      have e : ∀ j, j < 10 → cgK F gone i (isum ((F.getD i.toNat []).take (k + 1)) (cg F gone)) j = if j = 0 + i.toNat then cgK F gone i (isum ((F.getD i.toNat []).take k) (cg F gone)) (0 + i.toNat) + cgK F gone i (isum ((F.getD i.toNat []).take k) (cg F gone)) (0 + ((F.getD i.toNat []).getD k 0).toNat) else cgK F gone i (isum ((F.getD i.toNat []).take k) (cg F gone)) j := fun j _ => by
       rw [hv1, hv2, ← hs2, cgK_set (v := isum ((F.getD i.toNat []).take k) (cg F gone))]
       by_cases h : (j : Int) = i
       ·rw [if_pos h, if_pos (by omega)]
       ·rw [if_neg h, if_neg (by omega)]
      have hc10 := hle i.toNat (by omega)
      have hb3 := hle ((F.getD i.toNat []).getD k 0).toNat (by omega)
      have hb4 := hpw ((F.getD i.toNat []).getD k 0).toNat (by omega)
      clear heq htk hle hnn hpw
      conv => whnf
      repeat' first | ((first | refine Ob.a ?_ | refine Sp.tt ?_ | refine Sp.ff ?_ | refine Sp.yes ?_ | refine Sp.no ?_ | refine Sp.nyes ?_ | refine Sp.nno ?_ | refine Fi.a ?_);conv=>whnf) | ((first | refine Sp.ne ?_ ?_ | refine Sp.dec ?_ ?_ | refine Sp.ndec ?_ ?_ | refine Sp.mk ?_ ?_) <;> intro hc <;> conv => whnf) | (refine Ob.b ?_;conv=>whnf)
      all_goals first | exact ⟨rfl, ⟨k + 1, hj⟩, rfl, Lf⟩
     ·rintro ⟨k, hk⟩ hk'
      simp only at hk'
      have e : ∀ j, j < 10 → cgK F gone i (isum ((F.getD i.toNat []).take k) (cg F gone)) j = cgK F gone (i + 1) 0 j := fun j _ => (cgK_next (fun _ => by rw [heq, List.take_of_length_le (by omega)]; rfl)).symm
      conv => whnf
      repeat' first | ((first | refine Ob.a ?_ | refine Sp.tt ?_ | refine Sp.ff ?_ | refine Sp.yes ?_ | refine Sp.no ?_ | refine Sp.nyes ?_ | refine Sp.nno ?_ | refine Fi.a ?_);conv=>whnf) | ((first | refine Sp.ne ?_ ?_ | refine Sp.dec ?_ ?_ | refine Sp.ndec ?_ ?_ | refine Sp.mk ?_ ?_) <;> intro hc <;> conv => whnf) | (refine Ob.b ?_;conv=>whnf)
      all_goals first | exact ⟨rfl, ⟨i + 1, by omega, by omega⟩, Lf, by simp only; omega⟩
     ·have e : ∀ j, j < 10 → cgK F gone i 0 j = cgK F gone i (isum ((F.getD i.toNat []).take 0) (cg F gone)) j := fun j _ => rfl
      exact Lf
  ·have e : i = F.length := by omega
   subst e
   conv => whnf
   repeat' first | ((first | refine Ob.a ?_ | refine Sp.tt ?_ | refine Sp.ff ?_ | refine Sp.yes ?_ | refine Sp.no ?_ | refine Sp.nyes ?_ | refine Sp.nno ?_ | refine Fi.a ?_);conv=>whnf) | ((first | refine Sp.ne ?_ ?_ | refine Sp.dec ?_ ?_ | refine Sp.ndec ?_ ?_ | refine Sp.mk ?_ ?_) <;> intro hc <;> conv => whnf) | (refine Ob.b ?_;conv=>whnf)
   all_goals first | exact Lf
 ·have e : ∀ j, j < 10 → (0 : Int) = cgK F gone 0 0 j := fun j _ => by unfold cgK; rw [if_neg (by omega)]; split <;> rfl
  conv => whnf
  repeat' first | (refine Edge.fast ?_) | ((conv=>whnf); first | exact True.intro | (refine And.intro ?_ ?_) | exact rfl | exact Nat.le_of_eq (Nat.zero_add _) | exact ImpS.refl _ | ((conv => arg 1; whnf); first | exact ImpS.refl _ | (refine ImpS.nil_eq ?_) | (refine ImpS.vnil_eq ?_) | (refine ImpS.row ?_) | (refine ImpS.rowN ?_ ?_) | (refine ImpS.sl_eq ?_) | (refine ImpS.expl rfl ?_)) | (refine row_snoc' ?_) | exact MImp.refl _ | exact cimp_none | exact cimp_same | exact List.not_mem_nil | exact DImp.refl _) | exact rfl | (refine And.intro ?_ ?_) | exact ImpS.refl _
  all_goals first | exact rowF_const (cimp0 0) e
set_option maxHeartbeats 16000000 in
theorem counts_spec1 (F : List (List Int)) (hs : SmallM F) (hm : MixOk F) (B : DV) (l : Int) (gone : Nat → Bool) (g : Nat) (c : Nat → DV) (hg : ∀ i : Int, 0 ≤ i → i < F.length → Fn Try.prog g [int i, c 0] (bool (gone i.toNat))) :
  Fn Try.prog 57 [netD F B l, .fn g 0 1 (fun _ => .top) c] (marksD (cgK F gone F.length 0)) := by
 have hl10 := hm.l10
 have hS := sack_spec F hs B l
 have hL := list_spec F B l
 have hsq := fun (i : Int) (a : 0 ≤ i) (b : i < F.length) => list1_spec F hs B l i a b _ rfl
 have hel := fun (i : Nat) (hi : i < F.length) => (hm.ris i hi).1
 have heq := fun (i : Nat) (hi : i < F.length) => cg_eq hm gone hi
 have hle := fun (i : Nat) (hi : i < F.length) => cg_le hm gone i hi
 have hnn := fun (i : Nat) (hi : i < F.length) => cg_nn hm gone i hi
 have htk := fun (i : Nat) (hi : i < F.length) (k : Nat) => cg_take_le hm gone hi k
 have hpw : ∀ i : Nat, i < F.length → (2 : Int) ^ i ≤ 1024 := fun i hi => pow1024 (by omega)
 refine Fn.of_ex (cuts := []) tys hM Try.func57 rfl Try.call57 rfl ?_
 show exC Try.prog T [] _ false none 0 (entry 41 [netD F B l, .fn g 0 1 (fun _ => .top) c]) (finQ T [ResultVar.cell 4 77] _)
 conv => whnf
 repeat' first | ((first | refine Ob.a ?_ | refine Sp.tt ?_ | refine Sp.ff ?_ | refine Sp.yes ?_ | refine Sp.no ?_ | refine Sp.nyes ?_ | refine Sp.nno ?_ | refine Fi.a ?_);conv=>whnf) | ((first | refine Sp.ne ?_ ?_ | refine Sp.dec ?_ ?_ | refine Sp.ndec ?_ ?_ | refine Sp.mk ?_ ?_) <;> intro hc <;> conv => whnf) | (refine Ob.b ?_;conv=>whnf)
 refine Lp.snap [0, 1, 4, 5, 13, 30, 40] 40 ?_
 (conv=>whnf)
 refine LpB.go 41 ({i : Int // 0 ≤ i ∧ i ≤ F.length}) 0 (fun ⟨i, _⟩ nx => ([(14, .d (int i))], [(1, .row true 77 1 10 (rowF (cgK F gone i 0)))])) (fun p => (F.length - p.1).toNat) (⟨0, by omega, by omega⟩) ?_ ?_
 ·rintro ⟨i, i0, i1⟩
  by_cases hi : i < F.length
  ·have hg := hg i i0 hi
   have hS := hS i i0 hi
   have hsq := hsq i i0 hi
   have hel := hel i.toNat (by omega)
   have heq := heq i.toNat (by omega)
   have htk := htk i.toNat (by omega)
   have hpw' := hpw i.toNat (by omega)
   cases hgo : gone i.toNat with
   | true =>
    rw [hgo, if_pos rfl] at heq
    rw [hgo] at hg
    have e : ∀ j, j < 10 → cgK F gone i 0 j = cgK F gone (i + 1) 0 j := fun j _ => (cgK_next (fun _ => heq.symm)).symm
    clear hsq hS heq htk
    conv => whnf
    repeat' first | ((first | refine Ob.a ?_ | refine Sp.tt ?_ | refine Sp.ff ?_ | refine Sp.yes ?_ | refine Sp.no ?_ | refine Sp.nyes ?_ | refine Sp.nno ?_ | refine Fi.a ?_);conv=>whnf) | ((first | refine Sp.ne ?_ ?_ | refine Sp.dec ?_ ?_ | refine Sp.ndec ?_ ?_ | refine Sp.mk ?_ ?_) <;> intro hc <;> conv => whnf) | (apply Cl.go;(conv=>whnf); (first | refine Ob.call (hg) ?_);(conv=>whnf)) | (refine Ob.b ?_;conv=>whnf)
    all_goals first | exact ⟨rfl, ⟨i + 1, by omega, by omega⟩, Lf, by simp only; omega⟩
   | false =>
    rw [hgo, if_neg (by simp)] at heq
    rw [hgo] at hg
    cases hsk : sackB F i.toNat with
    | true =>
     have hnil : frm F i.toNat = [] := of_decide_eq_true hsk
     rw [if_pos hnil] at heq
     rw [hsk] at hS
     have hnl : F.getD i.toNat [] = [] := hnil
     rw [hnl] at hsq
     have hsq : Seq Try.prog 98 [] (itC F B l i) 0 (fun k => [int (([] : List Int).getD k 0)]) := hsq
     have e0 : ∀ j, j < 10 → cgK F gone i 1 j = if j = 0 + i.toNat then 1 else cgK F gone i 0 j := fun j _ => by
      rw [cgK_set (v := 0)]
      by_cases h : (j : Int) = i
      ·rw [if_pos h, if_pos (by omega)]
      ·rw [if_neg h, if_neg (by omega)]
     have e : ∀ j, j < 10 → cgK F gone i 1 j = cgK F gone (i + 1) 0 j := fun j _ => (cgK_next (fun _ => heq.symm)).symm
     clear heq htk
     conv => whnf
     repeat' first | ((first | refine Ob.a ?_ | refine Sp.tt ?_ | refine Sp.ff ?_ | refine Sp.yes ?_ | refine Sp.no ?_ | refine Sp.nyes ?_ | refine Sp.nno ?_ | refine Fi.a ?_);conv=>whnf) | ((first | refine Sp.ne ?_ ?_ | refine Sp.dec ?_ ?_ | refine Sp.ndec ?_ ?_ | refine Sp.mk ?_ ?_) <;> intro hc <;> conv => whnf) | (apply Cl.go;(conv=>whnf); (first | refine Ob.call (hg) ?_ | refine Ob.call (hS) ?_ | refine Ob.call (hL i) ?_);(conv=>whnf)) | (refine Ob.b ?_;conv=>whnf)
     refine Rg.snap [0, 1, 4, 5, 6, 7, 13, 14, 16, 18, 19, 20, 22, 23, 24, 25, 26, 27, 28, 30, 31, 32, 33, 34, 35, 36, 37, 38, 39, 40] 40 ?_
     (conv=>whnf)
     refine RgB.go 41 ({k : Nat // k = 0}) 0 (fun ⟨k, _⟩ nx => [(1, .row true 77 1 10 (rowF (cgK F gone i 1)))]) (fun p => p.1) (⟨0, rfl⟩) hsq ?_ ?_ ?_
     ·rintro ⟨k, rfl⟩ j hj0 hj
      exact absurd hj (Nat.not_lt_zero _)
     ·rintro ⟨k, rfl⟩ hk'
      conv => whnf
      repeat' first | ((first | refine Ob.a ?_ | refine Sp.tt ?_ | refine Sp.ff ?_ | refine Sp.yes ?_ | refine Sp.no ?_ | refine Sp.nyes ?_ | refine Sp.nno ?_ | refine Fi.a ?_);conv=>whnf) | ((first | refine Sp.ne ?_ ?_ | refine Sp.dec ?_ ?_ | refine Sp.ndec ?_ ?_ | refine Sp.mk ?_ ?_) <;> intro hc <;> conv => whnf) | (refine Ob.b ?_;conv=>whnf)
      all_goals first | exact ⟨rfl, ⟨i + 1, by omega, by omega⟩, Lf, by simp only; omega⟩
     ·exact Lf
    | false =>
     have hnil : ¬ frm F i.toNat = [] := of_decide_eq_false hsk
     rw [if_neg hnil] at heq
     rw [hsk] at hS
     conv => whnf
     repeat' first | ((first | refine Ob.a ?_ | refine Sp.tt ?_ | refine Sp.ff ?_ | refine Sp.yes ?_ | refine Sp.no ?_ | refine Sp.nyes ?_ | refine Sp.nno ?_ | refine Fi.a ?_);conv=>whnf) | ((first | refine Sp.ne ?_ ?_ | refine Sp.dec ?_ ?_ | refine Sp.ndec ?_ ?_ | refine Sp.mk ?_ ?_) <;> intro hc <;> conv => whnf) | (apply Cl.go;(conv=>whnf); (first | refine Ob.call (hg) ?_ | refine Ob.call (hS) ?_ | refine Ob.call (hL i) ?_);(conv=>whnf)) | (refine Ob.b ?_;conv=>whnf)
     refine Rg.snap [0, 1, 4, 5, 6, 7, 13, 14, 16, 18, 19, 20, 22, 23, 24, 25, 26, 27, 28, 30, 31, 32, 33, 34, 35, 36, 37, 38, 39, 40] 40 ?_
     (conv=>whnf)
     refine RgB.go 41 ({k : Nat // k ≤ (F.getD i.toNat []).length}) 0 (fun ⟨k, _⟩ nx => [(1, .row true 77 1 10 (rowF (cgK F gone i (isum ((F.getD i.toNat []).take k) (cg F gone)))))]) (fun p => p.1) (⟨0, by omega⟩) hsq ?_ ?_ ?_
     ·rintro ⟨k, hk⟩ j hj0 hj
      simp only at hj0
      subst hj0
      have hx : 0 ≤ (F.getD i.toNat []).getD k 0 ∧ (F.getD i.toNat []).getD k 0 < (i.toNat : Int) := hel _ (getD_mem (l := frm F i.toNat) hj 0)
      have hs2 : isum ((F.getD i.toNat []).take (k + 1)) (cg F gone) = isum ((F.getD i.toNat []).take k) (cg F gone) + cg F gone ((F.getD i.toNat []).getD k 0).toNat := by rw [take_succ_getD _ k 0 hj, isum_snoc]
      have hb1 := htk k
      have hb2 := htk (k + 1)
      change 0 ≤ isum ((F.getD i.toNat []).take k) (cg F gone) ∧ isum ((F.getD i.toNat []).take k) (cg F gone) ≤ 2 ^ i.toNat at hb1
      change 0 ≤ isum ((F.getD i.toNat []).take (k + 1)) (cg F gone) ∧ isum ((F.getD i.toNat []).take (k + 1)) (cg F gone) ≤ 2 ^ i.toNat at hb2
      rw [hs2] at hb2
      have hv1 : cgK F gone i (isum ((F.getD i.toNat []).take k) (cg F gone)) (0 + i.toNat) = isum ((F.getD i.toNat []).take k) (cg F gone) := cgK_at (by omega)
      have hv2 : cgK F gone i (isum ((F.getD i.toNat []).take k) (cg F gone)) (0 + ((F.getD i.toNat []).getD k 0).toNat) = cg F gone ((F.getD i.toNat []).getD k 0).toNat := by rw [Nat.zero_add]; exact cgK_lt (by omega)
      have e : ∀ j, j < 10 → cgK F gone i (isum ((F.getD i.toNat []).take (k + 1)) (cg F gone)) j = if j = 0 + i.toNat then cgK F gone i (isum ((F.getD i.toNat []).take k) (cg F gone)) (0 + i.toNat) + cgK F gone i (isum ((F.getD i.toNat []).take k) (cg F gone)) (0 + ((F.getD i.toNat []).getD k 0).toNat) else cgK F gone i (isum ((F.getD i.toNat []).take k) (cg F gone)) j := fun j _ => by
       rw [hv1, hv2, ← hs2, cgK_set (v := isum ((F.getD i.toNat []).take k) (cg F gone))]
       by_cases h : (j : Int) = i
       ·rw [if_pos h, if_pos (by omega)]
       ·rw [if_neg h, if_neg (by omega)]
      have hc10 := hle i.toNat (by omega)
      have hb3 := hle ((F.getD i.toNat []).getD k 0).toNat (by omega)
      have hb4 := hpw ((F.getD i.toNat []).getD k 0).toNat (by omega)
      clear heq htk hle hnn hpw
      conv => whnf
      repeat' first | ((first | refine Ob.a ?_ | refine Sp.tt ?_ | refine Sp.ff ?_ | refine Sp.yes ?_ | refine Sp.no ?_ | refine Sp.nyes ?_ | refine Sp.nno ?_ | refine Fi.a ?_);conv=>whnf) | ((first | refine Sp.ne ?_ ?_ | refine Sp.dec ?_ ?_ | refine Sp.ndec ?_ ?_ | refine Sp.mk ?_ ?_) <;> intro hc <;> conv => whnf) | (refine Ob.b ?_;conv=>whnf)
      all_goals first | exact ⟨rfl, ⟨k + 1, hj⟩, rfl, Lf⟩
     ·rintro ⟨k, hk⟩ hk'
      simp only at hk'
      have e : ∀ j, j < 10 → cgK F gone i (isum ((F.getD i.toNat []).take k) (cg F gone)) j = cgK F gone (i + 1) 0 j := fun j _ => (cgK_next (fun _ => by rw [heq, List.take_of_length_le (by omega)]; rfl)).symm
      conv => whnf
      repeat' first | ((first | refine Ob.a ?_ | refine Sp.tt ?_ | refine Sp.ff ?_ | refine Sp.yes ?_ | refine Sp.no ?_ | refine Sp.nyes ?_ | refine Sp.nno ?_ | refine Fi.a ?_);conv=>whnf) | ((first | refine Sp.ne ?_ ?_ | refine Sp.dec ?_ ?_ | refine Sp.ndec ?_ ?_ | refine Sp.mk ?_ ?_) <;> intro hc <;> conv => whnf) | (refine Ob.b ?_;conv=>whnf)
      all_goals first | exact ⟨rfl, ⟨i + 1, by omega, by omega⟩, Lf, by simp only; omega⟩
     ·have e : ∀ j, j < 10 → cgK F gone i 0 j = cgK F gone i (isum ((F.getD i.toNat []).take 0) (cg F gone)) j := fun j _ => rfl
      exact Lf
  ·have e : i = F.length := by omega
   subst e
   conv => whnf
   repeat' first | ((first | refine Ob.a ?_ | refine Sp.tt ?_ | refine Sp.ff ?_ | refine Sp.yes ?_ | refine Sp.no ?_ | refine Sp.nyes ?_ | refine Sp.nno ?_ | refine Fi.a ?_);conv=>whnf) | ((first | refine Sp.ne ?_ ?_ | refine Sp.dec ?_ ?_ | refine Sp.ndec ?_ ?_ | refine Sp.mk ?_ ?_) <;> intro hc <;> conv => whnf) | (refine Ob.b ?_;conv=>whnf)
   all_goals first | exact Lf
 ·have e : ∀ j, j < 10 → (0 : Int) = cgK F gone 0 0 j := fun j _ => by unfold cgK; rw [if_neg (by omega)]; split <;> rfl
  conv => whnf
  repeat' first | (refine Edge.fast ?_) | ((conv=>whnf); first | exact True.intro | (refine And.intro ?_ ?_) | exact rfl | exact Nat.le_of_eq (Nat.zero_add _) | exact ImpS.refl _ | ((conv => arg 1; whnf); first | exact ImpS.refl _ | (refine ImpS.nil_eq ?_) | (refine ImpS.vnil_eq ?_) | (refine ImpS.row ?_) | (refine ImpS.rowN ?_ ?_) | (refine ImpS.sl_eq ?_) | (refine ImpS.expl rfl ?_)) | (refine row_snoc' ?_) | exact MImp.refl _ | exact cimp_none | exact cimp_same | exact List.not_mem_nil | exact DImp.refl _) | exact rfl | (refine And.intro ?_ ?_) | exact ImpS.refl _
  all_goals first | exact rowF_const (cimp0 0) e
end Go.Px.Try

/-! Tp5 -/
namespace Go.Px.Try
open Go Go.Proofs Go.Px
set_option maxRecDepth 100000
theorem cm_above {F : List (List Int)} (h : MixOk F) {x i : Nat} (hx : x < F.length) (hi : x < i) : cm F x i = false := by
 cases hc : cm F x i with
 | false => rfl
 | true => have := cm_le h x hx hc; omega
theorem lst_more {n m : Nat} {S : Nat → Bool} (h : n ≤ m) (hS : ∀ i, n ≤ i → i < m → S i = false) : lst m S = lst n S := by
 induction m with
 | zero => rw [show n = 0 by omega]
 | succ m ih =>
  by_cases e : n = m + 1
  ·rw [e]
  ·rw [lst_succ, ih (by omega) fun i h1 h2 => hS i h1 (by omega), hS m (by omega) (by omega)]; simp
set_option maxHeartbeats 8000000 in
theorem SacksP_spec (F : List (List Int)) (hs : SmallM F) (x : Int) : Fn Try.prog 17 [mixD F, int x] (tpl [ints (if nodeE F [x] = 0 then sacksL F x.toNat else []), int (nodeE F [x])]) := by
 by_cases h0 : nodeE F [x] = 0
 ·have hO := open_spec F hs [x] (by simp) h0
  obtain ⟨hm, hx⟩ := nodeE_ok.1 h0
  have hx := hx x (by simp)
  have hl10 := hm.l10
  have hC := comes_spec F hs hm nilS 0 x hx.1 hx.2
  have hS := sack_spec F hs nilS 0
  have hab := fun (i : Int) (a : (F.length : Int) ≤ i) => cm_above hm (x := x.toNat) (i := i.toNat) (by omega) (by omega)
  have hmr := lst_more (n := F.length) (m := 10) (S := fun i => sackB F i && cm F x.toNat i) hl10 fun i h1 _ => by
   show (_ && cm F x.toNat i) = false
   rw [cm_above hm (by omega) (by omega), Bool.and_false]
  rw [if_pos h0, h0]
  show Fn Try.prog _ _ (tpl [ints (lst F.length fun i => sackB F i && cm F x.toNat i), int 0])
  rw [← hmr]
  clear h0 hmr
  refine Fn.hide (D := fun r : List Int => tpl [ints r, int 0]) fun c hc => ?_
  have hc0 := hc.h
  clear hc
  refine Fn.of_ex (cuts := []) tys hM Try.func17 rfl Try.call17 rfl ?_
  show exC Try.prog T [] _ false none 0 (entry 41 [mixD F, int x]) (finQ T [ResultVar.tmp 4, ResultVar.tmp 5] _)
  conv => whnf
  repeat' first | ((first | refine Ob.a ?_ | refine Sp.tt ?_ | refine Sp.ff ?_ | refine Sp.yes ?_ | refine Sp.no ?_ | refine Sp.nyes ?_ | refine Sp.nno ?_ | refine Fi.a ?_);conv=>whnf) | ((first | refine Sp.ne ?_ ?_ | refine Sp.dec ?_ ?_ | refine Sp.ndec ?_ ?_ | refine Sp.mk ?_ ?_) <;> intro hc <;> conv => whnf) | (apply Cl.nw;(conv=>whnf); (first | (refine Ob.nwX (hO) ?_ ?_ ?_;(focus exact Lf); (focus exact Lf)));(conv=>whnf)) | (apply Cl.go;(conv=>whnf); (first | refine Ob.call (hC) ?_);(conv=>whnf)) | (refine Ob.b ?_;conv=>whnf)
  all_goals try (rename_i hq; exact absurd rfl hq)
  refine Lp.snap [0, 1, 4, 5, 6, 23, 40] 40 ?_
  (conv=>whnf)
  refine LpB.go 41 ({q : Int × List Int // (0 ≤ q.1 ∧ q.1 ≤ 10) ∧ q.2 = lst q.1.toNat fun i => sackB F i && cm F x.toNat i}) 0 (fun ⟨(i, o), _⟩ nx => ([(24, .d (int i)), (8, .ms 14 1 0 o.length)], [(14, .row true 3 1 o.length (rowOf int 0 o))])) (fun p => (10 - p.1.1).toNat) (⟨(0, []), ⟨by simp, by simp⟩, rfl⟩) ?_ ?_
  ·rintro ⟨⟨i, o⟩, ⟨i0, i1⟩, ho⟩
   simp only at i0 i1 ho
   have hlen : o.length ≤ i.toNat := by rw [ho]; exact lst_length_le _ _
   by_cases hi : i < 10
   ·have hab := hab i
    have hst : lst (i + 1).toNat (fun i => sackB F i && cm F x.toNat i) = o ++ if (sackB F i.toNat && cm F x.toNat i.toNat) = true then [i] else [] := by
     rw [show (i + 1).toNat = i.toNat + 1 by omega, lst_succ, ho, Int.toNat_of_nonneg i0]
    cases hcm : cm F x.toNat i.toNat with
    | true =>
     have hil : i < F.length := Int.not_le.1 fun h => by rw [hab h] at hcm; cases hcm
     have hb : cmG F x.toNat i.toNat = 1 := by unfold cmG; rw [hcm]; rfl
     have hS := hS i i0 hil
     rw [hcm, Bool.and_true] at hst
     cases hsk : sackB F i.toNat with
     | true =>
      rw [hsk, if_pos rfl] at hst
      rw [hsk] at hS
      conv => whnf
      repeat' first | ((first | refine Ob.a ?_ | refine Sp.tt ?_ | refine Sp.ff ?_ | refine Sp.yes ?_ | refine Sp.no ?_ | refine Sp.nyes ?_ | refine Sp.nno ?_ | refine Fi.a ?_);conv=>whnf) | ((first | refine Sp.ne ?_ ?_ | refine Sp.dec ?_ ?_ | refine Sp.ndec ?_ ?_ | refine Sp.mk ?_ ?_) <;> intro hc <;> conv => whnf) | (apply Cl.go;(conv=>whnf); (first | refine Ob.call (hS) ?_);(conv=>whnf)) | (refine Ob.b ?_;conv=>whnf)
      all_goals first | exact ⟨rfl, ⟨(i + 1, o ++ [i]), ⟨by simp only; omega, by simp only; omega⟩, hst.symm⟩, Lf, by simp only; omega⟩ | (exfalso; omega)
     | false =>
      rw [hsk, if_neg (by simp), List.append_nil] at hst
      rw [hsk] at hS
      conv => whnf
      repeat' first | ((first | refine Ob.a ?_ | refine Sp.tt ?_ | refine Sp.ff ?_ | refine Sp.yes ?_ | refine Sp.no ?_ | refine Sp.nyes ?_ | refine Sp.nno ?_ | refine Fi.a ?_);conv=>whnf) | ((first | refine Sp.ne ?_ ?_ | refine Sp.dec ?_ ?_ | refine Sp.ndec ?_ ?_ | refine Sp.mk ?_ ?_) <;> intro hc <;> conv => whnf) | (apply Cl.go;(conv=>whnf); (first | refine Ob.call (hS) ?_);(conv=>whnf)) | (refine Ob.b ?_;conv=>whnf)
      all_goals first | exact ⟨rfl, ⟨(i + 1, o), ⟨by simp only; omega, by simp only; omega⟩, hst.symm⟩, Lf, by simp only; omega⟩ | (exfalso; omega)
    | false =>
     have hb : cmG F x.toNat i.toNat = 0 := by unfold cmG; rw [hcm]; rfl
     rw [hcm, Bool.and_false, if_neg (by simp), List.append_nil] at hst
     conv => whnf
     repeat' first | ((first | refine Ob.a ?_ | refine Sp.tt ?_ | refine Sp.ff ?_ | refine Sp.yes ?_ | refine Sp.no ?_ | refine Sp.nyes ?_ | refine Sp.nno ?_ | refine Fi.a ?_);conv=>whnf) | ((first | refine Sp.ne ?_ ?_ | refine Sp.dec ?_ ?_ | refine Sp.ndec ?_ ?_ | refine Sp.mk ?_ ?_) <;> intro hc <;> conv => whnf) | (refine Ob.b ?_;conv=>whnf)
     all_goals first | exact ⟨rfl, ⟨(i + 1, o), ⟨by simp only; omega, by simp only; omega⟩, hst.symm⟩, Lf, by simp only; omega⟩ | (exfalso; omega)
   ·have e : o = c := by rw [ho, ← hc0, show i.toNat = 10 by omega]
    conv => whnf
    repeat' first | ((first | refine Ob.a ?_ | refine Sp.tt ?_ | refine Sp.ff ?_ | refine Sp.yes ?_ | refine Sp.no ?_ | refine Sp.nyes ?_ | refine Sp.nno ?_ | refine Fi.a ?_);conv=>whnf) | ((first | refine Sp.ne ?_ ?_ | refine Sp.dec ?_ ?_ | refine Sp.ndec ?_ ?_ | refine Sp.mk ?_ ?_) <;> intro hc <;> conv => whnf) | (refine Ob.b ?_;conv=>whnf)
    all_goals exact Lf
  ·exact Lf
 ·have hO := open_err F hs [x] (by simp) h0
  rw [if_neg h0]
  generalize nodeE F [x] = k at *
  refine Fn.of_ex (cuts := []) tys hM Try.func17 rfl Try.call17 rfl ?_
  show exC Try.prog T [] _ false none 0 (entry 41 [mixD F, int x]) (finQ T [ResultVar.tmp 4, ResultVar.tmp 5] _)
  conv => whnf
  repeat' first | ((first | refine Ob.a ?_ | refine Sp.tt ?_ | refine Sp.ff ?_ | refine Sp.yes ?_ | refine Sp.no ?_ | refine Sp.nyes ?_ | refine Sp.nno ?_ | refine Fi.a ?_);conv=>whnf) | ((first | refine Sp.ne ?_ ?_ | refine Sp.dec ?_ ?_ | refine Sp.ndec ?_ ?_ | refine Sp.mk ?_ ?_) <;> intro hc <;> conv => whnf) | (apply Cl.go;(conv=>whnf); (first | refine Ob.call (hO) ?_);(conv=>whnf)) | (refine Ob.b ?_;conv=>whnf)
  all_goals first | exact Lf | (exfalso; omega)
theorem Count1_spec (i : Int) : Fn Try.prog 58 [int i] (bool false) := by
 refine Fn.of_ex (cuts := []) tys hM Try.func58 rfl Try.call58 rfl ?_
 show exC Try.prog T [] _ false none 0 (entry 3 [int i]) (finQ T [ResultVar.tmp 2] _)
 conv => whnf
 repeat' first | ((first | refine Ob.a ?_ | refine Sp.tt ?_ | refine Sp.ff ?_ | refine Sp.yes ?_ | refine Sp.no ?_ | refine Sp.nyes ?_ | refine Sp.nno ?_ | refine Fi.a ?_);conv=>whnf) | ((first | refine Sp.ne ?_ ?_ | refine Sp.dec ?_ ?_ | refine Sp.ndec ?_ ?_ | refine Sp.mk ?_ ?_) <;> intro hc <;> conv => whnf) | (refine Ob.b ?_;conv=>whnf)
 all_goals exact Lf
set_option maxHeartbeats 8000000 in
theorem CountP_spec (F : List (List Int)) (hs : SmallM F) (x : Int) : Fn Try.prog 19 [mixD F, int x] (tpl [int (if nodeE F [x] = 0 then cg F (fun _ => false) x.toNat else 0), int (nodeE F [x])]) := by
 by_cases h0 : nodeE F [x] = 0
 ·have hO := open_spec F hs [x] (by simp) h0
  obtain ⟨hm, hx⟩ := nodeE_ok.1 h0
  have hx := hx x (by simp)
  have hl10 := hm.l10
  have hC := counts_spec0 F hs hm nilS 0 (fun _ => false) 58 (fun _ => .top) fun i _ _ => Count1_spec i
  have hv : cgK F (fun _ => false) F.length 0 x.toNat = cg F (fun _ => false) x.toNat := cgK_lt (by omega)
  rw [if_pos h0, h0]
  generalize cg F (fun _ => false) x.toNat = r at *
  refine Fn.of_ex (cuts := []) tys hM Try.func19 rfl Try.call19 rfl ?_
  show exC Try.prog T [] _ false none 0 (entry 22 [mixD F, int x]) (finQ T [ResultVar.tmp 4, ResultVar.tmp 5] _)
  conv => whnf
  repeat' first | ((first | refine Ob.a ?_ | refine Sp.tt ?_ | refine Sp.ff ?_ | refine Sp.yes ?_ | refine Sp.no ?_ | refine Sp.nyes ?_ | refine Sp.nno ?_ | refine Fi.a ?_);conv=>whnf) | ((first | refine Sp.ne ?_ ?_ | refine Sp.dec ?_ ?_ | refine Sp.ndec ?_ ?_ | refine Sp.mk ?_ ?_) <;> intro hc <;> conv => whnf) | (apply Cl.nw;(conv=>whnf); (first | (refine Ob.nwX (hO) ?_ ?_ ?_;(focus exact Lf); (focus exact Lf)));(conv=>whnf)) | (apply Cl.go;(conv=>whnf); (first | refine Ob.call (hC) ?_);(conv=>whnf)) | (refine Ob.b ?_;conv=>whnf)
  all_goals first | exact Lf | (rename_i hq; exact absurd rfl hq)
 ·have hO := open_err F hs [x] (by simp) h0
  rw [if_neg h0]
  generalize nodeE F [x] = k at *
  refine Fn.of_ex (cuts := []) tys hM Try.func19 rfl Try.call19 rfl ?_
  show exC Try.prog T [] _ false none 0 (entry 22 [mixD F, int x]) (finQ T [ResultVar.tmp 4, ResultVar.tmp 5] _)
  conv => whnf
  repeat' first | ((first | refine Ob.a ?_ | refine Sp.tt ?_ | refine Sp.ff ?_ | refine Sp.yes ?_ | refine Sp.no ?_ | refine Sp.nyes ?_ | refine Sp.nno ?_ | refine Fi.a ?_);conv=>whnf) | ((first | refine Sp.ne ?_ ?_ | refine Sp.dec ?_ ?_ | refine Sp.ndec ?_ ?_ | refine Sp.mk ?_ ?_) <;> intro hc <;> conv => whnf) | (apply Cl.go;(conv=>whnf); (first | refine Ob.call (hO) ?_);(conv=>whnf)) | (refine Ob.b ?_;conv=>whnf)
  all_goals first | exact Lf | (exfalso; omega)
theorem Through1_spec (k i : Int) : Fn Try.prog 62 [int k, cellP i] (bool (decide (k = i))) := by
 generalize hr : decide (k = i) = r
 refine Fn.of_ex (cuts := []) tys hM Try.func62 rfl Try.call62 rfl ?_
 show exC Try.prog T [] _ false none 0 (entry 7 [int k, cellP i]) (finQ T [ResultVar.tmp 3] _)
 conv => whnf
 repeat' first | ((first | refine Ob.a ?_ | refine Sp.tt ?_ | refine Sp.ff ?_ | refine Sp.yes ?_ | refine Sp.no ?_ | refine Sp.nyes ?_ | refine Sp.nno ?_ | refine Fi.a ?_);conv=>whnf) | ((first | refine Sp.ne ?_ ?_ | refine Sp.dec ?_ ?_ | refine Sp.ndec ?_ ?_ | refine Sp.mk ?_ ?_) <;> intro hc <;> conv => whnf) | (refine Ob.b ?_;conv=>whnf)
 all_goals exact Lf
/-- There is a way to each node; it has no node above it. -/
theorem fr_any {F : List (List Int)} (h : MixOk F) {W : Nat → Bool} : ∀ x, x < F.length → (∀ i, i ≤ x → W i = false) → fr F (fun _ => true) W x = true := by
 intro x
 induction x using Nat.strongRecOn with
 | ind x ih =>
  intro hx hW
  rw [fr_true h hx]
  refine ⟨hW x (Nat.le_refl _), ?_⟩
  by_cases e : frm F x = []
  ·exact .inl ⟨e, rfl⟩
  ·obtain ⟨k, hk⟩ := List.exists_mem_of_ne_nil _ e
   have hk0 := (h.ris x hx).1 k hk
   exact .inr ⟨k.toNat, by rw [Int.toNat_of_nonneg hk0.1]; exact hk, ih k.toNat (by omega) (by omega) fun i hi => hW i (by omega)⟩
theorem thB_cg {F : List (List Int)} (h : MixOk F) {x i : Nat} (hx : x < F.length) (hi : i < x) : thB F x i = decide (cg F (fun j => decide (j = i)) x = 0) := by
 unfold thB
 rw [decide_eq_true (show i ≠ x by omega), Bool.true_and]
 have h1 := cg_pos h (fun j => decide (j = i)) x hx
 have h2 := cg_nn h (fun j => decide (j = i)) x hx
 cases hf : fr F (fun _ => true) (fun j => decide (j = i)) x with
 | true => rw [decide_eq_false (by have := h1.2 hf; omega)]; rfl
 | false =>
  rw [decide_eq_true]; rfl
  by_cases e : 0 < cg F (fun j => decide (j = i)) x
  ·rw [h1.1 e] at hf; cases hf
  ·omega
theorem thL_eq {F : List (List Int)} (h : MixOk F) {x : Nat} (hx : x < F.length) : thL F x = lst x (thB F x) := by
 unfold thL
 refine lst_more (by omega) fun i h1 h2 => ?_
 unfold thB
 by_cases e : i = x
 ·rw [decide_eq_false (not_not_intro e)]; rfl
 ·rw [fr_any h x hx fun j hj => decide_eq_false (by omega)]; simp
set_option maxHeartbeats 8000000 in
theorem ThroughP_spec (F : List (List Int)) (hs : SmallM F) (x : Int) : Fn Try.prog 24 [mixD F, int x] (tpl [ints (if nodeE F [x] = 0 then thL F x.toNat else []), int (nodeE F [x])]) := by
 by_cases h0 : nodeE F [x] = 0
 ·have hO := open_spec F hs [x] (by simp) h0
  obtain ⟨hm, hx⟩ := nodeE_ok.1 h0
  have hx := hx x (by simp)
  have hl10 := hm.l10
  have hC := fun (i : Int) => counts_spec1 F hs hm nilS 0 (fun j => decide (j = i.toNat)) 62 (fun _ => cellP i)
  have hv : ∀ i : Int, cgK F (fun j => decide (j = i.toNat)) F.length 0 x.toNat = cg F (fun j => decide (j = i.toNat)) x.toNat := fun i => cgK_lt (by omega)
  have hth := fun (i : Int) (a : 0 ≤ i) (b : i < x) => thB_cg hm (x := x.toNat) (i := i.toNat) (by omega) (by omega)
  rw [if_pos h0, h0, thL_eq hm (by omega)]
  clear h0
  refine Fn.hide (D := fun r : List Int => tpl [ints r, int 0]) fun c hc => ?_
  have hc0 := hc.h
  clear hc
  refine Fn.of_ex (cuts := []) tys hM Try.func24 rfl Try.call24 rfl ?_
  show exC Try.prog T [] _ false none 0 (entry 36 [mixD F, int x]) (finQ T [ResultVar.tmp 4, ResultVar.tmp 5] _)
  conv => whnf
  repeat' first | ((first | refine Ob.a ?_ | refine Sp.tt ?_ | refine Sp.ff ?_ | refine Sp.yes ?_ | refine Sp.no ?_ | refine Sp.nyes ?_ | refine Sp.nno ?_ | refine Fi.a ?_);conv=>whnf) | ((first | refine Sp.ne ?_ ?_ | refine Sp.dec ?_ ?_ | refine Sp.ndec ?_ ?_ | refine Sp.mk ?_ ?_) <;> intro hc <;> conv => whnf) | (apply Cl.nw;(conv=>whnf); (first | (refine Ob.nwX (hO) ?_ ?_ ?_;(focus exact Lf); (focus exact Lf)));(conv=>whnf)) | (refine Ob.b ?_;conv=>whnf)
  all_goals try (rename_i hq; exact absurd rfl hq)
  refine Lp.snap [0, 1, 4, 5, 6, 20, 35] 40 ?_
  (conv=>whnf)
  refine LpB.go 36 ({q : Int × List Int // (0 ≤ q.1 ∧ q.1 ≤ x) ∧ q.2 = lst q.1.toNat (thB F x.toNat)}) 0 (fun ⟨(i, o), _⟩ nx => ([(21, .d (int i)), (8, .ms 14 1 0 o.length)], [(14, .row true 3 1 o.length (rowOf int 0 o))])) (fun p => (x - p.1.1).toNat) (⟨(0, []), ⟨by simp, by simp only; omega⟩, rfl⟩) ?_ ?_
  ·rintro ⟨⟨i, o⟩, ⟨i0, i1⟩, ho⟩
   simp only at i0 i1 ho
   have hlen : o.length ≤ i.toNat := by rw [ho]; exact lst_length_le _ _
   by_cases hi : i < x
   ·have hv := hv i
    have hth := hth i i0 hi
    have hC := hC i fun k k0 _ => by
     have h := Through1_spec k i
     rw [show decide (k = i) = decide (k.toNat = i.toNat) from decide_eq_decide.2 (by omega)] at h
     exact h
    have hst : lst (i + 1).toNat (thB F x.toNat) = o ++ if thB F x.toNat i.toNat = true then [i] else [] := by
     rw [show (i + 1).toNat = i.toNat + 1 by omega, lst_succ, ho, Int.toNat_of_nonneg i0]
    by_cases hz : cg F (fun j => decide (j = i.toNat)) x.toNat = 0
    ·rw [hth, decide_eq_true hz, if_pos rfl] at hst
     rw [hz] at hv
     conv => whnf
     repeat' first | ((first | refine Ob.a ?_ | refine Sp.tt ?_ | refine Sp.ff ?_ | refine Sp.yes ?_ | refine Sp.no ?_ | refine Sp.nyes ?_ | refine Sp.nno ?_ | refine Fi.a ?_);conv=>whnf) | ((first | refine Sp.ne ?_ ?_ | refine Sp.dec ?_ ?_ | refine Sp.ndec ?_ ?_ | refine Sp.mk ?_ ?_) <;> intro hc <;> conv => whnf) | (apply Cl.go;(conv=>whnf); (first | refine Ob.call (hC) ?_);(conv=>whnf)) | (refine Ob.b ?_;conv=>whnf)
     all_goals first | exact ⟨rfl, ⟨(i + 1, o ++ [i]), ⟨by simp only; omega, by simp only; omega⟩, hst.symm⟩, Lf, by simp only; omega⟩ | (exfalso; omega)
    ·rw [hth, decide_eq_false hz, if_neg (by simp), List.append_nil] at hst
     rw [← hv] at hz
     conv => whnf
     repeat' first | ((first | refine Ob.a ?_ | refine Sp.tt ?_ | refine Sp.ff ?_ | refine Sp.yes ?_ | refine Sp.no ?_ | refine Sp.nyes ?_ | refine Sp.nno ?_ | refine Fi.a ?_);conv=>whnf) | ((first | refine Sp.ne ?_ ?_ | refine Sp.dec ?_ ?_ | refine Sp.ndec ?_ ?_ | refine Sp.mk ?_ ?_) <;> intro hc <;> conv => whnf) | (apply Cl.go;(conv=>whnf); (first | refine Ob.call (hC) ?_);(conv=>whnf)) | (refine Ob.b ?_;conv=>whnf)
     all_goals first | exact ⟨rfl, ⟨(i + 1, o), ⟨by simp only; omega, by simp only; omega⟩, hst.symm⟩, Lf, by simp only; omega⟩ | (exfalso; omega)
   ·have e : o = c := by rw [ho, ← hc0, show i.toNat = x.toNat by omega]
    conv => whnf
    repeat' first | ((first | refine Ob.a ?_ | refine Sp.tt ?_ | refine Sp.ff ?_ | refine Sp.yes ?_ | refine Sp.no ?_ | refine Sp.nyes ?_ | refine Sp.nno ?_ | refine Fi.a ?_);conv=>whnf) | ((first | refine Sp.ne ?_ ?_ | refine Sp.dec ?_ ?_ | refine Sp.ndec ?_ ?_ | refine Sp.mk ?_ ?_) <;> intro hc <;> conv => whnf) | (refine Ob.b ?_;conv=>whnf)
    all_goals exact Lf
  ·exact Lf
 ·have hO := open_err F hs [x] (by simp) h0
  rw [if_neg h0]
  generalize nodeE F [x] = k at *
  refine Fn.of_ex (cuts := []) tys hM Try.func24 rfl Try.call24 rfl ?_
  show exC Try.prog T [] _ false none 0 (entry 36 [mixD F, int x]) (finQ T [ResultVar.tmp 4, ResultVar.tmp 5] _)
  conv => whnf
  repeat' first | ((first | refine Ob.a ?_ | refine Sp.tt ?_ | refine Sp.ff ?_ | refine Sp.yes ?_ | refine Sp.no ?_ | refine Sp.nyes ?_ | refine Sp.nno ?_ | refine Fi.a ?_);conv=>whnf) | ((first | refine Sp.ne ?_ ?_ | refine Sp.dec ?_ ?_ | refine Sp.ndec ?_ ?_ | refine Sp.mk ?_ ?_) <;> intro hc <;> conv => whnf) | (apply Cl.go;(conv=>whnf); (first | refine Ob.call (hO) ?_);(conv=>whnf)) | (refine Ob.b ?_;conv=>whnf)
  all_goals first | exact Lf | (exfalso; omega)
end Go.Px.Try

/-! Tp11 -/
namespace Go.Px.Try
open Go Go.Proofs Go.Px
set_option maxRecDepth 100000
set_option maxHeartbeats 8000000 in
theorem opened_err (F : List (List Int)) (hs : SmallM F) (bad : List Int) (hbl : bad.length < 1000000) (lot : Int) (h : badE F bad lot ≠ 0) : Fn Try.prog 69 [mixD F, ints bad, int lot] (tpl [nilP, int (badE F bad lot)]) := by
 by_cases h0 : nodeE F [lot] = 0
 ·have hO := open_spec F hs [lot] (by simp) h0
  obtain ⟨hm, hx⟩ := nodeE_ok.1 h0
  have hx := hx lot (by simp)
  have hl10 := hm.l10
  have hR := rising_spec bad F.length hbl (by omega)
  have hS := sack_spec F hs nilS 0 lot hx.1 hx.2
  have hq : ¬ (rsL bad F.length ∧ frm F lot.toNat ≠ [] ∧ ∀ x ∈ bad, frm F x.toNat = []) := fun hq => h (by unfold badE; rw [if_neg (by simp [h0]), if_pos hq])
  have e : badE F bad lot = 2 := by unfold badE; rw [if_neg (by simp [h0]), if_neg hq]
  rw [e]
  clear e h h0
  by_cases h1 : rsL bad F.length
  ·have hB := sacks_spec F hs nilS 0 bad (fun x hx => h1.1 x hx) hbl
   rw [decide_eq_true h1] at hR
   by_cases h2 : frm F lot.toNat = []
   ·rw [show sackB F lot.toNat = true from decide_eq_true h2] at hS
    clear hB hq
    refine Fn.of_ex (cuts := []) tys hM Try.func69 rfl Try.call69 rfl ?_
    show exC Try.prog T [] _ false none 0 (entry 48 [mixD F, ints bad, int lot]) (finQ T [ResultVar.tmp 6, ResultVar.tmp 7] _)
    conv => whnf
    repeat' first | ((first | refine Ob.a ?_ | refine Sp.tt ?_ | refine Sp.ff ?_ | refine Sp.yes ?_ | refine Sp.no ?_ | refine Sp.nyes ?_ | refine Sp.nno ?_ | refine Fi.a ?_);conv=>whnf) | ((first | refine Sp.ne ?_ ?_ | refine Sp.dec ?_ ?_ | refine Sp.ndec ?_ ?_ | refine Sp.mk ?_ ?_) <;> intro hc <;> conv => whnf) | (apply Cl.nw;(conv=>whnf); (first | (refine Ob.nwX (hO) ?_ ?_ ?_;(focus exact Lf); (focus exact Lf)));(conv=>whnf)) | (apply Cl.go;(conv=>whnf); (first | refine Ob.call (hR) ?_ | refine Ob.call (hS) ?_);(conv=>whnf)) | (refine Ob.b ?_;conv=>whnf)
    all_goals first | exact Lf | (exfalso; omega) | (rename_i hq; exact absurd rfl hq)
   ·rw [show sackB F lot.toNat = false from decide_eq_false h2] at hS
    rw [decide_eq_false (fun h3 => hq ⟨h1, h2, h3⟩)] at hB
    clear hq
    refine Fn.of_ex (cuts := []) tys hM Try.func69 rfl Try.call69 rfl ?_
    show exC Try.prog T [] _ false none 0 (entry 48 [mixD F, ints bad, int lot]) (finQ T [ResultVar.tmp 6, ResultVar.tmp 7] _)
    conv => whnf
    repeat' first | ((first | refine Ob.a ?_ | refine Sp.tt ?_ | refine Sp.ff ?_ | refine Sp.yes ?_ | refine Sp.no ?_ | refine Sp.nyes ?_ | refine Sp.nno ?_ | refine Fi.a ?_);conv=>whnf) | ((first | refine Sp.ne ?_ ?_ | refine Sp.dec ?_ ?_ | refine Sp.ndec ?_ ?_ | refine Sp.mk ?_ ?_) <;> intro hc <;> conv => whnf) | (apply Cl.nw;(conv=>whnf); (first | (refine Ob.nwX (hO) ?_ ?_ ?_;(focus exact Lf); (focus exact Lf)));(conv=>whnf)) | (apply Cl.go;(conv=>whnf); (first | refine Ob.call (hR) ?_ | refine Ob.call (hS) ?_ | refine Ob.call (hB) ?_);(conv=>whnf)) | (refine Ob.b ?_;conv=>whnf)
    all_goals first | exact Lf | (exfalso; omega) | (rename_i hq; exact absurd rfl hq)
  ·rw [decide_eq_false h1] at hR
   clear hq hS
   refine Fn.of_ex (cuts := []) tys hM Try.func69 rfl Try.call69 rfl ?_
   show exC Try.prog T [] _ false none 0 (entry 48 [mixD F, ints bad, int lot]) (finQ T [ResultVar.tmp 6, ResultVar.tmp 7] _)
   conv => whnf
   repeat' first | ((first | refine Ob.a ?_ | refine Sp.tt ?_ | refine Sp.ff ?_ | refine Sp.yes ?_ | refine Sp.no ?_ | refine Sp.nyes ?_ | refine Sp.nno ?_ | refine Fi.a ?_);conv=>whnf) | ((first | refine Sp.ne ?_ ?_ | refine Sp.dec ?_ ?_ | refine Sp.ndec ?_ ?_ | refine Sp.mk ?_ ?_) <;> intro hc <;> conv => whnf) | (apply Cl.nw;(conv=>whnf); (first | (refine Ob.nwX (hO) ?_ ?_ ?_;(focus exact Lf); (focus exact Lf)));(conv=>whnf)) | (apply Cl.go;(conv=>whnf); (first | refine Ob.call (hR) ?_);(conv=>whnf)) | (refine Ob.b ?_;conv=>whnf)
   all_goals first | exact Lf | (exfalso; omega) | (rename_i hq; exact absurd rfl hq)
 ·have hO := open_err F hs [lot] (by simp) h0
  have e : badE F bad lot = nodeE F [lot] := by unfold badE; rw [if_pos h0]
  rw [e]
  clear e h
  generalize nodeE F [lot] = k at *
  refine Fn.of_ex (cuts := []) tys hM Try.func69 rfl Try.call69 rfl ?_
  show exC Try.prog T [] _ false none 0 (entry 48 [mixD F, ints bad, int lot]) (finQ T [ResultVar.tmp 6, ResultVar.tmp 7] _)
  conv => whnf
  repeat' first | ((first | refine Ob.a ?_ | refine Sp.tt ?_ | refine Sp.ff ?_ | refine Sp.yes ?_ | refine Sp.no ?_ | refine Sp.nyes ?_ | refine Sp.nno ?_ | refine Fi.a ?_);conv=>whnf) | ((first | refine Sp.ne ?_ ?_ | refine Sp.dec ?_ ?_ | refine Sp.ndec ?_ ?_ | refine Sp.mk ?_ ?_) <;> intro hc <;> conv => whnf) | (apply Cl.go;(conv=>whnf); (first | refine Ob.call (hO) ?_);(conv=>whnf)) | (refine Ob.b ?_;conv=>whnf)
  all_goals first | exact Lf | (exfalso; omega)
def opnR (F : List (List Int)) (bad : List Int) (lot : Int) : Res := .cs true 3 fun j => .d ([rowsD F, ints bad, int lot].getD j .top)
set_option maxHeartbeats 8000000 in
theorem opened_spec (F : List (List Int)) (hs : SmallM F) (bad : List Int) (hbl : bad.length < 1000000) (lot : Int) (h : BadOk F bad lot) : FnN Try.prog 69 [mixD F, ints bad, int lot] (opnR F bad lot) netY := by
 have h0 : nodeE F [lot] = 0 := nodeE_ok.2 ⟨h.mix, fun x hx => by rw [List.mem_singleton.1 hx]; exact ⟨h.l0, h.l1⟩⟩
 have hO := open_spec F hs [lot] (by simp) h0
 have hx0 := h.l0
 have hx1 := h.l1
 have hl10 := h.mix.l10
 have hR := rising_spec bad F.length hbl (by omega)
 have hS := sack_spec F hs nilS 0 lot hx0 hx1
 have hB := sacks_spec F hs nilS 0 bad (fun x hx => h.ris.1 x hx) hbl
 rw [decide_eq_true h.ris] at hR
 rw [show sackB F lot.toNat = false from decide_eq_false h.ne] at hS
 rw [decide_eq_true h.sk] at hB
 clear h h0
 refine FnN.of_ex (cuts := []) tys hM Try.func69 rfl Try.call69 rfl ?_
 show exC Try.prog T [] _ false none 0 (entry 48 [mixD F, ints bad, int lot]) (finG T 0 [ResultVar.tmp 6, ResultVar.tmp 7] _ _)
 conv => whnf
 repeat' first | ((first | refine Ob.a ?_ | refine Sp.tt ?_ | refine Sp.ff ?_ | refine Sp.yes ?_ | refine Sp.no ?_ | refine Sp.nyes ?_ | refine Sp.nno ?_ | refine Fi.a ?_);conv=>whnf) | ((first | refine Sp.ne ?_ ?_ | refine Sp.dec ?_ ?_ | refine Sp.ndec ?_ ?_ | refine Sp.mk ?_ ?_) <;> intro hc <;> conv => whnf) | (apply Cl.nw;(conv=>whnf); (first | (refine Ob.nwX (hO) ?_ ?_ ?_;(focus exact Lf); (focus exact Lf)));(conv=>whnf)) | (apply Cl.go;(conv=>whnf); (first | refine Ob.call (hR) ?_ | refine Ob.call (hS) ?_ | refine Ob.call (hB) ?_);(conv=>whnf)) | (refine Ob.b ?_;conv=>whnf)
 all_goals first | exact Lf | (exfalso; omega) | (rename_i hq; exact absurd rfl hq)
end Go.Px.Try

/-! Tp12 -/
namespace Go.Px.Try
open Go Go.Proofs Go.Px
set_option maxRecDepth 100000
section
variable {F : List (List Int)} {bad : List Int} {lot : Int} (hk : BadOk F bad lot) {W : List Int} (hWl : lot ∉ W)
include hk hWl
theorem ways_inv (most : Nat) : WInv F lot.toNat (gOf (flowN F (inZ bad) (inZ W) lot.toNat (fdN F (inZ bad) (inZ W) lot.toNat most 0))) (sOf (flowN F (inZ bad) (inZ W) lot.toNat (fdN F (inZ bad) (inZ W) lot.toNat most 0))) (fdN F (inZ bad) (inZ W) lot.toNat most 0)
  (waysGo F (gOf (flowN F (inZ bad) (inZ W) lot.toNat (fdN F (inZ bad) (inZ W) lot.toNat most 0))) (sOf (flowN F (inZ bad) (inZ W) lot.toNat (fdN F (inZ bad) (inZ W) lot.toNat most 0))) lot.toNat (fdN F (inZ bad) (inZ W) lot.toNat most 0)).1
  (waysGo F (gOf (flowN F (inZ bad) (inZ W) lot.toNat (fdN F (inZ bad) (inZ W) lot.toNat most 0))) (sOf (flowN F (inZ bad) (inZ W) lot.toNat (fdN F (inZ bad) (inZ W) lot.toNat most 0))) lot.toNat (fdN F (inZ bad) (inZ W) lot.toNat most 0)).2 := by
 have hm := hk.mix
 have hlt : lot.toNat < F.length := by have := hk.l0; have := hk.l1; omega
 have hbad : ∀ i, inZ bad i = true → frm F i = [] := fun i hi => hk.sk i (of_decide_eq_true hi)
 have hWf : inZ W lot.toNat = false := decide_eq_false (by rw [Int.toNat_of_nonneg hk.l0]; exact hWl)
 obtain ⟨h1, _⟩ := fdN_spec hm hlt hk.ne hbad hWf most 0 fun j hj => by omega
 have hf := flowN_ok hm hlt hk.ne hbad _ h1
 have hbl := bad_lot hm hlt hk.ne hbad
 have hG := fg_of hm hf hlt hbl
 refine ways_ok hm hG hlt ?_ _ (Nat.le_refl _)
 cases e : sOf (flowN F (inZ bad) (inZ W) lot.toNat (fdN F (inZ bad) (inZ W) lot.toNat most 0)) lot.toNat with
 | false => rfl
 | true => rw [hG.se e] at hbl; cases hbl
theorem ways_len (most : Nat) : (waysL F bad W lot most).length = fdN F (inZ bad) (inZ W) lot.toNat most 0 := by
 unfold waysL
 rw [List.length_map, (ways_inv hk hWl most).len]
theorem ways_one : 0 < (waysL F bad W lot 1).length ↔ fr F (inZ bad) (inZ W) lot.toNat = true := by
 rw [ways_len hk hWl]
 have hlt : lot.toNat < F.length := by have := hk.l0; have := hk.l1; omega
 exact fd_one hk.mix hlt hk.ne (fun i hi => hk.sk i (of_decide_eq_true hi)) (decide_eq_false (by rw [Int.toNat_of_nonneg hk.l0]; exact hWl))
end
set_option maxHeartbeats 8000000 in
theorem CheckCutP_spec (F : List (List Int)) (hs : SmallM F) (bad : List Int) (hbl : bad.length < 1000000) (lot : Int) (cut : List Int) (hcl : cut.length < 1000000) : Fn Try.prog 33 [mixD F, ints bad, int lot, ints cut] (int (checkCutR F bad lot cut)) := by
 unfold checkCutR
 by_cases h0 : badE F bad lot = 0
 ·have hk := badE_ok.1 h0
  have hO := opened_spec F hs bad hbl lot hk
  have hl10 := hk.mix.l10
  have hR := rising_spec cut F.length hcl (by omega)
  have hC := contains_spec cut lot hcl
  rw [if_neg (by simp [h0])]
  by_cases h1 : rsL cut F.length
  ·rw [decide_eq_true h1] at hR
   by_cases h2 : lot ∈ cut
   ·rw [if_pos (.inr h2)]
    rw [decide_eq_true h2] at hC
    clear h0
    refine Fn.of_ex (cuts := []) tys hM Try.func33 rfl Try.call33 rfl ?_
    show exC Try.prog T [] _ false none 0 (entry 40 [mixD F, ints bad, int lot, ints cut]) (finQ T [ResultVar.tmp 8] _)
    conv => whnf
    repeat' first | ((first | refine Ob.a ?_ | refine Sp.tt ?_ | refine Sp.ff ?_ | refine Sp.yes ?_ | refine Sp.no ?_ | refine Sp.nyes ?_ | refine Sp.nno ?_ | refine Fi.a ?_);conv=>whnf) | ((first | refine Sp.ne ?_ ?_ | refine Sp.dec ?_ ?_ | refine Sp.ndec ?_ ?_ | refine Sp.mk ?_ ?_) <;> intro hc <;> conv => whnf) | (apply Cl.nw;(conv=>whnf); (first | (refine Ob.nwX (hO) ?_ ?_ ?_;(focus exact Lf); (focus exact Lf)));(conv=>whnf)) | (apply Cl.go;(conv=>whnf); (first | refine Ob.call (hR) ?_ | refine Ob.call (hC) ?_);(conv=>whnf)) | (refine Ob.b ?_;conv=>whnf)
    all_goals first | exact Lf | (exfalso; omega) | (rename_i hq; exact absurd rfl hq)
   ·rw [if_neg fun h => h.elim (fun h => h h1) h2]
    rw [decide_eq_false h2] at hC
    have hW := ways_spec F hs bad lot hk hbl cut hcl h2 1 (by omega)
    have h3 := ways_one hk h2
    generalize waysL F bad cut lot 1 = ws at *
    have hr : (if fr F (inZ bad) (inZ cut) lot.toNat = true then (26 : Int) else 0) = if 0 < (ws.length : Int) then 26 else 0 := by
     by_cases h : fr F (inZ bad) (inZ cut) lot.toNat = true
     ·rw [if_pos h, if_pos (by have := h3.2 h; omega)]
     ·rw [if_neg h, if_neg (fun h4 => h (h3.1 (by omega)))]
    rw [hr]
    clear h0 h3 hr
    by_cases h5 : 0 < (ws.length : Int)
    ·rw [if_pos h5]
     refine Fn.of_ex (cuts := []) tys hM Try.func33 rfl Try.call33 rfl ?_
     show exC Try.prog T [] _ false none 0 (entry 40 [mixD F, ints bad, int lot, ints cut]) (finQ T [ResultVar.tmp 8] _)
     conv => whnf
     repeat' first | ((first | refine Ob.a ?_ | refine Sp.tt ?_ | refine Sp.ff ?_ | refine Sp.yes ?_ | refine Sp.no ?_ | refine Sp.nyes ?_ | refine Sp.nno ?_ | refine Fi.a ?_);conv=>whnf) | ((first | refine Sp.ne ?_ ?_ | refine Sp.dec ?_ ?_ | refine Sp.ndec ?_ ?_ | refine Sp.mk ?_ ?_) <;> intro hc <;> conv => whnf) | (apply Cl.nw;(conv=>whnf); (first | (refine Ob.nwX (hO) ?_ ?_ ?_;(focus exact Lf); (focus exact Lf)));(conv=>whnf)) | (apply Cl.go;(conv=>whnf); (first | refine Ob.call (hR) ?_ | refine Ob.call (hC) ?_ | refine Ob.call (hW) ?_);(conv=>whnf)) | (refine Ob.b ?_;conv=>whnf)
     all_goals first | exact Lf | (exfalso; omega) | (rename_i hq; exact absurd rfl hq)
    ·rw [if_neg h5]
     refine Fn.of_ex (cuts := []) tys hM Try.func33 rfl Try.call33 rfl ?_
     show exC Try.prog T [] _ false none 0 (entry 40 [mixD F, ints bad, int lot, ints cut]) (finQ T [ResultVar.tmp 8] _)
     conv => whnf
     repeat' first | ((first | refine Ob.a ?_ | refine Sp.tt ?_ | refine Sp.ff ?_ | refine Sp.yes ?_ | refine Sp.no ?_ | refine Sp.nyes ?_ | refine Sp.nno ?_ | refine Fi.a ?_);conv=>whnf) | ((first | refine Sp.ne ?_ ?_ | refine Sp.dec ?_ ?_ | refine Sp.ndec ?_ ?_ | refine Sp.mk ?_ ?_) <;> intro hc <;> conv => whnf) | (apply Cl.nw;(conv=>whnf); (first | (refine Ob.nwX (hO) ?_ ?_ ?_;(focus exact Lf); (focus exact Lf)));(conv=>whnf)) | (apply Cl.go;(conv=>whnf); (first | refine Ob.call (hR) ?_ | refine Ob.call (hC) ?_ | refine Ob.call (hW) ?_);(conv=>whnf)) | (refine Ob.b ?_;conv=>whnf)
     all_goals first | exact Lf | (exfalso; omega) | (rename_i hq; exact absurd rfl hq)
  ·rw [if_pos (.inl h1)]
   rw [decide_eq_false h1] at hR
   clear h0 hC
   refine Fn.of_ex (cuts := []) tys hM Try.func33 rfl Try.call33 rfl ?_
   show exC Try.prog T [] _ false none 0 (entry 40 [mixD F, ints bad, int lot, ints cut]) (finQ T [ResultVar.tmp 8] _)
   conv => whnf
   repeat' first | ((first | refine Ob.a ?_ | refine Sp.tt ?_ | refine Sp.ff ?_ | refine Sp.yes ?_ | refine Sp.no ?_ | refine Sp.nyes ?_ | refine Sp.nno ?_ | refine Fi.a ?_);conv=>whnf) | ((first | refine Sp.ne ?_ ?_ | refine Sp.dec ?_ ?_ | refine Sp.ndec ?_ ?_ | refine Sp.mk ?_ ?_) <;> intro hc <;> conv => whnf) | (apply Cl.nw;(conv=>whnf); (first | (refine Ob.nwX (hO) ?_ ?_ ?_;(focus exact Lf); (focus exact Lf)));(conv=>whnf)) | (apply Cl.go;(conv=>whnf); (first | refine Ob.call (hR) ?_);(conv=>whnf)) | (refine Ob.b ?_;conv=>whnf)
   all_goals first | exact Lf | (exfalso; omega) | (rename_i hq; exact absurd rfl hq)
 ·have hO := opened_err F hs bad hbl lot h0
  rw [if_pos h0]
  generalize badE F bad lot = k at *
  refine Fn.of_ex (cuts := []) tys hM Try.func33 rfl Try.call33 rfl ?_
  show exC Try.prog T [] _ false none 0 (entry 40 [mixD F, ints bad, int lot, ints cut]) (finQ T [ResultVar.tmp 8] _)
  conv => whnf
  repeat' first | ((first | refine Ob.a ?_ | refine Sp.tt ?_ | refine Sp.ff ?_ | refine Sp.yes ?_ | refine Sp.no ?_ | refine Sp.nyes ?_ | refine Sp.nno ?_ | refine Fi.a ?_);conv=>whnf) | ((first | refine Sp.ne ?_ ?_ | refine Sp.dec ?_ ?_ | refine Sp.ndec ?_ ?_ | refine Sp.mk ?_ ?_) <;> intro hc <;> conv => whnf) | (apply Cl.go;(conv=>whnf); (first | refine Ob.call (hO) ?_);(conv=>whnf)) | (refine Ob.b ?_;conv=>whnf)
  all_goals first | exact Lf | (exfalso; omega)
end Go.Px.Try

/-! Tl3 -/
namespace Go.Px.Try
open Go Go.Proofs Go.Px
set_option maxRecDepth 100000
set_option maxHeartbeats 8000000 in
theorem Clone_spec (L : List Int) (h1 : L.length < 1000) : FnF Try.prog 71 [ints L] 3 1 L.length (rowOf int 0 L) (.ms 0 1 0 L.length) := by
 cases hL : L with
 | nil =>
  refine FnF.of_ex (cuts := []) tys hM Try.func71 rfl Try.call71 rfl ?_
  show exC Try.prog T [] _ false none 0 (entry 8 [ints []]) (finG T 0 [ResultVar.tmp 2] _ _)
  conv => whnf
  repeat' first | ((first | refine Ob.a ?_ | refine Sp.tt ?_ | refine Sp.ff ?_ | refine Sp.yes ?_ | refine Sp.no ?_ | refine Sp.nyes ?_ | refine Sp.nno ?_ | refine Fi.a ?_);conv=>whnf) | ((first | refine Sp.ne ?_ ?_ | refine Sp.dec ?_ ?_ | refine Sp.ndec ?_ ?_ | refine Sp.mk ?_ ?_) <;> intro hc <;> conv => whnf) | (refine Uk.mk (fun hn => ?_) ?_ <;> (conv=>whnf)) | (refine Ob.b ?_;conv=>whnf)
  all_goals first | exact Lf | ((conv=>whnf); repeat' first | (refine Edge.fast ?_) | ((conv=>whnf); first | exact True.intro | (refine And.intro ?_ ?_) | exact rfl | exact Nat.le_of_eq (Nat.zero_add _) | exact ImpS.refl _ | ((conv => arg 1; whnf); first | exact ImpS.refl _ | (refine ImpS.nil_eq ?_) | (refine ImpS.vnil_eq ?_) | (refine ImpS.row ?_) | (refine ImpS.rowN ?_ ?_) | (refine ImpS.sl_eq ?_) | (refine ImpS.expl rfl ?_)) | (refine row_snoc' ?_) | exact MImp.refl _ | exact cimp_none | exact cimp_same | exact List.not_mem_nil | exact DImp.refl _) | exact rfl | (refine And.intro ?_ ?_) | exact ImpS.refl _; trace_state)
 | cons a l =>
  rw [← hL]
  have h0 : 0 < L.length := by rw [hL]; exact Nat.succ_pos _
  clear hL
  refine FnF.of_ex (cuts := []) tys hM Try.func71 rfl Try.call71 rfl ?_
  show exC Try.prog T [] _ false none 0 (entry 8 [ints L]) (finG T 0 [ResultVar.tmp 2] _ _)
  conv => whnf
  repeat' first | ((first | refine Ob.a ?_ | refine Sp.tt ?_ | refine Sp.ff ?_ | refine Sp.yes ?_ | refine Sp.no ?_ | refine Sp.nyes ?_ | refine Sp.nno ?_ | refine Fi.a ?_);conv=>whnf) | ((first | refine Sp.ne ?_ ?_ | refine Sp.dec ?_ ?_ | refine Sp.ndec ?_ ?_ | refine Sp.mk ?_ ?_) <;> intro hc <;> conv => whnf) | (refine Uk.mk (fun hn => ?_) ?_ <;> (conv=>whnf)) | (refine Ob.b ?_;conv=>whnf)
  ·exfalso; omega
  ·conv => whnf
   repeat' first | (refine Edge.fast ?_) | ((conv=>whnf); first | exact True.intro | (refine And.intro ?_ ?_) | exact rfl | exact Nat.le_of_eq (Nat.zero_add _) | exact ImpS.refl _ | ((conv => arg 1; whnf); first | exact ImpS.refl _ | (refine ImpS.nil_eq ?_) | (refine ImpS.vnil_eq ?_) | (refine ImpS.row ?_) | (refine ImpS.rowN ?_ ?_) | (refine ImpS.sl_eq ?_) | (refine ImpS.expl rfl ?_)) | (refine row_snoc' ?_) | exact MImp.refl _ | exact cimp_none | exact cimp_same | exact List.not_mem_nil | exact DImp.refl _) | exact rfl | (refine And.intro ?_ ?_) | exact ImpS.refl _
   all_goals first | omega | exact Lf
end Go.Px.Try

/-! Tf8 -/
namespace Go.Px.Try
open Go Go.Proofs Go.Px
set_option maxRecDepth 100000
set_option maxHeartbeats 8000000 in
theorem CutOf_spec (F : List (List Int)) (bad : List Int) (lot : Int) (hk : BadOk F bad lot) (m0 : Nat) (o : List Nat) (h1 : m0 ≤ bad.length) (hbl : bad.length ≤ 1000)
  (hn : ∀ m, m < m0 → grwR F (inZ bad) lot.toNat m F.length [] 0 = none) (hs : grwR F (inZ bad) lot.toNat m0 F.length [] 0 = some o) : Fn Try.prog 73 [mixD F, ints bad, int lot] (ints (zl o)) := by
 have hG := fun (m : Int) (a : 0 ≤ m) (b : m ≤ 1000) => grown_spec F bad lot hk (by omega) m.toNat (by omega) F.length 0 [] (by omega) (by simp) (by simp)
 have hGn := fun (m : Int) (a : 0 ≤ m) (b : m < m0) => hn m.toNat (by omega)
 have hG0 := hG m0 (by omega) (by omega)
 rw [Int.toNat_natCast, hs] at hG0
 have hG1 : ∀ m : Int, 0 ≤ m → m < m0 → Fn Try.prog 95 [mixD F, ints bad, int lot, ints [], int 0, int m] (tpl [.top, bool false]) := fun m a b => by
  have h := hG m a (by omega)
  rw [hGn m a b, Int.toNat_of_nonneg a] at h
  exact h
 have hG2 : Fn Try.prog 95 [mixD F, ints bad, int lot, ints [], int 0, int m0] (tpl [ints (zl o), bool true]) := hG0
 clear hG hGn hG0 hs hn
 generalize zl o = zo at *
 refine Fn.of_ex (cuts := []) tys hM Try.func73 rfl Try.call73 rfl ?_
 show exC Try.prog T [] _ false none 0 (entry 38 [mixD F, ints bad, int lot]) (finQ T [ResultVar.tmp 6] _)
 conv => whnf
 repeat' first | ((first | refine Ob.a ?_ | refine Sp.tt ?_ | refine Sp.ff ?_ | refine Sp.yes ?_ | refine Sp.no ?_ | refine Sp.nyes ?_ | refine Sp.nno ?_ | refine Fi.a ?_);conv=>whnf) | ((first | refine Sp.ne ?_ ?_ | refine Sp.dec ?_ ?_ | refine Sp.ndec ?_ ?_ | refine Sp.mk ?_ ?_) <;> intro hc <;> conv => whnf) | (refine Ob.b ?_;conv=>whnf)
 refine Lp.snap [0, 1, 2, 3, 10, 28, 29, 30, 31, 32, 33, 34, 35, 36, 37] 40 ?_
 (conv=>whnf)
 refine LpB.go 38 ({m : Int // 0 ≤ m ∧ m ≤ m0}) 0 (fun ⟨m, _⟩ nx => ([(7, .d (int m))], [])) (fun p => (m0 - p.1).toNat) (⟨0, by omega, by omega⟩) ?_ ?_
 ·rintro ⟨m, a0, a1⟩
  by_cases hm : m < m0
  ·have hG1 := hG1 m a0 hm
   conv => whnf
   repeat' first | ((first | refine Ob.a ?_ | refine Sp.tt ?_ | refine Sp.ff ?_ | refine Sp.yes ?_ | refine Sp.no ?_ | refine Sp.nyes ?_ | refine Sp.nno ?_ | refine Fi.a ?_);conv=>whnf) | ((first | refine Sp.ne ?_ ?_ | refine Sp.dec ?_ ?_ | refine Sp.ndec ?_ ?_ | refine Sp.mk ?_ ?_) <;> intro hc <;> conv => whnf) | (apply Cl.go;(conv=>whnf); (first | refine Ob.call (hG1) ?_);(conv=>whnf)) | (refine Ob.b ?_;conv=>whnf)
   all_goals first | exact ⟨rfl, ⟨m + 1, by omega, by omega⟩, Lf, by simp only; omega⟩ | (exfalso; omega)
  ·have e : m = m0 := by omega
   subst e
   by_cases hb : m0 < bad.length
   ·conv => whnf
    repeat' first | ((first | refine Ob.a ?_ | refine Sp.tt ?_ | refine Sp.ff ?_ | refine Sp.yes ?_ | refine Sp.no ?_ | refine Sp.nyes ?_ | refine Sp.nno ?_ | refine Fi.a ?_);conv=>whnf) | ((first | refine Sp.ne ?_ ?_ | refine Sp.dec ?_ ?_ | refine Sp.ndec ?_ ?_ | refine Sp.mk ?_ ?_) <;> intro hc <;> conv => whnf) | (apply Cl.go;(conv=>whnf); (first | refine Ob.call (hG2) ?_);(conv=>whnf)) | (refine Ob.b ?_;conv=>whnf)
    all_goals first | exact Lf | (exfalso; omega)
   ·have e2 : (bad.length : Int) = m0 := by omega
    rw [← e2] at hG2
    conv => whnf
    repeat' first | ((first | refine Ob.a ?_ | refine Sp.tt ?_ | refine Sp.ff ?_ | refine Sp.yes ?_ | refine Sp.no ?_ | refine Sp.nyes ?_ | refine Sp.nno ?_ | refine Fi.a ?_);conv=>whnf) | ((first | refine Sp.ne ?_ ?_ | refine Sp.dec ?_ ?_ | refine Sp.ndec ?_ ?_ | refine Sp.mk ?_ ?_) <;> intro hc <;> conv => whnf) | (apply Cl.go;(conv=>whnf); (first | refine Ob.call (hG2) ?_);(conv=>whnf)) | (refine Ob.b ?_;conv=>whnf)
    all_goals first | exact Lf | (exfalso; omega)
 ·exact Lf
set_option maxHeartbeats 4000000 in
theorem Cut_spec (F : List (List Int)) (hs : SmallM F) (bad : List Int) (lot : Int) (hbl : bad.length ≤ 1000) (c : List Int) (hc : BadOk F bad lot → Fn Try.prog 73 [mixD F, ints bad, int lot] (ints c)) :
  Fn Try.prog 32 [mixD F, ints bad, int lot] (tpl [ints (if badE F bad lot = 0 then c else []), int (badE F bad lot)]) := by
 have hE := BadError_spec F hs bad (by omega) lot
 by_cases h0 : badE F bad lot = 0
 ·have hc := hc (badE_ok.1 h0)
  rw [if_pos h0]
  rw [h0] at hE ⊢
  refine Fn.of_ex (cuts := []) tys hM Try.func32 rfl Try.call32 rfl ?_
  show exC Try.prog T [] _ false none 0 (entry 21 [mixD F, ints bad, int lot]) (finQ T [ResultVar.tmp 6, ResultVar.tmp 7] _)
  conv => whnf
  repeat' first | ((first | refine Ob.a ?_ | refine Sp.tt ?_ | refine Sp.ff ?_ | refine Sp.yes ?_ | refine Sp.no ?_ | refine Sp.nyes ?_ | refine Sp.nno ?_ | refine Fi.a ?_);conv=>whnf) | ((first | refine Sp.ne ?_ ?_ | refine Sp.dec ?_ ?_ | refine Sp.ndec ?_ ?_ | refine Sp.mk ?_ ?_) <;> intro hc <;> conv => whnf) | (apply Cl.go;(conv=>whnf); (first | refine Ob.call (hE) ?_ | refine Ob.call (hc) ?_);(conv=>whnf)) | (refine Ob.b ?_;conv=>whnf)
  all_goals first | exact Lf | (exfalso; omega) | (rename_i hq; exact absurd rfl hq)
 ·rw [if_neg h0]
  generalize badE F bad lot = k at *
  refine Fn.of_ex (cuts := []) tys hM Try.func32 rfl Try.call32 rfl ?_
  show exC Try.prog T [] _ false none 0 (entry 21 [mixD F, ints bad, int lot]) (finQ T [ResultVar.tmp 6, ResultVar.tmp 7] _)
  conv => whnf
  repeat' first | ((first | refine Ob.a ?_ | refine Sp.tt ?_ | refine Sp.ff ?_ | refine Sp.yes ?_ | refine Sp.no ?_ | refine Sp.nyes ?_ | refine Sp.nno ?_ | refine Fi.a ?_);conv=>whnf) | ((first | refine Sp.ne ?_ ?_ | refine Sp.dec ?_ ?_ | refine Sp.ndec ?_ ?_ | refine Sp.mk ?_ ?_) <;> intro hc <;> conv => whnf) | (apply Cl.go;(conv=>whnf); (first | refine Ob.call (hE) ?_);(conv=>whnf)) | (refine Ob.b ?_;conv=>whnf)
  all_goals first | exact Lf | (exfalso; omega)
/-- Each of a list, up to one, comes of the one before. -/
def WayTo (F : List (List Int)) (w : List Int) (k : Nat) : Prop := ∀ j, 1 ≤ j → j < k → (0 ≤ w.getD j 0 ∧ w.getD j 0 < (F.length : Int)) ∧ w.getD (j - 1) 0 ∈ F.getD (w.getD j 0).toNat []
instance (F : List (List Int)) (w : List Int) (k : Nat) : Decidable (WayTo F w k) :=
 decidable_of_iff (∀ j, j < k → 1 ≤ j → (0 ≤ w.getD j 0 ∧ w.getD j 0 < (F.length : Int)) ∧ w.getD (j - 1) 0 ∈ F.getD (w.getD j 0).toNat []) ⟨fun h j a b => h j b a, fun h j a b => h j b a⟩
def IsWayP (F : List (List Int)) (bad : List Int) (lot : Int) (w : List Int) : Prop := 2 ≤ w.length ∧ w.getD 0 0 ∈ bad ∧ w.getD (w.length - 1) 0 = lot ∧ WayTo F w w.length
instance (F : List (List Int)) (bad : List Int) (lot : Int) (w : List Int) : Decidable (IsWayP F bad lot w) := by unfold IsWayP; exact inferInstance
set_option maxHeartbeats 8000000 in
theorem IsWay_spec (F : List (List Int)) (hm : MixOk F) (bad : List Int) (hbl : bad.length < 1000000) (lot : Int) (w : List Int) (hw : w.length < 1000000) :
  Fn Try.prog 78 [mixD F, ints bad, int lot, ints w] (bool (decide (IsWayP F bad lot w))) := by
 have hl10 := hm.l10
 refine Fn.hide (D := fun r : Bool => bool r) fun r hr => ?_
 have h0 : ¬ IsWayP F bad lot w → r = false := fun h => by rw [← hr.h]; exact decide_eq_false h
 have h1 : IsWayP F bad lot w → r = true := fun h => by rw [← hr.h]; exact decide_eq_true h
 clear hr
 by_cases c1 : 2 ≤ (w.length : Int)
 ·have hH := Has_spec bad (w.getD 0 0) hbl
  by_cases c2 : w.getD 0 0 ∈ bad
  ·rw [decide_eq_true c2] at hH
   by_cases c3 : w.getD (w.length - 1) 0 = lot
   ·have c3' : w.getD ((w.length : Int) - 1).toNat 0 = lot := by rw [show ((w.length : Int) - 1).toNat = w.length - 1 by omega]; exact c3
    have f0 : ∀ i : Int, 1 ≤ i → i < w.length → ¬ ((0 ≤ w.getD i.toNat 0 ∧ w.getD i.toNat 0 < F.length) ∧ w.getD (i - 1).toNat 0 ∈ F.getD (w.getD i.toNat 0).toNat []) → r = false := fun i a b h => h0 fun hw' => h (by
     have := hw'.2.2.2 i.toNat (by omega) (by omega)
     rw [show (i - 1).toNat = i.toNat - 1 by omega]; exact this)
    have f1 : WayTo F w w.length → r = true := fun h => h1 ⟨by omega, c2, c3, h⟩
    clear h0 h1
    refine Fn.of_ex (cuts := []) tys hM Try.func78 rfl Try.call78 rfl ?_
    show exC Try.prog T [] _ false none 0 (entry 69 [mixD F, ints bad, int lot, ints w]) (finQ T [ResultVar.tmp 8] _)
    conv => whnf
    repeat' first | ((first | refine Ob.a ?_ | refine Sp.tt ?_ | refine Sp.ff ?_ | refine Sp.yes ?_ | refine Sp.no ?_ | refine Sp.nyes ?_ | refine Sp.nno ?_ | refine Fi.a ?_);conv=>whnf) | ((first | refine Sp.ne ?_ ?_ | refine Sp.dec ?_ ?_ | refine Sp.ndec ?_ ?_ | refine Sp.mk ?_ ?_) <;> intro hc <;> conv => whnf) | (apply Cl.go;(conv=>whnf); (first | refine Ob.call (hH) ?_);(conv=>whnf)) | (refine Ob.b ?_;conv=>whnf)
    all_goals try first | (exfalso; omega) | (rename_i hq; exact absurd c3' hq)
    refine Lp.snap [0, 1, 2, 3, 4, 9] 40 ?_
    (conv=>whnf)
    refine LpB.go 69 ({i : Int // (1 ≤ i ∧ i ≤ w.length) ∧ WayTo F w i.toNat}) 0 (fun ⟨i, _⟩ nx => ([(10, .d (int i))], [])) (fun p => (w.length - p.1).toNat) (⟨1, ⟨by omega, by omega⟩, fun j a b => by have : (1 : Int).toNat = 1 := rfl; omega⟩) ?_ ?_
    ·rintro ⟨i, ⟨i0, i1⟩, hinv⟩
     by_cases hi : i < w.length
     ·have f0 := f0 i i0 hi
      by_cases d1 : 0 ≤ w.getD i.toNat 0 ∧ w.getD i.toNat 0 < F.length
      ·have hfl := frm_len hm (i := (w.getD i.toNat 0).toNat) (by omega)
       change (F.getD (w.getD i.toNat 0).toNat []).length ≤ (w.getD i.toNat 0).toNat at hfl
       have hH2 := Has_spec (F.getD (w.getD i.toNat 0).toNat []) (w.getD (i - 1).toNat 0) (by omega)
       by_cases d2 : w.getD (i - 1).toNat 0 ∈ F.getD (w.getD i.toNat 0).toNat []
       ·rw [decide_eq_true d2] at hH2
        have e : WayTo F w (i + 1).toNat := fun j a b => by
         by_cases e : j < i.toNat
         ·exact hinv j a e
         ·obtain rfl : j = i.toNat := by omega
          rw [show i.toNat - 1 = (i - 1).toNat by omega]; exact ⟨d1, d2⟩
        clear f0 f1 hH
        conv => whnf
        repeat' first | ((first | refine Ob.a ?_ | refine Sp.tt ?_ | refine Sp.ff ?_ | refine Sp.yes ?_ | refine Sp.no ?_ | refine Sp.nyes ?_ | refine Sp.nno ?_ | refine Fi.a ?_);conv=>whnf) | ((first | refine Sp.ne ?_ ?_ | refine Sp.dec ?_ ?_ | refine Sp.ndec ?_ ?_ | refine Sp.mk ?_ ?_) <;> intro hc <;> conv => whnf) | (apply Cl.go;(conv=>whnf); (first | refine Ob.call (hH2) ?_);(conv=>whnf)) | (refine Ob.b ?_;conv=>whnf)
        all_goals first | exact ⟨rfl, ⟨i + 1, ⟨by omega, by omega⟩, e⟩, Lf, by simp only; omega⟩ | (exfalso; omega)
       ·rw [decide_eq_false d2] at hH2
        have e := f0 fun h => d2 h.2
        clear f0 f1 hH
        conv => whnf
        repeat' first | ((first | refine Ob.a ?_ | refine Sp.tt ?_ | refine Sp.ff ?_ | refine Sp.yes ?_ | refine Sp.no ?_ | refine Sp.nyes ?_ | refine Sp.nno ?_ | refine Fi.a ?_);conv=>whnf) | ((first | refine Sp.ne ?_ ?_ | refine Sp.dec ?_ ?_ | refine Sp.ndec ?_ ?_ | refine Sp.mk ?_ ?_) <;> intro hc <;> conv => whnf) | (apply Cl.go;(conv=>whnf); (first | refine Ob.call (hH2) ?_);(conv=>whnf)) | (refine Ob.b ?_;conv=>whnf)
        all_goals first | exact Lf | (exfalso; omega)
      ·have e := f0 fun h => d1 h.1
       clear f0 f1 hH
       conv => whnf
       repeat' first | ((first | refine Ob.a ?_ | refine Sp.tt ?_ | refine Sp.ff ?_ | refine Sp.yes ?_ | refine Sp.no ?_ | refine Sp.nyes ?_ | refine Sp.nno ?_ | refine Fi.a ?_);conv=>whnf) | ((first | refine Sp.ne ?_ ?_ | refine Sp.dec ?_ ?_ | refine Sp.ndec ?_ ?_ | refine Sp.mk ?_ ?_) <;> intro hc <;> conv => whnf) | (refine Ob.b ?_;conv=>whnf)
       all_goals first | exact Lf | (exfalso; omega)
     ·have e := f1 (by rw [show w.length = i.toNat by omega]; exact hinv)
      conv => whnf
      repeat' first | ((first | refine Ob.a ?_ | refine Sp.tt ?_ | refine Sp.ff ?_ | refine Sp.yes ?_ | refine Sp.no ?_ | refine Sp.nyes ?_ | refine Sp.nno ?_ | refine Fi.a ?_);conv=>whnf) | ((first | refine Sp.ne ?_ ?_ | refine Sp.dec ?_ ?_ | refine Sp.ndec ?_ ?_ | refine Sp.mk ?_ ?_) <;> intro hc <;> conv => whnf) | (refine Ob.b ?_;conv=>whnf)
      exact Lf
    ·exact Lf
   ·have e := h0 fun h => c3 h.2.2.1
    have c3' : ¬ w.getD ((w.length : Int) - 1).toNat 0 = lot := by rw [show ((w.length : Int) - 1).toNat = w.length - 1 by omega]; exact c3
    clear h0 h1
    refine Fn.of_ex (cuts := []) tys hM Try.func78 rfl Try.call78 rfl ?_
    show exC Try.prog T [] _ false none 0 (entry 69 [mixD F, ints bad, int lot, ints w]) (finQ T [ResultVar.tmp 8] _)
    conv => whnf
    repeat' first | ((first | refine Ob.a ?_ | refine Sp.tt ?_ | refine Sp.ff ?_ | refine Sp.yes ?_ | refine Sp.no ?_ | refine Sp.nyes ?_ | refine Sp.nno ?_ | refine Fi.a ?_);conv=>whnf) | ((first | refine Sp.ne ?_ ?_ | refine Sp.dec ?_ ?_ | refine Sp.ndec ?_ ?_ | refine Sp.mk ?_ ?_) <;> intro hc <;> conv => whnf) | (apply Cl.go;(conv=>whnf); (first | refine Ob.call (hH) ?_);(conv=>whnf)) | (refine Ob.b ?_;conv=>whnf)
    all_goals first | exact Lf | (exfalso; omega) | (rename_i hq; exact absurd hq c3')
  ·rw [decide_eq_false c2] at hH
   have e := h0 fun h => c2 h.2.1
   clear h0 h1
   refine Fn.of_ex (cuts := []) tys hM Try.func78 rfl Try.call78 rfl ?_
   show exC Try.prog T [] _ false none 0 (entry 69 [mixD F, ints bad, int lot, ints w]) (finQ T [ResultVar.tmp 8] _)
   conv => whnf
   repeat' first | ((first | refine Ob.a ?_ | refine Sp.tt ?_ | refine Sp.ff ?_ | refine Sp.yes ?_ | refine Sp.no ?_ | refine Sp.nyes ?_ | refine Sp.nno ?_ | refine Fi.a ?_);conv=>whnf) | ((first | refine Sp.ne ?_ ?_ | refine Sp.dec ?_ ?_ | refine Sp.ndec ?_ ?_ | refine Sp.mk ?_ ?_) <;> intro hc <;> conv => whnf) | (apply Cl.go;(conv=>whnf); (first | refine Ob.call (hH) ?_);(conv=>whnf)) | (refine Ob.b ?_;conv=>whnf)
   all_goals first | exact Lf | (exfalso; omega)
 ·have e := h0 fun h => by have := h.1; omega
  clear h0 h1
  refine Fn.of_ex (cuts := []) tys hM Try.func78 rfl Try.call78 rfl ?_
  show exC Try.prog T [] _ false none 0 (entry 69 [mixD F, ints bad, int lot, ints w]) (finQ T [ResultVar.tmp 8] _)
  conv => whnf
  repeat' first | ((first | refine Ob.a ?_ | refine Sp.tt ?_ | refine Sp.ff ?_ | refine Sp.yes ?_ | refine Sp.no ?_ | refine Sp.nyes ?_ | refine Sp.nno ?_ | refine Fi.a ?_);conv=>whnf) | ((first | refine Sp.ne ?_ ?_ | refine Sp.dec ?_ ?_ | refine Sp.ndec ?_ ?_ | refine Sp.mk ?_ ?_) <;> intro hc <;> conv => whnf) | (refine Ob.b ?_;conv=>whnf)
  all_goals first | exact Lf | (exfalso; omega)
end Go.Px.Try
