/- Texts of this proof, joined (Tp13, Tf9, Tp14, Tp15, Tp16, Tq1, Tm13, Tm14, Tf10, Tp17, Tf11, Tp18, Tf5, Tm15, PxSo, Srt, Tp19, Law1): a small program logic over the model, and what functions of the program give. No statement of the seat is proved here. -/
import Derived.Test.YtbgpdcbljjdjnaaJ5
import Derived.Test.YtbgpdcbljjdjnaaJ4
import Derived.Test.YtbgpdcbljjdjnaaJ3
import Derived.Shelf.Sort.Plain
import Derived.Shelf.Slices.In.SortNone
set_option linter.unusedVariables false
set_option linter.unusedSimpArgs false

/-! Tp13 -/
namespace Go.Px.Try
open Go Go.Proofs Go.Px
set_option maxRecDepth 100000
theorem grdy_mem {lam : (Nat → Bool) → Nat} {lot m : Nat} : ∀ i, (∀ k ∈ (grdy lam lot m i).1, k < i ∧ k ≠ lot) ∧ (grdy lam lot m i).1.length ≤ i
 | 0 => ⟨fun k h => (by cases h), Nat.le_refl _⟩
 | i + 1 => by
  obtain ⟨h1, h2⟩ := grdy_mem (lam := lam) (lot := lot) (m := m) i
  rw [grdy]
  split
  ·exact ⟨fun k h => ⟨by have := h1 k h; omega, (h1 k h).2⟩, by omega⟩
  ·split
   ·rename_i h3
    refine ⟨fun k h => ?_, by simp only [List.length_append, List.length_singleton]; omega⟩
    rcases List.mem_append.1 h with h | h
    ·exact ⟨by have := h1 k h; omega, (h1 k h).2⟩
    ·rw [List.mem_singleton.1 h]; exact ⟨by omega, h3.1⟩
   ·exact ⟨fun k h => ⟨by have := h1 k h; omega, (h1 k h).2⟩, by omega⟩
theorem grdy_stop {lam : (Nat → Bool) → Nat} {lot m i : Nat} (h : (grdy lam lot m i).2 = 0) : ∀ k, grdy lam lot m (i + k) = grdy lam lot m i
 | 0 => rfl
 | k + 1 => by
  have := grdy_stop h k
  show grdy lam lot m (i + k + 1) = _
  rw [grdy, this, if_pos h]
theorem grdy_le {lam : (Nat → Bool) → Nat} {lot m : Nat} : ∀ i, (grdy lam lot m i).2 ≤ m
 | 0 => Nat.le_refl _
 | i + 1 => by
  have := grdy_le (lam := lam) (lot := lot) (m := m) i
  rw [grdy]
  split
  ·exact this
  ·split
   ·show (grdy lam lot m i).2 - 1 ≤ m
    omega
   ·exact this
/-- The cut that the program gives. -/
def cutP (F : List (List Int)) (bad : List Int) (lot : Int) : List Nat := (grdy (lamW F (inZ bad) lot.toNat) lot.toNat (lamW F (inZ bad) lot.toNat (inZ [])) F.length).1
theorem nil_inZ : inZ [] = fun _ => false := funext fun i => decide_eq_false (by simp)
/-- A list of whole numbers that has grown at its end, read. -/
theorem ImpS.snocN {t : Bool} {n m : Nat} {l : List Int} {x : Int} {g : Nat → DV} (hn : n = l.length) (hm : m = n + 1) (h : g 0 = int x) : ImpS (.sl t 1 m fun i => apd n (rowOf int 0 l) g (0 + i)) (ints (l ++ [x])) := by
 subst hn; subst hm
 refine ⟨Imp.sl (fun e => by cases e) (by simp) fun j hj => Imp.of_eq ?_⟩
 show apd l.length (rowOf int 0 l) g (0 + j) = int ((l ++ [x]).getD j 0)
 rw [Nat.zero_add]
 unfold apd
 by_cases e : j < l.length
 ·rw [if_pos e, List.getD_eq_getElem?_getD, List.getElem?_append_left e, ← List.getD_eq_getElem?_getD]; rfl
 ·have e2 : j = l.length := by omega
  subst e2
  rw [if_neg e, Nat.sub_self, h, List.getD_eq_getElem?_getD, List.getElem?_append_right (Nat.le_refl _)]
  simp
theorem znF_snoc {n : Nat} {l : List Nat} {i : Nat} {g : Nat → DV} (hn : n = l.length) (h : CImp (g 0) (int i)) : ∀ j, j < n + 1 → CImp (apd n (rowOf int 0 (zl l)) g j) (znF (l ++ [i]) j) := by
 subst hn
 have h1 := row_snoc' (enc := int) (d := 0) (l := zl l) (x := (i : Int)) h
 rw [List.length_append, zl_len] at h1
 unfold znF
 rw [zl_snoc]
 exact h1
set_option maxHeartbeats 16000000 in
theorem CutP_spec (F : List (List Int)) (hs : SmallM F) (bad : List Int) (hbl : bad.length < 1000000) (lot : Int) : Fn Try.prog 31 [mixD F, ints bad, int lot] (tpl [ints (if badE F bad lot = 0 then zl (cutP F bad lot) else []), int (badE F bad lot)]) := by
 by_cases h0 : badE F bad lot = 0
 ·have hk := badE_ok.1 h0
  have hO := opened_spec F hs bad hbl lot hk
  have hl10 := hk.mix.l10
  have l0 := hk.l0
  have l1 := hk.l1
  rw [if_pos h0, h0]
  have hW := fun (W : List Int) (h1 : W.length < 1000000) (h2 : lot ∉ W) => ways_spec F hs bad lot hk hbl W h1 h2 F.length (by omega)
  have hL := fun (W : List Int) (h2 : lot ∉ W) => ways_len hk h2 F.length
  have hlm : ∀ W : Nat → Bool, fdN F (inZ bad) W lot.toNat F.length 0 = lamW F (inZ bad) lot.toNat W := fun W => rfl
  have hcp : cutP F bad lot = (grdy (lamW F (inZ bad) lot.toNat) lot.toNat (lamW F (inZ bad) lot.toNat (inZ [])) F.length).1 := rfl
  rw [hcp]
  clear h0 hcp
  generalize hwl : waysL F bad = WL at *
  have hW0 := hW [] (by simp) (by simp)
  have hL0 := hL [] (by simp)
  rw [hlm] at hL0
  generalize hm0 : lamW F (inZ bad) lot.toNat (inZ []) = m0 at *
  have hm1 : m0 ≤ F.length := by
   rw [← hm0]
   have hlt : lot.toNat < F.length := by omega
   have hf := fdN_spec hk.mix hlt hk.ne (fun i hi => hk.sk i (of_decide_eq_true hi)) (W := inZ []) (decide_eq_false (by simp)) F.length 0 fun j hj => by omega
   have h2 := flowN_ok hk.mix hlt hk.ne (fun i hi => hk.sk i (of_decide_eq_true hi)) (W := inZ []) _ hf.1
   have := flow_le hk.mix hlt hk.ne (fun i hi => hk.sk i (of_decide_eq_true hi)) (decide_eq_false (by simp)) h2
   exact this
  have hGm := grdy_mem (lam := lamW F (inZ bad) lot.toNat) (lot := lot.toNat) (m := m0)
  have hGl := grdy_le (lam := lamW F (inZ bad) lot.toNat) (lot := lot.toNat) (m := m0)
  have hGs : ∀ i, i ≤ F.length → (grdy (lamW F (inZ bad) lot.toNat) lot.toNat m0 i).2 = 0 → grdy (lamW F (inZ bad) lot.toNat) lot.toNat m0 F.length = grdy (lamW F (inZ bad) lot.toNat) lot.toNat m0 i := fun i hi h => by
   have := grdy_stop h (F.length - i)
   rw [show i + (F.length - i) = F.length by omega] at this
   exact this
  have hGn : ∀ i, grdy (lamW F (inZ bad) lot.toNat) lot.toNat m0 (i + 1) = if (grdy (lamW F (inZ bad) lot.toNat) lot.toNat m0 i).2 = 0 then grdy (lamW F (inZ bad) lot.toNat) lot.toNat m0 i else if i ≠ lot.toNat ∧ lamW F (inZ bad) lot.toNat (inS ((grdy (lamW F (inZ bad) lot.toNat) lot.toNat m0 i).1 ++ [i])) < (grdy (lamW F (inZ bad) lot.toNat) lot.toNat m0 i).2 then ((grdy (lamW F (inZ bad) lot.toNat) lot.toNat m0 i).1 ++ [i], (grdy (lamW F (inZ bad) lot.toNat) lot.toNat m0 i).2 - 1) else grdy (lamW F (inZ bad) lot.toNat) lot.toNat m0 i := fun i => rfl
  have hG0 : grdy (lamW F (inZ bad) lot.toNat) lot.toNat m0 0 = ([], m0) := rfl
  generalize grdy (lamW F (inZ bad) lot.toNat) lot.toNat m0 = G at *
  refine Fn.of_ex (cuts := []) tys hM Try.func31 rfl Try.call31 rfl ?_
  show exC Try.prog T [] _ false none 0 (entry 62 [mixD F, ints bad, int lot]) (finQ T [ResultVar.tmp 6, ResultVar.tmp 7] _)
  conv => whnf
  repeat' first | ((first | refine Ob.a ?_ | refine Sp.tt ?_ | refine Sp.ff ?_ | refine Sp.yes ?_ | refine Sp.no ?_ | refine Sp.nyes ?_ | refine Sp.nno ?_ | refine Fi.a ?_);conv=>whnf) | ((first | refine Sp.ne ?_ ?_ | refine Sp.dec ?_ ?_ | refine Sp.ndec ?_ ?_ | refine Sp.mk ?_ ?_) <;> intro hc <;> conv => whnf) | (apply Cl.nw;(conv=>whnf); (first | (refine Ob.nwX (hO) ?_ ?_ ?_;(focus exact Lf); (focus exact Lf)));(conv=>whnf)) | (apply Cl.go;(conv=>whnf); (first | refine Ob.call (hW0) ?_);(conv=>whnf)) | (refine Ob.b ?_;conv=>whnf)
  all_goals try (exfalso; omega)
  refine Lp.snap [0, 1, 2, 3, 6, 7, 8, 32, 61] 40 ?_
  (conv=>whnf)
  refine LpB.go 62 ({q : Nat × Bool // q.1 ≤ F.length}) 0 (fun ⟨(i, b), _⟩ nx => ([(33, .d (int i)), (10, .ms 14 1 0 (G i).1.length), (11, .d (int (G i).2))], [(14, .row b 3 1 (G i).1.length (znF (G i).1))])) (fun p => F.length - p.1.1) (⟨(0, true), by simp⟩) ?_ ?_
  ·rintro ⟨⟨i, b⟩, hi⟩
   simp only at hi
   have hg := hGm i
   have hgl := hGl i
   have hgn := hGn i
   by_cases hi2 : i < F.length
   ·by_cases hl : (G i).2 = 0
    ·have e := hGs i hi hl
     rw [e]
     have hlz := zl_len (G i).1
     have hl2 : ((G i).2 : Int) = 0 := by omega
     conv => whnf
     repeat' first | ((first | refine Ob.a ?_ | refine Sp.tt ?_ | refine Sp.ff ?_ | refine Sp.yes ?_ | refine Sp.no ?_ | refine Sp.nyes ?_ | refine Sp.nno ?_ | refine Fi.a ?_);conv=>whnf) | ((first | refine Sp.ne ?_ ?_ | refine Sp.dec ?_ ?_ | refine Sp.ndec ?_ ?_ | refine Sp.mk ?_ ?_) <;> intro hc <;> conv => whnf) | (refine Ob.b ?_;conv=>whnf)
     all_goals first | (exfalso; omega) | exact Lf
    ·have hgn := hGn i
     rw [if_neg hl] at hgn
     have hlz := zl_len (G i).1
     have hC := Clone_spec (zl (G i).1) (by omega)
     rw [hlz] at hC
     by_cases hil : (i : Int) = lot
     ·rw [if_neg fun h => h.1 (by omega)] at hgn
      conv => whnf
      repeat' first | ((first | refine Ob.a ?_ | refine Sp.tt ?_ | refine Sp.ff ?_ | refine Sp.yes ?_ | refine Sp.no ?_ | refine Sp.nyes ?_ | refine Sp.nno ?_ | refine Fi.a ?_);conv=>whnf) | ((first | refine Sp.ne ?_ ?_ | refine Sp.dec ?_ ?_ | refine Sp.ndec ?_ ?_ | refine Sp.mk ?_ ?_) <;> intro hc <;> conv => whnf) | (apply Cl.fr;(conv=>whnf); (first | (refine Ob.frX (hC) ?_ ?_ ?_;(focus exact Lf); (focus exact Lf)));(conv=>whnf)) | (refine Ob.b ?_;conv=>whnf)
      all_goals try (exfalso; omega)
      all_goals (refine ⟨rfl, ⟨(i + 1, false), hi2⟩, ?_, by simp only; omega⟩;(conv=>whnf); repeat' first | (refine Edge.fast ?_) | ((conv=>whnf); first | exact True.intro | (refine And.intro ?_ ?_) | exact rfl | exact Nat.le_of_eq (Nat.zero_add _) | exact ImpS.refl _ | ((conv => arg 1; whnf); first | exact ImpS.refl _ | (refine ImpS.nil_eq ?_) | (refine ImpS.vnil_eq ?_) | (refine ImpS.row ?_) | (refine ImpS.rowN ?_ ?_) | (refine ImpS.sl_eq ?_) | (refine ImpS.expl rfl ?_)) | (refine row_snoc' ?_) | exact MImp.refl _ | exact cimp_none | exact cimp_same | exact List.not_mem_nil | exact DImp.refl _) | exact rfl | (refine And.intro ?_ ?_) | exact ImpS.refl _)
      all_goals first | (rw [hgn]; done) | (rw [hgn]; exact cimp_same) | (simp only [hgn]; done) | (simp only [hgn]; exact cimp_same)
     ·have hnx : lot ∉ zl ((G i).1 ++ [i]) := fun h => by
       rw [zl_snoc] at h
       rcases List.mem_append.1 h with h3 | h3
       ·obtain ⟨k, hk1, hk2⟩ := List.mem_map.1 h3
        have := hg.1 k hk1; omega
       ·have := List.mem_singleton.1 h3; omega
      have hW := hW (zl ((G i).1 ++ [i])) (by rw [zl_len]; simp only [List.length_append, List.length_singleton]; omega) hnx
      have hL := hL (zl ((G i).1 ++ [i])) hnx
      rw [hlm, inZ_zl] at hL
      rw [zl_snoc] at hW hL
      by_cases hlt : lamW F (inZ bad) lot.toNat (inS ((G i).1 ++ [i])) < (G i).2
      ·rw [if_pos ⟨by omega, hlt⟩] at hgn
       rw [← hL] at hlt
       clear hL
       conv => whnf
       repeat' first | ((first | refine Ob.a ?_ | refine Sp.tt ?_ | refine Sp.ff ?_ | refine Sp.yes ?_ | refine Sp.no ?_ | refine Sp.nyes ?_ | refine Sp.nno ?_ | refine Fi.a ?_);conv=>whnf) | ((first | refine Sp.ne ?_ ?_ | refine Sp.dec ?_ ?_ | refine Sp.ndec ?_ ?_ | refine Sp.mk ?_ ?_) <;> intro hc <;> conv => whnf) | (apply Cl.fr;(conv=>whnf); (first | (refine Ob.frX (hC) ?_ ?_ ?_;(focus exact Lf); (focus exact Lf)));(conv=>whnf)) | (refine Ob.b ?_;conv=>whnf)
       all_goals try (exfalso; omega)
       apply Cl.go
       (conv=>whnf)
       refine Ob.fn ?_ ?_ ?_ (hW)
       rotate_left
       all_goals try (repeat' first | (refine Edge.fast ?_) | ((conv=>whnf); first | exact True.intro | (refine And.intro ?_ ?_) | exact rfl | exact Nat.le_of_eq (Nat.zero_add _) | exact ImpS.refl _ | ((conv => arg 1; whnf); first | exact ImpS.refl _ | (refine ImpS.nil_eq ?_) | (refine ImpS.vnil_eq ?_) | (refine ImpS.row ?_) | (refine ImpS.rowN ?_ ?_) | (refine ImpS.sl_eq ?_) | (refine ImpS.expl rfl ?_)) | (refine row_snoc' ?_) | (apply row_upd) | exact cimp_none | exact cimp_same | exact List.not_mem_nil | exact DImp.refl _) | exact rfl | (refine And.intro ?_ ?_) | exact ImpS.refl _)
       all_goals try first | assumption | omega
       ·exact ImpS.snocN hlz.symm rfl rfl
       ·have hg1 : (G (i + 1)).1.length = (G i).1.length + 1 := by rw [hgn]; simp
        have hg2 : ((G (i + 1)).2 : Int) = (G i).2 - 1 := by rw [hgn]; simp only; omega
        have hg3 : ∀ g : Nat → DV, CImp (g 0) (int i) → ∀ j, j < (G (i + 1)).1.length → CImp (apd (G i).1.length (rowOf int 0 (zl (G i).1)) g j) (znF (G (i + 1)).1 j) := fun g h => by rw [hg1, hgn]; exact znF_snoc rfl h
        conv => whnf
        repeat' first | ((first | refine Ob.a ?_ | refine Sp.tt ?_ | refine Sp.ff ?_ | refine Sp.yes ?_ | refine Sp.no ?_ | refine Sp.nyes ?_ | refine Sp.nno ?_ | refine Fi.a ?_);conv=>whnf) | ((first | refine Sp.ne ?_ ?_ | refine Sp.dec ?_ ?_ | refine Sp.ndec ?_ ?_ | refine Sp.mk ?_ ?_) <;> intro hc <;> conv => whnf) | (refine Ob.b ?_;conv=>whnf)
        all_goals try (exfalso; omega)
        all_goals (refine ⟨rfl, ⟨(i + 1, false), hi2⟩, ?_, by simp only; omega⟩;(conv=>whnf); repeat' first | (refine Edge.fast ?_) | ((conv=>whnf); first | exact True.intro | (refine And.intro ?_ ?_) | exact rfl | exact Nat.le_of_eq (Nat.zero_add _) | exact ImpS.refl _ | ((conv => arg 1; whnf); first | exact ImpS.refl _ | (refine ImpS.nil_eq ?_) | (refine ImpS.vnil_eq ?_) | (refine ImpS.row ?_) | (refine ImpS.rowN ?_ ?_) | (refine ImpS.sl_eq ?_) | (refine ImpS.expl rfl ?_)) | (refine row_snoc' ?_) | exact MImp.refl _ | exact cimp_none | exact cimp_same | exact List.not_mem_nil | exact DImp.refl _) | exact rfl | (refine And.intro ?_ ?_) | exact ImpS.refl _)
        all_goals first | exact hg1.symm | omega | exact hg3 _ ⟨rfl, rfl⟩
      ·rw [if_neg fun h => hlt h.2] at hgn
       rw [← hL] at hlt
       clear hL
       conv => whnf
       repeat' first | ((first | refine Ob.a ?_ | refine Sp.tt ?_ | refine Sp.ff ?_ | refine Sp.yes ?_ | refine Sp.no ?_ | refine Sp.nyes ?_ | refine Sp.nno ?_ | refine Fi.a ?_);conv=>whnf) | ((first | refine Sp.ne ?_ ?_ | refine Sp.dec ?_ ?_ | refine Sp.ndec ?_ ?_ | refine Sp.mk ?_ ?_) <;> intro hc <;> conv => whnf) | (apply Cl.fr;(conv=>whnf); (first | (refine Ob.frX (hC) ?_ ?_ ?_;(focus exact Lf); (focus exact Lf)));(conv=>whnf)) | (refine Ob.b ?_;conv=>whnf)
       all_goals try (exfalso; omega)
       apply Cl.go
       (conv=>whnf)
       refine Ob.fn ?_ ?_ ?_ (hW)
       rotate_left
       all_goals try (repeat' first | (refine Edge.fast ?_) | ((conv=>whnf); first | exact True.intro | (refine And.intro ?_ ?_) | exact rfl | exact Nat.le_of_eq (Nat.zero_add _) | exact ImpS.refl _ | ((conv => arg 1; whnf); first | exact ImpS.refl _ | (refine ImpS.nil_eq ?_) | (refine ImpS.vnil_eq ?_) | (refine ImpS.row ?_) | (refine ImpS.rowN ?_ ?_) | (refine ImpS.sl_eq ?_) | (refine ImpS.expl rfl ?_)) | (refine row_snoc' ?_) | (apply row_upd) | exact cimp_none | exact cimp_same | exact List.not_mem_nil | exact DImp.refl _) | exact rfl | (refine And.intro ?_ ?_) | exact ImpS.refl _)
       all_goals try first | assumption | omega
       ·exact ImpS.snocN hlz.symm rfl rfl
       ·conv => whnf
        repeat' first | ((first | refine Ob.a ?_ | refine Sp.tt ?_ | refine Sp.ff ?_ | refine Sp.yes ?_ | refine Sp.no ?_ | refine Sp.nyes ?_ | refine Sp.nno ?_ | refine Fi.a ?_);conv=>whnf) | ((first | refine Sp.ne ?_ ?_ | refine Sp.dec ?_ ?_ | refine Sp.ndec ?_ ?_ | refine Sp.mk ?_ ?_) <;> intro hc <;> conv => whnf) | (refine Ob.b ?_;conv=>whnf)
        all_goals try (exfalso; omega)
        all_goals (refine ⟨rfl, ⟨(i + 1, false), hi2⟩, ?_, by simp only; omega⟩;(conv=>whnf); repeat' first | (refine Edge.fast ?_) | ((conv=>whnf); first | exact True.intro | (refine And.intro ?_ ?_) | exact rfl | exact Nat.le_of_eq (Nat.zero_add _) | exact ImpS.refl _ | ((conv => arg 1; whnf); first | exact ImpS.refl _ | (refine ImpS.nil_eq ?_) | (refine ImpS.vnil_eq ?_) | (refine ImpS.row ?_) | (refine ImpS.rowN ?_ ?_) | (refine ImpS.sl_eq ?_) | (refine ImpS.expl rfl ?_)) | (refine row_snoc' ?_) | exact MImp.refl _ | exact cimp_none | exact cimp_same | exact List.not_mem_nil | exact DImp.refl _) | exact rfl | (refine And.intro ?_ ?_) | exact ImpS.refl _)
        all_goals first | (rw [hgn]; done) | (rw [hgn]; exact cimp_same) | (simp only [hgn]; done) | (simp only [hgn]; exact cimp_same)
   ·obtain rfl : i = F.length := by omega
    have hlz := zl_len (G F.length).1
    conv => whnf
    repeat' first | ((first | refine Ob.a ?_ | refine Sp.tt ?_ | refine Sp.ff ?_ | refine Sp.yes ?_ | refine Sp.no ?_ | refine Sp.nyes ?_ | refine Sp.nno ?_ | refine Fi.a ?_);conv=>whnf) | ((first | refine Sp.ne ?_ ?_ | refine Sp.dec ?_ ?_ | refine Sp.ndec ?_ ?_ | refine Sp.mk ?_ ?_) <;> intro hc <;> conv => whnf) | (refine Ob.b ?_;conv=>whnf)
    all_goals first | (exfalso; omega) | exact Lf
  ·have h1 : (G 0).1.length = 0 := by rw [hG0]; rfl
   have h2 : ((G 0).2 : Int) = ((WL [] lot F.length).length : Int) := by rw [hG0, hL0]
   have h3 : ∀ (f g : Nat → DV) j, j < (G 0).1.length → CImp (f j) (g j) := fun f g j hj => by omega
   conv => whnf
   repeat' first | (refine Edge.fast ?_) | ((conv=>whnf); first | exact True.intro | (refine And.intro ?_ ?_) | exact rfl | exact Nat.le_of_eq (Nat.zero_add _) | exact ImpS.refl _ | ((conv => arg 1; whnf); first | exact ImpS.refl _ | (refine ImpS.nil_eq ?_) | (refine ImpS.vnil_eq ?_) | (refine ImpS.row ?_) | (refine ImpS.rowN ?_ ?_) | (refine ImpS.sl_eq ?_) | (refine ImpS.expl rfl ?_)) | (refine row_snoc' ?_) | exact MImp.refl _ | exact cimp_none | exact cimp_same | exact List.not_mem_nil | exact DImp.refl _) | exact rfl | (refine And.intro ?_ ?_) | exact ImpS.refl _
   all_goals first | exact h1.symm | exact h1 | exact h2.symm | exact h3 _ _ | omega
 ·have hO := opened_err F hs bad hbl lot h0
  rw [if_neg h0]
  generalize badE F bad lot = k at *
  refine Fn.of_ex (cuts := []) tys hM Try.func31 rfl Try.call31 rfl ?_
  show exC Try.prog T [] _ false none 0 (entry 62 [mixD F, ints bad, int lot]) (finQ T [ResultVar.tmp 6, ResultVar.tmp 7] _)
  conv => whnf
  repeat' first | ((first | refine Ob.a ?_ | refine Sp.tt ?_ | refine Sp.ff ?_ | refine Sp.yes ?_ | refine Sp.no ?_ | refine Sp.nyes ?_ | refine Sp.nno ?_ | refine Fi.a ?_);conv=>whnf) | ((first | refine Sp.ne ?_ ?_ | refine Sp.dec ?_ ?_ | refine Sp.ndec ?_ ?_ | refine Sp.mk ?_ ?_) <;> intro hc <;> conv => whnf) | (apply Cl.go;(conv=>whnf); (first | refine Ob.call (hO) ?_);(conv=>whnf)) | (refine Ob.b ?_;conv=>whnf)
  all_goals first | exact Lf | (exfalso; omega)
end Go.Px.Try

/-! Tf9 -/
namespace Go.Px.Try
open Go Go.Proofs Go.Px
set_option maxRecDepth 100000
theorem bandN (a b : Nat) (ha : a < 2 ^ 20) (hb : b < 2 ^ 20) : band .i64 (a : Int) (b : Int) = ((a &&& b : Nat) : Int) := by
 have hor : a &&& b < 2 ^ 20 := Nat.and_lt_two_pow a hb
 unfold band
 have h : (BitVec.ofInt IntKind.i64.bits (a : Int) &&& BitVec.ofInt IntKind.i64.bits (b : Int)).toNat = a &&& b := by
  have e1 : BitVec.ofInt IntKind.i64.bits (a : Int) = BitVec.ofNat 64 a := BitVec.ofInt_natCast 64 a
  have e2 : BitVec.ofInt IntKind.i64.bits (b : Int) = BitVec.ofNat 64 b := BitVec.ofInt_natCast 64 _
  rw [e1, e2]
  show (BitVec.ofNat 64 a &&& BitVec.ofNat 64 b).toNat = _
  rw [BitVec.toNat_and, BitVec.toNat_ofNat, BitVec.toNat_ofNat, Nat.mod_eq_of_lt (by omega), Nat.mod_eq_of_lt (by omega)]
 rw [h, wrap_in]
 simp only [inR]
 omega
theorem borN (a b : Nat) (ha : a < 2 ^ 20) (hb : b < 2 ^ 20) : bor .i64 (a : Int) (b : Int) = ((a ||| b : Nat) : Int) := by
 have hor : a ||| b < 2 ^ 20 := Nat.or_lt_two_pow ha hb
 unfold bor
 have h : (BitVec.ofInt IntKind.i64.bits (a : Int) ||| BitVec.ofInt IntKind.i64.bits (b : Int)).toNat = a ||| b := by
  have e1 : BitVec.ofInt IntKind.i64.bits (a : Int) = BitVec.ofNat 64 a := BitVec.ofInt_natCast 64 a
  have e2 : BitVec.ofInt IntKind.i64.bits (b : Int) = BitVec.ofNat 64 b := BitVec.ofInt_natCast 64 _
  rw [e1, e2]
  show (BitVec.ofNat 64 a ||| BitVec.ofNat 64 b).toNat = _
  rw [BitVec.toNat_or, BitVec.toNat_ofNat, BitVec.toNat_ofNat, Nat.mod_eq_of_lt (by omega), Nat.mod_eq_of_lt (by omega)]
 rw [h, wrap_in]
 simp only [inR]
 omega
theorem and_zero {a b : Nat} : a &&& b = 0 ↔ ∀ i, ¬ (bset a i = true ∧ bset b i = true) := by
 constructor
 ·rintro h i ⟨h1, h2⟩
  rw [bset_test] at h1 h2
  have : (a &&& b).testBit i = true := by rw [Nat.testBit_and, h1, h2]; rfl
  rw [h, Nat.zero_testBit] at this; cases this
 ·intro h
  refine Nat.eq_of_testBit_eq fun i => ?_
  rw [Nat.zero_testBit, Nat.testBit_and, ← bset_test, ← bset_test]
  have := h i
  cases h1 : bset a i <;> cases h2 : bset b i <;> simp_all
/-- A way without its last node. -/
def cutL (w : List Int) : List Int := w.take (w.length - 1)
theorem cutL_mem {w : List Int} {x : Int} (h : x ∈ cutL w) : x ∈ w := List.mem_of_mem_take h
theorem cutL_getD {w : List Int} {j : Nat} (h : j < w.length - 1) : (cutL w).getD j 0 = w.getD j 0 := by
 unfold cutL
 rw [List.getD_eq_getElem?_getD, List.getD_eq_getElem?_getD, List.getElem?_take_of_lt h]
def hadT (ws : List (List Int)) (k : Nat) : Nat := (ws.take k).foldl (fun b w => b ||| bitsOf (cutL w)) 0
theorem hadT_succ {ws : List (List Int)} {k : Nat} (h : k < ws.length) : hadT ws (k + 1) = hadT ws k ||| bitsOf (cutL (ws.getD k [])) := by
 unfold hadT
 rw [take_succ_getD ws k [] h, List.foldl_append]; rfl
theorem bset_had (ws : List (List Int)) (h : ∀ w ∈ ws, ∀ x ∈ w, 0 ≤ x) (k i : Nat) : bset (hadT ws k) i = (ws.take k).any fun w => decide ((i : Int) ∈ cutL w) := by
 unfold hadT
 have key : ∀ (l : List (List Int)) (b : Nat), (∀ w ∈ l, ∀ x ∈ w, 0 ≤ x) → bset (l.foldl (fun b w => b ||| bitsOf (cutL w)) b) i = (bset b i || l.any fun w => decide ((i : Int) ∈ cutL w)) := by
  intro l
  induction l with
  | nil => intro b _; simp
  | cons w l ih =>
   intro b hl
   rw [List.foldl_cons, ih _ fun w' hw' => hl w' (List.mem_cons_of_mem _ hw'), List.any_cons]
   have e : bset (b ||| bitsOf (cutL w)) i = (bset b i || decide ((i : Int) ∈ cutL w)) := by
    rw [bset_test, Nat.testBit_or, ← bset_test, ← bset_test, bset_bits (l := cutL w) fun x hx => hl w (List.mem_cons_self ..) x (cutL_mem hx)]
   rw [e, Bool.or_assoc]
 rw [key _ _ fun w hw => h w (List.mem_of_mem_take hw), bset_zero, Bool.false_or]
theorem bitsOf_lt {l : List Int} {n : Nat} (h : ∀ x ∈ l, 0 ≤ x ∧ x < (n : Int)) : bitsOf l < 2 ^ n := bitsT_lt h _
theorem had_lt {ws : List (List Int)} {n : Nat} (h : ∀ w ∈ ws, ∀ x ∈ w, 0 ≤ x ∧ x < (n : Int)) (k : Nat) : hadT ws k < 2 ^ n := by
 unfold hadT
 have key : ∀ (l : List (List Int)) (b : Nat), (∀ w ∈ l, ∀ x ∈ w, 0 ≤ x ∧ x < (n : Int)) → b < 2 ^ n → l.foldl (fun b w => b ||| bitsOf (cutL w)) b < 2 ^ n := by
  intro l
  induction l with
  | nil => intro b _ hb; exact hb
  | cons w l ih =>
   intro b hl hb
   exact ih _ (fun w' hw' => hl w' (List.mem_cons_of_mem _ hw')) (Nat.or_lt_two_pow hb (bitsOf_lt fun x hx => hl w (List.mem_cons_self ..) x (List.mem_of_mem_take hx)))
 exact key _ _ (fun w hw => h w (List.mem_of_mem_take hw)) (Nat.two_pow_pos n)
/-- No two of the first k ways have a node in common, but for the last one. -/
def DisT (ws : List (List Int)) (k : Nat) : Prop := ∀ i, i < k → ∀ j, j < i → ∀ x ∈ cutL (ws.getD i []), x ∉ cutL (ws.getD j [])
instance (ws : List (List Int)) (k : Nat) : Decidable (DisT ws k) := by unfold DisT; exact inferInstance
theorem had_zero {ws : List (List Int)} (h : ∀ w ∈ ws, ∀ x ∈ w, 0 ≤ x) {k : Nat} (hk : k < ws.length) : hadT ws k &&& bitsOf (cutL (ws.getD k [])) = 0 ↔ ∀ j, j < k → ∀ x ∈ cutL (ws.getD k []), x ∉ cutL (ws.getD j []) := by
 have hw := h _ (getD_mem hk [])
 rw [and_zero]
 constructor
 ·intro hz j hj x hx hx'
  have hx0 := hw x (List.mem_of_mem_take hx)
  refine hz x.toNat ⟨?_, ?_⟩
  ·rw [bset_had ws h, List.any_eq_true]
   refine ⟨ws.getD j [], ?_, decide_eq_true (by rw [Int.toNat_of_nonneg hx0]; exact hx')⟩
   rw [List.getD_eq_getElem?_getD, List.getElem?_eq_getElem (by omega)]
   exact List.mem_take_iff_getElem.2 ⟨j, by omega, rfl⟩
  ·rw [bset_bits (l := cutL (ws.getD k [])) fun y hy => hw y (cutL_mem hy)]
   exact decide_eq_true (by rw [Int.toNat_of_nonneg hx0]; exact hx)
 ·rintro hd i ⟨h1, h2⟩
  rw [bset_had ws h, List.any_eq_true] at h1
  obtain ⟨w, hw', hi⟩ := h1
  obtain ⟨j, hj, rfl⟩ := List.mem_take_iff_getElem.1 hw'
  rw [bset_bits (l := cutL (ws.getD k [])) fun y hy => hw y (cutL_mem hy)] at h2
  have := hd j (by omega) _ (of_decide_eq_true h2)
  rw [List.getD_eq_getElem?_getD, List.getElem?_eq_getElem (by omega)] at this
  exact this (of_decide_eq_true hi)
def checkWaysR (F : List (List Int)) (bad : List Int) (lot : Int) (ws : List (List Int)) : Int :=
 if badE F bad lot ≠ 0 then badE F bad lot else if ¬ ∀ w ∈ ws, IsWayP F bad lot w then 26 else if DisT ws ws.length then 0 else 16
theorem way_range {F : List (List Int)} {bad : List Int} {lot : Int} (hk : BadOk F bad lot) {w : List Int} (h : IsWayP F bad lot w) : ∀ x ∈ w, 0 ≤ x ∧ x < (F.length : Int) := by
 intro x hx
 obtain ⟨j, hj, rfl⟩ := mem_getD (d := 0) hx
 cases j with
 | zero => exact hk.ris.1 _ h.2.1
 | succ j => exact (h.2.2.2 (j + 1) (by omega) hj).1
set_option maxHeartbeats 8000000 in
theorem CheckWays_spec (F : List (List Int)) (hs : SmallM F) (bad : List Int) (hbl : bad.length < 1000000) (lot : Int) (ws : List (List Int)) (hws : ws.length < 1000000) (hw : ∀ w ∈ ws, w.length < 1000000) :
  Fn Try.prog 37 [mixD F, ints bad, int lot, slOf 1 ints [] ws] (tpl [int (if checkWaysR F bad lot ws = 0 then (ws.length : Int) else 0), int (checkWaysR F bad lot ws)]) := by
 have hE := BadError_spec F hs bad hbl lot
 by_cases h0 : badE F bad lot = 0
 ·have hk := badE_ok.1 h0
  have hm := hk.mix
  have hl10 := hm.l10
  rw [h0] at hE
  have hun : checkWaysR F bad lot ws = if ¬ ∀ w ∈ ws, IsWayP F bad lot w then 26 else if DisT ws ws.length then 0 else 16 := if_neg (by simp [h0])
  have hI := fun (i : Int) (a : 0 ≤ i) (b : i < ws.length) => IsWay_spec F hm bad hbl lot (ws.getD i.toNat []) (by have := hw _ (getD_mem (l := ws) (i := i.toNat) (by omega) []); omega)
  by_cases hall : ∀ w ∈ ws, IsWayP F bad lot w
  ·rw [if_neg (not_not_intro hall)] at hun
   have hr20 : ∀ w ∈ ws, ∀ x ∈ w, 0 ≤ x ∧ x < ((20 : Nat) : Int) := fun w hw' x hx => by
    have := way_range hk (hall w hw') x hx; omega
   have hr0 : ∀ w ∈ ws, ∀ x ∈ w, 0 ≤ x := fun w hw' x hx => (hr20 w hw' x hx).1
   have hI : ∀ i : Int, 0 ≤ i → i < ws.length → Fn Try.prog 78 [mixD F, ints bad, int lot, ints (ws.getD i.toNat [])] (bool true) := fun i a b => by
    have := hI i a b
    rw [decide_eq_true (hall _ (getD_mem (by omega) []))] at this
    exact this
   have hB : ∀ i : Int, 0 ≤ i → i < ws.length → Fn Try.prog 49 [.sl false 1 (((ws.getD i.toNat []).length : Int) - 1).toNat fun j => int ((ws.getD i.toNat []).getD j 0)] (int (bitsOf (cutL (ws.getD i.toNat [])))) := fun i a b => by
    have hm' := getD_mem (l := ws) (i := i.toNat) (by omega) []
    have h := Bits_spec (cutL (ws.getD i.toNat [])) (by have := hw _ hm'; unfold cutL; rw [List.length_take]; omega) fun x hx => hr20 _ hm' x (List.mem_of_mem_take hx)
    refine h.imp ⟨Imp.sl (fun e => by cases e) (by unfold cutL; rw [List.length_take]; omega) fun j hj => Imp.of_eq ?_, trivial⟩ (Imp.refl _)
    show int _ = int _
    rw [cutL_getD (by omega)]
   have hlen2 : ∀ i : Int, 0 ≤ i → i < ws.length → 2 ≤ (ws.getD i.toNat []).length ∧ (ws.getD i.toNat []).length < 1000000 := fun i a b => ⟨(hall _ (getD_mem (by omega) [])).1, hw _ (getD_mem (by omega) [])⟩
   have hand := fun (i : Int) (a : 0 ≤ i) (b : i < ws.length) => bandN (hadT ws i.toNat) (bitsOf (cutL (ws.getD i.toNat []))) (had_lt hr20 _) (bitsOf_lt fun x hx => hr20 _ (getD_mem (by omega) []) x (List.mem_of_mem_take hx))
   have hor := fun (i : Int) (a : 0 ≤ i) (b : i < ws.length) => borN (hadT ws i.toNat) (bitsOf (cutL (ws.getD i.toNat []))) (had_lt hr20 _) (bitsOf_lt fun x hx => hr20 _ (getD_mem (by omega) []) x (List.mem_of_mem_take hx))
   have hz := fun (i : Int) (a : 0 ≤ i) (b : i < ws.length) => had_zero hr0 (k := i.toNat) (by omega)
   generalize hc : checkWaysR F bad lot ws = c at *
   have c1 : DisT ws ws.length → c = 0 := fun h => by rw [hun, if_pos h]
   have c2 : ∀ i : Int, 0 ≤ i → i < ws.length → ¬ (∀ j, j < i.toNat → ∀ x ∈ cutL (ws.getD i.toNat []), x ∉ cutL (ws.getD j [])) → c = 16 := fun i a b h => by
    rw [hun, if_neg]
    exact fun hd => h fun j hj => hd i.toNat (by omega) j hj
   clear hun hc hall
   refine Fn.of_ex (cuts := []) tys hM Try.func37 rfl Try.call37 rfl ?_
   show exC Try.prog T [] _ false none 0 (entry 65 [mixD F, ints bad, int lot, slOf 1 ints [] ws]) (finQ T [ResultVar.tmp 8, ResultVar.tmp 9] _)
   conv => whnf
   repeat' first | ((first | refine Ob.a ?_ | refine Sp.tt ?_ | refine Sp.ff ?_ | refine Sp.yes ?_ | refine Sp.no ?_ | refine Sp.nyes ?_ | refine Sp.nno ?_ | refine Fi.a ?_);conv=>whnf) | ((first | refine Sp.ne ?_ ?_ | refine Sp.dec ?_ ?_ | refine Sp.ndec ?_ ?_ | refine Sp.mk ?_ ?_) <;> intro hc <;> conv => whnf) | (apply Cl.go;(conv=>whnf); (first | refine Ob.call (hE) ?_);(conv=>whnf)) | (refine Ob.b ?_;conv=>whnf)
   all_goals try (rename_i hq; exact absurd rfl hq)
   refine Lp.snap [0, 1, 2, 3, 4, 11, 12, 13, 38, 39, 40, 42, 43, 44, 45, 46, 47, 48, 49, 50, 51, 52, 53, 54, 55, 56, 57, 58, 60, 61, 62, 63, 64] 40 ?_
   (conv=>whnf)
   refine LpB.go 65 ({i : Int // 0 ≤ i ∧ i ≤ ws.length}) 0 (fun ⟨i, _⟩ nx => ([(10, .d (int i))], [])) (fun p => (ws.length - p.1).toNat) (⟨0, by omega, by omega⟩) ?_ ?_
   ·rintro ⟨i, i0, i1⟩
    by_cases hi : i < ws.length
    ·have hI := hI i i0 hi
     clear hB hand hor hz c1 c2
     conv => whnf
     repeat' first | ((first | refine Ob.a ?_ | refine Sp.tt ?_ | refine Sp.ff ?_ | refine Sp.yes ?_ | refine Sp.no ?_ | refine Sp.nyes ?_ | refine Sp.nno ?_ | refine Fi.a ?_);conv=>whnf) | ((first | refine Sp.ne ?_ ?_ | refine Sp.dec ?_ ?_ | refine Sp.ndec ?_ ?_ | refine Sp.mk ?_ ?_) <;> intro hc <;> conv => whnf) | (apply Cl.go;(conv=>whnf); (first | refine Ob.call (hI) ?_);(conv=>whnf)) | (refine Ob.b ?_;conv=>whnf)
     all_goals first | exact ⟨rfl, ⟨i + 1, by omega, by omega⟩, Lf, by simp only; omega⟩ | (exfalso; omega)
    ·clear hI
     conv => whnf
     repeat' first | ((first | refine Ob.a ?_ | refine Sp.tt ?_ | refine Sp.ff ?_ | refine Sp.yes ?_ | refine Sp.no ?_ | refine Sp.nyes ?_ | refine Sp.nno ?_ | refine Fi.a ?_);conv=>whnf) | ((first | refine Sp.ne ?_ ?_ | refine Sp.dec ?_ ?_ | refine Sp.ndec ?_ ?_ | refine Sp.mk ?_ ?_) <;> intro hc <;> conv => whnf) | (refine Ob.b ?_;conv=>whnf)
     refine Lp.snap [0, 1, 2, 3, 63, 64] 40 ?_
     (conv=>whnf)
     refine LpB.go 65 ({i : Int // (0 ≤ i ∧ i ≤ ws.length) ∧ DisT ws i.toNat}) 0 (fun ⟨i, _⟩ nx => ([(12, .d (int i)), (11, .d (int (hadT ws i.toNat)))], [])) (fun p => (ws.length - p.1).toNat) (⟨0, ⟨by omega, by omega⟩, fun i hi => by simp at hi⟩) ?_ ?_
     ·rintro ⟨i, ⟨i0, i1⟩, hd⟩
      by_cases hi : i < ws.length
      ·have hB := hB i i0 hi
       have hand := hand i i0 hi
       have hor := hor i i0 hi
       have hz := hz i i0 hi
       have hlen2 := hlen2 i i0 hi
       have hsucc : hadT ws (i + 1).toNat = hadT ws i.toNat ||| bitsOf (cutL (ws.getD i.toNat [])) := by rw [show (i + 1).toNat = i.toNat + 1 by omega, hadT_succ (by omega)]
       rw [← hsucc] at hor
       by_cases hq : hadT ws i.toNat &&& bitsOf (cutL (ws.getD i.toNat [])) = 0
       ·rw [hq] at hand
        have hand : band .i64 (hadT ws i.toNat : Int) (bitsOf (cutL (ws.getD i.toNat [])) : Int) = 0 := hand
        have e : DisT ws (i + 1).toNat := fun a ha => by
         by_cases e : a < i.toNat
         ·exact hd a e
         ·obtain rfl : a = i.toNat := by omega
          exact hz.1 hq
        clear c1 c2 hz
        conv => whnf
        repeat' first | ((first | refine Ob.a ?_ | refine Sp.tt ?_ | refine Sp.ff ?_ | refine Sp.yes ?_ | refine Sp.no ?_ | refine Sp.nyes ?_ | refine Sp.nno ?_ | refine Fi.a ?_);conv=>whnf) | ((first | refine Sp.ne ?_ ?_ | refine Sp.dec ?_ ?_ | refine Sp.ndec ?_ ?_ | refine Sp.mk ?_ ?_) <;> intro hc <;> conv => whnf) | (apply Cl.go;(conv=>whnf); (first | refine Ob.call (hB) ?_);(conv=>whnf)) | (refine Ob.b ?_;conv=>whnf)
        all_goals first | exact ⟨rfl, ⟨i + 1, ⟨by omega, by omega⟩, e⟩, Lf, by simp only; omega⟩ | (exfalso; omega)
       ·have e := c2 i i0 hi fun h => hq (hz.2 h)
        subst e
        have hand2 : ¬ band .i64 (hadT ws i.toNat : Int) (bitsOf (cutL (ws.getD i.toNat [])) : Int) = 0 := by rw [hand]; omega
        clear c1 c2 hz hand
        conv => whnf
        repeat' first | ((first | refine Ob.a ?_ | refine Sp.tt ?_ | refine Sp.ff ?_ | refine Sp.yes ?_ | refine Sp.no ?_ | refine Sp.nyes ?_ | refine Sp.nno ?_ | refine Fi.a ?_);conv=>whnf) | ((first | refine Sp.ne ?_ ?_ | refine Sp.dec ?_ ?_ | refine Sp.ndec ?_ ?_ | refine Sp.mk ?_ ?_) <;> intro hc <;> conv => whnf) | (apply Cl.go;(conv=>whnf); (first | refine Ob.call (hB) ?_);(conv=>whnf)) | (refine Ob.b ?_;conv=>whnf)
        all_goals first | exact Lf | (exfalso; omega)
      ·have e := c1 (by rw [show ws.length = i.toNat by omega]; exact hd)
       subst e
       conv => whnf
       repeat' first | ((first | refine Ob.a ?_ | refine Sp.tt ?_ | refine Sp.ff ?_ | refine Sp.yes ?_ | refine Sp.no ?_ | refine Sp.nyes ?_ | refine Sp.nno ?_ | refine Fi.a ?_);conv=>whnf) | ((first | refine Sp.ne ?_ ?_ | refine Sp.dec ?_ ?_ | refine Sp.ndec ?_ ?_ | refine Sp.mk ?_ ?_) <;> intro hc <;> conv => whnf) | (refine Ob.b ?_;conv=>whnf)
       exact Lf
     ·exact Lf
   ·exact Lf
  ·rw [if_pos hall] at hun
   rw [hun]
   have hex : ∃ i, i < ws.length ∧ ¬ IsWayP F bad lot (ws.getD i []) := by
    refine Classical.byContradiction fun hno => hall fun w hw' => ?_
    obtain ⟨j, hj, rfl⟩ := mem_getD (d := []) hw'
    exact Classical.byContradiction fun hn => hno ⟨j, hj, hn⟩
   have hend : ∀ i : Int, i = ws.length → (∀ j, j < i.toNat → IsWayP F bad lot (ws.getD j [])) → False := fun i hi h => by
    obtain ⟨j, hj, hn⟩ := hex
    exact hn (h j (by omega))
   clear hun hall hex
   rw [if_neg (by omega)]
   refine Fn.of_ex (cuts := []) tys hM Try.func37 rfl Try.call37 rfl ?_
   show exC Try.prog T [] _ false none 0 (entry 65 [mixD F, ints bad, int lot, slOf 1 ints [] ws]) (finQ T [ResultVar.tmp 8, ResultVar.tmp 9] _)
   conv => whnf
   repeat' first | ((first | refine Ob.a ?_ | refine Sp.tt ?_ | refine Sp.ff ?_ | refine Sp.yes ?_ | refine Sp.no ?_ | refine Sp.nyes ?_ | refine Sp.nno ?_ | refine Fi.a ?_);conv=>whnf) | ((first | refine Sp.ne ?_ ?_ | refine Sp.dec ?_ ?_ | refine Sp.ndec ?_ ?_ | refine Sp.mk ?_ ?_) <;> intro hc <;> conv => whnf) | (apply Cl.go;(conv=>whnf); (first | refine Ob.call (hE) ?_);(conv=>whnf)) | (refine Ob.b ?_;conv=>whnf)
   all_goals try (rename_i hq; exact absurd rfl hq)
   refine Lp.snap [0, 1, 2, 3, 4, 11, 12, 13, 38, 39, 40, 42, 43, 44, 45, 46, 47, 48, 49, 50, 51, 52, 53, 54, 55, 56, 57, 58, 60, 61, 62, 63, 64] 40 ?_
   (conv=>whnf)
   refine LpB.go 65 ({i : Int // (0 ≤ i ∧ i ≤ ws.length) ∧ ∀ j, j < i.toNat → IsWayP F bad lot (ws.getD j [])}) 0 (fun ⟨i, _⟩ nx => ([(10, .d (int i))], [])) (fun p => (ws.length - p.1).toNat) (⟨0, ⟨by omega, by omega⟩, fun j hj => by simp at hj⟩) ?_ ?_
   ·rintro ⟨i, ⟨i0, i1⟩, hinv⟩
    by_cases hi : i < ws.length
    ·have hI := hI i i0 hi
     by_cases hq : IsWayP F bad lot (ws.getD i.toNat [])
     ·rw [decide_eq_true hq] at hI
      have e : ∀ j, j < (i + 1).toNat → IsWayP F bad lot (ws.getD j []) := fun j hj => by
       by_cases e : j < i.toNat
       ·exact hinv j e
       ·obtain rfl : j = i.toNat := by omega
        exact hq
      conv => whnf
      repeat' first | ((first | refine Ob.a ?_ | refine Sp.tt ?_ | refine Sp.ff ?_ | refine Sp.yes ?_ | refine Sp.no ?_ | refine Sp.nyes ?_ | refine Sp.nno ?_ | refine Fi.a ?_);conv=>whnf) | ((first | refine Sp.ne ?_ ?_ | refine Sp.dec ?_ ?_ | refine Sp.ndec ?_ ?_ | refine Sp.mk ?_ ?_) <;> intro hc <;> conv => whnf) | (apply Cl.go;(conv=>whnf); (first | refine Ob.call (hI) ?_);(conv=>whnf)) | (refine Ob.b ?_;conv=>whnf)
      all_goals first | exact ⟨rfl, ⟨i + 1, ⟨by omega, by omega⟩, e⟩, Lf, by simp only; omega⟩ | (exfalso; omega)
     ·rw [decide_eq_false hq] at hI
      conv => whnf
      repeat' first | ((first | refine Ob.a ?_ | refine Sp.tt ?_ | refine Sp.ff ?_ | refine Sp.yes ?_ | refine Sp.no ?_ | refine Sp.nyes ?_ | refine Sp.nno ?_ | refine Fi.a ?_);conv=>whnf) | ((first | refine Sp.ne ?_ ?_ | refine Sp.dec ?_ ?_ | refine Sp.ndec ?_ ?_ | refine Sp.mk ?_ ?_) <;> intro hc <;> conv => whnf) | (apply Cl.go;(conv=>whnf); (first | refine Ob.call (hI) ?_);(conv=>whnf)) | (refine Ob.b ?_;conv=>whnf)
      all_goals first | exact Lf | (exfalso; omega)
    ·exact (hend i (by omega) hinv).elim
   ·exact Lf
 ·have hun : checkWaysR F bad lot ws = badE F bad lot := if_pos h0
  rw [hun, if_neg h0]
  generalize badE F bad lot = k at *
  refine Fn.of_ex (cuts := []) tys hM Try.func37 rfl Try.call37 rfl ?_
  show exC Try.prog T [] _ false none 0 (entry 65 [mixD F, ints bad, int lot, slOf 1 ints [] ws]) (finQ T [ResultVar.tmp 8, ResultVar.tmp 9] _)
  conv => whnf
  repeat' first | ((first | refine Ob.a ?_ | refine Sp.tt ?_ | refine Sp.ff ?_ | refine Sp.yes ?_ | refine Sp.no ?_ | refine Sp.nyes ?_ | refine Sp.nno ?_ | refine Fi.a ?_);conv=>whnf) | ((first | refine Sp.ne ?_ ?_ | refine Sp.dec ?_ ?_ | refine Sp.ndec ?_ ?_ | refine Sp.mk ?_ ?_) <;> intro hc <;> conv => whnf) | (apply Cl.go;(conv=>whnf); (first | refine Ob.call (hE) ?_);(conv=>whnf)) | (refine Ob.b ?_;conv=>whnf)
  all_goals first | exact Lf | (exfalso; omega)
end Go.Px.Try

/-! Tp14 -/
namespace Go.Px.Try
open Go Go.Proofs Go.Px
set_option maxRecDepth 100000
/-- All nodes of a way are there. -/
theorem way_in {F : List (List Int)} {bad : List Int} {lot : Int} (hk : BadOk F bad lot) {w : List Int} (h : IsWayP F bad lot w) : ∀ x ∈ w, 0 ≤ x ∧ x ≤ (F.length : Int) - 1 := by
 intro x hx
 obtain ⟨h1, h2, h3, h4⟩ := h
 obtain ⟨i, hi, e⟩ := List.getElem_of_mem hx
 have e2 : w.getD i 0 = x := by rw [List.getD_eq_getElem?_getD, List.getElem?_eq_getElem hi]; exact e
 by_cases i0 : i = 0
 ·subst i0
  have := hk.ris.1 _ h2
  rw [e2] at this; omega
 ·have := (h4 i (by omega) hi).1
  rw [e2] at this; omega
def wayTo2 (F : List (List Int)) (w : List Int) (k : Nat) : Prop := ∀ j, j < k → w.getD j 0 ∈ F.getD (w.getD (j + 1) 0).toNat []
theorem way_iff {F : List (List Int)} {bad : List Int} {lot : Int} (hk : BadOk F bad lot) {w : List Int} : IsWayP F bad lot w ↔ 2 ≤ w.length ∧ (∀ x ∈ w, 0 ≤ x ∧ x ≤ (F.length : Int) - 1) ∧ w.getD 0 0 ∈ bad ∧ w.getD (w.length - 1) 0 = lot ∧ wayTo2 F w (w.length - 1) := by
 constructor
 ·intro h
  exact ⟨h.1, way_in hk h, h.2.1, h.2.2.1, fun j hj => (h.2.2.2 (j + 1) (by omega) (by omega)).2⟩
 ·rintro ⟨h1, h2, h3, h4, h5⟩
  refine ⟨h1, h3, h4, fun j a b => ⟨?_, ?_⟩⟩
  ·have := h2 _ (getD_mem b 0); omega
  ·have := h5 (j - 1) (by omega)
   rw [show j - 1 + 1 = j by omega] at this
   exact this
set_option maxHeartbeats 16000000 in
theorem way_spec (F : List (List Int)) (hs : SmallM F) (bad : List Int) (hbl : bad.length < 1000000) (lot : Int) (hk : BadOk F bad lot) (w : List Int) (hw : w.length < 1000000) :
  Fn Try.prog 77 [netD F (ints bad) lot, ints w] (bool (decide (IsWayP F bad lot w))) := by
 have hl10 := hk.mix.l10
 have hl1 := hk.mix.l1
 have hW := within_spec 0 (F.length - 1) w hw
 have hC := contains_spec bad (w.getD 0 0) hbl
 have hC2 := fun (j : Nat) (v : Int) (hj : j < F.length) => contains_spec (F.getD j []) v (hs.i _ (getD_mem hj []))
 have hiff := way_iff hk (w := w)
 refine Fn.hide (D := fun r : Bool => bool r) fun r hr => ?_
 have h0 : ¬ IsWayP F bad lot w → r = false := fun h => by rw [← hr.h]; exact decide_eq_false h
 have h1 : IsWayP F bad lot w → r = true := fun h => by rw [← hr.h]; exact decide_eq_true h
 clear hr
 by_cases c1 : 2 ≤ w.length
 ·by_cases c2 : ∀ x ∈ w, 0 ≤ x ∧ x ≤ (F.length : Int) - 1
  ·rw [decide_eq_true c2] at hW
   by_cases c3 : w.getD 0 0 ∈ bad
   ·rw [decide_eq_true c3] at hC
    by_cases c4 : w.getD (w.length - 1) 0 = lot
    ·have c4' : w.getD (w.length - 1 : Int).toNat 0 = lot := by rw [show (w.length - 1 : Int).toNat = w.length - 1 by omega]; exact c4
     have f1 : wayTo2 F w (w.length - 1) → r = true := fun h => h1 (hiff.2 ⟨c1, c2, c3, c4, h⟩)
     have f0 : ∀ j, j < w.length - 1 → w.getD j 0 ∉ F.getD (w.getD (j + 1) 0).toNat [] → r = false := fun j hj h => h0 fun hh => h ((hiff.1 hh).2.2.2.2 j hj)
     clear h0 h1 hiff
     refine Fn.of_ex (cuts := []) tys hM Try.func77 rfl Try.call77 rfl ?_
     show exC Try.prog T [] _ false none 0 (entry 70 [netD F (ints bad) lot, ints w]) (finQ T [ResultVar.tmp 4] _)
     conv => whnf
     repeat' first | ((first | refine Ob.a ?_ | refine Sp.tt ?_ | refine Sp.ff ?_ | refine Sp.yes ?_ | refine Sp.no ?_ | refine Sp.nyes ?_ | refine Sp.nno ?_ | refine Fi.a ?_);conv=>whnf) | ((first | refine Sp.ne ?_ ?_ | refine Sp.dec ?_ ?_ | refine Sp.ndec ?_ ?_ | refine Sp.mk ?_ ?_) <;> intro hc <;> conv => whnf) | (apply Cl.go;(conv=>whnf); (first | refine Ob.call (hW) ?_ | refine Ob.call (hC) ?_);(conv=>whnf)) | (refine Ob.b ?_;conv=>whnf)
     all_goals try first | (exfalso; omega) | (rename_i hq; exact absurd c4' hq)
     refine Lp.snap [0, 1, 47] 40 ?_
     (conv=>whnf)
     refine LpB.go 70 ({i : Int // (0 ≤ i ∧ i ≤ w.length - 1) ∧ wayTo2 F w i.toNat}) 0 (fun ⟨i, _⟩ nx => ([(48, .d (int i))], [])) (fun p => (w.length - p.1).toNat) (⟨0, ⟨by omega, by omega⟩, fun j a => by have : (0 : Int).toNat = 0 := rfl; omega⟩) ?_ ?_
     ·rintro ⟨i, ⟨i0, i1⟩, hinv⟩
      by_cases hi : i < w.length - 1
      ·have f0 := f0 i.toNat (by omega)
       have hm1 : w.getD (i + 1).toNat 0 ∈ w := getD_mem (by omega) 0
       have hd := c2 _ hm1
       rw [show i.toNat + 1 = (i + 1).toNat by omega] at f0
       have hC2 := hC2 (w.getD (i + 1).toNat 0).toNat (w.getD i.toNat 0) (by omega)
       by_cases d2 : w.getD i.toNat 0 ∈ F.getD (w.getD (i + 1).toNat 0).toNat []
       ·rw [decide_eq_true d2] at hC2
        have e : wayTo2 F w (i + 1).toNat := fun j a => by
         by_cases e : j < i.toNat
         ·exact hinv j e
         ·obtain rfl : j = i.toNat := by omega
          rw [show i.toNat + 1 = (i + 1).toNat by omega]; exact d2
        clear hm1 d2 f0
        conv => whnf
        repeat' first | ((first | refine Ob.a ?_ | refine Sp.tt ?_ | refine Sp.ff ?_ | refine Sp.yes ?_ | refine Sp.no ?_ | refine Sp.nyes ?_ | refine Sp.nno ?_ | refine Fi.a ?_);conv=>whnf) | ((first | refine Sp.ne ?_ ?_ | refine Sp.dec ?_ ?_ | refine Sp.ndec ?_ ?_ | refine Sp.mk ?_ ?_) <;> intro hc <;> conv => whnf) | (apply Cl.go;(conv=>whnf); (first | refine Ob.call (hC2) ?_);(conv=>whnf)) | (refine Ob.b ?_;conv=>whnf)
        all_goals first | exact ⟨rfl, ⟨i + 1, ⟨by omega, by omega⟩, e⟩, Lf, by simp only; omega⟩
       ·rw [decide_eq_false d2] at hC2
        have f0 := f0 d2
        subst f0
        clear hm1 d2 f1
        conv => whnf
        repeat' first | ((first | refine Ob.a ?_ | refine Sp.tt ?_ | refine Sp.ff ?_ | refine Sp.yes ?_ | refine Sp.no ?_ | refine Sp.nyes ?_ | refine Sp.nno ?_ | refine Fi.a ?_);conv=>whnf) | ((first | refine Sp.ne ?_ ?_ | refine Sp.dec ?_ ?_ | refine Sp.ndec ?_ ?_ | refine Sp.mk ?_ ?_) <;> intro hc <;> conv => whnf) | (apply Cl.go;(conv=>whnf); (first | refine Ob.call (hC2) ?_);(conv=>whnf)) | (refine Ob.b ?_;conv=>whnf)
        all_goals first | exact Lf
      ·have e : i.toNat = w.length - 1 := by omega
       rw [e] at hinv
       have f1 := f1 hinv
       subst f1
       clear f0
       conv => whnf
       repeat' first | ((first | refine Ob.a ?_ | refine Sp.tt ?_ | refine Sp.ff ?_ | refine Sp.yes ?_ | refine Sp.no ?_ | refine Sp.nyes ?_ | refine Sp.nno ?_ | refine Fi.a ?_);conv=>whnf) | ((first | refine Sp.ne ?_ ?_ | refine Sp.dec ?_ ?_ | refine Sp.ndec ?_ ?_ | refine Sp.mk ?_ ?_) <;> intro hc <;> conv => whnf) | (refine Ob.b ?_;conv=>whnf)
       all_goals first | exact Lf
     ·exact Lf
    ·have f0 := h0 fun h => c4 (hiff.1 h).2.2.2.1
     have c4' : ¬ w.getD (w.length - 1 : Int).toNat 0 = lot := by rw [show (w.length - 1 : Int).toNat = w.length - 1 by omega]; exact c4
     subst f0
     clear h0 h1 hiff
     refine Fn.of_ex (cuts := []) tys hM Try.func77 rfl Try.call77 rfl ?_
     show exC Try.prog T [] _ false none 0 (entry 70 [netD F (ints bad) lot, ints w]) (finQ T [ResultVar.tmp 4] _)
     conv => whnf
     repeat' first | ((first | refine Ob.a ?_ | refine Sp.tt ?_ | refine Sp.ff ?_ | refine Sp.yes ?_ | refine Sp.no ?_ | refine Sp.nyes ?_ | refine Sp.nno ?_ | refine Fi.a ?_);conv=>whnf) | ((first | refine Sp.ne ?_ ?_ | refine Sp.dec ?_ ?_ | refine Sp.ndec ?_ ?_ | refine Sp.mk ?_ ?_) <;> intro hc <;> conv => whnf) | (apply Cl.go;(conv=>whnf); (first | refine Ob.call (hW) ?_ | refine Ob.call (hC) ?_);(conv=>whnf)) | (refine Ob.b ?_;conv=>whnf)
     all_goals first | exact Lf | (exfalso; omega)
   ·have f0 := h0 fun h => c3 (hiff.1 h).2.2.1
    rw [decide_eq_false c3] at hC
    subst f0
    clear h0 h1 hiff
    refine Fn.of_ex (cuts := []) tys hM Try.func77 rfl Try.call77 rfl ?_
    show exC Try.prog T [] _ false none 0 (entry 70 [netD F (ints bad) lot, ints w]) (finQ T [ResultVar.tmp 4] _)
    conv => whnf
    repeat' first | ((first | refine Ob.a ?_ | refine Sp.tt ?_ | refine Sp.ff ?_ | refine Sp.yes ?_ | refine Sp.no ?_ | refine Sp.nyes ?_ | refine Sp.nno ?_ | refine Fi.a ?_);conv=>whnf) | ((first | refine Sp.ne ?_ ?_ | refine Sp.dec ?_ ?_ | refine Sp.ndec ?_ ?_ | refine Sp.mk ?_ ?_) <;> intro hc <;> conv => whnf) | (apply Cl.go;(conv=>whnf); (first | refine Ob.call (hW) ?_ | refine Ob.call (hC) ?_);(conv=>whnf)) | (refine Ob.b ?_;conv=>whnf)
    all_goals first | exact Lf | (exfalso; omega)
  ·have f0 := h0 fun h => c2 (hiff.1 h).2.1
   rw [decide_eq_false c2] at hW
   subst f0
   clear h0 h1 hiff
   refine Fn.of_ex (cuts := []) tys hM Try.func77 rfl Try.call77 rfl ?_
   show exC Try.prog T [] _ false none 0 (entry 70 [netD F (ints bad) lot, ints w]) (finQ T [ResultVar.tmp 4] _)
   conv => whnf
   repeat' first | ((first | refine Ob.a ?_ | refine Sp.tt ?_ | refine Sp.ff ?_ | refine Sp.yes ?_ | refine Sp.no ?_ | refine Sp.nyes ?_ | refine Sp.nno ?_ | refine Fi.a ?_);conv=>whnf) | ((first | refine Sp.ne ?_ ?_ | refine Sp.dec ?_ ?_ | refine Sp.ndec ?_ ?_ | refine Sp.mk ?_ ?_) <;> intro hc <;> conv => whnf) | (apply Cl.go;(conv=>whnf); (first | refine Ob.call (hW) ?_);(conv=>whnf)) | (refine Ob.b ?_;conv=>whnf)
   all_goals first | exact Lf | (exfalso; omega)
 ·have f0 := h0 fun h => c1 (hiff.1 h).1
  subst f0
  clear h0 h1 hiff
  refine Fn.of_ex (cuts := []) tys hM Try.func77 rfl Try.call77 rfl ?_
  show exC Try.prog T [] _ false none 0 (entry 70 [netD F (ints bad) lot, ints w]) (finQ T [ResultVar.tmp 4] _)
  conv => whnf
  repeat' first | ((first | refine Ob.a ?_ | refine Sp.tt ?_ | refine Sp.ff ?_ | refine Sp.yes ?_ | refine Sp.no ?_ | refine Sp.nyes ?_ | refine Sp.nno ?_ | refine Fi.a ?_);conv=>whnf) | ((first | refine Sp.ne ?_ ?_ | refine Sp.dec ?_ ?_ | refine Sp.ndec ?_ ?_ | refine Sp.mk ?_ ?_) <;> intro hc <;> conv => whnf) | (refine Ob.b ?_;conv=>whnf)
  all_goals first | exact Lf | (exfalso; omega)
end Go.Px.Try

/-! Tp15 -/
namespace Go.Px.Try
open Go Go.Proofs Go.Px
set_option maxRecDepth 100000
theorem CheckWays1_spec (F : List (List Int)) (hs : SmallM F) (bad : List Int) (hbl : bad.length < 1000000) (lot : Int) (hk : BadOk F bad lot) (w : List Int) (hw : w.length < 1000000) :
  Fn Try.prog 76 [ints w, .pt (.ag 1 fun _ => netD F (ints bad) lot) 0] (bool (!decide (IsWayP F bad lot w))) := by
 have h := way_spec F hs bad hbl lot hk w hw
 generalize decide (IsWayP F bad lot w) = r at *
 refine Fn.of_ex (cuts := []) tys hM Try.func76 rfl Try.call76 rfl ?_
 show exC Try.prog T [] _ false none 0 (entry 8 [ints w, .pt (.ag 1 fun _ => netD F (ints bad) lot) 0]) (finQ T [ResultVar.tmp 3] _)
 conv => whnf
 repeat' first | ((first | refine Ob.a ?_ | refine Sp.tt ?_ | refine Sp.ff ?_ | refine Sp.yes ?_ | refine Sp.no ?_ | refine Sp.nyes ?_ | refine Sp.nno ?_ | refine Fi.a ?_);conv=>whnf) | ((first | refine Sp.ne ?_ ?_ | refine Sp.dec ?_ ?_ | refine Sp.ndec ?_ ?_ | refine Sp.mk ?_ ?_) <;> intro hc <;> conv => whnf) | (apply Cl.go;(conv=>whnf); (first | refine Ob.call (h) ?_);(conv=>whnf)) | (refine Ob.b ?_;conv=>whnf)
 all_goals exact Lf
/-- Which nodes ways before one have, and the first ones of that one. -/
def usK (ws : List (List Int)) (k t : Nat) : Nat → Bool := fun i => decide ((∃ j, j < k ∧ (i : Int) ∈ cutL (ws.getD j [])) ∨ (i : Int) ∈ (cutL (ws.getD k [])).take t)
theorem usK_zero {ws : List (List Int)} : usK ws 0 0 = fun _ => false := funext fun i => decide_eq_false (by simp)
theorem usK_next {ws : List (List Int)} {k t : Nat} (ht : (cutL (ws.getD k [])).length ≤ t) : usK ws k t = usK ws (k + 1) 0 := funext fun i => by
 unfold usK
 congr 1
 rw [List.take_of_length_le ht, eq_iff_iff]
 constructor
 ·rintro (⟨j, h1, h2⟩ | h)
  ·exact .inl ⟨j, by omega, h2⟩
  ·exact .inl ⟨k, by omega, h⟩
 ·rintro (⟨j, h1, h2⟩ | h)
  ·by_cases e : j = k
   ·subst e; exact .inr h2
   ·exact .inl ⟨j, by omega, h2⟩
  ·simp at h
theorem usK_mark {ws : List (List Int)} {k t : Nat} (ht : t < (cutL (ws.getD k [])).length) (h0 : 0 ≤ (cutL (ws.getD k [])).getD t 0) : usK ws k (t + 1) = mark (usK ws k t) ((cutL (ws.getD k [])).getD t 0).toNat := funext fun i => by
 unfold usK mark
 rw [take_succ_getD _ t 0 ht]
 by_cases e : i = ((cutL (ws.getD k [])).getD t 0).toNat
 ·rw [if_pos e]
  refine decide_eq_true (.inr (List.mem_append_right _ ?_))
  rw [e, Int.toNat_of_nonneg h0]; simp
 ·rw [if_neg e]
  congr 1
  rw [List.mem_append, List.mem_singleton, eq_iff_iff, show (((i : Int) = (cutL (ws.getD k [])).getD t 0) ↔ False) from ⟨fun h => e (by omega), False.elim⟩, or_false]
/-- A way's nodes are all different. -/
theorem way_inc {F : List (List Int)} {bad : List Int} {lot : Int} (hk : BadOk F bad lot) {w : List Int} (h : IsWayP F bad lot w) : ∀ j i, i < j → j < w.length → w.getD i 0 < w.getD j 0 := by
 intro j
 induction j with
 | zero => intro i hi; omega
 | succ j ih =>
  intro i hi hj
  obtain ⟨h1, h2⟩ := h.2.2.2 (j + 1) (by omega) hj
  have h3 := ((hk.mix.ris _ (by omega)).1 _ h2).2
  rw [Nat.add_sub_cancel] at h3
  by_cases e : i = j
  ·subst e; omega
  ·have := ih i (by omega) (by omega)
   omega
theorem cutL_len (w : List Int) : (cutL w).length = w.length - 1 := by
 unfold cutL
 rw [List.length_take]; omega
theorem usK_now {F : List (List Int)} {bad : List Int} {lot : Int} (hk : BadOk F bad lot) {ws : List (List Int)} {k t : Nat} (h : IsWayP F bad lot (ws.getD k [])) (ht : t < (ws.getD k []).length - 1) : usK ws k t ((ws.getD k []).getD t 0).toNat = true ↔ ∃ j, j < k ∧ (ws.getD k []).getD t 0 ∈ cutL (ws.getD j []) := by
 have h0 := (way_in hk h _ (getD_mem (show t < (ws.getD k []).length by omega) 0)).1
 unfold usK
 rw [decide_eq_true_eq, Int.toNat_of_nonneg h0]
 constructor
 ·rintro (h1 | h1)
  ·exact h1
  ·exfalso
   obtain ⟨i, hi, e⟩ := List.getElem_of_mem h1
   rw [List.length_take, cutL_len] at hi
   have e2 : (ws.getD k []).getD i 0 = (ws.getD k []).getD t 0 := by
    rw [← e, List.getElem_take, ← cutL_getD (by omega), List.getD_eq_getElem?_getD, List.getElem?_eq_getElem (by rw [cutL_len]; omega)]; rfl
   have := way_inc hk h t i (by omega) (by omega)
   omega
 ·exact .inl
theorem disT_succ {ws : List (List Int)} {k : Nat} (h : DisT ws k) (h2 : ∀ t, t < (cutL (ws.getD k [])).length → ¬ ∃ j, j < k ∧ (cutL (ws.getD k [])).getD t 0 ∈ cutL (ws.getD j [])) : DisT ws (k + 1) := by
 intro i hi j hj x hx
 by_cases e : i = k
 ·subst e
  intro hx2
  obtain ⟨t, ht, e⟩ := List.getElem_of_mem hx
  refine h2 t ht ⟨j, hj, ?_⟩
  have e2 : (cutL (ws.getD i [])).getD t 0 = x := by
   rw [List.getD_eq_getElem?_getD, List.getElem?_eq_getElem ht]; exact e
  rw [e2]; exact hx2
 ·exact h i (by omega) j hj x hx
/-- A way before one has a node. -/
def HadW (ws : List (List Int)) (k : Nat) (x : Int) : Prop := ∃ j, j < k ∧ x ∈ cutL (ws.getD j [])
set_option maxHeartbeats 16000000 in
theorem CheckWaysP_spec (F : List (List Int)) (hs : SmallM F) (bad : List Int) (hbl : bad.length < 1000000) (lot : Int) (ws : List (List Int)) (hws : ws.length < 1000000) (hw : ∀ w ∈ ws, w.length < 1000000) :
  Fn Try.prog 36 [mixD F, ints bad, int lot, slOf 1 ints [] ws] (tpl [int (if checkWaysR F bad lot ws = 0 then (ws.length : Int) else 0), int (checkWaysR F bad lot ws)]) := by
 by_cases h0 : badE F bad lot = 0
 ·have hk := badE_ok.1 h0
  have hO := opened_spec F hs bad hbl lot hk
  have hl10 := hk.mix.l10
  have hun : checkWaysR F bad lot ws = if ¬ ∀ w ∈ ws, IsWayP F bad lot w then 26 else if DisT ws ws.length then 0 else 16 := if_neg (by simp [h0])
  have hC := contains_ways1 ws 76 (fun _ => .pt (.ag 1 fun _ => netD F (ints bad) lot) 0) (fun w => !decide (IsWayP F bad lot w)) hws fun w h => CheckWays1_spec F hs bad hbl lot hk w (hw w h)
  by_cases hall : ∀ w ∈ ws, IsWayP F bad lot w
  ·rw [if_neg (not_not_intro hall)] at hun
   have hany : (ws.any fun w => !decide (IsWayP F bad lot w)) = false := by
    rw [List.any_eq_false]
    intro w h
    rw [decide_eq_true (hall w h)]; simp
   rw [hany] at hC
   have hall2 : ∀ k, k < ws.length → IsWayP F bad lot (ws.getD k []) := fun k h => hall _ (getD_mem h [])
   have hnow : ∀ (k t : Nat), k < ws.length → t < (ws.getD k []).length - 1 → (usK ws k t ((ws.getD k []).getD t 0).toNat = true ↔ HadW ws k ((ws.getD k []).getD t 0)) := fun (k t : Nat) (h : k < ws.length) (ht : t < (ws.getD k []).length - 1) => usK_now hk (t := t) (hall2 k h) ht
   have hrng := fun (k : Nat) (h : k < ws.length) => way_range hk (hall2 k h)
   have hwk := fun (k : Nat) (h : k < ws.length) => hw _ (getD_mem h [])
   obtain ⟨r, hr⟩ : ∃ r, checkWaysR F bad lot ws = r := ⟨_, rfl⟩
   rw [hr] at hun ⊢
   have hr0 : DisT ws ws.length → r = 0 := fun h => by rw [hun, if_pos h]
   have hr1 : ¬ DisT ws ws.length → r = 16 := fun h => by rw [hun, if_neg h]
   clear hall h0 hun hany hr
   refine Fn.of_ex (cuts := []) tys hM Try.func36 rfl Try.call36 rfl ?_
   show exC Try.prog T [] _ false none 0 (entry 57 [mixD F, ints bad, int lot, slOf 1 ints [] ws]) (finQ T [ResultVar.tmp 8, ResultVar.tmp 9] _)
   conv => whnf
   repeat' first | ((first | refine Ob.a ?_ | refine Sp.tt ?_ | refine Sp.ff ?_ | refine Sp.yes ?_ | refine Sp.no ?_ | refine Sp.nyes ?_ | refine Sp.nno ?_ | refine Fi.a ?_);conv=>whnf) | ((first | refine Sp.ne ?_ ?_ | refine Sp.dec ?_ ?_ | refine Sp.ndec ?_ ?_ | refine Sp.mk ?_ ?_) <;> intro hc <;> conv => whnf) | (apply Cl.nw;(conv=>whnf); (first | (refine Ob.nwX (hO) ?_ ?_ ?_;(focus exact Lf); (focus exact Lf)));(conv=>whnf)) | (apply Cl.go;(conv=>whnf); (first | refine Ob.call (hC) ?_);(conv=>whnf)) | (refine Ob.b ?_;conv=>whnf)
   all_goals try first | (exfalso; omega) | (rename_i hq; exact absurd rfl hq)
   refine Lp.snap [0, 1, 2, 3, 12, 31, 32, 55, 56] 40 ?_
   (conv=>whnf)
   refine LpB.go 57 ({k : Int // (0 ≤ k ∧ k ≤ ws.length) ∧ DisT ws k.toNat}) 0 (fun ⟨k, _⟩ nx => ([(33, .d (int k))], [(18, .row true 77 1 10 (rowF (usI (usK ws k.toNat 0))))])) (fun p => (ws.length - p.1).toNat) (⟨0, ⟨by omega, by omega⟩, fun i hi => by have : (0 : Int).toNat = 0 := rfl; omega⟩) ?_ ?_
   ·rintro ⟨k, ⟨k0, k1⟩, hinv⟩
    by_cases hk1 : k < ws.length
    ·have hwy := hall2 k.toNat (by omega)
     have hw2 := hwy.1
     have hwl := hwk k.toNat (by omega)
     have hrn := hrng k.toNat (by omega)
     have hnw := fun t ht => hnow k.toNat t (by omega) ht
     have hdn : (∀ t, t < (cutL (ws.getD k.toNat [])).length → ¬ HadW ws k.toNat ((cutL (ws.getD k.toNat [])).getD t 0)) → DisT ws (k + 1).toNat := fun h => by
      rw [show (k + 1).toNat = k.toNat + 1 by omega]; exact disT_succ hinv h
     have hdy : ∀ t, t < (ws.getD k.toNat []).length - 1 → HadW ws k.toNat ((ws.getD k.toNat []).getD t 0) → r = 16 := fun t ht ⟨j, hj, hx⟩ => hr1 fun hd => hd k.toNat (by omega) j hj ((ws.getD k.toNat []).getD t 0) (by rw [← cutL_getD ht]; exact getD_mem (by rw [cutL_len]; exact ht) 0) hx
     have hcl := cutL_len (ws.getD k.toNat [])
     conv => whnf
     repeat' first | ((first | refine Ob.a ?_ | refine Sp.tt ?_ | refine Sp.ff ?_ | refine Sp.yes ?_ | refine Sp.no ?_ | refine Sp.nyes ?_ | refine Sp.nno ?_ | refine Fi.a ?_);conv=>whnf) | ((first | refine Sp.ne ?_ ?_ | refine Sp.dec ?_ ?_ | refine Sp.ndec ?_ ?_ | refine Sp.mk ?_ ?_) <;> intro hc <;> conv => whnf) | (refine Ob.b ?_;conv=>whnf)
     all_goals try (exfalso; omega)
     refine Lp.snap [0, 1, 2, 3, 12, 14, 31, 32, 33, 35, 36, 37, 38, 39, 40, 41, 42, 54, 55, 56] 40 ?_
     (conv=>whnf)
     refine LpB.go 57 ({t : Int // (0 ≤ t ∧ t ≤ (ws.getD k.toNat []).length - 1) ∧ ∀ t', t' < t.toNat → ¬ HadW ws k.toNat ((cutL (ws.getD k.toNat [])).getD t' 0)}) 0 (fun ⟨t, _⟩ nx => ([(43, .d (int t))], [(18, .row true 77 1 10 (rowF (usI (usK ws k.toNat t.toNat))))])) (fun p => ((ws.getD k.toNat []).length - p.1).toNat) (⟨0, ⟨by omega, by omega⟩, fun i hi => by have : (0 : Int).toNat = 0 := rfl; omega⟩) ?_ ?_
     ·rintro ⟨t, ⟨t0, t1⟩, ht2⟩
      by_cases ht : t < (ws.getD k.toNat []).length - 1
      ·have hx := hrn _ (getD_mem (l := ws.getD k.toNat []) (i := t.toNat) (by omega) 0)
       have hnw := hnw t.toNat (by omega)
       have hdy := hdy t.toNat (by omega)
       have hcg := cutL_getD (w := ws.getD k.toNat []) (j := t.toNat) (by omega)
       have hu : usI (usK ws k.toNat t.toNat) (0 + ((ws.getD k.toNat []).getD t.toNat 0).toNat) = if usK ws k.toNat t.toNat ((ws.getD k.toNat []).getD t.toNat 0).toNat = true then 1 else 0 := by rw [Nat.zero_add]; rfl
       by_cases hd : HadW ws k.toNat ((ws.getD k.toNat []).getD t.toNat 0)
       ·have hrr := hdy hd
        rw [if_pos (hnw.2 hd)] at hu
        subst hrr
        clear hd hnw hdy
        conv => whnf
        repeat' first | ((first | refine Ob.a ?_ | refine Sp.tt ?_ | refine Sp.ff ?_ | refine Sp.yes ?_ | refine Sp.no ?_ | refine Sp.nyes ?_ | refine Sp.nno ?_ | refine Fi.a ?_);conv=>whnf) | ((first | refine Sp.ne ?_ ?_ | refine Sp.dec ?_ ?_ | refine Sp.ndec ?_ ?_ | refine Sp.mk ?_ ?_) <;> intro hc <;> conv => whnf) | (refine Ob.b ?_;conv=>whnf)
        all_goals first | exact Lf | (exfalso; omega)
       ·rw [if_neg fun h => hd (hnw.1 h)] at hu
        have hm := usK_mark (ws := ws) (k := k.toNat) (t := t.toNat) (by rw [hcl]; omega) (by rw [hcg]; omega)
        have e9 : ∀ j, j < 10 → usI (usK ws k.toNat (t + 1).toNat) j = if j = 0 + ((ws.getD k.toNat []).getD t.toNat 0).toNat then 1 else usI (usK ws k.toNat t.toNat) j := fun j _ => by
         rw [show (t + 1).toNat = t.toNat + 1 by omega, hm, hcg, Nat.zero_add]
         unfold usI mark
         by_cases h : j = ((ws.getD k.toNat []).getD t.toNat 0).toNat
         ·rw [if_pos h, if_pos h, if_pos rfl]
         ·rw [if_neg h, if_neg h]
        have e3 : ∀ t', t' < (t + 1).toNat → ¬ HadW ws k.toNat ((cutL (ws.getD k.toNat [])).getD t' 0) := fun t' h => by
         by_cases e : t' < t.toNat
         ·exact ht2 t' e
         ·obtain rfl : t' = t.toNat := by omega
          rw [hcg]; exact hd
        clear hd hnw hdy hm hcg
        conv => whnf
        repeat' first | ((first | refine Ob.a ?_ | refine Sp.tt ?_ | refine Sp.ff ?_ | refine Sp.yes ?_ | refine Sp.no ?_ | refine Sp.nyes ?_ | refine Sp.nno ?_ | refine Fi.a ?_);conv=>whnf) | ((first | refine Sp.ne ?_ ?_ | refine Sp.dec ?_ ?_ | refine Sp.ndec ?_ ?_ | refine Sp.mk ?_ ?_) <;> intro hc <;> conv => whnf) | (refine Ob.b ?_;conv=>whnf)
        all_goals try (exfalso; omega)
        all_goals (refine ⟨rfl, ⟨t + 1, ⟨by omega, by omega⟩, e3⟩, ?_, by simp only; omega⟩;(conv=>whnf); repeat' first | (refine Edge.fast ?_) | ((conv=>whnf); first | exact True.intro | (refine And.intro ?_ ?_) | exact rfl | exact Nat.le_of_eq (Nat.zero_add _) | exact ImpS.refl _ | ((conv => arg 1; whnf); first | exact ImpS.refl _ | (refine ImpS.nil_eq ?_) | (refine ImpS.vnil_eq ?_) | (refine ImpS.row ?_) | (refine ImpS.rowN ?_ ?_) | (refine ImpS.sl_eq ?_) | (refine ImpS.expl rfl ?_)) | (refine row_snoc' ?_) | exact MImp.refl _ | exact cimp_none | exact cimp_same | exact List.not_mem_nil | exact DImp.refl _) | exact rfl | (refine And.intro ?_ ?_) | exact ImpS.refl _)
        all_goals first | exact rowF_upd ⟨rfl, rfl⟩ e9
      ·have e := usK_next (ws := ws) (k := k.toNat) (t := t.toNat) (by rw [hcl]; omega)
       rw [show k.toNat + 1 = (k + 1).toNat by omega] at e
       have e9 : ∀ j, j < 10 → CImp (rowF (usI (usK ws k.toNat t.toNat)) j) (rowF (usI (usK ws (k + 1).toNat 0)) j) := fun j _ => by rw [e]; exact CImp.refl _
       have hd := hdn fun t' h => ht2 t' (by rw [hcl] at h; omega)
       clear e hdn
       conv => whnf
       repeat' first | ((first | refine Ob.a ?_ | refine Sp.tt ?_ | refine Sp.ff ?_ | refine Sp.yes ?_ | refine Sp.no ?_ | refine Sp.nyes ?_ | refine Sp.nno ?_ | refine Fi.a ?_);conv=>whnf) | ((first | refine Sp.ne ?_ ?_ | refine Sp.dec ?_ ?_ | refine Sp.ndec ?_ ?_ | refine Sp.mk ?_ ?_) <;> intro hc <;> conv => whnf) | (refine Ob.b ?_;conv=>whnf)
       all_goals (refine ⟨rfl, ⟨k + 1, ⟨by omega, by omega⟩, hd⟩, ?_, by simp only; omega⟩;(conv=>whnf); repeat' first | (refine Edge.fast ?_) | ((conv=>whnf); first | exact True.intro | (refine And.intro ?_ ?_) | exact rfl | exact Nat.le_of_eq (Nat.zero_add _) | exact ImpS.refl _ | ((conv => arg 1; whnf); first | exact ImpS.refl _ | (refine ImpS.nil_eq ?_) | (refine ImpS.vnil_eq ?_) | (refine ImpS.row ?_) | (refine ImpS.rowN ?_ ?_) | (refine ImpS.sl_eq ?_) | (refine ImpS.expl rfl ?_)) | (refine row_snoc' ?_) | exact MImp.refl _ | exact cimp_none | exact cimp_same | exact List.not_mem_nil | exact DImp.refl _) | exact rfl | (refine And.intro ?_ ?_) | exact ImpS.refl _)
       all_goals first | exact e9
     ·exact Lf
    ·have e : k.toNat = ws.length := by omega
     rw [e] at hinv
     have hrr := hr0 hinv
     subst hrr
     conv => whnf
     repeat' first | ((first | refine Ob.a ?_ | refine Sp.tt ?_ | refine Sp.ff ?_ | refine Sp.yes ?_ | refine Sp.no ?_ | refine Sp.nyes ?_ | refine Sp.nno ?_ | refine Fi.a ?_);conv=>whnf) | ((first | refine Sp.ne ?_ ?_ | refine Sp.dec ?_ ?_ | refine Sp.ndec ?_ ?_ | refine Sp.mk ?_ ?_) <;> intro hc <;> conv => whnf) | (refine Ob.b ?_;conv=>whnf)
     all_goals first | exact Lf
   ·have e9 : ∀ j, j < 10 → CImp (int 0) (rowF (usI (usK ws 0 0)) j) := fun j _ => by rw [usK_zero]; exact CImp.refl _
    conv => whnf
    repeat' first | (refine Edge.fast ?_) | ((conv=>whnf); first | exact True.intro | (refine And.intro ?_ ?_) | exact rfl | exact Nat.le_of_eq (Nat.zero_add _) | exact ImpS.refl _ | ((conv => arg 1; whnf); first | exact ImpS.refl _ | (refine ImpS.nil_eq ?_) | (refine ImpS.vnil_eq ?_) | (refine ImpS.row ?_) | (refine ImpS.rowN ?_ ?_) | (refine ImpS.sl_eq ?_) | (refine ImpS.expl rfl ?_)) | (refine row_snoc' ?_) | exact MImp.refl _ | exact cimp_none | exact cimp_same | exact List.not_mem_nil | exact DImp.refl _) | exact rfl | (refine And.intro ?_ ?_) | exact ImpS.refl _
    all_goals first | exact e9 | exact (fun j hj => by (have e := e9 j hj; unfold mid; rw [if_pos (by omega)]; exact e))
  ·have hun2 : checkWaysR F bad lot ws = 26 := by rw [hun, if_pos hall]
   have hany : (ws.any fun w => !decide (IsWayP F bad lot w)) = true := by
    rw [List.any_eq_true]
    refine Classical.byContradiction fun h => hall fun w hw' => Classical.byContradiction fun h2 => h ⟨w, hw', by rw [decide_eq_false h2]; rfl⟩
   rw [hany] at hC
   rw [hun2]
   clear hall h0 hun hun2 hany
   refine Fn.of_ex (cuts := []) tys hM Try.func36 rfl Try.call36 rfl ?_
   show exC Try.prog T [] _ false none 0 (entry 57 [mixD F, ints bad, int lot, slOf 1 ints [] ws]) (finQ T [ResultVar.tmp 8, ResultVar.tmp 9] _)
   conv => whnf
   repeat' first | ((first | refine Ob.a ?_ | refine Sp.tt ?_ | refine Sp.ff ?_ | refine Sp.yes ?_ | refine Sp.no ?_ | refine Sp.nyes ?_ | refine Sp.nno ?_ | refine Fi.a ?_);conv=>whnf) | ((first | refine Sp.ne ?_ ?_ | refine Sp.dec ?_ ?_ | refine Sp.ndec ?_ ?_ | refine Sp.mk ?_ ?_) <;> intro hc <;> conv => whnf) | (apply Cl.nw;(conv=>whnf); (first | (refine Ob.nwX (hO) ?_ ?_ ?_;(focus exact Lf); (focus exact Lf)));(conv=>whnf)) | (apply Cl.go;(conv=>whnf); (first | refine Ob.call (hC) ?_);(conv=>whnf)) | (refine Ob.b ?_;conv=>whnf)
   all_goals first | exact Lf | (exfalso; omega) | (rename_i hq; exact absurd rfl hq)
 ·have hO := opened_err F hs bad hbl lot h0
  have hun : checkWaysR F bad lot ws = badE F bad lot := if_pos h0
  rw [hun, if_neg h0]
  generalize badE F bad lot = k at *
  refine Fn.of_ex (cuts := []) tys hM Try.func36 rfl Try.call36 rfl ?_
  show exC Try.prog T [] _ false none 0 (entry 57 [mixD F, ints bad, int lot, slOf 1 ints [] ws]) (finQ T [ResultVar.tmp 8, ResultVar.tmp 9] _)
  conv => whnf
  repeat' first | ((first | refine Ob.a ?_ | refine Sp.tt ?_ | refine Sp.ff ?_ | refine Sp.yes ?_ | refine Sp.no ?_ | refine Sp.nyes ?_ | refine Sp.nno ?_ | refine Fi.a ?_);conv=>whnf) | ((first | refine Sp.ne ?_ ?_ | refine Sp.dec ?_ ?_ | refine Sp.ndec ?_ ?_ | refine Sp.mk ?_ ?_) <;> intro hc <;> conv => whnf) | (apply Cl.go;(conv=>whnf); (first | refine Ob.call (hO) ?_);(conv=>whnf)) | (refine Ob.b ?_;conv=>whnf)
  all_goals first | exact Lf | (exfalso; omega)
end Go.Px.Try

/-! Tp16 -/
namespace Go.Px.Try
open Go Go.Proofs Go.Px
set_option maxRecDepth 100000
set_option maxHeartbeats 8000000 in
theorem WaysP_spec (F : List (List Int)) (hs : SmallM F) (bad : List Int) (hbl : bad.length < 1000000) (lot : Int) : Fn Try.prog 38 [mixD F, ints bad, int lot] (tpl [slOf 1 ints [] (if badE F bad lot = 0 then waysL F bad [] lot F.length else []), int (badE F bad lot)]) := by
 by_cases h0 : badE F bad lot = 0
 ·have hk := badE_ok.1 h0
  have hO := opened_spec F hs bad hbl lot hk
  have hl10 := hk.mix.l10
  have hW := ways_spec F hs bad lot hk hbl [] (by simp) (by simp) F.length (by omega)
  rw [if_pos h0, h0]
  generalize waysL F bad [] lot F.length = ws at *
  clear h0
  refine Fn.of_ex (cuts := []) tys hM Try.func38 rfl Try.call38 rfl ?_
  show exC Try.prog T [] _ false none 0 (entry 25 [mixD F, ints bad, int lot]) (finQ T [ResultVar.tmp 6, ResultVar.tmp 7] _)
  conv => whnf
  repeat' first | ((first | refine Ob.a ?_ | refine Sp.tt ?_ | refine Sp.ff ?_ | refine Sp.yes ?_ | refine Sp.no ?_ | refine Sp.nyes ?_ | refine Sp.nno ?_ | refine Fi.a ?_);conv=>whnf) | ((first | refine Sp.ne ?_ ?_ | refine Sp.dec ?_ ?_ | refine Sp.ndec ?_ ?_ | refine Sp.mk ?_ ?_) <;> intro hc <;> conv => whnf) | (apply Cl.nw;(conv=>whnf); (first | (refine Ob.nwX (hO) ?_ ?_ ?_;(focus exact Lf); (focus exact Lf)));(conv=>whnf)) | (apply Cl.go;(conv=>whnf); (first | refine Ob.call (hW) ?_);(conv=>whnf)) | (refine Ob.b ?_;conv=>whnf)
  all_goals first | exact Lf | (exfalso; omega) | (rename_i hq; exact absurd rfl hq)
 ·have hO := opened_err F hs bad hbl lot h0
  rw [if_neg h0]
  generalize badE F bad lot = k at *
  refine Fn.of_ex (cuts := []) tys hM Try.func38 rfl Try.call38 rfl ?_
  show exC Try.prog T [] _ false none 0 (entry 25 [mixD F, ints bad, int lot]) (finQ T [ResultVar.tmp 6, ResultVar.tmp 7] _)
  conv => whnf
  repeat' first | ((first | refine Ob.a ?_ | refine Sp.tt ?_ | refine Sp.ff ?_ | refine Sp.yes ?_ | refine Sp.no ?_ | refine Sp.nyes ?_ | refine Sp.nno ?_ | refine Fi.a ?_);conv=>whnf) | ((first | refine Sp.ne ?_ ?_ | refine Sp.dec ?_ ?_ | refine Sp.ndec ?_ ?_ | refine Sp.mk ?_ ?_) <;> intro hc <;> conv => whnf) | (apply Cl.go;(conv=>whnf); (first | refine Ob.call (hO) ?_);(conv=>whnf)) | (refine Ob.b ?_;conv=>whnf)
  all_goals first | exact Lf | (exfalso; omega)
end Go.Px.Try

/-! Tq1 -/
namespace Go.Px.Try
open Go Go.Proofs Go.Px
set_option maxRecDepth 100000
/-- How many nodes a shortest cut has; the first one; as many ways apart. -/
def lam0 (F : List (List Int)) (bad : List Int) (lot : Int) : Nat := lamW F (inZ bad) lot.toNat (inZ [])
def cutI (F : List (List Int)) (bad : List Int) (lot : Int) : List Int := zl (cutP F bad lot)
def wysI (F : List (List Int)) (bad : List Int) (lot : Int) : List (List Int) := waysL F bad [] lot F.length
theorem rs_cnt {L : List Int} {n : Nat} (h : rsL L n) : cntS (inZ L) n = L.length := by
 conv => rhs; rw [lst_of_inc h.1 h.2]
 rw [lst_cnt]; rfl
theorem fr_bad {F : List (List Int)} (h : MixOk F) {B W : Nat → Bool} (hB : ∀ i, B i = true → W i = true) : ∀ i, i < F.length → fr F B W i = false := by
 intro i
 induction i using Nat.strongRecOn with
 | ind i ih =>
  intro hi
  cases e : fr F B W i with
  | false => rfl
  | true =>
   obtain ⟨h1, h2⟩ := (fr_true h hi).1 e
   rcases h2 with ⟨_, h2⟩ | ⟨k, hk, h2⟩
   ·rw [hB i h2] at h1; cases h1
   ·have := (h.ris i hi).1 _ hk
    rw [ih k (by omega) (by omega)] at h2; cases h2
section
variable {F : List (List Int)} {bad : List Int} {lot : Int} (hk : BadOk F bad lot)
include hk
theorem hkl : lot.toNat < F.length := by have := hk.l0; have := hk.l1; omega
theorem hkb : ∀ i, inZ bad i = true → frm F i = [] := fun i hi => hk.sk i (of_decide_eq_true hi)
theorem hklam (W : Nat → Bool) (h : W lot.toNat = false) : Lam F (inZ bad) lot.toNat W (lamW F (inZ bad) lot.toNat W) := lam_is hk.mix (hkl hk) hk.ne (hkb hk) h
theorem lam_low {X : Nat → Bool} (h1 : X lot.toNat = false) (h2 : fr F (inZ bad) X lot.toNat = false) : (lam0 F bad lot : Int) ≤ cntS X F.length := by
 refine (hklam hk (inZ []) (by rw [nil_inZ])).low X h1 ?_
 exact (fr_same (W' := X) fun i => by rw [nil_inZ]; simp).trans h2
theorem cut_inv : GInv F (inZ bad) lot.toNat (lamW F (inZ bad) lot.toNat) (lam0 F bad lot) F.length (cutP F bad lot) 0 ∧ MinCut F (inZ bad) lot.toNat (lam0 F bad lot) (inS (cutP F bad lot)) := by
 have h := grdy_ok (F := F) (bad := inZ bad) (lot := lot.toNat) (lam := lamW F (inZ bad) lot.toNat) (m := lam0 F bad lot) (fun W h => hklam hk W h) (by unfold lam0; rw [nil_inZ]) F.length (Nat.le_refl _)
 have h2 := grdy_end (fun W h => hklam hk W h) (by unfold lam0; rw [nil_inZ]) h
 have e : (grdy (lamW F (inZ bad) lot.toNat) lot.toNat (lam0 F bad lot) F.length).1 = cutP F bad lot := rfl
 rw [h2.1, e] at h
 rw [e] at h2
 exact ⟨h, h2.2⟩
theorem cut_mem {x : Int} (h : x ∈ cutI F bad lot) : 0 ≤ x ∧ x < F.length ∧ x ≠ lot := by
 obtain ⟨k, h1, rfl⟩ := List.mem_map.1 h
 have := (cut_inv hk).1.lt k h1
 have := hk.l0
 omega
theorem cut_ris : rsL (cutI F bad lot) F.length := by
 refine ⟨fun x hx => by have := cut_mem hk hx; omega, ?_⟩
 unfold cutI zl
 rw [List.pairwise_map]
 exact (cut_inv hk).1.inc.imp fun h => by omega
theorem cut_len : (cutI F bad lot).length = lam0 F bad lot := by
 have := (cut_inv hk).1.len
 unfold cutI; rw [zl_len]; omega
theorem cut_cut : fr F (inZ bad) (inZ (cutI F bad lot)) lot.toNat = false := by
 unfold cutI
 rw [inZ_zl]; exact (cut_inv hk).2.cut
theorem cut_not : lot ∉ cutI F bad lot := fun h => (cut_mem hk h).2.2 rfl
theorem checkCut_cut : checkCutR F bad lot (cutI F bad lot) = 0 := by
 unfold checkCutR
 rw [if_neg (by simp [badE_ok.2 hk]), if_neg (fun h => h.elim (fun h => h (cut_ris hk)) (cut_not hk)), if_neg (by rw [cut_cut hk]; simp)]
theorem lam_bad : lam0 F bad lot ≤ bad.length := by
 have h := lam_low hk (X := inZ bad) (bad_lot hk.mix (hkl hk) hk.ne (hkb hk)) (fr_bad hk.mix (fun _ h => h) _ (hkl hk))
 rw [rs_cnt hk.ris] at h
 omega
theorem lam_cut {L : List Int} (h : checkCutR F bad lot L = 0) : lam0 F bad lot ≤ L.length := by
 unfold checkCutR at h
 rw [if_neg (by simp [badE_ok.2 hk])] at h
 split at h
 ·cases h
 ·rename_i h1
  split at h
  ·cases h
  ·rename_i h2
   have h3 : rsL L F.length := Classical.byContradiction fun h3 => h1 (.inl h3)
   have h4 : lot ∉ L := fun h4 => h1 (.inr h4)
   have h5 := lam_low hk (X := inZ L) (decide_eq_false (by rw [Int.toNat_of_nonneg hk.l0]; exact h4)) (by simpa using h2)
   rw [rs_cnt h3] at h5
   omega
theorem cutOf_ref (hbl : bad.length ≤ 1000) : Fn Try.prog 73 [mixD F, ints bad, int lot] (ints (cutI F bad lot)) := by
 refine CutOf_spec F bad lot hk (lam0 F bad lot) (cutP F bad lot) (lam_bad hk) hbl (fun m hm => ?_) ?_
 ·cases e : grwR F (inZ bad) lot.toNat m F.length [] 0 with
  | none => rfl
  | some l =>
   exfalso
   obtain ⟨_, a2, a3, a4, a5⟩ := grwR_some F.length [] 0 l e List.Pairwise.nil (by simp)
   have h := lam_low hk (X := inS l) (inS_not.2 fun h => (a5 _ h).2 rfl) a3
   rw [cnt_list (nodup_inc a4) fun k hkk => by have := (a5 k hkk).1; omega, a2] at h
   omega
 ·have h := grwR_grdy (F := F) (bad := inZ bad) (lot := lot.toNat) (lam := lamW F (inZ bad) lot.toNat) (m := lam0 F bad lot) (o := cutP F bad lot) (fun W h => hklam hk W h) (by unfold lam0; rw [nil_inZ]) (cut_inv hk).1 (cut_inv hk).2 F.length 0 (by omega)
  have e : (cutP F bad lot).filter (fun k => decide (k < 0)) = [] := List.filter_eq_nil_iff.2 fun a _ => by simp
  rw [e] at h
  exact h
/-! ### Ways apart -/
theorem wys_len : (wysI F bad lot).length = lam0 F bad lot := ways_len hk (W := []) (by simp) F.length
theorem way_last {w : List Int} (h : IsWayP F bad lot w) : w.getLast? = some lot := by
 have _ := hk
 have h1 := h.1
 have h2 := h.2.2.1
 rw [List.getLast?_eq_getElem?]
 rw [List.getD_eq_getElem?_getD] at h2
 cases e : w[w.length - 1]? with
 | none => rw [List.getElem?_eq_none_iff] at e; omega
 | some x => rw [e] at h2; exact congrArg some h2
/-- A bad way with no node of a set, but for the last one, is free of it. -/
theorem way_hit {w : List Int} (h : IsWayP F bad lot w) {X : Nat → Bool} (hX : fr F (inZ bad) X lot.toNat = false) (hl : X lot.toNat = false) : ∃ x ∈ cutL w, X x.toNat = true := by
 refine Classical.byContradiction fun hn => ?_
 have h1 := h.1
 have hno : ∀ j, j < w.length - 1 → X (w.getD j 0).toNat = false := fun j hj => by
  cases e : X (w.getD j 0).toNat with
  | false => rfl
  | true => exact absurd ⟨_, (by rw [← cutL_getD hj]; exact getD_mem (by rw [cutL_len]; exact hj) 0), e⟩ hn
 have hr := way_range hk h
 have key : ∀ j, j < w.length → fr F (inZ bad) X (w.getD j 0).toNat = true := by
  intro j
  induction j with
  | zero =>
   intro hj
   have hb := h.2.1
   have hr0 := hk.ris.1 _ hb
   exact (fr_true hk.mix (by omega)).2 ⟨hno 0 (by omega), .inl ⟨hk.sk _ hb, decide_eq_true (by rw [Int.toNat_of_nonneg hr0.1]; exact hb)⟩⟩
  | succ j ih =>
   intro hj
   obtain ⟨h2, h3⟩ := h.2.2.2 (j + 1) (by omega) hj
   rw [Nat.add_sub_cancel] at h3
   have hr0 := (hk.mix.ris _ (by omega)).1 _ h3
   refine (fr_true hk.mix (by omega)).2 ⟨?_, .inr ⟨(w.getD j 0).toNat, by rw [Int.toNat_of_nonneg hr0.1]; exact h3, ih (by omega)⟩⟩
   by_cases e : j + 1 = w.length - 1
   ·rw [e, h.2.2.1]; exact hl
   ·exact hno (j + 1) (by omega)
 have h2 := key (w.length - 1) (by omega)
 rw [h.2.2.1, hX] at h2; cases h2
theorem mem_cut {w : List Int} (h : IsWayP F bad lot w) {x : Int} (hx : x ∈ w) (hn : x ≠ lot) : x ∈ cutL w := by
 have _ := hk
 obtain ⟨j, hj, rfl⟩ := mem_getD (d := 0) hx
 have hjl : j < w.length - 1 := by
  by_cases e : j = w.length - 1
  ·rw [e] at hn; exact absurd h.2.2.1 hn
  ·omega
 rw [← cutL_getD hjl]
 exact getD_mem (by rw [cutL_len]; exact hjl) 0
theorem cut_lt {w : List Int} (h : IsWayP F bad lot w) {x : Int} (hx : x ∈ cutL w) : x < lot := by
 obtain ⟨j, hj, rfl⟩ := mem_getD (d := 0) hx
 rw [cutL_len] at hj
 rw [cutL_getD hj, ← h.2.2.1]
 exact way_inc hk h _ _ (by omega) (by omega)
/-- There are no more ways apart than a shortest cut has nodes. -/
theorem ways_le {ws : List (List Int)} (h : checkWaysR F bad lot ws = 0) : ws.length ≤ lam0 F bad lot := by
 unfold checkWaysR at h
 rw [if_neg (by simp [badE_ok.2 hk])] at h
 split at h
 ·cases h
 ·rename_i hall
  have hall := Decidable.not_not.1 hall
  split at h
  ·rename_i hd
   obtain ⟨_, hM⟩ := cut_inv hk
   have hXl : inS (cutP F bad lot) lot.toNat = false := by
    cases e : inS (cutP F bad lot) lot.toNat with
    | false => rfl
    | true => exact absurd rfl (hM.in' _ e).2
   have h1 := hit_cnt (n := F.length) (lot := lot.toNat) (ws.map fun w => w.map Int.toNat) (inS (cutP F bad lot)) ?_ fun w hw => ?_
   ·rw [hM.cnt, List.length_map] at h1
    omega
   ·rw [List.pairwise_map, List.pairwise_iff_getElem]
    intro i j hi hj hij k h2 h3
    refine Classical.byContradiction fun hne => ?_
    obtain ⟨x, hx, rfl⟩ := List.mem_map.1 h2
    obtain ⟨y, hy, e⟩ := List.mem_map.1 h3
    have ex := way_range hk (hall _ (List.getElem_mem hi)) x hx
    have ey := way_range hk (hall _ (List.getElem_mem hj)) y hy
    have hxy : y = x := by omega
    subst hxy
    have hnl : y ≠ lot := fun e => hne (by rw [e])
    have m1 := mem_cut hk (hall _ (List.getElem_mem hi)) hx hnl
    have m2 := mem_cut hk (hall _ (List.getElem_mem hj)) hy hnl
    have h4 := hd j hj i hij y
    rw [List.getD_eq_getElem?_getD, List.getElem?_eq_getElem hj, List.getD_eq_getElem?_getD, List.getElem?_eq_getElem hi] at h4
    exact h4 m2 m1
   ·obtain ⟨v, hv, rfl⟩ := List.mem_map.1 hw
    obtain ⟨x, hx, h2⟩ := way_hit hk (hall v hv) hM.cut hXl
    exact ⟨x.toNat, List.mem_map.2 ⟨x, cutL_mem hx, rfl⟩, h2, (hM.in' _ h2).1, (hM.in' _ h2).2⟩
  ·cases h
theorem ways_fg : FG F (inZ bad) (inZ []) lot.toNat (gOf (flowN F (inZ bad) (inZ []) lot.toNat (fdN F (inZ bad) (inZ []) lot.toNat F.length 0))) (sOf (flowN F (inZ bad) (inZ []) lot.toNat (fdN F (inZ bad) (inZ []) lot.toNat F.length 0))) (fdN F (inZ bad) (inZ []) lot.toNat F.length 0) := by
 have hm := hk.mix
 have hlt := hkl hk
 have hbad := hkb hk
 have hWf : inZ [] lot.toNat = false := decide_eq_false (by simp)
 obtain ⟨h1, _⟩ := fdN_spec hm hlt hk.ne hbad hWf F.length 0 fun j hj => by omega
 exact fg_of hm (flowN_ok hm hlt hk.ne hbad _ h1) hlt (bad_lot hm hlt hk.ne hbad)
omit hk in
theorem gW_getD {g : Nat → Nat → Bool} : ∀ {w : List Nat} {j : Nat}, gW g w → j + 1 < w.length → g (w.getD j 0) (w.getD (j + 1) 0) = true
 | [], _, _, h => by simp at h
 | [a], _, _, h => by simp at h
 | a :: b :: l, 0, h, _ => h.1
 | a :: b :: l, j + 1, h, hj => gW_getD (w := b :: l) (j := j) h.2 (by simpa using hj)
theorem wys_way : ∀ w ∈ wysI F bad lot, IsWayP F bad lot w ∧ w.length ≤ F.length := by
 intro w hw
 have hG := ways_fg hk
 have hI := ways_inv hk (W := []) (by simp) F.length
 obtain ⟨v, hv, rfl⟩ := List.mem_map.1 hw
 obtain ⟨a1, a2, a3, a4, a5⟩ := hI.way v hv
 have l0 := hk.l0
 have hlast : v.getD (v.length - 1) 0 = lot.toNat := by
  rw [List.getLast?_eq_getElem?] at a2
  rw [List.getD_eq_getElem?_getD, a2]; rfl
 have hch : ∀ j, j + 1 < v.length → v.getD (j + 1) 0 < F.length ∧ ((v.getD j 0 : Nat) : Int) ∈ frm F (v.getD (j + 1) 0) := fun j hj => by
  have := hG.ge (gW_getD a1 hj)
  exact ⟨this.1, this.2.1⟩
 have hlt : ∀ y ∈ v, y < F.length := fun y hy => by
  obtain ⟨j, hj, rfl⟩ := mem_getD (d := 0) hy
  by_cases e : j + 1 < v.length
  ·have := hch j e
   have := (hk.mix.ris _ this.1).1 _ this.2
   omega
  ·rw [show j = v.length - 1 by omega, hlast]; exact hkl hk
 refine ⟨⟨by rw [zl_len]; exact a3, ?_, ?_, fun j h1 h2 => ?_⟩, ?_⟩
 ·rw [zl_getD]
  have h2 := hG.se a4
  have e : v.headD 0 = v.getD 0 0 := by cases v <;> rfl
  rw [e] at h2
  exact of_decide_eq_true h2
 ·rw [zl_getD, zl_len, hlast]; omega
 ·rw [zl_len] at h2
  rw [zl_getD, zl_getD, Int.toNat_natCast]
  have := hch (j - 1) (by omega)
  rw [Nat.sub_add_cancel h1] at this
  exact ⟨⟨by omega, by omega⟩, this.2⟩
 ·rw [zl_len]
  exact nodup_lt (a5.imp fun h => by omega) hlt
theorem wys_check : checkWaysR F bad lot (wysI F bad lot) = 0 := by
 unfold checkWaysR
 have hI := ways_inv hk (W := []) (by simp) F.length
 rw [if_neg (by simp [badE_ok.2 hk]), if_neg (not_not_intro fun w hw => (wys_way hk w hw).1), if_pos]
 intro i hi j hj x h1 h2
 have hi' : i < (wysI F bad lot).length := hi
 have w1 := (wys_way hk _ (getD_mem (l := wysI F bad lot) (i := i) hi [])).1
 have w2 := (wys_way hk _ (getD_mem (l := wysI F bad lot) (i := j) (by omega) [])).1
 have hap := hI.apart
 rw [List.pairwise_iff_getElem] at hap
 have hlen : (waysGo F (gOf (flowN F (inZ bad) (inZ []) lot.toNat (fdN F (inZ bad) (inZ []) lot.toNat F.length 0))) (sOf (flowN F (inZ bad) (inZ []) lot.toNat (fdN F (inZ bad) (inZ []) lot.toNat F.length 0))) lot.toNat (fdN F (inZ bad) (inZ []) lot.toNat F.length 0)).1.length = (wysI F bad lot).length := by unfold wysI waysL; rw [List.length_map]
 have hget : ∀ t (ht : t < (wysI F bad lot).length), (wysI F bad lot).getD t [] = zl ((waysGo F (gOf (flowN F (inZ bad) (inZ []) lot.toNat (fdN F (inZ bad) (inZ []) lot.toNat F.length 0))) (sOf (flowN F (inZ bad) (inZ []) lot.toNat (fdN F (inZ bad) (inZ []) lot.toNat F.length 0))) lot.toNat (fdN F (inZ bad) (inZ []) lot.toNat F.length 0)).1[t]'(by omega)) := fun t ht => by
  unfold wysI waysL
  rw [List.getD_eq_getElem?_getD, List.getElem?_map, List.getElem?_eq_getElem (by omega)]; rfl
 have x1 := cutL_mem h1
 have x2 := cutL_mem h2
 rw [hget i hi] at x1
 rw [hget j (by omega)] at x2
 obtain ⟨p, hp, rfl⟩ := List.mem_map.1 x1
 obtain ⟨q, hq, e⟩ := List.mem_map.1 x2
 have e : q = p := by omega
 subst e
 have h3 := hap j i (by omega) (by omega) hj q hq hp
 have := cut_lt hk w1 h1
 have := hk.l0
 omega
end
end Go.Px.Try

/-! Tm13 -/
namespace Go.Px.Try
open Go Go.Proofs Go.Px
/-! ### Fractions in least terms -/
theorem frac_eq {a b u D : Nat} (hb : 0 < b) (hD : 0 < D) (h : a * D = u * b) : a / a.gcd b = u / u.gcd D ∧ b / a.gcd b = D / u.gcd D := by
 have g1 : 0 < a.gcd b := Nat.gcd_pos_of_pos_right _ hb
 have g2 : 0 < u.gcd D := Nat.gcd_pos_of_pos_right _ hD
 have e : D * a.gcd b = b * u.gcd D := by
  rw [← Nat.gcd_mul_left, ← Nat.gcd_mul_left, Nat.mul_comm D a, h, Nat.mul_comm u b, Nat.mul_comm D b]
 obtain ⟨a', ha⟩ := Nat.gcd_dvd_left a b
 obtain ⟨b', hb'⟩ := Nat.gcd_dvd_right a b
 obtain ⟨u', hu⟩ := Nat.gcd_dvd_left u D
 obtain ⟨D', hd⟩ := Nat.gcd_dvd_right u D
 generalize a.gcd b = g at *
 generalize u.gcd D = k at *
 subst ha hb' hu hd
 rw [Nat.mul_div_cancel_left _ g1, Nat.mul_div_cancel_left _ g2, Nat.mul_div_cancel_left _ g1, Nat.mul_div_cancel_left _ g2]
 have e2 : D' = b' := by
  have : (k * g) * D' = (k * g) * b' := by rw [Nat.mul_right_comm] at e; rw [e]; rw [Nat.mul_right_comm, Nat.mul_comm g k]
  exact Nat.eq_of_mul_eq_mul_left (Nat.mul_pos g2 g1) this
 subst e2
 refine ⟨?_, rfl⟩
 have hp : 0 < D' := by
  cases D' with
  | zero => simp at hD
  | succ n => omega
 have : (k * g * D') * a' = (k * g * D') * u' := by
  have h1 : g * a' * (k * D') = k * g * D' * a' := by
   rw [Nat.mul_mul_mul_comm, Nat.mul_comm a' D', ← Nat.mul_assoc, Nat.mul_comm g k]
  have h2 : k * u' * (g * D') = k * g * D' * u' := by
   rw [Nat.mul_mul_mul_comm, Nat.mul_comm u' D', ← Nat.mul_assoc]
  rw [← h1, ← h2, h]
 exact Nat.eq_of_mul_eq_mul_left (Nat.mul_pos (Nat.mul_pos g2 g1) hp) this
/-- w parts of D, in least terms. -/
def red (D w : Int) : Int × Int := (((w.toNat / w.toNat.gcd D.toNat : Nat) : Int), ((D.toNat / w.toNat.gcd D.toNat : Nat) : Int))
theorem red_pos {D w : Int} (hD : 0 < D) : 0 ≤ (red D w).1 ∧ 1 ≤ (red D w).2 ∧ (red D w).2 ≤ D := by
 have g : 0 < w.toNat.gcd D.toNat := Nat.gcd_pos_of_pos_right _ (by omega)
 have h1 : w.toNat.gcd D.toNat ≤ D.toNat := Nat.gcd_le_right _ (by omega)
 have h2 : 0 < D.toNat / w.toNat.gcd D.toNat := Nat.div_pos h1 g
 have h3 := Nat.div_le_self D.toNat (w.toNat.gcd D.toNat)
 refine ⟨Int.natCast_nonneg _, ?_, ?_⟩ <;> (show _ ≤ _; unfold red; simp only; omega)
theorem red_le {D w : Int} : (red D w).1 ≤ w.toNat := by
 have h3 := Nat.div_le_self w.toNat (w.toNat.gcd D.toNat)
 unfold red; simp only; omega
theorem red_mul {D w : Int} (hD : 0 < D) (hw : 0 ≤ w) : (red D w).1 * D = w * (red D w).2 := by
 obtain ⟨a, ha⟩ := Nat.gcd_dvd_left w.toNat D.toNat
 obtain ⟨b, hb⟩ := Nat.gcd_dvd_right w.toNat D.toNat
 have g : 0 < w.toNat.gcd D.toNat := Nat.gcd_pos_of_pos_right _ (by omega)
 unfold red
 simp only
 have e1 : ((w.toNat : Nat) : Int) = w := Int.toNat_of_nonneg hw
 have e2 : ((D.toNat : Nat) : Int) = D := Int.toNat_of_nonneg (by omega)
 generalize w.toNat.gcd D.toNat = k at *
 rw [← e1, ← e2, ← Int.natCast_mul, ← Int.natCast_mul]
 refine congrArg Int.ofNat ?_
 rw [ha, hb, Int.toNat_natCast, Int.toNat_natCast, Nat.mul_div_cancel_left _ g, Nat.mul_div_cancel_left _ g]
 simp only [Nat.mul_left_comm, Nat.mul_comm]
theorem red_zero {D : Int} (hD : 0 < D) : red D 0 = (0, 1) := by
 unfold red
 rw [show (0 : Int).toNat = 0 from rfl, Nat.gcd_zero_left, Nat.zero_div, Nat.div_self (by omega)]
 rfl
theorem red_self {D : Int} (hD : 0 < D) : red D D = (1, 1) := by
 unfold red
 rw [Nat.gcd_self, Nat.div_self (by omega)]
 rfl
/-- A fraction that is as great as u parts of D, made out in least terms. -/
theorem red_of {D u a b : Int} (hD : 0 < D) (hu : 0 ≤ u) (ha : 0 ≤ a) (hb : 0 < b) (h : a * D = u * b) : (((a.toNat / a.toNat.gcd b.toNat : Nat) : Int), ((b.toNat / a.toNat.gcd b.toNat : Nat) : Int)) = red D u := by
 have h1 : a.toNat * D.toNat = u.toNat * b.toNat := by
  refine Int.ofNat.inj ?_
  show ((a.toNat * D.toNat : Nat) : Int) = ((u.toNat * b.toNat : Nat) : Int)
  rw [Int.natCast_mul, Int.natCast_mul, Int.toNat_of_nonneg ha, Int.toNat_of_nonneg hu, Int.toNat_of_nonneg (by omega), Int.toNat_of_nonneg (by omega)]
  exact h
 obtain ⟨e1, e2⟩ := frac_eq (by omega) (by omega) h1
 unfold red
 rw [e1, e2]
theorem plus_eq {D w v x y : Int} (hw : 0 ≤ w) (hD : 0 < D) (hxy : x * D = v * y) : ((red D w).1 * y + x * (red D w).2) * D = (w + v) * ((red D w).2 * y) := by
 have h := red_mul hD hw
 generalize red D w = r at *
 rw [Int.add_mul, Int.mul_right_comm, h, Int.mul_right_comm x, hxy, Int.add_mul, Int.mul_assoc, Int.mul_assoc, Int.mul_comm y r.2]
/-! ### The sizes of lists -/
def szN (F : List (List Int)) (i : Nat) : Int := ((max 1 (frm F i).length : Nat) : Int)
def prE (F : List (List Int)) : Nat → Int
 | 0 => 1
 | n + 1 => prE F n * szN F n
theorem sz_pos (F : List (List Int)) (i : Nat) : 1 ≤ szN F i := by unfold szN; omega
theorem pr_pos (F : List (List Int)) : ∀ n, 0 < prE F n
 | 0 => (by decide : (0 : Int) < 1)
 | n + 1 => Int.mul_pos (pr_pos F n) (by have := sz_pos F n; omega)
theorem pr_dvd (F : List (List Int)) {n : Nat} : ∀ {m}, n ≤ m → prE F n ∣ prE F m
 | 0, h => by rw [show n = 0 by omega]; exact Int.dvd_refl _
 | m + 1, h => by
  by_cases e : n = m + 1
  ·rw [e]; exact Int.dvd_refl _
  ·exact Int.dvd_trans (pr_dvd F (m := m) (by omega)) (Int.dvd_mul_right _ _)
def facI : Nat → Int
 | 0 => 1
 | n + 1 => facI n * ((max 1 n : Nat) : Int)
theorem fac_pos : ∀ n, 1 ≤ facI n
 | 0 => by decide
 | n + 1 => by
  have := fac_pos n
  have : facI n * 1 ≤ facI n * ((max 1 n : Nat) : Int) := Int.mul_le_mul_of_nonneg_left (by omega) (by omega)
  rw [facI]; omega
theorem fac_le {n m : Nat} (h : n ≤ m) : facI n ≤ facI m := by
 induction m with
 | zero => rw [show n = 0 by omega]; exact Int.le_refl _
 | succ m ih =>
  by_cases e : n = m + 1
  ·rw [e]; exact Int.le_refl _
  ·have h1 := ih (by omega)
   have h2 := fac_pos m
   have : facI m * 1 ≤ facI m * ((max 1 m : Nat) : Int) := Int.mul_le_mul_of_nonneg_left (by omega) (by omega)
   rw [facI]; omega
theorem frm_len' {F : List (List Int)} (h : MixOk F) {i : Nat} (hi : i < F.length) : (frm F i).length ≤ i := by
 rw [lst_of_inc (h.ris i hi).1 (h.ris i hi).2]; exact lst_length_le _ _
theorem pr_fac {F : List (List Int)} (h : MixOk F) : ∀ n, n ≤ F.length → prE F n ≤ facI n
 | 0, _ => Int.le_refl _
 | n + 1, hn => by
  have h1 := pr_fac h n (by omega)
  have h2 := frm_len' h (i := n) (by omega)
  have h3 := pr_pos F n
  rw [prE, facI]
  exact Int.mul_le_mul h1 (by unfold szN; omega) (by unfold szN; omega) (by have := fac_pos n; omega)
theorem pr_le {F : List (List Int)} (h : MixOk F) {n : Nat} (hn : n ≤ F.length) : prE F n ≤ 362880 := by
 have h1 := pr_fac h n hn
 have h2 := fac_le (n := n) (m := 10) (by have := h.l10; omega)
 have h3 : facI 10 = 362880 := by decide
 omega
/-- All sizes, multiplied. -/
def allD (F : List (List Int)) : Int := prE F F.length
theorem all_pos (F : List (List Int)) : 0 < allD F := pr_pos F _
theorem all_le {F : List (List Int)} (h : MixOk F) : allD F ≤ 362880 := pr_le h (Nat.le_refl _)
/-! ### What a node has of a sack, in parts of all sizes multiplied -/
def pwF (F : List (List Int)) (s : Nat) : Nat → Nat → Int
 | 0, _ => 0
 | f + 1, i => if frm F i = [] then (if i = s then allD F else 0) else isum (frm F i) fun k => pwF F s f k / (frm F i).length
theorem pwF_more {F : List (List Int)} (h : MixOk F) (s : Nat) : ∀ (f g i : Nat), i < f → i < g → i < F.length → pwF F s f i = pwF F s g i
 | 0, _, _, h, _, _ => by omega
 | _ + 1, 0, _, _, h, _ => by omega
 | f + 1, g + 1, i, hf, hg, hi => by
  rw [pwF, pwF]
  split
  ·rfl
  ·refine isum_congr fun k hk => ?_
   have := (h.ris i hi).1 k hk
   rw [pwF_more h s f g k.toNat (by omega) (by omega) (by omega)]
def pw (F : List (List Int)) (s i : Nat) : Int := pwF F s (i + 1) i
theorem pw_eq {F : List (List Int)} (h : MixOk F) (s : Nat) {i : Nat} (hi : i < F.length) : pw F s i = if frm F i = [] then (if i = s then allD F else 0) else isum (frm F i) fun k => pw F s k / (frm F i).length := by
 unfold pw
 rw [pwF]
 split
 ·rfl
 ·refine isum_congr fun k hk => ?_
  have := (h.ris i hi).1 k hk
  rw [pwF_more h s i (k.toNat + 1) k.toNat (by omega) (by omega) (by omega)]
theorem isum_mul (l : List Int) (f : Nat → Int) (c : Int) : isum l (fun k => c * f k) = c * isum l f := by
 unfold isum
 induction l with
 | nil => simp
 | cons a l ih => simp only [List.map_cons, List.sum_cons, ih, Int.mul_add]
theorem isum_dvd {l : List Int} {f : Nat → Int} {d : Int} (h : ∀ k ∈ l, d ∣ f k.toNat) : d ∣ isum l f := by
 unfold isum
 induction l with
 | nil => exact Int.dvd_zero _
 | cons a l ih =>
  rw [List.map_cons, List.sum_cons]
  exact Int.dvd_add (h a (by simp)) (ih fun k hk => h k (List.mem_cons_of_mem _ hk))
theorem sz_of {F : List (List Int)} {i : Nat} (h : frm F i ≠ []) : szN F i = ((frm F i).length : Int) := by
 unfold szN
 have := List.length_pos_iff.2 h
 omega
theorem pw_dvd {F : List (List Int)} (h : MixOk F) (s : Nat) : ∀ i, i < F.length → allD F ∣ pw F s i * prE F (i + 1) ∧ (frm F i ≠ [] → ∀ k ∈ frm F i, ((frm F i).length : Int) ∣ pw F s k.toNat) := by
 intro i
 induction i using Nat.strongRecOn with
 | ind i ih =>
  intro hi
  have key : frm F i ≠ [] → ∀ k ∈ frm F i, ((frm F i).length : Int) ∣ pw F s k.toNat := fun hne k hk => by
   have hk0 := (h.ris i hi).1 k hk
   obtain ⟨h1, _⟩ := ih k.toNat (by omega) (by omega)
   obtain ⟨c, hc⟩ := h1
   obtain ⟨d, hd⟩ := pr_dvd F (n := k.toNat + 1) (m := i) (by omega)
   obtain ⟨e, he⟩ := pr_dvd F (n := i + 1) (m := F.length) (by omega)
   have hp := pr_pos F i
   rw [prE, sz_of hne] at he
   have h2 : prE F i * pw F s k.toNat = prE F i * (((frm F i).length : Int) * (e * c * d)) := by
    rw [Int.mul_comm, hd, ← Int.mul_assoc, hc]
    unfold allD
    rw [he]
    simp only [Int.mul_assoc, Int.mul_left_comm, Int.mul_comm]
    rw [hd]
    simp only [Int.mul_left_comm, Int.mul_comm]
   exact ⟨_, Int.eq_of_mul_eq_mul_left (by omega) h2⟩
  refine ⟨?_, key⟩
  rw [pw_eq h s hi]
  by_cases hne : frm F i = []
  ·rw [if_pos hne]
   split
   ·exact Int.dvd_mul_right _ _
   ·rw [Int.zero_mul]; exact Int.dvd_zero _
  ·rw [if_neg hne, prE, sz_of hne]
   have key := key hne
   have e1 : (isum (frm F i) fun k => pw F s k / (frm F i).length) * (prE F i * ((frm F i).length : Int)) = isum (frm F i) fun k => prE F i * pw F s k := by
    rw [isum_mul, Int.mul_comm, Int.mul_assoc, ← isum_mul]
    congr 1
    exact isum_congr fun k hk => Int.mul_ediv_cancel' (key k hk)
   rw [e1]
   refine isum_dvd fun k hk => ?_
   have hk0 := (h.ris i hi).1 k hk
   obtain ⟨⟨c, hc⟩, _⟩ := ih k.toNat (by omega) (by omega)
   obtain ⟨d, hd⟩ := pr_dvd F (n := k.toNat + 1) (m := i) (by omega)
   exact ⟨c * d, by rw [hd, Int.mul_comm, ← Int.mul_assoc, hc, Int.mul_assoc]⟩
/-- A lot's part, as often as its list has nodes, is the parts of these together. -/
theorem pw_sum {F : List (List Int)} (h : MixOk F) (s : Nat) {i : Nat} (hi : i < F.length) (hne : frm F i ≠ []) : ((frm F i).length : Int) * pw F s i = isum (frm F i) (pw F s) := by
 rw [pw_eq h s hi, if_neg hne, ← isum_mul]
 exact isum_congr fun k hk => Int.mul_ediv_cancel' ((pw_dvd h s i hi).2 hne k hk)
theorem isum_le_c {l : List Int} {f : Nat → Int} {c : Int} (h : ∀ k ∈ l, f k.toNat ≤ c) : isum l f ≤ l.length * c := by
 unfold isum
 induction l with
 | nil => simp
 | cons a l ih =>
  have h1 := h a (by simp)
  have h2 := ih fun k hk => h k (List.mem_cons_of_mem _ hk)
  rw [List.map_cons, List.sum_cons, List.length_cons, show ((l.length + 1 : Nat) : Int) * c = l.length * c + c by rw [Int.natCast_add, Int.add_mul]; simp]
  omega
theorem pw_range {F : List (List Int)} (h : MixOk F) (s : Nat) : ∀ i, i < F.length → 0 ≤ pw F s i ∧ pw F s i ≤ allD F := by
 intro i
 induction i using Nat.strongRecOn with
 | ind i ih =>
  intro hi
  have hD := all_pos F
  by_cases hne : frm F i = []
  ·rw [pw_eq h s hi, if_pos hne]
   split <;> omega
  ·have hr := fun (k : Int) (hk : k ∈ frm F i) => ih k.toNat (by have := (h.ris i hi).1 k hk; omega) (by have := (h.ris i hi).1 k hk; omega)
   have h1 := pw_sum h s hi hne
   have h2 : 0 ≤ isum (frm F i) (pw F s) := isum_nn fun k hk => (hr k hk).1
   have h3 : isum (frm F i) (pw F s) ≤ (frm F i).length * allD F := isum_le_c fun k hk => (hr k hk).2
   have hn : 0 < ((frm F i).length : Int) := by have := List.length_pos_iff.2 hne; omega
   rw [← h1] at h2 h3
   exact ⟨Int.le_of_mul_le_mul_left (by omega) hn, Int.le_of_mul_le_mul_left h3 hn⟩
theorem pw_pos {F : List (List Int)} (h : MixOk F) (s : Nat) : ∀ i, i < F.length → (0 < pw F s i ↔ frm F s = [] ∧ cm F i s = true) := by
 intro i
 induction i using Nat.strongRecOn with
 | ind i ih =>
  intro hi
  have hD := all_pos F
  rw [cm_true h hi]
  by_cases hne : frm F i = []
  ·rw [pw_eq h s hi, if_pos hne]
   constructor
   ·intro h1
    split at h1
    ·rename_i e; exact ⟨by rw [← e]; exact hne, .inl e⟩
    ·omega
   ·rintro ⟨_, h1 | ⟨k, hk, _⟩⟩
    ·rw [if_pos h1]; exact hD
    ·rw [hne] at hk; cases hk
  ·have hr := fun (k : Int) (hk : k ∈ frm F i) => ih k.toNat (by have := (h.ris i hi).1 k hk; omega) (by have := (h.ris i hi).1 k hk; omega)
   have h1 := pw_sum h s hi hne
   have hn : 0 < ((frm F i).length : Int) := by have := List.length_pos_iff.2 hne; omega
   have h2 : 0 < pw F s i ↔ 0 < isum (frm F i) (pw F s) := by
    rw [← h1]
    constructor
    ·exact fun h3 => Int.mul_pos hn h3
    ·intro h3
     refine Int.not_le.1 fun h4 => ?_
     have := Int.mul_nonpos_of_nonneg_of_nonpos (Int.le_of_lt hn) h4
     omega
   rw [h2, isum_pos fun k hk => (pw_range h s k.toNat (by have := (h.ris i hi).1 k hk; omega)).1]
   constructor
   ·rintro ⟨k, hk, h3⟩
    obtain ⟨h4, h5⟩ := (hr k hk).1 h3
    have := (h.ris i hi).1 k hk
    exact ⟨h4, .inr ⟨k.toNat, by rw [Int.toNat_of_nonneg this.1]; exact hk, h5⟩⟩
   ·rintro ⟨h3, h4 | ⟨k, hk, h4⟩⟩
    ·rw [← h4] at h3; exact absurd h3 hne
    ·exact ⟨(k : Int), hk, (hr k hk).2 ⟨h3, h4⟩⟩
end Go.Px.Try

/-! Tm14 -/
namespace Go.Px.Try
open Go Go.Proofs Go.Px
theorem isum_sm {f : Nat → Int} {n : Nat} : ∀ {l : List Int}, (∀ x ∈ l, 0 ≤ x ∧ x < (n : Int)) → l.Pairwise (· < ·) → isum l f = sm (fun k => if (k : Int) ∈ l then f k else 0) n
 | [], _, _ => by rw [isum_nil]; exact (sm_zero fun i _ => if_neg (by simp)).symm
 | a :: l, h, hi => by
  have ha := h a (by simp)
  have hi := List.pairwise_cons.1 hi
  have ih := isum_sm (f := f) (n := n) (l := l) (fun x hx => h x (List.mem_cons_of_mem _ hx)) hi.2
  have e : isum (a :: l) f = f a.toNat + isum l f := by unfold isum; rw [List.map_cons, List.sum_cons]
  rw [e, ih]
  have e1 : f a.toNat = sm (fun k => if k = a.toNat then f k else 0) n := by
   rw [sm_one (k := a.toNat) (fun i hi => if_neg hi) (by omega), if_pos rfl]
  rw [e1, ← sm_add]
  refine sm_congr fun k _ => ?_
  by_cases hk : k = a.toNat
  ·have h2 : ¬ (k : Int) ∈ l := fun h2 => by have := hi.1 _ h2; omega
   rw [if_pos hk, if_neg h2, if_pos (by rw [hk, Int.toNat_of_nonneg ha.1]; simp)]; omega
  ·rw [if_neg hk, Int.zero_add]
   have h2 : ((k : Int) ∈ a :: l) ↔ (k : Int) ∈ l := by
    rw [List.mem_cons]
    exact ⟨fun h => h.elim (fun h => absurd (by omega) hk) id, .inr⟩
   simp only [h2]
/-- What there is of each node when t nodes of node i's list have their part. -/
def ptK (F : List (List Int)) (w : Nat → Int) (i t : Nat) : Nat → Int := fun k => if k = i then 0 else if (k : Int) ∈ (frm F i).take t then w k + w i / (frm F i).length else w k
/-- What there is of each node when c nodes from x back have been parted. -/
def ptC (F : List (List Int)) (x : Nat) : Nat → Nat → Int
 | 0 => fun k => if k = x then allD F else 0
 | c + 1 => if frm F (x - c) = [] then ptC F x c else ptK F (ptC F x c) (x - c) (frm F (x - c)).length
theorem ptK_zero (F : List (List Int)) (w : Nat → Int) (i k : Nat) : ptK F w i 0 k = if k = i then 0 else w k := by
 unfold ptK
 split
 ·rfl
 ·rw [if_neg (by simp)]
theorem ptK_succ {F : List (List Int)} (h : MixOk F) {w : Nat → Int} {i t : Nat} (hi : i < F.length) (ht : t < (frm F i).length) (k : Nat) : ptK F w i (t + 1) k = if k = ((frm F i).getD t 0).toNat then ptK F w i t k + w i / (frm F i).length else ptK F w i t k := by
 obtain ⟨hr, hinc⟩ := h.ris i hi
 have hx := hr _ (getD_mem ht 0)
 have htk := take_succ_getD (frm F i) t 0 ht
 have hnot : (frm F i).getD t 0 ∉ (frm F i).take t := fun hm => by
  obtain ⟨j, hj, e⟩ := List.getElem_of_mem hm
  rw [List.length_take] at hj
  have h1 := inc_getD hinc j t (by omega) ht
  have e2 : (frm F i).getD j 0 = (frm F i).getD t 0 := by
   rw [← e, List.getElem_take, List.getD_eq_getElem?_getD, List.getElem?_eq_getElem (by omega)]; rfl
  omega
 generalize (frm F i).getD t 0 = y at *
 unfold ptK
 rw [htk]
 by_cases hk : k = y.toNat
 ·have e : (k : Int) = y := by omega
  rw [if_pos hk, if_neg (by omega), if_pos (List.mem_append_right _ (by simp [e])), if_neg (by omega), if_neg (by rw [e]; exact hnot)]
 ·rw [if_neg hk]
  have e : ((k : Int) ∈ (frm F i).take t ++ [y]) ↔ (k : Int) ∈ (frm F i).take t := by
   rw [List.mem_append, List.mem_singleton]
   exact ⟨fun h => h.elim id fun h => absurd (by omega) hk, .inl⟩
  simp only [e]
/-- A number that lots have of the nodes of their lists. -/
def Mean (F : List (List Int)) (q : Nat → Int) : Prop := ∀ i, i < F.length → frm F i ≠ [] → ((frm F i).length : Int) * q i = isum (frm F i) q
theorem isum_ones (l : List Int) : isum l (fun _ => 1) = l.length := by
 unfold isum
 induction l with
 | nil => rfl
 | cons a l ih => simp only [List.map_cons, List.sum_cons, ih, List.length_cons]; omega
theorem mean_one (F : List (List Int)) : Mean F fun _ => 1 := fun i _ _ => by rw [isum_ones]; exact Int.mul_one _
structure PtI (F : List (List Int)) (x : Nat) (c : Nat) (w : Nat → Int) : Prop where
 nn : ∀ k, 0 ≤ w k
 dv : ∀ k, k + c ≤ x → prE F (x - c + 1) ∣ w k
 sum : ∀ q, Mean F q → sm (fun k => w k * q k) F.length = allD F * q x
 zl : ∀ k, x < k + c → frm F k ≠ [] → w k = 0
 zh : ∀ k, x < k → w k = 0
theorem sm_mul (f : Nat → Int) (c : Int) : ∀ n, sm (fun k => c * f k) n = c * sm f n
 | 0 => by simp [sm]
 | n + 1 => by rw [sm, sm, sm_mul f c n, Int.mul_add]
theorem PtI.start {F : List (List Int)} {x : Nat} (hx : x < F.length) : PtI F x 0 (ptC F x 0) where
 nn k := by
  have := all_pos F
  show 0 ≤ if k = x then allD F else 0
  split <;> omega
 dv k hk := by
  show _ ∣ if k = x then allD F else 0
  split
  ·exact pr_dvd F (by omega)
  ·exact Int.dvd_zero _
 sum q _ := by
  rw [sm_one (k := x) (fun i hi => by show (if i = x then allD F else 0) * q i = 0; rw [if_neg hi, Int.zero_mul]) hx]
  show (if x = x then allD F else 0) * q x = _
  rw [if_pos rfl]
 zl k hk _ := by
  show (if k = x then allD F else 0) = 0
  rw [if_neg (by omega)]
 zh k hk := by
  show (if k = x then allD F else 0) = 0
  rw [if_neg (by omega)]
theorem PtI.exact {F : List (List Int)} {x c : Nat} {w : Nat → Int} (h : PtI F x c w) (hc : c ≤ x) (hne : frm F (x - c) ≠ []) : ((frm F (x - c)).length : Int) ∣ w (x - c) := by
 have h1 := h.dv (x - c) (by omega)
 rw [prE, sz_of hne] at h1
 exact Int.dvd_trans (Int.dvd_mul_left _ _) h1
theorem PtI.next {F : List (List Int)} (hm : MixOk F) {x c : Nat} (hx : x < F.length) (hc : c ≤ x) {w : Nat → Int} (h : PtI F x c w) : PtI F x (c + 1) (if frm F (x - c) = [] then w else ptK F w (x - c) (frm F (x - c)).length) := by
 by_cases hne : frm F (x - c) = []
 ·rw [if_pos hne]
  refine ⟨h.nn, fun k hk => ?_, h.sum, fun k hk h1 => ?_, h.zh⟩
  ·exact Int.dvd_trans (pr_dvd F (by omega)) (h.dv k (by omega))
  ·by_cases e : k = x - c
   ·rw [e] at h1; exact absurd hne h1
   ·exact h.zl k (by omega) h1
 ·rw [if_neg hne]
  have hex := h.exact hc hne
  have hi : x - c < F.length := by omega
  have hr := (hm.ris (x - c) hi).1
  have hinc := (hm.ris (x - c) hi).2
  have hn : 0 < ((frm F (x - c)).length : Int) := by have := List.length_pos_iff.2 hne; omega
  have hv : 0 ≤ w (x - c) / (frm F (x - c)).length := Int.ediv_nonneg (h.nn _) (by omega)
  have hlen : ∀ k : Nat, ptK F w (x - c) (frm F (x - c)).length k = if k = x - c then 0 else if (k : Int) ∈ frm F (x - c) then w k + w (x - c) / (frm F (x - c)).length else w k := fun k => by unfold ptK; rw [List.take_length]
  refine ⟨fun k => ?_, fun k hk => ?_, fun q hq => ?_, fun k hk h1 => ?_, fun k hk => ?_⟩
  ·rw [hlen]
   have := h.nn k
   split
   ·omega
   ·split <;> omega
  ·have h1 := h.dv (x - c) (by omega)
   rw [prE, sz_of hne] at h1
   have h2 : prE F (x - (c + 1) + 1) ∣ w k := Int.dvd_trans (pr_dvd F (by omega)) (h.dv k (by omega))
   rw [hlen, if_neg (by omega)]
   split
   ·refine Int.dvd_add h2 ?_
    rw [show x - (c + 1) + 1 = x - c by omega]
    obtain ⟨d, hd⟩ := h1
    rw [hd, Int.mul_comm (prE F (x - c)), Int.mul_assoc, Int.mul_ediv_cancel_left _ (by omega)]
    exact Int.dvd_mul_right _ _
   ·exact h2
  ·rw [← h.sum q hq]
   have h1 := hq (x - c) hi hne
   have h2 : sm (fun k => if (k : Int) ∈ frm F (x - c) then w (x - c) / (frm F (x - c)).length * q k else 0) F.length = w (x - c) * q (x - c) := by
    rw [← isum_sm (f := fun k => w (x - c) / (frm F (x - c)).length * q k) (fun y hy => by have := hr y hy; omega) hinc, isum_mul, ← h1, ← Int.mul_assoc, Int.ediv_mul_cancel hex]
   have h3 : sm (fun k => if k = x - c then - (w (x - c) * q (x - c)) else 0) F.length = - (w (x - c) * q (x - c)) := by
    rw [sm_one (k := x - c) (fun i hi => if_neg hi) hi, if_pos rfl]
   have h4 : sm (fun k => ptK F w (x - c) (frm F (x - c)).length k * q k) F.length = sm (fun k => (w k * q k + (if (k : Int) ∈ frm F (x - c) then w (x - c) / (frm F (x - c)).length * q k else 0)) + if k = x - c then - (w (x - c) * q (x - c)) else 0) F.length := by
    refine sm_congr fun k _ => ?_
    rw [hlen]
    by_cases e : k = x - c
    ·have h5 : ¬ (k : Int) ∈ frm F (x - c) := fun h5 => by have := hr _ h5; omega
     rw [if_pos e, if_pos e, if_neg h5, e]; omega
    ·rw [if_neg e, if_neg e]
     split
     ·rw [Int.add_mul]; omega
     ·omega
   rw [h4, sm_add, sm_add, h2, h3]; omega
  ·rw [hlen]
   by_cases e : k = x - c
   ·rw [if_pos e]
   ·have h5 : ¬ (k : Int) ∈ frm F (x - c) := fun h5 => by have := hr _ h5; omega
    rw [if_neg e, if_neg h5]
    exact h.zl k (by omega) h1
  ·have h5 : ¬ (k : Int) ∈ frm F (x - c) := fun h5 => by have := hr _ h5; omega
   rw [hlen, if_neg (by omega), if_neg h5]
   exact h.zh k hk
theorem ptC_ok {F : List (List Int)} (hm : MixOk F) {x : Nat} (hx : x < F.length) : ∀ c, c ≤ x + 1 → PtI F x c (ptC F x c)
 | 0, _ => PtI.start hx
 | c + 1, hc => (ptC_ok hm hx c (by omega)).next hm hx (by omega)
theorem PtI.le {F : List (List Int)} {x c : Nat} {w : Nat → Int} (h : PtI F x c w) {k : Nat} (hk : k < F.length) : w k ≤ allD F := by
 have h1 := h.sum _ (mean_one F)
 have h2 := sm_ge_one (f := fun k => w k * 1) (k := k) (n := F.length) (fun i _ => by have := h.nn i; omega) hk
 omega
theorem ptC_end {F : List (List Int)} (hm : MixOk F) {x s : Nat} (hx : x < F.length) (hs : s < F.length) : ptC F x (x + 1) s = pw F s x := by
 have h := ptC_ok hm hx (x + 1) (Nat.le_refl _)
 generalize ptC F x (x + 1) = w at *
 have hD := all_pos F
 have h1 := h.sum (pw F s) fun i hi hne => pw_sum hm s hi hne
 have h2 : sm (fun k => w k * pw F s k) F.length = w s * allD F := by
  by_cases hs0 : frm F s = []
  ·rw [sm_one (k := s) (fun i hi => ?_) hs, pw_eq hm s hs, if_pos hs0, if_pos rfl]
   by_cases h4 : i < F.length
   ·by_cases h3 : frm F i = []
    ·rw [pw_eq hm s h4, if_pos h3, if_neg hi, Int.mul_zero]
    ·rw [h.zl i (by omega) h3, Int.zero_mul]
   ·rw [h.zh i (by omega), Int.zero_mul]
  ·rw [h.zl s (by omega) hs0, Int.zero_mul]
   refine sm_zero fun i hi => ?_
   by_cases h3 : frm F i = []
   ·rw [pw_eq hm s hi, if_pos h3, if_neg fun e => hs0 (by rw [← e]; exact h3), Int.mul_zero]
   ·rw [h.zl i (by omega) h3, Int.zero_mul]
 rw [h2, Int.mul_comm] at h1
 exact Int.eq_of_mul_eq_mul_left (by omega) h1
theorem pw_all {F : List (List Int)} (hm : MixOk F) {x : Nat} (hx : x < F.length) : sm (fun s => pw F s x) F.length = allD F := by
 have h := (ptC_ok hm hx (x + 1) (Nat.le_refl _)).sum _ (mean_one F)
 rw [Int.mul_one] at h
 rw [← h]
 exact sm_congr fun s hs => by rw [← ptC_end hm hx hs, Int.mul_one]
theorem ptK_nn {F : List (List Int)} {w : Nat → Int} (h : ∀ k, 0 ≤ w k) (i t k : Nat) : 0 ≤ ptK F w i t k := by
 have hv : 0 ≤ w i / (frm F i).length := Int.ediv_nonneg (h _) (by omega)
 have := h k
 unfold ptK
 split
 ·omega
 ·split <;> omega
theorem ptK_mono {F : List (List Int)} {w : Nat → Int} (h : ∀ k, 0 ≤ w k) (i t k : Nat) : ptK F w i t k ≤ ptK F w i (frm F i).length k := by
 have hv : 0 ≤ w i / (frm F i).length := Int.ediv_nonneg (h _) (by omega)
 unfold ptK
 rw [List.take_length]
 split
 ·omega
 ·split
  ·rename_i h1; rw [if_pos (List.mem_of_mem_take h1)]; omega
  ·split <;> omega
end Go.Px.Try

/-! Tf10 -/
namespace Go.Px.Try
open Go Go.Proofs Go.Px
set_option maxRecDepth 100000
def ratD (p : Int × Int) : DV := st [int p.1, int p.2]
theorem gcd_step {x y : Int} (hx : 0 ≤ x) (hy : 0 < y) : y.toNat.gcd (x % y).toNat = x.toNat.gcd y.toNat := by
 obtain ⟨a, rfl⟩ := Int.eq_ofNat_of_zero_le hx
 obtain ⟨b, rfl⟩ := Int.eq_ofNat_of_zero_le (Int.le_of_lt hy)
 rw [← Int.natCast_emod, Int.toNat_natCast, Int.toNat_natCast, Int.toNat_natCast, Nat.gcd_comm a b, Nat.gcd_rec b a, Nat.gcd_comm]
theorem ediv_nat {a g : Int} (ha : 0 ≤ a) (hg : 0 ≤ g) : a / g = ((a.toNat / g.toNat : Nat) : Int) := by
 obtain ⟨x, rfl⟩ := Int.eq_ofNat_of_zero_le ha
 obtain ⟨y, rfl⟩ := Int.eq_ofNat_of_zero_le hg
 rfl
/-- What plus makes out: two numbers, divided by what divides both. -/
theorem plus_res {D w v x y g : Int} (hD : 0 < D) (hw : 0 ≤ w) (hv : 0 ≤ v) (hx : 0 ≤ x) (hy : 0 < y) (hxy : x * D = v * y) (hg : 0 ≤ g) (h : g.toNat = ((red D w).1 * y + x * (red D w).2).toNat.gcd ((red D w).2 * y).toNat) :
  ((red D w).1 * y + x * (red D w).2) / g = (red D (w + v)).1 ∧ ((red D w).2 * y) / g = (red D (w + v)).2 := by
 obtain ⟨h1, h2, h3⟩ := red_pos (w := w) hD
 have h4 := red_of hD (by omega) (show 0 ≤ (red D w).1 * y + x * (red D w).2 from Int.add_nonneg (Int.mul_nonneg h1 (by omega)) (Int.mul_nonneg hx (by omega))) (Int.mul_pos (by omega) hy) (plus_eq hw hD hxy)
 rw [ediv_nat (Int.add_nonneg (Int.mul_nonneg h1 (by omega)) (Int.mul_nonneg hx (by omega))) hg, ediv_nat (Int.mul_nonneg (by omega) (by omega)) hg, h, ← h4]
 exact ⟨rfl, rfl⟩
set_option maxHeartbeats 4000000 in
theorem plusR_spec {D w v : Int} {p : Int × Int} (hD : 0 < D) (hD2 : D ≤ 362880) (hw : 0 ≤ w) (hw2 : w ≤ D) (hv : 0 ≤ v) (hx : 0 ≤ p.1) (hx2 : p.1 ≤ 362880) (hy : 0 < p.2) (hy2 : p.2 ≤ 3628800) (hxy : p.1 * D = v * p.2) :
  Fn Try.prog 83 [ratD (red D w), ratD p] (ratD (red D (w + v))) := by
 obtain ⟨h1, h2, h3⟩ := red_pos (w := w) hD
 have h4 := red_le (D := D) (w := w)
 have hres := fun g => plus_res (g := g) hD hw hv hx hy hxy
 generalize red D w = r at *
 generalize red D (w + v) = q at *
 have e1 : 0 ≤ r.1 * p.2 := Int.mul_nonneg h1 (by omega)
 have e2 : r.1 * p.2 ≤ 362880 * 3628800 := Int.mul_le_mul (by omega) hy2 (by omega) (by omega)
 have e3 : 0 ≤ p.1 * r.2 := Int.mul_nonneg hx (by omega)
 have e4 : p.1 * r.2 ≤ 362880 * 362880 := Int.mul_le_mul hx2 (by omega) (by omega) (by omega)
 have e5 : 0 < r.2 * p.2 := Int.mul_pos (by omega) hy
 have e6 : r.2 * p.2 ≤ 362880 * 3628800 := Int.mul_le_mul (by omega) hy2 (by omega) (by omega)
 clear hxy
 refine Fn.of_ex (cuts := []) tys hM Try.func83 rfl Try.call83 rfl ?_
 show exC Try.prog T [] _ false none 0 (entry 40 [ratD r, ratD p]) (finQ T [ResultVar.cell 4 66] _)
 conv => whnf
 repeat' first | ((first | refine Ob.a ?_ | refine Sp.tt ?_ | refine Sp.ff ?_ | refine Sp.yes ?_ | refine Sp.no ?_ | refine Sp.nyes ?_ | refine Sp.nno ?_ | refine Fi.a ?_);conv=>whnf) | ((first | refine Sp.ne ?_ ?_ | refine Sp.dec ?_ ?_ | refine Sp.ndec ?_ ?_ | refine Sp.mk ?_ ?_) <;> intro hc <;> conv => whnf) | (refine Ob.b ?_;conv=>whnf)
 refine Lp.snap [0, 1, 4, 5, 6, 33, 34, 35, 36, 37, 38, 39] 40 ?_
 (conv=>whnf)
 refine LpB.go 40 ({q : Int × Int // (0 ≤ q.1 ∧ q.1 ≤ 9000000000000) ∧ (0 ≤ q.2 ∧ q.2 ≤ 9000000000000) ∧ (0 < q.1 ∨ 0 < q.2) ∧ q.1.toNat.gcd q.2.toNat = (r.1 * p.2 + p.1 * r.2).toNat.gcd (r.2 * p.2).toNat}) 0 (fun ⟨(a, b), _⟩ nx => ([(7, .d (int a)), (8, .d (int b))], [])) (fun p => p.1.2.toNat) (⟨(r.1 * p.2 + p.1 * r.2, r.2 * p.2), ⟨by simp only; omega, by simp only; omega⟩, ⟨by simp only; omega, by simp only; omega⟩, by simp only; omega, rfl⟩) ?_ ?_
 ·rintro ⟨⟨a, b⟩, ⟨a0, a1⟩, ⟨b0, b1⟩, hab, hg⟩
  simp only at a0 a1 b0 b1 hab hg
  by_cases hb : 0 < b
  ·have hs := gcd_step a0 hb
   have hm0 : 0 ≤ a % b := Int.emod_nonneg a (by omega)
   have hm1 : a % b < b := Int.emod_lt_of_pos a hb
   rw [hg] at hs
   conv => whnf
   repeat' first | ((first | refine Ob.a ?_ | refine Sp.tt ?_ | refine Sp.ff ?_ | refine Sp.yes ?_ | refine Sp.no ?_ | refine Sp.nyes ?_ | refine Sp.nno ?_ | refine Fi.a ?_);conv=>whnf) | ((first | refine Sp.ne ?_ ?_ | refine Sp.dec ?_ ?_ | refine Sp.ndec ?_ ?_ | refine Sp.mk ?_ ?_) <;> intro hc <;> conv => whnf) | (refine Ob.b ?_;conv=>whnf)
   all_goals first | (exfalso; omega) | exact ⟨rfl, ⟨(b, a % b), ⟨by simp only; omega, by simp only; omega⟩, ⟨by simp only; omega, by simp only; omega⟩, by simp only; omega, hs⟩, Lf, by simp only; omega⟩
  ·have hb0 : b = 0 := by omega
   subst hb0
   rw [show (0 : Int).toNat = 0 from rfl, Nat.gcd_zero_right] at hg
   obtain ⟨c1, c2⟩ := hres a a0 hg
   have c3 : 0 < a := by omega
   conv => whnf
   repeat' first | ((first | refine Ob.a ?_ | refine Sp.tt ?_ | refine Sp.ff ?_ | refine Sp.yes ?_ | refine Sp.no ?_ | refine Sp.nyes ?_ | refine Sp.nno ?_ | refine Fi.a ?_);conv=>whnf) | ((first | refine Sp.ne ?_ ?_ | refine Sp.dec ?_ ?_ | refine Sp.ndec ?_ ?_ | refine Sp.mk ?_ ?_) <;> intro hc <;> conv => whnf) | (refine Ob.b ?_;conv=>whnf)
   all_goals first | (exfalso; omega) | exact Lf
 ·exact Lf
end Go.Px.Try

/-! Tp17 -/
namespace Go.Px.Try
open Go Go.Proofs Go.Px
set_option maxRecDepth 100000
set_option maxHeartbeats 4000000 in
theorem plusP_spec {D w v : Int} {p : Int × Int} (hD : 0 < D) (hD2 : D ≤ 362880) (hw : 0 ≤ w) (hw2 : w ≤ D) (hv : 0 ≤ v) (hx : 0 ≤ p.1) (hx2 : p.1 ≤ 362880) (hy : 0 < p.2) (hy2 : p.2 ≤ 3628800) (hxy : p.1 * D = v * p.2) :
  Fn Try.prog 82 [ratD (red D w), ratD p] (ratD (red D (w + v))) := by
 obtain ⟨h1, h2, h3⟩ := red_pos (w := w) hD
 have h4 := red_le (D := D) (w := w)
 have hres := fun g => plus_res (g := g) hD hw hv hx hy hxy
 generalize red D w = r at *
 generalize red D (w + v) = q at *
 have e1 : 0 ≤ r.1 * p.2 := Int.mul_nonneg h1 (by omega)
 have e2 : r.1 * p.2 ≤ 362880 * 3628800 := Int.mul_le_mul (by omega) hy2 (by omega) (by omega)
 have e3 : 0 ≤ p.1 * r.2 := Int.mul_nonneg hx (by omega)
 have e4 : p.1 * r.2 ≤ 362880 * 362880 := Int.mul_le_mul hx2 (by omega) (by omega) (by omega)
 have e5 : 0 < r.2 * p.2 := Int.mul_pos (by omega) hy
 have e6 : r.2 * p.2 ≤ 362880 * 3628800 := Int.mul_le_mul (by omega) hy2 (by omega) (by omega)
 clear hxy
 refine Fn.of_ex (cuts := []) tys hM Try.func82 rfl Try.call82 rfl ?_
 show exC Try.prog T [] _ false none 0 (entry 40 [ratD r, ratD p]) (finQ T [ResultVar.cell 4 66] _)
 conv => whnf
 repeat' first | ((first | refine Ob.a ?_ | refine Sp.tt ?_ | refine Sp.ff ?_ | refine Sp.yes ?_ | refine Sp.no ?_ | refine Sp.nyes ?_ | refine Sp.nno ?_ | refine Fi.a ?_);conv=>whnf) | ((first | refine Sp.ne ?_ ?_ | refine Sp.dec ?_ ?_ | refine Sp.ndec ?_ ?_ | refine Sp.mk ?_ ?_) <;> intro hc <;> conv => whnf) | (refine Ob.b ?_;conv=>whnf)
 refine Lp.snap [0, 1, 4, 5, 6, 33, 34, 35, 36, 37, 38, 39] 40 ?_
 (conv=>whnf)
 refine LpB.go 40 ({q : Int × Int // (0 ≤ q.1 ∧ q.1 ≤ 9000000000000) ∧ (0 ≤ q.2 ∧ q.2 ≤ 9000000000000) ∧ (0 < q.1 ∨ 0 < q.2) ∧ q.1.toNat.gcd q.2.toNat = (r.1 * p.2 + p.1 * r.2).toNat.gcd (r.2 * p.2).toNat}) 0 (fun ⟨(a, b), _⟩ nx => ([(7, .d (int a)), (8, .d (int b))], [])) (fun p => p.1.2.toNat) (⟨(r.1 * p.2 + p.1 * r.2, r.2 * p.2), ⟨by simp only; omega, by simp only; omega⟩, ⟨by simp only; omega, by simp only; omega⟩, by simp only; omega, rfl⟩) ?_ ?_
 ·rintro ⟨⟨a, b⟩, ⟨a0, a1⟩, ⟨b0, b1⟩, hab, hg⟩
  simp only at a0 a1 b0 b1 hab hg
  by_cases hb : 0 < b
  ·have hs := gcd_step a0 hb
   have hm0 : 0 ≤ a % b := Int.emod_nonneg a (by omega)
   have hm1 : a % b < b := Int.emod_lt_of_pos a hb
   rw [hg] at hs
   conv => whnf
   repeat' first | ((first | refine Ob.a ?_ | refine Sp.tt ?_ | refine Sp.ff ?_ | refine Sp.yes ?_ | refine Sp.no ?_ | refine Sp.nyes ?_ | refine Sp.nno ?_ | refine Fi.a ?_);conv=>whnf) | ((first | refine Sp.ne ?_ ?_ | refine Sp.dec ?_ ?_ | refine Sp.ndec ?_ ?_ | refine Sp.mk ?_ ?_) <;> intro hc <;> conv => whnf) | (refine Ob.b ?_;conv=>whnf)
   all_goals first | (exfalso; omega) | exact ⟨rfl, ⟨(b, a % b), ⟨by simp only; omega, by simp only; omega⟩, ⟨by simp only; omega, by simp only; omega⟩, by simp only; omega, hs⟩, Lf, by simp only; omega⟩
  ·have hb0 : b = 0 := by omega
   subst hb0
   rw [show (0 : Int).toNat = 0 from rfl, Nat.gcd_zero_right] at hg
   obtain ⟨c1, c2⟩ := hres a a0 hg
   have c3 : 0 < a := by omega
   conv => whnf
   repeat' first | ((first | refine Ob.a ?_ | refine Sp.tt ?_ | refine Sp.ff ?_ | refine Sp.yes ?_ | refine Sp.no ?_ | refine Sp.nyes ?_ | refine Sp.nno ?_ | refine Fi.a ?_);conv=>whnf) | ((first | refine Sp.ne ?_ ?_ | refine Sp.dec ?_ ?_ | refine Sp.ndec ?_ ?_ | refine Sp.mk ?_ ?_) <;> intro hc <;> conv => whnf) | (refine Ob.b ?_;conv=>whnf)
   all_goals first | (exfalso; omega) | exact Lf
 ·exact Lf
end Go.Px.Try

/-! Tf11 -/
namespace Go.Px.Try
open Go Go.Proofs Go.Px
set_option maxRecDepth 100000
def partsL (F : List (List Int)) (x : Nat) : List (Int × Int) := (List.range F.length).map fun s => red (allD F) (pw F s x)
theorem partsL_getD {F : List (List Int)} {x s : Nat} (h : s < F.length) : (partsL F x).getD s (0, 0) = red (allD F) (pw F s x) := by
 unfold partsL
 rw [List.getD_eq_getElem?_getD, List.getElem?_map, List.getElem?_range h]; rfl
theorem partsL_len (F : List (List Int)) (x : Nat) : (partsL F x).length = F.length := by
 unfold partsL; rw [List.length_map, List.length_range]
/-- Fractions as the elements of a row, told by their places. -/
def rowG (G : Nat → Int × Int) : Nat → DV := fun j => ratD (G j)
theorem rowG_upd {G G' : Nat → Int × Int} {i n : Nat} {v : DV} {p : Int × Int} (h : CImp v (ratD p)) (hl : ∀ j, j < n → G' j = if j = i then p else G j) : ∀ j, j < n → CImp (upE i v (rowG G) j) (rowG G' j) := by
 intro j hj
 unfold upE rowG
 rw [hl j hj]
 by_cases e : j = i
 ·rw [if_pos e, if_pos e]; exact h
 ·rw [if_neg e, if_neg e]; exact CImp.refl _
theorem rowG_same {G G' : Nat → Int × Int} {n : Nat} (hl : ∀ j, j < n → G j = G' j) : ∀ j, j < n → CImp (rowG G j) (rowG G' j) := fun j hj => by
 unfold rowG; rw [hl j hj]; exact CImp.refl _
theorem ImpS.rowG {t : Bool} {n : Nat} {G : Nat → Int × Int} {l : List (Int × Int)} (hn : n = l.length) (h : ∀ j, j < n → G j = l.getD j (0, 0)) : ImpS (.sl t 2 n fun i => rowG G (0 + i)) (slOf 2 ratD (0, 0) l) :=
 ⟨Imp.sl (fun e => by cases e) hn fun j hj => Imp.of_eq (by show ratD (G (0 + j)) = _; rw [Nat.zero_add, h j hj])⟩
/-- All of them nothing. -/
def zzG : Nat → Int × Int := fun _ => (0, 1)
theorem zzG_snoc {n : Nat} {g : Nat → DV} (h : CImp (g 0) (ratD (0, 1))) : ∀ j, j < n + 1 → CImp (apd n (rowG zzG) g j) (rowG zzG j) := by
 intro j hj
 unfold apd
 by_cases e : j < n
 ·rw [if_pos e]; exact CImp.refl _
 ·rw [if_neg e, show j - n = 0 by omega]; exact h
/-- What there is of a sack when k nodes of the list have been looked at. -/
def prW (F : List (List Int)) (x k s : Nat) : Int := if frm F x = [] then (if x = s then allD F else 0) else isum ((frm F x).take k) fun c => pw F s c / (frm F x).length
theorem prW_end {F : List (List Int)} (h : MixOk F) {x k : Nat} (hx : x < F.length) (hk : (frm F x).length ≤ k) (s : Nat) : prW F x k s = pw F s x := by
 rw [pw_eq h s hx]
 unfold prW
 rw [List.take_of_length_le hk]
theorem prW_zero {F : List (List Int)} {x : Nat} (hne : frm F x ≠ []) (s : Nat) : prW F x 0 s = 0 := by
 unfold prW
 rw [if_neg hne]; rfl
theorem prW_succ {F : List (List Int)} {x k : Nat} (hk : k < (frm F x).length) (s : Nat) : prW F x (k + 1) s = prW F x k s + pw F s ((frm F x).getD k 0).toNat / (frm F x).length := by
 have hne : frm F x ≠ [] := fun e => by rw [e] at hk; exact absurd hk (by simp)
 unfold prW
 rw [if_neg hne, if_neg hne, take_succ_getD _ k 0 hk, isum_snoc]
theorem prW_range {F : List (List Int)} (h : MixOk F) {x : Nat} (hx : x < F.length) (k s : Nat) : 0 ≤ prW F x k s ∧ prW F x k s ≤ allD F := by
 have hD := all_pos F
 have hr := pw_range h s x hx
 rw [pw_eq h s hx] at hr
 unfold prW
 by_cases hne : frm F x = []
 ·rw [if_pos hne] at hr ⊢
  exact hr
 ·rw [if_neg hne] at hr ⊢
  have hnn : ∀ c ∈ frm F x, 0 ≤ pw F s c.toNat / (frm F x).length := fun c hc => Int.ediv_nonneg (pw_range h s c.toNat (by have := (h.ris x hx).1 c hc; omega)).1 (by omega)
  have e : isum (frm F x) (fun c => pw F s c / (frm F x).length) = isum ((frm F x).take k) (fun c => pw F s c / (frm F x).length) + isum ((frm F x).drop k) (fun c => pw F s c / (frm F x).length) := by
   unfold isum
   rw [← List.sum_append, ← List.map_append, List.take_append_drop]
  have h1 : 0 ≤ isum ((frm F x).take k) (fun c => pw F s c / (frm F x).length) := isum_nn fun c hc => hnn c (List.mem_of_mem_take hc)
  have h2 : 0 ≤ isum ((frm F x).drop k) (fun c => pw F s c / (frm F x).length) := isum_nn fun c hc => hnn c (List.mem_of_mem_drop hc)
  omega
def prG (F : List (List Int)) (x k : Nat) : Nat → Int × Int := fun s => red (allD F) (prW F x k s)
/-- The same, within a round: those below t have been looked at once more. -/
def prT (F : List (List Int)) (x k t : Nat) : Nat → Int × Int := fun s => if s < t then prG F x (k + 1) s else prG F x k s
theorem prG_sack {F : List (List Int)} {x : Nat} (h : frm F x = []) (k s : Nat) : prG F x k s = if s = x then (1, 1) else zzG s := by
 unfold prG prW
 rw [if_pos h]
 by_cases e : s = x
 ·rw [if_pos e.symm, if_pos e, red_self (all_pos F)]
 ·rw [if_neg fun h => e h.symm, if_neg e, red_zero (all_pos F)]; rfl
theorem prG_zero {F : List (List Int)} {x : Nat} (h : frm F x ≠ []) (s : Nat) : prG F x 0 s = zzG s := by
 unfold prG
 rw [prW_zero h, red_zero (all_pos F)]; rfl
theorem prG_end {F : List (List Int)} (h : MixOk F) {x k s : Nat} (hx : x < F.length) (hs : s < F.length) (hk : (frm F x).length ≤ k) : prG F x k s = (partsL F x).getD s (0, 0) := by
 rw [partsL_getD hs]
 unfold prG
 rw [prW_end h hx hk]
theorem prT_succ (F : List (List Int)) (x k t j : Nat) : prT F x k (t + 1) j = if j = t then prT F x k (t + 1) t else prT F x k t j := by
 unfold prT
 by_cases e : j = t
 ·subst e; rw [if_pos rfl]
 ·rw [if_neg e]
  by_cases h : j < t
  ·rw [if_pos h, if_pos (by omega)]
  ·rw [if_neg h, if_neg (by omega)]
theorem part_bd (F : List (List Int)) (c : Nat) {t : Nat} (ht : t < F.length) : 0 ≤ ((partsL F c).getD t (0, 0)).1 ∧ 1 ≤ ((partsL F c).getD t (0, 0)).2 ∧ ((partsL F c).getD t (0, 0)).2 ≤ allD F := by
 rw [partsL_getD ht]; exact red_pos (all_pos F)
theorem part_step {F : List (List Int)} (hm : MixOk F) {x k t : Nat} (hx : x < F.length) (hk : k < (frm F x).length) (ht : t < F.length) :
  Fn Try.prog 83 [ratD (prT F x k t (0 + t)), ratD (((partsL F ((frm F x).getD k 0).toNat).getD t (0, 0)).1, ((partsL F ((frm F x).getD k 0).toNat).getD t (0, 0)).2 * ((frm F x).length : Int))] (ratD (prT F x k (t + 1) t)) := by
 have hne : frm F x ≠ [] := fun e => by rw [e] at hk; exact absurd hk (by simp)
 have hc := (hm.ris x hx).1 _ (getD_mem hk 0)
 have hdv := (pw_dvd hm t x hx).2 hne _ (getD_mem hk 0)
 have hr := pw_range hm t ((frm F x).getD k 0).toNat (by omega)
 have e1 : prT F x k t (0 + t) = red (allD F) (prW F x k t) := by unfold prT; rw [Nat.zero_add, if_neg (by omega)]; rfl
 have e2 : prT F x k (t + 1) t = red (allD F) (prW F x k t + pw F t ((frm F x).getD k 0).toNat / (frm F x).length) := by
  unfold prT; rw [if_pos (by omega)]; unfold prG; rw [prW_succ hk]
 have hfl := frm_len' hm hx
 have hl10 := hm.l10
 have hD := all_pos F
 have hD2 := all_le hm
 have hw := prW_range hm hx k t
 rw [e1, e2, partsL_getD ht]
 generalize ((frm F x).getD k 0).toNat = c at *
 generalize pw F t c = u at *
 have hp := red_pos (w := u) hD
 have hq := red_le (D := allD F) (w := u)
 have hml := red_mul hD hr.1
 refine plusR_spec (p := ((red (allD F) u).1, (red (allD F) u).2 * ((frm F x).length : Int))) hD hD2 hw.1 hw.2 (Int.ediv_nonneg hr.1 (by omega)) hp.1 (by simp only; omega) (Int.mul_pos (by omega) (by omega)) ?_ ?_
 ·have : (red (allD F) u).2 * ((frm F x).length : Int) ≤ 362880 * 10 := Int.mul_le_mul (by omega) (by omega) (by omega) (by omega)
  simp only; omega
 ·show (red (allD F) u).1 * allD F = u / ((frm F x).length : Int) * ((red (allD F) u).2 * ((frm F x).length : Int))
  rw [hml, Int.mul_comm (red (allD F) u).2, ← Int.mul_assoc, Int.ediv_mul_cancel hdv]
set_option maxHeartbeats 8000000 in
theorem PartsOf_spec (F : List (List Int)) (hm : MixOk F) : ∀ (n : Nat) (i : Int), 0 ≤ i → i < n → i < F.length → Fn Try.prog 65 [mixD F, int i] (slOf 2 ratD (0, 0) (partsL F i.toNat))
 | 0, i, h0, h1, _ => by omega
 | n + 1, i, h0, h1, hF => by
  have ih := fun (x : Int) (a : 0 ≤ x) (b : x < i) => PartsOf_spec F hm n x a (by omega) (by omega)
  have hl10 := hm.l10
  have hel := (hm.ris i.toNat (by omega)).1
  have hfl := frm_len' hm (i := i.toNat) (by omega)
  have hsk := fun (h : frm F i.toNat = []) (s : Nat) => prG_sack (F := F) (x := i.toNat) h 0 s
  have hz := fun (h : frm F i.toNat ≠ []) (s : Nat) => prG_zero (F := F) (x := i.toNat) h s
  have hend := fun (k s : Nat) (hs : s < F.length) (hk : (frm F i.toNat).length ≤ k) => prG_end hm (x := i.toNat) (by omega) hs hk
  have hln := partsL_len F i.toNat
  change ∀ x ∈ F.getD i.toNat [], 0 ≤ x ∧ x < (i.toNat : Int) at hel
  change (F.getD i.toNat []).length ≤ i.toNat at hfl
  change (F.getD i.toNat [] = []) → _ at hsk
  change (F.getD i.toNat [] ≠ []) → _ at hz
  change ∀ k s, s < F.length → (F.getD i.toNat []).length ≤ k → _ at hend
  refine Fn.of_ex (cuts := []) tys hM Try.func65 rfl Try.call65 rfl ?_
  show exC Try.prog T [] _ false none 0 (entry 82 [mixD F, int i]) (finQ T [ResultVar.tmp 4] _)
  conv => whnf
  repeat' first | ((first | refine Ob.a ?_ | refine Sp.tt ?_ | refine Sp.ff ?_ | refine Sp.yes ?_ | refine Sp.no ?_ | refine Sp.nyes ?_ | refine Sp.nno ?_ | refine Fi.a ?_);conv=>whnf) | ((first | refine Sp.ne ?_ ?_ | refine Sp.dec ?_ ?_ | refine Sp.ndec ?_ ?_ | refine Sp.mk ?_ ?_) <;> intro hc <;> conv => whnf) | (refine Ob.b ?_;conv=>whnf)
  refine Lp.snap [0, 1, 2, 4, 7, 8, 9, 10, 22, 23, 24, 25, 26, 27, 28, 30, 31, 32, 33, 34, 35, 36, 37, 38, 39, 40, 42, 43, 44, 45, 46, 47, 48, 49, 50, 51, 52, 53, 54, 55, 56, 58, 59, 60, 61, 62, 63, 64, 65, 66, 67, 68, 69, 70, 71, 72, 73, 74, 75, 76, 77, 78, 79, 80, 81] 40 ?_
  (conv=>whnf)
  refine LpB.go 82 ({k : Nat // k ≤ F.length}) 0 (fun ⟨k, _⟩ nx => ([(6, .d (int k)), (5, .ms 2 2 0 k)], [(2, .row true 66 2 k (rowG zzG))])) (fun p => F.length - p.1) (⟨0, by omega⟩) ?_ ?_
  ·rintro ⟨k, hk⟩
   by_cases hk2 : k < F.length
   ·conv => whnf
    repeat' first | ((first | refine Ob.a ?_ | refine Sp.tt ?_ | refine Sp.ff ?_ | refine Sp.yes ?_ | refine Sp.no ?_ | refine Sp.nyes ?_ | refine Sp.nno ?_ | refine Fi.a ?_);conv=>whnf) | ((first | refine Sp.ne ?_ ?_ | refine Sp.dec ?_ ?_ | refine Sp.ndec ?_ ?_ | refine Sp.mk ?_ ?_) <;> intro hc <;> conv => whnf) | (refine Ob.b ?_;conv=>whnf)
    all_goals try (exfalso; omega)
    refine ⟨rfl, ⟨k + 1, hk2⟩, ?_, by simp only; omega⟩
    conv => whnf
    repeat' first | (refine Edge.fast ?_) | ((conv=>whnf); first | exact True.intro | (refine And.intro ?_ ?_) | exact rfl | exact Nat.le_of_eq (Nat.zero_add _) | exact ImpS.refl _ | ((conv => arg 1; whnf); first | exact ImpS.refl _ | (refine ImpS.nil_eq ?_) | (refine ImpS.vnil_eq ?_) | (refine ImpS.row ?_) | (refine ImpS.rowN ?_ ?_) | (refine ImpS.sl_eq ?_) | (refine ImpS.expl rfl ?_)) | (refine row_snoc' ?_) | exact MImp.refl _ | exact cimp_none | exact cimp_same | exact List.not_mem_nil | exact DImp.refl _) | exact rfl | (refine And.intro ?_ ?_) | exact ImpS.refl _
    all_goals first | exact zzG_snoc Lf
   ·obtain rfl : k = F.length := by omega
    by_cases hs : F.getD i.toNat [] = []
    ·have hs' : (F.getD i.toNat []).length = 0 := by rw [hs]; rfl
     have e9 : ∀ j, j < F.length → prG F i.toNat 0 j = if j = 0 + i.toNat then (1, 1) else zzG j := fun j _ => by rw [Nat.zero_add]; exact hsk hs j
     have e8 : ∀ j, j < F.length → prG F i.toNat 0 j = (partsL F i.toNat).getD j (0, 0) := fun j hj => hend 0 j hj (by omega)
     clear hsk hz hend
     conv => whnf
     repeat' first | ((first | refine Ob.a ?_ | refine Sp.tt ?_ | refine Sp.ff ?_ | refine Sp.yes ?_ | refine Sp.no ?_ | refine Sp.nyes ?_ | refine Sp.nno ?_ | refine Fi.a ?_);conv=>whnf) | ((first | refine Sp.ne ?_ ?_ | refine Sp.dec ?_ ?_ | refine Sp.ndec ?_ ?_ | refine Sp.mk ?_ ?_) <;> intro hc <;> conv => whnf) | (refine Ob.b ?_;conv=>whnf)
     all_goals try (exfalso; omega)
     refine Lp.snap [0, 1, 2, 4, 5, 7, 81] 40 ?_
     (conv=>whnf)
     refine LpB.go 82 (Unit) 0 (fun _ nx => ([(8, .d (int 0))], [(2, .row true 66 2 F.length (rowG (prG F i.toNat 0)))])) (fun p => 0) (()) ?_ ?_
     ·intro _
      conv => whnf
      repeat' first | ((first | refine Ob.a ?_ | refine Sp.tt ?_ | refine Sp.ff ?_ | refine Sp.yes ?_ | refine Sp.no ?_ | refine Sp.nyes ?_ | refine Sp.nno ?_ | refine Fi.a ?_);conv=>whnf) | ((first | refine Sp.ne ?_ ?_ | refine Sp.dec ?_ ?_ | refine Sp.ndec ?_ ?_ | refine Sp.mk ?_ ?_) <;> intro hc <;> conv => whnf) | (refine Ob.b ?_;conv=>whnf)
      all_goals first | (exfalso; omega) | exact ImpS.rowG hln.symm e8
     ·conv => whnf
      repeat' first | (refine Edge.fast ?_) | ((conv=>whnf); first | exact True.intro | (refine And.intro ?_ ?_) | exact rfl | exact Nat.le_of_eq (Nat.zero_add _) | exact ImpS.refl _ | ((conv => arg 1; whnf); first | exact ImpS.refl _ | (refine ImpS.nil_eq ?_) | (refine ImpS.vnil_eq ?_) | (refine ImpS.row ?_) | (refine ImpS.rowN ?_ ?_) | (refine ImpS.sl_eq ?_) | (refine ImpS.expl rfl ?_)) | (refine row_snoc' ?_) | exact MImp.refl _ | exact cimp_none | exact cimp_same | exact List.not_mem_nil | exact DImp.refl _) | exact rfl | (refine And.intro ?_ ?_) | exact ImpS.refl _
      all_goals first | exact rowG_upd ⟨rfl, fun j hj => Lf⟩ e9 | (refine rowG_upd ?_ e9; exact Lf)
    ·have hs' : 0 < (F.getD i.toNat []).length := List.length_pos_iff.2 hs
     have e9 : ∀ j, j < F.length → zzG j = prG F i.toNat 0 j := fun j _ => (hz hs j).symm
     clear hsk hz
     conv => whnf
     repeat' first | ((first | refine Ob.a ?_ | refine Sp.tt ?_ | refine Sp.ff ?_ | refine Sp.yes ?_ | refine Sp.no ?_ | refine Sp.nyes ?_ | refine Sp.nno ?_ | refine Fi.a ?_);conv=>whnf) | ((first | refine Sp.ne ?_ ?_ | refine Sp.dec ?_ ?_ | refine Sp.ndec ?_ ?_ | refine Sp.mk ?_ ?_) <;> intro hc <;> conv => whnf) | (refine Ob.b ?_;conv=>whnf)
     all_goals try (exfalso; omega)
     refine Lp.snap [0, 1, 2, 4, 5, 7, 81] 40 ?_
     (conv=>whnf)
     refine LpB.go 82 ({k : Nat // k ≤ (F.getD i.toNat []).length}) 0 (fun ⟨k, _⟩ nx => ([(8, .d (int k))], [(2, .row true 66 2 F.length (rowG (prG F i.toNat k)))])) (fun p => (F.getD i.toNat []).length - p.1) (⟨0, by omega⟩) ?_ ?_
     ·rintro ⟨k, hk⟩
      by_cases hk3 : k < (F.getD i.toNat []).length
      ·have hx := hel _ (getD_mem hk3 0)
       have ih := ih ((F.getD i.toNat []).getD k 0) (by omega) (by omega)
       have hpl := partsL_len F ((F.getD i.toNat []).getD k 0).toNat
       have hst := fun (t : Nat) (ht : t < F.length) => part_step hm (x := i.toNat) (k := k) (t := t) (by omega) hk3 ht
       have hnx := fun (t j : Nat) => prT_succ F i.toNat k t j
       have hbd := fun (t : Nat) (ht : t < F.length) => part_bd F ((F.getD i.toNat []).getD k 0).toNat ht
       have h0 : ∀ j, j < F.length → prG F i.toNat k j = prT F i.toNat k 0 j := fun j _ => (if_neg (by omega) : prT F i.toNat k 0 j = _).symm
       have h9 : ∀ j, j < F.length → prT F i.toNat k F.length j = prG F i.toNat (k + 1) j := fun j hj => if_pos hj
       have hDl := all_le hm
       change ∀ t, t < F.length → Fn _ _ [_, ratD (((partsL F ((F.getD i.toNat []).getD k 0).toNat).getD t (0, 0)).1, ((partsL F ((F.getD i.toNat []).getD k 0).toNat).getD t (0, 0)).2 * ((F.getD i.toNat []).length : Int))] _ at hst
       generalize partsL F ((F.getD i.toNat []).getD k 0).toNat = L at *
       clear hend
       conv => whnf
       repeat' first | ((first | refine Ob.a ?_ | refine Sp.tt ?_ | refine Sp.ff ?_ | refine Sp.yes ?_ | refine Sp.no ?_ | refine Sp.nyes ?_ | refine Sp.nno ?_ | refine Fi.a ?_);conv=>whnf) | ((first | refine Sp.ne ?_ ?_ | refine Sp.dec ?_ ?_ | refine Sp.ndec ?_ ?_ | refine Sp.mk ?_ ?_) <;> intro hc <;> conv => whnf) | (apply Cl.go;(conv=>whnf); (first | refine Ob.call (ih) ?_);(conv=>whnf)) | (refine Ob.b ?_;conv=>whnf)
       all_goals try (exfalso; omega)
       refine Lp.snap [0, 1, 2, 4, 5, 7, 8, 9, 34, 35, 36, 37, 38, 39, 40, 42, 43, 44, 45, 46, 47, 48, 49, 50, 51, 52, 53, 81] 40 ?_
       (conv=>whnf)
       refine LpB.go 82 ({t : Int // 0 ≤ t ∧ t ≤ F.length}) 0 (fun ⟨t, _⟩ nx => ([(10, .d (int t))], [(2, .row true 66 2 F.length (rowG (prT F i.toNat k t.toNat)))])) (fun p => (F.length - p.1).toNat) (⟨0, by omega, by omega⟩) ?_ ?_
       ·rintro ⟨t, t0, t1⟩
        by_cases ht2 : t < F.length
        ·have hst := hst t.toNat (by omega)
         have hnx := hnx t.toNat
         have hbd := hbd t.toNat (by omega)
         have e9 : ∀ j, j < F.length → prT F i.toNat k (t + 1).toNat j = if j = 0 + t.toNat then prT F i.toNat k (t.toNat + 1) t.toNat else prT F i.toNat k t.toNat j := fun j _ => by rw [Nat.zero_add, show (t + 1).toNat = t.toNat + 1 by omega]; exact hnx j
         have hb1 : (L.getD t.toNat (0, 0)).2 * ((F.getD i.toNat []).length : Int) ≤ 362880 * 10 := Int.mul_le_mul (by omega) (by omega) (by omega) (by omega)
         have hb0 : 0 ≤ (L.getD t.toNat (0, 0)).2 * ((F.getD i.toNat []).length : Int) := Int.mul_nonneg (by omega) (by omega)
         clear hnx
         conv => whnf
         repeat' first | ((first | refine Ob.a ?_ | refine Sp.tt ?_ | refine Sp.ff ?_ | refine Sp.yes ?_ | refine Sp.no ?_ | refine Sp.nyes ?_ | refine Sp.nno ?_ | refine Fi.a ?_);conv=>whnf) | ((first | refine Sp.ne ?_ ?_ | refine Sp.dec ?_ ?_ | refine Sp.ndec ?_ ?_ | refine Sp.mk ?_ ?_) <;> intro hc <;> conv => whnf) | (apply Cl.go;(conv=>whnf); (first | refine Ob.call (hst) ?_);(conv=>whnf)) | (refine Ob.b ?_;conv=>whnf)
         all_goals try (exfalso; omega)
         all_goals (refine ⟨rfl, ⟨t + 1, by omega, by omega⟩, ?_, by simp only; omega⟩;(conv=>whnf); repeat' first | (refine Edge.fast ?_) | ((conv=>whnf); first | exact True.intro | (refine And.intro ?_ ?_) | exact rfl | exact Nat.le_of_eq (Nat.zero_add _) | exact ImpS.refl _ | ((conv => arg 1; whnf); first | exact ImpS.refl _ | (refine ImpS.nil_eq ?_) | (refine ImpS.vnil_eq ?_) | (refine ImpS.row ?_) | (refine ImpS.rowN ?_ ?_) | (refine ImpS.sl_eq ?_) | (refine ImpS.expl rfl ?_)) | (refine row_snoc' ?_) | exact MImp.refl _ | exact cimp_none | exact cimp_same | exact List.not_mem_nil | exact DImp.refl _) | exact rfl | (refine And.intro ?_ ?_) | exact ImpS.refl _)
         all_goals first | (refine rowG_upd ?_ e9; exact Lf)
        ·have h9 : ∀ j, j < F.length → prT F i.toNat k t.toNat j = prG F i.toNat (k + 1) j := fun j hj => by rw [show t.toNat = F.length by omega]; exact h9 j hj
         conv => whnf
         repeat' first | ((first | refine Ob.a ?_ | refine Sp.tt ?_ | refine Sp.ff ?_ | refine Sp.yes ?_ | refine Sp.no ?_ | refine Sp.nyes ?_ | refine Sp.nno ?_ | refine Fi.a ?_);conv=>whnf) | ((first | refine Sp.ne ?_ ?_ | refine Sp.dec ?_ ?_ | refine Sp.ndec ?_ ?_ | refine Sp.mk ?_ ?_) <;> intro hc <;> conv => whnf) | (refine Ob.b ?_;conv=>whnf)
         all_goals try (exfalso; omega)
         all_goals (refine ⟨rfl, ⟨k + 1, hk3⟩, ?_, by simp only; omega⟩;(conv=>whnf); repeat' first | (refine Edge.fast ?_) | ((conv=>whnf); first | exact True.intro | (refine And.intro ?_ ?_) | exact rfl | exact Nat.le_of_eq (Nat.zero_add _) | exact ImpS.refl _ | ((conv => arg 1; whnf); first | exact ImpS.refl _ | (refine ImpS.nil_eq ?_) | (refine ImpS.vnil_eq ?_) | (refine ImpS.row ?_) | (refine ImpS.rowN ?_ ?_) | (refine ImpS.sl_eq ?_) | (refine ImpS.expl rfl ?_)) | (refine row_snoc' ?_) | exact MImp.refl _ | exact cimp_none | exact cimp_same | exact List.not_mem_nil | exact DImp.refl _) | exact rfl | (refine And.intro ?_ ?_) | exact ImpS.refl _)
         all_goals first | exact rowG_same h9
       ·conv => whnf
        repeat' first | (refine Edge.fast ?_) | ((conv=>whnf); first | exact True.intro | (refine And.intro ?_ ?_) | exact rfl | exact Nat.le_of_eq (Nat.zero_add _) | exact ImpS.refl _ | ((conv => arg 1; whnf); first | exact ImpS.refl _ | (refine ImpS.nil_eq ?_) | (refine ImpS.vnil_eq ?_) | (refine ImpS.row ?_) | (refine ImpS.rowN ?_ ?_) | (refine ImpS.sl_eq ?_) | (refine ImpS.expl rfl ?_)) | (refine row_snoc' ?_) | exact MImp.refl _ | exact cimp_none | exact cimp_same | exact List.not_mem_nil | exact DImp.refl _) | exact rfl | (refine And.intro ?_ ?_) | exact ImpS.refl _
        all_goals first | exact rowG_same h0
      ·have e8 : ∀ j, j < F.length → prG F i.toNat k j = (partsL F i.toNat).getD j (0, 0) := fun j hj => hend k j hj (by omega)
       conv => whnf
       repeat' first | ((first | refine Ob.a ?_ | refine Sp.tt ?_ | refine Sp.ff ?_ | refine Sp.yes ?_ | refine Sp.no ?_ | refine Sp.nyes ?_ | refine Sp.nno ?_ | refine Fi.a ?_);conv=>whnf) | ((first | refine Sp.ne ?_ ?_ | refine Sp.dec ?_ ?_ | refine Sp.ndec ?_ ?_ | refine Sp.mk ?_ ?_) <;> intro hc <;> conv => whnf) | (refine Ob.b ?_;conv=>whnf)
       all_goals first | (exfalso; omega) | exact ImpS.rowG hln.symm e8
     ·conv => whnf
      repeat' first | (refine Edge.fast ?_) | ((conv=>whnf); first | exact True.intro | (refine And.intro ?_ ?_) | exact rfl | exact Nat.le_of_eq (Nat.zero_add _) | exact ImpS.refl _ | ((conv => arg 1; whnf); first | exact ImpS.refl _ | (refine ImpS.nil_eq ?_) | (refine ImpS.vnil_eq ?_) | (refine ImpS.row ?_) | (refine ImpS.rowN ?_ ?_) | (refine ImpS.sl_eq ?_) | (refine ImpS.expl rfl ?_)) | (refine row_snoc' ?_) | exact MImp.refl _ | exact cimp_none | exact cimp_same | exact List.not_mem_nil | exact DImp.refl _) | exact rfl | (refine And.intro ?_ ?_) | exact ImpS.refl _
      all_goals first | exact rowG_same e9
  ·exact Lf
set_option maxHeartbeats 4000000 in
theorem Parts_spec (F : List (List Int)) (hs : SmallM F) (x : Int) : Fn Try.prog 27 [mixD F, int x] (tpl [slOf 2 ratD (0, 0) (if nodeE F [x] = 0 then partsL F x.toNat else []), int (nodeE F [x])]) := by
 have hE := nodeError_spec F hs [x] (by simp)
 have hk := @nodeE_ok F [x]
 by_cases h0 : nodeE F [x] = 0
 ·rw [if_pos h0]
  rw [h0] at hE ⊢
  obtain ⟨hm, hx⟩ := hk.1 h0
  have hx := hx x (by simp)
  have hC := PartsOf_spec F hm (F.length + 1) x hx.1 (by omega) hx.2
  clear hk h0
  generalize partsL F x.toNat = c at *
  refine Fn.of_ex (cuts := []) tys hM Try.func27 rfl Try.call27 rfl ?_
  show exC Try.prog T [] _ false none 0 (entry 18 [mixD F, int x]) (finQ T [ResultVar.tmp 4, ResultVar.tmp 5] _)
  conv => whnf
  repeat' first | ((first | refine Ob.a ?_ | refine Sp.tt ?_ | refine Sp.ff ?_ | refine Sp.yes ?_ | refine Sp.no ?_ | refine Sp.nyes ?_ | refine Sp.nno ?_ | refine Fi.a ?_);conv=>whnf) | ((first | refine Sp.ne ?_ ?_ | refine Sp.dec ?_ ?_ | refine Sp.ndec ?_ ?_ | refine Sp.mk ?_ ?_) <;> intro hc <;> conv => whnf) | (apply Cl.go;(conv=>whnf); (first | refine Ob.call (hE) ?_ | refine Ob.call (hC) ?_);(conv=>whnf)) | (refine Ob.b ?_;conv=>whnf)
  all_goals first | exact Lf | (rename_i hq; exact absurd rfl hq)
 ·rw [if_neg h0]
  clear hk
  generalize nodeE F [x] = k at *
  refine Fn.of_ex (cuts := []) tys hM Try.func27 rfl Try.call27 rfl ?_
  show exC Try.prog T [] _ false none 0 (entry 18 [mixD F, int x]) (finQ T [ResultVar.tmp 4, ResultVar.tmp 5] _)
  conv => whnf
  repeat' first | ((first | refine Ob.a ?_ | refine Sp.tt ?_ | refine Sp.ff ?_ | refine Sp.yes ?_ | refine Sp.no ?_ | refine Sp.nyes ?_ | refine Sp.nno ?_ | refine Fi.a ?_);conv=>whnf) | ((first | refine Sp.ne ?_ ?_ | refine Sp.dec ?_ ?_ | refine Sp.ndec ?_ ?_ | refine Sp.mk ?_ ?_) <;> intro hc <;> conv => whnf) | (apply Cl.go;(conv=>whnf); (first | refine Ob.call (hE) ?_);(conv=>whnf)) | (refine Ob.b ?_;conv=>whnf)
  all_goals first | exact Lf | (exfalso; omega)
end Go.Px.Try

/-! Tp18 -/
namespace Go.Px.Try
open Go Go.Proofs Go.Px
set_option maxRecDepth 100000
def ptG (F : List (List Int)) (x c : Nat) : Nat → Int × Int := fun s => red (allD F) (ptC F x c s)
def ptH (F : List (List Int)) (x c t : Nat) : Nat → Int × Int := fun s => red (allD F) (ptK F (ptC F x c) (x - c) t s)
def ptZ (t : Nat) : Nat → Int × Int := fun s => if s < t then (0, 1) else (0, 0)
theorem ptZ_succ (t j : Nat) : ptZ (t + 1) j = if j = t then (0, 1) else ptZ t j := by
 unfold ptZ
 by_cases e : j = t
 ·subst e; rw [if_pos rfl, if_pos (by omega)]
 ·rw [if_neg e]
  by_cases h : j < t
  ·rw [if_pos h, if_pos (by omega)]
  ·rw [if_neg h, if_neg (by omega)]
theorem ptG_start (F : List (List Int)) (x s : Nat) : ptG F x 0 s = if s = x then (1, 1) else (0, 1) := by
 unfold ptG ptC
 by_cases e : s = x
 ·rw [if_pos e, if_pos e, red_self (all_pos F)]
 ·rw [if_neg e, if_neg e, red_zero (all_pos F)]
theorem ptG_skip {F : List (List Int)} {x c : Nat} (h : frm F (x - c) = []) (s : Nat) : ptG F x (c + 1) s = ptG F x c s := by
 unfold ptG
 rw [ptC, if_pos h]
theorem ptH_start (F : List (List Int)) (x c s : Nat) : ptH F x c 0 s = if s = x - c then (0, 1) else ptG F x c s := by
 unfold ptH ptG
 rw [ptK_zero]
 by_cases e : s = x - c
 ·rw [if_pos e, if_pos e, red_zero (all_pos F)]
 ·rw [if_neg e, if_neg e]
theorem ptH_end {F : List (List Int)} {x c : Nat} (h : frm F (x - c) ≠ []) (s : Nat) : ptH F x c (frm F (x - c)).length s = ptG F x (c + 1) s := by
 unfold ptH ptG
 rw [ptC, if_neg h]
theorem ptG_end {F : List (List Int)} (hm : MixOk F) {x s : Nat} (hx : x < F.length) (hs : s < F.length) : ptG F x (x + 1) s = (partsL F x).getD s (0, 0) := by
 rw [partsL_getD hs]
 unfold ptG
 rw [ptC_end hm hx hs]
theorem ptG_bd (F : List (List Int)) (x c s : Nat) : 0 ≤ (ptG F x c s).1 ∧ 1 ≤ (ptG F x c s).2 ∧ (ptG F x c s).2 ≤ allD F := red_pos (all_pos F)
theorem ptH_succ {F : List (List Int)} (hm : MixOk F) {x c t : Nat} (hx : x < F.length) (ht : t < (frm F (x - c)).length) (j : Nat) : ptH F x c (t + 1) j = if j = ((frm F (x - c)).getD t 0).toNat then ptH F x c (t + 1) ((frm F (x - c)).getD t 0).toNat else ptH F x c t j := by
 unfold ptH
 rw [ptK_succ hm (by omega) ht j]
 by_cases e : j = ((frm F (x - c)).getD t 0).toNat
 ·rw [if_pos e, if_pos e, ptK_succ hm (by omega) ht, if_pos rfl, e]
 ·rw [if_neg e, if_neg e]
theorem part_stepP {F : List (List Int)} (hm : MixOk F) {x c t : Nat} (hx : x < F.length) (hc : c ≤ x) (ht : t < (frm F (x - c)).length) :
  Fn Try.prog 82 [ratD (ptH F x c t (0 + ((frm F (x - c)).getD t 0).toNat)), ratD ((ptG F x c (0 + (x - c))).1, (ptG F x c (0 + (x - c))).2 * ((frm F (x - c)).length : Int))] (ratD (ptH F x c (t + 1) ((frm F (x - c)).getD t 0).toNat)) := by
 have hne : frm F (x - c) ≠ [] := fun e => by rw [e] at ht; exact absurd ht (by simp)
 have hk := (hm.ris (x - c) (by omega)).1 _ (getD_mem ht 0)
 have hI := ptC_ok hm hx c (by omega)
 have hex := hI.exact hc hne
 have hN := ptC_ok hm hx (c + 1) (by omega)
 have hfl := frm_len' hm (i := x - c) (by omega)
 have hl10 := hm.l10
 have hD := all_pos F
 have hD2 := all_le hm
 rw [Nat.zero_add, Nat.zero_add]
 unfold ptH ptG
 rw [ptK_succ hm (by omega) ht, if_pos rfl]
 have h1 := ptK_nn hI.nn (x - c) t ((frm F (x - c)).getD t 0).toNat (F := F)
 have h2 : ptK F (ptC F x c) (x - c) t ((frm F (x - c)).getD t 0).toNat ≤ allD F := by
  refine Int.le_trans (ptK_mono hI.nn _ _ _) ?_
  have := hN.le (k := ((frm F (x - c)).getD t 0).toNat) (by omega)
  rw [ptC, if_neg hne] at this
  exact this
 have h3 := hI.nn (x - c)
 generalize ptK F (ptC F x c) (x - c) t ((frm F (x - c)).getD t 0).toNat = w at *
 have h4 := hI.le (k := x - c) (by omega)
 generalize ptC F x c (x - c) = u at *
 have hp := red_pos (w := u) hD
 have hq := red_le (D := allD F) (w := u)
 have hml := red_mul hD h3
 refine plusP_spec (p := ((red (allD F) u).1, (red (allD F) u).2 * ((frm F (x - c)).length : Int))) hD hD2 h1 h2 (Int.ediv_nonneg h3 (by omega)) hp.1 (by simp only; omega) (Int.mul_pos (by omega) (by omega)) ?_ ?_
 ·have : (red (allD F) u).2 * ((frm F (x - c)).length : Int) ≤ 362880 * 10 := Int.mul_le_mul (by omega) (by omega) (by omega) (by omega)
  simp only; omega
 ·show (red (allD F) u).1 * allD F = u / ((frm F (x - c)).length : Int) * ((red (allD F) u).2 * ((frm F (x - c)).length : Int))
  rw [hml, Int.mul_comm (red (allD F) u).2, ← Int.mul_assoc, Int.ediv_mul_cancel hex]
set_option maxHeartbeats 8000000 in
theorem parts_spec (F : List (List Int)) (hs : SmallM F) (hm : MixOk F) (B : DV) (l x : Int) (x0 : 0 ≤ x) (x1 : x < F.length) : Fn Try.prog 64 [netD F B l, int x] (slOf 2 ratD (0, 0) (partsL F x.toNat)) := by
 have hl10 := hm.l10
 have hl1 := hm.l1
 have hL := list_spec F B l
 have hS := sack_spec F hs B l
 have hsq := fun (i : Int) (a : 0 ≤ i) (b : i < F.length) => list1_spec F hs B l i a b _ rfl
 have hln := partsL_len F x.toNat
 have hend := fun (s : Nat) (h : s < F.length) => ptG_end hm (x := x.toNat) (s := s) (by omega) h
 have hbd := fun (c s : Nat) => ptG_bd F x.toNat c s
 have hD := all_le hm
 have hstart := fun s => ptG_start F x.toNat s
 generalize partsL F x.toNat = R at *
 refine Fn.of_ex (cuts := []) tys hM Try.func64 rfl Try.call64 rfl ?_
 show exC Try.prog T [] _ false none 0 (entry 78 [netD F B l, int x]) (finQ T [ResultVar.tmp 4] _)
 conv => whnf
 repeat' first | ((first | refine Ob.a ?_ | refine Sp.tt ?_ | refine Sp.ff ?_ | refine Sp.yes ?_ | refine Sp.no ?_ | refine Sp.nyes ?_ | refine Sp.nno ?_ | refine Fi.a ?_);conv=>whnf) | ((first | refine Sp.ne ?_ ?_ | refine Sp.dec ?_ ?_ | refine Sp.ndec ?_ ?_ | refine Sp.mk ?_ ?_) <;> intro hc <;> conv => whnf) | (refine Ob.b ?_;conv=>whnf)
 all_goals try (exfalso; omega)
 refine Lp.snap [0, 1, 4, 5, 7, 8, 9, 18, 27, 28, 29, 30, 31, 32, 34, 35, 36, 37, 39, 40, 41, 42, 43, 44, 45, 46, 47, 48, 49, 50, 51, 52, 53, 54, 55, 56, 57, 58, 59, 60, 61, 62, 63, 64, 65, 67, 68, 69, 70, 71, 72, 73, 74, 75, 76, 77] 40 ?_
 (conv=>whnf)
 refine LpB.go 78 ({t : Int // 0 ≤ t ∧ t ≤ F.length}) 0 (fun ⟨t, _⟩ nx => ([(19, .d (int t))], [(7, .row true 66 2 F.length (rowG (ptZ t.toNat)))])) (fun p => (F.length - p.1).toNat) (⟨0, by omega, by omega⟩) ?_ ?_
 ·rintro ⟨t, t0, t1⟩
  by_cases ht : t < F.length
  ·have e9 : ∀ j, j < F.length → ptZ (t + 1).toNat j = if j = 0 + t.toNat then (0, 1) else ptZ t.toNat j := fun j _ => by rw [Nat.zero_add, show (t + 1).toNat = t.toNat + 1 by omega]; exact ptZ_succ _ j
   conv => whnf
   repeat' first | ((first | refine Ob.a ?_ | refine Sp.tt ?_ | refine Sp.ff ?_ | refine Sp.yes ?_ | refine Sp.no ?_ | refine Sp.nyes ?_ | refine Sp.nno ?_ | refine Fi.a ?_);conv=>whnf) | ((first | refine Sp.ne ?_ ?_ | refine Sp.dec ?_ ?_ | refine Sp.ndec ?_ ?_ | refine Sp.mk ?_ ?_) <;> intro hc <;> conv => whnf) | (refine Ob.b ?_;conv=>whnf)
   all_goals try (exfalso; omega)
   all_goals (refine ⟨rfl, ⟨t + 1, by omega, by omega⟩, ?_, by simp only; omega⟩;(conv=>whnf); repeat' first | (refine Edge.fast ?_) | ((conv=>whnf); first | exact True.intro | (refine And.intro ?_ ?_) | exact rfl | exact Nat.le_of_eq (Nat.zero_add _) | exact ImpS.refl _ | ((conv => arg 1; whnf); first | exact ImpS.refl _ | (refine ImpS.nil_eq ?_) | (refine ImpS.vnil_eq ?_) | (refine ImpS.row ?_) | (refine ImpS.rowN ?_ ?_) | (refine ImpS.sl_eq ?_) | (refine ImpS.expl rfl ?_)) | (refine row_snoc' ?_) | exact MImp.refl _ | exact cimp_none | exact cimp_same | exact List.not_mem_nil | exact DImp.refl _) | exact rfl | (refine And.intro ?_ ?_) | exact ImpS.refl _)
   all_goals first | (refine rowG_upd ?_ e9; exact Lf)
  ·have e9 : ∀ j, j < F.length → ptG F x.toNat (x - x).toNat j = if j = 0 + x.toNat then (1, 1) else ptZ t.toNat j := fun j hj => by
    rw [Int.sub_self, Nat.zero_add, show (0 : Int).toNat = 0 from rfl, hstart]
    unfold ptZ
    rw [if_pos (show j < t.toNat by omega)]
   clear hstart
   conv => whnf
   repeat' first | ((first | refine Ob.a ?_ | refine Sp.tt ?_ | refine Sp.ff ?_ | refine Sp.yes ?_ | refine Sp.no ?_ | refine Sp.nyes ?_ | refine Sp.nno ?_ | refine Fi.a ?_);conv=>whnf) | ((first | refine Sp.ne ?_ ?_ | refine Sp.dec ?_ ?_ | refine Sp.ndec ?_ ?_ | refine Sp.mk ?_ ?_) <;> intro hc <;> conv => whnf) | (refine Ob.b ?_;conv=>whnf)
   all_goals try (exfalso; omega)
   refine Lp.snap [0, 1, 4, 5, 67, 77] 40 ?_
   (conv=>whnf)
   refine LpB.go 78 ({i : Int // -1 ≤ i ∧ i ≤ x}) 0 (fun ⟨i, _⟩ nx => ([(7, .d (int i))], [(7, .row true 66 2 F.length (rowG (ptG F x.toNat (x - i).toNat)))])) (fun p => (p.1 + 1).toNat) (⟨x, by omega, by omega⟩) ?_ ?_
   ·rintro ⟨i, i0, i1⟩
    by_cases hi : 0 ≤ i
    ·have hS := hS i hi (by omega)
     have hsq := hsq i hi (by omega)
     have hbd := hbd (x - i).toNat (0 + i.toNat)
     have hxi : x.toNat - (x - i).toNat = i.toNat := by omega
     have hci : (x - (i - 1)).toNat = (x - i).toNat + 1 := by omega
     cases hsk : sackB F i.toNat with
     | true =>
      rw [hsk] at hS
      have e9 : ∀ j, j < F.length → ptG F x.toNat (x - i).toNat j = ptG F x.toNat (x - (i - 1)).toNat j := fun j _ => by
       rw [hci]; exact (ptG_skip (by rw [hxi]; exact of_decide_eq_true hsk) j).symm
      conv => whnf
      repeat' first | ((first | refine Ob.a ?_ | refine Sp.tt ?_ | refine Sp.ff ?_ | refine Sp.yes ?_ | refine Sp.no ?_ | refine Sp.nyes ?_ | refine Sp.nno ?_ | refine Fi.a ?_);conv=>whnf) | ((first | refine Sp.ne ?_ ?_ | refine Sp.dec ?_ ?_ | refine Sp.ndec ?_ ?_ | refine Sp.mk ?_ ?_) <;> intro hc <;> conv => whnf) | (apply Cl.go;(conv=>whnf); (first | refine Ob.call (hS) ?_);(conv=>whnf)) | (refine Ob.b ?_;conv=>whnf)
      all_goals try (exfalso; omega)
      all_goals (refine ⟨rfl, ⟨i - 1, by omega, by omega⟩, ?_, by simp only; omega⟩;(conv=>whnf); repeat' first | (refine Edge.fast ?_) | ((conv=>whnf); first | exact True.intro | (refine And.intro ?_ ?_) | exact rfl | exact Nat.le_of_eq (Nat.zero_add _) | exact ImpS.refl _ | ((conv => arg 1; whnf); first | exact ImpS.refl _ | (refine ImpS.nil_eq ?_) | (refine ImpS.vnil_eq ?_) | (refine ImpS.row ?_) | (refine ImpS.rowN ?_ ?_) | (refine ImpS.sl_eq ?_) | (refine ImpS.expl rfl ?_)) | (refine row_snoc' ?_) | exact MImp.refl _ | exact cimp_none | exact cimp_same | exact List.not_mem_nil | exact DImp.refl _) | exact rfl | (refine And.intro ?_ ?_) | exact ImpS.refl _)
      all_goals first | exact rowG_same e9
     | false =>
      rw [hsk] at hS
      have hne : frm F i.toNat ≠ [] := of_decide_eq_false hsk
      have hel := (hm.ris i.toNat (by omega)).1
      have hfl := frm_len' hm (i := i.toNat) (by omega)
      have hst := fun (t : Nat) (ht : t < (frm F (x.toNat - (x - i).toNat)).length) => part_stepP hm (x := x.toNat) (c := (x - i).toNat) (t := t) (by omega) (by omega) ht
      have hnx := fun (t : Nat) (ht : t < (frm F (x.toNat - (x - i).toNat)).length) (j : Nat) => ptH_succ hm (x := x.toNat) (c := (x - i).toNat) (t := t) (by omega) ht j
      have h0 : ∀ j, j < F.length → ptH F x.toNat (x - i).toNat 0 j = if j = 0 + i.toNat then (0, 1) else ptG F x.toNat (x - i).toNat j := fun j _ => by rw [ptH_start, hxi, Nat.zero_add]
      have h9 : ∀ j, j < F.length → ptH F x.toNat (x - i).toNat (frm F i.toNat).length j = ptG F x.toNat (x - (i - 1)).toNat j := fun j _ => by
       rw [hci, ← hxi]; exact ptH_end (by rw [hxi]; exact hne) j
      rw [hxi] at hst hnx
      change ∀ t, t < (F.getD i.toNat []).length → Fn _ _ [ratD (ptH F x.toNat (x - i).toNat t (0 + ((F.getD i.toNat []).getD t 0).toNat)), ratD (_, _ * ((F.getD i.toNat []).length : Int))] (ratD (ptH F x.toNat (x - i).toNat (t + 1) ((F.getD i.toNat []).getD t 0).toNat)) at hst
      change ∀ t, t < (F.getD i.toNat []).length → ∀ j, _ = if j = ((F.getD i.toNat []).getD t 0).toNat then ptH F x.toNat (x - i).toNat (t + 1) ((F.getD i.toNat []).getD t 0).toNat else _ at hnx
      change ∀ j, j < F.length → ptH F x.toNat (x - i).toNat (F.getD i.toNat []).length j = _ at h9
      change (F.getD i.toNat []).length ≤ i.toNat at hfl
      have hb1 : (ptG F x.toNat (x - i).toNat (0 + i.toNat)).2 * ((F.getD i.toNat []).length : Int) ≤ 362880 * 10 := Int.mul_le_mul (by omega) (by omega) (by omega) (by omega)
      have hb0 : 0 ≤ (ptG F x.toNat (x - i).toNat (0 + i.toNat)).2 * ((F.getD i.toNat []).length : Int) := Int.mul_nonneg (by omega) (by omega)
      have hL := hL i
      clear hend
      conv => whnf
      repeat' first | ((first | refine Ob.a ?_ | refine Sp.tt ?_ | refine Sp.ff ?_ | refine Sp.yes ?_ | refine Sp.no ?_ | refine Sp.nyes ?_ | refine Sp.nno ?_ | refine Fi.a ?_);conv=>whnf) | ((first | refine Sp.ne ?_ ?_ | refine Sp.dec ?_ ?_ | refine Sp.ndec ?_ ?_ | refine Sp.mk ?_ ?_) <;> intro hc <;> conv => whnf) | (apply Cl.go;(conv=>whnf); (first | refine Ob.call (hS) ?_ | refine Ob.call (hL) ?_);(conv=>whnf)) | (refine Ob.b ?_;conv=>whnf)
      all_goals try (exfalso; omega)
      refine Rg.snap [0, 1, 4, 5, 7, 8, 9, 32, 34, 35, 36, 37, 39, 40, 41, 42, 43, 44, 45, 46, 47, 48, 49, 50, 51, 52, 53, 54, 55, 56, 57, 58, 59, 60, 61, 62, 63, 64, 65, 67, 68, 69, 70, 71, 72, 73, 74, 75, 76, 77] 40 ?_
      (conv=>whnf)
      refine RgB.go 78 ({t : Nat // t ≤ (F.getD i.toNat []).length}) 0 (fun ⟨t, _⟩ nx => [(7, .row true 66 2 F.length (rowG (ptH F x.toNat (x - i).toNat t)))]) (fun p => p.1) (⟨0, by omega⟩) hsq ?_ ?_ ?_
      ·rintro ⟨t, ht⟩ j hj0 hj
       simp only at hj0
       subst hj0
       have hx := hel _ (getD_mem (l := frm F i.toNat) hj 0)
       have hx0 : 0 ≤ (F.getD i.toNat []).getD t 0 := hx.1
       have hx1 : (F.getD i.toNat []).getD t 0 < i := by have h : (F.getD i.toNat []).getD t 0 < (i.toNat : Int) := hx.2; omega
       have hst := hst t hj
       have hnx := hnx t hj
       have e9 : ∀ j, j < F.length → ptH F x.toNat (x - i).toNat (t + 1) j = if j = 0 + ((F.getD i.toNat []).getD t 0).toNat then ptH F x.toNat (x - i).toNat (t + 1) ((F.getD i.toNat []).getD t 0).toNat else ptH F x.toNat (x - i).toNat t j := fun j _ => by rw [Nat.zero_add]; exact hnx j
       clear hnx
       conv => whnf
       repeat' first | ((first | refine Ob.a ?_ | refine Sp.tt ?_ | refine Sp.ff ?_ | refine Sp.yes ?_ | refine Sp.no ?_ | refine Sp.nyes ?_ | refine Sp.nno ?_ | refine Fi.a ?_);conv=>whnf) | ((first | refine Sp.ne ?_ ?_ | refine Sp.dec ?_ ?_ | refine Sp.ndec ?_ ?_ | refine Sp.mk ?_ ?_) <;> intro hc <;> conv => whnf) | (apply Cl.go;(conv=>whnf); (first | refine Ob.call (hst) ?_);(conv=>whnf)) | (refine Ob.b ?_;conv=>whnf)
       all_goals try (exfalso; omega)
       all_goals (refine ⟨rfl, ⟨t + 1, hj⟩, rfl, ?_⟩;(conv=>whnf); repeat' first | (refine Edge.fast ?_) | ((conv=>whnf); first | exact True.intro | (refine And.intro ?_ ?_) | exact rfl | exact Nat.le_of_eq (Nat.zero_add _) | exact ImpS.refl _ | ((conv => arg 1; whnf); first | exact ImpS.refl _ | (refine ImpS.nil_eq ?_) | (refine ImpS.vnil_eq ?_) | (refine ImpS.row ?_) | (refine ImpS.rowN ?_ ?_) | (refine ImpS.sl_eq ?_) | (refine ImpS.expl rfl ?_)) | (refine row_snoc' ?_) | exact MImp.refl _ | exact cimp_none | exact cimp_same | exact List.not_mem_nil | exact DImp.refl _) | exact rfl | (refine And.intro ?_ ?_) | exact ImpS.refl _)
       all_goals first | (refine rowG_upd ?_ e9; exact Lf)
      ·rintro ⟨t, ht⟩ ht'
       simp only at ht'
       subst ht'
       conv => whnf
       repeat' first | ((first | refine Ob.a ?_ | refine Sp.tt ?_ | refine Sp.ff ?_ | refine Sp.yes ?_ | refine Sp.no ?_ | refine Sp.nyes ?_ | refine Sp.nno ?_ | refine Fi.a ?_);conv=>whnf) | ((first | refine Sp.ne ?_ ?_ | refine Sp.dec ?_ ?_ | refine Sp.ndec ?_ ?_ | refine Sp.mk ?_ ?_) <;> intro hc <;> conv => whnf) | (refine Ob.b ?_;conv=>whnf)
       all_goals try (exfalso; omega)
       all_goals (refine ⟨rfl, ⟨i - 1, by omega, by omega⟩, ?_, by simp only; omega⟩;(conv=>whnf); repeat' first | (refine Edge.fast ?_) | ((conv=>whnf); first | exact True.intro | (refine And.intro ?_ ?_) | exact rfl | exact Nat.le_of_eq (Nat.zero_add _) | exact ImpS.refl _ | ((conv => arg 1; whnf); first | exact ImpS.refl _ | (refine ImpS.nil_eq ?_) | (refine ImpS.vnil_eq ?_) | (refine ImpS.row ?_) | (refine ImpS.rowN ?_ ?_) | (refine ImpS.sl_eq ?_) | (refine ImpS.expl rfl ?_)) | (refine row_snoc' ?_) | exact MImp.refl _ | exact cimp_none | exact cimp_same | exact List.not_mem_nil | exact DImp.refl _) | exact rfl | (refine And.intro ?_ ?_) | exact ImpS.refl _)
       all_goals first | exact rowG_same h9
      ·conv => whnf
       repeat' first | (refine Edge.fast ?_) | ((conv=>whnf); first | exact True.intro | (refine And.intro ?_ ?_) | exact rfl | exact Nat.le_of_eq (Nat.zero_add _) | exact ImpS.refl _ | ((conv => arg 1; whnf); first | exact ImpS.refl _ | (refine ImpS.nil_eq ?_) | (refine ImpS.vnil_eq ?_) | (refine ImpS.row ?_) | (refine ImpS.rowN ?_ ?_) | (refine ImpS.sl_eq ?_) | (refine ImpS.expl rfl ?_)) | (refine row_snoc' ?_) | exact MImp.refl _ | exact cimp_none | exact cimp_same | exact List.not_mem_nil | exact DImp.refl _) | exact rfl | (refine And.intro ?_ ?_) | exact ImpS.refl _
       all_goals first | (refine rowG_upd ?_ h0; exact Lf)
    ·have e : (x - i).toNat = x.toNat + 1 := by omega
     have e9 : ∀ j, j < F.length → ptG F x.toNat (x - i).toNat j = R.getD j (0, 0) := fun j hj => by rw [e]; exact hend j hj
     conv => whnf
     repeat' first | ((first | refine Ob.a ?_ | refine Sp.tt ?_ | refine Sp.ff ?_ | refine Sp.yes ?_ | refine Sp.no ?_ | refine Sp.nyes ?_ | refine Sp.nno ?_ | refine Fi.a ?_);conv=>whnf) | ((first | refine Sp.ne ?_ ?_ | refine Sp.dec ?_ ?_ | refine Sp.ndec ?_ ?_ | refine Sp.mk ?_ ?_) <;> intro hc <;> conv => whnf) | (refine Ob.b ?_;conv=>whnf)
     all_goals first | (exfalso; omega) | exact ImpS.rowG hln.symm e9
   ·conv => whnf
    repeat' first | (refine Edge.fast ?_) | ((conv=>whnf); first | exact True.intro | (refine And.intro ?_ ?_) | exact rfl | exact Nat.le_of_eq (Nat.zero_add _) | exact ImpS.refl _ | ((conv => arg 1; whnf); first | exact ImpS.refl _ | (refine ImpS.nil_eq ?_) | (refine ImpS.vnil_eq ?_) | (refine ImpS.row ?_) | (refine ImpS.rowN ?_ ?_) | (refine ImpS.sl_eq ?_) | (refine ImpS.expl rfl ?_)) | (refine row_snoc' ?_) | exact MImp.refl _ | exact cimp_none | exact cimp_same | exact List.not_mem_nil | exact DImp.refl _) | exact rfl | (refine And.intro ?_ ?_) | exact ImpS.refl _
    all_goals first | (refine rowG_upd ?_ e9; exact Lf)
 ·conv => whnf
  repeat' first | (refine Edge.fast ?_) | ((conv=>whnf); first | exact True.intro | (refine And.intro ?_ ?_) | exact rfl | exact Nat.le_of_eq (Nat.zero_add _) | exact ImpS.refl _ | ((conv => arg 1; whnf); first | exact ImpS.refl _ | (refine ImpS.nil_eq ?_) | (refine ImpS.vnil_eq ?_) | (refine ImpS.row ?_) | (refine ImpS.rowN ?_ ?_) | (refine ImpS.sl_eq ?_) | (refine ImpS.expl rfl ?_)) | (refine row_snoc' ?_) | exact MImp.refl _ | exact cimp_none | exact cimp_same | exact List.not_mem_nil | exact DImp.refl _) | exact rfl | (refine And.intro ?_ ?_) | exact ImpS.refl _
  all_goals first | exact (fun j _ => by (show CImp (zE ti66) (ratD (ptZ 0 j))); rw [show ptZ 0 j = (0, 0) from if_neg (Nat.not_lt_zero j)]; exact Lf)
set_option maxHeartbeats 4000000 in
theorem PartsP_spec (F : List (List Int)) (hs : SmallM F) (x : Int) : Fn Try.prog 26 [mixD F, int x] (tpl [slOf 2 ratD (0, 0) (if nodeE F [x] = 0 then partsL F x.toNat else []), int (nodeE F [x])]) := by
 by_cases h0 : nodeE F [x] = 0
 ·have hO := open_spec F hs [x] (by simp) h0
  obtain ⟨hm, hx⟩ := nodeE_ok.1 h0
  have hx := hx x (by simp)
  have hl10 := hm.l10
  have hl1 := hm.l1
  have hC := parts_spec F hs hm nilS 0 x hx.1 hx.2
  have hln := partsL_len F x.toNat
  rw [if_pos h0, h0]
  generalize partsL F x.toNat = r at *
  clear h0
  refine Fn.of_ex (cuts := []) tys hM Try.func26 rfl Try.call26 rfl ?_
  show exC Try.prog T [] _ false none 0 (entry 31 [mixD F, int x]) (finQ T [ResultVar.tmp 4, ResultVar.tmp 5] _)
  conv => whnf
  repeat' first | ((first | refine Ob.a ?_ | refine Sp.tt ?_ | refine Sp.ff ?_ | refine Sp.yes ?_ | refine Sp.no ?_ | refine Sp.nyes ?_ | refine Sp.nno ?_ | refine Fi.a ?_);conv=>whnf) | ((first | refine Sp.ne ?_ ?_ | refine Sp.dec ?_ ?_ | refine Sp.ndec ?_ ?_ | refine Sp.mk ?_ ?_) <;> intro hc <;> conv => whnf) | (apply Cl.nw;(conv=>whnf); (first | (refine Ob.nwX (hO) ?_ ?_ ?_;(focus exact Lf); (focus exact Lf)));(conv=>whnf)) | (apply Cl.go;(conv=>whnf); (first | refine Ob.call (hC) ?_);(conv=>whnf)) | (refine Ob.b ?_;conv=>whnf)
  all_goals first | exact Lf | (exfalso; omega) | (rename_i hq; exact absurd rfl hq)
 ·have hO := open_err F hs [x] (by simp) h0
  rw [if_neg h0]
  generalize nodeE F [x] = k at *
  refine Fn.of_ex (cuts := []) tys hM Try.func26 rfl Try.call26 rfl ?_
  show exC Try.prog T [] _ false none 0 (entry 31 [mixD F, int x]) (finQ T [ResultVar.tmp 4, ResultVar.tmp 5] _)
  conv => whnf
  repeat' first | ((first | refine Ob.a ?_ | refine Sp.tt ?_ | refine Sp.ff ?_ | refine Sp.yes ?_ | refine Sp.no ?_ | refine Sp.nyes ?_ | refine Sp.nno ?_ | refine Fi.a ?_);conv=>whnf) | ((first | refine Sp.ne ?_ ?_ | refine Sp.dec ?_ ?_ | refine Sp.ndec ?_ ?_ | refine Sp.mk ?_ ?_) <;> intro hc <;> conv => whnf) | (apply Cl.go;(conv=>whnf); (first | refine Ob.call (hO) ?_);(conv=>whnf)) | (refine Ob.b ?_;conv=>whnf)
  all_goals first | exact Lf | (exfalso; omega)
end Go.Px.Try

/-! Tf5 -/
namespace Go.Px.Try
open Go Go.Proofs Go.Px
set_option maxRecDepth 100000
theorem lst_filter (n : Nat) (S p : Nat → Bool) : (lst n S).filter (fun x => p x.toNat) = lst n fun i => S i && p i := by
 unfold lst
 rw [List.filter_map, List.filter_filter]
 congr 1
 refine List.filter_congr fun i _ => ?_
 simp [Bool.and_comm]
def comB (F : List (List Int)) (a b i : Nat) : Bool := cm F a i && cm F b i
/-- No other node of these comes of y. -/
def lastB (F : List (List Int)) (L : List Int) (y : Int) : Bool := L.all fun z => decide (z = y) || !cm F z.toNat y.toNat
def coL (F : List (List Int)) (a b : Nat) : List Int := (lst F.length (comB F a b)).filter (lastB F (lst F.length (comB F a b)))
theorem filter_take_succ {l : List Int} {i : Int} (p : Int → Bool) (i0 : 0 ≤ i) (h : i < l.length) : (l.take (i + 1).toNat).filter p = (l.take i.toNat).filter p ++ if p (l.getD i.toNat 0) = true then [l.getD i.toNat 0] else [] := by
 rw [show (i + 1).toNat = i.toNat + 1 by omega, take_succ_getD l i.toNat 0 (by omega), List.filter_append]
 congr 1
 cases hp : p (l.getD i.toNat 0) with
 | true => rw [if_pos rfl]; exact List.filter_cons_of_pos hp
 | false => rw [if_neg (by simp)]; rw [List.filter_cons_of_neg (by simp only [hp]; simp)]; rfl
theorem inc_inj {l : List Int} (h : l.Pairwise (· < ·)) {i j : Int} (i0 : 0 ≤ i) (i1 : i < l.length) (j0 : 0 ≤ j) (j1 : j < l.length) : l.getD i.toNat 0 = l.getD j.toNat 0 ↔ i = j := by
 constructor
 ·intro e
  rcases Int.lt_trichotomy i j with h1 | h1 | h1
  ·have := inc_getD h i.toNat j.toNat (by omega) (by omega); omega
  ·exact h1
  ·have := inc_getD h j.toNat i.toNat (by omega) (by omega); omega
 ·intro e; rw [e]
set_option maxHeartbeats 16000000 in
theorem Common_spec (F : List (List Int)) (hs : SmallM F) (x y : Int) : Fn Try.prog 29 [mixD F, int x, int y] (tpl [ints (if nodeE F [x, y] = 0 then coL F x.toNat y.toNat else []), int (nodeE F [x, y])]) := by
 have hE := nodeError_spec F hs [x, y] (by simp)
 have hk := @nodeE_ok F [x, y]
 by_cases h0 : nodeE F [x, y] = 0
 ·rw [if_pos h0]
  rw [h0] at hE ⊢
  obtain ⟨hm, hxy⟩ := hk.1 h0
  have hx := hxy x (by simp)
  have hy := hxy y (by simp)
  have hl10 := hm.l10
  have hX := fun (i : Int) (a : 0 ≤ i) => Comes_spec F hm i a (F.length + 1) x hx.1 (by omega) hx.2
  have hY := fun (i : Int) (a : 0 ≤ i) => Comes_spec F hm i a (F.length + 1) y hy.1 (by omega) hy.2
  clear hk h0 hxy
  refine Fn.hide (D := fun r : List Int => tpl [ints r, int 0]) fun c hc => ?_
  have hc0 := hc.h
  clear hc
  refine Fn.of_ex (cuts := []) tys hM Try.func29 rfl Try.call29 rfl ?_
  show exC Try.prog T [] _ false none 0 (entry 86 [mixD F, int x, int y]) (finQ T [ResultVar.tmp 6, ResultVar.tmp 7] _)
  conv => whnf
  repeat' first | ((first | refine Ob.a ?_ | refine Sp.tt ?_ | refine Sp.ff ?_ | refine Sp.yes ?_ | refine Sp.no ?_ | refine Sp.nyes ?_ | refine Sp.nno ?_ | refine Fi.a ?_);conv=>whnf) | ((first | refine Sp.ne ?_ ?_ | refine Sp.dec ?_ ?_ | refine Sp.ndec ?_ ?_ | refine Sp.mk ?_ ?_) <;> intro hc <;> conv => whnf) | (apply Cl.go;(conv=>whnf); (first | refine Ob.call (hE) ?_);(conv=>whnf)) | (refine Ob.b ?_;conv=>whnf)
  all_goals try (rename_i hq; exact absurd rfl hq)
  refine Lp.snap [0, 1, 2, 3, 6, 7, 10, 11, 12, 13, 46, 47, 48, 50, 51, 52, 53, 54, 56, 57, 58, 59, 60, 61, 62, 63, 64, 65, 66, 67, 68, 69, 70, 71, 72, 73, 74, 75, 76, 78, 79, 80, 81, 82, 83, 84, 85] 40 ?_
  (conv=>whnf)
  refine LpB.go 86 ({q : Int × List Int // (0 ≤ q.1 ∧ q.1 ≤ F.length) ∧ q.2 = lst q.1.toNat (comB F x.toNat y.toNat)}) 0 (fun ⟨(i, o), _⟩ nx => ([(9, .d (int i)), (8, .ms 9 1 0 o.length)], [(9, .row true 3 1 o.length (rowOf int 0 o))])) (fun p => (F.length - p.1.1).toNat) (⟨(0, []), ⟨by simp, by simp⟩, rfl⟩) ?_ ?_
  ·rintro ⟨⟨i, o⟩, ⟨i0, i1⟩, ho⟩
   simp only at i0 i1 ho
   have hlen : o.length ≤ i.toNat := by rw [ho]; exact lst_length_le _ _
   by_cases hi : i < F.length
   ·have hX := hX i i0
    have hY := hY i i0
    have hst : lst (i + 1).toNat (comB F x.toNat y.toNat) = o ++ if (cm F x.toNat i.toNat && cm F y.toNat i.toNat) = true then [i] else [] := by
     rw [show (i + 1).toNat = i.toNat + 1 by omega, lst_succ, ho, Int.toNat_of_nonneg i0]
     rfl
    generalize cm F x.toNat i.toNat = bx at *
    generalize cm F y.toNat i.toNat = b' at *
    cases bx with
    | true =>
     rw [Bool.true_and] at hst
     cases b' with
     | true =>
      rw [if_pos rfl] at hst
      conv => whnf
      repeat' first | ((first | refine Ob.a ?_ | refine Sp.tt ?_ | refine Sp.ff ?_ | refine Sp.yes ?_ | refine Sp.no ?_ | refine Sp.nyes ?_ | refine Sp.nno ?_ | refine Fi.a ?_);conv=>whnf) | ((first | refine Sp.ne ?_ ?_ | refine Sp.dec ?_ ?_ | refine Sp.ndec ?_ ?_ | refine Sp.mk ?_ ?_) <;> intro hc <;> conv => whnf) | (apply Cl.go;(conv=>whnf); (first | refine Ob.call (hX) ?_ | refine Ob.call (hY) ?_);(conv=>whnf)) | (refine Ob.b ?_;conv=>whnf)
      all_goals first | exact ⟨rfl, ⟨(i + 1, o ++ [i]), ⟨by simp only; omega, by simp only; omega⟩, hst.symm⟩, Lf, by simp only; omega⟩ | (exfalso; omega)
     | false =>
      rw [if_neg (by simp), List.append_nil] at hst
      conv => whnf
      repeat' first | ((first | refine Ob.a ?_ | refine Sp.tt ?_ | refine Sp.ff ?_ | refine Sp.yes ?_ | refine Sp.no ?_ | refine Sp.nyes ?_ | refine Sp.nno ?_ | refine Fi.a ?_);conv=>whnf) | ((first | refine Sp.ne ?_ ?_ | refine Sp.dec ?_ ?_ | refine Sp.ndec ?_ ?_ | refine Sp.mk ?_ ?_) <;> intro hc <;> conv => whnf) | (apply Cl.go;(conv=>whnf); (first | refine Ob.call (hX) ?_ | refine Ob.call (hY) ?_);(conv=>whnf)) | (refine Ob.b ?_;conv=>whnf)
      all_goals first | exact ⟨rfl, ⟨(i + 1, o), ⟨by simp only; omega, by simp only; omega⟩, hst.symm⟩, Lf, by simp only; omega⟩ | (exfalso; omega)
    | false =>
     rw [Bool.false_and, if_neg (by simp), List.append_nil] at hst
     conv => whnf
     repeat' first | ((first | refine Ob.a ?_ | refine Sp.tt ?_ | refine Sp.ff ?_ | refine Sp.yes ?_ | refine Sp.no ?_ | refine Sp.nyes ?_ | refine Sp.nno ?_ | refine Fi.a ?_);conv=>whnf) | ((first | refine Sp.ne ?_ ?_ | refine Sp.dec ?_ ?_ | refine Sp.ndec ?_ ?_ | refine Sp.mk ?_ ?_) <;> intro hc <;> conv => whnf) | (apply Cl.go;(conv=>whnf); (first | refine Ob.call (hX) ?_);(conv=>whnf)) | (refine Ob.b ?_;conv=>whnf)
     all_goals first | exact ⟨rfl, ⟨(i + 1, o), ⟨by simp only; omega, by simp only; omega⟩, hst.symm⟩, Lf, by simp only; omega⟩ | (exfalso; omega)
   ·have e : o = lst F.length (comB F x.toNat y.toNat) := by rw [ho, show i.toNat = F.length by omega]
    have hin : o.Pairwise (· < ·) := by rw [e]; exact lst_inc _ _
    have hel : ∀ z ∈ o, 0 ≤ z ∧ z < F.length := fun z hz => by
     rw [e] at hz
     obtain ⟨j, h1, _, rfl⟩ := mem_lst.1 hz
     omega
    have hc1 : o.filter (lastB F o) = c := by rw [e, ← hc0]; rfl
    have hCC := fun (u v : Int) (a : u ∈ o) (b : v ∈ o) => Comes_spec F hm v (hel v b).1 (F.length + 1) u (hel u a).1 (by have := hel u a; omega) (hel u a).2
    clear hc0 hX hY
    conv => whnf
    repeat' first | ((first | refine Ob.a ?_ | refine Sp.tt ?_ | refine Sp.ff ?_ | refine Sp.yes ?_ | refine Sp.no ?_ | refine Sp.nyes ?_ | refine Sp.nno ?_ | refine Fi.a ?_);conv=>whnf) | ((first | refine Sp.ne ?_ ?_ | refine Sp.dec ?_ ?_ | refine Sp.ndec ?_ ?_ | refine Sp.mk ?_ ?_) <;> intro hc <;> conv => whnf) | (refine Ob.b ?_;conv=>whnf)
    refine Lp.snap [0, 1, 2, 3, 6, 7, 8, 85] 40 ?_
    (conv=>whnf)
    refine LpB.go 86 ({q : Int × List Int // (0 ≤ q.1 ∧ q.1 ≤ o.length) ∧ q.2 = (o.take q.1.toNat).filter (lastB F o) ∧ q.2.length ≤ q.1}) 0 (fun ⟨(i, l), _⟩ nx => ([(11, .d (int i)), (10, .ms 15 1 0 l.length)], [(15, .row true 3 1 l.length (rowOf int 0 l))])) (fun p => (o.length - p.1.1).toNat) (⟨(0, []), ⟨by simp, by simp⟩, rfl, by simp⟩) ?_ ?_
    ·rintro ⟨⟨i, l⟩, ⟨i0, i1⟩, hl, hll⟩
     simp only at i0 i1 hl hll
     by_cases hi : i < o.length
     ·have hst := filter_take_succ (lastB F o) i0 hi
      rw [← hl] at hst
      have hmi := getD_mem (l := o) (i := i.toNat) (by omega) 0
      have hCC := fun (k : Int) (a : 0 ≤ k) (b : k < o.length) => hCC (o.getD k.toNat 0) (o.getD i.toNat 0) (getD_mem (by omega) 0) hmi
      have hnj := fun (k : Int) (a : 0 ≤ k) (b : k < o.length) => inc_inj hin a b i0 hi
      have hb1 : ∀ k : Int, 0 ≤ k → k < o.length → k ≠ i → cm F (o.getD k.toNat 0).toNat (o.getD i.toNat 0).toNat = true → lastB F o (o.getD i.toNat 0) = false := fun k a b hn hcm => by
       unfold lastB
       rw [List.all_eq_false]
       refine ⟨_, getD_mem (i := k.toNat) (by omega) 0, ?_⟩
       rw [hcm, decide_eq_false fun e => hn ((hnj k a b).1 e)]; simp
      have hb2 : (∀ k : Int, 0 ≤ k → k < o.length → k ≠ i → cm F (o.getD k.toNat 0).toNat (o.getD i.toNat 0).toNat = false) → lastB F o (o.getD i.toNat 0) = true := fun h => by
       unfold lastB
       rw [List.all_eq_true]
       intro z hz
       obtain ⟨j, hj, rfl⟩ := mem_getD (d := 0) hz
       by_cases e : (j : Int) = i
       ·rw [← e, Int.toNat_natCast]; simp
       ·have := h j (by omega) (by omega) e
        rw [Int.toNat_natCast] at this
        rw [this]; simp
      generalize lastB F o (o.getD i.toNat 0) = B at *
      have hlt : l.length ≤ i := hll
      conv => whnf
      repeat' first | ((first | refine Ob.a ?_ | refine Sp.tt ?_ | refine Sp.ff ?_ | refine Sp.yes ?_ | refine Sp.no ?_ | refine Sp.nyes ?_ | refine Sp.nno ?_ | refine Fi.a ?_);conv=>whnf) | ((first | refine Sp.ne ?_ ?_ | refine Sp.dec ?_ ?_ | refine Sp.ndec ?_ ?_ | refine Sp.mk ?_ ?_) <;> intro hc <;> conv => whnf) | (refine Ob.b ?_;conv=>whnf)
      refine Lp.snap [0, 1, 2, 3, 6, 7, 8, 10, 11, 46, 47, 48, 50, 51, 78, 79, 80, 81, 82, 83, 84, 85] 40 ?_
      (conv=>whnf)
      refine LpB.go 86 ({q : Int × Bool // (0 ≤ q.1 ∧ q.1 ≤ o.length) ∧ (q.2 = false → B = false) ∧ (q.2 = true → ∀ k : Int, 0 ≤ k → k < q.1 → k ≠ i → cm F (o.getD k.toNat 0).toNat (o.getD i.toNat 0).toNat = false)}) 0 (fun ⟨(k, b), _⟩ nx => ([(13, .d (int k)), (12, .d (bool b))], [])) (fun p => (o.length - p.1.1).toNat) (⟨(0, true), ⟨by simp, by simp⟩, by simp, fun _ k a b => by simp only at b; omega⟩) ?_ ?_
      ·rintro ⟨⟨k, b⟩, ⟨k0, k1⟩, hf, ht⟩
       simp only at k0 k1 hf ht
       by_cases hk : k < o.length
       ·have hCC := hCC k k0 hk
        have hb1 := hb1 k k0 hk
        cases b with
        | false =>
         have hf := hf rfl
         conv => whnf
         repeat' first | ((first | refine Ob.a ?_ | refine Sp.tt ?_ | refine Sp.ff ?_ | refine Sp.yes ?_ | refine Sp.no ?_ | refine Sp.nyes ?_ | refine Sp.nno ?_ | refine Fi.a ?_);conv=>whnf) | (refine Sp.byes ?_;conv=>whnf) | (refine Sp.bno ?_;conv=>whnf) | ((first | refine Sp.ne ?_ ?_ | refine Sp.dec ?_ ?_ | refine Sp.ndec ?_ ?_ | refine Sp.mk ?_ ?_) <;> intro hc <;> conv => whnf) | (refine Ob.b ?_;conv=>whnf)
         all_goals first | exact ⟨rfl, ⟨(k + 1, false), ⟨by simp only; omega, by simp only; omega⟩, fun _ => hf, fun e => (by cases e)⟩, Lf, by simp only; omega⟩ | (exfalso; omega)
        | true =>
         have ht := ht rfl
         by_cases hki : k = i
         ·have e : ∀ j : Int, 0 ≤ j → j < k + 1 → j ≠ i → cm F (o.getD j.toNat 0).toNat (o.getD i.toNat 0).toNat = false := fun j a b hn => ht j a (by omega) hn
          conv => whnf
          repeat' first | ((first | refine Ob.a ?_ | refine Sp.tt ?_ | refine Sp.ff ?_ | refine Sp.yes ?_ | refine Sp.no ?_ | refine Sp.nyes ?_ | refine Sp.nno ?_ | refine Fi.a ?_);conv=>whnf) | (refine Sp.byes ?_;conv=>whnf) | (refine Sp.bno ?_;conv=>whnf) | ((first | refine Sp.ne ?_ ?_ | refine Sp.dec ?_ ?_ | refine Sp.ndec ?_ ?_ | refine Sp.mk ?_ ?_) <;> intro hc <;> conv => whnf) | (refine Ob.b ?_;conv=>whnf)
          all_goals first | exact ⟨rfl, ⟨(k + 1, true), ⟨by simp only; omega, by simp only; omega⟩, fun e => (by cases e), fun _ => e⟩, Lf, by simp only; omega⟩ | (exfalso; omega)
         ·have hb1 := hb1 hki
          generalize hcm : cm F (o.getD k.toNat 0).toNat (o.getD i.toNat 0).toNat = q at *
          cases q with
          | true =>
           have hB := hb1 rfl
           conv => whnf
           repeat' first | ((first | refine Ob.a ?_ | refine Sp.tt ?_ | refine Sp.ff ?_ | refine Sp.yes ?_ | refine Sp.no ?_ | refine Sp.nyes ?_ | refine Sp.nno ?_ | refine Fi.a ?_);conv=>whnf) | (refine Sp.byes ?_;conv=>whnf) | (refine Sp.bno ?_;conv=>whnf) | ((first | refine Sp.ne ?_ ?_ | refine Sp.dec ?_ ?_ | refine Sp.ndec ?_ ?_ | refine Sp.mk ?_ ?_) <;> intro hc <;> conv => whnf) | (apply Cl.go;(conv=>whnf); (first | refine Ob.call (hCC) ?_);(conv=>whnf)) | (refine Ob.b ?_;conv=>whnf)
           all_goals first | exact ⟨rfl, ⟨(k + 1, false), ⟨by simp only; omega, by simp only; omega⟩, fun _ => hB, fun e => (by cases e)⟩, Lf, by simp only; omega⟩ | (exfalso; omega)
          | false =>
           have e : ∀ j : Int, 0 ≤ j → j < k + 1 → j ≠ i → cm F (o.getD j.toNat 0).toNat (o.getD i.toNat 0).toNat = false := fun j a b hn => if e : j = k then (by subst e; exact hcm) else ht j a (by omega) hn
           conv => whnf
           repeat' first | ((first | refine Ob.a ?_ | refine Sp.tt ?_ | refine Sp.ff ?_ | refine Sp.yes ?_ | refine Sp.no ?_ | refine Sp.nyes ?_ | refine Sp.nno ?_ | refine Fi.a ?_);conv=>whnf) | (refine Sp.byes ?_;conv=>whnf) | (refine Sp.bno ?_;conv=>whnf) | ((first | refine Sp.ne ?_ ?_ | refine Sp.dec ?_ ?_ | refine Sp.ndec ?_ ?_ | refine Sp.mk ?_ ?_) <;> intro hc <;> conv => whnf) | (apply Cl.go;(conv=>whnf); (first | refine Ob.call (hCC) ?_);(conv=>whnf)) | (refine Ob.b ?_;conv=>whnf)
           all_goals first | exact ⟨rfl, ⟨(k + 1, true), ⟨by simp only; omega, by simp only; omega⟩, fun e => (by cases e), fun _ => e⟩, Lf, by simp only; omega⟩ | (exfalso; omega)
       ·have hkb : b = B := by
         cases b with
         | false => exact (hf rfl).symm
         | true => exact (hb2 fun j a b hn => ht rfl j a (by omega) hn).symm
        subst hkb
        clear hb1 hb2
        cases b with
        | true =>
         rw [if_pos rfl] at hst
         conv => whnf
         repeat' first | ((first | refine Ob.a ?_ | refine Sp.tt ?_ | refine Sp.ff ?_ | refine Sp.yes ?_ | refine Sp.no ?_ | refine Sp.nyes ?_ | refine Sp.nno ?_ | refine Fi.a ?_);conv=>whnf) | (refine Sp.byes ?_;conv=>whnf) | (refine Sp.bno ?_;conv=>whnf) | ((first | refine Sp.ne ?_ ?_ | refine Sp.dec ?_ ?_ | refine Sp.ndec ?_ ?_ | refine Sp.mk ?_ ?_) <;> intro hc <;> conv => whnf) | (refine Ob.b ?_;conv=>whnf)
         all_goals first | exact ⟨rfl, ⟨(i + 1, l ++ [o.getD i.toNat 0]), ⟨by simp only; omega, by simp only; omega⟩, hst.symm, by simp only [List.length_append, List.length_singleton]; omega⟩, Lf, by simp only; omega⟩ | (exfalso; omega)
        | false =>
         rw [if_neg (by simp), List.append_nil] at hst
         conv => whnf
         repeat' first | ((first | refine Ob.a ?_ | refine Sp.tt ?_ | refine Sp.ff ?_ | refine Sp.yes ?_ | refine Sp.no ?_ | refine Sp.nyes ?_ | refine Sp.nno ?_ | refine Fi.a ?_);conv=>whnf) | (refine Sp.byes ?_;conv=>whnf) | (refine Sp.bno ?_;conv=>whnf) | ((first | refine Sp.ne ?_ ?_ | refine Sp.dec ?_ ?_ | refine Sp.ndec ?_ ?_ | refine Sp.mk ?_ ?_) <;> intro hc <;> conv => whnf) | (refine Ob.b ?_;conv=>whnf)
         all_goals first | exact ⟨rfl, ⟨(i + 1, l), ⟨by simp only; omega, by simp only; omega⟩, hst.symm, by simp only; omega⟩, Lf, by simp only; omega⟩ | (exfalso; omega)
      ·exact Lf
     ·have e : l = c := by rw [hl, ← hc1, List.take_of_length_le (by omega)]
      conv => whnf
      repeat' first | ((first | refine Ob.a ?_ | refine Sp.tt ?_ | refine Sp.ff ?_ | refine Sp.yes ?_ | refine Sp.no ?_ | refine Sp.nyes ?_ | refine Sp.nno ?_ | refine Fi.a ?_);conv=>whnf) | ((first | refine Sp.ne ?_ ?_ | refine Sp.dec ?_ ?_ | refine Sp.ndec ?_ ?_ | refine Sp.mk ?_ ?_) <;> intro hc <;> conv => whnf) | (refine Ob.b ?_;conv=>whnf)
      exact Lf
    ·exact Lf
  ·exact Lf
 ·rw [if_neg h0]
  clear hk
  generalize nodeE F [x, y] = k at *
  refine Fn.of_ex (cuts := []) tys hM Try.func29 rfl Try.call29 rfl ?_
  show exC Try.prog T [] _ false none 0 (entry 86 [mixD F, int x, int y]) (finQ T [ResultVar.tmp 6, ResultVar.tmp 7] _)
  conv => whnf
  repeat' first | ((first | refine Ob.a ?_ | refine Sp.tt ?_ | refine Sp.ff ?_ | refine Sp.yes ?_ | refine Sp.no ?_ | refine Sp.nyes ?_ | refine Sp.nno ?_ | refine Fi.a ?_);conv=>whnf) | ((first | refine Sp.ne ?_ ?_ | refine Sp.dec ?_ ?_ | refine Sp.ndec ?_ ?_ | refine Sp.mk ?_ ?_) <;> intro hc <;> conv => whnf) | (apply Cl.go;(conv=>whnf); (first | refine Ob.call (hE) ?_);(conv=>whnf)) | (refine Ob.b ?_;conv=>whnf)
  all_goals first | exact Lf | (exfalso; omega)
end Go.Px.Try

/-! Tm15 -/
namespace Go.Px.Try
open Go Go.Proofs Go.Px
/-- A node that both have in common at last. -/
def coB (F : List (List Int)) (a b i : Nat) : Bool := comB F a b i && lastB F (lst F.length (comB F a b)) (i : Int)
theorem coL_lst (F : List (List Int)) (a b : Nat) : coL F a b = lst F.length (coB F a b) := by
 unfold coL coB
 rw [← lst_filter F.length (comB F a b) fun i => lastB F (lst F.length (comB F a b)) (i : Int)]
 refine List.filter_congr fun x hx => ?_
 obtain ⟨j, _, _, rfl⟩ := mem_lst.1 hx
 rw [Int.toNat_natCast]
theorem coB_iff {F : List (List Int)} {a b i : Nat} : coB F a b i = true ↔ comB F a b i = true ∧ ∀ z, z < F.length → comB F a b z = true → z ≠ i → cm F z i = false := by
 unfold coB lastB
 rw [Bool.and_eq_true, List.all_eq_true]
 constructor
 ·rintro ⟨h1, h2⟩
  refine ⟨h1, fun z hz hc hne => ?_⟩
  have h3 := h2 z (mem_lst.2 ⟨z, hz, hc, rfl⟩)
  rw [decide_eq_false (by omega), Bool.false_or, Int.toNat_natCast, Int.toNat_natCast] at h3
  simpa using h3
 ·rintro ⟨h1, h2⟩
  refine ⟨h1, fun x hx => ?_⟩
  obtain ⟨z, hz, hc, rfl⟩ := mem_lst.1 hx
  rw [Int.toNat_natCast, Int.toNat_natCast]
  by_cases e : z = i
  ·rw [decide_eq_true (by omega), Bool.true_or]
  ·rw [h2 z hz hc e]; simp
theorem com_le {F : List (List Int)} (h : MixOk F) {a b k : Nat} (ha : a < F.length) (hb : b < F.length) (hk : comB F a b k = true) : k ≤ a ∧ k ≤ b := by
 unfold comB at hk
 rw [Bool.and_eq_true] at hk
 exact ⟨cm_le h a ha hk.1, cm_le h b hb hk.2⟩
theorem co_above {F : List (List Int)} (h : MixOk F) {a b : Nat} (ha : a < F.length) (hb : b < F.length) : ∀ (d z : Nat), F.length ≤ z + d → z < F.length → comB F a b z = true → ∃ k, k < F.length ∧ coB F a b k = true ∧ cm F k z = true
 | 0, z, h1, h2, _ => by omega
 | d + 1, z, h1, h2, hc => by
  by_cases hz : coB F a b z = true
  ·exact ⟨z, h2, hz, cm_self h h2⟩
  ·obtain ⟨y, hy, hcy, hne, hcm⟩ : ∃ y, y < F.length ∧ comB F a b y = true ∧ y ≠ z ∧ cm F y z = true := by
    refine Classical.byContradiction fun hn => hz (coB_iff.2 ⟨hc, fun y hy hcy hne => ?_⟩)
    cases e : cm F y z with
    | false => rfl
    | true => exact absurd ⟨y, hy, hcy, hne, e⟩ hn
   have hle := cm_le h y hy hcm
   obtain ⟨k, hk, h3, h4⟩ := co_above h ha hb d y (by omega) hy hcy
   exact ⟨k, hk, h3, cm_trans h k hk h4 hcm⟩
/-- Numbers that are so, from m back, the first c. -/
def dL (S : Nat → Bool) (m : Nat) : Nat → List Int
 | 0 => []
 | c + 1 => dL S m c ++ if S (m - c) = true then [((m - c : Nat) : Int)] else []
theorem mem_dL {S : Nat → Bool} {m : Nat} {x : Int} : ∀ {c}, c ≤ m + 1 → (x ∈ dL S m c ↔ ∃ k : Nat, k ≤ m ∧ m < k + c ∧ S k = true ∧ x = k)
 | 0, _ => by
  rw [dL]
  exact ⟨fun h => absurd h List.not_mem_nil, fun ⟨k, h1, h2, _⟩ => by omega⟩
 | c + 1, hc => by
  rw [dL, List.mem_append, mem_dL (c := c) (by omega)]
  constructor
  ·rintro (⟨k, h1, h2, h3, h4⟩ | h)
   ·exact ⟨k, h1, by omega, h3, h4⟩
   ·split at h
    ·rename_i hs
     exact ⟨m - c, by omega, by omega, hs, List.mem_singleton.1 h⟩
    ·cases h
  ·rintro ⟨k, h1, h2, h3, h4⟩
   by_cases e : m < k + c
   ·exact .inl ⟨k, h1, e, h3, h4⟩
   ·have e2 : k = m - c := by omega
    subst e2
    right
    rw [if_pos h3, h4]; simp
theorem dL_dec {S : Nat → Bool} {m : Nat} : ∀ {c}, c ≤ m + 1 → (dL S m c).Pairwise (· > ·)
 | 0, _ => List.Pairwise.nil
 | c + 1, hc => by
  rw [dL, List.pairwise_append]
  refine ⟨dL_dec (by omega), by split <;> simp, fun x hx y hy => ?_⟩
  obtain ⟨k, h1, h2, _, rfl⟩ := (mem_dL (by omega)).1 hx
  split at hy
  ·rw [List.mem_singleton.1 hy]; omega
  ·cases hy
theorem dL_len {S : Nat → Bool} {m : Nat} : ∀ c, (dL S m c).length ≤ c
 | 0 => Nat.le_refl _
 | c + 1 => by
  have := dL_len (S := S) (m := m) c
  rw [dL, List.length_append]
  split
  ·simp only [List.length_singleton]; omega
  ·simp only [List.length_nil]; omega
/-- What the program asks. -/
theorem co_ask {F : List (List Int)} (h : MixOk F) {a b c : Nat} (ha : a < F.length) (hb : b < F.length) (hc : c ≤ min a b) (hi : comB F a b (min a b - c) = true) :
  coB F a b (min a b - c) = !((dL (coB F a b) (min a b) c).any fun k => cm F k.toNat (min a b - c)) := by
 rw [Bool.eq_iff_iff, Bool.not_eq_true', List.any_eq_false]
 constructor
 ·intro h1 x hx
  obtain ⟨k, h2, h3, h4, rfl⟩ := (mem_dL (by omega)).1 hx
  rw [Int.toNat_natCast, (coB_iff.1 h1).2 k (by omega) (coB_iff.1 h4).1 (by omega)]; simp
 ·intro h1
  refine coB_iff.2 ⟨hi, fun z hz hcz hne => ?_⟩
  cases e : cm F z (min a b - c) with
  | false => rfl
  | true =>
   exfalso
   have hle := cm_le h z hz e
   obtain ⟨k, hk, h3, h4⟩ := co_above h ha hb F.length z (by omega) hz hcz
   have hlk := cm_le h k hk h4
   have hkm := com_le h ha hb (coB_iff.1 h3).1
   have h5 := h1 k ((mem_dL (by omega)).2 ⟨k, by omega, by omega, h3, rfl⟩)
   rw [Int.toNat_natCast] at h5
   exact h5 (cm_trans h k hk h4 e)
theorem srt_lst {o : List Int} {n : Nat} {S : Nat → Bool} (hd : o.Pairwise (· > ·)) (hS : ∀ x, x ∈ o ↔ ∃ k : Nat, k < n ∧ S k = true ∧ x = k) : srtL o = lst n S := by
 have hm : ∀ x, x ∈ srtL o ↔ x ∈ o := fun x => (List.mergeSort_perm o _).mem_iff
 have h1 : (srtL o).Pairwise fun a b => decide (a ≤ b) = true := List.pairwise_mergeSort (fun a b c h1 h2 => by simp at *; omega) (fun a b => by simp; omega) o
 have hnd : o.Nodup := hd.imp fun h => by omega
 have h2 : (srtL o).Nodup := (List.mergeSort_perm o _).nodup_iff.2 hnd
 have h3 : (srtL o).Pairwise (· < ·) := by
  have := h1.and h2
  exact this.imp fun ⟨h4, h5⟩ => by have h4 := of_decide_eq_true h4; omega
 rw [lst_of_inc (l := srtL o) (n := n) (fun x hx => by obtain ⟨k, h4, _, rfl⟩ := (hS x).1 ((hm x).1 hx); omega) h3]
 refine lst_congr fun i hi => ?_
 rw [Bool.eq_iff_iff, decide_eq_true_eq, hm, hS]
 constructor
 ·rintro ⟨k, _, h4, h5⟩
  rw [show i = k by omega]; exact h4
 ·exact fun h4 => ⟨i, hi, h4, rfl⟩
theorem co_end {F : List (List Int)} (h : MixOk F) {a b : Nat} (ha : a < F.length) (hb : b < F.length) : srtL (dL (coB F a b) (min a b) (min a b + 1)) = coL F a b := by
 rw [coL_lst]
 refine srt_lst (dL_dec (Nat.le_refl _)) fun x => ?_
 rw [mem_dL (Nat.le_refl _)]
 constructor
 ·rintro ⟨k, h1, _, h3, h4⟩
  exact ⟨k, by omega, h3, h4⟩
 ·rintro ⟨k, h1, h3, h4⟩
  have := com_le h ha hb (coB_iff.1 h3).1
  exact ⟨k, by omega, by omega, h3, h4⟩
end Go.Px.Try

/-! PxSo -/
namespace Go.Px
open Go Go.RowKit Go.Proofs Go.Sort Go.Shelf
theorem srtL_len (L : List Int) : (srtL L).length = L.length := List.length_mergeSort L
theorem SortC.of {P : Program} {ρ : Ren} (Ly : Lays.n189 P ρ) (he : Ent P (ρ.f 189)) : SortC P (ρ.f 189) := by
 refine ⟨he, fun p cap w => Any.slices_Sort_int_none Ly p cap w, fun b o cap L c T w hb ho hL hn => ?_⟩
 have hlt : b < w.heap.size := (Array.getElem?_eq_some_iff.1 hb).1
 have hcell : ∀ j, j < L.length → c[o + j]? = some (.int .i64 (L.getD j 0)) := fun j hj => by
  have := hL j hj
  rw [Array.getD_eq_getD_getElem?, Array.getElem?_eq_getElem (by omega)] at this
  rw [Array.getElem?_eq_getElem (by omega)]
  exact congrArg some this
 have hH : Holds (Value.int .i64) w b o L.toArray := by
  intro j hj
  have hj' : j < L.length := by simpa using hj
  refine ⟨?_, by simp [World.frozen?, hb]⟩
  simp only [World.cell?, hb, Option.isSome_none, Bool.false_eq_true, if_false]
  rw [hcell j hj']
  simp [List.getD_eq_getElem?_getD, hj']
 refine (Any.slices_Sort_int Ly b o cap L w hH hlt (by omega)).mono ?_
 rintro e w' ⟨rfl, n, os, rfl⟩
 refine ⟨rfl, putCells (Value.int .i64) o (srtL L).toArray c, ⟨by simp [putCells], fun j => ?_⟩, rfl, rfl, rfl, ?_, fun k hk => ?_⟩
 ·have hlen := srtL_len L
  rw [Array.getD_eq_getD_getElem?, Array.getD_eq_getD_getElem?]
  by_cases hj : j < c.size
  ·by_cases hr : o ≤ j ∧ j < o + L.length
   ·rw [if_pos hr]
    have h1 : j - o < (srtL L).length := by omega
    simp [putCells, hj, hr, hlen, h1, List.getD_eq_getElem?_getD]
   ·rw [if_neg hr]
    simp [putCells, hj, hlen, hr]
  ·rw [if_neg (by omega)]
   simp [putCells, hj]
 ·simp [World.setRow, putRow, mapBlock, Sort.ahead]
 ·rw [heap_grow_old _ _ (by simpa [Sort.ahead] using hk)]
  by_cases e : k = b
  ·subst e
   rw [setRow_heap w k c _ T (0, 0) hb]
   simp [putRow, mapBlock, Sort.ahead, Array.getElem?_modify, hb, onCells, srtL]
  ·rw [setRow_other w b k _ e]
   have : b ≠ k := fun h => e h.symm
   simp [putRow, mapBlock, Sort.ahead, Array.getElem?_modify, this]
/-- Sorting writes into the row that is lent. -/
theorem SortC.fnI {P : Program} {g U : Nat} (h : SortC P g) (L : List Int) (hn : L.length ≤ 1000000) : FnI P g U 1 L.length (rowOf int 0 L) (rowOf int 0 (srtL L)) [] (.d .top) := by
 refine ⟨h.ent, fun E w v vals hS hu hD hv hr hrep => ?_⟩
 have hv0 : vals = [] := by cases vals with | nil => rfl | cons _ _ => exact hrep.elim
 subst hv0
 have same : ∀ {ao cap}, v = .slice ao 0 cap → L.length = 0 → Calls P g [v].toArray w fun e w' => ∃ u E', e = .returned u ∧ (∀ j, j ≠ 0 → E'.ρ j = .un) ∧ E'.ρ 0 = E.ρ 0 ∧ (∀ b, E.S b → E'.S b) ∧ (∀ b, E'.S b → E.S b ∨ ((baseI E w).ow b ∧ b < w'.heap.size)) ∧ (baseI E w).G w' ∧
   SatR (baseI E w) E' w' 0 (.row true U 1 L.length (rowOf int 0 (srtL L))) ∧ RepA E' w' (.d .top) u := by
  rintro ao cap rfl hl
  refine (h.nil ao cap w).mono ?_
  rintro e w' ⟨rfl, rfl⟩
  refine ⟨_, E, rfl, hu, rfl, fun _ h => h, fun _ h => .inl h, Stp.refl _ _, ?_, trivial⟩
  rcases hr with h1 | ⟨b, c, h1, h2, h3, h4, _⟩
  ·exact .inl h1
  ·exact .inr ⟨b, c, h1, h2, h3, h4, fun i hi => by omega⟩
 by_cases h0 : L.length = 0
 ·rcases hv with ⟨_, h1, h2⟩ | ⟨b, o, cap, cc, T', _, h2, _⟩
  ·exact same (ao := none) (cap := 0) h2 h0
  ·rw [h0] at h2; exact same h2 h0
 ·rcases hv with ⟨_, h1, _⟩ | ⟨b, o, cap, cc, T', hb, rfl, hcap, _, hh, hs⟩
  ·exact absurd h1 h0
  rcases hs with ⟨rfl, hsz⟩ | ⟨h1, _⟩
  rotate_left
  ·exact absurd h1 h0
  rcases hr with ⟨h1, _⟩ | ⟨b2, c2, hb2, hh2, hsz2, hown, hels⟩
  ·rw [hb] at h1; cases h1
  rw [hb] at hb2; cases hb2
  rw [hh] at hh2; cases hh2
  have hlt := (Array.getElem?_eq_some_iff.1 hh).1
  have hown' : ¬ E.S b ∧ (baseI E w).ow b := hown
  have hel : ∀ j, j < L.length → cc.getD (0 + j) undef = .int .i64 (L.getD j 0) := fun j hj => by
   have h3 : cc.getD (j * 1 + 0) undef = .int .i64 (L.getD j 0) := (hels j hj).1.2
   simpa using h3
  have h00 : (0 * 1 : Nat) = 0 := rfl
  refine (h.run b 0 cap L cc U w hh (by omega) hel hn).mono ?_
  rintro e w' ⟨rfl, c', ⟨hc1, hc2⟩, hbl⟩
  have hset := setRow_heap w b cc c' U (0, 0) hh
  have hsz' : (w.setRow b c').heap.size = w.heap.size := by simp [World.setRow]
  have hb1 : w'.heap[b]? = some (Obj.cells c' U (0, 0)) := (hbl.block b hlt).trans hset
  have hst : Stp (baseI E w).ow w w' := by
   refine ⟨hbl.os, hbl.tape, hbl.output, by rw [← hsz']; exact hbl.size, fun k hk hn => (hbl.block k hk).trans (setRow_other w b k _ fun e => hn (e ▸ hown'.2)), fun k c T hk => ?_⟩
   by_cases e : k = b
   ·subst e; rw [hh] at hk; cases hk; exact ⟨c', hb1, hc1⟩
   ·exact ⟨c, ((hbl.block k (Array.getElem?_eq_some_iff.1 hk).1).trans (setRow_other w b k _ e)).trans hk, rfl⟩
  refine ⟨_, E, rfl, hu, rfl, fun _ h => h, fun _ h => .inl h, hst, .inr ⟨b, c', hb, hb1, by rw [hc1]; exact hsz2, hown, fun i hi => ?_⟩, trivial⟩
  have e6 : ∀ j, j < 1 → c'.getD (i * 1 + j) undef = .int .i64 ((srtL L).getD i 0) := fun j hj => by
   rw [hc2, if_pos (by omega)]; congr 2; omega
  exact ⟨⟨rfl, e6 0 (by omega)⟩, fun j hj => by rw [e6 j hj]; rfl⟩
end Go.Px

/-! Srt -/
namespace Go.Px.Try
open Go Go.Proofs Go.Px
set_option maxRecDepth 100000
def lays189_ren : Go.Shelf.Ren := ⟨fun | 189 => 68 | 125 => 86 | 257 => 85 | 128 => 108 | 129 => 109 | 294 => 99 | 295 => 100 | 296 => 101 | 297 => 102 | 298 => 103 | 299 => 104 | 216 => 105 | 300 => 106 | 301 => 107 | 328 => 114 | 329 => 115 | 330 => 116 | 331 => 117 | 332 => 118 | 215 => 119 | 343 => 120 | n => n, fun | 28 => 27 | 3 => 3 | 46 => 107 | 0 => 0 | 51 => 129 | 53 => 131 | 4 => 4 | 183 => 122 | 182 => 121 | 131 => 126 | 5 => 5 | 9 => 9 | 218 => 133 | 222 => 137 | 228 => 139 | 229 => 140 | n => n, fun | n => n⟩
theorem lays189 : Go.Proofs.Lays.n189 Try.prog lays189_ren where
 mixed := by kernel_rfl
 f125 := Try.func86.trans (congrArg some (by kernel_rfl))
 f128 := Try.func108.trans (congrArg some (by kernel_rfl))
 f129 := Try.func109.trans (congrArg some (by kernel_rfl))
 f189 := Try.func68.trans (congrArg some (by kernel_rfl))
 f215 := Try.func119.trans (congrArg some (by kernel_rfl))
 f216 := Try.func105.trans (congrArg some (by kernel_rfl))
 f257 := Try.func85.trans (congrArg some (by kernel_rfl))
 f294 := Try.func99.trans (congrArg some (by kernel_rfl))
 f295 := Try.func100.trans (congrArg some (by kernel_rfl))
 f296 := Try.func101.trans (congrArg some (by kernel_rfl))
 f297 := Try.func102.trans (congrArg some (by kernel_rfl))
 f298 := Try.func103.trans (congrArg some (by kernel_rfl))
 f299 := Try.func104.trans (congrArg some (by kernel_rfl))
 f300 := Try.func106.trans (congrArg some (by kernel_rfl))
 f301 := Try.func107.trans (congrArg some (by kernel_rfl))
 f328 := Try.func114.trans (congrArg some (by kernel_rfl))
 f329 := Try.func115.trans (congrArg some (by kernel_rfl))
 f330 := Try.func116.trans (congrArg some (by kernel_rfl))
 f331 := Try.func117.trans (congrArg some (by kernel_rfl))
 f332 := Try.func118.trans (congrArg some (by kernel_rfl))
 f343 := Try.func120.trans (congrArg some (by kernel_rfl))
 t0 := Try.underlying0
 a0 := Try.isAgg0
 z0 := Try.sizeOf0
 v0 := Try.zeroValue0
 t3 := Try.underlying3
 a3 := Try.isAgg3
 z3 := Try.sizeOf3
 v3 := Try.zeroValue3
 t4 := Try.underlying4
 a4 := Try.isAgg4
 z4 := Try.sizeOf4
 v4 := Try.zeroValue4
 t5 := Try.underlying5
 a5 := Try.isAgg5
 z5 := Try.sizeOf5
 v5 := Try.zeroValue5
 t9 := Try.underlying9
 a9 := Try.isAgg9
 z9 := Try.sizeOf9
 v9 := Try.zeroValue9
 t28 := Try.underlying27
 a28 := Try.isAgg27
 z28 := Try.sizeOf27
 v28 := Try.zeroValue27
 t46 := Try.underlying107
 a46 := Try.isAgg107
 z46 := Try.sizeOf107
 v46 := Try.zeroValue107
 t51 := Try.underlying129
 a51 := Try.isAgg129
 z51 := Try.sizeOf129
 v51 := Try.zeroValue129
 t53 := Try.underlying131
 a53 := Try.isAgg131
 z53 := Try.sizeOf131
 v53 := Try.zeroValue131
 t131 := Try.underlying126
 a131 := Try.isAgg126
 z131 := Try.sizeOf126
 v131 := Try.zeroValue126
 t182 := Try.underlying121
 a182 := Try.isAgg121
 z182 := Try.sizeOf121
 v182 := Try.zeroValue121
 t183 := Try.underlying122
 a183 := Try.isAgg122
 z183 := Try.sizeOf122
 v183 := Try.zeroValue122
 t218 := Try.underlying133
 a218 := Try.isAgg133
 z218 := Try.sizeOf133
 v218 := Try.zeroValue133
 t222 := Try.underlying137
 a222 := Try.isAgg137
 z222 := Try.sizeOf137
 v222 := Try.zeroValue137
 t228 := Try.underlying139
 a228 := Try.isAgg139
 z228 := Try.sizeOf139
 v228 := Try.zeroValue139
 t229 := Try.underlying140
 a229 := Try.isAgg140
 z229 := Try.sizeOf140
 v229 := Try.zeroValue140
theorem sortC : SortC Try.prog 68 := SortC.of lays189 Try.call68
end Go.Px.Try

/-! Tp19 -/
namespace Go.Px.Try
open Go Go.Proofs Go.Px
set_option maxRecDepth 100000
set_option maxHeartbeats 4000000 in
theorem Common1_spec (F : List (List Int)) (hs : SmallM F) (hm : MixOk F) (k i : Int) (k0 : 0 ≤ k) (k1 : k < F.length) (i0 : 0 ≤ i) (i1 : i < F.length) : Fn Try.prog 67 [int k, .pt (.ag 1 fun _ => netD F nilS 0) 0, cellP i] (bool (cm F k.toNat i.toNat)) := by
 have hC := comes_spec F hs hm nilS 0 k k0 k1
 have hl10 := hm.l10
 cases hcm : cm F k.toNat i.toNat with
 | true =>
  have hv : cmG F k.toNat i.toNat = 1 := by unfold cmG; rw [hcm]; rfl
  refine Fn.of_ex (cuts := []) tys hM Try.func67 rfl Try.call67 rfl ?_
  show exC Try.prog T [] _ false none 0 (entry 11 [int k, .pt (.ag 1 fun _ => netD F nilS 0) 0, cellP i]) (finQ T [ResultVar.tmp 4] _)
  conv => whnf
  repeat' first | ((first | refine Ob.a ?_ | refine Sp.tt ?_ | refine Sp.ff ?_ | refine Sp.yes ?_ | refine Sp.no ?_ | refine Sp.nyes ?_ | refine Sp.nno ?_ | refine Fi.a ?_);conv=>whnf) | ((first | refine Sp.ne ?_ ?_ | refine Sp.dec ?_ ?_ | refine Sp.ndec ?_ ?_ | refine Sp.mk ?_ ?_) <;> intro hc <;> conv => whnf) | (apply Cl.go;(conv=>whnf); (first | refine Ob.call (hC) ?_);(conv=>whnf)) | (refine Ob.b ?_;conv=>whnf)
  all_goals first | (exfalso; omega) | exact Lf
 | false =>
  have hv : cmG F k.toNat i.toNat = 0 := by unfold cmG; rw [hcm]; rfl
  refine Fn.of_ex (cuts := []) tys hM Try.func67 rfl Try.call67 rfl ?_
  show exC Try.prog T [] _ false none 0 (entry 11 [int k, .pt (.ag 1 fun _ => netD F nilS 0) 0, cellP i]) (finQ T [ResultVar.tmp 4] _)
  conv => whnf
  repeat' first | ((first | refine Ob.a ?_ | refine Sp.tt ?_ | refine Sp.ff ?_ | refine Sp.yes ?_ | refine Sp.no ?_ | refine Sp.nyes ?_ | refine Sp.nno ?_ | refine Fi.a ?_);conv=>whnf) | ((first | refine Sp.ne ?_ ?_ | refine Sp.dec ?_ ?_ | refine Sp.ndec ?_ ?_ | refine Sp.mk ?_ ?_) <;> intro hc <;> conv => whnf) | (apply Cl.go;(conv=>whnf); (first | refine Ob.call (hC) ?_);(conv=>whnf)) | (refine Ob.b ?_;conv=>whnf)
  all_goals first | (exfalso; omega) | exact Lf
set_option maxHeartbeats 16000000 in
theorem CommonP_spec (F : List (List Int)) (hs : SmallM F) (x y : Int) : Fn Try.prog 28 [mixD F, int x, int y] (tpl [ints (if nodeE F [x, y] = 0 then coL F x.toNat y.toNat else []), int (nodeE F [x, y])]) := by
 by_cases h0 : nodeE F [x, y] = 0
 ·have hO := open_spec F hs [x, y] (by simp) h0
  obtain ⟨hm, hxy⟩ := nodeE_ok.1 h0
  have hx := hxy x (by simp)
  have hy := hxy y (by simp)
  have hl10 := hm.l10
  have hCx := comes_spec F hs hm nilS 0 x hx.1 hx.2
  have hCy := comes_spec F hs hm nilS 0 y hy.1 hy.2
  rw [if_pos h0, h0, ← co_end hm (a := x.toNat) (b := y.toNat) (by omega) (by omega)]
  clear h0 hxy
  refine Fn.hide (D := fun r : List Int => tpl [ints r, int 0]) fun c hc => ?_
  refine Fn.of_ex (cuts := []) tys hM Try.func28 rfl Try.call28 rfl ?_
  show exC Try.prog T [] _ false none 0 (entry 65 [mixD F, int x, int y]) (finQ T [ResultVar.tmp 6, ResultVar.tmp 7] _)
  conv => whnf
  repeat' first | ((first | refine Ob.a ?_ | refine Sp.tt ?_ | refine Sp.ff ?_ | refine Sp.yes ?_ | refine Sp.no ?_ | refine Sp.nyes ?_ | refine Sp.nno ?_ | refine Fi.a ?_);conv=>whnf) | ((first | refine Sp.ne ?_ ?_ | refine Sp.dec ?_ ?_ | refine Sp.ndec ?_ ?_ | refine Sp.mk ?_ ?_) <;> intro hc <;> conv => whnf) | (apply Cl.nw;(conv=>whnf); (first | (refine Ob.nwX (hO) ?_ ?_ ?_;(focus exact Lf); (focus exact Lf)));(conv=>whnf)) | (apply Cl.go;(conv=>whnf); (first | refine Ob.call (hCx) ?_ | refine Ob.call (hCy) ?_);(conv=>whnf)) | (refine Ob.b ?_;conv=>whnf)
  all_goals try first | (exfalso; omega) | (rename_i hq; exact absurd rfl hq)
  have hmn : min x.toNat y.toNat = (min x y).toNat := by omega
  have hask := fun (c : Nat) h1 h2 => co_ask hm (a := x.toNat) (b := y.toNat) (c := c) (by omega) (by omega) h1 h2
  have hdn : ∀ c : Nat, dL (coB F x.toNat y.toNat) (min x.toNat y.toNat) (c + 1) = dL (coB F x.toNat y.toNat) (min x.toNat y.toNat) c ++ if coB F x.toNat y.toNat (min x.toNat y.toNat - c) = true then [((min x.toNat y.toNat - c : Nat) : Int)] else [] := fun c => rfl
  have hdl := fun (c : Nat) => dL_len (S := coB F x.toNat y.toNat) (m := min x.toNat y.toNat) c
  have hdm := fun (c : Nat) (h : c ≤ min x.toNat y.toNat + 1) (k : Int) => mem_dL (S := coB F x.toNat y.toNat) (m := min x.toNat y.toNat) (x := k) h
  refine Lp.snap [0, 1, 2, 6, 7, 8, 10, 11, 62, 64] 40 ?_
  (conv=>whnf)
  refine LpB.go 65 ({q : Int × List Int // (-1 ≤ q.1 ∧ q.1 ≤ min x y) ∧ q.2 = dL (coB F x.toNat y.toNat) (min x.toNat y.toNat) (min x y - q.1).toNat}) 0 (fun ⟨(i, o), _⟩ nx => ([(13, .ref 30 0), (12, .ms 26 1 0 o.length)], [(30, .cs true 1 (fun _ => .d (int i))), (26, .row true 3 1 o.length (rowOf int 0 o)), (22, .row true 77 1 10 (rowF (cmG F x.toNat))), (23, .row true 77 1 10 (rowF (cmG F y.toNat)))])) (fun p => (p.1.1 + 1).toNat) (⟨(min x y, []), ⟨by simp only; omega, by simp only; omega⟩, by rw [Int.sub_self]; rfl⟩) ?_ ?_
  ·rintro ⟨⟨i, o⟩, ⟨i0, i1⟩, ho⟩
   simp only at i0 i1 ho
   have hol : o.length ≤ (min x y - i).toNat := by rw [ho]; exact hdl _
   by_cases hi : 0 ≤ i
   ·have hxi : min x.toNat y.toNat - (min x y - i).toNat = i.toNat := by omega
    have hstep : dL (coB F x.toNat y.toNat) (min x.toNat y.toNat) (min x y - (i - 1)).toNat = o ++ if coB F x.toNat y.toNat i.toNat = true then [i] else [] := by
     rw [show (min x y - (i - 1)).toNat = (min x y - i).toNat + 1 by omega, hdn, hxi, ← ho, Int.toNat_of_nonneg hi]
    have hask := hask (min x y - i).toNat (by omega)
    rw [hxi, ← ho] at hask
    have hnot : comB F x.toNat y.toNat i.toNat = false → coB F x.toNat y.toNat i.toNat = false := fun h => by unfold coB; rw [h]; rfl
    have hX0 : cm F x.toNat i.toNat = false → cmG F x.toNat (0 + i.toNat) = 0 := fun h => by unfold cmG; rw [Nat.zero_add, h]; rfl
    have hX1 : cm F x.toNat i.toNat = true → cmG F x.toNat (0 + i.toNat) = 1 := fun h => by unfold cmG; rw [Nat.zero_add, h]; rfl
    have hY0 : cm F y.toNat i.toNat = false → cmG F y.toNat (0 + i.toNat) = 0 := fun h => by unfold cmG; rw [Nat.zero_add, h]; rfl
    have hY1 : cm F y.toNat i.toNat = true → cmG F y.toNat (0 + i.toNat) = 1 := fun h => by unfold cmG; rw [Nat.zero_add, h]; rfl
    have hmem : ∀ k ∈ o, 0 ≤ k ∧ k < F.length := fun k hk => by
     rw [ho, hdm _ (by omega)] at hk
     obtain ⟨j, h1, _, _, rfl⟩ := hk
     omega
    have hcon := contains_ints2 o 67 (fun j => [DV.pt (DV.ag 1 fun _ => netD F nilS 0) 0, cellP i].getD j DV.top) (fun k => cm F k.toNat i.toNat) (by omega) fun k hk => Common1_spec F hs hm k i (hmem k hk).1 (hmem k hk).2 hi (by omega)
    generalize (o.any fun k => cm F k.toNat i.toNat) = bo at *
    generalize hcb : coB F x.toNat y.toNat i.toNat = cb at *
    clear hdn hdl hdm hmem hc
    cases hcx : cm F x.toNat i.toNat with
    | false =>
     have hx0 := hX0 hcx
     have hcb0 := hnot (by unfold comB; rw [hcx]; rfl)
     rw [hcb0, if_neg (by simp), List.append_nil] at hstep
     clear hX0 hX1 hY0 hY1 hask hnot hcon
     conv => whnf
     repeat' first | ((first | refine Ob.a ?_ | refine Sp.tt ?_ | refine Sp.ff ?_ | refine Sp.yes ?_ | refine Sp.no ?_ | refine Sp.nyes ?_ | refine Sp.nno ?_ | refine Fi.a ?_);conv=>whnf) | ((first | refine Sp.ne ?_ ?_ | refine Sp.dec ?_ ?_ | refine Sp.ndec ?_ ?_ | refine Sp.mk ?_ ?_) <;> intro hc <;> conv => whnf) | (refine Ob.b ?_;conv=>whnf)
     all_goals first | (exfalso; omega) | exact ⟨rfl, ⟨(i - 1, o), ⟨by simp only; omega, by simp only; omega⟩, hstep.symm⟩, Lf, by simp only; omega⟩
    | true =>
     have hx1 := hX1 hcx
     cases hcy : cm F y.toNat i.toNat with
     | false =>
      have hy0 := hY0 hcy
      have hcb0 := hnot (by unfold comB; rw [hcy, Bool.and_false])
      rw [hcb0, if_neg (by simp), List.append_nil] at hstep
      clear hX0 hX1 hY0 hY1 hask hnot hcon
      conv => whnf
      repeat' first | ((first | refine Ob.a ?_ | refine Sp.tt ?_ | refine Sp.ff ?_ | refine Sp.yes ?_ | refine Sp.no ?_ | refine Sp.nyes ?_ | refine Sp.nno ?_ | refine Fi.a ?_);conv=>whnf) | ((first | refine Sp.ne ?_ ?_ | refine Sp.dec ?_ ?_ | refine Sp.ndec ?_ ?_ | refine Sp.mk ?_ ?_) <;> intro hc <;> conv => whnf) | (refine Ob.b ?_;conv=>whnf)
      all_goals first | (exfalso; omega) | exact ⟨rfl, ⟨(i - 1, o), ⟨by simp only; omega, by simp only; omega⟩, hstep.symm⟩, Lf, by simp only; omega⟩
     | true =>
      have hy1 := hY1 hcy
      have hask := hask (by unfold comB; rw [hcx, hcy]; rfl)
      clear hX0 hX1 hY0 hY1 hnot hcb
      cases bo with
      | true =>
       rw [hask, if_neg (by simp), List.append_nil] at hstep
       clear hask
       conv => whnf
       repeat' first | ((first | refine Ob.a ?_ | refine Sp.tt ?_ | refine Sp.ff ?_ | refine Sp.yes ?_ | refine Sp.no ?_ | refine Sp.nyes ?_ | refine Sp.nno ?_ | refine Fi.a ?_);conv=>whnf) | ((first | refine Sp.ne ?_ ?_ | refine Sp.dec ?_ ?_ | refine Sp.ndec ?_ ?_ | refine Sp.mk ?_ ?_) <;> intro hc <;> conv => whnf) | (apply Cl.go;(conv=>whnf); (first | refine Ob.call (hcon) ?_);(conv=>whnf)) | (refine Ob.b ?_;conv=>whnf)
       all_goals first | (exfalso; omega) | exact ⟨rfl, ⟨(i - 1, o), ⟨by simp only; omega, by simp only; omega⟩, hstep.symm⟩, Lf, by simp only; omega⟩
      | false =>
       rw [hask, Bool.not_false, if_pos rfl] at hstep
       clear hask
       conv => whnf
       repeat' first | ((first | refine Ob.a ?_ | refine Sp.tt ?_ | refine Sp.ff ?_ | refine Sp.yes ?_ | refine Sp.no ?_ | refine Sp.nyes ?_ | refine Sp.nno ?_ | refine Fi.a ?_);conv=>whnf) | ((first | refine Sp.ne ?_ ?_ | refine Sp.dec ?_ ?_ | refine Sp.ndec ?_ ?_ | refine Sp.mk ?_ ?_) <;> intro hc <;> conv => whnf) | (apply Cl.go;(conv=>whnf); (first | refine Ob.call (hcon) ?_);(conv=>whnf)) | (refine Ob.b ?_;conv=>whnf)
       all_goals first | (exfalso; omega) | exact ⟨rfl, ⟨(i - 1, o ++ [i]), ⟨by simp only; omega, by simp only; omega⟩, hstep.symm⟩, Lf, by simp only; omega⟩
   ·have e : srtL o = c := by rw [ho, ← hc.h, show (min x y - i).toNat = min x.toNat y.toNat + 1 by omega]
    have hso := SortC.fnI (U := 3) sortC o (by omega)
    have hsl := srtL_len o
    clear hc hask hdn hdl hdm
    subst e
    conv => whnf
    repeat' first | ((first | refine Ob.a ?_ | refine Sp.tt ?_ | refine Sp.ff ?_ | refine Sp.yes ?_ | refine Sp.no ?_ | refine Sp.nyes ?_ | refine Sp.nno ?_ | refine Fi.a ?_);conv=>whnf) | ((first | refine Sp.ne ?_ ?_ | refine Sp.dec ?_ ?_ | refine Sp.ndec ?_ ?_ | refine Sp.mk ?_ ?_) <;> intro hc <;> conv => whnf) | (apply Cl.ip;(conv=>whnf); (first | (refine Ob.ipX (hso) ?_ ?_ ?_ ?_ ?_;(focus (first | exact rfl | omega)); (focus exact Lf); (focus exact Lf); (focus exact Lf)));(conv=>whnf)) | (refine Ob.b ?_;conv=>whnf)
    all_goals first | (exfalso; omega) | exact Lf
  ·have hx9 : ∀ j, j < 10 → CImp (int (cmG F x.toNat j)) (rowF (cmG F x.toNat) j) := fun j _ => CImp.refl _
   have hy9 : ∀ j, j < 10 → CImp (int (cmG F y.toNat j)) (rowF (cmG F y.toNat) j) := fun j _ => CImp.refl _
   conv => whnf
   repeat' first | (refine Edge.fast ?_) | ((conv=>whnf); first | exact True.intro | (refine And.intro ?_ ?_) | exact rfl | exact Nat.le_of_eq (Nat.zero_add _) | exact ImpS.refl _ | ((conv => arg 1; whnf); first | exact ImpS.refl _ | (refine ImpS.nil_eq ?_) | (refine ImpS.vnil_eq ?_) | (refine ImpS.row ?_) | (refine ImpS.rowN ?_ ?_) | (refine ImpS.sl_eq ?_) | (refine ImpS.expl rfl ?_)) | (refine row_snoc' ?_) | exact MImp.refl _ | exact cimp_none | exact cimp_same | exact List.not_mem_nil | exact DImp.refl _) | exact rfl | (refine And.intro ?_ ?_) | exact ImpS.refl _
 ·have hO := open_err F hs [x, y] (by simp) h0
  rw [if_neg h0]
  generalize nodeE F [x, y] = k at *
  refine Fn.of_ex (cuts := []) tys hM Try.func28 rfl Try.call28 rfl ?_
  show exC Try.prog T [] _ false none 0 (entry 65 [mixD F, int x, int y]) (finQ T [ResultVar.tmp 6, ResultVar.tmp 7] _)
  conv => whnf
  repeat' first | ((first | refine Ob.a ?_ | refine Sp.tt ?_ | refine Sp.ff ?_ | refine Sp.yes ?_ | refine Sp.no ?_ | refine Sp.nyes ?_ | refine Sp.nno ?_ | refine Fi.a ?_);conv=>whnf) | ((first | refine Sp.ne ?_ ?_ | refine Sp.dec ?_ ?_ | refine Sp.ndec ?_ ?_ | refine Sp.mk ?_ ?_) <;> intro hc <;> conv => whnf) | (apply Cl.go;(conv=>whnf); (first | refine Ob.call (hO) ?_);(conv=>whnf)) | (refine Ob.b ?_;conv=>whnf)
  all_goals first | exact Lf | (exfalso; omega)
end Go.Px.Try

/-! Law1 -/
namespace Go.Px.Try
open Go Go.Proofs Go.Px
set_option maxRecDepth 100000
theorem eq_prefix {l l' : List Int} (hl : l.length = l'.length) (h : ∀ j, j < l.length → l.getD j 0 = l'.getD j 0) : l = l' := by
 refine List.ext_getElem hl fun i h1 h2 => ?_
 have := h i h1
 rwa [List.getD_eq_getElem?_getD, List.getElem?_eq_getElem h1, List.getD_eq_getElem?_getD, List.getElem?_eq_getElem h2] at this
theorem Ints_spec (a b : List Int) (ha : a.length < 1000000) : Fn Try.prog 23 [ints a, ints b] (bool (decide (a = b))) := by
 refine Fn.hide (D := fun r : Bool => bool r) fun r hr => ?_
 have hr0 := hr.h
 have h1 : ¬ a.length = b.length → r = false := fun h => by rw [← hr0]; exact decide_eq_false fun e => h (by rw [e])
 have h2 : ∀ j : Int, 0 ≤ j → j < a.length → ¬ a.getD j.toNat 0 = b.getD j.toNat 0 → r = false := fun j _ _ h => by rw [← hr0]; exact decide_eq_false fun e => h (by rw [e])
 have h3 : a.length = b.length → (∀ j : Int, 0 ≤ j → j < a.length → a.getD j.toNat 0 = b.getD j.toNat 0) → r = true := fun h h' => by
  rw [← hr0]; exact decide_eq_true (eq_prefix h fun j hj => by have := h' j (by omega) (by omega); rwa [Int.toNat_natCast] at this)
 refine Fn.of_ex (cuts := []) tys hM Try.func23 rfl Try.call23 rfl ?_
 show exC Try.prog T [] _ false none 0 (entry 26 [ints a, ints b]) (finQ T [ResultVar.tmp 4] _)
 conv => whnf
 repeat' first | ((first | refine Ob.a ?_ | refine Sp.tt ?_ | refine Sp.ff ?_ | refine Sp.yes ?_ | refine Sp.no ?_ | refine Sp.nyes ?_ | refine Sp.nno ?_ | refine Fi.a ?_);conv=>whnf) | ((first | refine Sp.ne ?_ ?_ | refine Sp.dec ?_ ?_ | refine Sp.ndec ?_ ?_ | refine Sp.mk ?_ ?_) <;> intro hc <;> conv => whnf) | (refine Ob.b ?_;conv=>whnf)
 ·exact ⟨trivial, (h1 (by omega)).symm⟩
 ·have hlen := hc
  refine Lp.snap [0, 1] 40 ?_
  (conv=>whnf)
  refine LpB.go 26 ({i : Int // (0 ≤ i ∧ i ≤ a.length) ∧ ∀ j : Int, 0 ≤ j → j < i → a.getD j.toNat 0 = b.getD j.toNat 0}) 0 (fun ⟨i, _⟩ nx => ([(5, .d (int i))], [])) (fun p => (a.length - p.1).toNat) (⟨0, ⟨by omega, by omega⟩, fun j _ _ => by omega⟩) ?_ ?_
  ·rintro ⟨i, ⟨hi0, hi⟩, hinv⟩
   conv => whnf
   repeat' first | ((first | refine Ob.a ?_ | refine Sp.tt ?_ | refine Sp.ff ?_ | refine Sp.yes ?_ | refine Sp.no ?_ | refine Sp.nyes ?_ | refine Sp.nno ?_ | refine Fi.a ?_);conv=>whnf) | ((first | refine Sp.ne ?_ ?_ | refine Sp.dec ?_ ?_ | refine Sp.ndec ?_ ?_ | refine Sp.mk ?_ ?_) <;> intro hc <;> conv => whnf) | (refine Ob.b ?_;conv=>whnf)
   ·exact ⟨trivial, (h2 i hi0 (by omega) hc).symm⟩
   ·exact ⟨rfl, ⟨i + 1, ⟨by omega, by omega⟩, fun j a b => if e : j = i then e ▸ hc else hinv j a (by omega)⟩, Lf, by simp only; omega⟩
   ·exact ⟨trivial, (h3 (by omega) fun j a b => hinv j a (by omega)).symm⟩
  ·exact Lf
theorem ints_same (l : List Int) (h : l.length < 1000000) : Fn Try.prog 23 [ints l, ints l] (bool true) := by
 have := Ints_spec l l h
 rwa [decide_eq_true rfl] at this
theorem of_spec (l : List Int) : Fn Try.prog 48 [ints l] (ints l) := by
 refine Fn.of_ex (cuts := []) tys hM Try.func48 rfl Try.call48 rfl ?_
 show exC Try.prog T [] _ false none 0 (entry 4 [ints l]) (finQ T [ResultVar.tmp 2] _)
 conv => whnf
 repeat' first | ((first | refine Ob.a ?_ | refine Sp.tt ?_ | refine Sp.ff ?_ | refine Sp.yes ?_ | refine Sp.no ?_ | refine Sp.nyes ?_ | refine Sp.nno ?_ | refine Fi.a ?_);conv=>whnf) | ((first | refine Sp.ne ?_ ?_ | refine Sp.dec ?_ ?_ | refine Sp.ndec ?_ ?_ | refine Sp.mk ?_ ?_) <;> intro hc <;> conv => whnf) | (refine Ob.b ?_;conv=>whnf)
 all_goals exact Lf
theorem lists_spec (l : List (List Int)) : Fn Try.prog 45 [slOf 1 ints [] l] (slOf 1 ints [] l) := by
 refine Fn.of_ex (cuts := []) tys hM Try.func45 rfl Try.call45 rfl ?_
 show exC Try.prog T [] _ false none 0 (entry 4 [slOf 1 ints [] l]) (finQ T [ResultVar.tmp 2] _)
 conv => whnf
 repeat' first | ((first | refine Ob.a ?_ | refine Sp.tt ?_ | refine Sp.ff ?_ | refine Sp.yes ?_ | refine Sp.no ?_ | refine Sp.nyes ?_ | refine Sp.nno ?_ | refine Fi.a ?_);conv=>whnf) | ((first | refine Sp.ne ?_ ?_ | refine Sp.dec ?_ ?_ | refine Sp.ndec ?_ ?_ | refine Sp.mk ?_ ?_) <;> intro hc <;> conv => whnf) | (refine Ob.b ?_;conv=>whnf)
 all_goals exact Lf
theorem by_spec (a b : Int) : Fn Try.prog 50 [int a, int b] (ratD (a, b)) := by
 refine Fn.of_ex (cuts := []) tys hM Try.func50 rfl Try.call50 rfl ?_
 show exC Try.prog T [] _ false none 0 (entry 8 [int a, int b]) (finQ T [ResultVar.cell 4 66] _)
 conv => whnf
 repeat' first | ((first | refine Ob.a ?_ | refine Sp.tt ?_ | refine Sp.ff ?_ | refine Sp.yes ?_ | refine Sp.no ?_ | refine Sp.nyes ?_ | refine Sp.nno ?_ | refine Fi.a ?_);conv=>whnf) | ((first | refine Sp.ne ?_ ?_ | refine Sp.dec ?_ ?_ | refine Sp.ndec ?_ ?_ | refine Sp.mk ?_ ?_) <;> intro hc <;> conv => whnf) | (refine Ob.b ?_;conv=>whnf)
 all_goals exact Lf
theorem Mix_spec (F : List (List Int)) : Fn Try.prog 79 [rowsD F] (mixD F) := by
 refine Fn.of_ex (cuts := []) tys hM Try.func79 rfl Try.call79 rfl ?_
 show exC Try.prog T [] _ false none 0 (entry 5 [rowsD F]) (finQ T [ResultVar.cell 2 24] _)
 conv => whnf
 repeat' first | ((first | refine Ob.a ?_ | refine Sp.tt ?_ | refine Sp.ff ?_ | refine Sp.yes ?_ | refine Sp.no ?_ | refine Sp.nyes ?_ | refine Sp.nno ?_ | refine Fi.a ?_);conv=>whnf) | ((first | refine Sp.ne ?_ ?_ | refine Sp.dec ?_ ?_ | refine Sp.ndec ?_ ?_ | refine Sp.mk ?_ ?_) <;> intro hc <;> conv => whnf) | (refine Ob.b ?_;conv=>whnf)
 all_goals exact Lf
def mixM : List (List Int) := [[], [], [], [0, 1], [1, 2], [3, 4], [5], [2, 6]]
set_option maxHeartbeats 4000000 in
theorem eight_spec : Fn Try.prog 52 [] (mixD mixM) := by
 have h := Mix_spec mixM
 refine Fn.of_ex (cuts := []) tys hM Try.func52 rfl Try.call52 rfl ?_
 show exC Try.prog T [] _ false none 0 (entry 13 []) (finQ T [ResultVar.cell 0 24] _)
 conv => whnf
 repeat' first | ((first | refine Ob.a ?_ | refine Sp.tt ?_ | refine Sp.ff ?_ | refine Sp.yes ?_ | refine Sp.no ?_ | refine Sp.nyes ?_ | refine Sp.nno ?_ | refine Fi.a ?_);conv=>whnf) | ((first | refine Sp.ne ?_ ?_ | refine Sp.dec ?_ ?_ | refine Sp.ndec ?_ ?_ | refine Sp.mk ?_ ?_) <;> intro hc <;> conv => whnf) | (apply Cl.go;(conv=>whnf); (first | refine Ob.call (h) ?_ | refine Ob.call (of_spec [0, 1]) ?_ | refine Ob.call (of_spec [1, 2]) ?_ | refine Ob.call (of_spec [3, 4]) ?_ | refine Ob.call (of_spec [5]) ?_ | refine Ob.call (of_spec [2, 6]) ?_);(conv=>whnf)) | (refine Ob.b ?_;conv=>whnf)
 all_goals first | exact Lf
def wideOk (l : List (List Int)) : Prop := l.length ≤ 14 ∧ ∀ w ∈ l, w.length ≤ 14
instance (l : List (List Int)) : Decidable (wideOk l) := by unfold wideOk; exact inferInstance
set_option maxHeartbeats 4000000 in
theorem wide_spec (l : List (List Int)) (hl : l.length ≤ 9223372036854775807) (hw : ∀ w ∈ l, w.length ≤ 9223372036854775807) : Fn Try.prog 35 [slOf 1 ints [] l] (bool (!decide (wideOk l))) := by
 refine Fn.hide (D := fun r : Bool => bool r) fun r hr => ?_
 have hr0 := hr.h
 clear hr
 have h1 : ∀ n : Int, (n ≤ 14 ↔ (l.length : Int) ≤ 14 ∧ ∀ j : Int, 0 ≤ j → j < l.length → ((l.getD j.toNat []).length : Int) ≤ 14) → decide (14 < n) = r := fun n hn => by
  rw [← hr0]
  have e : wideOk l ↔ n ≤ 14 := by
   rw [hn]
   constructor
   ·rintro ⟨a, b⟩
    exact ⟨by omega, fun j j0 j1 => by have := b _ (getD_mem (l := l) (i := j.toNat) (by omega) []); omega⟩
   ·rintro ⟨a, b⟩
    refine ⟨by omega, fun w hw => ?_⟩
    obtain ⟨j, hj, rfl⟩ := mem_getD (d := []) hw
    have := b j (by omega) (by omega)
    rw [Int.toNat_natCast] at this; omega
  by_cases h : n ≤ 14
  ·rw [decide_eq_false (by omega), decide_eq_true (e.2 h)]; rfl
  ·rw [decide_eq_true (by omega), decide_eq_false fun h2 => h (e.1 h2)]; rfl
 have hw2 := fun (j : Int) (a : 0 ≤ j) (b : j < l.length) => hw _ (getD_mem (l := l) (i := j.toNat) (by omega) [])
 clear hr0 hw
 refine Fn.of_ex (cuts := []) tys hM Try.func35 rfl Try.call35 rfl ?_
 show exC Try.prog T [] _ false none 0 (entry 22 [slOf 1 ints [] l]) (finQ T [ResultVar.tmp 2] _)
 conv => whnf
 repeat' first | ((first | refine Ob.a ?_ | refine Sp.tt ?_ | refine Sp.ff ?_ | refine Sp.yes ?_ | refine Sp.no ?_ | refine Sp.nyes ?_ | refine Sp.nno ?_ | refine Fi.a ?_);conv=>whnf) | ((first | refine Sp.ne ?_ ?_ | refine Sp.dec ?_ ?_ | refine Sp.ndec ?_ ?_ | refine Sp.mk ?_ ?_) <;> intro hc <;> conv => whnf) | (refine Ob.b ?_;conv=>whnf)
 refine Lp.snap [0, 2, 20, 21] 40 ?_
 (conv=>whnf)
 refine LpB.go 22 ({q : Int × Int // (0 ≤ q.1 ∧ q.1 ≤ l.length) ∧ (0 ≤ q.2 ∧ q.2 ≤ 9223372036854775807) ∧ (q.2 ≤ 14 ↔ (l.length : Int) ≤ 14 ∧ ∀ j : Int, 0 ≤ j → j < q.1 → ((l.getD j.toNat []).length : Int) ≤ 14)}) 0 (fun ⟨(i, n), _⟩ nx => ([(4, .d (int i)), (3, .d (int n))], [])) (fun p => (l.length - p.1.1).toNat) (⟨(0, l.length), ⟨by simp, by simp⟩, ⟨by simp only; omega, by simp only; omega⟩, ⟨fun h => ⟨h, fun j a b => by simp only at b; omega⟩, fun h => h.1⟩⟩) ?_ ?_
 ·rintro ⟨⟨i, n⟩, ⟨i0, i1⟩, ⟨n0, n1⟩, hn⟩
  simp only at i0 i1 n0 n1 hn
  by_cases hi : i < l.length
  ·have hw2 := hw2 i i0 hi
   have e : (max n ((l.getD i.toNat []).length : Int)) ≤ 14 ↔ (l.length : Int) ≤ 14 ∧ ∀ j : Int, 0 ≤ j → j < i + 1 → ((l.getD j.toNat []).length : Int) ≤ 14 := by
    constructor
    ·intro h
     obtain ⟨h1, h2⟩ := hn.1 (by omega)
     refine ⟨h1, fun j a b => ?_⟩
     by_cases e : j = i
     ·rw [e]; omega
     ·exact h2 j a (by omega)
    ·rintro ⟨h1, h2⟩
     have := hn.2 ⟨h1, fun j a b => h2 j a (by omega)⟩
     have := h2 i i0 (by omega)
     omega
   clear h1
   conv => whnf
   repeat' first | ((first | refine Ob.a ?_ | refine Sp.tt ?_ | refine Sp.ff ?_ | refine Sp.yes ?_ | refine Sp.no ?_ | refine Sp.nyes ?_ | refine Sp.nno ?_ | refine Fi.a ?_);conv=>whnf) | ((first | refine Sp.ne ?_ ?_ | refine Sp.dec ?_ ?_ | refine Sp.ndec ?_ ?_ | refine Sp.mk ?_ ?_) <;> intro hc <;> conv => whnf) | (refine Ob.b ?_;conv=>whnf)
   all_goals first | (exfalso; omega) | exact ⟨rfl, ⟨(i + 1, max n ((l.getD i.toNat []).length : Int)), ⟨by simp only; omega, by simp only; omega⟩, ⟨by simp only; omega, by simp only; omega⟩, e⟩, Lf, by simp only; omega⟩
  ·obtain rfl : i = l.length := by omega
   have e := h1 n hn
   clear h1
   conv => whnf
   repeat' first | ((first | refine Ob.a ?_ | refine Sp.tt ?_ | refine Sp.ff ?_ | refine Sp.yes ?_ | refine Sp.no ?_ | refine Sp.nyes ?_ | refine Sp.nno ?_ | refine Fi.a ?_);conv=>whnf) | ((first | refine Sp.ne ?_ ?_ | refine Sp.dec ?_ ?_ | refine Sp.ndec ?_ ?_ | refine Sp.mk ?_ ?_) <;> intro hc <;> conv => whnf) | (refine Ob.b ?_;conv=>whnf)
   all_goals first | (exfalso; omega) | exact ⟨trivial, e⟩
 ·exact Lf
theorem great_spec (F : List (List Int)) (hl : F.length ≤ 9223372036854775807) (hw : ∀ w ∈ F, w.length ≤ 9223372036854775807) : Fn Try.prog 15 [mixD F] (bool (!decide (wideOk F))) := by
 have h := wide_spec F hl hw
 generalize (!decide (wideOk F)) = b at *
 refine Fn.of_ex (cuts := []) tys hM Try.func15 rfl Try.call15 rfl ?_
 show exC Try.prog T [] _ false none 0 (entry 6 [mixD F]) (finQ T [ResultVar.tmp 2] _)
 conv => whnf
 repeat' first | ((first | refine Ob.a ?_ | refine Sp.tt ?_ | refine Sp.ff ?_ | refine Sp.yes ?_ | refine Sp.no ?_ | refine Sp.nyes ?_ | refine Sp.nno ?_ | refine Fi.a ?_);conv=>whnf) | ((first | refine Sp.ne ?_ ?_ | refine Sp.dec ?_ ?_ | refine Sp.ndec ?_ ?_ | refine Sp.mk ?_ ?_) <;> intro hc <;> conv => whnf) | (apply Cl.go;(conv=>whnf); (first | refine Ob.call (h) ?_);(conv=>whnf)) | (refine Ob.b ?_;conv=>whnf)
 all_goals exact Lf
theorem isI2 {f g : Nat → AV} (h0 : isI (f 0) ∧ isI (g 0)) (h1 : isI (f 1) ∧ isI (g 1)) : ∀ j, j < 2 → isI (f j) ∧ isI (g j) := by
 intro j hj
 rcases (show j = 0 ∨ j = 1 by omega) with rfl | rfl
 ·exact h0
 ·exact h1
set_option maxHeartbeats 4000000 in
theorem ratios_same (l : List (Int × Int)) (hl : l.length < 1000000) : Fn Try.prog 30 [slOf 2 ratD (0, 0) l, slOf 2 ratD (0, 0) l] (bool true) := by
 refine Fn.of_ex (cuts := []) tys hM Try.func30 rfl Try.call30 rfl ?_
 show exC Try.prog T [] _ false none 0 (entry 26 [slOf 2 ratD (0, 0) l, slOf 2 ratD (0, 0) l]) (finQ T [ResultVar.tmp 4] _)
 conv => whnf
 repeat' first | ((first | refine Ob.a ?_ | refine Sp.tt ?_ | refine Sp.ff ?_ | refine Sp.yes ?_ | refine Sp.no ?_ | refine Sp.nyes ?_ | refine Sp.nno ?_ | refine Fi.a ?_);conv=>whnf) | ((first | refine Sp.ne ?_ ?_ | refine Sp.dec ?_ ?_ | refine Sp.ndec ?_ ?_ | refine Sp.mk ?_ ?_) <;> intro hc <;> conv => whnf) | (refine Ob.b ?_;conv=>whnf)
 all_goals try (exfalso; omega)
 refine Lp.snap [0, 1] 40 ?_
 (conv=>whnf)
 refine LpB.go 26 ({i : Int // 0 ≤ i ∧ i ≤ l.length}) 0 (fun ⟨i, _⟩ nx => ([(5, .d (int i))], [])) (fun p => (l.length - p.1).toNat) (⟨0, by omega, by omega⟩) ?_ ?_
 ·rintro ⟨i, i0, i1⟩
  conv => whnf
  repeat' first | ((first | refine Ob.a ?_ | refine Sp.tt ?_ | refine Sp.ff ?_ | refine Sp.yes ?_ | refine Sp.no ?_ | refine Sp.nyes ?_ | refine Sp.nno ?_ | refine Fi.a ?_);conv=>whnf) | ((first | refine Sp.ne ?_ ?_ | refine Sp.dec ?_ ?_ | refine Sp.ndec ?_ ?_ | refine Sp.mk ?_ ?_) <;> intro hc <;> conv => whnf) | (refine Ob.go (fun _ => ?_) (isI2 ⟨⟨_, rfl⟩, ⟨_, rfl⟩⟩ ⟨⟨_, rfl⟩, ⟨_, rfl⟩⟩);conv=>whnf) | (refine Ob.b ?_;conv=>whnf)
  all_goals first | (exfalso; omega) | exact ⟨rfl, ⟨i + 1, by omega, by omega⟩, Lf, by simp only; omega⟩ | exact Lf | (exfalso; rename_i hq; exact hq fun _ _ => rfl)
 ·exact Lf
/-- A valid mix is not too great. -/
theorem mix_wide {F : List (List Int)} (h : MixOk F) : wideOk F := by
 have hl10 := h.l10
 refine ⟨by omega, fun w hw => ?_⟩
 obtain ⟨j, hj, rfl⟩ := mem_getD (d := []) hw
 have := frm_len' h hj
 change (F.getD j []).length ≤ j at this
 omega
theorem mix_small {F : List (List Int)} (h : wideOk F) : SmallM F := ⟨by have := h.1; omega, fun l hl => by have := h.2 l hl; omega⟩
theorem fine_spec (F : List (List Int)) (hl : F.length ≤ 9223372036854775807) (hw : ∀ w ∈ F, w.length ≤ 9223372036854775807) : Fn Try.prog 39 [mixD F] (bool (decide (checkM F = 0))) := by
 have hg := great_spec F hl hw
 by_cases h : wideOk F
 ·have hC := CheckMix_spec F (mix_small h).l (mix_small h).i
  rw [decide_eq_true h] at hg
  by_cases hm : MixOk F
  ·rw [checkM_ok.2 hm] at hC
   rw [decide_eq_true (checkM_ok.2 hm)]
   refine Fn.of_ex (cuts := []) tys hM Try.func39 rfl Try.call39 rfl ?_
   show exC Try.prog T [] _ false none 0 (entry 11 [mixD F]) (finQ T [ResultVar.tmp 2] _)
   conv => whnf
   repeat' first | ((first | refine Ob.a ?_ | refine Sp.tt ?_ | refine Sp.ff ?_ | refine Sp.yes ?_ | refine Sp.no ?_ | refine Sp.nyes ?_ | refine Sp.nno ?_ | refine Fi.a ?_);conv=>whnf) | ((first | refine Sp.ne ?_ ?_ | refine Sp.dec ?_ ?_ | refine Sp.ndec ?_ ?_ | refine Sp.mk ?_ ?_) <;> intro hc <;> conv => whnf) | (apply Cl.go;(conv=>whnf); (first | refine Ob.call (hg) ?_ | refine Ob.call (hC) ?_);(conv=>whnf)) | (refine Ob.b ?_;conv=>whnf)
   all_goals exact Lf
  ·have h0 : ¬ checkM F = 0 := fun h => hm (checkM_ok.1 h)
   rw [decide_eq_false h0]
   generalize checkM F = k at *
   have e : decide (k = 0) = false := decide_eq_false h0
   refine Fn.of_ex (cuts := []) tys hM Try.func39 rfl Try.call39 rfl ?_
   show exC Try.prog T [] _ false none 0 (entry 11 [mixD F]) (finQ T [ResultVar.tmp 2] _)
   conv => whnf
   repeat' first | ((first | refine Ob.a ?_ | refine Sp.tt ?_ | refine Sp.ff ?_ | refine Sp.yes ?_ | refine Sp.no ?_ | refine Sp.nyes ?_ | refine Sp.nno ?_ | refine Fi.a ?_);conv=>whnf) | ((first | refine Sp.ne ?_ ?_ | refine Sp.dec ?_ ?_ | refine Sp.ndec ?_ ?_ | refine Sp.mk ?_ ?_) <;> intro hc <;> conv => whnf) | (apply Cl.go;(conv=>whnf); (first | refine Ob.call (hg) ?_ | refine Ob.call (hC) ?_);(conv=>whnf)) | (refine Ob.b ?_;conv=>whnf)
   all_goals first | exact ⟨trivial, e⟩ | exact Lf
 ·rw [decide_eq_false h] at hg
  rw [decide_eq_false fun hm => h (mix_wide (checkM_ok.1 hm))]
  refine Fn.of_ex (cuts := []) tys hM Try.func39 rfl Try.call39 rfl ?_
  show exC Try.prog T [] _ false none 0 (entry 11 [mixD F]) (finQ T [ResultVar.tmp 2] _)
  conv => whnf
  repeat' first | ((first | refine Ob.a ?_ | refine Sp.tt ?_ | refine Sp.ff ?_ | refine Sp.yes ?_ | refine Sp.no ?_ | refine Sp.nyes ?_ | refine Sp.nno ?_ | refine Fi.a ?_);conv=>whnf) | ((first | refine Sp.ne ?_ ?_ | refine Sp.dec ?_ ?_ | refine Sp.ndec ?_ ?_ | refine Sp.mk ?_ ?_) <;> intro hc <;> conv => whnf) | (apply Cl.go;(conv=>whnf); (first | refine Ob.call (hg) ?_);(conv=>whnf)) | (refine Ob.b ?_;conv=>whnf)
  all_goals exact Lf
/-- The lots of a mix; the sacks that bits say. -/
def lotsL (F : List (List Int)) : List Int := lst F.length fun i => !sackB F i
def badL (F : List (List Int)) (b : Nat) : List Int := lst F.length fun i => sackB F i && bset b i
set_option maxHeartbeats 4000000 in
theorem Lots_spec (F : List (List Int)) (hm : MixOk F) : Fn Try.prog 40 [mixD F] (ints (lotsL F)) := by
 refine Fn.hide (D := fun r : List Int => ints r) fun c hc => ?_
 have hc0 := hc.h
 have hl10 := hm.l10
 clear hc
 refine Fn.of_ex (cuts := []) tys hM Try.func40 rfl Try.call40 rfl ?_
 show exC Try.prog T [] _ false none 0 (entry 24 [mixD F]) (finQ T [ResultVar.tmp 2] _)
 conv => whnf
 repeat' first | ((first | refine Ob.a ?_ | refine Sp.tt ?_ | refine Sp.ff ?_ | refine Sp.yes ?_ | refine Sp.no ?_ | refine Sp.nyes ?_ | refine Sp.nno ?_ | refine Fi.a ?_);conv=>whnf) | ((first | refine Sp.ne ?_ ?_ | refine Sp.dec ?_ ?_ | refine Sp.ndec ?_ ?_ | refine Sp.mk ?_ ?_) <;> intro hc <;> conv => whnf) | (refine Ob.b ?_;conv=>whnf)
 refine Lp.snap [0, 1, 2, 23] 40 ?_
 (conv=>whnf)
 refine LpB.go 24 ({q : Int × List Int // (0 ≤ q.1 ∧ q.1 ≤ F.length) ∧ q.2 = lst q.1.toNat fun i => !sackB F i}) 0 (fun ⟨(i, o), _⟩ nx => ([(4, .d (int i)), (3, .ms 2 1 0 o.length)], [(2, .row true 3 1 o.length (rowOf int 0 o))])) (fun p => (F.length - p.1.1).toNat) (⟨(0, []), ⟨by simp, by simp⟩, rfl⟩) ?_ ?_
 ·rintro ⟨⟨i, o⟩, ⟨i0, i1⟩, ho⟩
  simp only at i0 i1 ho
  have hlen : o.length ≤ i.toNat := by rw [ho]; exact lst_length_le _ _
  by_cases hi : i < F.length
  ·have hfl := frm_len' hm (i := i.toNat) (by omega)
   change (F.getD i.toNat []).length ≤ i.toNat at hfl
   have hst : lst (i + 1).toNat (fun i => !sackB F i) = o ++ if 0 < (F.getD i.toNat []).length then [i] else [] := by
    rw [show (i + 1).toNat = i.toNat + 1 by omega, lst_succ, ho, Int.toNat_of_nonneg i0]
    congr 1
    unfold sackB
    by_cases hz : frm F i.toNat = []
    ·rw [decide_eq_true hz, if_neg (by simp), if_neg (by rw [show F.getD i.toNat [] = [] from hz]; simp)]
    ·rw [decide_eq_false hz, if_pos (by simp), if_pos (show 0 < (F.getD i.toNat []).length from List.length_pos_iff.2 hz)]
   by_cases hz : 0 < (F.getD i.toNat []).length
   ·rw [if_pos hz] at hst
    conv => whnf
    repeat' first | ((first | refine Ob.a ?_ | refine Sp.tt ?_ | refine Sp.ff ?_ | refine Sp.yes ?_ | refine Sp.no ?_ | refine Sp.nyes ?_ | refine Sp.nno ?_ | refine Fi.a ?_);conv=>whnf) | ((first | refine Sp.ne ?_ ?_ | refine Sp.dec ?_ ?_ | refine Sp.ndec ?_ ?_ | refine Sp.mk ?_ ?_) <;> intro hc <;> conv => whnf) | (refine Ob.b ?_;conv=>whnf)
    all_goals first | (exfalso; omega) | exact ⟨rfl, ⟨(i + 1, o ++ [i]), ⟨by simp only; omega, by simp only; omega⟩, hst.symm⟩, Lf, by simp only; omega⟩
   ·rw [if_neg hz, List.append_nil] at hst
    conv => whnf
    repeat' first | ((first | refine Ob.a ?_ | refine Sp.tt ?_ | refine Sp.ff ?_ | refine Sp.yes ?_ | refine Sp.no ?_ | refine Sp.nyes ?_ | refine Sp.nno ?_ | refine Fi.a ?_);conv=>whnf) | ((first | refine Sp.ne ?_ ?_ | refine Sp.dec ?_ ?_ | refine Sp.ndec ?_ ?_ | refine Sp.mk ?_ ?_) <;> intro hc <;> conv => whnf) | (refine Ob.b ?_;conv=>whnf)
    all_goals first | (exfalso; omega) | exact ⟨rfl, ⟨(i + 1, o), ⟨by simp only; omega, by simp only; omega⟩, hst.symm⟩, Lf, by simp only; omega⟩
  ·have e : o = c := by rw [ho, ← hc0, show i.toNat = F.length by omega]; rfl
   conv => whnf
   repeat' first | ((first | refine Ob.a ?_ | refine Sp.tt ?_ | refine Sp.ff ?_ | refine Sp.yes ?_ | refine Sp.no ?_ | refine Sp.nyes ?_ | refine Sp.nno ?_ | refine Fi.a ?_);conv=>whnf) | ((first | refine Sp.ne ?_ ?_ | refine Sp.dec ?_ ?_ | refine Sp.ndec ?_ ?_ | refine Sp.mk ?_ ?_) <;> intro hc <;> conv => whnf) | (refine Ob.b ?_;conv=>whnf)
   all_goals exact Lf
 ·exact Lf
def u16 (n : Nat) : DV := .v (.int .u16 n)
def u8 (n : Nat) : DV := .v (.int .u8 n)
def u8s (l : List Nat) : DV := slOf 1 u8 0 l
theorem band16 (b k : Nat) : band .u16 ((b : Int) / 2 ^ k) 1 = ((b / 2 ^ k % 2 : Nat) : Int) := by
 have e : ((b : Int) / 2 ^ k) = ((b / 2 ^ k : Nat) : Int) := by simp
 rw [e]
 generalize b / 2 ^ k = c
 unfold band
 have h : (BitVec.ofInt IntKind.u16.bits (c : Int) &&& BitVec.ofInt IntKind.u16.bits 1).toNat = c % 2 := by
  have e1 : BitVec.ofInt IntKind.u16.bits (c : Int) = BitVec.ofNat 16 c := BitVec.ofInt_natCast 16 c
  have e2 : BitVec.ofInt IntKind.u16.bits 1 = BitVec.ofNat 16 1 := rfl
  rw [e1, e2]
  show (BitVec.ofNat 16 c &&& BitVec.ofNat 16 1).toNat = _
  rw [BitVec.toNat_and, BitVec.toNat_ofNat, BitVec.toNat_ofNat, show 1 % 2 ^ 16 = 1 from rfl, Nat.and_one_is_mod, Nat.mod_mod_of_dvd]
  decide
 rw [h, wrap_in]
 simp only [inR]
 omega
set_option maxHeartbeats 4000000 in
theorem Bad_spec (F : List (List Int)) (hm : MixOk F) (b : Nat) : Fn Try.prog 41 [mixD F, u16 b] (ints (badL F b)) := by
 refine Fn.hide (D := fun r : List Int => ints r) fun c hc => ?_
 have hc0 := hc.h
 have hl10 := hm.l10
 clear hc
 refine Fn.of_ex (cuts := []) tys hM Try.func41 rfl Try.call41 rfl ?_
 show exC Try.prog T [] _ false none 0 (entry 33 [mixD F, u16 b]) (finQ T [ResultVar.tmp 4] _)
 conv => whnf
 repeat' first | ((first | refine Ob.a ?_ | refine Sp.tt ?_ | refine Sp.ff ?_ | refine Sp.yes ?_ | refine Sp.no ?_ | refine Sp.nyes ?_ | refine Sp.nno ?_ | refine Fi.a ?_);conv=>whnf) | ((first | refine Sp.ne ?_ ?_ | refine Sp.dec ?_ ?_ | refine Sp.ndec ?_ ?_ | refine Sp.mk ?_ ?_) <;> intro hc <;> conv => whnf) | (refine Ob.b ?_;conv=>whnf)
 refine Lp.snap [0, 1, 2, 4, 32] 40 ?_
 (conv=>whnf)
 refine LpB.go 33 ({q : Int × List Int // (0 ≤ q.1 ∧ q.1 ≤ F.length) ∧ q.2 = lst q.1.toNat fun i => sackB F i && bset b i}) 0 (fun ⟨(i, o), _⟩ nx => ([(6, .d (int i)), (5, .ms 2 1 0 o.length)], [(2, .row true 3 1 o.length (rowOf int 0 o))])) (fun p => (F.length - p.1.1).toNat) (⟨(0, []), ⟨by simp, by simp⟩, rfl⟩) ?_ ?_
 ·rintro ⟨⟨i, o⟩, ⟨i0, i1⟩, ho⟩
  simp only at i0 i1 ho
  have hlen : o.length ≤ i.toNat := by rw [ho]; exact lst_length_le _ _
  by_cases hi : i < F.length
  ·have hfl := frm_len' hm (i := i.toNat) (by omega)
   have hb2 := band16 b i.toNat
   change (F.getD i.toNat []).length ≤ i.toNat at hfl
   have hst : lst (i + 1).toNat (fun i => sackB F i && bset b i) = o ++ if (F.getD i.toNat []).length = 0 ∧ b / 2 ^ i.toNat % 2 = 1 then [i] else [] := by
    rw [show (i + 1).toNat = i.toNat + 1 by omega, lst_succ, ho, Int.toNat_of_nonneg i0]
    congr 1
    unfold sackB bset
    by_cases hz : frm F i.toNat = []
    ·have hz' : (F.getD i.toNat []).length = 0 := by rw [show F.getD i.toNat [] = [] from hz]; rfl
     rw [decide_eq_true hz, Bool.true_and]
     by_cases hb : b / 2 ^ i.toNat % 2 = 1
     ·rw [decide_eq_true hb, if_pos rfl, if_pos ⟨hz', hb⟩]
     ·rw [decide_eq_false hb, if_neg (by simp), if_neg fun h => hb h.2]
    ·have hz' : ¬ (F.getD i.toNat []).length = 0 := fun h => hz (List.length_eq_zero_iff.1 h)
     rw [decide_eq_false hz, Bool.false_and, if_neg (by simp), if_neg fun h => hz' h.1]
   by_cases hz : (F.getD i.toNat []).length = 0
   ·by_cases hb : b / 2 ^ i.toNat % 2 = 1
    ·rw [if_pos ⟨hz, hb⟩] at hst
     have hq : ((b / 2 ^ i.toNat % 2 : Nat) : Int) = 1 := by omega
     rw [hq] at hb2
     conv => whnf
     repeat' first | ((first | refine Ob.a ?_ | refine Sp.tt ?_ | refine Sp.ff ?_ | refine Sp.yes ?_ | refine Sp.no ?_ | refine Sp.nyes ?_ | refine Sp.nno ?_ | refine Fi.a ?_);conv=>whnf) | ((first | refine Sp.ne ?_ ?_ | refine Sp.dec ?_ ?_ | refine Sp.ndec ?_ ?_ | refine Sp.mk ?_ ?_) <;> intro hc <;> conv => whnf) | (refine Ob.b ?_;conv=>whnf)
     all_goals first | (exfalso; omega) | exact ⟨rfl, ⟨(i + 1, o ++ [i]), ⟨by simp only; omega, by simp only; omega⟩, hst.symm⟩, Lf, by simp only; omega⟩
    ·rw [if_neg fun h => hb h.2, List.append_nil] at hst
     have hq : ((b / 2 ^ i.toNat % 2 : Nat) : Int) = 0 := by omega
     rw [hq] at hb2
     conv => whnf
     repeat' first | ((first | refine Ob.a ?_ | refine Sp.tt ?_ | refine Sp.ff ?_ | refine Sp.yes ?_ | refine Sp.no ?_ | refine Sp.nyes ?_ | refine Sp.nno ?_ | refine Fi.a ?_);conv=>whnf) | ((first | refine Sp.ne ?_ ?_ | refine Sp.dec ?_ ?_ | refine Sp.ndec ?_ ?_ | refine Sp.mk ?_ ?_) <;> intro hc <;> conv => whnf) | (refine Ob.b ?_;conv=>whnf)
     all_goals first | (exfalso; omega) | exact ⟨rfl, ⟨(i + 1, o), ⟨by simp only; omega, by simp only; omega⟩, hst.symm⟩, Lf, by simp only; omega⟩
   ·rw [if_neg fun h => hz h.1, List.append_nil] at hst
    conv => whnf
    repeat' first | ((first | refine Ob.a ?_ | refine Sp.tt ?_ | refine Sp.ff ?_ | refine Sp.yes ?_ | refine Sp.no ?_ | refine Sp.nyes ?_ | refine Sp.nno ?_ | refine Fi.a ?_);conv=>whnf) | ((first | refine Sp.ne ?_ ?_ | refine Sp.dec ?_ ?_ | refine Sp.ndec ?_ ?_ | refine Sp.mk ?_ ?_) <;> intro hc <;> conv => whnf) | (refine Ob.b ?_;conv=>whnf)
    all_goals first | (exfalso; omega) | exact ⟨rfl, ⟨(i + 1, o), ⟨by simp only; omega, by simp only; omega⟩, hst.symm⟩, Lf, by simp only; omega⟩
  ·have e : o = c := by rw [ho, ← hc0, show i.toNat = F.length by omega]; rfl
   conv => whnf
   repeat' first | ((first | refine Ob.a ?_ | refine Sp.tt ?_ | refine Sp.ff ?_ | refine Sp.yes ?_ | refine Sp.no ?_ | refine Sp.nyes ?_ | refine Sp.nno ?_ | refine Fi.a ?_);conv=>whnf) | ((first | refine Sp.ne ?_ ?_ | refine Sp.dec ?_ ?_ | refine Sp.ndec ?_ ?_ | refine Sp.mk ?_ ?_) <;> intro hc <;> conv => whnf) | (refine Ob.b ?_;conv=>whnf)
   all_goals exact Lf
 ·exact Lf
set_option maxHeartbeats 4000000 in
theorem cut_spec (F : List (List Int)) (bad : List Int) (lot : Int) (hk : BadOk F bad lot) : Fn Try.prog 42 [mixD F, ints bad, int lot] (tpl [ints (cutI F bad lot), bool true]) := by
 have hs := mix_small (mix_wide hk.mix)
 have hl10 := hk.mix.l10
 have hbl : bad.length < 1000 := by
  rw [lst_of_inc hk.ris.1 hk.ris.2]
  have := lst_length_le F.length fun i => decide ((i : Int) ∈ bad)
  omega
 have h0 := badE_ok.2 hk
 have h1 := CutP_spec F hs bad (by omega) lot
 have h2 := WaysP_spec F hs bad (by omega) lot
 rw [if_pos h0, h0] at h1 h2
 change Fn _ _ _ (tpl [ints (cutI F bad lot), int 0]) at h1
 change Fn _ _ _ (tpl [slOf 1 ints [] (wysI F bad lot), int 0]) at h2
 have hwl : (wysI F bad lot).length = lam0 F bad lot := wys_len hk
 have hcl : (cutI F bad lot).length = lam0 F bad lot := cut_len hk
 have hww := wys_way hk
 have hlb := lam_bad hk
 have hc10 : (cutI F bad lot).length ≤ 10 := by
  have h := cut_ris hk
  rw [lst_of_inc h.1 h.2]
  have := lst_length_le F.length fun i => decide ((i : Int) ∈ cutI F bad lot)
  omega
 have hwo : wideOk (wysI F bad lot) := ⟨by omega, fun w hw => by have := (hww w hw).2; omega⟩
 have h3 := wide_spec (wysI F bad lot) (by omega) fun w hw => by have := (hww w hw).2; omega
 rw [decide_eq_true hwo] at h3
 have h4 := CheckWaysP_spec F hs bad (by omega) lot (wysI F bad lot) (by omega) fun w hw => by have := (hww w hw).2; omega
 have h5 := CheckWays_spec F hs bad (by omega) lot (wysI F bad lot) (by omega) fun w hw => by have := (hww w hw).2; omega
 rw [wys_check hk, if_pos rfl] at h4 h5
 have h6 := CheckCutP_spec F hs bad (by omega) lot (cutI F bad lot) (by omega)
 have h7 := CheckCut_spec F hs bad (by omega) lot (cutI F bad lot) (by omega)
 rw [checkCut_cut hk] at h6 h7
 rw [← hcl] at hwl
 clear hcl hlb hww hwo
 generalize cutI F bad lot = c at *
 generalize wysI F bad lot = ws at *
 refine Fn.of_ex (cuts := []) tys hM Try.func42 rfl Try.call42 rfl ?_
 show exC Try.prog T [] _ false none 0 (entry 95 [mixD F, ints bad, int lot]) (finQ T [ResultVar.tmp 6, ResultVar.tmp 7] _)
 conv => whnf
 repeat' first | ((first | refine Ob.a ?_ | refine Sp.tt ?_ | refine Sp.ff ?_ | refine Sp.yes ?_ | refine Sp.no ?_ | refine Sp.nyes ?_ | refine Sp.nno ?_ | refine Fi.a ?_);conv=>whnf) | ((first | refine Sp.ne ?_ ?_ | refine Sp.dec ?_ ?_ | refine Sp.ndec ?_ ?_ | refine Sp.mk ?_ ?_) <;> intro hc <;> conv => whnf) | (apply Cl.go;(conv=>whnf); (first | refine Ob.call (h1) ?_ | refine Ob.call (h2) ?_ | refine Ob.call (h3) ?_ | refine Ob.call (h4) ?_ | refine Ob.call (h5) ?_ | refine Ob.call (h6) ?_ | refine Ob.call (h7) ?_);(conv=>whnf)) | (refine Ob.b ?_;conv=>whnf)
 all_goals first | (exfalso; omega) | (rename_i hq; exact absurd rfl hq) | exact Lf
end Go.Px.Try
