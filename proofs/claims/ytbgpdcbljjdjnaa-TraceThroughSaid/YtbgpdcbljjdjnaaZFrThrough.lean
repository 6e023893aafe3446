/- The statement TraceThrough: all of a lot comes through a node just if this node alone is a cut for all sacks; of two nodes through which all of it comes, all of the one comes through the other one; a given way to it has all of them. Conditions: none. -/
import Derived.Test.YtbgpdcbljjdjnaaJ7
import Derived.Test.YtbgpdcbljjdjnaaJ6
import Derived.Test.YtbgpdcbljjdjnaaJ5
import Derived.Test.YtbgpdcbljjdjnaaRows
set_option linter.unusedVariables false
set_option linter.unusedSimpArgs false
/-! LwLot -/
namespace Go.Px.Try
open Go Go.Proofs Go.Px
set_option maxRecDepth 100000
/-- A lot, by a number. -/
def lotI (F : List (List Int)) (w : Int) : Int := (lotsL F).getD (w % (lotsL F).length).toNat 0
theorem lot_ok {F : List (List Int)} {w : Int} (h : 0 < (lotsL F).length) : 0 ≤ lotI F w ∧ lotI F w < F.length ∧ frm F (lotI F w).toNat ≠ [] := by
 have h1 := Int.emod_nonneg w (show ((lotsL F).length : Int) ≠ 0 by omega)
 have h2 := Int.emod_lt_of_pos w (show (0 : Int) < (lotsL F).length by omega)
 have hmem := getD_mem (l := lotsL F) (i := (w % (lotsL F).length).toNat) (by omega) 0
 obtain ⟨i, i1, i2, e⟩ := mem_lst.1 hmem
 change lotI F w = (i : Int) at e
 rw [e]
 refine ⟨by omega, by omega, ?_⟩
 rw [Int.toNat_natCast]
 exact of_decide_eq_false (p := frm F i = []) (by simpa using i2 : sackB F i = false)
theorem bad_ok {F : List (List Int)} (hm : MixOk F) {w : Int} (h : 0 < (lotsL F).length) (b : Nat) : BadOk F (badL F b) (lotI F w) := by
 obtain ⟨h1, h2, h3⟩ := lot_ok (w := w) h
 refine ⟨hm, h1, h2, lst_rs _ _, h3, fun x hx => ?_⟩
 obtain ⟨i, _, i2, rfl⟩ := mem_lst.1 hx
 rw [Bool.and_eq_true] at i2
 rw [Int.toNat_natCast]
 exact of_decide_eq_true i2.1
theorem checkCut_list {F : List (List Int)} {bad : List Int} {lot : Int} (hk : BadOk F bad lot) {L : List Int} (hL : rsL L F.length) (hl : lot ∉ L) : checkCutR F bad lot L = if fr F (inZ bad) (inZ L) lot.toNat = true then 26 else 0 := by
 unfold checkCutR
 rw [if_neg (by simp [badE_ok.2 hk]), if_neg fun h => h.elim (fun h => h hL) hl]
theorem checkWays_vals {F : List (List Int)} {bad : List Int} {lot : Int} (hk : BadOk F bad lot) (ws : List (List Int)) : checkWaysR F bad lot ws = 0 ∨ checkWaysR F bad lot ws = 16 ∨ checkWaysR F bad lot ws = 26 := by
 unfold checkWaysR
 rw [if_neg (by simp [badE_ok.2 hk])]
 split
 ·exact .inr (.inr rfl)
 ·split
  ·exact .inl rfl
  ·exact .inr (.inl rfl)
end Go.Px.Try

/-! LwG -/
namespace Go.Px.Try
open Go Go.Proofs Go.Px
set_option maxRecDepth 100000
def pickI (bs : List Nat) (i n : Int) : Int := if bs = [] then 0 else ((bs.getD (i % (bs.length : Int)).toNat 0 : Nat) : Int) % n
def givS (F : List (List Int)) (bs : List Nat) : Nat → Int → List Int → List Int
 | 0, _, o => o
 | f + 1, i, o => if frm F (o.getD 0 0).toNat = [] then o else givS F bs f (i + 1) ((frm F (o.getD 0 0).toNat).getD (pickI bs i (frm F (o.getD 0 0).toNat).length).toNat 0 :: o)
/-- The way back from a node. -/
def given (F : List (List Int)) (x : Int) (bs : List Nat) : List Int := givS F bs (x.toNat + 1) 0 [x]
/-- A row of nodes, each mixed of the one before, up to x. -/
structure ChT (F : List (List Int)) (x : Int) (w : List Int) : Prop where
 pos : 0 < w.length
 last : w.getD (w.length - 1) 0 = x
 hd : 0 ≤ w.getD 0 0 ∧ w.getD 0 0 < F.length
 way : WayTo F w w.length
theorem pickI_range {bs : List Nat} {i n : Int} (hn : 0 < n) : 0 ≤ pickI bs i n ∧ pickI bs i n < n := by
 unfold pickI
 split
 ·omega
 ·exact ⟨Int.emod_nonneg _ (by omega), Int.emod_lt_of_pos _ hn⟩
theorem ChT.one {F : List (List Int)} {x : Int} (h0 : 0 ≤ x) (h1 : x < F.length) : ChT F x [x] := ⟨by simp, rfl, ⟨h0, h1⟩, fun j a b => by simp at b; omega⟩
theorem ChT.more {F : List (List Int)} (hm : MixOk F) {x y : Int} {w : List Int} (h : ChT F x w) (hy : y ∈ frm F (w.getD 0 0).toNat) : ChT F x (y :: w) := by
 have h0 := h.hd
 have h1 := (hm.ris _ (by omega)).1 _ hy
 have hp := h.pos
 refine ⟨by simp, ?_, ⟨h1.1, by show y < _; omega⟩, fun j a b => ?_⟩
 ·have e : (y :: w).length - 1 = (w.length - 1) + 1 := by simp only [List.length_cons]; omega
  rw [e]; exact h.last
 ·obtain ⟨j, rfl⟩ : ∃ k, j = k + 1 := ⟨j - 1, by omega⟩
  cases j with
  | zero => exact ⟨h.hd, hy⟩
  | succ j =>
   have := h.way (j + 1) (by omega) (by simp only [List.length_cons] at b; omega)
   exact this
theorem givS_ok {F : List (List Int)} (hm : MixOk F) (bs : List Nat) {x : Int} : ∀ (f : Nat) (i : Int) (o : List Int), (o.getD 0 0).toNat < f → ChT F x o → ChT F x (givS F bs f i o) ∧ frm F ((givS F bs f i o).getD 0 0).toNat = []
 | 0, _, _, h, _ => by omega
 | f + 1, i, o, h, ho => by
  rw [givS]
  by_cases he : frm F (o.getD 0 0).toNat = []
  ·rw [if_pos he]; exact ⟨ho, he⟩
  ·rw [if_neg he]
   have hn : 0 < ((frm F (o.getD 0 0).toNat).length : Int) := by have := List.length_pos_iff.2 he; omega
   have hp := pickI_range (bs := bs) (i := i) hn
   have hy := getD_mem (l := frm F (o.getD 0 0).toNat) (i := (pickI bs i (frm F (o.getD 0 0).toNat).length).toNat) (by omega) 0
   have h1 := (hm.ris _ (by have := ho.hd; omega)).1 _ hy
   exact givS_ok hm bs f (i + 1) _ (by show ((frm F (o.getD 0 0).toNat).getD _ 0).toNat < f; omega) (ho.more hm hy)
theorem given_ok {F : List (List Int)} (hm : MixOk F) (bs : List Nat) {x : Int} (h0 : 0 ≤ x) (h1 : x < F.length) : ChT F x (given F x bs) ∧ frm F ((given F x bs).getD 0 0).toNat = [] :=
 givS_ok hm bs _ 0 [x] (by show x.toNat < _; omega) (ChT.one h0 h1)
theorem ChT.inc {F : List (List Int)} (hm : MixOk F) {x : Int} {w : List Int} (h : ChT F x w) : ∀ j i, i < j → j < w.length → w.getD i 0 < w.getD j 0 := by
 intro j
 induction j with
 | zero => intro i hi; omega
 | succ j ih =>
  intro i hi hj
  obtain ⟨h1, h2⟩ := h.way (j + 1) (by omega) hj
  have h3 := ((hm.ris _ (by omega)).1 _ h2).2
  rw [Nat.add_sub_cancel] at h3
  by_cases e : i = j
  ·subst e; omega
  ·have := ih i (by omega) (by omega); omega
theorem ChT.rng {F : List (List Int)} {x : Int} {w : List Int} (h : ChT F x w) : ∀ j, j < w.length → 0 ≤ w.getD j 0 ∧ w.getD j 0 < F.length := by
 intro j hj
 cases j with
 | zero => exact h.hd
 | succ j => exact (h.way (j + 1) (by omega) hj).1
theorem ChT.len {F : List (List Int)} (hm : MixOk F) {x : Int} {w : List Int} (h : ChT F x w) : w.length ≤ 10 := by
 have key : ∀ j, j < w.length → (j : Int) ≤ w.getD j 0 := by
  intro j
  induction j with
  | zero => intro _; exact h.hd.1
  | succ j ih =>
   intro hj
   have := ih (by omega)
   have := h.inc hm (j + 1) j (by omega) hj
   omega
 have h1 := key (w.length - 1) (by have := h.pos; omega)
 have h2 := h.rng (w.length - 1) (by have := h.pos; omega)
 have := hm.l10
 omega
theorem row_consI {w : List Int} {q : Int} {m : Nat} {G H : Nat → DV} (h : CImp (G 0) (int q)) (hH : ∀ j, j < w.length → CImp (H j) (rowOf int 0 w j)) (hm : m = (q :: w).length) : ∀ j, j < m → CImp (apd 1 G H j) (rowOf int 0 (q :: w) j) := by
 subst hm
 intro j hj
 unfold apd
 cases j with
 | zero => exact h
 | succ j =>
  rw [if_neg (by omega), show j + 1 - 1 = j by omega]
  exact hH j (by simp only [List.length_cons] at hj; omega)
theorem row_oneI {x : Int} {m : Nat} {g : Nat → DV} (h : CImp (g 0) (int x)) (hm : m ≤ 1) : ∀ j, j < m → CImp (g j) (rowOf int 0 [x] j) := by
 intro j hj
 obtain rfl : j = 0 := by omega
 exact h
set_option maxHeartbeats 16000000 in
theorem Given_spec (F : List (List Int)) (hm : MixOk F) (x : Int) (h0 : 0 ≤ x) (h1 : x < F.length) (bs : List Nat) (hb : bs.length ≤ 1000) (hb2 : ∀ b ∈ bs, b < 256) : Fn Try.prog 44 [mixD F, int x, u8s bs] (ints (given F x bs)) := by
 refine Fn.hide (D := fun r : List Int => ints r) fun R hR => ?_
 have hR0 := hR.h
 have hl10 := hm.l10
 have hel := fun (i : Nat) (hi : i < F.length) => (hm.ris i hi).1
 have hfl := fun (i : Nat) (hi : i < F.length) => frm_len' hm hi
 change ∀ i, i < F.length → ∀ y ∈ F.getD i [], 0 ≤ y ∧ y < (i : Int) at hel
 change ∀ i, i < F.length → (F.getD i []).length ≤ i at hfl
 clear hR
 refine Fn.of_ex (cuts := []) tys hM Try.func44 rfl Try.call44 rfl ?_
 show exC Try.prog T [] _ false none 0 (entry 53 [mixD F, int x, u8s bs]) (finQ T [ResultVar.tmp 6] _)
 conv => whnf
 repeat' first | ((first | refine Ob.a ?_ | refine Sp.tt ?_ | refine Sp.ff ?_ | refine Sp.yes ?_ | refine Sp.no ?_ | refine Sp.nyes ?_ | refine Sp.nno ?_ | refine Fi.a ?_);conv=>whnf) | ((first | refine Sp.ne ?_ ?_ | refine Sp.dec ?_ ?_ | refine Sp.ndec ?_ ?_ | refine Sp.mk ?_ ?_) <;> intro hc <;> conv => whnf) | (refine Ob.b ?_;conv=>whnf)
 refine Lp.snap [0, 1, 2, 3, 6, 52] 40 ?_
 (conv=>whnf)
 refine LpB.go 53 ({q : Nat × Int × List Int // givS F bs q.1 q.2.1 q.2.2 = R ∧ (q.2.2.getD 0 0).toNat < q.1 ∧ ChT F x q.2.2 ∧ (0 ≤ q.2.1 ∧ q.2.1 ≤ x.toNat + 1 - q.1)}) 0 (fun ⟨(f, i, o), _⟩ nx => ([(8, .d (int i)), (7, .ms 3 1 0 o.length)], [(3, .row true 3 1 o.length (rowOf int 0 o))])) (fun p => p.1.1) (⟨(x.toNat + 1, 0, [x]), hR0, by show x.toNat < _; omega, ChT.one h0 h1, by simp only; omega⟩) ?_ ?_
 ·rintro ⟨⟨f, i, o⟩, hg, hf, hch, hi0, hi1⟩
  simp only at hg hf hch hi0 hi1
  have hol := hch.len hm
  obtain ⟨f', rfl⟩ : ∃ f', f = f' + 1 := ⟨f - 1, by omega⟩
  have hh : o.getD 0 0 = o.getD (0 + Int.toNat 0) 0 := rfl
  have hlen0 := hch.pos
  rw [givS, hh] at hg
  rw [hh] at hf
  have hcr := hch.hd
  rw [hh] at hcr
  have hel := hel (o.getD (0 + Int.toNat 0) 0).toNat (by omega)
  have hfl := hfl (o.getD (0 + Int.toNat 0) 0).toNat (by omega)
  change (if F.getD (o.getD (0 + Int.toNat 0) 0).toNat [] = [] then _ else givS F bs f' (i + 1) ((F.getD (o.getD (0 + Int.toNat 0) 0).toNat []).getD (pickI bs i (F.getD (o.getD (0 + Int.toNat 0) 0).toNat []).length).toNat 0 :: o)) = R at hg
  by_cases he : F.getD (o.getD (0 + Int.toNat 0) 0).toNat [] = []
  ·rw [if_pos he] at hg
   have he' : (F.getD (o.getD (0 + Int.toNat 0) 0).toNat []).length = 0 := by rw [he]; rfl
   subst hg
   conv => whnf
   repeat' first | ((first | refine Ob.a ?_ | refine Sp.tt ?_ | refine Sp.ff ?_ | refine Sp.yes ?_ | refine Sp.no ?_ | refine Sp.nyes ?_ | refine Sp.nno ?_ | refine Fi.a ?_);conv=>whnf) | ((first | refine Sp.ne ?_ ?_ | refine Sp.dec ?_ ?_ | refine Sp.ndec ?_ ?_ | refine Sp.mk ?_ ?_) <;> intro hc <;> conv => whnf) | (refine Ob.b ?_;conv=>whnf)
   all_goals first | (exfalso; omega) | exact Lf
  ·rw [if_neg he] at hg
   have he' : 0 < (F.getD (o.getD (0 + Int.toNat 0) 0).toNat []).length := List.length_pos_iff.2 he
   have hn : 0 < ((F.getD (o.getD (0 + Int.toNat 0) 0).toNat []).length : Int) := by omega
   have hp := pickI_range (bs := bs) (i := i) hn
   have hmem := getD_mem (l := F.getD (o.getD (0 + Int.toNat 0) 0).toNat []) (i := (pickI bs i (F.getD (o.getD (0 + Int.toNat 0) 0).toNat []).length).toNat) (by omega) 0
   have hy := hel _ hmem
   have hch2 := hch.more hm (y := (F.getD (o.getD (0 + Int.toNat 0) 0).toNat []).getD (pickI bs i (F.getD (o.getD (0 + Int.toNat 0) 0).toNat []).length).toNat 0) hmem
   by_cases hbs : bs = []
   ·have hpk : pickI bs i (F.getD (o.getD (0 + Int.toNat 0) 0).toNat []).length = 0 := if_pos hbs
    have hbl : bs.length = 0 := by rw [hbs]; rfl
    rw [hpk] at hg hp hy hch2
    clear hpk hmem
    conv => whnf
    repeat' first | ((first | refine Ob.a ?_ | refine Sp.tt ?_ | refine Sp.ff ?_ | refine Sp.yes ?_ | refine Sp.no ?_ | refine Sp.nyes ?_ | refine Sp.nno ?_ | refine Fi.a ?_);conv=>whnf) | ((first | refine Sp.ne ?_ ?_ | refine Sp.dec ?_ ?_ | refine Sp.ndec ?_ ?_ | refine Sp.mk ?_ ?_) <;> intro hc <;> conv => whnf) | (refine Ob.b ?_;conv=>whnf)
    all_goals try (exfalso; omega)
    all_goals (refine ⟨rfl, ⟨(f', i + 1, _ :: o), hg, by show ((F.getD (o.getD (0 + Int.toNat 0) 0).toNat []).getD _ 0).toNat < f'; omega, hch2, by simp only; omega⟩, ?_, by simp only; omega⟩;(conv=>whnf); repeat' first | (refine Edge.fast ?_) | ((conv=>whnf); first | exact True.intro | (refine And.intro ?_ ?_) | exact rfl | exact Nat.le_of_eq (Nat.zero_add _) | exact ImpS.refl _ | ((conv => arg 1; whnf); first | exact ImpS.refl _ | (refine ImpS.nil_eq ?_) | (refine ImpS.vnil_eq ?_) | (refine ImpS.row ?_) | (refine ImpS.rowN ?_ ?_) | (refine ImpS.sl_eq ?_) | (refine ImpS.expl rfl ?_)) | (refine row_snoc' ?_) | exact MImp.refl _ | exact cimp_none | exact cimp_same | exact List.not_mem_nil | exact DImp.refl _) | exact rfl | (refine And.intro ?_ ?_) | exact ImpS.refl _)
    all_goals first | exact row_consI ⟨rfl, rfl⟩ (fun j _ => by simp only [Nat.zero_add]; exact CImp.refl _) rfl | exact row_consI ⟨rfl, rfl⟩ (fun j _ => CImp.refl _) rfl | (simp only [List.length_cons]; omega)
   ·have hpk : pickI bs i (F.getD (o.getD (0 + Int.toNat 0) 0).toNat []).length = ((bs.getD (i % (bs.length : Int)).toNat 0 : Nat) : Int) % (F.getD (o.getD (0 + Int.toNat 0) 0).toNat []).length := if_neg hbs
    have hbl : 0 < (bs.length : Int) := by have := List.length_pos_iff.2 hbs; omega
    have hq0 := Int.emod_nonneg i (show (bs.length : Int) ≠ 0 by omega)
    have hq1 := Int.emod_lt_of_pos i hbl
    have hby := hb2 _ (getD_mem (l := bs) (i := (i % (bs.length : Int)).toNat) (by omega) 0)
    rw [hpk] at hg hp hy hch2
    clear hpk hmem
    conv => whnf
    repeat' first | ((first | refine Ob.a ?_ | refine Sp.tt ?_ | refine Sp.ff ?_ | refine Sp.yes ?_ | refine Sp.no ?_ | refine Sp.nyes ?_ | refine Sp.nno ?_ | refine Fi.a ?_);conv=>whnf) | ((first | refine Sp.ne ?_ ?_ | refine Sp.dec ?_ ?_ | refine Sp.ndec ?_ ?_ | refine Sp.mk ?_ ?_) <;> intro hc <;> conv => whnf) | (refine Ob.b ?_;conv=>whnf)
    all_goals try (exfalso; omega)
    all_goals (refine ⟨rfl, ⟨(f', i + 1, _ :: o), hg, by show ((F.getD (o.getD (0 + Int.toNat 0) 0).toNat []).getD _ 0).toNat < f'; omega, hch2, by simp only; omega⟩, ?_, by simp only; omega⟩;(conv=>whnf); repeat' first | (refine Edge.fast ?_) | ((conv=>whnf); first | exact True.intro | (refine And.intro ?_ ?_) | exact rfl | exact Nat.le_of_eq (Nat.zero_add _) | exact ImpS.refl _ | ((conv => arg 1; whnf); first | exact ImpS.refl _ | (refine ImpS.nil_eq ?_) | (refine ImpS.vnil_eq ?_) | (refine ImpS.row ?_) | (refine ImpS.rowN ?_ ?_) | (refine ImpS.sl_eq ?_) | (refine ImpS.expl rfl ?_)) | (refine row_snoc' ?_) | exact MImp.refl _ | exact cimp_none | exact cimp_same | exact List.not_mem_nil | exact DImp.refl _) | exact rfl | (refine And.intro ?_ ?_) | exact ImpS.refl _)
    all_goals first | exact row_consI ⟨rfl, rfl⟩ (fun j _ => by simp only [Nat.zero_add]; exact CImp.refl _) rfl | exact row_consI ⟨rfl, rfl⟩ (fun j _ => CImp.refl _) rfl | (simp only [List.length_cons]; omega)
 ·conv => whnf
  repeat' first | (refine Edge.fast ?_) | ((conv=>whnf); first | exact True.intro | (refine And.intro ?_ ?_) | exact rfl | exact Nat.le_of_eq (Nat.zero_add _) | exact ImpS.refl _ | ((conv => arg 1; whnf); first | exact ImpS.refl _ | (refine ImpS.nil_eq ?_) | (refine ImpS.vnil_eq ?_) | (refine ImpS.row ?_) | (refine ImpS.rowN ?_ ?_) | (refine ImpS.sl_eq ?_) | (refine ImpS.expl rfl ?_)) | (refine row_snoc' ?_) | exact MImp.refl _ | exact cimp_none | exact cimp_same | exact List.not_mem_nil | exact DImp.refl _) | exact rfl | (refine And.intro ?_ ?_) | exact ImpS.refl _
  all_goals first | exact row_oneI ⟨rfl, rfl⟩ (Nat.le_refl _)
end Go.Px.Try

/-! Tq2 -/
namespace Go.Px.Try
open Go Go.Proofs Go.Px
theorem fr_sacks {F : List (List Int)} (h : MixOk F) {B B' W : Nat → Bool} (hB : ∀ i, i < F.length → frm F i = [] → B i = B' i) : ∀ i, i < F.length → fr F B W i = fr F B' W i := by
 intro i
 induction i using Nat.strongRecOn with
 | ind i ih =>
  intro hi
  rw [fr_eq h _ _ hi, fr_eq h _ _ hi]
  congr 1
  by_cases he : frm F i = []
  ·rw [if_pos he, if_pos he, hB i hi he]
  ·rw [if_neg he, if_neg he]
   rw [Bool.eq_iff_iff, List.any_eq_true, List.any_eq_true]
   constructor <;> (rintro ⟨k, hk, h2⟩; have := (h.ris i hi).1 k hk; refine ⟨k, hk, ?_⟩)
   ·rw [← ih k.toNat (by omega) (by omega)]; exact h2
   ·rw [ih k.toNat (by omega) (by omega)]; exact h2
/-- What is free at a node is free at one that comes of it, if no node above is taken away. -/
theorem fr_up {F : List (List Int)} (h : MixOk F) {B W : Nat → Bool} {b : Nat} (hb : fr F B W b = true) (hW : ∀ k, b < k → W k = false) : ∀ x, x < F.length → cm F x b = true → fr F B W x = true := by
 intro x
 induction x using Nat.strongRecOn with
 | ind x ih =>
  intro hx hc
  rcases (cm_true h hx).1 hc with e | ⟨k, hk, hc⟩
  ·rw [e]; exact hb
  ·have h1 := (h.ris x hx).1 _ hk
   have h2 := cm_le h k (by omega) hc
   exact (fr_true h hx).2 ⟨hW x (by omega), .inr ⟨k, hk, ih k (by omega) (by omega) hc⟩⟩
theorem fr_not {F : List (List Int)} (h : MixOk F) {b : Nat} : ∀ x, x < F.length → cm F x b = false → fr F (fun _ => true) (fun i => decide (i = b)) x = true := by
 intro x
 induction x using Nat.strongRecOn with
 | ind x ih =>
  intro hx hc
  have hne : x ≠ b := fun e => by rw [e, cm_self h (by omega)] at hc; cases hc
  refine (fr_true h hx).2 ⟨decide_eq_false hne, ?_⟩
  by_cases he : frm F x = []
  ·exact .inl ⟨he, rfl⟩
  ·obtain ⟨k, hk⟩ := List.exists_mem_of_ne_nil _ he
   have h1 := (h.ris x hx).1 k hk
   refine .inr ⟨k.toNat, by rw [Int.toNat_of_nonneg h1.1]; exact hk, ih k.toNat (by omega) (by omega) ?_⟩
   cases e : cm F k.toNat b with
   | false => rfl
   | true => rw [(cm_true h hx).2 (.inr ⟨k.toNat, by rw [Int.toNat_of_nonneg h1.1]; exact hk, e⟩)] at hc; cases hc
theorem th_mem {F : List (List Int)} {x : Nat} {y : Int} : y ∈ thL F x ↔ ∃ i : Nat, i < F.length ∧ i ≠ x ∧ fr F (fun _ => true) (fun j => decide (j = i)) x = false ∧ y = i := by
 unfold thL
 rw [mem_lst]
 constructor
 ·rintro ⟨i, h1, h2, h3⟩
  unfold thB at h2
  rw [Bool.and_eq_true, decide_eq_true_eq] at h2
  exact ⟨i, h1, h2.1, by simpa using h2.2, h3⟩
 ·rintro ⟨i, h1, h2, h3, h4⟩
  refine ⟨i, h1, ?_, h4⟩
  unfold thB
  rw [decide_eq_true h2, h3]; rfl
/-- Of two nodes through which all comes, all of the greater one comes through the other one. -/
theorem th_two {F : List (List Int)} (h : MixOk F) {x : Nat} (hx : x < F.length) {a b : Int} (ha : a ∈ thL F x) (hb : b ∈ thL F x) (hab : a < b) : a ∈ thL F b.toNat := by
 obtain ⟨i, i1, i2, i3, rfl⟩ := th_mem.1 ha
 obtain ⟨j, j1, j2, j3, rfl⟩ := th_mem.1 hb
 rw [Int.toNat_natCast]
 refine th_mem.2 ⟨i, i1, by omega, ?_, rfl⟩
 cases e : fr F (fun _ => true) (fun k => decide (k = i)) j with
 | false => rfl
 | true =>
  exfalso
  have hc : cm F x j = true := by
   cases e2 : cm F x j with
   | true => rfl
   | false => rw [fr_not h x hx e2] at j3; cases j3
  rw [fr_up h e (fun k hk => decide_eq_false (by omega)) x hx hc] at i3
  cases i3
/-- A row of nodes up to x, from a sack on, has all nodes through which all of it comes. -/
theorem th_way {F : List (List Int)} (h : MixOk F) {w : List Int} (hp : 0 < w.length) (h0 : 0 ≤ w.getD 0 0 ∧ w.getD 0 0 < F.length) (hs : frm F (w.getD 0 0).toNat = []) (hw : ∀ j, 1 ≤ j → j < w.length → (0 ≤ w.getD j 0 ∧ w.getD j 0 < (F.length : Int)) ∧ w.getD (j - 1) 0 ∈ F.getD (w.getD j 0).toNat []) {y : Int} (hy : y ∈ thL F (w.getD (w.length - 1) 0).toNat) : y ∈ w := by
 obtain ⟨i, i1, i2, i3, rfl⟩ := th_mem.1 hy
 refine Classical.byContradiction fun hn => ?_
 have hne : ∀ j, j < w.length → (w.getD j 0).toNat ≠ i := fun j hj e => by
  have hr : 0 ≤ w.getD j 0 := by
   cases j with
   | zero => exact h0.1
   | succ j => exact (hw (j + 1) (by omega) hj).1.1
  exact hn (by rw [← e, Int.toNat_of_nonneg hr]; exact getD_mem hj 0)
 have key : ∀ j, j < w.length → fr F (fun _ => true) (fun k => decide (k = i)) (w.getD j 0).toNat = true := by
  intro j
  induction j with
  | zero => intro hj; exact (fr_true h (by omega)).2 ⟨decide_eq_false (hne 0 hj), .inl ⟨hs, rfl⟩⟩
  | succ j ih =>
   intro hj
   obtain ⟨h2, h3⟩ := hw (j + 1) (by omega) hj
   rw [Nat.add_sub_cancel] at h3
   have hr0 := (h.ris _ (by omega)).1 _ h3
   exact (fr_true h (by omega)).2 ⟨decide_eq_false (hne (j + 1) hj), .inr ⟨(w.getD j 0).toNat, by rw [Int.toNat_of_nonneg hr0.1]; exact h3, ih (by omega)⟩⟩
 rw [key (w.length - 1) (by omega)] at i3
 cases i3
/-! ### In common -/
theorem com_symm (F : List (List Int)) (a b : Nat) : comB F a b = comB F b a := funext fun i => by unfold comB; exact Bool.and_comm _ _
theorem co_symm (F : List (List Int)) (a b : Nat) : coL F a b = coL F b a := by unfold coL; rw [com_symm]
theorem lst_single {n : Nat} {S : Nat → Bool} {k : Nat} (hk : k < n) (hS : ∀ i, i < n → (S i = true ↔ i = k)) : lst n S = [(k : Int)] := by
 rw [lst_of_inc (l := [(k : Int)]) (n := n) (by simp; omega) (by simp)]
 refine lst_congr fun i hi => ?_
 rw [Bool.eq_iff_iff, hS i hi, decide_eq_true_eq, List.mem_singleton]
 omega
/-- If one comes of the other one they have just that one in common at last. -/
theorem co_come {F : List (List Int)} (h : MixOk F) {a b : Nat} (ha : a < F.length) (hb : b < F.length) (hc : cm F a b = true) : coL F a b = [(b : Int)] := by
 rw [coL_lst]
 refine lst_single hb fun i hi => ?_
 rw [coB_iff]
 constructor
 ·rintro ⟨h1, h2⟩
  refine Classical.byContradiction fun hne => ?_
  have h3 := h2 b hb (by unfold comB; rw [hc, cm_self h hb]; rfl) (fun e => hne e.symm)
  unfold comB at h1
  rw [Bool.and_eq_true] at h1
  rw [h3] at h1; cases h1.2
 ·rintro rfl
  refine ⟨by unfold comB; rw [hc, cm_self h hb]; rfl, fun z hz h1 hne => ?_⟩
  cases e : cm F z i with
  | false => rfl
  | true =>
   have h2 := cm_le h z hz e
   unfold comB at h1
   rw [Bool.and_eq_true] at h1
   have h3 := cm_le h i hb h1.2
   exact absurd (by omega) hne
theorem co_come' {F : List (List Int)} (h : MixOk F) {a b : Nat} (ha : a < F.length) (hb : b < F.length) (hc : cm F b a = true) : coL F a b = [(a : Int)] := by
 rw [co_symm]; exact co_come h hb ha hc
theorem co_mem {F : List (List Int)} {a b : Nat} {y : Int} (hy : y ∈ coL F a b) : 0 ≤ y ∧ y < F.length ∧ cm F a y.toNat = true ∧ cm F b y.toNat = true := by
 rw [coL_lst] at hy
 obtain ⟨i, h1, h2, rfl⟩ := mem_lst.1 hy
 have h3 := (coB_iff.1 h2).1
 unfold comB at h3
 rw [Bool.and_eq_true] at h3
 rw [Int.toNat_natCast]
 exact ⟨by omega, by omega, h3.1, h3.2⟩
/-- They have something in common just if they come of a sack both. -/
theorem co_sack {F : List (List Int)} (h : MixOk F) {a b : Nat} (ha : a < F.length) (hb : b < F.length) : (∃ y ∈ sacksL F a, y ∈ sacksL F b) ↔ 0 < (coL F a b).length := by
 constructor
 ·rintro ⟨y, h1, h2⟩
  obtain ⟨i, i1, i2, rfl⟩ := mem_lst.1 h1
  have h3 := mem_lst_nat.1 h2
  rw [Bool.and_eq_true] at i2 h3
  obtain ⟨k, k1, k2, _⟩ := co_above h ha hb F.length i (by omega) i1 (by unfold comB; rw [i2.2, h3.2.2]; rfl)
  exact List.length_pos_iff.2 fun e => by
   have : (k : Int) ∈ coL F a b := by rw [coL_lst]; exact mem_lst_nat.2 ⟨k1, k2⟩
   rw [e] at this; cases this
 ·intro h1
  have h2 := co_mem (getD_mem h1 0)
  obtain ⟨s, s1, s2, s3⟩ := cm_sack h ((coL F a b).getD 0 0).toNat (by omega)
  have s4 : sackB F s = true := decide_eq_true s2
  refine ⟨(s : Int), mem_lst_nat.2 ⟨by omega, ?_⟩, mem_lst_nat.2 ⟨by omega, ?_⟩⟩
  ·rw [s4, cm_trans h a ha h2.2.2.1 s3]; rfl
  ·rw [s4, cm_trans h b hb h2.2.2.2 s3]; rfl
end Go.Px.Try

/-! LwThrough -/
namespace Go.Px.Try
open Go Go.Proofs Go.Px
set_option maxRecDepth 100000
theorem th_len {F : List (List Int)} (hm : MixOk F) (x : Nat) : (thL F x).length ≤ 10 := lst_ten hm _
theorem th_not (F : List (List Int)) {x : Int} : x ∉ thL F x.toNat := fun h => by
 obtain ⟨i, _, i2, _, e⟩ := th_mem.1 h
 omega
theorem th_inc (F : List (List Int)) (x i : Nat) (h : i + 1 < (thL F x).length) : (thL F x).getD i 0 < (thL F x).getD (i + 1) 0 := inc_getD (lst_inc F.length (thB F x)) i (i + 1) (by omega) h
theorem th_rng {F : List (List Int)} {x : Nat} {y : Int} (h : y ∈ thL F x) : 0 ≤ y ∧ y < F.length := by
 obtain ⟨i, i1, _, _, rfl⟩ := th_mem.1 h
 omega
/-- A node alone is a cut for all sacks just if all comes through it. -/
theorem th_cut {F : List (List Int)} {lot y : Int} (hk : BadOk F (badL F 32767) lot) (h0 : 0 ≤ y) (h1 : y < F.length) (hne : y ≠ lot) : checkCutR F (badL F 32767) lot [y] = if y ∈ thL F lot.toNat then 0 else 26 := by
 have hm := hk.mix
 have hl10 := hm.l10
 rw [checkCut_list hk ⟨fun z hz => by rw [List.mem_singleton.1 hz]; exact ⟨h0, h1⟩, List.pairwise_singleton _ _⟩ (fun h => hne (List.mem_singleton.1 h).symm)]
 have e1 : fr F (inZ (badL F 32767)) (inZ [y]) lot.toNat = fr F (fun _ => true) (fun j => decide (j = y.toNat)) lot.toNat := by
  rw [fr_sacks hm (B' := fun _ => true) (fun i hi hs => ?_) _ (hkl hk)]
  ·exact fr_same fun i => decide_eq_decide.2 (by rw [List.mem_singleton]; omega)
  ·refine decide_eq_true (mem_lst_nat.2 ⟨hi, ?_⟩)
   rw [show sackB F i = true from decide_eq_true hs, show (32767 : Nat) = 2 ^ 15 - 1 from rfl, bset_all, decide_eq_true (by omega)]; rfl
 rw [e1]
 by_cases h : y ∈ thL F lot.toNat
 ·obtain ⟨i, _, _, i3, rfl⟩ := th_mem.1 h
  rw [if_pos h, Int.toNat_natCast, i3, if_neg (by simp)]
 ·rw [if_neg h, if_pos]
  cases e : fr F (fun _ => true) (fun j => decide (j = y.toNat)) lot.toNat with
  | true => rfl
  | false =>
   refine absurd (th_mem.2 ⟨y.toNat, by omega, ?_, e, by omega⟩) h
   have := hk.l0
   omega
set_option maxHeartbeats 16000000 in
theorem TraceThrough_spec (F : List (List Int)) (c d : Nat) (bs : List Nat) (hF : Lens F) (hc : c < 256) (hd : d < 256) (g1 : (∀ x ∈ bs, x < 256) ∧ bs.length ≤ maxLen) : Fn Try.prog 10 [mixD F, u8 c, u8 d, u8s bs] (bool true) := by
 have hw := Works_spec
 by_cases hm : MixOk F
 case neg =>
  have hf := fine_no hF hm
  refine Fn.of_ex (cuts := []) tys hM Try.func10 rfl Try.call10 rfl ?_
  show exC Try.prog T [] _ false none 0 (entry 140 [mixD F, u8 c, u8 d, u8s bs]) (finQ T [ResultVar.tmp 8] _)
  conv => whnf
  repeat' first | ((first | refine Ob.a ?_ | refine Sp.tt ?_ | refine Sp.ff ?_ | refine Sp.yes ?_ | refine Sp.no ?_ | refine Sp.nyes ?_ | refine Sp.nno ?_ | refine Fi.a ?_);conv=>whnf) | ((first | refine Sp.ne ?_ ?_ | refine Sp.dec ?_ ?_ | refine Sp.ndec ?_ ?_ | refine Sp.mk ?_ ?_) <;> intro hc <;> conv => whnf) | (apply Cl.go;(conv=>whnf); (first | refine Ob.call (hf) ?_ | refine Ob.call (hw) ?_);(conv=>whnf)) | (refine Ob.b ?_;conv=>whnf)
  all_goals exact Lf
 have hf := fine_yes hF hm
 have hl10 := hm.l10
 have hl1 := hm.l1
 have hL := Lots_spec F hm
 by_cases h0 : 0 < (lotsL F).length ∧ (bs.length : Int) ≤ 20
 case neg =>
  generalize lotsL F = l at *
  refine Fn.of_ex (cuts := []) tys hM Try.func10 rfl Try.call10 rfl ?_
  show exC Try.prog T [] _ false none 0 (entry 140 [mixD F, u8 c, u8 d, u8s bs]) (finQ T [ResultVar.tmp 8] _)
  conv => whnf
  repeat' first | ((first | refine Ob.a ?_ | refine Sp.tt ?_ | refine Sp.ff ?_ | refine Sp.yes ?_ | refine Sp.no ?_ | refine Sp.nyes ?_ | refine Sp.nno ?_ | refine Fi.a ?_);conv=>whnf) | ((first | refine Sp.ne ?_ ?_ | refine Sp.dec ?_ ?_ | refine Sp.ndec ?_ ?_ | refine Sp.mk ?_ ?_) <;> intro hc <;> conv => whnf) | (apply Cl.go;(conv=>whnf); (first | refine Ob.call (hf) ?_ | refine Ob.call (hL) ?_ | refine Ob.call (hw) ?_);(conv=>whnf)) | (refine Ob.b ?_;conv=>whnf)
  all_goals first | (exfalso; omega) | exact Lf
 obtain ⟨h0, hb20⟩ := h0
 have hll : (lotsL F).length ≤ 10 := lst_ten hm _
 have hB := Bad_spec F hm 32767
 have hk := bad_ok hm (w := (c : Int)) h0 32767
 have hlk := lot_ok (F := F) (w := (c : Int)) h0
 have hbl : (badL F 32767).length ≤ 10 := lst_ten hm _
 have y0 : 0 ≤ (d : Int) % F.length := Int.emod_nonneg _ (by omega)
 have y1 : (d : Int) % F.length < F.length := Int.emod_lt_of_pos _ (by omega)
 have hT := through_at hm hlk.1 hlk.2.1
 have hG := Given_spec F hm (lotI F c) hlk.1 hlk.2.1 bs (by omega) g1.1
 obtain ⟨ga, gas⟩ := given_ok hm bs hlk.1 hlk.2.1
 have hgl := ga.len hm
 have hR : Fn Try.prog 47 [ints (thL F (lotI F c).toNat), int F.length] (bool true) := rising_lst hm _
 have htl := th_len hm (lotI F c).toNat
 have hHl := Has_spec (thL F (lotI F c).toNat) (lotI F c) (by omega)
 rw [decide_eq_false (th_not F)] at hHl
 have hway : ∀ i : Int, 0 ≤ i → i < (thL F (lotI F c).toNat).length → (thL F (lotI F c).toNat).getD i.toNat 0 ∈ given F (lotI F c) bs := fun i a b => th_way hm ga.pos ga.hd gas ga.way (by rw [ga.last]; exact getD_mem (by omega) 0)
 have htwo : ∀ i : Int, 0 < i → i < (thL F (lotI F c).toNat).length → (thL F (lotI F c).toNat).getD (i - 1).toNat 0 ∈ thL F ((thL F (lotI F c).toNat).getD i.toNat 0).toNat := fun i a b => by
  refine th_two hm (by omega) (getD_mem (by omega) 0) (getD_mem (by omega) 0) ?_
  have := th_inc F (lotI F c).toNat (i.toNat - 1) (by omega)
  rw [show i.toNat - 1 + 1 = i.toNat by omega] at this
  rw [show (i - 1).toNat = i.toNat - 1 by omega]; exact this
 have hTi : ∀ i : Int, 0 ≤ i → i < (thL F (lotI F c).toNat).length → Fn Try.prog 24 [mixD F, int ((thL F (lotI F c).toNat).getD i.toNat 0)] (tpl [ints (thL F ((thL F (lotI F c).toNat).getD i.toNat 0).toNat), int 0]) := fun i a b => by
  have := th_rng (getD_mem (l := thL F (lotI F c).toNat) (i := i.toNat) (by omega) 0)
  exact through_at hm this.1 this.2
 have hTl : ∀ y : Nat, (thL F y).length ≤ 10 := fun y => th_len hm y
 have hHw := fun (y : Int) => Has_spec (given F (lotI F c) bs) y (by omega)
 have hHu := fun (z : Nat) (y : Int) => Has_spec (thL F z) y (by have := hTl z; omega)
 have hHy := Has_spec (thL F (lotI F c).toNat) ((d : Int) % F.length) (by omega)
 have hcut : (d : Int) % F.length ≠ lotI F c → checkCutR F (badL F 32767) (lotI F c) [(d : Int) % F.length] = if (d : Int) % F.length ∈ thL F (lotI F c).toNat then 0 else 26 := fun h => th_cut hk y0 y1 h
 have hCC := CheckCutP_spec F (mixS hm) (badL F 32767) (by omega) (lotI F c) [(d : Int) % F.length] (by simp)
 have oy := of_spec [(d : Int) % F.length]
 have hlo : lotI F c = (lotsL F).getD ((c : Int) % (lotsL F).length).toNat 0 := rfl
 generalize given F (lotI F c) bs = w at *
 generalize badL F 32767 = bd at *
 generalize hck : checkCutR F bd (lotI F c) [(d : Int) % F.length] = e at *
 generalize htt : thL F (lotI F c).toNat = t at *
 clear hk gas ga htt hck
 rw [hlo] at hlk hT hG hHl hcut hCC
 clear hlo
 generalize lotsL F = l at *
 have hc0 := Int.emod_nonneg (c : Int) (show (l.length : Int) ≠ 0 by omega)
 have hc1 := Int.emod_lt_of_pos (c : Int) (show (0 : Int) < l.length by omega)
 refine Fn.of_ex (cuts := []) tys hM Try.func10 rfl Try.call10 rfl ?_
 show exC Try.prog T [] _ false none 0 (entry 140 [mixD F, u8 c, u8 d, u8s bs]) (finQ T [ResultVar.tmp 8] _)
 conv => whnf
 repeat' first | ((first | refine Ob.a ?_ | refine Sp.tt ?_ | refine Sp.ff ?_ | refine Sp.yes ?_ | refine Sp.no ?_ | refine Sp.nyes ?_ | refine Sp.nno ?_ | refine Fi.a ?_);conv=>whnf) | ((first | refine Sp.ne ?_ ?_ | refine Sp.dec ?_ ?_ | refine Sp.ndec ?_ ?_ | refine Sp.mk ?_ ?_) <;> intro hc <;> conv => whnf) | (apply Cl.go;(conv=>whnf); (first | refine Ob.call (hf) ?_ | refine Ob.call (hL) ?_ | refine Ob.call (hT) ?_ | refine Ob.call (hG) ?_ | refine Ob.call (hR) ?_ | refine Ob.call (hHl) ?_);(conv=>whnf)) | (refine Ob.b ?_;conv=>whnf)
 all_goals try (exfalso; omega)
 all_goals try (rename_i hq; exact absurd rfl hq)
 clear hT hG hR hHl
 refine Lp.snap [0, 1, 2, 3, 4, 10, 11, 12, 14, 18, 111, 112, 114, 115, 116, 117, 118, 119, 120, 121, 122, 123, 124, 125, 126, 127, 128, 129, 130, 131, 132, 133, 134, 135, 136, 137, 138, 139] 40 ?_
 (conv=>whnf)
 refine LpB.go 140 ({i : Int // 0 ≤ i ∧ i ≤ t.length}) 0 (fun ⟨i, _⟩ nx => ([(15, .d (int i))], [])) (fun p => (t.length - p.1).toNat) (⟨0, by omega, by omega⟩) ?_ ?_
 ·rintro ⟨i, i0, i1⟩
  by_cases hi : i < t.length
  ·have h1 := hHw (t.getD i.toNat 0)
   rw [decide_eq_true (hway i i0 hi)] at h1
   have h2 := hTi i i0 hi
   clear hcut hCC hHy
   by_cases hz : 0 < i
   ·have h3 := hHu (t.getD i.toNat 0).toNat (t.getD (i - 1).toNat 0)
    rw [decide_eq_true (htwo i hz hi)] at h3
    clear hway htwo hTi hHw hHu
    conv => whnf
    repeat' first | ((first | refine Ob.a ?_ | refine Sp.tt ?_ | refine Sp.ff ?_ | refine Sp.yes ?_ | refine Sp.no ?_ | refine Sp.nyes ?_ | refine Sp.nno ?_ | refine Fi.a ?_);conv=>whnf) | ((first | refine Sp.ne ?_ ?_ | refine Sp.dec ?_ ?_ | refine Sp.ndec ?_ ?_ | refine Sp.mk ?_ ?_) <;> intro hc <;> conv => whnf) | (apply Cl.go;(conv=>whnf); (first | refine Ob.call (h1) ?_ | refine Ob.call (h2) ?_ | refine Ob.call (h3) ?_);(conv=>whnf)) | (refine Ob.b ?_;conv=>whnf)
    all_goals first | (exfalso; omega) | exact ⟨rfl, ⟨i + 1, by omega, by omega⟩, Lf, by simp only; omega⟩ | (rename_i hq; exact absurd rfl hq)
   ·clear hway htwo hTi hHw hHu
    conv => whnf
    repeat' first | ((first | refine Ob.a ?_ | refine Sp.tt ?_ | refine Sp.ff ?_ | refine Sp.yes ?_ | refine Sp.no ?_ | refine Sp.nyes ?_ | refine Sp.nno ?_ | refine Fi.a ?_);conv=>whnf) | ((first | refine Sp.ne ?_ ?_ | refine Sp.dec ?_ ?_ | refine Sp.ndec ?_ ?_ | refine Sp.mk ?_ ?_) <;> intro hc <;> conv => whnf) | (apply Cl.go;(conv=>whnf); (first | refine Ob.call (h1) ?_);(conv=>whnf)) | (refine Ob.b ?_;conv=>whnf)
    all_goals first | (exfalso; omega) | exact ⟨rfl, ⟨i + 1, by omega, by omega⟩, Lf, by simp only; omega⟩
  ·clear hway htwo hTi hHw hHu
   by_cases hne : (d : Int) % F.length = l.getD ((c : Int) % l.length).toNat 0
   ·conv => whnf
    repeat' first | ((first | refine Ob.a ?_ | refine Sp.tt ?_ | refine Sp.ff ?_ | refine Sp.yes ?_ | refine Sp.no ?_ | refine Sp.nyes ?_ | refine Sp.nno ?_ | refine Fi.a ?_);conv=>whnf) | ((first | refine Sp.ne ?_ ?_ | refine Sp.dec ?_ ?_ | refine Sp.ndec ?_ ?_ | refine Sp.mk ?_ ?_) <;> intro hc <;> conv => whnf) | (apply Cl.go;(conv=>whnf); (first | refine Ob.call (hw) ?_);(conv=>whnf)) | (refine Ob.b ?_;conv=>whnf)
    all_goals first | (exfalso; omega) | (rename_i hq; exact absurd hne hq) | exact Lf
   ·have hcut := hcut hne
    by_cases hin : (d : Int) % F.length ∈ t
    ·rw [decide_eq_true hin] at hHy
     rw [if_pos hin] at hcut
     subst hcut
     conv => whnf
     repeat' first | ((first | refine Ob.a ?_ | refine Sp.tt ?_ | refine Sp.ff ?_ | refine Sp.yes ?_ | refine Sp.no ?_ | refine Sp.nyes ?_ | refine Sp.nno ?_ | refine Fi.a ?_);conv=>whnf) | (refine Sp.byes ?_;conv=>whnf) | (refine Sp.bno ?_;conv=>whnf) | ((first | refine Sp.ne ?_ ?_ | refine Sp.dec ?_ ?_ | refine Sp.ndec ?_ ?_ | refine Sp.mk ?_ ?_) <;> intro hc <;> conv => whnf) | (apply Cl.go;(conv=>whnf); (first | refine Ob.call (hB) ?_ | refine Ob.call (oy) ?_ | refine Ob.call (hCC) ?_ | refine Ob.call (hHy) ?_ | refine Ob.call (hw) ?_);(conv=>whnf)) | (refine Ob.b ?_;conv=>whnf)
     all_goals first | (exfalso; omega) | (rename_i hq; exact absurd hq hne) | (rename_i hq; exact absurd rfl hq) | exact Lf
    ·rw [decide_eq_false hin] at hHy
     rw [if_neg hin] at hcut
     subst hcut
     conv => whnf
     repeat' first | ((first | refine Ob.a ?_ | refine Sp.tt ?_ | refine Sp.ff ?_ | refine Sp.yes ?_ | refine Sp.no ?_ | refine Sp.nyes ?_ | refine Sp.nno ?_ | refine Fi.a ?_);conv=>whnf) | (refine Sp.byes ?_;conv=>whnf) | (refine Sp.bno ?_;conv=>whnf) | ((first | refine Sp.ne ?_ ?_ | refine Sp.dec ?_ ?_ | refine Sp.ndec ?_ ?_ | refine Sp.mk ?_ ?_) <;> intro hc <;> conv => whnf) | (apply Cl.go;(conv=>whnf); (first | refine Ob.call (hB) ?_ | refine Ob.call (oy) ?_ | refine Ob.call (hCC) ?_ | refine Ob.call (hHy) ?_ | refine Ob.call (hw) ?_);(conv=>whnf)) | (refine Ob.b ?_;conv=>whnf)
     all_goals first | (exfalso; omega) | (rename_i hq; exact absurd hq hne) | (rename_i hq; exact absurd rfl hq) | exact Lf
 ·exact Lf
end Go.Px.Try

namespace Go.Proofs.Ytbgpdcbljjdjnaa.traceThroughDone
open Go.ChangeShapes Go.WideShapes Go.ChangeAt Go.RowKit
open Go.Px
open Go.Px.Try (own laidOut)
set_option maxRecDepth 100000 in
theorem lifted (os : Os) (started : os.Started) (H : Type) (enc : TypeId × Value → H) :
  ReturnsInHanded {} Try.checked os 10 .any (Rows.traceThroughSpec.pre6 enc Try.prog Try.f10 Rows.traceThroughRow.domain false) (Rows.traceThroughSpec.post enc Try.prog Try.f10 false true false false) := by
 refine returnsInHanded_of_change (C := Try.checked) own started (by kernel_rfl) Try.func10
  (ChangeSpec.witness6 (enc := enc) (C := Try.checked) false ⟨#[], #[.agg #[.slice none 0 0], .int .u8 0, .int .u8 0, .slice none 0 0], []⟩ 8 (by kernel_rfl) (by kernel_rfl) (by kernel_rfl) (by kernel_rfl)) ?_
 intro W base args ds gs before hval0 hW hcnd _
 have hval : ∀ (j : Nat) t v, Try.f10.params[j]? = some t → args[j]? = some v → Value.okWide Try.prog W .any base t v := hval0
 have hW' := hW
 obtain ⟨p, q, hA0, hV, rfl, hfz, hnd⟩ := hW
 have hA : DataW.TrodAll enc Try.prog W 0 (fun _ => true) true Try.f10.params.toList args.toList ds p := hA0
 rw [Try.params10] at hA hval
 obtain ⟨v0, vs0, d0, ds0, p0, q0, hargs, rfl, rfl, h0, r0⟩ := trodAll_cons hA
 obtain ⟨v1, vs1, d1, ds1, p1, q1, rfl, rfl, rfl, h1, r1⟩ := trodAll_cons r0
 obtain ⟨v2, vs2, d2, ds2, p2, q2, rfl, rfl, rfl, h2, r2⟩ := trodAll_cons r1
 obtain ⟨v3, vs3, d3, ds3, p3, q3, rfl, rfl, rfl, h3, r3⟩ := trodAll_cons r2
 obtain ⟨rfl, rfl, rfl⟩ := trodAll_nil r3
 obtain rfl : args = #[v0, v1, v2, v3] := by cases args; simp_all
 obtain ⟨rfl, rfl⟩ := trodVars_none hV
 have lt0 : ∀ x ∈ p0, x.block < W.heap.size := by have k := h0; obtain ⟨m, hm⟩ := k; exact DataW.trod_lt m _ _ _ hm
 obtain ⟨x0, g0, e0⟩ := Go.Px.Try.mix_arg h0 (hval 0 24 v0 rfl rfl)
 have lt1 : ∀ x ∈ p1, x.block < W.heap.size := by have k := h1; obtain ⟨m, hm⟩ := k; exact DataW.trod_lt m _ _ _ hm
 obtain ⟨x1, g1, e1⟩ := Go.Px.Try.u8_arg h1 (hval 1 5 v1 rfl rfl)
 have lt2 : ∀ x ∈ p2, x.block < W.heap.size := by have k := h2; obtain ⟨m, hm⟩ := k; exact DataW.trod_lt m _ _ _ hm
 obtain ⟨x2, g2, e2⟩ := Go.Px.Try.u8_arg h2 (hval 2 5 v2 rfl rfl)
 have lt3 : ∀ x ∈ p3, x.block < W.heap.size := by have k := h3; obtain ⟨m, hm⟩ := k; exact DataW.trod_lt m _ _ _ hm
 obtain ⟨x3, g3, e3⟩ := Go.Px.Try.u8s_arg h3 (hval 3 52 v3 rfl rfl)
 clear hA0 hval0
 refine ((Go.Px.Try.TraceThrough_spec x0 x1 x2 x3 g0 g1 g2 g3).2 (All W) W [v0, v1, v2, v3] (fun _ h => h) ⟨e0, e1, e2, e3, trivial⟩).mono fun e W' ⟨v, S', he, hr, _, _, bel⟩ => ?_
 obtain rfl : v = .bool true := hr
 subst he
 exact ⟨_, rfl, _, _, _, [], _, [], hW', trodAll_mk1 (shut_bool Try.underlying4 _), (trodAll_cons_mk (Below.trod laidOut (by kernel_rfl) (of_decide_eq_true (by kernel_rfl)) h0 bel lt0) (trodAll_cons_mk (Below.trod laidOut (by kernel_rfl) (of_decide_eq_true (by kernel_rfl)) h1 bel lt1) (trodAll_cons_mk (Below.trod laidOut (by kernel_rfl) (of_decide_eq_true (by kernel_rfl)) h2 bel lt2) (trodAll_cons_mk (Below.trod laidOut (by kernel_rfl) (of_decide_eq_true (by kernel_rfl)) h3 bel lt3) trodAll_mk0)))), rfl, bel.frame _, fun h => by cases h⟩
theorem over : Rows.traceThroughRow.holds Try.pinned (OpenSpec.ofChange Rows.traceThroughSpec) :=
 OpenClaim.holds_of_wide 10 Try.f10 rfl rfl rfl rfl rfl rfl rfl ⟨rfl, rfl, rfl, rfl, rfl⟩ rfl rfl rfl rfl rfl (by kernel_rfl) Try.func10 (by kernel_rfl)
  (of_decide_eq_true (by kernel_rfl)) (by unfold Func.isWrapper; first | (rw [if_pos (by decide +kernel)]; kernel_rfl) | (rw [if_neg (by decide +kernel)]; exact ⟨rfl, rfl⟩))
  (fun os started H enc _ => lifted os started H enc)
theorem proved : Rows.TraceThroughSaid := over
#print axioms proved
end Go.Proofs.Ytbgpdcbljjdjnaa.traceThroughDone
