/- The statement TraceProved: THE STAGE'S THEOREM: a shortest cut has just as many nodes as there are ways apart; no given cut has fewer, and there are no more given ways apart; a given bad way has a node of each cut. Conditions: none. -/
import Derived.Test.YtbgpdcbljjdjnaaJ6
import Derived.Test.YtbgpdcbljjdjnaaJ7
import Derived.Test.YtbgpdcbljjdjnaaRows
set_option linter.unusedVariables false
set_option linter.unusedSimpArgs false
/-! LwG -/
namespace Go.Px.Try
open Go Go.Proofs Go.Px
set_option maxRecDepth 100000
def pickI (bs : List Nat) (i n : Int) : Int := if bs = [] then 0 else ((bs.getD (i % (bs.length : Int)).toNat 0 : Nat) : Int) % n
def givS (F : List (List Int)) (bs : List Nat) : Nat → Int → List Int → List Int
 | 0, _, o => o
 | f + 1, i, o => if frm F (o.getD 0 0).toNat = [] then o else givS F bs f (i + 1) ((frm F (o.getD 0 0).toNat).getD (pickI bs i (frm F (o.getD 0 0).toNat).length).toNat 0 :: o)
/-- The way back from a node. -/
def given (F : List (List Int)) (x : Int) (bs : List Nat) : List Int := givS F bs (x.toNat + 1) 0 [x]
/-- A row of nodes, each mixed of the one before, up to x. -/
structure ChT (F : List (List Int)) (x : Int) (w : List Int) : Prop where
 pos : 0 < w.length
 last : w.getD (w.length - 1) 0 = x
 hd : 0 ≤ w.getD 0 0 ∧ w.getD 0 0 < F.length
 way : WayTo F w w.length
theorem pickI_range {bs : List Nat} {i n : Int} (hn : 0 < n) : 0 ≤ pickI bs i n ∧ pickI bs i n < n := by
 unfold pickI
 split
 ·omega
 ·exact ⟨Int.emod_nonneg _ (by omega), Int.emod_lt_of_pos _ hn⟩
theorem ChT.one {F : List (List Int)} {x : Int} (h0 : 0 ≤ x) (h1 : x < F.length) : ChT F x [x] := ⟨by simp, rfl, ⟨h0, h1⟩, fun j a b => by simp at b; omega⟩
theorem ChT.more {F : List (List Int)} (hm : MixOk F) {x y : Int} {w : List Int} (h : ChT F x w) (hy : y ∈ frm F (w.getD 0 0).toNat) : ChT F x (y :: w) := by
 have h0 := h.hd
 have h1 := (hm.ris _ (by omega)).1 _ hy
 have hp := h.pos
 refine ⟨by simp, ?_, ⟨h1.1, by show y < _; omega⟩, fun j a b => ?_⟩
 ·have e : (y :: w).length - 1 = (w.length - 1) + 1 := by simp only [List.length_cons]; omega
  rw [e]; exact h.last
 ·obtain ⟨j, rfl⟩ : ∃ k, j = k + 1 := ⟨j - 1, by omega⟩
  cases j with
  | zero => exact ⟨h.hd, hy⟩
  | succ j =>
   have := h.way (j + 1) (by omega) (by simp only [List.length_cons] at b; omega)
   exact this
theorem givS_ok {F : List (List Int)} (hm : MixOk F) (bs : List Nat) {x : Int} : ∀ (f : Nat) (i : Int) (o : List Int), (o.getD 0 0).toNat < f → ChT F x o → ChT F x (givS F bs f i o) ∧ frm F ((givS F bs f i o).getD 0 0).toNat = []
 | 0, _, _, h, _ => by omega
 | f + 1, i, o, h, ho => by
  rw [givS]
  by_cases he : frm F (o.getD 0 0).toNat = []
  ·rw [if_pos he]; exact ⟨ho, he⟩
  ·rw [if_neg he]
   have hn : 0 < ((frm F (o.getD 0 0).toNat).length : Int) := by have := List.length_pos_iff.2 he; omega
   have hp := pickI_range (bs := bs) (i := i) hn
   have hy := getD_mem (l := frm F (o.getD 0 0).toNat) (i := (pickI bs i (frm F (o.getD 0 0).toNat).length).toNat) (by omega) 0
   have h1 := (hm.ris _ (by have := ho.hd; omega)).1 _ hy
   exact givS_ok hm bs f (i + 1) _ (by show ((frm F (o.getD 0 0).toNat).getD _ 0).toNat < f; omega) (ho.more hm hy)
theorem given_ok {F : List (List Int)} (hm : MixOk F) (bs : List Nat) {x : Int} (h0 : 0 ≤ x) (h1 : x < F.length) : ChT F x (given F x bs) ∧ frm F ((given F x bs).getD 0 0).toNat = [] :=
 givS_ok hm bs _ 0 [x] (by show x.toNat < _; omega) (ChT.one h0 h1)
theorem ChT.inc {F : List (List Int)} (hm : MixOk F) {x : Int} {w : List Int} (h : ChT F x w) : ∀ j i, i < j → j < w.length → w.getD i 0 < w.getD j 0 := by
 intro j
 induction j with
 | zero => intro i hi; omega
 | succ j ih =>
  intro i hi hj
  obtain ⟨h1, h2⟩ := h.way (j + 1) (by omega) hj
  have h3 := ((hm.ris _ (by omega)).1 _ h2).2
  rw [Nat.add_sub_cancel] at h3
  by_cases e : i = j
  ·subst e; omega
  ·have := ih i (by omega) (by omega); omega
theorem ChT.rng {F : List (List Int)} {x : Int} {w : List Int} (h : ChT F x w) : ∀ j, j < w.length → 0 ≤ w.getD j 0 ∧ w.getD j 0 < F.length := by
 intro j hj
 cases j with
 | zero => exact h.hd
 | succ j => exact (h.way (j + 1) (by omega) hj).1
theorem ChT.len {F : List (List Int)} (hm : MixOk F) {x : Int} {w : List Int} (h : ChT F x w) : w.length ≤ 10 := by
 have key : ∀ j, j < w.length → (j : Int) ≤ w.getD j 0 := by
  intro j
  induction j with
  | zero => intro _; exact h.hd.1
  | succ j ih =>
   intro hj
   have := ih (by omega)
   have := h.inc hm (j + 1) j (by omega) hj
   omega
 have h1 := key (w.length - 1) (by have := h.pos; omega)
 have h2 := h.rng (w.length - 1) (by have := h.pos; omega)
 have := hm.l10
 omega
theorem row_consI {w : List Int} {q : Int} {m : Nat} {G H : Nat → DV} (h : CImp (G 0) (int q)) (hH : ∀ j, j < w.length → CImp (H j) (rowOf int 0 w j)) (hm : m = (q :: w).length) : ∀ j, j < m → CImp (apd 1 G H j) (rowOf int 0 (q :: w) j) := by
 subst hm
 intro j hj
 unfold apd
 cases j with
 | zero => exact h
 | succ j =>
  rw [if_neg (by omega), show j + 1 - 1 = j by omega]
  exact hH j (by simp only [List.length_cons] at hj; omega)
theorem row_oneI {x : Int} {m : Nat} {g : Nat → DV} (h : CImp (g 0) (int x)) (hm : m ≤ 1) : ∀ j, j < m → CImp (g j) (rowOf int 0 [x] j) := by
 intro j hj
 obtain rfl : j = 0 := by omega
 exact h
set_option maxHeartbeats 16000000 in
theorem Given_spec (F : List (List Int)) (hm : MixOk F) (x : Int) (h0 : 0 ≤ x) (h1 : x < F.length) (bs : List Nat) (hb : bs.length ≤ 1000) (hb2 : ∀ b ∈ bs, b < 256) : Fn Try.prog 44 [mixD F, int x, u8s bs] (ints (given F x bs)) := by
 refine Fn.hide (D := fun r : List Int => ints r) fun R hR => ?_
 have hR0 := hR.h
 have hl10 := hm.l10
 have hel := fun (i : Nat) (hi : i < F.length) => (hm.ris i hi).1
 have hfl := fun (i : Nat) (hi : i < F.length) => frm_len' hm hi
 change ∀ i, i < F.length → ∀ y ∈ F.getD i [], 0 ≤ y ∧ y < (i : Int) at hel
 change ∀ i, i < F.length → (F.getD i []).length ≤ i at hfl
 clear hR
 refine Fn.of_ex (cuts := []) tys hM Try.func44 rfl Try.call44 rfl ?_
 show exC Try.prog T [] _ false none 0 (entry 53 [mixD F, int x, u8s bs]) (finQ T [ResultVar.tmp 6] _)
 conv => whnf
 repeat' first | ((first | refine Ob.a ?_ | refine Sp.tt ?_ | refine Sp.ff ?_ | refine Sp.yes ?_ | refine Sp.no ?_ | refine Sp.nyes ?_ | refine Sp.nno ?_ | refine Fi.a ?_);conv=>whnf) | ((first | refine Sp.ne ?_ ?_ | refine Sp.dec ?_ ?_ | refine Sp.ndec ?_ ?_ | refine Sp.mk ?_ ?_) <;> intro hc <;> conv => whnf) | (refine Ob.b ?_;conv=>whnf)
 refine Lp.snap [0, 1, 2, 3, 6, 52] 40 ?_
 (conv=>whnf)
 refine LpB.go 53 ({q : Nat × Int × List Int // givS F bs q.1 q.2.1 q.2.2 = R ∧ (q.2.2.getD 0 0).toNat < q.1 ∧ ChT F x q.2.2 ∧ (0 ≤ q.2.1 ∧ q.2.1 ≤ x.toNat + 1 - q.1)}) 0 (fun ⟨(f, i, o), _⟩ nx => ([(8, .d (int i)), (7, .ms 3 1 0 o.length)], [(3, .row true 3 1 o.length (rowOf int 0 o))])) (fun p => p.1.1) (⟨(x.toNat + 1, 0, [x]), hR0, by show x.toNat < _; omega, ChT.one h0 h1, by simp only; omega⟩) ?_ ?_
 ·rintro ⟨⟨f, i, o⟩, hg, hf, hch, hi0, hi1⟩
  simp only at hg hf hch hi0 hi1
  have hol := hch.len hm
  obtain ⟨f', rfl⟩ : ∃ f', f = f' + 1 := ⟨f - 1, by omega⟩
  have hh : o.getD 0 0 = o.getD (0 + Int.toNat 0) 0 := rfl
  have hlen0 := hch.pos
  rw [givS, hh] at hg
  rw [hh] at hf
  have hcr := hch.hd
  rw [hh] at hcr
  have hel := hel (o.getD (0 + Int.toNat 0) 0).toNat (by omega)
  have hfl := hfl (o.getD (0 + Int.toNat 0) 0).toNat (by omega)
  change (if F.getD (o.getD (0 + Int.toNat 0) 0).toNat [] = [] then _ else givS F bs f' (i + 1) ((F.getD (o.getD (0 + Int.toNat 0) 0).toNat []).getD (pickI bs i (F.getD (o.getD (0 + Int.toNat 0) 0).toNat []).length).toNat 0 :: o)) = R at hg
  by_cases he : F.getD (o.getD (0 + Int.toNat 0) 0).toNat [] = []
  ·rw [if_pos he] at hg
   have he' : (F.getD (o.getD (0 + Int.toNat 0) 0).toNat []).length = 0 := by rw [he]; rfl
   subst hg
   conv => whnf
   repeat' first | ((first | refine Ob.a ?_ | refine Sp.tt ?_ | refine Sp.ff ?_ | refine Sp.yes ?_ | refine Sp.no ?_ | refine Sp.nyes ?_ | refine Sp.nno ?_ | refine Fi.a ?_);conv=>whnf) | ((first | refine Sp.ne ?_ ?_ | refine Sp.dec ?_ ?_ | refine Sp.ndec ?_ ?_ | refine Sp.mk ?_ ?_) <;> intro hc <;> conv => whnf) | (refine Ob.b ?_;conv=>whnf)
   all_goals first | (exfalso; omega) | exact Lf
  ·rw [if_neg he] at hg
   have he' : 0 < (F.getD (o.getD (0 + Int.toNat 0) 0).toNat []).length := List.length_pos_iff.2 he
   have hn : 0 < ((F.getD (o.getD (0 + Int.toNat 0) 0).toNat []).length : Int) := by omega
   have hp := pickI_range (bs := bs) (i := i) hn
   have hmem := getD_mem (l := F.getD (o.getD (0 + Int.toNat 0) 0).toNat []) (i := (pickI bs i (F.getD (o.getD (0 + Int.toNat 0) 0).toNat []).length).toNat) (by omega) 0
   have hy := hel _ hmem
   have hch2 := hch.more hm (y := (F.getD (o.getD (0 + Int.toNat 0) 0).toNat []).getD (pickI bs i (F.getD (o.getD (0 + Int.toNat 0) 0).toNat []).length).toNat 0) hmem
   by_cases hbs : bs = []
   ·have hpk : pickI bs i (F.getD (o.getD (0 + Int.toNat 0) 0).toNat []).length = 0 := if_pos hbs
    have hbl : bs.length = 0 := by rw [hbs]; rfl
    rw [hpk] at hg hp hy hch2
    clear hpk hmem
    conv => whnf
    repeat' first | ((first | refine Ob.a ?_ | refine Sp.tt ?_ | refine Sp.ff ?_ | refine Sp.yes ?_ | refine Sp.no ?_ | refine Sp.nyes ?_ | refine Sp.nno ?_ | refine Fi.a ?_);conv=>whnf) | ((first | refine Sp.ne ?_ ?_ | refine Sp.dec ?_ ?_ | refine Sp.ndec ?_ ?_ | refine Sp.mk ?_ ?_) <;> intro hc <;> conv => whnf) | (refine Ob.b ?_;conv=>whnf)
    all_goals try (exfalso; omega)
    all_goals (refine ⟨rfl, ⟨(f', i + 1, _ :: o), hg, by show ((F.getD (o.getD (0 + Int.toNat 0) 0).toNat []).getD _ 0).toNat < f'; omega, hch2, by simp only; omega⟩, ?_, by simp only; omega⟩;(conv=>whnf); repeat' first | (refine Edge.fast ?_) | ((conv=>whnf); first | exact True.intro | (refine And.intro ?_ ?_) | exact rfl | exact Nat.le_of_eq (Nat.zero_add _) | exact ImpS.refl _ | ((conv => arg 1; whnf); first | exact ImpS.refl _ | (refine ImpS.nil_eq ?_) | (refine ImpS.vnil_eq ?_) | (refine ImpS.row ?_) | (refine ImpS.rowN ?_ ?_) | (refine ImpS.sl_eq ?_) | (refine ImpS.expl rfl ?_)) | (refine row_snoc' ?_) | exact MImp.refl _ | exact cimp_none | exact cimp_same | exact List.not_mem_nil | exact DImp.refl _) | exact rfl | (refine And.intro ?_ ?_) | exact ImpS.refl _)
    all_goals first | exact row_consI ⟨rfl, rfl⟩ (fun j _ => by simp only [Nat.zero_add]; exact CImp.refl _) rfl | exact row_consI ⟨rfl, rfl⟩ (fun j _ => CImp.refl _) rfl | (simp only [List.length_cons]; omega)
   ·have hpk : pickI bs i (F.getD (o.getD (0 + Int.toNat 0) 0).toNat []).length = ((bs.getD (i % (bs.length : Int)).toNat 0 : Nat) : Int) % (F.getD (o.getD (0 + Int.toNat 0) 0).toNat []).length := if_neg hbs
    have hbl : 0 < (bs.length : Int) := by have := List.length_pos_iff.2 hbs; omega
    have hq0 := Int.emod_nonneg i (show (bs.length : Int) ≠ 0 by omega)
    have hq1 := Int.emod_lt_of_pos i hbl
    have hby := hb2 _ (getD_mem (l := bs) (i := (i % (bs.length : Int)).toNat) (by omega) 0)
    rw [hpk] at hg hp hy hch2
    clear hpk hmem
    conv => whnf
    repeat' first | ((first | refine Ob.a ?_ | refine Sp.tt ?_ | refine Sp.ff ?_ | refine Sp.yes ?_ | refine Sp.no ?_ | refine Sp.nyes ?_ | refine Sp.nno ?_ | refine Fi.a ?_);conv=>whnf) | ((first | refine Sp.ne ?_ ?_ | refine Sp.dec ?_ ?_ | refine Sp.ndec ?_ ?_ | refine Sp.mk ?_ ?_) <;> intro hc <;> conv => whnf) | (refine Ob.b ?_;conv=>whnf)
    all_goals try (exfalso; omega)
    all_goals (refine ⟨rfl, ⟨(f', i + 1, _ :: o), hg, by show ((F.getD (o.getD (0 + Int.toNat 0) 0).toNat []).getD _ 0).toNat < f'; omega, hch2, by simp only; omega⟩, ?_, by simp only; omega⟩;(conv=>whnf); repeat' first | (refine Edge.fast ?_) | ((conv=>whnf); first | exact True.intro | (refine And.intro ?_ ?_) | exact rfl | exact Nat.le_of_eq (Nat.zero_add _) | exact ImpS.refl _ | ((conv => arg 1; whnf); first | exact ImpS.refl _ | (refine ImpS.nil_eq ?_) | (refine ImpS.vnil_eq ?_) | (refine ImpS.row ?_) | (refine ImpS.rowN ?_ ?_) | (refine ImpS.sl_eq ?_) | (refine ImpS.expl rfl ?_)) | (refine row_snoc' ?_) | exact MImp.refl _ | exact cimp_none | exact cimp_same | exact List.not_mem_nil | exact DImp.refl _) | exact rfl | (refine And.intro ?_ ?_) | exact ImpS.refl _)
    all_goals first | exact row_consI ⟨rfl, rfl⟩ (fun j _ => by simp only [Nat.zero_add]; exact CImp.refl _) rfl | exact row_consI ⟨rfl, rfl⟩ (fun j _ => CImp.refl _) rfl | (simp only [List.length_cons]; omega)
 ·conv => whnf
  repeat' first | (refine Edge.fast ?_) | ((conv=>whnf); first | exact True.intro | (refine And.intro ?_ ?_) | exact rfl | exact Nat.le_of_eq (Nat.zero_add _) | exact ImpS.refl _ | ((conv => arg 1; whnf); first | exact ImpS.refl _ | (refine ImpS.nil_eq ?_) | (refine ImpS.vnil_eq ?_) | (refine ImpS.row ?_) | (refine ImpS.rowN ?_ ?_) | (refine ImpS.sl_eq ?_) | (refine ImpS.expl rfl ?_)) | (refine row_snoc' ?_) | exact MImp.refl _ | exact cimp_none | exact cimp_same | exact List.not_mem_nil | exact DImp.refl _) | exact rfl | (refine And.intro ?_ ?_) | exact ImpS.refl _
  all_goals first | exact row_oneI ⟨rfl, rfl⟩ (Nat.le_refl _)
end Go.Px.Try

/-! LwLot -/
namespace Go.Px.Try
open Go Go.Proofs Go.Px
set_option maxRecDepth 100000
/-- A lot, by a number. -/
def lotI (F : List (List Int)) (w : Int) : Int := (lotsL F).getD (w % (lotsL F).length).toNat 0
theorem lot_ok {F : List (List Int)} {w : Int} (h : 0 < (lotsL F).length) : 0 ≤ lotI F w ∧ lotI F w < F.length ∧ frm F (lotI F w).toNat ≠ [] := by
 have h1 := Int.emod_nonneg w (show ((lotsL F).length : Int) ≠ 0 by omega)
 have h2 := Int.emod_lt_of_pos w (show (0 : Int) < (lotsL F).length by omega)
 have hmem := getD_mem (l := lotsL F) (i := (w % (lotsL F).length).toNat) (by omega) 0
 obtain ⟨i, i1, i2, e⟩ := mem_lst.1 hmem
 change lotI F w = (i : Int) at e
 rw [e]
 refine ⟨by omega, by omega, ?_⟩
 rw [Int.toNat_natCast]
 exact of_decide_eq_false (p := frm F i = []) (by simpa using i2 : sackB F i = false)
theorem bad_ok {F : List (List Int)} (hm : MixOk F) {w : Int} (h : 0 < (lotsL F).length) (b : Nat) : BadOk F (badL F b) (lotI F w) := by
 obtain ⟨h1, h2, h3⟩ := lot_ok (w := w) h
 refine ⟨hm, h1, h2, lst_rs _ _, h3, fun x hx => ?_⟩
 obtain ⟨i, _, i2, rfl⟩ := mem_lst.1 hx
 rw [Bool.and_eq_true] at i2
 rw [Int.toNat_natCast]
 exact of_decide_eq_true i2.1
theorem checkCut_list {F : List (List Int)} {bad : List Int} {lot : Int} (hk : BadOk F bad lot) {L : List Int} (hL : rsL L F.length) (hl : lot ∉ L) : checkCutR F bad lot L = if fr F (inZ bad) (inZ L) lot.toNat = true then 26 else 0 := by
 unfold checkCutR
 rw [if_neg (by simp [badE_ok.2 hk]), if_neg fun h => h.elim (fun h => h hL) hl]
theorem checkWays_vals {F : List (List Int)} {bad : List Int} {lot : Int} (hk : BadOk F bad lot) (ws : List (List Int)) : checkWaysR F bad lot ws = 0 ∨ checkWaysR F bad lot ws = 16 ∨ checkWaysR F bad lot ws = 26 := by
 unfold checkWaysR
 rw [if_neg (by simp [badE_ok.2 hk])]
 split
 ·exact .inr (.inr rfl)
 ·split
  ·exact .inl rfl
  ·exact .inr (.inl rfl)
end Go.Px.Try

/-! LwProved -/
namespace Go.Px.Try
open Go Go.Proofs Go.Px
set_option maxRecDepth 100000
theorem bandn_spec (b k : Nat) (hb : b < 65536) (hk : k < 20) : ∃ d : Nat, d < 65536 ∧ bandn .i64 (b : Int) (1 * 2 ^ k) = (d : Int) ∧ ∀ i, bset d i = (bset b i && !decide (i = k)) := by
 have hk2 : 2 ^ k < 2 ^ 20 := Nat.pow_lt_pow_right (by omega) hk
 have hle : (BitVec.ofNat 64 b &&& ~~~ BitVec.ofNat 64 (2 ^ k)).toNat ≤ b := by
  rw [BitVec.toNat_and, BitVec.toNat_ofNat, Nat.mod_eq_of_lt (by omega)]
  exact Nat.and_le_left
 refine ⟨(BitVec.ofNat 64 b &&& ~~~ BitVec.ofNat 64 (2 ^ k)).toNat, ?_, ?_, fun i => ?_⟩
 ·exact Nat.lt_of_le_of_lt hle hb
 ·unfold bandn
  have e1 : BitVec.ofInt IntKind.i64.bits (b : Int) = BitVec.ofNat 64 b := BitVec.ofInt_natCast 64 b
  have e2 : BitVec.ofInt IntKind.i64.bits (1 * 2 ^ k) = BitVec.ofNat 64 (2 ^ k) := by
   rw [Int.one_mul, show (2 : Int) ^ k = ((2 ^ k : Nat) : Int) by simp]; exact BitVec.ofInt_natCast 64 _
  rw [e1, e2]
  refine wrap_in ?_
  have h : ((BitVec.ofNat 64 b &&& ~~~ BitVec.ofNat 64 (2 ^ k)).toNat : Int) ≤ b := by omega
  show -9223372036854775808 ≤ ((BitVec.ofNat 64 b &&& ~~~ BitVec.ofNat 64 (2 ^ k)).toNat : Int) ∧ ((BitVec.ofNat 64 b &&& ~~~ BitVec.ofNat 64 (2 ^ k)).toNat : Int) ≤ 9223372036854775807
  omega
 ·rw [bset_test, bset_test, BitVec.testBit_toNat, BitVec.getLsbD_and, BitVec.getLsbD_not, BitVec.getLsbD_ofNat, BitVec.getLsbD_ofNat, Nat.testBit_two_pow]
  by_cases hi : i < 64
  ·simp only [hi, decide_true, Bool.true_and]
   rw [show decide (k = i) = decide (i = k) from decide_eq_decide.2 eq_comm]
  ·have : b.testBit i = false := Nat.testBit_lt_two_pow (Nat.lt_of_lt_of_le hb (Nat.le_trans (by decide : 65536 ≤ 2 ^ 16) (Nat.pow_le_pow_right (by omega) (by omega))))
   rw [this]; simp
theorem given_way {F : List (List Int)} {bad : List Int} {lot : Int} (hk : BadOk F bad lot) {w : List Int} (h : ChT F lot w) (hs : frm F (w.getD 0 0).toNat = []) (hb : w.getD 0 0 ∈ bad) : IsWayP F bad lot w := by
 refine ⟨?_, hb, h.last, h.way⟩
 refine Classical.byContradiction fun hn => ?_
 have hp := h.pos
 have e : w.length - 1 = 0 := by omega
 have h2 := h.last
 rw [e] at h2
 rw [h2] at hs
 exact hk.ne hs
theorem check_one {F : List (List Int)} {bad : List Int} {lot : Int} (hk : BadOk F bad lot) {w : List Int} (h : IsWayP F bad lot w) : checkWaysR F bad lot [w] = 0 := by
 unfold checkWaysR
 rw [if_neg (by simp [badE_ok.2 hk]), if_neg (not_not_intro fun v hv => by rw [List.mem_singleton.1 hv]; exact h), if_pos]
 intro i hi j hj
 simp only [List.length_singleton] at hi
 omega
set_option maxHeartbeats 16000000 in
theorem TraceProved_spec (F : List (List Int)) (b nd c : Nat) (l1 l2 : List Nat) (hF : Lens F) (hb : b < 65536) (hn : nd < 65536) (hc : c < 256) (g1 : (∀ x ∈ l1, x < 256) ∧ l1.length ≤ maxLen) (g2 : (∀ x ∈ l2, x < 256) ∧ l2.length ≤ maxLen) : Fn Try.prog 7 [mixD F, u16 b, u16 nd, u8 c, u8s l1, u8s l2] (bool true) := by
 have hw := Works_spec
 by_cases hm : MixOk F
 case neg =>
  have hf := fine_no hF hm
  refine Fn.of_ex (cuts := []) tys hM Try.func7 rfl Try.call7 rfl ?_
  show exC Try.prog T [] _ false none 0 (entry 192 [mixD F, u16 b, u16 nd, u8 c, u8s l1, u8s l2]) (finQ T [ResultVar.tmp 12] _)
  conv => whnf
  repeat' first | ((first | refine Ob.a ?_ | refine Sp.tt ?_ | refine Sp.ff ?_ | refine Sp.yes ?_ | refine Sp.no ?_ | refine Sp.nyes ?_ | refine Sp.nno ?_ | refine Fi.a ?_);conv=>whnf) | ((first | refine Sp.ne ?_ ?_ | refine Sp.dec ?_ ?_ | refine Sp.ndec ?_ ?_ | refine Sp.mk ?_ ?_) <;> intro hc <;> conv => whnf) | (apply Cl.go;(conv=>whnf); (first | refine Ob.call (hf) ?_ | refine Ob.call (hw) ?_);(conv=>whnf)) | (refine Ob.b ?_;conv=>whnf)
  all_goals exact Lf
 have hf := fine_yes hF hm
 have hl10 := hm.l10
 have hL := Lots_spec F hm
 by_cases h0 : 0 < (lotsL F).length
 case neg =>
  have h0' : ((lotsL F).length : Int) = 0 := by omega
  generalize lotsL F = l at *
  refine Fn.of_ex (cuts := []) tys hM Try.func7 rfl Try.call7 rfl ?_
  show exC Try.prog T [] _ false none 0 (entry 192 [mixD F, u16 b, u16 nd, u8 c, u8s l1, u8s l2]) (finQ T [ResultVar.tmp 12] _)
  conv => whnf
  repeat' first | ((first | refine Ob.a ?_ | refine Sp.tt ?_ | refine Sp.ff ?_ | refine Sp.yes ?_ | refine Sp.no ?_ | refine Sp.nyes ?_ | refine Sp.nno ?_ | refine Fi.a ?_);conv=>whnf) | ((first | refine Sp.ne ?_ ?_ | refine Sp.dec ?_ ?_ | refine Sp.ndec ?_ ?_ | refine Sp.mk ?_ ?_) <;> intro hc <;> conv => whnf) | (apply Cl.go;(conv=>whnf); (first | refine Ob.call (hf) ?_ | refine Ob.call (hL) ?_ | refine Ob.call (hw) ?_);(conv=>whnf)) | (refine Ob.b ?_;conv=>whnf)
  all_goals first | (exfalso; omega) | exact Lf
 have hll : (lotsL F).length ≤ 10 := lst_ten hm _
 by_cases hs : (l1.length : Int) ≤ 20 ∧ (l2.length : Int) ≤ 20
 case neg =>
  generalize lotsL F = l at *
  refine Fn.of_ex (cuts := []) tys hM Try.func7 rfl Try.call7 rfl ?_
  show exC Try.prog T [] _ false none 0 (entry 192 [mixD F, u16 b, u16 nd, u8 c, u8s l1, u8s l2]) (finQ T [ResultVar.tmp 12] _)
  conv => whnf
  repeat' first | ((first | refine Ob.a ?_ | refine Sp.tt ?_ | refine Sp.ff ?_ | refine Sp.yes ?_ | refine Sp.no ?_ | refine Sp.nyes ?_ | refine Sp.nno ?_ | refine Fi.a ?_);conv=>whnf) | ((first | refine Sp.ne ?_ ?_ | refine Sp.dec ?_ ?_ | refine Sp.ndec ?_ ?_ | refine Sp.mk ?_ ?_) <;> intro hc <;> conv => whnf) | (apply Cl.go;(conv=>whnf); (first | refine Ob.call (hf) ?_ | refine Ob.call (hL) ?_ | refine Ob.call (hw) ?_);(conv=>whnf)) | (refine Ob.b ?_;conv=>whnf)
  all_goals first | (exfalso; omega) | exact Lf
 have hB := Bad_spec F hm b
 have hk := bad_ok hm (w := (c : Int)) h0 b
 have hlk := lot_ok (F := F) (w := (c : Int)) h0
 have hbl : (badL F b).length ≤ 10 := lst_ten hm _
 have hC := cut_spec F (badL F b) _ hk
 obtain ⟨d, d1, d2, d3⟩ := bandn_spec nd (lotI F c).toNat hn (by omega)
 have hown := Listed_spec d F.length (by omega) (by omega)
 have hors : rsL (listed d F.length) F.length := lst_rs _ _
 have hon : lotI F c ∉ listed d F.length := fun h => by
  obtain ⟨i, _, i2, e⟩ := mem_lst.1 h
  rw [d3, decide_eq_true (show i = (lotI F c).toNat by omega)] at i2
  simp at i2
 have hol : (listed d F.length).length ≤ 10 := lst_ten hm _
 have he := checkCut_list hk hors hon
 have he1 := CheckCutP_spec F (mixS hm) (badL F b) (by omega) (lotI F c) (listed d F.length) (by omega)
 have he2 : checkCutR F (badL F b) (lotI F c) (listed d F.length) = 0 → (cutI F (badL F b) (lotI F c)).length ≤ (listed d F.length).length := fun h => by rw [cut_len hk]; exact lam_cut hk h
 have hev : checkCutR F (badL F b) (lotI F c) (listed d F.length) = 0 ∨ checkCutR F (badL F b) (lotI F c) (listed d F.length) = 26 := by
  rw [he]; split
  ·exact .inr rfl
  ·exact .inl rfl
 have hA := Given_spec F hm (lotI F c) hlk.1 hlk.2.1 l1 (by omega) g1.1
 have hA2 := Given_spec F hm (lotI F c) hlk.1 hlk.2.1 l2 (by omega) g2.1
 obtain ⟨ga, gas⟩ := given_ok hm l1 hlk.1 hlk.2.1
 obtain ⟨gb, gbs⟩ := given_ok hm l2 hlk.1 hlk.2.1
 have hal := ga.len hm
 have hbl2 := gb.len hm
 have hap := ga.pos
 generalize given F (lotI F c) l1 = u at *
 generalize given F (lotI F c) l2 = v at *
 have hW := CheckWaysP_spec F (mixS hm) (badL F b) (by omega) (lotI F c) [u, v] (by simp) fun w hw => by
  rcases List.mem_cons.1 hw with e | hw
  ·rw [e]; omega
  ·rw [List.mem_singleton.1 hw]; omega
 have hWl := lists_spec [u, v]
 have hWv := checkWays_vals hk [u, v]
 have hW0 : checkWaysR F (badL F b) (lotI F c) [u, v] = 0 → 2 ≤ (cutI F (badL F b) (lotI F c)).length := fun h => by rw [cut_len hk]; exact ways_le hk h
 have hH := Has_spec (badL F b) (u.getD (Int.toNat 0) 0) (by omega)
 have hcl : (cutI F (badL F b) (lotI F c)).length ≤ 10 := by rw [cut_len hk]; have := lam_bad hk; omega
 have hone : u.getD 0 0 ∈ badL F b → checkWaysR F (badL F b) (lotI F c) [u] = 0 ∧ ∃ j, j < u.length - 1 ∧ u.getD j 0 ∈ cutI F (badL F b) (lotI F c) := fun h => by
  have hway := given_way hk ga gas h
  refine ⟨check_one hk hway, ?_⟩
  obtain ⟨x, hx, h2⟩ := way_hit hk hway (cut_cut hk) (decide_eq_false (by rw [Int.toNat_of_nonneg hk.l0]; exact cut_not hk))
  obtain ⟨j, hj, rfl⟩ := mem_getD (d := 0) hx
  rw [cutL_len] at hj
  refine ⟨j, hj, ?_⟩
  rw [cutL_getD hj] at h2
  have := of_decide_eq_true h2
  rwa [Int.toNat_of_nonneg (ga.rng j (by omega)).1] at this
 have hW1 := CheckWaysP_spec F (mixS hm) (badL F b) (by omega) (lotI F c) [u] (by simp) fun w hw => by rw [List.mem_singleton.1 hw]; omega
 have hWl1 := lists_spec [u]
 have hHc := fun (y : Int) => Has_spec (cutI F (badL F b) (lotI F c)) y (by omega)
 have hp2 : 1 * (2 : Int) ^ (lotI F c).toNat ≤ 1024 := by rw [Int.one_mul]; exact pow1024 (by omega)
 have hp1 : 0 ≤ 1 * (2 : Int) ^ (lotI F c).toNat := by rw [Int.one_mul]; exact Int.pow_nonneg (by omega)
 have hlo : lotI F c = (lotsL F).getD ((c : Int) % (lotsL F).length).toNat 0 := rfl
 generalize checkCutR F (badL F b) (lotI F c) (listed d F.length) = e at *
 generalize listed d F.length = own at *
 generalize checkWaysR F (badL F b) (lotI F c) [u, v] = f at *
 have hn2 : (if f = 0 then (([u, v] : List (List Int)).length : Int) else 0) = if f = 0 then 2 else 0 := rfl
 rw [hn2] at hW
 generalize checkWaysR F (badL F b) (lotI F c) [u] = g at *
 generalize cutI F (badL F b) (lotI F c) = cu at *
 clear hk he hn2 hon hors d3 gas gbs ga gb
 rw [hlo] at hlk d2 hC he1 hW hA hA2 hW1 hp1 hp2
 rw [← d2] at hown
 clear hlo
 generalize lotsL F = l at *
 generalize badL F b = bd at *
 have hc0 := Int.emod_nonneg (c : Int) (show (l.length : Int) ≠ 0 by omega)
 have hc1 := Int.emod_lt_of_pos (c : Int) (show (0 : Int) < l.length by omega)
 refine Fn.of_ex (cuts := [12]) tys hM Try.func7 rfl Try.call7 rfl ?_
 show exC Try.prog T [12] _ false none 0 (entry 192 [mixD F, u16 b, u16 nd, u8 c, u8s l1, u8s l2]) (finQ T [ResultVar.tmp 12] _)
 conv => whnf
 repeat' first | ((first | refine Ob.a ?_ | refine Sp.tt ?_ | refine Sp.ff ?_ | refine Sp.yes ?_ | refine Sp.no ?_ | refine Sp.nyes ?_ | refine Sp.nno ?_ | refine Fi.a ?_);conv=>whnf) | ((first | refine Sp.ne ?_ ?_ | refine Sp.dec ?_ ?_ | refine Sp.ndec ?_ ?_ | refine Sp.mk ?_ ?_) <;> intro hc <;> conv => whnf) | (apply Cl.go;(conv=>whnf); (first | refine Ob.call (hf) ?_ | refine Ob.call (hL) ?_ | refine Ob.call (hB) ?_ | refine Ob.call (hC) ?_ | refine Ob.call (hown) ?_ | refine Ob.call (he1) ?_ | refine Ob.call (hA) ?_ | refine Ob.call (hA2) ?_ | refine Ob.call (hWl) ?_ | refine Ob.call (hW) ?_);(conv=>whnf)) | (refine Ob.b ?_;conv=>whnf)
 refine Ct.go 192 Unit (fun _ => ⟨78, [(13, .d (ints bd)), (15, .d (int (l.getD ((c : Int) % l.length).toNat 0))), (16, .d (ints cu)), (20, .d (ints u)), (6, .ref 0 0)], [(0, .cs true 1 fun _ => .d (rowsD F))], some 0⟩) ?_ ?_ rfl (fun _ => rfl)
 ·clear hone hHc hW1 hWl1
  conv => whnf
  repeat' first | ((first | refine Ob.a ?_ | refine Sp.tt ?_ | refine Sp.ff ?_ | refine Sp.yes ?_ | refine Sp.no ?_ | refine Sp.nyes ?_ | refine Sp.nno ?_ | refine Fi.a ?_);conv=>whnf) | ((first | refine Sp.ne ?_ ?_ | refine Sp.dec ?_ ?_ | refine Sp.ndec ?_ ?_ | refine Sp.mk ?_ ?_) <;> intro hc <;> conv => whnf) | (refine Ob.b ?_;conv=>whnf)
  all_goals first | (exfalso; omega) | exact ⟨rfl, (), Lf⟩ | (exfalso; rcases hev with h | h <;> rcases hWv with h2 | h2 | h2 <;> simp_all <;> omega)
 ·intro _
  clear he1 hW hev hWv hW0 he2
  have hone' : u.getD (Int.toNat 0) 0 ∈ bd → g = 0 ∧ ∃ j, j < u.length - 1 ∧ u.getD j 0 ∈ cu := hone
  clear hone hA hA2 hown hC hL hB hf hWl
  by_cases hin : u.getD (Int.toNat 0) 0 ∈ bd
  ·obtain ⟨hg, j, hj, hjc⟩ := hone' hin
   rw [decide_eq_true hin] at hH
   subst hg
   clear hone'
   conv => whnf
   repeat' first | ((first | refine Ob.a ?_ | refine Sp.tt ?_ | refine Sp.ff ?_ | refine Sp.yes ?_ | refine Sp.no ?_ | refine Sp.nyes ?_ | refine Sp.nno ?_ | refine Fi.a ?_);conv=>whnf) | ((first | refine Sp.ne ?_ ?_ | refine Sp.dec ?_ ?_ | refine Sp.ndec ?_ ?_ | refine Sp.mk ?_ ?_) <;> intro hc <;> conv => whnf) | (apply Cl.go;(conv=>whnf); (first | refine Ob.call (hH) ?_);(conv=>whnf)) | (refine Ob.b ?_;conv=>whnf)
   all_goals try (exfalso; omega)
   refine Lp.snap [0, 1, 2, 3, 4, 5, 6, 12, 13, 15, 16, 20, 26, 27, 170, 171, 172, 173, 174, 175, 176, 177, 178, 179, 180, 181, 182, 183, 184, 185, 186, 187, 188, 189, 190, 191] 40 ?_
   (conv=>whnf)
   refine LpB.go 192 ({q : Int × Bool // (0 ≤ q.1 ∧ q.1 ≤ u.length - 1) ∧ (q.2 = false → q.1 ≤ j)}) 0 (fun ⟨(i, t), _⟩ nx => ([(25, .d (int i)), (24, .d (bool t))], [])) (fun p => (u.length - p.1.1).toNat) (⟨(0, false), ⟨by simp, by simp only; omega⟩, fun _ => by simp⟩) ?_ ?_
   ·rintro ⟨⟨i, t⟩, ⟨i0, i1⟩, ht⟩
    simp only at i0 i1 ht
    by_cases hi : i + 1 < u.length
    ·have hHc := hHc (u.getD i.toNat 0)
     cases t with
     | true =>
      clear hW1 hWl1 hHc
      conv => whnf
      repeat' first | ((first | refine Ob.a ?_ | refine Sp.tt ?_ | refine Sp.ff ?_ | refine Sp.yes ?_ | refine Sp.no ?_ | refine Sp.nyes ?_ | refine Sp.nno ?_ | refine Fi.a ?_);conv=>whnf) | (refine Sp.byes ?_;conv=>whnf) | (refine Sp.bno ?_;conv=>whnf) | ((first | refine Sp.ne ?_ ?_ | refine Sp.dec ?_ ?_ | refine Sp.ndec ?_ ?_ | refine Sp.mk ?_ ?_) <;> intro hc <;> conv => whnf) | (refine Ob.b ?_;conv=>whnf)
      all_goals first | (exfalso; omega) | exact ⟨rfl, ⟨(i + 1, true), ⟨by simp only; omega, by simp only; omega⟩, fun e => (by cases e)⟩, Lf, by simp only; omega⟩
     | false =>
      have ht := ht rfl
      clear hW1 hWl1
      by_cases hmem : u.getD i.toNat 0 ∈ cu
      ·rw [decide_eq_true hmem] at hHc
       conv => whnf
       repeat' first | ((first | refine Ob.a ?_ | refine Sp.tt ?_ | refine Sp.ff ?_ | refine Sp.yes ?_ | refine Sp.no ?_ | refine Sp.nyes ?_ | refine Sp.nno ?_ | refine Fi.a ?_);conv=>whnf) | (refine Sp.byes ?_;conv=>whnf) | (refine Sp.bno ?_;conv=>whnf) | ((first | refine Sp.ne ?_ ?_ | refine Sp.dec ?_ ?_ | refine Sp.ndec ?_ ?_ | refine Sp.mk ?_ ?_) <;> intro hc <;> conv => whnf) | (apply Cl.go;(conv=>whnf); (first | refine Ob.call (hHc) ?_);(conv=>whnf)) | (refine Ob.b ?_;conv=>whnf)
       all_goals first | (exfalso; omega) | exact ⟨rfl, ⟨(i + 1, true), ⟨by simp only; omega, by simp only; omega⟩, fun e => (by cases e)⟩, Lf, by simp only; omega⟩
      ·rw [decide_eq_false hmem] at hHc
       have hne : ¬ i = j := fun e => hmem (by rw [e, Int.toNat_natCast]; exact hjc)
       conv => whnf
       repeat' first | ((first | refine Ob.a ?_ | refine Sp.tt ?_ | refine Sp.ff ?_ | refine Sp.yes ?_ | refine Sp.no ?_ | refine Sp.nyes ?_ | refine Sp.nno ?_ | refine Fi.a ?_);conv=>whnf) | (refine Sp.byes ?_;conv=>whnf) | (refine Sp.bno ?_;conv=>whnf) | ((first | refine Sp.ne ?_ ?_ | refine Sp.dec ?_ ?_ | refine Sp.ndec ?_ ?_ | refine Sp.mk ?_ ?_) <;> intro hc <;> conv => whnf) | (apply Cl.go;(conv=>whnf); (first | refine Ob.call (hHc) ?_);(conv=>whnf)) | (refine Ob.b ?_;conv=>whnf)
       all_goals first | (exfalso; omega) | exact ⟨rfl, ⟨(i + 1, false), ⟨by simp only; omega, by simp only; omega⟩, fun _ => by simp only; omega⟩, Lf, by simp only; omega⟩
    ·cases t with
     | false => have := ht rfl; exfalso; omega
     | true =>
      clear hHc
      conv => whnf
      repeat' first | ((first | refine Ob.a ?_ | refine Sp.tt ?_ | refine Sp.ff ?_ | refine Sp.yes ?_ | refine Sp.no ?_ | refine Sp.nyes ?_ | refine Sp.nno ?_ | refine Fi.a ?_);conv=>whnf) | (refine Sp.byes ?_;conv=>whnf) | (refine Sp.bno ?_;conv=>whnf) | ((first | refine Sp.ne ?_ ?_ | refine Sp.dec ?_ ?_ | refine Sp.ndec ?_ ?_ | refine Sp.mk ?_ ?_) <;> intro hc <;> conv => whnf) | (apply Cl.go;(conv=>whnf); (first | refine Ob.call (hWl1) ?_ | refine Ob.call (hW1) ?_ | refine Ob.call (hw) ?_);(conv=>whnf)) | (refine Ob.b ?_;conv=>whnf)
      all_goals first | (exfalso; omega) | (rename_i hq; exact absurd rfl hq) | exact Lf
   ·exact Lf
  ·rw [decide_eq_false hin] at hH
   clear hone' hW1 hWl1 hHc
   conv => whnf
   repeat' first | ((first | refine Ob.a ?_ | refine Sp.tt ?_ | refine Sp.ff ?_ | refine Sp.yes ?_ | refine Sp.no ?_ | refine Sp.nyes ?_ | refine Sp.nno ?_ | refine Fi.a ?_);conv=>whnf) | ((first | refine Sp.ne ?_ ?_ | refine Sp.dec ?_ ?_ | refine Sp.ndec ?_ ?_ | refine Sp.mk ?_ ?_) <;> intro hc <;> conv => whnf) | (apply Cl.go;(conv=>whnf); (first | refine Ob.call (hH) ?_ | refine Ob.call (hw) ?_);(conv=>whnf)) | (refine Ob.b ?_;conv=>whnf)
   all_goals first | (exfalso; omega) | exact Lf
end Go.Px.Try

namespace Go.Proofs.Ytbgpdcbljjdjnaa.traceProvedDone
open Go.ChangeShapes Go.WideShapes Go.ChangeAt Go.RowKit
open Go.Px
open Go.Px.Try (own laidOut)
set_option maxRecDepth 100000 in
theorem lifted (os : Os) (started : os.Started) (H : Type) (enc : TypeId × Value → H) :
  ReturnsInHanded {} Try.checked os 7 .any (Rows.traceProvedSpec.pre6 enc Try.prog Try.f7 Rows.traceProvedRow.domain false) (Rows.traceProvedSpec.post enc Try.prog Try.f7 false true false false) := by
 refine returnsInHanded_of_change (C := Try.checked) own started (by kernel_rfl) Try.func7
  (ChangeSpec.witness6 (enc := enc) (C := Try.checked) false ⟨#[], #[.agg #[.slice none 0 0], .int .u16 0, .int .u16 0, .int .u8 0, .slice none 0 0, .slice none 0 0], []⟩ 8 (by kernel_rfl) (by kernel_rfl) (by kernel_rfl) (by kernel_rfl)) ?_
 intro W base args ds gs before hval0 hW hcnd _
 have hval : ∀ (j : Nat) t v, Try.f7.params[j]? = some t → args[j]? = some v → Value.okWide Try.prog W .any base t v := hval0
 have hW' := hW
 obtain ⟨p, q, hA0, hV, rfl, hfz, hnd⟩ := hW
 have hA : DataW.TrodAll enc Try.prog W 0 (fun _ => true) true Try.f7.params.toList args.toList ds p := hA0
 rw [Try.params7] at hA hval
 obtain ⟨v0, vs0, d0, ds0, p0, q0, hargs, rfl, rfl, h0, r0⟩ := trodAll_cons hA
 obtain ⟨v1, vs1, d1, ds1, p1, q1, rfl, rfl, rfl, h1, r1⟩ := trodAll_cons r0
 obtain ⟨v2, vs2, d2, ds2, p2, q2, rfl, rfl, rfl, h2, r2⟩ := trodAll_cons r1
 obtain ⟨v3, vs3, d3, ds3, p3, q3, rfl, rfl, rfl, h3, r3⟩ := trodAll_cons r2
 obtain ⟨v4, vs4, d4, ds4, p4, q4, rfl, rfl, rfl, h4, r4⟩ := trodAll_cons r3
 obtain ⟨v5, vs5, d5, ds5, p5, q5, rfl, rfl, rfl, h5, r5⟩ := trodAll_cons r4
 obtain ⟨rfl, rfl, rfl⟩ := trodAll_nil r5
 obtain rfl : args = #[v0, v1, v2, v3, v4, v5] := by cases args; simp_all
 obtain ⟨rfl, rfl⟩ := trodVars_none hV
 have lt0 : ∀ x ∈ p0, x.block < W.heap.size := by have k := h0; obtain ⟨m, hm⟩ := k; exact DataW.trod_lt m _ _ _ hm
 obtain ⟨x0, g0, e0⟩ := Go.Px.Try.mix_arg h0 (hval 0 24 v0 rfl rfl)
 have lt1 : ∀ x ∈ p1, x.block < W.heap.size := by have k := h1; obtain ⟨m, hm⟩ := k; exact DataW.trod_lt m _ _ _ hm
 obtain ⟨x1, g1, e1⟩ := Go.Px.Try.u16_arg h1 (hval 1 51 v1 rfl rfl)
 have lt2 : ∀ x ∈ p2, x.block < W.heap.size := by have k := h2; obtain ⟨m, hm⟩ := k; exact DataW.trod_lt m _ _ _ hm
 obtain ⟨x2, g2, e2⟩ := Go.Px.Try.u16_arg h2 (hval 2 51 v2 rfl rfl)
 have lt3 : ∀ x ∈ p3, x.block < W.heap.size := by have k := h3; obtain ⟨m, hm⟩ := k; exact DataW.trod_lt m _ _ _ hm
 obtain ⟨x3, g3, e3⟩ := Go.Px.Try.u8_arg h3 (hval 3 5 v3 rfl rfl)
 have lt4 : ∀ x ∈ p4, x.block < W.heap.size := by have k := h4; obtain ⟨m, hm⟩ := k; exact DataW.trod_lt m _ _ _ hm
 obtain ⟨x4, g4, e4⟩ := Go.Px.Try.u8s_arg h4 (hval 4 52 v4 rfl rfl)
 have lt5 : ∀ x ∈ p5, x.block < W.heap.size := by have k := h5; obtain ⟨m, hm⟩ := k; exact DataW.trod_lt m _ _ _ hm
 obtain ⟨x5, g5, e5⟩ := Go.Px.Try.u8s_arg h5 (hval 5 52 v5 rfl rfl)
 clear hA0 hval0
 refine ((Go.Px.Try.TraceProved_spec x0 x1 x2 x3 x4 x5 g0 g1 g2 g3 g4 g5).2 (All W) W [v0, v1, v2, v3, v4, v5] (fun _ h => h) ⟨e0, e1, e2, e3, e4, e5, trivial⟩).mono fun e W' ⟨v, S', he, hr, _, _, bel⟩ => ?_
 obtain rfl : v = .bool true := hr
 subst he
 exact ⟨_, rfl, _, _, _, [], _, [], hW', trodAll_mk1 (shut_bool Try.underlying4 _), (trodAll_cons_mk (Below.trod laidOut (by kernel_rfl) (of_decide_eq_true (by kernel_rfl)) h0 bel lt0) (trodAll_cons_mk (Below.trod laidOut (by kernel_rfl) (of_decide_eq_true (by kernel_rfl)) h1 bel lt1) (trodAll_cons_mk (Below.trod laidOut (by kernel_rfl) (of_decide_eq_true (by kernel_rfl)) h2 bel lt2) (trodAll_cons_mk (Below.trod laidOut (by kernel_rfl) (of_decide_eq_true (by kernel_rfl)) h3 bel lt3) (trodAll_cons_mk (Below.trod laidOut (by kernel_rfl) (of_decide_eq_true (by kernel_rfl)) h4 bel lt4) (trodAll_cons_mk (Below.trod laidOut (by kernel_rfl) (of_decide_eq_true (by kernel_rfl)) h5 bel lt5) trodAll_mk0)))))), rfl, bel.frame _, fun h => by cases h⟩
theorem over : Rows.traceProvedRow.holds Try.pinned (OpenSpec.ofChange Rows.traceProvedSpec) :=
 OpenClaim.holds_of_wide 7 Try.f7 rfl rfl rfl rfl rfl rfl rfl ⟨rfl, rfl, rfl, rfl, rfl⟩ rfl rfl rfl rfl rfl (by kernel_rfl) Try.func7 (by kernel_rfl)
  (of_decide_eq_true (by kernel_rfl)) (by unfold Func.isWrapper; first | (rw [if_pos (by decide +kernel)]; kernel_rfl) | (rw [if_neg (by decide +kernel)]; exact ⟨rfl, rfl⟩))
  (fun os started H enc _ => lifted os started H enc)
theorem proved : Rows.TraceProvedSaid := over
#print axioms proved
end Go.Proofs.Ytbgpdcbljjdjnaa.traceProvedDone
