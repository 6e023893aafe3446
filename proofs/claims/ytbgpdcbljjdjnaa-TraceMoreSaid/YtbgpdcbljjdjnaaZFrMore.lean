/- The statement TraceMore: with one more bad sack a shortest cut is no shorter, and at most one longer; if the lot was mixed of one node more it is no shorter; nodes with a greater index change nothing. Conditions: none. -/
import Derived.Test.YtbgpdcbljjdjnaaJ7
import Derived.Test.YtbgpdcbljjdjnaaJ6
import Derived.Test.YtbgpdcbljjdjnaaRows
set_option linter.unusedVariables false
set_option linter.unusedSimpArgs false
/-! LwLot -/
namespace Go.Px.Try
open Go Go.Proofs Go.Px
set_option maxRecDepth 100000
/-- A lot, by a number. -/
def lotI (F : List (List Int)) (w : Int) : Int := (lotsL F).getD (w % (lotsL F).length).toNat 0
theorem lot_ok {F : List (List Int)} {w : Int} (h : 0 < (lotsL F).length) : 0 ≤ lotI F w ∧ lotI F w < F.length ∧ frm F (lotI F w).toNat ≠ [] := by
 have h1 := Int.emod_nonneg w (show ((lotsL F).length : Int) ≠ 0 by omega)
 have h2 := Int.emod_lt_of_pos w (show (0 : Int) < (lotsL F).length by omega)
 have hmem := getD_mem (l := lotsL F) (i := (w % (lotsL F).length).toNat) (by omega) 0
 obtain ⟨i, i1, i2, e⟩ := mem_lst.1 hmem
 change lotI F w = (i : Int) at e
 rw [e]
 refine ⟨by omega, by omega, ?_⟩
 rw [Int.toNat_natCast]
 exact of_decide_eq_false (p := frm F i = []) (by simpa using i2 : sackB F i = false)
theorem bad_ok {F : List (List Int)} (hm : MixOk F) {w : Int} (h : 0 < (lotsL F).length) (b : Nat) : BadOk F (badL F b) (lotI F w) := by
 obtain ⟨h1, h2, h3⟩ := lot_ok (w := w) h
 refine ⟨hm, h1, h2, lst_rs _ _, h3, fun x hx => ?_⟩
 obtain ⟨i, _, i2, rfl⟩ := mem_lst.1 hx
 rw [Bool.and_eq_true] at i2
 rw [Int.toNat_natCast]
 exact of_decide_eq_true i2.1
theorem checkCut_list {F : List (List Int)} {bad : List Int} {lot : Int} (hk : BadOk F bad lot) {L : List Int} (hL : rsL L F.length) (hl : lot ∉ L) : checkCutR F bad lot L = if fr F (inZ bad) (inZ L) lot.toNat = true then 26 else 0 := by
 unfold checkCutR
 rw [if_neg (by simp [badE_ok.2 hk]), if_neg fun h => h.elim (fun h => h hL) hl]
theorem checkWays_vals {F : List (List Int)} {bad : List Int} {lot : Int} (hk : BadOk F bad lot) (ws : List (List Int)) : checkWaysR F bad lot ws = 0 ∨ checkWaysR F bad lot ws = 16 ∨ checkWaysR F bad lot ws = 26 := by
 unfold checkWaysR
 rw [if_neg (by simp [badE_ok.2 hk])]
 split
 ·exact .inr (.inr rfl)
 ·split
  ·exact .inl rfl
  ·exact .inr (.inl rfl)
end Go.Px.Try

/-! Tq3 -/
namespace Go.Px.Try
open Go Go.Proofs Go.Px
/-- With more that is bad, and with more to come from, no less is free. -/
theorem fr_mono {F G : List (List Int)} (hF : MixOk F) (hG : MixOk G) {B B' W : Nat → Bool} {n : Nat} (hn : n ≤ F.length) (hn' : n ≤ G.length) (hB : ∀ i, i < n → B i = true → B' i = true) (hs : ∀ i, i < n → (frm F i = [] → frm G i = [])) (hf : ∀ i, i < n → ∀ k ∈ frm F i, k ∈ frm G i) : ∀ i, i < n → fr F B W i = true → fr G B' W i = true := by
 intro i
 induction i using Nat.strongRecOn with
 | ind i ih =>
  intro hi h
  obtain ⟨h1, h2⟩ := (fr_true hF (by omega)).1 h
  refine (fr_true hG (by omega)).2 ⟨h1, ?_⟩
  rcases h2 with ⟨a, b⟩ | ⟨k, hk, h3⟩
  ·exact .inl ⟨hs i hi a, hB i hi b⟩
  ·have := (hF.ris i (by omega)).1 _ hk
   exact .inr ⟨k, hf i hi _ hk, ih k (by omega) (by omega) h3⟩
theorem fr_below {F : List (List Int)} (h : MixOk F) {B W W' : Nat → Bool} : ∀ i, i < F.length → (∀ k, k ≤ i → W k = W' k) → fr F B W i = fr F B W' i := by
 intro i
 induction i using Nat.strongRecOn with
 | ind i ih =>
  intro hi hW
  rw [fr_eq h _ _ hi, fr_eq h _ _ hi, hW i (Nat.le_refl _)]
  congr 1
  split
  ·rfl
  ·rw [Bool.eq_iff_iff, List.any_eq_true, List.any_eq_true]
   constructor <;> (rintro ⟨k, hk, h2⟩; have := (h.ris i hi).1 k hk; refine ⟨k, hk, ?_⟩)
   ·rw [← ih k.toNat (by omega) (by omega) fun j hj => hW j (by omega)]; exact h2
   ·rw [ih k.toNat (by omega) (by omega) fun j hj => hW j (by omega)]; exact h2
theorem inS_lot {F : List (List Int)} {bad : List Int} {lot : Int} (hk : BadOk F bad lot) : inS (cutP F bad lot) lot.toNat = false := inS_not.2 fun h => ((cut_inv hk).1.lt _ h).2 rfl
theorem cut_lam {F : List (List Int)} {bad : List Int} {lot : Int} (hk : BadOk F bad lot) : cntS (inS (cutP F bad lot)) F.length = lam0 F bad lot := (cut_inv hk).2.cnt
/-- A cut of the one is a cut of the other one. -/
theorem lam_mono {F G : List (List Int)} {bad bad' : List Int} {lot : Int} (hk : BadOk F bad lot) (hk' : BadOk G bad' lot) (hl : F.length = G.length) (h : ∀ W : Nat → Bool, W lot.toNat = false → fr G (inZ bad') W lot.toNat = false → fr F (inZ bad) W lot.toNat = false) : lam0 F bad lot ≤ lam0 G bad' lot := by
 have h1 := lam_low hk (inS_lot hk') (h _ (inS_lot hk') (cut_inv hk').2.cut)
 rw [hl, cut_lam hk'] at h1
 omega
theorem cnt_le_add {A B : Nat → Bool} {s : Nat} (h : ∀ i, B i = true → A i = true ∨ i = s) (n : Nat) : cntS B n ≤ cntS A n + 1 := by
 refine Int.le_trans ?_ (cnt_mark_le A s n)
 refine cnt_mono fun i _ hi => ?_
 unfold mark
 rcases h i hi with h | h
 ·split
  ·rfl
  ·exact h
 ·rw [if_pos h]
/-- With one more bad sack at most one node more is needed. -/
theorem lam_add {F : List (List Int)} {bad bad' : List Int} {lot : Int} {s : Nat} (hk : BadOk F bad lot) (hk' : BadOk F bad' lot) (hs : frm F s = []) (h : ∀ i : Nat, (i : Int) ∈ bad' → (i : Int) ∈ bad ∨ i = s) : lam0 F bad' lot ≤ lam0 F bad lot + 1 := by
 have hlt := hkl hk
 have hsl : s ≠ lot.toNat := fun e => hk.ne (by rw [← e]; exact hs)
 have hl : mark (inS (cutP F bad lot)) s lot.toNat = false := by
  unfold mark; rw [if_neg fun e => hsl e.symm]; exact inS_lot hk
 have hf : fr F (inZ bad') (mark (inS (cutP F bad lot)) s) lot.toNat = false := by
  cases e : fr F (inZ bad') (mark (inS (cutP F bad lot)) s) lot.toNat with
  | false => rfl
  | true =>
   exfalso
   have key : ∀ i, i < F.length → fr F (inZ bad') (mark (inS (cutP F bad lot)) s) i = true → fr F (inZ bad) (inS (cutP F bad lot)) i = true := by
    intro i
    induction i using Nat.strongRecOn with
    | ind i ih =>
     intro hi hh
     obtain ⟨h1, h2⟩ := (fr_true hk.mix hi).1 hh
     unfold mark at h1
     split at h1
     ·cases h1
     ·rename_i hne
      refine (fr_true hk.mix hi).2 ⟨h1, ?_⟩
      rcases h2 with ⟨a, b⟩ | ⟨k, hkk, h3⟩
      ·refine .inl ⟨a, ?_⟩
       rcases h i (of_decide_eq_true b) with h4 | h4
       ·exact decide_eq_true h4
       ·exact absurd h4 hne
      ·have := (hk.mix.ris i hi).1 _ hkk
       exact .inr ⟨k, hkk, ih k (by omega) (by omega) h3⟩
   have := key _ hlt e
   rw [(cut_inv hk).2.cut] at this; cases this
 have h1 := lam_low hk' hl hf
 have h2 := cnt_mark_le (inS (cutP F bad lot)) s F.length
 rw [cut_lam hk] at h2
 omega
/-- Two lists, each of which is a shortest cut and comes before all that are not it, are one. -/
theorem first_uniq {F : List (List Int)} {bad : Nat → Bool} {lot m : Nat} {o p : List Nat} (ho : o.Pairwise (· < ·)) (hp : p.Pairwise (· < ·)) (hmo : MinCut F bad lot m (inS o)) (hmp : MinCut F bad lot m (inS p))
  (no : ∀ j, j < F.length → j ≠ lot → j ∉ o → ¬ ∃ X, MinCut F bad lot m X ∧ (∀ k ∈ o, k < j → X k = true) ∧ X j = true)
  (np : ∀ j, j < F.length → j ≠ lot → j ∉ p → ¬ ∃ X, MinCut F bad lot m X ∧ (∀ k ∈ p, k < j → X k = true) ∧ X j = true) : o = p := by
 have hmem : ∀ j, j ∈ o ↔ j ∈ p := by
  intro j
  induction j using Nat.strongRecOn with
  | ind j ih =>
   constructor
   ·intro h
    refine Classical.byContradiction fun hn => ?_
    have h1 := hmo.in' j (inS_iff.2 h)
    exact np j h1.1 h1.2 hn ⟨inS o, hmo, fun k hk hkj => inS_iff.2 ((ih k hkj).2 hk), inS_iff.2 h⟩
   ·intro h
    refine Classical.byContradiction fun hn => ?_
    have h1 := hmp.in' j (inS_iff.2 h)
    exact no j h1.1 h1.2 hn ⟨inS p, hmp, fun k hk hkj => inS_iff.2 ((ih k hkj).1 hk), inS_iff.2 h⟩
 have e : zl o = zl p := by
  have z1 : ∀ l : List Nat, l.Pairwise (· < ·) → (zl l).Pairwise (· < ·) := fun l h => by unfold zl; rw [List.pairwise_map]; exact h.imp fun h => by omega
  have z2 : ∀ l : List Nat, (∀ k ∈ l, k < F.length) → ∀ x ∈ zl l, 0 ≤ x ∧ x < (F.length : Int) := fun l h x hx => by
   obtain ⟨k, hk, rfl⟩ := List.mem_map.1 hx
   have := h k hk; omega
  rw [lst_of_inc (z2 o fun k hk => (hmo.in' k (inS_iff.2 hk)).1) (z1 o ho), lst_of_inc (z2 p fun k hk => (hmp.in' k (inS_iff.2 hk)).1) (z1 p hp)]
  refine lst_congr fun i _ => ?_
  have hz : ∀ l : List Nat, ((i : Int) ∈ zl l) ↔ i ∈ l := fun l => by
   unfold zl
   rw [List.mem_map]
   refine ⟨fun ⟨k, hk, e⟩ => ?_, fun h => ⟨i, h, rfl⟩⟩
   have e2 : k = i := by omega
   rw [← e2]; exact hk
  rw [decide_eq_decide, hz, hz, hmem]
 have hinj : ∀ l l' : List Nat, zl l = zl l' → l = l' := by
  intro l
  induction l with
  | nil => intro l' h; cases l' with
   | nil => rfl
   | cons b l' => exact absurd (congrArg List.length h) (by simp [zl])
  | cons a l ih => intro l' h; cases l' with
   | nil => exact absurd (congrArg List.length h) (by simp [zl])
   | cons b l' =>
    have h1 : (a : Int) = b ∧ zl l = zl l' := List.cons.inj h
    rw [ih l' h1.2, show a = b by omega]
 exact hinj _ _ e
theorem fr_alike {F G : List (List Int)} (hF : MixOk F) (hG : MixOk G) {B B' W : Nat → Bool} {n : Nat} (hn : n ≤ F.length) (hn' : n ≤ G.length) (hf : ∀ i, i < n → frm F i = frm G i) (hB : ∀ i, i < n → frm F i = [] → B i = B' i) : ∀ i, i < n → fr F B W i = fr G B' W i := by
 intro i
 induction i using Nat.strongRecOn with
 | ind i ih =>
  intro hi
  rw [fr_eq hF _ _ (by omega), fr_eq hG _ _ (by omega), ← hf i hi]
  congr 1
  by_cases he : frm F i = []
  ·rw [if_pos he, if_pos he, hB i hi he]
  ·rw [if_neg he, if_neg he, Bool.eq_iff_iff, List.any_eq_true, List.any_eq_true]
   constructor <;> (rintro ⟨k, hk, h2⟩; have := (hF.ris i (by omega)).1 k hk; refine ⟨k, hk, ?_⟩)
   ·rw [← ih k.toNat (by omega) (by omega)]; exact h2
   ·rw [ih k.toNat (by omega) (by omega)]; exact h2
theorem cnt_more (A : Nat → Bool) (n : Nat) : ∀ m, cntS A n ≤ cntS A (n + m)
 | 0 => Int.le_refl _
 | m + 1 => by
  have := cnt_more A n m
  rw [← Nat.add_assoc]
  show _ ≤ sm _ (n + m + 1)
  rw [sm]
  have h : cntS A (n + m) = sm (fun i => if A i = true then 1 else 0) (n + m) := rfl
  rw [← h]
  split <;> omega
theorem cnt_end {A : Nat → Bool} {n : Nat} (h : ∀ i, A i = true → i < n) : ∀ m, cntS A (n + m) = cntS A n
 | 0 => rfl
 | m + 1 => by
  have ih := cnt_end h m
  rw [← Nat.add_assoc]
  show sm _ (n + m + 1) = _
  rw [sm, if_neg fun e => by have := h _ e; omega, Int.add_zero]
  exact ih
/-- Nodes behind the lot change nothing. -/
theorem cut_trunc {F G : List (List Int)} {bad early : List Int} {lot : Int} (hk : BadOk F bad lot) (hk' : BadOk G early lot) (hG : G.length = lot.toNat + 1) (hf : ∀ i, i < G.length → frm F i = frm G i) (he : ∀ i : Nat, i < lot.toNat → ((i : Int) ∈ early ↔ (i : Int) ∈ bad)) : cutI G early lot = cutI F bad lot := by
 have hlt := hkl hk
 have hle : G.length ≤ F.length := by omega
 have hal : ∀ W, fr F (inZ bad) W lot.toNat = fr G (inZ early) W lot.toNat := fun W => by
  refine fr_alike hk.mix hk'.mix (n := G.length) hle (Nat.le_refl _) hf (fun i hi h0 => ?_) _ (by omega)
  by_cases e : i = lot.toNat
  ·rw [e] at h0; exact absurd h0 hk.ne
  ·unfold inZ
   rw [decide_eq_decide]; exact (he i (by omega)).symm
 have hFG : F.length = G.length + (F.length - G.length) := by omega
 have h1 : lam0 G early lot ≤ lam0 F bad lot := by
  have a := lam_low hk' (inS_lot hk) (by rw [← hal]; exact (cut_inv hk).2.cut)
  have b := cnt_more (inS (cutP F bad lot)) G.length (F.length - G.length)
  rw [← hFG, cut_lam hk] at b
  omega
 have h2 : lam0 F bad lot ≤ lam0 G early lot := by
  have a := lam_low hk (inS_lot hk') (by rw [hal]; exact (cut_inv hk').2.cut)
  have b := cnt_end (A := inS (cutP G early lot)) (n := G.length) (fun i hi => ((cut_inv hk').2.in' i hi).1) (F.length - G.length)
  rw [← hFG, cut_lam hk'] at b
  omega
 have hm : lam0 G early lot = lam0 F bad lot := by omega
 have toG : ∀ X, MinCut F (inZ bad) lot.toNat (lam0 F bad lot) X → MinCut G (inZ early) lot.toNat (lam0 F bad lot) X := fun X hX => by
  have hin : ∀ i, X i = true → i < G.length := fun i hi => by
   refine Classical.byContradiction fun hn => ?_
   have h3 := hX.in' i hi
   have h4 := cnt_rem h3.1 hi
   rw [hX.cnt] at h4
   have hXl : X lot.toNat = false := by
    cases e : X lot.toNat with
    | false => rfl
    | true => exact absurd rfl (hX.in' _ e).2
   have h5 := lam_low hk (X := fun j => if j = i then false else X j) (by show (if lot.toNat = i then false else X lot.toNat) = false; rw [if_neg (by omega)]; exact hXl) (by
    rw [fr_below hk.mix (W' := X) lot.toNat hlt fun k hk => if_neg (by omega)]; exact hX.cut)
   omega
  refine ⟨fun i hi => ⟨hin i hi, (hX.in' i hi).2⟩, ?_, by rw [← hal]; exact hX.cut⟩
  rw [← hX.cnt, hFG, cnt_end hin]
 have hcG := cut_inv hk'
 have hcF := cut_inv hk
 rw [hm] at hcG
 have toF : MinCut F (inZ bad) lot.toNat (lam0 F bad lot) (inS (cutP G early lot)) := by
  refine ⟨fun i hi => ?_, ?_, by rw [hal]; exact hcG.2.cut⟩
  ·have := hcG.2.in' i hi
   exact ⟨by omega, this.2⟩
  ·rw [hFG, cnt_end fun i hi => (hcG.2.in' i hi).1]; exact hcG.2.cnt
 have e : cutP G early lot = cutP F bad lot := by
  refine first_uniq (F := F) (bad := inZ bad) (lot := lot.toNat) (m := lam0 F bad lot) hcG.1.inc hcF.1.inc toF hcF.2 (fun j hj hne hn => ?_) hcF.1.not
  rintro ⟨X, hX, hX2, hX3⟩
  have hX' := toG X hX
  exact hcG.1.not j (hX'.in' j hX3).1 hne hn ⟨X, hX', hX2, hX3⟩
 unfold cutI
 rw [e]
/-! ### Lots joined -/
/-- A cut that has all bad sacks, and no more nodes, is just these. -/
theorem cut_all {F : List (List Int)} {bad : List Int} {lot : Int} (hk : BadOk F bad lot) (h : ∀ x ∈ bad, x ∈ cutI F bad lot) : cutI F bad lot = bad := by
 have hr := cut_ris hk
 have hb := hk.ris
 have hc := rs_cnt hr
 have hd := rs_cnt hb
 have hl := cut_len hk
 have hle := lam_bad hk
 rw [lst_of_inc hr.1 hr.2]
 conv => rhs; rw [lst_of_inc hb.1 hb.2]
 refine lst_congr fun i hi => ?_
 rw [decide_eq_decide]
 refine ⟨fun h1 => Classical.byContradiction fun h2 => ?_, fun h1 => h _ h1⟩
 have h3 : inZ bad i = false := decide_eq_false h2
 have h4 := cnt_mark hi h3
 have h5 : cntS (mark (inZ bad) i) F.length ≤ cntS (inZ (cutI F bad lot)) F.length := cnt_mono fun j _ hj => by
  unfold mark at hj
  split at hj
  ·rename_i e; rw [e]; exact decide_eq_true h1
  ·exact decide_eq_true (h _ (of_decide_eq_true hj))
 omega
/-- A lot that is mixed of just the bad sacks. -/
theorem cut_joined {F : List (List Int)} {bad : List Int} {lot : Int} (hk : BadOk F bad lot) (hf : frm F lot.toNat = bad) : cutI F bad lot = bad := by
 refine cut_all hk fun x hx => Classical.byContradiction fun hn => ?_
 have hr := hk.ris.1 x hx
 have h1 : fr F (inZ bad) (inZ (cutI F bad lot)) x.toNat = true := (fr_true hk.mix (by omega)).2 ⟨decide_eq_false (by rw [Int.toNat_of_nonneg hr.1]; exact hn), .inl ⟨hk.sk x hx, decide_eq_true (by rw [Int.toNat_of_nonneg hr.1]; exact hx)⟩⟩
 have h2 : fr F (inZ bad) (inZ (cutI F bad lot)) lot.toNat = true := (fr_true hk.mix (hkl hk)).2 ⟨decide_eq_false (by rw [Int.toNat_of_nonneg hk.l0]; exact cut_not hk), .inr ⟨x.toNat, by rw [hf, Int.toNat_of_nonneg hr.1]; exact hx, h1⟩⟩
 rw [cut_cut hk] at h2; cases h2
/-- A lot that is free has a cut of one node at least. -/
theorem lam_pos {F : List (List Int)} {bad : List Int} {lot : Int} (hk : BadOk F bad lot) (h : fr F (inZ bad) (fun _ => false) lot.toNat = true) : 1 ≤ lam0 F bad lot := by
 refine Classical.byContradiction fun hn => ?_
 have h1 := cut_cut hk
 have h2 := cut_len hk
 have h3 : cutI F bad lot = [] := List.length_eq_zero_iff.1 (by omega)
 rw [h3, nil_inZ, h] at h1
 cases h1
end Go.Px.Try

/-! Tq4 -/
namespace Go.Px.Try
open Go Go.Proofs Go.Px
theorem bset_or_pow (b k i : Nat) : bset (b ||| 2 ^ k) i = (bset b i || decide (i = k)) := by
 rw [bset_test, bset_test, Nat.testBit_or, Nat.testBit_two_pow]
 congr 1
 exact decide_eq_decide.2 eq_comm
theorem mem_badL {F : List (List Int)} {b i : Nat} : (i : Int) ∈ badL F b ↔ i < F.length ∧ sackB F i = true ∧ bset b i = true := by
 unfold badL
 rw [mem_lst_nat, Bool.and_eq_true]
theorem bad_rs (F : List (List Int)) (b : Nat) : rsL (badL F b) F.length := ⟨fun x hx => by obtain ⟨j, h1, _, rfl⟩ := mem_lst.1 hx; omega, lst_inc _ _⟩
section
variable {F : List (List Int)} {lot : Int} {b k : Nat} (hk : BadOk F (badL F b) lot) (hk' : BadOk F (badL F (b ||| 2 ^ k)) lot) (hkl' : k < F.length)
include hk hk' hkl'
theorem more_ge : lam0 F (badL F b) lot ≤ lam0 F (badL F (b ||| 2 ^ k)) lot := by
 have _ := hkl'
 refine lam_mono hk hk' rfl fun W _ h => ?_
 cases e : fr F (inZ (badL F b)) W lot.toNat with
 | false => rfl
 | true =>
  have h2 := fr_mono hk.mix hk.mix (B := inZ (badL F b)) (B' := inZ (badL F (b ||| 2 ^ k))) (W := W) (n := F.length) (Nat.le_refl _) (Nat.le_refl _) (fun i _ hi => ?_) (fun _ _ h => h) (fun _ _ _ h => h) lot.toNat (hkl hk) e
  ·rw [h] at h2; cases h2
  ·obtain ⟨h3, h4, h5⟩ := mem_badL.1 (of_decide_eq_true hi)
   exact decide_eq_true (mem_badL.2 ⟨h3, h4, by rw [bset_or_pow, h5]; rfl⟩)
theorem more_le : lam0 F (badL F (b ||| 2 ^ k)) lot + (badL F b).length ≤ lam0 F (badL F b) lot + (badL F (b ||| 2 ^ k)).length := by
 by_cases hs : sackB F k = true ∧ bset b k = false
 ·have h1 := lam_add hk hk' (s := k) (of_decide_eq_true hs.1) fun i hi => by
   obtain ⟨h3, h4, h5⟩ := mem_badL.1 hi
   rw [bset_or_pow, Bool.or_eq_true, decide_eq_true_eq] at h5
   rcases h5 with h5 | h5
   ·exact .inl (mem_badL.2 ⟨h3, h4, h5⟩)
   ·exact .inr h5
  have h2 : ((badL F (b ||| 2 ^ k)).length : Int) = (badL F b).length + 1 := by
   unfold badL
   rw [lst_cnt, lst_cnt, ← cnt_mark hkl' (show (fun i => sackB F i && bset b i) k = false by simp only; rw [hs.2, Bool.and_false])]
   refine cnt_congr fun i _ => ?_
   rw [bset_or_pow]
   unfold mark
   by_cases e : i = k
   ·rw [if_pos e, e, hs.1]; simp
   ·rw [if_neg e, decide_eq_false e, Bool.or_false]
  omega
 ·have e : badL F (b ||| 2 ^ k) = badL F b := by
   unfold badL
   refine lst_congr fun i _ => ?_
   rw [bset_or_pow]
   by_cases e : i = k
   ·rw [e]
    cases h1 : sackB F k with
    | false => rfl
    | true =>
     cases h2 : bset b k with
     | true => rfl
     | false => exact absurd ⟨h1, h2⟩ hs
   ·rw [decide_eq_false e, Bool.or_false]
  rw [e]; exact Nat.le_refl _
end
/-! ### One node more -/
def ownL (F : List (List Int)) (lot r : Nat) : List Int := listed (bitsOf (frm F lot) ||| 2 ^ r) lot
def mixX (F : List (List Int)) (lot r : Nat) : List (List Int) := (List.range F.length).map fun i => if i = lot then ownL F lot r else frm F i
theorem mixX_len (F : List (List Int)) (lot r : Nat) : (mixX F lot r).length = F.length := by unfold mixX; rw [List.length_map, List.length_range]
theorem mixX_frm (F : List (List Int)) (lot r : Nat) {i : Nat} (hi : i < F.length) : frm (mixX F lot r) i = if i = lot then ownL F lot r else frm F i := by
 unfold frm mixX
 rw [List.getD_eq_getElem?_getD, List.getElem?_map, List.getElem?_range hi]; rfl
theorem own_mem {F : List (List Int)} (hm : MixOk F) {lot r : Nat} (hl : lot < F.length) {x : Int} (hx : x ∈ frm F lot) : x ∈ ownL F lot r := by
 have h := (hm.ris lot hl).1 x hx
 rw [show x = ((x.toNat : Nat) : Int) by omega]
 refine mem_lst_nat.2 ⟨by omega, ?_⟩
 rw [bset_or_pow, bset_bits fun y hy => ((hm.ris lot hl).1 y hy).1, decide_eq_true (by rw [Int.toNat_of_nonneg h.1]; exact hx)]; rfl
theorem mixX_mix {F : List (List Int)} (hm : MixOk F) (lot r : Nat) : MixOk (mixX F lot r) := by
 refine ⟨by rw [mixX_len]; exact hm.l1, by rw [mixX_len]; exact hm.l10, fun i hi => ?_⟩
 rw [mixX_len] at hi
 rw [mixX_frm F lot r hi]
 by_cases e : i = lot
 ·rw [if_pos e, e]
  exact ⟨fun x hx => by obtain ⟨j, h1, _, rfl⟩ := mem_lst.1 hx; omega, lst_inc _ _⟩
 ·rw [if_neg e]; exact hm.ris i hi
theorem mixX_bad {F : List (List Int)} {bad : List Int} {lot : Int} (hk : BadOk F bad lot) (r : Nat) : BadOk (mixX F lot.toNat r) bad lot := by
 have hl := hkl hk
 refine ⟨mixX_mix hk.mix _ r, hk.l0, by rw [mixX_len]; exact hk.l1, by rw [mixX_len]; exact hk.ris, ?_, fun x hx => ?_⟩
 ·rw [mixX_frm _ _ _ hl, if_pos rfl]
  obtain ⟨x, hx⟩ := List.exists_mem_of_ne_nil _ hk.ne
  exact List.ne_nil_of_mem (own_mem hk.mix hl hx)
 ·have h := hk.ris.1 x hx
  rw [mixX_frm _ _ _ (by omega), if_neg fun e => hk.ne (by rw [← e]; exact hk.sk x hx)]
  exact hk.sk x hx
theorem mixX_ge {F : List (List Int)} {bad : List Int} {lot : Int} (hk : BadOk F bad lot) (r : Nat) : lam0 F bad lot ≤ lam0 (mixX F lot.toNat r) bad lot := by
 have hk' := mixX_bad hk r
 have hl := hkl hk
 refine lam_mono hk hk' (mixX_len _ _ _).symm fun W _ h => ?_
 cases e : fr F (inZ bad) W lot.toNat with
 | false => rfl
 | true =>
  have h2 := fr_mono hk.mix hk'.mix (B := inZ bad) (B' := inZ bad) (W := W) (n := F.length) (Nat.le_refl _) (by rw [mixX_len]; exact Nat.le_refl _) (fun _ _ h => h) (fun i hi h3 => ?_) (fun i hi x hx => ?_) lot.toNat hl e
  ·rw [h] at h2; cases h2
  ·rw [mixX_frm _ _ _ hi, if_neg fun e => hk.ne (by rw [← e]; exact h3)]; exact h3
  ·rw [mixX_frm _ _ _ hi]
   by_cases e : i = lot.toNat
   ·rw [if_pos e]; rw [e] at hx; exact own_mem hk.mix hl hx
   ·rw [if_neg e]; exact hx
/-! ### Less nodes -/
def earL (bad : List Int) (lot : Int) : List Int := bad.filter fun x => decide (x < lot)
theorem take_frm (F : List (List Int)) (n : Nat) {i : Nat} (h : i < n) : frm (F.take n) i = frm F i := by
 unfold frm
 rw [List.getD_eq_getElem?_getD, List.getD_eq_getElem?_getD, List.getElem?_take_of_lt h]
theorem take_bad {F : List (List Int)} {bad : List Int} {lot : Int} (hk : BadOk F bad lot) : BadOk (F.take (lot.toNat + 1)) (earL bad lot) lot := by
 have hl := hkl hk
 have hlen : (F.take (lot.toNat + 1)).length = lot.toNat + 1 := by rw [List.length_take]; omega
 have l0 := hk.l0
 have l10 := hk.mix.l10
 refine ⟨⟨by omega, by omega, fun i hi => ?_⟩, hk.l0, by omega, ⟨fun x hx => ?_, hk.ris.2.sublist List.filter_sublist⟩, by rw [take_frm F _ (by omega)]; exact hk.ne, fun x hx => ?_⟩
 ·rw [take_frm F _ (by omega)]; exact hk.mix.ris i (by omega)
 ·have h := List.mem_filter.1 hx
  have := of_decide_eq_true h.2
  have := hk.ris.1 x h.1
  omega
 ·have h := List.mem_filter.1 hx
  have := of_decide_eq_true h.2
  have := hk.ris.1 x h.1
  rw [take_frm F _ (by omega)]; exact hk.sk x h.1
theorem take_cut {F : List (List Int)} {bad : List Int} {lot : Int} (hk : BadOk F bad lot) : cutI (F.take (lot.toNat + 1)) (earL bad lot) lot = cutI F bad lot := by
 have hl := hkl hk
 have l0 := hk.l0
 have hlen : (F.take (lot.toNat + 1)).length = lot.toNat + 1 := by rw [List.length_take]; omega
 refine cut_trunc hk (take_bad hk) hlen (fun i hi => (take_frm F _ (by omega)).symm) fun i hi => ?_
 unfold earL
 rw [List.mem_filter, decide_eq_true_eq]
 exact ⟨fun h => h.1, fun h => ⟨h, by omega⟩⟩
end Go.Px.Try

/-! LwMore -/
namespace Go.Px.Try
open Go Go.Proofs Go.Px
set_option maxRecDepth 100000
theorem of_nil : Fn Try.prog 48 [.v (.slice none 0 0)] (.v (.slice none 0 0)) := by
 refine Fn.of_ex (cuts := []) tys hM Try.func48 rfl Try.call48 rfl ?_
 show exC Try.prog T [] _ false none 0 (entry 4 [.v (.slice none 0 0)]) (finQ T [ResultVar.tmp 2] _)
 conv => whnf
 repeat' first | ((first | refine Ob.a ?_ | refine Sp.tt ?_ | refine Sp.ff ?_ | refine Sp.yes ?_ | refine Sp.no ?_ | refine Sp.nyes ?_ | refine Sp.nno ?_ | refine Fi.a ?_);conv=>whnf) | ((first | refine Sp.ne ?_ ?_ | refine Sp.dec ?_ ?_ | refine Sp.ndec ?_ ?_ | refine Sp.mk ?_ ?_) <;> intro hc <;> conv => whnf) | (refine Ob.b ?_;conv=>whnf)
 all_goals exact Lf
theorem bor16 (b k : Nat) (hb : b < 65536) (hk : k < 16) : bor .u16 (b : Int) (1 * 2 ^ k) = ((b ||| 2 ^ k : Nat) : Int) := by
 have hk2 : 2 ^ k < 2 ^ 16 := Nat.pow_lt_pow_right (by omega) hk
 have hor : b ||| 2 ^ k < 2 ^ 16 := Nat.or_lt_two_pow (by omega) hk2
 unfold bor
 have h : (BitVec.ofInt IntKind.u16.bits (b : Int) ||| BitVec.ofInt IntKind.u16.bits (1 * 2 ^ k)).toNat = b ||| 2 ^ k := by
  have e1 : BitVec.ofInt IntKind.u16.bits (b : Int) = BitVec.ofNat 16 b := BitVec.ofInt_natCast 16 b
  have e2 : BitVec.ofInt IntKind.u16.bits (1 * 2 ^ k) = BitVec.ofNat 16 (2 ^ k) := by
   rw [Int.one_mul, show (2 : Int) ^ k = ((2 ^ k : Nat) : Int) by simp]; exact BitVec.ofInt_natCast 16 _
  rw [e1, e2]
  show (BitVec.ofNat 16 b ||| BitVec.ofNat 16 (2 ^ k)).toNat = _
  rw [BitVec.toNat_or, BitVec.toNat_ofNat, BitVec.toNat_ofNat, Nat.mod_eq_of_lt (by omega), Nat.mod_eq_of_lt (by omega)]
 rw [h, wrap_in]
 show 0 ≤ ((b ||| 2 ^ k : Nat) : Int) ∧ ((b ||| 2 ^ k : Nat) : Int) ≤ 65535
 omega
/-- A mix that grows: what changes. -/
def bldM (i : Int) (id nx : Nat) : List (List Int) → List (Nat × AV) × List (Nat × Res)
 | [] => ([(20, .d (int i))], [(id, .cs true 1 fun _ => .d (.v (.slice none 0 0)))])
 | y :: o => ([(20, .d (int i))], [(id, .cs true 1 fun _ => .ms nx 1 0 (y :: o).length), (nx, .row true 27 1 (y :: o).length (rowOf ints [] (y :: o)))])
theorem mixX_take (F : List (List Int)) (lot r : Nat) {i : Int} (h0 : 0 ≤ i) (h1 : i < F.length) : (mixX F lot r).take (i + 1).toNat = (mixX F lot r).take i.toNat ++ [if i.toNat = lot then ownL F lot r else F.getD i.toNat []] := by
 rw [show (i + 1).toNat = i.toNat + 1 by omega, take_succ_getD _ _ [] (by rw [mixX_len]; omega)]
 congr 2
 exact mixX_frm F lot r (by omega)
theorem row_first {α : Type} {enc : α → DV} {d : α} {x : α} {f g : Nat → DV} (h : CImp (g 0) (enc x)) : ∀ j, j < [x].length → CImp (apd 0 f g j) (rowOf enc d [x] j) := row_first5 h
theorem ImpS.takeN {t : Bool} {n m : Nat} {F : List (List Int)} (hn : n = m) (h : m ≤ F.length) : ImpS (.sl t 1 n fun i => ints (F.getD i [])) (slOf 1 ints [] (F.take m)) := by
 subst hn
 refine ⟨Imp.sl (fun e => by cases e) (by rw [List.length_take]; omega) fun j hj => Imp.of_eq ?_⟩
 rw [List.getD_eq_getElem?_getD, List.getD_eq_getElem?_getD, List.getElem?_take_of_lt hj]
/-- What the walk needs. -/
structure MoT (F : List (List Int)) (b s : Nat) (lot rr : Int) (bd mr c d f e : List Int) (l : List Int) (w : Int) : Prop where
 hw : Fn Try.prog 16 [] (bool true)
 hf : Fn Try.prog 39 [mixD F] (bool true)
 hL : Fn Try.prog 40 [mixD F] (ints l)
 h0 : 0 < l.length ∧ l.length ≤ 10
 hlo : lot = l.getD (w % l.length).toNat 0
 l01 : 0 < lot ∧ lot < F.length
 hll : 0 < (F.getD lot.toNat []).length
 hB : Fn Try.prog 41 [mixD F, u16 b] (ints bd)
 hC : Fn Try.prog 42 [mixD F, ints bd, int lot] (tpl [ints c, bool true])
 hB2 : Fn Try.prog 41 [mixD F, .v (.int .u16 (bor .u16 (b : Int) (1 * 2 ^ ((s : Int) % F.length).toNat)))] (ints mr)
 hC2 : Fn Try.prog 42 [mixD F, ints mr, int lot] (tpl [ints d, bool true])
 le1 : c.length ≤ d.length
 le2 : d.length + bd.length ≤ c.length + mr.length
 bl : bd.length ≤ 10 ∧ mr.length ≤ 10 ∧ c.length ≤ 10 ∧ d.length ≤ 10
 r01 : 0 ≤ rr ∧ rr < lot
 hBi : Fn Try.prog 49 [ints (F.getD lot.toNat [])] (int (bitsOf (F.getD lot.toNat [])))
 hLi : Fn Try.prog 43 [int (bor .i64 (bitsOf (F.getD lot.toNat []) : Int) (1 * 2 ^ rr.toNat)), int lot] (ints (ownL F lot.toNat rr.toNat))
 hC3 : Fn Try.prog 42 [mixD (mixX F lot.toNat rr.toNat), ints bd, int lot] (tpl [ints f, bool true])
 le3 : c.length ≤ f.length
 hC4 : Fn Try.prog 42 [mixD (F.take (lot.toNat + 1)), ints (earL bd lot), int lot] (tpl [ints c, bool true])
 hI : Fn Try.prog 23 [ints c, ints c] (bool true)
set_option maxHeartbeats 16000000 in
theorem more_walk {F : List (List Int)} {b s w' nd : Nat} {lot rr : Int} {bd mr c d f e l : List Int} (hm : MixOk F) (hb : b < 65536) (hs : s < 256) (hw8 : w' < 256) (hn8 : nd < 256) (h : MoT F b s lot rr bd mr c d f e l (w' : Int)) (hrr : rr = (nd : Int) % lot) : Fn Try.prog 12 [mixD F, u16 b, u8 w', u8 s, u8 nd] (bool true) := by
 obtain ⟨hw, hf, hL, h0, hlo, l01, hll, hB, hC, hB2, hC2, le1, le2, bl, r01, hBi, hLi, hC3, le3, hC4, hI⟩ := h
 have hl10 := hm.l10
 have hl1 := hm.l1
 have hc0 := Int.emod_nonneg (w' : Int) (show (l.length : Int) ≠ 0 by omega)
 have hc1 := Int.emod_lt_of_pos (w' : Int) (show (0 : Int) < l.length by omega)
 have hs0 := Int.emod_nonneg (s : Int) (show (F.length : Int) ≠ 0 by omega)
 have hs1 := Int.emod_lt_of_pos (s : Int) (show (0 : Int) < F.length by omega)
 have hp1 : 0 ≤ 1 * (2 : Int) ^ ((s : Int) % F.length).toNat := by rw [Int.one_mul]; exact Int.pow_nonneg (by omega)
 have hp2 : 1 * (2 : Int) ^ ((s : Int) % F.length).toNat ≤ 1024 := by rw [Int.one_mul]; exact pow1024 (by omega)
 have hq1 : 0 ≤ 1 * (2 : Int) ^ rr.toNat := by rw [Int.one_mul]; exact Int.pow_nonneg (by omega)
 have hq2 : 1 * (2 : Int) ^ rr.toNat ≤ 1024 := by rw [Int.one_mul]; exact pow1024 (by omega)
 have hn := of_nil
 have hsh : 0 ≤ (s : Int) % F.length ∧ (s : Int) % F.length < ((IntKind.u16.bits : Nat) : Int) ∧ inR .u16 (1 * 2 ^ ((s : Int) % F.length).toNat) := by
  refine ⟨hs0, ?_, ?_⟩
  ·show (s : Int) % F.length < 16
   omega
  ·show 0 ≤ 1 * (2 : Int) ^ ((s : Int) % F.length).toNat ∧ 1 * (2 : Int) ^ ((s : Int) % F.length).toNat ≤ 65535
   omega
 have hGl := mixX_len F lot.toNat rr.toNat
 have htk := fun (i : Int) (a : 0 ≤ i) (b : i < F.length) => mixX_take F lot.toNat rr.toNat a b
 have hfl := fun (i : Nat) (hi : i < F.length) => frm_len' hm hi
 change ∀ i, i < F.length → (F.getD i []).length ≤ i at hfl
 generalize mixX F lot.toNat rr.toNat = G at *
 generalize ownL F lot.toNat rr.toNat = ow at *
 subst hlo
 subst hrr
 refine Fn.of_ex (cuts := []) tys hM Try.func12 rfl Try.call12 rfl ?_
 show exC Try.prog T [] _ false none 0 (entry 192 [mixD F, u16 b, u8 w', u8 s, u8 nd]) (finQ T [ResultVar.tmp 10] _)
 conv => whnf
 repeat' first | ((first | refine Ob.a ?_ | refine Sp.tt ?_ | refine Sp.ff ?_ | refine Sp.yes ?_ | refine Sp.no ?_ | refine Sp.nyes ?_ | refine Sp.nno ?_ | refine Fi.a ?_);conv=>whnf) | ((first | refine Sp.ne ?_ ?_ | refine Sp.dec ?_ ?_ | refine Sp.ndec ?_ ?_ | refine Sp.mk ?_ ?_) <;> intro hc <;> conv => whnf) | (apply Cl.go;(conv=>whnf); (first | refine Ob.call (hf) ?_ | refine Ob.call (hL) ?_ | refine Ob.call (hB) ?_ | refine Ob.call (hC) ?_ | refine Ob.call (hB2) ?_ | refine Ob.call (hC2) ?_);(conv=>whnf)) | (refine Ob.go (fun _ => ?_) (hsh);conv=>whnf) | (refine Ob.b ?_;conv=>whnf)
 all_goals try (exfalso; omega)
 clear hf hL hB hC hB2 hC2 hsh
 refine Lp.snap [0, 1, 2, 3, 4, 5, 10, 12, 13, 14, 19, 22, 23, 24, 25, 26, 27, 136, 137, 138, 139, 140, 141, 142, 143, 144, 145, 146, 147, 148, 149, 150, 152, 153, 154, 156, 157, 158, 159, 160, 161, 162, 164, 165, 166, 167, 168, 169, 170, 171, 172, 173, 174, 175, 176, 177, 178, 179, 180, 181, 182, 183, 184, 185, 186, 187, 188, 189, 190, 191] 150 ?_
 (conv=>whnf)
 refine LpB.go 192 ({q : Int × List (List Int) // (0 ≤ q.1 ∧ q.1 ≤ F.length) ∧ q.2 = G.take q.1.toNat}) 1 (fun ⟨(i, o), _⟩ nx => bldM i 84 nx o) (fun p => (F.length - p.1.1).toNat) (⟨(0, []), ⟨by simp, by simp⟩, rfl⟩) ?_ ?_ (hl := by rintro ⟨⟨i, o⟩, _⟩; cases o <;> rfl)
 ·rintro ⟨⟨i, o⟩, ⟨i0, i1⟩, ho⟩
  simp only at i0 i1 ho
  have hol : o.length = i.toNat := by rw [ho, List.length_take]; omega
  by_cases hi : i < F.length
  ·have hst := htk i i0 hi
   rw [← ho] at hst
   have hfl := hfl i.toNat (by omega)
   clear hC3 hC4 hI hw
   by_cases hil : i = l.getD ((w' : Int) % l.length).toNat 0
   ·rw [if_pos (by rw [hil])] at hst
    have eF : F.getD (l.getD ((w' : Int) % l.length).toNat 0).toNat [] = F.getD i.toNat [] := by rw [hil]
    rw [eF] at hBi hLi hll
    cases o with
    | nil =>
     conv => whnf
     repeat' first | ((first | refine Ob.a ?_ | refine Sp.tt ?_ | refine Sp.ff ?_ | refine Sp.yes ?_ | refine Sp.no ?_ | refine Sp.nyes ?_ | refine Sp.nno ?_ | refine Fi.a ?_);conv=>whnf) | ((first | refine Sp.ne ?_ ?_ | refine Sp.dec ?_ ?_ | refine Sp.ndec ?_ ?_ | refine Sp.mk ?_ ?_) <;> intro hc <;> conv => whnf) | (apply Cl.go;(conv=>whnf); (first | refine Ob.call (hn) ?_ | refine Ob.call (hBi) ?_ | refine Ob.call (hLi) ?_);(conv=>whnf)) | (refine Ob.b ?_;conv=>whnf)
     all_goals try (exfalso; omega)
     all_goals (refine ⟨rfl, ⟨(i + 1, [ow]), ⟨by simp only; omega, by simp only; omega⟩, hst.symm⟩, ?_, by simp only; omega⟩; repeat' first | (refine Edge.fast ?_) | ((conv=>whnf); first | exact True.intro | (refine And.intro ?_ ?_) | exact rfl | exact Nat.le_of_eq (Nat.zero_add _) | exact ImpS.refl _ | ((conv => arg 1; whnf); first | exact ImpS.refl _ | (refine ImpS.nil_eq ?_) | (refine ImpS.vnil_eq ?_) | (refine ImpS.row ?_) | (refine ImpS.rowN ?_ ?_) | (refine ImpS.sl_eq ?_) | (refine ImpS.expl rfl ?_)) | (refine row_snoc' ?_) | (apply row_upd) | exact cimp_none | exact cimp_same | exact List.not_mem_nil | exact DImp.refl _) | exact rfl | (refine And.intro ?_ ?_) | exact ImpS.refl _)
     all_goals first | omega | (refine row_first ?_;exact Lf)
    | cons y o =>
     conv => whnf
     repeat' first | ((first | refine Ob.a ?_ | refine Sp.tt ?_ | refine Sp.ff ?_ | refine Sp.yes ?_ | refine Sp.no ?_ | refine Sp.nyes ?_ | refine Sp.nno ?_ | refine Fi.a ?_);conv=>whnf) | ((first | refine Sp.ne ?_ ?_ | refine Sp.dec ?_ ?_ | refine Sp.ndec ?_ ?_ | refine Sp.mk ?_ ?_) <;> intro hc <;> conv => whnf) | (apply Cl.go;(conv=>whnf); (first | refine Ob.call (hn) ?_ | refine Ob.call (hBi) ?_ | refine Ob.call (hLi) ?_);(conv=>whnf)) | (refine Ob.b ?_;conv=>whnf)
     all_goals try (exfalso; omega)
     all_goals (refine ⟨rfl, ⟨(i + 1, y :: o ++ [ow]), ⟨by simp only; omega, by simp only; omega⟩, hst.symm⟩, ?_, by simp only; omega⟩; repeat' first | (refine Edge.fast ?_) | ((conv=>whnf); first | exact True.intro | (refine And.intro ?_ ?_) | exact rfl | exact Nat.le_of_eq (Nat.zero_add _) | exact ImpS.refl _ | ((conv => arg 1; whnf); first | exact ImpS.refl _ | (refine ImpS.nil_eq ?_) | (refine ImpS.vnil_eq ?_) | (refine ImpS.row ?_) | (refine ImpS.rowN ?_ ?_) | (refine ImpS.sl_eq ?_) | (refine ImpS.expl rfl ?_)) | (refine row_snoc' ?_) | exact MImp.refl _ | exact cimp_none | exact cimp_same | exact List.not_mem_nil | exact DImp.refl _) | exact rfl | (refine And.intro ?_ ?_) | exact ImpS.refl _)
     all_goals first | omega | (simp; done) | (refine row_snoc' (l := y :: o) ?_;exact Lf)
   ·rw [if_neg (by omega)] at hst
    clear hBi hLi
    cases o with
    | nil =>
     conv => whnf
     repeat' first | ((first | refine Ob.a ?_ | refine Sp.tt ?_ | refine Sp.ff ?_ | refine Sp.yes ?_ | refine Sp.no ?_ | refine Sp.nyes ?_ | refine Sp.nno ?_ | refine Fi.a ?_);conv=>whnf) | ((first | refine Sp.ne ?_ ?_ | refine Sp.dec ?_ ?_ | refine Sp.ndec ?_ ?_ | refine Sp.mk ?_ ?_) <;> intro hc <;> conv => whnf) | (apply Cl.go;(conv=>whnf); (first | refine Ob.call (hn) ?_);(conv=>whnf)) | (refine Ob.b ?_;conv=>whnf)
     all_goals try (exfalso; omega)
     all_goals (refine ⟨rfl, ⟨(i + 1, [F.getD i.toNat []]), ⟨by simp only; omega, by simp only; omega⟩, hst.symm⟩, ?_, by simp only; omega⟩; repeat' first | (refine Edge.fast ?_) | ((conv=>whnf); first | exact True.intro | (refine And.intro ?_ ?_) | exact rfl | exact Nat.le_of_eq (Nat.zero_add _) | exact ImpS.refl _ | ((conv => arg 1; whnf); first | exact ImpS.refl _ | (refine ImpS.nil_eq ?_) | (refine ImpS.vnil_eq ?_) | (refine ImpS.row ?_) | (refine ImpS.rowN ?_ ?_) | (refine ImpS.sl_eq ?_) | (refine ImpS.expl rfl ?_)) | (refine row_snoc' ?_) | (apply row_upd) | exact cimp_none | exact cimp_same | exact List.not_mem_nil | exact DImp.refl _) | exact rfl | (refine And.intro ?_ ?_) | exact ImpS.refl _)
     all_goals first | omega | (refine row_first ?_;exact Lf)
    | cons y o =>
     conv => whnf
     repeat' first | ((first | refine Ob.a ?_ | refine Sp.tt ?_ | refine Sp.ff ?_ | refine Sp.yes ?_ | refine Sp.no ?_ | refine Sp.nyes ?_ | refine Sp.nno ?_ | refine Fi.a ?_);conv=>whnf) | ((first | refine Sp.ne ?_ ?_ | refine Sp.dec ?_ ?_ | refine Sp.ndec ?_ ?_ | refine Sp.mk ?_ ?_) <;> intro hc <;> conv => whnf) | (apply Cl.go;(conv=>whnf); (first | refine Ob.call (hn) ?_);(conv=>whnf)) | (refine Ob.b ?_;conv=>whnf)
     all_goals try (exfalso; omega)
     all_goals (refine ⟨rfl, ⟨(i + 1, y :: o ++ [F.getD i.toNat []]), ⟨by simp only; omega, by simp only; omega⟩, hst.symm⟩, ?_, by simp only; omega⟩; repeat' first | (refine Edge.fast ?_) | ((conv=>whnf); first | exact True.intro | (refine And.intro ?_ ?_) | exact rfl | exact Nat.le_of_eq (Nat.zero_add _) | exact ImpS.refl _ | ((conv => arg 1; whnf); first | exact ImpS.refl _ | (refine ImpS.nil_eq ?_) | (refine ImpS.vnil_eq ?_) | (refine ImpS.row ?_) | (refine ImpS.rowN ?_ ?_) | (refine ImpS.sl_eq ?_) | (refine ImpS.expl rfl ?_)) | (refine row_snoc' ?_) | exact MImp.refl _ | exact cimp_none | exact cimp_same | exact List.not_mem_nil | exact DImp.refl _) | exact rfl | (refine And.intro ?_ ?_) | exact ImpS.refl _)
     all_goals first | omega | (simp; done) | (refine row_snoc' (l := y :: o) ?_;exact Lf)
  ·have e2 : o = G := by rw [ho, List.take_of_length_le (by omega)]
   subst e2
   clear htk hBi hLi hfl
   cases o with
   | nil => exfalso; simp at hGl; omega
   | cons y o =>
    conv => whnf
    repeat' first | ((first | refine Ob.a ?_ | refine Sp.tt ?_ | refine Sp.ff ?_ | refine Sp.yes ?_ | refine Sp.no ?_ | refine Sp.nyes ?_ | refine Sp.nno ?_ | refine Fi.a ?_);conv=>whnf) | ((first | refine Sp.ne ?_ ?_ | refine Sp.dec ?_ ?_ | refine Sp.ndec ?_ ?_ | refine Sp.mk ?_ ?_) <;> intro hc <;> conv => whnf) | (apply Cl.go;(conv=>whnf); (first | refine Ob.call (hC3) ?_);(conv=>whnf)) | (refine Ob.b ?_;conv=>whnf)
    all_goals try (exfalso; omega)
    clear hC3 ho hol
    refine Lp.snap [0, 1, 2, 3, 4, 5, 10, 12, 13, 14, 26, 27, 171, 172, 173, 174, 175, 176, 177, 178, 179, 180, 181, 182, 183, 184, 185, 186, 187, 188, 189, 190, 191] 150 ?_
    (conv=>whnf)
    refine LpB.go 192 ({q : Int × List Int // (0 ≤ q.1 ∧ q.1 ≤ bd.length) ∧ q.2 = (bd.take q.1.toNat).filter (fun x => decide (x < l.getD ((w' : Int) % l.length).toNat 0)) ∧ q.2.length ≤ q.1}) 0 (fun ⟨(k, p), _⟩ nx => ([(25, .d (int k)), (24, .ms 109 1 0 p.length)], [(109, .row true 3 1 p.length (rowOf int 0 p))])) (fun p => (bd.length - p.1.1).toNat) (⟨(0, []), ⟨by simp, by simp⟩, rfl, by simp⟩) ?_ ?_
    ·rintro ⟨⟨k, p⟩, ⟨k0, k1⟩, hp, hpl⟩
     simp only at k0 k1 hp hpl
     by_cases hk : k < bd.length
     ·have hst := filter_take_succ (fun x => decide (x < l.getD ((w' : Int) % l.length).toNat 0)) k0 hk
      rw [← hp] at hst
      clear hC4 hI hw
      by_cases hx : bd.getD k.toNat 0 < l.getD ((w' : Int) % l.length).toNat 0
      ·rw [if_pos (decide_eq_true hx)] at hst
       conv => whnf
       repeat' first | ((first | refine Ob.a ?_ | refine Sp.tt ?_ | refine Sp.ff ?_ | refine Sp.yes ?_ | refine Sp.no ?_ | refine Sp.nyes ?_ | refine Sp.nno ?_ | refine Fi.a ?_);conv=>whnf) | ((first | refine Sp.ne ?_ ?_ | refine Sp.dec ?_ ?_ | refine Sp.ndec ?_ ?_ | refine Sp.mk ?_ ?_) <;> intro hc <;> conv => whnf) | (refine Ob.b ?_;conv=>whnf)
       all_goals first | (exfalso; omega) | exact ⟨rfl, ⟨(k + 1, p ++ [bd.getD k.toNat 0]), ⟨by simp only; omega, by simp only; omega⟩, hst.symm, by simp only [List.length_append, List.length_singleton]; omega⟩, Lf, by simp only; omega⟩
      ·rw [if_neg (by rw [decide_eq_false hx]; simp), List.append_nil] at hst
       conv => whnf
       repeat' first | ((first | refine Ob.a ?_ | refine Sp.tt ?_ | refine Sp.ff ?_ | refine Sp.yes ?_ | refine Sp.no ?_ | refine Sp.nyes ?_ | refine Sp.nno ?_ | refine Fi.a ?_);conv=>whnf) | ((first | refine Sp.ne ?_ ?_ | refine Sp.dec ?_ ?_ | refine Sp.ndec ?_ ?_ | refine Sp.mk ?_ ?_) <;> intro hc <;> conv => whnf) | (refine Ob.b ?_;conv=>whnf)
       all_goals first | (exfalso; omega) | (refine ⟨rfl, ⟨(k + 1, p), ⟨by simp only; omega, by simp only; omega⟩, hst.symm, by simp only; omega⟩, ?_, by simp only; omega⟩; exact Lf)
     ·have e : p = earL bd (l.getD ((w' : Int) % l.length).toNat 0) := by rw [hp, List.take_of_length_le (by omega)]; rfl
      rw [← e] at hC4
      conv => whnf
      repeat' first | ((first | refine Ob.a ?_ | refine Sp.tt ?_ | refine Sp.ff ?_ | refine Sp.yes ?_ | refine Sp.no ?_ | refine Sp.nyes ?_ | refine Sp.nno ?_ | refine Fi.a ?_);conv=>whnf) | ((first | refine Sp.ne ?_ ?_ | refine Sp.dec ?_ ?_ | refine Sp.ndec ?_ ?_ | refine Sp.mk ?_ ?_) <;> intro hc <;> conv => whnf) | (refine Ob.b ?_;conv=>whnf)
      all_goals try (exfalso; omega)
      apply Cl.go
      (conv=>whnf)
      refine Ob.fn ?_ ?_ ?_ (hC4)
      rotate_left
      all_goals try (repeat' first | (refine Edge.fast ?_) | ((conv=>whnf); first | exact True.intro | (refine And.intro ?_ ?_) | exact rfl | exact Nat.le_of_eq (Nat.zero_add _) | exact ImpS.refl _ | ((conv => arg 1; whnf); first | exact ImpS.refl _ | (refine ImpS.nil_eq ?_) | (refine ImpS.vnil_eq ?_) | (refine ImpS.row ?_) | (refine ImpS.rowN ?_ ?_) | (refine ImpS.sl_eq ?_) | (refine ImpS.expl rfl ?_)) | (refine row_snoc' ?_) | (apply row_upd) | exact cimp_none | exact cimp_same | exact List.not_mem_nil | exact DImp.refl _) | exact rfl | (refine And.intro ?_ ?_) | exact ImpS.refl _)
      all_goals try first | assumption | omega
      ·exact ImpS.takeN (by omega) (by omega)
      conv => whnf
      repeat' first | ((first | refine Ob.a ?_ | refine Sp.tt ?_ | refine Sp.ff ?_ | refine Sp.yes ?_ | refine Sp.no ?_ | refine Sp.nyes ?_ | refine Sp.nno ?_ | refine Fi.a ?_);conv=>whnf) | ((first | refine Sp.ne ?_ ?_ | refine Sp.dec ?_ ?_ | refine Sp.ndec ?_ ?_ | refine Sp.mk ?_ ?_) <;> intro hc <;> conv => whnf) | (apply Cl.go;(conv=>whnf); (first | refine Ob.call (hI) ?_ | refine Ob.call (hw) ?_);(conv=>whnf)) | (refine Ob.b ?_;conv=>whnf)
      all_goals first | (exfalso; omega) | exact Lf
    ·exact Lf
 ·exact Lf
theorem TraceMore_spec (F : List (List Int)) (b w s nd : Nat) (hF : Lens F) (hb : b < 65536) (hw8 : w < 256) (hs : s < 256) (hn : nd < 256) : Fn Try.prog 12 [mixD F, u16 b, u8 w, u8 s, u8 nd] (bool true) := by
 have hw := Works_spec
 by_cases hm : MixOk F
 case neg =>
  have hf := fine_no hF hm
  refine Fn.of_ex (cuts := []) tys hM Try.func12 rfl Try.call12 rfl ?_
  show exC Try.prog T [] _ false none 0 (entry 192 [mixD F, u16 b, u8 w, u8 s, u8 nd]) (finQ T [ResultVar.tmp 10] _)
  conv => whnf
  repeat' first | ((first | refine Ob.a ?_ | refine Sp.tt ?_ | refine Sp.ff ?_ | refine Sp.yes ?_ | refine Sp.no ?_ | refine Sp.nyes ?_ | refine Sp.nno ?_ | refine Fi.a ?_);conv=>whnf) | ((first | refine Sp.ne ?_ ?_ | refine Sp.dec ?_ ?_ | refine Sp.ndec ?_ ?_ | refine Sp.mk ?_ ?_) <;> intro hc <;> conv => whnf) | (apply Cl.go;(conv=>whnf); (first | refine Ob.call (hf) ?_ | refine Ob.call (hw) ?_);(conv=>whnf)) | (refine Ob.b ?_;conv=>whnf)
  all_goals exact Lf
 have hf := fine_yes hF hm
 have hl10 := hm.l10
 have hl1 := hm.l1
 have hL := Lots_spec F hm
 by_cases h0 : 0 < (lotsL F).length
 case neg =>
  generalize lotsL F = l at *
  refine Fn.of_ex (cuts := []) tys hM Try.func12 rfl Try.call12 rfl ?_
  show exC Try.prog T [] _ false none 0 (entry 192 [mixD F, u16 b, u8 w, u8 s, u8 nd]) (finQ T [ResultVar.tmp 10] _)
  conv => whnf
  repeat' first | ((first | refine Ob.a ?_ | refine Sp.tt ?_ | refine Sp.ff ?_ | refine Sp.yes ?_ | refine Sp.no ?_ | refine Sp.nyes ?_ | refine Sp.nno ?_ | refine Fi.a ?_);conv=>whnf) | ((first | refine Sp.ne ?_ ?_ | refine Sp.dec ?_ ?_ | refine Sp.ndec ?_ ?_ | refine Sp.mk ?_ ?_) <;> intro hc <;> conv => whnf) | (apply Cl.go;(conv=>whnf); (first | refine Ob.call (hf) ?_ | refine Ob.call (hL) ?_ | refine Ob.call (hw) ?_);(conv=>whnf)) | (refine Ob.b ?_;conv=>whnf)
  all_goals first | (exfalso; omega) | exact Lf
 have hk := bad_ok hm (w := (w : Int)) h0 b
 have hs0 := Int.emod_nonneg (s : Int) (show (F.length : Int) ≠ 0 by omega)
 have hs1 := Int.emod_lt_of_pos (s : Int) (show (0 : Int) < F.length by omega)
 have hk2 := bad_ok hm (w := (w : Int)) h0 (b ||| 2 ^ ((s : Int) % F.length).toNat)
 have hlk := lot_ok (F := F) (w := (w : Int)) h0
 have hpos : 0 < lotI F w := by
  have h1 := frm_len' hm (i := (lotI F w).toNat) (by omega)
  have := List.length_pos_iff.2 hlk.2.2
  omega
 have r0 := Int.emod_nonneg (nd : Int) (show lotI F w ≠ 0 by omega)
 have r1 := Int.emod_lt_of_pos (nd : Int) hpos
 have hB2 := Bad_spec F hm (b ||| 2 ^ ((s : Int) % F.length).toNat)
 have hin := (hm.ris (lotI F w).toNat (by omega)).1
 have hfl := frm_len' hm (i := (lotI F w).toNat) (by omega)
 have hBi := Bits_spec (F.getD (lotI F w).toNat []) (by show (frm F (lotI F w).toNat).length < 1000000; omega) (fun x hx => by have := hin x hx; omega)
 have hbl := bitsT_lt (l := F.getD (lotI F w).toNat []) (n := 10) (fun x hx => by have := hin x hx; omega) (F.getD (lotI F w).toNat []).length
 change bitsOf (F.getD (lotI F w).toNat []) < 2 ^ 10 at hbl
 have hp : 2 ^ ((nd : Int) % lotI F w).toNat < 2 ^ 10 := Nat.pow_lt_pow_right (by omega) (by omega)
 have hor : bitsOf (F.getD (lotI F w).toNat []) ||| 2 ^ ((nd : Int) % lotI F w).toNat < 2 ^ 10 := Nat.or_lt_two_pow hbl hp
 have hLi := Listed_spec (bitsOf (F.getD (lotI F w).toNat []) ||| 2 ^ ((nd : Int) % lotI F w).toNat) (lotI F w).toNat (by omega) (by omega)
 have e1 : bor .i64 (bitsOf (F.getD (lotI F w).toNat []) : Int) (1 * 2 ^ ((nd : Int) % lotI F w).toNat) = ((bitsOf (F.getD (lotI F w).toNat []) ||| 2 ^ ((nd : Int) % lotI F w).toNat : Nat) : Int) := by
  rw [shl1]; exact borN _ _ (by omega) (by omega)
 have c10 : ∀ {bad lot}, BadOk F bad lot → (cutI F bad lot).length ≤ 10 := fun {bad lot} hk => by
  have h := cut_ris hk
  rw [lst_of_inc h.1 h.2]
  have := lst_length_le F.length fun i => decide ((i : Int) ∈ cutI F bad lot)
  omega
 refine more_walk (lot := lotI F w) (rr := (nd : Int) % lotI F w) (bd := badL F b) (mr := badL F (b ||| 2 ^ ((s : Int) % F.length).toNat)) (c := cutI F (badL F b) (lotI F w)) (d := cutI F (badL F (b ||| 2 ^ ((s : Int) % F.length).toNat)) (lotI F w)) (f := cutI (mixX F (lotI F w).toNat ((nd : Int) % lotI F w).toNat) (badL F b) (lotI F w)) (e := []) (l := lotsL F) hm hb hs hw8 hn ⟨hw, hf, hL, ⟨h0, lst_ten hm _⟩, rfl, ⟨hpos, hlk.2.1⟩, List.length_pos_iff.2 hlk.2.2, Bad_spec F hm b, cut_spec F _ _ hk, ?_, cut_spec F _ _ hk2, ?_, ?_, ⟨lst_ten hm _, lst_ten hm _, c10 hk, c10 hk2⟩, ⟨r0, r1⟩, hBi, ?_, cut_spec _ _ _ (mixX_bad hk _), ?_, ?_, ints_same _ (by have := c10 hk; omega)⟩ rfl
 ·rw [bor16 b _ hb (by omega)]; exact hB2
 ·rw [cut_len hk, cut_len hk2]; exact more_ge hk hk2 (by omega)
 ·rw [cut_len hk, cut_len hk2]; exact more_le hk hk2 (by omega)
 ·rw [e1]
  rw [Int.toNat_of_nonneg hlk.1] at hLi
  exact hLi
 ·rw [cut_len hk, cut_len (mixX_bad hk _)]; exact mixX_ge hk _
 ·rw [← take_cut hk]; exact cut_spec _ _ _ (take_bad hk)
end Go.Px.Try

namespace Go.Proofs.Ytbgpdcbljjdjnaa.traceMoreDone
open Go.ChangeShapes Go.WideShapes Go.ChangeAt Go.RowKit
open Go.Px
open Go.Px.Try (own laidOut)
set_option maxRecDepth 100000 in
theorem lifted (os : Os) (started : os.Started) (H : Type) (enc : TypeId × Value → H) :
  ReturnsInHanded {} Try.checked os 12 .any (Rows.traceMoreSpec.pre6 enc Try.prog Try.f12 Rows.traceMoreRow.domain false) (Rows.traceMoreSpec.post enc Try.prog Try.f12 false true false false) := by
 refine returnsInHanded_of_change (C := Try.checked) own started (by kernel_rfl) Try.func12
  (ChangeSpec.witness6 (enc := enc) (C := Try.checked) false ⟨#[], #[.agg #[.slice none 0 0], .int .u16 0, .int .u8 0, .int .u8 0, .int .u8 0], []⟩ 8 (by kernel_rfl) (by kernel_rfl) (by kernel_rfl) (by kernel_rfl)) ?_
 intro W base args ds gs before hval0 hW hcnd _
 have hval : ∀ (j : Nat) t v, Try.f12.params[j]? = some t → args[j]? = some v → Value.okWide Try.prog W .any base t v := hval0
 have hW' := hW
 obtain ⟨p, q, hA0, hV, rfl, hfz, hnd⟩ := hW
 have hA : DataW.TrodAll enc Try.prog W 0 (fun _ => true) true Try.f12.params.toList args.toList ds p := hA0
 rw [Try.params12] at hA hval
 obtain ⟨v0, vs0, d0, ds0, p0, q0, hargs, rfl, rfl, h0, r0⟩ := trodAll_cons hA
 obtain ⟨v1, vs1, d1, ds1, p1, q1, rfl, rfl, rfl, h1, r1⟩ := trodAll_cons r0
 obtain ⟨v2, vs2, d2, ds2, p2, q2, rfl, rfl, rfl, h2, r2⟩ := trodAll_cons r1
 obtain ⟨v3, vs3, d3, ds3, p3, q3, rfl, rfl, rfl, h3, r3⟩ := trodAll_cons r2
 obtain ⟨v4, vs4, d4, ds4, p4, q4, rfl, rfl, rfl, h4, r4⟩ := trodAll_cons r3
 obtain ⟨rfl, rfl, rfl⟩ := trodAll_nil r4
 obtain rfl : args = #[v0, v1, v2, v3, v4] := by cases args; simp_all
 obtain ⟨rfl, rfl⟩ := trodVars_none hV
 have lt0 : ∀ x ∈ p0, x.block < W.heap.size := by have k := h0; obtain ⟨m, hm⟩ := k; exact DataW.trod_lt m _ _ _ hm
 obtain ⟨x0, g0, e0⟩ := Go.Px.Try.mix_arg h0 (hval 0 24 v0 rfl rfl)
 have lt1 : ∀ x ∈ p1, x.block < W.heap.size := by have k := h1; obtain ⟨m, hm⟩ := k; exact DataW.trod_lt m _ _ _ hm
 obtain ⟨x1, g1, e1⟩ := Go.Px.Try.u16_arg h1 (hval 1 51 v1 rfl rfl)
 have lt2 : ∀ x ∈ p2, x.block < W.heap.size := by have k := h2; obtain ⟨m, hm⟩ := k; exact DataW.trod_lt m _ _ _ hm
 obtain ⟨x2, g2, e2⟩ := Go.Px.Try.u8_arg h2 (hval 2 5 v2 rfl rfl)
 have lt3 : ∀ x ∈ p3, x.block < W.heap.size := by have k := h3; obtain ⟨m, hm⟩ := k; exact DataW.trod_lt m _ _ _ hm
 obtain ⟨x3, g3, e3⟩ := Go.Px.Try.u8_arg h3 (hval 3 5 v3 rfl rfl)
 have lt4 : ∀ x ∈ p4, x.block < W.heap.size := by have k := h4; obtain ⟨m, hm⟩ := k; exact DataW.trod_lt m _ _ _ hm
 obtain ⟨x4, g4, e4⟩ := Go.Px.Try.u8_arg h4 (hval 4 5 v4 rfl rfl)
 clear hA0 hval0
 refine ((Go.Px.Try.TraceMore_spec x0 x1 x2 x3 x4 g0 g1 g2 g3 g4).2 (All W) W [v0, v1, v2, v3, v4] (fun _ h => h) ⟨e0, e1, e2, e3, e4, trivial⟩).mono fun e W' ⟨v, S', he, hr, _, _, bel⟩ => ?_
 obtain rfl : v = .bool true := hr
 subst he
 exact ⟨_, rfl, _, _, _, [], _, [], hW', trodAll_mk1 (shut_bool Try.underlying4 _), (trodAll_cons_mk (Below.trod laidOut (by kernel_rfl) (of_decide_eq_true (by kernel_rfl)) h0 bel lt0) (trodAll_cons_mk (Below.trod laidOut (by kernel_rfl) (of_decide_eq_true (by kernel_rfl)) h1 bel lt1) (trodAll_cons_mk (Below.trod laidOut (by kernel_rfl) (of_decide_eq_true (by kernel_rfl)) h2 bel lt2) (trodAll_cons_mk (Below.trod laidOut (by kernel_rfl) (of_decide_eq_true (by kernel_rfl)) h3 bel lt3) (trodAll_cons_mk (Below.trod laidOut (by kernel_rfl) (of_decide_eq_true (by kernel_rfl)) h4 bel lt4) trodAll_mk0))))), rfl, bel.frame _, fun h => by cases h⟩
theorem over : Rows.traceMoreRow.holds Try.pinned (OpenSpec.ofChange Rows.traceMoreSpec) :=
 OpenClaim.holds_of_wide 12 Try.f12 rfl rfl rfl rfl rfl rfl rfl ⟨rfl, rfl, rfl, rfl, rfl⟩ rfl rfl rfl rfl rfl (by kernel_rfl) Try.func12 (by kernel_rfl)
  (of_decide_eq_true (by kernel_rfl)) (by unfold Func.isWrapper; first | (rw [if_pos (by decide +kernel)]; kernel_rfl) | (rw [if_neg (by decide +kernel)]; exact ⟨rfl, rfl⟩))
  (fun os started H enc _ => lifted os started H enc)
theorem proved : Rows.TraceMoreSaid := over
#print axioms proved
end Go.Proofs.Ytbgpdcbljjdjnaa.traceMoreDone
