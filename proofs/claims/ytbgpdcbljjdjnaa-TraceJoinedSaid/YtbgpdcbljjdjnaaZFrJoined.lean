/- The statement TraceJoined: a lot that is mixed of just the bad sacks has no shorter cut than all of them, which is the first shortest one if no others are as short; with a lot behind it, mixed of it alone, that one has this lot as a cut, if there are any bad sacks. Conditions: none. -/
import Derived.Test.YtbgpdcbljjdjnaaJ6
import Derived.Test.YtbgpdcbljjdjnaaJ5
import Derived.Test.YtbgpdcbljjdjnaaJ7
import Derived.Test.YtbgpdcbljjdjnaaRows
set_option linter.unusedVariables false
set_option linter.unusedSimpArgs false
/-! Tq2 -/
namespace Go.Px.Try
open Go Go.Proofs Go.Px
theorem fr_sacks {F : List (List Int)} (h : MixOk F) {B B' W : Nat → Bool} (hB : ∀ i, i < F.length → frm F i = [] → B i = B' i) : ∀ i, i < F.length → fr F B W i = fr F B' W i := by
 intro i
 induction i using Nat.strongRecOn with
 | ind i ih =>
  intro hi
  rw [fr_eq h _ _ hi, fr_eq h _ _ hi]
  congr 1
  by_cases he : frm F i = []
  ·rw [if_pos he, if_pos he, hB i hi he]
  ·rw [if_neg he, if_neg he]
   rw [Bool.eq_iff_iff, List.any_eq_true, List.any_eq_true]
   constructor <;> (rintro ⟨k, hk, h2⟩; have := (h.ris i hi).1 k hk; refine ⟨k, hk, ?_⟩)
   ·rw [← ih k.toNat (by omega) (by omega)]; exact h2
   ·rw [ih k.toNat (by omega) (by omega)]; exact h2
/-- What is free at a node is free at one that comes of it, if no node above is taken away. -/
theorem fr_up {F : List (List Int)} (h : MixOk F) {B W : Nat → Bool} {b : Nat} (hb : fr F B W b = true) (hW : ∀ k, b < k → W k = false) : ∀ x, x < F.length → cm F x b = true → fr F B W x = true := by
 intro x
 induction x using Nat.strongRecOn with
 | ind x ih =>
  intro hx hc
  rcases (cm_true h hx).1 hc with e | ⟨k, hk, hc⟩
  ·rw [e]; exact hb
  ·have h1 := (h.ris x hx).1 _ hk
   have h2 := cm_le h k (by omega) hc
   exact (fr_true h hx).2 ⟨hW x (by omega), .inr ⟨k, hk, ih k (by omega) (by omega) hc⟩⟩
theorem fr_not {F : List (List Int)} (h : MixOk F) {b : Nat} : ∀ x, x < F.length → cm F x b = false → fr F (fun _ => true) (fun i => decide (i = b)) x = true := by
 intro x
 induction x using Nat.strongRecOn with
 | ind x ih =>
  intro hx hc
  have hne : x ≠ b := fun e => by rw [e, cm_self h (by omega)] at hc; cases hc
  refine (fr_true h hx).2 ⟨decide_eq_false hne, ?_⟩
  by_cases he : frm F x = []
  ·exact .inl ⟨he, rfl⟩
  ·obtain ⟨k, hk⟩ := List.exists_mem_of_ne_nil _ he
   have h1 := (h.ris x hx).1 k hk
   refine .inr ⟨k.toNat, by rw [Int.toNat_of_nonneg h1.1]; exact hk, ih k.toNat (by omega) (by omega) ?_⟩
   cases e : cm F k.toNat b with
   | false => rfl
   | true => rw [(cm_true h hx).2 (.inr ⟨k.toNat, by rw [Int.toNat_of_nonneg h1.1]; exact hk, e⟩)] at hc; cases hc
theorem th_mem {F : List (List Int)} {x : Nat} {y : Int} : y ∈ thL F x ↔ ∃ i : Nat, i < F.length ∧ i ≠ x ∧ fr F (fun _ => true) (fun j => decide (j = i)) x = false ∧ y = i := by
 unfold thL
 rw [mem_lst]
 constructor
 ·rintro ⟨i, h1, h2, h3⟩
  unfold thB at h2
  rw [Bool.and_eq_true, decide_eq_true_eq] at h2
  exact ⟨i, h1, h2.1, by simpa using h2.2, h3⟩
 ·rintro ⟨i, h1, h2, h3, h4⟩
  refine ⟨i, h1, ?_, h4⟩
  unfold thB
  rw [decide_eq_true h2, h3]; rfl
/-- Of two nodes through which all comes, all of the greater one comes through the other one. -/
theorem th_two {F : List (List Int)} (h : MixOk F) {x : Nat} (hx : x < F.length) {a b : Int} (ha : a ∈ thL F x) (hb : b ∈ thL F x) (hab : a < b) : a ∈ thL F b.toNat := by
 obtain ⟨i, i1, i2, i3, rfl⟩ := th_mem.1 ha
 obtain ⟨j, j1, j2, j3, rfl⟩ := th_mem.1 hb
 rw [Int.toNat_natCast]
 refine th_mem.2 ⟨i, i1, by omega, ?_, rfl⟩
 cases e : fr F (fun _ => true) (fun k => decide (k = i)) j with
 | false => rfl
 | true =>
  exfalso
  have hc : cm F x j = true := by
   cases e2 : cm F x j with
   | true => rfl
   | false => rw [fr_not h x hx e2] at j3; cases j3
  rw [fr_up h e (fun k hk => decide_eq_false (by omega)) x hx hc] at i3
  cases i3
/-- A row of nodes up to x, from a sack on, has all nodes through which all of it comes. -/
theorem th_way {F : List (List Int)} (h : MixOk F) {w : List Int} (hp : 0 < w.length) (h0 : 0 ≤ w.getD 0 0 ∧ w.getD 0 0 < F.length) (hs : frm F (w.getD 0 0).toNat = []) (hw : ∀ j, 1 ≤ j → j < w.length → (0 ≤ w.getD j 0 ∧ w.getD j 0 < (F.length : Int)) ∧ w.getD (j - 1) 0 ∈ F.getD (w.getD j 0).toNat []) {y : Int} (hy : y ∈ thL F (w.getD (w.length - 1) 0).toNat) : y ∈ w := by
 obtain ⟨i, i1, i2, i3, rfl⟩ := th_mem.1 hy
 refine Classical.byContradiction fun hn => ?_
 have hne : ∀ j, j < w.length → (w.getD j 0).toNat ≠ i := fun j hj e => by
  have hr : 0 ≤ w.getD j 0 := by
   cases j with
   | zero => exact h0.1
   | succ j => exact (hw (j + 1) (by omega) hj).1.1
  exact hn (by rw [← e, Int.toNat_of_nonneg hr]; exact getD_mem hj 0)
 have key : ∀ j, j < w.length → fr F (fun _ => true) (fun k => decide (k = i)) (w.getD j 0).toNat = true := by
  intro j
  induction j with
  | zero => intro hj; exact (fr_true h (by omega)).2 ⟨decide_eq_false (hne 0 hj), .inl ⟨hs, rfl⟩⟩
  | succ j ih =>
   intro hj
   obtain ⟨h2, h3⟩ := hw (j + 1) (by omega) hj
   rw [Nat.add_sub_cancel] at h3
   have hr0 := (h.ris _ (by omega)).1 _ h3
   exact (fr_true h (by omega)).2 ⟨decide_eq_false (hne (j + 1) hj), .inr ⟨(w.getD j 0).toNat, by rw [Int.toNat_of_nonneg hr0.1]; exact h3, ih (by omega)⟩⟩
 rw [key (w.length - 1) (by omega)] at i3
 cases i3
/-! ### In common -/
theorem com_symm (F : List (List Int)) (a b : Nat) : comB F a b = comB F b a := funext fun i => by unfold comB; exact Bool.and_comm _ _
theorem co_symm (F : List (List Int)) (a b : Nat) : coL F a b = coL F b a := by unfold coL; rw [com_symm]
theorem lst_single {n : Nat} {S : Nat → Bool} {k : Nat} (hk : k < n) (hS : ∀ i, i < n → (S i = true ↔ i = k)) : lst n S = [(k : Int)] := by
 rw [lst_of_inc (l := [(k : Int)]) (n := n) (by simp; omega) (by simp)]
 refine lst_congr fun i hi => ?_
 rw [Bool.eq_iff_iff, hS i hi, decide_eq_true_eq, List.mem_singleton]
 omega
/-- If one comes of the other one they have just that one in common at last. -/
theorem co_come {F : List (List Int)} (h : MixOk F) {a b : Nat} (ha : a < F.length) (hb : b < F.length) (hc : cm F a b = true) : coL F a b = [(b : Int)] := by
 rw [coL_lst]
 refine lst_single hb fun i hi => ?_
 rw [coB_iff]
 constructor
 ·rintro ⟨h1, h2⟩
  refine Classical.byContradiction fun hne => ?_
  have h3 := h2 b hb (by unfold comB; rw [hc, cm_self h hb]; rfl) (fun e => hne e.symm)
  unfold comB at h1
  rw [Bool.and_eq_true] at h1
  rw [h3] at h1; cases h1.2
 ·rintro rfl
  refine ⟨by unfold comB; rw [hc, cm_self h hb]; rfl, fun z hz h1 hne => ?_⟩
  cases e : cm F z i with
  | false => rfl
  | true =>
   have h2 := cm_le h z hz e
   unfold comB at h1
   rw [Bool.and_eq_true] at h1
   have h3 := cm_le h i hb h1.2
   exact absurd (by omega) hne
theorem co_come' {F : List (List Int)} (h : MixOk F) {a b : Nat} (ha : a < F.length) (hb : b < F.length) (hc : cm F b a = true) : coL F a b = [(a : Int)] := by
 rw [co_symm]; exact co_come h hb ha hc
theorem co_mem {F : List (List Int)} {a b : Nat} {y : Int} (hy : y ∈ coL F a b) : 0 ≤ y ∧ y < F.length ∧ cm F a y.toNat = true ∧ cm F b y.toNat = true := by
 rw [coL_lst] at hy
 obtain ⟨i, h1, h2, rfl⟩ := mem_lst.1 hy
 have h3 := (coB_iff.1 h2).1
 unfold comB at h3
 rw [Bool.and_eq_true] at h3
 rw [Int.toNat_natCast]
 exact ⟨by omega, by omega, h3.1, h3.2⟩
/-- They have something in common just if they come of a sack both. -/
theorem co_sack {F : List (List Int)} (h : MixOk F) {a b : Nat} (ha : a < F.length) (hb : b < F.length) : (∃ y ∈ sacksL F a, y ∈ sacksL F b) ↔ 0 < (coL F a b).length := by
 constructor
 ·rintro ⟨y, h1, h2⟩
  obtain ⟨i, i1, i2, rfl⟩ := mem_lst.1 h1
  have h3 := mem_lst_nat.1 h2
  rw [Bool.and_eq_true] at i2 h3
  obtain ⟨k, k1, k2, _⟩ := co_above h ha hb F.length i (by omega) i1 (by unfold comB; rw [i2.2, h3.2.2]; rfl)
  exact List.length_pos_iff.2 fun e => by
   have : (k : Int) ∈ coL F a b := by rw [coL_lst]; exact mem_lst_nat.2 ⟨k1, k2⟩
   rw [e] at this; cases this
 ·intro h1
  have h2 := co_mem (getD_mem h1 0)
  obtain ⟨s, s1, s2, s3⟩ := cm_sack h ((coL F a b).getD 0 0).toNat (by omega)
  have s4 : sackB F s = true := decide_eq_true s2
  refine ⟨(s : Int), mem_lst_nat.2 ⟨by omega, ?_⟩, mem_lst_nat.2 ⟨by omega, ?_⟩⟩
  ·rw [s4, cm_trans h a ha h2.2.2.1 s3]; rfl
  ·rw [s4, cm_trans h b hb h2.2.2.2 s3]; rfl
end Go.Px.Try

/-! Tq3 -/
namespace Go.Px.Try
open Go Go.Proofs Go.Px
/-- With more that is bad, and with more to come from, no less is free. -/
theorem fr_mono {F G : List (List Int)} (hF : MixOk F) (hG : MixOk G) {B B' W : Nat → Bool} {n : Nat} (hn : n ≤ F.length) (hn' : n ≤ G.length) (hB : ∀ i, i < n → B i = true → B' i = true) (hs : ∀ i, i < n → (frm F i = [] → frm G i = [])) (hf : ∀ i, i < n → ∀ k ∈ frm F i, k ∈ frm G i) : ∀ i, i < n → fr F B W i = true → fr G B' W i = true := by
 intro i
 induction i using Nat.strongRecOn with
 | ind i ih =>
  intro hi h
  obtain ⟨h1, h2⟩ := (fr_true hF (by omega)).1 h
  refine (fr_true hG (by omega)).2 ⟨h1, ?_⟩
  rcases h2 with ⟨a, b⟩ | ⟨k, hk, h3⟩
  ·exact .inl ⟨hs i hi a, hB i hi b⟩
  ·have := (hF.ris i (by omega)).1 _ hk
   exact .inr ⟨k, hf i hi _ hk, ih k (by omega) (by omega) h3⟩
theorem fr_below {F : List (List Int)} (h : MixOk F) {B W W' : Nat → Bool} : ∀ i, i < F.length → (∀ k, k ≤ i → W k = W' k) → fr F B W i = fr F B W' i := by
 intro i
 induction i using Nat.strongRecOn with
 | ind i ih =>
  intro hi hW
  rw [fr_eq h _ _ hi, fr_eq h _ _ hi, hW i (Nat.le_refl _)]
  congr 1
  split
  ·rfl
  ·rw [Bool.eq_iff_iff, List.any_eq_true, List.any_eq_true]
   constructor <;> (rintro ⟨k, hk, h2⟩; have := (h.ris i hi).1 k hk; refine ⟨k, hk, ?_⟩)
   ·rw [← ih k.toNat (by omega) (by omega) fun j hj => hW j (by omega)]; exact h2
   ·rw [ih k.toNat (by omega) (by omega) fun j hj => hW j (by omega)]; exact h2
theorem inS_lot {F : List (List Int)} {bad : List Int} {lot : Int} (hk : BadOk F bad lot) : inS (cutP F bad lot) lot.toNat = false := inS_not.2 fun h => ((cut_inv hk).1.lt _ h).2 rfl
theorem cut_lam {F : List (List Int)} {bad : List Int} {lot : Int} (hk : BadOk F bad lot) : cntS (inS (cutP F bad lot)) F.length = lam0 F bad lot := (cut_inv hk).2.cnt
/-- A cut of the one is a cut of the other one. -/
theorem lam_mono {F G : List (List Int)} {bad bad' : List Int} {lot : Int} (hk : BadOk F bad lot) (hk' : BadOk G bad' lot) (hl : F.length = G.length) (h : ∀ W : Nat → Bool, W lot.toNat = false → fr G (inZ bad') W lot.toNat = false → fr F (inZ bad) W lot.toNat = false) : lam0 F bad lot ≤ lam0 G bad' lot := by
 have h1 := lam_low hk (inS_lot hk') (h _ (inS_lot hk') (cut_inv hk').2.cut)
 rw [hl, cut_lam hk'] at h1
 omega
theorem cnt_le_add {A B : Nat → Bool} {s : Nat} (h : ∀ i, B i = true → A i = true ∨ i = s) (n : Nat) : cntS B n ≤ cntS A n + 1 := by
 refine Int.le_trans ?_ (cnt_mark_le A s n)
 refine cnt_mono fun i _ hi => ?_
 unfold mark
 rcases h i hi with h | h
 ·split
  ·rfl
  ·exact h
 ·rw [if_pos h]
/-- With one more bad sack at most one node more is needed. -/
theorem lam_add {F : List (List Int)} {bad bad' : List Int} {lot : Int} {s : Nat} (hk : BadOk F bad lot) (hk' : BadOk F bad' lot) (hs : frm F s = []) (h : ∀ i : Nat, (i : Int) ∈ bad' → (i : Int) ∈ bad ∨ i = s) : lam0 F bad' lot ≤ lam0 F bad lot + 1 := by
 have hlt := hkl hk
 have hsl : s ≠ lot.toNat := fun e => hk.ne (by rw [← e]; exact hs)
 have hl : mark (inS (cutP F bad lot)) s lot.toNat = false := by
  unfold mark; rw [if_neg fun e => hsl e.symm]; exact inS_lot hk
 have hf : fr F (inZ bad') (mark (inS (cutP F bad lot)) s) lot.toNat = false := by
  cases e : fr F (inZ bad') (mark (inS (cutP F bad lot)) s) lot.toNat with
  | false => rfl
  | true =>
   exfalso
   have key : ∀ i, i < F.length → fr F (inZ bad') (mark (inS (cutP F bad lot)) s) i = true → fr F (inZ bad) (inS (cutP F bad lot)) i = true := by
    intro i
    induction i using Nat.strongRecOn with
    | ind i ih =>
     intro hi hh
     obtain ⟨h1, h2⟩ := (fr_true hk.mix hi).1 hh
     unfold mark at h1
     split at h1
     ·cases h1
     ·rename_i hne
      refine (fr_true hk.mix hi).2 ⟨h1, ?_⟩
      rcases h2 with ⟨a, b⟩ | ⟨k, hkk, h3⟩
      ·refine .inl ⟨a, ?_⟩
       rcases h i (of_decide_eq_true b) with h4 | h4
       ·exact decide_eq_true h4
       ·exact absurd h4 hne
      ·have := (hk.mix.ris i hi).1 _ hkk
       exact .inr ⟨k, hkk, ih k (by omega) (by omega) h3⟩
   have := key _ hlt e
   rw [(cut_inv hk).2.cut] at this; cases this
 have h1 := lam_low hk' hl hf
 have h2 := cnt_mark_le (inS (cutP F bad lot)) s F.length
 rw [cut_lam hk] at h2
 omega
/-- Two lists, each of which is a shortest cut and comes before all that are not it, are one. -/
theorem first_uniq {F : List (List Int)} {bad : Nat → Bool} {lot m : Nat} {o p : List Nat} (ho : o.Pairwise (· < ·)) (hp : p.Pairwise (· < ·)) (hmo : MinCut F bad lot m (inS o)) (hmp : MinCut F bad lot m (inS p))
  (no : ∀ j, j < F.length → j ≠ lot → j ∉ o → ¬ ∃ X, MinCut F bad lot m X ∧ (∀ k ∈ o, k < j → X k = true) ∧ X j = true)
  (np : ∀ j, j < F.length → j ≠ lot → j ∉ p → ¬ ∃ X, MinCut F bad lot m X ∧ (∀ k ∈ p, k < j → X k = true) ∧ X j = true) : o = p := by
 have hmem : ∀ j, j ∈ o ↔ j ∈ p := by
  intro j
  induction j using Nat.strongRecOn with
  | ind j ih =>
   constructor
   ·intro h
    refine Classical.byContradiction fun hn => ?_
    have h1 := hmo.in' j (inS_iff.2 h)
    exact np j h1.1 h1.2 hn ⟨inS o, hmo, fun k hk hkj => inS_iff.2 ((ih k hkj).2 hk), inS_iff.2 h⟩
   ·intro h
    refine Classical.byContradiction fun hn => ?_
    have h1 := hmp.in' j (inS_iff.2 h)
    exact no j h1.1 h1.2 hn ⟨inS p, hmp, fun k hk hkj => inS_iff.2 ((ih k hkj).1 hk), inS_iff.2 h⟩
 have e : zl o = zl p := by
  have z1 : ∀ l : List Nat, l.Pairwise (· < ·) → (zl l).Pairwise (· < ·) := fun l h => by unfold zl; rw [List.pairwise_map]; exact h.imp fun h => by omega
  have z2 : ∀ l : List Nat, (∀ k ∈ l, k < F.length) → ∀ x ∈ zl l, 0 ≤ x ∧ x < (F.length : Int) := fun l h x hx => by
   obtain ⟨k, hk, rfl⟩ := List.mem_map.1 hx
   have := h k hk; omega
  rw [lst_of_inc (z2 o fun k hk => (hmo.in' k (inS_iff.2 hk)).1) (z1 o ho), lst_of_inc (z2 p fun k hk => (hmp.in' k (inS_iff.2 hk)).1) (z1 p hp)]
  refine lst_congr fun i _ => ?_
  have hz : ∀ l : List Nat, ((i : Int) ∈ zl l) ↔ i ∈ l := fun l => by
   unfold zl
   rw [List.mem_map]
   refine ⟨fun ⟨k, hk, e⟩ => ?_, fun h => ⟨i, h, rfl⟩⟩
   have e2 : k = i := by omega
   rw [← e2]; exact hk
  rw [decide_eq_decide, hz, hz, hmem]
 have hinj : ∀ l l' : List Nat, zl l = zl l' → l = l' := by
  intro l
  induction l with
  | nil => intro l' h; cases l' with
   | nil => rfl
   | cons b l' => exact absurd (congrArg List.length h) (by simp [zl])
  | cons a l ih => intro l' h; cases l' with
   | nil => exact absurd (congrArg List.length h) (by simp [zl])
   | cons b l' =>
    have h1 : (a : Int) = b ∧ zl l = zl l' := List.cons.inj h
    rw [ih l' h1.2, show a = b by omega]
 exact hinj _ _ e
theorem fr_alike {F G : List (List Int)} (hF : MixOk F) (hG : MixOk G) {B B' W : Nat → Bool} {n : Nat} (hn : n ≤ F.length) (hn' : n ≤ G.length) (hf : ∀ i, i < n → frm F i = frm G i) (hB : ∀ i, i < n → frm F i = [] → B i = B' i) : ∀ i, i < n → fr F B W i = fr G B' W i := by
 intro i
 induction i using Nat.strongRecOn with
 | ind i ih =>
  intro hi
  rw [fr_eq hF _ _ (by omega), fr_eq hG _ _ (by omega), ← hf i hi]
  congr 1
  by_cases he : frm F i = []
  ·rw [if_pos he, if_pos he, hB i hi he]
  ·rw [if_neg he, if_neg he, Bool.eq_iff_iff, List.any_eq_true, List.any_eq_true]
   constructor <;> (rintro ⟨k, hk, h2⟩; have := (hF.ris i (by omega)).1 k hk; refine ⟨k, hk, ?_⟩)
   ·rw [← ih k.toNat (by omega) (by omega)]; exact h2
   ·rw [ih k.toNat (by omega) (by omega)]; exact h2
theorem cnt_more (A : Nat → Bool) (n : Nat) : ∀ m, cntS A n ≤ cntS A (n + m)
 | 0 => Int.le_refl _
 | m + 1 => by
  have := cnt_more A n m
  rw [← Nat.add_assoc]
  show _ ≤ sm _ (n + m + 1)
  rw [sm]
  have h : cntS A (n + m) = sm (fun i => if A i = true then 1 else 0) (n + m) := rfl
  rw [← h]
  split <;> omega
theorem cnt_end {A : Nat → Bool} {n : Nat} (h : ∀ i, A i = true → i < n) : ∀ m, cntS A (n + m) = cntS A n
 | 0 => rfl
 | m + 1 => by
  have ih := cnt_end h m
  rw [← Nat.add_assoc]
  show sm _ (n + m + 1) = _
  rw [sm, if_neg fun e => by have := h _ e; omega, Int.add_zero]
  exact ih
/-- Nodes behind the lot change nothing. -/
theorem cut_trunc {F G : List (List Int)} {bad early : List Int} {lot : Int} (hk : BadOk F bad lot) (hk' : BadOk G early lot) (hG : G.length = lot.toNat + 1) (hf : ∀ i, i < G.length → frm F i = frm G i) (he : ∀ i : Nat, i < lot.toNat → ((i : Int) ∈ early ↔ (i : Int) ∈ bad)) : cutI G early lot = cutI F bad lot := by
 have hlt := hkl hk
 have hle : G.length ≤ F.length := by omega
 have hal : ∀ W, fr F (inZ bad) W lot.toNat = fr G (inZ early) W lot.toNat := fun W => by
  refine fr_alike hk.mix hk'.mix (n := G.length) hle (Nat.le_refl _) hf (fun i hi h0 => ?_) _ (by omega)
  by_cases e : i = lot.toNat
  ·rw [e] at h0; exact absurd h0 hk.ne
  ·unfold inZ
   rw [decide_eq_decide]; exact (he i (by omega)).symm
 have hFG : F.length = G.length + (F.length - G.length) := by omega
 have h1 : lam0 G early lot ≤ lam0 F bad lot := by
  have a := lam_low hk' (inS_lot hk) (by rw [← hal]; exact (cut_inv hk).2.cut)
  have b := cnt_more (inS (cutP F bad lot)) G.length (F.length - G.length)
  rw [← hFG, cut_lam hk] at b
  omega
 have h2 : lam0 F bad lot ≤ lam0 G early lot := by
  have a := lam_low hk (inS_lot hk') (by rw [hal]; exact (cut_inv hk').2.cut)
  have b := cnt_end (A := inS (cutP G early lot)) (n := G.length) (fun i hi => ((cut_inv hk').2.in' i hi).1) (F.length - G.length)
  rw [← hFG, cut_lam hk'] at b
  omega
 have hm : lam0 G early lot = lam0 F bad lot := by omega
 have toG : ∀ X, MinCut F (inZ bad) lot.toNat (lam0 F bad lot) X → MinCut G (inZ early) lot.toNat (lam0 F bad lot) X := fun X hX => by
  have hin : ∀ i, X i = true → i < G.length := fun i hi => by
   refine Classical.byContradiction fun hn => ?_
   have h3 := hX.in' i hi
   have h4 := cnt_rem h3.1 hi
   rw [hX.cnt] at h4
   have hXl : X lot.toNat = false := by
    cases e : X lot.toNat with
    | false => rfl
    | true => exact absurd rfl (hX.in' _ e).2
   have h5 := lam_low hk (X := fun j => if j = i then false else X j) (by show (if lot.toNat = i then false else X lot.toNat) = false; rw [if_neg (by omega)]; exact hXl) (by
    rw [fr_below hk.mix (W' := X) lot.toNat hlt fun k hk => if_neg (by omega)]; exact hX.cut)
   omega
  refine ⟨fun i hi => ⟨hin i hi, (hX.in' i hi).2⟩, ?_, by rw [← hal]; exact hX.cut⟩
  rw [← hX.cnt, hFG, cnt_end hin]
 have hcG := cut_inv hk'
 have hcF := cut_inv hk
 rw [hm] at hcG
 have toF : MinCut F (inZ bad) lot.toNat (lam0 F bad lot) (inS (cutP G early lot)) := by
  refine ⟨fun i hi => ?_, ?_, by rw [hal]; exact hcG.2.cut⟩
  ·have := hcG.2.in' i hi
   exact ⟨by omega, this.2⟩
  ·rw [hFG, cnt_end fun i hi => (hcG.2.in' i hi).1]; exact hcG.2.cnt
 have e : cutP G early lot = cutP F bad lot := by
  refine first_uniq (F := F) (bad := inZ bad) (lot := lot.toNat) (m := lam0 F bad lot) hcG.1.inc hcF.1.inc toF hcF.2 (fun j hj hne hn => ?_) hcF.1.not
  rintro ⟨X, hX, hX2, hX3⟩
  have hX' := toG X hX
  exact hcG.1.not j (hX'.in' j hX3).1 hne hn ⟨X, hX', hX2, hX3⟩
 unfold cutI
 rw [e]
/-! ### Lots joined -/
/-- A cut that has all bad sacks, and no more nodes, is just these. -/
theorem cut_all {F : List (List Int)} {bad : List Int} {lot : Int} (hk : BadOk F bad lot) (h : ∀ x ∈ bad, x ∈ cutI F bad lot) : cutI F bad lot = bad := by
 have hr := cut_ris hk
 have hb := hk.ris
 have hc := rs_cnt hr
 have hd := rs_cnt hb
 have hl := cut_len hk
 have hle := lam_bad hk
 rw [lst_of_inc hr.1 hr.2]
 conv => rhs; rw [lst_of_inc hb.1 hb.2]
 refine lst_congr fun i hi => ?_
 rw [decide_eq_decide]
 refine ⟨fun h1 => Classical.byContradiction fun h2 => ?_, fun h1 => h _ h1⟩
 have h3 : inZ bad i = false := decide_eq_false h2
 have h4 := cnt_mark hi h3
 have h5 : cntS (mark (inZ bad) i) F.length ≤ cntS (inZ (cutI F bad lot)) F.length := cnt_mono fun j _ hj => by
  unfold mark at hj
  split at hj
  ·rename_i e; rw [e]; exact decide_eq_true h1
  ·exact decide_eq_true (h _ (of_decide_eq_true hj))
 omega
/-- A lot that is mixed of just the bad sacks. -/
theorem cut_joined {F : List (List Int)} {bad : List Int} {lot : Int} (hk : BadOk F bad lot) (hf : frm F lot.toNat = bad) : cutI F bad lot = bad := by
 refine cut_all hk fun x hx => Classical.byContradiction fun hn => ?_
 have hr := hk.ris.1 x hx
 have h1 : fr F (inZ bad) (inZ (cutI F bad lot)) x.toNat = true := (fr_true hk.mix (by omega)).2 ⟨decide_eq_false (by rw [Int.toNat_of_nonneg hr.1]; exact hn), .inl ⟨hk.sk x hx, decide_eq_true (by rw [Int.toNat_of_nonneg hr.1]; exact hx)⟩⟩
 have h2 : fr F (inZ bad) (inZ (cutI F bad lot)) lot.toNat = true := (fr_true hk.mix (hkl hk)).2 ⟨decide_eq_false (by rw [Int.toNat_of_nonneg hk.l0]; exact cut_not hk), .inr ⟨x.toNat, by rw [hf, Int.toNat_of_nonneg hr.1]; exact hx, h1⟩⟩
 rw [cut_cut hk] at h2; cases h2
/-- A lot that is free has a cut of one node at least. -/
theorem lam_pos {F : List (List Int)} {bad : List Int} {lot : Int} (hk : BadOk F bad lot) (h : fr F (inZ bad) (fun _ => false) lot.toNat = true) : 1 ≤ lam0 F bad lot := by
 refine Classical.byContradiction fun hn => ?_
 have h1 := cut_cut hk
 have h2 := cut_len hk
 have h3 : cutI F bad lot = [] := List.length_eq_zero_iff.1 (by omega)
 rw [h3, nil_inZ, h] at h1
 cases h1
end Go.Px.Try

/-! LwJoined -/
namespace Go.Px.Try
open Go Go.Proofs Go.Px
set_option maxRecDepth 100000
/-- A mix with a lot of the bad sacks, and a lot of this one alone. -/
def joinM (F : List (List Int)) (bad : List Int) : List (List Int) := F ++ [bad, [(F.length : Int)]]
theorem join_len (F : List (List Int)) (bad : List Int) : (joinM F bad).length = F.length + 2 := by simp [joinM]
theorem join_old (F : List (List Int)) (bad : List Int) {i : Nat} (h : i < F.length) : frm (joinM F bad) i = frm F i := by
 unfold frm joinM
 rw [List.getD_eq_getElem?_getD, List.getElem?_append_left h, ← List.getD_eq_getElem?_getD]
theorem join_bad (F : List (List Int)) (bad : List Int) : frm (joinM F bad) F.length = bad := by
 unfold frm joinM
 rw [List.getD_eq_getElem?_getD, List.getElem?_append_right (Nat.le_refl _), Nat.sub_self]; rfl
theorem join_last (F : List (List Int)) (bad : List Int) : frm (joinM F bad) (F.length + 1) = [(F.length : Int)] := by
 unfold frm joinM
 rw [List.getD_eq_getElem?_getD, List.getElem?_append_right (by omega), show F.length + 1 - F.length = 1 by omega]; rfl
theorem join_mix {F : List (List Int)} (hm : MixOk F) (h8 : F.length ≤ 8) {bad : List Int} (hb : rsL bad F.length) : MixOk (joinM F bad) := by
 refine ⟨by rw [join_len]; omega, by rw [join_len]; omega, fun i hi => ?_⟩
 rw [join_len] at hi
 by_cases h1 : i < F.length
 ·rw [join_old F bad h1]; exact hm.ris i h1
 ·by_cases h2 : i = F.length
  ·rw [h2, join_bad]; exact hb
  ·rw [show i = F.length + 1 by omega, join_last]
   exact ⟨fun x hx => by rw [List.mem_singleton.1 hx]; omega, List.pairwise_singleton _ _⟩
theorem join_sk {F : List (List Int)} {bad : List Int} (hs : ∀ x ∈ bad, 0 ≤ x ∧ x < (F.length : Int) ∧ frm F x.toNat = []) : ∀ x ∈ bad, frm (joinM F bad) x.toNat = [] := fun x hx => by
 have := hs x hx
 rw [join_old F bad (by omega)]; exact this.2.2
section
variable {F : List (List Int)} (hm : MixOk F) (h8 : F.length ≤ 8) {bad : List Int} (hb : rsL bad F.length) (hs : ∀ x ∈ bad, 0 ≤ x ∧ x < (F.length : Int) ∧ frm F x.toNat = []) (hne : bad ≠ [])
include hm h8 hb hs hne
theorem join_k1 : BadOk (joinM F bad) bad F.length := by
 refine ⟨join_mix hm h8 hb, by omega, by rw [join_len]; omega, ⟨fun x hx => ?_, hb.2⟩, by rw [Int.toNat_natCast, join_bad]; exact hne, join_sk hs⟩
 have := hb.1 x hx
 rw [join_len]; omega
theorem join_k2 : BadOk (joinM F bad) bad (F.length + 1) := by
 have h := join_k1 hm h8 hb hs hne
 refine ⟨h.mix, by omega, by rw [join_len]; omega, h.ris, ?_, h.sk⟩
 rw [show ((F.length : Int) + 1).toNat = F.length + 1 by omega, join_last]; simp
theorem join_c1 : cutI (joinM F bad) bad F.length = bad := cut_joined (join_k1 hm h8 hb hs hne) (by rw [Int.toNat_natCast]; exact join_bad F bad)
theorem join_fr (W : Nat → Bool) (h : W F.length = true) : ∀ B, fr (joinM F bad) B W (F.length + 1) = false := fun B => by
 have hM := (join_k1 hm h8 hb hs hne).mix
 rw [fr_eq hM _ _ (by rw [join_len]; omega), join_last, if_neg (by simp)]
 have h2 : fr (joinM F bad) B W (Int.toNat F.length) = false := by
  rw [Int.toNat_natCast, fr_eq hM _ _ (by rw [join_len]; omega), h]; rfl
 rw [List.any_cons, h2, List.any_nil]; simp
theorem join_cc : checkCutR (joinM F bad) bad (F.length + 1) [(F.length : Int)] = 0 := by
 have hk := join_k2 hm h8 hb hs hne
 unfold checkCutR
 rw [if_neg (by simp [badE_ok.2 hk]), if_neg, if_neg]
 ·rw [show ((F.length : Int) + 1).toNat = F.length + 1 by omega, join_fr hm h8 hb hs hne (inZ [(F.length : Int)]) (decide_eq_true (by simp))]; simp
 ·rintro (h | h)
  ·refine h ⟨fun x hx => ?_, List.pairwise_singleton _ _⟩
   rw [List.mem_singleton.1 hx, join_len]; omega
  ·have := List.mem_singleton.1 h; omega
theorem join_l2 : (cutI (joinM F bad) bad (F.length + 1)).length = 1 := by
 have hk := join_k2 hm h8 hb hs hne
 have h1 := lam_cut hk (join_cc hm h8 hb hs hne)
 have h2 := lam_pos hk (by
  rw [show ((F.length : Int) + 1).toNat = F.length + 1 by omega]
  obtain ⟨x, hx⟩ := List.exists_mem_of_ne_nil _ hne
  have hr := hs x hx
  have hM := hk.mix
  have f1 : fr (joinM F bad) (inZ bad) (fun _ => false) x.toNat = true := (fr_true hM (by rw [join_len]; omega)).2 ⟨rfl, .inl ⟨hk.sk x hx, decide_eq_true (by rw [Int.toNat_of_nonneg hr.1]; exact hx)⟩⟩
  have f2 : fr (joinM F bad) (inZ bad) (fun _ => false) F.length = true := (fr_true hM (by rw [join_len]; omega)).2 ⟨rfl, .inr ⟨x.toNat, by rw [join_bad, Int.toNat_of_nonneg hr.1]; exact hx, f1⟩⟩
  exact (fr_true hM (by rw [join_len]; omega)).2 ⟨rfl, .inr ⟨F.length, by rw [join_last]; simp, f2⟩⟩)
 rw [cut_len hk]
 simp only [List.length_singleton] at h1
 omega
theorem join_th : (F.length : Int) ∈ thL (joinM F bad) (F.length + 1) := by
 refine th_mem.2 ⟨F.length, by rw [join_len]; omega, by omega, ?_, rfl⟩
 exact join_fr hm h8 hb hs hne _ (decide_eq_true rfl) _
end
/-- Two lists put behind others, read. -/
theorem ImpS.two {t : Bool} {n m : Nat} {F G : List (List Int)} {z g : Nat → DV} {x y : List Int} (hm : m = G.length) (hn : n = F.length) (hm2 : m = n + 2) (hG : ∀ j, j < F.length + 2 → G.getD j [] = if j < F.length then F.getD j [] else if j = F.length then x else y) (g0 : g 0 = ints x) (g1 : g 1 = ints y) : ImpS (.sl t 1 m fun i => apd n (apd 0 z fun i => ints (F.getD i [])) g (0 + i)) (slOf 1 ints [] G) := by
 refine ⟨Imp.sl (fun e => by cases e) hm fun j hj => Imp.of_eq ?_⟩
 show apd n (apd 0 z fun i => ints (F.getD i [])) g (0 + j) = ints (G.getD j [])
 rw [hG j (by omega), Nat.zero_add]
 unfold apd
 by_cases h1 : j < F.length
 ·rw [if_pos (by omega), if_neg (by omega), Nat.sub_zero, if_pos h1]
 ·rw [if_neg (by omega), if_neg h1]
  by_cases h2 : j = F.length
  ·rw [if_pos h2, show j - n = 0 by omega, g0]
  ·rw [if_neg h2, show j - n = 1 by omega, g1]
set_option maxHeartbeats 16000000 in
theorem TraceJoined_spec (F : List (List Int)) (b : Nat) (hF : Lens F) (hb : b < 65536) : Fn Try.prog 13 [mixD F, u16 b] (bool true) := by
 have hw := Works_spec
 by_cases hm : MixOk F
 case neg =>
  have hf := fine_no hF hm
  refine Fn.of_ex (cuts := []) tys hM Try.func13 rfl Try.call13 rfl ?_
  show exC Try.prog T [] _ false none 0 (entry 107 [mixD F, u16 b]) (finQ T [ResultVar.tmp 4] _)
  conv => whnf
  repeat' first | ((first | refine Ob.a ?_ | refine Sp.tt ?_ | refine Sp.ff ?_ | refine Sp.yes ?_ | refine Sp.no ?_ | refine Sp.nyes ?_ | refine Sp.nno ?_ | refine Fi.a ?_);conv=>whnf) | ((first | refine Sp.ne ?_ ?_ | refine Sp.dec ?_ ?_ | refine Sp.ndec ?_ ?_ | refine Sp.mk ?_ ?_) <;> intro hc <;> conv => whnf) | (apply Cl.go;(conv=>whnf); (first | refine Ob.call (hf) ?_ | refine Ob.call (hw) ?_);(conv=>whnf)) | (refine Ob.b ?_;conv=>whnf)
  all_goals exact Lf
 have hf := fine_yes hF hm
 have hl10 := hm.l10
 have hB := Bad_spec F hm b
 by_cases h8 : (F.length : Int) ≤ 8 ∧ 0 < ((badL F b).length : Int)
 case neg =>
  generalize badL F b = bd at *
  refine Fn.of_ex (cuts := []) tys hM Try.func13 rfl Try.call13 rfl ?_
  show exC Try.prog T [] _ false none 0 (entry 107 [mixD F, u16 b]) (finQ T [ResultVar.tmp 4] _)
  conv => whnf
  repeat' first | ((first | refine Ob.a ?_ | refine Sp.tt ?_ | refine Sp.ff ?_ | refine Sp.yes ?_ | refine Sp.no ?_ | refine Sp.nyes ?_ | refine Sp.nno ?_ | refine Fi.a ?_);conv=>whnf) | ((first | refine Sp.ne ?_ ?_ | refine Sp.dec ?_ ?_ | refine Sp.ndec ?_ ?_ | refine Sp.mk ?_ ?_) <;> intro hc <;> conv => whnf) | (apply Cl.go;(conv=>whnf); (first | refine Ob.call (hf) ?_ | refine Ob.call (hB) ?_ | refine Ob.call (hw) ?_);(conv=>whnf)) | (refine Ob.b ?_;conv=>whnf)
  all_goals first | (exfalso; omega) | exact Lf
 obtain ⟨h8, h0⟩ := h8
 have hbs : rsL (badL F b) F.length := lst_rs _ _
 have hsk : ∀ x ∈ badL F b, 0 ≤ x ∧ x < (F.length : Int) ∧ frm F x.toNat = [] := fun x hx => by
  obtain ⟨i, i1, i2, rfl⟩ := mem_lst.1 hx
  rw [Bool.and_eq_true] at i2
  rw [Int.toNat_natCast]
  exact ⟨by omega, by omega, of_decide_eq_true i2.1⟩
 have hne : badL F b ≠ [] := fun e => by rw [e] at h0; simp at h0
 have h8' : F.length ≤ 8 := by omega
 have hN := (join_k1 hm h8' hbs hsk hne).mix
 have hC1 := cut_spec _ _ _ (join_k1 hm h8' hbs hsk hne)
 rw [join_c1 hm h8' hbs hsk hne] at hC1
 have hC2 := cut_spec _ _ _ (join_k2 hm h8' hbs hsk hne)
 have hl2 := join_l2 hm h8' hbs hsk hne
 have hT := through_at hN (x := (F.length : Int) + 1) (by omega) (by rw [join_len]; omega)
 rw [show ((F.length : Int) + 1).toNat = F.length + 1 by omega] at hT
 have htl : (thL (joinM F (badL F b)) (F.length + 1)).length ≤ 10 := lst_ten hN _
 have hH := Has_spec (thL (joinM F (badL F b)) (F.length + 1)) F.length (by omega)
 rw [decide_eq_true (join_th hm h8' hbs hsk hne)] at hH
 have hbl : (badL F b).length ≤ 10 := lst_ten hm _
 have hCC := CheckCutP_spec (joinM F (badL F b)) (mixS hN) (badL F b) (by omega) (F.length + 1) [(F.length : Int)] (by simp)
 rw [join_cc hm h8' hbs hsk hne] at hCC
 have i1 := ints_same (badL F b) (by omega)
 have io := of_spec [(F.length : Int)]
 have hjl := join_len F (badL F b)
 have hjd : ∀ j, j < F.length + 2 → (joinM F (badL F b)).getD j [] = if j < F.length then F.getD j [] else if j = F.length then badL F b else [(F.length : Int)] := fun j hj => by
  by_cases h1 : j < F.length
  ·rw [if_pos h1]; exact join_old F _ h1
  ·rw [if_neg h1]
   by_cases h2 : j = F.length
   ·rw [if_pos h2, h2]; exact join_bad F _
   ·rw [if_neg h2, show j = F.length + 1 by omega]; exact join_last F _
 generalize cutI (joinM F (badL F b)) (badL F b) (F.length + 1) = c2 at *
 generalize thL (joinM F (badL F b)) (F.length + 1) = th at *
 generalize joinM F (badL F b) = G at *
 clear hbs hsk hne h8'
 generalize badL F b = bd at *
 refine Fn.of_ex (cuts := []) tys hM Try.func13 rfl Try.call13 rfl ?_
 show exC Try.prog T [] _ false none 0 (entry 107 [mixD F, u16 b]) (finQ T [ResultVar.tmp 4] _)
 conv => whnf
 repeat' first | ((first | refine Ob.a ?_ | refine Sp.tt ?_ | refine Sp.ff ?_ | refine Sp.yes ?_ | refine Sp.no ?_ | refine Sp.nyes ?_ | refine Sp.nno ?_ | refine Fi.a ?_);conv=>whnf) | ((first | refine Sp.ne ?_ ?_ | refine Sp.dec ?_ ?_ | refine Sp.ndec ?_ ?_ | refine Sp.mk ?_ ?_) <;> intro hc <;> conv => whnf) | (apply Cl.go;(conv=>whnf); (first | refine Ob.call (hf) ?_ | refine Ob.call (hB) ?_ | refine Ob.call (io) ?_);(conv=>whnf)) | (refine Ob.b ?_;conv=>whnf)
 all_goals try (exfalso; omega)
 apply Cl.go
 (conv=>whnf)
 refine Ob.fn ?_ ?_ ?_ (hC1)
 rotate_left
 all_goals try (repeat' first | (refine Edge.fast ?_) | ((conv=>whnf); first | exact True.intro | (refine And.intro ?_ ?_) | exact rfl | exact Nat.le_of_eq (Nat.zero_add _) | exact ImpS.refl _ | ((conv => arg 1; whnf); first | exact ImpS.refl _ | (refine ImpS.nil_eq ?_) | (refine ImpS.vnil_eq ?_) | (refine ImpS.row ?_) | (refine ImpS.rowN ?_ ?_) | (refine ImpS.sl_eq ?_) | (refine ImpS.expl rfl ?_)) | (refine row_snoc' ?_) | (apply row_upd) | exact cimp_none | exact cimp_same | exact List.not_mem_nil | exact DImp.refl _) | exact rfl | (refine And.intro ?_ ?_) | exact ImpS.refl _)
 all_goals try first | assumption | omega
 ·exact ImpS.two (by omega) (by omega) rfl hjd rfl rfl
 conv => whnf
 repeat' first | ((first | refine Ob.a ?_ | refine Sp.tt ?_ | refine Sp.ff ?_ | refine Sp.yes ?_ | refine Sp.no ?_ | refine Sp.nyes ?_ | refine Sp.nno ?_ | refine Fi.a ?_);conv=>whnf) | ((first | refine Sp.ne ?_ ?_ | refine Sp.dec ?_ ?_ | refine Sp.ndec ?_ ?_ | refine Sp.mk ?_ ?_) <;> intro hc <;> conv => whnf) | (refine Ob.b ?_;conv=>whnf)
 all_goals try (exfalso; omega)
 apply Cl.go
 (conv=>whnf)
 refine Ob.fn ?_ ?_ ?_ (hC2)
 rotate_left
 all_goals try (repeat' first | (refine Edge.fast ?_) | ((conv=>whnf); first | exact True.intro | (refine And.intro ?_ ?_) | exact rfl | exact Nat.le_of_eq (Nat.zero_add _) | exact ImpS.refl _ | ((conv => arg 1; whnf); first | exact ImpS.refl _ | (refine ImpS.nil_eq ?_) | (refine ImpS.vnil_eq ?_) | (refine ImpS.row ?_) | (refine ImpS.rowN ?_ ?_) | (refine ImpS.sl_eq ?_) | (refine ImpS.expl rfl ?_)) | (refine row_snoc' ?_) | (apply row_upd) | exact cimp_none | exact cimp_same | exact List.not_mem_nil | exact DImp.refl _) | exact rfl | (refine And.intro ?_ ?_) | exact ImpS.refl _)
 all_goals try first | assumption | omega
 ·exact ImpS.two (by omega) (by omega) rfl hjd rfl rfl
 conv => whnf
 repeat' first | ((first | refine Ob.a ?_ | refine Sp.tt ?_ | refine Sp.ff ?_ | refine Sp.yes ?_ | refine Sp.no ?_ | refine Sp.nyes ?_ | refine Sp.nno ?_ | refine Fi.a ?_);conv=>whnf) | ((first | refine Sp.ne ?_ ?_ | refine Sp.dec ?_ ?_ | refine Sp.ndec ?_ ?_ | refine Sp.mk ?_ ?_) <;> intro hc <;> conv => whnf) | (refine Ob.b ?_;conv=>whnf)
 all_goals try (exfalso; omega)
 apply Cl.go
 (conv=>whnf)
 refine Ob.fn ?_ ?_ ?_ (hT)
 rotate_left
 all_goals try (repeat' first | (refine Edge.fast ?_) | ((conv=>whnf); first | exact True.intro | (refine And.intro ?_ ?_) | exact rfl | exact Nat.le_of_eq (Nat.zero_add _) | exact ImpS.refl _ | ((conv => arg 1; whnf); first | exact ImpS.refl _ | (refine ImpS.nil_eq ?_) | (refine ImpS.vnil_eq ?_) | (refine ImpS.row ?_) | (refine ImpS.rowN ?_ ?_) | (refine ImpS.sl_eq ?_) | (refine ImpS.expl rfl ?_)) | (refine row_snoc' ?_) | (apply row_upd) | exact cimp_none | exact cimp_same | exact List.not_mem_nil | exact DImp.refl _) | exact rfl | (refine And.intro ?_ ?_) | exact ImpS.refl _)
 all_goals try first | assumption | omega
 ·exact ImpS.two (by omega) (by omega) rfl hjd rfl rfl
 conv => whnf
 repeat' first | ((first | refine Ob.a ?_ | refine Sp.tt ?_ | refine Sp.ff ?_ | refine Sp.yes ?_ | refine Sp.no ?_ | refine Sp.nyes ?_ | refine Sp.nno ?_ | refine Fi.a ?_);conv=>whnf) | ((first | refine Sp.ne ?_ ?_ | refine Sp.dec ?_ ?_ | refine Sp.ndec ?_ ?_ | refine Sp.mk ?_ ?_) <;> intro hc <;> conv => whnf) | (apply Cl.go;(conv=>whnf); (first | refine Ob.call (i1) ?_ | refine Ob.call (hH) ?_ | refine Ob.call (io) ?_);(conv=>whnf)) | (refine Ob.b ?_;conv=>whnf)
 all_goals try (exfalso; omega)
 apply Cl.go
 (conv=>whnf)
 refine Ob.fn ?_ ?_ ?_ (hCC)
 rotate_left
 all_goals try (repeat' first | (refine Edge.fast ?_) | ((conv=>whnf); first | exact True.intro | (refine And.intro ?_ ?_) | exact rfl | exact Nat.le_of_eq (Nat.zero_add _) | exact ImpS.refl _ | ((conv => arg 1; whnf); first | exact ImpS.refl _ | (refine ImpS.nil_eq ?_) | (refine ImpS.vnil_eq ?_) | (refine ImpS.row ?_) | (refine ImpS.rowN ?_ ?_) | (refine ImpS.sl_eq ?_) | (refine ImpS.expl rfl ?_)) | (refine row_snoc' ?_) | (apply row_upd) | exact cimp_none | exact cimp_same | exact List.not_mem_nil | exact DImp.refl _) | exact rfl | (refine And.intro ?_ ?_) | exact ImpS.refl _)
 all_goals try first | assumption | omega
 ·exact ImpS.two (by omega) (by omega) rfl hjd rfl rfl
 conv => whnf
 repeat' first | ((first | refine Ob.a ?_ | refine Sp.tt ?_ | refine Sp.ff ?_ | refine Sp.yes ?_ | refine Sp.no ?_ | refine Sp.nyes ?_ | refine Sp.nno ?_ | refine Fi.a ?_);conv=>whnf) | ((first | refine Sp.ne ?_ ?_ | refine Sp.dec ?_ ?_ | refine Sp.ndec ?_ ?_ | refine Sp.mk ?_ ?_) <;> intro hc <;> conv => whnf) | (apply Cl.go;(conv=>whnf); (first | refine Ob.call (hw) ?_);(conv=>whnf)) | (refine Ob.b ?_;conv=>whnf)
 all_goals first | (exfalso; omega) | exact Lf
end Go.Px.Try

namespace Go.Proofs.Ytbgpdcbljjdjnaa.traceJoinedDone
open Go.ChangeShapes Go.WideShapes Go.ChangeAt Go.RowKit
open Go.Px
open Go.Px.Try (own laidOut)
set_option maxRecDepth 100000 in
theorem lifted (os : Os) (started : os.Started) (H : Type) (enc : TypeId × Value → H) :
  ReturnsInHanded {} Try.checked os 13 .any (Rows.traceJoinedSpec.pre6 enc Try.prog Try.f13 Rows.traceJoinedRow.domain false) (Rows.traceJoinedSpec.post enc Try.prog Try.f13 false true false false) := by
 refine returnsInHanded_of_change (C := Try.checked) own started (by kernel_rfl) Try.func13
  (ChangeSpec.witness6 (enc := enc) (C := Try.checked) false ⟨#[], #[.agg #[.slice none 0 0], .int .u16 0], []⟩ 8 (by kernel_rfl) (by kernel_rfl) (by kernel_rfl) (by kernel_rfl)) ?_
 intro W base args ds gs before hval0 hW hcnd _
 have hval : ∀ (j : Nat) t v, Try.f13.params[j]? = some t → args[j]? = some v → Value.okWide Try.prog W .any base t v := hval0
 have hW' := hW
 obtain ⟨p, q, hA0, hV, rfl, hfz, hnd⟩ := hW
 have hA : DataW.TrodAll enc Try.prog W 0 (fun _ => true) true Try.f13.params.toList args.toList ds p := hA0
 rw [Try.params13] at hA hval
 obtain ⟨v0, vs0, d0, ds0, p0, q0, hargs, rfl, rfl, h0, r0⟩ := trodAll_cons hA
 obtain ⟨v1, vs1, d1, ds1, p1, q1, rfl, rfl, rfl, h1, r1⟩ := trodAll_cons r0
 obtain ⟨rfl, rfl, rfl⟩ := trodAll_nil r1
 obtain rfl : args = #[v0, v1] := by cases args; simp_all
 obtain ⟨rfl, rfl⟩ := trodVars_none hV
 have lt0 : ∀ x ∈ p0, x.block < W.heap.size := by have k := h0; obtain ⟨m, hm⟩ := k; exact DataW.trod_lt m _ _ _ hm
 obtain ⟨x0, g0, e0⟩ := Go.Px.Try.mix_arg h0 (hval 0 24 v0 rfl rfl)
 have lt1 : ∀ x ∈ p1, x.block < W.heap.size := by have k := h1; obtain ⟨m, hm⟩ := k; exact DataW.trod_lt m _ _ _ hm
 obtain ⟨x1, g1, e1⟩ := Go.Px.Try.u16_arg h1 (hval 1 51 v1 rfl rfl)
 clear hA0 hval0
 refine ((Go.Px.Try.TraceJoined_spec x0 x1 g0 g1).2 (All W) W [v0, v1] (fun _ h => h) ⟨e0, e1, trivial⟩).mono fun e W' ⟨v, S', he, hr, _, _, bel⟩ => ?_
 obtain rfl : v = .bool true := hr
 subst he
 exact ⟨_, rfl, _, _, _, [], _, [], hW', trodAll_mk1 (shut_bool Try.underlying4 _), (trodAll_cons_mk (Below.trod laidOut (by kernel_rfl) (of_decide_eq_true (by kernel_rfl)) h0 bel lt0) (trodAll_cons_mk (Below.trod laidOut (by kernel_rfl) (of_decide_eq_true (by kernel_rfl)) h1 bel lt1) trodAll_mk0)), rfl, bel.frame _, fun h => by cases h⟩
theorem over : Rows.traceJoinedRow.holds Try.pinned (OpenSpec.ofChange Rows.traceJoinedSpec) :=
 OpenClaim.holds_of_wide 13 Try.f13 rfl rfl rfl rfl rfl rfl rfl ⟨rfl, rfl, rfl, rfl, rfl⟩ rfl rfl rfl rfl rfl (by kernel_rfl) Try.func13 (by kernel_rfl)
  (of_decide_eq_true (by kernel_rfl)) (by unfold Func.isWrapper; first | (rw [if_pos (by decide +kernel)]; kernel_rfl) | (rw [if_neg (by decide +kernel)]; exact ⟨rfl, rfl⟩))
  (fun os started H enc _ => lifted os started H enc)
theorem proved : Rows.TraceJoinedSaid := over
#print axioms proved
end Go.Proofs.Ytbgpdcbljjdjnaa.traceJoinedDone
