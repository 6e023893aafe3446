/- The statement TraceCommon: what two nodes have in common at last is the same the other way round; both come of each of it; a node and itself have just this one; if one comes of the other one, just the other one; without anything in common they come of no sack both. Conditions: none. -/
import Derived.Test.YtbgpdcbljjdjnaaJ8
import Derived.Test.YtbgpdcbljjdjnaaJ6
import Derived.Test.YtbgpdcbljjdjnaaJ5
import Derived.Test.YtbgpdcbljjdjnaaRows
import Derived.Test.YtbgpdcbljjdjnaaJ9
set_option linter.unusedVariables false
set_option linter.unusedSimpArgs false
/-! Law3 -/
namespace Go.Px.Try
open Go Go.Proofs Go.Px
set_option maxRecDepth 100000
theorem fine_yes {F : List (List Int)} (hF : Lens F) (hm : MixOk F) : Fn Try.prog 39 [mixD F] (bool true) := by
 have h := fine_spec F hF.1 hF.2
 rwa [decide_eq_true (checkM_ok.2 hm)] at h
theorem fine_no {F : List (List Int)} (hF : Lens F) (hm : ¬ MixOk F) : Fn Try.prog 39 [mixD F] (bool false) := by
 have h := fine_spec F hF.1 hF.2
 rwa [decide_eq_false fun h => hm (checkM_ok.1 h)] at h
theorem mixS {F : List (List Int)} (hm : MixOk F) : SmallM F := mix_small (mix_wide hm)
theorem node1 {F : List (List Int)} (hm : MixOk F) {x : Int} (h0 : 0 ≤ x) (h1 : x < F.length) : nodeE F [x] = 0 := nodeE_ok.2 ⟨hm, fun y hy => by rw [List.mem_singleton.1 hy]; exact ⟨h0, h1⟩⟩
theorem node2 {F : List (List Int)} (hm : MixOk F) {x y : Int} (h0 : 0 ≤ x) (h1 : x < F.length) (h2 : 0 ≤ y) (h3 : y < F.length) : nodeE F [x, y] = 0 := nodeE_ok.2 ⟨hm, fun z hz => by
 rcases List.mem_cons.1 hz with e | hz
 ·rw [e]; exact ⟨h0, h1⟩
 ·rw [List.mem_singleton.1 hz]; exact ⟨h2, h3⟩⟩
section
variable {F : List (List Int)} (hm : MixOk F) {x : Int} (h0 : 0 ≤ x) (h1 : x < F.length)
include hm h0 h1
theorem count_at : Fn Try.prog 19 [mixD F, int x] (tpl [int (cg F (fun _ => false) x.toNat), int 0]) := by
 have h := CountP_spec F (mixS hm) x
 rwa [node1 hm h0 h1, if_pos rfl] at h
theorem sacks_at : Fn Try.prog 17 [mixD F, int x] (tpl [ints (sacksL F x.toNat), int 0]) := by
 have h := SacksP_spec F (mixS hm) x
 rwa [node1 hm h0 h1, if_pos rfl] at h
theorem through_at : Fn Try.prog 24 [mixD F, int x] (tpl [ints (thL F x.toNat), int 0]) := by
 have h := ThroughP_spec F (mixS hm) x
 rwa [node1 hm h0 h1, if_pos rfl] at h
theorem parts_at : Fn Try.prog 26 [mixD F, int x] (tpl [slOf 2 ratD (0, 0) (partsL F x.toNat), int 0]) := by
 have h := PartsP_spec F (mixS hm) x
 rwa [node1 hm h0 h1, if_pos rfl] at h
theorem common_at {y : Int} (h2 : 0 ≤ y) (h3 : y < F.length) : Fn Try.prog 28 [mixD F, int x, int y] (tpl [ints (coL F x.toNat y.toNat), int 0]) := by
 have h := CommonP_spec F (mixS hm) x y
 rwa [node2 hm h0 h1 h2 h3, if_pos rfl] at h
end
theorem lst_rs (n : Nat) (S : Nat → Bool) : rsL (lst n S) n := ⟨fun x hx => by obtain ⟨j, h1, _, rfl⟩ := mem_lst.1 hx; omega, lst_inc _ _⟩
theorem rising_lst {F : List (List Int)} (hm : MixOk F) (S : Nat → Bool) : Fn Try.prog 47 [ints (lst F.length S), int F.length] (bool true) := by
 have h := Rising_spec (lst F.length S) F.length (lst_small (mixS hm) S)
 rwa [decide_eq_true (lst_rs _ _)] at h
theorem lst_ten {F : List (List Int)} (hm : MixOk F) (S : Nat → Bool) : (lst F.length S).length ≤ 10 := by
 have := lst_length_le F.length S
 have := hm.l10
 omega
end Go.Px.Try

/-! Tq2 -/
namespace Go.Px.Try
open Go Go.Proofs Go.Px
theorem fr_sacks {F : List (List Int)} (h : MixOk F) {B B' W : Nat → Bool} (hB : ∀ i, i < F.length → frm F i = [] → B i = B' i) : ∀ i, i < F.length → fr F B W i = fr F B' W i := by
 intro i
 induction i using Nat.strongRecOn with
 | ind i ih =>
  intro hi
  rw [fr_eq h _ _ hi, fr_eq h _ _ hi]
  congr 1
  by_cases he : frm F i = []
  ·rw [if_pos he, if_pos he, hB i hi he]
  ·rw [if_neg he, if_neg he]
   rw [Bool.eq_iff_iff, List.any_eq_true, List.any_eq_true]
   constructor <;> (rintro ⟨k, hk, h2⟩; have := (h.ris i hi).1 k hk; refine ⟨k, hk, ?_⟩)
   ·rw [← ih k.toNat (by omega) (by omega)]; exact h2
   ·rw [ih k.toNat (by omega) (by omega)]; exact h2
/-- What is free at a node is free at one that comes of it, if no node above is taken away. -/
theorem fr_up {F : List (List Int)} (h : MixOk F) {B W : Nat → Bool} {b : Nat} (hb : fr F B W b = true) (hW : ∀ k, b < k → W k = false) : ∀ x, x < F.length → cm F x b = true → fr F B W x = true := by
 intro x
 induction x using Nat.strongRecOn with
 | ind x ih =>
  intro hx hc
  rcases (cm_true h hx).1 hc with e | ⟨k, hk, hc⟩
  ·rw [e]; exact hb
  ·have h1 := (h.ris x hx).1 _ hk
   have h2 := cm_le h k (by omega) hc
   exact (fr_true h hx).2 ⟨hW x (by omega), .inr ⟨k, hk, ih k (by omega) (by omega) hc⟩⟩
theorem fr_not {F : List (List Int)} (h : MixOk F) {b : Nat} : ∀ x, x < F.length → cm F x b = false → fr F (fun _ => true) (fun i => decide (i = b)) x = true := by
 intro x
 induction x using Nat.strongRecOn with
 | ind x ih =>
  intro hx hc
  have hne : x ≠ b := fun e => by rw [e, cm_self h (by omega)] at hc; cases hc
  refine (fr_true h hx).2 ⟨decide_eq_false hne, ?_⟩
  by_cases he : frm F x = []
  ·exact .inl ⟨he, rfl⟩
  ·obtain ⟨k, hk⟩ := List.exists_mem_of_ne_nil _ he
   have h1 := (h.ris x hx).1 k hk
   refine .inr ⟨k.toNat, by rw [Int.toNat_of_nonneg h1.1]; exact hk, ih k.toNat (by omega) (by omega) ?_⟩
   cases e : cm F k.toNat b with
   | false => rfl
   | true => rw [(cm_true h hx).2 (.inr ⟨k.toNat, by rw [Int.toNat_of_nonneg h1.1]; exact hk, e⟩)] at hc; cases hc
theorem th_mem {F : List (List Int)} {x : Nat} {y : Int} : y ∈ thL F x ↔ ∃ i : Nat, i < F.length ∧ i ≠ x ∧ fr F (fun _ => true) (fun j => decide (j = i)) x = false ∧ y = i := by
 unfold thL
 rw [mem_lst]
 constructor
 ·rintro ⟨i, h1, h2, h3⟩
  unfold thB at h2
  rw [Bool.and_eq_true, decide_eq_true_eq] at h2
  exact ⟨i, h1, h2.1, by simpa using h2.2, h3⟩
 ·rintro ⟨i, h1, h2, h3, h4⟩
  refine ⟨i, h1, ?_, h4⟩
  unfold thB
  rw [decide_eq_true h2, h3]; rfl
/-- Of two nodes through which all comes, all of the greater one comes through the other one. -/
theorem th_two {F : List (List Int)} (h : MixOk F) {x : Nat} (hx : x < F.length) {a b : Int} (ha : a ∈ thL F x) (hb : b ∈ thL F x) (hab : a < b) : a ∈ thL F b.toNat := by
 obtain ⟨i, i1, i2, i3, rfl⟩ := th_mem.1 ha
 obtain ⟨j, j1, j2, j3, rfl⟩ := th_mem.1 hb
 rw [Int.toNat_natCast]
 refine th_mem.2 ⟨i, i1, by omega, ?_, rfl⟩
 cases e : fr F (fun _ => true) (fun k => decide (k = i)) j with
 | false => rfl
 | true =>
  exfalso
  have hc : cm F x j = true := by
   cases e2 : cm F x j with
   | true => rfl
   | false => rw [fr_not h x hx e2] at j3; cases j3
  rw [fr_up h e (fun k hk => decide_eq_false (by omega)) x hx hc] at i3
  cases i3
/-- A row of nodes up to x, from a sack on, has all nodes through which all of it comes. -/
theorem th_way {F : List (List Int)} (h : MixOk F) {w : List Int} (hp : 0 < w.length) (h0 : 0 ≤ w.getD 0 0 ∧ w.getD 0 0 < F.length) (hs : frm F (w.getD 0 0).toNat = []) (hw : ∀ j, 1 ≤ j → j < w.length → (0 ≤ w.getD j 0 ∧ w.getD j 0 < (F.length : Int)) ∧ w.getD (j - 1) 0 ∈ F.getD (w.getD j 0).toNat []) {y : Int} (hy : y ∈ thL F (w.getD (w.length - 1) 0).toNat) : y ∈ w := by
 obtain ⟨i, i1, i2, i3, rfl⟩ := th_mem.1 hy
 refine Classical.byContradiction fun hn => ?_
 have hne : ∀ j, j < w.length → (w.getD j 0).toNat ≠ i := fun j hj e => by
  have hr : 0 ≤ w.getD j 0 := by
   cases j with
   | zero => exact h0.1
   | succ j => exact (hw (j + 1) (by omega) hj).1.1
  exact hn (by rw [← e, Int.toNat_of_nonneg hr]; exact getD_mem hj 0)
 have key : ∀ j, j < w.length → fr F (fun _ => true) (fun k => decide (k = i)) (w.getD j 0).toNat = true := by
  intro j
  induction j with
  | zero => intro hj; exact (fr_true h (by omega)).2 ⟨decide_eq_false (hne 0 hj), .inl ⟨hs, rfl⟩⟩
  | succ j ih =>
   intro hj
   obtain ⟨h2, h3⟩ := hw (j + 1) (by omega) hj
   rw [Nat.add_sub_cancel] at h3
   have hr0 := (h.ris _ (by omega)).1 _ h3
   exact (fr_true h (by omega)).2 ⟨decide_eq_false (hne (j + 1) hj), .inr ⟨(w.getD j 0).toNat, by rw [Int.toNat_of_nonneg hr0.1]; exact h3, ih (by omega)⟩⟩
 rw [key (w.length - 1) (by omega)] at i3
 cases i3
/-! ### In common -/
theorem com_symm (F : List (List Int)) (a b : Nat) : comB F a b = comB F b a := funext fun i => by unfold comB; exact Bool.and_comm _ _
theorem co_symm (F : List (List Int)) (a b : Nat) : coL F a b = coL F b a := by unfold coL; rw [com_symm]
theorem lst_single {n : Nat} {S : Nat → Bool} {k : Nat} (hk : k < n) (hS : ∀ i, i < n → (S i = true ↔ i = k)) : lst n S = [(k : Int)] := by
 rw [lst_of_inc (l := [(k : Int)]) (n := n) (by simp; omega) (by simp)]
 refine lst_congr fun i hi => ?_
 rw [Bool.eq_iff_iff, hS i hi, decide_eq_true_eq, List.mem_singleton]
 omega
/-- If one comes of the other one they have just that one in common at last. -/
theorem co_come {F : List (List Int)} (h : MixOk F) {a b : Nat} (ha : a < F.length) (hb : b < F.length) (hc : cm F a b = true) : coL F a b = [(b : Int)] := by
 rw [coL_lst]
 refine lst_single hb fun i hi => ?_
 rw [coB_iff]
 constructor
 ·rintro ⟨h1, h2⟩
  refine Classical.byContradiction fun hne => ?_
  have h3 := h2 b hb (by unfold comB; rw [hc, cm_self h hb]; rfl) (fun e => hne e.symm)
  unfold comB at h1
  rw [Bool.and_eq_true] at h1
  rw [h3] at h1; cases h1.2
 ·rintro rfl
  refine ⟨by unfold comB; rw [hc, cm_self h hb]; rfl, fun z hz h1 hne => ?_⟩
  cases e : cm F z i with
  | false => rfl
  | true =>
   have h2 := cm_le h z hz e
   unfold comB at h1
   rw [Bool.and_eq_true] at h1
   have h3 := cm_le h i hb h1.2
   exact absurd (by omega) hne
theorem co_come' {F : List (List Int)} (h : MixOk F) {a b : Nat} (ha : a < F.length) (hb : b < F.length) (hc : cm F b a = true) : coL F a b = [(a : Int)] := by
 rw [co_symm]; exact co_come h hb ha hc
theorem co_mem {F : List (List Int)} {a b : Nat} {y : Int} (hy : y ∈ coL F a b) : 0 ≤ y ∧ y < F.length ∧ cm F a y.toNat = true ∧ cm F b y.toNat = true := by
 rw [coL_lst] at hy
 obtain ⟨i, h1, h2, rfl⟩ := mem_lst.1 hy
 have h3 := (coB_iff.1 h2).1
 unfold comB at h3
 rw [Bool.and_eq_true] at h3
 rw [Int.toNat_natCast]
 exact ⟨by omega, by omega, h3.1, h3.2⟩
/-- They have something in common just if they come of a sack both. -/
theorem co_sack {F : List (List Int)} (h : MixOk F) {a b : Nat} (ha : a < F.length) (hb : b < F.length) : (∃ y ∈ sacksL F a, y ∈ sacksL F b) ↔ 0 < (coL F a b).length := by
 constructor
 ·rintro ⟨y, h1, h2⟩
  obtain ⟨i, i1, i2, rfl⟩ := mem_lst.1 h1
  have h3 := mem_lst_nat.1 h2
  rw [Bool.and_eq_true] at i2 h3
  obtain ⟨k, k1, k2, _⟩ := co_above h ha hb F.length i (by omega) i1 (by unfold comB; rw [i2.2, h3.2.2]; rfl)
  exact List.length_pos_iff.2 fun e => by
   have : (k : Int) ∈ coL F a b := by rw [coL_lst]; exact mem_lst_nat.2 ⟨k1, k2⟩
   rw [e] at this; cases this
 ·intro h1
  have h2 := co_mem (getD_mem h1 0)
  obtain ⟨s, s1, s2, s3⟩ := cm_sack h ((coL F a b).getD 0 0).toNat (by omega)
  have s4 : sackB F s = true := decide_eq_true s2
  refine ⟨(s : Int), mem_lst_nat.2 ⟨by omega, ?_⟩, mem_lst_nat.2 ⟨by omega, ?_⟩⟩
  ·rw [s4, cm_trans h a ha h2.2.2.1 s3]; rfl
  ·rw [s4, cm_trans h b hb h2.2.2.2 s3]; rfl
end Go.Px.Try

/-! LwCommon -/
namespace Go.Px.Try
open Go Go.Proofs Go.Px
set_option maxRecDepth 100000
set_option maxHeartbeats 16000000 in
theorem TraceCommon_spec (F : List (List Int)) (c d : Nat) (hF : Lens F) (hc : c < 256) (hd : d < 256) : Fn Try.prog 11 [mixD F, u8 c, u8 d] (bool true) := by
 have hw := Works_spec
 by_cases hm : MixOk F
 case neg =>
  have hf := fine_no hF hm
  refine Fn.of_ex (cuts := []) tys hM Try.func11 rfl Try.call11 rfl ?_
  show exC Try.prog T [] _ false none 0 (entry 184 [mixD F, u8 c, u8 d]) (finQ T [ResultVar.tmp 6] _)
  conv => whnf
  repeat' first | ((first | refine Ob.a ?_ | refine Sp.tt ?_ | refine Sp.ff ?_ | refine Sp.yes ?_ | refine Sp.no ?_ | refine Sp.nyes ?_ | refine Sp.nno ?_);conv=>whnf) | ((first | refine Sp.ne (fun hc => ?_) fun hc => ?_ | refine Sp.dec (fun hc => ?_) fun hc => ?_ | refine Sp.ndec (fun hc => ?_) fun hc => ?_ | refine Sp.mk (fun hc => ?_) fun hc => ?_) <;> conv => whnf) | (apply Cl.go;(conv=>whnf); (first | refine Ob.call (hf) ?_ | refine Ob.call (hw) ?_);(conv=>whnf)) | (refine Fi.a ?_;conv=>whnf) | (refine Ob.b ?_;conv=>whnf)
  all_goals exact Lf
 have hf := fine_yes hF hm
 have hl10 := hm.l10
 have hl1 := hm.l1
 have a0 : 0 ≤ (c : Int) % F.length := Int.emod_nonneg _ (by omega)
 have a1 : (c : Int) % F.length < F.length := Int.emod_lt_of_pos _ (by omega)
 have b0 : 0 ≤ (d : Int) % F.length := Int.emod_nonneg _ (by omega)
 have b1 : (d : Int) % F.length < F.length := Int.emod_lt_of_pos _ (by omega)
 have h1 := common_at hm a0 a1 b0 b1
 have h2 := common_at hm b0 b1 a0 a1
 rw [co_symm] at h2
 have h3 := common_at hm a0 a1 a0 a1
 rw [co_come hm (by omega) (by omega) (cm_self hm (by omega)), Int.toNat_of_nonneg a0] at h3
 have h4 := sacks_at hm a0 a1
 have h5 := sacks_at hm b0 b1
 have hR : Fn Try.prog 47 [ints (coL F ((c : Int) % F.length).toNat ((d : Int) % F.length).toNat), int F.length] (bool true) := by
  rw [coL_lst]; exact rising_lst hm _
 have hxl : (coL F ((c : Int) % F.length).toNat ((d : Int) % F.length).toNat).length ≤ 10 := by have := coL_len F ((c : Int) % F.length).toNat ((d : Int) % F.length).toNat; omega
 have hsl : (sacksL F ((c : Int) % F.length).toNat).length ≤ 10 := lst_ten hm _
 have htl : (sacksL F ((d : Int) % F.length).toNat).length ≤ 10 := lst_ten hm _
 have hel := fun (i : Int) (a : 0 ≤ i) (b : i < (coL F ((c : Int) % F.length).toNat ((d : Int) % F.length).toNat).length) => co_mem (getD_mem (l := coL F ((c : Int) % F.length).toNat ((d : Int) % F.length).toNat) (i := i.toNat) (by omega) 0)
 have hCa := fun (o : Int) (h : 0 ≤ o) => Comes_spec F hm o h (F.length + 1) ((c : Int) % F.length) a0 (by omega) a1
 have hCb := fun (o : Int) (h : 0 ≤ o) => Comes_spec F hm o h (F.length + 1) ((d : Int) % F.length) b0 (by omega) b1
 have hboth := co_sack hm (a := ((c : Int) % F.length).toNat) (b := ((d : Int) % F.length).toNat) (by omega) (by omega)
 have hab : cm F ((c : Int) % F.length).toNat ((d : Int) % F.length).toNat = true → coL F ((c : Int) % F.length).toNat ((d : Int) % F.length).toNat = [(d : Int) % F.length] := fun h => by rw [co_come hm (by omega) (by omega) h, Int.toNat_of_nonneg b0]
 have hba : cm F ((d : Int) % F.length).toNat ((c : Int) % F.length).toNat = true → coL F ((c : Int) % F.length).toNat ((d : Int) % F.length).toNat = [(c : Int) % F.length] := fun h => by rw [co_come' hm (by omega) (by omega) h, Int.toNat_of_nonneg a0]
 have i1 := ints_same (coL F ((c : Int) % F.length).toNat ((d : Int) % F.length).toNat) (by omega)
 have i2 := ints_same [(c : Int) % F.length] (by simp)
 have i3 := ints_same [(d : Int) % F.length] (by simp)
 have oc := of_spec [(c : Int) % F.length]
 have od := of_spec [(d : Int) % F.length]
 have hH := fun (y : Int) => Has_spec (sacksL F ((d : Int) % F.length).toNat) y (by omega)
 have hb1 : ∀ j : Int, 0 ≤ j → j < (sacksL F ((c : Int) % F.length).toNat).length → (sacksL F ((c : Int) % F.length).toNat).getD j.toNat 0 ∈ sacksL F ((d : Int) % F.length).toNat → 0 < (coL F ((c : Int) % F.length).toNat ((d : Int) % F.length).toNat).length := fun j a b h => hboth.1 ⟨_, getD_mem (by omega) 0, h⟩
 have hb2 : (∀ j : Int, 0 ≤ j → j < (sacksL F ((c : Int) % F.length).toNat).length → ¬ (sacksL F ((c : Int) % F.length).toNat).getD j.toNat 0 ∈ sacksL F ((d : Int) % F.length).toNat) → ¬ 0 < (coL F ((c : Int) % F.length).toNat ((d : Int) % F.length).toNat).length := fun h h2 => by
  obtain ⟨y, y1, y2⟩ := hboth.2 h2
  obtain ⟨j, hj, rfl⟩ := mem_getD (d := 0) y1
  exact h j (by omega) (by omega) (by rw [Int.toNat_natCast]; exact y2)
 clear hboth
 have ha' := hCa ((d : Int) % F.length) b0
 have hb' := hCb ((c : Int) % F.length) a0
 generalize coL F ((c : Int) % F.length).toNat ((d : Int) % F.length).toNat = x at *
 generalize sacksL F ((c : Int) % F.length).toNat = s at *
 generalize sacksL F ((d : Int) % F.length).toNat = t at *
 generalize cm F ((c : Int) % F.length).toNat ((d : Int) % F.length).toNat = p at ha' hab
 generalize cm F ((d : Int) % F.length).toNat ((c : Int) % F.length).toNat = q at hb' hba
 refine Fn.of_ex (cuts := []) tys hM Try.func11 rfl Try.call11 rfl ?_
 show exC Try.prog T [] _ false none 0 (entry 184 [mixD F, u8 c, u8 d]) (finQ T [ResultVar.tmp 6] _)
 conv => whnf
 repeat' first | ((first | refine Ob.a ?_ | refine Sp.tt ?_ | refine Sp.ff ?_ | refine Sp.yes ?_ | refine Sp.no ?_ | refine Sp.nyes ?_ | refine Sp.nno ?_);conv=>whnf) | ((first | refine Sp.ne (fun hc => ?_) fun hc => ?_ | refine Sp.dec (fun hc => ?_) fun hc => ?_ | refine Sp.ndec (fun hc => ?_) fun hc => ?_ | refine Sp.mk (fun hc => ?_) fun hc => ?_) <;> conv => whnf) | (apply Cl.go;(conv=>whnf); (first | refine Ob.call (hf) ?_ | refine Ob.call (h1) ?_ | refine Ob.call (h2) ?_ | refine Ob.call (h3) ?_ | refine Ob.call (h4) ?_ | refine Ob.call (h5) ?_ | refine Ob.call (i1) ?_ | refine Ob.call (i2) ?_ | refine Ob.call (oc) ?_ | refine Ob.call (hR) ?_);(conv=>whnf)) | (refine Fi.a ?_;conv=>whnf) | (refine Ob.b ?_;conv=>whnf)
 all_goals try (exfalso; omega)
 all_goals try (rename_i hq; exact absurd rfl hq)
 clear h1 h2 h3 h4 h5 hR
 refine Lp.snap [0, 1, 2, 3, 7, 8, 9, 15, 17, 20, 21, 135, 136, 137, 139, 140, 141, 142, 143, 144, 145, 146, 147, 148, 149, 150, 151, 152, 153, 155, 156, 157, 158, 159, 160, 161, 162, 163, 164, 165, 166, 167, 168, 169, 170, 171, 172, 173, 174, 175, 176, 177, 178, 179, 180, 181, 182, 183] 40 ?_
 (conv=>whnf)
 refine LpB.go 184 ({i : Int // 0 ≤ i ∧ i ≤ x.length}) 0 (fun ⟨i, _⟩ nx => ([(19, .d (int i))], [])) (fun p => (x.length - p.1).toNat) (⟨0, by omega, by omega⟩) ?_ ?_
 ·rintro ⟨i, i0, i1'⟩
  by_cases hi : i < x.length
  ·have he := hel i i0 hi
   have hC1 := hCa (x.getD i.toNat 0) he.1
   have hC2 := hCb (x.getD i.toNat 0) he.1
   rw [he.2.2.1] at hC1
   rw [he.2.2.2] at hC2
   clear ha' hb' hb1 hb2 hab hba hel
   conv => whnf
   repeat' first | ((first | refine Ob.a ?_ | refine Sp.tt ?_ | refine Sp.ff ?_ | refine Sp.yes ?_ | refine Sp.no ?_ | refine Sp.nyes ?_ | refine Sp.nno ?_);conv=>whnf) | ((first | refine Sp.ne (fun hc => ?_) fun hc => ?_ | refine Sp.dec (fun hc => ?_) fun hc => ?_ | refine Sp.ndec (fun hc => ?_) fun hc => ?_ | refine Sp.mk (fun hc => ?_) fun hc => ?_) <;> conv => whnf) | (apply Cl.go;(conv=>whnf); (first | refine Ob.call (hC1) ?_ | refine Ob.call (hC2) ?_);(conv=>whnf)) | (refine Fi.a ?_;conv=>whnf) | (refine Ob.b ?_;conv=>whnf)
   all_goals first | (exfalso; omega) | exact ⟨rfl, ⟨i + 1, by omega, by omega⟩, Lf, by simp only; omega⟩
  ·clear hCa hCb hel
   conv => whnf
   repeat' first | ((first | refine Ob.a ?_ | refine Sp.tt ?_ | refine Sp.ff ?_ | refine Sp.yes ?_ | refine Sp.no ?_ | refine Sp.nyes ?_ | refine Sp.nno ?_);conv=>whnf) | ((first | refine Sp.ne (fun hc => ?_) fun hc => ?_ | refine Sp.dec (fun hc => ?_) fun hc => ?_ | refine Sp.ndec (fun hc => ?_) fun hc => ?_ | refine Sp.mk (fun hc => ?_) fun hc => ?_) <;> conv => whnf) | (refine Fi.a ?_;conv=>whnf) | (refine Ob.b ?_;conv=>whnf)
   all_goals try (exfalso; omega)
   refine Lp.snap [0, 1, 2, 3, 6, 7, 8, 9, 15, 17, 150, 151, 152, 153, 155, 156, 157, 158, 159, 160, 161, 162, 163, 164, 165, 166, 167, 168, 169, 170, 171, 172, 173, 174, 175, 176, 177, 178, 179, 180, 181, 182, 183] 40 ?_
   (conv=>whnf)
   refine LpB.go 184 ({k : Int × Bool // (0 ≤ k.1 ∧ k.1 ≤ s.length) ∧ (k.2 = true → 0 < x.length) ∧ (k.2 = false → ∀ j : Int, 0 ≤ j → j < k.1 → ¬ s.getD j.toNat 0 ∈ t)}) 0 (fun ⟨(k, b), _⟩ nx => ([(21, .d (int k)), (20, .d (bool b))], [])) (fun p => (s.length - p.1.1).toNat) (⟨(0, false), ⟨by simp, by simp⟩, by simp, fun _ j a b => by simp only at b; omega⟩) ?_ ?_
   ·rintro ⟨⟨k, b⟩, ⟨k0, k1⟩, ht, hf'⟩
    simp only at k0 k1 ht hf'
    by_cases hk : k < s.length
    ·have hH := hH (s.getD k.toNat 0)
     have hb1 := hb1 k k0 hk
     clear ha' hb' hb2 hab hba
     cases b with
     | true =>
      have ht := ht rfl
      conv => whnf
      repeat' first | ((first | refine Ob.a ?_ | refine Sp.tt ?_ | refine Sp.ff ?_ | refine Sp.yes ?_ | refine Sp.no ?_ | refine Sp.nyes ?_ | refine Sp.nno ?_);conv=>whnf) | (refine Sp.byes ?_;conv=>whnf) | (refine Sp.bno ?_;conv=>whnf) | ((first | refine Sp.ne (fun hc => ?_) fun hc => ?_ | refine Sp.dec (fun hc => ?_) fun hc => ?_ | refine Sp.ndec (fun hc => ?_) fun hc => ?_ | refine Sp.mk (fun hc => ?_) fun hc => ?_) <;> conv => whnf) | (refine Fi.a ?_;conv=>whnf) | (refine Ob.b ?_;conv=>whnf)
      all_goals first | (exfalso; omega) | exact ⟨rfl, ⟨(k + 1, true), ⟨by simp only; omega, by simp only; omega⟩, fun _ => ht, fun e => (by cases e)⟩, Lf, by simp only; omega⟩
     | false =>
      have hf' := hf' rfl
      by_cases hmem : s.getD k.toNat 0 ∈ t
      ·have ht := hb1 hmem
       rw [decide_eq_true hmem] at hH
       conv => whnf
       repeat' first | ((first | refine Ob.a ?_ | refine Sp.tt ?_ | refine Sp.ff ?_ | refine Sp.yes ?_ | refine Sp.no ?_ | refine Sp.nyes ?_ | refine Sp.nno ?_);conv=>whnf) | (refine Sp.byes ?_;conv=>whnf) | (refine Sp.bno ?_;conv=>whnf) | ((first | refine Sp.ne (fun hc => ?_) fun hc => ?_ | refine Sp.dec (fun hc => ?_) fun hc => ?_ | refine Sp.ndec (fun hc => ?_) fun hc => ?_ | refine Sp.mk (fun hc => ?_) fun hc => ?_) <;> conv => whnf) | (apply Cl.go;(conv=>whnf); (first | refine Ob.call (hH) ?_);(conv=>whnf)) | (refine Fi.a ?_;conv=>whnf) | (refine Ob.b ?_;conv=>whnf)
       all_goals first | (exfalso; omega) | exact ⟨rfl, ⟨(k + 1, true), ⟨by simp only; omega, by simp only; omega⟩, fun _ => ht, fun e => (by cases e)⟩, Lf, by simp only; omega⟩
      ·rw [decide_eq_false hmem] at hH
       have e : ∀ j : Int, 0 ≤ j → j < k + 1 → ¬ s.getD j.toNat 0 ∈ t := fun j a b => if e : j = k then (by subst e; exact hmem) else hf' j a (by omega)
       conv => whnf
       repeat' first | ((first | refine Ob.a ?_ | refine Sp.tt ?_ | refine Sp.ff ?_ | refine Sp.yes ?_ | refine Sp.no ?_ | refine Sp.nyes ?_ | refine Sp.nno ?_);conv=>whnf) | (refine Sp.byes ?_;conv=>whnf) | (refine Sp.bno ?_;conv=>whnf) | ((first | refine Sp.ne (fun hc => ?_) fun hc => ?_ | refine Sp.dec (fun hc => ?_) fun hc => ?_ | refine Sp.ndec (fun hc => ?_) fun hc => ?_ | refine Sp.mk (fun hc => ?_) fun hc => ?_) <;> conv => whnf) | (apply Cl.go;(conv=>whnf); (first | refine Ob.call (hH) ?_);(conv=>whnf)) | (refine Fi.a ?_;conv=>whnf) | (refine Ob.b ?_;conv=>whnf)
       all_goals first | (exfalso; omega) | exact ⟨rfl, ⟨(k + 1, false), ⟨by simp only; omega, by simp only; omega⟩, fun e => (by cases e), fun _ => e⟩, Lf, by simp only; omega⟩
    ·have hbx : b = decide (0 < (x.length : Int)) := by
      cases b with
      | true => have := ht rfl; rw [decide_eq_true (by omega)]
      | false =>
       have := hb2 fun j a b => hf' rfl j a (by omega)
       rw [decide_eq_false (by omega)]
     clear hb1 hb2 hH
     by_cases hx0 : 0 < (x.length : Int)
     ·rw [decide_eq_true hx0] at hbx
      subst hbx
      cases p with
      | true =>
       have e := hab rfl
       subst e
       cases q with
       | true =>
        have e := hba rfl
        rw [← e] at i2
        conv => whnf
        repeat' first | ((first | refine Ob.a ?_ | refine Sp.tt ?_ | refine Sp.ff ?_ | refine Sp.yes ?_ | refine Sp.no ?_ | refine Sp.nyes ?_ | refine Sp.nno ?_);conv=>whnf) | (refine Sp.byes ?_;conv=>whnf) | (refine Sp.bno ?_;conv=>whnf) | ((first | refine Sp.ne (fun hc => ?_) fun hc => ?_ | refine Sp.dec (fun hc => ?_) fun hc => ?_ | refine Sp.ndec (fun hc => ?_) fun hc => ?_ | refine Sp.mk (fun hc => ?_) fun hc => ?_) <;> conv => whnf) | (apply Cl.go;(conv=>whnf); (first | refine Ob.call (ha') ?_ | refine Ob.call (hb') ?_ | refine Ob.call (i3) ?_ | refine Ob.call (i2) ?_ | refine Ob.call (oc) ?_ | refine Ob.call (od) ?_ | refine Ob.call (hw) ?_);(conv=>whnf)) | (refine Fi.a ?_;conv=>whnf) | (refine Ob.b ?_;conv=>whnf)
        all_goals first | (exfalso; omega) | exact Lf
       | false =>
        conv => whnf
        repeat' first | ((first | refine Ob.a ?_ | refine Sp.tt ?_ | refine Sp.ff ?_ | refine Sp.yes ?_ | refine Sp.no ?_ | refine Sp.nyes ?_ | refine Sp.nno ?_);conv=>whnf) | (refine Sp.byes ?_;conv=>whnf) | (refine Sp.bno ?_;conv=>whnf) | ((first | refine Sp.ne (fun hc => ?_) fun hc => ?_ | refine Sp.dec (fun hc => ?_) fun hc => ?_ | refine Sp.ndec (fun hc => ?_) fun hc => ?_ | refine Sp.mk (fun hc => ?_) fun hc => ?_) <;> conv => whnf) | (apply Cl.go;(conv=>whnf); (first | refine Ob.call (ha') ?_ | refine Ob.call (hb') ?_ | refine Ob.call (i3) ?_ | refine Ob.call (oc) ?_ | refine Ob.call (od) ?_ | refine Ob.call (hw) ?_);(conv=>whnf)) | (refine Fi.a ?_;conv=>whnf) | (refine Ob.b ?_;conv=>whnf)
        all_goals first | (exfalso; omega) | exact Lf
      | false =>
       cases q with
       | true =>
        have e := hba rfl
        subst e
        conv => whnf
        repeat' first | ((first | refine Ob.a ?_ | refine Sp.tt ?_ | refine Sp.ff ?_ | refine Sp.yes ?_ | refine Sp.no ?_ | refine Sp.nyes ?_ | refine Sp.nno ?_);conv=>whnf) | (refine Sp.byes ?_;conv=>whnf) | (refine Sp.bno ?_;conv=>whnf) | ((first | refine Sp.ne (fun hc => ?_) fun hc => ?_ | refine Sp.dec (fun hc => ?_) fun hc => ?_ | refine Sp.ndec (fun hc => ?_) fun hc => ?_ | refine Sp.mk (fun hc => ?_) fun hc => ?_) <;> conv => whnf) | (apply Cl.go;(conv=>whnf); (first | refine Ob.call (ha') ?_ | refine Ob.call (hb') ?_ | refine Ob.call (i2) ?_ | refine Ob.call (oc) ?_ | refine Ob.call (od) ?_ | refine Ob.call (hw) ?_);(conv=>whnf)) | (refine Fi.a ?_;conv=>whnf) | (refine Ob.b ?_;conv=>whnf)
        all_goals first | (exfalso; omega) | exact Lf
       | false =>
        conv => whnf
        repeat' first | ((first | refine Ob.a ?_ | refine Sp.tt ?_ | refine Sp.ff ?_ | refine Sp.yes ?_ | refine Sp.no ?_ | refine Sp.nyes ?_ | refine Sp.nno ?_);conv=>whnf) | (refine Sp.byes ?_;conv=>whnf) | (refine Sp.bno ?_;conv=>whnf) | ((first | refine Sp.ne (fun hc => ?_) fun hc => ?_ | refine Sp.dec (fun hc => ?_) fun hc => ?_ | refine Sp.ndec (fun hc => ?_) fun hc => ?_ | refine Sp.mk (fun hc => ?_) fun hc => ?_) <;> conv => whnf) | (apply Cl.go;(conv=>whnf); (first | refine Ob.call (ha') ?_ | refine Ob.call (hb') ?_ | refine Ob.call (oc) ?_ | refine Ob.call (od) ?_ | refine Ob.call (hw) ?_);(conv=>whnf)) | (refine Fi.a ?_;conv=>whnf) | (refine Ob.b ?_;conv=>whnf)
        all_goals first | (exfalso; omega) | exact absurd (decide_eq_true hx0).symm hc | exact Lf
     ·rw [decide_eq_false hx0] at hbx
      subst hbx
      cases p with
      | true =>
       have e := hab rfl
       rw [e] at hx0; simp at hx0
      | false =>
       cases q with
       | true =>
        have e := hba rfl
        rw [e] at hx0; simp at hx0
       | false =>
        conv => whnf
        repeat' first | ((first | refine Ob.a ?_ | refine Sp.tt ?_ | refine Sp.ff ?_ | refine Sp.yes ?_ | refine Sp.no ?_ | refine Sp.nyes ?_ | refine Sp.nno ?_);conv=>whnf) | (refine Sp.byes ?_;conv=>whnf) | (refine Sp.bno ?_;conv=>whnf) | ((first | refine Sp.ne (fun hc => ?_) fun hc => ?_ | refine Sp.dec (fun hc => ?_) fun hc => ?_ | refine Sp.ndec (fun hc => ?_) fun hc => ?_ | refine Sp.mk (fun hc => ?_) fun hc => ?_) <;> conv => whnf) | (apply Cl.go;(conv=>whnf); (first | refine Ob.call (ha') ?_ | refine Ob.call (hb') ?_ | refine Ob.call (hw) ?_);(conv=>whnf)) | (refine Fi.a ?_;conv=>whnf) | (refine Ob.b ?_;conv=>whnf)
        all_goals first | (exfalso; omega) | exact absurd (decide_eq_false hx0).symm hc | exact Lf
   ·exact Lf
 ·exact Lf
end Go.Px.Try

namespace Go.Proofs.Ytbgpdcbljjdjnaa.traceCommonDone
open Go.ChangeShapes Go.WideShapes Go.ChangeAt Go.RowKit
open Go.Px
open Go.Px.Try (own laidOut)
set_option maxRecDepth 100000 in
theorem lifted (os : Os) (started : os.Started) (H : Type) (enc : TypeId × Value → H) :
  ReturnsInHanded {} Try.checked os 11 .any (Rows.traceCommonSpec.pre6 enc Try.prog Try.f11 Rows.traceCommonRow.domain false) (Rows.traceCommonSpec.post enc Try.prog Try.f11 false true false false) := by
 refine returnsInHanded_of_change (C := Try.checked) own started (by kernel_rfl) Try.func11
  (ChangeSpec.witness6 (enc := enc) (C := Try.checked) false ⟨#[], #[.agg #[.slice none 0 0], .int .u8 0, .int .u8 0], []⟩ 8 (by kernel_rfl) (by kernel_rfl) (by kernel_rfl) (by kernel_rfl)) ?_
 intro W base args ds gs before hval0 hW hcnd _
 have hval : ∀ (j : Nat) t v, Try.f11.params[j]? = some t → args[j]? = some v → Value.okWide Try.prog W .any base t v := hval0
 have hW' := hW
 obtain ⟨p, q, hA0, hV, rfl, hfz, hnd⟩ := hW
 have hA : DataW.TrodAll enc Try.prog W 0 (fun _ => true) true Try.f11.params.toList args.toList ds p := hA0
 rw [Try.params11] at hA hval
 obtain ⟨v0, vs0, d0, ds0, p0, q0, hargs, rfl, rfl, h0, r0⟩ := trodAll_cons hA
 obtain ⟨v1, vs1, d1, ds1, p1, q1, rfl, rfl, rfl, h1, r1⟩ := trodAll_cons r0
 obtain ⟨v2, vs2, d2, ds2, p2, q2, rfl, rfl, rfl, h2, r2⟩ := trodAll_cons r1
 obtain ⟨rfl, rfl, rfl⟩ := trodAll_nil r2
 obtain rfl : args = #[v0, v1, v2] := by cases args; simp_all
 obtain ⟨rfl, rfl⟩ := trodVars_none hV
 have lt0 : ∀ x ∈ p0, x.block < W.heap.size := by have k := h0; obtain ⟨m, hm⟩ := k; exact DataW.trod_lt m _ _ _ hm
 obtain ⟨x0, g0, e0⟩ := Go.Px.Try.mix_arg h0 (hval 0 24 v0 rfl rfl)
 have lt1 : ∀ x ∈ p1, x.block < W.heap.size := by have k := h1; obtain ⟨m, hm⟩ := k; exact DataW.trod_lt m _ _ _ hm
 obtain ⟨x1, g1, e1⟩ := Go.Px.Try.u8_arg h1 (hval 1 5 v1 rfl rfl)
 have lt2 : ∀ x ∈ p2, x.block < W.heap.size := by have k := h2; obtain ⟨m, hm⟩ := k; exact DataW.trod_lt m _ _ _ hm
 obtain ⟨x2, g2, e2⟩ := Go.Px.Try.u8_arg h2 (hval 2 5 v2 rfl rfl)
 clear hA0 hval0
 refine ((Go.Px.Try.TraceCommon_spec x0 x1 x2 g0 g1 g2).2 (All W) W [v0, v1, v2] (fun _ h => h) ⟨e0, e1, e2, trivial⟩).mono fun e W' ⟨v, S', he, hr, _, _, bel⟩ => ?_
 obtain rfl : v = .bool true := hr
 subst he
 exact ⟨_, rfl, _, _, _, [], _, [], hW', trodAll_mk1 (shut_bool Try.underlying4 _), (trodAll_cons_mk (Below.trod laidOut (by kernel_rfl) (of_decide_eq_true (by kernel_rfl)) h0 bel lt0) (trodAll_cons_mk (Below.trod laidOut (by kernel_rfl) (of_decide_eq_true (by kernel_rfl)) h1 bel lt1) (trodAll_cons_mk (Below.trod laidOut (by kernel_rfl) (of_decide_eq_true (by kernel_rfl)) h2 bel lt2) trodAll_mk0))), rfl, bel.frame _, fun h => by cases h⟩
theorem over : Rows.traceCommonRow.holds Try.pinned (OpenSpec.ofChange Rows.traceCommonSpec) :=
 OpenClaim.holds_of_wide 11 Try.f11 rfl rfl rfl rfl rfl rfl rfl ⟨rfl, rfl, rfl, rfl, rfl⟩ rfl rfl rfl rfl rfl (by kernel_rfl) Try.func11 (by kernel_rfl)
  (of_decide_eq_true (by kernel_rfl)) (by unfold Func.isWrapper; first | (rw [if_pos (by decide +kernel)]; kernel_rfl) | (rw [if_neg (by decide +kernel)]; exact ⟨rfl, rfl⟩))
  (fun os started H enc _ => lifted os started H enc)
theorem proved : Rows.TraceCommonSaid := over
#print axioms proved
end Go.Proofs.Ytbgpdcbljjdjnaa.traceCommonDone
