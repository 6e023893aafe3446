/- The statement TraceParts: what a node has of all sacks is together 1, and something of just those of which it comes; all of it if it comes of one alone. Conditions: none. -/
import Derived.Test.YtbgpdcbljjdjnaaJ8
import Derived.Test.YtbgpdcbljjdjnaaRows
import Derived.Test.YtbgpdcbljjdjnaaJ9
set_option linter.unusedVariables false
set_option linter.unusedSimpArgs false
/-! Law3 -/
namespace Go.Px.Try
open Go Go.Proofs Go.Px
set_option maxRecDepth 100000
theorem fine_yes {F : List (List Int)} (hF : Lens F) (hm : MixOk F) : Fn Try.prog 39 [mixD F] (bool true) := by
 have h := fine_spec F hF.1 hF.2
 rwa [decide_eq_true (checkM_ok.2 hm)] at h
theorem fine_no {F : List (List Int)} (hF : Lens F) (hm : ¬ MixOk F) : Fn Try.prog 39 [mixD F] (bool false) := by
 have h := fine_spec F hF.1 hF.2
 rwa [decide_eq_false fun h => hm (checkM_ok.1 h)] at h
theorem mixS {F : List (List Int)} (hm : MixOk F) : SmallM F := mix_small (mix_wide hm)
theorem node1 {F : List (List Int)} (hm : MixOk F) {x : Int} (h0 : 0 ≤ x) (h1 : x < F.length) : nodeE F [x] = 0 := nodeE_ok.2 ⟨hm, fun y hy => by rw [List.mem_singleton.1 hy]; exact ⟨h0, h1⟩⟩
theorem node2 {F : List (List Int)} (hm : MixOk F) {x y : Int} (h0 : 0 ≤ x) (h1 : x < F.length) (h2 : 0 ≤ y) (h3 : y < F.length) : nodeE F [x, y] = 0 := nodeE_ok.2 ⟨hm, fun z hz => by
 rcases List.mem_cons.1 hz with e | hz
 ·rw [e]; exact ⟨h0, h1⟩
 ·rw [List.mem_singleton.1 hz]; exact ⟨h2, h3⟩⟩
section
variable {F : List (List Int)} (hm : MixOk F) {x : Int} (h0 : 0 ≤ x) (h1 : x < F.length)
include hm h0 h1
theorem count_at : Fn Try.prog 19 [mixD F, int x] (tpl [int (cg F (fun _ => false) x.toNat), int 0]) := by
 have h := CountP_spec F (mixS hm) x
 rwa [node1 hm h0 h1, if_pos rfl] at h
theorem sacks_at : Fn Try.prog 17 [mixD F, int x] (tpl [ints (sacksL F x.toNat), int 0]) := by
 have h := SacksP_spec F (mixS hm) x
 rwa [node1 hm h0 h1, if_pos rfl] at h
theorem through_at : Fn Try.prog 24 [mixD F, int x] (tpl [ints (thL F x.toNat), int 0]) := by
 have h := ThroughP_spec F (mixS hm) x
 rwa [node1 hm h0 h1, if_pos rfl] at h
theorem parts_at : Fn Try.prog 26 [mixD F, int x] (tpl [slOf 2 ratD (0, 0) (partsL F x.toNat), int 0]) := by
 have h := PartsP_spec F (mixS hm) x
 rwa [node1 hm h0 h1, if_pos rfl] at h
theorem common_at {y : Int} (h2 : 0 ≤ y) (h3 : y < F.length) : Fn Try.prog 28 [mixD F, int x, int y] (tpl [ints (coL F x.toNat y.toNat), int 0]) := by
 have h := CommonP_spec F (mixS hm) x y
 rwa [node2 hm h0 h1 h2 h3, if_pos rfl] at h
end
theorem lst_rs (n : Nat) (S : Nat → Bool) : rsL (lst n S) n := ⟨fun x hx => by obtain ⟨j, h1, _, rfl⟩ := mem_lst.1 hx; omega, lst_inc _ _⟩
theorem rising_lst {F : List (List Int)} (hm : MixOk F) (S : Nat → Bool) : Fn Try.prog 47 [ints (lst F.length S), int F.length] (bool true) := by
 have h := Rising_spec (lst F.length S) F.length (lst_small (mixS hm) S)
 rwa [decide_eq_true (lst_rs _ _)] at h
theorem lst_ten {F : List (List Int)} (hm : MixOk F) (S : Nat → Bool) : (lst F.length S).length ≤ 10 := by
 have := lst_length_le F.length S
 have := hm.l10
 omega
end Go.Px.Try

/-! LwB -/
namespace Go.Px.Try
open Go Go.Proofs Go.Px
set_option maxRecDepth 100000
theorem cnt_any (S : Nat → Nat → Bool) (n : Nat) : ∀ l : List Int, cntS (fun i => l.any fun k => S k.toNat i) n ≤ isum l fun k => cntS (S k) n
 | [] => by
  rw [isum_nil]
  show sm _ n ≤ 0
  rw [sm_zero fun i _ => if_neg (by simp)]; exact Int.le_refl _
 | a :: l => by
  have ih := cnt_any S n l
  have e : isum (a :: l) (fun k => cntS (S k) n) = cntS (S a.toNat) n + isum l fun k => cntS (S k) n := by unfold isum; rw [List.map_cons, List.sum_cons]
  rw [e]
  refine Int.le_trans ?_ (Int.add_le_add_left ih _)
  unfold cntS
  rw [← sm_add]
  refine sm_le fun i _ => ?_
  show (if (List.any (a :: l) fun k => S k.toNat i) = true then (1 : Int) else 0) ≤ (if S a.toNat i = true then 1 else 0) + if (l.any fun k => S k.toNat i) = true then 1 else 0
  rw [List.any_cons]
  cases S a.toNat i <;> cases (l.any fun k => S k.toNat i) <;> simp
def skB (F : List (List Int)) (x i : Nat) : Bool := sackB F i && cm F x i
theorem skB_lot {F : List (List Int)} (hm : MixOk F) {x i : Nat} (hx : x < F.length) (hne : frm F x ≠ []) : skB F x i = (frm F x).any fun k => skB F k.toNat i := by
 unfold skB
 rw [Bool.eq_iff_iff, Bool.and_eq_true, cm_true hm hx, List.any_eq_true]
 constructor
 ·rintro ⟨h1, h2 | ⟨k, hk, h2⟩⟩
  ·rw [h2] at hne; exact absurd (of_decide_eq_true h1) hne
  ·exact ⟨k, hk, by rw [Int.toNat_natCast, h1, h2]; rfl⟩
 ·rintro ⟨k, hk, h⟩
  rw [Bool.and_eq_true] at h
  have := (hm.ris x hx).1 k hk
  exact ⟨h.1, .inr ⟨k.toNat, by rw [Int.toNat_of_nonneg this.1]; exact hk, h.2⟩⟩
theorem skB_sack {F : List (List Int)} (hm : MixOk F) {x : Nat} (hx : x < F.length) (he : frm F x = []) : lst F.length (skB F x) = [(x : Int)] := by
 rw [lst_of_inc (l := [(x : Int)]) (n := F.length) (by simp; omega) (by simp)]
 refine lst_congr fun i _ => ?_
 unfold skB
 rw [cm_of_sack hm hx he]
 by_cases e : x = i
 ·subst e; simp [sackB, he]
 ·rw [decide_eq_false e, Bool.and_false, decide_eq_false (by simp; omega)]
/-- There are at least as many ways to a node as sacks of which it comes. -/
theorem ways_sacks {F : List (List Int)} (hm : MixOk F) : ∀ x, x < F.length → cntS (skB F x) F.length ≤ cg F (fun _ => false) x := by
 intro x
 induction x using Nat.strongRecOn with
 | ind x ih =>
  intro hx
  rw [cg_eq hm _ hx, if_neg (by simp)]
  by_cases he : frm F x = []
  ·rw [if_pos he, ← lst_cnt, skB_sack hm hx he]; simp
  ·rw [if_neg he]
   refine Int.le_trans (Int.le_of_eq (cnt_congr fun i _ => skB_lot hm hx he)) (Int.le_trans (cnt_any (skB F) F.length (frm F x)) ?_)
   have : ∀ l : List Int, (∀ k ∈ l, cntS (skB F k.toNat) F.length ≤ cg F (fun _ => false) k.toNat) → isum l (fun k => cntS (skB F k) F.length) ≤ isum l (cg F fun _ => false) := by
    intro l
    induction l with
    | nil => intro _; exact Int.le_refl _
    | cons a l ihl =>
     intro h
     have h1 := h a (by simp)
     have h2 := ihl fun k hk => h k (List.mem_cons_of_mem _ hk)
     have e : ∀ f : Nat → Int, isum (a :: l) f = f a.toNat + isum l f := fun f => by unfold isum; rw [List.map_cons, List.sum_cons]
     rw [e, e]; omega
   exact this _ fun k hk => by
    have := (hm.ris x hx).1 k hk
    exact ih k.toNat (by omega) (by omega)
theorem sacks_pos {F : List (List Int)} (hm : MixOk F) {x : Nat} (hx : x < F.length) : 1 ≤ (sacksL F x).length := by
 obtain ⟨s, h1, h2, h3⟩ := cm_sack hm x hx
 have : ((s : Nat) : Int) ∈ sacksL F x := mem_lst.2 ⟨s, by omega, by rw [h3, show sackB F s = true from decide_eq_true h2]; rfl, rfl⟩
 exact List.length_pos_iff.2 fun e => by rw [e] at this; cases this
theorem sacks_ways {F : List (List Int)} (hm : MixOk F) {x : Nat} (hx : x < F.length) : ((sacksL F x).length : Int) ≤ cg F (fun _ => false) x := by
 have := ways_sacks hm x hx
 rw [← lst_cnt] at this
 exact this
/-- The sacks of the first k nodes of a list, by bits. -/
def bitK (F : List (List Int)) (x : Nat) : Nat → Nat
 | 0 => 0
 | k + 1 => bitK F x k ||| bitsOf (sacksL F ((frm F x).getD k 0).toNat)
theorem bitK_lt (F : List (List Int)) (x : Nat) (hl : F.length ≤ 10) : ∀ k, bitK F x k < 2 ^ 10
 | 0 => (by decide : (0 : Nat) < 2 ^ 10)
 | k + 1 => Nat.or_lt_two_pow (bitK_lt F x hl k) (by
  have := bitsT_lt (l := sacksL F ((frm F x).getD k 0).toNat) (n := F.length) (fun y hy => (lst_rs _ _).1 y hy) (sacksL F ((frm F x).getD k 0).toNat).length
  exact Nat.lt_of_lt_of_le this (Nat.pow_le_pow_right (by omega) hl))
theorem bset_bitK {F : List (List Int)} {x i : Nat} (hi : i < F.length) : ∀ k, k ≤ (frm F x).length → bset (bitK F x k) i = ((frm F x).take k).any fun k => skB F k.toNat i
 | 0, _ => by rw [bitK, bset_zero]; simp
 | k + 1, hk => by
  have ih := bset_bitK (x := x) hi k (by omega)
  have e : bset (bitK F x (k + 1)) i = (bset (bitK F x k) i || bset (bitsOf (sacksL F ((frm F x).getD k 0).toNat)) i) := by
   rw [bitK, bset_test, bset_test, bset_test, Nat.testBit_or]
  rw [e, ih, take_succ_getD _ k 0 (by omega), List.any_append, bset_bits (l := sacksL F ((frm F x).getD k 0).toNat) fun y hy => ((lst_rs F.length fun j => sackB F j && cm F ((frm F x).getD k 0).toNat j).1 y hy).1]
  congr 1
  unfold skB sacksL
  have : decide ((i : Int) ∈ lst F.length fun j => sackB F j && cm F ((frm F x).getD k 0).toNat j) = (sackB F i && cm F ((frm F x).getD k 0).toNat i) := by
   rw [Bool.eq_iff_iff, decide_eq_true_eq, mem_lst_nat]
   exact ⟨fun h => h.2, fun h => ⟨hi, h⟩⟩
  rw [this]; simp
theorem bitK_end {F : List (List Int)} (hm : MixOk F) {x : Nat} (hx : x < F.length) (hne : frm F x ≠ []) : listed (bitK F x (frm F x).length) F.length = sacksL F x := by
 refine lst_congr fun i hi => ?_
 rw [bset_bitK hi _ (Nat.le_refl _), List.take_length]
 exact (skB_lot hm hx hne).symm
set_option maxHeartbeats 16000000 in
theorem TraceCounted_spec (F : List (List Int)) (c : Nat) (hF : Lens F) (hc : c < 256) : Fn Try.prog 8 [mixD F, u8 c] (bool true) := by
 have hw := Works_spec
 by_cases hm : MixOk F
 case neg =>
  have hf := fine_no hF hm
  refine Fn.of_ex (cuts := []) tys hM Try.func8 rfl Try.call8 rfl ?_
  show exC Try.prog T [] _ false none 0 (entry 163 [mixD F, u8 c]) (finQ T [ResultVar.tmp 4] _)
  conv => whnf
  repeat' first | ((first | refine Ob.a ?_ | refine Sp.tt ?_ | refine Sp.ff ?_ | refine Sp.yes ?_ | refine Sp.no ?_ | refine Sp.nyes ?_ | refine Sp.nno ?_);conv=>whnf) | ((first | refine Sp.ne (fun hc => ?_) fun hc => ?_ | refine Sp.dec (fun hc => ?_) fun hc => ?_ | refine Sp.ndec (fun hc => ?_) fun hc => ?_ | refine Sp.mk (fun hc => ?_) fun hc => ?_) <;> conv => whnf) | (apply Cl.go;(conv=>whnf); (first | refine Ob.call (hf) ?_ | refine Ob.call (hw) ?_);(conv=>whnf)) | (refine Fi.a ?_;conv=>whnf) | (refine Ob.b ?_;conv=>whnf)
  all_goals exact Lf
 have hf := fine_yes hF hm
 have hl10 := hm.l10
 have hl1 := hm.l1
 have x0 : 0 ≤ (c : Int) % F.length := Int.emod_nonneg _ (by omega)
 have x1 : (c : Int) % F.length < F.length := Int.emod_lt_of_pos _ (by omega)
 have h1 := count_at hm x0 x1
 have h2 := sacks_at hm x0 x1
 have h3 : Fn Try.prog 47 [ints (sacksL F ((c : Int) % F.length).toNat), int F.length] (bool true) := rising_lst hm _
 have h4 := sacks_ways hm (x := ((c : Int) % F.length).toNat) (by omega)
 have h5 := sacks_pos hm (x := ((c : Int) % F.length).toNat) (by omega)
 have h6 := cg_eq hm (fun _ => false) (i := ((c : Int) % F.length).toNat) (by omega)
 rw [if_neg (by simp)] at h6
 have h7 : (sacksL F ((c : Int) % F.length).toNat).length ≤ 10 := lst_ten hm _
 have h8 := cg_le hm (fun _ => false) ((c : Int) % F.length).toNat (by omega)
 by_cases he : frm F ((c : Int) % F.length).toNat = []
 ·have he' : ((F.getD ((c : Int) % F.length).toNat []).length : Int) = 0 := by rw [show F.getD ((c : Int) % F.length).toNat [] = [] from he]; rfl
  rw [if_pos he] at h6
  have e : sacksL F ((c : Int) % F.length).toNat = [(c : Int) % F.length] := by
   have := skB_sack hm (x := ((c : Int) % F.length).toNat) (by omega) he
   rw [Int.toNat_of_nonneg x0] at this; exact this
  have i1 := ints_same [(c : Int) % F.length] (by simp)
  have i2 := of_spec [(c : Int) % F.length]
  rw [e] at h2 h3 h4 h5 h7
  rw [h6] at h1
  clear h4 h6 h8 e
  refine Fn.of_ex (cuts := []) tys hM Try.func8 rfl Try.call8 rfl ?_
  show exC Try.prog T [] _ false none 0 (entry 163 [mixD F, u8 c]) (finQ T [ResultVar.tmp 4] _)
  conv => whnf
  repeat' first | ((first | refine Ob.a ?_ | refine Sp.tt ?_ | refine Sp.ff ?_ | refine Sp.yes ?_ | refine Sp.no ?_ | refine Sp.nyes ?_ | refine Sp.nno ?_);conv=>whnf) | ((first | refine Sp.ne (fun hc => ?_) fun hc => ?_ | refine Sp.dec (fun hc => ?_) fun hc => ?_ | refine Sp.ndec (fun hc => ?_) fun hc => ?_ | refine Sp.mk (fun hc => ?_) fun hc => ?_) <;> conv => whnf) | (apply Cl.go;(conv=>whnf); (first | refine Ob.call (hf) ?_ | refine Ob.call (h1) ?_ | refine Ob.call (h2) ?_ | refine Ob.call (h3) ?_ | refine Ob.call (i1) ?_ | refine Ob.call (i2) ?_ | refine Ob.call (hw) ?_);(conv=>whnf)) | (refine Fi.a ?_;conv=>whnf) | (refine Ob.b ?_;conv=>whnf)
  all_goals first | (exfalso; omega) | exact Lf
 ·have he' : 0 < (F.getD ((c : Int) % F.length).toNat []).length := List.length_pos_iff.2 he
  rw [if_neg he] at h6
  have hfl := frm_len' hm (i := ((c : Int) % F.length).toNat) (by omega)
  have hel := (hm.ris ((c : Int) % F.length).toNat (by omega)).1
  have htk := fun k => cg_take_le hm (fun _ => false) (i := ((c : Int) % F.length).toNat) (by omega) k
  have hsu := fun (k : Int) (a : 0 ≤ k) (b : k < (F.getD ((c : Int) % F.length).toNat []).length) => isum_take_succ (l := F.getD ((c : Int) % F.length).toNat []) (cg F fun _ => false) a b
  have hend := bitK_end hm (x := ((c : Int) % F.length).toNat) (by omega) he
  have hbl := fun k => bitK_lt F ((c : Int) % F.length).toNat hl10 k
  have hcnt := fun (y : Int) (a : 0 ≤ y) (b : y < F.length) => count_at hm a b
  have hsck := fun (y : Int) (a : 0 ≤ y) (b : y < F.length) => sacks_at hm a b
  have hris : ∀ y : Nat, Fn Try.prog 47 [ints (sacksL F y), int F.length] (bool true) := fun y => rising_lst hm _
  have hbits := fun (y : Nat) => Bits_spec (sacksL F y) (by have : (sacksL F y).length ≤ 10 := lst_ten hm _; omega) (fun z hz => by have := (lst_rs _ _).1 z hz; omega)
  have hcle : ∀ y : Nat, y < F.length → 1 ≤ cg F (fun _ => false) y ∧ cg F (fun _ => false) y ≤ 1024 := fun y hy => by
   have a := sacks_ways hm hy
   have b := sacks_pos hm hy
   have d := cg_le hm (fun _ => false) y hy
   have e : ∀ j, j < 10 → (2 : Int) ^ j ≤ 1024 := by decide
   have := e y (by omega)
   omega
  have hlist := Listed_spec (bitK F ((c : Int) % F.length).toNat (F.getD ((c : Int) % F.length).toNat []).length) F.length (by have := hbl (F.getD ((c : Int) % F.length).toNat []).length; omega) (by omega)
  have hend' : listed (bitK F ((c : Int) % F.length).toNat (F.getD ((c : Int) % F.length).toNat []).length) F.length = sacksL F ((c : Int) % F.length).toNat := hend
  rw [hend'] at hlist
  have i1 := ints_same (sacksL F ((c : Int) % F.length).toNat) (by omega)
  have hpw : (2 : Int) ^ ((c : Int) % F.length).toNat ≤ 1024 := by
   have e : ∀ j, j < 10 → (2 : Int) ^ j ≤ 1024 := by decide
   exact e _ (by omega)
  change ∀ y ∈ F.getD ((c : Int) % F.length).toNat [], 0 ≤ y ∧ y < (((c : Int) % F.length).toNat : Int) at hel
  change (F.getD ((c : Int) % F.length).toNat []).length ≤ ((c : Int) % F.length).toNat at hfl
  change cg F (fun _ => false) ((c : Int) % F.length).toNat = isum (F.getD ((c : Int) % F.length).toNat []) (cg F fun _ => false) at h6
  change ∀ k, 0 ≤ isum ((F.getD ((c : Int) % F.length).toNat []).take k) (cg F fun _ => false) ∧ isum ((F.getD ((c : Int) % F.length).toNat []).take k) (cg F fun _ => false) ≤ 2 ^ ((c : Int) % F.length).toNat at htk
  generalize hr : cg F (fun _ => false) ((c : Int) % F.length).toNat = r at h1 h4 h6 h8
  generalize hs : sacksL F ((c : Int) % F.length).toNat = s at h2 h3 h4 h5 h7 hlist i1
  clear hend hend' h8 hr hs
  refine Fn.of_ex (cuts := []) tys hM Try.func8 rfl Try.call8 rfl ?_
  show exC Try.prog T [] _ false none 0 (entry 163 [mixD F, u8 c]) (finQ T [ResultVar.tmp 4] _)
  conv => whnf
  repeat' first | ((first | refine Ob.a ?_ | refine Sp.tt ?_ | refine Sp.ff ?_ | refine Sp.yes ?_ | refine Sp.no ?_ | refine Sp.nyes ?_ | refine Sp.nno ?_);conv=>whnf) | ((first | refine Sp.ne (fun hc => ?_) fun hc => ?_ | refine Sp.dec (fun hc => ?_) fun hc => ?_ | refine Sp.ndec (fun hc => ?_) fun hc => ?_ | refine Sp.mk (fun hc => ?_) fun hc => ?_) <;> conv => whnf) | (apply Cl.go;(conv=>whnf); (first | refine Ob.call (hf) ?_ | refine Ob.call (h1) ?_ | refine Ob.call (h2) ?_ | refine Ob.call (h3) ?_);(conv=>whnf)) | (refine Fi.a ?_;conv=>whnf) | (refine Ob.b ?_;conv=>whnf)
  all_goals try (exfalso; omega)
  refine Lp.snap [0, 1, 2, 5, 6, 8, 148, 149, 150, 151, 152, 153, 154, 155, 156, 157, 158, 159, 160, 161, 162] 40 ?_
  (conv=>whnf)
  refine LpB.go 163 ({q : Int × Int × Nat // (0 ≤ q.1 ∧ q.1 ≤ (F.getD ((c : Int) % F.length).toNat []).length) ∧ q.2.1 = isum ((F.getD ((c : Int) % F.length).toNat []).take q.1.toNat) (cg F fun _ => false) ∧ q.2.2 = bitK F ((c : Int) % F.length).toNat q.1.toNat}) 0 (fun ⟨(k, a, b), _⟩ nx => ([(12, .d (int k)), (10, .d (int a)), (11, .d (int b))], [])) (fun p => ((F.getD ((c : Int) % F.length).toNat []).length - p.1.1).toNat) (⟨(0, 0, 0), ⟨by simp, by simp⟩, rfl, rfl⟩) ?_ ?_
  ·rintro ⟨⟨k, a, b⟩, ⟨k0, k1⟩, ha, hb⟩
   simp only at k0 k1 ha hb
   by_cases hk : k < (F.getD ((c : Int) % F.length).toNat []).length
   ·have hy := hel _ (getD_mem (l := F.getD ((c : Int) % F.length).toNat []) (i := k.toNat) (by omega) 0)
    have hsu := hsu k k0 hk
    rw [← ha] at hsu
    have hc1 := hcnt _ hy.1 (by omega)
    have hs1 := hsck _ hy.1 (by omega)
    have hr1 := hris ((F.getD ((c : Int) % F.length).toNat []).getD k.toNat 0).toNat
    have hb1 := hbits ((F.getD ((c : Int) % F.length).toNat []).getD k.toNat 0).toNat
    have hl1 := hcle ((F.getD ((c : Int) % F.length).toNat []).getD k.toNat 0).toNat (by omega)
    have ht0 := htk k.toNat
    rw [← ha] at ht0
    have hbk : bitK F ((c : Int) % F.length).toNat (k + 1).toNat = b ||| bitsOf (sacksL F ((F.getD ((c : Int) % F.length).toNat []).getD k.toNat 0).toNat) := by
     rw [show (k + 1).toNat = k.toNat + 1 by omega, bitK, ← hb]; rfl
    have hbb := hbl k.toNat
    rw [← hb] at hbb
    have hbo : bitsOf (sacksL F ((F.getD ((c : Int) % F.length).toNat []).getD k.toNat 0).toNat) < 2 ^ 20 := by
     have := bitsT_lt (l := sacksL F ((F.getD ((c : Int) % F.length).toNat []).getD k.toNat 0).toNat) (n := F.length) (fun y hy => (lst_rs _ _).1 y hy) (sacksL F ((F.getD ((c : Int) % F.length).toNat []).getD k.toNat 0).toNat).length
     exact Nat.lt_of_lt_of_le this (Nat.pow_le_pow_right (by omega) (by omega))
    have hor := borN b (bitsOf (sacksL F ((F.getD ((c : Int) % F.length).toNat []).getD k.toNat 0).toNat)) (by omega) hbo
    generalize cg F (fun _ => false) ((F.getD ((c : Int) % F.length).toNat []).getD k.toNat 0).toNat = v at *
    generalize sacksL F ((F.getD ((c : Int) % F.length).toNat []).getD k.toNat 0).toNat = u at *
    clear hsck hcnt hris hbits htk hcle hlist
    conv => whnf
    repeat' first | ((first | refine Ob.a ?_ | refine Sp.tt ?_ | refine Sp.ff ?_ | refine Sp.yes ?_ | refine Sp.no ?_ | refine Sp.nyes ?_ | refine Sp.nno ?_);conv=>whnf) | ((first | refine Sp.ne (fun hc => ?_) fun hc => ?_ | refine Sp.dec (fun hc => ?_) fun hc => ?_ | refine Sp.ndec (fun hc => ?_) fun hc => ?_ | refine Sp.mk (fun hc => ?_) fun hc => ?_) <;> conv => whnf) | (apply Cl.go;(conv=>whnf); (first | refine Ob.call (hc1) ?_ | refine Ob.call (hs1) ?_ | refine Ob.call (hr1) ?_ | refine Ob.call (hb1) ?_);(conv=>whnf)) | (refine Fi.a ?_;conv=>whnf) | (refine Ob.b ?_;conv=>whnf)
    all_goals try (exfalso; omega)
    all_goals (refine ⟨rfl, ⟨(k + 1, a + v, b ||| bitsOf u), ⟨by simp only; omega, by simp only; omega⟩, hsu.symm, hbk.symm⟩, ?_, by simp only; omega⟩;(conv=>whnf); repeat' first | (refine Edge.fast ?_) | ((conv=>whnf); first | exact True.intro | (refine And.intro ?_ ?_) | exact rfl | exact Nat.le_of_eq (Nat.zero_add _) | exact ImpS.refl _ | ((conv => arg 1; whnf); first | exact ImpS.refl _ | (refine ImpS.nil_eq ?_) | (refine ImpS.vnil_eq ?_) | (refine ImpS.row ?_) | (refine ImpS.rowN ?_ ?_) | (refine ImpS.sl_eq ?_) | (refine ImpS.expl rfl ?_)) | (refine row_snoc' ?_) | exact MImp.refl _ | exact cimp_none | exact cimp_same | exact List.not_mem_nil | exact DImp.refl _) | exact rfl | (refine And.intro ?_ ?_) | exact ImpS.refl _)
    all_goals first | exact hor
   ·have e1 : a = r := by rw [ha, h6, List.take_of_length_le (by omega)]
    have e2 : b = bitK F ((c : Int) % F.length).toNat (F.getD ((c : Int) % F.length).toNat []).length := by rw [hb]; congr 1; omega
    subst e1
    rw [← e2] at hlist
    conv => whnf
    repeat' first | ((first | refine Ob.a ?_ | refine Sp.tt ?_ | refine Sp.ff ?_ | refine Sp.yes ?_ | refine Sp.no ?_ | refine Sp.nyes ?_ | refine Sp.nno ?_);conv=>whnf) | ((first | refine Sp.ne (fun hc => ?_) fun hc => ?_ | refine Sp.dec (fun hc => ?_) fun hc => ?_ | refine Sp.ndec (fun hc => ?_) fun hc => ?_ | refine Sp.mk (fun hc => ?_) fun hc => ?_) <;> conv => whnf) | (apply Cl.go;(conv=>whnf); (first | refine Ob.call (hlist) ?_ | refine Ob.call (i1) ?_ | refine Ob.call (hw) ?_);(conv=>whnf)) | (refine Fi.a ?_;conv=>whnf) | (refine Ob.b ?_;conv=>whnf)
    all_goals first | (exfalso; omega) | (rename_i hq; exact absurd rfl hq) | exact Lf
  ·exact Lf
end Go.Px.Try

/-! LwParts -/
namespace Go.Px.Try
open Go Go.Proofs Go.Px
set_option maxRecDepth 100000
theorem red_parts {D w : Int} (hD : 0 < D) (hw : 0 ≤ w) (hle : w ≤ D) : (red D w).1 ≤ (red D w).2 ∧ D % (red D w).2 = 0 ∧ D / (red D w).2 * (red D w).1 = w ∧ (0 < (red D w).1 ↔ 0 < w) := by
 obtain ⟨a, rfl⟩ := Int.eq_ofNat_of_zero_le hw
 obtain ⟨b, rfl⟩ := Int.eq_ofNat_of_zero_le (Int.le_of_lt hD)
 unfold red
 simp only [Int.toNat_natCast]
 obtain ⟨a', ha⟩ := Nat.gcd_dvd_left a b
 obtain ⟨b', hb⟩ := Nat.gcd_dvd_right a b
 have g : 0 < a.gcd b := Nat.gcd_pos_of_pos_right _ (by omega)
 generalize a.gcd b = k at *
 subst ha hb
 rw [Nat.mul_div_cancel_left _ g, Nat.mul_div_cancel_left _ g]
 have hb' : 0 < b' := by
  cases b' with
  | zero => simp at hD
  | succ n => omega
 have h1 : a' ≤ b' := Nat.le_of_mul_le_mul_left (by omega : k * a' ≤ k * b') g
 refine ⟨by omega, ?_, ?_, ?_⟩
 ·rw [← Int.natCast_emod, Nat.mul_mod_left]; rfl
 ·rw [← Int.natCast_ediv, ← Int.natCast_mul, Nat.mul_div_cancel _ hb']
 ·constructor
  ·intro h
   have := Nat.mul_pos g (by omega : 0 < a'); omega
  ·intro h
   cases a' with
   | zero => simp at h
   | succ n => omega
theorem ratEq {p q : Int × Int} (h : p = q) : ∀ j, j < 2 → intA (AV.d ([int p.1, int p.2].getD (j + 0) .top)) = intA (AV.d ([int q.1, int q.2].getD (j + 0) .top)) := by
 subst h; intros; rfl
theorem sm_pick {f : Nat → Int} {k : Nat} : ∀ {n : Nat}, k < n → (∀ i, i < n → i ≠ k → f i = 0) → sm f n = f k
 | n + 1, hk, h => by
  rw [sm]
  by_cases e : k = n
  ·subst e; rw [sm_zero fun i hi => h i (by omega) (by omega)]; omega
  ·rw [sm_pick (n := n) (by omega) fun i hi hne => h i (by omega) hne, h n (by omega) fun h' => e h'.symm]; omega
/-- A node that comes of one sack alone has all of it. -/
theorem parts_one {F : List (List Int)} (hm : MixOk F) {x : Nat} (hx : x < F.length) (h : (sacksL F x).length = 1) : 0 ≤ (sacksL F x).getD 0 0 ∧ (sacksL F x).getD 0 0 < F.length ∧ (partsL F x).getD ((sacksL F x).getD 0 0).toNat (0, 0) = (1, 1) := by
 have hmem := getD_mem (l := sacksL F x) (i := 0) (by omega) 0
 obtain ⟨y, hy, _, e⟩ := mem_lst.1 hmem
 rw [e]
 refine ⟨by omega, by omega, ?_⟩
 rw [Int.toNat_natCast, partsL_getD hy]
 have h1 := pw_all hm hx
 rw [sm_pick (k := y) hy fun i hi hne => ?_] at h1
 ·rw [h1, red_self (all_pos F)]
 ·have h2 := pw_pos hm i x hx
  have h3 := (pw_range hm i x hx).1
  by_cases h4 : 0 < pw F i x
  ·exfalso
   obtain ⟨a, b⟩ := h2.1 h4
   have : (i : Int) ∈ sacksL F x := mem_lst.2 ⟨i, hi, by rw [b, show sackB F i = true from decide_eq_true a]; rfl, rfl⟩
   obtain ⟨j, hj, e2⟩ := mem_getD (d := 0) this
   rw [show j = 0 by omega, e] at e2
   omega
  ·omega
theorem parts_at_i {F : List (List Int)} (hm : MixOk F) {x i : Nat} (hx : x < F.length) (hi : i < F.length) : (0 ≤ ((partsL F x).getD i (0, 0)).1 ∧ 1 ≤ ((partsL F x).getD i (0, 0)).2 ∧ ((partsL F x).getD i (0, 0)).2 ≤ allD F) ∧ ((partsL F x).getD i (0, 0)).1 ≤ ((partsL F x).getD i (0, 0)).2 ∧ allD F % ((partsL F x).getD i (0, 0)).2 = 0 ∧ allD F / ((partsL F x).getD i (0, 0)).2 * ((partsL F x).getD i (0, 0)).1 = pw F i x ∧ (0 < ((partsL F x).getD i (0, 0)).1 ↔ (i : Int) ∈ sacksL F x) := by
 have hr := pw_range hm i x hx
 rw [partsL_getD hi]
 obtain ⟨a, b, c, d⟩ := red_parts (all_pos F) hr.1 hr.2
 refine ⟨red_pos (all_pos F), a, b, c, d.trans ((pw_pos hm i x hx).trans ?_)⟩
 unfold sacksL
 rw [mem_lst_nat, Bool.and_eq_true]
 constructor
 ·rintro ⟨h1, h2⟩; exact ⟨hi, decide_eq_true h1, h2⟩
 ·rintro ⟨_, h1, h2⟩; exact ⟨of_decide_eq_true h1, h2⟩
theorem pr_next (F : List (List Int)) (i : Nat) : prE F (i + 1) = prE F i * max 1 ((F.getD i []).length : Int) := by
 rw [prE]
 unfold szN frm
 congr 1
 omega
theorem pw_part {F : List (List Int)} (hm : MixOk F) {x : Nat} (hx : x < F.length) (n : Nat) (hn : n ≤ F.length) : 0 ≤ sm (fun s => pw F s x) n ∧ sm (fun s => pw F s x) n ≤ allD F := by
 have h1 := sm_nn (f := fun s => pw F s x) (n := n) fun i hi => (pw_range hm i x hx).1
 have h2 := sm_split (fun s => pw F s x) n (F.length - n)
 rw [show n + (F.length - n) = F.length by omega, pw_all hm hx] at h2
 have h3 := sm_nn (f := fun i => pw F (n + i) x) (n := F.length - n) fun i hi => (pw_range hm _ x hx).1
 omega
set_option maxHeartbeats 16000000 in
theorem TraceParts_spec (F : List (List Int)) (c : Nat) (hF : Lens F) (hc : c < 256) : Fn Try.prog 9 [mixD F, u8 c] (bool true) := by
 have hw := Works_spec
 by_cases hm : MixOk F
 case neg =>
  have hf := fine_no hF hm
  refine Fn.of_ex (cuts := []) tys hM Try.func9 rfl Try.call9 rfl ?_
  show exC Try.prog T [] _ false none 0 (entry 157 [mixD F, u8 c]) (finQ T [ResultVar.tmp 4] _)
  conv => whnf
  repeat' first | ((first | refine Ob.a ?_ | refine Sp.tt ?_ | refine Sp.ff ?_ | refine Sp.yes ?_ | refine Sp.no ?_ | refine Sp.nyes ?_ | refine Sp.nno ?_);conv=>whnf) | ((first | refine Sp.ne (fun hc => ?_) fun hc => ?_ | refine Sp.dec (fun hc => ?_) fun hc => ?_ | refine Sp.ndec (fun hc => ?_) fun hc => ?_ | refine Sp.mk (fun hc => ?_) fun hc => ?_) <;> conv => whnf) | (apply Cl.go;(conv=>whnf); (first | refine Ob.call (hf) ?_ | refine Ob.call (hw) ?_);(conv=>whnf)) | (refine Fi.a ?_;conv=>whnf) | (refine Ob.b ?_;conv=>whnf)
  all_goals exact Lf
 have hf := fine_yes hF hm
 have hl10 := hm.l10
 have hl1 := hm.l1
 have x0 : 0 ≤ (c : Int) % F.length := Int.emod_nonneg _ (by omega)
 have x1 : (c : Int) % F.length < F.length := Int.emod_lt_of_pos _ (by omega)
 have h1 := parts_at hm x0 x1
 have h2 := sacks_at hm x0 x1
 have hx : ((c : Int) % F.length).toNat < F.length := by omega
 have hpl := partsL_len F ((c : Int) % F.length).toNat
 have hsl : (sacksL F ((c : Int) % F.length).toNat).length ≤ 10 := lst_ten hm _
 have hat := fun (i : Int) (a : 0 ≤ i) (b : i < F.length) => parts_at_i hm hx (i := i.toNat) (by omega)
 have hone := parts_one hm hx
 have hall := pw_all hm hx
 have hpt := fun (n : Int) (a : 0 ≤ n) (b : n ≤ F.length) => pw_part hm hx n.toNat (by omega)
 have hps : ∀ n : Nat, sm (fun s => pw F s ((c : Int) % F.length).toNat) (n + 1) = sm (fun s => pw F s ((c : Int) % F.length).toNat) n + pw F n ((c : Int) % F.length).toNat := fun n => rfl
 have hpr := fun (i : Nat) (a : i ≤ F.length) => pr_le hm a
 have hpp := fun (i : Nat) => pr_pos F i
 have hD := all_le hm
 have hDp := all_pos F
 have hH := fun (i : Int) => Has_spec (sacksL F ((c : Int) % F.length).toNat) i (by omega)
 have hDe : allD F = prE F F.length := rfl
 have hns := fun (i : Nat) => pr_next F i
 have hwr := fun (i : Int) (a : 0 ≤ i) (b : i < F.length) => pw_range hm i.toNat ((c : Int) % F.length).toNat hx
 have hfl := fun (i : Int) (a : 0 ≤ i) (b : i < F.length) => frm_len' hm (i := i.toNat) (by omega)
 change ∀ i : Int, 0 ≤ i → i < F.length → (F.getD i.toNat []).length ≤ i.toNat at hfl
 generalize partsL F ((c : Int) % F.length).toNat = L at *
 generalize sacksL F ((c : Int) % F.length).toNat = s at *
 have hw0 : sm (fun s => pw F s ((c : Int) % F.length).toNat) (Int.toNat 0) = 0 := rfl
 generalize sm (fun s => pw F s ((c : Int) % F.length).toNat) = W at *
 refine Fn.of_ex (cuts := []) tys hM Try.func9 rfl Try.call9 rfl ?_
 show exC Try.prog T [] _ false none 0 (entry 157 [mixD F, u8 c]) (finQ T [ResultVar.tmp 4] _)
 conv => whnf
 repeat' first | ((first | refine Ob.a ?_ | refine Sp.tt ?_ | refine Sp.ff ?_ | refine Sp.yes ?_ | refine Sp.no ?_ | refine Sp.nyes ?_ | refine Sp.nno ?_);conv=>whnf) | ((first | refine Sp.ne (fun hc => ?_) fun hc => ?_ | refine Sp.dec (fun hc => ?_) fun hc => ?_ | refine Sp.ndec (fun hc => ?_) fun hc => ?_ | refine Sp.mk (fun hc => ?_) fun hc => ?_) <;> conv => whnf) | (apply Cl.go;(conv=>whnf); (first | refine Ob.call (hf) ?_ | refine Ob.call (h1) ?_ | refine Ob.call (h2) ?_);(conv=>whnf)) | (refine Fi.a ?_;conv=>whnf) | (refine Ob.b ?_;conv=>whnf)
 all_goals try (exfalso; omega)
 refine Lp.snap [0, 1, 2, 4, 6, 8, 10, 13, 66, 67, 68, 70, 71, 72, 73, 74, 75, 76, 77, 78, 79, 80, 81, 82, 83, 84, 85, 86, 87, 88, 89, 90, 91, 92, 93, 94, 95, 96, 97, 98, 99, 100, 101, 102, 103, 104, 105, 106, 107, 108, 109, 110, 111, 112, 113, 114, 115, 116, 117, 118, 119, 121, 122, 123, 124, 125, 126, 127, 128, 129, 130, 131, 132, 133, 134, 135, 136, 137, 138, 139, 140, 141, 142, 143, 144, 145, 146, 147, 148, 149, 150, 151, 152, 153, 154, 155, 156] 40 ?_
 (conv=>whnf)
 refine LpB.go 157 ({i : Int // 0 ≤ i ∧ i ≤ F.length}) 0 (fun ⟨i, _⟩ nx => ([(12, .d (int i)), (11, .d (int (prE F i.toNat)))], [])) (fun p => (F.length - p.1).toNat) (⟨0, by omega, by omega⟩) ?_ ?_
 ·rintro ⟨i, i0, i1⟩
  by_cases hi : i < F.length
  ·have hn := hns i.toNat
   have hb := hpr (i.toNat + 1) (by omega)
   have hp := hpp (i.toNat + 1)
   have hfl := hfl i i0 hi
   rw [hn] at hb hp
   have e : prE F (i + 1).toNat = prE F i.toNat * max 1 ((F.getD i.toNat []).length : Int) := by rw [show (i + 1).toNat = i.toNat + 1 by omega]; exact hn
   clear hat hone hall hpt hps hpr hpp hH hns hn hwr h1 h2
   conv => whnf
   repeat' first | ((first | refine Ob.a ?_ | refine Sp.tt ?_ | refine Sp.ff ?_ | refine Sp.yes ?_ | refine Sp.no ?_ | refine Sp.nyes ?_ | refine Sp.nno ?_);conv=>whnf) | ((first | refine Sp.ne (fun hc => ?_) fun hc => ?_ | refine Sp.dec (fun hc => ?_) fun hc => ?_ | refine Sp.ndec (fun hc => ?_) fun hc => ?_ | refine Sp.mk (fun hc => ?_) fun hc => ?_) <;> conv => whnf) | (refine Fi.a ?_;conv=>whnf) | (refine Ob.b ?_;conv=>whnf)
   all_goals first | (exfalso; omega) | exact ⟨rfl, ⟨i + 1, by omega, by omega⟩, Lf, by simp only; omega⟩
  ·have e : prE F i.toNat = allD F := by rw [hDe, show i.toNat = F.length by omega]
   clear hpr hpp hns hDe
   conv => whnf
   repeat' first | ((first | refine Ob.a ?_ | refine Sp.tt ?_ | refine Sp.ff ?_ | refine Sp.yes ?_ | refine Sp.no ?_ | refine Sp.nyes ?_ | refine Sp.nno ?_);conv=>whnf) | ((first | refine Sp.ne (fun hc => ?_) fun hc => ?_ | refine Sp.dec (fun hc => ?_) fun hc => ?_ | refine Sp.ndec (fun hc => ?_) fun hc => ?_ | refine Sp.mk (fun hc => ?_) fun hc => ?_) <;> conv => whnf) | (refine Fi.a ?_;conv=>whnf) | (refine Ob.b ?_;conv=>whnf)
   all_goals try (exfalso; omega)
   refine Lp.snap [0, 1, 6, 8, 11, 136, 137, 138, 139, 140, 141, 142, 143, 144, 145, 146, 147, 148, 149, 150, 151, 152, 153, 154, 155, 156] 40 ?_
   (conv=>whnf)
   refine LpB.go 157 ({i : Int // 0 ≤ i ∧ i ≤ F.length}) 0 (fun ⟨i, _⟩ nx => ([(13, .d (int i)), (10, .d (int (W i.toNat))), (11, .d (int (allD F)))], [])) (fun p => (F.length - p.1).toNat) (⟨0, by omega, by omega⟩) ?_ ?_
   ·rintro ⟨i, i0, i1⟩
    by_cases hi : i < F.length
    ·obtain ⟨⟨a1, a2, a3⟩, a4, a5, a6, a7⟩ := hat i i0 hi
     have hH := hH i
     have hps := hps i.toNat
     have hp1 := hpt i i0 (by omega)
     have hp2 := hpt (i + 1) (by omega) (by omega)
     have hwr := hwr i i0 hi
     rw [Int.toNat_of_nonneg i0] at a7
     rw [show (i + 1).toNat = i.toNat + 1 by omega] at hp2
     have e9 : W (i + 1).toNat = W i.toNat + pw F i.toNat ((c : Int) % F.length).toNat := by rw [show (i + 1).toNat = i.toNat + 1 by omega]; exact hps
     rw [hps] at hp2
     generalize pw F i.toNat ((c : Int) % F.length).toNat = w at *
     have a8 := Int.ediv_nonneg (Int.le_of_lt hDp) (show 0 ≤ (L.getD i.toNat (0, 0)).2 by omega)
     have a9 := Int.ediv_le_self (L.getD i.toNat (0, 0)).2 (Int.le_of_lt hDp)
     clear hone hall hpt hat h1 h2 hps
     by_cases hpos : 0 < (L.getD i.toNat (0, 0)).1
     ·rw [decide_eq_true (a7.1 hpos)] at hH
      clear a7
      conv => whnf
      repeat' first | ((first | refine Ob.a ?_ | refine Sp.tt ?_ | refine Sp.ff ?_ | refine Sp.yes ?_ | refine Sp.no ?_ | refine Sp.nyes ?_ | refine Sp.nno ?_);conv=>whnf) | (refine Sp.byes ?_;conv=>whnf) | (refine Sp.bno ?_;conv=>whnf) | ((first | refine Sp.ne (fun hc => ?_) fun hc => ?_ | refine Sp.dec (fun hc => ?_) fun hc => ?_ | refine Sp.ndec (fun hc => ?_) fun hc => ?_ | refine Sp.mk (fun hc => ?_) fun hc => ?_) <;> conv => whnf) | (apply Cl.go;(conv=>whnf); (first | refine Ob.call (hH) ?_);(conv=>whnf)) | (refine Fi.a ?_;conv=>whnf) | (refine Ob.b ?_;conv=>whnf)
      all_goals first | (exfalso; omega) | exact absurd (decide_eq_true hpos) hc | exact absurd (decide_eq_false hpos) hc | exact ⟨rfl, ⟨i + 1, by omega, by omega⟩, Lf, by simp only; omega⟩
     ·rw [decide_eq_false fun h => hpos (a7.2 h)] at hH
      clear a7
      conv => whnf
      repeat' first | ((first | refine Ob.a ?_ | refine Sp.tt ?_ | refine Sp.ff ?_ | refine Sp.yes ?_ | refine Sp.no ?_ | refine Sp.nyes ?_ | refine Sp.nno ?_);conv=>whnf) | (refine Sp.byes ?_;conv=>whnf) | (refine Sp.bno ?_;conv=>whnf) | ((first | refine Sp.ne (fun hc => ?_) fun hc => ?_ | refine Sp.dec (fun hc => ?_) fun hc => ?_ | refine Sp.ndec (fun hc => ?_) fun hc => ?_ | refine Sp.mk (fun hc => ?_) fun hc => ?_) <;> conv => whnf) | (apply Cl.go;(conv=>whnf); (first | refine Ob.call (hH) ?_);(conv=>whnf)) | (refine Fi.a ?_;conv=>whnf) | (refine Ob.b ?_;conv=>whnf)
      all_goals first | (exfalso; omega) | exact absurd (decide_eq_true hpos) hc | exact absurd (decide_eq_false hpos) hc | exact ⟨rfl, ⟨i + 1, by omega, by omega⟩, Lf, by simp only; omega⟩
    ·have e2 : W i.toNat = allD F := by rw [show i.toNat = F.length by omega]; exact hall
     by_cases h1s : s.length = 1
     ·obtain ⟨b1, b2, b3⟩ := hone h1s
      have c1 : 0 ≤ s.getD (Int.toNat 0) 0 := b1
      have c2 : s.getD (Int.toNat 0) 0 < (L.length : Int) := by rw [hpl]; exact b2
      have c3 : L.getD (s.getD (Int.toNat 0) 0).toNat (0, 0) = (1, 1) := b3
      clear b1 b2 b3
      clear hat hone hall hpt hps hH hwr h1 h2
      conv => whnf
      repeat' first | ((first | refine Ob.a ?_ | refine Sp.tt ?_ | refine Sp.ff ?_ | refine Sp.yes ?_ | refine Sp.no ?_ | refine Sp.nyes ?_ | refine Sp.nno ?_);conv=>whnf) | ((first | refine Sp.ne (fun hc => ?_) fun hc => ?_ | refine Sp.dec (fun hc => ?_) fun hc => ?_ | refine Sp.ndec (fun hc => ?_) fun hc => ?_ | refine Sp.mk (fun hc => ?_) fun hc => ?_) <;> conv => whnf) | (apply Cl.go;(conv=>whnf); (first | refine Ob.call (hw) ?_ | refine Ob.call (by_spec 1 1) ?_);(conv=>whnf)) | (refine Fi.a ?_;conv=>whnf) | (refine Ob.go (fun _ => ?_) (isI2 ⟨⟨_, rfl⟩, ⟨_, rfl⟩⟩ ⟨⟨_, rfl⟩, ⟨_, rfl⟩⟩);conv=>whnf) | (refine Ob.b ?_;conv=>whnf)
      all_goals first | (exfalso; omega) | (exfalso; exact hc (ratEq c3)) | (exfalso; rename_i hq; exact hq (ratEq c3)) | exact Lf
     ·clear hat hone hall hpt hps hH hwr h1 h2
      conv => whnf
      repeat' first | ((first | refine Ob.a ?_ | refine Sp.tt ?_ | refine Sp.ff ?_ | refine Sp.yes ?_ | refine Sp.no ?_ | refine Sp.nyes ?_ | refine Sp.nno ?_);conv=>whnf) | ((first | refine Sp.ne (fun hc => ?_) fun hc => ?_ | refine Sp.dec (fun hc => ?_) fun hc => ?_ | refine Sp.ndec (fun hc => ?_) fun hc => ?_ | refine Sp.mk (fun hc => ?_) fun hc => ?_) <;> conv => whnf) | (apply Cl.go;(conv=>whnf); (first | refine Ob.call (hw) ?_);(conv=>whnf)) | (refine Fi.a ?_;conv=>whnf) | (refine Ob.b ?_;conv=>whnf)
      all_goals first | (exfalso; omega) | exact Lf
   ·exact Lf
 ·exact Lf
end Go.Px.Try

namespace Go.Proofs.Ytbgpdcbljjdjnaa.tracePartsDone
open Go.ChangeShapes Go.WideShapes Go.ChangeAt Go.RowKit
open Go.Px
open Go.Px.Try (own laidOut)
set_option maxRecDepth 100000 in
theorem lifted (os : Os) (started : os.Started) (H : Type) (enc : TypeId × Value → H) :
  ReturnsInHanded {} Try.checked os 9 .any (Rows.tracePartsSpec.pre6 enc Try.prog Try.f9 Rows.tracePartsRow.domain false) (Rows.tracePartsSpec.post enc Try.prog Try.f9 false true false false) := by
 refine returnsInHanded_of_change (C := Try.checked) own started (by kernel_rfl) Try.func9
  (ChangeSpec.witness6 (enc := enc) (C := Try.checked) false ⟨#[], #[.agg #[.slice none 0 0], .int .u8 0], []⟩ 8 (by kernel_rfl) (by kernel_rfl) (by kernel_rfl) (by kernel_rfl)) ?_
 intro W base args ds gs before hval0 hW hcnd _
 have hval : ∀ (j : Nat) t v, Try.f9.params[j]? = some t → args[j]? = some v → Value.okWide Try.prog W .any base t v := hval0
 have hW' := hW
 obtain ⟨p, q, hA0, hV, rfl, hfz, hnd⟩ := hW
 have hA : DataW.TrodAll enc Try.prog W 0 (fun _ => true) true Try.f9.params.toList args.toList ds p := hA0
 rw [Try.params9] at hA hval
 obtain ⟨v0, vs0, d0, ds0, p0, q0, hargs, rfl, rfl, h0, r0⟩ := trodAll_cons hA
 obtain ⟨v1, vs1, d1, ds1, p1, q1, rfl, rfl, rfl, h1, r1⟩ := trodAll_cons r0
 obtain ⟨rfl, rfl, rfl⟩ := trodAll_nil r1
 obtain rfl : args = #[v0, v1] := by cases args; simp_all
 obtain ⟨rfl, rfl⟩ := trodVars_none hV
 have lt0 : ∀ x ∈ p0, x.block < W.heap.size := by have k := h0; obtain ⟨m, hm⟩ := k; exact DataW.trod_lt m _ _ _ hm
 obtain ⟨x0, g0, e0⟩ := Go.Px.Try.mix_arg h0 (hval 0 24 v0 rfl rfl)
 have lt1 : ∀ x ∈ p1, x.block < W.heap.size := by have k := h1; obtain ⟨m, hm⟩ := k; exact DataW.trod_lt m _ _ _ hm
 obtain ⟨x1, g1, e1⟩ := Go.Px.Try.u8_arg h1 (hval 1 5 v1 rfl rfl)
 clear hA0 hval0
 refine ((Go.Px.Try.TraceParts_spec x0 x1 g0 g1).2 (All W) W [v0, v1] (fun _ h => h) ⟨e0, e1, trivial⟩).mono fun e W' ⟨v, S', he, hr, _, _, bel⟩ => ?_
 obtain rfl : v = .bool true := hr
 subst he
 exact ⟨_, rfl, _, _, _, [], _, [], hW', trodAll_mk1 (shut_bool Try.underlying4 _), (trodAll_cons_mk (Below.trod laidOut (by kernel_rfl) (of_decide_eq_true (by kernel_rfl)) h0 bel lt0) (trodAll_cons_mk (Below.trod laidOut (by kernel_rfl) (of_decide_eq_true (by kernel_rfl)) h1 bel lt1) trodAll_mk0)), rfl, bel.frame _, fun h => by cases h⟩
theorem over : Rows.tracePartsRow.holds Try.pinned (OpenSpec.ofChange Rows.tracePartsSpec) :=
 OpenClaim.holds_of_wide 9 Try.f9 rfl rfl rfl rfl rfl rfl rfl ⟨rfl, rfl, rfl, rfl, rfl⟩ rfl rfl rfl rfl rfl (by kernel_rfl) Try.func9 (by kernel_rfl)
  (of_decide_eq_true (by kernel_rfl)) (by unfold Func.isWrapper; first | (rw [if_pos (by decide +kernel)]; kernel_rfl) | (rw [if_neg (by decide +kernel)]; exact ⟨rfl, rfl⟩))
  (fun os started H enc _ => lifted os started H enc)
theorem proved : Rows.TracePartsSaid := over
#print axioms proved
end Go.Proofs.Ytbgpdcbljjdjnaa.tracePartsDone
