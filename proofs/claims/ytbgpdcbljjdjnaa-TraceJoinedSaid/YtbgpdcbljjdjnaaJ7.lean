/- Texts of this proof, joined (Law2, Law3, FrT): a small program logic over the model, and what functions of the program give. No statement of the seat is proved here. -/
import Derived.Test.YtbgpdcbljjdjnaaJ6
import Derived.Test.YtbgpdcbljjdjnaaJ3
set_option linter.unusedVariables false
set_option linter.unusedSimpArgs false

/-! Law2 -/
namespace Go.Px.Try
open Go Go.Proofs Go.Px
set_option maxRecDepth 100000
section
variable {F : List (List Int)} {bad : List Int} {lot : Int} (hk : BadOk F bad lot)
include hk
theorem grw_low {m : Nat} {l : List Nat} (h : grwR F (inZ bad) lot.toNat m F.length [] 0 = some l) : lam0 F bad lot ≤ m := by
 obtain ⟨_, a2, a3, a4, a5⟩ := grwR_some F.length [] 0 l h List.Pairwise.nil (by simp)
 have h := lam_low hk (X := inS l) (inS_not.2 fun h => (a5 _ h).2 rfl) a3
 rw [cnt_list (nodup_inc a4) fun k hkk => by have := (a5 k hkk).1; omega, a2] at h
 omega
theorem grw_cut : grwR F (inZ bad) lot.toNat (lam0 F bad lot) F.length [] 0 = some (cutP F bad lot) := by
 have h := grwR_grdy (F := F) (bad := inZ bad) (lot := lot.toNat) (lam := lamW F (inZ bad) lot.toNat) (m := lam0 F bad lot) (o := cutP F bad lot) (fun W h => hklam hk W h) (by unfold lam0; rw [nil_inZ]) (cut_inv hk).1 (cut_inv hk).2 F.length 0 (by omega)
 have e : (cutP F bad lot).filter (fun k => decide (k < 0)) = [] := List.filter_eq_nil_iff.2 fun a _ => by simp
 rw [e] at h
 exact h
theorem cutI_eq {m : Nat} {o : List Nat} (hn : ∀ j, j < m → grwR F (inZ bad) lot.toNat j F.length [] 0 = none) (hs : grwR F (inZ bad) lot.toNat m F.length [] 0 = some o) : cutI F bad lot = zl o ∧ lam0 F bad lot = m := by
 have h1 := grw_low hk hs
 have h2 := grw_cut hk
 have h3 : lam0 F bad lot = m := by
  by_cases e : lam0 F bad lot < m
  ·rw [hn _ e] at h2; cases h2
  ·omega
 rw [h3, hs] at h2
 cases h2
 exact ⟨rfl, h3⟩
end
theorem smM : SmallM mixM := ⟨by decide, by decide⟩
theorem bad1 : BadOk mixM [0, 1] 7 := badE_ok.1 (by decide +kernel)
theorem bad2 : BadOk mixM [0, 1, 2] 7 := badE_ok.1 (by decide +kernel)
theorem bad3 : BadOk mixM [2] 3 := badE_ok.1 (by decide +kernel)
theorem bad4 : BadOk mixM [1] 5 := badE_ok.1 (by decide +kernel)
theorem w_sacks (x : Int) (l : List Int) (h : nodeE mixM [x] = 0) (h2 : sacksL mixM x.toNat = l) : Fn Try.prog 17 [mixD mixM, int x] (tpl [ints l, int 0]) := by
 have a := SacksP_spec mixM smM x
 rwa [h, if_pos rfl, h2] at a
theorem w_count (x n : Int) (h : nodeE mixM [x] = 0) (h2 : cg mixM (fun _ => false) x.toNat = n) : Fn Try.prog 19 [mixD mixM, int x] (tpl [int n, int 0]) := by
 have a := CountP_spec mixM smM x
 rwa [h, if_pos rfl, h2] at a
theorem w_count8 : Fn Try.prog 19 [mixD mixM, int 8] (tpl [int 0, int 2]) := by
 have a := CountP_spec mixM smM 8
 rwa [show nodeE mixM [8] = 2 by decide +kernel, if_neg (by decide)] at a
theorem w_through (x : Int) (l : List Int) (h : nodeE mixM [x] = 0) (h2 : thL mixM x.toNat = l) : Fn Try.prog 24 [mixD mixM, int x] (tpl [ints l, int 0]) := by
 have a := ThroughP_spec mixM smM x
 rwa [h, if_pos rfl, h2] at a
theorem w_parts (x : Int) (l : List (Int × Int)) (h : nodeE mixM [x] = 0) (h2 : partsL mixM x.toNat = l) : Fn Try.prog 26 [mixD mixM, int x] (tpl [slOf 2 ratD (0, 0) l, int 0]) := by
 have a := PartsP_spec mixM smM x
 rwa [h, if_pos rfl, h2] at a
theorem w_common (x y : Int) (l : List Int) (h : nodeE mixM [x, y] = 0) (h2 : coL mixM x.toNat y.toNat = l) : Fn Try.prog 28 [mixD mixM, int x, int y] (tpl [ints l, int 0]) := by
 have a := CommonP_spec mixM smM x y
 rwa [h, if_pos rfl, h2] at a
theorem w_cut {bad : List Int} {lot : Int} (hk : BadOk mixM bad lot) (hb : bad.length < 1000000) (l : List Int) (h2 : cutI mixM bad lot = l) : Fn Try.prog 31 [mixD mixM, ints bad, int lot] (tpl [ints l, int 0]) := by
 have a := CutP_spec mixM smM bad hb lot
 rw [badE_ok.2 hk, if_pos rfl] at a
 rw [← h2]; exact a
theorem w_checkCut (bad : List Int) (lot : Int) (c : List Int) (e : Int) (hb : bad.length < 1000000) (hc : c.length < 1000000) (h : checkCutR mixM bad lot c = e) : Fn Try.prog 33 [mixD mixM, ints bad, int lot, ints c] (int e) := h ▸ CheckCutP_spec mixM smM bad hb lot c hc
theorem w_checkWays (bad : List Int) (lot : Int) (ws : List (List Int)) (n e : Int) (hb : bad.length < 1000000) (hl : ws.length < 1000000) (hw : ∀ w ∈ ws, w.length < 1000000) (h : checkWaysR mixM bad lot ws = e) (h2 : (if e = 0 then (ws.length : Int) else 0) = n) : Fn Try.prog 36 [mixD mixM, ints bad, int lot, slOf 1 ints [] ws] (tpl [int n, int e]) := by
 have a := CheckWaysP_spec mixM smM bad hb lot ws hl hw
 rwa [h, h2] at a
theorem cutA : cutI mixM [0, 1] 7 = [5] := (cutI_eq bad1 (m := 1) (o := [5]) (by decide +kernel) (by decide +kernel)).1
theorem cutB : cutI mixM [0, 1, 2] 7 = [2, 5] ∧ lam0 mixM [0, 1, 2] 7 = 2 := cutI_eq bad2 (m := 2) (o := [2, 5]) (by decide +kernel) (by decide +kernel)
theorem cutC : cutI mixM [2] 3 = [] := (cutI_eq bad3 (m := 0) (o := []) (by decide +kernel) (by decide +kernel)).1
theorem cutD : cutI mixM [1] 5 = [1] := (cutI_eq bad4 (m := 1) (o := [1]) (by decide +kernel) (by decide +kernel)).1
theorem w_ways : ∃ ws : List (List Int), (ws.length = 2 ∧ ∀ w ∈ ws, w.length < 1000000) ∧ Fn Try.prog 38 [mixD mixM, ints [0, 1, 2], int 7] (tpl [slOf 1 ints [] ws, int 0]) ∧ Fn Try.prog 37 [mixD mixM, ints [0, 1, 2], int 7, slOf 1 ints [] ws] (tpl [int 2, int 0]) := by
 have a := WaysP_spec mixM smM [0, 1, 2] (by simp) 7
 rw [badE_ok.2 bad2, if_pos rfl] at a
 have hl := wys_len bad2
 rw [cutB.2] at hl
 have hw : ∀ w ∈ wysI mixM [0, 1, 2] 7, w.length < 1000000 := fun w hw => by have := (wys_way bad2 w hw).2; have : mixM.length = 8 := rfl; omega
 have b := CheckWays_spec mixM smM [0, 1, 2] (by simp) 7 (wysI mixM [0, 1, 2] 7) (by omega) hw
 rw [wys_check bad2, if_pos rfl, hl] at b
 exact ⟨_, ⟨hl, hw⟩, a, b⟩
theorem partsM : partsL mixM 7 = [(1, 8), (1, 4), (5, 8), (0, 1), (0, 1), (0, 1), (0, 1), (0, 1)] := by decide +kernel
set_option maxHeartbeats 16000000 in
theorem Works_spec : Fn Try.prog 16 [] (bool true) := by
 have g1 := eight_spec
 have h1 := w_sacks 3 [0, 1] (by decide +kernel) (by decide +kernel)
 have h2 := w_count 7 5 (by decide +kernel) (by decide +kernel)
 have h3 := w_count8
 have h4 := w_through 6 [5] (by decide +kernel) (by decide +kernel)
 have h5 := w_through 7 [] (by decide +kernel) (by decide +kernel)
 have h6 := w_parts 7 _ (by decide +kernel) partsM
 have h7 := w_common 3 4 [1] (by decide +kernel) (by decide +kernel)
 have h8 := w_common 6 7 [6] (by decide +kernel) (by decide +kernel)
 have h9 := w_cut bad1 (by simp) [5] cutA
 have h10 := w_cut bad2 (by simp) [2, 5] cutB.1
 have h11 := w_cut bad3 (by simp) [] cutC
 have h12 := w_checkCut [0, 1] 7 [3] 26 (by simp) (by simp) (by decide +kernel)
 have h13 := w_checkCut [0, 1] 7 [5] 0 (by simp) (by simp) (by decide +kernel)
 have h14 := w_checkCut [0, 1] 7 [7] 2 (by simp) (by simp) (by decide +kernel)
 have h15 := w_checkWays [0, 1, 2] 7 [[2, 7], [0, 3, 5, 6, 7]] 2 0 (by simp) (by simp) (by simp) (by decide +kernel) (by decide)
 have h16 := w_checkWays [0, 1, 2] 7 [[0, 3, 5, 6, 7], [1, 4, 5, 6, 7]] 0 16 (by simp) (by simp) (by simp) (by decide +kernel) (by decide)
 have h17 := w_checkWays [0, 1, 2] 7 [[2, 4, 7]] 0 26 (by simp) (by simp) (by simp) (by decide +kernel) (by decide)
 obtain ⟨ws, ⟨hl, hw⟩, h18, h19⟩ := w_ways
 have i1 := ints_same [0, 1] (by simp)
 have i2 := ints_same [5] (by simp)
 have i3 := ints_same [1] (by simp)
 have i4 := ints_same [6] (by simp)
 have i5 := ints_same [2, 5] (by simp)
 generalize mixM = F at *
 refine Fn.of_ex (cuts := []) tys hM Try.func16 rfl Try.call16 rfl ?_
 show exC Try.prog T [] _ false none 0 (entry 332 []) (finQ T [ResultVar.tmp 0] _)
 conv => whnf
 repeat' first | ((first | refine Ob.a ?_ | refine Sp.tt ?_ | refine Sp.ff ?_ | refine Sp.yes ?_ | refine Sp.no ?_ | refine Sp.nyes ?_ | refine Sp.nno ?_ | refine Fi.a ?_);conv=>whnf) | ((first | refine Sp.ne ?_ ?_ | refine Sp.dec ?_ ?_ | refine Sp.ndec ?_ ?_ | refine Sp.mk ?_ ?_) <;> intro hc <;> conv => whnf) | (apply Cl.go;(conv=>whnf); (first | refine Ob.call (g1) ?_ | refine Ob.call (h1) ?_ | refine Ob.call (h2) ?_ | refine Ob.call (h3) ?_ | refine Ob.call (h4) ?_ | refine Ob.call (h5) ?_ | refine Ob.call (h6) ?_ | refine Ob.call (h7) ?_ | refine Ob.call (h8) ?_ | refine Ob.call (h9) ?_ | refine Ob.call (h10) ?_ | refine Ob.call (h11) ?_ | refine Ob.call (h12) ?_ | refine Ob.call (h13) ?_ | refine Ob.call (h14) ?_ | refine Ob.call (h15) ?_ | refine Ob.call (h16) ?_ | refine Ob.call (h17) ?_ | refine Ob.call (h18) ?_ | refine Ob.call (h19) ?_ | refine Ob.call (i1) ?_ | refine Ob.call (i2) ?_ | refine Ob.call (i3) ?_ | refine Ob.call (i4) ?_ | refine Ob.call (i5) ?_ | refine Ob.call (of_spec [0, 1]) ?_ | refine Ob.call (of_spec [0, 1, 2]) ?_ | refine Ob.call (of_spec [2]) ?_ | refine Ob.call (of_spec [3]) ?_ | refine Ob.call (of_spec [5]) ?_ | refine Ob.call (of_spec [7]) ?_ | refine Ob.call (of_spec [2, 7]) ?_ | refine Ob.call (of_spec [0, 3, 5, 6, 7]) ?_ | refine Ob.call (of_spec [1, 4, 5, 6, 7]) ?_ | refine Ob.call (of_spec [2, 4, 7]) ?_ | refine Ob.call (of_spec [1]) ?_ | refine Ob.call (of_spec [6]) ?_ | refine Ob.call (of_spec [2, 5]) ?_ | refine Ob.call (lists_spec [[2, 7], [0, 3, 5, 6, 7]]) ?_ | refine Ob.call (lists_spec [[0, 3, 5, 6, 7], [1, 4, 5, 6, 7]]) ?_ | refine Ob.call (lists_spec [[2, 4, 7]]) ?_ | refine Ob.call (by_spec 1 8) ?_ | refine Ob.call (by_spec 1 4) ?_ | refine Ob.call (by_spec 5 8) ?_ | refine Ob.call (by_spec 0 1) ?_);(conv=>whnf)) | (refine Ob.go (fun _ => ?_) (isI2 ⟨⟨_, rfl⟩, ⟨_, rfl⟩⟩ ⟨⟨_, rfl⟩, ⟨_, rfl⟩⟩);conv=>whnf) | (refine Ob.b ?_;conv=>whnf)
 all_goals exact Lf
end Go.Px.Try

/-! Law3 -/
namespace Go.Px.Try
open Go Go.Proofs Go.Px
set_option maxRecDepth 100000
def Lens (t : List (List Int)) : Prop := t.length ≤ 9223372036854775807 ∧ ∀ w ∈ t, w.length ≤ 9223372036854775807
theorem ifl_len {c : Prop} [Decidable c] {l : List Int} (h : l.length < 1000000) : (if c then l else []).length < 1000000 := by
 split
 ·exact h
 ·simp
theorem lst_small {F : List (List Int)} (hs : SmallM F) (S : Nat → Bool) : (lst F.length S).length < 1000000 := by
 have := lst_length_le F.length S
 have := hs.l
 omega
theorem coL_len (F : List (List Int)) (a b : Nat) : (coL F a b).length ≤ F.length := by
 rw [coL_lst]; exact lst_length_le _ _
theorem fine_yes {F : List (List Int)} (hF : Lens F) (hm : MixOk F) : Fn Try.prog 39 [mixD F] (bool true) := by
 have h := fine_spec F hF.1 hF.2
 rwa [decide_eq_true (checkM_ok.2 hm)] at h
theorem fine_no {F : List (List Int)} (hF : Lens F) (hm : ¬ MixOk F) : Fn Try.prog 39 [mixD F] (bool false) := by
 have h := fine_spec F hF.1 hF.2
 rwa [decide_eq_false fun h => hm (checkM_ok.1 h)] at h
theorem mixS {F : List (List Int)} (hm : MixOk F) : SmallM F := mix_small (mix_wide hm)
theorem node1 {F : List (List Int)} (hm : MixOk F) {x : Int} (h0 : 0 ≤ x) (h1 : x < F.length) : nodeE F [x] = 0 := nodeE_ok.2 ⟨hm, fun y hy => by rw [List.mem_singleton.1 hy]; exact ⟨h0, h1⟩⟩
theorem node2 {F : List (List Int)} (hm : MixOk F) {x y : Int} (h0 : 0 ≤ x) (h1 : x < F.length) (h2 : 0 ≤ y) (h3 : y < F.length) : nodeE F [x, y] = 0 := nodeE_ok.2 ⟨hm, fun z hz => by
 rcases List.mem_cons.1 hz with e | hz
 ·rw [e]; exact ⟨h0, h1⟩
 ·rw [List.mem_singleton.1 hz]; exact ⟨h2, h3⟩⟩
section
variable {F : List (List Int)} (hm : MixOk F) {x : Int} (h0 : 0 ≤ x) (h1 : x < F.length)
include hm h0 h1
theorem count_at : Fn Try.prog 19 [mixD F, int x] (tpl [int (cg F (fun _ => false) x.toNat), int 0]) := by
 have h := CountP_spec F (mixS hm) x
 rwa [node1 hm h0 h1, if_pos rfl] at h
theorem sacks_at : Fn Try.prog 17 [mixD F, int x] (tpl [ints (sacksL F x.toNat), int 0]) := by
 have h := SacksP_spec F (mixS hm) x
 rwa [node1 hm h0 h1, if_pos rfl] at h
theorem through_at : Fn Try.prog 24 [mixD F, int x] (tpl [ints (thL F x.toNat), int 0]) := by
 have h := ThroughP_spec F (mixS hm) x
 rwa [node1 hm h0 h1, if_pos rfl] at h
theorem parts_at : Fn Try.prog 26 [mixD F, int x] (tpl [slOf 2 ratD (0, 0) (partsL F x.toNat), int 0]) := by
 have h := PartsP_spec F (mixS hm) x
 rwa [node1 hm h0 h1, if_pos rfl] at h
theorem common_at {y : Int} (h2 : 0 ≤ y) (h3 : y < F.length) : Fn Try.prog 28 [mixD F, int x, int y] (tpl [ints (coL F x.toNat y.toNat), int 0]) := by
 have h := CommonP_spec F (mixS hm) x y
 rwa [node2 hm h0 h1 h2 h3, if_pos rfl] at h
end
theorem lst_rs (n : Nat) (S : Nat → Bool) : rsL (lst n S) n := ⟨fun x hx => by obtain ⟨j, h1, _, rfl⟩ := mem_lst.1 hx; omega, lst_inc _ _⟩
theorem rising_lst {F : List (List Int)} (hm : MixOk F) (S : Nat → Bool) : Fn Try.prog 47 [ints (lst F.length S), int F.length] (bool true) := by
 have h := Rising_spec (lst F.length S) F.length (lst_small (mixS hm) S)
 rwa [decide_eq_true (lst_rs _ _)] at h
theorem lst_ten {F : List (List Int)} (hm : MixOk F) (S : Nat → Bool) : (lst F.length S).length ≤ 10 := by
 have := lst_length_le F.length S
 have := hm.l10
 omega
end Go.Px.Try

/-! FrT -/
namespace Go.Px.Try
open Go Go.Proofs Go.Px
theorem own : ownKnob Try.prog.godebug = none := by kernel_rfl
theorem laidOut : laidOutB Try.prog = true := by kernel_rfl
def I64 (n : Int) : Prop := (Lit.int .i64 n).wf = true
theorem I64_rng {n : Int} (h : I64 n) : -9223372036854775808 ≤ n ∧ n ≤ 9223372036854775807 := by
 simp only [I64, Lit.wf, IntKind.min, IntKind.max, Bool.and_eq_true, decide_eq_true_eq] at h
 have h1 := h.1
 have h2 := h.2
 simp [IntKind.signed, IntKind.bits] at h1 h2
 omega
theorem opnInts : Opn true Try.prog 27 (fun l : List Int => [ints l]) (fun l => (∀ n ∈ l, I64 n) ∧ l.length ≤ maxLen) :=
 Opn.slice (k := 1) Try.underlying27 (by kernel_rfl) (by decide) (fun _ => rfl) (fun a x hx => by simp at hx; rcases hx with rfl; trivial) 0 (Opn.int Try.underlying3)
theorem opnInts' : Opn false Try.prog 27 (fun l : List Int => [ints l]) (fun l => (∀ n ∈ l, I64 n) ∧ l.length ≤ maxLen) :=
 Opn.slice (k := 1) Try.underlying27 (by kernel_rfl) (by decide) (fun _ => rfl) (fun a x hx => by simp at hx; rcases hx with rfl; trivial) 0 (Opn.int Try.underlying3)
def rowsG (t : List (List Int)) : Prop := (∀ l ∈ t, (∀ n ∈ l, I64 n) ∧ l.length ≤ maxLen) ∧ t.length ≤ maxLen
theorem opnRows : Opn true Try.prog 22 (fun t : List (List Int) => [slOf 1 (fun l => elD [ints l]) [] t]) rowsG :=
 Opn.slice (k := 1) Try.underlying22 (by kernel_rfl) (by decide) (fun _ => rfl) (fun a x hx => by simp at hx; rcases hx with rfl; trivial) [] opnInts'
theorem opnMix : Opn true Try.prog 24 (fun t : List (List Int) => [rowsD t]) rowsG :=
 Opn.map (Opn.struct Try.underlying24 (by kernel_rfl) (OpnL.cons opnRows OpnL.nil)) (fun p => p.1) fun p h => ⟨rfl, h.1⟩
theorem rowsG_len {t : List (List Int)} (h : rowsG t) : t.length ≤ 9223372036854775807 ∧ ∀ w ∈ t, w.length ≤ 9223372036854775807 := by
 have h1 := h.2
 unfold maxLen at h1
 refine ⟨by omega, fun w hw => ?_⟩
 have h2 := (h.1 w hw).2
 unfold maxLen at h2; omega
set_option maxRecDepth 100000 in
/-- The statement's mix. -/
theorem mix_arg {H : Type} {enc : TypeId × Value → H} {w : World} {base : Nat} {v : Value} {d : DataW H} {ps : List MemPlace} (ht : DataW.Trod enc Try.prog w 0 (fun _ => true) true 24 v d ps) (hv : Value.okWide Try.prog w .any base 24 v) :
  ∃ F : List (List Int), (F.length ≤ 9223372036854775807 ∧ ∀ w ∈ F, w.length ≤ 9223372036854775807) ∧ Rep (All w) w (mixD F) v := by
 simp only [Value.okWide, Try.underlying24] at hv
 obtain ⟨cs, rfl, _, hrow⟩ := hv
 obtain ⟨m, hg, hc⟩ := Opn.arg opnMix ht fun _ => plain_row hrow
 exact ⟨m, rowsG_len hg, Cells.st hc⟩
set_option maxRecDepth 100000 in
/-- A list of lists. -/
theorem rows_arg {H : Type} {enc : TypeId × Value → H} {w : World} {base : Nat} {v : Value} {d : DataW H} {ps : List MemPlace} (ht : DataW.Trod enc Try.prog w 0 (fun _ => true) true 22 v d ps) (hv : Value.okWide Try.prog w .any base 22 v) :
  ∃ t : List (List Int), (t.length ≤ 9223372036854775807 ∧ ∀ w ∈ t, w.length ≤ 9223372036854775807) ∧ Rep (All w) w (slOf 1 ints [] t) v := by
 have hs := plain_slice Try.underlying22 hv
 obtain ⟨a, len, cap, rfl⟩ := Go.WideShapes.okWide_slice Try.underlying22 hv
 obtain ⟨l, hg, hc⟩ := Opn.arg opnRows ht fun _ => hs
 exact ⟨l, rowsG_len hg, hc.one rfl⟩
set_option maxRecDepth 100000 in
theorem ints_arg {H : Type} {enc : TypeId × Value → H} {w : World} {base : Nat} {v : Value} {d : DataW H} {ps : List MemPlace} (ht : DataW.Trod enc Try.prog w 0 (fun _ => true) true 27 v d ps) (hv : Value.okWide Try.prog w .any base 27 v) :
  ∃ l : List Int, ((∀ n ∈ l, I64 n) ∧ l.length ≤ maxLen) ∧ Rep (All w) w (ints l) v := by
 have hs := plain_slice Try.underlying27 hv
 obtain ⟨a, len, cap, rfl⟩ := Go.WideShapes.okWide_slice Try.underlying27 hv
 obtain ⟨l, hg, hc⟩ := Opn.arg opnInts ht fun _ => hs
 exact ⟨l, hg, hc.one rfl⟩
set_option maxRecDepth 100000 in
theorem int_arg {H : Type} {enc : TypeId × Value → H} {w : World} {base : Nat} {v : Value} {d : DataW H} {ps : List MemPlace} (ht : DataW.Trod enc Try.prog w 0 (fun _ => true) true 3 v d ps) (hv : Value.okWide Try.prog w .any base 3 v) :
  ∃ n : Int, (-9223372036854775808 ≤ n ∧ n ≤ 9223372036854775807) ∧ Rep (All w) w (int n) v := by
 obtain ⟨n, hg, hc⟩ := Opn.arg (Opn.int (q := false) Try.underlying3) ht fun h => by cases h
 obtain ⟨k, rfl⟩ := Go.WideShapes.okWide_int Try.underlying3 hv
 exact ⟨n, I64_rng hg, hc.one rfl⟩
set_option maxRecDepth 100000 in
theorem u16_arg {H : Type} {enc : TypeId × Value → H} {w : World} {base : Nat} {v : Value} {d : DataW H} {ps : List MemPlace} (ht : DataW.Trod enc Try.prog w 0 (fun _ => true) true 51 v d ps) (hv : Value.okWide Try.prog w .any base 51 v) :
  ∃ n : Nat, n < 65536 ∧ Rep (All w) w (u16 n) v := by
 obtain ⟨n, hg, hc⟩ := Opn.arg (Opn.int (q := false) Try.underlying51) ht fun h => by cases h
 obtain ⟨k, rfl⟩ := Go.WideShapes.okWide_int Try.underlying51 hv
 have hr := hc.one rfl
 simp only [Lit.wf, IntKind.min, IntKind.max, Bool.and_eq_true, decide_eq_true_eq] at hg
 have hn : n = (n.toNat : Int) := by have := hg.1; simp [IntKind.signed] at this; omega
 refine ⟨n.toNat, by have := hg.2; simp [IntKind.signed, IntKind.bits] at this; omega, ?_⟩
 rw [hn] at hr; exact hr
set_option maxRecDepth 100000 in
theorem u8_arg {H : Type} {enc : TypeId × Value → H} {w : World} {base : Nat} {v : Value} {d : DataW H} {ps : List MemPlace} (ht : DataW.Trod enc Try.prog w 0 (fun _ => true) true 5 v d ps) (hv : Value.okWide Try.prog w .any base 5 v) :
  ∃ n : Nat, n < 256 ∧ Rep (All w) w (u8 n) v := by
 obtain ⟨n, hg, hc⟩ := Opn.arg (Opn.int (q := false) Try.underlying5) ht fun h => by cases h
 obtain ⟨k, rfl⟩ := Go.WideShapes.okWide_int Try.underlying5 hv
 have hr := hc.one rfl
 simp only [Lit.wf, IntKind.min, IntKind.max, Bool.and_eq_true, decide_eq_true_eq] at hg
 have hn : n = (n.toNat : Int) := by have := hg.1; simp [IntKind.signed] at this; omega
 refine ⟨n.toNat, by have := hg.2; simp [IntKind.signed, IntKind.bits] at this; omega, ?_⟩
 rw [hn] at hr; exact hr
def U8 (n : Int) : Prop := (Lit.int .u8 n).wf = true
theorem U8_rng {n : Int} (h : U8 n) : 0 ≤ n ∧ n < 256 := by
 simp only [U8, Lit.wf, IntKind.min, IntKind.max, Bool.and_eq_true, decide_eq_true_eq] at h
 have h1 := h.1
 have h2 := h.2
 simp [IntKind.signed, IntKind.bits] at h1 h2
 omega
theorem opnU8s : Opn true Try.prog 52 (fun l : List Int => [slOf 1 (fun n => .v (.int .u8 n)) 0 l]) (fun l => (∀ n ∈ l, U8 n) ∧ l.length ≤ maxLen) :=
 Opn.slice (k := 1) Try.underlying52 (by kernel_rfl) (by decide) (fun _ => rfl) (fun a x hx => by simp at hx; rcases hx with rfl; trivial) 0 (Opn.int (q := false) Try.underlying5)
set_option maxRecDepth 100000 in
theorem u8s_arg {H : Type} {enc : TypeId × Value → H} {w : World} {base : Nat} {v : Value} {d : DataW H} {ps : List MemPlace} (ht : DataW.Trod enc Try.prog w 0 (fun _ => true) true 52 v d ps) (hv : Value.okWide Try.prog w .any base 52 v) :
  ∃ l : List Nat, ((∀ x ∈ l, x < 256) ∧ l.length ≤ maxLen) ∧ Rep (All w) w (u8s l) v := by
 have hs := plain_slice Try.underlying52 hv
 obtain ⟨a, len, cap, rfl⟩ := Go.WideShapes.okWide_slice Try.underlying52 hv
 obtain ⟨l, hg, hc⟩ := Opn.arg opnU8s ht fun _ => hs
 refine ⟨l.map Int.toNat, ⟨fun x hx => ?_, by rw [List.length_map]; exact hg.2⟩, ?_⟩
 ·obtain ⟨y, hy, rfl⟩ := List.mem_map.1 hx
  have := U8_rng (hg.1 y hy); omega
 ·have hr := hc.one rfl
  have e : u8s (l.map Int.toNat) = slOf 1 (fun n => .v (.int .u8 n)) 0 l := by
   unfold u8s slOf
   rw [List.length_map]
   congr 1
   funext i
   rw [List.getD_eq_getElem?_getD, List.getD_eq_getElem?_getD, List.getElem?_map]
   cases h : l[i]? with
   | none => rfl
   | some y =>
    have := U8_rng (hg.1 y (List.mem_of_getElem? h))
    show DV.v (.int .u8 ((y.toNat : Nat) : Int)) = .v (.int .u8 y)
    rw [Int.toNat_of_nonneg this.1]
  rw [e]; exact hr
end Go.Px.Try
