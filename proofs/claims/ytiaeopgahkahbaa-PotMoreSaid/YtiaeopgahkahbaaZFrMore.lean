/- The statement PotMore: without one of its weak pots a row calls back no more; with one more lot no more; without a lot that is never to blame as many; without one that always is more, or it cannot be explained. Conditions: none. -/
import Derived.Test.YtiaeopgahkahbaaJ7
import Derived.Test.YtiaeopgahkahbaaRows
import Derived.Test.YtiaeopgahkahbaaJ6
set_option linter.unusedVariables false
set_option linter.unusedSimpArgs false
/-! LwMor0 -/
namespace Go.Px.Try
open Go Go.Proofs Go.Px
set_option maxRecDepth 100000
theorem LeastP_known {r : Row} (hr : RowOk r) : Fn Try.prog 26 [rowD r] (tpl [int (leastPR r).1, int (rowError r)]) := by
  have h := LeastP_spec r (by have := hr.l10; omega) (by have := hr.w12; omega)
  have e : (leastPR r).2 = rowError r := by
    unfold leastPR; split
    · rfl
    · rename_i h; exact (Decidable.of_not_not h).symm
  rwa [e] at h
theorem of_nil : Fn Try.prog 49 [.v (.slice none 0 0)] (.v (.slice none 0 0)) := by
  refine Fn.of_ex (cuts := []) tys hM Try.func49 rfl Try.call49 rfl ?_
  show exC Try.prog T [] _ false none 0 (entry 4 [.v (.slice none 0 0)]) (finQ T [ResultVar.tmp 2] _)
  conv => whnf
  repeat' first | ((first | refine Ob.a ?_ | refine Sp.tt ?_ | refine Sp.ff ?_ | refine Sp.yes ?_ | refine Sp.no ?_ | refine Sp.nyes ?_ | refine Sp.nno ?_);conv=>whnf) | (refine Sp.ne (fun hc => ?_) (fun hc => ?_) <;> (conv=>whnf)) | (refine Sp.dec (fun hc => ?_) (fun hc => ?_) <;> (conv=>whnf)) | (refine Sp.ndec (fun hc => ?_) (fun hc => ?_) <;> (conv=>whnf)) | (refine Sp.mk (fun hc => ?_) (fun hc => ?_) <;> (conv=>whnf)) | (refine Fi.a ?_;conv=>whnf) | (refine Ob.b ?_;conv=>whnf)
  all_goals exact Lf
theorem cut_getD {α : Type} (L : List α) (d : α) {k : Nat} (hk : k < L.length) (j : Nat) : (L.take k ++ L.drop (k + 1)).getD j d = if j < k then L.getD j d else L.getD (j + 1) d := by
  simp only [List.getD_eq_getElem?_getD]
  rw [List.getElem?_append, List.length_take, Nat.min_eq_left (by omega)]
  split
  · rw [List.getElem?_take]; rw [if_pos (by assumption)]
  · rw [List.getElem?_drop]; congr 2; omega
theorem cut_len {α : Type} (L : List α) {k : Nat} (hk : k < L.length) : (L.take k ++ L.drop (k + 1)).length + 1 = L.length := by
  simp [List.length_take, List.length_drop]; omega
/-- A list without one of its elements, as the program puts it together. -/
theorem ImpS.cut {α : Type} {t : Bool} {k n o m : Nat} {enc : α → DV} {d : α} {L : List α} {z f g : Nat → DV} (hm : m < L.length) (hn : n + 1 = L.length) (ho : o = m) (hf : ∀ j, j < m → f j = enc (L.getD j d)) (hg : ∀ j, m + j + 1 < L.length → g j = enc (L.getD (m + j + 1) d)) :
    ImpS (.sl t k n fun i => apd o (apd 0 z f) g (0 + i)) (slOf k enc d (L.take m ++ L.drop (m + 1))) := by
  subst ho
  have hl := cut_len L hm
  refine ImpS.fn (by omega) fun j hj => ?_
  rw [cut_getD L d hm]
  unfold apd
  rw [Nat.zero_add]
  by_cases h : j < o
  · rw [if_pos h, if_pos h, if_neg (Nat.not_lt_zero j), Nat.sub_zero]; exact hf j h
  · rw [if_neg h, if_neg h, hg (j - o) (by omega), show o + (j - o) + 1 = j + 1 by omega]
theorem ImpS.appdM {α : Type} {t : Bool} {k n o : Nat} {enc : α → DV} {d : α} {L : List α} {x : α} {z g : Nat → DV} (hn : n = L.length + 1) (ho : o = L.length) (hg : DImp (g 0) (enc x)) : ImpS (.sl t k n fun i => apd o (apd 0 z (fun i => enc (L.getD i d))) g (0 + i)) (slOf k enc d (L ++ [x])) := by
  subst ho; subst hn
  refine ⟨Imp.sl (fun e => by cases e) (by simp) fun j hj => ?_⟩
  rw [Nat.zero_add]
  unfold apd
  by_cases h : j < L.length
  · rw [if_pos h, if_neg (by omega), Nat.sub_zero]
    refine Imp.of_eq ?_
    show enc (L.getD j d) = _
    rw [List.getD_eq_getElem?_getD, List.getD_eq_getElem?_getD, List.getElem?_append_left h]
  · have : j = L.length := by omega
    subst this
    rw [if_neg h, Nat.sub_self, List.getD_eq_getElem?_getD, List.getElem?_append_right (Nat.le_refl _)]
    simpa using hg.imp
/-- What the walk needs. -/
structure MoT (r : Row) (wl lt : Nat) (mo : Lot) (n : Int) (b : List Int) : Prop where
  hw : Fn Try.prog 18 [] (bool true)
  hs : Fn Try.prog 44 [rowD r] (bool true)
  hl : r.lots.length < 10
  h12 : r.weak.length ≤ 12
  hwl : wl < 256
  hlt : lt < 256
  of0 : Fn Try.prog 49 [.v (.slice none 0 0)] (.v (.slice none 0 0))
  a1 : Fn Try.prog 45 [rowD r] (tpl [int n, bool true])
  a2 : ∀ k : Nat, k < r.weak.length → ∃ m, m ≤ n ∧ Fn Try.prog 45 [rowD ⟨r.pots, r.lots, r.weak.take k ++ r.weak.drop (k + 1)⟩] (tpl [int m, bool true])
  a3 : notGreat (more r mo) ∧ checkRow (more r mo) = 0 → ∃ m, m ≤ n ∧ Fn Try.prog 45 [rowD (more r mo)] (tpl [int m, bool true])
  h0 : r.lots.length = 0 → n = 0 ∧ r.weak.length = 0
  a4 : Fn Try.prog 30 [rowD r] (tpl [ints b, int 0])
  hb : b.length = r.lots.length
  hbr : ∀ i : Nat, i < r.lots.length → 0 ≤ b.getD i 0 ∧ b.getD i 0 ≤ 2
  a5 : ∀ i : Nat, i < r.lots.length → ∃ m e, Fn Try.prog 26 [rowD (less1 r i)] (tpl [int m, int e]) ∧ ((b.getD i 0 = 2 ∧ (e = 22 ∨ e = 0 ∧ n < m)) ∨ (b.getD i 0 ≠ 2 ∧ e = 0 ∧ m = n))
end Go.Px.Try

/-! LwMor1 -/
namespace Go.Px.Try
open Go Go.Proofs Go.Px
set_option maxRecDepth 100000
set_option maxHeartbeats 16000000 in
theorem more_111 {r : Row} {wl lt : Nat} {mo : Lot} {n : Int} {b : List Int} (h : MoT r wl lt mo n b) (hwk : 0 < (r.weak.length : Int)) (hl0 : 0 < (r.lots.length : Int)) (hq : notGreat (more r mo) ∧ checkRow (more r mo) = 0) : Fn Try.prog 11 [rowD r, u8 wl, u8 lt, lotD mo] (bool true) := by
  obtain ⟨hw, hs, hl, h12, hwl, hlt, of0, a1, a2, a3, h0, a4, hb, hbr, a5⟩ := h
  have hk0 : 0 ≤ (wl : Int) % (r.weak.length : Int) := Int.emod_nonneg _ (by omega)
  have hk1 : (wl : Int) % (r.weak.length : Int) < r.weak.length := Int.emod_lt_of_pos _ (by omega)
  have hkk : ((wl : Int) % (r.weak.length : Int)).toNat < r.weak.length := by omega
  obtain ⟨m, hm, a2⟩ := a2 ((wl : Int) % (r.weak.length : Int)).toNat hkk
  have hi0 : 0 ≤ (lt : Int) % (r.lots.length : Int) := Int.emod_nonneg _ (by omega)
  have hi1 : (lt : Int) % (r.lots.length : Int) < r.lots.length := Int.emod_lt_of_pos _ (by omega)
  have hii : ((lt : Int) % (r.lots.length : Int)).toNat < r.lots.length := by omega
  obtain ⟨m3, e3, a5, a6⟩ := a5 ((lt : Int) % (r.lots.length : Int)).toNat hii
  have hbi := hbr ((lt : Int) % (r.lots.length : Int)).toNat hii
  clear h0 hbr
  have q1 := fine_fn hq
  obtain ⟨m2, hm2, a3⟩ := a3 hq
  refine Fn.of_ex (cuts := []) tys hM Try.func11 rfl Try.call11 rfl ?_
  show exC Try.prog T [] _ false none 0 (entry 201 [rowD r, u8 wl, u8 lt, lotD mo]) (finQ T [ResultVar.tmp 8] _)
  conv => whnf
  repeat' first | ((first | refine Ob.a ?_ | refine Sp.tt ?_ | refine Sp.ff ?_ | refine Sp.yes ?_ | refine Sp.no ?_ | refine Sp.nyes ?_ | refine Sp.nno ?_);conv=>whnf) | (refine Sp.ne (fun hc => ?_) (fun hc => ?_) <;> (conv=>whnf)) | (refine Sp.dec (fun hc => ?_) (fun hc => ?_) <;> (conv=>whnf)) | (refine Sp.ndec (fun hc => ?_) (fun hc => ?_) <;> (conv=>whnf)) | (refine Sp.mk (fun hc => ?_) (fun hc => ?_) <;> (conv=>whnf)) | (apply Cl.go;(conv=>whnf); (first | refine Ob.call (hs) ?_ | refine Ob.call (hw) ?_ | refine Ob.call (a1) ?_ | refine Ob.call (of0) ?_);(conv=>whnf)) | (refine Fi.a ?_;conv=>whnf) | (refine Ob.b ?_;conv=>whnf)
  apply Cl.go
  (conv=>whnf)
  refine Ob.fn ?_ ?_ ?_ (a2)
  rotate_left
  all_goals try (repeat' first | (refine Edge.fast ?_) | ((conv=>whnf); first | exact True.intro | (refine And.intro ?_ ?_) | exact rfl | exact Nat.le_of_eq (Nat.zero_add _) | exact ImpS.refl _ | ((conv => arg 1; whnf); first | exact ImpS.refl _ | (refine ImpS.nil_eq ?_) | (refine ImpS.vnil_eq ?_) | (refine ImpS.row ?_) | (refine ImpS.rowN ?_ ?_) | (refine ImpS.sl_eq ?_) | (refine ImpS.expl rfl ?_)) | (refine row_snoc' ?_) | (apply row_upd) | exact cimp_none | exact cimp_same | exact List.not_mem_nil | exact DImp.refl _) | exact rfl | (refine And.intro ?_ ?_) | exact ImpS.refl _)
  all_goals try first | assumption | omega
  · conv => whnf
    conv => arg 1; whnf
    exact ImpS.cut hkk (by omega) (by omega) (fun j hj => rfl) fun j hj => congrArg (fun q => int (r.weak.getD q 0)) (by omega)
  conv => whnf
  repeat' first | ((first | refine Ob.a ?_ | refine Sp.tt ?_ | refine Sp.ff ?_ | refine Sp.yes ?_ | refine Sp.no ?_ | refine Sp.nyes ?_ | refine Sp.nno ?_);conv=>whnf) | (refine Sp.ne (fun hc => ?_) (fun hc => ?_) <;> (conv=>whnf)) | (refine Sp.dec (fun hc => ?_) (fun hc => ?_) <;> (conv=>whnf)) | (refine Sp.ndec (fun hc => ?_) (fun hc => ?_) <;> (conv=>whnf)) | (refine Sp.mk (fun hc => ?_) (fun hc => ?_) <;> (conv=>whnf)) | (refine Fi.a ?_;conv=>whnf) | (refine Ob.b ?_;conv=>whnf)
  apply Cl.go
  (conv=>whnf)
  refine Ob.fn ?_ ?_ ?_ (q1)
  rotate_left
  all_goals try (repeat' first | (refine Edge.fast ?_) | ((conv=>whnf); first | exact True.intro | (refine And.intro ?_ ?_) | exact rfl | exact Nat.le_of_eq (Nat.zero_add _) | exact ImpS.refl _ | ((conv => arg 1; whnf); first | exact ImpS.refl _ | (refine ImpS.nil_eq ?_) | (refine ImpS.vnil_eq ?_) | (refine ImpS.row ?_) | (refine ImpS.rowN ?_ ?_) | (refine ImpS.sl_eq ?_) | (refine ImpS.expl rfl ?_)) | (refine row_snoc' ?_) | (apply row_upd) | exact cimp_none | exact cimp_same | exact List.not_mem_nil | exact DImp.refl _) | exact rfl | (refine And.intro ?_ ?_) | exact ImpS.refl _)
  all_goals try first | assumption | omega
  · conv => whnf
    conv => arg 1; whnf
    refine ImpS.appdM (by omega) (by omega) ?_
    repeat' first | (refine Edge.fast ?_) | ((conv=>whnf); first | exact True.intro | (refine And.intro ?_ ?_) | exact rfl | exact Nat.le_of_eq (Nat.zero_add _) | exact ImpS.refl _ | ((conv => arg 1; whnf); first | exact ImpS.refl _ | (refine ImpS.nil_eq ?_) | (refine ImpS.vnil_eq ?_) | (refine ImpS.row ?_) | (refine ImpS.rowN ?_ ?_) | (refine ImpS.sl_eq ?_) | (refine ImpS.expl rfl ?_)) | (refine row_snoc' ?_) | (apply row_upd) | exact cimp_none | exact cimp_same | exact List.not_mem_nil | exact DImp.refl _) | exact rfl | (refine And.intro ?_ ?_) | exact ImpS.refl _
  conv => whnf
  repeat' first | ((first | refine Ob.a ?_ | refine Sp.tt ?_ | refine Sp.ff ?_ | refine Sp.yes ?_ | refine Sp.no ?_ | refine Sp.nyes ?_ | refine Sp.nno ?_);conv=>whnf) | (refine Sp.ne (fun hc => ?_) (fun hc => ?_) <;> (conv=>whnf)) | (refine Sp.dec (fun hc => ?_) (fun hc => ?_) <;> (conv=>whnf)) | (refine Sp.ndec (fun hc => ?_) (fun hc => ?_) <;> (conv=>whnf)) | (refine Sp.mk (fun hc => ?_) (fun hc => ?_) <;> (conv=>whnf)) | (refine Fi.a ?_;conv=>whnf) | (refine Ob.b ?_;conv=>whnf)
  apply Cl.go
  (conv=>whnf)
  refine Ob.fn ?_ ?_ ?_ (a3)
  rotate_left
  all_goals try (repeat' first | (refine Edge.fast ?_) | ((conv=>whnf); first | exact True.intro | (refine And.intro ?_ ?_) | exact rfl | exact Nat.le_of_eq (Nat.zero_add _) | exact ImpS.refl _ | ((conv => arg 1; whnf); first | exact ImpS.refl _ | (refine ImpS.nil_eq ?_) | (refine ImpS.vnil_eq ?_) | (refine ImpS.row ?_) | (refine ImpS.rowN ?_ ?_) | (refine ImpS.sl_eq ?_) | (refine ImpS.expl rfl ?_)) | (refine row_snoc' ?_) | (apply row_upd) | exact cimp_none | exact cimp_same | exact List.not_mem_nil | exact DImp.refl _) | exact rfl | (refine And.intro ?_ ?_) | exact ImpS.refl _)
  all_goals try first | assumption | omega
  · conv => whnf
    conv => arg 1; whnf
    refine ImpS.appdM (by omega) (by omega) ?_
    repeat' first | (refine Edge.fast ?_) | ((conv=>whnf); first | exact True.intro | (refine And.intro ?_ ?_) | exact rfl | exact Nat.le_of_eq (Nat.zero_add _) | exact ImpS.refl _ | ((conv => arg 1; whnf); first | exact ImpS.refl _ | (refine ImpS.nil_eq ?_) | (refine ImpS.vnil_eq ?_) | (refine ImpS.row ?_) | (refine ImpS.rowN ?_ ?_) | (refine ImpS.sl_eq ?_) | (refine ImpS.expl rfl ?_)) | (refine row_snoc' ?_) | (apply row_upd) | exact cimp_none | exact cimp_same | exact List.not_mem_nil | exact DImp.refl _) | exact rfl | (refine And.intro ?_ ?_) | exact ImpS.refl _
  conv => whnf
  repeat' first | ((first | refine Ob.a ?_ | refine Sp.tt ?_ | refine Sp.ff ?_ | refine Sp.yes ?_ | refine Sp.no ?_ | refine Sp.nyes ?_ | refine Sp.nno ?_);conv=>whnf) | (refine Sp.ne (fun hc => ?_) (fun hc => ?_) <;> (conv=>whnf)) | (refine Sp.dec (fun hc => ?_) (fun hc => ?_) <;> (conv=>whnf)) | (refine Sp.ndec (fun hc => ?_) (fun hc => ?_) <;> (conv=>whnf)) | (refine Sp.mk (fun hc => ?_) (fun hc => ?_) <;> (conv=>whnf)) | (refine Fi.a ?_;conv=>whnf) | (refine Ob.b ?_;conv=>whnf)
  repeat' first | ((first | refine Ob.a ?_ | refine Sp.tt ?_ | refine Sp.ff ?_ | refine Sp.yes ?_ | refine Sp.no ?_ | refine Sp.nyes ?_ | refine Sp.nno ?_);conv=>whnf) | (refine Sp.ne (fun hc => ?_) (fun hc => ?_) <;> (conv=>whnf)) | (refine Sp.dec (fun hc => ?_) (fun hc => ?_) <;> (conv=>whnf)) | (refine Sp.ndec (fun hc => ?_) (fun hc => ?_) <;> (conv=>whnf)) | (refine Sp.mk (fun hc => ?_) (fun hc => ?_) <;> (conv=>whnf)) | (apply Cl.go;(conv=>whnf); (first | refine Ob.call (a4) ?_);(conv=>whnf)) | (refine Fi.a ?_;conv=>whnf) | (refine Ob.b ?_;conv=>whnf)
  apply Cl.go
  (conv=>whnf)
  refine Ob.fn ?_ ?_ ?_ (a5)
  rotate_left
  all_goals try (repeat' first | (refine Edge.fast ?_) | ((conv=>whnf); first | exact True.intro | (refine And.intro ?_ ?_) | exact rfl | exact Nat.le_of_eq (Nat.zero_add _) | exact ImpS.refl _ | ((conv => arg 1; whnf); first | exact ImpS.refl _ | (refine ImpS.nil_eq ?_) | (refine ImpS.vnil_eq ?_) | (refine ImpS.row ?_) | (refine ImpS.rowN ?_ ?_) | (refine ImpS.sl_eq ?_) | (refine ImpS.expl rfl ?_)) | (refine row_snoc' ?_) | (apply row_upd) | exact cimp_none | exact cimp_same | exact List.not_mem_nil | exact DImp.refl _) | exact rfl | (refine And.intro ?_ ?_) | exact ImpS.refl _)
  all_goals try first | assumption | omega
  · conv => whnf
    conv => arg 1; whnf
    exact ImpS.cut hii (by omega) (by omega) (fun j hj => rfl) fun j hj => congrArg (fun q => lotD (r.lots.getD q default)) (by omega)
  rcases a6 with ⟨b2, rfl | ⟨rfl, hnm⟩⟩ | ⟨b2, rfl, hnm⟩
  all_goals
    conv => whnf
    repeat' first | ((first | refine Ob.a ?_ | refine Sp.tt ?_ | refine Sp.ff ?_ | refine Sp.yes ?_ | refine Sp.no ?_ | refine Sp.nyes ?_ | refine Sp.nno ?_);conv=>whnf) | (refine Sp.ne (fun hc => ?_) (fun hc => ?_) <;> (conv=>whnf)) | (refine Sp.dec (fun hc => ?_) (fun hc => ?_) <;> (conv=>whnf)) | (refine Sp.ndec (fun hc => ?_) (fun hc => ?_) <;> (conv=>whnf)) | (refine Sp.mk (fun hc => ?_) (fun hc => ?_) <;> (conv=>whnf)) | (apply Cl.go;(conv=>whnf); (first | refine Ob.call (hw) ?_);(conv=>whnf)) | (refine Fi.a ?_;conv=>whnf) | (refine Ob.b ?_;conv=>whnf)
    all_goals exact Lf
end Go.Px.Try

/-! LwMor2 -/
namespace Go.Px.Try
open Go Go.Proofs Go.Px
set_option maxRecDepth 100000
set_option maxHeartbeats 16000000 in
theorem more_101 {r : Row} {wl lt : Nat} {mo : Lot} {n : Int} {b : List Int} (h : MoT r wl lt mo n b) (hwk : 0 < (r.weak.length : Int)) (hl0 : 0 < (r.lots.length : Int)) (hq : ¬ (notGreat (more r mo) ∧ checkRow (more r mo) = 0)) : Fn Try.prog 11 [rowD r, u8 wl, u8 lt, lotD mo] (bool true) := by
  obtain ⟨hw, hs, hl, h12, hwl, hlt, of0, a1, a2, a3, h0, a4, hb, hbr, a5⟩ := h
  have hk0 : 0 ≤ (wl : Int) % (r.weak.length : Int) := Int.emod_nonneg _ (by omega)
  have hk1 : (wl : Int) % (r.weak.length : Int) < r.weak.length := Int.emod_lt_of_pos _ (by omega)
  have hkk : ((wl : Int) % (r.weak.length : Int)).toNat < r.weak.length := by omega
  obtain ⟨m, hm, a2⟩ := a2 ((wl : Int) % (r.weak.length : Int)).toNat hkk
  have hi0 : 0 ≤ (lt : Int) % (r.lots.length : Int) := Int.emod_nonneg _ (by omega)
  have hi1 : (lt : Int) % (r.lots.length : Int) < r.lots.length := Int.emod_lt_of_pos _ (by omega)
  have hii : ((lt : Int) % (r.lots.length : Int)).toNat < r.lots.length := by omega
  obtain ⟨m3, e3, a5, a6⟩ := a5 ((lt : Int) % (r.lots.length : Int)).toNat hii
  have hbi := hbr ((lt : Int) % (r.lots.length : Int)).toNat hii
  clear h0 hbr
  have q1 := notFine_fn hq
  clear a3
  refine Fn.of_ex (cuts := []) tys hM Try.func11 rfl Try.call11 rfl ?_
  show exC Try.prog T [] _ false none 0 (entry 201 [rowD r, u8 wl, u8 lt, lotD mo]) (finQ T [ResultVar.tmp 8] _)
  conv => whnf
  repeat' first | ((first | refine Ob.a ?_ | refine Sp.tt ?_ | refine Sp.ff ?_ | refine Sp.yes ?_ | refine Sp.no ?_ | refine Sp.nyes ?_ | refine Sp.nno ?_);conv=>whnf) | (refine Sp.ne (fun hc => ?_) (fun hc => ?_) <;> (conv=>whnf)) | (refine Sp.dec (fun hc => ?_) (fun hc => ?_) <;> (conv=>whnf)) | (refine Sp.ndec (fun hc => ?_) (fun hc => ?_) <;> (conv=>whnf)) | (refine Sp.mk (fun hc => ?_) (fun hc => ?_) <;> (conv=>whnf)) | (apply Cl.go;(conv=>whnf); (first | refine Ob.call (hs) ?_ | refine Ob.call (hw) ?_ | refine Ob.call (a1) ?_ | refine Ob.call (of0) ?_);(conv=>whnf)) | (refine Fi.a ?_;conv=>whnf) | (refine Ob.b ?_;conv=>whnf)
  apply Cl.go
  (conv=>whnf)
  refine Ob.fn ?_ ?_ ?_ (a2)
  rotate_left
  all_goals try (repeat' first | (refine Edge.fast ?_) | ((conv=>whnf); first | exact True.intro | (refine And.intro ?_ ?_) | exact rfl | exact Nat.le_of_eq (Nat.zero_add _) | exact ImpS.refl _ | ((conv => arg 1; whnf); first | exact ImpS.refl _ | (refine ImpS.nil_eq ?_) | (refine ImpS.vnil_eq ?_) | (refine ImpS.row ?_) | (refine ImpS.rowN ?_ ?_) | (refine ImpS.sl_eq ?_) | (refine ImpS.expl rfl ?_)) | (refine row_snoc' ?_) | (apply row_upd) | exact cimp_none | exact cimp_same | exact List.not_mem_nil | exact DImp.refl _) | exact rfl | (refine And.intro ?_ ?_) | exact ImpS.refl _)
  all_goals try first | assumption | omega
  · conv => whnf
    conv => arg 1; whnf
    exact ImpS.cut hkk (by omega) (by omega) (fun j hj => rfl) fun j hj => congrArg (fun q => int (r.weak.getD q 0)) (by omega)
  conv => whnf
  repeat' first | ((first | refine Ob.a ?_ | refine Sp.tt ?_ | refine Sp.ff ?_ | refine Sp.yes ?_ | refine Sp.no ?_ | refine Sp.nyes ?_ | refine Sp.nno ?_);conv=>whnf) | (refine Sp.ne (fun hc => ?_) (fun hc => ?_) <;> (conv=>whnf)) | (refine Sp.dec (fun hc => ?_) (fun hc => ?_) <;> (conv=>whnf)) | (refine Sp.ndec (fun hc => ?_) (fun hc => ?_) <;> (conv=>whnf)) | (refine Sp.mk (fun hc => ?_) (fun hc => ?_) <;> (conv=>whnf)) | (refine Fi.a ?_;conv=>whnf) | (refine Ob.b ?_;conv=>whnf)
  apply Cl.go
  (conv=>whnf)
  refine Ob.fn ?_ ?_ ?_ (q1)
  rotate_left
  all_goals try (repeat' first | (refine Edge.fast ?_) | ((conv=>whnf); first | exact True.intro | (refine And.intro ?_ ?_) | exact rfl | exact Nat.le_of_eq (Nat.zero_add _) | exact ImpS.refl _ | ((conv => arg 1; whnf); first | exact ImpS.refl _ | (refine ImpS.nil_eq ?_) | (refine ImpS.vnil_eq ?_) | (refine ImpS.row ?_) | (refine ImpS.rowN ?_ ?_) | (refine ImpS.sl_eq ?_) | (refine ImpS.expl rfl ?_)) | (refine row_snoc' ?_) | (apply row_upd) | exact cimp_none | exact cimp_same | exact List.not_mem_nil | exact DImp.refl _) | exact rfl | (refine And.intro ?_ ?_) | exact ImpS.refl _)
  all_goals try first | assumption | omega
  · conv => whnf
    conv => arg 1; whnf
    refine ImpS.appdM (by omega) (by omega) ?_
    repeat' first | (refine Edge.fast ?_) | ((conv=>whnf); first | exact True.intro | (refine And.intro ?_ ?_) | exact rfl | exact Nat.le_of_eq (Nat.zero_add _) | exact ImpS.refl _ | ((conv => arg 1; whnf); first | exact ImpS.refl _ | (refine ImpS.nil_eq ?_) | (refine ImpS.vnil_eq ?_) | (refine ImpS.row ?_) | (refine ImpS.rowN ?_ ?_) | (refine ImpS.sl_eq ?_) | (refine ImpS.expl rfl ?_)) | (refine row_snoc' ?_) | (apply row_upd) | exact cimp_none | exact cimp_same | exact List.not_mem_nil | exact DImp.refl _) | exact rfl | (refine And.intro ?_ ?_) | exact ImpS.refl _
  conv => whnf
  repeat' first | ((first | refine Ob.a ?_ | refine Sp.tt ?_ | refine Sp.ff ?_ | refine Sp.yes ?_ | refine Sp.no ?_ | refine Sp.nyes ?_ | refine Sp.nno ?_);conv=>whnf) | (refine Sp.ne (fun hc => ?_) (fun hc => ?_) <;> (conv=>whnf)) | (refine Sp.dec (fun hc => ?_) (fun hc => ?_) <;> (conv=>whnf)) | (refine Sp.ndec (fun hc => ?_) (fun hc => ?_) <;> (conv=>whnf)) | (refine Sp.mk (fun hc => ?_) (fun hc => ?_) <;> (conv=>whnf)) | (refine Fi.a ?_;conv=>whnf) | (refine Ob.b ?_;conv=>whnf)
  repeat' first | ((first | refine Ob.a ?_ | refine Sp.tt ?_ | refine Sp.ff ?_ | refine Sp.yes ?_ | refine Sp.no ?_ | refine Sp.nyes ?_ | refine Sp.nno ?_);conv=>whnf) | (refine Sp.ne (fun hc => ?_) (fun hc => ?_) <;> (conv=>whnf)) | (refine Sp.dec (fun hc => ?_) (fun hc => ?_) <;> (conv=>whnf)) | (refine Sp.ndec (fun hc => ?_) (fun hc => ?_) <;> (conv=>whnf)) | (refine Sp.mk (fun hc => ?_) (fun hc => ?_) <;> (conv=>whnf)) | (apply Cl.go;(conv=>whnf); (first | refine Ob.call (a4) ?_);(conv=>whnf)) | (refine Fi.a ?_;conv=>whnf) | (refine Ob.b ?_;conv=>whnf)
  apply Cl.go
  (conv=>whnf)
  refine Ob.fn ?_ ?_ ?_ (a5)
  rotate_left
  all_goals try (repeat' first | (refine Edge.fast ?_) | ((conv=>whnf); first | exact True.intro | (refine And.intro ?_ ?_) | exact rfl | exact Nat.le_of_eq (Nat.zero_add _) | exact ImpS.refl _ | ((conv => arg 1; whnf); first | exact ImpS.refl _ | (refine ImpS.nil_eq ?_) | (refine ImpS.vnil_eq ?_) | (refine ImpS.row ?_) | (refine ImpS.rowN ?_ ?_) | (refine ImpS.sl_eq ?_) | (refine ImpS.expl rfl ?_)) | (refine row_snoc' ?_) | (apply row_upd) | exact cimp_none | exact cimp_same | exact List.not_mem_nil | exact DImp.refl _) | exact rfl | (refine And.intro ?_ ?_) | exact ImpS.refl _)
  all_goals try first | assumption | omega
  · conv => whnf
    conv => arg 1; whnf
    exact ImpS.cut hii (by omega) (by omega) (fun j hj => rfl) fun j hj => congrArg (fun q => lotD (r.lots.getD q default)) (by omega)
  rcases a6 with ⟨b2, rfl | ⟨rfl, hnm⟩⟩ | ⟨b2, rfl, hnm⟩
  all_goals
    conv => whnf
    repeat' first | ((first | refine Ob.a ?_ | refine Sp.tt ?_ | refine Sp.ff ?_ | refine Sp.yes ?_ | refine Sp.no ?_ | refine Sp.nyes ?_ | refine Sp.nno ?_);conv=>whnf) | (refine Sp.ne (fun hc => ?_) (fun hc => ?_) <;> (conv=>whnf)) | (refine Sp.dec (fun hc => ?_) (fun hc => ?_) <;> (conv=>whnf)) | (refine Sp.ndec (fun hc => ?_) (fun hc => ?_) <;> (conv=>whnf)) | (refine Sp.mk (fun hc => ?_) (fun hc => ?_) <;> (conv=>whnf)) | (apply Cl.go;(conv=>whnf); (first | refine Ob.call (hw) ?_);(conv=>whnf)) | (refine Fi.a ?_;conv=>whnf) | (refine Ob.b ?_;conv=>whnf)
    all_goals exact Lf
end Go.Px.Try

/-! LwMor3 -/
namespace Go.Px.Try
open Go Go.Proofs Go.Px
set_option maxRecDepth 100000
set_option maxHeartbeats 16000000 in
theorem more_011 {r : Row} {wl lt : Nat} {mo : Lot} {n : Int} {b : List Int} (h : MoT r wl lt mo n b) (hwk : (r.weak.length : Int) = 0) (hl0 : 0 < (r.lots.length : Int)) (hq : notGreat (more r mo) ∧ checkRow (more r mo) = 0) : Fn Try.prog 11 [rowD r, u8 wl, u8 lt, lotD mo] (bool true) := by
  obtain ⟨hw, hs, hl, h12, hwl, hlt, of0, a1, a2, a3, h0, a4, hb, hbr, a5⟩ := h
  have hi0 : 0 ≤ (lt : Int) % (r.lots.length : Int) := Int.emod_nonneg _ (by omega)
  have hi1 : (lt : Int) % (r.lots.length : Int) < r.lots.length := Int.emod_lt_of_pos _ (by omega)
  have hii : ((lt : Int) % (r.lots.length : Int)).toNat < r.lots.length := by omega
  obtain ⟨m3, e3, a5, a6⟩ := a5 ((lt : Int) % (r.lots.length : Int)).toNat hii
  have hbi := hbr ((lt : Int) % (r.lots.length : Int)).toNat hii
  clear h0 hbr
  have q1 := fine_fn hq
  obtain ⟨m2, hm2, a3⟩ := a3 hq
  clear a2
  refine Fn.of_ex (cuts := []) tys hM Try.func11 rfl Try.call11 rfl ?_
  show exC Try.prog T [] _ false none 0 (entry 201 [rowD r, u8 wl, u8 lt, lotD mo]) (finQ T [ResultVar.tmp 8] _)
  conv => whnf
  repeat' first | ((first | refine Ob.a ?_ | refine Sp.tt ?_ | refine Sp.ff ?_ | refine Sp.yes ?_ | refine Sp.no ?_ | refine Sp.nyes ?_ | refine Sp.nno ?_);conv=>whnf) | (refine Sp.ne (fun hc => ?_) (fun hc => ?_) <;> (conv=>whnf)) | (refine Sp.dec (fun hc => ?_) (fun hc => ?_) <;> (conv=>whnf)) | (refine Sp.ndec (fun hc => ?_) (fun hc => ?_) <;> (conv=>whnf)) | (refine Sp.mk (fun hc => ?_) (fun hc => ?_) <;> (conv=>whnf)) | (apply Cl.go;(conv=>whnf); (first | refine Ob.call (hs) ?_ | refine Ob.call (hw) ?_ | refine Ob.call (a1) ?_ | refine Ob.call (of0) ?_);(conv=>whnf)) | (refine Fi.a ?_;conv=>whnf) | (refine Ob.b ?_;conv=>whnf)
  apply Cl.go
  (conv=>whnf)
  refine Ob.fn ?_ ?_ ?_ (q1)
  rotate_left
  all_goals try (repeat' first | (refine Edge.fast ?_) | ((conv=>whnf); first | exact True.intro | (refine And.intro ?_ ?_) | exact rfl | exact Nat.le_of_eq (Nat.zero_add _) | exact ImpS.refl _ | ((conv => arg 1; whnf); first | exact ImpS.refl _ | (refine ImpS.nil_eq ?_) | (refine ImpS.vnil_eq ?_) | (refine ImpS.row ?_) | (refine ImpS.rowN ?_ ?_) | (refine ImpS.sl_eq ?_) | (refine ImpS.expl rfl ?_)) | (refine row_snoc' ?_) | (apply row_upd) | exact cimp_none | exact cimp_same | exact List.not_mem_nil | exact DImp.refl _) | exact rfl | (refine And.intro ?_ ?_) | exact ImpS.refl _)
  all_goals try first | assumption | omega
  · conv => whnf
    conv => arg 1; whnf
    refine ImpS.appdM (by omega) (by omega) ?_
    repeat' first | (refine Edge.fast ?_) | ((conv=>whnf); first | exact True.intro | (refine And.intro ?_ ?_) | exact rfl | exact Nat.le_of_eq (Nat.zero_add _) | exact ImpS.refl _ | ((conv => arg 1; whnf); first | exact ImpS.refl _ | (refine ImpS.nil_eq ?_) | (refine ImpS.vnil_eq ?_) | (refine ImpS.row ?_) | (refine ImpS.rowN ?_ ?_) | (refine ImpS.sl_eq ?_) | (refine ImpS.expl rfl ?_)) | (refine row_snoc' ?_) | (apply row_upd) | exact cimp_none | exact cimp_same | exact List.not_mem_nil | exact DImp.refl _) | exact rfl | (refine And.intro ?_ ?_) | exact ImpS.refl _
  conv => whnf
  repeat' first | ((first | refine Ob.a ?_ | refine Sp.tt ?_ | refine Sp.ff ?_ | refine Sp.yes ?_ | refine Sp.no ?_ | refine Sp.nyes ?_ | refine Sp.nno ?_);conv=>whnf) | (refine Sp.ne (fun hc => ?_) (fun hc => ?_) <;> (conv=>whnf)) | (refine Sp.dec (fun hc => ?_) (fun hc => ?_) <;> (conv=>whnf)) | (refine Sp.ndec (fun hc => ?_) (fun hc => ?_) <;> (conv=>whnf)) | (refine Sp.mk (fun hc => ?_) (fun hc => ?_) <;> (conv=>whnf)) | (refine Fi.a ?_;conv=>whnf) | (refine Ob.b ?_;conv=>whnf)
  apply Cl.go
  (conv=>whnf)
  refine Ob.fn ?_ ?_ ?_ (a3)
  rotate_left
  all_goals try (repeat' first | (refine Edge.fast ?_) | ((conv=>whnf); first | exact True.intro | (refine And.intro ?_ ?_) | exact rfl | exact Nat.le_of_eq (Nat.zero_add _) | exact ImpS.refl _ | ((conv => arg 1; whnf); first | exact ImpS.refl _ | (refine ImpS.nil_eq ?_) | (refine ImpS.vnil_eq ?_) | (refine ImpS.row ?_) | (refine ImpS.rowN ?_ ?_) | (refine ImpS.sl_eq ?_) | (refine ImpS.expl rfl ?_)) | (refine row_snoc' ?_) | (apply row_upd) | exact cimp_none | exact cimp_same | exact List.not_mem_nil | exact DImp.refl _) | exact rfl | (refine And.intro ?_ ?_) | exact ImpS.refl _)
  all_goals try first | assumption | omega
  · conv => whnf
    conv => arg 1; whnf
    refine ImpS.appdM (by omega) (by omega) ?_
    repeat' first | (refine Edge.fast ?_) | ((conv=>whnf); first | exact True.intro | (refine And.intro ?_ ?_) | exact rfl | exact Nat.le_of_eq (Nat.zero_add _) | exact ImpS.refl _ | ((conv => arg 1; whnf); first | exact ImpS.refl _ | (refine ImpS.nil_eq ?_) | (refine ImpS.vnil_eq ?_) | (refine ImpS.row ?_) | (refine ImpS.rowN ?_ ?_) | (refine ImpS.sl_eq ?_) | (refine ImpS.expl rfl ?_)) | (refine row_snoc' ?_) | (apply row_upd) | exact cimp_none | exact cimp_same | exact List.not_mem_nil | exact DImp.refl _) | exact rfl | (refine And.intro ?_ ?_) | exact ImpS.refl _
  conv => whnf
  repeat' first | ((first | refine Ob.a ?_ | refine Sp.tt ?_ | refine Sp.ff ?_ | refine Sp.yes ?_ | refine Sp.no ?_ | refine Sp.nyes ?_ | refine Sp.nno ?_);conv=>whnf) | (refine Sp.ne (fun hc => ?_) (fun hc => ?_) <;> (conv=>whnf)) | (refine Sp.dec (fun hc => ?_) (fun hc => ?_) <;> (conv=>whnf)) | (refine Sp.ndec (fun hc => ?_) (fun hc => ?_) <;> (conv=>whnf)) | (refine Sp.mk (fun hc => ?_) (fun hc => ?_) <;> (conv=>whnf)) | (refine Fi.a ?_;conv=>whnf) | (refine Ob.b ?_;conv=>whnf)
  repeat' first | ((first | refine Ob.a ?_ | refine Sp.tt ?_ | refine Sp.ff ?_ | refine Sp.yes ?_ | refine Sp.no ?_ | refine Sp.nyes ?_ | refine Sp.nno ?_);conv=>whnf) | (refine Sp.ne (fun hc => ?_) (fun hc => ?_) <;> (conv=>whnf)) | (refine Sp.dec (fun hc => ?_) (fun hc => ?_) <;> (conv=>whnf)) | (refine Sp.ndec (fun hc => ?_) (fun hc => ?_) <;> (conv=>whnf)) | (refine Sp.mk (fun hc => ?_) (fun hc => ?_) <;> (conv=>whnf)) | (apply Cl.go;(conv=>whnf); (first | refine Ob.call (a4) ?_);(conv=>whnf)) | (refine Fi.a ?_;conv=>whnf) | (refine Ob.b ?_;conv=>whnf)
  apply Cl.go
  (conv=>whnf)
  refine Ob.fn ?_ ?_ ?_ (a5)
  rotate_left
  all_goals try (repeat' first | (refine Edge.fast ?_) | ((conv=>whnf); first | exact True.intro | (refine And.intro ?_ ?_) | exact rfl | exact Nat.le_of_eq (Nat.zero_add _) | exact ImpS.refl _ | ((conv => arg 1; whnf); first | exact ImpS.refl _ | (refine ImpS.nil_eq ?_) | (refine ImpS.vnil_eq ?_) | (refine ImpS.row ?_) | (refine ImpS.rowN ?_ ?_) | (refine ImpS.sl_eq ?_) | (refine ImpS.expl rfl ?_)) | (refine row_snoc' ?_) | (apply row_upd) | exact cimp_none | exact cimp_same | exact List.not_mem_nil | exact DImp.refl _) | exact rfl | (refine And.intro ?_ ?_) | exact ImpS.refl _)
  all_goals try first | assumption | omega
  · conv => whnf
    conv => arg 1; whnf
    exact ImpS.cut hii (by omega) (by omega) (fun j hj => rfl) fun j hj => congrArg (fun q => lotD (r.lots.getD q default)) (by omega)
  rcases a6 with ⟨b2, rfl | ⟨rfl, hnm⟩⟩ | ⟨b2, rfl, hnm⟩
  all_goals
    conv => whnf
    repeat' first | ((first | refine Ob.a ?_ | refine Sp.tt ?_ | refine Sp.ff ?_ | refine Sp.yes ?_ | refine Sp.no ?_ | refine Sp.nyes ?_ | refine Sp.nno ?_);conv=>whnf) | (refine Sp.ne (fun hc => ?_) (fun hc => ?_) <;> (conv=>whnf)) | (refine Sp.dec (fun hc => ?_) (fun hc => ?_) <;> (conv=>whnf)) | (refine Sp.ndec (fun hc => ?_) (fun hc => ?_) <;> (conv=>whnf)) | (refine Sp.mk (fun hc => ?_) (fun hc => ?_) <;> (conv=>whnf)) | (apply Cl.go;(conv=>whnf); (first | refine Ob.call (hw) ?_);(conv=>whnf)) | (refine Fi.a ?_;conv=>whnf) | (refine Ob.b ?_;conv=>whnf)
    all_goals exact Lf
set_option maxHeartbeats 16000000 in
theorem more_010 {r : Row} {wl lt : Nat} {mo : Lot} {n : Int} {b : List Int} (h : MoT r wl lt mo n b) (hwk : (r.weak.length : Int) = 0) (hl0 : (r.lots.length : Int) = 0) (hq : notGreat (more r mo) ∧ checkRow (more r mo) = 0) : Fn Try.prog 11 [rowD r, u8 wl, u8 lt, lotD mo] (bool true) := by
  obtain ⟨hw, hs, hl, h12, hwl, hlt, of0, a1, a2, a3, h0, a4, hb, hbr, a5⟩ := h
  obtain ⟨hn0, _⟩ := h0 (by omega)
  clear a5 hbr
  have q1 := fine_fn hq
  obtain ⟨m2, hm2, a3⟩ := a3 hq
  clear a2
  refine Fn.of_ex (cuts := []) tys hM Try.func11 rfl Try.call11 rfl ?_
  show exC Try.prog T [] _ false none 0 (entry 201 [rowD r, u8 wl, u8 lt, lotD mo]) (finQ T [ResultVar.tmp 8] _)
  conv => whnf
  repeat' first | ((first | refine Ob.a ?_ | refine Sp.tt ?_ | refine Sp.ff ?_ | refine Sp.yes ?_ | refine Sp.no ?_ | refine Sp.nyes ?_ | refine Sp.nno ?_);conv=>whnf) | (refine Sp.ne (fun hc => ?_) (fun hc => ?_) <;> (conv=>whnf)) | (refine Sp.dec (fun hc => ?_) (fun hc => ?_) <;> (conv=>whnf)) | (refine Sp.ndec (fun hc => ?_) (fun hc => ?_) <;> (conv=>whnf)) | (refine Sp.mk (fun hc => ?_) (fun hc => ?_) <;> (conv=>whnf)) | (apply Cl.go;(conv=>whnf); (first | refine Ob.call (hs) ?_ | refine Ob.call (hw) ?_ | refine Ob.call (a1) ?_ | refine Ob.call (of0) ?_);(conv=>whnf)) | (refine Fi.a ?_;conv=>whnf) | (refine Ob.b ?_;conv=>whnf)
  apply Cl.go
  (conv=>whnf)
  refine Ob.fn ?_ ?_ ?_ (q1)
  rotate_left
  all_goals try (repeat' first | (refine Edge.fast ?_) | ((conv=>whnf); first | exact True.intro | (refine And.intro ?_ ?_) | exact rfl | exact Nat.le_of_eq (Nat.zero_add _) | exact ImpS.refl _ | ((conv => arg 1; whnf); first | exact ImpS.refl _ | (refine ImpS.nil_eq ?_) | (refine ImpS.vnil_eq ?_) | (refine ImpS.row ?_) | (refine ImpS.rowN ?_ ?_) | (refine ImpS.sl_eq ?_) | (refine ImpS.expl rfl ?_)) | (refine row_snoc' ?_) | (apply row_upd) | exact cimp_none | exact cimp_same | exact List.not_mem_nil | exact DImp.refl _) | exact rfl | (refine And.intro ?_ ?_) | exact ImpS.refl _)
  all_goals try first | assumption | omega
  · conv => whnf
    conv => arg 1; whnf
    refine ImpS.appdM (by omega) (by omega) ?_
    repeat' first | (refine Edge.fast ?_) | ((conv=>whnf); first | exact True.intro | (refine And.intro ?_ ?_) | exact rfl | exact Nat.le_of_eq (Nat.zero_add _) | exact ImpS.refl _ | ((conv => arg 1; whnf); first | exact ImpS.refl _ | (refine ImpS.nil_eq ?_) | (refine ImpS.vnil_eq ?_) | (refine ImpS.row ?_) | (refine ImpS.rowN ?_ ?_) | (refine ImpS.sl_eq ?_) | (refine ImpS.expl rfl ?_)) | (refine row_snoc' ?_) | (apply row_upd) | exact cimp_none | exact cimp_same | exact List.not_mem_nil | exact DImp.refl _) | exact rfl | (refine And.intro ?_ ?_) | exact ImpS.refl _
  conv => whnf
  repeat' first | ((first | refine Ob.a ?_ | refine Sp.tt ?_ | refine Sp.ff ?_ | refine Sp.yes ?_ | refine Sp.no ?_ | refine Sp.nyes ?_ | refine Sp.nno ?_);conv=>whnf) | (refine Sp.ne (fun hc => ?_) (fun hc => ?_) <;> (conv=>whnf)) | (refine Sp.dec (fun hc => ?_) (fun hc => ?_) <;> (conv=>whnf)) | (refine Sp.ndec (fun hc => ?_) (fun hc => ?_) <;> (conv=>whnf)) | (refine Sp.mk (fun hc => ?_) (fun hc => ?_) <;> (conv=>whnf)) | (refine Fi.a ?_;conv=>whnf) | (refine Ob.b ?_;conv=>whnf)
  apply Cl.go
  (conv=>whnf)
  refine Ob.fn ?_ ?_ ?_ (a3)
  rotate_left
  all_goals try (repeat' first | (refine Edge.fast ?_) | ((conv=>whnf); first | exact True.intro | (refine And.intro ?_ ?_) | exact rfl | exact Nat.le_of_eq (Nat.zero_add _) | exact ImpS.refl _ | ((conv => arg 1; whnf); first | exact ImpS.refl _ | (refine ImpS.nil_eq ?_) | (refine ImpS.vnil_eq ?_) | (refine ImpS.row ?_) | (refine ImpS.rowN ?_ ?_) | (refine ImpS.sl_eq ?_) | (refine ImpS.expl rfl ?_)) | (refine row_snoc' ?_) | (apply row_upd) | exact cimp_none | exact cimp_same | exact List.not_mem_nil | exact DImp.refl _) | exact rfl | (refine And.intro ?_ ?_) | exact ImpS.refl _)
  all_goals try first | assumption | omega
  · conv => whnf
    conv => arg 1; whnf
    refine ImpS.appdM (by omega) (by omega) ?_
    repeat' first | (refine Edge.fast ?_) | ((conv=>whnf); first | exact True.intro | (refine And.intro ?_ ?_) | exact rfl | exact Nat.le_of_eq (Nat.zero_add _) | exact ImpS.refl _ | ((conv => arg 1; whnf); first | exact ImpS.refl _ | (refine ImpS.nil_eq ?_) | (refine ImpS.vnil_eq ?_) | (refine ImpS.row ?_) | (refine ImpS.rowN ?_ ?_) | (refine ImpS.sl_eq ?_) | (refine ImpS.expl rfl ?_)) | (refine row_snoc' ?_) | (apply row_upd) | exact cimp_none | exact cimp_same | exact List.not_mem_nil | exact DImp.refl _) | exact rfl | (refine And.intro ?_ ?_) | exact ImpS.refl _
  conv => whnf
  repeat' first | ((first | refine Ob.a ?_ | refine Sp.tt ?_ | refine Sp.ff ?_ | refine Sp.yes ?_ | refine Sp.no ?_ | refine Sp.nyes ?_ | refine Sp.nno ?_);conv=>whnf) | (refine Sp.ne (fun hc => ?_) (fun hc => ?_) <;> (conv=>whnf)) | (refine Sp.dec (fun hc => ?_) (fun hc => ?_) <;> (conv=>whnf)) | (refine Sp.ndec (fun hc => ?_) (fun hc => ?_) <;> (conv=>whnf)) | (refine Sp.mk (fun hc => ?_) (fun hc => ?_) <;> (conv=>whnf)) | (refine Fi.a ?_;conv=>whnf) | (refine Ob.b ?_;conv=>whnf)
  repeat' first | ((first | refine Ob.a ?_ | refine Sp.tt ?_ | refine Sp.ff ?_ | refine Sp.yes ?_ | refine Sp.no ?_ | refine Sp.nyes ?_ | refine Sp.nno ?_);conv=>whnf) | (refine Sp.ne (fun hc => ?_) (fun hc => ?_) <;> (conv=>whnf)) | (refine Sp.dec (fun hc => ?_) (fun hc => ?_) <;> (conv=>whnf)) | (refine Sp.ndec (fun hc => ?_) (fun hc => ?_) <;> (conv=>whnf)) | (refine Sp.mk (fun hc => ?_) (fun hc => ?_) <;> (conv=>whnf)) | (apply Cl.go;(conv=>whnf); (first | refine Ob.call (hw) ?_);(conv=>whnf)) | (refine Fi.a ?_;conv=>whnf) | (refine Ob.b ?_;conv=>whnf)
  all_goals exact Lf
end Go.Px.Try

/-! LwMor4 -/
namespace Go.Px.Try
open Go Go.Proofs Go.Px
set_option maxRecDepth 100000
set_option maxHeartbeats 16000000 in
theorem more_001 {r : Row} {wl lt : Nat} {mo : Lot} {n : Int} {b : List Int} (h : MoT r wl lt mo n b) (hwk : (r.weak.length : Int) = 0) (hl0 : 0 < (r.lots.length : Int)) (hq : ¬ (notGreat (more r mo) ∧ checkRow (more r mo) = 0)) : Fn Try.prog 11 [rowD r, u8 wl, u8 lt, lotD mo] (bool true) := by
  obtain ⟨hw, hs, hl, h12, hwl, hlt, of0, a1, a2, a3, h0, a4, hb, hbr, a5⟩ := h
  have hi0 : 0 ≤ (lt : Int) % (r.lots.length : Int) := Int.emod_nonneg _ (by omega)
  have hi1 : (lt : Int) % (r.lots.length : Int) < r.lots.length := Int.emod_lt_of_pos _ (by omega)
  have hii : ((lt : Int) % (r.lots.length : Int)).toNat < r.lots.length := by omega
  obtain ⟨m3, e3, a5, a6⟩ := a5 ((lt : Int) % (r.lots.length : Int)).toNat hii
  have hbi := hbr ((lt : Int) % (r.lots.length : Int)).toNat hii
  clear h0 hbr
  have q1 := notFine_fn hq
  clear a3
  clear a2
  refine Fn.of_ex (cuts := []) tys hM Try.func11 rfl Try.call11 rfl ?_
  show exC Try.prog T [] _ false none 0 (entry 201 [rowD r, u8 wl, u8 lt, lotD mo]) (finQ T [ResultVar.tmp 8] _)
  conv => whnf
  repeat' first | ((first | refine Ob.a ?_ | refine Sp.tt ?_ | refine Sp.ff ?_ | refine Sp.yes ?_ | refine Sp.no ?_ | refine Sp.nyes ?_ | refine Sp.nno ?_);conv=>whnf) | (refine Sp.ne (fun hc => ?_) (fun hc => ?_) <;> (conv=>whnf)) | (refine Sp.dec (fun hc => ?_) (fun hc => ?_) <;> (conv=>whnf)) | (refine Sp.ndec (fun hc => ?_) (fun hc => ?_) <;> (conv=>whnf)) | (refine Sp.mk (fun hc => ?_) (fun hc => ?_) <;> (conv=>whnf)) | (apply Cl.go;(conv=>whnf); (first | refine Ob.call (hs) ?_ | refine Ob.call (hw) ?_ | refine Ob.call (a1) ?_ | refine Ob.call (of0) ?_);(conv=>whnf)) | (refine Fi.a ?_;conv=>whnf) | (refine Ob.b ?_;conv=>whnf)
  apply Cl.go
  (conv=>whnf)
  refine Ob.fn ?_ ?_ ?_ (q1)
  rotate_left
  all_goals try (repeat' first | (refine Edge.fast ?_) | ((conv=>whnf); first | exact True.intro | (refine And.intro ?_ ?_) | exact rfl | exact Nat.le_of_eq (Nat.zero_add _) | exact ImpS.refl _ | ((conv => arg 1; whnf); first | exact ImpS.refl _ | (refine ImpS.nil_eq ?_) | (refine ImpS.vnil_eq ?_) | (refine ImpS.row ?_) | (refine ImpS.rowN ?_ ?_) | (refine ImpS.sl_eq ?_) | (refine ImpS.expl rfl ?_)) | (refine row_snoc' ?_) | (apply row_upd) | exact cimp_none | exact cimp_same | exact List.not_mem_nil | exact DImp.refl _) | exact rfl | (refine And.intro ?_ ?_) | exact ImpS.refl _)
  all_goals try first | assumption | omega
  · conv => whnf
    conv => arg 1; whnf
    refine ImpS.appdM (by omega) (by omega) ?_
    repeat' first | (refine Edge.fast ?_) | ((conv=>whnf); first | exact True.intro | (refine And.intro ?_ ?_) | exact rfl | exact Nat.le_of_eq (Nat.zero_add _) | exact ImpS.refl _ | ((conv => arg 1; whnf); first | exact ImpS.refl _ | (refine ImpS.nil_eq ?_) | (refine ImpS.vnil_eq ?_) | (refine ImpS.row ?_) | (refine ImpS.rowN ?_ ?_) | (refine ImpS.sl_eq ?_) | (refine ImpS.expl rfl ?_)) | (refine row_snoc' ?_) | (apply row_upd) | exact cimp_none | exact cimp_same | exact List.not_mem_nil | exact DImp.refl _) | exact rfl | (refine And.intro ?_ ?_) | exact ImpS.refl _
  conv => whnf
  repeat' first | ((first | refine Ob.a ?_ | refine Sp.tt ?_ | refine Sp.ff ?_ | refine Sp.yes ?_ | refine Sp.no ?_ | refine Sp.nyes ?_ | refine Sp.nno ?_);conv=>whnf) | (refine Sp.ne (fun hc => ?_) (fun hc => ?_) <;> (conv=>whnf)) | (refine Sp.dec (fun hc => ?_) (fun hc => ?_) <;> (conv=>whnf)) | (refine Sp.ndec (fun hc => ?_) (fun hc => ?_) <;> (conv=>whnf)) | (refine Sp.mk (fun hc => ?_) (fun hc => ?_) <;> (conv=>whnf)) | (refine Fi.a ?_;conv=>whnf) | (refine Ob.b ?_;conv=>whnf)
  repeat' first | ((first | refine Ob.a ?_ | refine Sp.tt ?_ | refine Sp.ff ?_ | refine Sp.yes ?_ | refine Sp.no ?_ | refine Sp.nyes ?_ | refine Sp.nno ?_);conv=>whnf) | (refine Sp.ne (fun hc => ?_) (fun hc => ?_) <;> (conv=>whnf)) | (refine Sp.dec (fun hc => ?_) (fun hc => ?_) <;> (conv=>whnf)) | (refine Sp.ndec (fun hc => ?_) (fun hc => ?_) <;> (conv=>whnf)) | (refine Sp.mk (fun hc => ?_) (fun hc => ?_) <;> (conv=>whnf)) | (apply Cl.go;(conv=>whnf); (first | refine Ob.call (a4) ?_);(conv=>whnf)) | (refine Fi.a ?_;conv=>whnf) | (refine Ob.b ?_;conv=>whnf)
  apply Cl.go
  (conv=>whnf)
  refine Ob.fn ?_ ?_ ?_ (a5)
  rotate_left
  all_goals try (repeat' first | (refine Edge.fast ?_) | ((conv=>whnf); first | exact True.intro | (refine And.intro ?_ ?_) | exact rfl | exact Nat.le_of_eq (Nat.zero_add _) | exact ImpS.refl _ | ((conv => arg 1; whnf); first | exact ImpS.refl _ | (refine ImpS.nil_eq ?_) | (refine ImpS.vnil_eq ?_) | (refine ImpS.row ?_) | (refine ImpS.rowN ?_ ?_) | (refine ImpS.sl_eq ?_) | (refine ImpS.expl rfl ?_)) | (refine row_snoc' ?_) | (apply row_upd) | exact cimp_none | exact cimp_same | exact List.not_mem_nil | exact DImp.refl _) | exact rfl | (refine And.intro ?_ ?_) | exact ImpS.refl _)
  all_goals try first | assumption | omega
  · conv => whnf
    conv => arg 1; whnf
    exact ImpS.cut hii (by omega) (by omega) (fun j hj => rfl) fun j hj => congrArg (fun q => lotD (r.lots.getD q default)) (by omega)
  rcases a6 with ⟨b2, rfl | ⟨rfl, hnm⟩⟩ | ⟨b2, rfl, hnm⟩
  all_goals
    conv => whnf
    repeat' first | ((first | refine Ob.a ?_ | refine Sp.tt ?_ | refine Sp.ff ?_ | refine Sp.yes ?_ | refine Sp.no ?_ | refine Sp.nyes ?_ | refine Sp.nno ?_);conv=>whnf) | (refine Sp.ne (fun hc => ?_) (fun hc => ?_) <;> (conv=>whnf)) | (refine Sp.dec (fun hc => ?_) (fun hc => ?_) <;> (conv=>whnf)) | (refine Sp.ndec (fun hc => ?_) (fun hc => ?_) <;> (conv=>whnf)) | (refine Sp.mk (fun hc => ?_) (fun hc => ?_) <;> (conv=>whnf)) | (apply Cl.go;(conv=>whnf); (first | refine Ob.call (hw) ?_);(conv=>whnf)) | (refine Fi.a ?_;conv=>whnf) | (refine Ob.b ?_;conv=>whnf)
    all_goals exact Lf
set_option maxHeartbeats 16000000 in
theorem more_000 {r : Row} {wl lt : Nat} {mo : Lot} {n : Int} {b : List Int} (h : MoT r wl lt mo n b) (hwk : (r.weak.length : Int) = 0) (hl0 : (r.lots.length : Int) = 0) (hq : ¬ (notGreat (more r mo) ∧ checkRow (more r mo) = 0)) : Fn Try.prog 11 [rowD r, u8 wl, u8 lt, lotD mo] (bool true) := by
  obtain ⟨hw, hs, hl, h12, hwl, hlt, of0, a1, a2, a3, h0, a4, hb, hbr, a5⟩ := h
  obtain ⟨hn0, _⟩ := h0 (by omega)
  clear a5 hbr
  have q1 := notFine_fn hq
  clear a3
  clear a2
  refine Fn.of_ex (cuts := []) tys hM Try.func11 rfl Try.call11 rfl ?_
  show exC Try.prog T [] _ false none 0 (entry 201 [rowD r, u8 wl, u8 lt, lotD mo]) (finQ T [ResultVar.tmp 8] _)
  conv => whnf
  repeat' first | ((first | refine Ob.a ?_ | refine Sp.tt ?_ | refine Sp.ff ?_ | refine Sp.yes ?_ | refine Sp.no ?_ | refine Sp.nyes ?_ | refine Sp.nno ?_);conv=>whnf) | (refine Sp.ne (fun hc => ?_) (fun hc => ?_) <;> (conv=>whnf)) | (refine Sp.dec (fun hc => ?_) (fun hc => ?_) <;> (conv=>whnf)) | (refine Sp.ndec (fun hc => ?_) (fun hc => ?_) <;> (conv=>whnf)) | (refine Sp.mk (fun hc => ?_) (fun hc => ?_) <;> (conv=>whnf)) | (apply Cl.go;(conv=>whnf); (first | refine Ob.call (hs) ?_ | refine Ob.call (hw) ?_ | refine Ob.call (a1) ?_ | refine Ob.call (of0) ?_);(conv=>whnf)) | (refine Fi.a ?_;conv=>whnf) | (refine Ob.b ?_;conv=>whnf)
  apply Cl.go
  (conv=>whnf)
  refine Ob.fn ?_ ?_ ?_ (q1)
  rotate_left
  all_goals try (repeat' first | (refine Edge.fast ?_) | ((conv=>whnf); first | exact True.intro | (refine And.intro ?_ ?_) | exact rfl | exact Nat.le_of_eq (Nat.zero_add _) | exact ImpS.refl _ | ((conv => arg 1; whnf); first | exact ImpS.refl _ | (refine ImpS.nil_eq ?_) | (refine ImpS.vnil_eq ?_) | (refine ImpS.row ?_) | (refine ImpS.rowN ?_ ?_) | (refine ImpS.sl_eq ?_) | (refine ImpS.expl rfl ?_)) | (refine row_snoc' ?_) | (apply row_upd) | exact cimp_none | exact cimp_same | exact List.not_mem_nil | exact DImp.refl _) | exact rfl | (refine And.intro ?_ ?_) | exact ImpS.refl _)
  all_goals try first | assumption | omega
  · conv => whnf
    conv => arg 1; whnf
    refine ImpS.appdM (by omega) (by omega) ?_
    repeat' first | (refine Edge.fast ?_) | ((conv=>whnf); first | exact True.intro | (refine And.intro ?_ ?_) | exact rfl | exact Nat.le_of_eq (Nat.zero_add _) | exact ImpS.refl _ | ((conv => arg 1; whnf); first | exact ImpS.refl _ | (refine ImpS.nil_eq ?_) | (refine ImpS.vnil_eq ?_) | (refine ImpS.row ?_) | (refine ImpS.rowN ?_ ?_) | (refine ImpS.sl_eq ?_) | (refine ImpS.expl rfl ?_)) | (refine row_snoc' ?_) | (apply row_upd) | exact cimp_none | exact cimp_same | exact List.not_mem_nil | exact DImp.refl _) | exact rfl | (refine And.intro ?_ ?_) | exact ImpS.refl _
  conv => whnf
  repeat' first | ((first | refine Ob.a ?_ | refine Sp.tt ?_ | refine Sp.ff ?_ | refine Sp.yes ?_ | refine Sp.no ?_ | refine Sp.nyes ?_ | refine Sp.nno ?_);conv=>whnf) | (refine Sp.ne (fun hc => ?_) (fun hc => ?_) <;> (conv=>whnf)) | (refine Sp.dec (fun hc => ?_) (fun hc => ?_) <;> (conv=>whnf)) | (refine Sp.ndec (fun hc => ?_) (fun hc => ?_) <;> (conv=>whnf)) | (refine Sp.mk (fun hc => ?_) (fun hc => ?_) <;> (conv=>whnf)) | (refine Fi.a ?_;conv=>whnf) | (refine Ob.b ?_;conv=>whnf)
  repeat' first | ((first | refine Ob.a ?_ | refine Sp.tt ?_ | refine Sp.ff ?_ | refine Sp.yes ?_ | refine Sp.no ?_ | refine Sp.nyes ?_ | refine Sp.nno ?_);conv=>whnf) | (refine Sp.ne (fun hc => ?_) (fun hc => ?_) <;> (conv=>whnf)) | (refine Sp.dec (fun hc => ?_) (fun hc => ?_) <;> (conv=>whnf)) | (refine Sp.ndec (fun hc => ?_) (fun hc => ?_) <;> (conv=>whnf)) | (refine Sp.mk (fun hc => ?_) (fun hc => ?_) <;> (conv=>whnf)) | (apply Cl.go;(conv=>whnf); (first | refine Ob.call (hw) ?_);(conv=>whnf)) | (refine Fi.a ?_;conv=>whnf) | (refine Ob.b ?_;conv=>whnf)
  all_goals exact Lf
end Go.Px.Try

/-! LwMore -/
namespace Go.Px.Try
open Go Go.Proofs Go.Px
set_option maxRecDepth 100000
set_option maxHeartbeats 4000000 in
theorem PotMore_spec (r : Row) (wl lt : Nat) (mo : Lot) (hwl : wl < 256) (hlt : lt < 256) : Fn Try.prog 11 [rowD r, u8 wl, u8 lt, lotD mo] (bool true) := by
  have hw := Works_spec
  by_cases h1 : notGreat r ∧ rowError r = 0
  case neg =>
    have hf := notSound_fn h1
    refine Fn.of_ex (cuts := []) tys hM Try.func11 rfl Try.call11 rfl ?_
    show exC Try.prog T [] _ false none 0 (entry 201 [rowD r, u8 wl, u8 lt, lotD mo]) (finQ T [ResultVar.tmp 8] _)
    conv => whnf
    repeat' first | ((first | refine Ob.a ?_ | refine Sp.tt ?_ | refine Sp.ff ?_ | refine Sp.yes ?_ | refine Sp.no ?_ | refine Sp.nyes ?_ | refine Sp.nno ?_);conv=>whnf) | (refine Sp.ne (fun hc => ?_) (fun hc => ?_) <;> (conv=>whnf)) | (refine Sp.dec (fun hc => ?_) (fun hc => ?_) <;> (conv=>whnf)) | (refine Sp.ndec (fun hc => ?_) (fun hc => ?_) <;> (conv=>whnf)) | (refine Sp.mk (fun hc => ?_) (fun hc => ?_) <;> (conv=>whnf)) | (apply Cl.go;(conv=>whnf); (first | refine Ob.call (hf) ?_ | refine Ob.call (hw) ?_);(conv=>whnf)) | (refine Fi.a ?_;conv=>whnf) | (refine Ob.b ?_;conv=>whnf)
    all_goals exact Lf
  have hf := sound_fn h1
  have hs := sound_of h1.2
  have hr := hs.ok
  have h10 := hr.l10
  have h12 := hr.w12
  by_cases h2 : 10 ≤ (r.lots.length : Int)
  · refine Fn.of_ex (cuts := []) tys hM Try.func11 rfl Try.call11 rfl ?_
    show exC Try.prog T [] _ false none 0 (entry 201 [rowD r, u8 wl, u8 lt, lotD mo]) (finQ T [ResultVar.tmp 8] _)
    conv => whnf
    repeat' first | ((first | refine Ob.a ?_ | refine Sp.tt ?_ | refine Sp.ff ?_ | refine Sp.yes ?_ | refine Sp.no ?_ | refine Sp.nyes ?_ | refine Sp.nno ?_);conv=>whnf) | (refine Sp.ne (fun hc => ?_) (fun hc => ?_) <;> (conv=>whnf)) | (refine Sp.dec (fun hc => ?_) (fun hc => ?_) <;> (conv=>whnf)) | (refine Sp.ndec (fun hc => ?_) (fun hc => ?_) <;> (conv=>whnf)) | (refine Sp.mk (fun hc => ?_) (fun hc => ?_) <;> (conv=>whnf)) | (apply Cl.go;(conv=>whnf); (first | refine Ob.call (hf) ?_ | refine Ob.call (hw) ?_);(conv=>whnf)) | (refine Fi.a ?_;conv=>whnf) | (refine Ob.b ?_;conv=>whnf)
    all_goals exact Lf
  have k1 : r.lots.length < 1000000 := by omega
  have k2 : r.weak.length < 1000000 := by omega
  have a4 := BlameP_spec r k1 k2
  rw [hs.blame] at a4
  have h : MoT r wl lt mo (optN r) (blL r) := by
    refine ⟨hw, hf, by omega, h12, hwl, hlt, of_nil, least_spec hs, fun k hk => ?_, fun hq => ?_, fun h0 => ?_, a4, blL_len r, fun i hi => (hs.blame_at hi).1, fun i hi => ?_⟩
    · have hsub : (r.weak.take k ++ r.weak.drop (k + 1)).Sublist r.weak := by
        conv => rhs; rw [← List.take_append_drop k r.weak, drop_getD 0 hk]
        exact List.Sublist.append_left (List.sublist_cons_self ..) _
      obtain ⟨e1, e2⟩ := fewer_sound hs hsub
      exact ⟨_, e2, least_spec e1⟩
    · obtain ⟨e1, e2⟩ := more_sound hs (checkRow_ok.1 hq.2)
      exact ⟨_, e2, least_spec e1⟩
    · obtain ⟨S, hS, hv, _⟩ := hs.att
      have : totR r S = 0 := by unfold totR; rw [h0]; rfl
      refine ⟨by omega, ?_⟩
      cases hwk : r.weak with
      | nil => rfl
      | cons p W =>
        obtain ⟨i, hi, _⟩ := hS p (by rw [hwk]; exact List.mem_cons_self ..)
        omega
    · have hk := LeastP_known (less1_ok hr hi)
      obtain ⟨_, _, b3⟩ := hs.blame_at hi
      by_cases hal : (blL r).getD i 0 = 2
      · rcases less1_always hs hi (b3.1 hal) with e | ⟨e, hlt⟩
        · exact ⟨_, _, hk, .inl ⟨hal, .inl e⟩⟩
        · have e2 : (leastPR (less1 r i)).1 = optN (less1 r i) := by unfold leastPR; rw [if_neg (not_not_intro e)]; rfl
          exact ⟨_, _, hk, .inl ⟨hal, .inr ⟨e, by rw [e2]; exact hlt⟩⟩⟩
      · obtain ⟨e, he⟩ := less1_not hs hi fun h => hal (b3.2 h)
        have e2 : (leastPR (less1 r i)).1 = optN (less1 r i) := by unfold leastPR; rw [if_neg (not_not_intro e)]; rfl
        exact ⟨_, _, hk, .inr ⟨hal, e, by rw [e2]; exact he⟩⟩
  by_cases hq : notGreat (more r mo) ∧ checkRow (more r mo) = 0
  · by_cases hW : (r.weak.length : Int) = 0
    · by_cases hL : (r.lots.length : Int) = 0
      · exact more_010 h hW hL hq
      · exact more_011 h hW (by omega) hq
    · by_cases hL : (r.lots.length : Int) = 0
      · have := (h.h0 (by omega)).2; omega
      · exact more_111 h (by omega) (by omega) hq
  · by_cases hW : (r.weak.length : Int) = 0
    · by_cases hL : (r.lots.length : Int) = 0
      · exact more_000 h hW hL hq
      · exact more_001 h hW (by omega) hq
    · by_cases hL : (r.lots.length : Int) = 0
      · have := (h.h0 (by omega)).2; omega
      · exact more_101 h (by omega) (by omega) hq
end Go.Px.Try

namespace Go.Proofs.Ytiaeopgahkahbaa.potMoreDone
open Go.ChangeShapes Go.WideShapes Go.ChangeAt Go.RowKit
open Go.Px
open Go.Px.Try (own laidOut)
set_option maxRecDepth 100000 in
theorem lifted (os : Os) (started : os.Started) (H : Type) (enc : TypeId × Value → H) :
    ReturnsInHanded {} Try.checked os 11 .any (Rows.potMoreSpec.pre6 enc Try.prog Try.f11 Rows.potMoreRow.domain false) (Rows.potMoreSpec.post enc Try.prog Try.f11 false true false false) := by
  refine returnsInHanded_of_change (C := Try.checked) own started (by kernel_rfl) Try.func11
    (ChangeSpec.witness6 (enc := enc) (C := Try.checked) false ⟨#[], #[.agg #[.int .i64 0, .slice none 0 0, .slice none 0 0], .int .u8 0, .int .u8 0, .agg #[.int .i64 0, .int .i64 0]], []⟩ 8 (by kernel_rfl) (by kernel_rfl) (by kernel_rfl) (by kernel_rfl)) ?_
  intro W base args ds gs before hval0 hW hcnd _
  have hval : ∀ (j : Nat) t v, Try.f11.params[j]? = some t → args[j]? = some v → Value.okWide Try.prog W .any base t v := hval0
  have hW' := hW
  obtain ⟨p, q, hA0, hV, rfl, hfz, hnd⟩ := hW
  have hA : DataW.TrodAll enc Try.prog W 0 (fun _ => true) true Try.f11.params.toList args.toList ds p := hA0
  rw [Try.params11] at hA hval
  obtain ⟨v0, vs0, d0, ds0, p0, q0, hargs, rfl, rfl, h0, r0⟩ := trodAll_cons hA
  obtain ⟨v1, vs1, d1, ds1, p1, q1, rfl, rfl, rfl, h1, r1⟩ := trodAll_cons r0
  obtain ⟨v2, vs2, d2, ds2, p2, q2, rfl, rfl, rfl, h2, r2⟩ := trodAll_cons r1
  obtain ⟨v3, vs3, d3, ds3, p3, q3, rfl, rfl, rfl, h3, r3⟩ := trodAll_cons r2
  obtain ⟨rfl, rfl, rfl⟩ := trodAll_nil r3
  obtain rfl : args = #[v0, v1, v2, v3] := by cases args; simp_all
  obtain ⟨rfl, rfl⟩ := trodVars_none hV
  have lt0 : ∀ x ∈ p0, x.block < W.heap.size := by have k := h0; obtain ⟨m, hm⟩ := k; exact DataW.trod_lt m _ _ _ hm
  obtain ⟨x0, g0, e0⟩ := Go.Px.Try.row_arg h0 (hval 0 25 v0 rfl rfl)
  have lt1 : ∀ x ∈ p1, x.block < W.heap.size := by have k := h1; obtain ⟨m, hm⟩ := k; exact DataW.trod_lt m _ _ _ hm
  obtain ⟨x1, g1, e1⟩ := Go.Px.Try.u8_arg h1 (hval 1 5 v1 rfl rfl)
  have lt2 : ∀ x ∈ p2, x.block < W.heap.size := by have k := h2; obtain ⟨m, hm⟩ := k; exact DataW.trod_lt m _ _ _ hm
  obtain ⟨x2, g2, e2⟩ := Go.Px.Try.u8_arg h2 (hval 2 5 v2 rfl rfl)
  have lt3 : ∀ x ∈ p3, x.block < W.heap.size := by have k := h3; obtain ⟨m, hm⟩ := k; exact DataW.trod_lt m _ _ _ hm
  obtain ⟨x3, g3, e3⟩ := Go.Px.Try.lot_arg h3 (hval 3 51 v3 rfl rfl)
  clear hA0 hval0
  refine ((Go.Px.Try.PotMore_spec x0 x1 x2 x3 g1 g2).2 (All W) W [v0, v1, v2, v3] (fun _ h => h) ⟨e0, e1, e2, e3, trivial⟩).mono fun e W' ⟨v, S', he, hr, _, _, bel⟩ => ?_
  obtain rfl : v = .bool true := hr
  subst he
  exact ⟨_, rfl, _, _, _, [], _, [], hW', trodAll_mk1 (shut_bool Try.underlying4 _), (trodAll_cons_mk (Below.trod laidOut (by kernel_rfl) (of_decide_eq_true (by kernel_rfl)) h0 bel lt0) (trodAll_cons_mk (Below.trod laidOut (by kernel_rfl) (of_decide_eq_true (by kernel_rfl)) h1 bel lt1) (trodAll_cons_mk (Below.trod laidOut (by kernel_rfl) (of_decide_eq_true (by kernel_rfl)) h2 bel lt2) (trodAll_cons_mk (Below.trod laidOut (by kernel_rfl) (of_decide_eq_true (by kernel_rfl)) h3 bel lt3) trodAll_mk0)))), rfl, bel.frame _, fun h => by cases h⟩
theorem over : Rows.potMoreRow.holds Try.pinned (OpenSpec.ofChange Rows.potMoreSpec) :=
  OpenClaim.holds_of_wide 11 Try.f11 rfl rfl rfl rfl rfl rfl rfl ⟨rfl, rfl, rfl, rfl, rfl⟩ rfl rfl rfl rfl rfl (by kernel_rfl) Try.func11 (by kernel_rfl)
    (of_decide_eq_true (by kernel_rfl)) (by unfold Func.isWrapper; first | (rw [if_pos (by decide +kernel)]; kernel_rfl) | (rw [if_neg (by decide +kernel)]; exact ⟨rfl, rfl⟩))
    (fun os started H enc _ => lifted os started H enc)
theorem proved : Rows.PotMoreSaid := over
#print axioms proved
end Go.Proofs.Ytiaeopgahkahbaa.potMoreDone
