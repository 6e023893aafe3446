/- Texts of this proof, joined (Lib, Pr1, Pr2, Pr3, Pr4, Pr7, Pr9, Pr12, PrC, Ma1, Pr11, Pr13): a small program logic over the model, and what functions of the program give. No statement of the seat is proved here. -/
import Derived.Test.YtbodonldkndgjaaJ4
import Derived.Test.YtbodonldkndgjaaJ3
import Derived.Shelf.SlMaps.Clone
import Derived.KernelRfl
set_option linter.unusedVariables false
set_option linter.unusedSimpArgs false

/-! Lib -/
namespace Go.Px.Try
open Go Go.Proofs Go.Px

def ixf {α : Type} (p : α → Bool) (l : List α) : Int := match l.findIdx? p with
  | some i => i
  | none => -1
theorem ixf_found {α : Type} {p : α → Bool} {l : List α} {d : α} {i : Nat} (hi : i < l.length) (h : p (l.getD i d) = true) (hn : ∀ j, j < i → p (l.getD j d) = false) : ixf p l = i := by
  have : l.findIdx? p = some i := by
    rw [List.findIdx?_eq_some_iff_getElem]
    refine ⟨hi, ?_, fun j hj => ?_⟩
    · rw [List.getD_eq_getElem?_getD, List.getElem?_eq_getElem hi] at h; exact h
    · have := hn j hj
      rw [List.getD_eq_getElem?_getD, List.getElem?_eq_getElem (by omega)] at this
      simpa using this
  unfold ixf
  rw [this]
theorem ixf_none {α : Type} {p : α → Bool} {l : List α} {d : α} (hn : ∀ j, j < l.length → p (l.getD j d) = false) : ixf p l = -1 := by
  have : l.findIdx? p = none := by
    rw [List.findIdx?_eq_none_iff]
    intro x hx
    obtain ⟨j, hj, rfl⟩ := List.getElem_of_mem hx
    have := hn j hj
    rw [List.getD_eq_getElem?_getD, List.getElem?_eq_getElem hj] at this
    exact this
  unfold ixf
  rw [this]
theorem ixf_any {α : Type} (p : α → Bool) (l : List α) : decide (0 ≤ ixf p l) = l.any p := by
  unfold ixf
  cases h : l.findIdx? p with
  | some i =>
    have := (List.findIdx?_eq_some_iff_getElem.1 h)
    obtain ⟨hi, hp, _⟩ := this
    rw [List.any_eq_true.2 ⟨l[i], List.getElem_mem hi, hp⟩]
    exact decide_eq_true (by simp)
  | none =>
    have := List.findIdx?_eq_none_iff.1 h
    rw [List.any_eq_false.2 fun x hx => by simp [this x hx]]
    decide


set_option maxHeartbeats 8000000 in
theorem index92_2 (l : List Int) (g : Nat) (c : Nat → DV) (p : Int → Bool) (hl : l.length < 1000000) (hp : ∀ x ∈ l, Fn Try.prog g [int x, c 0, c 1] (bool (p x))) : Fn Try.prog 92 [slOf 1 int 0 l, .fn g 0 2 (fun _ => .top) c] (int (ixf p l)) := by
  refine Fn.hide (D := fun r : Int => int r) fun r hr => ?_
  refine Fn.of_ex (cuts := []) tys hM Try.func92 rfl Try.call92 rfl ?_
  show exC Try.prog T [] _ false none 0 (entry 19 [slOf 1 int 0 l, .fn g 0 2 (fun _ => .top) c]) (finQ T [ResultVar.tmp 4] _)
  conv => whnf
  repeat' first
    | (refine Ob.tt True.intro ?_; conv => whnf)
    | (refine Ob.tt rfl ?_; conv => whnf)
    | (refine Ob.tt (And.intro True.intro (And.intro True.intro True.intro)) ?_; conv => whnf)
    | (refine Ob.tt (And.intro True.intro (And.intro True.intro (And.intro True.intro True.intro))) ?_; conv => whnf)
    | (refine Ob.tt (And.intro True.intro True.intro) ?_; conv => whnf)
    | (refine Ob.tt (Nat.le_of_ble_eq_true rfl) ?_; conv => whnf)
    | (refine Ob.inR (fun _ => ?_) ?_; rotate_left; (try first | assumption | omega | exact ImpS.refl _ | (simp only [inR]; omega) | (simp only [IntKind.bits]; omega) | (refine ⟨?_, ?_⟩ <;> omega)); rotate_right); (conv => whnf)
    | (refine Ob.go (fun _ => ?_) (And.intro True.intro (And.intro ?_ List.not_mem_nil)); rotate_left; (try first | assumption | omega | exact ImpS.refl _ | (simp only [inR]; omega) | (simp only [IntKind.bits]; omega) | (refine ⟨?_, ?_⟩ <;> omega)); rotate_right); (conv => whnf)
    | (refine Ob.and (fun _ => ?_) ?_; rotate_left; (try first | assumption | omega | exact ImpS.refl _ | (simp only [inR]; omega) | (simp only [IntKind.bits]; omega) | (refine ⟨?_, ?_⟩ <;> omega)); rotate_right); (conv => whnf)
    | (refine Ob.ltN (fun _ => ?_) ?_; rotate_left; (try first | assumption | omega | exact ImpS.refl _ | (simp only [inR]; omega) | (simp only [IntKind.bits]; omega) | (refine ⟨?_, ?_⟩ <;> omega)); rotate_right); (conv => whnf)
    | (refine Ob.leN (fun _ => ?_) ?_; rotate_left; (try first | assumption | omega | exact ImpS.refl _ | (simp only [inR]; omega) | (simp only [IntKind.bits]; omega) | (refine ⟨?_, ?_⟩ <;> omega)); rotate_right); (conv => whnf)
    | (refine Sp.tt ?_; conv => whnf)
    | (refine Sp.ff ?_; conv => whnf)
    | (refine Sp.dec (fun hc => ?_) (fun hc => ?_) <;> (conv => whnf))
    | (refine Sp.ndec (fun hc => ?_) (fun hc => ?_) <;> (conv => whnf))
    | (refine Sp.mk (fun hc => ?_) (fun hc => ?_) <;> (conv => whnf))
    | (refine Fi.mk ?_ ?_; (focus ((repeat' first | (refine Edge.fast ?_) | ((conv => whnf); first | exact True.intro | (refine And.intro ?_ ?_) | exact rfl | exact Nat.le_of_eq (Nat.zero_add _) | exact ImpS.refl _ | ((conv => arg 1; whnf); first | exact ImpS.refl _ | (refine ImpS.nil_eq ?_) | (refine ImpS.vnil_eq ?_) | (refine ImpS.row ?_) | (refine ImpS.rowN ?_ ?_) | (refine ImpS.sl_eq ?_) | (refine ImpS.expl rfl ?_)) | (refine row_snoc' ?_) | (apply row_upd) | exact cimp_none | exact cimp_same | exact List.not_mem_nil | exact DImp.refl _) | exact rfl | (refine And.intro ?_ ?_) | exact ImpS.refl _); done)); (conv => whnf))
  refine Lp.go 19 {i : Int // 0 ≤ i ∧ i ≤ l.length ∧ ∀ j : Int, 0 ≤ j → j < i → p (l.getD j.toNat 0) = false}
    (fun ⟨i, _⟩ => ⟨0, [(0, .d (slOf 1 int 0 l)), (1, .d (.fn g 0 2 (fun _ => .top) c)), (7, .d (int l.length)), (8, .d (int i))], [], some 0⟩)
    (fun q => (l.length - q.1).toNat) ⟨0, by omega, by omega, fun j _ _ => by omega⟩ ?_ ?_ rfl (fun _ => rfl)
  · rintro ⟨i, hi0, hi, hinv⟩
    have hpi : i < l.length → Fn Try.prog g [int (l.getD i.toNat 0), c 0, c 1] (bool (p (l.getD i.toNat 0))) := fun h => hp _ (getD_mem (by omega) _)
    have hfound : i < l.length → p (l.getD i.toNat 0) = true → r = i := fun h hx => by
      rw [← hr.h]
      refine ixf_found (d := 0) (i := i.toNat) (by omega) hx (fun j hj => ?_) |>.trans (by omega)
      have := hinv j (by omega) (by omega)
      rwa [Int.toNat_natCast] at this
    have hnone : ¬ i < l.length → r = -1 := fun h => by
      rw [← hr.h]
      refine ixf_none (d := 0) fun j hj => ?_
      have := hinv j (by omega) (by omega)
      rwa [Int.toNat_natCast] at this
    conv => whnf
    repeat' first
      | (refine Ob.tt True.intro ?_; conv => whnf)
      | (refine Ob.tt rfl ?_; conv => whnf)
      | (refine Ob.tt (And.intro True.intro (And.intro True.intro True.intro)) ?_; conv => whnf)
      | (refine Ob.tt (And.intro True.intro (And.intro True.intro (And.intro True.intro True.intro))) ?_; conv => whnf)
      | (refine Ob.tt (And.intro True.intro True.intro) ?_; conv => whnf)
      | (refine Ob.tt (Nat.le_of_ble_eq_true rfl) ?_; conv => whnf)
      | (refine Ob.inR (fun _ => ?_) ?_; rotate_left; (try first | assumption | omega | exact ImpS.refl _ | (simp only [inR]; omega) | (simp only [IntKind.bits]; omega) | (refine ⟨?_, ?_⟩ <;> omega)); rotate_right); (conv => whnf)
      | (apply Cl.go; (conv => whnf); (refine Ob.fn ?_ ?_ ?_ (hpi (by omega)); rotate_left; (focus ((repeat' first | (refine Edge.fast ?_) | ((conv => whnf); first | exact True.intro | (refine And.intro ?_ ?_) | exact rfl | exact Nat.le_of_eq (Nat.zero_add _) | exact ImpS.refl _ | ((conv => arg 1; whnf); first | exact ImpS.refl _ | (refine ImpS.nil_eq ?_) | (refine ImpS.vnil_eq ?_) | (refine ImpS.row ?_) | (refine ImpS.rowN ?_ ?_) | (refine ImpS.sl_eq ?_) | (refine ImpS.expl rfl ?_)) | (refine row_snoc' ?_) | (apply row_upd) | exact cimp_none | exact cimp_same | exact List.not_mem_nil | exact DImp.refl _) | exact rfl | (refine And.intro ?_ ?_) | exact ImpS.refl _); done)); (focus ((repeat' first | (refine Edge.fast ?_) | ((conv => whnf); first | exact True.intro | (refine And.intro ?_ ?_) | exact rfl | exact Nat.le_of_eq (Nat.zero_add _) | exact ImpS.refl _ | ((conv => arg 1; whnf); first | exact ImpS.refl _ | (refine ImpS.nil_eq ?_) | (refine ImpS.vnil_eq ?_) | (refine ImpS.row ?_) | (refine ImpS.rowN ?_ ?_) | (refine ImpS.sl_eq ?_) | (refine ImpS.expl rfl ?_)) | (refine row_snoc' ?_) | (apply row_upd) | exact cimp_none | exact cimp_same | exact List.not_mem_nil | exact DImp.refl _) | exact rfl | (refine And.intro ?_ ?_) | exact ImpS.refl _); done)); rotate_right); (conv => whnf))
      | (refine Ob.go (fun _ => ?_) (And.intro True.intro (And.intro ?_ List.not_mem_nil)); rotate_left; (try first | assumption | omega | exact ImpS.refl _ | (simp only [inR]; omega) | (simp only [IntKind.bits]; omega) | (refine ⟨?_, ?_⟩ <;> omega)); rotate_right); (conv => whnf)
      | (refine Ob.and (fun _ => ?_) ?_; rotate_left; (try first | assumption | omega | exact ImpS.refl _ | (simp only [inR]; omega) | (simp only [IntKind.bits]; omega) | (refine ⟨?_, ?_⟩ <;> omega)); rotate_right); (conv => whnf)
      | (refine Ob.ltN (fun _ => ?_) ?_; rotate_left; (try first | assumption | omega | exact ImpS.refl _ | (simp only [inR]; omega) | (simp only [IntKind.bits]; omega) | (refine ⟨?_, ?_⟩ <;> omega)); rotate_right); (conv => whnf)
      | (refine Ob.leN (fun _ => ?_) ?_; rotate_left; (try first | assumption | omega | exact ImpS.refl _ | (simp only [inR]; omega) | (simp only [IntKind.bits]; omega) | (refine ⟨?_, ?_⟩ <;> omega)); rotate_right); (conv => whnf)
      | (refine Sp.tt ?_; conv => whnf)
      | (refine Sp.ff ?_; conv => whnf)
      | (refine Sp.dec (fun hc => ?_) (fun hc => ?_) <;> (conv => whnf))
      | (refine Sp.ndec (fun hc => ?_) (fun hc => ?_) <;> (conv => whnf))
      | (refine Sp.mk (fun hc => ?_) (fun hc => ?_) <;> (conv => whnf))
      | (refine Fi.mk ?_ ?_; (focus ((repeat' first | (refine Edge.fast ?_) | ((conv => whnf); first | exact True.intro | (refine And.intro ?_ ?_) | exact rfl | exact Nat.le_of_eq (Nat.zero_add _) | exact ImpS.refl _ | ((conv => arg 1; whnf); first | exact ImpS.refl _ | (refine ImpS.nil_eq ?_) | (refine ImpS.vnil_eq ?_) | (refine ImpS.row ?_) | (refine ImpS.rowN ?_ ?_) | (refine ImpS.sl_eq ?_) | (refine ImpS.expl rfl ?_)) | (refine row_snoc' ?_) | (apply row_upd) | exact cimp_none | exact cimp_same | exact List.not_mem_nil | exact DImp.refl _) | exact rfl | (refine And.intro ?_ ?_) | exact ImpS.refl _); done)); (conv => whnf))
    · have e := hfound (by omega) hc
      (repeat' first | (refine Edge.fast ?_) | ((conv => whnf); first | exact True.intro | (refine And.intro ?_ ?_) | exact rfl | exact Nat.le_of_eq (Nat.zero_add _) | exact ImpS.refl _ | ((conv => arg 1; whnf); first | exact ImpS.refl _ | (refine ImpS.nil_eq ?_) | (refine ImpS.vnil_eq ?_) | (refine ImpS.row ?_) | (refine ImpS.rowN ?_ ?_) | (refine ImpS.sl_eq ?_) | (refine ImpS.expl rfl ?_)) | (refine row_snoc' ?_) | (apply row_upd) | exact cimp_none | exact cimp_same | exact List.not_mem_nil | exact DImp.refl _) | exact rfl | (refine And.intro ?_ ?_) | exact ImpS.refl _)
      all_goals try first | (simp only [e]; done) | assumption | omega | (simp [e, *]; done) | (simp_all [e]; done)
    · refine ⟨rfl, ⟨i + 1, by omega, by omega, fun j h1 h2 => if e : j = i then e ▸ hc else hinv j h1 (by omega)⟩, ?_, ?_⟩
      · (conv => whnf)
        all_goals (repeat' first | (refine Edge.fast ?_) | ((conv => whnf); first | exact True.intro | (refine And.intro ?_ ?_) | exact rfl | exact Nat.le_of_eq (Nat.zero_add _) | exact ImpS.refl _ | ((conv => arg 1; whnf); first | exact ImpS.refl _ | (refine ImpS.nil_eq ?_) | (refine ImpS.vnil_eq ?_) | (refine ImpS.row ?_) | (refine ImpS.rowN ?_ ?_) | (refine ImpS.sl_eq ?_) | (refine ImpS.expl rfl ?_)) | (refine row_snoc' ?_) | (apply row_upd) | exact cimp_none | exact cimp_same | exact List.not_mem_nil | exact DImp.refl _) | exact rfl | (refine And.intro ?_ ?_) | exact ImpS.refl _)
        all_goals try first | assumption | (simp only []; done) | omega | (simp [*]; done)
      · simp only; omega
    · have e := hnone (by omega)
      (repeat' first | (refine Edge.fast ?_) | ((conv => whnf); first | exact True.intro | (refine And.intro ?_ ?_) | exact rfl | exact Nat.le_of_eq (Nat.zero_add _) | exact ImpS.refl _ | ((conv => arg 1; whnf); first | exact ImpS.refl _ | (refine ImpS.nil_eq ?_) | (refine ImpS.vnil_eq ?_) | (refine ImpS.row ?_) | (refine ImpS.rowN ?_ ?_) | (refine ImpS.sl_eq ?_) | (refine ImpS.expl rfl ?_)) | (refine row_snoc' ?_) | (apply row_upd) | exact cimp_none | exact cimp_same | exact List.not_mem_nil | exact DImp.refl _) | exact rfl | (refine And.intro ?_ ?_) | exact ImpS.refl _)
      all_goals try first | (simp only [e]; done) | assumption | omega | (simp [e, *]; done) | (simp_all [e]; done)
  · conv => whnf
    all_goals (repeat' first | (refine Edge.fast ?_) | ((conv => whnf); first | exact True.intro | (refine And.intro ?_ ?_) | exact rfl | exact Nat.le_of_eq (Nat.zero_add _) | exact ImpS.refl _ | ((conv => arg 1; whnf); first | exact ImpS.refl _ | (refine ImpS.nil_eq ?_) | (refine ImpS.vnil_eq ?_) | (refine ImpS.row ?_) | (refine ImpS.rowN ?_ ?_) | (refine ImpS.sl_eq ?_) | (refine ImpS.expl rfl ?_)) | (refine row_snoc' ?_) | (apply row_upd) | exact cimp_none | exact cimp_same | exact List.not_mem_nil | exact DImp.refl _) | exact rfl | (refine And.intro ?_ ?_) | exact ImpS.refl _)
    all_goals try first | assumption | omega | (simp only [IntKind.bits]; omega) | (simp [*]; done) | (rw [Bool.eq_iff_iff]; simp; omega) | (simp_all []; done) | (simp_all []; omega)

set_option maxHeartbeats 8000000 in
theorem contains83_2 (l : List Int) (g : Nat) (c : Nat → DV) (p : Int → Bool) (hl : l.length < 1000000) (hp : ∀ x ∈ l, Fn Try.prog g [int x, c 0, c 1] (bool (p x))) : Fn Try.prog 83 [slOf 1 int 0 l, .fn g 0 2 (fun _ => .top) c] (bool (l.any p)) := by
  have ha := ixf_any p l
  have hx := index92_2 l g c p hl hp
  generalize ixf p l = x at *
  rw [← ha]
  refine Fn.of_ex (cuts := []) tys hM Try.func83 rfl Try.call83 rfl ?_
  show exC Try.prog T [] _ false none 0 (entry 9 [slOf 1 int 0 l, .fn g 0 2 (fun _ => .top) c]) (finQ T [ResultVar.tmp 4] _)
  conv => whnf
  repeat' first
    | (refine Ob.tt True.intro ?_; conv => whnf)
    | (refine Ob.tt rfl ?_; conv => whnf)
    | (refine Ob.tt (And.intro True.intro (And.intro True.intro True.intro)) ?_; conv => whnf)
    | (refine Ob.tt (And.intro True.intro (And.intro True.intro (And.intro True.intro True.intro))) ?_; conv => whnf)
    | (refine Ob.tt (And.intro True.intro True.intro) ?_; conv => whnf)
    | (refine Ob.tt (Nat.le_of_ble_eq_true rfl) ?_; conv => whnf)
    | (refine Ob.inR (fun _ => ?_) ?_; rotate_left; (try first | assumption | omega | exact ImpS.refl _ | (simp only [inR]; omega) | (simp only [IntKind.bits]; omega) | (refine ⟨?_, ?_⟩ <;> omega)); rotate_right); (conv => whnf)
    | (apply Cl.go; (conv => whnf); (refine Ob.fn ?_ ?_ ?_ (hx); rotate_left; (focus ((repeat' first | (refine Edge.fast ?_) | ((conv => whnf); first | exact True.intro | (refine And.intro ?_ ?_) | exact rfl | exact Nat.le_of_eq (Nat.zero_add _) | exact ImpS.refl _ | ((conv => arg 1; whnf); first | exact ImpS.refl _ | (refine ImpS.nil_eq ?_) | (refine ImpS.vnil_eq ?_) | (refine ImpS.row ?_) | (refine ImpS.rowN ?_ ?_) | (refine ImpS.sl_eq ?_) | (refine ImpS.expl rfl ?_)) | (refine row_snoc' ?_) | (apply row_upd) | exact cimp_none | exact cimp_same | exact List.not_mem_nil | exact DImp.refl _) | exact rfl | (refine And.intro ?_ ?_) | exact ImpS.refl _); done)); (focus ((repeat' first | (refine Edge.fast ?_) | ((conv => whnf); first | exact True.intro | (refine And.intro ?_ ?_) | exact rfl | exact Nat.le_of_eq (Nat.zero_add _) | exact ImpS.refl _ | ((conv => arg 1; whnf); first | exact ImpS.refl _ | (refine ImpS.nil_eq ?_) | (refine ImpS.vnil_eq ?_) | (refine ImpS.row ?_) | (refine ImpS.rowN ?_ ?_) | (refine ImpS.sl_eq ?_) | (refine ImpS.expl rfl ?_)) | (refine row_snoc' ?_) | (apply row_upd) | exact cimp_none | exact cimp_same | exact List.not_mem_nil | exact DImp.refl _) | exact rfl | (refine And.intro ?_ ?_) | exact ImpS.refl _); done)); rotate_right); (conv => whnf))
    | (refine Ob.go (fun _ => ?_) (And.intro True.intro (And.intro ?_ List.not_mem_nil)); rotate_left; (try first | assumption | omega | exact ImpS.refl _ | (simp only [inR]; omega) | (simp only [IntKind.bits]; omega) | (refine ⟨?_, ?_⟩ <;> omega)); rotate_right); (conv => whnf)
    | (refine Ob.and (fun _ => ?_) ?_; rotate_left; (try first | assumption | omega | exact ImpS.refl _ | (simp only [inR]; omega) | (simp only [IntKind.bits]; omega) | (refine ⟨?_, ?_⟩ <;> omega)); rotate_right); (conv => whnf)
    | (refine Ob.ltN (fun _ => ?_) ?_; rotate_left; (try first | assumption | omega | exact ImpS.refl _ | (simp only [inR]; omega) | (simp only [IntKind.bits]; omega) | (refine ⟨?_, ?_⟩ <;> omega)); rotate_right); (conv => whnf)
    | (refine Ob.leN (fun _ => ?_) ?_; rotate_left; (try first | assumption | omega | exact ImpS.refl _ | (simp only [inR]; omega) | (simp only [IntKind.bits]; omega) | (refine ⟨?_, ?_⟩ <;> omega)); rotate_right); (conv => whnf)
    | (refine Sp.tt ?_; conv => whnf)
    | (refine Sp.ff ?_; conv => whnf)
    | (refine Sp.dec (fun hc => ?_) (fun hc => ?_) <;> (conv => whnf))
    | (refine Sp.ndec (fun hc => ?_) (fun hc => ?_) <;> (conv => whnf))
    | (refine Sp.mk (fun hc => ?_) (fun hc => ?_) <;> (conv => whnf))
    | (refine Fi.mk ?_ ?_; (focus ((repeat' first | (refine Edge.fast ?_) | ((conv => whnf); first | exact True.intro | (refine And.intro ?_ ?_) | exact rfl | exact Nat.le_of_eq (Nat.zero_add _) | exact ImpS.refl _ | ((conv => arg 1; whnf); first | exact ImpS.refl _ | (refine ImpS.nil_eq ?_) | (refine ImpS.vnil_eq ?_) | (refine ImpS.row ?_) | (refine ImpS.rowN ?_ ?_) | (refine ImpS.sl_eq ?_) | (refine ImpS.expl rfl ?_)) | (refine row_snoc' ?_) | (apply row_upd) | exact cimp_none | exact cimp_same | exact List.not_mem_nil | exact DImp.refl _) | exact rfl | (refine And.intro ?_ ?_) | exact ImpS.refl _); done)); (conv => whnf))
  all_goals (repeat' first | (refine Edge.fast ?_) | ((conv => whnf); first | exact True.intro | (refine And.intro ?_ ?_) | exact rfl | exact Nat.le_of_eq (Nat.zero_add _) | exact ImpS.refl _ | ((conv => arg 1; whnf); first | exact ImpS.refl _ | (refine ImpS.nil_eq ?_) | (refine ImpS.vnil_eq ?_) | (refine ImpS.row ?_) | (refine ImpS.rowN ?_ ?_) | (refine ImpS.sl_eq ?_) | (refine ImpS.expl rfl ?_)) | (refine row_snoc' ?_) | (apply row_upd) | exact cimp_none | exact cimp_same | exact List.not_mem_nil | exact DImp.refl _) | exact rfl | (refine And.intro ?_ ?_) | exact ImpS.refl _)
  all_goals try first | assumption | omega | (simp only [IntKind.bits]; omega) | (simp [*]; done) | (rw [Bool.eq_iff_iff]; simp; omega) | (simp_all []; done) | (simp_all []; omega)


set_option maxHeartbeats 8000000 in
theorem index85_0 (l : List Hour) (g : Nat) (c : Nat → DV) (p : Hour → Bool) (hl : l.length < 1000000) (hp : ∀ x ∈ l, Fn Try.prog g [hourD x] (bool (p x))) : Fn Try.prog 85 [slOf 3 hourD default l, .fn g 0 0 (fun _ => .top) c] (int (ixf p l)) := by
  refine Fn.hide (D := fun r : Int => int r) fun r hr => ?_
  refine Fn.of_ex (cuts := []) tys hM Try.func85 rfl Try.call85 rfl ?_
  show exC Try.prog T [] _ false none 0 (entry 19 [slOf 3 hourD default l, .fn g 0 0 (fun _ => .top) c]) (finQ T [ResultVar.tmp 4] _)
  conv => whnf
  repeat' first
    | (refine Ob.tt True.intro ?_; conv => whnf)
    | (refine Ob.tt rfl ?_; conv => whnf)
    | (refine Ob.tt (And.intro True.intro (And.intro True.intro True.intro)) ?_; conv => whnf)
    | (refine Ob.tt (And.intro True.intro (And.intro True.intro (And.intro True.intro True.intro))) ?_; conv => whnf)
    | (refine Ob.tt (And.intro True.intro True.intro) ?_; conv => whnf)
    | (refine Ob.tt (Nat.le_of_ble_eq_true rfl) ?_; conv => whnf)
    | (refine Ob.inR (fun _ => ?_) ?_; rotate_left; (try first | assumption | omega | exact ImpS.refl _ | (simp only [inR]; omega) | (simp only [IntKind.bits]; omega) | (refine ⟨?_, ?_⟩ <;> omega)); rotate_right); (conv => whnf)
    | (refine Ob.go (fun _ => ?_) (And.intro True.intro (And.intro ?_ List.not_mem_nil)); rotate_left; (try first | assumption | omega | exact ImpS.refl _ | (simp only [inR]; omega) | (simp only [IntKind.bits]; omega) | (refine ⟨?_, ?_⟩ <;> omega)); rotate_right); (conv => whnf)
    | (refine Ob.and (fun _ => ?_) ?_; rotate_left; (try first | assumption | omega | exact ImpS.refl _ | (simp only [inR]; omega) | (simp only [IntKind.bits]; omega) | (refine ⟨?_, ?_⟩ <;> omega)); rotate_right); (conv => whnf)
    | (refine Ob.ltN (fun _ => ?_) ?_; rotate_left; (try first | assumption | omega | exact ImpS.refl _ | (simp only [inR]; omega) | (simp only [IntKind.bits]; omega) | (refine ⟨?_, ?_⟩ <;> omega)); rotate_right); (conv => whnf)
    | (refine Ob.leN (fun _ => ?_) ?_; rotate_left; (try first | assumption | omega | exact ImpS.refl _ | (simp only [inR]; omega) | (simp only [IntKind.bits]; omega) | (refine ⟨?_, ?_⟩ <;> omega)); rotate_right); (conv => whnf)
    | (refine Sp.tt ?_; conv => whnf)
    | (refine Sp.ff ?_; conv => whnf)
    | (refine Sp.dec (fun hc => ?_) (fun hc => ?_) <;> (conv => whnf))
    | (refine Sp.ndec (fun hc => ?_) (fun hc => ?_) <;> (conv => whnf))
    | (refine Sp.mk (fun hc => ?_) (fun hc => ?_) <;> (conv => whnf))
    | (refine Fi.mk ?_ ?_; (focus ((repeat' first | (refine Edge.fast ?_) | ((conv => whnf); first | exact True.intro | (refine And.intro ?_ ?_) | exact rfl | exact Nat.le_of_eq (Nat.zero_add _) | exact ImpS.refl _ | ((conv => arg 1; whnf); first | exact ImpS.refl _ | (refine ImpS.nil_eq ?_) | (refine ImpS.vnil_eq ?_) | (refine ImpS.row ?_) | (refine ImpS.rowN ?_ ?_) | (refine ImpS.sl_eq ?_) | (refine ImpS.expl rfl ?_)) | (refine row_snoc' ?_) | (apply row_upd) | exact cimp_none | exact cimp_same | exact List.not_mem_nil | exact DImp.refl _) | exact rfl | (refine And.intro ?_ ?_) | exact ImpS.refl _); done)); (conv => whnf))
  refine Lp.go 19 {i : Int // 0 ≤ i ∧ i ≤ l.length ∧ ∀ j : Int, 0 ≤ j → j < i → p (l.getD j.toNat default) = false}
    (fun ⟨i, _⟩ => ⟨0, [(0, .d (slOf 3 hourD default l)), (1, .d (.fn g 0 0 (fun _ => .top) c)), (7, .d (int l.length)), (8, .d (int i))], [], some 0⟩)
    (fun q => (l.length - q.1).toNat) ⟨0, by omega, by omega, fun j _ _ => by omega⟩ ?_ ?_ rfl (fun _ => rfl)
  · rintro ⟨i, hi0, hi, hinv⟩
    have hpi : i < l.length → Fn Try.prog g [hourD (l.getD i.toNat default)] (bool (p (l.getD i.toNat default))) := fun h => hp _ (getD_mem (by omega) _)
    have hfound : i < l.length → p (l.getD i.toNat default) = true → r = i := fun h hx => by
      rw [← hr.h]
      refine ixf_found (d := default) (i := i.toNat) (by omega) hx (fun j hj => ?_) |>.trans (by omega)
      have := hinv j (by omega) (by omega)
      rwa [Int.toNat_natCast] at this
    have hnone : ¬ i < l.length → r = -1 := fun h => by
      rw [← hr.h]
      refine ixf_none (d := default) fun j hj => ?_
      have := hinv j (by omega) (by omega)
      rwa [Int.toNat_natCast] at this
    conv => whnf
    repeat' first
      | (refine Ob.tt True.intro ?_; conv => whnf)
      | (refine Ob.tt rfl ?_; conv => whnf)
      | (refine Ob.tt (And.intro True.intro (And.intro True.intro True.intro)) ?_; conv => whnf)
      | (refine Ob.tt (And.intro True.intro (And.intro True.intro (And.intro True.intro True.intro))) ?_; conv => whnf)
      | (refine Ob.tt (And.intro True.intro True.intro) ?_; conv => whnf)
      | (refine Ob.tt (Nat.le_of_ble_eq_true rfl) ?_; conv => whnf)
      | (refine Ob.inR (fun _ => ?_) ?_; rotate_left; (try first | assumption | omega | exact ImpS.refl _ | (simp only [inR]; omega) | (simp only [IntKind.bits]; omega) | (refine ⟨?_, ?_⟩ <;> omega)); rotate_right); (conv => whnf)
      | (apply Cl.go; (conv => whnf); (refine Ob.fn ?_ ?_ ?_ (hpi (by omega)); rotate_left; (focus ((repeat' first | (refine Edge.fast ?_) | ((conv => whnf); first | exact True.intro | (refine And.intro ?_ ?_) | exact rfl | exact Nat.le_of_eq (Nat.zero_add _) | exact ImpS.refl _ | ((conv => arg 1; whnf); first | exact ImpS.refl _ | (refine ImpS.nil_eq ?_) | (refine ImpS.vnil_eq ?_) | (refine ImpS.row ?_) | (refine ImpS.rowN ?_ ?_) | (refine ImpS.sl_eq ?_) | (refine ImpS.expl rfl ?_)) | (refine row_snoc' ?_) | (apply row_upd) | exact cimp_none | exact cimp_same | exact List.not_mem_nil | exact DImp.refl _) | exact rfl | (refine And.intro ?_ ?_) | exact ImpS.refl _); done)); (focus ((repeat' first | (refine Edge.fast ?_) | ((conv => whnf); first | exact True.intro | (refine And.intro ?_ ?_) | exact rfl | exact Nat.le_of_eq (Nat.zero_add _) | exact ImpS.refl _ | ((conv => arg 1; whnf); first | exact ImpS.refl _ | (refine ImpS.nil_eq ?_) | (refine ImpS.vnil_eq ?_) | (refine ImpS.row ?_) | (refine ImpS.rowN ?_ ?_) | (refine ImpS.sl_eq ?_) | (refine ImpS.expl rfl ?_)) | (refine row_snoc' ?_) | (apply row_upd) | exact cimp_none | exact cimp_same | exact List.not_mem_nil | exact DImp.refl _) | exact rfl | (refine And.intro ?_ ?_) | exact ImpS.refl _); done)); rotate_right); (conv => whnf))
      | (refine Ob.go (fun _ => ?_) (And.intro True.intro (And.intro ?_ List.not_mem_nil)); rotate_left; (try first | assumption | omega | exact ImpS.refl _ | (simp only [inR]; omega) | (simp only [IntKind.bits]; omega) | (refine ⟨?_, ?_⟩ <;> omega)); rotate_right); (conv => whnf)
      | (refine Ob.and (fun _ => ?_) ?_; rotate_left; (try first | assumption | omega | exact ImpS.refl _ | (simp only [inR]; omega) | (simp only [IntKind.bits]; omega) | (refine ⟨?_, ?_⟩ <;> omega)); rotate_right); (conv => whnf)
      | (refine Ob.ltN (fun _ => ?_) ?_; rotate_left; (try first | assumption | omega | exact ImpS.refl _ | (simp only [inR]; omega) | (simp only [IntKind.bits]; omega) | (refine ⟨?_, ?_⟩ <;> omega)); rotate_right); (conv => whnf)
      | (refine Ob.leN (fun _ => ?_) ?_; rotate_left; (try first | assumption | omega | exact ImpS.refl _ | (simp only [inR]; omega) | (simp only [IntKind.bits]; omega) | (refine ⟨?_, ?_⟩ <;> omega)); rotate_right); (conv => whnf)
      | (refine Sp.tt ?_; conv => whnf)
      | (refine Sp.ff ?_; conv => whnf)
      | (refine Sp.dec (fun hc => ?_) (fun hc => ?_) <;> (conv => whnf))
      | (refine Sp.ndec (fun hc => ?_) (fun hc => ?_) <;> (conv => whnf))
      | (refine Sp.mk (fun hc => ?_) (fun hc => ?_) <;> (conv => whnf))
      | (refine Fi.mk ?_ ?_; (focus ((repeat' first | (refine Edge.fast ?_) | ((conv => whnf); first | exact True.intro | (refine And.intro ?_ ?_) | exact rfl | exact Nat.le_of_eq (Nat.zero_add _) | exact ImpS.refl _ | ((conv => arg 1; whnf); first | exact ImpS.refl _ | (refine ImpS.nil_eq ?_) | (refine ImpS.vnil_eq ?_) | (refine ImpS.row ?_) | (refine ImpS.rowN ?_ ?_) | (refine ImpS.sl_eq ?_) | (refine ImpS.expl rfl ?_)) | (refine row_snoc' ?_) | (apply row_upd) | exact cimp_none | exact cimp_same | exact List.not_mem_nil | exact DImp.refl _) | exact rfl | (refine And.intro ?_ ?_) | exact ImpS.refl _); done)); (conv => whnf))
    · have e := hfound (by omega) hc
      (repeat' first | (refine Edge.fast ?_) | ((conv => whnf); first | exact True.intro | (refine And.intro ?_ ?_) | exact rfl | exact Nat.le_of_eq (Nat.zero_add _) | exact ImpS.refl _ | ((conv => arg 1; whnf); first | exact ImpS.refl _ | (refine ImpS.nil_eq ?_) | (refine ImpS.vnil_eq ?_) | (refine ImpS.row ?_) | (refine ImpS.rowN ?_ ?_) | (refine ImpS.sl_eq ?_) | (refine ImpS.expl rfl ?_)) | (refine row_snoc' ?_) | (apply row_upd) | exact cimp_none | exact cimp_same | exact List.not_mem_nil | exact DImp.refl _) | exact rfl | (refine And.intro ?_ ?_) | exact ImpS.refl _)
      all_goals try first | (simp only [e]; done) | assumption | omega | (simp [e, *]; done) | (simp_all [e]; done)
    · refine ⟨rfl, ⟨i + 1, by omega, by omega, fun j h1 h2 => if e : j = i then e ▸ hc else hinv j h1 (by omega)⟩, ?_, ?_⟩
      · (conv => whnf)
        all_goals (repeat' first | (refine Edge.fast ?_) | ((conv => whnf); first | exact True.intro | (refine And.intro ?_ ?_) | exact rfl | exact Nat.le_of_eq (Nat.zero_add _) | exact ImpS.refl _ | ((conv => arg 1; whnf); first | exact ImpS.refl _ | (refine ImpS.nil_eq ?_) | (refine ImpS.vnil_eq ?_) | (refine ImpS.row ?_) | (refine ImpS.rowN ?_ ?_) | (refine ImpS.sl_eq ?_) | (refine ImpS.expl rfl ?_)) | (refine row_snoc' ?_) | (apply row_upd) | exact cimp_none | exact cimp_same | exact List.not_mem_nil | exact DImp.refl _) | exact rfl | (refine And.intro ?_ ?_) | exact ImpS.refl _)
        all_goals try first | assumption | (simp only []; done) | omega | (simp [*]; done)
      · simp only; omega
    · have e := hnone (by omega)
      (repeat' first | (refine Edge.fast ?_) | ((conv => whnf); first | exact True.intro | (refine And.intro ?_ ?_) | exact rfl | exact Nat.le_of_eq (Nat.zero_add _) | exact ImpS.refl _ | ((conv => arg 1; whnf); first | exact ImpS.refl _ | (refine ImpS.nil_eq ?_) | (refine ImpS.vnil_eq ?_) | (refine ImpS.row ?_) | (refine ImpS.rowN ?_ ?_) | (refine ImpS.sl_eq ?_) | (refine ImpS.expl rfl ?_)) | (refine row_snoc' ?_) | (apply row_upd) | exact cimp_none | exact cimp_same | exact List.not_mem_nil | exact DImp.refl _) | exact rfl | (refine And.intro ?_ ?_) | exact ImpS.refl _)
      all_goals try first | (simp only [e]; done) | assumption | omega | (simp [e, *]; done) | (simp_all [e]; done)
  · conv => whnf
    all_goals (repeat' first | (refine Edge.fast ?_) | ((conv => whnf); first | exact True.intro | (refine And.intro ?_ ?_) | exact rfl | exact Nat.le_of_eq (Nat.zero_add _) | exact ImpS.refl _ | ((conv => arg 1; whnf); first | exact ImpS.refl _ | (refine ImpS.nil_eq ?_) | (refine ImpS.vnil_eq ?_) | (refine ImpS.row ?_) | (refine ImpS.rowN ?_ ?_) | (refine ImpS.sl_eq ?_) | (refine ImpS.expl rfl ?_)) | (refine row_snoc' ?_) | (apply row_upd) | exact cimp_none | exact cimp_same | exact List.not_mem_nil | exact DImp.refl _) | exact rfl | (refine And.intro ?_ ?_) | exact ImpS.refl _)
    all_goals try first | assumption | omega | (simp only [IntKind.bits]; omega) | (simp [*]; done) | (rw [Bool.eq_iff_iff]; simp; omega) | (simp_all []; done) | (simp_all []; omega)

set_option maxHeartbeats 8000000 in
theorem contains64_0 (l : List Hour) (g : Nat) (c : Nat → DV) (p : Hour → Bool) (hl : l.length < 1000000) (hp : ∀ x ∈ l, Fn Try.prog g [hourD x] (bool (p x))) : Fn Try.prog 64 [slOf 3 hourD default l, .fn g 0 0 (fun _ => .top) c] (bool (l.any p)) := by
  have ha := ixf_any p l
  have hx := index85_0 l g c p hl hp
  generalize ixf p l = x at *
  rw [← ha]
  refine Fn.of_ex (cuts := []) tys hM Try.func64 rfl Try.call64 rfl ?_
  show exC Try.prog T [] _ false none 0 (entry 9 [slOf 3 hourD default l, .fn g 0 0 (fun _ => .top) c]) (finQ T [ResultVar.tmp 4] _)
  conv => whnf
  repeat' first
    | (refine Ob.tt True.intro ?_; conv => whnf)
    | (refine Ob.tt rfl ?_; conv => whnf)
    | (refine Ob.tt (And.intro True.intro (And.intro True.intro True.intro)) ?_; conv => whnf)
    | (refine Ob.tt (And.intro True.intro (And.intro True.intro (And.intro True.intro True.intro))) ?_; conv => whnf)
    | (refine Ob.tt (And.intro True.intro True.intro) ?_; conv => whnf)
    | (refine Ob.tt (Nat.le_of_ble_eq_true rfl) ?_; conv => whnf)
    | (refine Ob.inR (fun _ => ?_) ?_; rotate_left; (try first | assumption | omega | exact ImpS.refl _ | (simp only [inR]; omega) | (simp only [IntKind.bits]; omega) | (refine ⟨?_, ?_⟩ <;> omega)); rotate_right); (conv => whnf)
    | (apply Cl.go; (conv => whnf); (refine Ob.fn ?_ ?_ ?_ (hx); rotate_left; (focus ((repeat' first | (refine Edge.fast ?_) | ((conv => whnf); first | exact True.intro | (refine And.intro ?_ ?_) | exact rfl | exact Nat.le_of_eq (Nat.zero_add _) | exact ImpS.refl _ | ((conv => arg 1; whnf); first | exact ImpS.refl _ | (refine ImpS.nil_eq ?_) | (refine ImpS.vnil_eq ?_) | (refine ImpS.row ?_) | (refine ImpS.rowN ?_ ?_) | (refine ImpS.sl_eq ?_) | (refine ImpS.expl rfl ?_)) | (refine row_snoc' ?_) | (apply row_upd) | exact cimp_none | exact cimp_same | exact List.not_mem_nil | exact DImp.refl _) | exact rfl | (refine And.intro ?_ ?_) | exact ImpS.refl _); done)); (focus ((repeat' first | (refine Edge.fast ?_) | ((conv => whnf); first | exact True.intro | (refine And.intro ?_ ?_) | exact rfl | exact Nat.le_of_eq (Nat.zero_add _) | exact ImpS.refl _ | ((conv => arg 1; whnf); first | exact ImpS.refl _ | (refine ImpS.nil_eq ?_) | (refine ImpS.vnil_eq ?_) | (refine ImpS.row ?_) | (refine ImpS.rowN ?_ ?_) | (refine ImpS.sl_eq ?_) | (refine ImpS.expl rfl ?_)) | (refine row_snoc' ?_) | (apply row_upd) | exact cimp_none | exact cimp_same | exact List.not_mem_nil | exact DImp.refl _) | exact rfl | (refine And.intro ?_ ?_) | exact ImpS.refl _); done)); rotate_right); (conv => whnf))
    | (refine Ob.go (fun _ => ?_) (And.intro True.intro (And.intro ?_ List.not_mem_nil)); rotate_left; (try first | assumption | omega | exact ImpS.refl _ | (simp only [inR]; omega) | (simp only [IntKind.bits]; omega) | (refine ⟨?_, ?_⟩ <;> omega)); rotate_right); (conv => whnf)
    | (refine Ob.and (fun _ => ?_) ?_; rotate_left; (try first | assumption | omega | exact ImpS.refl _ | (simp only [inR]; omega) | (simp only [IntKind.bits]; omega) | (refine ⟨?_, ?_⟩ <;> omega)); rotate_right); (conv => whnf)
    | (refine Ob.ltN (fun _ => ?_) ?_; rotate_left; (try first | assumption | omega | exact ImpS.refl _ | (simp only [inR]; omega) | (simp only [IntKind.bits]; omega) | (refine ⟨?_, ?_⟩ <;> omega)); rotate_right); (conv => whnf)
    | (refine Ob.leN (fun _ => ?_) ?_; rotate_left; (try first | assumption | omega | exact ImpS.refl _ | (simp only [inR]; omega) | (simp only [IntKind.bits]; omega) | (refine ⟨?_, ?_⟩ <;> omega)); rotate_right); (conv => whnf)
    | (refine Sp.tt ?_; conv => whnf)
    | (refine Sp.ff ?_; conv => whnf)
    | (refine Sp.dec (fun hc => ?_) (fun hc => ?_) <;> (conv => whnf))
    | (refine Sp.ndec (fun hc => ?_) (fun hc => ?_) <;> (conv => whnf))
    | (refine Sp.mk (fun hc => ?_) (fun hc => ?_) <;> (conv => whnf))
    | (refine Fi.mk ?_ ?_; (focus ((repeat' first | (refine Edge.fast ?_) | ((conv => whnf); first | exact True.intro | (refine And.intro ?_ ?_) | exact rfl | exact Nat.le_of_eq (Nat.zero_add _) | exact ImpS.refl _ | ((conv => arg 1; whnf); first | exact ImpS.refl _ | (refine ImpS.nil_eq ?_) | (refine ImpS.vnil_eq ?_) | (refine ImpS.row ?_) | (refine ImpS.rowN ?_ ?_) | (refine ImpS.sl_eq ?_) | (refine ImpS.expl rfl ?_)) | (refine row_snoc' ?_) | (apply row_upd) | exact cimp_none | exact cimp_same | exact List.not_mem_nil | exact DImp.refl _) | exact rfl | (refine And.intro ?_ ?_) | exact ImpS.refl _); done)); (conv => whnf))
  all_goals (repeat' first | (refine Edge.fast ?_) | ((conv => whnf); first | exact True.intro | (refine And.intro ?_ ?_) | exact rfl | exact Nat.le_of_eq (Nat.zero_add _) | exact ImpS.refl _ | ((conv => arg 1; whnf); first | exact ImpS.refl _ | (refine ImpS.nil_eq ?_) | (refine ImpS.vnil_eq ?_) | (refine ImpS.row ?_) | (refine ImpS.rowN ?_ ?_) | (refine ImpS.sl_eq ?_) | (refine ImpS.expl rfl ?_)) | (refine row_snoc' ?_) | (apply row_upd) | exact cimp_none | exact cimp_same | exact List.not_mem_nil | exact DImp.refl _) | exact rfl | (refine And.intro ?_ ?_) | exact ImpS.refl _)
  all_goals try first | assumption | omega | (simp only [IntKind.bits]; omega) | (simp [*]; done) | (rw [Bool.eq_iff_iff]; simp; omega) | (simp_all []; done) | (simp_all []; omega)


set_option maxHeartbeats 8000000 in
theorem index90_1 (l : List (List Int)) (g : Nat) (c : Nat → DV) (p : (List Int) → Bool) (hl : l.length < 1000000) (hp : ∀ x ∈ l, Fn Try.prog g [ints x, c 0] (bool (p x))) : Fn Try.prog 90 [slOf 1 ints [] l, .fn g 0 1 (fun _ => .top) c] (int (ixf p l)) := by
  refine Fn.hide (D := fun r : Int => int r) fun r hr => ?_
  refine Fn.of_ex (cuts := []) tys hM Try.func90 rfl Try.call90 rfl ?_
  show exC Try.prog T [] _ false none 0 (entry 19 [slOf 1 ints [] l, .fn g 0 1 (fun _ => .top) c]) (finQ T [ResultVar.tmp 4] _)
  conv => whnf
  repeat' first
    | (refine Ob.tt True.intro ?_; conv => whnf)
    | (refine Ob.tt rfl ?_; conv => whnf)
    | (refine Ob.tt (And.intro True.intro (And.intro True.intro True.intro)) ?_; conv => whnf)
    | (refine Ob.tt (And.intro True.intro (And.intro True.intro (And.intro True.intro True.intro))) ?_; conv => whnf)
    | (refine Ob.tt (And.intro True.intro True.intro) ?_; conv => whnf)
    | (refine Ob.tt (Nat.le_of_ble_eq_true rfl) ?_; conv => whnf)
    | (refine Ob.inR (fun _ => ?_) ?_; rotate_left; (try first | assumption | omega | exact ImpS.refl _ | (simp only [inR]; omega) | (simp only [IntKind.bits]; omega) | (refine ⟨?_, ?_⟩ <;> omega)); rotate_right); (conv => whnf)
    | (refine Ob.go (fun _ => ?_) (And.intro True.intro (And.intro ?_ List.not_mem_nil)); rotate_left; (try first | assumption | omega | exact ImpS.refl _ | (simp only [inR]; omega) | (simp only [IntKind.bits]; omega) | (refine ⟨?_, ?_⟩ <;> omega)); rotate_right); (conv => whnf)
    | (refine Ob.and (fun _ => ?_) ?_; rotate_left; (try first | assumption | omega | exact ImpS.refl _ | (simp only [inR]; omega) | (simp only [IntKind.bits]; omega) | (refine ⟨?_, ?_⟩ <;> omega)); rotate_right); (conv => whnf)
    | (refine Ob.ltN (fun _ => ?_) ?_; rotate_left; (try first | assumption | omega | exact ImpS.refl _ | (simp only [inR]; omega) | (simp only [IntKind.bits]; omega) | (refine ⟨?_, ?_⟩ <;> omega)); rotate_right); (conv => whnf)
    | (refine Ob.leN (fun _ => ?_) ?_; rotate_left; (try first | assumption | omega | exact ImpS.refl _ | (simp only [inR]; omega) | (simp only [IntKind.bits]; omega) | (refine ⟨?_, ?_⟩ <;> omega)); rotate_right); (conv => whnf)
    | (refine Sp.tt ?_; conv => whnf)
    | (refine Sp.ff ?_; conv => whnf)
    | (refine Sp.dec (fun hc => ?_) (fun hc => ?_) <;> (conv => whnf))
    | (refine Sp.ndec (fun hc => ?_) (fun hc => ?_) <;> (conv => whnf))
    | (refine Sp.mk (fun hc => ?_) (fun hc => ?_) <;> (conv => whnf))
    | (refine Fi.mk ?_ ?_; (focus ((repeat' first | (refine Edge.fast ?_) | ((conv => whnf); first | exact True.intro | (refine And.intro ?_ ?_) | exact rfl | exact Nat.le_of_eq (Nat.zero_add _) | exact ImpS.refl _ | ((conv => arg 1; whnf); first | exact ImpS.refl _ | (refine ImpS.nil_eq ?_) | (refine ImpS.vnil_eq ?_) | (refine ImpS.row ?_) | (refine ImpS.rowN ?_ ?_) | (refine ImpS.sl_eq ?_) | (refine ImpS.expl rfl ?_)) | (refine row_snoc' ?_) | (apply row_upd) | exact cimp_none | exact cimp_same | exact List.not_mem_nil | exact DImp.refl _) | exact rfl | (refine And.intro ?_ ?_) | exact ImpS.refl _); done)); (conv => whnf))
  refine Lp.go 19 {i : Int // 0 ≤ i ∧ i ≤ l.length ∧ ∀ j : Int, 0 ≤ j → j < i → p (l.getD j.toNat []) = false}
    (fun ⟨i, _⟩ => ⟨0, [(0, .d (slOf 1 ints [] l)), (1, .d (.fn g 0 1 (fun _ => .top) c)), (7, .d (int l.length)), (8, .d (int i))], [], some 0⟩)
    (fun q => (l.length - q.1).toNat) ⟨0, by omega, by omega, fun j _ _ => by omega⟩ ?_ ?_ rfl (fun _ => rfl)
  · rintro ⟨i, hi0, hi, hinv⟩
    have hpi : i < l.length → Fn Try.prog g [ints (l.getD i.toNat []), c 0] (bool (p (l.getD i.toNat []))) := fun h => hp _ (getD_mem (by omega) _)
    have hfound : i < l.length → p (l.getD i.toNat []) = true → r = i := fun h hx => by
      rw [← hr.h]
      refine ixf_found (d := []) (i := i.toNat) (by omega) hx (fun j hj => ?_) |>.trans (by omega)
      have := hinv j (by omega) (by omega)
      rwa [Int.toNat_natCast] at this
    have hnone : ¬ i < l.length → r = -1 := fun h => by
      rw [← hr.h]
      refine ixf_none (d := []) fun j hj => ?_
      have := hinv j (by omega) (by omega)
      rwa [Int.toNat_natCast] at this
    conv => whnf
    repeat' first
      | (refine Ob.tt True.intro ?_; conv => whnf)
      | (refine Ob.tt rfl ?_; conv => whnf)
      | (refine Ob.tt (And.intro True.intro (And.intro True.intro True.intro)) ?_; conv => whnf)
      | (refine Ob.tt (And.intro True.intro (And.intro True.intro (And.intro True.intro True.intro))) ?_; conv => whnf)
      | (refine Ob.tt (And.intro True.intro True.intro) ?_; conv => whnf)
      | (refine Ob.tt (Nat.le_of_ble_eq_true rfl) ?_; conv => whnf)
      | (refine Ob.inR (fun _ => ?_) ?_; rotate_left; (try first | assumption | omega | exact ImpS.refl _ | (simp only [inR]; omega) | (simp only [IntKind.bits]; omega) | (refine ⟨?_, ?_⟩ <;> omega)); rotate_right); (conv => whnf)
      | (apply Cl.go; (conv => whnf); (refine Ob.fn ?_ ?_ ?_ (hpi (by omega)); rotate_left; (focus ((repeat' first | (refine Edge.fast ?_) | ((conv => whnf); first | exact True.intro | (refine And.intro ?_ ?_) | exact rfl | exact Nat.le_of_eq (Nat.zero_add _) | exact ImpS.refl _ | ((conv => arg 1; whnf); first | exact ImpS.refl _ | (refine ImpS.nil_eq ?_) | (refine ImpS.vnil_eq ?_) | (refine ImpS.row ?_) | (refine ImpS.rowN ?_ ?_) | (refine ImpS.sl_eq ?_) | (refine ImpS.expl rfl ?_)) | (refine row_snoc' ?_) | (apply row_upd) | exact cimp_none | exact cimp_same | exact List.not_mem_nil | exact DImp.refl _) | exact rfl | (refine And.intro ?_ ?_) | exact ImpS.refl _); done)); (focus ((repeat' first | (refine Edge.fast ?_) | ((conv => whnf); first | exact True.intro | (refine And.intro ?_ ?_) | exact rfl | exact Nat.le_of_eq (Nat.zero_add _) | exact ImpS.refl _ | ((conv => arg 1; whnf); first | exact ImpS.refl _ | (refine ImpS.nil_eq ?_) | (refine ImpS.vnil_eq ?_) | (refine ImpS.row ?_) | (refine ImpS.rowN ?_ ?_) | (refine ImpS.sl_eq ?_) | (refine ImpS.expl rfl ?_)) | (refine row_snoc' ?_) | (apply row_upd) | exact cimp_none | exact cimp_same | exact List.not_mem_nil | exact DImp.refl _) | exact rfl | (refine And.intro ?_ ?_) | exact ImpS.refl _); done)); rotate_right); (conv => whnf))
      | (refine Ob.go (fun _ => ?_) (And.intro True.intro (And.intro ?_ List.not_mem_nil)); rotate_left; (try first | assumption | omega | exact ImpS.refl _ | (simp only [inR]; omega) | (simp only [IntKind.bits]; omega) | (refine ⟨?_, ?_⟩ <;> omega)); rotate_right); (conv => whnf)
      | (refine Ob.and (fun _ => ?_) ?_; rotate_left; (try first | assumption | omega | exact ImpS.refl _ | (simp only [inR]; omega) | (simp only [IntKind.bits]; omega) | (refine ⟨?_, ?_⟩ <;> omega)); rotate_right); (conv => whnf)
      | (refine Ob.ltN (fun _ => ?_) ?_; rotate_left; (try first | assumption | omega | exact ImpS.refl _ | (simp only [inR]; omega) | (simp only [IntKind.bits]; omega) | (refine ⟨?_, ?_⟩ <;> omega)); rotate_right); (conv => whnf)
      | (refine Ob.leN (fun _ => ?_) ?_; rotate_left; (try first | assumption | omega | exact ImpS.refl _ | (simp only [inR]; omega) | (simp only [IntKind.bits]; omega) | (refine ⟨?_, ?_⟩ <;> omega)); rotate_right); (conv => whnf)
      | (refine Sp.tt ?_; conv => whnf)
      | (refine Sp.ff ?_; conv => whnf)
      | (refine Sp.dec (fun hc => ?_) (fun hc => ?_) <;> (conv => whnf))
      | (refine Sp.ndec (fun hc => ?_) (fun hc => ?_) <;> (conv => whnf))
      | (refine Sp.mk (fun hc => ?_) (fun hc => ?_) <;> (conv => whnf))
      | (refine Fi.mk ?_ ?_; (focus ((repeat' first | (refine Edge.fast ?_) | ((conv => whnf); first | exact True.intro | (refine And.intro ?_ ?_) | exact rfl | exact Nat.le_of_eq (Nat.zero_add _) | exact ImpS.refl _ | ((conv => arg 1; whnf); first | exact ImpS.refl _ | (refine ImpS.nil_eq ?_) | (refine ImpS.vnil_eq ?_) | (refine ImpS.row ?_) | (refine ImpS.rowN ?_ ?_) | (refine ImpS.sl_eq ?_) | (refine ImpS.expl rfl ?_)) | (refine row_snoc' ?_) | (apply row_upd) | exact cimp_none | exact cimp_same | exact List.not_mem_nil | exact DImp.refl _) | exact rfl | (refine And.intro ?_ ?_) | exact ImpS.refl _); done)); (conv => whnf))
    · have e := hfound (by omega) hc
      (repeat' first | (refine Edge.fast ?_) | ((conv => whnf); first | exact True.intro | (refine And.intro ?_ ?_) | exact rfl | exact Nat.le_of_eq (Nat.zero_add _) | exact ImpS.refl _ | ((conv => arg 1; whnf); first | exact ImpS.refl _ | (refine ImpS.nil_eq ?_) | (refine ImpS.vnil_eq ?_) | (refine ImpS.row ?_) | (refine ImpS.rowN ?_ ?_) | (refine ImpS.sl_eq ?_) | (refine ImpS.expl rfl ?_)) | (refine row_snoc' ?_) | (apply row_upd) | exact cimp_none | exact cimp_same | exact List.not_mem_nil | exact DImp.refl _) | exact rfl | (refine And.intro ?_ ?_) | exact ImpS.refl _)
      all_goals try first | (simp only [e]; done) | assumption | omega | (simp [e, *]; done) | (simp_all [e]; done)
    · refine ⟨rfl, ⟨i + 1, by omega, by omega, fun j h1 h2 => if e : j = i then e ▸ hc else hinv j h1 (by omega)⟩, ?_, ?_⟩
      · (conv => whnf)
        all_goals (repeat' first | (refine Edge.fast ?_) | ((conv => whnf); first | exact True.intro | (refine And.intro ?_ ?_) | exact rfl | exact Nat.le_of_eq (Nat.zero_add _) | exact ImpS.refl _ | ((conv => arg 1; whnf); first | exact ImpS.refl _ | (refine ImpS.nil_eq ?_) | (refine ImpS.vnil_eq ?_) | (refine ImpS.row ?_) | (refine ImpS.rowN ?_ ?_) | (refine ImpS.sl_eq ?_) | (refine ImpS.expl rfl ?_)) | (refine row_snoc' ?_) | (apply row_upd) | exact cimp_none | exact cimp_same | exact List.not_mem_nil | exact DImp.refl _) | exact rfl | (refine And.intro ?_ ?_) | exact ImpS.refl _)
        all_goals try first | assumption | (simp only []; done) | omega | (simp [*]; done)
      · simp only; omega
    · have e := hnone (by omega)
      (repeat' first | (refine Edge.fast ?_) | ((conv => whnf); first | exact True.intro | (refine And.intro ?_ ?_) | exact rfl | exact Nat.le_of_eq (Nat.zero_add _) | exact ImpS.refl _ | ((conv => arg 1; whnf); first | exact ImpS.refl _ | (refine ImpS.nil_eq ?_) | (refine ImpS.vnil_eq ?_) | (refine ImpS.row ?_) | (refine ImpS.rowN ?_ ?_) | (refine ImpS.sl_eq ?_) | (refine ImpS.expl rfl ?_)) | (refine row_snoc' ?_) | (apply row_upd) | exact cimp_none | exact cimp_same | exact List.not_mem_nil | exact DImp.refl _) | exact rfl | (refine And.intro ?_ ?_) | exact ImpS.refl _)
      all_goals try first | (simp only [e]; done) | assumption | omega | (simp [e, *]; done) | (simp_all [e]; done)
  · conv => whnf
    all_goals (repeat' first | (refine Edge.fast ?_) | ((conv => whnf); first | exact True.intro | (refine And.intro ?_ ?_) | exact rfl | exact Nat.le_of_eq (Nat.zero_add _) | exact ImpS.refl _ | ((conv => arg 1; whnf); first | exact ImpS.refl _ | (refine ImpS.nil_eq ?_) | (refine ImpS.vnil_eq ?_) | (refine ImpS.row ?_) | (refine ImpS.rowN ?_ ?_) | (refine ImpS.sl_eq ?_) | (refine ImpS.expl rfl ?_)) | (refine row_snoc' ?_) | (apply row_upd) | exact cimp_none | exact cimp_same | exact List.not_mem_nil | exact DImp.refl _) | exact rfl | (refine And.intro ?_ ?_) | exact ImpS.refl _)
    all_goals try first | assumption | omega | (simp only [IntKind.bits]; omega) | (simp [*]; done) | (rw [Bool.eq_iff_iff]; simp; omega) | (simp_all []; done) | (simp_all []; omega)

set_option maxHeartbeats 8000000 in
theorem contains76_1 (l : List (List Int)) (g : Nat) (c : Nat → DV) (p : (List Int) → Bool) (hl : l.length < 1000000) (hp : ∀ x ∈ l, Fn Try.prog g [ints x, c 0] (bool (p x))) : Fn Try.prog 76 [slOf 1 ints [] l, .fn g 0 1 (fun _ => .top) c] (bool (l.any p)) := by
  have ha := ixf_any p l
  have hx := index90_1 l g c p hl hp
  generalize ixf p l = x at *
  rw [← ha]
  refine Fn.of_ex (cuts := []) tys hM Try.func76 rfl Try.call76 rfl ?_
  show exC Try.prog T [] _ false none 0 (entry 9 [slOf 1 ints [] l, .fn g 0 1 (fun _ => .top) c]) (finQ T [ResultVar.tmp 4] _)
  conv => whnf
  repeat' first
    | (refine Ob.tt True.intro ?_; conv => whnf)
    | (refine Ob.tt rfl ?_; conv => whnf)
    | (refine Ob.tt (And.intro True.intro (And.intro True.intro True.intro)) ?_; conv => whnf)
    | (refine Ob.tt (And.intro True.intro (And.intro True.intro (And.intro True.intro True.intro))) ?_; conv => whnf)
    | (refine Ob.tt (And.intro True.intro True.intro) ?_; conv => whnf)
    | (refine Ob.tt (Nat.le_of_ble_eq_true rfl) ?_; conv => whnf)
    | (refine Ob.inR (fun _ => ?_) ?_; rotate_left; (try first | assumption | omega | exact ImpS.refl _ | (simp only [inR]; omega) | (simp only [IntKind.bits]; omega) | (refine ⟨?_, ?_⟩ <;> omega)); rotate_right); (conv => whnf)
    | (apply Cl.go; (conv => whnf); (refine Ob.fn ?_ ?_ ?_ (hx); rotate_left; (focus ((repeat' first | (refine Edge.fast ?_) | ((conv => whnf); first | exact True.intro | (refine And.intro ?_ ?_) | exact rfl | exact Nat.le_of_eq (Nat.zero_add _) | exact ImpS.refl _ | ((conv => arg 1; whnf); first | exact ImpS.refl _ | (refine ImpS.nil_eq ?_) | (refine ImpS.vnil_eq ?_) | (refine ImpS.row ?_) | (refine ImpS.rowN ?_ ?_) | (refine ImpS.sl_eq ?_) | (refine ImpS.expl rfl ?_)) | (refine row_snoc' ?_) | (apply row_upd) | exact cimp_none | exact cimp_same | exact List.not_mem_nil | exact DImp.refl _) | exact rfl | (refine And.intro ?_ ?_) | exact ImpS.refl _); done)); (focus ((repeat' first | (refine Edge.fast ?_) | ((conv => whnf); first | exact True.intro | (refine And.intro ?_ ?_) | exact rfl | exact Nat.le_of_eq (Nat.zero_add _) | exact ImpS.refl _ | ((conv => arg 1; whnf); first | exact ImpS.refl _ | (refine ImpS.nil_eq ?_) | (refine ImpS.vnil_eq ?_) | (refine ImpS.row ?_) | (refine ImpS.rowN ?_ ?_) | (refine ImpS.sl_eq ?_) | (refine ImpS.expl rfl ?_)) | (refine row_snoc' ?_) | (apply row_upd) | exact cimp_none | exact cimp_same | exact List.not_mem_nil | exact DImp.refl _) | exact rfl | (refine And.intro ?_ ?_) | exact ImpS.refl _); done)); rotate_right); (conv => whnf))
    | (refine Ob.go (fun _ => ?_) (And.intro True.intro (And.intro ?_ List.not_mem_nil)); rotate_left; (try first | assumption | omega | exact ImpS.refl _ | (simp only [inR]; omega) | (simp only [IntKind.bits]; omega) | (refine ⟨?_, ?_⟩ <;> omega)); rotate_right); (conv => whnf)
    | (refine Ob.and (fun _ => ?_) ?_; rotate_left; (try first | assumption | omega | exact ImpS.refl _ | (simp only [inR]; omega) | (simp only [IntKind.bits]; omega) | (refine ⟨?_, ?_⟩ <;> omega)); rotate_right); (conv => whnf)
    | (refine Ob.ltN (fun _ => ?_) ?_; rotate_left; (try first | assumption | omega | exact ImpS.refl _ | (simp only [inR]; omega) | (simp only [IntKind.bits]; omega) | (refine ⟨?_, ?_⟩ <;> omega)); rotate_right); (conv => whnf)
    | (refine Ob.leN (fun _ => ?_) ?_; rotate_left; (try first | assumption | omega | exact ImpS.refl _ | (simp only [inR]; omega) | (simp only [IntKind.bits]; omega) | (refine ⟨?_, ?_⟩ <;> omega)); rotate_right); (conv => whnf)
    | (refine Sp.tt ?_; conv => whnf)
    | (refine Sp.ff ?_; conv => whnf)
    | (refine Sp.dec (fun hc => ?_) (fun hc => ?_) <;> (conv => whnf))
    | (refine Sp.ndec (fun hc => ?_) (fun hc => ?_) <;> (conv => whnf))
    | (refine Sp.mk (fun hc => ?_) (fun hc => ?_) <;> (conv => whnf))
    | (refine Fi.mk ?_ ?_; (focus ((repeat' first | (refine Edge.fast ?_) | ((conv => whnf); first | exact True.intro | (refine And.intro ?_ ?_) | exact rfl | exact Nat.le_of_eq (Nat.zero_add _) | exact ImpS.refl _ | ((conv => arg 1; whnf); first | exact ImpS.refl _ | (refine ImpS.nil_eq ?_) | (refine ImpS.vnil_eq ?_) | (refine ImpS.row ?_) | (refine ImpS.rowN ?_ ?_) | (refine ImpS.sl_eq ?_) | (refine ImpS.expl rfl ?_)) | (refine row_snoc' ?_) | (apply row_upd) | exact cimp_none | exact cimp_same | exact List.not_mem_nil | exact DImp.refl _) | exact rfl | (refine And.intro ?_ ?_) | exact ImpS.refl _); done)); (conv => whnf))
  all_goals (repeat' first | (refine Edge.fast ?_) | ((conv => whnf); first | exact True.intro | (refine And.intro ?_ ?_) | exact rfl | exact Nat.le_of_eq (Nat.zero_add _) | exact ImpS.refl _ | ((conv => arg 1; whnf); first | exact ImpS.refl _ | (refine ImpS.nil_eq ?_) | (refine ImpS.vnil_eq ?_) | (refine ImpS.row ?_) | (refine ImpS.rowN ?_ ?_) | (refine ImpS.sl_eq ?_) | (refine ImpS.expl rfl ?_)) | (refine row_snoc' ?_) | (apply row_upd) | exact cimp_none | exact cimp_same | exact List.not_mem_nil | exact DImp.refl _) | exact rfl | (refine And.intro ?_ ?_) | exact ImpS.refl _)
  all_goals try first | assumption | omega | (simp only [IntKind.bits]; omega) | (simp [*]; done) | (rw [Bool.eq_iff_iff]; simp; omega) | (simp_all []; done) | (simp_all []; omega)


set_option maxHeartbeats 8000000 in
theorem index90_0 (l : List (List Int)) (g : Nat) (c : Nat → DV) (p : (List Int) → Bool) (hl : l.length < 1000000) (hp : ∀ x ∈ l, Fn Try.prog g [ints x] (bool (p x))) : Fn Try.prog 90 [slOf 1 ints [] l, .fn g 0 0 (fun _ => .top) c] (int (ixf p l)) := by
  refine Fn.hide (D := fun r : Int => int r) fun r hr => ?_
  refine Fn.of_ex (cuts := []) tys hM Try.func90 rfl Try.call90 rfl ?_
  show exC Try.prog T [] _ false none 0 (entry 19 [slOf 1 ints [] l, .fn g 0 0 (fun _ => .top) c]) (finQ T [ResultVar.tmp 4] _)
  conv => whnf
  repeat' first
    | (refine Ob.tt True.intro ?_; conv => whnf)
    | (refine Ob.tt rfl ?_; conv => whnf)
    | (refine Ob.tt (And.intro True.intro (And.intro True.intro True.intro)) ?_; conv => whnf)
    | (refine Ob.tt (And.intro True.intro (And.intro True.intro (And.intro True.intro True.intro))) ?_; conv => whnf)
    | (refine Ob.tt (And.intro True.intro True.intro) ?_; conv => whnf)
    | (refine Ob.tt (Nat.le_of_ble_eq_true rfl) ?_; conv => whnf)
    | (refine Ob.inR (fun _ => ?_) ?_; rotate_left; (try first | assumption | omega | exact ImpS.refl _ | (simp only [inR]; omega) | (simp only [IntKind.bits]; omega) | (refine ⟨?_, ?_⟩ <;> omega)); rotate_right); (conv => whnf)
    | (refine Ob.go (fun _ => ?_) (And.intro True.intro (And.intro ?_ List.not_mem_nil)); rotate_left; (try first | assumption | omega | exact ImpS.refl _ | (simp only [inR]; omega) | (simp only [IntKind.bits]; omega) | (refine ⟨?_, ?_⟩ <;> omega)); rotate_right); (conv => whnf)
    | (refine Ob.and (fun _ => ?_) ?_; rotate_left; (try first | assumption | omega | exact ImpS.refl _ | (simp only [inR]; omega) | (simp only [IntKind.bits]; omega) | (refine ⟨?_, ?_⟩ <;> omega)); rotate_right); (conv => whnf)
    | (refine Ob.ltN (fun _ => ?_) ?_; rotate_left; (try first | assumption | omega | exact ImpS.refl _ | (simp only [inR]; omega) | (simp only [IntKind.bits]; omega) | (refine ⟨?_, ?_⟩ <;> omega)); rotate_right); (conv => whnf)
    | (refine Ob.leN (fun _ => ?_) ?_; rotate_left; (try first | assumption | omega | exact ImpS.refl _ | (simp only [inR]; omega) | (simp only [IntKind.bits]; omega) | (refine ⟨?_, ?_⟩ <;> omega)); rotate_right); (conv => whnf)
    | (refine Sp.tt ?_; conv => whnf)
    | (refine Sp.ff ?_; conv => whnf)
    | (refine Sp.dec (fun hc => ?_) (fun hc => ?_) <;> (conv => whnf))
    | (refine Sp.ndec (fun hc => ?_) (fun hc => ?_) <;> (conv => whnf))
    | (refine Sp.mk (fun hc => ?_) (fun hc => ?_) <;> (conv => whnf))
    | (refine Fi.mk ?_ ?_; (focus ((repeat' first | (refine Edge.fast ?_) | ((conv => whnf); first | exact True.intro | (refine And.intro ?_ ?_) | exact rfl | exact Nat.le_of_eq (Nat.zero_add _) | exact ImpS.refl _ | ((conv => arg 1; whnf); first | exact ImpS.refl _ | (refine ImpS.nil_eq ?_) | (refine ImpS.vnil_eq ?_) | (refine ImpS.row ?_) | (refine ImpS.rowN ?_ ?_) | (refine ImpS.sl_eq ?_) | (refine ImpS.expl rfl ?_)) | (refine row_snoc' ?_) | (apply row_upd) | exact cimp_none | exact cimp_same | exact List.not_mem_nil | exact DImp.refl _) | exact rfl | (refine And.intro ?_ ?_) | exact ImpS.refl _); done)); (conv => whnf))
  refine Lp.go 19 {i : Int // 0 ≤ i ∧ i ≤ l.length ∧ ∀ j : Int, 0 ≤ j → j < i → p (l.getD j.toNat []) = false}
    (fun ⟨i, _⟩ => ⟨0, [(0, .d (slOf 1 ints [] l)), (1, .d (.fn g 0 0 (fun _ => .top) c)), (7, .d (int l.length)), (8, .d (int i))], [], some 0⟩)
    (fun q => (l.length - q.1).toNat) ⟨0, by omega, by omega, fun j _ _ => by omega⟩ ?_ ?_ rfl (fun _ => rfl)
  · rintro ⟨i, hi0, hi, hinv⟩
    have hpi : i < l.length → Fn Try.prog g [ints (l.getD i.toNat [])] (bool (p (l.getD i.toNat []))) := fun h => hp _ (getD_mem (by omega) _)
    have hfound : i < l.length → p (l.getD i.toNat []) = true → r = i := fun h hx => by
      rw [← hr.h]
      refine ixf_found (d := []) (i := i.toNat) (by omega) hx (fun j hj => ?_) |>.trans (by omega)
      have := hinv j (by omega) (by omega)
      rwa [Int.toNat_natCast] at this
    have hnone : ¬ i < l.length → r = -1 := fun h => by
      rw [← hr.h]
      refine ixf_none (d := []) fun j hj => ?_
      have := hinv j (by omega) (by omega)
      rwa [Int.toNat_natCast] at this
    conv => whnf
    repeat' first
      | (refine Ob.tt True.intro ?_; conv => whnf)
      | (refine Ob.tt rfl ?_; conv => whnf)
      | (refine Ob.tt (And.intro True.intro (And.intro True.intro True.intro)) ?_; conv => whnf)
      | (refine Ob.tt (And.intro True.intro (And.intro True.intro (And.intro True.intro True.intro))) ?_; conv => whnf)
      | (refine Ob.tt (And.intro True.intro True.intro) ?_; conv => whnf)
      | (refine Ob.tt (Nat.le_of_ble_eq_true rfl) ?_; conv => whnf)
      | (refine Ob.inR (fun _ => ?_) ?_; rotate_left; (try first | assumption | omega | exact ImpS.refl _ | (simp only [inR]; omega) | (simp only [IntKind.bits]; omega) | (refine ⟨?_, ?_⟩ <;> omega)); rotate_right); (conv => whnf)
      | (apply Cl.go; (conv => whnf); (refine Ob.fn ?_ ?_ ?_ (hpi (by omega)); rotate_left; (focus ((repeat' first | (refine Edge.fast ?_) | ((conv => whnf); first | exact True.intro | (refine And.intro ?_ ?_) | exact rfl | exact Nat.le_of_eq (Nat.zero_add _) | exact ImpS.refl _ | ((conv => arg 1; whnf); first | exact ImpS.refl _ | (refine ImpS.nil_eq ?_) | (refine ImpS.vnil_eq ?_) | (refine ImpS.row ?_) | (refine ImpS.rowN ?_ ?_) | (refine ImpS.sl_eq ?_) | (refine ImpS.expl rfl ?_)) | (refine row_snoc' ?_) | (apply row_upd) | exact cimp_none | exact cimp_same | exact List.not_mem_nil | exact DImp.refl _) | exact rfl | (refine And.intro ?_ ?_) | exact ImpS.refl _); done)); (focus ((repeat' first | (refine Edge.fast ?_) | ((conv => whnf); first | exact True.intro | (refine And.intro ?_ ?_) | exact rfl | exact Nat.le_of_eq (Nat.zero_add _) | exact ImpS.refl _ | ((conv => arg 1; whnf); first | exact ImpS.refl _ | (refine ImpS.nil_eq ?_) | (refine ImpS.vnil_eq ?_) | (refine ImpS.row ?_) | (refine ImpS.rowN ?_ ?_) | (refine ImpS.sl_eq ?_) | (refine ImpS.expl rfl ?_)) | (refine row_snoc' ?_) | (apply row_upd) | exact cimp_none | exact cimp_same | exact List.not_mem_nil | exact DImp.refl _) | exact rfl | (refine And.intro ?_ ?_) | exact ImpS.refl _); done)); rotate_right); (conv => whnf))
      | (refine Ob.go (fun _ => ?_) (And.intro True.intro (And.intro ?_ List.not_mem_nil)); rotate_left; (try first | assumption | omega | exact ImpS.refl _ | (simp only [inR]; omega) | (simp only [IntKind.bits]; omega) | (refine ⟨?_, ?_⟩ <;> omega)); rotate_right); (conv => whnf)
      | (refine Ob.and (fun _ => ?_) ?_; rotate_left; (try first | assumption | omega | exact ImpS.refl _ | (simp only [inR]; omega) | (simp only [IntKind.bits]; omega) | (refine ⟨?_, ?_⟩ <;> omega)); rotate_right); (conv => whnf)
      | (refine Ob.ltN (fun _ => ?_) ?_; rotate_left; (try first | assumption | omega | exact ImpS.refl _ | (simp only [inR]; omega) | (simp only [IntKind.bits]; omega) | (refine ⟨?_, ?_⟩ <;> omega)); rotate_right); (conv => whnf)
      | (refine Ob.leN (fun _ => ?_) ?_; rotate_left; (try first | assumption | omega | exact ImpS.refl _ | (simp only [inR]; omega) | (simp only [IntKind.bits]; omega) | (refine ⟨?_, ?_⟩ <;> omega)); rotate_right); (conv => whnf)
      | (refine Sp.tt ?_; conv => whnf)
      | (refine Sp.ff ?_; conv => whnf)
      | (refine Sp.dec (fun hc => ?_) (fun hc => ?_) <;> (conv => whnf))
      | (refine Sp.ndec (fun hc => ?_) (fun hc => ?_) <;> (conv => whnf))
      | (refine Sp.mk (fun hc => ?_) (fun hc => ?_) <;> (conv => whnf))
      | (refine Fi.mk ?_ ?_; (focus ((repeat' first | (refine Edge.fast ?_) | ((conv => whnf); first | exact True.intro | (refine And.intro ?_ ?_) | exact rfl | exact Nat.le_of_eq (Nat.zero_add _) | exact ImpS.refl _ | ((conv => arg 1; whnf); first | exact ImpS.refl _ | (refine ImpS.nil_eq ?_) | (refine ImpS.vnil_eq ?_) | (refine ImpS.row ?_) | (refine ImpS.rowN ?_ ?_) | (refine ImpS.sl_eq ?_) | (refine ImpS.expl rfl ?_)) | (refine row_snoc' ?_) | (apply row_upd) | exact cimp_none | exact cimp_same | exact List.not_mem_nil | exact DImp.refl _) | exact rfl | (refine And.intro ?_ ?_) | exact ImpS.refl _); done)); (conv => whnf))
    · have e := hfound (by omega) hc
      (repeat' first | (refine Edge.fast ?_) | ((conv => whnf); first | exact True.intro | (refine And.intro ?_ ?_) | exact rfl | exact Nat.le_of_eq (Nat.zero_add _) | exact ImpS.refl _ | ((conv => arg 1; whnf); first | exact ImpS.refl _ | (refine ImpS.nil_eq ?_) | (refine ImpS.vnil_eq ?_) | (refine ImpS.row ?_) | (refine ImpS.rowN ?_ ?_) | (refine ImpS.sl_eq ?_) | (refine ImpS.expl rfl ?_)) | (refine row_snoc' ?_) | (apply row_upd) | exact cimp_none | exact cimp_same | exact List.not_mem_nil | exact DImp.refl _) | exact rfl | (refine And.intro ?_ ?_) | exact ImpS.refl _)
      all_goals try first | (simp only [e]; done) | assumption | omega | (simp [e, *]; done) | (simp_all [e]; done)
    · refine ⟨rfl, ⟨i + 1, by omega, by omega, fun j h1 h2 => if e : j = i then e ▸ hc else hinv j h1 (by omega)⟩, ?_, ?_⟩
      · (conv => whnf)
        all_goals (repeat' first | (refine Edge.fast ?_) | ((conv => whnf); first | exact True.intro | (refine And.intro ?_ ?_) | exact rfl | exact Nat.le_of_eq (Nat.zero_add _) | exact ImpS.refl _ | ((conv => arg 1; whnf); first | exact ImpS.refl _ | (refine ImpS.nil_eq ?_) | (refine ImpS.vnil_eq ?_) | (refine ImpS.row ?_) | (refine ImpS.rowN ?_ ?_) | (refine ImpS.sl_eq ?_) | (refine ImpS.expl rfl ?_)) | (refine row_snoc' ?_) | (apply row_upd) | exact cimp_none | exact cimp_same | exact List.not_mem_nil | exact DImp.refl _) | exact rfl | (refine And.intro ?_ ?_) | exact ImpS.refl _)
        all_goals try first | assumption | (simp only []; done) | omega | (simp [*]; done)
      · simp only; omega
    · have e := hnone (by omega)
      (repeat' first | (refine Edge.fast ?_) | ((conv => whnf); first | exact True.intro | (refine And.intro ?_ ?_) | exact rfl | exact Nat.le_of_eq (Nat.zero_add _) | exact ImpS.refl _ | ((conv => arg 1; whnf); first | exact ImpS.refl _ | (refine ImpS.nil_eq ?_) | (refine ImpS.vnil_eq ?_) | (refine ImpS.row ?_) | (refine ImpS.rowN ?_ ?_) | (refine ImpS.sl_eq ?_) | (refine ImpS.expl rfl ?_)) | (refine row_snoc' ?_) | (apply row_upd) | exact cimp_none | exact cimp_same | exact List.not_mem_nil | exact DImp.refl _) | exact rfl | (refine And.intro ?_ ?_) | exact ImpS.refl _)
      all_goals try first | (simp only [e]; done) | assumption | omega | (simp [e, *]; done) | (simp_all [e]; done)
  · conv => whnf
    all_goals (repeat' first | (refine Edge.fast ?_) | ((conv => whnf); first | exact True.intro | (refine And.intro ?_ ?_) | exact rfl | exact Nat.le_of_eq (Nat.zero_add _) | exact ImpS.refl _ | ((conv => arg 1; whnf); first | exact ImpS.refl _ | (refine ImpS.nil_eq ?_) | (refine ImpS.vnil_eq ?_) | (refine ImpS.row ?_) | (refine ImpS.rowN ?_ ?_) | (refine ImpS.sl_eq ?_) | (refine ImpS.expl rfl ?_)) | (refine row_snoc' ?_) | (apply row_upd) | exact cimp_none | exact cimp_same | exact List.not_mem_nil | exact DImp.refl _) | exact rfl | (refine And.intro ?_ ?_) | exact ImpS.refl _)
    all_goals try first | assumption | omega | (simp only [IntKind.bits]; omega) | (simp [*]; done) | (rw [Bool.eq_iff_iff]; simp; omega) | (simp_all []; done) | (simp_all []; omega)

set_option maxHeartbeats 8000000 in
theorem contains76_0 (l : List (List Int)) (g : Nat) (c : Nat → DV) (p : (List Int) → Bool) (hl : l.length < 1000000) (hp : ∀ x ∈ l, Fn Try.prog g [ints x] (bool (p x))) : Fn Try.prog 76 [slOf 1 ints [] l, .fn g 0 0 (fun _ => .top) c] (bool (l.any p)) := by
  have ha := ixf_any p l
  have hx := index90_0 l g c p hl hp
  generalize ixf p l = x at *
  rw [← ha]
  refine Fn.of_ex (cuts := []) tys hM Try.func76 rfl Try.call76 rfl ?_
  show exC Try.prog T [] _ false none 0 (entry 9 [slOf 1 ints [] l, .fn g 0 0 (fun _ => .top) c]) (finQ T [ResultVar.tmp 4] _)
  conv => whnf
  repeat' first
    | (refine Ob.tt True.intro ?_; conv => whnf)
    | (refine Ob.tt rfl ?_; conv => whnf)
    | (refine Ob.tt (And.intro True.intro (And.intro True.intro True.intro)) ?_; conv => whnf)
    | (refine Ob.tt (And.intro True.intro (And.intro True.intro (And.intro True.intro True.intro))) ?_; conv => whnf)
    | (refine Ob.tt (And.intro True.intro True.intro) ?_; conv => whnf)
    | (refine Ob.tt (Nat.le_of_ble_eq_true rfl) ?_; conv => whnf)
    | (refine Ob.inR (fun _ => ?_) ?_; rotate_left; (try first | assumption | omega | exact ImpS.refl _ | (simp only [inR]; omega) | (simp only [IntKind.bits]; omega) | (refine ⟨?_, ?_⟩ <;> omega)); rotate_right); (conv => whnf)
    | (apply Cl.go; (conv => whnf); (refine Ob.fn ?_ ?_ ?_ (hx); rotate_left; (focus ((repeat' first | (refine Edge.fast ?_) | ((conv => whnf); first | exact True.intro | (refine And.intro ?_ ?_) | exact rfl | exact Nat.le_of_eq (Nat.zero_add _) | exact ImpS.refl _ | ((conv => arg 1; whnf); first | exact ImpS.refl _ | (refine ImpS.nil_eq ?_) | (refine ImpS.vnil_eq ?_) | (refine ImpS.row ?_) | (refine ImpS.rowN ?_ ?_) | (refine ImpS.sl_eq ?_) | (refine ImpS.expl rfl ?_)) | (refine row_snoc' ?_) | (apply row_upd) | exact cimp_none | exact cimp_same | exact List.not_mem_nil | exact DImp.refl _) | exact rfl | (refine And.intro ?_ ?_) | exact ImpS.refl _); done)); (focus ((repeat' first | (refine Edge.fast ?_) | ((conv => whnf); first | exact True.intro | (refine And.intro ?_ ?_) | exact rfl | exact Nat.le_of_eq (Nat.zero_add _) | exact ImpS.refl _ | ((conv => arg 1; whnf); first | exact ImpS.refl _ | (refine ImpS.nil_eq ?_) | (refine ImpS.vnil_eq ?_) | (refine ImpS.row ?_) | (refine ImpS.rowN ?_ ?_) | (refine ImpS.sl_eq ?_) | (refine ImpS.expl rfl ?_)) | (refine row_snoc' ?_) | (apply row_upd) | exact cimp_none | exact cimp_same | exact List.not_mem_nil | exact DImp.refl _) | exact rfl | (refine And.intro ?_ ?_) | exact ImpS.refl _); done)); rotate_right); (conv => whnf))
    | (refine Ob.go (fun _ => ?_) (And.intro True.intro (And.intro ?_ List.not_mem_nil)); rotate_left; (try first | assumption | omega | exact ImpS.refl _ | (simp only [inR]; omega) | (simp only [IntKind.bits]; omega) | (refine ⟨?_, ?_⟩ <;> omega)); rotate_right); (conv => whnf)
    | (refine Ob.and (fun _ => ?_) ?_; rotate_left; (try first | assumption | omega | exact ImpS.refl _ | (simp only [inR]; omega) | (simp only [IntKind.bits]; omega) | (refine ⟨?_, ?_⟩ <;> omega)); rotate_right); (conv => whnf)
    | (refine Ob.ltN (fun _ => ?_) ?_; rotate_left; (try first | assumption | omega | exact ImpS.refl _ | (simp only [inR]; omega) | (simp only [IntKind.bits]; omega) | (refine ⟨?_, ?_⟩ <;> omega)); rotate_right); (conv => whnf)
    | (refine Ob.leN (fun _ => ?_) ?_; rotate_left; (try first | assumption | omega | exact ImpS.refl _ | (simp only [inR]; omega) | (simp only [IntKind.bits]; omega) | (refine ⟨?_, ?_⟩ <;> omega)); rotate_right); (conv => whnf)
    | (refine Sp.tt ?_; conv => whnf)
    | (refine Sp.ff ?_; conv => whnf)
    | (refine Sp.dec (fun hc => ?_) (fun hc => ?_) <;> (conv => whnf))
    | (refine Sp.ndec (fun hc => ?_) (fun hc => ?_) <;> (conv => whnf))
    | (refine Sp.mk (fun hc => ?_) (fun hc => ?_) <;> (conv => whnf))
    | (refine Fi.mk ?_ ?_; (focus ((repeat' first | (refine Edge.fast ?_) | ((conv => whnf); first | exact True.intro | (refine And.intro ?_ ?_) | exact rfl | exact Nat.le_of_eq (Nat.zero_add _) | exact ImpS.refl _ | ((conv => arg 1; whnf); first | exact ImpS.refl _ | (refine ImpS.nil_eq ?_) | (refine ImpS.vnil_eq ?_) | (refine ImpS.row ?_) | (refine ImpS.rowN ?_ ?_) | (refine ImpS.sl_eq ?_) | (refine ImpS.expl rfl ?_)) | (refine row_snoc' ?_) | (apply row_upd) | exact cimp_none | exact cimp_same | exact List.not_mem_nil | exact DImp.refl _) | exact rfl | (refine And.intro ?_ ?_) | exact ImpS.refl _); done)); (conv => whnf))
  all_goals (repeat' first | (refine Edge.fast ?_) | ((conv => whnf); first | exact True.intro | (refine And.intro ?_ ?_) | exact rfl | exact Nat.le_of_eq (Nat.zero_add _) | exact ImpS.refl _ | ((conv => arg 1; whnf); first | exact ImpS.refl _ | (refine ImpS.nil_eq ?_) | (refine ImpS.vnil_eq ?_) | (refine ImpS.row ?_) | (refine ImpS.rowN ?_ ?_) | (refine ImpS.sl_eq ?_) | (refine ImpS.expl rfl ?_)) | (refine row_snoc' ?_) | (apply row_upd) | exact cimp_none | exact cimp_same | exact List.not_mem_nil | exact DImp.refl _) | exact rfl | (refine And.intro ?_ ?_) | exact ImpS.refl _)
  all_goals try first | assumption | omega | (simp only [IntKind.bits]; omega) | (simp [*]; done) | (rw [Bool.eq_iff_iff]; simp; omega) | (simp_all []; done) | (simp_all []; omega)


set_option maxHeartbeats 8000000 in
theorem index91_0 (l : List Int) (g : Nat) (c : Nat → DV) (p : Int → Bool) (hl : l.length < 1000000) (hp : ∀ x ∈ l, Fn Try.prog g [int x] (bool (p x))) : Fn Try.prog 91 [slOf 1 int 0 l, .fn g 0 0 (fun _ => .top) c] (int (ixf p l)) := by
  refine Fn.hide (D := fun r : Int => int r) fun r hr => ?_
  refine Fn.of_ex (cuts := []) tys hM Try.func91 rfl Try.call91 rfl ?_
  show exC Try.prog T [] _ false none 0 (entry 19 [slOf 1 int 0 l, .fn g 0 0 (fun _ => .top) c]) (finQ T [ResultVar.tmp 4] _)
  conv => whnf
  repeat' first
    | (refine Ob.tt True.intro ?_; conv => whnf)
    | (refine Ob.tt rfl ?_; conv => whnf)
    | (refine Ob.tt (And.intro True.intro (And.intro True.intro True.intro)) ?_; conv => whnf)
    | (refine Ob.tt (And.intro True.intro (And.intro True.intro (And.intro True.intro True.intro))) ?_; conv => whnf)
    | (refine Ob.tt (And.intro True.intro True.intro) ?_; conv => whnf)
    | (refine Ob.tt (Nat.le_of_ble_eq_true rfl) ?_; conv => whnf)
    | (refine Ob.inR (fun _ => ?_) ?_; rotate_left; (try first | assumption | omega | exact ImpS.refl _ | (simp only [inR]; omega) | (simp only [IntKind.bits]; omega) | (refine ⟨?_, ?_⟩ <;> omega)); rotate_right); (conv => whnf)
    | (refine Ob.go (fun _ => ?_) (And.intro True.intro (And.intro ?_ List.not_mem_nil)); rotate_left; (try first | assumption | omega | exact ImpS.refl _ | (simp only [inR]; omega) | (simp only [IntKind.bits]; omega) | (refine ⟨?_, ?_⟩ <;> omega)); rotate_right); (conv => whnf)
    | (refine Ob.and (fun _ => ?_) ?_; rotate_left; (try first | assumption | omega | exact ImpS.refl _ | (simp only [inR]; omega) | (simp only [IntKind.bits]; omega) | (refine ⟨?_, ?_⟩ <;> omega)); rotate_right); (conv => whnf)
    | (refine Ob.ltN (fun _ => ?_) ?_; rotate_left; (try first | assumption | omega | exact ImpS.refl _ | (simp only [inR]; omega) | (simp only [IntKind.bits]; omega) | (refine ⟨?_, ?_⟩ <;> omega)); rotate_right); (conv => whnf)
    | (refine Ob.leN (fun _ => ?_) ?_; rotate_left; (try first | assumption | omega | exact ImpS.refl _ | (simp only [inR]; omega) | (simp only [IntKind.bits]; omega) | (refine ⟨?_, ?_⟩ <;> omega)); rotate_right); (conv => whnf)
    | (refine Sp.tt ?_; conv => whnf)
    | (refine Sp.ff ?_; conv => whnf)
    | (refine Sp.dec (fun hc => ?_) (fun hc => ?_) <;> (conv => whnf))
    | (refine Sp.ndec (fun hc => ?_) (fun hc => ?_) <;> (conv => whnf))
    | (refine Sp.mk (fun hc => ?_) (fun hc => ?_) <;> (conv => whnf))
    | (refine Fi.mk ?_ ?_; (focus ((repeat' first | (refine Edge.fast ?_) | ((conv => whnf); first | exact True.intro | (refine And.intro ?_ ?_) | exact rfl | exact Nat.le_of_eq (Nat.zero_add _) | exact ImpS.refl _ | ((conv => arg 1; whnf); first | exact ImpS.refl _ | (refine ImpS.nil_eq ?_) | (refine ImpS.vnil_eq ?_) | (refine ImpS.row ?_) | (refine ImpS.rowN ?_ ?_) | (refine ImpS.sl_eq ?_) | (refine ImpS.expl rfl ?_)) | (refine row_snoc' ?_) | (apply row_upd) | exact cimp_none | exact cimp_same | exact List.not_mem_nil | exact DImp.refl _) | exact rfl | (refine And.intro ?_ ?_) | exact ImpS.refl _); done)); (conv => whnf))
  refine Lp.go 19 {i : Int // 0 ≤ i ∧ i ≤ l.length ∧ ∀ j : Int, 0 ≤ j → j < i → p (l.getD j.toNat 0) = false}
    (fun ⟨i, _⟩ => ⟨0, [(0, .d (slOf 1 int 0 l)), (1, .d (.fn g 0 0 (fun _ => .top) c)), (7, .d (int l.length)), (8, .d (int i))], [], some 0⟩)
    (fun q => (l.length - q.1).toNat) ⟨0, by omega, by omega, fun j _ _ => by omega⟩ ?_ ?_ rfl (fun _ => rfl)
  · rintro ⟨i, hi0, hi, hinv⟩
    have hpi : i < l.length → Fn Try.prog g [int (l.getD i.toNat 0)] (bool (p (l.getD i.toNat 0))) := fun h => hp _ (getD_mem (by omega) _)
    have hfound : i < l.length → p (l.getD i.toNat 0) = true → r = i := fun h hx => by
      rw [← hr.h]
      refine ixf_found (d := 0) (i := i.toNat) (by omega) hx (fun j hj => ?_) |>.trans (by omega)
      have := hinv j (by omega) (by omega)
      rwa [Int.toNat_natCast] at this
    have hnone : ¬ i < l.length → r = -1 := fun h => by
      rw [← hr.h]
      refine ixf_none (d := 0) fun j hj => ?_
      have := hinv j (by omega) (by omega)
      rwa [Int.toNat_natCast] at this
    conv => whnf
    repeat' first
      | (refine Ob.tt True.intro ?_; conv => whnf)
      | (refine Ob.tt rfl ?_; conv => whnf)
      | (refine Ob.tt (And.intro True.intro (And.intro True.intro True.intro)) ?_; conv => whnf)
      | (refine Ob.tt (And.intro True.intro (And.intro True.intro (And.intro True.intro True.intro))) ?_; conv => whnf)
      | (refine Ob.tt (And.intro True.intro True.intro) ?_; conv => whnf)
      | (refine Ob.tt (Nat.le_of_ble_eq_true rfl) ?_; conv => whnf)
      | (refine Ob.inR (fun _ => ?_) ?_; rotate_left; (try first | assumption | omega | exact ImpS.refl _ | (simp only [inR]; omega) | (simp only [IntKind.bits]; omega) | (refine ⟨?_, ?_⟩ <;> omega)); rotate_right); (conv => whnf)
      | (apply Cl.go; (conv => whnf); (refine Ob.fn ?_ ?_ ?_ (hpi (by omega)); rotate_left; (focus ((repeat' first | (refine Edge.fast ?_) | ((conv => whnf); first | exact True.intro | (refine And.intro ?_ ?_) | exact rfl | exact Nat.le_of_eq (Nat.zero_add _) | exact ImpS.refl _ | ((conv => arg 1; whnf); first | exact ImpS.refl _ | (refine ImpS.nil_eq ?_) | (refine ImpS.vnil_eq ?_) | (refine ImpS.row ?_) | (refine ImpS.rowN ?_ ?_) | (refine ImpS.sl_eq ?_) | (refine ImpS.expl rfl ?_)) | (refine row_snoc' ?_) | (apply row_upd) | exact cimp_none | exact cimp_same | exact List.not_mem_nil | exact DImp.refl _) | exact rfl | (refine And.intro ?_ ?_) | exact ImpS.refl _); done)); (focus ((repeat' first | (refine Edge.fast ?_) | ((conv => whnf); first | exact True.intro | (refine And.intro ?_ ?_) | exact rfl | exact Nat.le_of_eq (Nat.zero_add _) | exact ImpS.refl _ | ((conv => arg 1; whnf); first | exact ImpS.refl _ | (refine ImpS.nil_eq ?_) | (refine ImpS.vnil_eq ?_) | (refine ImpS.row ?_) | (refine ImpS.rowN ?_ ?_) | (refine ImpS.sl_eq ?_) | (refine ImpS.expl rfl ?_)) | (refine row_snoc' ?_) | (apply row_upd) | exact cimp_none | exact cimp_same | exact List.not_mem_nil | exact DImp.refl _) | exact rfl | (refine And.intro ?_ ?_) | exact ImpS.refl _); done)); rotate_right); (conv => whnf))
      | (refine Ob.go (fun _ => ?_) (And.intro True.intro (And.intro ?_ List.not_mem_nil)); rotate_left; (try first | assumption | omega | exact ImpS.refl _ | (simp only [inR]; omega) | (simp only [IntKind.bits]; omega) | (refine ⟨?_, ?_⟩ <;> omega)); rotate_right); (conv => whnf)
      | (refine Ob.and (fun _ => ?_) ?_; rotate_left; (try first | assumption | omega | exact ImpS.refl _ | (simp only [inR]; omega) | (simp only [IntKind.bits]; omega) | (refine ⟨?_, ?_⟩ <;> omega)); rotate_right); (conv => whnf)
      | (refine Ob.ltN (fun _ => ?_) ?_; rotate_left; (try first | assumption | omega | exact ImpS.refl _ | (simp only [inR]; omega) | (simp only [IntKind.bits]; omega) | (refine ⟨?_, ?_⟩ <;> omega)); rotate_right); (conv => whnf)
      | (refine Ob.leN (fun _ => ?_) ?_; rotate_left; (try first | assumption | omega | exact ImpS.refl _ | (simp only [inR]; omega) | (simp only [IntKind.bits]; omega) | (refine ⟨?_, ?_⟩ <;> omega)); rotate_right); (conv => whnf)
      | (refine Sp.tt ?_; conv => whnf)
      | (refine Sp.ff ?_; conv => whnf)
      | (refine Sp.dec (fun hc => ?_) (fun hc => ?_) <;> (conv => whnf))
      | (refine Sp.ndec (fun hc => ?_) (fun hc => ?_) <;> (conv => whnf))
      | (refine Sp.mk (fun hc => ?_) (fun hc => ?_) <;> (conv => whnf))
      | (refine Fi.mk ?_ ?_; (focus ((repeat' first | (refine Edge.fast ?_) | ((conv => whnf); first | exact True.intro | (refine And.intro ?_ ?_) | exact rfl | exact Nat.le_of_eq (Nat.zero_add _) | exact ImpS.refl _ | ((conv => arg 1; whnf); first | exact ImpS.refl _ | (refine ImpS.nil_eq ?_) | (refine ImpS.vnil_eq ?_) | (refine ImpS.row ?_) | (refine ImpS.rowN ?_ ?_) | (refine ImpS.sl_eq ?_) | (refine ImpS.expl rfl ?_)) | (refine row_snoc' ?_) | (apply row_upd) | exact cimp_none | exact cimp_same | exact List.not_mem_nil | exact DImp.refl _) | exact rfl | (refine And.intro ?_ ?_) | exact ImpS.refl _); done)); (conv => whnf))
    · have e := hfound (by omega) hc
      (repeat' first | (refine Edge.fast ?_) | ((conv => whnf); first | exact True.intro | (refine And.intro ?_ ?_) | exact rfl | exact Nat.le_of_eq (Nat.zero_add _) | exact ImpS.refl _ | ((conv => arg 1; whnf); first | exact ImpS.refl _ | (refine ImpS.nil_eq ?_) | (refine ImpS.vnil_eq ?_) | (refine ImpS.row ?_) | (refine ImpS.rowN ?_ ?_) | (refine ImpS.sl_eq ?_) | (refine ImpS.expl rfl ?_)) | (refine row_snoc' ?_) | (apply row_upd) | exact cimp_none | exact cimp_same | exact List.not_mem_nil | exact DImp.refl _) | exact rfl | (refine And.intro ?_ ?_) | exact ImpS.refl _)
      all_goals try first | (simp only [e]; done) | assumption | omega | (simp [e, *]; done) | (simp_all [e]; done)
    · refine ⟨rfl, ⟨i + 1, by omega, by omega, fun j h1 h2 => if e : j = i then e ▸ hc else hinv j h1 (by omega)⟩, ?_, ?_⟩
      · (conv => whnf)
        all_goals (repeat' first | (refine Edge.fast ?_) | ((conv => whnf); first | exact True.intro | (refine And.intro ?_ ?_) | exact rfl | exact Nat.le_of_eq (Nat.zero_add _) | exact ImpS.refl _ | ((conv => arg 1; whnf); first | exact ImpS.refl _ | (refine ImpS.nil_eq ?_) | (refine ImpS.vnil_eq ?_) | (refine ImpS.row ?_) | (refine ImpS.rowN ?_ ?_) | (refine ImpS.sl_eq ?_) | (refine ImpS.expl rfl ?_)) | (refine row_snoc' ?_) | (apply row_upd) | exact cimp_none | exact cimp_same | exact List.not_mem_nil | exact DImp.refl _) | exact rfl | (refine And.intro ?_ ?_) | exact ImpS.refl _)
        all_goals try first | assumption | (simp only []; done) | omega | (simp [*]; done)
      · simp only; omega
    · have e := hnone (by omega)
      (repeat' first | (refine Edge.fast ?_) | ((conv => whnf); first | exact True.intro | (refine And.intro ?_ ?_) | exact rfl | exact Nat.le_of_eq (Nat.zero_add _) | exact ImpS.refl _ | ((conv => arg 1; whnf); first | exact ImpS.refl _ | (refine ImpS.nil_eq ?_) | (refine ImpS.vnil_eq ?_) | (refine ImpS.row ?_) | (refine ImpS.rowN ?_ ?_) | (refine ImpS.sl_eq ?_) | (refine ImpS.expl rfl ?_)) | (refine row_snoc' ?_) | (apply row_upd) | exact cimp_none | exact cimp_same | exact List.not_mem_nil | exact DImp.refl _) | exact rfl | (refine And.intro ?_ ?_) | exact ImpS.refl _)
      all_goals try first | (simp only [e]; done) | assumption | omega | (simp [e, *]; done) | (simp_all [e]; done)
  · conv => whnf
    all_goals (repeat' first | (refine Edge.fast ?_) | ((conv => whnf); first | exact True.intro | (refine And.intro ?_ ?_) | exact rfl | exact Nat.le_of_eq (Nat.zero_add _) | exact ImpS.refl _ | ((conv => arg 1; whnf); first | exact ImpS.refl _ | (refine ImpS.nil_eq ?_) | (refine ImpS.vnil_eq ?_) | (refine ImpS.row ?_) | (refine ImpS.rowN ?_ ?_) | (refine ImpS.sl_eq ?_) | (refine ImpS.expl rfl ?_)) | (refine row_snoc' ?_) | (apply row_upd) | exact cimp_none | exact cimp_same | exact List.not_mem_nil | exact DImp.refl _) | exact rfl | (refine And.intro ?_ ?_) | exact ImpS.refl _)
    all_goals try first | assumption | omega | (simp only [IntKind.bits]; omega) | (simp [*]; done) | (rw [Bool.eq_iff_iff]; simp; omega) | (simp_all []; done) | (simp_all []; omega)

set_option maxHeartbeats 8000000 in
theorem contains80_0 (l : List Int) (g : Nat) (c : Nat → DV) (p : Int → Bool) (hl : l.length < 1000000) (hp : ∀ x ∈ l, Fn Try.prog g [int x] (bool (p x))) : Fn Try.prog 80 [slOf 1 int 0 l, .fn g 0 0 (fun _ => .top) c] (bool (l.any p)) := by
  have ha := ixf_any p l
  have hx := index91_0 l g c p hl hp
  generalize ixf p l = x at *
  rw [← ha]
  refine Fn.of_ex (cuts := []) tys hM Try.func80 rfl Try.call80 rfl ?_
  show exC Try.prog T [] _ false none 0 (entry 9 [slOf 1 int 0 l, .fn g 0 0 (fun _ => .top) c]) (finQ T [ResultVar.tmp 4] _)
  conv => whnf
  repeat' first
    | (refine Ob.tt True.intro ?_; conv => whnf)
    | (refine Ob.tt rfl ?_; conv => whnf)
    | (refine Ob.tt (And.intro True.intro (And.intro True.intro True.intro)) ?_; conv => whnf)
    | (refine Ob.tt (And.intro True.intro (And.intro True.intro (And.intro True.intro True.intro))) ?_; conv => whnf)
    | (refine Ob.tt (And.intro True.intro True.intro) ?_; conv => whnf)
    | (refine Ob.tt (Nat.le_of_ble_eq_true rfl) ?_; conv => whnf)
    | (refine Ob.inR (fun _ => ?_) ?_; rotate_left; (try first | assumption | omega | exact ImpS.refl _ | (simp only [inR]; omega) | (simp only [IntKind.bits]; omega) | (refine ⟨?_, ?_⟩ <;> omega)); rotate_right); (conv => whnf)
    | (apply Cl.go; (conv => whnf); (refine Ob.fn ?_ ?_ ?_ (hx); rotate_left; (focus ((repeat' first | (refine Edge.fast ?_) | ((conv => whnf); first | exact True.intro | (refine And.intro ?_ ?_) | exact rfl | exact Nat.le_of_eq (Nat.zero_add _) | exact ImpS.refl _ | ((conv => arg 1; whnf); first | exact ImpS.refl _ | (refine ImpS.nil_eq ?_) | (refine ImpS.vnil_eq ?_) | (refine ImpS.row ?_) | (refine ImpS.rowN ?_ ?_) | (refine ImpS.sl_eq ?_) | (refine ImpS.expl rfl ?_)) | (refine row_snoc' ?_) | (apply row_upd) | exact cimp_none | exact cimp_same | exact List.not_mem_nil | exact DImp.refl _) | exact rfl | (refine And.intro ?_ ?_) | exact ImpS.refl _); done)); (focus ((repeat' first | (refine Edge.fast ?_) | ((conv => whnf); first | exact True.intro | (refine And.intro ?_ ?_) | exact rfl | exact Nat.le_of_eq (Nat.zero_add _) | exact ImpS.refl _ | ((conv => arg 1; whnf); first | exact ImpS.refl _ | (refine ImpS.nil_eq ?_) | (refine ImpS.vnil_eq ?_) | (refine ImpS.row ?_) | (refine ImpS.rowN ?_ ?_) | (refine ImpS.sl_eq ?_) | (refine ImpS.expl rfl ?_)) | (refine row_snoc' ?_) | (apply row_upd) | exact cimp_none | exact cimp_same | exact List.not_mem_nil | exact DImp.refl _) | exact rfl | (refine And.intro ?_ ?_) | exact ImpS.refl _); done)); rotate_right); (conv => whnf))
    | (refine Ob.go (fun _ => ?_) (And.intro True.intro (And.intro ?_ List.not_mem_nil)); rotate_left; (try first | assumption | omega | exact ImpS.refl _ | (simp only [inR]; omega) | (simp only [IntKind.bits]; omega) | (refine ⟨?_, ?_⟩ <;> omega)); rotate_right); (conv => whnf)
    | (refine Ob.and (fun _ => ?_) ?_; rotate_left; (try first | assumption | omega | exact ImpS.refl _ | (simp only [inR]; omega) | (simp only [IntKind.bits]; omega) | (refine ⟨?_, ?_⟩ <;> omega)); rotate_right); (conv => whnf)
    | (refine Ob.ltN (fun _ => ?_) ?_; rotate_left; (try first | assumption | omega | exact ImpS.refl _ | (simp only [inR]; omega) | (simp only [IntKind.bits]; omega) | (refine ⟨?_, ?_⟩ <;> omega)); rotate_right); (conv => whnf)
    | (refine Ob.leN (fun _ => ?_) ?_; rotate_left; (try first | assumption | omega | exact ImpS.refl _ | (simp only [inR]; omega) | (simp only [IntKind.bits]; omega) | (refine ⟨?_, ?_⟩ <;> omega)); rotate_right); (conv => whnf)
    | (refine Sp.tt ?_; conv => whnf)
    | (refine Sp.ff ?_; conv => whnf)
    | (refine Sp.dec (fun hc => ?_) (fun hc => ?_) <;> (conv => whnf))
    | (refine Sp.ndec (fun hc => ?_) (fun hc => ?_) <;> (conv => whnf))
    | (refine Sp.mk (fun hc => ?_) (fun hc => ?_) <;> (conv => whnf))
    | (refine Fi.mk ?_ ?_; (focus ((repeat' first | (refine Edge.fast ?_) | ((conv => whnf); first | exact True.intro | (refine And.intro ?_ ?_) | exact rfl | exact Nat.le_of_eq (Nat.zero_add _) | exact ImpS.refl _ | ((conv => arg 1; whnf); first | exact ImpS.refl _ | (refine ImpS.nil_eq ?_) | (refine ImpS.vnil_eq ?_) | (refine ImpS.row ?_) | (refine ImpS.rowN ?_ ?_) | (refine ImpS.sl_eq ?_) | (refine ImpS.expl rfl ?_)) | (refine row_snoc' ?_) | (apply row_upd) | exact cimp_none | exact cimp_same | exact List.not_mem_nil | exact DImp.refl _) | exact rfl | (refine And.intro ?_ ?_) | exact ImpS.refl _); done)); (conv => whnf))
  all_goals (repeat' first | (refine Edge.fast ?_) | ((conv => whnf); first | exact True.intro | (refine And.intro ?_ ?_) | exact rfl | exact Nat.le_of_eq (Nat.zero_add _) | exact ImpS.refl _ | ((conv => arg 1; whnf); first | exact ImpS.refl _ | (refine ImpS.nil_eq ?_) | (refine ImpS.vnil_eq ?_) | (refine ImpS.row ?_) | (refine ImpS.rowN ?_ ?_) | (refine ImpS.sl_eq ?_) | (refine ImpS.expl rfl ?_)) | (refine row_snoc' ?_) | (apply row_upd) | exact cimp_none | exact cimp_same | exact List.not_mem_nil | exact DImp.refl _) | exact rfl | (refine And.intro ?_ ?_) | exact ImpS.refl _)
  all_goals try first | assumption | omega | (simp only [IntKind.bits]; omega) | (simp [*]; done) | (rw [Bool.eq_iff_iff]; simp; omega) | (simp_all []; done) | (simp_all []; omega)

end Go.Px.Try

/-! Pr1 -/
namespace Go.Px.Try
open Go Go.Proofs Go.Px

def cellP (x : Int) : DV := .pt (.ag 1 fun _ => int x) 0

theorem within1_spec (x lo hi : Int) : Fn Try.prog 84 [int x, cellP lo, cellP hi] (bool (!decide ((lo ≤ x ∧ x ≤ hi)))) := by
  refine Fn.of_ex (cuts := []) tys hM Try.func84 rfl Try.call84 rfl ?_
  show exC Try.prog T [] _ false none 0 (entry 13 [int x, cellP lo, cellP hi]) (finQ T [ResultVar.tmp 4] _)
  conv => whnf
  repeat' first
    | (refine Ob.tt True.intro ?_; conv => whnf)
    | (refine Ob.tt rfl ?_; conv => whnf)
    | (refine Ob.tt (And.intro True.intro (And.intro True.intro True.intro)) ?_; conv => whnf)
    | (refine Ob.tt (And.intro True.intro (And.intro True.intro (And.intro True.intro True.intro))) ?_; conv => whnf)
    | (refine Ob.tt (And.intro True.intro True.intro) ?_; conv => whnf)
    | (refine Ob.tt (Nat.le_of_ble_eq_true rfl) ?_; conv => whnf)
    | (refine Ob.inR (fun _ => ?_) ?_; rotate_left; (try first | assumption | omega | exact ImpS.refl _ | (simp only [inR]; omega) | (simp only [IntKind.bits]; omega) | (refine ⟨?_, ?_⟩ <;> omega)); rotate_right); (conv => whnf)
    | (refine Ob.go (fun _ => ?_) (And.intro True.intro (And.intro ?_ List.not_mem_nil)); rotate_left; (try first | assumption | omega | exact ImpS.refl _ | (simp only [inR]; omega) | (simp only [IntKind.bits]; omega) | (refine ⟨?_, ?_⟩ <;> omega)); rotate_right); (conv => whnf)
    | (refine Ob.and (fun _ => ?_) ?_; rotate_left; (try first | assumption | omega | exact ImpS.refl _ | (simp only [inR]; omega) | (simp only [IntKind.bits]; omega) | (refine ⟨?_, ?_⟩ <;> omega)); rotate_right); (conv => whnf)
    | (refine Ob.ltN (fun _ => ?_) ?_; rotate_left; (try first | assumption | omega | exact ImpS.refl _ | (simp only [inR]; omega) | (simp only [IntKind.bits]; omega) | (refine ⟨?_, ?_⟩ <;> omega)); rotate_right); (conv => whnf)
    | (refine Ob.leN (fun _ => ?_) ?_; rotate_left; (try first | assumption | omega | exact ImpS.refl _ | (simp only [inR]; omega) | (simp only [IntKind.bits]; omega) | (refine ⟨?_, ?_⟩ <;> omega)); rotate_right); (conv => whnf)
    | (refine Sp.tt ?_; conv => whnf)
    | (refine Sp.ff ?_; conv => whnf)
    | (refine Sp.dec (fun hc => ?_) (fun hc => ?_) <;> (conv => whnf))
    | (refine Sp.ndec (fun hc => ?_) (fun hc => ?_) <;> (conv => whnf))
    | (refine Sp.mk (fun hc => ?_) (fun hc => ?_) <;> (conv => whnf))
    | (refine Fi.mk ?_ ?_; (focus ((repeat' first | (refine Edge.fast ?_) | ((conv => whnf); first | exact True.intro | (refine And.intro ?_ ?_) | exact rfl | exact Nat.le_of_eq (Nat.zero_add _) | exact ImpS.refl _ | ((conv => arg 1; whnf); first | exact ImpS.refl _ | (refine ImpS.nil_eq ?_) | (refine ImpS.vnil_eq ?_) | (refine ImpS.row ?_) | (refine ImpS.rowN ?_ ?_) | (refine ImpS.sl_eq ?_) | (refine ImpS.expl rfl ?_)) | (refine row_snoc' ?_) | (apply row_upd) | exact cimp_none | exact cimp_same | exact List.not_mem_nil | exact DImp.refl _) | exact rfl | (refine And.intro ?_ ?_) | exact ImpS.refl _); done)); (conv => whnf))
  all_goals (repeat' first | (refine Edge.fast ?_) | ((conv => whnf); first | exact True.intro | (refine And.intro ?_ ?_) | exact rfl | exact Nat.le_of_eq (Nat.zero_add _) | exact ImpS.refl _ | ((conv => arg 1; whnf); first | exact ImpS.refl _ | (refine ImpS.nil_eq ?_) | (refine ImpS.vnil_eq ?_) | (refine ImpS.row ?_) | (refine ImpS.rowN ?_ ?_) | (refine ImpS.sl_eq ?_) | (refine ImpS.expl rfl ?_)) | (refine row_snoc' ?_) | (apply row_upd) | exact cimp_none | exact cimp_same | exact List.not_mem_nil | exact DImp.refl _) | exact rfl | (refine And.intro ?_ ?_) | exact ImpS.refl _)
  all_goals try first | assumption | omega | (simp only [IntKind.bits]; omega) | (simp [*]; done) | (rw [Bool.eq_iff_iff]; simp; omega) | (simp_all []; done) | (simp_all []; omega)

theorem within_spec (lo hi : Int) (l : List Int) (hl : l.length < 1000000) : Fn Try.prog 63 [int lo, int hi, ints l] (bool (decide (∀ x ∈ l, (lo ≤ x ∧ x ≤ hi)))) := by
  have hc := contains83_2 l 84 (fun j => [cellP lo, cellP hi].getD j .top) (fun x => !decide ((lo ≤ x ∧ x ≤ hi))) hl (fun x _ => within1_spec x lo hi)
  have e : (decide (∀ x ∈ l, (lo ≤ x ∧ x ≤ hi))) = !(l.any fun x => !decide ((lo ≤ x ∧ x ≤ hi))) := by
    rw [Bool.eq_iff_iff]
    simp
  rw [e]
  generalize (l.any fun x => !decide ((lo ≤ x ∧ x ≤ hi))) = b at *
  refine Fn.of_ex (cuts := []) tys hM Try.func63 rfl Try.call63 rfl ?_
  show exC Try.prog T [] _ false none 0 (entry 11 [int lo, int hi, ints l]) (finQ T [ResultVar.tmp 6] _)
  conv => whnf
  repeat' first
    | (refine Ob.tt True.intro ?_; conv => whnf)
    | (refine Ob.tt rfl ?_; conv => whnf)
    | (refine Ob.tt (And.intro True.intro (And.intro True.intro True.intro)) ?_; conv => whnf)
    | (refine Ob.tt (And.intro True.intro (And.intro True.intro (And.intro True.intro True.intro))) ?_; conv => whnf)
    | (refine Ob.tt (And.intro True.intro True.intro) ?_; conv => whnf)
    | (refine Ob.tt (Nat.le_of_ble_eq_true rfl) ?_; conv => whnf)
    | (refine Ob.inR (fun _ => ?_) ?_; rotate_left; (try first | assumption | omega | exact ImpS.refl _ | (simp only [inR]; omega) | (simp only [IntKind.bits]; omega) | (refine ⟨?_, ?_⟩ <;> omega)); rotate_right); (conv => whnf)
    | (apply Cl.go; (conv => whnf); (refine Ob.fn ?_ ?_ ?_ (hc); rotate_left; (focus ((repeat' first | (refine Edge.fast ?_) | ((conv => whnf); first | exact True.intro | (refine And.intro ?_ ?_) | exact rfl | exact Nat.le_of_eq (Nat.zero_add _) | exact ImpS.refl _ | ((conv => arg 1; whnf); first | exact ImpS.refl _ | (refine ImpS.nil_eq ?_) | (refine ImpS.vnil_eq ?_) | (refine ImpS.row ?_) | (refine ImpS.rowN ?_ ?_) | (refine ImpS.sl_eq ?_) | (refine ImpS.expl rfl ?_)) | (refine row_snoc' ?_) | (apply row_upd) | exact cimp_none | exact cimp_same | exact List.not_mem_nil | exact DImp.refl _) | exact rfl | (refine And.intro ?_ ?_) | exact ImpS.refl _); done)); (focus ((repeat' first | (refine Edge.fast ?_) | ((conv => whnf); first | exact True.intro | (refine And.intro ?_ ?_) | exact rfl | exact Nat.le_of_eq (Nat.zero_add _) | exact ImpS.refl _ | ((conv => arg 1; whnf); first | exact ImpS.refl _ | (refine ImpS.nil_eq ?_) | (refine ImpS.vnil_eq ?_) | (refine ImpS.row ?_) | (refine ImpS.rowN ?_ ?_) | (refine ImpS.sl_eq ?_) | (refine ImpS.expl rfl ?_)) | (refine row_snoc' ?_) | (apply row_upd) | exact cimp_none | exact cimp_same | exact List.not_mem_nil | exact DImp.refl _) | exact rfl | (refine And.intro ?_ ?_) | exact ImpS.refl _); done)); rotate_right); (conv => whnf))
    | (refine Ob.go (fun _ => ?_) (And.intro True.intro (And.intro ?_ List.not_mem_nil)); rotate_left; (try first | assumption | omega | exact ImpS.refl _ | (simp only [inR]; omega) | (simp only [IntKind.bits]; omega) | (refine ⟨?_, ?_⟩ <;> omega)); rotate_right); (conv => whnf)
    | (refine Ob.and (fun _ => ?_) ?_; rotate_left; (try first | assumption | omega | exact ImpS.refl _ | (simp only [inR]; omega) | (simp only [IntKind.bits]; omega) | (refine ⟨?_, ?_⟩ <;> omega)); rotate_right); (conv => whnf)
    | (refine Ob.ltN (fun _ => ?_) ?_; rotate_left; (try first | assumption | omega | exact ImpS.refl _ | (simp only [inR]; omega) | (simp only [IntKind.bits]; omega) | (refine ⟨?_, ?_⟩ <;> omega)); rotate_right); (conv => whnf)
    | (refine Ob.leN (fun _ => ?_) ?_; rotate_left; (try first | assumption | omega | exact ImpS.refl _ | (simp only [inR]; omega) | (simp only [IntKind.bits]; omega) | (refine ⟨?_, ?_⟩ <;> omega)); rotate_right); (conv => whnf)
    | (refine Sp.tt ?_; conv => whnf)
    | (refine Sp.ff ?_; conv => whnf)
    | (refine Sp.dec (fun hc => ?_) (fun hc => ?_) <;> (conv => whnf))
    | (refine Sp.ndec (fun hc => ?_) (fun hc => ?_) <;> (conv => whnf))
    | (refine Sp.mk (fun hc => ?_) (fun hc => ?_) <;> (conv => whnf))
    | (refine Fi.mk ?_ ?_; (focus ((repeat' first | (refine Edge.fast ?_) | ((conv => whnf); first | exact True.intro | (refine And.intro ?_ ?_) | exact rfl | exact Nat.le_of_eq (Nat.zero_add _) | exact ImpS.refl _ | ((conv => arg 1; whnf); first | exact ImpS.refl _ | (refine ImpS.nil_eq ?_) | (refine ImpS.vnil_eq ?_) | (refine ImpS.row ?_) | (refine ImpS.rowN ?_ ?_) | (refine ImpS.sl_eq ?_) | (refine ImpS.expl rfl ?_)) | (refine row_snoc' ?_) | (apply row_upd) | exact cimp_none | exact cimp_same | exact List.not_mem_nil | exact DImp.refl _) | exact rfl | (refine And.intro ?_ ?_) | exact ImpS.refl _); done)); (conv => whnf))
  all_goals (repeat' first | (refine Edge.fast ?_) | ((conv => whnf); first | exact True.intro | (refine And.intro ?_ ?_) | exact rfl | exact Nat.le_of_eq (Nat.zero_add _) | exact ImpS.refl _ | ((conv => arg 1; whnf); first | exact ImpS.refl _ | (refine ImpS.nil_eq ?_) | (refine ImpS.vnil_eq ?_) | (refine ImpS.row ?_) | (refine ImpS.rowN ?_ ?_) | (refine ImpS.sl_eq ?_) | (refine ImpS.expl rfl ?_)) | (refine row_snoc' ?_) | (apply row_upd) | exact cimp_none | exact cimp_same | exact List.not_mem_nil | exact DImp.refl _) | exact rfl | (refine And.intro ?_ ?_) | exact ImpS.refl _)
  all_goals try first | assumption | omega | (simp only [IntKind.bits]; omega) | (simp [*]; done) | (rw [Bool.eq_iff_iff]; simp; omega) | (simp_all []; done) | (simp_all []; omega)

theorem within_is (lo hi : Int) (l : List Int) (q : Prop) [Decidable q] (hl : l.length < 1000000) (e : (∀ x ∈ l, lo ≤ x ∧ x ≤ hi) ↔ q) : Fn Try.prog 63 [int lo, int hi, ints l] (bool (decide q)) := by
  rw [← decide_eq_decide.2 e]; exact within_spec lo hi l hl

theorem stray_spec (h : Hour) : Fn Try.prog 62 [hourD h] (bool (!decide (HourOk h))) := by
  refine Fn.hide (D := fun r : Bool => bool r) fun r hr => ?_
  have ht : HourOk h → r = false := fun e => by rw [← hr.h]; simp [e]
  have hf : ¬ HourOk h → r = true := fun e => by rw [← hr.h]; simp [e]
  have w1 := within_is 0 40 [h.lo, h.hi] ((0 ≤ h.lo ∧ h.lo ≤ 40) ∧ 0 ≤ h.hi ∧ h.hi ≤ 40) (by simp) (by simp)
  have w2 := within_is 1 100 [h.pounds] (1 ≤ h.pounds ∧ h.pounds ≤ 100) (by simp) (by simp)
  have hk : HourOk h ↔ ((0 ≤ h.lo ∧ h.lo ≤ 40) ∧ 0 ≤ h.hi ∧ h.hi ≤ 40) ∧ h.lo ≤ h.hi ∧ 1 ≤ h.pounds ∧ h.pounds ≤ 100 := by
    unfold HourOk
    omega
  refine Fn.of_ex (cuts := []) tys hM Try.func62 rfl Try.call62 rfl ?_
  show exC Try.prog T [] _ false none 0 (entry 28 [hourD h]) (finQ T [ResultVar.tmp 2] _)
  conv => whnf
  repeat' first
    | (refine Ob.tt True.intro ?_; conv => whnf)
    | (refine Ob.tt rfl ?_; conv => whnf)
    | (refine Ob.tt (And.intro True.intro (And.intro True.intro True.intro)) ?_; conv => whnf)
    | (refine Ob.tt (And.intro True.intro (And.intro True.intro (And.intro True.intro True.intro))) ?_; conv => whnf)
    | (refine Ob.tt (And.intro True.intro True.intro) ?_; conv => whnf)
    | (refine Ob.tt (Nat.le_of_ble_eq_true rfl) ?_; conv => whnf)
    | (refine Ob.inR (fun _ => ?_) ?_; rotate_left; (try first | assumption | omega | exact ImpS.refl _ | (simp only [inR]; omega) | (simp only [IntKind.bits]; omega) | (refine ⟨?_, ?_⟩ <;> omega)); rotate_right); (conv => whnf)
    | (apply Cl.go; (conv => whnf); (refine Ob.fn ?_ ?_ ?_ (w1); rotate_left; (focus ((repeat' first | (refine Edge.fast ?_) | ((conv => whnf); first | exact True.intro | (refine And.intro ?_ ?_) | exact rfl | exact Nat.le_of_eq (Nat.zero_add _) | exact ImpS.refl _ | ((conv => arg 1; whnf); first | exact ImpS.refl _ | (refine ImpS.nil_eq ?_) | (refine ImpS.vnil_eq ?_) | (refine ImpS.row ?_) | (refine ImpS.rowN ?_ ?_) | (refine ImpS.sl_eq ?_) | (refine ImpS.expl rfl ?_)) | (refine row_snoc' ?_) | (apply row_upd) | exact cimp_none | exact cimp_same | exact List.not_mem_nil | exact DImp.refl _) | exact rfl | (refine And.intro ?_ ?_) | exact ImpS.refl _); done)); (focus ((repeat' first | (refine Edge.fast ?_) | ((conv => whnf); first | exact True.intro | (refine And.intro ?_ ?_) | exact rfl | exact Nat.le_of_eq (Nat.zero_add _) | exact ImpS.refl _ | ((conv => arg 1; whnf); first | exact ImpS.refl _ | (refine ImpS.nil_eq ?_) | (refine ImpS.vnil_eq ?_) | (refine ImpS.row ?_) | (refine ImpS.rowN ?_ ?_) | (refine ImpS.sl_eq ?_) | (refine ImpS.expl rfl ?_)) | (refine row_snoc' ?_) | (apply row_upd) | exact cimp_none | exact cimp_same | exact List.not_mem_nil | exact DImp.refl _) | exact rfl | (refine And.intro ?_ ?_) | exact ImpS.refl _); done)); rotate_right); (conv => whnf))
    | (apply Cl.go; (conv => whnf); (refine Ob.fn ?_ ?_ ?_ (w2); rotate_left; (focus ((repeat' first | (refine Edge.fast ?_) | ((conv => whnf); first | exact True.intro | (refine And.intro ?_ ?_) | exact rfl | exact Nat.le_of_eq (Nat.zero_add _) | exact ImpS.refl _ | ((conv => arg 1; whnf); first | exact ImpS.refl _ | (refine ImpS.nil_eq ?_) | (refine ImpS.vnil_eq ?_) | (refine ImpS.row ?_) | (refine ImpS.rowN ?_ ?_) | (refine ImpS.sl_eq ?_) | (refine ImpS.expl rfl ?_)) | (refine row_snoc' ?_) | (apply row_upd) | exact cimp_none | exact cimp_same | exact List.not_mem_nil | exact DImp.refl _) | exact rfl | (refine And.intro ?_ ?_) | exact ImpS.refl _); done)); (focus ((repeat' first | (refine Edge.fast ?_) | ((conv => whnf); first | exact True.intro | (refine And.intro ?_ ?_) | exact rfl | exact Nat.le_of_eq (Nat.zero_add _) | exact ImpS.refl _ | ((conv => arg 1; whnf); first | exact ImpS.refl _ | (refine ImpS.nil_eq ?_) | (refine ImpS.vnil_eq ?_) | (refine ImpS.row ?_) | (refine ImpS.rowN ?_ ?_) | (refine ImpS.sl_eq ?_) | (refine ImpS.expl rfl ?_)) | (refine row_snoc' ?_) | (apply row_upd) | exact cimp_none | exact cimp_same | exact List.not_mem_nil | exact DImp.refl _) | exact rfl | (refine And.intro ?_ ?_) | exact ImpS.refl _); done)); rotate_right); (conv => whnf))
    | (refine Ob.go (fun _ => ?_) (And.intro True.intro (And.intro ?_ List.not_mem_nil)); rotate_left; (try first | assumption | omega | exact ImpS.refl _ | (simp only [inR]; omega) | (simp only [IntKind.bits]; omega) | (refine ⟨?_, ?_⟩ <;> omega)); rotate_right); (conv => whnf)
    | (refine Ob.and (fun _ => ?_) ?_; rotate_left; (try first | assumption | omega | exact ImpS.refl _ | (simp only [inR]; omega) | (simp only [IntKind.bits]; omega) | (refine ⟨?_, ?_⟩ <;> omega)); rotate_right); (conv => whnf)
    | (refine Ob.ltN (fun _ => ?_) ?_; rotate_left; (try first | assumption | omega | exact ImpS.refl _ | (simp only [inR]; omega) | (simp only [IntKind.bits]; omega) | (refine ⟨?_, ?_⟩ <;> omega)); rotate_right); (conv => whnf)
    | (refine Ob.leN (fun _ => ?_) ?_; rotate_left; (try first | assumption | omega | exact ImpS.refl _ | (simp only [inR]; omega) | (simp only [IntKind.bits]; omega) | (refine ⟨?_, ?_⟩ <;> omega)); rotate_right); (conv => whnf)
    | (refine Sp.tt ?_; conv => whnf)
    | (refine Sp.ff ?_; conv => whnf)
    | (refine Sp.dec (fun hc => ?_) (fun hc => ?_) <;> (conv => whnf))
    | (refine Sp.ndec (fun hc => ?_) (fun hc => ?_) <;> (conv => whnf))
    | (refine Sp.mk (fun hc => ?_) (fun hc => ?_) <;> (conv => whnf))
    | (refine Fi.mk ?_ ?_; (focus ((repeat' first | (refine Edge.fast ?_) | ((conv => whnf); first | exact True.intro | (refine And.intro ?_ ?_) | exact rfl | exact Nat.le_of_eq (Nat.zero_add _) | exact ImpS.refl _ | ((conv => arg 1; whnf); first | exact ImpS.refl _ | (refine ImpS.nil_eq ?_) | (refine ImpS.vnil_eq ?_) | (refine ImpS.row ?_) | (refine ImpS.rowN ?_ ?_) | (refine ImpS.sl_eq ?_) | (refine ImpS.expl rfl ?_)) | (refine row_snoc' ?_) | (apply row_upd) | exact cimp_none | exact cimp_same | exact List.not_mem_nil | exact DImp.refl _) | exact rfl | (refine And.intro ?_ ?_) | exact ImpS.refl _); done)); (conv => whnf))
  all_goals (repeat' first | (refine Edge.fast ?_) | ((conv => whnf); first | exact True.intro | (refine And.intro ?_ ?_) | exact rfl | exact Nat.le_of_eq (Nat.zero_add _) | exact ImpS.refl _ | ((conv => arg 1; whnf); first | exact ImpS.refl _ | (refine ImpS.nil_eq ?_) | (refine ImpS.vnil_eq ?_) | (refine ImpS.row ?_) | (refine ImpS.rowN ?_ ?_) | (refine ImpS.sl_eq ?_) | (refine ImpS.expl rfl ?_)) | (refine row_snoc' ?_) | (apply row_upd) | exact cimp_none | exact cimp_same | exact List.not_mem_nil | exact DImp.refl _) | exact rfl | (refine And.intro ?_ ?_) | exact ImpS.refl _)
  all_goals try first | assumption | omega | (simp only [IntKind.bits]; omega) | (simp [*]; done) | (rw [Bool.eq_iff_iff]; simp; omega) | (simp_all []; done) | (simp_all []; omega)
  · exact (hf fun e => by have := hk.1 e; omega).symm
  · by_cases hp : 1 ≤ h.pounds ∧ h.pounds ≤ 100
    · rw [ht (hk.2 ⟨by assumption, by omega, hp⟩)]; simp [hp]
    · rw [hf fun e => hp (hk.1 e).2.2]; simp [hp]

theorem contains64_spec (l : List Hour) (hl : l.length < 1000000) : Fn Try.prog 64 [slOf 3 hourD default l, .fn 62 0 0 (fun _ => .top) (fun _ => .top)] (bool (!decide (∀ h ∈ l, HourOk h))) := by
  have hc := contains64_0 l 62 (fun _ => .top) (fun h => !decide (HourOk h)) hl fun x _ => stray_spec x
  have e : (l.any fun x => !decide (HourOk x)) = !decide (∀ h ∈ l, HourOk h) := by
    rw [Bool.eq_iff_iff]
    simp
  rw [e] at hc
  exact hc

set_option maxHeartbeats 8000000 in
theorem CheckMillP_spec (m : Mill) (hl : m.hours.length < 1000000) : Fn Try.prog 25 [millD m] (int (checkMill m)) := by
  refine Fn.hide (D := fun r : Int => int r) fun r hr => ?_
  have w1 := within_is 1 12 [(m.hours.length : Int)] (1 ≤ (m.hours.length : Int) ∧ (m.hours.length : Int) ≤ 12) (by simp) (by simp)
  have w2 := within_is 0 40 [m.start, m.limit] ((0 ≤ m.start ∧ m.start ≤ 40) ∧ 0 ≤ m.limit ∧ m.limit ≤ 40) (by simp) (by simp)
  have w3 := within_is 1 40 [m.gain, m.fall] ((1 ≤ m.gain ∧ m.gain ≤ 40) ∧ 1 ≤ m.fall ∧ m.fall ≤ 40) (by simp) (by simp)
  have w4 := contains64_spec m.hours hl
  have hh : HeadOk m ↔ (0 ≤ m.limit ∧ m.limit ≤ 40) ∧ (0 ≤ m.start ∧ m.start ≤ m.limit) ∧ (1 ≤ m.gain ∧ m.gain ≤ 40) ∧ 1 ≤ m.fall ∧ m.fall ≤ 40 := Iff.rfl
  have r6 : ¬ (1 ≤ (m.hours.length : Int) ∧ (m.hours.length : Int) ≤ 12) → r = 6 := fun h => by rw [← hr.h]; exact checkMill_many (by omega)
  have r3 : (1 ≤ (m.hours.length : Int) ∧ (m.hours.length : Int) ≤ 12) → ¬ (HeadOk m ∧ ∀ h ∈ m.hours, HourOk h) → r = 3 := fun h h2 => by
    rw [← hr.h, checkMill, if_neg (by omega), if_neg h2]
  have r0 : (1 ≤ (m.hours.length : Int) ∧ (m.hours.length : Int) ≤ 12) → HeadOk m → (∀ h ∈ m.hours, HourOk h) → r = 0 := fun h h2 h3 => by
    rw [← hr.h, checkMill, if_neg (by omega), if_pos ⟨h2, h3⟩]
  refine Fn.of_ex (cuts := []) tys hM Try.func25 rfl Try.call25 rfl ?_
  show exC Try.prog T [] _ false none 0 (entry 41 [millD m]) (finQ T [ResultVar.tmp 2] _)
  conv => whnf
  repeat' first
    | (refine Ob.tt True.intro ?_; conv => whnf)
    | (refine Ob.tt rfl ?_; conv => whnf)
    | (refine Ob.tt (And.intro True.intro (And.intro True.intro True.intro)) ?_; conv => whnf)
    | (refine Ob.tt (And.intro True.intro (And.intro True.intro (And.intro True.intro True.intro))) ?_; conv => whnf)
    | (refine Ob.tt (And.intro True.intro True.intro) ?_; conv => whnf)
    | (refine Ob.tt (Nat.le_of_ble_eq_true rfl) ?_; conv => whnf)
    | (refine Ob.inR (fun _ => ?_) ?_; rotate_left; (try first | assumption | omega | exact ImpS.refl _ | (simp only [inR]; omega) | (simp only [IntKind.bits]; omega) | (refine ⟨?_, ?_⟩ <;> omega)); rotate_right); (conv => whnf)
    | (apply Cl.go; (conv => whnf); (refine Ob.fn ?_ ?_ ?_ (w1); rotate_left; (focus ((repeat' first | (refine Edge.fast ?_) | ((conv => whnf); first | exact True.intro | (refine And.intro ?_ ?_) | exact rfl | exact Nat.le_of_eq (Nat.zero_add _) | exact ImpS.refl _ | ((conv => arg 1; whnf); first | exact ImpS.refl _ | (refine ImpS.nil_eq ?_) | (refine ImpS.vnil_eq ?_) | (refine ImpS.row ?_) | (refine ImpS.rowN ?_ ?_) | (refine ImpS.sl_eq ?_) | (refine ImpS.expl rfl ?_)) | (refine row_snoc' ?_) | (apply row_upd) | exact cimp_none | exact cimp_same | exact List.not_mem_nil | exact DImp.refl _) | exact rfl | (refine And.intro ?_ ?_) | exact ImpS.refl _); done)); (focus ((repeat' first | (refine Edge.fast ?_) | ((conv => whnf); first | exact True.intro | (refine And.intro ?_ ?_) | exact rfl | exact Nat.le_of_eq (Nat.zero_add _) | exact ImpS.refl _ | ((conv => arg 1; whnf); first | exact ImpS.refl _ | (refine ImpS.nil_eq ?_) | (refine ImpS.vnil_eq ?_) | (refine ImpS.row ?_) | (refine ImpS.rowN ?_ ?_) | (refine ImpS.sl_eq ?_) | (refine ImpS.expl rfl ?_)) | (refine row_snoc' ?_) | (apply row_upd) | exact cimp_none | exact cimp_same | exact List.not_mem_nil | exact DImp.refl _) | exact rfl | (refine And.intro ?_ ?_) | exact ImpS.refl _); done)); rotate_right); (conv => whnf))
    | (apply Cl.go; (conv => whnf); (refine Ob.fn ?_ ?_ ?_ (w2); rotate_left; (focus ((repeat' first | (refine Edge.fast ?_) | ((conv => whnf); first | exact True.intro | (refine And.intro ?_ ?_) | exact rfl | exact Nat.le_of_eq (Nat.zero_add _) | exact ImpS.refl _ | ((conv => arg 1; whnf); first | exact ImpS.refl _ | (refine ImpS.nil_eq ?_) | (refine ImpS.vnil_eq ?_) | (refine ImpS.row ?_) | (refine ImpS.rowN ?_ ?_) | (refine ImpS.sl_eq ?_) | (refine ImpS.expl rfl ?_)) | (refine row_snoc' ?_) | (apply row_upd) | exact cimp_none | exact cimp_same | exact List.not_mem_nil | exact DImp.refl _) | exact rfl | (refine And.intro ?_ ?_) | exact ImpS.refl _); done)); (focus ((repeat' first | (refine Edge.fast ?_) | ((conv => whnf); first | exact True.intro | (refine And.intro ?_ ?_) | exact rfl | exact Nat.le_of_eq (Nat.zero_add _) | exact ImpS.refl _ | ((conv => arg 1; whnf); first | exact ImpS.refl _ | (refine ImpS.nil_eq ?_) | (refine ImpS.vnil_eq ?_) | (refine ImpS.row ?_) | (refine ImpS.rowN ?_ ?_) | (refine ImpS.sl_eq ?_) | (refine ImpS.expl rfl ?_)) | (refine row_snoc' ?_) | (apply row_upd) | exact cimp_none | exact cimp_same | exact List.not_mem_nil | exact DImp.refl _) | exact rfl | (refine And.intro ?_ ?_) | exact ImpS.refl _); done)); rotate_right); (conv => whnf))
    | (apply Cl.go; (conv => whnf); (refine Ob.fn ?_ ?_ ?_ (w3); rotate_left; (focus ((repeat' first | (refine Edge.fast ?_) | ((conv => whnf); first | exact True.intro | (refine And.intro ?_ ?_) | exact rfl | exact Nat.le_of_eq (Nat.zero_add _) | exact ImpS.refl _ | ((conv => arg 1; whnf); first | exact ImpS.refl _ | (refine ImpS.nil_eq ?_) | (refine ImpS.vnil_eq ?_) | (refine ImpS.row ?_) | (refine ImpS.rowN ?_ ?_) | (refine ImpS.sl_eq ?_) | (refine ImpS.expl rfl ?_)) | (refine row_snoc' ?_) | (apply row_upd) | exact cimp_none | exact cimp_same | exact List.not_mem_nil | exact DImp.refl _) | exact rfl | (refine And.intro ?_ ?_) | exact ImpS.refl _); done)); (focus ((repeat' first | (refine Edge.fast ?_) | ((conv => whnf); first | exact True.intro | (refine And.intro ?_ ?_) | exact rfl | exact Nat.le_of_eq (Nat.zero_add _) | exact ImpS.refl _ | ((conv => arg 1; whnf); first | exact ImpS.refl _ | (refine ImpS.nil_eq ?_) | (refine ImpS.vnil_eq ?_) | (refine ImpS.row ?_) | (refine ImpS.rowN ?_ ?_) | (refine ImpS.sl_eq ?_) | (refine ImpS.expl rfl ?_)) | (refine row_snoc' ?_) | (apply row_upd) | exact cimp_none | exact cimp_same | exact List.not_mem_nil | exact DImp.refl _) | exact rfl | (refine And.intro ?_ ?_) | exact ImpS.refl _); done)); rotate_right); (conv => whnf))
    | (apply Cl.go; (conv => whnf); (refine Ob.fn ?_ ?_ ?_ (w4); rotate_left; (focus ((repeat' first | (refine Edge.fast ?_) | ((conv => whnf); first | exact True.intro | (refine And.intro ?_ ?_) | exact rfl | exact Nat.le_of_eq (Nat.zero_add _) | exact ImpS.refl _ | ((conv => arg 1; whnf); first | exact ImpS.refl _ | (refine ImpS.nil_eq ?_) | (refine ImpS.vnil_eq ?_) | (refine ImpS.row ?_) | (refine ImpS.rowN ?_ ?_) | (refine ImpS.sl_eq ?_) | (refine ImpS.expl rfl ?_)) | (refine row_snoc' ?_) | (apply row_upd) | exact cimp_none | exact cimp_same | exact List.not_mem_nil | exact DImp.refl _) | exact rfl | (refine And.intro ?_ ?_) | exact ImpS.refl _); done)); (focus ((repeat' first | (refine Edge.fast ?_) | ((conv => whnf); first | exact True.intro | (refine And.intro ?_ ?_) | exact rfl | exact Nat.le_of_eq (Nat.zero_add _) | exact ImpS.refl _ | ((conv => arg 1; whnf); first | exact ImpS.refl _ | (refine ImpS.nil_eq ?_) | (refine ImpS.vnil_eq ?_) | (refine ImpS.row ?_) | (refine ImpS.rowN ?_ ?_) | (refine ImpS.sl_eq ?_) | (refine ImpS.expl rfl ?_)) | (refine row_snoc' ?_) | (apply row_upd) | exact cimp_none | exact cimp_same | exact List.not_mem_nil | exact DImp.refl _) | exact rfl | (refine And.intro ?_ ?_) | exact ImpS.refl _); done)); rotate_right); (conv => whnf))
    | (refine Ob.go (fun _ => ?_) (And.intro True.intro (And.intro ?_ List.not_mem_nil)); rotate_left; (try first | assumption | omega | exact ImpS.refl _ | (simp only [inR]; omega) | (simp only [IntKind.bits]; omega) | (refine ⟨?_, ?_⟩ <;> omega)); rotate_right); (conv => whnf)
    | (refine Ob.and (fun _ => ?_) ?_; rotate_left; (try first | assumption | omega | exact ImpS.refl _ | (simp only [inR]; omega) | (simp only [IntKind.bits]; omega) | (refine ⟨?_, ?_⟩ <;> omega)); rotate_right); (conv => whnf)
    | (refine Ob.ltN (fun _ => ?_) ?_; rotate_left; (try first | assumption | omega | exact ImpS.refl _ | (simp only [inR]; omega) | (simp only [IntKind.bits]; omega) | (refine ⟨?_, ?_⟩ <;> omega)); rotate_right); (conv => whnf)
    | (refine Ob.leN (fun _ => ?_) ?_; rotate_left; (try first | assumption | omega | exact ImpS.refl _ | (simp only [inR]; omega) | (simp only [IntKind.bits]; omega) | (refine ⟨?_, ?_⟩ <;> omega)); rotate_right); (conv => whnf)
    | (refine Sp.tt ?_; conv => whnf)
    | (refine Sp.ff ?_; conv => whnf)
    | (refine Sp.dec (fun hc => ?_) (fun hc => ?_) <;> (conv => whnf))
    | (refine Sp.ndec (fun hc => ?_) (fun hc => ?_) <;> (conv => whnf))
    | (refine Sp.mk (fun hc => ?_) (fun hc => ?_) <;> (conv => whnf))
    | (refine Fi.mk ?_ ?_; (focus ((repeat' first | (refine Edge.fast ?_) | ((conv => whnf); first | exact True.intro | (refine And.intro ?_ ?_) | exact rfl | exact Nat.le_of_eq (Nat.zero_add _) | exact ImpS.refl _ | ((conv => arg 1; whnf); first | exact ImpS.refl _ | (refine ImpS.nil_eq ?_) | (refine ImpS.vnil_eq ?_) | (refine ImpS.row ?_) | (refine ImpS.rowN ?_ ?_) | (refine ImpS.sl_eq ?_) | (refine ImpS.expl rfl ?_)) | (refine row_snoc' ?_) | (apply row_upd) | exact cimp_none | exact cimp_same | exact List.not_mem_nil | exact DImp.refl _) | exact rfl | (refine And.intro ?_ ?_) | exact ImpS.refl _); done)); (conv => whnf))
  all_goals (repeat' first | (refine Edge.fast ?_) | ((conv => whnf); first | exact True.intro | (refine And.intro ?_ ?_) | exact rfl | exact Nat.le_of_eq (Nat.zero_add _) | exact ImpS.refl _ | ((conv => arg 1; whnf); first | exact ImpS.refl _ | (refine ImpS.nil_eq ?_) | (refine ImpS.vnil_eq ?_) | (refine ImpS.row ?_) | (refine ImpS.rowN ?_ ?_) | (refine ImpS.sl_eq ?_) | (refine ImpS.expl rfl ?_)) | (refine row_snoc' ?_) | (apply row_upd) | exact cimp_none | exact cimp_same | exact List.not_mem_nil | exact DImp.refl _) | exact rfl | (refine And.intro ?_ ?_) | exact ImpS.refl _)
  all_goals try first | assumption | omega | (simp only [IntKind.bits]; omega) | (simp [*]; done) | (rw [Bool.eq_iff_iff]; simp; omega) | (simp_all []; done) | (simp_all []; omega)
end Go.Px.Try

/-! Pr2 -/
namespace Go.Px.Try
open Go Go.Proofs Go.Px

def benchL (m : Mill) (mo : Int) : List DV := [int m.start, int m.limit, int m.gain, int m.fall, slOf 3 hourD default m.hours, int mo]
def benchD (m : Mill) (mo : Int) : DV := .pt (st (benchL m mo)) 0
def nilP : DV := .v (.pointer none)
def plansD (l : List (List Int)) : DV := slOf 1 ints [] l

theorem AfterP_spec (m : Mill) (mo heat room grinds : Int) (h1 : Sm 1000000000 heat ∧ Sm 1000000000 room ∧ Sm 1000 m.gain ∧ Sm 1000 m.fall) : Fn Try.prog 82 [benchD m mo, int heat, int room, int grinds] (int (after m heat room grinds)) := by
  obtain ⟨⟨_, _⟩, ⟨_, _⟩, ⟨_, _⟩, ⟨_, _⟩⟩ := h1
  have e1 : grinds = 1 → after m heat room grinds = max heat room + m.gain := fun h => by rw [after, if_pos h]
  have e2 : grinds ≠ 1 → after m heat room grinds = max room (heat - m.fall) := fun h => by rw [after, if_neg h]
  refine Fn.of_ex (cuts := []) tys hM Try.func82 rfl Try.call82 rfl ?_
  show exC Try.prog T [] _ false none 0 (entry 29 [benchD m mo, int heat, int room, int grinds]) (finQ T [ResultVar.tmp 8] _)
  conv => whnf
  repeat' first
    | (refine Ob.a ?_; conv => whnf)
    | (refine Sp.tt ?_; conv => whnf)
    | (refine Sp.ff ?_; conv => whnf)
    | (refine Sp.yes ?_; conv => whnf)
    | (refine Sp.no ?_; conv => whnf)
    | (refine Sp.nyes ?_; conv => whnf)
    | (refine Sp.nno ?_; conv => whnf)
    | (refine Sp.ne (fun hc => ?_) (fun hc => ?_) <;> (conv => whnf))
    | (refine Sp.dec (fun hc => ?_) (fun hc => ?_) <;> (conv => whnf))
    | (refine Sp.ndec (fun hc => ?_) (fun hc => ?_) <;> (conv => whnf))
    | (refine Sp.mk (fun hc => ?_) (fun hc => ?_) <;> (conv => whnf))
    | (refine Nx.mk (fun ka kb kx hx hs => ?_) (fun he => ?_) <;> (conv => whnf))
    | (refine Nx.mk (fun ka kx hx hs => ?_) (fun he => ?_) <;> (conv => whnf))
    | (refine Uk.mk (fun hn => ?_) ?_ <;> (conv => whnf))
    | (refine Fi.a ?_; conv => whnf)
    | (refine Yl.a ?_ ?_ <;> (conv => whnf))
    | (refine Ob.b ?_; conv => whnf)
  all_goals exact Lf

/-- The rooms of a bench. -/
def roomB (m : Mill) (mo : Int) (warm : Bool) : List Int := m.hours.map fun h => if warm then h.hi + mo else h.lo
theorem roomB_getD {m : Mill} {mo : Int} {warm : Bool} {i : Nat} (h : i < m.hours.length) : (roomB m mo warm).getD i 0 = if warm then (m.hours.getD i default).hi + mo else (m.hours.getD i default).lo := by
  unfold roomB
  rw [List.getD_eq_getElem?_getD, List.getElem?_map, List.getElem?_eq_getElem h, List.getD_eq_getElem?_getD, List.getElem?_eq_getElem h]
  rfl
theorem heatsGo_succ {m : Mill} {plan room : List Int} {n i : Nat} {h : Int} (hi : i < n) : heatsGo m plan room (n - i) i h = after m h (room.getD i 0) (plan.getD i 0) :: heatsGo m plan room (n - (i + 1)) (i + 1) (after m h (room.getD i 0) (plan.getD i 0)) := by
  obtain ⟨k, hk⟩ : ∃ k, n - i = k + 1 := ⟨n - i - 1, by omega⟩
  rw [hk, show n - (i + 1) = k by omega]
  rfl

set_option maxHeartbeats 4000000 in
theorem HeatsB_spec (m : Mill) (mo : Int) (plan : List Int) (warm : Bool) (hf : Fit m) (hmo : 0 ≤ mo ∧ mo ≤ 100) (hl : plan.length = m.hours.length) : Fn Try.prog 56 [benchD m mo, ints plan, bool warm, int 0] (ints (heatsGo m plan (roomB m mo warm) plan.length 0 m.start)) := by
  have hn := hf.n12
  have hg := hf.gain
  have hfa := hf.fall
  obtain ⟨hs1, hs2⟩ := hf.start
  refine Fn.hide (D := fun r : List Int => ints r) fun r hr => ?_
  have hr0 := hr.h
  refine Fn.of_ex (cuts := []) tys hM Try.func56 rfl Try.call56 rfl ?_
  show exC Try.prog T [] _ false none 0 (entry 67 [benchD m mo, ints plan, bool warm, int 0]) (finQ T [ResultVar.tmp 8] _)
  conv => whnf
  repeat' first
    | (refine Ob.a ?_; conv => whnf)
    | (refine Sp.tt ?_; conv => whnf)
    | (refine Sp.ff ?_; conv => whnf)
    | (refine Sp.yes ?_; conv => whnf)
    | (refine Sp.no ?_; conv => whnf)
    | (refine Sp.nyes ?_; conv => whnf)
    | (refine Sp.nno ?_; conv => whnf)
    | (refine Sp.ne (fun hc => ?_) (fun hc => ?_) <;> (conv => whnf))
    | (refine Sp.dec (fun hc => ?_) (fun hc => ?_) <;> (conv => whnf))
    | (refine Sp.ndec (fun hc => ?_) (fun hc => ?_) <;> (conv => whnf))
    | (refine Sp.mk (fun hc => ?_) (fun hc => ?_) <;> (conv => whnf))
    | (refine Nx.mk (fun ka kb kx hx hs => ?_) (fun he => ?_) <;> (conv => whnf))
    | (refine Nx.mk (fun ka kx hx hs => ?_) (fun he => ?_) <;> (conv => whnf))
    | (refine Uk.mk (fun hn => ?_) ?_ <;> (conv => whnf))
    | (refine Fi.a ?_; conv => whnf)
    | (refine Yl.a ?_ ?_ <;> (conv => whnf))
    | (refine Ob.b ?_; conv => whnf)
  refine Lp.go 67 {p : List Int × Int × Int // p.1 ++ heatsGo m plan (roomB m mo warm) (plan.length - p.2.2.toNat) p.2.2.toNat p.2.1 = r ∧ (Sm (1000000 + 1000 * p.2.2) p.2.1 ∧ 0 ≤ p.2.2) ∧ p.2.2 ≤ plan.length ∧ p.1.length ≤ p.2.2}
    (fun ⟨⟨outs, h, i⟩, _⟩ => ⟨1, [(0, .d (benchD m mo)), (1, .d (ints plan)), (2, .d (bool warm)), (9, .ms 0 1 0 outs.length), (10, .d (int h)), (11, .fn 82 1 0 (fun _ => .d (benchD m mo)) (fun _ => .d .top)), (12, .d (int i))],
      [(0, .row true 2 1 outs.length (rowOf int 0 outs))], some 0⟩)
    (fun p => (plan.length - p.1.2.2).toNat) ⟨([], m.start, 0), hr0, ⟨⟨by simp only; omega, by simp only; omega⟩, by simp⟩, by simp, by simp⟩ ?_ Lf rfl (fun _ => rfl)
  rintro ⟨⟨outs, h, i⟩, hinv, ⟨⟨hb1, hb2⟩, hi0⟩, hi, hlen⟩
  simp only at hinv hb1 hb2 hlen hi hi0
  obtain ⟨hg1, hg2⟩ := hg
  obtain ⟨hfa1, hfa2⟩ := hfa
  have hroom : i < plan.length → (0 ≤ (m.hours.getD i.toNat default).lo ∧ (m.hours.getD i.toNat default).lo ≤ 40) ∧ 0 ≤ (m.hours.getD i.toNat default).hi ∧ (m.hours.getD i.toNat default).hi ≤ 40 := fun h0 => by
    have := hf.hours _ (getD_mem (i := i.toNat) (by omega) default)
    obtain ⟨⟨_, _⟩, ⟨_, _⟩, _, _⟩ := this
    omega
  have hrb := fun h0 : i < plan.length => roomB_getD (m := m) (i := i.toNat) (mo := mo) (warm := warm) (by omega)
  have hstep : ∀ rm, i < plan.length → (roomB m mo warm).getD i.toNat 0 = rm → Sm 1000 rm → (outs ++ [after m h rm (plan.getD i.toNat 0)]) ++ heatsGo m plan (roomB m mo warm) (plan.length - (i + 1).toNat) (i + 1).toNat (after m h rm (plan.getD i.toNat 0)) = r ∧ (Sm (1000000 + 1000 * (i + 1)) (after m h rm (plan.getD i.toNat 0)) ∧ 0 ≤ i + 1) ∧ i + 1 ≤ plan.length ∧ ((outs ++ [after m h rm (plan.getD i.toNat 0)]).length : Int) ≤ i + 1 := by
    intro rm h0 h1 h2
    have := after_sm (m := m) (heat := h) (room := rm) (grinds := plan.getD i.toNat 0) (b := 1000000 + 1000 * i) (by omega) ⟨hb1, hb2⟩ h2 ⟨hg1, hg2⟩ ⟨hfa1, hfa2⟩
    obtain ⟨_, _⟩ := this
    refine ⟨?_, ⟨⟨by omega, by omega⟩, by omega⟩, by omega, by simp; omega⟩
    rw [← hinv, heatsGo_succ (i := i.toNat) (by omega), h1, List.append_assoc, show (i + 1).toNat = i.toNat + 1 by omega]
    rfl
  have hend : ¬ i < plan.length → outs = r := fun h0 => by
    rw [← hinv, show plan.length - i.toNat = 0 by omega]
    simp [heatsGo]
  have ha := fun rm (h1 : Sm 1000 rm) => AfterP_spec m mo h rm (plan.getD i.toNat 0) ⟨⟨by omega, by omega⟩, ⟨by have := h1.1; omega, by have := h1.2; omega⟩, ⟨hg1, hg2⟩, ⟨hfa1, hfa2⟩⟩
  conv => whnf
  repeat' first
    | (refine Ob.a ?_; conv => whnf)
    | (refine Sp.tt ?_; conv => whnf)
    | (refine Sp.ff ?_; conv => whnf)
    | (refine Sp.yes ?_; conv => whnf)
    | (refine Sp.no ?_; conv => whnf)
    | (refine Sp.nyes ?_; conv => whnf)
    | (refine Sp.nno ?_; conv => whnf)
    | (refine Sp.ne (fun hc => ?_) (fun hc => ?_) <;> (conv => whnf))
    | (refine Sp.dec (fun hc => ?_) (fun hc => ?_) <;> (conv => whnf))
    | (refine Sp.ndec (fun hc => ?_) (fun hc => ?_) <;> (conv => whnf))
    | (refine Sp.mk (fun hc => ?_) (fun hc => ?_) <;> (conv => whnf))
    | (apply Cl.go; (conv => whnf); (first | refine Ob.call (ha ((m.hours.getD i.toNat default).hi + mo) ⟨by omega, by omega⟩) ?_ | refine Ob.call (ha (m.hours.getD i.toNat default).lo ⟨by omega, by omega⟩) ?_); (conv => whnf))
    | (refine Nx.mk (fun ka kb kx hx hs => ?_) (fun he => ?_) <;> (conv => whnf))
    | (refine Nx.mk (fun ka kx hx hs => ?_) (fun he => ?_) <;> (conv => whnf))
    | (refine Uk.mk (fun hn => ?_) ?_ <;> (conv => whnf))
    | (refine Fi.a ?_; conv => whnf)
    | (refine Yl.a ?_ ?_ <;> (conv => whnf))
    | (refine Ob.b ?_; conv => whnf)
  · refine ⟨rfl, ⟨(outs ++ [after m h ((m.hours.getD i.toNat default).hi + mo) (plan.getD i.toNat 0)], after m h ((m.hours.getD i.toNat default).hi + mo) (plan.getD i.toNat 0), i + 1), hstep _ (by omega) (by rw [hrb (by omega), hc]; rfl) ⟨by omega, by omega⟩⟩, Lf, by simp only; omega⟩
  · refine ⟨rfl, ⟨(outs ++ [after m h (m.hours.getD i.toNat default).lo (plan.getD i.toNat 0)], after m h (m.hours.getD i.toNat default).lo (plan.getD i.toNat 0), i + 1), hstep _ (by omega) (by rw [hrb (by omega), hc]; rfl) ⟨by omega, by omega⟩⟩, Lf, by simp only; omega⟩
  · have e := hend (by omega)
    exact Lf
end Go.Px.Try

/-! Pr3 -/
namespace Go.Px.Try
open Go Go.Proofs Go.Px

theorem heatsGo_nn {m : Mill} {plan room : List Int} (hg : 1 ≤ m.gain) (hr : ∀ j, 0 ≤ room.getD j 0) : ∀ (k i : Nat) (h : Int), ∀ x ∈ heatsGo m plan room k i h, 0 ≤ x
  | 0, _, _, x, hx => by cases hx
  | k + 1, i, h, x, hx => by
    rcases List.mem_cons.1 hx with rfl | hx
    · exact Int.le_trans (hr i) (after_ge hg)
    · exact heatsGo_nn hg hr k (i + 1) _ x hx
theorem roomB_nn {m : Mill} (h : ∀ x ∈ m.hours, HourOk x) {mo : Int} (hmo : 0 ≤ mo) (warm : Bool) (j : Nat) : 0 ≤ (roomB m mo warm).getD j 0 := by
  by_cases hj : j < m.hours.length
  · rw [roomB_getD hj]
    obtain ⟨⟨_, _⟩, ⟨_, _⟩, _, _⟩ := h _ (getD_mem hj default)
    split <;> omega
  · rw [List.getD_eq_getElem?_getD, List.getElem?_eq_none (by simp [roomB]; omega)]; simp
theorem roomB_length (m : Mill) (mo : Int) (warm : Bool) : (roomB m mo warm).length = m.hours.length := by simp [roomB]
theorem roomB_zero (m : Mill) (warm : Bool) : roomB m 0 warm = roomOf m warm := by simp [roomB, roomOf]
theorem roomB_up (m : Mill) (mo : Int) : roomB m mo true = up (room m) mo := by simp [roomB, up, room, roomOf]

theorem Safe_is {m : Mill} (h : ∀ x ∈ m.hours, HourOk x) (hl : 0 ≤ m.limit) (hg : 1 ≤ m.gain) {mo : Int} (hmo : 0 ≤ mo) (plan : List Int) (warm : Bool) :
    (∀ x ∈ heatsGo m plan (roomB m mo warm) plan.length 0 m.start, 0 ≤ x ∧ x ≤ m.limit) ↔ is m plan (roomB m mo warm) := by
  unfold is
  rw [greatest_le hl]
  exact ⟨fun h x hx => (h x hx).2, fun h2 x hx => ⟨heatsGo_nn hg (roomB_nn h hmo warm) _ _ _ x hx, h2 x hx⟩⟩

theorem SafeB_spec (m : Mill) (mo : Int) (plan : List Int) (warm : Bool) (hf : Fit m) (hlim : 0 ≤ m.limit) (hga : 1 ≤ m.gain) (hmo : 0 ≤ mo ∧ mo ≤ 100) (hl : plan.length = m.hours.length) : Fn Try.prog 61 [benchD m mo, ints plan, bool warm, int 0] (bool (decide (is m plan (roomB m mo warm)))) := by
  have h1 := HeatsB_spec m mo plan warm hf hmo hl
  have h2 := within_is 0 m.limit (heatsGo m plan (roomB m mo warm) plan.length 0 m.start) (is m plan (roomB m mo warm)) (by rw [heatsGo_length]; have := hf.n12; omega) (Safe_is hf.hours hlim hga hmo.1 plan warm)
  generalize heatsGo m plan (roomB m mo warm) plan.length 0 m.start = l at *
  generalize decide (is m plan (roomB m mo warm)) = b at *
  refine Fn.of_ex (cuts := []) tys hM Try.func61 rfl Try.call61 rfl ?_
  show exC Try.prog T [] _ false none 0 (entry 20 [benchD m mo, ints plan, bool warm, int 0]) (finQ T [ResultVar.tmp 8] _)
  conv => whnf
  repeat' first
    | (refine Ob.a ?_; conv => whnf)
    | (refine Sp.tt ?_; conv => whnf)
    | (refine Sp.ff ?_; conv => whnf)
    | (refine Sp.yes ?_; conv => whnf)
    | (refine Sp.no ?_; conv => whnf)
    | (refine Sp.nyes ?_; conv => whnf)
    | (refine Sp.nno ?_; conv => whnf)
    | (refine Sp.ne (fun hc => ?_) (fun hc => ?_) <;> (conv => whnf))
    | (refine Sp.dec (fun hc => ?_) (fun hc => ?_) <;> (conv => whnf))
    | (refine Sp.ndec (fun hc => ?_) (fun hc => ?_) <;> (conv => whnf))
    | (refine Sp.mk (fun hc => ?_) (fun hc => ?_) <;> (conv => whnf))
    | (apply Cl.go; (conv => whnf); (first | refine Ob.call (h1) ?_ | refine Ob.call (h2) ?_); (conv => whnf))
    | (refine Nx.mk (fun ka kb kx hx hs => ?_) (fun he => ?_) <;> (conv => whnf))
    | (refine Nx.mk (fun ka kx hx hs => ?_) (fun he => ?_) <;> (conv => whnf))
    | (refine Uk.mk (fun hn => ?_) ?_ <;> (conv => whnf))
    | (refine Fi.a ?_; conv => whnf)
    | (refine Yl.a ?_ ?_ <;> (conv => whnf))
    | (refine Ob.b ?_; conv => whnf)
  all_goals exact Lf

theorem open1_spec (x : Int) : Fn Try.prog 81 [int x] (bool (!decide (0 ≤ x ∧ x ≤ 1))) := by
  refine Fn.hide (D := fun r : Bool => bool r) fun r hr => ?_
  have e1 : x < 0 → r = true := fun h => by rw [← hr.h]; simp; omega
  have e2 : ¬ x < 0 → r = decide (1 < x) := fun h => by rw [← hr.h, Bool.eq_iff_iff]; simp; omega
  refine Fn.of_ex (cuts := []) tys hM Try.func81 rfl Try.call81 rfl ?_
  show exC Try.prog T [] _ false none 0 (entry 9 [int x]) (finQ T [ResultVar.tmp 2] _)
  conv => whnf
  repeat' first
    | (refine Ob.a ?_; conv => whnf)
    | (refine Sp.tt ?_; conv => whnf)
    | (refine Sp.ff ?_; conv => whnf)
    | (refine Sp.yes ?_; conv => whnf)
    | (refine Sp.no ?_; conv => whnf)
    | (refine Sp.nyes ?_; conv => whnf)
    | (refine Sp.nno ?_; conv => whnf)
    | (refine Sp.ne (fun hc => ?_) (fun hc => ?_) <;> (conv => whnf))
    | (refine Sp.dec (fun hc => ?_) (fun hc => ?_) <;> (conv => whnf))
    | (refine Sp.ndec (fun hc => ?_) (fun hc => ?_) <;> (conv => whnf))
    | (refine Sp.mk (fun hc => ?_) (fun hc => ?_) <;> (conv => whnf))
    | (refine Nx.mk (fun ka kb kx hx hs => ?_) (fun he => ?_) <;> (conv => whnf))
    | (refine Nx.mk (fun ka kx hx hs => ?_) (fun he => ?_) <;> (conv => whnf))
    | (refine Uk.mk (fun hn => ?_) ?_ <;> (conv => whnf))
    | (refine Fi.a ?_; conv => whnf)
    | (refine Yl.a ?_ ?_ <;> (conv => whnf))
    | (refine Ob.b ?_; conv => whnf)
  all_goals exact Lf

theorem contains80_spec (l : List Int) (hl : l.length < 1000000) : Fn Try.prog 80 [ints l, .fn 81 0 0 (fun _ => .top) (fun _ => .top)] (bool (!decide (∀ x ∈ l, Bit x))) := by
  have hc := contains80_0 l 81 (fun _ => .top) (fun x => !decide (0 ≤ x ∧ x ≤ 1)) hl fun x _ => open1_spec x
  have e : (l.any fun x => !decide (0 ≤ x ∧ x ≤ 1)) = !decide (∀ x ∈ l, Bit x) := by
    rw [Bool.eq_iff_iff]
    simp only [List.any_eq_true, Bool.not_eq_true', decide_eq_false_iff_not, Bool.not_eq_true, Classical.not_forall]
    constructor
    · rintro ⟨x, hx, h⟩; exact ⟨x, hx, fun hb => h (by unfold Bit at hb; omega)⟩
    · rintro ⟨x, hx, h⟩; exact ⟨x, hx, fun hb => h (by unfold Bit; omega)⟩
  rw [e] at hc
  exact hc
end Go.Px.Try

/-! Pr4 -/
namespace Go.Px.Try
open Go Go.Proofs Go.Px

def plansErr (m : Mill) : List (List Int) → Int
  | [] => 0
  | p :: l => if p.length ≠ m.hours.length then 15 else if ∀ x ∈ p, Bit x then plansErr m l else 3
def openErr (m : Mill) (l : List (List Int)) : Int := if checkMill m ≠ 0 then checkMill m else plansErr m l
theorem openErr_nil (m : Mill) : openErr m [] = checkMill m := by unfold openErr; split <;> simp_all [plansErr]
theorem openErr_one (m : Mill) (p : List Int) : openErr m [p] = planError m p := rfl

theorem drop_getD {α : Type} {l : List α} {i : Nat} (d : α) (h : i < l.length) : l.drop i = l.getD i d :: l.drop (i + 1) := by
  rw [List.drop_eq_getElem_cons h, List.getD_eq_getElem?_getD, List.getElem?_eq_getElem h]; rfl

set_option maxHeartbeats 4000000 in
theorem open_all (m : Mill) (l : List (List Int)) (hm : m.hours.length < 1000000) (hl : l.length < 1000000) (hp : ∀ p ∈ l, p.length < 1000000) (c : Int) (D : DV) (hc0 : openErr m l = c) (hD : (c = 0 ∧ D = benchD m 0) ∨ (c ≠ 0 ∧ D = nilP)) : Fn Try.prog 55 [millD m, plansD l] (tpl [D, int c]) := by
  have e0 : checkMill m ≠ 0 → c = checkMill m := fun h => by rw [← hc0]; exact if_pos h
  have e1 : checkMill m = 0 → c = plansErr m l := fun h => by rw [← hc0]; exact if_neg (fun hn => hn h)
  have hcm := CheckMillP_spec m hm
  generalize hb : checkMill m = b at *
  by_cases hb0 : b = 0
  case neg =>
    obtain rfl : c = b := e0 hb0
    rcases hD with ⟨hz, _⟩ | ⟨hz, rfl⟩
    · omega
    refine Fn.of_ex (cuts := []) tys hM Try.func55 rfl Try.call55 rfl ?_
    show exC Try.prog T [] _ false none 0 (entry 32 [millD m, plansD l]) (finQ T [ResultVar.tmp 4, ResultVar.tmp 5] _)
    conv => whnf
    repeat' first
      | (refine Ob.a ?_; conv => whnf)
      | (refine Sp.tt ?_; conv => whnf)
      | (refine Sp.ff ?_; conv => whnf)
      | (refine Sp.yes ?_; conv => whnf)
      | (refine Sp.no ?_; conv => whnf)
      | (refine Sp.nyes ?_; conv => whnf)
      | (refine Sp.nno ?_; conv => whnf)
      | (refine Sp.ne (fun hc => ?_) (fun hc => ?_) <;> (conv => whnf))
      | (refine Sp.dec (fun hc => ?_) (fun hc => ?_) <;> (conv => whnf))
      | (refine Sp.ndec (fun hc => ?_) (fun hc => ?_) <;> (conv => whnf))
      | (refine Sp.mk (fun hc => ?_) (fun hc => ?_) <;> (conv => whnf))
      | (apply Cl.go; (conv => whnf); (first | refine Ob.call (hcm) ?_); (conv => whnf))
      | (refine Nx.mk (fun ka kb kx hx hs => ?_) (fun he => ?_) <;> (conv => whnf))
      | (refine Nx.mk (fun ka kx hx hs => ?_) (fun he => ?_) <;> (conv => whnf))
      | (refine Uk.mk (fun hn => ?_) ?_ <;> (conv => whnf))
      | (refine Fi.a ?_; conv => whnf)
      | (refine Yl.a ?_ ?_ <;> (conv => whnf))
      | (refine Ob.b ?_; conv => whnf)
    all_goals exact Lf
  have e2 := e1 hb0
  clear e0 e1
  rcases hD with ⟨hz, rfl⟩ | ⟨hz, rfl⟩
  all_goals
    refine Fn.of_ex (cuts := []) tys hM Try.func55 rfl Try.call55 rfl ?_
    show exC Try.prog T [] _ false none 0 (entry 32 [millD m, plansD l]) (finQ T [ResultVar.tmp 4, ResultVar.tmp 5] _)
    conv => whnf
    repeat' first
      | (refine Ob.a ?_; conv => whnf)
      | (refine Sp.tt ?_; conv => whnf)
      | (refine Sp.ff ?_; conv => whnf)
      | (refine Sp.yes ?_; conv => whnf)
      | (refine Sp.no ?_; conv => whnf)
      | (refine Sp.nyes ?_; conv => whnf)
      | (refine Sp.nno ?_; conv => whnf)
      | (refine Sp.ne (fun hc => ?_) (fun hc => ?_) <;> (conv => whnf))
      | (refine Sp.dec (fun hc => ?_) (fun hc => ?_) <;> (conv => whnf))
      | (refine Sp.ndec (fun hc => ?_) (fun hc => ?_) <;> (conv => whnf))
      | (refine Sp.mk (fun hc => ?_) (fun hc => ?_) <;> (conv => whnf))
      | (apply Cl.go; (conv => whnf); (first | refine Ob.call (hcm) ?_); (conv => whnf))
      | (refine Nx.mk (fun ka kb kx hx hs => ?_) (fun he => ?_) <;> (conv => whnf))
      | (refine Nx.mk (fun ka kx hx hs => ?_) (fun he => ?_) <;> (conv => whnf))
      | (refine Uk.mk (fun hn => ?_) ?_ <;> (conv => whnf))
      | (refine Fi.a ?_; conv => whnf)
      | (refine Yl.a ?_ ?_ <;> (conv => whnf))
      | (refine Ob.b ?_; conv => whnf)
    refine Lp.go 32 {i : Int // (0 ≤ i ∧ i ≤ l.length) ∧ plansErr m (l.drop i.toNat) = c}
      (fun ⟨i, _⟩ => ⟨1, [(1, .d (plansD l)), (2, .ref 0 0), (14, .d (plansD l)), (15, .d (int l.length)), (16, .d (int i))],
        [(0, .cs true 5 fun j => .d ((millL m).getD j .top))], some 0⟩)
      (fun p => (l.length - p.1).toNat) ⟨0, ⟨by omega, by omega⟩, by simpa using e2.symm⟩ ?_ Lf rfl (fun _ => rfl)
    rintro ⟨i, ⟨hi0, hi⟩, hinv⟩
    have hpl : i < l.length → (l.getD i.toNat []).length < 1000000 := fun h => hp _ (getD_mem (by omega) _)
    have hs : i < l.length → plansErr m (l.drop i.toNat) = if (l.getD i.toNat []).length ≠ m.hours.length then 15 else if ∀ x ∈ l.getD i.toNat [], Bit x then plansErr m (l.drop (i + 1).toNat) else 3 := fun h => by
      rw [drop_getD [] (show i.toNat < l.length by omega), show (i + 1).toNat = i.toNat + 1 by omega]; rfl
    have f1 : i < l.length → ((l.getD i.toNat []).length : Int) ≠ m.hours.length → c = 15 := fun h h' => by
      rw [← hinv, hs h, if_pos (by omega)]
    have f2 : i < l.length → ((l.getD i.toNat []).length : Int) = m.hours.length → ¬ (∀ x ∈ l.getD i.toNat [], Bit x) → c = 3 := fun h h' h'' => by
      rw [← hinv, hs h, if_neg (by omega), if_neg h'']
    have f3 : i < l.length → ((l.getD i.toNat []).length : Int) = m.hours.length → (∀ x ∈ l.getD i.toNat [], Bit x) → plansErr m (l.drop (i + 1).toNat) = c := fun h h' h'' => by
      rw [← hinv, hs h, if_neg (by omega), if_pos h'']
    have f4 : ¬ i < l.length → c = 0 := fun h => by
      rw [← hinv, List.drop_eq_nil_of_le (by omega)]; rfl
    conv => whnf
    repeat' first
      | (refine Ob.a ?_; conv => whnf)
      | (refine Sp.tt ?_; conv => whnf)
      | (refine Sp.ff ?_; conv => whnf)
      | (refine Sp.yes ?_; conv => whnf)
      | (refine Sp.no ?_; conv => whnf)
      | (refine Sp.nyes ?_; conv => whnf)
      | (refine Sp.nno ?_; conv => whnf)
      | (refine Sp.ne (fun hc => ?_) (fun hc => ?_) <;> (conv => whnf))
      | (refine Sp.dec (fun hc => ?_) (fun hc => ?_) <;> (conv => whnf))
      | (refine Sp.ndec (fun hc => ?_) (fun hc => ?_) <;> (conv => whnf))
      | (refine Sp.mk (fun hc => ?_) (fun hc => ?_) <;> (conv => whnf))
      | (apply Cl.go; (conv => whnf); (first | refine Ob.call (contains80_spec (l.getD i.toNat []) (hpl (by omega))) ?_); (conv => whnf))
      | (refine Nx.mk (fun ka kb kx hx hs => ?_) (fun he => ?_) <;> (conv => whnf))
      | (refine Nx.mk (fun ka kx hx hs => ?_) (fun he => ?_) <;> (conv => whnf))
      | (refine Uk.mk (fun hn => ?_) ?_ <;> (conv => whnf))
      | (refine Fi.a ?_; conv => whnf)
      | (refine Yl.a ?_ ?_ <;> (conv => whnf))
      | (refine Ob.b ?_; conv => whnf)
    all_goals first | (exfalso; omega) | (have e := f1 (by omega) (by omega); exact Lf) | (have e := f2 (by omega) (by omega) hc; exact Lf) | (have e := f3 (by omega) (by omega) hc; exact ⟨rfl, ⟨i + 1, ⟨by omega, by omega⟩, e⟩, Lf, by simp only; omega⟩) | (have e := f4 (by omega); exact Lf)

theorem open_ok (m : Mill) (l : List (List Int)) (hm : m.hours.length < 1000000) (hl : l.length < 1000000) (hp : ∀ p ∈ l, p.length < 1000000) (h : openErr m l = 0) : Fn Try.prog 55 [millD m, plansD l] (tpl [benchD m 0, int 0]) := open_all m l hm hl hp 0 _ h (.inl ⟨rfl, rfl⟩)
theorem open_err (m : Mill) (l : List (List Int)) (hm : m.hours.length < 1000000) (hl : l.length < 1000000) (hp : ∀ p ∈ l, p.length < 1000000) (h : openErr m l ≠ 0) : Fn Try.prog 55 [millD m, plansD l] (tpl [nilP, int (openErr m l)]) := open_all m l hm hl hp _ _ rfl (.inr ⟨h, rfl⟩)
end Go.Px.Try

/-! Pr7 -/
namespace Go.Px.Try
open Go Go.Proofs Go.Px

/-- A step: does it grind, how much is ground, the heat at its end. -/
structure Stp where
  g : Int
  p : Int
  h : Int
instance : Inhabited Stp := ⟨⟨0, 0, 0⟩⟩
def stpD (s : Stp) : DV := st [int s.g, int s.p, int s.h]
def stp (m : Mill) (x : Hour) (h g : Int) : Stp := ⟨g, x.pounds * g, after m h x.hi g⟩
/-- What can be done in an hour without getting warmer than a limit. -/
def stps (m : Mill) (x : Hour) (h lim : Int) : List Stp :=
  (if after m h x.hi 0 ≤ lim then [stp m x h 0] else []) ++ (if after m h x.hi 1 ≤ lim then [stp m x h 1] else [])
def stpsC (m : Mill) (mo : Int) (i h lim : Int) : List DV := [.pt (.ag 1 fun _ => benchD m mo) 0, .pt (.ag 2 fun j => [int i, int h].getD j .top) 0, cellP lim]
def stpsF (m : Mill) (mo : Int) (i h lim : Int) : DV := .fn 87 0 3 (fun _ => .top) (fun j => (stpsC m mo i h lim).getD j .top)

def hourL (h : Hour) : List DV := [int h.lo, int h.hi, int h.pounds]

set_option maxHeartbeats 4000000 in
theorem steps1_spec (m : Mill) (mo : Int) (i h lim : Int) (hi : 0 ≤ i ∧ i < m.hours.length) (hh : Sm 1000 h) (hf : Fit m) (l : List Stp) (hl : l = stps m (m.hours.getD i.toNat default) h lim) :
    Seq Try.prog 87 [] (stpsC m mo i h lim) l.length (fun k => [stpD (l.getD k default)]) := by
  obtain ⟨hi0, hi1⟩ := hi
  obtain ⟨hg1, hg2⟩ := hf.gain
  obtain ⟨hf1, hf2⟩ := hf.fall
  obtain ⟨hh1, hh2⟩ := hh
  have hx := hf.hours _ (getD_mem (i := i.toNat) (by omega) default)
  obtain ⟨⟨_, _⟩, ⟨_, _⟩, _, _⟩ := hx
  have hA := fun g => AfterP_spec m mo h (m.hours.getD i.toNat default).hi g ⟨⟨by omega, by omega⟩, ⟨by omega, by omega⟩, ⟨hg1, hg2⟩, ⟨hf1, hf2⟩⟩
  by_cases h0 : after m h (m.hours.getD i.toNat default).hi 0 ≤ lim
  all_goals by_cases h1 : after m h (m.hours.getD i.toNat default).hi 1 ≤ lim
  all_goals simp only [stps, h0, h1, if_true, if_false] at hl
  all_goals subst hl
  · refine Seq.of_ex (cuts := []) tys hM Try.func87 rfl Try.call87 rfl rfl fun ly => ?_
    show exC Try.prog T [] _ false (some ⟨ly, _, _⟩) 0 (entry 45 ([] ++ [.v (.func (.yield ly) #[] #[])] ++ stpsC m mo i h lim)) (finY _)
    conv => whnf
    repeat' first
      | (refine Ob.a ?_; conv => whnf)
      | (refine Sp.tt ?_; conv => whnf)
      | (refine Sp.ff ?_; conv => whnf)
      | (refine Sp.yes ?_; conv => whnf)
      | (refine Sp.no ?_; conv => whnf)
      | (refine Sp.nyes ?_; conv => whnf)
      | (refine Sp.nno ?_; conv => whnf)
      | (refine Sp.ne (fun hc => ?_) (fun hc => ?_) <;> (conv => whnf))
      | (refine Sp.dec (fun hc => ?_) (fun hc => ?_) <;> (conv => whnf))
      | (refine Sp.ndec (fun hc => ?_) (fun hc => ?_) <;> (conv => whnf))
      | (refine Sp.mk (fun hc => ?_) (fun hc => ?_) <;> (conv => whnf))
      | (refine Nx.mk (fun ka kb kx hx hs => ?_) (fun he => ?_) <;> (conv => whnf))
      | (refine Nx.mk (fun ka kx hx hs => ?_) (fun he => ?_) <;> (conv => whnf))
      | (refine Uk.mk (fun hn => ?_) ?_ <;> (conv => whnf))
      | (refine Fi.a ?_; conv => whnf)
      | (refine Yl.a ?_ ?_ <;> (conv => whnf))
      | (refine Ob.b ?_; conv => whnf)
    refine Lp.go 45 {g : Int // g = 0 ∨ g = 1 ∨ g = 2} (fun ⟨g, _⟩ => ⟨1, [(0, .d (.v (.func (.yield ly) #[] #[]))), (1, .d ((stpsC m mo i h lim).getD 0 .top)), (2, .d ((stpsC m mo i h lim).getD 1 .top)), (3, .d ((stpsC m mo i h lim).getD 2 .top)), (5, .ref 0 0), (17, .d (int g))],
        [(0, .cs true 3 fun j => .d ((hourL (m.hours.getD i.toNat default)).getD j .top))], some (if g = 0 then 0 else if g = 1 then 1 else 2)⟩) (fun p => (2 - p.1).toNat) ⟨0, .inl rfl⟩ ?_ Lf rfl (fun _ => rfl)
    rintro ⟨g, rfl | rfl | rfl⟩
    · conv => whnf
      repeat' first
        | (refine Ob.a ?_; conv => whnf)
        | (refine Sp.tt ?_; conv => whnf)
        | (refine Sp.ff ?_; conv => whnf)
        | (refine Sp.yes ?_; conv => whnf)
        | (refine Sp.no ?_; conv => whnf)
        | (refine Sp.nyes ?_; conv => whnf)
        | (refine Sp.nno ?_; conv => whnf)
        | (refine Sp.ne (fun hc => ?_) (fun hc => ?_) <;> (conv => whnf))
        | (refine Sp.dec (fun hc => ?_) (fun hc => ?_) <;> (conv => whnf))
        | (refine Sp.ndec (fun hc => ?_) (fun hc => ?_) <;> (conv => whnf))
        | (refine Sp.mk (fun hc => ?_) (fun hc => ?_) <;> (conv => whnf))
        | (apply Cl.go; (conv => whnf); (first | refine Ob.call (hA 0) ?_); (conv => whnf))
        | (refine Nx.mk (fun ka kb kx hx hs => ?_) (fun he => ?_) <;> (conv => whnf))
        | (refine Nx.mk (fun ka kx hx hs => ?_) (fun he => ?_) <;> (conv => whnf))
        | (refine Uk.mk (fun hn => ?_) ?_ <;> (conv => whnf))
        | (refine Fi.a ?_; conv => whnf)
        | (refine Yl.a ?_ ?_ <;> (conv => whnf))
        | (refine Ob.b ?_; conv => whnf)
      all_goals first | exact .inl rfl | exact ⟨rfl, ⟨1, .inr (.inl rfl)⟩, Lf, by simp only; omega⟩
    · conv => whnf
      repeat' first
        | (refine Ob.a ?_; conv => whnf)
        | (refine Sp.tt ?_; conv => whnf)
        | (refine Sp.ff ?_; conv => whnf)
        | (refine Sp.yes ?_; conv => whnf)
        | (refine Sp.no ?_; conv => whnf)
        | (refine Sp.nyes ?_; conv => whnf)
        | (refine Sp.nno ?_; conv => whnf)
        | (refine Sp.ne (fun hc => ?_) (fun hc => ?_) <;> (conv => whnf))
        | (refine Sp.dec (fun hc => ?_) (fun hc => ?_) <;> (conv => whnf))
        | (refine Sp.ndec (fun hc => ?_) (fun hc => ?_) <;> (conv => whnf))
        | (refine Sp.mk (fun hc => ?_) (fun hc => ?_) <;> (conv => whnf))
        | (apply Cl.go; (conv => whnf); (first | refine Ob.call (hA 1) ?_); (conv => whnf))
        | (refine Nx.mk (fun ka kb kx hx hs => ?_) (fun he => ?_) <;> (conv => whnf))
        | (refine Nx.mk (fun ka kx hx hs => ?_) (fun he => ?_) <;> (conv => whnf))
        | (refine Uk.mk (fun hn => ?_) ?_ <;> (conv => whnf))
        | (refine Fi.a ?_; conv => whnf)
        | (refine Yl.a ?_ ?_ <;> (conv => whnf))
        | (refine Ob.b ?_; conv => whnf)
      all_goals first | exact .inl rfl | exact ⟨rfl, ⟨2, .inr (.inr rfl)⟩, Lf, by simp only; omega⟩
    · conv => whnf
      repeat' first
        | (refine Ob.a ?_; conv => whnf)
        | (refine Sp.tt ?_; conv => whnf)
        | (refine Sp.ff ?_; conv => whnf)
        | (refine Sp.yes ?_; conv => whnf)
        | (refine Sp.no ?_; conv => whnf)
        | (refine Sp.nyes ?_; conv => whnf)
        | (refine Sp.nno ?_; conv => whnf)
        | (refine Sp.ne (fun hc => ?_) (fun hc => ?_) <;> (conv => whnf))
        | (refine Sp.dec (fun hc => ?_) (fun hc => ?_) <;> (conv => whnf))
        | (refine Sp.ndec (fun hc => ?_) (fun hc => ?_) <;> (conv => whnf))
        | (refine Sp.mk (fun hc => ?_) (fun hc => ?_) <;> (conv => whnf))
        | (refine Nx.mk (fun ka kb kx hx hs => ?_) (fun he => ?_) <;> (conv => whnf))
        | (refine Nx.mk (fun ka kx hx hs => ?_) (fun he => ?_) <;> (conv => whnf))
        | (refine Uk.mk (fun hn => ?_) ?_ <;> (conv => whnf))
        | (refine Fi.a ?_; conv => whnf)
        | (refine Yl.a ?_ ?_ <;> (conv => whnf))
        | (refine Ob.b ?_; conv => whnf)
      first | exact .inl rfl | exact .inr rfl
  · refine Seq.of_ex (cuts := []) tys hM Try.func87 rfl Try.call87 rfl rfl fun ly => ?_
    show exC Try.prog T [] _ false (some ⟨ly, _, _⟩) 0 (entry 45 ([] ++ [.v (.func (.yield ly) #[] #[])] ++ stpsC m mo i h lim)) (finY _)
    conv => whnf
    repeat' first
      | (refine Ob.a ?_; conv => whnf)
      | (refine Sp.tt ?_; conv => whnf)
      | (refine Sp.ff ?_; conv => whnf)
      | (refine Sp.yes ?_; conv => whnf)
      | (refine Sp.no ?_; conv => whnf)
      | (refine Sp.nyes ?_; conv => whnf)
      | (refine Sp.nno ?_; conv => whnf)
      | (refine Sp.ne (fun hc => ?_) (fun hc => ?_) <;> (conv => whnf))
      | (refine Sp.dec (fun hc => ?_) (fun hc => ?_) <;> (conv => whnf))
      | (refine Sp.ndec (fun hc => ?_) (fun hc => ?_) <;> (conv => whnf))
      | (refine Sp.mk (fun hc => ?_) (fun hc => ?_) <;> (conv => whnf))
      | (refine Nx.mk (fun ka kb kx hx hs => ?_) (fun he => ?_) <;> (conv => whnf))
      | (refine Nx.mk (fun ka kx hx hs => ?_) (fun he => ?_) <;> (conv => whnf))
      | (refine Uk.mk (fun hn => ?_) ?_ <;> (conv => whnf))
      | (refine Fi.a ?_; conv => whnf)
      | (refine Yl.a ?_ ?_ <;> (conv => whnf))
      | (refine Ob.b ?_; conv => whnf)
    refine Lp.go 45 {g : Int // g = 0 ∨ g = 1 ∨ g = 2} (fun ⟨g, _⟩ => ⟨1, [(0, .d (.v (.func (.yield ly) #[] #[]))), (1, .d ((stpsC m mo i h lim).getD 0 .top)), (2, .d ((stpsC m mo i h lim).getD 1 .top)), (3, .d ((stpsC m mo i h lim).getD 2 .top)), (5, .ref 0 0), (17, .d (int g))],
        [(0, .cs true 3 fun j => .d ((hourL (m.hours.getD i.toNat default)).getD j .top))], some (if g = 0 then 0 else if g = 1 then 1 else 1)⟩) (fun p => (2 - p.1).toNat) ⟨0, .inl rfl⟩ ?_ Lf rfl (fun _ => rfl)
    rintro ⟨g, rfl | rfl | rfl⟩
    · conv => whnf
      repeat' first
        | (refine Ob.a ?_; conv => whnf)
        | (refine Sp.tt ?_; conv => whnf)
        | (refine Sp.ff ?_; conv => whnf)
        | (refine Sp.yes ?_; conv => whnf)
        | (refine Sp.no ?_; conv => whnf)
        | (refine Sp.nyes ?_; conv => whnf)
        | (refine Sp.nno ?_; conv => whnf)
        | (refine Sp.ne (fun hc => ?_) (fun hc => ?_) <;> (conv => whnf))
        | (refine Sp.dec (fun hc => ?_) (fun hc => ?_) <;> (conv => whnf))
        | (refine Sp.ndec (fun hc => ?_) (fun hc => ?_) <;> (conv => whnf))
        | (refine Sp.mk (fun hc => ?_) (fun hc => ?_) <;> (conv => whnf))
        | (apply Cl.go; (conv => whnf); (first | refine Ob.call (hA 0) ?_); (conv => whnf))
        | (refine Nx.mk (fun ka kb kx hx hs => ?_) (fun he => ?_) <;> (conv => whnf))
        | (refine Nx.mk (fun ka kx hx hs => ?_) (fun he => ?_) <;> (conv => whnf))
        | (refine Uk.mk (fun hn => ?_) ?_ <;> (conv => whnf))
        | (refine Fi.a ?_; conv => whnf)
        | (refine Yl.a ?_ ?_ <;> (conv => whnf))
        | (refine Ob.b ?_; conv => whnf)
      all_goals first | exact .inl rfl | exact ⟨rfl, ⟨1, .inr (.inl rfl)⟩, Lf, by simp only; omega⟩
    · conv => whnf
      repeat' first
        | (refine Ob.a ?_; conv => whnf)
        | (refine Sp.tt ?_; conv => whnf)
        | (refine Sp.ff ?_; conv => whnf)
        | (refine Sp.yes ?_; conv => whnf)
        | (refine Sp.no ?_; conv => whnf)
        | (refine Sp.nyes ?_; conv => whnf)
        | (refine Sp.nno ?_; conv => whnf)
        | (refine Sp.ne (fun hc => ?_) (fun hc => ?_) <;> (conv => whnf))
        | (refine Sp.dec (fun hc => ?_) (fun hc => ?_) <;> (conv => whnf))
        | (refine Sp.ndec (fun hc => ?_) (fun hc => ?_) <;> (conv => whnf))
        | (refine Sp.mk (fun hc => ?_) (fun hc => ?_) <;> (conv => whnf))
        | (apply Cl.go; (conv => whnf); (first | refine Ob.call (hA 1) ?_); (conv => whnf))
        | (refine Nx.mk (fun ka kb kx hx hs => ?_) (fun he => ?_) <;> (conv => whnf))
        | (refine Nx.mk (fun ka kx hx hs => ?_) (fun he => ?_) <;> (conv => whnf))
        | (refine Uk.mk (fun hn => ?_) ?_ <;> (conv => whnf))
        | (refine Fi.a ?_; conv => whnf)
        | (refine Yl.a ?_ ?_ <;> (conv => whnf))
        | (refine Ob.b ?_; conv => whnf)
      all_goals first | exact .inl rfl | exact ⟨rfl, ⟨2, .inr (.inr rfl)⟩, Lf, by simp only; omega⟩
    · conv => whnf
      repeat' first
        | (refine Ob.a ?_; conv => whnf)
        | (refine Sp.tt ?_; conv => whnf)
        | (refine Sp.ff ?_; conv => whnf)
        | (refine Sp.yes ?_; conv => whnf)
        | (refine Sp.no ?_; conv => whnf)
        | (refine Sp.nyes ?_; conv => whnf)
        | (refine Sp.nno ?_; conv => whnf)
        | (refine Sp.ne (fun hc => ?_) (fun hc => ?_) <;> (conv => whnf))
        | (refine Sp.dec (fun hc => ?_) (fun hc => ?_) <;> (conv => whnf))
        | (refine Sp.ndec (fun hc => ?_) (fun hc => ?_) <;> (conv => whnf))
        | (refine Sp.mk (fun hc => ?_) (fun hc => ?_) <;> (conv => whnf))
        | (refine Nx.mk (fun ka kb kx hx hs => ?_) (fun he => ?_) <;> (conv => whnf))
        | (refine Nx.mk (fun ka kx hx hs => ?_) (fun he => ?_) <;> (conv => whnf))
        | (refine Uk.mk (fun hn => ?_) ?_ <;> (conv => whnf))
        | (refine Fi.a ?_; conv => whnf)
        | (refine Yl.a ?_ ?_ <;> (conv => whnf))
        | (refine Ob.b ?_; conv => whnf)
      first | exact .inl rfl | exact .inr rfl
  · refine Seq.of_ex (cuts := []) tys hM Try.func87 rfl Try.call87 rfl rfl fun ly => ?_
    show exC Try.prog T [] _ false (some ⟨ly, _, _⟩) 0 (entry 45 ([] ++ [.v (.func (.yield ly) #[] #[])] ++ stpsC m mo i h lim)) (finY _)
    conv => whnf
    repeat' first
      | (refine Ob.a ?_; conv => whnf)
      | (refine Sp.tt ?_; conv => whnf)
      | (refine Sp.ff ?_; conv => whnf)
      | (refine Sp.yes ?_; conv => whnf)
      | (refine Sp.no ?_; conv => whnf)
      | (refine Sp.nyes ?_; conv => whnf)
      | (refine Sp.nno ?_; conv => whnf)
      | (refine Sp.ne (fun hc => ?_) (fun hc => ?_) <;> (conv => whnf))
      | (refine Sp.dec (fun hc => ?_) (fun hc => ?_) <;> (conv => whnf))
      | (refine Sp.ndec (fun hc => ?_) (fun hc => ?_) <;> (conv => whnf))
      | (refine Sp.mk (fun hc => ?_) (fun hc => ?_) <;> (conv => whnf))
      | (refine Nx.mk (fun ka kb kx hx hs => ?_) (fun he => ?_) <;> (conv => whnf))
      | (refine Nx.mk (fun ka kx hx hs => ?_) (fun he => ?_) <;> (conv => whnf))
      | (refine Uk.mk (fun hn => ?_) ?_ <;> (conv => whnf))
      | (refine Fi.a ?_; conv => whnf)
      | (refine Yl.a ?_ ?_ <;> (conv => whnf))
      | (refine Ob.b ?_; conv => whnf)
    refine Lp.go 45 {g : Int // g = 0 ∨ g = 1 ∨ g = 2} (fun ⟨g, _⟩ => ⟨1, [(0, .d (.v (.func (.yield ly) #[] #[]))), (1, .d ((stpsC m mo i h lim).getD 0 .top)), (2, .d ((stpsC m mo i h lim).getD 1 .top)), (3, .d ((stpsC m mo i h lim).getD 2 .top)), (5, .ref 0 0), (17, .d (int g))],
        [(0, .cs true 3 fun j => .d ((hourL (m.hours.getD i.toNat default)).getD j .top))], some (if g = 0 then 0 else if g = 1 then 0 else 1)⟩) (fun p => (2 - p.1).toNat) ⟨0, .inl rfl⟩ ?_ Lf rfl (fun _ => rfl)
    rintro ⟨g, rfl | rfl | rfl⟩
    · conv => whnf
      repeat' first
        | (refine Ob.a ?_; conv => whnf)
        | (refine Sp.tt ?_; conv => whnf)
        | (refine Sp.ff ?_; conv => whnf)
        | (refine Sp.yes ?_; conv => whnf)
        | (refine Sp.no ?_; conv => whnf)
        | (refine Sp.nyes ?_; conv => whnf)
        | (refine Sp.nno ?_; conv => whnf)
        | (refine Sp.ne (fun hc => ?_) (fun hc => ?_) <;> (conv => whnf))
        | (refine Sp.dec (fun hc => ?_) (fun hc => ?_) <;> (conv => whnf))
        | (refine Sp.ndec (fun hc => ?_) (fun hc => ?_) <;> (conv => whnf))
        | (refine Sp.mk (fun hc => ?_) (fun hc => ?_) <;> (conv => whnf))
        | (apply Cl.go; (conv => whnf); (first | refine Ob.call (hA 0) ?_); (conv => whnf))
        | (refine Nx.mk (fun ka kb kx hx hs => ?_) (fun he => ?_) <;> (conv => whnf))
        | (refine Nx.mk (fun ka kx hx hs => ?_) (fun he => ?_) <;> (conv => whnf))
        | (refine Uk.mk (fun hn => ?_) ?_ <;> (conv => whnf))
        | (refine Fi.a ?_; conv => whnf)
        | (refine Yl.a ?_ ?_ <;> (conv => whnf))
        | (refine Ob.b ?_; conv => whnf)
      all_goals first | exact .inl rfl | exact ⟨rfl, ⟨1, .inr (.inl rfl)⟩, Lf, by simp only; omega⟩
    · conv => whnf
      repeat' first
        | (refine Ob.a ?_; conv => whnf)
        | (refine Sp.tt ?_; conv => whnf)
        | (refine Sp.ff ?_; conv => whnf)
        | (refine Sp.yes ?_; conv => whnf)
        | (refine Sp.no ?_; conv => whnf)
        | (refine Sp.nyes ?_; conv => whnf)
        | (refine Sp.nno ?_; conv => whnf)
        | (refine Sp.ne (fun hc => ?_) (fun hc => ?_) <;> (conv => whnf))
        | (refine Sp.dec (fun hc => ?_) (fun hc => ?_) <;> (conv => whnf))
        | (refine Sp.ndec (fun hc => ?_) (fun hc => ?_) <;> (conv => whnf))
        | (refine Sp.mk (fun hc => ?_) (fun hc => ?_) <;> (conv => whnf))
        | (apply Cl.go; (conv => whnf); (first | refine Ob.call (hA 1) ?_); (conv => whnf))
        | (refine Nx.mk (fun ka kb kx hx hs => ?_) (fun he => ?_) <;> (conv => whnf))
        | (refine Nx.mk (fun ka kx hx hs => ?_) (fun he => ?_) <;> (conv => whnf))
        | (refine Uk.mk (fun hn => ?_) ?_ <;> (conv => whnf))
        | (refine Fi.a ?_; conv => whnf)
        | (refine Yl.a ?_ ?_ <;> (conv => whnf))
        | (refine Ob.b ?_; conv => whnf)
      all_goals first | exact .inl rfl | exact ⟨rfl, ⟨2, .inr (.inr rfl)⟩, Lf, by simp only; omega⟩
    · conv => whnf
      repeat' first
        | (refine Ob.a ?_; conv => whnf)
        | (refine Sp.tt ?_; conv => whnf)
        | (refine Sp.ff ?_; conv => whnf)
        | (refine Sp.yes ?_; conv => whnf)
        | (refine Sp.no ?_; conv => whnf)
        | (refine Sp.nyes ?_; conv => whnf)
        | (refine Sp.nno ?_; conv => whnf)
        | (refine Sp.ne (fun hc => ?_) (fun hc => ?_) <;> (conv => whnf))
        | (refine Sp.dec (fun hc => ?_) (fun hc => ?_) <;> (conv => whnf))
        | (refine Sp.ndec (fun hc => ?_) (fun hc => ?_) <;> (conv => whnf))
        | (refine Sp.mk (fun hc => ?_) (fun hc => ?_) <;> (conv => whnf))
        | (refine Nx.mk (fun ka kb kx hx hs => ?_) (fun he => ?_) <;> (conv => whnf))
        | (refine Nx.mk (fun ka kx hx hs => ?_) (fun he => ?_) <;> (conv => whnf))
        | (refine Uk.mk (fun hn => ?_) ?_ <;> (conv => whnf))
        | (refine Fi.a ?_; conv => whnf)
        | (refine Yl.a ?_ ?_ <;> (conv => whnf))
        | (refine Ob.b ?_; conv => whnf)
      first | exact .inl rfl | exact .inr rfl
  · refine Seq.of_ex (cuts := []) tys hM Try.func87 rfl Try.call87 rfl rfl fun ly => ?_
    show exC Try.prog T [] _ false (some ⟨ly, _, _⟩) 0 (entry 45 ([] ++ [.v (.func (.yield ly) #[] #[])] ++ stpsC m mo i h lim)) (finY _)
    conv => whnf
    repeat' first
      | (refine Ob.a ?_; conv => whnf)
      | (refine Sp.tt ?_; conv => whnf)
      | (refine Sp.ff ?_; conv => whnf)
      | (refine Sp.yes ?_; conv => whnf)
      | (refine Sp.no ?_; conv => whnf)
      | (refine Sp.nyes ?_; conv => whnf)
      | (refine Sp.nno ?_; conv => whnf)
      | (refine Sp.ne (fun hc => ?_) (fun hc => ?_) <;> (conv => whnf))
      | (refine Sp.dec (fun hc => ?_) (fun hc => ?_) <;> (conv => whnf))
      | (refine Sp.ndec (fun hc => ?_) (fun hc => ?_) <;> (conv => whnf))
      | (refine Sp.mk (fun hc => ?_) (fun hc => ?_) <;> (conv => whnf))
      | (refine Nx.mk (fun ka kb kx hx hs => ?_) (fun he => ?_) <;> (conv => whnf))
      | (refine Nx.mk (fun ka kx hx hs => ?_) (fun he => ?_) <;> (conv => whnf))
      | (refine Uk.mk (fun hn => ?_) ?_ <;> (conv => whnf))
      | (refine Fi.a ?_; conv => whnf)
      | (refine Yl.a ?_ ?_ <;> (conv => whnf))
      | (refine Ob.b ?_; conv => whnf)
    refine Lp.go 45 {g : Int // g = 0 ∨ g = 1 ∨ g = 2} (fun ⟨g, _⟩ => ⟨1, [(0, .d (.v (.func (.yield ly) #[] #[]))), (1, .d ((stpsC m mo i h lim).getD 0 .top)), (2, .d ((stpsC m mo i h lim).getD 1 .top)), (3, .d ((stpsC m mo i h lim).getD 2 .top)), (5, .ref 0 0), (17, .d (int g))],
        [(0, .cs true 3 fun j => .d ((hourL (m.hours.getD i.toNat default)).getD j .top))], some (if g = 0 then 0 else if g = 1 then 0 else 0)⟩) (fun p => (2 - p.1).toNat) ⟨0, .inl rfl⟩ ?_ Lf rfl (fun _ => rfl)
    rintro ⟨g, rfl | rfl | rfl⟩
    · conv => whnf
      repeat' first
        | (refine Ob.a ?_; conv => whnf)
        | (refine Sp.tt ?_; conv => whnf)
        | (refine Sp.ff ?_; conv => whnf)
        | (refine Sp.yes ?_; conv => whnf)
        | (refine Sp.no ?_; conv => whnf)
        | (refine Sp.nyes ?_; conv => whnf)
        | (refine Sp.nno ?_; conv => whnf)
        | (refine Sp.ne (fun hc => ?_) (fun hc => ?_) <;> (conv => whnf))
        | (refine Sp.dec (fun hc => ?_) (fun hc => ?_) <;> (conv => whnf))
        | (refine Sp.ndec (fun hc => ?_) (fun hc => ?_) <;> (conv => whnf))
        | (refine Sp.mk (fun hc => ?_) (fun hc => ?_) <;> (conv => whnf))
        | (apply Cl.go; (conv => whnf); (first | refine Ob.call (hA 0) ?_); (conv => whnf))
        | (refine Nx.mk (fun ka kb kx hx hs => ?_) (fun he => ?_) <;> (conv => whnf))
        | (refine Nx.mk (fun ka kx hx hs => ?_) (fun he => ?_) <;> (conv => whnf))
        | (refine Uk.mk (fun hn => ?_) ?_ <;> (conv => whnf))
        | (refine Fi.a ?_; conv => whnf)
        | (refine Yl.a ?_ ?_ <;> (conv => whnf))
        | (refine Ob.b ?_; conv => whnf)
      all_goals first | exact .inl rfl | exact ⟨rfl, ⟨1, .inr (.inl rfl)⟩, Lf, by simp only; omega⟩
    · conv => whnf
      repeat' first
        | (refine Ob.a ?_; conv => whnf)
        | (refine Sp.tt ?_; conv => whnf)
        | (refine Sp.ff ?_; conv => whnf)
        | (refine Sp.yes ?_; conv => whnf)
        | (refine Sp.no ?_; conv => whnf)
        | (refine Sp.nyes ?_; conv => whnf)
        | (refine Sp.nno ?_; conv => whnf)
        | (refine Sp.ne (fun hc => ?_) (fun hc => ?_) <;> (conv => whnf))
        | (refine Sp.dec (fun hc => ?_) (fun hc => ?_) <;> (conv => whnf))
        | (refine Sp.ndec (fun hc => ?_) (fun hc => ?_) <;> (conv => whnf))
        | (refine Sp.mk (fun hc => ?_) (fun hc => ?_) <;> (conv => whnf))
        | (apply Cl.go; (conv => whnf); (first | refine Ob.call (hA 1) ?_); (conv => whnf))
        | (refine Nx.mk (fun ka kb kx hx hs => ?_) (fun he => ?_) <;> (conv => whnf))
        | (refine Nx.mk (fun ka kx hx hs => ?_) (fun he => ?_) <;> (conv => whnf))
        | (refine Uk.mk (fun hn => ?_) ?_ <;> (conv => whnf))
        | (refine Fi.a ?_; conv => whnf)
        | (refine Yl.a ?_ ?_ <;> (conv => whnf))
        | (refine Ob.b ?_; conv => whnf)
      all_goals first | exact .inl rfl | exact ⟨rfl, ⟨2, .inr (.inr rfl)⟩, Lf, by simp only; omega⟩
    · conv => whnf
      repeat' first
        | (refine Ob.a ?_; conv => whnf)
        | (refine Sp.tt ?_; conv => whnf)
        | (refine Sp.ff ?_; conv => whnf)
        | (refine Sp.yes ?_; conv => whnf)
        | (refine Sp.no ?_; conv => whnf)
        | (refine Sp.nyes ?_; conv => whnf)
        | (refine Sp.nno ?_; conv => whnf)
        | (refine Sp.ne (fun hc => ?_) (fun hc => ?_) <;> (conv => whnf))
        | (refine Sp.dec (fun hc => ?_) (fun hc => ?_) <;> (conv => whnf))
        | (refine Sp.ndec (fun hc => ?_) (fun hc => ?_) <;> (conv => whnf))
        | (refine Sp.mk (fun hc => ?_) (fun hc => ?_) <;> (conv => whnf))
        | (refine Nx.mk (fun ka kb kx hx hs => ?_) (fun he => ?_) <;> (conv => whnf))
        | (refine Nx.mk (fun ka kx hx hs => ?_) (fun he => ?_) <;> (conv => whnf))
        | (refine Uk.mk (fun hn => ?_) ?_ <;> (conv => whnf))
        | (refine Fi.a ?_; conv => whnf)
        | (refine Yl.a ?_ ?_ <;> (conv => whnf))
        | (refine Ob.b ?_; conv => whnf)
      first | exact .inl rfl | exact .inr rfl

theorem steps_spec (m : Mill) (mo i h lim : Int) : Fn Try.prog 69 [benchD m mo, st [int i, int h], int lim] (stpsF m mo i h lim) := by
  refine Fn.of_ex (cuts := []) tys hM Try.func69 rfl Try.call69 rfl ?_
  show exC Try.prog T [] _ false none 0 (entry 8 [benchD m mo, st [int i, int h], int lim]) (finQ T [ResultVar.tmp 6] _)
  conv => whnf
  repeat' first
    | (refine Ob.a ?_; conv => whnf)
    | (refine Sp.tt ?_; conv => whnf)
    | (refine Sp.ff ?_; conv => whnf)
    | (refine Sp.yes ?_; conv => whnf)
    | (refine Sp.no ?_; conv => whnf)
    | (refine Sp.nyes ?_; conv => whnf)
    | (refine Sp.nno ?_; conv => whnf)
    | (refine Sp.ne (fun hc => ?_) (fun hc => ?_) <;> (conv => whnf))
    | (refine Sp.dec (fun hc => ?_) (fun hc => ?_) <;> (conv => whnf))
    | (refine Sp.ndec (fun hc => ?_) (fun hc => ?_) <;> (conv => whnf))
    | (refine Sp.mk (fun hc => ?_) (fun hc => ?_) <;> (conv => whnf))
    | (refine Nx.mk (fun ka kb kx hx hs => ?_) (fun he => ?_) <;> (conv => whnf))
    | (refine Nx.mk (fun ka kx hx hs => ?_) (fun he => ?_) <;> (conv => whnf))
    | (refine Uk.mk (fun hn => ?_) ?_ <;> (conv => whnf))
    | (refine Fi.a ?_; conv => whnf)
    | (refine Yl.a ?_ ?_ <;> (conv => whnf))
    | (refine Ob.b ?_; conv => whnf)
  all_goals exact Lf
end Go.Px.Try

/-! Pr9 -/
namespace Go.Px.Try
open Go Go.Proofs Go.Px

theorem row_first {α : Type} {enc : α → DV} {d : α} {x : α} {f g : Nat → DV} (h : CImp (g 0) (enc x)) : ∀ j, j < [x].length → CImp (apd 0 f g j) (rowOf enc d [x] j) := by
  intro j hj
  have : j = 0 := by simpa using hj
  subst this
  exact h

set_option maxHeartbeats 4000000 in
theorem append_spec (m : Mill) (mo : Int) (i h lim : Int) (hi : 0 ≤ i ∧ i < m.hours.length) (hh : Sm 1000 h) (hf : Fit m) (l : List Stp) (hl : l = stps m (m.hours.getD i.toNat default) h lim) :
    Fn Try.prog 86 [.v (.slice none 0 0), stpsF m mo i h lim] (slOf 3 stpD default l) := by
  have hs := steps1_spec m mo i h lim hi hh hf l hl
  have hlen : l.length ≤ 2 := by rw [hl]; unfold stps; split <;> split <;> simp
  clear hl
  refine Fn.of_ex (cuts := []) tys hM Try.func86 rfl Try.call86 rfl ?_
  show exC Try.prog T [] _ false none 0 (entry 13 [DV.v (Value.slice none 0 0), stpsF m mo i h lim]) (finQ T [ResultVar.tmp 4] _)
  conv => whnf
  repeat' first
    | (refine Ob.a ?_; conv => whnf)
    | (refine Sp.tt ?_; conv => whnf)
    | (refine Sp.ff ?_; conv => whnf)
    | (refine Sp.yes ?_; conv => whnf)
    | (refine Sp.no ?_; conv => whnf)
    | (refine Sp.nyes ?_; conv => whnf)
    | (refine Sp.nno ?_; conv => whnf)
    | (refine Sp.ne (fun hc => ?_) (fun hc => ?_) <;> (conv => whnf))
    | (refine Sp.dec (fun hc => ?_) (fun hc => ?_) <;> (conv => whnf))
    | (refine Sp.ndec (fun hc => ?_) (fun hc => ?_) <;> (conv => whnf))
    | (refine Sp.mk (fun hc => ?_) (fun hc => ?_) <;> (conv => whnf))
    | (refine Nx.mk (fun ka kb kx hx hs => ?_) (fun he => ?_) <;> (conv => whnf))
    | (refine Nx.mk (fun ka kx hx hs => ?_) (fun he => ?_) <;> (conv => whnf))
    | (refine Uk.mk (fun hn => ?_) ?_ <;> (conv => whnf))
    | (refine Fi.a ?_; conv => whnf)
    | (refine Yl.a ?_ ?_ <;> (conv => whnf))
    | (refine Ob.b ?_; conv => whnf)
  refine Rg.go 13 (some 0) 1 [(2, .ref 0 0)] {p : List Stp × Nat // p.1 = l.take p.2 ∧ p.2 ≤ l.length}
    (fun ⟨⟨o, k⟩, _⟩ => match k with
      | 0 => (1, [(0, .cs true 1 fun _ => .d (.v (.slice none 0 0)))])
      | _ + 1 => (2, [(0, .cs true 1 fun _ => .ms 1 3 0 o.length), (1, .row true 97 3 o.length (rowOf stpD default o))])) (fun p => p.1.2) ⟨([], 0), rfl, by simp⟩ hs ?_ ?_ rfl rfl rfl ?_ rfl rfl rfl rfl rfl (fun _ => rfl) rfl ?_ ?_ rfl
  · rintro ⟨⟨o, k⟩, ho, hk⟩ hk'
    simp only at ho hk hk'
    have ht : o ++ [l.getD k default] = l.take (k + 1) := by rw [ho, take_succ_getD l k default hk']
    have htl : o.length = k := by rw [ho, List.length_take]; omega
    cases k with
    | zero =>
      have e : o = [] := List.length_eq_zero_iff.1 htl
      conv => whnf
      repeat' first
        | (refine Ob.a ?_; conv => whnf)
        | (refine Sp.tt ?_; conv => whnf)
        | (refine Sp.ff ?_; conv => whnf)
        | (refine Sp.yes ?_; conv => whnf)
        | (refine Sp.no ?_; conv => whnf)
        | (refine Sp.nyes ?_; conv => whnf)
        | (refine Sp.nno ?_; conv => whnf)
        | (refine Sp.ne (fun hc => ?_) (fun hc => ?_) <;> (conv => whnf))
        | (refine Sp.dec (fun hc => ?_) (fun hc => ?_) <;> (conv => whnf))
        | (refine Sp.ndec (fun hc => ?_) (fun hc => ?_) <;> (conv => whnf))
        | (refine Sp.mk (fun hc => ?_) (fun hc => ?_) <;> (conv => whnf))
        | (refine Nx.mk (fun ka kb kx hx hs => ?_) (fun he => ?_) <;> (conv => whnf))
        | (refine Nx.mk (fun ka kx hx hs => ?_) (fun he => ?_) <;> (conv => whnf))
        | (refine Uk.mk (fun hn => ?_) ?_ <;> (conv => whnf))
        | (refine Fi.a ?_; conv => whnf)
        | (refine Yl.a ?_ ?_ <;> (conv => whnf))
        | (refine Ob.b ?_; conv => whnf)
      refine ⟨rfl, ⟨([l.getD 0 default], 0 + 1), by rw [← ht, e]; rfl, hk'⟩, rfl, ?_⟩
      repeat' first | (refine Edge.fast ?_) | ((conv => whnf); first | exact True.intro | (refine And.intro ?_ ?_) | exact rfl | exact Nat.le_of_eq (Nat.zero_add _) | exact ImpS.refl _ | ((conv => arg 1; whnf); first | exact ImpS.refl _ | (refine ImpS.nil_eq ?_) | (refine ImpS.vnil_eq ?_) | (refine ImpS.row ?_) | (refine ImpS.rowN ?_ ?_) | (refine ImpS.sl_eq ?_) | (refine ImpS.expl rfl ?_)) | (refine row_snoc' ?_) | (apply row_upd) | exact cimp_none | exact cimp_same | exact List.not_mem_nil | exact DImp.refl _) | exact rfl | (refine And.intro ?_ ?_) | exact ImpS.refl _
      all_goals first | omega | refine row_first ?_
      repeat' first | (refine Edge.fast ?_) | ((conv => whnf); first | exact True.intro | (refine And.intro ?_ ?_) | exact rfl | exact Nat.le_of_eq (Nat.zero_add _) | exact ImpS.refl _ | ((conv => arg 1; whnf); first | exact ImpS.refl _ | (refine ImpS.nil_eq ?_) | (refine ImpS.vnil_eq ?_) | (refine ImpS.row ?_) | (refine ImpS.rowN ?_ ?_) | (refine ImpS.sl_eq ?_) | (refine ImpS.expl rfl ?_)) | (refine row_snoc' ?_) | (apply row_upd) | exact cimp_none | exact cimp_same | exact List.not_mem_nil | exact DImp.refl _) | exact rfl | (refine And.intro ?_ ?_) | exact ImpS.refl _
    | succ k =>
      conv => whnf
      repeat' first
        | (refine Ob.a ?_; conv => whnf)
        | (refine Sp.tt ?_; conv => whnf)
        | (refine Sp.ff ?_; conv => whnf)
        | (refine Sp.yes ?_; conv => whnf)
        | (refine Sp.no ?_; conv => whnf)
        | (refine Sp.nyes ?_; conv => whnf)
        | (refine Sp.nno ?_; conv => whnf)
        | (refine Sp.ne (fun hc => ?_) (fun hc => ?_) <;> (conv => whnf))
        | (refine Sp.dec (fun hc => ?_) (fun hc => ?_) <;> (conv => whnf))
        | (refine Sp.ndec (fun hc => ?_) (fun hc => ?_) <;> (conv => whnf))
        | (refine Sp.mk (fun hc => ?_) (fun hc => ?_) <;> (conv => whnf))
        | (refine Nx.mk (fun ka kb kx hx hs => ?_) (fun he => ?_) <;> (conv => whnf))
        | (refine Nx.mk (fun ka kx hx hs => ?_) (fun he => ?_) <;> (conv => whnf))
        | (refine Uk.mk (fun hn => ?_) ?_ <;> (conv => whnf))
        | (refine Fi.a ?_; conv => whnf)
        | (refine Yl.a ?_ ?_ <;> (conv => whnf))
        | (refine Ob.b ?_; conv => whnf)
      have hl2 : (o ++ [l.getD (k + 1) default]).length = o.length + 1 := by simp
      exact ⟨rfl, ⟨(o ++ [l.getD (k + 1) default], k + 1 + 1), ht, hk'⟩, rfl, Lf⟩
  · rintro ⟨⟨o, k⟩, ho, hk⟩ hk'
    simp only at ho hk hk'
    have e : o = l := by rw [ho, show k = l.length from hk']; exact List.take_length
    cases k with
    | zero =>
      have e2 : l = [] := List.length_eq_zero_iff.1 hk'.symm
      conv => whnf
      repeat' first
        | (refine Ob.a ?_; conv => whnf)
        | (refine Sp.tt ?_; conv => whnf)
        | (refine Sp.ff ?_; conv => whnf)
        | (refine Sp.yes ?_; conv => whnf)
        | (refine Sp.no ?_; conv => whnf)
        | (refine Sp.nyes ?_; conv => whnf)
        | (refine Sp.nno ?_; conv => whnf)
        | (refine Sp.ne (fun hc => ?_) (fun hc => ?_) <;> (conv => whnf))
        | (refine Sp.dec (fun hc => ?_) (fun hc => ?_) <;> (conv => whnf))
        | (refine Sp.ndec (fun hc => ?_) (fun hc => ?_) <;> (conv => whnf))
        | (refine Sp.mk (fun hc => ?_) (fun hc => ?_) <;> (conv => whnf))
        | (refine Nx.mk (fun ka kb kx hx hs => ?_) (fun he => ?_) <;> (conv => whnf))
        | (refine Nx.mk (fun ka kx hx hs => ?_) (fun he => ?_) <;> (conv => whnf))
        | (refine Uk.mk (fun hn => ?_) ?_ <;> (conv => whnf))
        | (refine Fi.a ?_; conv => whnf)
        | (refine Yl.a ?_ ?_ <;> (conv => whnf))
        | (refine Ob.b ?_; conv => whnf)
      all_goals first | exact Lf
    | succ k =>
      conv => whnf
      repeat' first
        | (refine Ob.a ?_; conv => whnf)
        | (refine Sp.tt ?_; conv => whnf)
        | (refine Sp.ff ?_; conv => whnf)
        | (refine Sp.yes ?_; conv => whnf)
        | (refine Sp.no ?_; conv => whnf)
        | (refine Sp.nyes ?_; conv => whnf)
        | (refine Sp.nno ?_; conv => whnf)
        | (refine Sp.ne (fun hc => ?_) (fun hc => ?_) <;> (conv => whnf))
        | (refine Sp.dec (fun hc => ?_) (fun hc => ?_) <;> (conv => whnf))
        | (refine Sp.ndec (fun hc => ?_) (fun hc => ?_) <;> (conv => whnf))
        | (refine Sp.mk (fun hc => ?_) (fun hc => ?_) <;> (conv => whnf))
        | (refine Nx.mk (fun ka kb kx hx hs => ?_) (fun he => ?_) <;> (conv => whnf))
        | (refine Nx.mk (fun ka kx hx hs => ?_) (fun he => ?_) <;> (conv => whnf))
        | (refine Uk.mk (fun hn => ?_) ?_ <;> (conv => whnf))
        | (refine Fi.a ?_; conv => whnf)
        | (refine Yl.a ?_ ?_ <;> (conv => whnf))
        | (refine Ob.b ?_; conv => whnf)
      all_goals first | exact Lf
  · exact Lf
  · exact Lf
  · rintro ⟨⟨o, k⟩, ho, hk⟩
    cases k <;> rfl

theorem collect_spec (m : Mill) (mo : Int) (i h lim : Int) (hi : 0 ≤ i ∧ i < m.hours.length) (hh : Sm 1000 h) (hf : Fit m) (l : List Stp) (hl : l = stps m (m.hours.getD i.toNat default) h lim) :
    Fn Try.prog 68 [stpsF m mo i h lim] (slOf 3 stpD default l) := by
  have hs := append_spec m mo i h lim hi hh hf l hl
  clear hl
  refine Fn.of_ex (cuts := []) tys hM Try.func68 rfl Try.call68 rfl ?_
  show exC Try.prog T [] _ false none 0 (entry 5 [stpsF m mo i h lim]) (finQ T [ResultVar.tmp 2] _)
  conv => whnf
  repeat' first
    | (refine Ob.a ?_; conv => whnf)
    | (refine Sp.tt ?_; conv => whnf)
    | (refine Sp.ff ?_; conv => whnf)
    | (refine Sp.yes ?_; conv => whnf)
    | (refine Sp.no ?_; conv => whnf)
    | (refine Sp.nyes ?_; conv => whnf)
    | (refine Sp.nno ?_; conv => whnf)
    | (refine Sp.ne (fun hc => ?_) (fun hc => ?_) <;> (conv => whnf))
    | (refine Sp.dec (fun hc => ?_) (fun hc => ?_) <;> (conv => whnf))
    | (refine Sp.ndec (fun hc => ?_) (fun hc => ?_) <;> (conv => whnf))
    | (refine Sp.mk (fun hc => ?_) (fun hc => ?_) <;> (conv => whnf))
    | (apply Cl.go; (conv => whnf); (first | refine Ob.call (hs) ?_); (conv => whnf))
    | (refine Nx.mk (fun ka kb kx hx hs => ?_) (fun he => ?_) <;> (conv => whnf))
    | (refine Nx.mk (fun ka kx hx hs => ?_) (fun he => ?_) <;> (conv => whnf))
    | (refine Uk.mk (fun hn => ?_) ?_ <;> (conv => whnf))
    | (refine Fi.a ?_; conv => whnf)
    | (refine Yl.a ?_ ?_ <;> (conv => whnf))
    | (refine Ob.b ?_; conv => whnf)
  all_goals exact Lf
end Go.Px.Try

/-! Pr12 -/
namespace Go.Px.Try
open Go Go.Proofs Go.Px

def wide42 (nx : List Int) : DV := .ag 42 fun j => int (nx.getD j 0)
/-- A table as the program has it: rows of 42 numbers. -/
def tabD (t : List (List Int)) : DV := slOf 42 wide42 [] t
def tabC (t : List (List Int)) (i : Int) : Nat → DV := fun j => [.pt (.ag 1 fun _ => tabD t) 0, cellP i].getD j .top
def btr (t : List (List Int)) (i : Int) (x y : Stp) : Bool := decide (y.p + at2 t (i + 1) y.h < x.p + at2 t (i + 1) x.h)

set_option maxHeartbeats 4000000 in
theorem plan1_spec (t : List (List Int)) (i : Int) (hi : 0 ≤ i ∧ i + 1 < t.length ∧ i < 1000) (ht : ∀ r ∈ t, ∀ x ∈ r, 0 ≤ x ∧ x ≤ 100000) (x y : Stp) (hx : (0 ≤ x.h ∧ x.h ≤ 41) ∧ 0 ≤ x.p ∧ x.p ≤ 1000) (hy : (0 ≤ y.h ∧ y.h ≤ 41) ∧ 0 ≤ y.p ∧ y.p ≤ 1000) :
    Fn Try.prog 70 [stpD x, stpD y, tabC t i 0, tabC t i 1] (bool (btr t i x y)) := by
  have hb : ∀ h, 0 ≤ at2 t (i + 1) h ∧ at2 t (i + 1) h ≤ 100000 := fun h => by
    unfold at2
    by_cases h1 : h.toNat < (t.getD (i + 1).toNat []).length
    · exact ht _ (getD_mem (by omega) _) _ (getD_mem h1 _)
    · rw [List.getD_eq_getElem?_getD (l := t.getD (i + 1).toNat []), List.getElem?_eq_none (by omega)]; simp
  obtain ⟨_, _⟩ := hb x.h
  obtain ⟨_, _⟩ := hb y.h
  obtain ⟨⟨_, _⟩, _, _⟩ := hx
  obtain ⟨⟨_, _⟩, _, _⟩ := hy
  obtain ⟨_, _, _⟩ := hi
  have hz : ∀ a : Nat, 0 + a * ti2.size = a := fun a => by rw [show ti2.size = 1 from rfl]; omega
  have hgx : (t.getD (i + 1).toNat []).getD (0 + x.h.toNat * ti2.size) 0 = at2 t (i + 1) x.h := by rw [hz]; rfl
  have hgy : (t.getD (i + 1).toNat []).getD (0 + y.h.toNat * ti2.size) 0 = at2 t (i + 1) y.h := by rw [hz]; rfl
  have hux : 0 + x.h.toNat * ti2.size < 42 := by rw [hz]; omega
  have huy : 0 + y.h.toNat * ti2.size < 42 := by rw [hz]; omega
  clear hz
  refine Fn.of_ex (cuts := []) tys hM Try.func70 rfl Try.call70 rfl ?_
  show exC Try.prog T [] _ false none 0 (entry 30 [stpD x, stpD y, tabC t i 0, tabC t i 1]) (finQ T [ResultVar.tmp 6] _)
  conv => whnf
  repeat' first
    | (refine Ob.a ?_; conv => whnf)
    | (refine Sp.tt ?_; conv => whnf)
    | (refine Sp.ff ?_; conv => whnf)
    | (refine Sp.yes ?_; conv => whnf)
    | (refine Sp.no ?_; conv => whnf)
    | (refine Sp.nyes ?_; conv => whnf)
    | (refine Sp.nno ?_; conv => whnf)
    | (refine Sp.ne (fun hc => ?_) (fun hc => ?_) <;> (conv => whnf))
    | (refine Sp.dec (fun hc => ?_) (fun hc => ?_) <;> (conv => whnf))
    | (refine Sp.ndec (fun hc => ?_) (fun hc => ?_) <;> (conv => whnf))
    | (refine Sp.mk (fun hc => ?_) (fun hc => ?_) <;> (conv => whnf))
    | (refine Nx.mk (fun ka kb kx hx hs => ?_) (fun he => ?_) <;> (conv => whnf))
    | (refine Nx.mk (fun ka kx hx hs => ?_) (fun he => ?_) <;> (conv => whnf))
    | (refine Uk.mk (fun hn => ?_) ?_ <;> (conv => whnf))
    | (refine Fi.a ?_; conv => whnf)
    | (refine Yl.a ?_ ?_ <;> (conv => whnf))
    | (refine Ob.b ?_; conv => whnf)
  refine ⟨trivial, ?_⟩
  rw [hgx, hgy]
  rfl
end Go.Px.Try

/-! PrC -/
namespace Go.Proofs
open Go.Shelf
/-- The numbers of this program in the place of the shelf's. -/
def Try.clone93_ren : Go.Shelf.Ren where
  f := fun n => match n with
    | 5 => 93
    | 7 => 94
    | n => n
  t := fun n => match n with
    | 23 => 127
    | 25 => 105
    | 3 => 2
    | 4 => 4
    | 20 => 20
    | n => n
  g := fun n => n
theorem Try.clone93 : SlLaysW.n5 Try.prog Try.clone93_ren where
  mixed := Eq.refl true
  f5 := ⟨"maps.Clone[map[senvy/stone.moment]int64,senvy/stone.moment,int64]", of_decide_eq_true (by kernel_rfl), Try.func93.trans (congrArg some (by kernel_rfl))⟩
  f7 := Try.func94.trans (congrArg some (by kernel_rfl))
  t4 := Try.underlying4
  a4 := Try.isAgg4
  z4 := Try.sizeOf4
  v4 := Try.zeroValue4
  t20 := Try.underlying20
  a20 := Try.isAgg20
  z20 := Try.sizeOf20
  v20 := Try.zeroValue20
  t23 := Try.underlying127
  a23 := Try.isAgg127
  z23 := Try.sizeOf127
  v23 := Try.zeroValue127
end Go.Proofs
namespace Go.Px.Try
open Go Go.Proofs Go.Px Go.RowKit

theorem clone93_spec (kt : KT) (f : List Int → Option Int) : Fn Try.prog 93 [.mp kt f] (.mp kt f) := by
  refine ⟨Try.call93, fun S w vals hS hv => ?_⟩
  match vals, hv with
  | [u], ⟨⟨r, es, clock, hu, hr, hh, hm⟩, _⟩ =>
    subst hu
    refine (AnyW.maps_Clone Try.clone93 r es clock w hh).mono fun e w' ⟨he, hw⟩ => ?_
    subst hw
    have hB : Below w.heap.size w (w.alloc (.map es clock)) := (Below.refl _ w).alloc (Nat.le_refl _) _
    refine ⟨_, fun b => S b ∨ b = w.heap.size, he, ⟨w.heap.size, es, clock, rfl, .inr rfl, (MapKept.heap_alloc w _).1, hm⟩, fun b h => .inl h, fun b h => ?_, hB⟩
    rcases h with h | rfl
    · exact .inl h
    · exact .inr ⟨Nat.le_refl _, by have := (MapKept.heap_alloc w (.map es clock)).1; exact (Array.getElem?_eq_some_iff.1 this).1⟩
end Go.Px.Try

/-! Ma1 -/
namespace Go.Px.Try
open Go Go.Proofs Go.Px

/-- Heats, hour by hour. -/
def hs (m : Mill) : List Int → List Int → Int → List Int
  | r :: R, g :: p, h => after m h r g :: hs m R p (after m h r g)
  | _, _, _ => []
theorem heatsGo_hs (m : Mill) (plan room : List Int) (hl : plan.length ≤ room.length) : ∀ (k i : Nat) (h : Int), k = plan.length - i → heatsGo m plan room k i h = hs m (room.drop i) (plan.drop i) h
  | 0, i, h, hk => by
    rw [show plan.drop i = [] from List.drop_eq_nil_of_le (by omega)]
    cases room.drop i <;> rfl
  | k + 1, i, h, hk => by
    have h1 : i < plan.length := by omega
    have h2 : i < room.length := by omega
    rw [List.drop_eq_getElem_cons h1, List.drop_eq_getElem_cons h2, heatsGo, heatsGo_hs m plan room hl k (i + 1) _ (by omega), List.getD_eq_getElem?_getD, List.getElem?_eq_getElem h2, List.getD_eq_getElem?_getD, List.getElem?_eq_getElem h1]
    rfl
theorem heatsGo_hs0 {m : Mill} {plan room : List Int} (hl : plan.length ≤ room.length) (h : Int) : heatsGo m plan room plan.length 0 h = hs m room plan h :=
  heatsGo_hs m plan room hl plan.length 0 h rfl

/-- A plan that is safe. -/
def sf (m : Mill) (R p : List Int) (h : Int) : Prop := ∀ x ∈ hs m R p h, x ≤ m.limit
theorem sf_cons {m : Mill} {r g : Int} {R p : List Int} {h : Int} : sf m (r :: R) (g :: p) h ↔ after m h r g ≤ m.limit ∧ sf m R p (after m h r g) := by
  unfold sf
  rw [hs, List.forall_mem_cons]
theorem is_sf {m : Mill} {plan room : List Int} (hlim : 0 ≤ m.limit) (hl : plan.length ≤ room.length) : is m plan room ↔ sf m room plan m.start := by
  unfold is sf
  rw [greatest_le hlim, heatsGo_hs0 hl]

/-- How much is ground, hour by hour. -/
def gr : List Hour → List Int → Int
  | x :: H, g :: p => g * x.pounds + gr H p
  | _, _ => 0
theorem gr_snoc : ∀ (H : List Hour) (p : List Int) (g : Int), p.length < H.length → gr H (p ++ [g]) = gr H p + g * (H.getD p.length default).pounds
  | x :: H, [], g, _ => by cases H <;> simp [gr]
  | x :: H, y :: p, g, h => by
    have := gr_snoc H p g (by simpa using h)
    simp only [List.cons_append, gr, this, List.length_cons, List.getD_cons_succ]
    omega
theorem grindsTo_gr {m : Mill} {plan : List Int} (hl : plan.length ≤ m.hours.length) : ∀ k, k ≤ plan.length → grindsTo m plan k = gr m.hours (plan.take k)
  | 0, _ => by cases hh : m.hours <;> simp [grindsTo, gr]
  | k + 1, h => by
    rw [grindsTo, grindsTo_gr hl k (by omega), take_succ_getD plan k 0 (by omega), gr_snoc _ _ _ (by rw [List.length_take]; omega), List.length_take, Nat.min_eq_left (by omega)]
theorem grinds_gr {m : Mill} {plan : List Int} (hl : plan.length ≤ m.hours.length) : grinds m plan = gr m.hours plan := by
  rw [grinds, grindsTo_gr hl _ (Nat.le_refl _), List.take_of_length_le (Nat.le_refl _)]

/-- How much can be ground from a heat on. -/
def V (m : Mill) : List Hour → Int → Int
  | [], _ => 0
  | x :: H, h => if after m h x.hi 1 ≤ m.limit ∧ V m H (after m h x.hi 0) < x.pounds + V m H (after m h x.hi 1) then x.pounds + V m H (after m h x.hi 1) else V m H (after m h x.hi 0)
/-- The best plan from a heat on. -/
def B (m : Mill) : List Hour → Int → List Int
  | [], _ => []
  | x :: H, h => if after m h x.hi 1 ≤ m.limit ∧ V m H (after m h x.hi 0) < x.pounds + V m H (after m h x.hi 1) then 1 :: B m H (after m h x.hi 1) else 0 :: B m H (after m h x.hi 0)
def his (H : List Hour) : List Int := H.map (·.hi)
theorem room_his (m : Mill) : room m = his m.hours := by simp [room, roomOf, his]

theorem B_length (m : Mill) : ∀ (H : List Hour) (h : Int), (B m H h).length = H.length
  | [], _ => rfl
  | x :: H, h => by rw [B]; split <;> simp [B_length m H]
theorem B_bit (m : Mill) : ∀ (H : List Hour) (h : Int), ∀ x ∈ B m H h, Bit x
  | [], _ => by simp [B]
  | x :: H, h => by
    rw [B]
    split <;> intro y hy <;> rcases List.mem_cons.1 hy with rfl | hy
    · exact .inr rfl
    · exact B_bit m H _ y hy
    · exact .inl rfl
    · exact B_bit m H _ y hy
theorem gr_B (m : Mill) : ∀ (H : List Hour) (h : Int), gr H (B m H h) = V m H h
  | [], _ => rfl
  | x :: H, h => by
    rw [B, V]
    split <;> simp [gr, gr_B m H]
theorem V_nn (m : Mill) : ∀ (H : List Hour) (h : Int), 0 ≤ V m H h
  | [], _ => by simp [V]
  | x :: H, h => by
    rw [V]
    have := V_nn m H (after m h x.hi 0)
    split <;> omega
theorem V_le (m : Mill) {b : Int} : ∀ (H : List Hour) (h : Int), (∀ x ∈ H, 0 ≤ x.pounds ∧ x.pounds ≤ b) → V m H h ≤ b * H.length
  | [], _, _ => by simp [V]
  | x :: H, h, hb => by
    obtain ⟨hx, hx2⟩ := hb x (by simp)
    have h1 := V_le m H (after m h x.hi 0) fun y hy => hb y (by simp [hy])
    have h2 := V_le m H (after m h x.hi 1) fun y hy => hb y (by simp [hy])
    rw [V, List.length_cons, Int.natCast_add, Int.mul_add]
    split <;> omega

/-- No hour's room is too warm. -/
def Cool (m : Mill) (H : List Hour) : Prop := ∀ x ∈ H, x.hi ≤ m.limit
instance (m : Mill) (H : List Hour) : Decidable (Cool m H) := by unfold Cool; exact inferInstance
theorem after0_le {m : Mill} {h r : Int} (hf : 1 ≤ m.fall) (h1 : h ≤ m.limit) (h2 : r ≤ m.limit) : after m h r 0 ≤ m.limit := by
  unfold after; rw [if_neg (by omega)]; omega
theorem B_sf {m : Mill} (hf : 1 ≤ m.fall) : ∀ (H : List Hour) (h : Int), Cool m H → h ≤ m.limit → sf m (his H) (B m H h) h
  | [], _, _, _ => by intro x hx; cases hx
  | x :: H, h, hc, hh => by
    have hc' : Cool m H := fun y hy => hc y (by simp [hy])
    rw [B, his, List.map_cons]
    split
    · rename_i h1
      exact sf_cons.2 ⟨h1.1, B_sf hf H _ hc' h1.1⟩
    · have := after0_le hf hh (hc x (by simp))
      exact sf_cons.2 ⟨this, B_sf hf H _ hc' this⟩
theorem cool_of {m : Mill} (hg : 1 ≤ m.gain) : ∀ (H : List Hour) (p : List Int) (h : Int), p.length = H.length → sf m (his H) p h → Cool m H
  | [], _, _, _, _ => by intro x hx; cases hx
  | x :: H, [], _, hl, _ => by cases hl
  | x :: H, g :: p, h, hl, hs => by
    obtain ⟨h1, h2⟩ := sf_cons.1 (show sf m (x.hi :: his H) (g :: p) h from hs)
    intro y hy
    rcases List.mem_cons.1 hy with rfl | hy
    · exact Int.le_trans (after_ge hg) h1
    · exact cool_of hg H p _ (by simpa using hl) h2 y hy

/-- A plan comes before another one. -/
def lx : List Int → List Int → Prop
  | x :: p, y :: q => x < y ∨ x = y ∧ lx p q
  | _, _ => False
theorem lx_or {p q : List Int} (hl : p.length = q.length) : p = q ∨ lx p q ∨ lx q p := by
  induction p generalizing q with
  | nil => cases q with
    | nil => exact .inl rfl
    | cons y q => cases hl
  | cons x p ih => cases q with
    | nil => cases hl
    | cons y q =>
      rcases ih (q := q) (by simpa using hl) with rfl | h | h
      · rcases Int.lt_trichotomy x y with h | rfl | h
        · exact .inr (.inl (.inl h))
        · exact .inl rfl
        · exact .inr (.inr (.inl h))
      · rcases Int.lt_trichotomy x y with h1 | rfl | h1
        · exact .inr (.inl (.inl h1))
        · exact .inr (.inl (.inr ⟨rfl, h⟩))
        · exact .inr (.inr (.inl h1))
      · rcases Int.lt_trichotomy x y with h1 | rfl | h1
        · exact .inr (.inl (.inl h1))
        · exact .inr (.inr (.inr ⟨rfl, h⟩))
        · exact .inr (.inr (.inl h1))

/-- No safe plan grinds more than the best one, and none that comes before it grinds as much. -/
theorem V_best {m : Mill} (hg : 1 ≤ m.gain) : ∀ (H : List Hour) (p : List Int) (h : Int), p.length = H.length → (∀ x ∈ p, Bit x) → sf m (his H) p h → gr H p ≤ V m H h ∧ (lx p (B m H h) → gr H p < V m H h)
  | [], [], _, _, _, _ => by simp [gr, V, B, lx]
  | x :: H, [], _, hl, _, _ => by cases hl
  | [], y :: p, _, hl, _, _ => by cases hl
  | x :: H, g :: p, h, hl, hb, hs => by
    obtain ⟨h1, h2⟩ := sf_cons.1 (show sf m (x.hi :: his H) (g :: p) h from hs)
    obtain ⟨i1, i2⟩ := V_best hg H p _ (by simpa using hl) (fun y hy => hb y (by simp [hy])) h2
    rw [V, B, gr]
    rcases hb g (by simp) with rfl | rfl
    · rw [Int.zero_mul, Int.zero_add]
      split
      · exact ⟨by omega, fun _ => by omega⟩
      · refine ⟨i1, fun h => i2 ?_⟩
        rcases h with h | h
        · omega
        · exact h.2
    · rw [Int.one_mul]
      split
      · refine ⟨by omega, fun h => ?_⟩
        rcases h with h | h
        · omega
        · have := i2 h.2; omega
      · rename_i hn
        refine ⟨?_, fun h => ?_⟩
        · rcases Int.not_lt.1 (fun hlt => hn ⟨h1, hlt⟩) with h3
          omega
        · rcases h with h | h
          · omega
          · exact absurd h.1 (by omega)

/-- Bits in order are plans in order. -/
theorem bits_mod (a : Nat) : ∀ n, bitsGo (a % 2 ^ n) n = bitsGo a n := by
  have key : ∀ n k, n ≤ k → bitsGo (a % 2 ^ k) n = bitsGo a n := by
    intro n
    induction n with
    | zero => intros; rfl
    | succ n ih =>
      intro k hk
      rw [bitsGo, bitsGo, ih k (by omega)]
      have : a % 2 ^ k / 2 ^ n % 2 = a / 2 ^ n % 2 := by
        obtain ⟨c, rfl⟩ : ∃ c, k = n + 1 + c := ⟨k - (n + 1), by omega⟩
        rw [Nat.pow_add, Nat.pow_succ, Nat.mul_assoc, Nat.mod_mul_right_div_self, Nat.mod_mul_right_mod]
      rw [this]
  exact fun n => key n n (Nat.le_refl _)
theorem bits_lx : ∀ (n a b : Nat), a < b → b < 2 ^ n → lx (bitsGo a n) (bitsGo b n)
  | 0, a, b, h1, h2 => by simp at h2; omega
  | n + 1, a, b, h1, h2 => by
    rw [Nat.pow_succ] at h2
    have hp : 0 < 2 ^ n := Nat.two_pow_pos n
    have ha : a / 2 ^ n ≤ b / 2 ^ n := Nat.div_le_div_right (by omega)
    have hb : b / 2 ^ n < 2 := by rw [Nat.div_lt_iff_lt_mul hp]; omega
    have ea := Nat.div_add_mod a (2 ^ n)
    have eb := Nat.div_add_mod b (2 ^ n)
    rw [bitsGo, bitsGo]
    by_cases he : a / 2 ^ n = b / 2 ^ n
    · refine .inr ⟨by rw [he], ?_⟩
      rw [← bits_mod a, ← bits_mod b]
      rw [he] at ea
      exact bits_lx n _ _ (by omega) (Nat.mod_lt _ hp)
    · exact .inl (by rw [Nat.mod_eq_of_lt (by omega : a / 2 ^ n < 2), Nat.mod_eq_of_lt hb]; omega)
def num : List Int → Nat
  | [] => 0
  | x :: p => x.toNat * 2 ^ p.length + num p
theorem num_lt : ∀ (p : List Int), (∀ x ∈ p, Bit x) → num p < 2 ^ p.length
  | [], _ => by simp [num]
  | x :: p, h => by
    have := num_lt p fun y hy => h y (by simp [hy])
    rw [num, List.length_cons, Nat.pow_succ]
    rcases h x (by simp) with rfl | rfl
    · simp; omega
    · simp; omega
theorem bits_num : ∀ (p : List Int), (∀ x ∈ p, Bit x) → bitsGo (num p) p.length = p
  | [], _ => rfl
  | x :: p, h => by
    have h1 := num_lt p fun y hy => h y (by simp [hy])
    have ih := bits_num p fun y hy => h y (by simp [hy])
    have hp : 0 < 2 ^ p.length := Nat.two_pow_pos _
    have e : num (x :: p) = num p + 2 ^ p.length * x.toNat := by rw [num, Nat.mul_comm]; omega
    rw [List.length_cons, bitsGo, e, ← bits_mod, Nat.add_mul_mod_self_left, bits_mod, ih, Nat.add_mul_div_left _ _ hp, Nat.div_eq_of_lt h1]
    rcases h x (by simp) with rfl | rfl <;> rfl

theorem getD_isSome {α : Type} {o : Option α} {d : α} (h : o.isSome = true) : o = some (o.getD d) := by cases o <;> simp_all

/-- What is found by trying all. -/
theorem bestTo_B {m : Mill} (hg : 1 ≤ m.gain) (hf : 1 ≤ m.fall) (hlim : 0 ≤ m.limit) (hst : m.start ≤ m.limit) (hc : Cool m m.hours) : best m = some (B m m.hours m.start) := by
  have hsf : ∀ p : List Int, p.length = m.hours.length → (is m p (room m) ↔ sf m (his m.hours) p m.start) := fun p hp => by
    rw [is_sf hlim (by show _ ≤ (roomOf m true).length; rw [room_len, hp]; exact Nat.le_refl _), room_his]
  have hbl := B_length m m.hours m.start
  have hbb := B_bit m m.hours m.start
  have hBs := (hsf _ hbl).2 (B_sf hf m.hours m.start hc hst)
  have hBn := bits_num _ hbb
  have hBl := num_lt _ hbb
  have hBg : grinds m (B m m.hours m.start) = V m m.hours m.start := by rw [grinds_gr (by omega), gr_B]
  rw [hbl] at hBn hBl
  have hk : ∀ k, is m (bitsGo k m.hours.length) (room m) → grinds m (bitsGo k m.hours.length) ≤ V m m.hours m.start ∧ (k < num (B m m.hours m.start) → grinds m (bitsGo k m.hours.length) < V m m.hours m.start) := fun k h => by
    have h2 := V_best hg m.hours (bitsGo k m.hours.length) m.start (bitsGo_length _ _) (bitsGo_bit _ _) ((hsf _ (bitsGo_length _ _)).1 h)
    rw [grinds_gr (by rw [bitsGo_length]; exact Nat.le_refl _)]
    refine ⟨h2.1, fun hlt => h2.2 ?_⟩
    have := bits_lx m.hours.length k _ hlt hBl
    rwa [hBn] at this
  have before : ∀ k, k ≤ num (B m m.hours m.start) → ∀ q, bestTo m k = some q → grinds m q < V m m.hours m.start := by
    intro k
    induction k with
    | zero => intro _ q h; cases h
    | succ k ih =>
      intro hlt q h
      simp only [bestTo, bstep] at h
      split at h
      · rename_i hi
        have hq := (hk k hi).2 (by omega)
        split at h
        · cases h; exact hq
        · rename_i q' hq'
          split at h
          · cases h; exact hq
          · cases h; exact ih (by omega) _ hq'
      · exact ih (by omega) q h
  have at' : ∀ d, bestTo m (num (B m m.hours m.start) + 1 + d) = some (B m m.hours m.start) := by
    intro d
    induction d with
    | zero =>
      show bstep _ _ _ = _
      rw [hBn]
      unfold bstep
      rw [if_pos hBs]
      split
      · rfl
      · rename_i q hq
        rw [if_pos]
        rw [hBg]
        exact before _ (Nat.le_refl _) q hq
    | succ d ih =>
      rw [← Nat.add_assoc]
      show bstep _ _ _ = _
      rw [ih]
      unfold bstep
      split
      · rename_i hi
        have := (hk _ hi).1
        simp only
        rw [if_neg (by omega)]
      · rfl
  have := at' (2 ^ m.hours.length - (num (B m m.hours m.start) + 1))
  rwa [show num (B m m.hours m.start) + 1 + (2 ^ m.hours.length - (num (B m m.hours m.start) + 1)) = 2 ^ m.hours.length by omega] at this

theorem bestTo_none {m : Mill} (hg : 1 ≤ m.gain) (hlim : 0 ≤ m.limit) (hc : ¬ Cool m m.hours) : best m = none := by
  have : ∀ k, bestTo m k = none := by
    intro k
    induction k with
    | zero => rfl
    | succ k ih =>
      show bstep _ _ _ = _
      rw [ih]
      unfold bstep
      rw [if_neg]
      rw [is_sf hlim (by show _ ≤ (roomOf m true).length; rw [room_len, bitsGo_length]; exact Nat.le_refl _), room_his]
      exact fun h => hc (cool_of hg _ _ _ (bitsGo_length _ _) h)
  exact this _

/-- What the program's functions say. -/
def planP (m : Mill) : List Int × Int := if checkMill m ≠ 0 then ([], checkMill m) else if Cool m m.hours then (B m m.hours m.start, 0) else ([], 13)
def mostP (m : Mill) : Int × Int := if checkMill m ≠ 0 then (0, checkMill m) else if Cool m m.hours then (V m m.hours m.start, 0) else (0, 13)
def worthP (m : Mill) : Int × Int := if checkMill m ≠ 0 then (0, checkMill m) else if Cool m m.hours then (V (more m) m.hours m.start - V m m.hours m.start, 0) else (0, 13)

theorem planR_P (m : Mill) : planR m = planP m := by
  unfold planR planP
  split
  · rfl
  · rename_i h
    obtain ⟨_, hk, _⟩ := checkMill_zero (Decidable.of_not_not h)
    obtain ⟨⟨_, _⟩, ⟨_, _⟩, ⟨_, _⟩, _, _⟩ := hk
    by_cases hc : Cool m m.hours
    · rw [bestTo_B (by omega) (by omega) (by omega) (by omega) hc, if_pos hc]; rfl
    · rw [bestTo_none (by omega) (by omega) hc, if_neg hc]; rfl
theorem mostR_P (m : Mill) : mostR m = mostP m := by
  unfold mostR
  rw [planR_P]
  unfold planP mostP
  by_cases h : checkMill m = 0
  · by_cases hc : Cool m m.hours
    · simp only [h, hc, ne_eq, not_true_eq_false, if_false, if_true]
      rw [grinds_gr (by rw [B_length]; exact Nat.le_refl _), gr_B]
    · simp [h, hc]
  · simp [h]
theorem worthR_P (m : Mill) : worthR m = worthP m := by
  unfold worthR
  rw [mostR_P]
  unfold mostP worthP
  by_cases h : checkMill m = 0
  · by_cases hc : Cool m m.hours
    · obtain ⟨_, hk, _⟩ := checkMill_zero h
      obtain ⟨⟨_, _⟩, ⟨_, _⟩, ⟨_, _⟩, _, _⟩ := hk
      have := bestTo_B (m := more m) (by simp only [more]; omega) (by simp only [more]; omega) (by simp only [more]; omega) (by simp only [more]; omega) (fun x hx => by have := hc x hx; simp only [more]; omega)
      simp only [h, hc, ne_eq, not_true_eq_false, if_false, if_true]
      rw [this, Option.getD_some, grinds_gr (by rw [B_length]; exact Nat.le_refl _)]
      rw [show gr (more m).hours (B (more m) (more m).hours (more m).start) = V (more m) (more m).hours (more m).start from gr_B _ _ _]
      rfl
    · simp [h, hc]
  · simp [h]
end Go.Px.Try

/-! Pr11 -/
namespace Go.Px.Try
open Go Go.Proofs Go.Px

/-- What can be ground from a heat on, by the first steps of several: if what can be ground from the next hour on is known. -/
def wvTo (l : List Stp) (nx : List Int) (j : Nat) : Int := ((l.take j).map fun s => s.p + nx.getD s.h.toNat 0).foldl max (-1)
def wv (m : Mill) (x : Hour) (nx : List Int) (h : Int) : Int := wvTo (stps m x h m.limit) nx (stps m x h m.limit).length
def ktM : KT := ⟨true, 2⟩
/-- The map of an hour: up to a heat. -/
def mpTo (m : Mill) (i : Int) (nx : List Int) (k : Int) : List Int → Option Int
  | [a, b] => if a = i ∧ 0 ≤ b ∧ b < k then some (wv m (m.hours.getD i.toNat default) nx b) else none
  | _ => none
def mpW (m : Mill) (i : Int) (nx : List Int) (k w : Int) (key : List Int) : Option Int := if key = [i, k] then some w else mpTo m i nx k key

theorem wvTo_succ (l : List Stp) (nx : List Int) {j : Nat} (hj : j < l.length) : wvTo l nx (j + 1) = max (wvTo l nx j) ((l.getD j default).p + nx.getD (l.getD j default).h.toNat 0) := by
  unfold wvTo
  rw [take_succ_getD l j default hj, List.map_append, List.foldl_append]
  rfl
theorem stps_mem {m : Mill} {x : Hour} {h lim : Int} (hx : HourOk x) (hg : 1 ≤ m.gain) (h0 : 0 ≤ h) : ∀ s ∈ stps m x h lim, (0 ≤ s.h ∧ s.h ≤ lim) ∧ 0 ≤ s.p ∧ s.p ≤ 1000 := by
  obtain ⟨⟨_, _⟩, ⟨h1, h2⟩, h3, h4⟩ := hx
  have a0 : 0 ≤ after m h x.hi 0 := after_nn h0 h1 hg
  have a1 : 0 ≤ after m h x.hi 1 := after_nn h0 h1 hg
  intro s hs
  unfold stps at hs
  rcases List.mem_append.1 hs with hs | hs
  · split at hs
    · rw [List.mem_singleton.1 hs]; exact ⟨⟨a0, by assumption⟩, by simp [stp], by simp [stp]⟩
    · cases hs
  · split at hs
    · rw [List.mem_singleton.1 hs]; exact ⟨⟨a1, by assumption⟩, by simp [stp]; omega, by simp [stp]; omega⟩
    · cases hs
theorem mpW_last {m : Mill} {i : Int} {nx : List Int} {k : Int} (hk : 0 ≤ k) (key : List Int) : mpW m i nx k (wv m (m.hours.getD i.toNat default) nx k) key = mpTo m i nx (k + 1) key := by
  unfold mpW
  split
  · rename_i h; subst h; simp [mpTo, hk]; omega
  · rename_i h
    unfold mpTo
    split
    · rename_i a b
      by_cases hab : a = i ∧ 0 ≤ b ∧ b < k
      · rw [if_pos hab, if_pos (by omega)]
      · rw [if_neg hab, if_neg]
        rintro ⟨rfl, h1, h2⟩
        exact h (by rw [show b = k by omega])
    · rfl

theorem mpTo_some {m : Mill} {i : Int} {nx : List Int} {k : Int} {key : List Int} {x : Int} (h : mpTo m i nx k key = some x) : ∃ b, key = [i, b] ∧ 0 ≤ b ∧ b < k ∧ wv m (m.hours.getD i.toNat default) nx b = x := by
  unfold mpTo at h
  split at h
  · split at h
    · rename_i a b hab
      cases h
      exact ⟨b, by rw [hab.1], hab.2.1, hab.2.2, rfl⟩
    · cases h
  · cases h
theorem getD_nn {nx : List Int} (h : ∀ x ∈ nx, 0 ≤ x ∧ x ≤ 100000) (a : Nat) : 0 ≤ nx.getD a 0 := by
  by_cases h1 : a < nx.length
  · exact (h _ (getD_mem h1 _)).1
  · rw [List.getD_eq_getElem?_getD, List.getElem?_eq_none (by omega)]; simp
theorem wv_nn {m : Mill} {x : Hour} {nx : List Int} {h : Int} (_ : HourOk x) (hc : x.hi ≤ m.limit) (_ : 1 ≤ m.gain) (hf : 1 ≤ m.fall) (_ : 0 ≤ h) (hl : h ≤ m.limit) (hnx : ∀ x ∈ nx, 0 ≤ x ∧ x ≤ 100000) : 0 ≤ wv m x nx h := by
  have h0 := after0_le hf hl hc
  unfold wv wvTo stps
  rw [if_pos h0, List.take_length, List.singleton_append, List.map_cons, List.foldl_cons]
  refine Int.le_trans ?_ (foldl_max_ge _ _).1
  have := getD_nn hnx (stp m x h 0).h.toNat
  have e : (stp m x h 0).p = 0 := by simp [stp]
  omega

set_option maxHeartbeats 4000000 in
theorem reached_spec (m : Mill) (mo : Int) (i : Int) (nx : List Int) (hi : 0 ≤ i ∧ i < m.hours.length) (hf : Fit m) (hg : 1 ≤ m.gain) (hfa : 1 ≤ m.fall) (hlim : 0 ≤ m.limit ∧ m.limit ≤ 41) (hc : Cool m m.hours) (hnx : ∀ x ∈ nx, 0 ≤ x ∧ x ≤ 100000) :
    Fn Try.prog 89 [benchD m mo, int i, wide42 nx] (.mp ktM (mpTo m i nx (m.limit + 1))) := by
  obtain ⟨hl0, hl1⟩ := hlim
  have hnn : ∀ a : Nat, 0 ≤ nx.getD a 0 ∧ nx.getD a 0 ≤ 100000 := fun a => by
    by_cases h1 : a < nx.length
    · exact hnx _ (getD_mem h1 _)
    · rw [List.getD_eq_getElem?_getD, List.getElem?_eq_none (by omega)]; simp
  have hx := hf.hours _ (getD_mem (i := i.toNat) (by omega) default)
  have hxc := hc _ (getD_mem (i := i.toNat) (by omega) default)
  refine Fn.of_ex (cuts := []) tys hM Try.func89 rfl Try.call89 rfl ?_
  show exC Try.prog T [] _ false none 0 (entry 64 [benchD m mo, int i, wide42 nx]) (finQ T [ResultVar.tmp 6] _)
  conv => whnf
  repeat' first
    | (refine Ob.a ?_; conv => whnf)
    | (refine Sp.tt ?_; conv => whnf)
    | (refine Sp.ff ?_; conv => whnf)
    | (refine Sp.yes ?_; conv => whnf)
    | (refine Sp.no ?_; conv => whnf)
    | (refine Sp.nyes ?_; conv => whnf)
    | (refine Sp.nno ?_; conv => whnf)
    | (refine Sp.ne (fun hc => ?_) (fun hc => ?_) <;> (conv => whnf))
    | (refine Sp.dec (fun hc => ?_) (fun hc => ?_) <;> (conv => whnf))
    | (refine Sp.ndec (fun hc => ?_) (fun hc => ?_) <;> (conv => whnf))
    | (refine Sp.mk (fun hc => ?_) (fun hc => ?_) <;> (conv => whnf))
    | (refine Nx.mk (fun ka kb kx hx hs => ?_) (fun he => ?_) <;> (conv => whnf))
    | (refine Nx.mk (fun ka kx hx hs => ?_) (fun he => ?_) <;> (conv => whnf))
    | (refine Uk.mk (fun hn => ?_) ?_ <;> (conv => whnf))
    | (refine Fi.a ?_; conv => whnf)
    | (refine Yl.a ?_ ?_ <;> (conv => whnf))
    | (refine Ob.b ?_; conv => whnf)
  refine Lp.go 64 {p : Int × (List Int → Option Int) // (0 ≤ p.1 ∧ p.1 ≤ m.limit + 1) ∧ ∀ key, p.2 key = mpTo m i nx p.1 key}
    (fun ⟨⟨k, f⟩, _⟩ => ⟨3, [(0, .d (benchD m mo)), (1, .d (int i)), (5, .el 0 1 0 0), (7, .ref 1 0), (19, .d (int (m.limit + 1))), (20, .d (int k))],
      [(0, .row true 95 1 42 fun j => int (nx.getD j 0)), (1, .cs true 1 fun _ => .mp 2), (2, .mp true ktM f)], some 0⟩)
    (fun p => (m.limit + 1 - p.1.1).toNat) ⟨(0, fun _ => none), ⟨by simp, by simp only; omega⟩, ?_⟩ ?_ ?_ rfl (fun _ => rfl)
  · intro key
    unfold mpTo
    split
    · rw [if_neg]; omega
    · rfl
  · rintro ⟨⟨k, f⟩, ⟨hk0, hk⟩, hfk⟩
    simp only at hk0 hk hfk
    generalize hl : stps m (m.hours.getD i.toNat default) k m.limit = l
    have hsq := steps1_spec m mo i k m.limit hi ⟨by omega, by omega⟩ hf l hl.symm
    have hsp := steps_spec m mo i k m.limit
    have hmem : ∀ s ∈ l, (0 ≤ s.h ∧ s.h ≤ m.limit) ∧ 0 ≤ s.p ∧ s.p ≤ 1000 := hl ▸ stps_mem hx hg hk0
    have hwv : wv m (m.hours.getD i.toNat default) nx k = wvTo l nx l.length := by rw [wv, hl]
    have hlast := fun key => mpW_last (m := m) (i := i) (nx := nx) hk0 key
    have h1 : ∀ key, updM f [i, k] (-1) key = mpW m i nx k (wvTo l nx 0) key := fun key => by rw [updM, mpW, hfk]; rfl
    clear hl
    conv => whnf
    repeat' first
      | (refine Ob.a ?_; conv => whnf)
      | (refine Sp.tt ?_; conv => whnf)
      | (refine Sp.ff ?_; conv => whnf)
      | (refine Sp.yes ?_; conv => whnf)
      | (refine Sp.no ?_; conv => whnf)
      | (refine Sp.nyes ?_; conv => whnf)
      | (refine Sp.nno ?_; conv => whnf)
      | (refine Sp.ne (fun hc => ?_) (fun hc => ?_) <;> (conv => whnf))
      | (refine Sp.dec (fun hc => ?_) (fun hc => ?_) <;> (conv => whnf))
      | (refine Sp.ndec (fun hc => ?_) (fun hc => ?_) <;> (conv => whnf))
      | (refine Sp.mk (fun hc => ?_) (fun hc => ?_) <;> (conv => whnf))
      | (apply Cl.go; (conv => whnf); (first | refine Ob.call (hsp) ?_); (conv => whnf))
      | (refine Nx.mk (fun ka kb kx hx hs => ?_) (fun he => ?_) <;> (conv => whnf))
      | (refine Nx.mk (fun ka kx hx hs => ?_) (fun he => ?_) <;> (conv => whnf))
      | (refine Uk.mk (fun hn => ?_) ?_ <;> (conv => whnf))
      | (refine Fi.a ?_; conv => whnf)
      | (refine Yl.a ?_ ?_ <;> (conv => whnf))
      | (refine Ob.b ?_; conv => whnf)
    · refine Rg.go2 64 (some 0) 4 [(0, .d (benchD m mo)), (1, .d (int i)), (5, .el 0 1 0 0), (7, .ref 1 0), (9, .ref 3 0), (19, .d (int (m.limit + 1))), (20, .d (int k))]
        {p : Nat × (List Int → Option Int) // p.1 ≤ l.length ∧ ∀ key, p.2 key = mpW m i nx k (wvTo l nx p.1) key}
        (fun ⟨⟨j, f'⟩, _⟩ => (4, [(0, .row true 95 1 42 fun j => int (nx.getD j 0)), (1, .cs true 1 fun _ => .mp 2), (2, .mp true ktM f'), (3, .cs true 2 fun j => .d ([int i, int k].getD j .top))]))
        (fun p => p.1.1) ⟨(0, updM f [i, k] (-1)), by simp, h1⟩ hsq ?_ ?_ Lh (fun _ => rfl)
      · rintro ⟨⟨j0, f'⟩, hj, hf'⟩ j hj0 hj'
        simp only at hj hf' hj0
        subst hj0
        obtain ⟨⟨hs0, hs1⟩, hs2, hs3⟩ := hmem _ (getD_mem hj' default)
        have hws := wvTo_succ l nx hj'
        obtain ⟨hn0, hn1⟩ := hnn (0 + (l.getD j0 default).h.toNat)
        have hnext : ∀ key, updM f' [i, k] (max ((f' [i, k]).getD 0) ((l.getD j0 default).p + nx.getD (0 + (l.getD j0 default).h.toNat) 0)) key = mpW m i nx k (wvTo l nx (j0 + 1)) key := fun key => by
          unfold updM
          by_cases e : key = [i, k]
          · rw [if_pos e, hws, hf', e, Nat.zero_add]; simp [mpW]
          · rw [if_neg e, hf']; simp [mpW, e]
        conv => whnf
        repeat' first
          | (refine Ob.a ?_; conv => whnf)
          | (refine Sp.tt ?_; conv => whnf)
          | (refine Sp.ff ?_; conv => whnf)
          | (refine Sp.yes ?_; conv => whnf)
          | (refine Sp.no ?_; conv => whnf)
          | (refine Sp.nyes ?_; conv => whnf)
          | (refine Sp.nno ?_; conv => whnf)
          | (refine Sp.ne (fun hc => ?_) (fun hc => ?_) <;> (conv => whnf))
          | (refine Sp.dec (fun hc => ?_) (fun hc => ?_) <;> (conv => whnf))
          | (refine Sp.ndec (fun hc => ?_) (fun hc => ?_) <;> (conv => whnf))
          | (refine Sp.mk (fun hc => ?_) (fun hc => ?_) <;> (conv => whnf))
          | (refine Nx.mk (fun ka kb kx hx hs => ?_) (fun he => ?_) <;> (conv => whnf))
          | (refine Nx.mk (fun ka kx hx hs => ?_) (fun he => ?_) <;> (conv => whnf))
          | (refine Uk.mk (fun hn => ?_) ?_ <;> (conv => whnf))
          | (refine Fi.a ?_; conv => whnf)
          | (refine Yl.a ?_ ?_ <;> (conv => whnf))
          | (refine Ob.b ?_; conv => whnf)
        exact ⟨rfl, ⟨(j0 + 1, updM f' [i, k] (max ((f' [i, k]).getD 0) ((l.getD j0 default).p + nx.getD (0 + (l.getD j0 default).h.toNat) 0))), hj', hnext⟩, rfl, Lh⟩
      · rintro ⟨⟨j, f'⟩, hj, hf'⟩ hj'
        simp only at hj hf' hj'
        have hfin : ∀ key, f' key = mpTo m i nx (k + 1) key := fun key => by rw [hf', hj', ← hwv, hlast]
        conv => whnf
        repeat' first
          | (refine Ob.a ?_; conv => whnf)
          | (refine Sp.tt ?_; conv => whnf)
          | (refine Sp.ff ?_; conv => whnf)
          | (refine Sp.yes ?_; conv => whnf)
          | (refine Sp.no ?_; conv => whnf)
          | (refine Sp.nyes ?_; conv => whnf)
          | (refine Sp.nno ?_; conv => whnf)
          | (refine Sp.ne (fun hc => ?_) (fun hc => ?_) <;> (conv => whnf))
          | (refine Sp.dec (fun hc => ?_) (fun hc => ?_) <;> (conv => whnf))
          | (refine Sp.ndec (fun hc => ?_) (fun hc => ?_) <;> (conv => whnf))
          | (refine Sp.mk (fun hc => ?_) (fun hc => ?_) <;> (conv => whnf))
          | (refine Nx.mk (fun ka kb kx hx hs => ?_) (fun he => ?_) <;> (conv => whnf))
          | (refine Nx.mk (fun ka kx hx hs => ?_) (fun he => ?_) <;> (conv => whnf))
          | (refine Uk.mk (fun hn => ?_) ?_ <;> (conv => whnf))
          | (refine Fi.a ?_; conv => whnf)
          | (refine Yl.a ?_ ?_ <;> (conv => whnf))
          | (refine Ob.b ?_; conv => whnf)
        exact ⟨rfl, ⟨(k + 1, f'), ⟨by simp only; omega, by simp only; omega⟩, hfin⟩, Lh, by simp only; omega⟩
    · have hk1 : k = m.limit + 1 := by omega
      repeat' first
        | (refine Ob.a ?_; conv => whnf)
        | (refine Sp.tt ?_; conv => whnf)
        | (refine Sp.ff ?_; conv => whnf)
        | (refine Sp.yes ?_; conv => whnf)
        | (refine Sp.no ?_; conv => whnf)
        | (refine Sp.nyes ?_; conv => whnf)
        | (refine Sp.nno ?_; conv => whnf)
        | (refine Sp.ne (fun hc => ?_) (fun hc => ?_) <;> (conv => whnf))
        | (refine Sp.dec (fun hc => ?_) (fun hc => ?_) <;> (conv => whnf))
        | (refine Sp.ndec (fun hc => ?_) (fun hc => ?_) <;> (conv => whnf))
        | (refine Sp.mk (fun hc => ?_) (fun hc => ?_) <;> (conv => whnf))
        | (apply Cl.go; (conv => whnf); (first | refine Ob.call (clone93_spec ktM f) ?_); (conv => whnf))
        | (refine Nx.mk (fun ka kb kx hx hs => ?_) (fun he => ?_) <;> (conv => whnf))
        | (refine Nx.mk (fun ka kx hx hs => ?_) (fun he => ?_) <;> (conv => whnf))
        | (refine Uk.mk (fun hn => ?_) ?_ <;> (conv => whnf))
        | (refine Fi.a ?_; conv => whnf)
        | (refine Yl.a ?_ ?_ <;> (conv => whnf))
        | (refine Ob.b ?_; conv => whnf)
      refine Lp.snap [0, 1, 2, 6, 7, 53, 63] 40 ?_
      (conv => whnf)
      refine LpB.go 64 ({s : List (List Int) // s.Nodup ∧ ∀ x ∈ s, x ∈ (List.range (m.limit + 1).toNat).map fun (k : Nat) => [i, (k : Int)]}) 0 (fun ⟨s, _⟩ nx => ([], [(6, .it true ktM f s none)])) (fun p => (m.limit + 1).toNat - p.1.length) (⟨[], by simp⟩) ?_ ?_
      · rintro ⟨s, hs, hsub⟩
        have hlen := nodup_le _ s hs hsub
        rw [List.length_map, List.length_range] at hlen
        have hnew : ∀ k x, f k = some x → k ∉ s → ((k :: s).Nodup ∧ ∀ x ∈ k :: s, x ∈ (List.range (m.limit + 1).toNat).map fun (k : Nat) => [i, (k : Int)]) ∧ 0 ≤ x := fun k x hk hn => by
          rw [hfk, hk1] at hk
          obtain ⟨b, rfl, hb⟩ := mpTo_some hk
          refine ⟨⟨List.nodup_cons.2 ⟨hn, hs⟩, fun y hy => ?_⟩, ?_⟩
          · rcases List.mem_cons.1 hy with rfl | hy
            · exact List.mem_map.2 ⟨b.toNat, List.mem_range.2 (by omega), by rw [Int.toNat_of_nonneg hb.1]⟩
            · exact hsub y hy
          · rw [← hb.2.2]; exact wv_nn hx hxc hg hfa hb.1 (by omega) hnx
        conv => whnf
        repeat' first
          | (refine Ob.a ?_; conv => whnf)
          | (refine Sp.tt ?_; conv => whnf)
          | (refine Sp.ff ?_; conv => whnf)
          | (refine Sp.yes ?_; conv => whnf)
          | (refine Sp.no ?_; conv => whnf)
          | (refine Sp.nyes ?_; conv => whnf)
          | (refine Sp.nno ?_; conv => whnf)
          | (refine Sp.ne (fun hc => ?_) (fun hc => ?_) <;> (conv => whnf))
          | (refine Sp.dec (fun hc => ?_) (fun hc => ?_) <;> (conv => whnf))
          | (refine Sp.ndec (fun hc => ?_) (fun hc => ?_) <;> (conv => whnf))
          | (refine Sp.mk (fun hc => ?_) (fun hc => ?_) <;> (conv => whnf))
          | (refine Nx.mk (fun ka kb kx hx hs => ?_) (fun he => ?_) <;> (conv => whnf))
          | (refine Nx.mk (fun ka kx hx hs => ?_) (fun he => ?_) <;> (conv => whnf))
          | (refine Uk.mk (fun hn => ?_) ?_ <;> (conv => whnf))
          | (refine Fi.a ?_; conv => whnf)
          | (refine Yl.a ?_ ?_ <;> (conv => whnf))
          | (refine Ob.b ?_; conv => whnf)
        · exact absurd hc (by have := (hnew _ _ hx hs).2; omega)
        · have hl2 : s.length + 1 ≤ (m.limit + 1).toNat := by
            have := nodup_le _ ([ka, kb] :: s) (hnew _ _ hx hs).1.1 (hnew _ _ hx hs).1.2
            rwa [List.length_map, List.length_range, List.length_cons] at this
          exact ⟨rfl, ⟨[ka, kb] :: s, (hnew _ _ hx hs).1⟩, Lh, by simp only [List.length_cons]; omega⟩
        · exact ⟨rfl, fun key => by rw [hfk, hk1]⟩
      · exact Lh
  · exact Lh
end Go.Px.Try

/-! Pr13 -/
namespace Go.Px.Try
open Go Go.Proofs Go.Px

/-- What can be ground from an hour on, by heats. -/
def vrow (m : Mill) (i : Nat) : List Int := (List.range 42).map fun (h : Nat) => if (h : Int) ≤ m.limit then V m (m.hours.drop i) h else 0
/-- The table of the last k hours. -/
def tabTo (m : Mill) (k : Nat) : List (List Int) := (List.range (m.hours.length + 1)).map fun i => if m.hours.length - k ≤ i then vrow m i else []
def tab (m : Mill) : List (List Int) := (List.range (m.hours.length + 1)).map fun i => vrow m i

theorem tabTo_len (m : Mill) (k : Nat) : (tabTo m k).length = m.hours.length + 1 := by simp [tabTo]
theorem tabTo_getD (m : Mill) (k i : Nat) (h : i < m.hours.length + 1) : (tabTo m k).getD i [] = if m.hours.length - k ≤ i then vrow m i else [] := by
  rw [List.getD_eq_getElem?_getD, tabTo, List.getElem?_map, List.getElem?_range h]; rfl
theorem vrow_getD (m : Mill) (i h : Nat) (hh : h < 42) : (vrow m i).getD h 0 = if (h : Int) ≤ m.limit then V m (m.hours.drop i) h else 0 := by
  rw [List.getD_eq_getElem?_getD, vrow, List.getElem?_map, List.getElem?_range hh]; rfl

/-- A row as far as it is filled. -/
def rowS (m : Mill) (i : Nat) (s : List (List Int)) : List Int := (List.range 42).map fun (h : Nat) => if [(i : Int), (h : Int)] ∈ s then V m (m.hours.drop i) h else 0
def tabS (m : Mill) (k : Nat) (s : List (List Int)) : List (List Int) := (List.range (m.hours.length + 1)).map fun i => if m.hours.length - k ≤ i then vrow m i else if i + k + 1 = m.hours.length then rowS m i s else []
theorem tabS_len (m : Mill) (k : Nat) (s : List (List Int)) : (tabS m k s).length = m.hours.length + 1 := by simp [tabS]
theorem tabS_getD (m : Mill) (k i : Nat) (s : List (List Int)) (h : i < m.hours.length + 1) : (tabS m k s).getD i [] = if m.hours.length - k ≤ i then vrow m i else if i + k + 1 = m.hours.length then rowS m i s else [] := by
  rw [List.getD_eq_getElem?_getD, tabS, List.getElem?_map, List.getElem?_range h]; rfl
theorem rowS_getD (m : Mill) (i h : Nat) (s : List (List Int)) (hh : h < 42) : (rowS m i s).getD h 0 = if [(i : Int), (h : Int)] ∈ s then V m (m.hours.drop i) h else 0 := by
  rw [List.getD_eq_getElem?_getD, rowS, List.getElem?_map, List.getElem?_range hh]; rfl
theorem cimp_ag {n : Nat} {f g : Nat → DV} (h : ∀ j, j < n → f j = g j) : CImp (.ag n f) (.ag n g) := ⟨rfl, allN_iff.2 fun j hj => by rw [h j hj]; exact DImp.refl _⟩

theorem bif_cell {α : Type} {c d : Nat} {A B : α} : (bif Nat.ble (c * 1) d && Nat.blt d (c * 1 + 1) then A else B) = if d = c then A else B := by
  rw [Nat.mul_one]
  by_cases h : d = c
  · subst h
    rw [if_pos rfl, show (Nat.ble d d && Nat.blt d (d + 1)) = true by rw [Bool.and_eq_true]; exact ⟨Nat.ble_self_eq_true d, blt_iff.2 (Nat.lt_succ_self d)⟩]; rfl
  · rw [if_neg h]
    have : (Nat.ble c d && Nat.blt d (c + 1)) = false := by
      rw [Bool.eq_false_iff]
      intro hh
      rw [Bool.and_eq_true] at hh
      have h1 := Nat.le_of_ble_eq_true hh.1
      have h2 := Nat.le_of_ble_eq_true hh.2
      omega
    rw [this]; rfl
/-- A table with another number at a place. -/
theorem row_cell {n i c : Nat} {x : Int} {t t' : List (List Int)} {v : Nat → DV} (hv : ∀ d, d < 42 → v d = if d = c then int x else int ((t.getD i []).getD d 0)) (h : ∀ j, j < n → ∀ d, d < 42 → (t'.getD j []).getD d 0 = if j = i ∧ d = c then x else (t.getD j []).getD d 0) : ∀ j, j < n → CImp (upE i (.ag 42 v) (rowOf wide42 [] t) j) (rowOf wide42 [] t' j) := by
  intro j hj
  unfold upE rowOf
  by_cases e : j = i
  · rw [if_pos e]
    refine cimp_ag fun d hd => ?_
    rw [hv d hd, h j hj d hd]
    by_cases e2 : d = c
    · rw [if_pos e2, if_pos ⟨e, e2⟩]
    · rw [if_neg e2, if_neg fun h => e2 h.2, e]
  · rw [if_neg e]
    refine cimp_ag fun d hd => ?_
    rw [h j hj d hd, if_neg fun h => e h.1]
theorem row_same {n : Nat} {t t' : List (List Int)} (h : ∀ j, j < n → ∀ d, d < 42 → (t'.getD j []).getD d 0 = (t.getD j []).getD d 0) : ∀ j, j < n → CImp (rowOf wide42 [] t j) (rowOf wide42 [] t' j) :=
  fun j hj => cimp_ag fun d hd => by rw [h j hj d hd]
theorem row_zero {n i : Nat} {t' : List (List Int)} {f g : Nat → DV} (hf : ∀ d, d < 42 → f d = int 0) (hg : ∀ d, d < 42 → g d = int 0) (h : ∀ j, j < n → ∀ d, d < 42 → (t'.getD j []).getD d 0 = 0) : ∀ j, j < n → CImp (upE i (.ag 42 f) (fun _ => .ag 42 g) j) (rowOf wide42 [] t' j) := by
  intro j hj
  unfold upE rowOf
  split
  · exact cimp_ag fun d hd => by rw [hf d hd, h j hj d hd]
  · exact cimp_ag fun d hd => by rw [hg d hd, h j hj d hd]

theorem V_step {m : Mill} {x : Hour} {H : List Hour} {h : Int} : V m (x :: H) h = if after m h x.hi 1 ≤ m.limit ∧ V m H (after m h x.hi 0) < x.pounds + V m H (after m h x.hi 1) then x.pounds + V m H (after m h x.hi 1) else V m H (after m h x.hi 0) := rfl
/-- One more hour. -/
theorem wv_V {m : Mill} (hlim : m.limit ≤ 41) (hg : 1 ≤ m.gain) (hfa : 1 ≤ m.fall) {i : Nat} (hi : i < m.hours.length) (hx : HourOk (m.hours.getD i default)) (hc : (m.hours.getD i default).hi ≤ m.limit) {nx : List Int} (hnx : ∀ h : Nat, (h : Int) ≤ m.limit → nx.getD h 0 = V m (m.hours.drop (i + 1)) h) {b : Int} (hb : 0 ≤ b ∧ b ≤ m.limit) :
    wv m (m.hours.getD i default) nx b = V m (m.hours.drop i) b := by
  rw [drop_getD default hi, V_step]
  obtain ⟨⟨_, _⟩, ⟨_, _⟩, _, _⟩ := hx
  have h0 := after0_le hfa hb.2 hc
  have a0 : 0 ≤ after m b (m.hours.getD i default).hi 0 := after_nn hb.1 (by assumption) hg
  have a1 : 0 ≤ after m b (m.hours.getD i default).hi 1 := after_nn hb.1 (by assumption) hg
  have n0 := V_nn m (m.hours.drop (i + 1)) (after m b (m.hours.getD i default).hi 0)
  have n1 := V_nn m (m.hours.drop (i + 1)) (after m b (m.hours.getD i default).hi 1)
  have e0 : nx.getD (after m b (m.hours.getD i default).hi 0).toNat 0 = V m (m.hours.drop (i + 1)) (after m b (m.hours.getD i default).hi 0) := by
    rw [hnx _ (by rw [Int.toNat_of_nonneg a0]; exact h0), Int.toNat_of_nonneg a0]
  unfold wv wvTo stps
  rw [if_pos h0, List.take_length]
  by_cases h1 : after m b (m.hours.getD i default).hi 1 ≤ m.limit
  · have e1 : nx.getD (after m b (m.hours.getD i default).hi 1).toNat 0 = V m (m.hours.drop (i + 1)) (after m b (m.hours.getD i default).hi 1) := by
      rw [hnx _ (by rw [Int.toNat_of_nonneg a1]; exact h1), Int.toNat_of_nonneg a1]
    rw [if_pos h1]
    simp only [stp, List.cons_append, List.nil_append, List.map_cons, List.map_nil, List.foldl_cons, List.foldl_nil, Int.mul_zero, Int.mul_one, e0, e1]
    split
    · omega
    · rename_i hn
      have := Int.not_lt.1 fun hlt => hn ⟨h1, hlt⟩
      omega
  · rw [if_neg h1, if_neg fun h => h1 h.1]
    simp only [stp, List.cons_append, List.nil_append, List.append_nil, List.map_cons, List.map_nil, List.foldl_cons, List.foldl_nil, Int.mul_zero, e0]
    omega

theorem vrow_ok (m : Mill) {b : Int} (hp : ∀ x ∈ m.hours, 0 ≤ x.pounds ∧ x.pounds ≤ b) (hb : b * m.hours.length ≤ 100000) (hb0 : 0 ≤ b) (i : Nat) : ∀ x ∈ vrow m i, 0 ≤ x ∧ x ≤ 100000 := by
  intro x hx
  obtain ⟨h, _, rfl⟩ := List.mem_map.1 hx
  split
  · refine ⟨V_nn _ _ _, Int.le_trans (V_le m (b := b) _ _ fun y hy => hp y (List.mem_of_mem_drop hy)) (Int.le_trans ?_ hb)⟩
    exact Int.mul_le_mul_of_nonneg_left (by rw [List.length_drop]; omega) hb0
  · omega

set_option maxHeartbeats 4000000 in
theorem table_spec (m : Mill) (mo : Int) (hf : Fit m) (hg : 1 ≤ m.gain) (hfa : 1 ≤ m.fall) (hlim : 0 ≤ m.limit ∧ m.limit ≤ 41) (hc : Cool m m.hours) :
    Fn Try.prog 72 [benchD m mo] (tabD (tab m)) := by
  have hn := hf.n12
  have hlen := tabTo_len m
  have hvr := vrow_ok m (b := 1000) (fun x hx => by obtain ⟨_, _, _, _⟩ := hf.hours x hx; omega) (by omega) (by omega)
  refine Fn.of_ex (cuts := []) tys hM Try.func72 rfl Try.call72 rfl ?_
  show exC Try.prog T [] _ false none 0 (entry 66 [benchD m mo]) (finQ T [ResultVar.tmp 2] _)
  conv => whnf
  repeat' first
    | (refine Ob.a ?_; conv => whnf)
    | (refine Sp.tt ?_; conv => whnf)
    | (refine Sp.ff ?_; conv => whnf)
    | (refine Sp.yes ?_; conv => whnf)
    | (refine Sp.no ?_; conv => whnf)
    | (refine Sp.nyes ?_; conv => whnf)
    | (refine Sp.nno ?_; conv => whnf)
    | (refine Sp.ne (fun hc => ?_) (fun hc => ?_) <;> (conv => whnf))
    | (refine Sp.dec (fun hc => ?_) (fun hc => ?_) <;> (conv => whnf))
    | (refine Sp.ndec (fun hc => ?_) (fun hc => ?_) <;> (conv => whnf))
    | (refine Sp.mk (fun hc => ?_) (fun hc => ?_) <;> (conv => whnf))
    | (refine Nx.mk (fun ka kb kx hx hs => ?_) (fun he => ?_) <;> (conv => whnf))
    | (refine Nx.mk (fun ka kx hx hs => ?_) (fun he => ?_) <;> (conv => whnf))
    | (refine Uk.mk (fun hn => ?_) ?_ <;> (conv => whnf))
    | (refine Fi.a ?_; conv => whnf)
    | (refine Yl.a ?_ ?_ <;> (conv => whnf))
    | (refine Ob.b ?_; conv => whnf)
  refine Lp.snap [0, 2, 3, 30, 65] 40 ?_
  (conv => whnf)
  refine LpB.go 66 ({k : Int // 0 ≤ k ∧ k ≤ m.hours.length}) 0 (fun ⟨k, _⟩ nx => ([(31, .d (int k))], [(8, .row true 95 42 (m.hours.length + 1) (rowOf wide42 [] (tabTo m k.toNat)))])) (fun p => (m.hours.length - p.1).toNat) (⟨0, by omega, by omega⟩) ?_ ?_
  · rintro ⟨k, hk0, hk⟩
    have hnx : k < m.hours.length → (tabTo m k.toNat).getD (0 + (m.hours.length - 1 - k + 1 : Int).toNat) [] = vrow m (m.hours.length - 1 - k + 1 : Int).toNat := fun h => by
      rw [Nat.zero_add, tabTo_getD _ _ _ (by omega), if_pos (by omega)]
    have hre : k < m.hours.length → _ := fun h => reached_spec m mo (m.hours.length - 1 - k) ((tabTo m k.toNat).getD (0 + (m.hours.length - 1 - k + 1 : Int).toNat) []) ⟨by omega, by omega⟩ hf hg hfa hlim hc (by rw [hnx h]; exact hvr _)
    generalize hF : mpTo m (m.hours.length - 1 - k) ((tabTo m k.toNat).getD (0 + (m.hours.length - 1 - k + 1 : Int).toNat) []) (m.limit + 1) = F at hre
    have hFs : k < m.hours.length → ∀ a b x, F [a, b] = some x → a = m.hours.length - 1 - k ∧ (0 ≤ b ∧ b ≤ m.limit) ∧ x = V m (m.hours.drop (m.hours.length - 1 - k : Int).toNat) b := fun h a b x hx => by
      rw [← hF] at hx
      obtain ⟨b', e, hb⟩ := mpTo_some hx
      cases e
      refine ⟨rfl, ⟨hb.1, by omega⟩, ?_⟩
      have hi : (m.hours.length - 1 - k : Int).toNat < m.hours.length := by omega
      rw [← hb.2.2]
      refine wv_V hlim.2 hg hfa hi (hf.hours _ (getD_mem hi _)) (hc _ (getD_mem hi _)) (fun h' hh => ?_) ⟨hb.1, by omega⟩
      rw [hnx h, vrow_getD _ _ _ (by omega), if_pos hh, show (m.hours.length - 1 - k + 1 : Int).toNat = (m.hours.length - 1 - k : Int).toNat + 1 by omega]
    have hFa : k < m.hours.length → ∀ b : Int, 0 ≤ b → b ≤ m.limit → (F [m.hours.length - 1 - k, b]).isSome := fun h b h0 h1 => by
      rw [← hF]; simp only [mpTo, true_and]; rw [if_pos ⟨h0, by omega⟩]; rfl
    conv => whnf
    repeat' first
      | (refine Ob.a ?_; conv => whnf)
      | (refine Sp.tt ?_; conv => whnf)
      | (refine Sp.ff ?_; conv => whnf)
      | (refine Sp.yes ?_; conv => whnf)
      | (refine Sp.no ?_; conv => whnf)
      | (refine Sp.nyes ?_; conv => whnf)
      | (refine Sp.nno ?_; conv => whnf)
      | (refine Sp.ne (fun hc => ?_) (fun hc => ?_) <;> (conv => whnf))
      | (refine Sp.dec (fun hc => ?_) (fun hc => ?_) <;> (conv => whnf))
      | (refine Sp.ndec (fun hc => ?_) (fun hc => ?_) <;> (conv => whnf))
      | (refine Sp.mk (fun hc => ?_) (fun hc => ?_) <;> (conv => whnf))
      | (apply Cl.go; (conv => whnf); (first | refine Ob.call (hre (by omega)) ?_); (conv => whnf))
      | (refine Nx.mk (fun ka kb kx hx hs => ?_) (fun he => ?_) <;> (conv => whnf))
      | (refine Nx.mk (fun ka kx hx hs => ?_) (fun he => ?_) <;> (conv => whnf))
      | (refine Uk.mk (fun hn => ?_) ?_ <;> (conv => whnf))
      | (refine Fi.a ?_; conv => whnf)
      | (refine Yl.a ?_ ?_ <;> (conv => whnf))
      | (refine Ob.b ?_; conv => whnf)
    · have hki : ((m.hours.length - 1 - k : Int).toNat : Int) = m.hours.length - 1 - k := Int.toNat_of_nonneg (by omega)
      refine Lp.snap [0, 2, 3, 4, 5, 30, 31, 33, 34, 35, 36, 37, 38, 39, 40, 41, 42, 43, 44, 45, 46, 47, 48, 49, 50, 51, 64, 65] 40 ?_
      (conv => whnf)
      refine LpB.go 66 ({s : List (List Int) // s.Nodup ∧ ∀ x ∈ s, x ∈ (List.range (m.limit + 1).toNat).map fun (b : Nat) => [(m.hours.length : Int) - 1 - k, (b : Int)]}) 0 (fun ⟨s, _⟩ nx => ([], [(8, .row true 95 42 (m.hours.length + 1) (rowOf wide42 [] (tabS m k.toNat s))), (30, .it true ktM F s none)])) (fun p => (m.limit + 1).toNat - p.1.length) (⟨[], by simp⟩) ?_ ?_
      · rintro ⟨s, hs, hsub⟩
        conv => whnf
        refine Nx.mk (fun ka kb kx hx hns => ?_) (fun he => ?_)
        · obtain ⟨rfl, ⟨hb0, hb1⟩, hv⟩ := hFs hc _ _ _ hx
          have hsub' : ∀ x ∈ [(m.hours.length : Int) - 1 - k, kb] :: s, x ∈ (List.range (m.limit + 1).toNat).map fun (b : Nat) => [(m.hours.length : Int) - 1 - k, (b : Int)] := fun y hy => by
            rcases List.mem_cons.1 hy with rfl | hy
            · exact List.mem_map.2 ⟨kb.toNat, List.mem_range.2 (by omega), by rw [Int.toNat_of_nonneg hb0]⟩
            · exact hsub y hy
          have hnd := List.nodup_cons.2 ⟨hns, hs⟩
          have hl2 : s.length + 1 ≤ (m.limit + 1).toNat := by
            have := nodup_le _ _ hnd hsub'
            rwa [List.length_map, List.length_range, List.length_cons] at this
          have ho : kb.toNat * ti2.size + 1 ≤ ti95.size := by show kb.toNat * 1 + 1 ≤ 42; omega
          conv => whnf
          repeat' first
            | (refine Ob.a ?_; conv => whnf)
            | (refine Sp.tt ?_; conv => whnf)
            | (refine Sp.ff ?_; conv => whnf)
            | (refine Sp.yes ?_; conv => whnf)
            | (refine Sp.no ?_; conv => whnf)
            | (refine Sp.nyes ?_; conv => whnf)
            | (refine Sp.nno ?_; conv => whnf)
            | (refine Sp.ne (fun hc => ?_) (fun hc => ?_) <;> (conv => whnf))
            | (refine Sp.dec (fun hc => ?_) (fun hc => ?_) <;> (conv => whnf))
            | (refine Sp.ndec (fun hc => ?_) (fun hc => ?_) <;> (conv => whnf))
            | (refine Sp.mk (fun hc => ?_) (fun hc => ?_) <;> (conv => whnf))
            | (refine Nx.mk (fun ka kb kx hx hs => ?_) (fun he => ?_) <;> (conv => whnf))
            | (refine Nx.mk (fun ka kx hx hs => ?_) (fun he => ?_) <;> (conv => whnf))
            | (refine Uk.mk (fun hn => ?_) ?_ <;> (conv => whnf))
            | (refine Fi.a ?_; conv => whnf)
            | (refine Yl.a ?_ ?_ <;> (conv => whnf))
            | (refine Ob.b ?_; conv => whnf)
          refine ⟨rfl, ⟨[(m.hours.length : Int) - 1 - k, kb] :: s, hnd, hsub'⟩, ?_, by simp only [List.length_cons]; omega⟩
          conv => whnf
          repeat' first | (refine Edge.fast ?_) | ((conv => whnf); first | exact True.intro | (refine And.intro ?_ ?_) | exact rfl | exact Nat.le_of_eq (Nat.zero_add _) | exact ImpS.refl _ | ((conv => arg 1; whnf); first | exact ImpS.refl _ | (refine ImpS.nil_eq ?_) | (refine ImpS.vnil_eq ?_) | (refine ImpS.row ?_) | (refine ImpS.rowN ?_ ?_) | (refine ImpS.sl_eq ?_) | (refine ImpS.expl rfl ?_)) | (refine row_snoc' ?_) | exact MImp.refl _ | exact cimp_none | exact cimp_same | exact List.not_mem_nil | exact DImp.refl _) | exact rfl | (refine And.intro ?_ ?_) | exact ImpS.refl _
          all_goals try first | assumption | omega
          refine row_cell (c := kb.toNat) (x := kx) (fun d hd => bif_cell.trans ?_) fun j hj d hd => ?_
          · split <;> rfl
          · rw [tabS_getD _ _ _ _ hj, tabS_getD _ _ _ _ hj, Nat.zero_add]
            by_cases h1 : m.hours.length - k.toNat ≤ j
            · rw [if_pos h1, if_pos h1, if_neg (by omega)]
            · rw [if_neg h1, if_neg h1]
              by_cases h2 : j + k.toNat + 1 = m.hours.length
              · rw [if_pos h2, if_pos h2, rowS_getD _ _ _ _ hd, rowS_getD _ _ _ _ hd]
                have hj' : (j : Int) = m.hours.length - 1 - k := by omega
                by_cases h3 : d = kb.toNat
                · rw [if_pos (show j = (m.hours.length - 1 - k : Int).toNat ∧ d = kb.toNat from ⟨by omega, h3⟩), if_pos (show [(j : Int), (d : Int)] ∈ _ by rw [hj', h3, Int.toNat_of_nonneg hb0]; exact List.mem_cons_self ..), hv, h3, Int.toNat_of_nonneg hb0, show (m.hours.length - 1 - k : Int).toNat = j by omega]
                · rw [if_neg (show ¬ (j = (m.hours.length - 1 - k : Int).toNat ∧ d = kb.toNat) from fun h => h3 h.2)]
                  have : [(j : Int), (d : Int)] ∈ [(m.hours.length : Int) - 1 - k, kb] :: s ↔ [(j : Int), (d : Int)] ∈ s := by
                    rw [List.mem_cons]
                    refine ⟨fun h => h.elim (fun h => ?_) id, .inr⟩
                    simp only [List.cons.injEq, and_true] at h
                    omega
                  simp only [this]
              · rw [if_neg h2, if_neg h2, if_neg (by omega)]
        · have hrow : ∀ j, j < m.hours.length + 1 → ∀ d, d < 42 → ((tabTo m (k + 1).toNat).getD j []).getD d 0 = ((tabS m k.toNat s).getD j []).getD d 0 := fun j hj d hd => by
            rw [tabS_getD _ _ _ _ hj, tabTo_getD _ _ _ hj]
            by_cases h1 : m.hours.length - k.toNat ≤ j
            · rw [if_pos h1, if_pos (by omega)]
            · rw [if_neg h1]
              by_cases h2 : j + k.toNat + 1 = m.hours.length
              · rw [if_pos h2, if_pos (by omega), vrow_getD _ _ _ hd, rowS_getD _ _ _ _ hd]
                have hj' : (j : Int) = m.hours.length - 1 - k := by omega
                by_cases h3 : (d : Int) ≤ m.limit
                · have h4 := hFa hc d (by omega) h3
                  rw [if_pos h3, if_pos]
                  obtain ⟨x, hx⟩ := Option.isSome_iff_exists.1 h4
                  rw [hj']
                  exact he _ _ hx
                · rw [if_neg h3, if_neg fun h => ?_]
                  obtain ⟨b, hb, e⟩ := List.mem_map.1 (hsub _ h)
                  have := List.mem_range.1 hb
                  simp only [List.cons.injEq, and_true] at e
                  omega
              · rw [if_neg h2, if_neg (by omega)]
          conv => whnf
          repeat' first
            | (refine Ob.a ?_; conv => whnf)
            | (refine Sp.tt ?_; conv => whnf)
            | (refine Sp.ff ?_; conv => whnf)
            | (refine Sp.yes ?_; conv => whnf)
            | (refine Sp.no ?_; conv => whnf)
            | (refine Sp.nyes ?_; conv => whnf)
            | (refine Sp.nno ?_; conv => whnf)
            | (refine Sp.ne (fun hc => ?_) (fun hc => ?_) <;> (conv => whnf))
            | (refine Sp.dec (fun hc => ?_) (fun hc => ?_) <;> (conv => whnf))
            | (refine Sp.ndec (fun hc => ?_) (fun hc => ?_) <;> (conv => whnf))
            | (refine Sp.mk (fun hc => ?_) (fun hc => ?_) <;> (conv => whnf))
            | (refine Nx.mk (fun ka kb kx hx hs => ?_) (fun he => ?_) <;> (conv => whnf))
            | (refine Nx.mk (fun ka kx hx hs => ?_) (fun he => ?_) <;> (conv => whnf))
            | (refine Uk.mk (fun hn => ?_) ?_ <;> (conv => whnf))
            | (refine Fi.a ?_; conv => whnf)
            | (refine Yl.a ?_ ?_ <;> (conv => whnf))
            | (refine Ob.b ?_; conv => whnf)
          refine ⟨rfl, ⟨k + 1, by omega, by omega⟩, ?_, by simp only; omega⟩
          conv => whnf
          repeat' first | (refine Edge.fast ?_) | ((conv => whnf); first | exact True.intro | (refine And.intro ?_ ?_) | exact rfl | exact Nat.le_of_eq (Nat.zero_add _) | exact ImpS.refl _ | ((conv => arg 1; whnf); first | exact ImpS.refl _ | (refine ImpS.nil_eq ?_) | (refine ImpS.vnil_eq ?_) | (refine ImpS.row ?_) | (refine ImpS.rowN ?_ ?_) | (refine ImpS.sl_eq ?_) | (refine ImpS.expl rfl ?_)) | (refine row_snoc' ?_) | exact MImp.refl _ | exact cimp_none | exact cimp_same | exact List.not_mem_nil | exact DImp.refl _) | exact rfl | (refine And.intro ?_ ?_) | exact ImpS.refl _
          all_goals try first | assumption | omega | exact row_same hrow
      · have hrow : ∀ j, j < m.hours.length + 1 → ∀ d, d < 42 → ((tabS m k.toNat []).getD j []).getD d 0 = ((tabTo m k.toNat).getD j []).getD d 0 := fun j hj d hd => by
          rw [tabS_getD _ _ _ _ hj, tabTo_getD _ _ _ hj]
          split
          · rfl
          · split
            · rw [rowS_getD _ _ _ _ hd]; simp
            · rfl
        conv => whnf
        repeat' first | (refine Edge.fast ?_) | ((conv => whnf); first | exact True.intro | (refine And.intro ?_ ?_) | exact rfl | exact Nat.le_of_eq (Nat.zero_add _) | exact ImpS.refl _ | ((conv => arg 1; whnf); first | exact ImpS.refl _ | (refine ImpS.nil_eq ?_) | (refine ImpS.vnil_eq ?_) | (refine ImpS.row ?_) | (refine ImpS.rowN ?_ ?_) | (refine ImpS.sl_eq ?_) | (refine ImpS.expl rfl ?_)) | (refine row_snoc' ?_) | exact MImp.refl _ | exact cimp_none | exact cimp_same | exact List.not_mem_nil | exact DImp.refl _) | exact rfl | (refine And.intro ?_ ?_) | exact ImpS.refl _
        all_goals try first | assumption | omega | exact row_same hrow | exact fun _ => rfl
    · have e : tabTo m k.toNat = tab m := by
        unfold tabTo tab
        refine List.map_congr_left fun j hj => ?_
        rw [if_pos (by omega)]
      conv => whnf
      repeat' first | (refine Edge.fast ?_) | ((conv => whnf); first | exact True.intro | (refine And.intro ?_ ?_) | exact rfl | exact Nat.le_of_eq (Nat.zero_add _) | exact ImpS.refl _ | ((conv => arg 1; whnf); first | exact ImpS.refl _ | (refine ImpS.nil_eq ?_) | (refine ImpS.vnil_eq ?_) | (refine ImpS.row ?_) | (refine ImpS.rowN ?_ ?_) | (refine ImpS.sl_eq ?_) | (refine ImpS.expl rfl ?_)) | (refine row_snoc' ?_) | exact MImp.refl _ | exact cimp_none | exact cimp_same | exact List.not_mem_nil | exact DImp.refl _) | exact rfl | (refine And.intro ?_ ?_) | exact ImpS.refl _
      all_goals first | exact e | (rw [hlen]; omega)
  · have hz : ∀ j, j < m.hours.length + 1 → ∀ d, d < 42 → ((tabTo m (Int.toNat 0)).getD j []).getD d 0 = 0 := fun j hj d hd => by
      rw [tabTo_getD _ _ _ hj]
      split
      · rw [vrow_getD _ _ _ hd]
        split
        · rename_i h1 h2
          rw [List.drop_eq_nil_of_le (by have : Int.toNat 0 = 0 := rfl; omega)]; rfl
        · rfl
      · rfl
    conv => whnf
    repeat' first | (refine Edge.fast ?_) | ((conv => whnf); first | exact True.intro | (refine And.intro ?_ ?_) | exact rfl | exact Nat.le_of_eq (Nat.zero_add _) | exact ImpS.refl _ | ((conv => arg 1; whnf); first | exact ImpS.refl _ | (refine ImpS.nil_eq ?_) | (refine ImpS.vnil_eq ?_) | (refine ImpS.row ?_) | (refine ImpS.rowN ?_ ?_) | (refine ImpS.sl_eq ?_) | (refine ImpS.expl rfl ?_)) | (refine row_snoc' ?_) | exact MImp.refl _ | exact cimp_none | exact cimp_same | exact List.not_mem_nil | exact DImp.refl _) | exact rfl | (refine And.intro ?_ ?_) | exact ImpS.refl _
    all_goals try first | assumption | omega
    refine row_zero ?_ ?_ hz
    · exact fun d hd => rfl
    · intro d hd
      repeat (rcases d with _ | d; · exact rfl)
      omega
end Go.Px.Try
