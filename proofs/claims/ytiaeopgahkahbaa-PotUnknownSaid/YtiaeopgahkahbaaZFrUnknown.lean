/- The statement PotUnknown: a row can be explained just if Unknown is empty; without the weak pots that no lot has it can be. Conditions: none. -/
import Derived.Test.YtiaeopgahkahbaaJ7
import Derived.Test.YtiaeopgahkahbaaRows
import Derived.Test.YtiaeopgahkahbaaJ6
set_option linter.unusedVariables false
set_option linter.unusedSimpArgs false
/-! LwUnk22 -/
namespace Go.Px.Try
open Go Go.Proofs Go.Px
set_option maxRecDepth 100000
set_option maxHeartbeats 16000000 in
theorem PotUnknown_22 (r : Row) (hx : notGreat r ∧ checkRow r = 0 → rowError r = 22) : Fn Try.prog 9 [rowD r] (bool true) := by
  have hw := Works_spec
  by_cases h1 : notGreat r ∧ checkRow r = 0
  case neg =>
    have hf := notFine_fn h1
    refine Fn.of_ex (cuts := []) tys hM Try.func9 rfl Try.call9 rfl ?_
    show exC Try.prog T [] _ false none 0 (entry 128 [rowD r]) (finQ T [ResultVar.tmp 2] _)
    conv => whnf
    repeat' first | ((first | refine Ob.a ?_ | refine Sp.tt ?_ | refine Sp.ff ?_ | refine Sp.yes ?_ | refine Sp.no ?_ | refine Sp.nyes ?_ | refine Sp.nno ?_);conv=>whnf) | (refine Sp.ne (fun hc => ?_) (fun hc => ?_) <;> (conv=>whnf)) | (refine Sp.dec (fun hc => ?_) (fun hc => ?_) <;> (conv=>whnf)) | (refine Sp.ndec (fun hc => ?_) (fun hc => ?_) <;> (conv=>whnf)) | (refine Sp.mk (fun hc => ?_) (fun hc => ?_) <;> (conv=>whnf)) | (apply Cl.go;(conv=>whnf); (first | refine Ob.call (hf) ?_ | refine Ob.call (hw) ?_);(conv=>whnf)) | (refine Fi.a ?_;conv=>whnf) | (refine Ob.b ?_;conv=>whnf)
    all_goals exact Lf
  have hf := fine_fn h1
  have hr := checkRow_ok.1 h1.2
  have h10 := hr.l10
  have h12 := hr.w12
  have k1 : r.lots.length < 1000000 := by omega
  have k2 : r.weak.length < 1000000 := by omega
  have hpw := pow10 h10
  have hpi : (0 : Int) ≤ 1 * 2 ^ ((r.lots.length : Int)).toNat ∧ (1 : Int) * 2 ^ ((r.lots.length : Int)).toNat ≤ 4096 := by
    rw [Int.toNat_natCast, Int.one_mul]
    have e : ((2 : Int) ^ r.lots.length) = ((2 ^ r.lots.length : Nat) : Int) := by simp
    rw [e]; exact ⟨Int.natCast_nonneg _, Int.ofNat_le.2 (Nat.le_trans hpw (show 1024 ≤ 4096 by decide))⟩
  have hp0 : 0 < 2 ^ r.lots.length := Nat.two_pow_pos _
  have hpe : (1 : Int) * 2 ^ ((r.lots.length : Int)).toNat - 1 = ((2 ^ r.lots.length - 1 : Nat) : Int) := by
    rw [Int.toNat_natCast, Int.one_mul]
    have e : ((2 : Int) ^ r.lots.length) = ((2 ^ r.lots.length : Nat) : Int) := by simp
    rw [e]; omega
  have hsh : r.lots.length < 64 := by omega
  have hLi := Listed_spec (2 ^ r.lots.length - 1) r.lots.length (Nat.lt_of_lt_of_le (show _ < 2 ^ r.lots.length by omega) (Nat.le_trans hpw (by decide))) (by omega)
  have a3 := CheckLotsP_spec r (listed (2 ^ r.lots.length - 1) r.lots.length) k1 k2 (by have := listed_len (2 ^ r.lots.length - 1) r.lots.length; omega)
  rw [unk_lots hr] at a3
  rw [← hpe] at hLi
  have a1 := UnknownP_spec r k1 k2
  have e1 : unknownRR r = (unknownR r, 0) := if_neg (by rw [checkRow_ok.2 hr]; simp)
  rw [e1] at a1
  have a2 := LeastP_spec r k1 k2
  have e2 : (leastPR r).2 = rowError r := by
    unfold leastPR; split
    · rfl
    · rename_i h; exact (Decidable.of_not_not h).symm
  have hul : (unknownR r).length ≤ r.weak.length := List.length_filter_le ..
  have hre := unk_err hr
  have hx := hx h1
  have a4 := least_spec (known_sound hr)
  have hat := fun (k : Int) (k0 : 0 ≤ k) (k1 : k < r.weak.length) => unN_at (r := r) (k := k.toNat) (by omega)
  have hks := fun (k : Int) (k0 : 0 ≤ k) (k1 : k < r.weak.length) => knW_succ r (k := k.toNat) (by omega)
  have hus := fun (k : Int) (k0 : 0 ≤ k) (k1 : k < r.weak.length) => unN_succ r (k := k.toNat) (by omega)
  have hke : ∀ k : Int, 0 ≤ k ∧ k ≤ r.weak.length → ¬ k < r.weak.length → knW r k.toNat = knownL r ∧ unN r k.toNat = (unknownR r).length := fun k _ _ => by
    unfold knW unN; rw [show k.toNat = r.weak.length by omega, List.take_length]; exact ⟨rfl, rfl⟩
  have hunk : ∀ k, unN r k ≤ k := fun k => by
    unfold unN; exact Nat.le_trans (List.length_filter_le ..) (List.length_take_le ..)
  have hknl : ∀ k, (knW r k).length ≤ k := fun k => by
    unfold knW; exact Nat.le_trans (List.length_filter_le ..) (List.length_take_le ..)
  rw [e2] at a2
  dsimp only at a1 a2 a3
  generalize (checkLotsR r (listed (2 ^ r.lots.length - 1) r.lots.length)).1 = cl at *
  generalize listed (2 ^ r.lots.length - 1) r.lots.length = L at *
  generalize (leastPR r).1 = lp at *
  generalize optN ⟨r.pots, r.lots, knownL r⟩ = op at *
  have hre2 : (rowError r = 0 ∧ (unknownR r).length = 0) ∨ (rowError r = 22 ∧ (unknownR r).length ≠ 0) := by
    rw [hre]
    by_cases h : unknownR r = []
    · rw [if_pos h, h]; exact .inl ⟨rfl, rfl⟩
    · rw [if_neg h]; exact .inr ⟨rfl, fun e => h (List.length_eq_zero_iff.1 e)⟩
  clear hre
  generalize rowError r = re at *
  generalize unknownR r = u at *
  generalize hasB r = hb at *
  obtain ⟨rfl, hu0⟩ : re = 22 ∧ u.length ≠ 0 := by rcases hre2 with h | h <;> omega
  refine Fn.of_ex (cuts := []) tys hM Try.func9 rfl Try.call9 rfl ?_
  show exC Try.prog T [] _ false none 0 (entry 128 [rowD r]) (finQ T [ResultVar.tmp 2] _)
  conv => whnf
  repeat' first | ((first | refine Ob.a ?_ | refine Sp.tt ?_ | refine Sp.ff ?_ | refine Sp.yes ?_ | refine Sp.no ?_ | refine Sp.nyes ?_ | refine Sp.nno ?_);conv=>whnf) | (refine Sp.ne (fun hc => ?_) (fun hc => ?_) <;> (conv=>whnf)) | (refine Sp.dec (fun hc => ?_) (fun hc => ?_) <;> (conv=>whnf)) | (refine Sp.ndec (fun hc => ?_) (fun hc => ?_) <;> (conv=>whnf)) | (refine Sp.mk (fun hc => ?_) (fun hc => ?_) <;> (conv=>whnf)) | (apply Cl.go;(conv=>whnf); (first | refine Ob.call (hf) ?_ | refine Ob.call (hw) ?_ | refine Ob.call (a1) ?_ | refine Ob.call (a2) ?_ | refine Ob.call (hLi) ?_ | refine Ob.call (a3) ?_);(conv=>whnf)) | (refine Fi.a ?_;conv=>whnf) | (refine Ob.b ?_;conv=>whnf)
  any_goals (exfalso; clear hke hks hus hat hunk hknl; simp_all; done)
  refine Lp.snap [0, 1, 2, 3, 9, 13, 113, 114, 115, 116, 117, 118, 119, 120, 121, 122, 123, 124, 125, 126, 127] 100 ?_
  (conv=>whnf)
  refine LpB.go 128 ({p : Int × List Int // (0 ≤ p.1 ∧ p.1 ≤ r.weak.length) ∧ p.2 = knW r p.1.toNat}) 1 (fun ⟨(k, o), _⟩ nx => bldW [(10, .d (int (unN r k.toNat))), (11, .d (int k))] 71 r.pots (slOf 2 lotD default r.lots) nx o) (fun p => (r.weak.length - p.1.1).toNat) (⟨(0, []), ⟨by simp, by simp only; omega⟩, rfl⟩) ?_ ?_ (hl := by rintro ⟨⟨k, o⟩, _⟩; cases o <;> rfl)
  · rintro ⟨⟨k, o⟩, ⟨k0, k1⟩, ho⟩
    simp only at k0 k1 ho
    have hat := hat k k0
    have hks := hks k k0
    have hus := hus k k0
    have hke := hke k ⟨k0, k1⟩
    have hun := hunk k.toNat
    have hol : o.length ≤ k.toNat := by rw [ho]; exact hknl _
    rw [← ho] at hks hke
    by_cases hk : k < r.weak.length
    · have hat := hat hk
      have hks := hks hk
      have hus := hus hk
      rw [show k.toNat + 1 = (k + 1).toNat by omega] at hks hus
      by_cases hB : hb (r.weak.getD k.toNat 0) = true
      · rw [if_pos hB] at hks hus
        have hat := hat.1 hB
        have hat2 : (unN r k.toNat : Int) < u.length → ¬ u.getD ((unN r k.toNat : Nat) : Int).toNat 0 = r.weak.getD k.toNat 0 := fun h => by
          rw [Int.toNat_natCast]; exact hat (by omega)
        clear hke
        have e : ((unN r k.toNat : Nat) : Int) = ((unN r (k + 1).toNat : Nat) : Int) := by omega
        by_cases hcc : (unN r k.toNat : Int) < u.length
        · have hat3 := hat2 hcc
          cases o with
          | nil =>
            conv => whnf
            repeat' first | ((first | refine Ob.a ?_ | refine Sp.tt ?_ | refine Sp.ff ?_ | refine Sp.yes ?_ | refine Sp.no ?_ | refine Sp.nyes ?_ | refine Sp.nno ?_);conv=>whnf) | (refine Sp.ne (fun hc => ?_) (fun hc => ?_) <;> (conv=>whnf)) | (refine Sp.dec (fun hc => ?_) (fun hc => ?_) <;> (conv=>whnf)) | (refine Sp.ndec (fun hc => ?_) (fun hc => ?_) <;> (conv=>whnf)) | (refine Sp.mk (fun hc => ?_) (fun hc => ?_) <;> (conv=>whnf)) | (refine Fi.a ?_;conv=>whnf) | (refine Ob.b ?_;conv=>whnf)
            refine ⟨rfl, ⟨(k + 1, [r.weak.getD k.toNat 0]), unk_next k1 k0 hk ho hks.symm⟩, ?_, by simp only; omega⟩
            repeat' first | (refine Edge.fast ?_) | ((conv=>whnf); first | exact True.intro | (refine And.intro ?_ ?_) | exact rfl | exact Nat.le_of_eq (Nat.zero_add _) | exact ImpS.refl _ | ((conv => arg 1; whnf); first | exact ImpS.refl _ | (refine ImpS.nil_eq ?_) | (refine ImpS.vnil_eq ?_) | (refine ImpS.row ?_) | (refine ImpS.rowN ?_ ?_) | (refine ImpS.sl_eq ?_) | (refine ImpS.expl rfl ?_)) | (refine row_snoc' ?_) | (apply row_upd) | exact cimp_none | exact cimp_same | exact List.not_mem_nil | exact DImp.refl _) | exact rfl | (refine And.intro ?_ ?_) | exact ImpS.refl _
            all_goals first | omega | refine row_first ?_
            repeat' first | (refine Edge.fast ?_) | ((conv=>whnf); first | exact True.intro | (refine And.intro ?_ ?_) | exact rfl | exact Nat.le_of_eq (Nat.zero_add _) | exact ImpS.refl _ | ((conv => arg 1; whnf); first | exact ImpS.refl _ | (refine ImpS.nil_eq ?_) | (refine ImpS.vnil_eq ?_) | (refine ImpS.row ?_) | (refine ImpS.rowN ?_ ?_) | (refine ImpS.sl_eq ?_) | (refine ImpS.expl rfl ?_)) | (refine row_snoc' ?_) | (apply row_upd) | exact cimp_none | exact cimp_same | exact List.not_mem_nil | exact DImp.refl _) | exact rfl | (refine And.intro ?_ ?_) | exact ImpS.refl _
          | cons y o =>
            conv => whnf
            repeat' first | ((first | refine Ob.a ?_ | refine Sp.tt ?_ | refine Sp.ff ?_ | refine Sp.yes ?_ | refine Sp.no ?_ | refine Sp.nyes ?_ | refine Sp.nno ?_);conv=>whnf) | (refine Sp.ne (fun hc => ?_) (fun hc => ?_) <;> (conv=>whnf)) | (refine Sp.dec (fun hc => ?_) (fun hc => ?_) <;> (conv=>whnf)) | (refine Sp.ndec (fun hc => ?_) (fun hc => ?_) <;> (conv=>whnf)) | (refine Sp.mk (fun hc => ?_) (fun hc => ?_) <;> (conv=>whnf)) | (refine Fi.a ?_;conv=>whnf) | (refine Ob.b ?_;conv=>whnf)
            refine ⟨rfl, ⟨(k + 1, y :: o ++ [r.weak.getD k.toNat 0]), unk_next k1 k0 hk ho hks.symm⟩, ?_, by simp only; omega⟩
            repeat' first | (refine Edge.fast ?_) | ((conv=>whnf); first | exact True.intro | (refine And.intro ?_ ?_) | exact rfl | exact Nat.le_of_eq (Nat.zero_add _) | exact ImpS.refl _ | ((conv => arg 1; whnf); first | exact ImpS.refl _ | (refine ImpS.nil_eq ?_) | (refine ImpS.vnil_eq ?_) | (refine ImpS.row ?_) | (refine ImpS.rowN ?_ ?_) | (refine ImpS.sl_eq ?_) | (refine ImpS.expl rfl ?_)) | (refine row_snoc' ?_) | exact MImp.refl _ | exact cimp_none | exact cimp_same | exact List.not_mem_nil | exact DImp.refl _) | exact rfl | (refine And.intro ?_ ?_) | exact ImpS.refl _
            all_goals first | omega | (simp; done) | refine row_snoc' (l := y :: o) ?_
            repeat' first | (refine Edge.fast ?_) | ((conv=>whnf); first | exact True.intro | (refine And.intro ?_ ?_) | exact rfl | exact Nat.le_of_eq (Nat.zero_add _) | exact ImpS.refl _ | ((conv => arg 1; whnf); first | exact ImpS.refl _ | (refine ImpS.nil_eq ?_) | (refine ImpS.vnil_eq ?_) | (refine ImpS.row ?_) | (refine ImpS.rowN ?_ ?_) | (refine ImpS.sl_eq ?_) | (refine ImpS.expl rfl ?_)) | (refine row_snoc' ?_) | (apply row_upd) | exact cimp_none | exact cimp_same | exact List.not_mem_nil | exact DImp.refl _) | exact rfl | (refine And.intro ?_ ?_) | exact ImpS.refl _
        · cases o with
          | nil =>
            conv => whnf
            repeat' first | ((first | refine Ob.a ?_ | refine Sp.tt ?_ | refine Sp.ff ?_ | refine Sp.yes ?_ | refine Sp.no ?_ | refine Sp.nyes ?_ | refine Sp.nno ?_);conv=>whnf) | (refine Sp.ne (fun hc => ?_) (fun hc => ?_) <;> (conv=>whnf)) | (refine Sp.dec (fun hc => ?_) (fun hc => ?_) <;> (conv=>whnf)) | (refine Sp.ndec (fun hc => ?_) (fun hc => ?_) <;> (conv=>whnf)) | (refine Sp.mk (fun hc => ?_) (fun hc => ?_) <;> (conv=>whnf)) | (refine Fi.a ?_;conv=>whnf) | (refine Ob.b ?_;conv=>whnf)
            refine ⟨rfl, ⟨(k + 1, [r.weak.getD k.toNat 0]), unk_next k1 k0 hk ho hks.symm⟩, ?_, by simp only; omega⟩
            repeat' first | (refine Edge.fast ?_) | ((conv=>whnf); first | exact True.intro | (refine And.intro ?_ ?_) | exact rfl | exact Nat.le_of_eq (Nat.zero_add _) | exact ImpS.refl _ | ((conv => arg 1; whnf); first | exact ImpS.refl _ | (refine ImpS.nil_eq ?_) | (refine ImpS.vnil_eq ?_) | (refine ImpS.row ?_) | (refine ImpS.rowN ?_ ?_) | (refine ImpS.sl_eq ?_) | (refine ImpS.expl rfl ?_)) | (refine row_snoc' ?_) | (apply row_upd) | exact cimp_none | exact cimp_same | exact List.not_mem_nil | exact DImp.refl _) | exact rfl | (refine And.intro ?_ ?_) | exact ImpS.refl _
            all_goals first | omega | refine row_first ?_
            repeat' first | (refine Edge.fast ?_) | ((conv=>whnf); first | exact True.intro | (refine And.intro ?_ ?_) | exact rfl | exact Nat.le_of_eq (Nat.zero_add _) | exact ImpS.refl _ | ((conv => arg 1; whnf); first | exact ImpS.refl _ | (refine ImpS.nil_eq ?_) | (refine ImpS.vnil_eq ?_) | (refine ImpS.row ?_) | (refine ImpS.rowN ?_ ?_) | (refine ImpS.sl_eq ?_) | (refine ImpS.expl rfl ?_)) | (refine row_snoc' ?_) | (apply row_upd) | exact cimp_none | exact cimp_same | exact List.not_mem_nil | exact DImp.refl _) | exact rfl | (refine And.intro ?_ ?_) | exact ImpS.refl _
          | cons y o =>
            conv => whnf
            repeat' first | ((first | refine Ob.a ?_ | refine Sp.tt ?_ | refine Sp.ff ?_ | refine Sp.yes ?_ | refine Sp.no ?_ | refine Sp.nyes ?_ | refine Sp.nno ?_);conv=>whnf) | (refine Sp.ne (fun hc => ?_) (fun hc => ?_) <;> (conv=>whnf)) | (refine Sp.dec (fun hc => ?_) (fun hc => ?_) <;> (conv=>whnf)) | (refine Sp.ndec (fun hc => ?_) (fun hc => ?_) <;> (conv=>whnf)) | (refine Sp.mk (fun hc => ?_) (fun hc => ?_) <;> (conv=>whnf)) | (refine Fi.a ?_;conv=>whnf) | (refine Ob.b ?_;conv=>whnf)
            refine ⟨rfl, ⟨(k + 1, y :: o ++ [r.weak.getD k.toNat 0]), unk_next k1 k0 hk ho hks.symm⟩, ?_, by simp only; omega⟩
            repeat' first | (refine Edge.fast ?_) | ((conv=>whnf); first | exact True.intro | (refine And.intro ?_ ?_) | exact rfl | exact Nat.le_of_eq (Nat.zero_add _) | exact ImpS.refl _ | ((conv => arg 1; whnf); first | exact ImpS.refl _ | (refine ImpS.nil_eq ?_) | (refine ImpS.vnil_eq ?_) | (refine ImpS.row ?_) | (refine ImpS.rowN ?_ ?_) | (refine ImpS.sl_eq ?_) | (refine ImpS.expl rfl ?_)) | (refine row_snoc' ?_) | exact MImp.refl _ | exact cimp_none | exact cimp_same | exact List.not_mem_nil | exact DImp.refl _) | exact rfl | (refine And.intro ?_ ?_) | exact ImpS.refl _
            all_goals first | omega | (simp; done) | refine row_snoc' (l := y :: o) ?_
            repeat' first | (refine Edge.fast ?_) | ((conv=>whnf); first | exact True.intro | (refine And.intro ?_ ?_) | exact rfl | exact Nat.le_of_eq (Nat.zero_add _) | exact ImpS.refl _ | ((conv => arg 1; whnf); first | exact ImpS.refl _ | (refine ImpS.nil_eq ?_) | (refine ImpS.vnil_eq ?_) | (refine ImpS.row ?_) | (refine ImpS.rowN ?_ ?_) | (refine ImpS.sl_eq ?_) | (refine ImpS.expl rfl ?_)) | (refine row_snoc' ?_) | (apply row_upd) | exact cimp_none | exact cimp_same | exact List.not_mem_nil | exact DImp.refl _) | exact rfl | (refine And.intro ?_ ?_) | exact ImpS.refl _
      · rw [if_neg hB] at hks hus
        rw [List.append_nil] at hks
        obtain ⟨q1, q2⟩ := hat.2 hB
        have q3 : (unN r k.toNat : Int) < u.length := by omega
        have q4 : u.getD ((unN r k.toNat : Nat) : Int).toNat 0 = r.weak.getD k.toNat 0 := by rw [Int.toNat_natCast]; exact q2
        clear hke
        have e : ((unN r k.toNat : Nat) : Int) + 1 = ((unN r (k + 1).toNat : Nat) : Int) := by omega
        cases o with
        | nil =>
          conv => whnf
          repeat' first | ((first | refine Ob.a ?_ | refine Sp.tt ?_ | refine Sp.ff ?_ | refine Sp.yes ?_ | refine Sp.no ?_ | refine Sp.nyes ?_ | refine Sp.nno ?_);conv=>whnf) | (refine Sp.ne (fun hc => ?_) (fun hc => ?_) <;> (conv=>whnf)) | (refine Sp.dec (fun hc => ?_) (fun hc => ?_) <;> (conv=>whnf)) | (refine Sp.ndec (fun hc => ?_) (fun hc => ?_) <;> (conv=>whnf)) | (refine Sp.mk (fun hc => ?_) (fun hc => ?_) <;> (conv=>whnf)) | (refine Fi.a ?_;conv=>whnf) | (refine Ob.b ?_;conv=>whnf)
          all_goals exact ⟨rfl, ⟨(k + 1, []), unk_next k1 k0 hk ho hks.symm⟩, Lf, by simp only; omega⟩
        | cons y o =>
          conv => whnf
          repeat' first | ((first | refine Ob.a ?_ | refine Sp.tt ?_ | refine Sp.ff ?_ | refine Sp.yes ?_ | refine Sp.no ?_ | refine Sp.nyes ?_ | refine Sp.nno ?_);conv=>whnf) | (refine Sp.ne (fun hc => ?_) (fun hc => ?_) <;> (conv=>whnf)) | (refine Sp.dec (fun hc => ?_) (fun hc => ?_) <;> (conv=>whnf)) | (refine Sp.ndec (fun hc => ?_) (fun hc => ?_) <;> (conv=>whnf)) | (refine Sp.mk (fun hc => ?_) (fun hc => ?_) <;> (conv=>whnf)) | (refine Fi.a ?_;conv=>whnf) | (refine Ob.b ?_;conv=>whnf)
          all_goals exact ⟨rfl, ⟨(k + 1, y :: o), unk_next k1 k0 hk ho hks.symm⟩, Lf, by simp only; omega⟩
    · obtain ⟨e3, e4⟩ := hke hk
      rw [← e3] at a4
      have e5 : ((unN r k.toNat : Nat) : Int) = u.length := by omega
      clear hke hks hus hat
      cases o with
      | nil =>
        conv => whnf
        repeat' first | ((first | refine Ob.a ?_ | refine Sp.tt ?_ | refine Sp.ff ?_ | refine Sp.yes ?_ | refine Sp.no ?_ | refine Sp.nyes ?_ | refine Sp.nno ?_);conv=>whnf) | (refine Sp.ne (fun hc => ?_) (fun hc => ?_) <;> (conv=>whnf)) | (refine Sp.dec (fun hc => ?_) (fun hc => ?_) <;> (conv=>whnf)) | (refine Sp.ndec (fun hc => ?_) (fun hc => ?_) <;> (conv=>whnf)) | (refine Sp.mk (fun hc => ?_) (fun hc => ?_) <;> (conv=>whnf)) | (apply Cl.go;(conv=>whnf); (first | refine Ob.call (a4) ?_ | refine Ob.call (hw) ?_);(conv=>whnf)) | (refine Fi.a ?_;conv=>whnf) | (refine Ob.b ?_;conv=>whnf)
        all_goals exact Lf
      | cons y o =>
        conv => whnf
        repeat' first | ((first | refine Ob.a ?_ | refine Sp.tt ?_ | refine Sp.ff ?_ | refine Sp.yes ?_ | refine Sp.no ?_ | refine Sp.nyes ?_ | refine Sp.nno ?_);conv=>whnf) | (refine Sp.ne (fun hc => ?_) (fun hc => ?_) <;> (conv=>whnf)) | (refine Sp.dec (fun hc => ?_) (fun hc => ?_) <;> (conv=>whnf)) | (refine Sp.ndec (fun hc => ?_) (fun hc => ?_) <;> (conv=>whnf)) | (refine Sp.mk (fun hc => ?_) (fun hc => ?_) <;> (conv=>whnf)) | (apply Cl.go;(conv=>whnf); (first | refine Ob.call (a4) ?_ | refine Ob.call (hw) ?_);(conv=>whnf)) | (refine Fi.a ?_;conv=>whnf) | (refine Ob.b ?_;conv=>whnf)
        all_goals exact Lf
  · exact Lf
theorem PotUnknown_spec (r : Row) : Fn Try.prog 9 [rowD r] (bool true) := by
  by_cases h1 : notGreat r ∧ checkRow r = 0
  · have h2 := unk_err (checkRow_ok.1 h1.2)
    by_cases h : unknownR r = []
    · exact PotUnknown_0 r fun _ => by rw [h2, if_pos h]
    · exact PotUnknown_22 r fun _ => by rw [h2, if_neg h]
  · exact PotUnknown_0 r fun h => absurd h h1
end Go.Px.Try

namespace Go.Proofs.Ytiaeopgahkahbaa.potUnknownDone
open Go.ChangeShapes Go.WideShapes Go.ChangeAt Go.RowKit
open Go.Px
open Go.Px.Try (own laidOut)
set_option maxRecDepth 100000 in
theorem lifted (os : Os) (started : os.Started) (H : Type) (enc : TypeId × Value → H) :
    ReturnsInHanded {} Try.checked os 9 .any (Rows.potUnknownSpec.pre6 enc Try.prog Try.f9 Rows.potUnknownRow.domain false) (Rows.potUnknownSpec.post enc Try.prog Try.f9 false true false false) := by
  refine returnsInHanded_of_change (C := Try.checked) own started (by kernel_rfl) Try.func9
    (ChangeSpec.witness6 (enc := enc) (C := Try.checked) false ⟨#[], #[.agg #[.int .i64 0, .slice none 0 0, .slice none 0 0]], []⟩ 8 (by kernel_rfl) (by kernel_rfl) (by kernel_rfl) (by kernel_rfl)) ?_
  intro W base args ds gs before hval0 hW hcnd _
  have hval : ∀ (j : Nat) t v, Try.f9.params[j]? = some t → args[j]? = some v → Value.okWide Try.prog W .any base t v := hval0
  have hW' := hW
  obtain ⟨p, q, hA0, hV, rfl, hfz, hnd⟩ := hW
  have hA : DataW.TrodAll enc Try.prog W 0 (fun _ => true) true Try.f9.params.toList args.toList ds p := hA0
  rw [Try.params9] at hA hval
  obtain ⟨v0, vs0, d0, ds0, p0, q0, hargs, rfl, rfl, h0, r0⟩ := trodAll_cons hA
  obtain ⟨rfl, rfl, rfl⟩ := trodAll_nil r0
  obtain rfl : args = #[v0] := by cases args; simp_all
  obtain ⟨rfl, rfl⟩ := trodVars_none hV
  have lt0 : ∀ x ∈ p0, x.block < W.heap.size := by have k := h0; obtain ⟨m, hm⟩ := k; exact DataW.trod_lt m _ _ _ hm
  obtain ⟨x0, g0, e0⟩ := Go.Px.Try.row_arg h0 (hval 0 25 v0 rfl rfl)
  clear hA0 hval0
  refine ((Go.Px.Try.PotUnknown_spec x0).2 (All W) W [v0] (fun _ h => h) ⟨e0, trivial⟩).mono fun e W' ⟨v, S', he, hr, _, _, bel⟩ => ?_
  obtain rfl : v = .bool true := hr
  subst he
  exact ⟨_, rfl, _, _, _, [], _, [], hW', trodAll_mk1 (shut_bool Try.underlying4 _), (trodAll_cons_mk (Below.trod laidOut (by kernel_rfl) (of_decide_eq_true (by kernel_rfl)) h0 bel lt0) trodAll_mk0), rfl, bel.frame _, fun h => by cases h⟩
theorem over : Rows.potUnknownRow.holds Try.pinned (OpenSpec.ofChange Rows.potUnknownSpec) :=
  OpenClaim.holds_of_wide 9 Try.f9 rfl rfl rfl rfl rfl rfl rfl ⟨rfl, rfl, rfl, rfl, rfl⟩ rfl rfl rfl rfl rfl (by kernel_rfl) Try.func9 (by kernel_rfl)
    (of_decide_eq_true (by kernel_rfl)) (by unfold Func.isWrapper; first | (rw [if_pos (by decide +kernel)]; kernel_rfl) | (rw [if_neg (by decide +kernel)]; exact ⟨rfl, rfl⟩))
    (fun os started H enc _ => lifted os started H enc)
theorem proved : Rows.PotUnknownSaid := over
#print axioms proved
end Go.Proofs.Ytiaeopgahkahbaa.potUnknownDone
