/- Texts of this proof, joined (Pp8, Pp9, Pp10, Pm8, Pp11, Pp12, Pp13, Law1, Law4, Law5, FrP, Law2, Law3): a small program logic over the model, and what functions of the program give. No statement of the seat is proved here. -/
import Derived.Test.YtiaeopgahkahbaaJ5
import Derived.Test.YtiaeopgahkahbaaJ4
import Derived.Test.YtiaeopgahkahbaaJ3
set_option linter.unusedVariables false
set_option linter.unusedSimpArgs false

/-! Pp8 -/
namespace Go.Px.Try
open Go Go.Proofs Go.Px
set_option maxRecDepth 100000
def blamePR (r : Row) : List Int × Int := if rowError r ≠ 0 then ([], rowError r) else ((List.range r.lots.length).map fun i => blameP r (leastP r).1 i, 0)
theorem blamePR_eq (r : Row) : blamePR r = blameLR r := by
  unfold blamePR blameLR
  by_cases he : rowError r = 0
  · rw [if_neg (not_not_intro he), if_neg (not_not_intro he)]
    obtain ⟨hr, hS⟩ := rowError_ok.1 he
    congr 1
    refine List.map_congr_left fun i hi => ?_
    exact blame_eq hr ((leastP_ok hr).1.2 hS) (List.mem_range.1 hi)
  · rw [if_pos he, if_pos he]
theorem marks_only {i a : Nat} (ha : a = i) (j : Nat) : DImp (cellD (upE a (int 1) (fun _ => int 0) j) 0) (int (mk (onlyB i) j)) := by
  subst ha
  unfold upE mk onlyB
  by_cases e : j = a
  · rw [if_pos e, if_pos (decide_eq_true e)]; exact DImp.refl _
  · rw [if_neg e, if_neg (fun h => e (of_decide_eq_true h))]; exact DImp.refl _
set_option maxHeartbeats 16000000 in
theorem BlameP_spec (r : Row) (h1 : r.lots.length < 1000000) (h2 : r.weak.length < 1000000) : Fn Try.prog 30 [rowD r] (tpl [ints (blamePR r).1, int (blamePR r).2]) := by
  by_cases he : rowError r = 0
  case neg =>
    have hx := explained_err r h1 h2 he
    have e : blamePR r = ([], rowError r) := if_pos he
    rw [e]
    generalize rowError r = n at *
    refine Fn.of_ex (cuts := []) tys hM Try.func30 rfl Try.call30 rfl ?_
    show exC Try.prog T [] _ false none 0 (entry 72 [rowD r]) (finQ T [ResultVar.tmp 2, ResultVar.tmp 3] _)
    conv => whnf
    repeat' first | ((first | refine Ob.a ?_ | refine Sp.tt ?_ | refine Sp.ff ?_ | refine Sp.yes ?_ | refine Sp.no ?_ | refine Sp.nyes ?_ | refine Sp.nno ?_);conv=>whnf) | (refine Sp.ne (fun hc => ?_) (fun hc => ?_) <;> (conv=>whnf)) | (refine Sp.dec (fun hc => ?_) (fun hc => ?_) <;> (conv=>whnf)) | (refine Sp.ndec (fun hc => ?_) (fun hc => ?_) <;> (conv=>whnf)) | (refine Sp.mk (fun hc => ?_) (fun hc => ?_) <;> (conv=>whnf)) | (apply Cl.go;(conv=>whnf); (first | refine Ob.call (hx) ?_);(conv=>whnf)) | (refine Nx.mk (fun ka kb kx hx hs => ?_) (fun he => ?_) <;> (conv=>whnf)) | (refine Nx.mk (fun ka kx hx hs => ?_) (fun he => ?_) <;> (conv=>whnf)) | (refine Uk.mk (fun hn => ?_) ?_ <;> (conv=>whnf)) | (refine Fi.a ?_;conv=>whnf) | (refine Yl.a ?_ ?_ <;> (conv=>whnf)) | (refine Ob.b ?_;conv=>whnf)
    all_goals exact Lf
  have hx := explained_ok r h1 h2 he
  have hr := (rowError_ok.1 he).1
  have h10 := hr.l10
  have e : blamePR r = ((List.range r.lots.length).map fun i => blameP r (leastP r).1 i, 0) := if_neg (not_not_intro he)
  rw [e]
  have hcA := fun i => cost_spec r hr [] (fun i hi => by cases hi) (by simp) (onlyB i)
  have hcB := fun i (hi : i < r.lots.length) => cost_spec r hr [i] (fun x hx => by have := List.mem_singleton.1 hx; omega) (by simp) noB
  have hbl : ∀ i, blameP r (leastP r).1 i = if (costP r [] (onlyB i)).2 = false ∨ (leastP r).1 < (costP r [] (onlyB i)).1 then 2 else if (costP r [i] noB).2 = false ∨ (leastP r).1 < (costP r [i] noB).1 then 0 else 1 := fun i => rfl
  generalize (leastP r).1 = n at *
  generalize blameP r n = bl at *
  generalize hfin : (List.range r.lots.length).map (fun i => bl i) = fin
  refine Fn.of_ex (cuts := []) tys hM Try.func30 rfl Try.call30 rfl ?_
  show exC Try.prog T [] _ false none 0 (entry 72 [rowD r]) (finQ T [ResultVar.tmp 2, ResultVar.tmp 3] _)
  conv => whnf
  repeat' first | ((first | refine Ob.a ?_ | refine Sp.tt ?_ | refine Sp.ff ?_ | refine Sp.yes ?_ | refine Sp.no ?_ | refine Sp.nyes ?_ | refine Sp.nno ?_);conv=>whnf) | (refine Sp.ne (fun hc => ?_) (fun hc => ?_) <;> (conv=>whnf)) | (refine Sp.dec (fun hc => ?_) (fun hc => ?_) <;> (conv=>whnf)) | (refine Sp.ndec (fun hc => ?_) (fun hc => ?_) <;> (conv=>whnf)) | (refine Sp.mk (fun hc => ?_) (fun hc => ?_) <;> (conv=>whnf)) | (apply Cl.go;(conv=>whnf); (first | refine Ob.call (hx) ?_);(conv=>whnf)) | (refine Nx.mk (fun ka kb kx hx hs => ?_) (fun he => ?_) <;> (conv=>whnf)) | (refine Nx.mk (fun ka kx hx hs => ?_) (fun he => ?_) <;> (conv=>whnf)) | (refine Uk.mk (fun hn => ?_) ?_ <;> (conv=>whnf)) | (refine Fi.a ?_;conv=>whnf) | (refine Yl.a ?_ ?_ <;> (conv=>whnf)) | (refine Ob.b ?_;conv=>whnf)
  refine Lp.snap [0, 2, 3, 4, 5, 25, 71] 40 ?_
  (conv=>whnf)
  refine LpB.go 72 ({q : Nat × List Int // q.1 ≤ r.lots.length ∧ q.2 = (List.range q.1).map fun i => bl i}) 0 (fun ⟨(i, o), _⟩ nx => ([(26, .d (int i)), (7, .ms 14 1 0 o.length)], [(14, .row true 3 1 o.length (rowOf int 0 o))])) (fun p => r.lots.length - p.1.1) (⟨(0, []), Nat.zero_le _, rfl⟩) ?_ ?_
  · rintro ⟨⟨i, o⟩, hi, ho⟩
    simp only at hi ho
    have hol : o.length = i := by rw [ho]; simp
    have hsn : (List.range (i + 1)).map (fun i => bl i) = o ++ [bl i] := by rw [List.range_succ, List.map_append, ho]; rfl
    by_cases hil : i < r.lots.length
    · have hcA := hcA i
      have hcB := hcB i hil
      have hbl := hbl i
      generalize costP r [] (onlyB i) = ca at *
      generalize costP r [i] noB = cb at *
      obtain ⟨a1, a2⟩ := ca
      obtain ⟨b1, b2⟩ := cb
      simp only at hbl hcA hcB
      have ham : ∀ j, DImp (cellD (upE (0 + ((i : Nat) : Int).toNat) (int 1) (fun _ => int 0) j) 0) (int (mk (onlyB i) j)) := fun j => marks_only (by omega) j
      cases a2
      · have hv : bl i = 2 := by rw [hbl]; simp
        cases b2
        all_goals
          conv => whnf
          repeat' first | ((first | refine Ob.a ?_ | refine Sp.tt ?_ | refine Sp.ff ?_ | refine Sp.yes ?_ | refine Sp.no ?_ | refine Sp.nyes ?_ | refine Sp.nno ?_);conv=>whnf) | (refine Sp.ne (fun hc => ?_) (fun hc => ?_) <;> (conv=>whnf)) | (refine Sp.dec (fun hc => ?_) (fun hc => ?_) <;> (conv=>whnf)) | (refine Sp.ndec (fun hc => ?_) (fun hc => ?_) <;> (conv=>whnf)) | (refine Sp.mk (fun hc => ?_) (fun hc => ?_) <;> (conv=>whnf)) | (refine Nx.mk (fun ka kb kx hx hs => ?_) (fun he => ?_) <;> (conv=>whnf)) | (refine Nx.mk (fun ka kx hx hs => ?_) (fun he => ?_) <;> (conv=>whnf)) | (refine Uk.mk (fun hn => ?_) ?_ <;> (conv=>whnf)) | (refine Fi.a ?_;conv=>whnf) | (refine Yl.a ?_ ?_ <;> (conv=>whnf)) | (refine Ob.b ?_;conv=>whnf)
          apply Cl.go
          (conv=>whnf)
          refine Ob.fn ?_ ?_ ?_ (hcA)
          rotate_left
          all_goals try (repeat' first | (refine Edge.fast ?_) | ((conv=>whnf); first | exact True.intro | (refine And.intro ?_ ?_) | exact rfl | exact Nat.le_of_eq (Nat.zero_add _) | exact ImpS.refl _ | ((conv => arg 1; whnf); first | exact ImpS.refl _ | (refine ImpS.nil_eq ?_) | (refine ImpS.vnil_eq ?_) | (refine ImpS.row ?_) | (refine ImpS.rowN ?_ ?_) | (refine ImpS.sl_eq ?_) | (refine ImpS.expl rfl ?_)) | (refine row_snoc' ?_) | (apply row_upd) | exact cimp_none | exact cimp_same | exact List.not_mem_nil | exact DImp.refl _) | exact rfl | (refine And.intro ?_ ?_) | exact ImpS.refl _)
          all_goals try first | assumption | omega
          all_goals first | exact ham _ | skip
          conv => whnf
          repeat' first | ((first | refine Ob.a ?_ | refine Sp.tt ?_ | refine Sp.ff ?_ | refine Sp.yes ?_ | refine Sp.no ?_ | refine Sp.nyes ?_ | refine Sp.nno ?_);conv=>whnf) | (refine Sp.ne (fun hc => ?_) (fun hc => ?_) <;> (conv=>whnf)) | (refine Sp.dec (fun hc => ?_) (fun hc => ?_) <;> (conv=>whnf)) | (refine Sp.ndec (fun hc => ?_) (fun hc => ?_) <;> (conv=>whnf)) | (refine Sp.mk (fun hc => ?_) (fun hc => ?_) <;> (conv=>whnf)) | (apply Cl.go;(conv=>whnf); (first | refine Ob.call (hcB) ?_);(conv=>whnf)) | (refine Nx.mk (fun ka kb kx hx hs => ?_) (fun he => ?_) <;> (conv=>whnf)) | (refine Nx.mk (fun ka kx hx hs => ?_) (fun he => ?_) <;> (conv=>whnf)) | (refine Uk.mk (fun hn => ?_) ?_ <;> (conv=>whnf)) | (refine Fi.a ?_;conv=>whnf) | (refine Yl.a ?_ ?_ <;> (conv=>whnf)) | (refine Ob.b ?_;conv=>whnf)
          all_goals exact ⟨rfl, ⟨(i + 1, o ++ [2]), hil, by simp only; rw [hsn, hv]⟩, Lf, by simp only; omega⟩
      by_cases hao : n < a1
      · have hv : bl i = 2 := by rw [hbl]; simp [hao]
        cases b2
        all_goals
          conv => whnf
          repeat' first | ((first | refine Ob.a ?_ | refine Sp.tt ?_ | refine Sp.ff ?_ | refine Sp.yes ?_ | refine Sp.no ?_ | refine Sp.nyes ?_ | refine Sp.nno ?_);conv=>whnf) | (refine Sp.ne (fun hc => ?_) (fun hc => ?_) <;> (conv=>whnf)) | (refine Sp.dec (fun hc => ?_) (fun hc => ?_) <;> (conv=>whnf)) | (refine Sp.ndec (fun hc => ?_) (fun hc => ?_) <;> (conv=>whnf)) | (refine Sp.mk (fun hc => ?_) (fun hc => ?_) <;> (conv=>whnf)) | (refine Nx.mk (fun ka kb kx hx hs => ?_) (fun he => ?_) <;> (conv=>whnf)) | (refine Nx.mk (fun ka kx hx hs => ?_) (fun he => ?_) <;> (conv=>whnf)) | (refine Uk.mk (fun hn => ?_) ?_ <;> (conv=>whnf)) | (refine Fi.a ?_;conv=>whnf) | (refine Yl.a ?_ ?_ <;> (conv=>whnf)) | (refine Ob.b ?_;conv=>whnf)
          apply Cl.go
          (conv=>whnf)
          refine Ob.fn ?_ ?_ ?_ (hcA)
          rotate_left
          all_goals try (repeat' first | (refine Edge.fast ?_) | ((conv=>whnf); first | exact True.intro | (refine And.intro ?_ ?_) | exact rfl | exact Nat.le_of_eq (Nat.zero_add _) | exact ImpS.refl _ | ((conv => arg 1; whnf); first | exact ImpS.refl _ | (refine ImpS.nil_eq ?_) | (refine ImpS.vnil_eq ?_) | (refine ImpS.row ?_) | (refine ImpS.rowN ?_ ?_) | (refine ImpS.sl_eq ?_) | (refine ImpS.expl rfl ?_)) | (refine row_snoc' ?_) | (apply row_upd) | exact cimp_none | exact cimp_same | exact List.not_mem_nil | exact DImp.refl _) | exact rfl | (refine And.intro ?_ ?_) | exact ImpS.refl _)
          all_goals try first | assumption | omega
          all_goals first | exact ham _ | skip
          conv => whnf
          repeat' first | ((first | refine Ob.a ?_ | refine Sp.tt ?_ | refine Sp.ff ?_ | refine Sp.yes ?_ | refine Sp.no ?_ | refine Sp.nyes ?_ | refine Sp.nno ?_);conv=>whnf) | (refine Sp.ne (fun hc => ?_) (fun hc => ?_) <;> (conv=>whnf)) | (refine Sp.dec (fun hc => ?_) (fun hc => ?_) <;> (conv=>whnf)) | (refine Sp.ndec (fun hc => ?_) (fun hc => ?_) <;> (conv=>whnf)) | (refine Sp.mk (fun hc => ?_) (fun hc => ?_) <;> (conv=>whnf)) | (apply Cl.go;(conv=>whnf); (first | refine Ob.call (hcB) ?_);(conv=>whnf)) | (refine Nx.mk (fun ka kb kx hx hs => ?_) (fun he => ?_) <;> (conv=>whnf)) | (refine Nx.mk (fun ka kx hx hs => ?_) (fun he => ?_) <;> (conv=>whnf)) | (refine Uk.mk (fun hn => ?_) ?_ <;> (conv=>whnf)) | (refine Fi.a ?_;conv=>whnf) | (refine Yl.a ?_ ?_ <;> (conv=>whnf)) | (refine Ob.b ?_;conv=>whnf)
          all_goals exact ⟨rfl, ⟨(i + 1, o ++ [2]), hil, by simp only; rw [hsn, hv]⟩, Lf, by simp only; omega⟩
      cases b2
      · have hv : bl i = 0 := by rw [hbl]; simp [hao]
        conv => whnf
        repeat' first | ((first | refine Ob.a ?_ | refine Sp.tt ?_ | refine Sp.ff ?_ | refine Sp.yes ?_ | refine Sp.no ?_ | refine Sp.nyes ?_ | refine Sp.nno ?_);conv=>whnf) | (refine Sp.ne (fun hc => ?_) (fun hc => ?_) <;> (conv=>whnf)) | (refine Sp.dec (fun hc => ?_) (fun hc => ?_) <;> (conv=>whnf)) | (refine Sp.ndec (fun hc => ?_) (fun hc => ?_) <;> (conv=>whnf)) | (refine Sp.mk (fun hc => ?_) (fun hc => ?_) <;> (conv=>whnf)) | (refine Nx.mk (fun ka kb kx hx hs => ?_) (fun he => ?_) <;> (conv=>whnf)) | (refine Nx.mk (fun ka kx hx hs => ?_) (fun he => ?_) <;> (conv=>whnf)) | (refine Uk.mk (fun hn => ?_) ?_ <;> (conv=>whnf)) | (refine Fi.a ?_;conv=>whnf) | (refine Yl.a ?_ ?_ <;> (conv=>whnf)) | (refine Ob.b ?_;conv=>whnf)
        apply Cl.go
        (conv=>whnf)
        refine Ob.fn ?_ ?_ ?_ (hcA)
        rotate_left
        all_goals try (repeat' first | (refine Edge.fast ?_) | ((conv=>whnf); first | exact True.intro | (refine And.intro ?_ ?_) | exact rfl | exact Nat.le_of_eq (Nat.zero_add _) | exact ImpS.refl _ | ((conv => arg 1; whnf); first | exact ImpS.refl _ | (refine ImpS.nil_eq ?_) | (refine ImpS.vnil_eq ?_) | (refine ImpS.row ?_) | (refine ImpS.rowN ?_ ?_) | (refine ImpS.sl_eq ?_) | (refine ImpS.expl rfl ?_)) | (refine row_snoc' ?_) | (apply row_upd) | exact cimp_none | exact cimp_same | exact List.not_mem_nil | exact DImp.refl _) | exact rfl | (refine And.intro ?_ ?_) | exact ImpS.refl _)
        all_goals try first | assumption | omega
        all_goals first | exact ham _ | skip
        conv => whnf
        repeat' first | ((first | refine Ob.a ?_ | refine Sp.tt ?_ | refine Sp.ff ?_ | refine Sp.yes ?_ | refine Sp.no ?_ | refine Sp.nyes ?_ | refine Sp.nno ?_);conv=>whnf) | (refine Sp.ne (fun hc => ?_) (fun hc => ?_) <;> (conv=>whnf)) | (refine Sp.dec (fun hc => ?_) (fun hc => ?_) <;> (conv=>whnf)) | (refine Sp.ndec (fun hc => ?_) (fun hc => ?_) <;> (conv=>whnf)) | (refine Sp.mk (fun hc => ?_) (fun hc => ?_) <;> (conv=>whnf)) | (apply Cl.go;(conv=>whnf); (first | refine Ob.call (hcB) ?_);(conv=>whnf)) | (refine Nx.mk (fun ka kb kx hx hs => ?_) (fun he => ?_) <;> (conv=>whnf)) | (refine Nx.mk (fun ka kx hx hs => ?_) (fun he => ?_) <;> (conv=>whnf)) | (refine Uk.mk (fun hn => ?_) ?_ <;> (conv=>whnf)) | (refine Fi.a ?_;conv=>whnf) | (refine Yl.a ?_ ?_ <;> (conv=>whnf)) | (refine Ob.b ?_;conv=>whnf)
        all_goals exact ⟨rfl, ⟨(i + 1, o ++ [0]), hil, by simp only; rw [hsn, hv]⟩, Lf, by simp only; omega⟩
      by_cases hbo : n < b1
      · have hv : bl i = 0 := by rw [hbl]; simp [hao, hbo]
        conv => whnf
        repeat' first | ((first | refine Ob.a ?_ | refine Sp.tt ?_ | refine Sp.ff ?_ | refine Sp.yes ?_ | refine Sp.no ?_ | refine Sp.nyes ?_ | refine Sp.nno ?_);conv=>whnf) | (refine Sp.ne (fun hc => ?_) (fun hc => ?_) <;> (conv=>whnf)) | (refine Sp.dec (fun hc => ?_) (fun hc => ?_) <;> (conv=>whnf)) | (refine Sp.ndec (fun hc => ?_) (fun hc => ?_) <;> (conv=>whnf)) | (refine Sp.mk (fun hc => ?_) (fun hc => ?_) <;> (conv=>whnf)) | (refine Nx.mk (fun ka kb kx hx hs => ?_) (fun he => ?_) <;> (conv=>whnf)) | (refine Nx.mk (fun ka kx hx hs => ?_) (fun he => ?_) <;> (conv=>whnf)) | (refine Uk.mk (fun hn => ?_) ?_ <;> (conv=>whnf)) | (refine Fi.a ?_;conv=>whnf) | (refine Yl.a ?_ ?_ <;> (conv=>whnf)) | (refine Ob.b ?_;conv=>whnf)
        apply Cl.go
        (conv=>whnf)
        refine Ob.fn ?_ ?_ ?_ (hcA)
        rotate_left
        all_goals try (repeat' first | (refine Edge.fast ?_) | ((conv=>whnf); first | exact True.intro | (refine And.intro ?_ ?_) | exact rfl | exact Nat.le_of_eq (Nat.zero_add _) | exact ImpS.refl _ | ((conv => arg 1; whnf); first | exact ImpS.refl _ | (refine ImpS.nil_eq ?_) | (refine ImpS.vnil_eq ?_) | (refine ImpS.row ?_) | (refine ImpS.rowN ?_ ?_) | (refine ImpS.sl_eq ?_) | (refine ImpS.expl rfl ?_)) | (refine row_snoc' ?_) | (apply row_upd) | exact cimp_none | exact cimp_same | exact List.not_mem_nil | exact DImp.refl _) | exact rfl | (refine And.intro ?_ ?_) | exact ImpS.refl _)
        all_goals try first | assumption | omega
        all_goals first | exact ham _ | skip
        conv => whnf
        repeat' first | ((first | refine Ob.a ?_ | refine Sp.tt ?_ | refine Sp.ff ?_ | refine Sp.yes ?_ | refine Sp.no ?_ | refine Sp.nyes ?_ | refine Sp.nno ?_);conv=>whnf) | (refine Sp.ne (fun hc => ?_) (fun hc => ?_) <;> (conv=>whnf)) | (refine Sp.dec (fun hc => ?_) (fun hc => ?_) <;> (conv=>whnf)) | (refine Sp.ndec (fun hc => ?_) (fun hc => ?_) <;> (conv=>whnf)) | (refine Sp.mk (fun hc => ?_) (fun hc => ?_) <;> (conv=>whnf)) | (apply Cl.go;(conv=>whnf); (first | refine Ob.call (hcB) ?_);(conv=>whnf)) | (refine Nx.mk (fun ka kb kx hx hs => ?_) (fun he => ?_) <;> (conv=>whnf)) | (refine Nx.mk (fun ka kx hx hs => ?_) (fun he => ?_) <;> (conv=>whnf)) | (refine Uk.mk (fun hn => ?_) ?_ <;> (conv=>whnf)) | (refine Fi.a ?_;conv=>whnf) | (refine Yl.a ?_ ?_ <;> (conv=>whnf)) | (refine Ob.b ?_;conv=>whnf)
        all_goals exact ⟨rfl, ⟨(i + 1, o ++ [0]), hil, by simp only; rw [hsn, hv]⟩, Lf, by simp only; omega⟩
      · have hv : bl i = 1 := by rw [hbl]; simp [hao, hbo]
        conv => whnf
        repeat' first | ((first | refine Ob.a ?_ | refine Sp.tt ?_ | refine Sp.ff ?_ | refine Sp.yes ?_ | refine Sp.no ?_ | refine Sp.nyes ?_ | refine Sp.nno ?_);conv=>whnf) | (refine Sp.ne (fun hc => ?_) (fun hc => ?_) <;> (conv=>whnf)) | (refine Sp.dec (fun hc => ?_) (fun hc => ?_) <;> (conv=>whnf)) | (refine Sp.ndec (fun hc => ?_) (fun hc => ?_) <;> (conv=>whnf)) | (refine Sp.mk (fun hc => ?_) (fun hc => ?_) <;> (conv=>whnf)) | (refine Nx.mk (fun ka kb kx hx hs => ?_) (fun he => ?_) <;> (conv=>whnf)) | (refine Nx.mk (fun ka kx hx hs => ?_) (fun he => ?_) <;> (conv=>whnf)) | (refine Uk.mk (fun hn => ?_) ?_ <;> (conv=>whnf)) | (refine Fi.a ?_;conv=>whnf) | (refine Yl.a ?_ ?_ <;> (conv=>whnf)) | (refine Ob.b ?_;conv=>whnf)
        apply Cl.go
        (conv=>whnf)
        refine Ob.fn ?_ ?_ ?_ (hcA)
        rotate_left
        all_goals try (repeat' first | (refine Edge.fast ?_) | ((conv=>whnf); first | exact True.intro | (refine And.intro ?_ ?_) | exact rfl | exact Nat.le_of_eq (Nat.zero_add _) | exact ImpS.refl _ | ((conv => arg 1; whnf); first | exact ImpS.refl _ | (refine ImpS.nil_eq ?_) | (refine ImpS.vnil_eq ?_) | (refine ImpS.row ?_) | (refine ImpS.rowN ?_ ?_) | (refine ImpS.sl_eq ?_) | (refine ImpS.expl rfl ?_)) | (refine row_snoc' ?_) | (apply row_upd) | exact cimp_none | exact cimp_same | exact List.not_mem_nil | exact DImp.refl _) | exact rfl | (refine And.intro ?_ ?_) | exact ImpS.refl _)
        all_goals try first | assumption | omega
        all_goals first | exact ham _ | skip
        conv => whnf
        repeat' first | ((first | refine Ob.a ?_ | refine Sp.tt ?_ | refine Sp.ff ?_ | refine Sp.yes ?_ | refine Sp.no ?_ | refine Sp.nyes ?_ | refine Sp.nno ?_);conv=>whnf) | (refine Sp.ne (fun hc => ?_) (fun hc => ?_) <;> (conv=>whnf)) | (refine Sp.dec (fun hc => ?_) (fun hc => ?_) <;> (conv=>whnf)) | (refine Sp.ndec (fun hc => ?_) (fun hc => ?_) <;> (conv=>whnf)) | (refine Sp.mk (fun hc => ?_) (fun hc => ?_) <;> (conv=>whnf)) | (apply Cl.go;(conv=>whnf); (first | refine Ob.call (hcB) ?_);(conv=>whnf)) | (refine Nx.mk (fun ka kb kx hx hs => ?_) (fun he => ?_) <;> (conv=>whnf)) | (refine Nx.mk (fun ka kx hx hs => ?_) (fun he => ?_) <;> (conv=>whnf)) | (refine Uk.mk (fun hn => ?_) ?_ <;> (conv=>whnf)) | (refine Fi.a ?_;conv=>whnf) | (refine Yl.a ?_ ?_ <;> (conv=>whnf)) | (refine Ob.b ?_;conv=>whnf)
        all_goals exact ⟨rfl, ⟨(i + 1, o ++ [1]), hil, by simp only; rw [hsn, hv]⟩, Lf, by simp only; omega⟩
    · have e : o = fin := by rw [ho, ← hfin, show i = r.lots.length by omega]
      conv => whnf
      repeat' first | ((first | refine Ob.a ?_ | refine Sp.tt ?_ | refine Sp.ff ?_ | refine Sp.yes ?_ | refine Sp.no ?_ | refine Sp.nyes ?_ | refine Sp.nno ?_);conv=>whnf) | (refine Sp.ne (fun hc => ?_) (fun hc => ?_) <;> (conv=>whnf)) | (refine Sp.dec (fun hc => ?_) (fun hc => ?_) <;> (conv=>whnf)) | (refine Sp.ndec (fun hc => ?_) (fun hc => ?_) <;> (conv=>whnf)) | (refine Sp.mk (fun hc => ?_) (fun hc => ?_) <;> (conv=>whnf)) | (refine Nx.mk (fun ka kb kx hx hs => ?_) (fun he => ?_) <;> (conv=>whnf)) | (refine Nx.mk (fun ka kx hx hs => ?_) (fun he => ?_) <;> (conv=>whnf)) | (refine Uk.mk (fun hn => ?_) ?_ <;> (conv=>whnf)) | (refine Fi.a ?_;conv=>whnf) | (refine Yl.a ?_ ?_ <;> (conv=>whnf)) | (refine Ob.b ?_;conv=>whnf)
      exact Lf
  · exact Lf
end Go.Px.Try

/-! Pp9 -/
namespace Go.Px.Try
open Go Go.Proofs Go.Px
set_option maxRecDepth 100000
set_option maxHeartbeats 8000000 in
theorem FellowsP_spec (r : Row) (a : Int) (h1 : r.lots.length < 1000000) (h2 : r.weak.length < 1000000) : Fn Try.prog 37 [rowD r, int a] (tpl [ints (fellowsR r a).1, int (fellowsR r a).2]) := by
  have hw := within_one 0 (r.pots - 1) a
  have hT := fun b => together_spec r a b h1
  by_cases hr : checkRow r = 0
  case neg =>
    have e : fellowsR r a = ([], checkRow r) := if_pos hr
    rw [e]
    have hc := open_err r h1 h2 hr
    generalize checkRow r = c at *
    refine Fn.of_ex (cuts := []) tys hM Try.func37 rfl Try.call37 rfl ?_
    show exC Try.prog T [] _ false none 0 (entry 47 [rowD r, int a]) (finQ T [ResultVar.tmp 4, ResultVar.tmp 5] _)
    conv => whnf
    repeat' first | ((first | refine Ob.a ?_ | refine Sp.tt ?_ | refine Sp.ff ?_ | refine Sp.yes ?_ | refine Sp.no ?_ | refine Sp.nyes ?_ | refine Sp.nno ?_);conv=>whnf) | (refine Sp.ne (fun hc => ?_) (fun hc => ?_) <;> (conv=>whnf)) | (refine Sp.dec (fun hc => ?_) (fun hc => ?_) <;> (conv=>whnf)) | (refine Sp.ndec (fun hc => ?_) (fun hc => ?_) <;> (conv=>whnf)) | (refine Sp.mk (fun hc => ?_) (fun hc => ?_) <;> (conv=>whnf)) | (apply Cl.go;(conv=>whnf); (first | refine Ob.call (hc) ?_ | refine Ob.call (hw) ?_);(conv=>whnf)) | (refine Nx.mk (fun ka kb kx hx hs => ?_) (fun he => ?_) <;> (conv=>whnf)) | (refine Nx.mk (fun ka kx hx hs => ?_) (fun he => ?_) <;> (conv=>whnf)) | (refine Uk.mk (fun hn => ?_) ?_ <;> (conv=>whnf)) | (refine Fi.a ?_;conv=>whnf) | (refine Yl.a ?_ ?_ <;> (conv=>whnf)) | (refine Ob.b ?_;conv=>whnf)
    all_goals exact Lf
  have hok := checkRow_ok.1 hr
  have hp1 := hok.p1
  have hp40 := hok.p40
  have hc := open_ok r h1 h2 hr
  by_cases ha : a < 0 ∨ r.pots ≤ a
  · have e : fellowsR r a = ([], 2) := by unfold fellowsR; rw [if_neg (show ¬ checkRow r ≠ 0 by omega), if_pos ha]
    rw [e]
    rw [decide_eq_false (by omega)] at hw
    refine Fn.of_ex (cuts := []) tys hM Try.func37 rfl Try.call37 rfl ?_
    show exC Try.prog T [] _ false none 0 (entry 47 [rowD r, int a]) (finQ T [ResultVar.tmp 4, ResultVar.tmp 5] _)
    conv => whnf
    repeat' first | ((first | refine Ob.a ?_ | refine Sp.tt ?_ | refine Sp.ff ?_ | refine Sp.yes ?_ | refine Sp.no ?_ | refine Sp.nyes ?_ | refine Sp.nno ?_);conv=>whnf) | (refine Sp.ne (fun hc => ?_) (fun hc => ?_) <;> (conv=>whnf)) | (refine Sp.dec (fun hc => ?_) (fun hc => ?_) <;> (conv=>whnf)) | (refine Sp.ndec (fun hc => ?_) (fun hc => ?_) <;> (conv=>whnf)) | (refine Sp.mk (fun hc => ?_) (fun hc => ?_) <;> (conv=>whnf)) | (apply Cl.go;(conv=>whnf); (first | refine Ob.call (hc) ?_ | refine Ob.call (hw) ?_);(conv=>whnf)) | (refine Nx.mk (fun ka kb kx hx hs => ?_) (fun he => ?_) <;> (conv=>whnf)) | (refine Nx.mk (fun ka kx hx hs => ?_) (fun he => ?_) <;> (conv=>whnf)) | (refine Uk.mk (fun hn => ?_) ?_ <;> (conv=>whnf)) | (refine Fi.a ?_;conv=>whnf) | (refine Yl.a ?_ ?_ <;> (conv=>whnf)) | (refine Ob.b ?_;conv=>whnf)
    all_goals exact Lf
  have e : fellowsR r a = (lst r.pots.toNat (felS r a), 0) := by unfold fellowsR; rw [if_neg (show ¬ checkRow r ≠ 0 by omega), if_neg ha]
  rw [e]
  rw [decide_eq_true (by omega)] at hw
  generalize hfin : lst r.pots.toNat (felS r a) = fin
  refine Fn.of_ex (cuts := []) tys hM Try.func37 rfl Try.call37 rfl ?_
  show exC Try.prog T [] _ false none 0 (entry 47 [rowD r, int a]) (finQ T [ResultVar.tmp 4, ResultVar.tmp 5] _)
  conv => whnf
  repeat' first | ((first | refine Ob.a ?_ | refine Sp.tt ?_ | refine Sp.ff ?_ | refine Sp.yes ?_ | refine Sp.no ?_ | refine Sp.nyes ?_ | refine Sp.nno ?_);conv=>whnf) | (refine Sp.ne (fun hc => ?_) (fun hc => ?_) <;> (conv=>whnf)) | (refine Sp.dec (fun hc => ?_) (fun hc => ?_) <;> (conv=>whnf)) | (refine Sp.ndec (fun hc => ?_) (fun hc => ?_) <;> (conv=>whnf)) | (refine Sp.mk (fun hc => ?_) (fun hc => ?_) <;> (conv=>whnf)) | (apply Cl.go;(conv=>whnf); (first | refine Ob.call (hc) ?_ | refine Ob.call (hw) ?_);(conv=>whnf)) | (refine Nx.mk (fun ka kb kx hx hs => ?_) (fun he => ?_) <;> (conv=>whnf)) | (refine Nx.mk (fun ka kx hx hs => ?_) (fun he => ?_) <;> (conv=>whnf)) | (refine Uk.mk (fun hn => ?_) ?_ <;> (conv=>whnf)) | (refine Fi.a ?_;conv=>whnf) | (refine Yl.a ?_ ?_ <;> (conv=>whnf)) | (refine Ob.b ?_;conv=>whnf)
  refine Lp.snap [0, 1, 4, 5, 6, 28, 46] 40 ?_
  (conv=>whnf)
  refine LpB.go 47 ({q : Int × List Int // (0 ≤ q.1 ∧ q.1 ≤ r.pots) ∧ q.2 = lst q.1.toNat (felS r a)}) 0 (fun ⟨(i, o), _⟩ nx => ([(29, .d (int i)), (8, .ms 21 1 0 o.length)], [(21, .row true 3 1 o.length (rowOf int 0 o))])) (fun p => (r.pots - p.1.1).toNat) (⟨(0, []), ⟨by simp, by simp only; omega⟩, rfl⟩) ?_ ?_
  · rintro ⟨⟨i, o⟩, ⟨i0, i1⟩, ho⟩
    simp only at i0 i1 ho
    have hlen : o.length ≤ i.toNat := by rw [ho]; exact lst_length_le _ _
    have hs : lst (i + 1).toNat (felS r a) = o ++ if felS r a i.toNat = true then [i] else [] := by
      rw [show (i + 1).toNat = i.toNat + 1 by omega, lst_succ, ho, Int.toNat_of_nonneg i0]
    have he : ¬ i < r.pots → o = fin := fun hi => by rw [ho, ← hfin, show i.toNat = r.pots.toNat by omega]
    have hT := hT i
    have hf : felS r a i.toNat = (decide (i ≠ a) && togB r a i) := by unfold felS; rw [Int.toNat_of_nonneg i0]
    rw [hf] at hs
    by_cases hil : i < r.pots
    case neg =>
      have e := he hil
      conv => whnf
      repeat' first | ((first | refine Ob.a ?_ | refine Sp.tt ?_ | refine Sp.ff ?_ | refine Sp.yes ?_ | refine Sp.no ?_ | refine Sp.nyes ?_ | refine Sp.nno ?_);conv=>whnf) | (refine Sp.ne (fun hc => ?_) (fun hc => ?_) <;> (conv=>whnf)) | (refine Sp.dec (fun hc => ?_) (fun hc => ?_) <;> (conv=>whnf)) | (refine Sp.ndec (fun hc => ?_) (fun hc => ?_) <;> (conv=>whnf)) | (refine Sp.mk (fun hc => ?_) (fun hc => ?_) <;> (conv=>whnf)) | (refine Nx.mk (fun ka kb kx hx hs => ?_) (fun he => ?_) <;> (conv=>whnf)) | (refine Nx.mk (fun ka kx hx hs => ?_) (fun he => ?_) <;> (conv=>whnf)) | (refine Uk.mk (fun hn => ?_) ?_ <;> (conv=>whnf)) | (refine Fi.a ?_;conv=>whnf) | (refine Yl.a ?_ ?_ <;> (conv=>whnf)) | (refine Ob.b ?_;conv=>whnf)
      exact Lf
    by_cases hia : i = a
    · rw [if_neg (by simp [hia]), List.append_nil] at hs
      conv => whnf
      repeat' first | ((first | refine Ob.a ?_ | refine Sp.tt ?_ | refine Sp.ff ?_ | refine Sp.yes ?_ | refine Sp.no ?_ | refine Sp.nyes ?_ | refine Sp.nno ?_);conv=>whnf) | (refine Sp.ne (fun hc => ?_) (fun hc => ?_) <;> (conv=>whnf)) | (refine Sp.dec (fun hc => ?_) (fun hc => ?_) <;> (conv=>whnf)) | (refine Sp.ndec (fun hc => ?_) (fun hc => ?_) <;> (conv=>whnf)) | (refine Sp.mk (fun hc => ?_) (fun hc => ?_) <;> (conv=>whnf)) | (apply Cl.go;(conv=>whnf); (first | refine Ob.call (hT) ?_);(conv=>whnf)) | (refine Nx.mk (fun ka kb kx hx hs => ?_) (fun he => ?_) <;> (conv=>whnf)) | (refine Nx.mk (fun ka kx hx hs => ?_) (fun he => ?_) <;> (conv=>whnf)) | (refine Uk.mk (fun hn => ?_) ?_ <;> (conv=>whnf)) | (refine Fi.a ?_;conv=>whnf) | (refine Yl.a ?_ ?_ <;> (conv=>whnf)) | (refine Ob.b ?_;conv=>whnf)
      exact ⟨rfl, ⟨(i + 1, o), ⟨by simp only; omega, by simp only; omega⟩, hs.symm⟩, Lf, by simp only; omega⟩
    cases ht : togB r a i with
    | true =>
      rw [if_pos (by simp [hia, ht])] at hs
      rw [ht] at hT
      conv => whnf
      repeat' first | ((first | refine Ob.a ?_ | refine Sp.tt ?_ | refine Sp.ff ?_ | refine Sp.yes ?_ | refine Sp.no ?_ | refine Sp.nyes ?_ | refine Sp.nno ?_);conv=>whnf) | (refine Sp.ne (fun hc => ?_) (fun hc => ?_) <;> (conv=>whnf)) | (refine Sp.dec (fun hc => ?_) (fun hc => ?_) <;> (conv=>whnf)) | (refine Sp.ndec (fun hc => ?_) (fun hc => ?_) <;> (conv=>whnf)) | (refine Sp.mk (fun hc => ?_) (fun hc => ?_) <;> (conv=>whnf)) | (apply Cl.go;(conv=>whnf); (first | refine Ob.call (hT) ?_);(conv=>whnf)) | (refine Nx.mk (fun ka kb kx hx hs => ?_) (fun he => ?_) <;> (conv=>whnf)) | (refine Nx.mk (fun ka kx hx hs => ?_) (fun he => ?_) <;> (conv=>whnf)) | (refine Uk.mk (fun hn => ?_) ?_ <;> (conv=>whnf)) | (refine Fi.a ?_;conv=>whnf) | (refine Yl.a ?_ ?_ <;> (conv=>whnf)) | (refine Ob.b ?_;conv=>whnf)
      exact ⟨rfl, ⟨(i + 1, o ++ [i]), ⟨by simp only; omega, by simp only; omega⟩, hs.symm⟩, Lf, by simp only; omega⟩
    | false =>
      rw [if_neg (by simp [ht]), List.append_nil] at hs
      rw [ht] at hT
      conv => whnf
      repeat' first | ((first | refine Ob.a ?_ | refine Sp.tt ?_ | refine Sp.ff ?_ | refine Sp.yes ?_ | refine Sp.no ?_ | refine Sp.nyes ?_ | refine Sp.nno ?_);conv=>whnf) | (refine Sp.ne (fun hc => ?_) (fun hc => ?_) <;> (conv=>whnf)) | (refine Sp.dec (fun hc => ?_) (fun hc => ?_) <;> (conv=>whnf)) | (refine Sp.ndec (fun hc => ?_) (fun hc => ?_) <;> (conv=>whnf)) | (refine Sp.mk (fun hc => ?_) (fun hc => ?_) <;> (conv=>whnf)) | (apply Cl.go;(conv=>whnf); (first | refine Ob.call (hT) ?_);(conv=>whnf)) | (refine Nx.mk (fun ka kb kx hx hs => ?_) (fun he => ?_) <;> (conv=>whnf)) | (refine Nx.mk (fun ka kx hx hs => ?_) (fun he => ?_) <;> (conv=>whnf)) | (refine Uk.mk (fun hn => ?_) ?_ <;> (conv=>whnf)) | (refine Fi.a ?_;conv=>whnf) | (refine Yl.a ?_ ?_ <;> (conv=>whnf)) | (refine Ob.b ?_;conv=>whnf)
      exact ⟨rfl, ⟨(i + 1, o), ⟨by simp only; omega, by simp only; omega⟩, hs.symm⟩, Lf, by simp only; omega⟩
  · exact Lf
def pricesPR (r : Row) : List Int × Int := if rowError r ≠ 0 then ([], rowError r) else (pricesP r, 0)
theorem pricesOf_succ (l : List Int) (k : Nat) : pricesOf l (k + 1) = pricesOf l k ++ [l.getD (k + 1) 0 - l.getD k 0] := by
  unfold pricesOf; rw [List.range_succ, List.map_append]; rfl
theorem pricesOf_len (l : List Int) (k : Nat) : (pricesOf l k).length = k := by simp [pricesOf]
theorem leastP_upto (r : Row) : leastP r = match uptoR r r.weak noB with
    | some l => (0 + l.getD r.weak.length 0, true)
    | none => (0, false) := by
  have e : restW r [] = r.weak := List.filter_eq_self.2 fun x _ => rfl
  unfold leastP costP
  rw [e]
  rfl
theorem prices_put {l : List Int} {k : Int} (k0 : 0 ≤ k) {w : DV} (hw : w = int (l.getD (0 + (k + 1).toNat) 0 - l.getD (0 + k.toNat) 0)) (j : Nat) : CImp (upE (0 + k.toNat) w (rowOf int 0 (pricesOf l k.toNat)) j) (rowOf int 0 (pricesOf l (k + 1).toNat) j) := by
  subst hw
  have e : (k + 1).toNat = k.toNat + 1 := by omega
  rw [e, pricesOf_succ]
  simp only [Nat.zero_add]
  have hl := pricesOf_len l k.toNat
  generalize pricesOf l k.toNat = L at *
  generalize k.toNat = n at *
  subst hl
  unfold upE rowOf
  by_cases h : j = L.length
  · subst h
    rw [if_pos rfl, List.getD_eq_getElem?_getD (l := L ++ _), List.getElem?_append_right (Nat.le_refl _)]
    simp
    exact ⟨rfl, rfl⟩
  · rw [if_neg h]
    have : L.getD j 0 = (L ++ [l.getD (L.length + 1) 0 - l.getD L.length 0]).getD j 0 := by
      rw [List.getD_eq_getElem?_getD, List.getD_eq_getElem?_getD]
      by_cases h2 : j < L.length
      · rw [List.getElem?_append_left h2]
      · rw [List.getElem?_eq_none (by omega), List.getElem?_eq_none (by simp; omega)]
    rw [this]
    exact ⟨rfl, rfl⟩
set_option maxHeartbeats 16000000 in
theorem PricesP_spec (r : Row) (h1 : r.lots.length < 1000000) (h2 : r.weak.length < 1000000) : Fn Try.prog 34 [rowD r] (tpl [ints (pricesPR r).1, int (pricesPR r).2]) := by
  by_cases he : rowError r = 0
  case neg =>
    have hx := explained_err r h1 h2 he
    have e : pricesPR r = ([], rowError r) := if_pos he
    rw [e]
    generalize rowError r = n at *
    refine Fn.of_ex (cuts := []) tys hM Try.func34 rfl Try.call34 rfl ?_
    show exC Try.prog T [] _ false none 0 (entry 52 [rowD r]) (finQ T [ResultVar.tmp 2, ResultVar.tmp 3] _)
    conv => whnf
    repeat' first | ((first | refine Ob.a ?_ | refine Sp.tt ?_ | refine Sp.ff ?_ | refine Sp.yes ?_ | refine Sp.no ?_ | refine Sp.nyes ?_ | refine Sp.nno ?_);conv=>whnf) | (refine Sp.ne (fun hc => ?_) (fun hc => ?_) <;> (conv=>whnf)) | (refine Sp.dec (fun hc => ?_) (fun hc => ?_) <;> (conv=>whnf)) | (refine Sp.ndec (fun hc => ?_) (fun hc => ?_) <;> (conv=>whnf)) | (refine Sp.mk (fun hc => ?_) (fun hc => ?_) <;> (conv=>whnf)) | (apply Cl.go;(conv=>whnf); (first | refine Ob.call (hx) ?_);(conv=>whnf)) | (refine Nx.mk (fun ka kb kx hx hs => ?_) (fun he => ?_) <;> (conv=>whnf)) | (refine Nx.mk (fun ka kx hx hs => ?_) (fun he => ?_) <;> (conv=>whnf)) | (refine Uk.mk (fun hn => ?_) ?_ <;> (conv=>whnf)) | (refine Fi.a ?_;conv=>whnf) | (refine Yl.a ?_ ?_ <;> (conv=>whnf)) | (refine Ob.b ?_;conv=>whnf)
    all_goals exact Lf
  have hx := explained_ok r h1 h2 he
  obtain ⟨hr, hS⟩ := rowError_ok.1 he
  have h12 := hr.w12
  have e : pricesPR r = (pricesP r, 0) := if_neg (not_not_intro he)
  rw [e]
  have hU := upto_spec r hr r.weak h12 noB
  have hue : upTo r r.weak noB r.weak.length = uptoR r r.weak noB := rfl
  rw [hue] at hU
  have hl2 := (leastP_ok hr).1.2 hS
  have hlu := leastP_upto r
  have hur : ∀ l, uptoR r r.weak noB = some l → ∀ j, 0 ≤ l.getD j 0 ∧ l.getD j 0 ≤ 400 := fun l h => uptoR_rng hr hr.inc h
  have hpp : pricesP r = match uptoR r r.weak noB with
    | some l => pricesOf l r.weak.length
    | none => [] := rfl
  generalize leastP r = n at *
  generalize pricesP r = P at *
  generalize uptoR r r.weak noB = u at *
  cases u with
  | none => rw [hlu] at hl2; cases hl2
  | some l =>
    simp only at hpp
    have hur := hur l rfl
    clear hlu hl2 hue
    refine Fn.of_ex (cuts := []) tys hM Try.func34 rfl Try.call34 rfl ?_
    show exC Try.prog T [] _ false none 0 (entry 52 [rowD r]) (finQ T [ResultVar.tmp 2, ResultVar.tmp 3] _)
    conv => whnf
    repeat' first | ((first | refine Ob.a ?_ | refine Sp.tt ?_ | refine Sp.ff ?_ | refine Sp.yes ?_ | refine Sp.no ?_ | refine Sp.nyes ?_ | refine Sp.nno ?_);conv=>whnf) | (refine Sp.ne (fun hc => ?_) (fun hc => ?_) <;> (conv=>whnf)) | (refine Sp.dec (fun hc => ?_) (fun hc => ?_) <;> (conv=>whnf)) | (refine Sp.ndec (fun hc => ?_) (fun hc => ?_) <;> (conv=>whnf)) | (refine Sp.mk (fun hc => ?_) (fun hc => ?_) <;> (conv=>whnf)) | (apply Cl.go;(conv=>whnf); (first | refine Ob.call (hx) ?_ | refine Ob.call (hU) ?_);(conv=>whnf)) | (refine Nx.mk (fun ka kb kx hx hs => ?_) (fun he => ?_) <;> (conv=>whnf)) | (refine Nx.mk (fun ka kx hx hs => ?_) (fun he => ?_) <;> (conv=>whnf)) | (refine Uk.mk (fun hn => ?_) ?_ <;> (conv=>whnf)) | (refine Fi.a ?_;conv=>whnf) | (refine Yl.a ?_ ?_ <;> (conv=>whnf)) | (refine Ob.b ?_;conv=>whnf)
    refine Lp.snap [0, 2, 3, 7, 9, 35, 51] 40 ?_
    (conv=>whnf)
    refine LpB.go 52 ({k : Int // 0 ≤ k ∧ k ≤ r.weak.length}) 0 (fun ⟨k, _⟩ nx => ([(36, .d (int k))], [(30, .row true 3 1 r.weak.length (rowOf int 0 (pricesOf l k.toNat)))])) (fun p => (r.weak.length - p.1).toNat) (⟨0, by omega, by omega⟩) ?_ ?_
    · rintro ⟨k, k0, k1⟩
      by_cases hk : k < r.weak.length
      · have hb1 := hur (0 + k.toNat)
        have hb2 := hur (0 + (k + 1).toNat)
        conv => whnf
        repeat' first | ((first | refine Ob.a ?_ | refine Sp.tt ?_ | refine Sp.ff ?_ | refine Sp.yes ?_ | refine Sp.no ?_ | refine Sp.nyes ?_ | refine Sp.nno ?_);conv=>whnf) | (refine Sp.ne (fun hc => ?_) (fun hc => ?_) <;> (conv=>whnf)) | (refine Sp.dec (fun hc => ?_) (fun hc => ?_) <;> (conv=>whnf)) | (refine Sp.ndec (fun hc => ?_) (fun hc => ?_) <;> (conv=>whnf)) | (refine Sp.mk (fun hc => ?_) (fun hc => ?_) <;> (conv=>whnf)) | (refine Nx.mk (fun ka kb kx hx hs => ?_) (fun he => ?_) <;> (conv=>whnf)) | (refine Nx.mk (fun ka kx hx hs => ?_) (fun he => ?_) <;> (conv=>whnf)) | (refine Uk.mk (fun hn => ?_) ?_ <;> (conv=>whnf)) | (refine Fi.a ?_;conv=>whnf) | (refine Yl.a ?_ ?_ <;> (conv=>whnf)) | (refine Ob.b ?_;conv=>whnf)
        refine ⟨rfl, ⟨k + 1, by omega, by omega⟩, ?_, by simp only; omega⟩
        repeat' first | (refine Edge.fast ?_) | ((conv=>whnf); first | exact True.intro | (refine And.intro ?_ ?_) | exact rfl | exact Nat.le_of_eq (Nat.zero_add _) | exact ImpS.refl _ | ((conv => arg 1; whnf); first | exact ImpS.refl _ | (refine ImpS.nil_eq ?_) | (refine ImpS.vnil_eq ?_) | (refine ImpS.row ?_) | (refine ImpS.rowN ?_ ?_) | (refine ImpS.sl_eq ?_) | (refine ImpS.expl rfl ?_)) | (refine row_snoc' ?_) | exact MImp.refl _ | exact cimp_none | exact cimp_same | exact List.not_mem_nil | exact DImp.refl _) | exact rfl | (refine And.intro ?_ ?_) | exact ImpS.refl _
        exact fun j _ => prices_put k0 rfl j
      · have e : pricesOf l k.toNat = P := by rw [hpp, show k.toNat = r.weak.length by omega]
        have hP : (pricesOf l k.toNat).length = r.weak.length := by rw [pricesOf_len]; omega
        conv => whnf
        repeat' first | ((first | refine Ob.a ?_ | refine Sp.tt ?_ | refine Sp.ff ?_ | refine Sp.yes ?_ | refine Sp.no ?_ | refine Sp.nyes ?_ | refine Sp.nno ?_);conv=>whnf) | (refine Sp.ne (fun hc => ?_) (fun hc => ?_) <;> (conv=>whnf)) | (refine Sp.dec (fun hc => ?_) (fun hc => ?_) <;> (conv=>whnf)) | (refine Sp.ndec (fun hc => ?_) (fun hc => ?_) <;> (conv=>whnf)) | (refine Sp.mk (fun hc => ?_) (fun hc => ?_) <;> (conv=>whnf)) | (refine Nx.mk (fun ka kb kx hx hs => ?_) (fun he => ?_) <;> (conv=>whnf)) | (refine Nx.mk (fun ka kx hx hs => ?_) (fun he => ?_) <;> (conv=>whnf)) | (refine Uk.mk (fun hn => ?_) ?_ <;> (conv=>whnf)) | (refine Fi.a ?_;conv=>whnf) | (refine Yl.a ?_ ?_ <;> (conv=>whnf)) | (refine Ob.b ?_;conv=>whnf)
        exact Lf
    · conv => whnf
      repeat' first | (refine Edge.fast ?_) | ((conv=>whnf); first | exact True.intro | (refine And.intro ?_ ?_) | exact rfl | exact Nat.le_of_eq (Nat.zero_add _) | exact ImpS.refl _ | ((conv => arg 1; whnf); first | exact ImpS.refl _ | (refine ImpS.nil_eq ?_) | (refine ImpS.vnil_eq ?_) | (refine ImpS.row ?_) | (refine ImpS.rowN ?_ ?_) | (refine ImpS.sl_eq ?_) | (refine ImpS.expl rfl ?_)) | (refine row_snoc' ?_) | exact MImp.refl _ | exact cimp_none | exact cimp_same | exact List.not_mem_nil | exact DImp.refl _) | exact rfl | (refine And.intro ?_ ?_) | exact ImpS.refl _
end Go.Px.Try

/-! Pp10 -/
namespace Go.Px.Try
open Go Go.Proofs Go.Px
set_option maxRecDepth 100000
set_option maxHeartbeats 8000000 in
theorem index_int (l : List Int) (x : Int) (hl : l.length < 1000000) : Fn Try.prog 94 [ints l, int x] (int (ixf (fun y => decide (x = y)) l)) := by
  refine Fn.hide (D := fun r : Int => int r) fun r hr => ?_
  refine Fn.of_ex (cuts := []) tys hM Try.func94 rfl Try.call94 rfl ?_
  show exC Try.prog T [] _ false none 0 (entry 19 [ints l, int x]) (finQ T [ResultVar.tmp 4] _)
  conv => whnf
  repeat' first | ((first | refine Ob.a ?_ | refine Sp.tt ?_ | refine Sp.ff ?_ | refine Sp.yes ?_ | refine Sp.no ?_ | refine Sp.nyes ?_ | refine Sp.nno ?_);conv=>whnf) | (refine Sp.ne (fun hc => ?_) (fun hc => ?_) <;> (conv=>whnf)) | (refine Sp.dec (fun hc => ?_) (fun hc => ?_) <;> (conv=>whnf)) | (refine Sp.ndec (fun hc => ?_) (fun hc => ?_) <;> (conv=>whnf)) | (refine Sp.mk (fun hc => ?_) (fun hc => ?_) <;> (conv=>whnf)) | (refine Nx.mk (fun ka kb kx hx hs => ?_) (fun he => ?_) <;> (conv=>whnf)) | (refine Nx.mk (fun ka kx hx hs => ?_) (fun he => ?_) <;> (conv=>whnf)) | (refine Uk.mk (fun hn => ?_) ?_ <;> (conv=>whnf)) | (refine Fi.a ?_;conv=>whnf) | (refine Yl.a ?_ ?_ <;> (conv=>whnf)) | (refine Ob.b ?_;conv=>whnf)
  refine Lp.snap [0, 1, 7] 40 ?_
  (conv=>whnf)
  refine LpB.go 19 ({i : Int // 0 ≤ i ∧ i ≤ l.length ∧ ∀ j : Int, 0 ≤ j → j < i → ¬ x = l.getD j.toNat 0}) 0 (fun ⟨i, _⟩ nx => ([(8, .d (int i))], [])) (fun p => (l.length - p.1).toNat) (⟨0, by omega, by omega, fun j _ _ => by omega⟩) ?_ ?_
  · rintro ⟨i, hi0, hi, hinv⟩
    have hfound : i < l.length → x = l.getD i.toNat 0 → r = i := fun h hx => by
      rw [← hr.h]
      refine ixf_found (p := fun y => decide (x = y)) (l := l) (d := 0) (i := i.toNat) (by omega) (decide_eq_true hx) (fun j hj => ?_) |>.trans (by omega)
      have := hinv j (by omega) (by omega)
      rw [Int.toNat_natCast] at this; exact decide_eq_false this
    have hnone : ¬ i < l.length → r = -1 := fun h => by
      rw [← hr.h]
      refine ixf_none (d := 0) fun j hj => ?_
      have := hinv j (by omega) (by omega)
      rw [Int.toNat_natCast] at this; exact decide_eq_false this
    by_cases hx : x = l.getD i.toNat 0
    · conv => whnf
      repeat' first | ((first | refine Ob.a ?_ | refine Sp.tt ?_ | refine Sp.ff ?_ | refine Sp.yes ?_ | refine Sp.no ?_ | refine Sp.nyes ?_ | refine Sp.nno ?_);conv=>whnf) | (refine Sp.ne (fun hc => ?_) (fun hc => ?_) <;> (conv=>whnf)) | (refine Sp.dec (fun hc => ?_) (fun hc => ?_) <;> (conv=>whnf)) | (refine Sp.ndec (fun hc => ?_) (fun hc => ?_) <;> (conv=>whnf)) | (refine Sp.mk (fun hc => ?_) (fun hc => ?_) <;> (conv=>whnf)) | (refine Nx.mk (fun ka kb kx hx hs => ?_) (fun he => ?_) <;> (conv=>whnf)) | (refine Nx.mk (fun ka kx hx hs => ?_) (fun he => ?_) <;> (conv=>whnf)) | (refine Uk.mk (fun hn => ?_) ?_ <;> (conv=>whnf)) | (refine Fi.a ?_;conv=>whnf) | (refine Yl.a ?_ ?_ <;> (conv=>whnf)) | (refine Ob.b ?_;conv=>whnf)
      · have e := hfound (by omega) hx
        exact Lf
      · have e := hnone (by omega)
        exact Lf
    · conv => whnf
      repeat' first | ((first | refine Ob.a ?_ | refine Sp.tt ?_ | refine Sp.ff ?_ | refine Sp.yes ?_ | refine Sp.no ?_ | refine Sp.nyes ?_ | refine Sp.nno ?_);conv=>whnf) | (refine Sp.ne (fun hc => ?_) (fun hc => ?_) <;> (conv=>whnf)) | (refine Sp.dec (fun hc => ?_) (fun hc => ?_) <;> (conv=>whnf)) | (refine Sp.ndec (fun hc => ?_) (fun hc => ?_) <;> (conv=>whnf)) | (refine Sp.mk (fun hc => ?_) (fun hc => ?_) <;> (conv=>whnf)) | (refine Nx.mk (fun ka kb kx hx hs => ?_) (fun he => ?_) <;> (conv=>whnf)) | (refine Nx.mk (fun ka kx hx hs => ?_) (fun he => ?_) <;> (conv=>whnf)) | (refine Uk.mk (fun hn => ?_) ?_ <;> (conv=>whnf)) | (refine Fi.a ?_;conv=>whnf) | (refine Yl.a ?_ ?_ <;> (conv=>whnf)) | (refine Ob.b ?_;conv=>whnf)
      · exact ⟨rfl, ⟨i + 1, by omega, by omega, fun j h1 h2 => if e : j = i then e ▸ hx else hinv j h1 (by omega)⟩, Lf, by simp only; omega⟩
      · have e := hnone (by omega)
        exact Lf
  · exact Lf
theorem contains_int (l : List Int) (x : Int) (hl : l.length < 1000000) : Fn Try.prog 83 [ints l, int x] (bool (decide (x ∈ l))) := by
  have hi := index_int l x hl
  have e : decide (x ∈ l) = decide (0 ≤ ixf (fun y => decide (x = y)) l) := by
    rw [ixf_any, Bool.eq_iff_iff]
    simp
  rw [e]
  generalize ixf (fun y => decide (x = y)) l = n at *
  refine Fn.of_ex (cuts := []) tys hM Try.func83 rfl Try.call83 rfl ?_
  show exC Try.prog T [] _ false none 0 (entry 9 [ints l, int x]) (finQ T [ResultVar.tmp 4] _)
  conv => whnf
  repeat' first | ((first | refine Ob.a ?_ | refine Sp.tt ?_ | refine Sp.ff ?_ | refine Sp.yes ?_ | refine Sp.no ?_ | refine Sp.nyes ?_ | refine Sp.nno ?_);conv=>whnf) | (refine Sp.ne (fun hc => ?_) (fun hc => ?_) <;> (conv=>whnf)) | (refine Sp.dec (fun hc => ?_) (fun hc => ?_) <;> (conv=>whnf)) | (refine Sp.ndec (fun hc => ?_) (fun hc => ?_) <;> (conv=>whnf)) | (refine Sp.mk (fun hc => ?_) (fun hc => ?_) <;> (conv=>whnf)) | (apply Cl.go;(conv=>whnf); (first | refine Ob.call (hi) ?_);(conv=>whnf)) | (refine Nx.mk (fun ka kb kx hx hs => ?_) (fun he => ?_) <;> (conv=>whnf)) | (refine Nx.mk (fun ka kx hx hs => ?_) (fun he => ?_) <;> (conv=>whnf)) | (refine Uk.mk (fun hn => ?_) ?_ <;> (conv=>whnf)) | (refine Fi.a ?_;conv=>whnf) | (refine Yl.a ?_ ?_ <;> (conv=>whnf)) | (refine Ob.b ?_;conv=>whnf)
  all_goals exact Lf
theorem isnot_spec (r : Row) (x : Int) (h2 : r.weak.length < 1000000) : Fn Try.prog 82 [int x, .pt (rowD r) 0] (bool (!decide (x ∈ r.weak))) := by
  have hc := contains_int r.weak x h2
  generalize decide (x ∈ r.weak) = b at *
  cases b
  · refine Fn.of_ex (cuts := []) tys hM Try.func82 rfl Try.call82 rfl ?_
    show exC Try.prog T [] _ false none 0 (entry 9 [int x, DV.pt (rowD r) 0]) (finQ T [ResultVar.tmp 3] _)
    conv => whnf
    repeat' first | ((first | refine Ob.a ?_ | refine Sp.tt ?_ | refine Sp.ff ?_ | refine Sp.yes ?_ | refine Sp.no ?_ | refine Sp.nyes ?_ | refine Sp.nno ?_);conv=>whnf) | (refine Sp.ne (fun hc => ?_) (fun hc => ?_) <;> (conv=>whnf)) | (refine Sp.dec (fun hc => ?_) (fun hc => ?_) <;> (conv=>whnf)) | (refine Sp.ndec (fun hc => ?_) (fun hc => ?_) <;> (conv=>whnf)) | (refine Sp.mk (fun hc => ?_) (fun hc => ?_) <;> (conv=>whnf)) | (apply Cl.go;(conv=>whnf); (first | refine Ob.call (hc) ?_);(conv=>whnf)) | (refine Nx.mk (fun ka kb kx hx hs => ?_) (fun he => ?_) <;> (conv=>whnf)) | (refine Nx.mk (fun ka kx hx hs => ?_) (fun he => ?_) <;> (conv=>whnf)) | (refine Uk.mk (fun hn => ?_) ?_ <;> (conv=>whnf)) | (refine Fi.a ?_;conv=>whnf) | (refine Yl.a ?_ ?_ <;> (conv=>whnf)) | (refine Ob.b ?_;conv=>whnf)
    all_goals exact Lf
  · refine Fn.of_ex (cuts := []) tys hM Try.func82 rfl Try.call82 rfl ?_
    show exC Try.prog T [] _ false none 0 (entry 9 [int x, DV.pt (rowD r) 0]) (finQ T [ResultVar.tmp 3] _)
    conv => whnf
    repeat' first | ((first | refine Ob.a ?_ | refine Sp.tt ?_ | refine Sp.ff ?_ | refine Sp.yes ?_ | refine Sp.no ?_ | refine Sp.nyes ?_ | refine Sp.nno ?_);conv=>whnf) | (refine Sp.ne (fun hc => ?_) (fun hc => ?_) <;> (conv=>whnf)) | (refine Sp.dec (fun hc => ?_) (fun hc => ?_) <;> (conv=>whnf)) | (refine Sp.ndec (fun hc => ?_) (fun hc => ?_) <;> (conv=>whnf)) | (refine Sp.mk (fun hc => ?_) (fun hc => ?_) <;> (conv=>whnf)) | (apply Cl.go;(conv=>whnf); (first | refine Ob.call (hc) ?_);(conv=>whnf)) | (refine Nx.mk (fun ka kb kx hx hs => ?_) (fun he => ?_) <;> (conv=>whnf)) | (refine Nx.mk (fun ka kx hx hs => ?_) (fun he => ?_) <;> (conv=>whnf)) | (refine Uk.mk (fun hn => ?_) ?_ <;> (conv=>whnf)) | (refine Fi.a ?_;conv=>whnf) | (refine Yl.a ?_ ?_ <;> (conv=>whnf)) | (refine Ob.b ?_;conv=>whnf)
    all_goals exact Lf
theorem pair_near {r : Row} {l : List Int} (hp : l.Pairwise (· < ·)) (h : ∀ j, j + 1 < l.length → togB r (l.getD j 0) (l.getD (j + 1) 0) = false) : l.Pairwise (fun a b => togB r a b = false) := by
  refine pair_iff.2 fun i hi k hk => ?_
  cases ht : togB r (l.getD k 0) (l.getD i 0) with
  | false => rfl
  | true =>
    obtain ⟨j, rfl⟩ : ∃ j, i = j + 1 := ⟨i - 1, by omega⟩
    have h1 : l.getD k 0 ≤ l.getD j 0 := by
      by_cases e : k = j
      · rw [e]; omega
      · have := inc_getD hp k j (by omega) (by omega); omega
    have h2 := inc_getD hp j (j + 1) (by omega) hi
    have := (togB_conv h1 (by omega) ht).1
    rw [h j hi] at this; cases this
set_option maxHeartbeats 8000000 in
theorem CheckApartP_spec (r : Row) (P : List Int) (h1 : r.lots.length < 1000000) (h2 : r.weak.length < 1000000) (h3 : P.length < 1000000) : Fn Try.prog 41 [rowD r, ints P] (int (checkApartR r P)) := by
  have hT := fun a b => together_spec r a b h1
  have hC := contains_ints1 P 82 (fun _ => .pt (rowD r) 0) (fun x => !decide (x ∈ r.weak)) h3 (fun x _ => isnot_spec r x h2)
  refine Fn.hide (D := fun r : Int => int r) fun c hcc => ?_
  have hc0 := hcc.h
  by_cases hr : checkRow r = 0
  case neg =>
    have hc := open_err r h1 h2 hr
    have e : c = checkRow r := by rw [← hc0]; exact if_pos hr
    refine Fn.of_ex (cuts := []) tys hM Try.func41 rfl Try.call41 rfl ?_
    show exC Try.prog T [] _ false none 0 (entry 49 [rowD r, ints P]) (finQ T [ResultVar.tmp 4] _)
    conv => whnf
    repeat' first | ((first | refine Ob.a ?_ | refine Sp.tt ?_ | refine Sp.ff ?_ | refine Sp.yes ?_ | refine Sp.no ?_ | refine Sp.nyes ?_ | refine Sp.nno ?_);conv=>whnf) | (refine Sp.ne (fun hc => ?_) (fun hc => ?_) <;> (conv=>whnf)) | (refine Sp.dec (fun hc => ?_) (fun hc => ?_) <;> (conv=>whnf)) | (refine Sp.ndec (fun hc => ?_) (fun hc => ?_) <;> (conv=>whnf)) | (refine Sp.mk (fun hc => ?_) (fun hc => ?_) <;> (conv=>whnf)) | (apply Cl.go;(conv=>whnf); (first | refine Ob.call (hc) ?_);(conv=>whnf)) | (refine Nx.mk (fun ka kb kx hx hs => ?_) (fun he => ?_) <;> (conv=>whnf)) | (refine Nx.mk (fun ka kx hx hs => ?_) (fun he => ?_) <;> (conv=>whnf)) | (refine Uk.mk (fun hn => ?_) ?_ <;> (conv=>whnf)) | (refine Fi.a ?_;conv=>whnf) | (refine Yl.a ?_ ?_ <;> (conv=>whnf)) | (refine Ob.b ?_;conv=>whnf)
    all_goals exact Lf
  have hc := open_ok r h1 h2 hr
  have hok := checkRow_ok.1 hr
  have hp1 := hok.p1
  have hp40 := hok.p40
  have hri := rising_spec P r.pots h3 ⟨by omega, by omega⟩
  by_cases hrl : risingL P r.pots
  case neg =>
    have e : c = 2 := by rw [← hc0]; unfold checkApartR; rw [if_neg (by omega), if_pos hrl]
    rw [decide_eq_false hrl] at hri
    refine Fn.of_ex (cuts := []) tys hM Try.func41 rfl Try.call41 rfl ?_
    show exC Try.prog T [] _ false none 0 (entry 49 [rowD r, ints P]) (finQ T [ResultVar.tmp 4] _)
    conv => whnf
    repeat' first | ((first | refine Ob.a ?_ | refine Sp.tt ?_ | refine Sp.ff ?_ | refine Sp.yes ?_ | refine Sp.no ?_ | refine Sp.nyes ?_ | refine Sp.nno ?_);conv=>whnf) | (refine Sp.ne (fun hc => ?_) (fun hc => ?_) <;> (conv=>whnf)) | (refine Sp.dec (fun hc => ?_) (fun hc => ?_) <;> (conv=>whnf)) | (refine Sp.ndec (fun hc => ?_) (fun hc => ?_) <;> (conv=>whnf)) | (refine Sp.mk (fun hc => ?_) (fun hc => ?_) <;> (conv=>whnf)) | (apply Cl.go;(conv=>whnf); (first | refine Ob.call (hc) ?_ | refine Ob.call (hri) ?_);(conv=>whnf)) | (refine Nx.mk (fun ka kb kx hx hs => ?_) (fun he => ?_) <;> (conv=>whnf)) | (refine Nx.mk (fun ka kx hx hs => ?_) (fun he => ?_) <;> (conv=>whnf)) | (refine Uk.mk (fun hn => ?_) ?_ <;> (conv=>whnf)) | (refine Fi.a ?_;conv=>whnf) | (refine Yl.a ?_ ?_ <;> (conv=>whnf)) | (refine Ob.b ?_;conv=>whnf)
    all_goals exact Lf
  rw [decide_eq_true hrl] at hri
  have k0 : c = if ¬ ∀ p ∈ P, p ∈ r.weak then 2 else if P.Pairwise (fun a b => togB r a b = false) then 0 else 16 := by
    rw [← hc0]; unfold checkApartR; rw [if_neg (show ¬ checkRow r ≠ 0 by omega), if_neg (not_not_intro hrl)]
  clear hc0 hcc
  by_cases hall : ∀ p ∈ P, p ∈ r.weak
  case neg =>
    have ha : (P.any fun x => !decide (x ∈ r.weak)) = true := by
      rw [List.any_eq_true]
      simp only [Classical.not_forall] at hall
      obtain ⟨x, hx, hn⟩ := hall
      exact ⟨x, hx, by rw [decide_eq_false hn]; rfl⟩
    rw [ha] at hC
    have e : c = 2 := by rw [k0, if_pos hall]
    refine Fn.of_ex (cuts := []) tys hM Try.func41 rfl Try.call41 rfl ?_
    show exC Try.prog T [] _ false none 0 (entry 49 [rowD r, ints P]) (finQ T [ResultVar.tmp 4] _)
    conv => whnf
    repeat' first | ((first | refine Ob.a ?_ | refine Sp.tt ?_ | refine Sp.ff ?_ | refine Sp.yes ?_ | refine Sp.no ?_ | refine Sp.nyes ?_ | refine Sp.nno ?_);conv=>whnf) | (refine Sp.ne (fun hc => ?_) (fun hc => ?_) <;> (conv=>whnf)) | (refine Sp.dec (fun hc => ?_) (fun hc => ?_) <;> (conv=>whnf)) | (refine Sp.ndec (fun hc => ?_) (fun hc => ?_) <;> (conv=>whnf)) | (refine Sp.mk (fun hc => ?_) (fun hc => ?_) <;> (conv=>whnf)) | (apply Cl.go;(conv=>whnf); (first | refine Ob.call (hc) ?_ | refine Ob.call (hri) ?_ | refine Ob.call (hC) ?_);(conv=>whnf)) | (refine Nx.mk (fun ka kb kx hx hs => ?_) (fun he => ?_) <;> (conv=>whnf)) | (refine Nx.mk (fun ka kx hx hs => ?_) (fun he => ?_) <;> (conv=>whnf)) | (refine Uk.mk (fun hn => ?_) ?_ <;> (conv=>whnf)) | (refine Fi.a ?_;conv=>whnf) | (refine Yl.a ?_ ?_ <;> (conv=>whnf)) | (refine Ob.b ?_;conv=>whnf)
    all_goals exact Lf
  have ha : (P.any fun x => !decide (x ∈ r.weak)) = false := List.any_eq_false.2 fun x hx => by rw [decide_eq_true (hall x hx)]; simp
  rw [ha] at hC
  rw [if_neg (not_not_intro hall)] at k0
  refine Fn.of_ex (cuts := []) tys hM Try.func41 rfl Try.call41 rfl ?_
  show exC Try.prog T [] _ false none 0 (entry 49 [rowD r, ints P]) (finQ T [ResultVar.tmp 4] _)
  conv => whnf
  repeat' first | ((first | refine Ob.a ?_ | refine Sp.tt ?_ | refine Sp.ff ?_ | refine Sp.yes ?_ | refine Sp.no ?_ | refine Sp.nyes ?_ | refine Sp.nno ?_);conv=>whnf) | (refine Sp.ne (fun hc => ?_) (fun hc => ?_) <;> (conv=>whnf)) | (refine Sp.dec (fun hc => ?_) (fun hc => ?_) <;> (conv=>whnf)) | (refine Sp.ndec (fun hc => ?_) (fun hc => ?_) <;> (conv=>whnf)) | (refine Sp.mk (fun hc => ?_) (fun hc => ?_) <;> (conv=>whnf)) | (apply Cl.go;(conv=>whnf); (first | refine Ob.call (hc) ?_ | refine Ob.call (hri) ?_ | refine Ob.call (hC) ?_);(conv=>whnf)) | (refine Nx.mk (fun ka kb kx hx hs => ?_) (fun he => ?_) <;> (conv=>whnf)) | (refine Nx.mk (fun ka kx hx hs => ?_) (fun he => ?_) <;> (conv=>whnf)) | (refine Uk.mk (fun hn => ?_) ?_ <;> (conv=>whnf)) | (refine Fi.a ?_;conv=>whnf) | (refine Yl.a ?_ ?_ <;> (conv=>whnf)) | (refine Ob.b ?_;conv=>whnf)
  refine Lp.snap [0, 1, 5, 29] 40 ?_
  (conv=>whnf)
  refine LpB.go 49 ({i : Int // (0 ≤ i ∧ i ≤ P.length) ∧ ∀ j, j + 1 < i.toNat → togB r (P.getD j 0) (P.getD (j + 1) 0) = false}) 0 (fun ⟨i, _⟩ nx => ([(30, .d (int i))], [])) (fun p => (P.length - p.1).toNat) (⟨0, ⟨by simp, by simp⟩, fun j hj => by simp at hj⟩) ?_ ?_
  · rintro ⟨i, ⟨i0, i1⟩, hinv⟩
    by_cases hil : i < P.length
    · by_cases hz : 0 < i
      · have hT := hT (P.getD (i - 1).toNat 0) (P.getD i.toNat 0)
        cases ht : togB r (P.getD (i - 1).toNat 0) (P.getD i.toNat 0) with
        | true =>
          have e : c = 16 := by
            rw [k0, if_neg]
            intro h
            have := pair_iff.1 h i.toNat (by omega) (i - 1).toNat (by omega)
            rw [ht] at this; cases this
          rw [ht] at hT
          conv => whnf
          repeat' first | ((first | refine Ob.a ?_ | refine Sp.tt ?_ | refine Sp.ff ?_ | refine Sp.yes ?_ | refine Sp.no ?_ | refine Sp.nyes ?_ | refine Sp.nno ?_);conv=>whnf) | (refine Sp.ne (fun hc => ?_) (fun hc => ?_) <;> (conv=>whnf)) | (refine Sp.dec (fun hc => ?_) (fun hc => ?_) <;> (conv=>whnf)) | (refine Sp.ndec (fun hc => ?_) (fun hc => ?_) <;> (conv=>whnf)) | (refine Sp.mk (fun hc => ?_) (fun hc => ?_) <;> (conv=>whnf)) | (apply Cl.go;(conv=>whnf); (first | refine Ob.call (hT) ?_);(conv=>whnf)) | (refine Nx.mk (fun ka kb kx hx hs => ?_) (fun he => ?_) <;> (conv=>whnf)) | (refine Nx.mk (fun ka kx hx hs => ?_) (fun he => ?_) <;> (conv=>whnf)) | (refine Uk.mk (fun hn => ?_) ?_ <;> (conv=>whnf)) | (refine Fi.a ?_;conv=>whnf) | (refine Yl.a ?_ ?_ <;> (conv=>whnf)) | (refine Ob.b ?_;conv=>whnf)
          all_goals exact Lf
        | false =>
          have e : ∀ j, j + 1 < (i + 1).toNat → togB r (P.getD j 0) (P.getD (j + 1) 0) = false := fun j hj => by
            by_cases e : j + 1 < i.toNat
            · exact hinv j e
            · rw [show j = (i - 1).toNat by omega, show (i - 1).toNat + 1 = i.toNat by omega]
              exact ht
          rw [ht] at hT
          conv => whnf
          repeat' first | ((first | refine Ob.a ?_ | refine Sp.tt ?_ | refine Sp.ff ?_ | refine Sp.yes ?_ | refine Sp.no ?_ | refine Sp.nyes ?_ | refine Sp.nno ?_);conv=>whnf) | (refine Sp.ne (fun hc => ?_) (fun hc => ?_) <;> (conv=>whnf)) | (refine Sp.dec (fun hc => ?_) (fun hc => ?_) <;> (conv=>whnf)) | (refine Sp.ndec (fun hc => ?_) (fun hc => ?_) <;> (conv=>whnf)) | (refine Sp.mk (fun hc => ?_) (fun hc => ?_) <;> (conv=>whnf)) | (apply Cl.go;(conv=>whnf); (first | refine Ob.call (hT) ?_);(conv=>whnf)) | (refine Nx.mk (fun ka kb kx hx hs => ?_) (fun he => ?_) <;> (conv=>whnf)) | (refine Nx.mk (fun ka kx hx hs => ?_) (fun he => ?_) <;> (conv=>whnf)) | (refine Uk.mk (fun hn => ?_) ?_ <;> (conv=>whnf)) | (refine Fi.a ?_;conv=>whnf) | (refine Yl.a ?_ ?_ <;> (conv=>whnf)) | (refine Ob.b ?_;conv=>whnf)
          all_goals exact ⟨rfl, ⟨i + 1, ⟨by omega, by omega⟩, e⟩, Lf, by simp only; omega⟩
      · have e : ∀ j, j + 1 < (i + 1).toNat → togB r (P.getD j 0) (P.getD (j + 1) 0) = false := fun j hj => by omega
        conv => whnf
        repeat' first | ((first | refine Ob.a ?_ | refine Sp.tt ?_ | refine Sp.ff ?_ | refine Sp.yes ?_ | refine Sp.no ?_ | refine Sp.nyes ?_ | refine Sp.nno ?_);conv=>whnf) | (refine Sp.ne (fun hc => ?_) (fun hc => ?_) <;> (conv=>whnf)) | (refine Sp.dec (fun hc => ?_) (fun hc => ?_) <;> (conv=>whnf)) | (refine Sp.ndec (fun hc => ?_) (fun hc => ?_) <;> (conv=>whnf)) | (refine Sp.mk (fun hc => ?_) (fun hc => ?_) <;> (conv=>whnf)) | (refine Nx.mk (fun ka kb kx hx hs => ?_) (fun he => ?_) <;> (conv=>whnf)) | (refine Nx.mk (fun ka kx hx hs => ?_) (fun he => ?_) <;> (conv=>whnf)) | (refine Uk.mk (fun hn => ?_) ?_ <;> (conv=>whnf)) | (refine Fi.a ?_;conv=>whnf) | (refine Yl.a ?_ ?_ <;> (conv=>whnf)) | (refine Ob.b ?_;conv=>whnf)
        all_goals exact ⟨rfl, ⟨i + 1, ⟨by omega, by omega⟩, e⟩, Lf, by simp only; omega⟩
    · have e : c = 0 := by
        rw [k0, if_pos]
        exact pair_near hrl.2 fun j hj => hinv j (by omega)
      conv => whnf
      repeat' first | ((first | refine Ob.a ?_ | refine Sp.tt ?_ | refine Sp.ff ?_ | refine Sp.yes ?_ | refine Sp.no ?_ | refine Sp.nyes ?_ | refine Sp.nno ?_);conv=>whnf) | (refine Sp.ne (fun hc => ?_) (fun hc => ?_) <;> (conv=>whnf)) | (refine Sp.dec (fun hc => ?_) (fun hc => ?_) <;> (conv=>whnf)) | (refine Sp.ndec (fun hc => ?_) (fun hc => ?_) <;> (conv=>whnf)) | (refine Sp.mk (fun hc => ?_) (fun hc => ?_) <;> (conv=>whnf)) | (refine Nx.mk (fun ka kb kx hx hs => ?_) (fun he => ?_) <;> (conv=>whnf)) | (refine Nx.mk (fun ka kx hx hs => ?_) (fun he => ?_) <;> (conv=>whnf)) | (refine Uk.mk (fun hn => ?_) ?_ <;> (conv=>whnf)) | (refine Fi.a ?_;conv=>whnf) | (refine Yl.a ?_ ?_ <;> (conv=>whnf)) | (refine Ob.b ?_;conv=>whnf)
      exact Lf
  · exact Lf
end Go.Px.Try

/-! Pm8 -/
namespace Go.Px.Try
open Go Go.Proofs Go.Px
/-- The prices of the first weak pots, but for those that are 0. -/
def mpC (r : Row) (P : List Int) : Nat → List Int → Option Int
  | 0 => fun _ => none
  | k + 1 => fun key => if key = [r.weak.getD k 0] then (if P.getD k 0 = 0 then none else some (P.getD k 0)) else mpC r P k key
theorem mpC_succ (r : Row) (P : List Int) (k : Nat) (key : List Int) : mpC r P (k + 1) key = if key = [r.weak.getD k 0] then (if P.getD k 0 = 0 then none else some (P.getD k 0)) else mpC r P k key := rfl
theorem mpC_some {r : Row} {P : List Int} : ∀ {k : Nat} {key : List Int} {x : Int}, mpC r P k key = some x → ∃ j, j < k ∧ key = [r.weak.getD j 0] ∧ x = P.getD j 0 ∧ P.getD j 0 ≠ 0
  | 0, _, _, h => by cases h
  | k + 1, key, x, h => by
    rw [mpC_succ] at h
    split at h
    · rename_i e
      split at h
      · cases h
      · rename_i e2
        cases h
        exact ⟨k, by omega, e, rfl, e2⟩
    · obtain ⟨j, hj, h'⟩ := mpC_some h
      exact ⟨j, by omega, h'⟩
theorem mpC_weak {r : Row} {P : List Int} (hr : RowOk r) : ∀ {k : Nat}, k ≤ r.weak.length → ∀ j, j < k → P.getD j 0 ≠ 0 → mpC r P k [r.weak.getD j 0] = some (P.getD j 0)
  | 0, _, j, hj, _ => by omega
  | k + 1, hk, j, hj, hp => by
    rw [mpC_succ]
    by_cases e : j = k
    · subst e
      rw [if_pos rfl, if_neg hp]
    · have := weak_inc hr j k (by omega) (by omega)
      rw [if_neg (by intro h; injection h with h _; omega)]
      exact mpC_weak hr (by omega) j (by omega) hp
theorem tot_put {z : Nat → Int} {S S' : Nat → Bool} {j : Nat} (hs : S j = false) (h : ∀ i, i ≠ j → S' i = S i) : ∀ n, tot z S' n = tot z S n + if j < n ∧ S' j = true then z j else 0
  | 0 => by simp [tot]
  | n + 1 => by
    have ih := tot_put (z := z) hs h n
    rw [tot, tot, ih]
    by_cases e : n = j
    · subst e
      by_cases h2 : S' n = true
      · simp [hs, h2]
      · simp [hs, h2]
    · rw [h n e]
      by_cases h3 : j < n
      · have h4 : j < n + 1 := by omega
        by_cases h2 : S' j = true
        · simp only [h2, h3, h4, and_self, if_true]; omega
        · simp [h2]
      · have h4 : ¬ j < n + 1 := by omega
        simp [h3, h4]
theorem tot_zero {z : Nat → Int} {S S' : Nat → Bool} : ∀ n, (∀ i, i < n → z i ≠ 0 → S i = S' i) → tot z S n = tot z S' n
  | 0, _ => rfl
  | n + 1, h => by
    rw [tot, tot, tot_zero n fun i hi => h i (by omega)]
    by_cases e : z n = 0
    · rw [e]; split <;> split <;> rfl
    · rw [h n (by omega) e]
/-- What the prices of some pots are that a lot has. -/
def csS (r : Row) (P : List Int) (i : Nat) (s : List (List Int)) : Int := tot (fun j => P.getD j 0) (fun j => decide (Has (lotN r i) (r.weak.getD j 0)) && decide ([r.weak.getD j 0] ∈ s)) r.weak.length
theorem csS_nil (r : Row) (P : List Int) (i : Nat) : csS r P i [] = 0 := by
  unfold csS
  rw [tot_zero (S' := fun _ => false) _ fun j _ _ => by simp]
  generalize r.weak.length = n
  induction n with
  | zero => rfl
  | succ n ih => rw [tot, ih]; rfl
theorem csS_cons {r : Row} (hr : RowOk r) {P : List Int} {i j : Nat} {s : List (List Int)} (hj : j < r.weak.length) (hs : [r.weak.getD j 0] ∉ s) : csS r P i ([r.weak.getD j 0] :: s) = csS r P i s + if Has (lotN r i) (r.weak.getD j 0) then P.getD j 0 else 0 := by
  unfold csS
  by_cases hH : Has (lotN r i) (r.weak.getD j 0)
  · rw [if_pos hH]
    have hj' : ¬ j < r.weak.length → False := fun h => h hj
    -- beyond the pots that there are nothing counts
    have e : ∀ S : Nat → Bool, tot (fun j => P.getD j 0) S r.weak.length = tot (fun j => P.getD j 0) (fun k => S k && decide (k < r.weak.length)) r.weak.length := fun S => tot_zero _ fun k hk _ => by rw [decide_eq_true hk, Bool.and_true]
    rw [e, e (fun k => decide (Has (lotN r i) (r.weak.getD k 0)) && decide ([r.weak.getD k 0] ∈ s))]
    rw [tot_put (j := j) (S := fun k => (decide (Has (lotN r i) (r.weak.getD k 0)) && decide ([r.weak.getD k 0] ∈ s)) && decide (k < r.weak.length)) (by simp only [decide_eq_false hs, Bool.and_false, Bool.false_and]) (fun k hk => ?_)]
    · rw [if_pos ⟨hj, by rw [decide_eq_true hH, decide_eq_true hj]; simp⟩]
    · by_cases hkl : k < r.weak.length
      · have hne : r.weak.getD k 0 ≠ r.weak.getD j 0 := fun h => by
          rcases Nat.lt_or_ge k j with h1 | h1
          · have := weak_inc hr k j h1 hj; omega
          · have := weak_inc hr j k (by omega) hkl; omega
        congr 2
        rw [decide_eq_decide, List.mem_cons]
        exact ⟨fun h => h.elim (fun h => absurd (by injection h) hne) id, .inr⟩
      · rw [decide_eq_false hkl, Bool.and_false, Bool.and_false]
  · rw [if_neg hH, Int.add_zero]
    refine tot_zero _ fun k hk _ => ?_
    by_cases hk2 : r.weak.getD k 0 = r.weak.getD j 0
    · rw [hk2, decide_eq_false hH]; rfl
    · congr 1
      rw [decide_eq_decide, List.mem_cons]
      exact ⟨fun h => h.elim (fun h => absurd (by injection h) hk2) id, .inr⟩
theorem csS_all {r : Row} {P : List Int} {i : Nat} {s : List (List Int)} (h : ∀ j, j < r.weak.length → P.getD j 0 ≠ 0 → [r.weak.getD j 0] ∈ s) : csS r P i s = csum r P i r.weak.length :=
  tot_zero _ fun j hj hz => by rw [decide_eq_true (h j hj hz), Bool.and_true]
theorem csS_rng {r : Row} (hr : RowOk r) {P : List Int} (hP : ∀ x ∈ P, 0 ≤ x ∧ x ≤ 40) (i : Nat) (s : List (List Int)) : 0 ≤ csS r P i s ∧ csS r P i s ≤ 480 := by
  have h := tot_bound (z := fun j => P.getD j 0) (S := fun j => decide (Has (lotN r i) (r.weak.getD j 0)) && decide ([r.weak.getD j 0] ∈ s)) (b := 40) (by omega) r.weak.length fun j _ => by
    simp only [List.getD_eq_getElem?_getD]
    cases e : P[j]? with
    | none => simp
    | some x => exact hP x (List.mem_of_getElem? e)
  have := hr.w12
  unfold csS
  omega
end Go.Px.Try

/-! Pp11 -/
namespace Go.Px.Try
open Go Go.Proofs Go.Px
set_option maxRecDepth 100000
def ktP : KT := ⟨true, 1⟩
set_option maxHeartbeats 16000000 in
theorem CheckPricesP_spec (r : Row) (P : List Int) (h1 : r.lots.length < 1000000) (h2 : r.weak.length < 1000000) (h3 : P.length < 1000000) : Fn Try.prog 32 [rowD r, ints P] (tpl [int (checkPricesR r P).1, int (checkPricesR r P).2]) := by
  generalize hres : checkPricesR r P = res
  obtain ⟨x, y⟩ := res
  by_cases hr : checkRow r = 0
  case neg =>
    have hc := open_err r h1 h2 hr
    have e : checkPricesR r P = (0, checkRow r) := if_pos hr
    rw [e] at hres
    cases hres
    generalize checkRow r = c at *
    refine Fn.of_ex (cuts := []) tys hM Try.func32 rfl Try.call32 rfl ?_
    show exC Try.prog T [] _ false none 0 (entry 101 [rowD r, ints P]) (finQ T [ResultVar.tmp 4, ResultVar.tmp 5] _)
    conv => whnf
    repeat' first | ((first | refine Ob.a ?_ | refine Sp.tt ?_ | refine Sp.ff ?_ | refine Sp.yes ?_ | refine Sp.no ?_ | refine Sp.nyes ?_ | refine Sp.nno ?_);conv=>whnf) | (refine Sp.ne (fun hc => ?_) (fun hc => ?_) <;> (conv=>whnf)) | (refine Sp.dec (fun hc => ?_) (fun hc => ?_) <;> (conv=>whnf)) | (refine Sp.ndec (fun hc => ?_) (fun hc => ?_) <;> (conv=>whnf)) | (refine Sp.mk (fun hc => ?_) (fun hc => ?_) <;> (conv=>whnf)) | (apply Cl.go;(conv=>whnf); (first | refine Ob.call (hc) ?_);(conv=>whnf)) | (refine Nx.mk (fun ka kb kx hx hs => ?_) (fun he => ?_) <;> (conv=>whnf)) | (refine Nx.mk (fun ka kx hx hs => ?_) (fun he => ?_) <;> (conv=>whnf)) | (refine Uk.mk (fun hn => ?_) ?_ <;> (conv=>whnf)) | (refine Fi.a ?_;conv=>whnf) | (refine Yl.a ?_ ?_ <;> (conv=>whnf)) | (refine Ob.b ?_;conv=>whnf)
    all_goals exact Lf
  have hc := open_ok r h1 h2 hr
  have hok := checkRow_ok.1 hr
  have hl12 := hok.w12
  have hl10 := hok.l10
  by_cases hpl : P.length = r.weak.length
  case neg =>
    have e : checkPricesR r P = (0, 15) := by unfold checkPricesR; rw [if_neg (show ¬ checkRow r ≠ 0 by omega), if_pos hpl]
    rw [e] at hres
    cases hres
    refine Fn.of_ex (cuts := []) tys hM Try.func32 rfl Try.call32 rfl ?_
    show exC Try.prog T [] _ false none 0 (entry 101 [rowD r, ints P]) (finQ T [ResultVar.tmp 4, ResultVar.tmp 5] _)
    conv => whnf
    repeat' first | ((first | refine Ob.a ?_ | refine Sp.tt ?_ | refine Sp.ff ?_ | refine Sp.yes ?_ | refine Sp.no ?_ | refine Sp.nyes ?_ | refine Sp.nno ?_);conv=>whnf) | (refine Sp.ne (fun hc => ?_) (fun hc => ?_) <;> (conv=>whnf)) | (refine Sp.dec (fun hc => ?_) (fun hc => ?_) <;> (conv=>whnf)) | (refine Sp.ndec (fun hc => ?_) (fun hc => ?_) <;> (conv=>whnf)) | (refine Sp.mk (fun hc => ?_) (fun hc => ?_) <;> (conv=>whnf)) | (apply Cl.go;(conv=>whnf); (first | refine Ob.call (hc) ?_);(conv=>whnf)) | (refine Nx.mk (fun ka kb kx hx hs => ?_) (fun he => ?_) <;> (conv=>whnf)) | (refine Nx.mk (fun ka kx hx hs => ?_) (fun he => ?_) <;> (conv=>whnf)) | (refine Uk.mk (fun hn => ?_) ?_ <;> (conv=>whnf)) | (refine Fi.a ?_;conv=>whnf) | (refine Yl.a ?_ ?_ <;> (conv=>whnf)) | (refine Ob.b ?_;conv=>whnf)
    all_goals exact Lf
  have hwi := within_spec 0 40 P h3
  by_cases hpo : ∀ x ∈ P, 0 ≤ x ∧ x ≤ 40
  case neg =>
    have e : checkPricesR r P = (0, 3) := by unfold checkPricesR; rw [if_neg (show ¬ checkRow r ≠ 0 by omega), if_neg (show ¬ P.length ≠ r.weak.length by omega), if_pos hpo]
    rw [e] at hres
    cases hres
    rw [decide_eq_false hpo] at hwi
    refine Fn.of_ex (cuts := []) tys hM Try.func32 rfl Try.call32 rfl ?_
    show exC Try.prog T [] _ false none 0 (entry 101 [rowD r, ints P]) (finQ T [ResultVar.tmp 4, ResultVar.tmp 5] _)
    conv => whnf
    repeat' first | ((first | refine Ob.a ?_ | refine Sp.tt ?_ | refine Sp.ff ?_ | refine Sp.yes ?_ | refine Sp.no ?_ | refine Sp.nyes ?_ | refine Sp.nno ?_);conv=>whnf) | (refine Sp.ne (fun hc => ?_) (fun hc => ?_) <;> (conv=>whnf)) | (refine Sp.dec (fun hc => ?_) (fun hc => ?_) <;> (conv=>whnf)) | (refine Sp.ndec (fun hc => ?_) (fun hc => ?_) <;> (conv=>whnf)) | (refine Sp.mk (fun hc => ?_) (fun hc => ?_) <;> (conv=>whnf)) | (apply Cl.go;(conv=>whnf); (first | refine Ob.call (hc) ?_ | refine Ob.call (hwi) ?_);(conv=>whnf)) | (refine Nx.mk (fun ka kb kx hx hs => ?_) (fun he => ?_) <;> (conv=>whnf)) | (refine Nx.mk (fun ka kx hx hs => ?_) (fun he => ?_) <;> (conv=>whnf)) | (refine Uk.mk (fun hn => ?_) ?_ <;> (conv=>whnf)) | (refine Fi.a ?_;conv=>whnf) | (refine Yl.a ?_ ?_ <;> (conv=>whnf)) | (refine Ob.b ?_;conv=>whnf)
    all_goals exact Lf
  rw [decide_eq_true hpo] at hwi
  have k0 : (if ¬ ∀ i, i < r.lots.length → csum r P i P.length ≤ zOf r i then (0, 14) else (sumTo P P.length, 0)) = (x, y) := by
    rw [← hres]; unfold checkPricesR; rw [if_neg (show ¬ checkRow r ≠ 0 by omega), if_neg (show ¬ P.length ≠ r.weak.length by omega), if_neg (not_not_intro hpo)]
  rw [hpl] at k0
  clear hres
  have hpb : ∀ k, k < P.length → 0 ≤ P.getD k 0 ∧ P.getD k 0 ≤ 40 := fun k hk => hpo _ (getD_mem hk 0)
  refine Fn.of_ex (cuts := []) tys hM Try.func32 rfl Try.call32 rfl ?_
  show exC Try.prog T [] _ false none 0 (entry 101 [rowD r, ints P]) (finQ T [ResultVar.tmp 4, ResultVar.tmp 5] _)
  conv => whnf
  repeat' first | ((first | refine Ob.a ?_ | refine Sp.tt ?_ | refine Sp.ff ?_ | refine Sp.yes ?_ | refine Sp.no ?_ | refine Sp.nyes ?_ | refine Sp.nno ?_);conv=>whnf) | (refine Sp.ne (fun hc => ?_) (fun hc => ?_) <;> (conv=>whnf)) | (refine Sp.dec (fun hc => ?_) (fun hc => ?_) <;> (conv=>whnf)) | (refine Sp.ndec (fun hc => ?_) (fun hc => ?_) <;> (conv=>whnf)) | (refine Sp.mk (fun hc => ?_) (fun hc => ?_) <;> (conv=>whnf)) | (apply Cl.go;(conv=>whnf); (first | refine Ob.call (hc) ?_ | refine Ob.call (hwi) ?_);(conv=>whnf)) | (refine Nx.mk (fun ka kb kx hx hs => ?_) (fun he => ?_) <;> (conv=>whnf)) | (refine Nx.mk (fun ka kx hx hs => ?_) (fun he => ?_) <;> (conv=>whnf)) | (refine Uk.mk (fun hn => ?_) ?_ <;> (conv=>whnf)) | (refine Fi.a ?_;conv=>whnf) | (refine Yl.a ?_ ?_ <;> (conv=>whnf)) | (refine Ob.b ?_;conv=>whnf)
  refine Lp.snap [0, 1, 2, 4, 5, 6, 11, 12, 13, 14, 15, 16, 17, 38, 39, 48, 49, 50, 51, 52, 54, 55, 56, 57, 58, 59, 60, 61, 62, 63, 64, 65, 66, 67, 69, 70, 71, 72, 73, 74, 75, 76, 78, 79, 80, 81, 82, 83, 84, 86, 87, 88, 89, 90, 91, 92, 94, 95, 96, 97, 99, 100] 40 ?_
  (conv=>whnf)
  refine LpB.go 101 ({q : Int × Int // (0 ≤ q.1 ∧ q.1 ≤ P.length) ∧ q.2 = sumTo P q.1.toNat ∧ (0 ≤ q.2 ∧ q.2 ≤ 40 * q.1)}) 0 (fun ⟨(i, n), _⟩ nx => ([(40, .d (int i)), (8, .d (int n))], [])) (fun p => (P.length - p.1.1).toNat) (⟨(0, 0), ⟨by simp, by simp⟩, rfl, ⟨by simp, by simp⟩⟩) ?_ ?_
  · rintro ⟨⟨i, n⟩, ⟨i0, i1⟩, hn, ⟨n0, n1⟩⟩
    simp only at i0 i1 hn n0 n1
    by_cases hil : i < P.length
    · have hpi := hpb i.toNat (by omega)
      have e1 : n + P.getD i.toNat 0 = sumTo P (i + 1).toNat := by rw [show (i + 1).toNat = i.toNat + 1 by omega, sumTo_succ, hn]
      conv => whnf
      repeat' first | ((first | refine Ob.a ?_ | refine Sp.tt ?_ | refine Sp.ff ?_ | refine Sp.yes ?_ | refine Sp.no ?_ | refine Sp.nyes ?_ | refine Sp.nno ?_);conv=>whnf) | (refine Sp.ne (fun hc => ?_) (fun hc => ?_) <;> (conv=>whnf)) | (refine Sp.dec (fun hc => ?_) (fun hc => ?_) <;> (conv=>whnf)) | (refine Sp.ndec (fun hc => ?_) (fun hc => ?_) <;> (conv=>whnf)) | (refine Sp.mk (fun hc => ?_) (fun hc => ?_) <;> (conv=>whnf)) | (refine Nx.mk (fun ka kb kx hx hs => ?_) (fun he => ?_) <;> (conv=>whnf)) | (refine Nx.mk (fun ka kx hx hs => ?_) (fun he => ?_) <;> (conv=>whnf)) | (refine Uk.mk (fun hn => ?_) ?_ <;> (conv=>whnf)) | (refine Fi.a ?_;conv=>whnf) | (refine Yl.a ?_ ?_ <;> (conv=>whnf)) | (refine Ob.b ?_;conv=>whnf)
      exact ⟨rfl, ⟨(i + 1, n + P.getD i.toNat 0), ⟨by simp only; omega, by simp only; omega⟩, e1, ⟨by simp only; omega, by simp only; omega⟩⟩, Lf, by simp only; omega⟩
    · have hnf : n = sumTo P r.weak.length := by rw [hn]; congr 1; omega
      have hmw := fun k (hk : k ≤ r.weak.length) => mpC_weak (P := P) hok hk
      have hms := fun k key x => mpC_some (r := r) (P := P) (k := k) (key := key) (x := x)
      have hmu := mpC_succ r P
      have hm0 : mpC r P 0 = fun _ => none := rfl
      generalize mpC r P = M at *
      conv => whnf
      repeat' first | ((first | refine Ob.a ?_ | refine Sp.tt ?_ | refine Sp.ff ?_ | refine Sp.yes ?_ | refine Sp.no ?_ | refine Sp.nyes ?_ | refine Sp.nno ?_);conv=>whnf) | (refine Sp.ne (fun hc => ?_) (fun hc => ?_) <;> (conv=>whnf)) | (refine Sp.dec (fun hc => ?_) (fun hc => ?_) <;> (conv=>whnf)) | (refine Sp.ndec (fun hc => ?_) (fun hc => ?_) <;> (conv=>whnf)) | (refine Sp.mk (fun hc => ?_) (fun hc => ?_) <;> (conv=>whnf)) | (refine Nx.mk (fun ka kb kx hx hs => ?_) (fun he => ?_) <;> (conv=>whnf)) | (refine Nx.mk (fun ka kx hx hs => ?_) (fun he => ?_) <;> (conv=>whnf)) | (refine Uk.mk (fun hn => ?_) ?_ <;> (conv=>whnf)) | (refine Fi.a ?_;conv=>whnf) | (refine Yl.a ?_ ?_ <;> (conv=>whnf)) | (refine Ob.b ?_;conv=>whnf)
      refine Lp.snap [0, 1, 2, 4, 5, 6, 8, 11, 14, 15, 16, 17, 50, 51, 73, 74, 75, 76, 78, 79, 80, 81, 82, 83, 84, 86, 87, 88, 89, 90, 91, 92, 94, 95, 96, 97, 99, 100] 40 ?_
      (conv=>whnf)
      refine LpB.go 101 ({q : Int × (List Int → Option Int) // (0 ≤ q.1 ∧ q.1 ≤ r.weak.length) ∧ ∀ key, q.2 key = M q.1.toNat key}) 0 (fun ⟨(k, f), _⟩ nx => ([(52, .d (int k))], [(2, .mp true ktP f)])) (fun p => (r.weak.length - p.1.1).toNat) (⟨(0, fun _ => none), ⟨by simp, by simp⟩, fun key => by rw [show (0 : Int).toNat = 0 from rfl, hm0]⟩) ?_ ?_
      · rintro ⟨⟨k, f⟩, ⟨q0, q1⟩, hf⟩
        simp only at q0 q1 hf
        by_cases hkl : k < r.weak.length
        · have hpk := hpb k.toNat (by omega)
          have hmu := hmu k.toNat
          by_cases hz : P.getD k.toNat 0 = 0
          · have e : ∀ key, delM (updM f [r.weak.getD k.toNat 0] (P.getD k.toNat 0)) [r.weak.getD k.toNat 0] key = M (k + 1).toNat key := fun key => by
              rw [show (k + 1).toNat = k.toNat + 1 by omega, hmu, if_pos hz]
              unfold delM updM
              split
              · rfl
              · exact hf key
            conv => whnf
            repeat' first | ((first | refine Ob.a ?_ | refine Sp.tt ?_ | refine Sp.ff ?_ | refine Sp.yes ?_ | refine Sp.no ?_ | refine Sp.nyes ?_ | refine Sp.nno ?_);conv=>whnf) | (refine Sp.ne (fun hc => ?_) (fun hc => ?_) <;> (conv=>whnf)) | (refine Sp.dec (fun hc => ?_) (fun hc => ?_) <;> (conv=>whnf)) | (refine Sp.ndec (fun hc => ?_) (fun hc => ?_) <;> (conv=>whnf)) | (refine Sp.mk (fun hc => ?_) (fun hc => ?_) <;> (conv=>whnf)) | (refine Nx.mk (fun ka kb kx hx hs => ?_) (fun he => ?_) <;> (conv=>whnf)) | (refine Nx.mk (fun ka kx hx hs => ?_) (fun he => ?_) <;> (conv=>whnf)) | (refine Uk.mk (fun hn => ?_) ?_ <;> (conv=>whnf)) | (refine Fi.a ?_;conv=>whnf) | (refine Yl.a ?_ ?_ <;> (conv=>whnf)) | (refine Ob.b ?_;conv=>whnf)
            exact ⟨rfl, ⟨(k + 1, _), ⟨by simp only; omega, by simp only; omega⟩, e⟩, Lf, by simp only; omega⟩
          · have e : ∀ key, updM f [r.weak.getD k.toNat 0] (P.getD k.toNat 0) key = M (k + 1).toNat key := fun key => by
              rw [show (k + 1).toNat = k.toNat + 1 by omega, hmu, if_neg hz]
              unfold updM
              split
              · rfl
              · exact hf key
            conv => whnf
            repeat' first | ((first | refine Ob.a ?_ | refine Sp.tt ?_ | refine Sp.ff ?_ | refine Sp.yes ?_ | refine Sp.no ?_ | refine Sp.nyes ?_ | refine Sp.nno ?_);conv=>whnf) | (refine Sp.ne (fun hc => ?_) (fun hc => ?_) <;> (conv=>whnf)) | (refine Sp.dec (fun hc => ?_) (fun hc => ?_) <;> (conv=>whnf)) | (refine Sp.ndec (fun hc => ?_) (fun hc => ?_) <;> (conv=>whnf)) | (refine Sp.mk (fun hc => ?_) (fun hc => ?_) <;> (conv=>whnf)) | (refine Nx.mk (fun ka kb kx hx hs => ?_) (fun he => ?_) <;> (conv=>whnf)) | (refine Nx.mk (fun ka kx hx hs => ?_) (fun he => ?_) <;> (conv=>whnf)) | (refine Uk.mk (fun hn => ?_) ?_ <;> (conv=>whnf)) | (refine Fi.a ?_;conv=>whnf) | (refine Yl.a ?_ ?_ <;> (conv=>whnf)) | (refine Ob.b ?_;conv=>whnf)
            exact ⟨rfl, ⟨(k + 1, _), ⟨by simp only; omega, by simp only; omega⟩, e⟩, Lf, by simp only; omega⟩
        · have hfk : ∀ key, f key = M r.weak.length key := fun key => by rw [hf, show k.toNat = r.weak.length by omega]
          conv => whnf
          have hfw : ∀ j, j < r.weak.length → P.getD j 0 ≠ 0 → f [r.weak.getD j 0] = some (P.getD j 0) := fun j hj hz => by rw [hfk]; exact hmw _ (Nat.le_refl _) j hj hz
          have hfs : ∀ key x, f key = some x → ∃ j, j < r.weak.length ∧ key = [r.weak.getD j 0] ∧ x = P.getD j 0 ∧ P.getD j 0 ≠ 0 := fun key x h => hms _ key x (by rw [← hfk]; exact h)
          clear hmu hm0
          repeat' first | ((first | refine Ob.a ?_ | refine Sp.tt ?_ | refine Sp.ff ?_ | refine Sp.yes ?_ | refine Sp.no ?_ | refine Sp.nyes ?_ | refine Sp.nno ?_);conv=>whnf) | (refine Sp.ne (fun hc => ?_) (fun hc => ?_) <;> (conv=>whnf)) | (refine Sp.dec (fun hc => ?_) (fun hc => ?_) <;> (conv=>whnf)) | (refine Sp.ndec (fun hc => ?_) (fun hc => ?_) <;> (conv=>whnf)) | (refine Sp.mk (fun hc => ?_) (fun hc => ?_) <;> (conv=>whnf)) | (refine Nx.mk (fun ka kb kx hx hs => ?_) (fun he => ?_) <;> (conv=>whnf)) | (refine Nx.mk (fun ka kx hx hs => ?_) (fun he => ?_) <;> (conv=>whnf)) | (refine Uk.mk (fun hn => ?_) ?_ <;> (conv=>whnf)) | (refine Fi.a ?_;conv=>whnf) | (refine Yl.a ?_ ?_ <;> (conv=>whnf)) | (refine Ob.b ?_;conv=>whnf)
          refine Lp.snap [0, 1, 6, 8, 11, 75, 100] 40 ?_
          (conv=>whnf)
          refine LpB.go 101 ({q : Int × Bool // (0 ≤ q.1 ∧ q.1 ≤ r.lots.length) ∧ ∀ j, j < q.1.toNat → csum r P j r.weak.length ≤ zOf r j}) 0 (fun ⟨(i, b), _⟩ nx => ([(76, .d (int i))], [(2, .mp b ktP f)])) (fun p => (r.lots.length - p.1.1).toNat) (⟨(0, true), ⟨by simp, by simp⟩, fun j hj => by simp at hj⟩) ?_ ?_
          · rintro ⟨⟨i, b⟩, ⟨i0, i1⟩, hinv⟩
            simp only at i0 i1 hinv
            by_cases hil2 : i < r.lots.length
            · have hS := size_spec r i hok ⟨i0, hil2⟩
              have hH := fun a => has_spec r i a ⟨i0, hil2⟩
              have hz1 := zOf_pos hok i.toNat
              have hz2 := zOf_le hok i.toNat
              have hcn := csS_nil r P i.toNat
              have hcc := fun j s (hj : j < r.weak.length) (hs : [r.weak.getD j 0] ∉ s) => csS_cons hok (P := P) (i := i.toNat) hj hs
              have hcr := csS_rng hok hpo i.toNat
              have hca := fun s h => csS_all (r := r) (P := P) (i := i.toNat) (s := s) h
              have hgt : ¬ csum r P i.toNat r.weak.length ≤ zOf r i.toNat → (0, 14) = (x, y) := fun h => by
                rw [← k0, if_pos]
                intro h2
                exact h (h2 i.toNat (by omega))
              have hle : csum r P i.toNat r.weak.length ≤ zOf r i.toNat → ∀ j, j < (i + 1).toNat → csum r P j r.weak.length ≤ zOf r j := fun h j hj => by
                by_cases e : j < i.toNat
                · exact hinv j e
                · obtain rfl : j = i.toNat := by omega
                  exact h
              generalize csum r P i.toNat r.weak.length = cs at *
              generalize csS r P i.toNat = C at *
              generalize zOf r i.toNat = z at *
              conv => whnf
              repeat' first | ((first | refine Ob.a ?_ | refine Sp.tt ?_ | refine Sp.ff ?_ | refine Sp.yes ?_ | refine Sp.no ?_ | refine Sp.nyes ?_ | refine Sp.nno ?_);conv=>whnf) | (refine Sp.ne (fun hc => ?_) (fun hc => ?_) <;> (conv=>whnf)) | (refine Sp.dec (fun hc => ?_) (fun hc => ?_) <;> (conv=>whnf)) | (refine Sp.ndec (fun hc => ?_) (fun hc => ?_) <;> (conv=>whnf)) | (refine Sp.mk (fun hc => ?_) (fun hc => ?_) <;> (conv=>whnf)) | (apply Cl.go;(conv=>whnf); (first | refine Ob.call (hS) ?_);(conv=>whnf)) | (refine Nx.mk (fun ka kb kx hx hs => ?_) (fun he => ?_) <;> (conv=>whnf)) | (refine Nx.mk (fun ka kx hx hs => ?_) (fun he => ?_) <;> (conv=>whnf)) | (refine Uk.mk (fun hn => ?_) ?_ <;> (conv=>whnf)) | (refine Fi.a ?_;conv=>whnf) | (refine Yl.a ?_ ?_ <;> (conv=>whnf)) | (refine Ob.b ?_;conv=>whnf)
              refine Lp.snap [0, 1, 4, 5, 6, 8, 11, 14, 75, 76, 78, 79, 80, 81, 82, 83, 97, 99, 100] 40 ?_
              (conv=>whnf)
              refine LpB.go 101 ({q : List (List Int) × Int // (q.1.Nodup ∧ ∀ x ∈ q.1, x ∈ r.weak.map fun a => [a]) ∧ q.2 = z - C q.1}) 0 (fun ⟨(s, n'), _⟩ nx => ([(15, .d (int n'))], [(11, .it true ktP f s none)])) (fun p => r.weak.length - p.1.1.length) (⟨([], z), by simp, by rw [hcn]; simp⟩) ?_ ?_
              · rintro ⟨⟨s, n'⟩, ⟨hs, hsub⟩, hn'⟩
                simp only at hs hsub hn'
                conv => whnf
                refine Nx.mk (fun ka kx hx hns => ?_) (fun he => ?_)
                · obtain ⟨j, hj, hkey, hxj, hxz⟩ := hfs _ _ hx
                  have hka : ka = r.weak.getD j 0 := by injection hkey
                  have hpj := hpb j (by omega)
                  have hsub' : ∀ x ∈ [ka] :: s, x ∈ r.weak.map fun a => [a] := fun y hy => by
                    rcases List.mem_cons.1 hy with rfl | hy
                    · exact List.mem_map.2 ⟨ka, by rw [hka]; exact getD_mem hj 0, rfl⟩
                    · exact hsub y hy
                  have hnd := List.nodup_cons.2 ⟨hns, hs⟩
                  have hl2 : s.length + 1 ≤ r.weak.length := by
                    have := nodup_le _ _ hnd hsub'
                    rwa [List.length_map, List.length_cons] at this
                  have hcs := hcc j s hj (by rw [← hka]; exact hns)
                  rw [← hka] at hcs
                  have hH := hH ka
                  have hr1 := hcr s
                  by_cases hh : Has (lotN r i.toNat) ka
                  · rw [if_pos hh] at hcs
                    rw [decide_eq_true hh] at hH
                    have e : n' - kx = z - C ([ka] :: s) := by omega
                    conv => whnf
                    repeat' first | ((first | refine Ob.a ?_ | refine Sp.tt ?_ | refine Sp.ff ?_ | refine Sp.yes ?_ | refine Sp.no ?_ | refine Sp.nyes ?_ | refine Sp.nno ?_);conv=>whnf) | (refine Sp.ne (fun hc => ?_) (fun hc => ?_) <;> (conv=>whnf)) | (refine Sp.dec (fun hc => ?_) (fun hc => ?_) <;> (conv=>whnf)) | (refine Sp.ndec (fun hc => ?_) (fun hc => ?_) <;> (conv=>whnf)) | (refine Sp.mk (fun hc => ?_) (fun hc => ?_) <;> (conv=>whnf)) | (apply Cl.go;(conv=>whnf); (first | refine Ob.call (hH) ?_);(conv=>whnf)) | (refine Nx.mk (fun ka kb kx hx hs => ?_) (fun he => ?_) <;> (conv=>whnf)) | (refine Nx.mk (fun ka kx hx hs => ?_) (fun he => ?_) <;> (conv=>whnf)) | (refine Uk.mk (fun hn => ?_) ?_ <;> (conv=>whnf)) | (refine Fi.a ?_;conv=>whnf) | (refine Yl.a ?_ ?_ <;> (conv=>whnf)) | (refine Ob.b ?_;conv=>whnf)
                    exact ⟨rfl, ⟨([ka] :: s, n' - kx), ⟨hnd, hsub'⟩, e⟩, Lf, by simp only [List.length_cons]; omega⟩
                  · rw [if_neg hh] at hcs
                    rw [decide_eq_false hh] at hH
                    have e : n' = z - C ([ka] :: s) := by omega
                    conv => whnf
                    repeat' first | ((first | refine Ob.a ?_ | refine Sp.tt ?_ | refine Sp.ff ?_ | refine Sp.yes ?_ | refine Sp.no ?_ | refine Sp.nyes ?_ | refine Sp.nno ?_);conv=>whnf) | (refine Sp.ne (fun hc => ?_) (fun hc => ?_) <;> (conv=>whnf)) | (refine Sp.dec (fun hc => ?_) (fun hc => ?_) <;> (conv=>whnf)) | (refine Sp.ndec (fun hc => ?_) (fun hc => ?_) <;> (conv=>whnf)) | (refine Sp.mk (fun hc => ?_) (fun hc => ?_) <;> (conv=>whnf)) | (apply Cl.go;(conv=>whnf); (first | refine Ob.call (hH) ?_);(conv=>whnf)) | (refine Nx.mk (fun ka kb kx hx hs => ?_) (fun he => ?_) <;> (conv=>whnf)) | (refine Nx.mk (fun ka kx hx hs => ?_) (fun he => ?_) <;> (conv=>whnf)) | (refine Uk.mk (fun hn => ?_) ?_ <;> (conv=>whnf)) | (refine Fi.a ?_;conv=>whnf) | (refine Yl.a ?_ ?_ <;> (conv=>whnf)) | (refine Ob.b ?_;conv=>whnf)
                    exact ⟨rfl, ⟨([ka] :: s, n'), ⟨hnd, hsub'⟩, e⟩, Lf, by simp only [List.length_cons]; omega⟩
                · have hC : C s = cs := hca s fun j hj hz => he _ _ (hfw j hj hz)
                  by_cases hneg : n' < 0
                  · have e := hgt (by omega)
                    injection e with e1 e2
                    conv => whnf
                    repeat' first | ((first | refine Ob.a ?_ | refine Sp.tt ?_ | refine Sp.ff ?_ | refine Sp.yes ?_ | refine Sp.no ?_ | refine Sp.nyes ?_ | refine Sp.nno ?_);conv=>whnf) | (refine Sp.ne (fun hc => ?_) (fun hc => ?_) <;> (conv=>whnf)) | (refine Sp.dec (fun hc => ?_) (fun hc => ?_) <;> (conv=>whnf)) | (refine Sp.ndec (fun hc => ?_) (fun hc => ?_) <;> (conv=>whnf)) | (refine Sp.mk (fun hc => ?_) (fun hc => ?_) <;> (conv=>whnf)) | (refine Nx.mk (fun ka kb kx hx hs => ?_) (fun he => ?_) <;> (conv=>whnf)) | (refine Nx.mk (fun ka kx hx hs => ?_) (fun he => ?_) <;> (conv=>whnf)) | (refine Uk.mk (fun hn => ?_) ?_ <;> (conv=>whnf)) | (refine Fi.a ?_;conv=>whnf) | (refine Yl.a ?_ ?_ <;> (conv=>whnf)) | (refine Ob.b ?_;conv=>whnf)
                    exact Lf
                  · have e := hle (by omega)
                    conv => whnf
                    repeat' first | ((first | refine Ob.a ?_ | refine Sp.tt ?_ | refine Sp.ff ?_ | refine Sp.yes ?_ | refine Sp.no ?_ | refine Sp.nyes ?_ | refine Sp.nno ?_);conv=>whnf) | (refine Sp.ne (fun hc => ?_) (fun hc => ?_) <;> (conv=>whnf)) | (refine Sp.dec (fun hc => ?_) (fun hc => ?_) <;> (conv=>whnf)) | (refine Sp.ndec (fun hc => ?_) (fun hc => ?_) <;> (conv=>whnf)) | (refine Sp.mk (fun hc => ?_) (fun hc => ?_) <;> (conv=>whnf)) | (refine Nx.mk (fun ka kb kx hx hs => ?_) (fun he => ?_) <;> (conv=>whnf)) | (refine Nx.mk (fun ka kx hx hs => ?_) (fun he => ?_) <;> (conv=>whnf)) | (refine Uk.mk (fun hn => ?_) ?_ <;> (conv=>whnf)) | (refine Fi.a ?_;conv=>whnf) | (refine Yl.a ?_ ?_ <;> (conv=>whnf)) | (refine Ob.b ?_;conv=>whnf)
                    exact ⟨rfl, ⟨(i + 1, false), ⟨by simp only; omega, by simp only; omega⟩, e⟩, Lf, by simp only; omega⟩
              · exact Lf
            · have e : (sumTo P r.weak.length, 0) = (x, y) := by
                rw [← k0, if_neg]
                exact not_not_intro fun j hj => hinv j (by omega)
              injection e with e1 e2
              conv => whnf
              repeat' first | ((first | refine Ob.a ?_ | refine Sp.tt ?_ | refine Sp.ff ?_ | refine Sp.yes ?_ | refine Sp.no ?_ | refine Sp.nyes ?_ | refine Sp.nno ?_);conv=>whnf) | (refine Sp.ne (fun hc => ?_) (fun hc => ?_) <;> (conv=>whnf)) | (refine Sp.dec (fun hc => ?_) (fun hc => ?_) <;> (conv=>whnf)) | (refine Sp.ndec (fun hc => ?_) (fun hc => ?_) <;> (conv=>whnf)) | (refine Sp.mk (fun hc => ?_) (fun hc => ?_) <;> (conv=>whnf)) | (refine Nx.mk (fun ka kb kx hx hs => ?_) (fun he => ?_) <;> (conv=>whnf)) | (refine Nx.mk (fun ka kx hx hs => ?_) (fun he => ?_) <;> (conv=>whnf)) | (refine Uk.mk (fun hn => ?_) ?_ <;> (conv=>whnf)) | (refine Fi.a ?_;conv=>whnf) | (refine Yl.a ?_ ?_ <;> (conv=>whnf)) | (refine Ob.b ?_;conv=>whnf)
              exact Lf
          · exact Lf
      · exact Lf
  · exact Lf
end Go.Px.Try

/-! Pp12 -/
namespace Go.Px.Try
open Go Go.Proofs Go.Px
set_option maxRecDepth 100000
def mxL (l : List Int) : Int := l.foldl max (l.getD 0 0)
theorem mxL_step (l : List Int) {j : Nat} (h : j < l.length) : (l.take (j + 1)).foldl max (l.getD 0 0) = max ((l.take j).foldl max (l.getD 0 0)) (l.getD j 0) := by
  rw [take_succ_getD l j 0 h, List.foldl_append]; rfl
set_option maxHeartbeats 8000000 in
theorem Max_spec (l : List Int) (h0 : 0 < l.length) (h1 : l.length < 1000000) : Fn Try.prog 75 [ints l] (int (mxL l)) := by
  generalize hfin : mxL l = fin
  refine Fn.of_ex (cuts := []) tys hM Try.func75 rfl Try.call75 rfl ?_
  show exC Try.prog T [] _ false none 0 (entry 25 [ints l]) (finQ T [ResultVar.tmp 2] _)
  conv => whnf
  repeat' first | ((first | refine Ob.a ?_ | refine Sp.tt ?_ | refine Sp.ff ?_ | refine Sp.yes ?_ | refine Sp.no ?_ | refine Sp.nyes ?_ | refine Sp.nno ?_);conv=>whnf) | (refine Sp.ne (fun hc => ?_) (fun hc => ?_) <;> (conv=>whnf)) | (refine Sp.dec (fun hc => ?_) (fun hc => ?_) <;> (conv=>whnf)) | (refine Sp.ndec (fun hc => ?_) (fun hc => ?_) <;> (conv=>whnf)) | (refine Sp.mk (fun hc => ?_) (fun hc => ?_) <;> (conv=>whnf)) | (refine Nx.mk (fun ka kb kx hx hs => ?_) (fun he => ?_) <;> (conv=>whnf)) | (refine Nx.mk (fun ka kx hx hs => ?_) (fun he => ?_) <;> (conv=>whnf)) | (refine Uk.mk (fun hn => ?_) ?_ <;> (conv=>whnf)) | (refine Fi.a ?_;conv=>whnf) | (refine Yl.a ?_ ?_ <;> (conv=>whnf)) | (refine Ob.b ?_;conv=>whnf)
  refine Lp.snap [0, 2, 24] 40 ?_
  (conv=>whnf)
  refine LpB.go 25 ({q : Int × Int // (1 ≤ q.1 ∧ q.1 ≤ l.length) ∧ q.2 = (l.take q.1.toNat).foldl max (l.getD 0 0)}) 0 (fun ⟨(i, m), _⟩ nx => ([(4, .d (int i)), (3, .d (int m))], [])) (fun p => (l.length - p.1.1).toNat) (⟨(1, l.getD 0 0), ⟨by simp, by simp only; omega⟩, by rw [show ((1 : Int), l.getD 0 0).1.toNat = 0 + 1 from rfl, mxL_step l h0]; simp⟩) ?_ ?_
  · rintro ⟨⟨i, m⟩, ⟨i0, i1⟩, hm⟩
    simp only at i0 i1 hm
    by_cases hil : i < l.length
    · have hs := mxL_step l (j := i.toNat) (by omega)
      rw [← hm, show i.toNat + 1 = (i + 1).toNat by omega] at hs
      conv => whnf
      repeat' first | ((first | refine Ob.a ?_ | refine Sp.tt ?_ | refine Sp.ff ?_ | refine Sp.yes ?_ | refine Sp.no ?_ | refine Sp.nyes ?_ | refine Sp.nno ?_);conv=>whnf) | (refine Sp.ne (fun hc => ?_) (fun hc => ?_) <;> (conv=>whnf)) | (refine Sp.dec (fun hc => ?_) (fun hc => ?_) <;> (conv=>whnf)) | (refine Sp.ndec (fun hc => ?_) (fun hc => ?_) <;> (conv=>whnf)) | (refine Sp.mk (fun hc => ?_) (fun hc => ?_) <;> (conv=>whnf)) | (refine Nx.mk (fun ka kb kx hx hs => ?_) (fun he => ?_) <;> (conv=>whnf)) | (refine Nx.mk (fun ka kx hx hs => ?_) (fun he => ?_) <;> (conv=>whnf)) | (refine Uk.mk (fun hn => ?_) ?_ <;> (conv=>whnf)) | (refine Fi.a ?_;conv=>whnf) | (refine Yl.a ?_ ?_ <;> (conv=>whnf)) | (refine Ob.b ?_;conv=>whnf)
      exact ⟨rfl, ⟨(i + 1, max m (l.getD i.toNat 0)), ⟨by simp only; omega, by simp only; omega⟩, hs.symm⟩, Lf, by simp only; omega⟩
    · have e : m = fin := by rw [hm, ← hfin, List.take_of_length_le (by omega)]; rfl
      conv => whnf
      repeat' first | ((first | refine Ob.a ?_ | refine Sp.tt ?_ | refine Sp.ff ?_ | refine Sp.yes ?_ | refine Sp.no ?_ | refine Sp.nyes ?_ | refine Sp.nno ?_);conv=>whnf) | (refine Sp.ne (fun hc => ?_) (fun hc => ?_) <;> (conv=>whnf)) | (refine Sp.dec (fun hc => ?_) (fun hc => ?_) <;> (conv=>whnf)) | (refine Sp.ndec (fun hc => ?_) (fun hc => ?_) <;> (conv=>whnf)) | (refine Sp.mk (fun hc => ?_) (fun hc => ?_) <;> (conv=>whnf)) | (refine Nx.mk (fun ka kb kx hx hs => ?_) (fun he => ?_) <;> (conv=>whnf)) | (refine Nx.mk (fun ka kx hx hs => ?_) (fun he => ?_) <;> (conv=>whnf)) | (refine Uk.mk (fun hn => ?_) ?_ <;> (conv=>whnf)) | (refine Fi.a ?_;conv=>whnf) | (refine Yl.a ?_ ?_ <;> (conv=>whnf)) | (refine Ob.b ?_;conv=>whnf)
      exact Lf
  · exact Lf
end Go.Px.Try

/-! Pp13 -/
namespace Go.Px.Try
open Go Go.Proofs Go.Px
set_option maxRecDepth 100000
theorem mxL_zero {l : List Int} (h0 : 0 < l.length) (h : ∀ x ∈ l, 0 ≤ x) : mxL l = l.foldl max 0 := by
  cases l with
  | nil => simp at h0
  | cons x l =>
    have := h x (by simp)
    unfold mxL
    simp only [List.getD_cons_zero, List.foldl_cons]
    congr 1
    omega
theorem ImpS.row {t : Bool} {n : Nat} {f : Nat → DV} {L : List Int} (hn : n = L.length) (hf : ∀ j, j < n → f j = int (L.getD j 0)) : ImpS (.sl t 1 n f) (ints L) := by
  subst hn
  exact ⟨Imp.sl (fun e => by cases e) (by simp) fun j hj => Imp.of_eq (hf j hj)⟩
def putN (g : Nat → Int) (k : Nat) (v : Int) : Nat → Int := fun q => if q = k then v else g q
theorem upE_int {g : Nat → Int} {a k : Nat} {v : Int} {w : DV} (ha : a = k) (hw : w = int v) (q : Nat) : CImp (upE a w (fun j => int (g j)) q) (int (putN g k v q)) := by
  subst ha; subst hw
  unfold upE putN
  by_cases e : q = a
  · rw [if_pos e, if_pos e]; exact ⟨rfl, rfl⟩
  · rw [if_neg e, if_neg e]; exact ⟨rfl, rfl⟩
theorem mT_nn (r : Row) (k j : Nat) : 0 ≤ mT r k j ∧ mT r k j ≤ r.weak.length := by
  unfold mT
  split
  · rename_i h
    have := mA_rng r h.2
    omega
  · omega
theorem mT_succ (r : Row) {k : Nat} (hk : k < r.weak.length) (j : Nat) : mT r k j = if j = k then mA r k else mT r (k + 1) j := by
  unfold mT
  by_cases e : j = k
  · subst e; rw [if_pos ⟨Nat.le_refl _, hk⟩, if_pos rfl]
  · rw [if_neg e]
    by_cases h : k ≤ j ∧ j < r.weak.length
    · rw [if_pos h, if_pos (by omega)]
    · rw [if_neg h, if_neg (by omega)]
set_option maxHeartbeats 16000000 in
theorem ApartP_spec (r : Row) (h1 : r.lots.length < 1000000) (h2 : r.weak.length < 1000000) : Fn Try.prog 35 [rowD r] (tpl [ints (apartR r).1, int (apartR r).2]) := by
  by_cases hr : checkRow r = 0
  case neg =>
    have hc := open_err r h1 h2 hr
    have e : apartR r = ([], checkRow r) := if_pos hr
    rw [e]
    generalize checkRow r = c at *
    refine Fn.of_ex (cuts := []) tys hM Try.func35 rfl Try.call35 rfl ?_
    show exC Try.prog T [] _ false none 0 (entry 106 [rowD r]) (finQ T [ResultVar.tmp 2, ResultVar.tmp 3] _)
    conv => whnf
    repeat' first | ((first | refine Ob.a ?_ | refine Sp.tt ?_ | refine Sp.ff ?_ | refine Sp.yes ?_ | refine Sp.no ?_ | refine Sp.nyes ?_ | refine Sp.nno ?_);conv=>whnf) | (refine Sp.ne (fun hc => ?_) (fun hc => ?_) <;> (conv=>whnf)) | (refine Sp.dec (fun hc => ?_) (fun hc => ?_) <;> (conv=>whnf)) | (refine Sp.ndec (fun hc => ?_) (fun hc => ?_) <;> (conv=>whnf)) | (refine Sp.mk (fun hc => ?_) (fun hc => ?_) <;> (conv=>whnf)) | (apply Cl.go;(conv=>whnf); (first | refine Ob.call (hc) ?_);(conv=>whnf)) | (refine Nx.mk (fun ka kb kx hx hs => ?_) (fun he => ?_) <;> (conv=>whnf)) | (refine Nx.mk (fun ka kx hx hs => ?_) (fun he => ?_) <;> (conv=>whnf)) | (refine Uk.mk (fun hn => ?_) ?_ <;> (conv=>whnf)) | (refine Fi.a ?_;conv=>whnf) | (refine Yl.a ?_ ?_ <;> (conv=>whnf)) | (refine Ob.b ?_;conv=>whnf)
    all_goals exact Lf
  have hc := open_ok r h1 h2 hr
  have hok := checkRow_ok.1 hr
  have h12 := hok.w12
  have e : apartR r = (apF r none r.weak, 0) := by rw [← apart_eq hok]; exact if_neg (not_not_intro hr)
  rw [e]
  have hT := fun a b => together_spec r a b h1
  generalize hfin : apF r none r.weak = fin
  refine Fn.of_ex (cuts := []) tys hM Try.func35 rfl Try.call35 rfl ?_
  show exC Try.prog T [] _ false none 0 (entry 106 [rowD r]) (finQ T [ResultVar.tmp 2, ResultVar.tmp 3] _)
  conv => whnf
  repeat' first | ((first | refine Ob.a ?_ | refine Sp.tt ?_ | refine Sp.ff ?_ | refine Sp.yes ?_ | refine Sp.no ?_ | refine Sp.nyes ?_ | refine Sp.nno ?_);conv=>whnf) | (refine Sp.ne (fun hc => ?_) (fun hc => ?_) <;> (conv=>whnf)) | (refine Sp.dec (fun hc => ?_) (fun hc => ?_) <;> (conv=>whnf)) | (refine Sp.ndec (fun hc => ?_) (fun hc => ?_) <;> (conv=>whnf)) | (refine Sp.mk (fun hc => ?_) (fun hc => ?_) <;> (conv=>whnf)) | (apply Cl.go;(conv=>whnf); (first | refine Ob.call (hc) ?_);(conv=>whnf)) | (refine Nx.mk (fun ka kb kx hx hs => ?_) (fun he => ?_) <;> (conv=>whnf)) | (refine Nx.mk (fun ka kx hx hs => ?_) (fun he => ?_) <;> (conv=>whnf)) | (refine Uk.mk (fun hn => ?_) ?_ <;> (conv=>whnf)) | (refine Fi.a ?_;conv=>whnf) | (refine Yl.a ?_ ?_ <;> (conv=>whnf)) | (refine Ob.b ?_;conv=>whnf)
  refine Lp.snap [0, 1, 2, 3, 4, 6, 9, 10, 11, 12, 63, 64, 66, 67, 68, 69, 70, 71, 73, 74, 75, 76, 77, 78, 79, 80, 81, 82, 83, 84, 85, 86, 87, 88, 89, 90, 91, 92, 93, 94, 95, 96, 98, 99, 100, 101, 102, 103, 104, 105] 40 ?_
  (conv=>whnf)
  refine LpB.go 106 ({q : Int × (Nat → Int) // (-1 ≤ q.1 ∧ q.1 < r.weak.length) ∧ ∀ j, q.2 j = mT r (q.1 + 1).toNat j}) 0 (fun ⟨(k, g), _⟩ nx => ([(7, .d (int k))], [(12, .row true 87 1 13 (fun j => int (g j)))])) (fun p => (p.1.1 + 1).toNat) (⟨(r.weak.length - 1, mT r r.weak.length), ⟨by simp only; omega, by simp only; omega⟩, fun j => by rw [show (((r.weak.length : Int) - 1, mT r r.weak.length).1 + 1).toNat = r.weak.length by simp only; omega]⟩) ?_ ?_
  · rintro ⟨⟨k, g⟩, ⟨k0, k1⟩, hg⟩
    simp only at k0 k1 hg
    have hgr : ∀ j, 0 ≤ g j ∧ g j ≤ 12 := fun j => by rw [hg]; have := mT_nn r (k + 1).toNat j; omega
    by_cases hk : 0 ≤ k
    · have hmk := mA_rng r (k := k.toNat) (by omega)
      have hmd : mA r k.toNat = 1 + lenA r (some (r.weak.getD k.toNat 0)) (r.weak.drop (k.toNat + 1)) := rfl
      have hst := fun j (hj : j < r.weak.length) => lenA_drop r (r.weak.getD k.toNat 0) hj
      have hll : (lenA r (some (r.weak.getD k.toNat 0)) (r.weak.drop r.weak.length) : Int) = 0 := by rw [List.drop_eq_nil_of_le (Nat.le_refl _)]; rfl
      have hnx : ∀ g' : Nat → Int, (∀ j, j ≠ k.toNat → g' j = g j) → g' k.toNat = mA r k.toNat → ∀ j, g' j = mT r (k - 1 + 1).toNat j := fun g' h1 h2 j => by
        rw [show (k - 1 + 1).toNat = k.toNat by omega, mT_succ r (by omega)]
        by_cases e : j = k.toNat
        · rw [if_pos e, e, h2]
        · rw [if_neg e, h1 j e, hg, show (k + 1).toNat = k.toNat + 1 by omega]
      have hgm : ∀ j, k.toNat < j → j < r.weak.length → g j = mA r j := fun j h1 h2 => by rw [hg]; exact if_pos ⟨by omega, h2⟩
      have hT := fun b => hT (r.weak.getD k.toNat 0) b
      conv => whnf
      repeat' first | ((first | refine Ob.a ?_ | refine Sp.tt ?_ | refine Sp.ff ?_ | refine Sp.yes ?_ | refine Sp.no ?_ | refine Sp.nyes ?_ | refine Sp.nno ?_);conv=>whnf) | (refine Sp.ne (fun hc => ?_) (fun hc => ?_) <;> (conv=>whnf)) | (refine Sp.dec (fun hc => ?_) (fun hc => ?_) <;> (conv=>whnf)) | (refine Sp.ndec (fun hc => ?_) (fun hc => ?_) <;> (conv=>whnf)) | (refine Sp.mk (fun hc => ?_) (fun hc => ?_) <;> (conv=>whnf)) | (refine Nx.mk (fun ka kb kx hx hs => ?_) (fun he => ?_) <;> (conv=>whnf)) | (refine Nx.mk (fun ka kx hx hs => ?_) (fun he => ?_) <;> (conv=>whnf)) | (refine Uk.mk (fun hn => ?_) ?_ <;> (conv=>whnf)) | (refine Fi.a ?_;conv=>whnf) | (refine Yl.a ?_ ?_ <;> (conv=>whnf)) | (refine Ob.b ?_;conv=>whnf)
      refine Lp.snap [0, 1, 2, 3, 4, 6, 7, 9, 10, 11, 12, 25, 27, 28, 29, 30, 31, 32, 63, 64, 66, 67, 68, 69, 70, 71, 73, 74, 75, 76, 77, 78, 79, 80, 81, 82, 83, 84, 85, 86, 87, 88, 89, 90, 91, 92, 93, 94, 95, 96, 98, 99, 100, 101, 102, 103, 104, 105] 40 ?_
      (conv=>whnf)
      refine LpB.go 106 ({q : Int × (Nat → Int) // (k + 1 ≤ q.1 ∧ q.1 ≤ r.weak.length) ∧ (∀ j, j ≠ k.toNat → q.2 j = g j) ∧ (1 ≤ q.2 k.toNat ∧ q.2 k.toNat ≤ 20) ∧ max (q.2 k.toNat) (1 + lenA r (some (r.weak.getD k.toNat 0)) (r.weak.drop q.1.toNat)) = mA r k.toNat}) 0 (fun ⟨(j, g'), _⟩ nx => ([(8, .d (int j))], [(12, .row true 87 1 13 (fun j => int (g' j)))])) (fun p => (r.weak.length - p.1.1).toNat) (⟨(k + 1, putN g k.toNat 1), ⟨by simp only; omega, by simp only; omega⟩, fun j hj => by simp only [putN]; rw [if_neg hj], by simp [putN], by simp only [putN, if_true]; rw [show (k + 1).toNat = k.toNat + 1 by omega]; omega⟩) ?_ ?_
      · rintro ⟨⟨j, g'⟩, ⟨j0, j1⟩, hg', ⟨ga, gb⟩, hgx⟩
        simp only at j0 j1 hg' ga gb hgx
        by_cases hjl : j < r.weak.length
        · have hst := hst j.toNat (by omega)
          have hT := hT (r.weak.getD j.toNat 0)
          have hgj : g' j.toNat = mA r j.toNat := by rw [hg' _ (by omega), hgm _ (by omega) (by omega)]
          have hmj := mA_rng r (k := j.toNat) (by omega)
          cases ht : togB r (r.weak.getD k.toNat 0) (r.weak.getD j.toNat 0) with
          | true =>
            rw [ht] at hT hst
            rw [if_neg (by simp)] at hst
            have e : max (g' k.toNat) (1 + lenA r (some (r.weak.getD k.toNat 0)) (r.weak.drop (j + 1).toNat)) = mA r k.toNat := by
              rw [show (j + 1).toNat = j.toNat + 1 by omega, ← hst]; exact hgx
            conv => whnf
            repeat' first | ((first | refine Ob.a ?_ | refine Sp.tt ?_ | refine Sp.ff ?_ | refine Sp.yes ?_ | refine Sp.no ?_ | refine Sp.nyes ?_ | refine Sp.nno ?_);conv=>whnf) | (refine Sp.ne (fun hc => ?_) (fun hc => ?_) <;> (conv=>whnf)) | (refine Sp.dec (fun hc => ?_) (fun hc => ?_) <;> (conv=>whnf)) | (refine Sp.ndec (fun hc => ?_) (fun hc => ?_) <;> (conv=>whnf)) | (refine Sp.mk (fun hc => ?_) (fun hc => ?_) <;> (conv=>whnf)) | (apply Cl.go;(conv=>whnf); (first | refine Ob.call (hT) ?_);(conv=>whnf)) | (refine Nx.mk (fun ka kb kx hx hs => ?_) (fun he => ?_) <;> (conv=>whnf)) | (refine Nx.mk (fun ka kx hx hs => ?_) (fun he => ?_) <;> (conv=>whnf)) | (refine Uk.mk (fun hn => ?_) ?_ <;> (conv=>whnf)) | (refine Fi.a ?_;conv=>whnf) | (refine Yl.a ?_ ?_ <;> (conv=>whnf)) | (refine Ob.b ?_;conv=>whnf)
            exact ⟨rfl, ⟨(j + 1, g'), ⟨by simp only; omega, by simp only; omega⟩, hg', ⟨ga, gb⟩, e⟩, Lf, by simp only; omega⟩
          | false =>
            rw [ht] at hT hst
            rw [if_pos rfl] at hst
            have e : max (max (g' k.toNat) (1 + g' j.toNat)) (1 + lenA r (some (r.weak.getD k.toNat 0)) (r.weak.drop (j + 1).toNat)) = mA r k.toNat := by
              rw [show (j + 1).toNat = j.toNat + 1 by omega, hgj]; omega
            have ha1 : g' (0 + k.toNat) = g' k.toNat := by rw [Nat.zero_add]
            have ha2 : g' (0 + j.toNat) = g' j.toNat := by rw [Nat.zero_add]
            conv => whnf
            repeat' first | ((first | refine Ob.a ?_ | refine Sp.tt ?_ | refine Sp.ff ?_ | refine Sp.yes ?_ | refine Sp.no ?_ | refine Sp.nyes ?_ | refine Sp.nno ?_);conv=>whnf) | (refine Sp.ne (fun hc => ?_) (fun hc => ?_) <;> (conv=>whnf)) | (refine Sp.dec (fun hc => ?_) (fun hc => ?_) <;> (conv=>whnf)) | (refine Sp.ndec (fun hc => ?_) (fun hc => ?_) <;> (conv=>whnf)) | (refine Sp.mk (fun hc => ?_) (fun hc => ?_) <;> (conv=>whnf)) | (apply Cl.go;(conv=>whnf); (first | refine Ob.call (hT) ?_);(conv=>whnf)) | (refine Nx.mk (fun ka kb kx hx hs => ?_) (fun he => ?_) <;> (conv=>whnf)) | (refine Nx.mk (fun ka kx hx hs => ?_) (fun he => ?_) <;> (conv=>whnf)) | (refine Uk.mk (fun hn => ?_) ?_ <;> (conv=>whnf)) | (refine Fi.a ?_;conv=>whnf) | (refine Yl.a ?_ ?_ <;> (conv=>whnf)) | (refine Ob.b ?_;conv=>whnf)
            refine ⟨rfl, ⟨(j + 1, putN g' k.toNat (max (g' k.toNat) (1 + g' j.toNat))), ⟨by simp only; omega, by simp only; omega⟩, fun q hq => by simp only [putN]; rw [if_neg hq]; exact hg' q hq, by simp only [putN, if_true]; omega, by simp only [putN, if_true]; exact e⟩, ?_, by simp only; omega⟩
            repeat' first | (refine Edge.fast ?_) | ((conv=>whnf); first | exact True.intro | (refine And.intro ?_ ?_) | exact rfl | exact Nat.le_of_eq (Nat.zero_add _) | exact ImpS.refl _ | ((conv => arg 1; whnf); first | exact ImpS.refl _ | (refine ImpS.nil_eq ?_) | (refine ImpS.vnil_eq ?_) | (refine ImpS.row ?_) | (refine ImpS.rowN ?_ ?_) | (refine ImpS.sl_eq ?_) | (refine ImpS.expl rfl ?_)) | (refine row_snoc' ?_) | exact MImp.refl _ | exact cimp_none | exact cimp_same | exact List.not_mem_nil | exact DImp.refl _) | exact rfl | (refine And.intro ?_ ?_) | exact ImpS.refl _
            exact fun q _ => upE_int (by omega) (by rw [← ha1, ← ha2]; rfl) q
        · have e := hnx g' hg' (by rw [show j.toNat = r.weak.length by omega, hll] at hgx; omega)
          conv => whnf
          repeat' first | ((first | refine Ob.a ?_ | refine Sp.tt ?_ | refine Sp.ff ?_ | refine Sp.yes ?_ | refine Sp.no ?_ | refine Sp.nyes ?_ | refine Sp.nno ?_);conv=>whnf) | (refine Sp.ne (fun hc => ?_) (fun hc => ?_) <;> (conv=>whnf)) | (refine Sp.dec (fun hc => ?_) (fun hc => ?_) <;> (conv=>whnf)) | (refine Sp.ndec (fun hc => ?_) (fun hc => ?_) <;> (conv=>whnf)) | (refine Sp.mk (fun hc => ?_) (fun hc => ?_) <;> (conv=>whnf)) | (refine Nx.mk (fun ka kb kx hx hs => ?_) (fun he => ?_) <;> (conv=>whnf)) | (refine Nx.mk (fun ka kx hx hs => ?_) (fun he => ?_) <;> (conv=>whnf)) | (refine Uk.mk (fun hn => ?_) ?_ <;> (conv=>whnf)) | (refine Fi.a ?_;conv=>whnf) | (refine Yl.a ?_ ?_ <;> (conv=>whnf)) | (refine Ob.b ?_;conv=>whnf)
          exact ⟨rfl, ⟨(k - 1, g'), ⟨by simp only; omega, by simp only; omega⟩, e⟩, Lf, by simp only; omega⟩
      · conv => whnf
        repeat' first | (refine Edge.fast ?_) | ((conv=>whnf); first | exact True.intro | (refine And.intro ?_ ?_) | exact rfl | exact Nat.le_of_eq (Nat.zero_add _) | exact ImpS.refl _ | ((conv => arg 1; whnf); first | exact ImpS.refl _ | (refine ImpS.nil_eq ?_) | (refine ImpS.vnil_eq ?_) | (refine ImpS.row ?_) | (refine ImpS.rowN ?_ ?_) | (refine ImpS.sl_eq ?_) | (refine ImpS.expl rfl ?_)) | (refine row_snoc' ?_) | exact MImp.refl _ | exact cimp_none | exact cimp_same | exact List.not_mem_nil | exact DImp.refl _) | exact rfl | (refine And.intro ?_ ?_) | exact ImpS.refl _
        exact fun q _ => upE_int (by omega) rfl q
    · have hge : g = fun j => ((List.range 13).map (mT r 0)).getD j 0 := funext fun j => by
        rw [hg, show (k + 1).toNat = 0 by omega, List.getD_eq_getElem?_getD, List.getElem?_map]
        by_cases hj : j < 13
        · rw [List.getElem?_range hj]; rfl
        · rw [List.getElem?_eq_none (by simp; omega)]
          exact if_neg (by omega)
      have hGW : ∀ j, j < r.weak.length → ((List.range 13).map (mT r 0)).getD j 0 = mA r j := fun j hj => by
        rw [List.getD_eq_getElem?_getD, List.getElem?_map, List.getElem?_range (by omega)]
        exact if_pos ⟨by omega, hj⟩
      have hGb : ∀ j, 0 ≤ ((List.range 13).map (mT r 0)).getD j 0 ∧ ((List.range 13).map (mT r 0)).getD j 0 ≤ 12 := fun j => by
        have := hgr j; rwa [hge] at this
      have hGl : ((List.range 13).map (mT r 0)).length = 13 := by simp
      have hGm : mxL ((List.range 13).map (mT r 0)) = lenA r none r.weak := by
        rw [mxL_zero (by simp) fun x hx => by
          obtain ⟨j, _, rfl⟩ := List.mem_map.1 hx
          exact (mT_nn r 0 j).1]
        have := mT_max r hok r.weak.length 0 (by omega)
        rwa [List.drop_zero] at this
      subst hge
      generalize (List.range 13).map (mT r 0) = G at *
      have hM := Max_spec G (by omega) (by omega)
      rw [hGm] at hM
      have hlb := lenA_le r r.weak none
      by_cases hW : r.weak.length = 0
      · have hz : ∀ j, j < 13 → G.getD j 0 = 0 := fun j hj => (hg j).trans (if_neg (by omega))
        have e : fin = [] := by rw [← hfin, List.length_eq_zero_iff.1 hW]; rfl
        conv => whnf
        repeat' first | ((first | refine Ob.a ?_ | refine Sp.tt ?_ | refine Sp.ff ?_ | refine Sp.yes ?_ | refine Sp.no ?_ | refine Sp.nyes ?_ | refine Sp.nno ?_);conv=>whnf) | (refine Sp.ne (fun hc => ?_) (fun hc => ?_) <;> (conv=>whnf)) | (refine Sp.dec (fun hc => ?_) (fun hc => ?_) <;> (conv=>whnf)) | (refine Sp.ndec (fun hc => ?_) (fun hc => ?_) <;> (conv=>whnf)) | (refine Sp.mk (fun hc => ?_) (fun hc => ?_) <;> (conv=>whnf)) | (refine Nx.mk (fun ka kb kx hx hs => ?_) (fun he => ?_) <;> (conv=>whnf)) | (refine Nx.mk (fun ka kx hx hs => ?_) (fun he => ?_) <;> (conv=>whnf)) | (refine Uk.mk (fun hn => ?_) ?_ <;> (conv=>whnf)) | (refine Fi.a ?_;conv=>whnf) | (refine Yl.a ?_ ?_ <;> (conv=>whnf)) | (refine Ob.b ?_;conv=>whnf)
        · exact Lf
        · exact absurd (fun j hj => hz j hj) hc
      conv => whnf
      repeat' first | ((first | refine Ob.a ?_ | refine Sp.tt ?_ | refine Sp.ff ?_ | refine Sp.yes ?_ | refine Sp.no ?_ | refine Sp.nyes ?_ | refine Sp.nno ?_);conv=>whnf) | (refine Sp.ne (fun hc => ?_) (fun hc => ?_) <;> (conv=>whnf)) | (refine Sp.dec (fun hc => ?_) (fun hc => ?_) <;> (conv=>whnf)) | (refine Sp.ndec (fun hc => ?_) (fun hc => ?_) <;> (conv=>whnf)) | (refine Sp.mk (fun hc => ?_) (fun hc => ?_) <;> (conv=>whnf)) | (refine Nx.mk (fun ka kb kx hx hs => ?_) (fun he => ?_) <;> (conv=>whnf)) | (refine Nx.mk (fun ka kx hx hs => ?_) (fun he => ?_) <;> (conv=>whnf)) | (refine Uk.mk (fun hn => ?_) ?_ <;> (conv=>whnf)) | (refine Fi.a ?_;conv=>whnf) | (refine Yl.a ?_ ?_ <;> (conv=>whnf)) | (refine Ob.b ?_;conv=>whnf)
      · exfalso
        have h0 : G.getD 0 0 = 0 := hc 0 (by decide)
        rw [hGW 0 (by omega)] at h0
        have := mA_rng r (k := 0) (by omega)
        omega
      apply Cl.go
      (conv=>whnf)
      refine Ob.fn ?_ ?_ ?_ (hM)
      rotate_left
      all_goals try (repeat' first | (refine Edge.fast ?_) | ((conv=>whnf); first | exact True.intro | (refine And.intro ?_ ?_) | exact rfl | exact Nat.le_of_eq (Nat.zero_add _) | exact ImpS.refl _ | ((conv => arg 1; whnf); first | exact ImpS.refl _ | (refine ImpS.nil_eq ?_) | (refine ImpS.vnil_eq ?_) | (refine ImpS.row ?_) | (refine ImpS.rowN ?_ ?_) | (refine ImpS.sl_eq ?_) | (refine ImpS.expl rfl ?_)) | (refine row_snoc' ?_) | (apply row_upd) | exact cimp_none | exact cimp_same | exact List.not_mem_nil | exact DImp.refl _) | exact rfl | (refine And.intro ?_ ?_) | exact ImpS.refl _)
      all_goals try first | assumption | omega
      · conv => whnf
        conv => arg 1; whnf
        exact ImpS.row hGl.symm fun j _ => by rw [Nat.zero_add]
      conv => whnf
      repeat' first | ((first | refine Ob.a ?_ | refine Sp.tt ?_ | refine Sp.ff ?_ | refine Sp.yes ?_ | refine Sp.no ?_ | refine Sp.nyes ?_ | refine Sp.nno ?_);conv=>whnf) | (refine Sp.ne (fun hc => ?_) (fun hc => ?_) <;> (conv=>whnf)) | (refine Sp.dec (fun hc => ?_) (fun hc => ?_) <;> (conv=>whnf)) | (refine Sp.ndec (fun hc => ?_) (fun hc => ?_) <;> (conv=>whnf)) | (refine Sp.mk (fun hc => ?_) (fun hc => ?_) <;> (conv=>whnf)) | (refine Nx.mk (fun ka kb kx hx hs => ?_) (fun he => ?_) <;> (conv=>whnf)) | (refine Nx.mk (fun ka kx hx hs => ?_) (fun he => ?_) <;> (conv=>whnf)) | (refine Uk.mk (fun hn => ?_) ?_ <;> (conv=>whnf)) | (refine Fi.a ?_;conv=>whnf) | (refine Yl.a ?_ ?_ <;> (conv=>whnf)) | (refine Ob.b ?_;conv=>whnf)
      refine Lp.snap [0, 2, 3, 4, 6, 69, 70, 105] 40 ?_
      (conv=>whnf)
      refine LpB.go 106 ({q : Int × List Int × Int // (0 ≤ q.1 ∧ q.1 ≤ r.weak.length) ∧ fin = q.2.1 ++ apF r (lastO q.2.1) (r.weak.drop q.1.toNat) ∧ q.2.2 = lenA r (lastO q.2.1) (r.weak.drop q.1.toNat) ∧ q.2.1.length ≤ q.1}) 0 (fun ⟨(i, o, m), _⟩ nx => ([(71, .d (int i)), (9, .ms 18 1 0 o.length), (10, .d (int m))], [(18, .row true 3 1 o.length (rowOf int 0 o)), (12, .row true 87 1 13 (rowOf int 0 G))])) (fun p => (r.weak.length - p.1.1).toNat) (⟨(0, [], lenA r none r.weak), ⟨by simp, by simp⟩, by rw [← hfin]; rfl, rfl, by simp⟩) ?_ ?_
      · rintro ⟨⟨i, o, m⟩, ⟨i0, i1⟩, hfo, hm, hol⟩
        simp only at i0 i1 hfo hm hol
        by_cases hil : i < r.weak.length
        · have hT := hT (o.getD (o.length - 1) 0) (r.weak.getD i.toNat 0)
          have hGi := hGW i.toNat (by omega)
          have hmi := mA_rng r (k := i.toNat) (by omega)
          have hmb := lenA_le r (r.weak.drop i.toNat) (lastO o)
          rw [List.length_drop] at hmb
          have htk := apF_take r o (k := i.toNat) (by omega)
          have hsk := apF_skip r o (k := i.toNat) (by omega)
          rw [← hm] at htk hsk
          rw [← hGi] at htk hsk
          have hskn : ¬ (G.getD i.toNat 0 = m ∧ okL r (lastO o) (r.weak.getD i.toNat 0) = true) → fin = o ++ apF r (lastO o) (r.weak.drop (i + 1).toNat) ∧ m = lenA r (lastO o) (r.weak.drop (i + 1).toNat) := fun h => by
            have := hsk h
            rw [show (i + 1).toNat = i.toNat + 1 by omega, ← this]
            refine ⟨hfo, ?_⟩
            rw [hm]; unfold lenA; rw [← this]
          have htkn : G.getD i.toNat 0 = m → okL r (lastO o) (r.weak.getD i.toNat 0) = true → fin = (o ++ [r.weak.getD i.toNat 0]) ++ apF r (lastO (o ++ [r.weak.getD i.toNat 0])) (r.weak.drop (i + 1).toNat) ∧ m - 1 = lenA r (lastO (o ++ [r.weak.getD i.toNat 0])) (r.weak.drop (i + 1).toNat) := fun h h' => by
            have := htk h' h
            rw [show (i + 1).toNat = i.toNat + 1 by omega, hfo]
            rw [h] at this
            exact this
          clear hsk htk
          have hg1 : G.getD i.toNat 0 = G.getD (0 + i.toNat) 0 := by rw [Nat.zero_add]
          rw [hg1] at htkn hskn hGi
          by_cases he : G.getD (0 + i.toNat) 0 = m
          · by_cases hoz : o.length = 0
            · have hlo : lastO o = none := if_pos hoz
              obtain ⟨e1, e2⟩ := htkn he (by rw [hlo]; rfl)
              conv => whnf
              repeat' first | ((first | refine Ob.a ?_ | refine Sp.tt ?_ | refine Sp.ff ?_ | refine Sp.yes ?_ | refine Sp.no ?_ | refine Sp.nyes ?_ | refine Sp.nno ?_);conv=>whnf) | (refine Sp.ne (fun hc => ?_) (fun hc => ?_) <;> (conv=>whnf)) | (refine Sp.dec (fun hc => ?_) (fun hc => ?_) <;> (conv=>whnf)) | (refine Sp.ndec (fun hc => ?_) (fun hc => ?_) <;> (conv=>whnf)) | (refine Sp.mk (fun hc => ?_) (fun hc => ?_) <;> (conv=>whnf)) | (apply Cl.go;(conv=>whnf); (first | refine Ob.call (hT) ?_);(conv=>whnf)) | (refine Nx.mk (fun ka kb kx hx hs => ?_) (fun he => ?_) <;> (conv=>whnf)) | (refine Nx.mk (fun ka kx hx hs => ?_) (fun he => ?_) <;> (conv=>whnf)) | (refine Uk.mk (fun hn => ?_) ?_ <;> (conv=>whnf)) | (refine Fi.a ?_;conv=>whnf) | (refine Yl.a ?_ ?_ <;> (conv=>whnf)) | (refine Ob.b ?_;conv=>whnf)
              all_goals exact ⟨rfl, ⟨(i + 1, o ++ [r.weak.getD i.toNat 0], m - 1), ⟨by simp only; omega, by simp only; omega⟩, e1, e2, by simp; omega⟩, Lf, by simp only; omega⟩
            · have hlo : lastO o = some (o.getD (o.length - 1) 0) := if_neg hoz
              rw [hlo] at htkn hskn
              cases ht : togB r (o.getD (o.length - 1) 0) (r.weak.getD i.toNat 0) with
              | true =>
                obtain ⟨e1, e2⟩ := hskn fun h => by
                  have := h.2
                  rw [show okL r (some (o.getD (o.length - 1) 0)) (r.weak.getD i.toNat 0) = !togB r (o.getD (o.length - 1) 0) (r.weak.getD i.toNat 0) from rfl, ht] at this
                  cases this
                rw [← hlo] at e1 e2
                rw [ht] at hT
                conv => whnf
                repeat' first | ((first | refine Ob.a ?_ | refine Sp.tt ?_ | refine Sp.ff ?_ | refine Sp.yes ?_ | refine Sp.no ?_ | refine Sp.nyes ?_ | refine Sp.nno ?_);conv=>whnf) | (refine Sp.ne (fun hc => ?_) (fun hc => ?_) <;> (conv=>whnf)) | (refine Sp.dec (fun hc => ?_) (fun hc => ?_) <;> (conv=>whnf)) | (refine Sp.ndec (fun hc => ?_) (fun hc => ?_) <;> (conv=>whnf)) | (refine Sp.mk (fun hc => ?_) (fun hc => ?_) <;> (conv=>whnf)) | (apply Cl.go;(conv=>whnf); (first | refine Ob.call (hT) ?_);(conv=>whnf)) | (refine Nx.mk (fun ka kb kx hx hs => ?_) (fun he => ?_) <;> (conv=>whnf)) | (refine Nx.mk (fun ka kx hx hs => ?_) (fun he => ?_) <;> (conv=>whnf)) | (refine Uk.mk (fun hn => ?_) ?_ <;> (conv=>whnf)) | (refine Fi.a ?_;conv=>whnf) | (refine Yl.a ?_ ?_ <;> (conv=>whnf)) | (refine Ob.b ?_;conv=>whnf)
                all_goals exact ⟨rfl, ⟨(i + 1, o, m), ⟨by simp only; omega, by simp only; omega⟩, e1, e2, by simp only; omega⟩, Lf, by simp only; omega⟩
              | false =>
                obtain ⟨e1, e2⟩ := htkn he (by
                  rw [show okL r (some (o.getD (o.length - 1) 0)) (r.weak.getD i.toNat 0) = !togB r (o.getD (o.length - 1) 0) (r.weak.getD i.toNat 0) from rfl, ht]
                  rfl)
                rw [ht] at hT
                conv => whnf
                repeat' first | ((first | refine Ob.a ?_ | refine Sp.tt ?_ | refine Sp.ff ?_ | refine Sp.yes ?_ | refine Sp.no ?_ | refine Sp.nyes ?_ | refine Sp.nno ?_);conv=>whnf) | (refine Sp.ne (fun hc => ?_) (fun hc => ?_) <;> (conv=>whnf)) | (refine Sp.dec (fun hc => ?_) (fun hc => ?_) <;> (conv=>whnf)) | (refine Sp.ndec (fun hc => ?_) (fun hc => ?_) <;> (conv=>whnf)) | (refine Sp.mk (fun hc => ?_) (fun hc => ?_) <;> (conv=>whnf)) | (apply Cl.go;(conv=>whnf); (first | refine Ob.call (hT) ?_);(conv=>whnf)) | (refine Nx.mk (fun ka kb kx hx hs => ?_) (fun he => ?_) <;> (conv=>whnf)) | (refine Nx.mk (fun ka kx hx hs => ?_) (fun he => ?_) <;> (conv=>whnf)) | (refine Uk.mk (fun hn => ?_) ?_ <;> (conv=>whnf)) | (refine Fi.a ?_;conv=>whnf) | (refine Yl.a ?_ ?_ <;> (conv=>whnf)) | (refine Ob.b ?_;conv=>whnf)
                all_goals exact ⟨rfl, ⟨(i + 1, o ++ [r.weak.getD i.toNat 0], m - 1), ⟨by simp only; omega, by simp only; omega⟩, e1, e2, by simp; omega⟩, Lf, by simp only; omega⟩
          · obtain ⟨e1, e2⟩ := hskn fun h => he h.1
            conv => whnf
            repeat' first | ((first | refine Ob.a ?_ | refine Sp.tt ?_ | refine Sp.ff ?_ | refine Sp.yes ?_ | refine Sp.no ?_ | refine Sp.nyes ?_ | refine Sp.nno ?_);conv=>whnf) | (refine Sp.ne (fun hc => ?_) (fun hc => ?_) <;> (conv=>whnf)) | (refine Sp.dec (fun hc => ?_) (fun hc => ?_) <;> (conv=>whnf)) | (refine Sp.ndec (fun hc => ?_) (fun hc => ?_) <;> (conv=>whnf)) | (refine Sp.mk (fun hc => ?_) (fun hc => ?_) <;> (conv=>whnf)) | (apply Cl.go;(conv=>whnf); (first | refine Ob.call (hT) ?_);(conv=>whnf)) | (refine Nx.mk (fun ka kb kx hx hs => ?_) (fun he => ?_) <;> (conv=>whnf)) | (refine Nx.mk (fun ka kx hx hs => ?_) (fun he => ?_) <;> (conv=>whnf)) | (refine Uk.mk (fun hn => ?_) ?_ <;> (conv=>whnf)) | (refine Fi.a ?_;conv=>whnf) | (refine Yl.a ?_ ?_ <;> (conv=>whnf)) | (refine Ob.b ?_;conv=>whnf)
            all_goals exact ⟨rfl, ⟨(i + 1, o, m), ⟨by simp only; omega, by simp only; omega⟩, e1, e2, by simp only; omega⟩, Lf, by simp only; omega⟩
        · have e : o = fin := by rw [hfo, List.drop_eq_nil_of_le (by omega)]; simp [apF]
          conv => whnf
          repeat' first | ((first | refine Ob.a ?_ | refine Sp.tt ?_ | refine Sp.ff ?_ | refine Sp.yes ?_ | refine Sp.no ?_ | refine Sp.nyes ?_ | refine Sp.nno ?_);conv=>whnf) | (refine Sp.ne (fun hc => ?_) (fun hc => ?_) <;> (conv=>whnf)) | (refine Sp.dec (fun hc => ?_) (fun hc => ?_) <;> (conv=>whnf)) | (refine Sp.ndec (fun hc => ?_) (fun hc => ?_) <;> (conv=>whnf)) | (refine Sp.mk (fun hc => ?_) (fun hc => ?_) <;> (conv=>whnf)) | (refine Nx.mk (fun ka kb kx hx hs => ?_) (fun he => ?_) <;> (conv=>whnf)) | (refine Nx.mk (fun ka kx hx hs => ?_) (fun he => ?_) <;> (conv=>whnf)) | (refine Uk.mk (fun hn => ?_) ?_ <;> (conv=>whnf)) | (refine Fi.a ?_;conv=>whnf) | (refine Yl.a ?_ ?_ <;> (conv=>whnf)) | (refine Ob.b ?_;conv=>whnf)
          exact Lf
      · exact Lf
  · conv => whnf
    repeat' first | (refine Edge.fast ?_) | ((conv=>whnf); first | exact True.intro | (refine And.intro ?_ ?_) | exact rfl | exact Nat.le_of_eq (Nat.zero_add _) | exact ImpS.refl _ | ((conv => arg 1; whnf); first | exact ImpS.refl _ | (refine ImpS.nil_eq ?_) | (refine ImpS.vnil_eq ?_) | (refine ImpS.row ?_) | (refine ImpS.rowN ?_ ?_) | (refine ImpS.sl_eq ?_) | (refine ImpS.expl rfl ?_)) | (refine row_snoc' ?_) | exact MImp.refl _ | exact cimp_none | exact cimp_same | exact List.not_mem_nil | exact DImp.refl _) | exact rfl | (refine And.intro ?_ ?_) | exact ImpS.refl _
    intro j _
    have : mT r r.weak.length j = 0 := if_neg (by omega)
    show CImp _ (int (mT r r.weak.length j))
    rw [this]
    exact ⟨rfl, rfl⟩
end Go.Px.Try

/-! Law1 -/
namespace Go.Px.Try
open Go Go.Proofs Go.Px
set_option maxRecDepth 100000
theorem eq_prefix {l l' : List Int} (hl : l.length = l'.length) (h : ∀ j, j < l.length → l.getD j 0 = l'.getD j 0) : l = l' := by
  apply List.ext_getElem?
  intro j
  by_cases hj : j < l.length
  · have := h j hj
    rw [List.getD_eq_getElem?_getD, List.getD_eq_getElem?_getD, List.getElem?_eq_getElem hj, List.getElem?_eq_getElem (by omega)] at this
    rw [List.getElem?_eq_getElem hj, List.getElem?_eq_getElem (by omega)]
    simpa using this
  · rw [List.getElem?_eq_none (by omega), List.getElem?_eq_none (by omega)]
theorem Ints_spec (a b : List Int) (ha : a.length < 1000000) : Fn Try.prog 25 [ints a, ints b] (bool (decide (a = b))) := by
  refine Fn.hide (D := fun r : Bool => bool r) fun r hr => ?_
  have hr0 := hr.h
  have h1 : ¬ a.length = b.length → r = false := fun h => by rw [← hr0]; exact decide_eq_false fun e => h (by rw [e])
  have h2 : ∀ j : Int, 0 ≤ j → j < a.length → ¬ a.getD j.toNat 0 = b.getD j.toNat 0 → r = false := fun j _ _ h => by rw [← hr0]; exact decide_eq_false fun e => h (by rw [e])
  have h3 : a.length = b.length → (∀ j : Int, 0 ≤ j → j < a.length → a.getD j.toNat 0 = b.getD j.toNat 0) → r = true := fun h h' => by
    rw [← hr0]; exact decide_eq_true (eq_prefix h fun j hj => by have := h' j (by omega) (by omega); rwa [Int.toNat_natCast] at this)
  refine Fn.of_ex (cuts := []) tys hM Try.func25 rfl Try.call25 rfl ?_
  show exC Try.prog T [] _ false none 0 (entry 26 [ints a, ints b]) (finQ T [ResultVar.tmp 4] _)
  conv => whnf
  repeat' first | ((first | refine Ob.a ?_ | refine Sp.tt ?_ | refine Sp.ff ?_ | refine Sp.yes ?_ | refine Sp.no ?_ | refine Sp.nyes ?_ | refine Sp.nno ?_);conv=>whnf) | (refine Sp.ne (fun hc => ?_) (fun hc => ?_) <;> (conv=>whnf)) | (refine Sp.dec (fun hc => ?_) (fun hc => ?_) <;> (conv=>whnf)) | (refine Sp.ndec (fun hc => ?_) (fun hc => ?_) <;> (conv=>whnf)) | (refine Sp.mk (fun hc => ?_) (fun hc => ?_) <;> (conv=>whnf)) | (refine Fi.a ?_;conv=>whnf) | (refine Ob.b ?_;conv=>whnf)
  · exact ⟨trivial, (h1 (by omega)).symm⟩
  · have hlen := hc
    refine Lp.snap [0, 1] 40 ?_
    (conv=>whnf)
    refine LpB.go 26 ({i : Int // (0 ≤ i ∧ i ≤ a.length) ∧ ∀ j : Int, 0 ≤ j → j < i → a.getD j.toNat 0 = b.getD j.toNat 0}) 0 (fun ⟨i, _⟩ nx => ([(5, .d (int i))], [])) (fun p => (a.length - p.1).toNat) (⟨0, ⟨by omega, by omega⟩, fun j _ _ => by omega⟩) ?_ ?_
    · rintro ⟨i, ⟨hi0, hi⟩, hinv⟩
      conv => whnf
      repeat' first | ((first | refine Ob.a ?_ | refine Sp.tt ?_ | refine Sp.ff ?_ | refine Sp.yes ?_ | refine Sp.no ?_ | refine Sp.nyes ?_ | refine Sp.nno ?_);conv=>whnf) | (refine Sp.ne (fun hc => ?_) (fun hc => ?_) <;> (conv=>whnf)) | (refine Sp.dec (fun hc => ?_) (fun hc => ?_) <;> (conv=>whnf)) | (refine Sp.ndec (fun hc => ?_) (fun hc => ?_) <;> (conv=>whnf)) | (refine Sp.mk (fun hc => ?_) (fun hc => ?_) <;> (conv=>whnf)) | (refine Fi.a ?_;conv=>whnf) | (refine Ob.b ?_;conv=>whnf)
      · exact ⟨trivial, (h2 i hi0 (by omega) hc).symm⟩
      · exact ⟨rfl, ⟨i + 1, ⟨by omega, by omega⟩, fun j a b => if e : j = i then e ▸ hc else hinv j a (by omega)⟩, Lf, by simp only; omega⟩
      · exact ⟨trivial, (h3 (by omega) fun j a b => hinv j a (by omega)).symm⟩
    · exact Lf
theorem of_spec (l : List Int) : Fn Try.prog 49 [ints l] (ints l) := by
  refine Fn.of_ex (cuts := []) tys hM Try.func49 rfl Try.call49 rfl ?_
  show exC Try.prog T [] _ false none 0 (entry 4 [ints l]) (finQ T [ResultVar.tmp 2] _)
  conv => whnf
  repeat' first | ((first | refine Ob.a ?_ | refine Sp.tt ?_ | refine Sp.ff ?_ | refine Sp.yes ?_ | refine Sp.no ?_ | refine Sp.nyes ?_ | refine Sp.nno ?_);conv=>whnf) | (refine Sp.ne (fun hc => ?_) (fun hc => ?_) <;> (conv=>whnf)) | (refine Sp.dec (fun hc => ?_) (fun hc => ?_) <;> (conv=>whnf)) | (refine Sp.ndec (fun hc => ?_) (fun hc => ?_) <;> (conv=>whnf)) | (refine Sp.mk (fun hc => ?_) (fun hc => ?_) <;> (conv=>whnf)) | (refine Fi.a ?_;conv=>whnf) | (refine Ob.b ?_;conv=>whnf)
  all_goals exact Lf
theorem great_spec (r : Row) : Fn Try.prog 16 [rowD r] (bool (decide (16 < (r.lots.length : Int)) || decide (16 < (r.weak.length : Int)))) := by
  by_cases h : 16 < (r.lots.length : Int)
  · rw [decide_eq_true h, Bool.true_or]
    refine Fn.of_ex (cuts := []) tys hM Try.func16 rfl Try.call16 rfl ?_
    show exC Try.prog T [] _ false none 0 (entry 13 [rowD r]) (finQ T [ResultVar.tmp 2] _)
    conv => whnf
    repeat' first | ((first | refine Ob.a ?_ | refine Sp.tt ?_ | refine Sp.ff ?_ | refine Sp.yes ?_ | refine Sp.no ?_ | refine Sp.nyes ?_ | refine Sp.nno ?_);conv=>whnf) | (refine Sp.ne (fun hc => ?_) (fun hc => ?_) <;> (conv=>whnf)) | (refine Sp.dec (fun hc => ?_) (fun hc => ?_) <;> (conv=>whnf)) | (refine Sp.ndec (fun hc => ?_) (fun hc => ?_) <;> (conv=>whnf)) | (refine Sp.mk (fun hc => ?_) (fun hc => ?_) <;> (conv=>whnf)) | (refine Fi.a ?_;conv=>whnf) | (refine Ob.b ?_;conv=>whnf)
    all_goals exact Lf
  · rw [decide_eq_false h, Bool.false_or]
    refine Fn.of_ex (cuts := []) tys hM Try.func16 rfl Try.call16 rfl ?_
    show exC Try.prog T [] _ false none 0 (entry 13 [rowD r]) (finQ T [ResultVar.tmp 2] _)
    conv => whnf
    repeat' first | ((first | refine Ob.a ?_ | refine Sp.tt ?_ | refine Sp.ff ?_ | refine Sp.yes ?_ | refine Sp.no ?_ | refine Sp.nyes ?_ | refine Sp.nno ?_);conv=>whnf) | (refine Sp.ne (fun hc => ?_) (fun hc => ?_) <;> (conv=>whnf)) | (refine Sp.dec (fun hc => ?_) (fun hc => ?_) <;> (conv=>whnf)) | (refine Sp.ndec (fun hc => ?_) (fun hc => ?_) <;> (conv=>whnf)) | (refine Sp.mk (fun hc => ?_) (fun hc => ?_) <;> (conv=>whnf)) | (refine Fi.a ?_;conv=>whnf) | (refine Ob.b ?_;conv=>whnf)
    all_goals exact Lf
theorem long_spec (l : List Int) : Fn Try.prog 17 [ints l] (bool (decide (20 < (l.length : Int)))) := by
  refine Fn.of_ex (cuts := []) tys hM Try.func17 rfl Try.call17 rfl ?_
  show exC Try.prog T [] _ false none 0 (entry 6 [ints l]) (finQ T [ResultVar.tmp 2] _)
  conv => whnf
  repeat' first | ((first | refine Ob.a ?_ | refine Sp.tt ?_ | refine Sp.ff ?_ | refine Sp.yes ?_ | refine Sp.no ?_ | refine Sp.nyes ?_ | refine Sp.nno ?_);conv=>whnf) | (refine Sp.ne (fun hc => ?_) (fun hc => ?_) <;> (conv=>whnf)) | (refine Sp.dec (fun hc => ?_) (fun hc => ?_) <;> (conv=>whnf)) | (refine Sp.ndec (fun hc => ?_) (fun hc => ?_) <;> (conv=>whnf)) | (refine Sp.mk (fun hc => ?_) (fun hc => ?_) <;> (conv=>whnf)) | (refine Fi.a ?_;conv=>whnf) | (refine Ob.b ?_;conv=>whnf)
  all_goals exact Lf
theorem has_law (l : List Int) (x : Int) (hl : l.length < 1000000) : Fn Try.prog 51 [ints l, int x] (bool (decide (x ∈ l))) := by
  refine Fn.hide (D := fun r : Bool => bool r) fun r hr => ?_
  have hr0 := hr.h
  have h1 : ∀ j : Int, 0 ≤ j → j < l.length → l.getD j.toNat 0 = x → r = true := fun j a b h => by
    rw [← hr0]; exact decide_eq_true (by rw [← h]; exact getD_mem (by omega) 0)
  have h2 : (∀ j : Int, 0 ≤ j → j < l.length → ¬ l.getD j.toNat 0 = x) → r = false := fun h => by
    rw [← hr0]
    refine decide_eq_false fun hx => ?_
    obtain ⟨j, hj, e⟩ := List.getElem_of_mem hx
    refine h j (by omega) (by omega) ?_
    rw [Int.toNat_natCast, List.getD_eq_getElem?_getD, List.getElem?_eq_getElem hj]
    exact e
  refine Fn.of_ex (cuts := []) tys hM Try.func51 rfl Try.call51 rfl ?_
  show exC Try.prog T [] _ false none 0 (entry 18 [ints l, int x]) (finQ T [ResultVar.tmp 4] _)
  conv => whnf
  repeat' first | ((first | refine Ob.a ?_ | refine Sp.tt ?_ | refine Sp.ff ?_ | refine Sp.yes ?_ | refine Sp.no ?_ | refine Sp.nyes ?_ | refine Sp.nno ?_);conv=>whnf) | (refine Sp.ne (fun hc => ?_) (fun hc => ?_) <;> (conv=>whnf)) | (refine Sp.dec (fun hc => ?_) (fun hc => ?_) <;> (conv=>whnf)) | (refine Sp.ndec (fun hc => ?_) (fun hc => ?_) <;> (conv=>whnf)) | (refine Sp.mk (fun hc => ?_) (fun hc => ?_) <;> (conv=>whnf)) | (refine Fi.a ?_;conv=>whnf) | (refine Ob.b ?_;conv=>whnf)
  refine Lp.snap [0, 1] 40 ?_
  (conv=>whnf)
  refine LpB.go 18 ({i : Int // (0 ≤ i ∧ i ≤ l.length) ∧ ∀ j : Int, 0 ≤ j → j < i → ¬ l.getD j.toNat 0 = x}) 0 (fun ⟨i, _⟩ nx => ([(5, .d (int i))], [])) (fun p => (l.length - p.1).toNat) (⟨0, ⟨by omega, by omega⟩, fun j _ _ => by omega⟩) ?_ ?_
  · rintro ⟨i, ⟨hi0, hi⟩, hinv⟩
    conv => whnf
    repeat' first | ((first | refine Ob.a ?_ | refine Sp.tt ?_ | refine Sp.ff ?_ | refine Sp.yes ?_ | refine Sp.no ?_ | refine Sp.nyes ?_ | refine Sp.nno ?_);conv=>whnf) | (refine Sp.ne (fun hc => ?_) (fun hc => ?_) <;> (conv=>whnf)) | (refine Sp.dec (fun hc => ?_) (fun hc => ?_) <;> (conv=>whnf)) | (refine Sp.ndec (fun hc => ?_) (fun hc => ?_) <;> (conv=>whnf)) | (refine Sp.mk (fun hc => ?_) (fun hc => ?_) <;> (conv=>whnf)) | (refine Fi.a ?_;conv=>whnf) | (refine Ob.b ?_;conv=>whnf)
    · have e := h1 i hi0 (by omega) hc
      exact Lf
    · exact ⟨rfl, ⟨i + 1, ⟨by omega, by omega⟩, fun j a b => if e : j = i then e ▸ hc else hinv j a (by omega)⟩, Lf, by simp only; omega⟩
    · have e := h2 fun j a b => hinv j a (by omega)
      exact Lf
  · exact Lf
end Go.Px.Try

/-! Law4 -/
namespace Go.Px.Try
open Go Go.Proofs Go.Px
set_option maxRecDepth 100000
def u16 (n : Nat) : DV := .v (.int .u16 n)
def u8 (n : Nat) : DV := .v (.int .u8 n)
def u8s (l : List Nat) : DV := slOf 1 u8 0 l
def notGreat (r : Row) : Prop := r.lots.length ≤ 16 ∧ r.weak.length ≤ 16
instance (r : Row) : Decidable (notGreat r) := by unfold notGreat; exact inferInstance
theorem great_no {r : Row} (h : notGreat r) : Fn Try.prog 16 [rowD r] (bool false) := by
  have := great_spec r
  rwa [decide_eq_false (by have := h.1; omega), decide_eq_false (by have := h.2; omega)] at this
theorem great_yes {r : Row} (h : ¬ notGreat r) : Fn Try.prog 16 [rowD r] (bool true) := by
  have hg := great_spec r
  by_cases h1 : 16 < (r.lots.length : Int)
  · rwa [decide_eq_true h1, Bool.true_or] at hg
  · rwa [decide_eq_false h1, decide_eq_true (by unfold notGreat at h; omega)] at hg
theorem fine_spec (r : Row) : Fn Try.prog 47 [rowD r] (bool (decide (notGreat r ∧ checkRow r = 0))) := by
  refine Fn.hide (D := fun r : Bool => bool r) fun c hc => ?_
  have hc0 := hc.h
  by_cases h1 : notGreat r
  case neg =>
    have e : c = false := by rw [← hc0]; exact decide_eq_false fun h => h1 h.1
    have hg := great_yes h1
    refine Fn.of_ex (cuts := []) tys hM Try.func47 rfl Try.call47 rfl ?_
    show exC Try.prog T [] _ false none 0 (entry 11 [rowD r]) (finQ T [ResultVar.tmp 2] _)
    conv => whnf
    repeat' first | ((first | refine Ob.a ?_ | refine Sp.tt ?_ | refine Sp.ff ?_ | refine Sp.yes ?_ | refine Sp.no ?_ | refine Sp.nyes ?_ | refine Sp.nno ?_);conv=>whnf) | (refine Sp.ne (fun hc => ?_) (fun hc => ?_) <;> (conv=>whnf)) | (refine Sp.dec (fun hc => ?_) (fun hc => ?_) <;> (conv=>whnf)) | (refine Sp.ndec (fun hc => ?_) (fun hc => ?_) <;> (conv=>whnf)) | (refine Sp.mk (fun hc => ?_) (fun hc => ?_) <;> (conv=>whnf)) | (apply Cl.go;(conv=>whnf); (first | refine Ob.call (hg) ?_);(conv=>whnf)) | (refine Fi.a ?_;conv=>whnf) | (refine Ob.b ?_;conv=>whnf)
    all_goals exact Lf
  have hg := great_no h1
  have hk := CheckRow_spec r (by have := h1.1; omega) (by have := h1.2; omega)
  by_cases h2 : checkRow r = 0
  · have e : c = true := by rw [← hc0]; exact decide_eq_true ⟨h1, h2⟩
    rw [h2] at hk
    refine Fn.of_ex (cuts := []) tys hM Try.func47 rfl Try.call47 rfl ?_
    show exC Try.prog T [] _ false none 0 (entry 11 [rowD r]) (finQ T [ResultVar.tmp 2] _)
    conv => whnf
    repeat' first | ((first | refine Ob.a ?_ | refine Sp.tt ?_ | refine Sp.ff ?_ | refine Sp.yes ?_ | refine Sp.no ?_ | refine Sp.nyes ?_ | refine Sp.nno ?_);conv=>whnf) | (refine Sp.ne (fun hc => ?_) (fun hc => ?_) <;> (conv=>whnf)) | (refine Sp.dec (fun hc => ?_) (fun hc => ?_) <;> (conv=>whnf)) | (refine Sp.ndec (fun hc => ?_) (fun hc => ?_) <;> (conv=>whnf)) | (refine Sp.mk (fun hc => ?_) (fun hc => ?_) <;> (conv=>whnf)) | (apply Cl.go;(conv=>whnf); (first | refine Ob.call (hg) ?_ | refine Ob.call (hk) ?_);(conv=>whnf)) | (refine Fi.a ?_;conv=>whnf) | (refine Ob.b ?_;conv=>whnf)
    all_goals exact Lf
  · have e : c = false := by rw [← hc0]; exact decide_eq_false fun h => h2 h.2
    refine Fn.of_ex (cuts := []) tys hM Try.func47 rfl Try.call47 rfl ?_
    show exC Try.prog T [] _ false none 0 (entry 11 [rowD r]) (finQ T [ResultVar.tmp 2] _)
    conv => whnf
    repeat' first | ((first | refine Ob.a ?_ | refine Sp.tt ?_ | refine Sp.ff ?_ | refine Sp.yes ?_ | refine Sp.no ?_ | refine Sp.nyes ?_ | refine Sp.nno ?_);conv=>whnf) | (refine Sp.ne (fun hc => ?_) (fun hc => ?_) <;> (conv=>whnf)) | (refine Sp.dec (fun hc => ?_) (fun hc => ?_) <;> (conv=>whnf)) | (refine Sp.ndec (fun hc => ?_) (fun hc => ?_) <;> (conv=>whnf)) | (refine Sp.mk (fun hc => ?_) (fun hc => ?_) <;> (conv=>whnf)) | (apply Cl.go;(conv=>whnf); (first | refine Ob.call (hg) ?_ | refine Ob.call (hk) ?_);(conv=>whnf)) | (refine Fi.a ?_;conv=>whnf) | (refine Ob.b ?_;conv=>whnf)
    all_goals exact Lf
theorem sound_spec (r : Row) : Fn Try.prog 44 [rowD r] (bool (decide (notGreat r ∧ rowError r = 0))) := by
  refine Fn.hide (D := fun r : Bool => bool r) fun c hc => ?_
  have hc0 := hc.h
  by_cases h1 : notGreat r
  case neg =>
    have e : c = false := by rw [← hc0]; exact decide_eq_false fun h => h1 h.1
    have hg := great_yes h1
    refine Fn.of_ex (cuts := []) tys hM Try.func44 rfl Try.call44 rfl ?_
    show exC Try.prog T [] _ false none 0 (entry 11 [rowD r]) (finQ T [ResultVar.tmp 2] _)
    conv => whnf
    repeat' first | ((first | refine Ob.a ?_ | refine Sp.tt ?_ | refine Sp.ff ?_ | refine Sp.yes ?_ | refine Sp.no ?_ | refine Sp.nyes ?_ | refine Sp.nno ?_);conv=>whnf) | (refine Sp.ne (fun hc => ?_) (fun hc => ?_) <;> (conv=>whnf)) | (refine Sp.dec (fun hc => ?_) (fun hc => ?_) <;> (conv=>whnf)) | (refine Sp.ndec (fun hc => ?_) (fun hc => ?_) <;> (conv=>whnf)) | (refine Sp.mk (fun hc => ?_) (fun hc => ?_) <;> (conv=>whnf)) | (apply Cl.go;(conv=>whnf); (first | refine Ob.call (hg) ?_);(conv=>whnf)) | (refine Fi.a ?_;conv=>whnf) | (refine Ob.b ?_;conv=>whnf)
    all_goals exact Lf
  have hg := great_no h1
  have hk := RowError_spec r (by have := h1.1; omega) (by have := h1.2; omega)
  by_cases h2 : rowError r = 0
  · have e : c = true := by rw [← hc0]; exact decide_eq_true ⟨h1, h2⟩
    rw [h2] at hk
    refine Fn.of_ex (cuts := []) tys hM Try.func44 rfl Try.call44 rfl ?_
    show exC Try.prog T [] _ false none 0 (entry 11 [rowD r]) (finQ T [ResultVar.tmp 2] _)
    conv => whnf
    repeat' first | ((first | refine Ob.a ?_ | refine Sp.tt ?_ | refine Sp.ff ?_ | refine Sp.yes ?_ | refine Sp.no ?_ | refine Sp.nyes ?_ | refine Sp.nno ?_);conv=>whnf) | (refine Sp.ne (fun hc => ?_) (fun hc => ?_) <;> (conv=>whnf)) | (refine Sp.dec (fun hc => ?_) (fun hc => ?_) <;> (conv=>whnf)) | (refine Sp.ndec (fun hc => ?_) (fun hc => ?_) <;> (conv=>whnf)) | (refine Sp.mk (fun hc => ?_) (fun hc => ?_) <;> (conv=>whnf)) | (apply Cl.go;(conv=>whnf); (first | refine Ob.call (hg) ?_ | refine Ob.call (hk) ?_);(conv=>whnf)) | (refine Fi.a ?_;conv=>whnf) | (refine Ob.b ?_;conv=>whnf)
    all_goals exact Lf
  · have e : c = false := by rw [← hc0]; exact decide_eq_false fun h => h2 h.2
    refine Fn.of_ex (cuts := []) tys hM Try.func44 rfl Try.call44 rfl ?_
    show exC Try.prog T [] _ false none 0 (entry 11 [rowD r]) (finQ T [ResultVar.tmp 2] _)
    conv => whnf
    repeat' first | ((first | refine Ob.a ?_ | refine Sp.tt ?_ | refine Sp.ff ?_ | refine Sp.yes ?_ | refine Sp.no ?_ | refine Sp.nyes ?_ | refine Sp.nno ?_);conv=>whnf) | (refine Sp.ne (fun hc => ?_) (fun hc => ?_) <;> (conv=>whnf)) | (refine Sp.dec (fun hc => ?_) (fun hc => ?_) <;> (conv=>whnf)) | (refine Sp.ndec (fun hc => ?_) (fun hc => ?_) <;> (conv=>whnf)) | (refine Sp.mk (fun hc => ?_) (fun hc => ?_) <;> (conv=>whnf)) | (apply Cl.go;(conv=>whnf); (first | refine Ob.call (hg) ?_ | refine Ob.call (hk) ?_);(conv=>whnf)) | (refine Fi.a ?_;conv=>whnf) | (refine Ob.b ?_;conv=>whnf)
    all_goals exact Lf
theorem bitOr (b k : Nat) (hb : b < 2 ^ 20) (hk : k < 20) : bor .i64 (b : Int) (1 * 2 ^ k) = ((b ||| 2 ^ k : Nat) : Int) := by
  have hk2 : 2 ^ k < 2 ^ 20 := Nat.pow_lt_pow_right (by omega) hk
  have hor : b ||| 2 ^ k < 2 ^ 20 := Nat.or_lt_two_pow hb hk2
  have e0 : ((1 : Int) * 2 ^ k) = ((2 ^ k : Nat) : Int) := by simp
  rw [e0]
  unfold bor
  have h : (BitVec.ofInt IntKind.i64.bits (b : Int) ||| BitVec.ofInt IntKind.i64.bits ((2 ^ k : Nat) : Int)).toNat = b ||| 2 ^ k := by
    have e1 : BitVec.ofInt IntKind.i64.bits (b : Int) = BitVec.ofNat 64 b := BitVec.ofInt_natCast 64 b
    have e2 : BitVec.ofInt IntKind.i64.bits ((2 ^ k : Nat) : Int) = BitVec.ofNat 64 (2 ^ k) := BitVec.ofInt_natCast 64 _
    rw [e1, e2]
    show (BitVec.ofNat 64 b ||| BitVec.ofNat 64 (2 ^ k)).toNat = _
    rw [BitVec.toNat_or, BitVec.toNat_ofNat, BitVec.toNat_ofNat, Nat.mod_eq_of_lt (by omega), Nat.mod_eq_of_lt (by omega)]
  rw [h, wrap_in]
  simp only [inR]
  omega
theorem bset_or (b k i : Nat) : bset (b ||| 2 ^ k) i = (bset b i || decide (i = k)) := by
  have h : ∀ n i : Nat, bset n i = n.testBit i := fun n i => by
    unfold bset
    rw [Nat.testBit_eq_decide_div_mod_eq]
  rw [h, h, Nat.testBit_or, Nat.testBit_two_pow]
  congr 1
  exact decide_eq_decide.2 eq_comm
/-- An explanation, by numbers: the lots that are taken up to a weak pot, as bits. -/
def gvNo (by' : List Nat) (k : Nat) : Nat := if by'.length = 0 then 0 else by'.getD (k % by'.length) 0
def gvLot (r : Row) (by' : List Nat) (k : Nat) : Int := (havingL r (r.weak.getD k 0)).getD (gvNo by' k % (havingL r (r.weak.getD k 0)).length) 0
def gvHad (r : Row) (b k : Nat) : Bool := (havingL r (r.weak.getD k 0)).any fun x => bset b x.toNat
def gvStep (r : Row) (by' : List Nat) (k b : Nat) : Nat := if gvHad r b k = true ∨ havingL r (r.weak.getD k 0) = [] then b else b ||| 2 ^ (gvLot r by' k).toNat
def gvGo (r : Row) (by' : List Nat) : Nat → Nat
  | 0 => 0
  | k + 1 => gvStep r by' k (gvGo r by' k)
def givenB (r : Row) (by' : List Nat) : Nat := gvGo r by' r.weak.length
def givenL (r : Row) (by' : List Nat) : List Int := listed (givenB r by') r.lots.length
theorem gvLot_mem {r : Row} {by' : List Nat} {k : Nat} (h : havingL r (r.weak.getD k 0) ≠ []) : gvLot r by' k ∈ havingL r (r.weak.getD k 0) :=
  getD_mem (Nat.mod_lt _ (List.length_pos_iff.2 h)) 0
theorem gvGo_lt (r : Row) (by' : List Nat) (h10 : r.lots.length ≤ 10) : ∀ k, gvGo r by' k < 2 ^ 10
  | 0 => by simp [gvGo]
  | k + 1 => by
    rw [gvGo, gvStep]
    split
    · exact gvGo_lt r by' h10 k
    · rename_i h
      have hm := having_mem.1 (gvLot_mem (by' := by') fun e => h (.inr e))
      exact Nat.or_lt_two_pow (gvGo_lt r by' h10 k) (Nat.pow_lt_pow_right (by omega) (by omega))
theorem gvStep_mono {r : Row} {by' : List Nat} {k b i : Nat} (h : bset b i = true) : bset (gvStep r by' k b) i = true := by
  unfold gvStep; split
  · exact h
  · rw [bset_or, h]; rfl
theorem gvGo_cov (r : Row) (by' : List Nat) : ∀ k j, j < k → havingL r (r.weak.getD j 0) ≠ [] → ∃ i, i < r.lots.length ∧ bset (gvGo r by' k) i = true ∧ Has (lotN r i) (r.weak.getD j 0)
  | 0, j, hj, _ => by omega
  | k + 1, j, hj, hne => by
    by_cases e : j = k
    · subst e
      by_cases hh : gvHad r (gvGo r by' j) j = true
      · obtain ⟨x, hx, hb⟩ := List.any_eq_true.1 hh
        obtain ⟨hr, hH⟩ := having_mem.1 hx
        exact ⟨x.toNat, by omega, gvStep_mono hb, hH⟩
      · obtain ⟨hr, hH⟩ := having_mem.1 (gvLot_mem (by' := by') hne)
        refine ⟨(gvLot r by' j).toNat, by omega, ?_, hH⟩
        rw [gvGo, gvStep, if_neg (fun h => h.elim hh hne), bset_or]; simp
    · obtain ⟨i, a, b, c⟩ := gvGo_cov r by' k j (by omega) hne
      exact ⟨i, a, gvStep_mono b, c⟩
theorem given_E {r : Row} (by' : List Nat) (he : ∃ S, E r S) : E r (bset (givenB r by')) := fun p hp => by
  obtain ⟨j, hj, rfl⟩ := List.getElem_of_mem hp
  have e : r.weak[j] = r.weak.getD j 0 := by rw [List.getD_eq_getElem?_getD, List.getElem?_eq_getElem hj]; rfl
  obtain ⟨S, hS⟩ := he
  obtain ⟨i, a, b, c⟩ := hS _ hp
  rw [e] at c ⊢
  refine gvGo_cov r by' r.weak.length j hj fun hn => ?_
  have : (i : Int) ∈ havingL r (r.weak.getD j 0) := having_mem.2 ⟨by omega, c⟩
  rw [hn] at this; cases this
theorem any_succ {p : Int → Bool} {l : List Int} {i : Nat} (h : i < l.length) : (l.take (i + 1)).any p = ((l.take i).any p || p (l.getD i 0)) := by
  rw [take_succ_getD l i 0 h]; simp
theorem shl20 {x : Int} (h0 : 0 ≤ x) (h : x < 20) : 0 ≤ 1 * (2 : Int) ^ x.toNat ∧ 1 * (2 : Int) ^ x.toNat ≤ 1048576 := by
  have h1 : 2 ^ x.toNat ≤ 2 ^ 20 := Nat.pow_le_pow_right (by omega) (by omega)
  have h2 : ((2 ^ x.toNat : Nat) : Int) ≤ ((2 ^ 20 : Nat) : Int) := Int.ofNat_le.2 h1
  have h3 : ((2 ^ x.toNat : Nat) : Int) = (2 : Int) ^ x.toNat := by simp
  rw [h3] at h2
  have h4 : 0 ≤ (2 : Int) ^ x.toNat := by rw [← h3]; exact Int.natCast_nonneg _
  exact ⟨by omega, by simp at h2; omega⟩
set_option maxHeartbeats 4000000 in
theorem Given_spec (r : Row) (by' : List Nat) (hr : RowOk r) (hb : by'.length ≤ 20) (hby : ∀ x ∈ by', x < 256) : Fn Try.prog 46 [rowD r, u8s by'] (ints (givenL r by')) := by
  have h10 := hr.l10
  have h12 := hr.w12
  have hL := Listed_spec (givenB r by') r.lots.length (Nat.lt_trans (gvGo_lt r by' h10 _) (by decide)) (by omega)
  change Fn _ _ _ (ints (givenL r by')) at hL
  have hH := fun p => Having_spec r p (by omega)
  generalize hg : givenL r by' = g at *
  refine Fn.of_ex (cuts := []) tys hM Try.func46 rfl Try.call46 rfl ?_
  show exC Try.prog T [] _ false none 0 (entry 74 [rowD r, u8s by']) (finQ T [ResultVar.tmp 4] _)
  conv => whnf
  repeat' first | ((first | refine Ob.a ?_ | refine Sp.tt ?_ | refine Sp.ff ?_ | refine Sp.yes ?_ | refine Sp.no ?_ | refine Sp.nyes ?_ | refine Sp.nno ?_);conv=>whnf) | (refine Sp.ne (fun hc => ?_) (fun hc => ?_) <;> (conv=>whnf)) | (refine Sp.dec (fun hc => ?_) (fun hc => ?_) <;> (conv=>whnf)) | (refine Sp.ndec (fun hc => ?_) (fun hc => ?_) <;> (conv=>whnf)) | (refine Sp.mk (fun hc => ?_) (fun hc => ?_) <;> (conv=>whnf)) | (refine Fi.a ?_;conv=>whnf) | (refine Ob.b ?_;conv=>whnf)
  refine Lp.snap [0, 1, 2, 4, 69, 70, 71, 72, 73] 40 ?_
  (conv=>whnf)
  refine LpB.go 74 ({k : Int // 0 ≤ k ∧ k ≤ r.weak.length}) 0 (fun ⟨k, _⟩ nx => ([(6, .d (int k)), (5, .d (int (gvGo r by' k.toNat)))], [])) (fun p => (r.weak.length - p.1).toNat) (⟨0, by omega, by omega⟩) ?_ ?_
  · rintro ⟨k, k0, k1⟩
    have hHk := hH (r.weak.getD k.toNat 0)
    have hlt := gvGo_lt r by' h10 k.toNat
    have hst : gvGo r by' (k + 1).toNat = gvStep r by' k.toNat (gvGo r by' k.toNat) := by rw [show (k + 1).toNat = k.toNat + 1 by omega]; rfl
    have he : ¬ k < r.weak.length → gvGo r by' k.toNat = givenB r by' := fun h => by rw [show k.toNat = r.weak.length by omega]; rfl
    have hne := gvLot_mem (r := r) (by' := by') (k := k.toNat)
    have hmem := fun x => having_mem (r := r) (p := r.weak.getD k.toNat 0) (x := x)
    have hll : (havingL r (r.weak.getD k.toNat 0)).length ≤ r.lots.length := lst_length_le _ _
    have hgh : gvHad r (gvGo r by' k.toNat) k.toNat = (havingL r (r.weak.getD k.toNat 0)).any fun x => bset (gvGo r by' k.toNat) x.toNat := rfl
    unfold gvStep at hst
    have hlot : gvLot r by' k.toNat = (havingL r (r.weak.getD k.toNat 0)).getD (gvNo by' k.toNat % (havingL r (r.weak.getD k.toNat 0)).length) 0 := rfl
    generalize gvHad r (gvGo r by' k.toNat) k.toNat = had at *
    generalize gvLot r by' k.toNat = lot at *
    generalize havingL r (r.weak.getD k.toNat 0) = l at *
    conv => whnf
    repeat' first | ((first | refine Ob.a ?_ | refine Sp.tt ?_ | refine Sp.ff ?_ | refine Sp.yes ?_ | refine Sp.no ?_ | refine Sp.nyes ?_ | refine Sp.nno ?_);conv=>whnf) | (refine Sp.ne (fun hc => ?_) (fun hc => ?_) <;> (conv=>whnf)) | (refine Sp.dec (fun hc => ?_) (fun hc => ?_) <;> (conv=>whnf)) | (refine Sp.ndec (fun hc => ?_) (fun hc => ?_) <;> (conv=>whnf)) | (refine Sp.mk (fun hc => ?_) (fun hc => ?_) <;> (conv=>whnf)) | (apply Cl.go;(conv=>whnf); (first | refine Ob.call (hHk) ?_);(conv=>whnf)) | (refine Fi.a ?_;conv=>whnf) | (refine Ob.b ?_;conv=>whnf)
    · refine Lp.snap [0, 1, 2, 4, 5, 6, 7, 10, 11, 12, 13, 14, 16, 17, 18, 19, 20, 21, 22, 23, 24, 42, 43, 44, 45, 46, 48, 49, 51, 52, 53, 54, 55, 56, 57, 58, 59, 60, 61, 62, 63, 64, 65, 66, 67, 68, 69, 70, 71, 72, 73] 40 ?_
      (conv=>whnf)
      refine LpB.go 74 ({i : Int // 0 ≤ i ∧ i ≤ l.length}) 0 (fun ⟨i, _⟩ nx => ([(9, .d (int i)), (8, .d (bool ((l.take i.toNat).any fun x => bset (gvGo r by' k.toNat) x.toNat)))], [])) (fun p => (l.length - p.1).toNat) (⟨0, by omega, by omega⟩) ?_ ?_
      · rintro ⟨i, i0, i1⟩
        have hb2 := bitAnd (gvGo r by' k.toNat) (l.getD i.toNat 0).toNat
        have hli : i < l.length → 0 ≤ l.getD i.toNat 0 ∧ l.getD i.toNat 0 < 64 := fun h => by have := ((hmem _).1 (getD_mem (i := i.toNat) (by omega) 0)).1; omega
        have hs : i < l.length → ((l.take (i + 1).toNat).any fun x => bset (gvGo r by' k.toNat) x.toNat) = (((l.take i.toNat).any fun x => bset (gvGo r by' k.toNat) x.toNat) || bset (gvGo r by' k.toNat) (l.getD i.toNat 0).toNat) := fun h => by
          rw [show (i + 1).toNat = i.toNat + 1 by omega, any_succ (by omega)]
        have hbs : bset (gvGo r by' k.toNat) (l.getD i.toNat 0).toNat = decide (gvGo r by' k.toNat / 2 ^ (l.getD i.toNat 0).toNat % 2 = 1) := rfl
        have hfull : ¬ i < l.length → ((l.take i.toNat).any fun x => bset (gvGo r by' k.toNat) x.toNat) = had := fun h => by rw [hgh, show i.toNat = l.length by omega, List.take_length]
        rw [hbs] at hs
        clear hbs
        have hn0 : gvNo by' k.toNat = if by'.length = 0 then 0 else by'.getD (k.toNat % by'.length) 0 := rfl
        have hby2 : 0 < by'.length → by'.getD (k.toNat % by'.length) 0 < 256 := fun h => hby _ (getD_mem (Nat.mod_lt _ h) 0)
        have hx1 : ¬ i < l.length → ((l.take i.toNat).any fun x => bset (gvGo r by' k.toNat) x.toNat) = true → gvGo r by' (k + 1).toNat = gvGo r by' k.toNat := fun h e => by
          rw [hst, if_pos (.inl (by rw [← hfull h]; exact e))]
        have hx2 : ¬ i < l.length → (l.length : Int) = 0 → gvGo r by' (k + 1).toNat = gvGo r by' k.toNat := fun h e => by
          rw [hst, if_pos (.inr (List.length_eq_zero_iff.1 (by omega)))]
        have hx0 : ¬ i < l.length → ((l.take i.toNat).any fun x => bset (gvGo r by' k.toNat) x.toNat) = false → ¬ (l.length : Int) = 0 → ∀ e : Int, e = lot → bor .i64 (gvGo r by' k.toNat : Int) (1 * 2 ^ lot.toNat) = (gvGo r by' (k + 1).toNat : Int) ∧ 0 ≤ lot ∧ lot < 20 := fun h e e2 _ _ => by
          have hm := ((hmem _).1 (hne fun h => e2 (by rw [h]; rfl))).1
          rw [bitOr _ _ (by omega) (by omega), hst, if_neg]
          · exact ⟨rfl, by omega, by omega⟩
          · rintro (h1 | h1)
            · rw [← hfull h, e] at h1; cases h1
            · exact e2 (by rw [h1]; rfl)
        have hl3 : ¬ (l.length : Int) = 0 → 0 < (by'.length : Int) → l.getD (((by'.getD (k % (by'.length : Int)).toNat 0 : Nat) : Int) % (l.length : Int)).toNat 0 = lot := fun e1 e2 => by
          rw [hlot, hn0, if_neg (by omega), show (k % (by'.length : Int)).toNat = k.toNat % by'.length by rw [Int.toNat_emod k0 (by omega), Int.toNat_natCast], ← Int.natCast_emod, Int.toNat_natCast]
        have hl4 : ¬ (l.length : Int) = 0 → ¬ 0 < (by'.length : Int) → l.getD ((0 : Int) % (l.length : Int)).toNat 0 = lot := fun e1 e2 => by
          rw [hlot, hn0, if_pos (by omega)]; simp
        have hx3 := fun (a : ¬ i < l.length) b c d => hx0 a b c _ (hl3 c d)
        have hx4 := fun (a : ¬ i < l.length) b c d => hx0 a b c _ (hl4 c d)
        by_cases hil : i < l.length
        · have hs := hs hil
          by_cases hbit : gvGo r by' k.toNat / 2 ^ (l.getD i.toNat 0).toNat % 2 = 1
          · rw [decide_eq_true hbit, Bool.or_true] at hs
            have hq : ((gvGo r by' k.toNat / 2 ^ (l.getD i.toNat 0).toNat % 2 : Nat) : Int) = 1 := by omega
            rw [hq] at hb2
            have hd : decide (band .i64 ((gvGo r by' k.toNat : Int) / 2 ^ (l.getD i.toNat 0).toNat) 1 = 1) = true := decide_eq_true hb2
            have e := hd.trans hs.symm
            have e2 := hs.symm
            conv => whnf
            repeat' first | ((first | refine Ob.a ?_ | refine Sp.tt ?_ | refine Sp.ff ?_ | refine Sp.yes ?_ | refine Sp.no ?_ | refine Sp.nyes ?_ | refine Sp.nno ?_);conv=>whnf) | (refine Sp.byes ?_;conv=>whnf) | (refine Sp.bno ?_;conv=>whnf) | (refine Sp.ne (fun hc => ?_) (fun hc => ?_) <;> (conv=>whnf)) | (refine Sp.dec (fun hc => ?_) (fun hc => ?_) <;> (conv=>whnf)) | (refine Sp.ndec (fun hc => ?_) (fun hc => ?_) <;> (conv=>whnf)) | (refine Sp.mk (fun hc => ?_) (fun hc => ?_) <;> (conv=>whnf)) | (refine Fi.a ?_;conv=>whnf) | (refine Ob.b ?_;conv=>whnf)
            all_goals exact ⟨rfl, ⟨i + 1, by omega, by omega⟩, Lf, by simp only; omega⟩
          · rw [decide_eq_false hbit, Bool.or_false] at hs
            have hq : ((gvGo r by' k.toNat / 2 ^ (l.getD i.toNat 0).toNat % 2 : Nat) : Int) = 0 := by omega
            rw [hq] at hb2
            have hd : decide (band .i64 ((gvGo r by' k.toNat : Int) / 2 ^ (l.getD i.toNat 0).toNat) 1 = 1) = false := decide_eq_false (by rw [hb2]; omega)
            cases hA : (l.take i.toNat).any fun x => bset (gvGo r by' k.toNat) x.toNat with
            | true =>
              have e := hA.trans (hs.trans hA).symm
              have e2 := (hs.trans hA).symm
              conv => whnf
              repeat' first | ((first | refine Ob.a ?_ | refine Sp.tt ?_ | refine Sp.ff ?_ | refine Sp.yes ?_ | refine Sp.no ?_ | refine Sp.nyes ?_ | refine Sp.nno ?_);conv=>whnf) | (refine Sp.byes ?_;conv=>whnf) | (refine Sp.bno ?_;conv=>whnf) | (refine Sp.ne (fun hc => ?_) (fun hc => ?_) <;> (conv=>whnf)) | (refine Sp.dec (fun hc => ?_) (fun hc => ?_) <;> (conv=>whnf)) | (refine Sp.ndec (fun hc => ?_) (fun hc => ?_) <;> (conv=>whnf)) | (refine Sp.mk (fun hc => ?_) (fun hc => ?_) <;> (conv=>whnf)) | (refine Fi.a ?_;conv=>whnf) | (refine Ob.b ?_;conv=>whnf)
              all_goals first | exact ⟨rfl, ⟨i + 1, by omega, by omega⟩, Lf, by simp only; omega⟩ | (exfalso; clear hlt he hst hx0 hx1 hx3 hx4 hn0 hgh hfull hs; simp_all; done)
            | false =>
              have e := hd.trans (hs.trans hA).symm
              have e2 := (hs.trans hA).symm
              conv => whnf
              repeat' first | ((first | refine Ob.a ?_ | refine Sp.tt ?_ | refine Sp.ff ?_ | refine Sp.yes ?_ | refine Sp.no ?_ | refine Sp.nyes ?_ | refine Sp.nno ?_);conv=>whnf) | (refine Sp.byes ?_;conv=>whnf) | (refine Sp.bno ?_;conv=>whnf) | (refine Sp.ne (fun hc => ?_) (fun hc => ?_) <;> (conv=>whnf)) | (refine Sp.dec (fun hc => ?_) (fun hc => ?_) <;> (conv=>whnf)) | (refine Sp.ndec (fun hc => ?_) (fun hc => ?_) <;> (conv=>whnf)) | (refine Sp.mk (fun hc => ?_) (fun hc => ?_) <;> (conv=>whnf)) | (refine Fi.a ?_;conv=>whnf) | (refine Ob.b ?_;conv=>whnf)
              all_goals first | exact ⟨rfl, ⟨i + 1, by omega, by omega⟩, Lf, by simp only; omega⟩ | (exfalso; clear hlt he hst hx0 hx1 hx3 hx4 hn0 hgh hfull hs; simp_all; done)
        have hx1 := hx1 hil
        have hx2 := hx2 hil
        have hx3 := hx3 hil
        have hx4 := hx4 hil
        have hfl := hfull hil
        rw [hfl] at hx1 hx3 hx4
        cases had with
        | true =>
          have e := hx1 rfl
          conv => whnf
          repeat' first | ((first | refine Ob.a ?_ | refine Sp.tt ?_ | refine Sp.ff ?_ | refine Sp.yes ?_ | refine Sp.no ?_ | refine Sp.nyes ?_ | refine Sp.nno ?_);conv=>whnf) | (refine Sp.byes ?_;conv=>whnf) | (refine Sp.bno ?_;conv=>whnf) | (refine Sp.ne (fun hc => ?_) (fun hc => ?_) <;> (conv=>whnf)) | (refine Sp.dec (fun hc => ?_) (fun hc => ?_) <;> (conv=>whnf)) | (refine Sp.ndec (fun hc => ?_) (fun hc => ?_) <;> (conv=>whnf)) | (refine Sp.mk (fun hc => ?_) (fun hc => ?_) <;> (conv=>whnf)) | (refine Fi.a ?_;conv=>whnf) | (refine Ob.b ?_;conv=>whnf)
          all_goals first | exact ⟨rfl, ⟨k + 1, by omega, by omega⟩, Lf, by simp only; omega⟩ | (exfalso; clear hlt he hst hx0 hx1 hx3 hx4 hn0 hgh hfull; simp_all; done)
        | false =>
          by_cases hl0 : (l.length : Int) = 0
          · have e := hx2 hl0
            conv => whnf
            repeat' first | ((first | refine Ob.a ?_ | refine Sp.tt ?_ | refine Sp.ff ?_ | refine Sp.yes ?_ | refine Sp.no ?_ | refine Sp.nyes ?_ | refine Sp.nno ?_);conv=>whnf) | (refine Sp.byes ?_;conv=>whnf) | (refine Sp.bno ?_;conv=>whnf) | (refine Sp.ne (fun hc => ?_) (fun hc => ?_) <;> (conv=>whnf)) | (refine Sp.dec (fun hc => ?_) (fun hc => ?_) <;> (conv=>whnf)) | (refine Sp.ndec (fun hc => ?_) (fun hc => ?_) <;> (conv=>whnf)) | (refine Sp.mk (fun hc => ?_) (fun hc => ?_) <;> (conv=>whnf)) | (refine Fi.a ?_;conv=>whnf) | (refine Ob.b ?_;conv=>whnf)
            all_goals first | exact ⟨rfl, ⟨k + 1, by omega, by omega⟩, Lf, by simp only; omega⟩ | (exfalso; clear hlt he hst hx0 hx1 hx3 hx4 hn0 hgh hfull; simp_all; done)
          by_cases hbl : 0 < (by'.length : Int)
          · obtain ⟨e1, e2, e3⟩ := hx3 rfl hl0 hbl
            have e4 := hl3 hl0 hbl
            have f1 : 0 ≤ ((by'.getD (k % (by'.length : Int)).toNat 0 : Nat) : Int) % (l.length : Int) := Int.emod_nonneg _ (by omega)
            have f2 : ((by'.getD (k % (by'.length : Int)).toNat 0 : Nat) : Int) % (l.length : Int) < l.length := Int.emod_lt_of_pos _ (by omega)
            have f3 : 0 ≤ k % (by'.length : Int) := Int.emod_nonneg _ (by omega)
            have f4 : k % (by'.length : Int) < by'.length := Int.emod_lt_of_pos _ (by omega)
            have f6 : by'.getD (k % (by'.length : Int)).toNat 0 < 256 := hby _ (getD_mem (by omega) 0)
            rw [← e4] at e1 e2 e3
            have f5 := shl20 e2 e3
            conv => whnf
            repeat' first | ((first | refine Ob.a ?_ | refine Sp.tt ?_ | refine Sp.ff ?_ | refine Sp.yes ?_ | refine Sp.no ?_ | refine Sp.nyes ?_ | refine Sp.nno ?_);conv=>whnf) | (refine Sp.byes ?_;conv=>whnf) | (refine Sp.bno ?_;conv=>whnf) | (refine Sp.ne (fun hc => ?_) (fun hc => ?_) <;> (conv=>whnf)) | (refine Sp.dec (fun hc => ?_) (fun hc => ?_) <;> (conv=>whnf)) | (refine Sp.ndec (fun hc => ?_) (fun hc => ?_) <;> (conv=>whnf)) | (refine Sp.mk (fun hc => ?_) (fun hc => ?_) <;> (conv=>whnf)) | (refine Fi.a ?_;conv=>whnf) | (refine Ob.b ?_;conv=>whnf)
            all_goals first | exact ⟨rfl, ⟨k + 1, by omega, by omega⟩, Lf, by simp only; omega⟩ | (exfalso; clear hlt he hst hx0 hx1 hx3 hx4 hn0 hgh hfull; simp_all; done)
          · obtain ⟨e1, e2, e3⟩ := hx4 rfl hl0 hbl
            have e4 := hl4 hl0 hbl
            have f1 : 0 ≤ (0 : Int) % (l.length : Int) := Int.emod_nonneg _ (by omega)
            have f2 : (0 : Int) % (l.length : Int) < l.length := Int.emod_lt_of_pos _ (by omega)
            rw [← e4] at e1 e2 e3
            have f5 := shl20 e2 e3
            conv => whnf
            repeat' first | ((first | refine Ob.a ?_ | refine Sp.tt ?_ | refine Sp.ff ?_ | refine Sp.yes ?_ | refine Sp.no ?_ | refine Sp.nyes ?_ | refine Sp.nno ?_);conv=>whnf) | (refine Sp.byes ?_;conv=>whnf) | (refine Sp.bno ?_;conv=>whnf) | (refine Sp.ne (fun hc => ?_) (fun hc => ?_) <;> (conv=>whnf)) | (refine Sp.dec (fun hc => ?_) (fun hc => ?_) <;> (conv=>whnf)) | (refine Sp.ndec (fun hc => ?_) (fun hc => ?_) <;> (conv=>whnf)) | (refine Sp.mk (fun hc => ?_) (fun hc => ?_) <;> (conv=>whnf)) | (refine Fi.a ?_;conv=>whnf) | (refine Ob.b ?_;conv=>whnf)
            all_goals first | exact ⟨rfl, ⟨k + 1, by omega, by omega⟩, Lf, by simp only; omega⟩ | (exfalso; clear hlt he hst hx0 hx1 hx3 hx4 hn0 hgh hfull; simp_all; done)
      · exact Lf
    · have e := he (by omega)
      rw [← e] at hL
      repeat' first | ((first | refine Ob.a ?_ | refine Sp.tt ?_ | refine Sp.ff ?_ | refine Sp.yes ?_ | refine Sp.no ?_ | refine Sp.nyes ?_ | refine Sp.nno ?_);conv=>whnf) | (refine Sp.ne (fun hc => ?_) (fun hc => ?_) <;> (conv=>whnf)) | (refine Sp.dec (fun hc => ?_) (fun hc => ?_) <;> (conv=>whnf)) | (refine Sp.ndec (fun hc => ?_) (fun hc => ?_) <;> (conv=>whnf)) | (refine Sp.mk (fun hc => ?_) (fun hc => ?_) <;> (conv=>whnf)) | (apply Cl.go;(conv=>whnf); (first | refine Ob.call (hL) ?_);(conv=>whnf)) | (refine Fi.a ?_;conv=>whnf) | (refine Ob.b ?_;conv=>whnf)
      all_goals exact Lf
  · exact Lf
end Go.Px.Try

/-! Law5 -/
namespace Go.Px.Try
open Go Go.Proofs Go.Px
set_option maxRecDepth 100000
def optN (r : Row) : Int := (leastP r).1
structure Sound (r : Row) : Prop where
  ok : RowOk r
  ex : ∃ S, E r S
  err : rowError r = 0
  fnd : (leastP r).2 = true
theorem sound_of {r : Row} (h : rowError r = 0) : Sound r := by
  obtain ⟨hr, hS⟩ := rowError_ok.1 h
  exact ⟨hr, hS, h, (leastP_ok hr).1.2 hS⟩
theorem sound_mk {r : Row} (hr : RowOk r) {S : Nat → Bool} (hS : E r S) : Sound r := sound_of (rowError_ok.2 ⟨hr, S, hS⟩)
theorem Sound.min {r : Row} (h : Sound r) : IsMin r (inL []) noB (optN r) := (leastP_ok h.ok).2 h.fnd
theorem Sound.le {r : Row} (h : Sound r) {S : Nat → Bool} (hS : E r S) : optN r ≤ totR r S := h.min.low S (fun i hi => by cases hi) (fun _ _ => rfl) hS
theorem Sound.opt {r : Row} (h : Sound r) {S : Nat → Bool} : Opt r S ↔ E r S ∧ totR r S = optN r := opt_iff h.min
theorem optN_is {r : Row} (h : Sound r) {T : Nat → Bool} (hT : E r T) (hl : ∀ S, E r S → totR r T ≤ totR r S) : optN r = totR r T := by
  obtain ⟨S, _, _, h3, h4⟩ := h.min.att
  have h1 := h.le hT
  have h2 := hl S h3
  omega
theorem Sound.att {r : Row} (h : Sound r) : ∃ T, E r T ∧ totR r T = optN r ∧ ∀ i, T i = true → i < r.lots.length := by
  obtain ⟨S, _, h2, h3, h4⟩ := h.min.att
  exact ⟨S, h3, h4, fun i hi => (h2 i hi).2⟩
theorem Sound.best {r : Row} (h : Sound r) : ∃ T, Opt r T ∧ lotsPR r = (lst r.lots.length T, 0) ∧ ∀ l, OptL r l → lessL l (lst r.lots.length T) = false := by
  obtain ⟨S, hS⟩ := h.ex
  obtain ⟨T, hT, e⟩ := head_opt hS
  obtain ⟨_, _, h3⟩ := bestL_spec hS
  refine ⟨T, hT, ?_, fun l hl => by rw [← e]; exact h3 l hl⟩
  rw [lotsPR_eq]; unfold lotsR
  rw [if_neg (not_not_intro h.err), ← e, headD_getD]
theorem totR_rng {r : Row} (hr : RowOk r) (S : Nat → Bool) : 0 ≤ totR r S ∧ totR r S ≤ 400 := by
  have := tot_bound (z := zOf r) (S := S) (b := 40) (by omega) r.lots.length fun i _ => ⟨by have := zOf_pos hr i; omega, zOf_le hr i⟩
  have h10 := hr.l10
  unfold totR
  omega
theorem Sound.rng {r : Row} (h : Sound r) : 0 ≤ optN r ∧ optN r ≤ 400 := by
  obtain ⟨T, _, h2, _⟩ := h.att
  rw [← h2]; exact totR_rng h.ok T
theorem lst_rising (n : Nat) (S : Nat → Bool) : risingL (lst n S) n := ⟨fun x hx => by obtain ⟨i, hi, _, rfl⟩ := mem_lst.1 hx; omega, lst_inc _ _⟩
theorem checkLots_E {r : Row} (hr : RowOk r) {S : Nat → Bool} (hS : E r S) : checkLotsR r (lst r.lots.length S) = (totR r S, 0) := by
  unfold checkLotsR
  rw [if_neg (by rw [checkRow_ok.2 hr]; simp), if_neg (not_not_intro (lst_rising _ _)), if_neg (not_not_intro (explL_lst.2 hS)), callsL_lst]
  rfl
theorem Sound.prices {r : Row} (h : Sound r) : pricesPR r = (pricesP r, 0) ∧ Right r (pricesP r) ∧ checkPricesR r (pricesP r) = (optN r, 0) := by
  obtain ⟨h1, h2⟩ := prices_ok h.ok h.fnd
  refine ⟨if_neg (not_not_intro h.err), h1, ?_⟩
  have h3 := (checkPricesR_right h.ok).2 h1
  unfold checkPricesR at h3 ⊢
  rw [if_neg (by rw [checkRow_ok.2 h.ok]; simp), if_neg (not_not_intro h1.len), if_neg (not_not_intro h1.rng), if_neg (not_not_intro h1.lots), h2]
  rfl
theorem Sound.least {r : Row} (h : Sound r) : leastPR r = (optN r, 0) := if_neg (not_not_intro h.err)
set_option maxHeartbeats 8000000 in
theorem least_spec {r : Row} (h : Sound r) : Fn Try.prog 45 [rowD r] (tpl [int (optN r), bool true]) := by
  have h10 := h.ok.l10
  have h12 := h.ok.w12
  have hl1 : r.lots.length < 1000000 := by omega
  have hl2 : r.weak.length < 1000000 := by omega
  have a1 := LeastP_spec r hl1 hl2
  have a2 := LotsP_spec r hl1 hl2
  have a3 := PricesP_spec r hl1 hl2
  obtain ⟨U, hT, e, _⟩ := h.best
  obtain ⟨p1, p2, p3⟩ := h.prices
  have hT2 := h.opt.1 hT
  have hll := lst_length_le r.lots.length U
  have hpl := p2.len
  rw [h.least] at a1
  rw [e] at a2
  rw [p1] at a3
  have b1 := CheckLotsP_spec r (lst r.lots.length U) hl1 hl2 (by omega)
  have b2 := CheckLots_spec r (lst r.lots.length U) hl1 hl2 (by omega)
  rw [checkLots_E h.ok hT2.1, hT2.2] at b1 b2
  have b3 := CheckPricesP_spec r (pricesP r) hl1 hl2 (by omega)
  have b4 := CheckPrices_spec r (pricesP r) hl1 hl2 (by omega)
  rw [p3] at b3 b4
  have c1 := long_spec (lst r.lots.length U)
  have c2 := long_spec (pricesP r)
  rw [decide_eq_false (by omega)] at c1 c2
  have hrng := h.rng
  generalize lst r.lots.length U = l at *
  generalize pricesP r = p at *
  generalize optN r = v at *
  refine Fn.of_ex (cuts := []) tys hM Try.func45 rfl Try.call45 rfl ?_
  show exC Try.prog T [] _ false none 0 (entry 108 [rowD r]) (finQ T [ResultVar.tmp 2, ResultVar.tmp 3] _)
  conv => whnf
  repeat' first | ((first | refine Ob.a ?_ | refine Sp.tt ?_ | refine Sp.ff ?_ | refine Sp.yes ?_ | refine Sp.no ?_ | refine Sp.nyes ?_ | refine Sp.nno ?_);conv=>whnf) | (refine Sp.ne (fun hc => ?_) (fun hc => ?_) <;> (conv=>whnf)) | (refine Sp.dec (fun hc => ?_) (fun hc => ?_) <;> (conv=>whnf)) | (refine Sp.ndec (fun hc => ?_) (fun hc => ?_) <;> (conv=>whnf)) | (refine Sp.mk (fun hc => ?_) (fun hc => ?_) <;> (conv=>whnf)) | (apply Cl.go;(conv=>whnf); (first | refine Ob.call (a1) ?_ | refine Ob.call (a2) ?_ | refine Ob.call (a3) ?_ | refine Ob.call (b1) ?_ | refine Ob.call (b2) ?_ | refine Ob.call (b3) ?_ | refine Ob.call (b4) ?_ | refine Ob.call (c1) ?_ | refine Ob.call (c2) ?_);(conv=>whnf)) | (refine Fi.a ?_;conv=>whnf) | (refine Ob.b ?_;conv=>whnf)
  all_goals exact Lf
end Go.Px.Try

/-! FrP -/
namespace Go.Px.Try
open Go Go.Proofs Go.Px
theorem own : ownKnob Try.prog.godebug = none := by kernel_rfl
theorem laidOut : laidOutB Try.prog = true := by kernel_rfl
def I64 (n : Int) : Prop := (Lit.int .i64 n).wf = true
theorem I64_rng {n : Int} (h : I64 n) : -9223372036854775808 ≤ n ∧ n ≤ 9223372036854775807 := by
  simp only [I64, Lit.wf, IntKind.min, IntKind.max, Bool.and_eq_true, decide_eq_true_eq] at h
  have h1 := h.1
  have h2 := h.2
  simp [IntKind.signed, IntKind.bits] at h1 h2
  omega
def lotG (l : Lot) : Prop := I64 l.lo ∧ I64 l.hi
def rowG (r : Row) : Prop := I64 r.pots ∧ ((∀ l ∈ r.lots, lotG l) ∧ r.lots.length ≤ maxLen) ∧ ((∀ n ∈ r.weak, I64 n) ∧ r.weak.length ≤ maxLen)
theorem opnLot : Opn false Try.prog 51 (fun l : Lot => [int l.lo, int l.hi]) lotG :=
  Opn.map (Opn.struct Try.underlying51 (by kernel_rfl) (OpnL.cons (Opn.int Try.underlying2) (OpnL.cons (Opn.int Try.underlying2) OpnL.nil))) (fun p => ⟨p.1, p.2.1⟩) fun p h => ⟨rfl, h.1, h.2.1⟩
theorem opnLot' : Opn true Try.prog 51 (fun l : Lot => [int l.lo, int l.hi]) lotG :=
  Opn.map (Opn.struct Try.underlying51 (by kernel_rfl) (OpnL.cons (Opn.int Try.underlying2) (OpnL.cons (Opn.int Try.underlying2) OpnL.nil))) (fun p => ⟨p.1, p.2.1⟩) fun p h => ⟨rfl, h.1, h.2.1⟩
theorem opnLots : Opn true Try.prog 22 (fun l : List Lot => [slOf 2 lotD default l]) (fun l => (∀ h ∈ l, lotG h) ∧ l.length ≤ maxLen) :=
  Opn.slice (k := 2) Try.underlying22 (by kernel_rfl) (by decide) (fun _ => rfl) (fun a x hx => by simp at hx; rcases hx with rfl | rfl <;> trivial) default opnLot
theorem opnInts : Opn true Try.prog 23 (fun l : List Int => [ints l]) (fun l => (∀ n ∈ l, I64 n) ∧ l.length ≤ maxLen) :=
  Opn.slice (k := 1) Try.underlying23 (by kernel_rfl) (by decide) (fun _ => rfl) (fun a x hx => by simp at hx; rcases hx with rfl; trivial) 0 (Opn.int Try.underlying3)
theorem opnRow : Opn true Try.prog 25 rowL rowG :=
  Opn.map (Opn.struct Try.underlying25 (by kernel_rfl) (OpnL.cons (Opn.int Try.underlying3) (OpnL.cons opnLots (OpnL.cons opnInts OpnL.nil))))
    (fun p => ⟨p.1, p.2.1, p.2.2.1⟩) fun p h => ⟨rfl, h.1, h.2.1, h.2.2.1⟩
set_option maxRecDepth 100000 in
/-- The statement's row. -/
theorem row_arg {H : Type} {enc : TypeId × Value → H} {w : World} {base : Nat} {v : Value} {d : DataW H} {ps : List MemPlace} (ht : DataW.Trod enc Try.prog w 0 (fun _ => true) true 25 v d ps) (hv : Value.okWide Try.prog w .any base 25 v) :
    ∃ r : Row, rowG r ∧ Rep (All w) w (rowD r) v := by
  simp only [Value.okWide, Try.underlying25] at hv
  obtain ⟨cs, rfl, _, hrow⟩ := hv
  obtain ⟨m, hg, hc⟩ := Opn.arg opnRow ht fun _ => plain_row hrow
  exact ⟨m, hg, Cells.st hc⟩
set_option maxRecDepth 100000 in
theorem lot_arg {H : Type} {enc : TypeId × Value → H} {w : World} {base : Nat} {v : Value} {d : DataW H} {ps : List MemPlace} (ht : DataW.Trod enc Try.prog w 0 (fun _ => true) true 51 v d ps) (hv : Value.okWide Try.prog w .any base 51 v) :
    ∃ l : Lot, lotG l ∧ Rep (All w) w (lotD l) v := by
  simp only [Value.okWide, Try.underlying51] at hv
  obtain ⟨cs, rfl, _, hrow⟩ := hv
  obtain ⟨m, hg, hc⟩ := Opn.arg opnLot' ht fun _ => plain_row hrow
  exact ⟨m, hg, Cells.st hc⟩
set_option maxRecDepth 100000 in
theorem ints_arg {H : Type} {enc : TypeId × Value → H} {w : World} {base : Nat} {v : Value} {d : DataW H} {ps : List MemPlace} (ht : DataW.Trod enc Try.prog w 0 (fun _ => true) true 23 v d ps) (hv : Value.okWide Try.prog w .any base 23 v) :
    ∃ l : List Int, ((∀ n ∈ l, I64 n) ∧ l.length ≤ maxLen) ∧ Rep (All w) w (ints l) v := by
  have hs := plain_slice Try.underlying23 hv
  obtain ⟨a, len, cap, rfl⟩ := Go.WideShapes.okWide_slice Try.underlying23 hv
  obtain ⟨l, hg, hc⟩ := Opn.arg opnInts ht fun _ => hs
  exact ⟨l, hg, hc.one rfl⟩
set_option maxRecDepth 100000 in
theorem int_arg {H : Type} {enc : TypeId × Value → H} {w : World} {base : Nat} {v : Value} {d : DataW H} {ps : List MemPlace} (ht : DataW.Trod enc Try.prog w 0 (fun _ => true) true 3 v d ps) (hv : Value.okWide Try.prog w .any base 3 v) :
    ∃ n : Int, (-9223372036854775808 ≤ n ∧ n ≤ 9223372036854775807) ∧ Rep (All w) w (int n) v := by
  obtain ⟨n, hg, hc⟩ := Opn.arg (Opn.int (q := false) Try.underlying3) ht fun h => by cases h
  obtain ⟨k, rfl⟩ := Go.WideShapes.okWide_int Try.underlying3 hv
  exact ⟨n, I64_rng hg, hc.one rfl⟩
set_option maxRecDepth 100000 in
theorem u16_arg {H : Type} {enc : TypeId × Value → H} {w : World} {base : Nat} {v : Value} {d : DataW H} {ps : List MemPlace} (ht : DataW.Trod enc Try.prog w 0 (fun _ => true) true 47 v d ps) (hv : Value.okWide Try.prog w .any base 47 v) :
    ∃ n : Nat, n < 65536 ∧ Rep (All w) w (u16 n) v := by
  obtain ⟨n, hg, hc⟩ := Opn.arg (Opn.int (q := false) Try.underlying47) ht fun h => by cases h
  obtain ⟨k, rfl⟩ := Go.WideShapes.okWide_int Try.underlying47 hv
  have hr := hc.one rfl
  simp only [Lit.wf, IntKind.min, IntKind.max, Bool.and_eq_true, decide_eq_true_eq] at hg
  have hn : n = (n.toNat : Int) := by have := hg.1; simp [IntKind.signed] at this; omega
  refine ⟨n.toNat, by have := hg.2; simp [IntKind.signed, IntKind.bits] at this; omega, ?_⟩
  rw [hn] at hr; exact hr
set_option maxRecDepth 100000 in
theorem u8_arg {H : Type} {enc : TypeId × Value → H} {w : World} {base : Nat} {v : Value} {d : DataW H} {ps : List MemPlace} (ht : DataW.Trod enc Try.prog w 0 (fun _ => true) true 5 v d ps) (hv : Value.okWide Try.prog w .any base 5 v) :
    ∃ n : Nat, n < 256 ∧ Rep (All w) w (u8 n) v := by
  obtain ⟨n, hg, hc⟩ := Opn.arg (Opn.int (q := false) Try.underlying5) ht fun h => by cases h
  obtain ⟨k, rfl⟩ := Go.WideShapes.okWide_int Try.underlying5 hv
  have hr := hc.one rfl
  simp only [Lit.wf, IntKind.min, IntKind.max, Bool.and_eq_true, decide_eq_true_eq] at hg
  have hn : n = (n.toNat : Int) := by have := hg.1; simp [IntKind.signed] at this; omega
  refine ⟨n.toNat, by have := hg.2; simp [IntKind.signed, IntKind.bits] at this; omega, ?_⟩
  rw [hn] at hr; exact hr
def U8 (n : Int) : Prop := (Lit.int .u8 n).wf = true
theorem U8_rng {n : Int} (h : U8 n) : 0 ≤ n ∧ n < 256 := by
  simp only [U8, Lit.wf, IntKind.min, IntKind.max, Bool.and_eq_true, decide_eq_true_eq] at h
  have h1 := h.1
  have h2 := h.2
  simp [IntKind.signed, IntKind.bits] at h1 h2
  omega
theorem opnU8s : Opn true Try.prog 42 (fun l : List Int => [slOf 1 (fun n => .v (.int .u8 n)) 0 l]) (fun l => (∀ n ∈ l, U8 n) ∧ l.length ≤ maxLen) :=
  Opn.slice (k := 1) Try.underlying42 (by kernel_rfl) (by decide) (fun _ => rfl) (fun a x hx => by simp at hx; rcases hx with rfl; trivial) 0 (Opn.int (q := false) Try.underlying5)
set_option maxRecDepth 100000 in
theorem u8s_arg {H : Type} {enc : TypeId × Value → H} {w : World} {base : Nat} {v : Value} {d : DataW H} {ps : List MemPlace} (ht : DataW.Trod enc Try.prog w 0 (fun _ => true) true 42 v d ps) (hv : Value.okWide Try.prog w .any base 42 v) :
    ∃ l : List Nat, ((∀ x ∈ l, x < 256) ∧ l.length ≤ maxLen) ∧ Rep (All w) w (u8s l) v := by
  have hs := plain_slice Try.underlying42 hv
  obtain ⟨a, len, cap, rfl⟩ := Go.WideShapes.okWide_slice Try.underlying42 hv
  obtain ⟨l, hg, hc⟩ := Opn.arg opnU8s ht fun _ => hs
  refine ⟨l.map Int.toNat, ⟨fun x hx => ?_, by rw [List.length_map]; exact hg.2⟩, ?_⟩
  · obtain ⟨y, hy, rfl⟩ := List.mem_map.1 hx
    have := U8_rng (hg.1 y hy); omega
  · have hr := hc.one rfl
    have e : u8s (l.map Int.toNat) = slOf 1 (fun n => .v (.int .u8 n)) 0 l := by
      unfold u8s slOf
      rw [List.length_map]
      congr 1
      funext i
      rw [List.getD_eq_getElem?_getD, List.getD_eq_getElem?_getD, List.getElem?_map]
      cases h : l[i]? with
      | none => rfl
      | some y =>
        have := U8_rng (hg.1 y (List.mem_of_getElem? h))
        show DV.v (.int .u8 ((y.toNat : Nat) : Int)) = .v (.int .u8 y)
        rw [Int.toNat_of_nonneg this.1]
    rw [e]; exact hr
end Go.Px.Try

/-! Law2 -/
namespace Go.Px.Try
open Go Go.Proofs Go.Px
set_option maxRecDepth 100000
/-- Lots of numbers, two for each. -/
def mkLots : List Int → List Lot
  | a :: b :: l => ⟨a, b⟩ :: mkLots l
  | _ => []
theorem mkLots_short : ∀ {l : List Int}, l.length ≤ 1 → mkLots l = []
  | [], _ => rfl
  | [_], _ => rfl
  | _ :: _ :: _, h => by simp at h
theorem mkLots_step {l : List Int} {i : Nat} (h : i + 1 < l.length) : mkLots (l.drop i) = ⟨l.getD i 0, l.getD (i + 1) 0⟩ :: mkLots (l.drop (i + 2)) := by
  rw [drop_getD 0 (show i < l.length by omega), drop_getD 0 (show i + 1 < l.length by omega)]
  rfl
def mkRow (p : Int) (w l : List Int) : Row := ⟨p, mkLots l, w⟩
def rowU (p i : Int) (w : List Int) (nx : Nat) : List Lot → List (Nat × AV) × List (Nat × Res)
  | [] => ([(8, .d (int i))], [(4, .cs true 3 (nthL [.d (int p), .d (.v (.slice none 0 0)), .d (ints w)]))])
  | y :: o => ([(8, .d (int i))], [(4, .cs true 3 (nthL [.d (int p), .ms nx 2 0 (y :: o).length, .d (ints w)])), (nx, .row true 51 2 (y :: o).length (rowOf lotD default (y :: o)))])
set_option maxHeartbeats 4000000 in
theorem Row_spec (p : Int) (w h : List Int) (hh : h.length ≤ 1000) : Fn Try.prog 85 [int p, ints w, ints h] (rowD (mkRow p w h)) := by
  have hm : rowD (mkRow p w h) = st [int p, slOf 2 lotD default (mkLots h), ints w] := rfl
  rw [hm]
  generalize hr : mkLots h = r
  refine Fn.of_ex (cuts := []) tys hM Try.func85 rfl Try.call85 rfl ?_
  show exC Try.prog T [] _ false none 0 (entry 35 [int p, ints w, ints h]) (finQ T [ResultVar.cell 6 25] _)
  conv => whnf
  repeat' first | ((first | refine Ob.a ?_ | refine Sp.tt ?_ | refine Sp.ff ?_ | refine Sp.yes ?_ | refine Sp.no ?_ | refine Sp.nyes ?_ | refine Sp.nno ?_);conv=>whnf) | (refine Sp.ne (fun hc => ?_) (fun hc => ?_) <;> (conv=>whnf)) | (refine Sp.dec (fun hc => ?_) (fun hc => ?_) <;> (conv=>whnf)) | (refine Sp.ndec (fun hc => ?_) (fun hc => ?_) <;> (conv=>whnf)) | (refine Sp.mk (fun hc => ?_) (fun hc => ?_) <;> (conv=>whnf)) | (refine Fi.a ?_;conv=>whnf) | (refine Ob.b ?_;conv=>whnf)
  refine Lp.snap [0, 1, 2, 6, 7, 34] 40 ?_
  (conv=>whnf)
  refine LpB.go 35 ({p : Int × List Lot // (0 ≤ p.1 ∧ p.1 ≤ h.length + 1) ∧ p.2 ++ mkLots (h.drop p.1.toNat) = r ∧ p.2.length ≤ p.1}) 1 (fun ⟨(i, o), _⟩ nx => rowU p i w nx o) (fun p => (h.length + 3 - p.1.1).toNat) (⟨(0, []), ⟨by simp, by simp only; omega⟩, hr, by simp⟩) ?_ ?_ (hl := by rintro ⟨⟨i, o⟩, _⟩; cases o <;> rfl)
  · rintro ⟨⟨i, o⟩, ⟨hi0, hi⟩, hinv, hol⟩
    simp only at hi0 hi hinv hol
    have hs : i + 1 < h.length → (o ++ [⟨h.getD i.toNat 0, h.getD (i + 1).toNat 0⟩]) ++ mkLots (h.drop (i + 2).toNat) = r := fun hlt => by
      rw [← hinv, mkLots_step (i := i.toNat) (by omega), show (i + 2).toNat = i.toNat + 2 by omega, show (i + 1).toNat = i.toNat + 1 by omega, List.append_assoc]; rfl
    have he : ¬ i + 1 < h.length → o = r := fun hlt => by rw [← hinv, mkLots_short (by rw [List.length_drop]; omega)]; simp
    cases o with
    | nil =>
      conv => whnf
      repeat' first | ((first | refine Ob.a ?_ | refine Sp.tt ?_ | refine Sp.ff ?_ | refine Sp.yes ?_ | refine Sp.no ?_ | refine Sp.nyes ?_ | refine Sp.nno ?_);conv=>whnf) | (refine Sp.ne (fun hc => ?_) (fun hc => ?_) <;> (conv=>whnf)) | (refine Sp.dec (fun hc => ?_) (fun hc => ?_) <;> (conv=>whnf)) | (refine Sp.ndec (fun hc => ?_) (fun hc => ?_) <;> (conv=>whnf)) | (refine Sp.mk (fun hc => ?_) (fun hc => ?_) <;> (conv=>whnf)) | (refine Fi.a ?_;conv=>whnf) | (refine Ob.b ?_;conv=>whnf)
      · have e := hs (by omega)
        refine ⟨rfl, ⟨(i + 2, [⟨h.getD i.toNat 0, h.getD (i + 1).toNat 0⟩]), ⟨by simp only; omega, by simp only; omega⟩, e, by simp only [List.length_singleton]; omega⟩, ?_, by simp only; omega⟩
        repeat' first | (refine Edge.fast ?_) | ((conv=>whnf); first | exact True.intro | (refine And.intro ?_ ?_) | exact rfl | exact Nat.le_of_eq (Nat.zero_add _) | exact ImpS.refl _ | ((conv => arg 1; whnf); first | exact ImpS.refl _ | (refine ImpS.nil_eq ?_) | (refine ImpS.vnil_eq ?_) | (refine ImpS.row ?_) | (refine ImpS.rowN ?_ ?_) | (refine ImpS.sl_eq ?_) | (refine ImpS.expl rfl ?_)) | (refine row_snoc' ?_) | (apply row_upd) | exact cimp_none | exact cimp_same | exact List.not_mem_nil | exact DImp.refl _) | exact rfl | (refine And.intro ?_ ?_) | exact ImpS.refl _
        all_goals first | omega | refine row_first ?_
        repeat' first | (refine Edge.fast ?_) | ((conv=>whnf); first | exact True.intro | (refine And.intro ?_ ?_) | exact rfl | exact Nat.le_of_eq (Nat.zero_add _) | exact ImpS.refl _ | ((conv => arg 1; whnf); first | exact ImpS.refl _ | (refine ImpS.nil_eq ?_) | (refine ImpS.vnil_eq ?_) | (refine ImpS.row ?_) | (refine ImpS.rowN ?_ ?_) | (refine ImpS.sl_eq ?_) | (refine ImpS.expl rfl ?_)) | (refine row_snoc' ?_) | (apply row_upd) | exact cimp_none | exact cimp_same | exact List.not_mem_nil | exact DImp.refl _) | exact rfl | (refine And.intro ?_ ?_) | exact ImpS.refl _
      · have e := he (by omega)
        exact Lf
    | cons y o =>
      conv => whnf
      repeat' first | ((first | refine Ob.a ?_ | refine Sp.tt ?_ | refine Sp.ff ?_ | refine Sp.yes ?_ | refine Sp.no ?_ | refine Sp.nyes ?_ | refine Sp.nno ?_);conv=>whnf) | (refine Sp.ne (fun hc => ?_) (fun hc => ?_) <;> (conv=>whnf)) | (refine Sp.dec (fun hc => ?_) (fun hc => ?_) <;> (conv=>whnf)) | (refine Sp.ndec (fun hc => ?_) (fun hc => ?_) <;> (conv=>whnf)) | (refine Sp.mk (fun hc => ?_) (fun hc => ?_) <;> (conv=>whnf)) | (refine Fi.a ?_;conv=>whnf) | (refine Ob.b ?_;conv=>whnf)
      · have e := hs (by omega)
        refine ⟨rfl, ⟨(i + 2, y :: o ++ [⟨h.getD i.toNat 0, h.getD (i + 1).toNat 0⟩]), ⟨by simp only; omega, by simp only; omega⟩, e, by simp at hol ⊢; omega⟩, ?_, by simp only; omega⟩
        repeat' first | (refine Edge.fast ?_) | ((conv=>whnf); first | exact True.intro | (refine And.intro ?_ ?_) | exact rfl | exact Nat.le_of_eq (Nat.zero_add _) | exact ImpS.refl _ | ((conv => arg 1; whnf); first | exact ImpS.refl _ | (refine ImpS.nil_eq ?_) | (refine ImpS.vnil_eq ?_) | (refine ImpS.row ?_) | (refine ImpS.rowN ?_ ?_) | (refine ImpS.sl_eq ?_) | (refine ImpS.expl rfl ?_)) | (refine row_snoc' ?_) | exact MImp.refl _ | exact cimp_none | exact cimp_same | exact List.not_mem_nil | exact DImp.refl _) | exact rfl | (refine And.intro ?_ ?_) | exact ImpS.refl _
        all_goals first | (simp; done) | refine row_snoc' (l := y :: o) ?_
        repeat' first | (refine Edge.fast ?_) | ((conv=>whnf); first | exact True.intro | (refine And.intro ?_ ?_) | exact rfl | exact Nat.le_of_eq (Nat.zero_add _) | exact ImpS.refl _ | ((conv => arg 1; whnf); first | exact ImpS.refl _ | (refine ImpS.nil_eq ?_) | (refine ImpS.vnil_eq ?_) | (refine ImpS.row ?_) | (refine ImpS.rowN ?_ ?_) | (refine ImpS.sl_eq ?_) | (refine ImpS.expl rfl ?_)) | (refine row_snoc' ?_) | (apply row_upd) | exact cimp_none | exact cimp_same | exact List.not_mem_nil | exact DImp.refl _) | exact rfl | (refine And.intro ?_ ?_) | exact ImpS.refl _
      · have e := he (by omega)
        exact Lf
  · exact Lf
def fiveL : List Int := [0, 7, 5, 9, 8, 15, 14, 19, 10, 11]
def twoL : List Int := [0, 7, 8, 12]
def R5 : Row := mkRow 20 [3, 6, 9, 15] fiveL
def R2 : Row := mkRow 20 [3, 6, 9, 15] twoL
theorem five_spec : Fn Try.prog 53 [] (rowD R5) := by
  have hm := Row_spec 20 [3, 6, 9, 15] fiveL (by simp [fiveL])
  have h1 := of_spec [3, 6, 9, 15]
  refine Fn.of_ex (cuts := []) tys hM Try.func53 rfl Try.call53 rfl ?_
  show exC Try.prog T [] _ false none 0 (entry 5 []) (finQ T [ResultVar.cell 0 25] _)
  conv => whnf
  repeat' first | ((first | refine Ob.a ?_ | refine Sp.tt ?_ | refine Sp.ff ?_ | refine Sp.yes ?_ | refine Sp.no ?_ | refine Sp.nyes ?_ | refine Sp.nno ?_);conv=>whnf) | (refine Sp.ne (fun hc => ?_) (fun hc => ?_) <;> (conv=>whnf)) | (refine Sp.dec (fun hc => ?_) (fun hc => ?_) <;> (conv=>whnf)) | (refine Sp.ndec (fun hc => ?_) (fun hc => ?_) <;> (conv=>whnf)) | (refine Sp.mk (fun hc => ?_) (fun hc => ?_) <;> (conv=>whnf)) | (apply Cl.go;(conv=>whnf); (first | refine Ob.call (h1) ?_ | refine Ob.call (hm) ?_);(conv=>whnf)) | (refine Fi.a ?_;conv=>whnf) | (refine Ob.b ?_;conv=>whnf)
  all_goals exact Lf
theorem two_spec : Fn Try.prog 54 [] (rowD R2) := by
  have hm := Row_spec 20 [3, 6, 9, 15] twoL (by simp [twoL])
  have h1 := of_spec [3, 6, 9, 15]
  refine Fn.of_ex (cuts := []) tys hM Try.func54 rfl Try.call54 rfl ?_
  show exC Try.prog T [] _ false none 0 (entry 5 []) (finQ T [ResultVar.cell 0 25] _)
  conv => whnf
  repeat' first | ((first | refine Ob.a ?_ | refine Sp.tt ?_ | refine Sp.ff ?_ | refine Sp.yes ?_ | refine Sp.no ?_ | refine Sp.nyes ?_ | refine Sp.nno ?_);conv=>whnf) | (refine Sp.ne (fun hc => ?_) (fun hc => ?_) <;> (conv=>whnf)) | (refine Sp.dec (fun hc => ?_) (fun hc => ?_) <;> (conv=>whnf)) | (refine Sp.ndec (fun hc => ?_) (fun hc => ?_) <;> (conv=>whnf)) | (refine Sp.mk (fun hc => ?_) (fun hc => ?_) <;> (conv=>whnf)) | (apply Cl.go;(conv=>whnf); (first | refine Ob.call (h1) ?_ | refine Ob.call (hm) ?_);(conv=>whnf)) | (refine Fi.a ?_;conv=>whnf) | (refine Ob.b ?_;conv=>whnf)
  all_goals exact Lf
end Go.Px.Try

/-! Law3 -/
namespace Go.Px.Try
open Go Go.Proofs Go.Px
set_option maxRecDepth 100000
theorem r5l : R5.lots.length < 1000000 := by decide
theorem r5w : R5.weak.length < 1000000 := by decide
theorem r2l : R2.lots.length < 1000000 := by decide
theorem r2w : R2.weak.length < 1000000 := by decide
theorem w_cl (l : List Int) (x : Int × Int) (hl : l.length < 1000000) (h : checkLotsR R5 l = x) : Fn Try.prog 19 [rowD R5, ints l] (tpl [int x.1, int x.2]) := h ▸ CheckLotsP_spec R5 l r5l r5w hl
theorem w_clr (l : List Int) (x : Int × Int) (hl : l.length < 1000000) (h : checkLotsR R5 l = x) : Fn Try.prog 20 [rowD R5, ints l] (tpl [int x.1, int x.2]) := h ▸ CheckLots_spec R5 l r5l r5w hl
theorem w_cp (l : List Int) (x : Int × Int) (hl : l.length < 1000000) (h : checkPricesR R5 l = x) : Fn Try.prog 32 [rowD R5, ints l] (tpl [int x.1, int x.2]) := h ▸ CheckPricesP_spec R5 l r5l r5w hl
theorem w_cpr (l : List Int) (x : Int × Int) (hl : l.length < 1000000) (h : checkPricesR R5 l = x) : Fn Try.prog 33 [rowD R5, ints l] (tpl [int x.1, int x.2]) := h ▸ CheckPrices_spec R5 l r5l r5w hl
theorem w_ca (l : List Int) (x : Int) (hl : l.length < 1000000) (h : checkApartR R5 l = x) : Fn Try.prog 41 [rowD R5, ints l] (int x) := h ▸ CheckApartP_spec R5 l r5l r5w hl
theorem w_fe (a : Int) (x : List Int × Int) (h : fellowsR R5 a = x) : Fn Try.prog 37 [rowD R5, int a] (tpl [ints x.1, int x.2]) := h ▸ FellowsP_spec R5 a r5l r5w
theorem w_least : Fn Try.prog 26 [rowD R5] (tpl [int 16, int 0]) := by
  have h := LeastP_spec R5 r5l r5w
  rwa [show leastPR R5 = (16, 0) by decide +kernel] at h
theorem w_lots : Fn Try.prog 28 [rowD R5] (tpl [ints [0, 2], int 0]) := by
  have h := LotsP_spec R5 r5l r5w
  rwa [show lotsPR R5 = ([0, 2], 0) by decide +kernel] at h
theorem w_lots2 : Fn Try.prog 28 [rowD R2] (tpl [ints [], int 22]) := by
  have h := LotsP_spec R2 r2l r2w
  rwa [show lotsPR R2 = ([], 22) by decide +kernel] at h
theorem w_unk2 : Fn Try.prog 21 [rowD R2] (tpl [ints [15], int 0]) := by
  have h := UnknownP_spec R2 r2l r2w
  rwa [show unknownRR R2 = ([15], 0) by decide +kernel] at h
theorem w_unk5 : Fn Try.prog 21 [rowD R5] (tpl [ints [], int 0]) := by
  have h := UnknownP_spec R5 r5l r5w
  rwa [show unknownRR R5 = ([], 0) by decide +kernel] at h
theorem w_prices : Fn Try.prog 34 [rowD R5] (tpl [ints (pricesPR R5).1, int 0]) := by
  have h := PricesP_spec R5 r5l r5w
  rwa [show (pricesPR R5).2 = 0 by decide +kernel] at h
theorem srt_two (a b : Int) : srtL [a, b] = if a ≤ b then [a, b] else [b, a] := by
  unfold srtL
  by_cases h : a ≤ b <;> simp [List.mergeSort, List.MergeSort.Internal.splitInTwo, h]
theorem r5few : fewestP R5 = [0, 2] ∨ True := .inr trivial
theorem w_apart : Fn Try.prog 35 [rowD R5] (tpl [ints [3, 9], int 0]) := by
  have h := ApartP_spec R5 r5l r5w
  rwa [show apartR R5 = ([3, 9], 0) by decide +kernel] at h
theorem w_blame : Fn Try.prog 30 [rowD R5] (tpl [ints [2, 0, 2, 0, 0], int 0]) := by
  have h := BlameP_spec R5 r5l r5w
  rwa [show blamePR R5 = ([2, 0, 2, 0, 0], 0) by decide +kernel] at h
theorem ints_same (l : List Int) (h : l.length < 1000000) : Fn Try.prog 25 [ints l, ints l] (bool true) := by
  have := Ints_spec l l h
  rwa [decide_eq_true rfl] at this
theorem r5ok : RowOk R5 := checkRow_ok.1 (by decide +kernel)
theorem r5e : ∃ S, E R5 S := (rowError_ok.1 (by decide +kernel)).2
theorem w_few : ∃ l : List Int, l.length = 2 ∧ Fn Try.prog 39 [rowD R5] (tpl [ints l, int 0]) ∧ ∃ x, Fn Try.prog 20 [rowD R5, ints l] (tpl [int x, int 0]) := by
  have h := FewestP_spec R5 r5l r5w
  have he : rowError R5 = 0 := by decide +kernel
  obtain ⟨S, hS, h1, h2⟩ := fewest_ok r5ok r5e
  have h3 : (apF R5 none R5.weak).length = 2 := by decide +kernel
  refine ⟨fewestP R5, by omega, ?_, (checkLotsR R5 (fewestP R5)).1, ?_⟩
  · rw [show fewestPR R5 = (fewestP R5, 0) by unfold fewestPR; rw [if_neg (by omega)]] at h
    exact h
  · have h4 := CheckLots_spec R5 (fewestP R5) r5l r5w (by omega)
    rwa [show (checkLotsR R5 (fewestP R5)).2 = 0 by
      unfold checkLotsR
      rw [if_neg (by rw [checkRow_ok.2 r5ok]; simp), if_neg, if_neg]
      · rw [h1]; exact fun h => h (explL_lst.2 hS)
      · rw [h1]; exact fun h => h ⟨fun x hx => by obtain ⟨i, hi, _, rfl⟩ := mem_lst.1 hx; omega, lst_inc _ _⟩] at h4
set_option maxHeartbeats 16000000 in
theorem Works_spec : Fn Try.prog 18 [] (bool true) := by
  have hf := five_spec
  have ht := two_spec
  have h1 := w_cl [0, 2] (16, 0) (by simp) (by decide +kernel)
  have h2 := w_cl [0, 1, 3] (19, 0) (by simp) (by decide +kernel)
  have h3 := w_cl [0, 1] (0, 22) (by simp) (by decide +kernel)
  have h4 := w_cl [2, 0] (0, 2) (by simp) (by decide +kernel)
  have h5 := w_least
  have h6 := w_lots
  have h7 := w_lots2
  have h8 := w_unk2
  have h9 := w_cp [8, 0, 5, 3] (16, 0) (by simp) (by decide +kernel)
  have h10 := w_cp [8, 0, 0, 8] (0, 14) (by simp) (by decide +kernel)
  have h11 := w_cp [8, 0, 0] (0, 15) (by simp) (by decide +kernel)
  have h12 := w_cp [-1, 0, 0, 0] (0, 3) (by simp) (by decide +kernel)
  have h13 := w_prices
  have h14 := w_cpr (pricesPR R5).1 (16, 0) (by decide +kernel) (by decide +kernel)
  obtain ⟨f, f1, h15, y, h16⟩ := w_few
  have h17 := w_apart
  have h18 := w_ca [3, 9] 0 (by simp) (by decide +kernel)
  have h19 := w_ca [3, 6] 16 (by simp) (by decide +kernel)
  have h20 := w_ca [3, 4] 2 (by simp) (by decide +kernel)
  have h21 := w_blame
  have h22 := w_fe 16 ([14, 15, 17, 18, 19], 0) (by decide +kernel)
  have h23 := w_fe 20 ([], 2) (by decide +kernel)
  generalize R5 = r5 at *
  generalize R2 = r2 at *
  generalize (pricesPR r5).1 = q at *
  refine Fn.of_ex (cuts := []) tys hM Try.func18 rfl Try.call18 rfl ?_
  show exC Try.prog T [] _ false none 0 (entry 321 []) (finQ T [ResultVar.tmp 0] _)
  conv => whnf
  repeat' first | ((first | refine Ob.a ?_ | refine Sp.tt ?_ | refine Sp.ff ?_ | refine Sp.yes ?_ | refine Sp.no ?_ | refine Sp.nyes ?_ | refine Sp.nno ?_);conv=>whnf) | (refine Sp.ne (fun hc => ?_) (fun hc => ?_) <;> (conv=>whnf)) | (refine Sp.dec (fun hc => ?_) (fun hc => ?_) <;> (conv=>whnf)) | (refine Sp.ndec (fun hc => ?_) (fun hc => ?_) <;> (conv=>whnf)) | (refine Sp.mk (fun hc => ?_) (fun hc => ?_) <;> (conv=>whnf)) | (apply Cl.go;(conv=>whnf); (first | refine Ob.call (hf) ?_ | refine Ob.call (ht) ?_ | refine Ob.call (h1) ?_ | refine Ob.call (h2) ?_ | refine Ob.call (h3) ?_ | refine Ob.call (h4) ?_ | refine Ob.call (h5) ?_ | refine Ob.call (h6) ?_ | refine Ob.call (h7) ?_ | refine Ob.call (h8) ?_ | refine Ob.call (h9) ?_ | refine Ob.call (h10) ?_ | refine Ob.call (h11) ?_ | refine Ob.call (h12) ?_ | refine Ob.call (h13) ?_ | refine Ob.call (h14) ?_ | refine Ob.call (h15) ?_ | refine Ob.call (h16) ?_ | refine Ob.call (h17) ?_ | refine Ob.call (h18) ?_ | refine Ob.call (h19) ?_ | refine Ob.call (h20) ?_ | refine Ob.call (h21) ?_ | refine Ob.call (h22) ?_ | refine Ob.call (h23) ?_ | refine Ob.call (of_spec [0, 2]) ?_ | refine Ob.call (of_spec [0, 1, 3]) ?_ | refine Ob.call (of_spec [0, 1]) ?_ | refine Ob.call (of_spec [2, 0]) ?_ | refine Ob.call (of_spec [8, 0, 5, 3]) ?_ | refine Ob.call (of_spec [8, 0, 0, 8]) ?_ | refine Ob.call (of_spec [8, 0, 0]) ?_ | refine Ob.call (of_spec [-1, 0, 0, 0]) ?_ | refine Ob.call (of_spec [3, 9]) ?_ | refine Ob.call (of_spec [3, 6]) ?_ | refine Ob.call (of_spec [3, 4]) ?_ | refine Ob.call (of_spec [15]) ?_ | refine Ob.call (of_spec [2, 0, 2, 0, 0]) ?_ | refine Ob.call (of_spec [14, 15, 17, 18, 19]) ?_ | refine Ob.call (ints_same [0, 2] (by simp)) ?_ | refine Ob.call (ints_same [15] (by simp)) ?_ | refine Ob.call (ints_same [3, 9] (by simp)) ?_ | refine Ob.call (ints_same [2, 0, 2, 0, 0] (by simp)) ?_ | refine Ob.call (ints_same [14, 15, 17, 18, 19] (by simp)) ?_);(conv=>whnf)) | (refine Fi.a ?_;conv=>whnf) | (refine Ob.b ?_;conv=>whnf)
  all_goals first | exact Lf | skip
end Go.Px.Try
