/- The statement BiteNeeded: what is needed stays if left and right are exchanged, is no less with one place more, and at most one more; 1 for one place, 0 for none; Tastes is no less for one place more, and as P5.15 says. Conditions: none. -/
import Derived.Test.YtofcdpkanjiefaaJ10
import Derived.Test.YtofcdpkanjiefaaRows
set_option linter.unusedVariables false
set_option linter.unusedSimpArgs false
/-! LwNeeded -/
namespace Go.Px.Try
open Go Go.Proofs Go.Px
set_option maxRecDepth 100000
/-- The numbers of the row, and which of them. -/
def fibS (x y l : Int) : Nat → Int × Int × Int
  | 0 => (x, y, l)
  | f + 1 => fibS y (x + y) (l + 1) f
theorem fibL_step (i : Nat) : ∀ (f x y l : Nat), (∃ g, g ≤ f ∧ fibL i f x y l = l + g ∧ (∀ h, h < g → (fibS x y l h).2.1 ≤ i) ∧ (g < f → (i : Int) < (fibS x y l g).2.1))
  | 0, x, y, l => ⟨0, Nat.le_refl _, rfl, fun h hh => by omega, fun hh => by omega⟩
  | f + 1, x, y, l => by
    rw [fibL]
    by_cases h : y ≤ i
    · rw [if_pos h]
      obtain ⟨g, g1, g2, g3, g4⟩ := fibL_step i f y (x + y) (l + 1)
      refine ⟨g + 1, by omega, by omega, fun k hk => ?_, fun hk => ?_⟩
      · cases k with
        | zero => show (y : Int) ≤ i; omega
        | succ k =>
          have := g3 k (by omega)
          rw [fibS]; rw [Int.natCast_add, Int.natCast_add] at this; exact this
      · have := g4 (by omega)
        rw [fibS]; rw [Int.natCast_add, Int.natCast_add] at this; exact this
    · rw [if_neg h]
      exact ⟨0, by omega, rfl, fun k hk => by omega, fun _ => by show (i : Int) < (y : Int); omega⟩
theorem fibS_succ : ∀ (f : Nat) (x y l : Int), fibS x y l (f + 1) = ((fibS x y l f).2.1, (fibS x y l f).1 + (fibS x y l f).2.1, (fibS x y l f).2.2 + 1)
  | 0, _, _, _ => rfl
  | f + 1, x, y, l => by rw [fibS, fibS_succ f]; rfl
theorem fibS_l : ∀ (f : Nat) (x y l : Int), (fibS x y l f).2.2 = l + f
  | 0, _, _, _ => by simp [fibS]
  | f + 1, x, y, l => by rw [fibS, fibS_l f]; omega
theorem fib_big : (fibS 1 2 1 19).2.1 = 17711 := by decide
set_option maxHeartbeats 16000000 in
theorem BiteNeeded_spec (l r p : Nat) (hl : l < 256) (hr : r < 256) (hp : p < 256) : Fn Try.prog 14 [u8 l, u8 r, u8 p] (bool true) := by
  have hw := Works_spec
  obtain ⟨a, ha⟩ : ∃ a : Int, (l : Int) % 30 = a := ⟨_, rfl⟩
  obtain ⟨b, hb⟩ : ∃ b : Int, (r : Int) % 31 = b := ⟨_, rfl⟩
  obtain ⟨i, hi⟩ : ∃ i : Int, 2 + (p : Int) % 59 = i := ⟨_, rfl⟩
  have a1 : 0 ≤ a ∧ a < 30 := by omega
  have b1 : 0 ≤ b ∧ b < 31 := by omega
  have i1 : 2 ≤ i ∧ i ≤ 60 := by omega
  have n1 := NeedP_spec a b
  have n2 := NeedP_spec b a
  have n3 := NeedP_spec (a + 1) b
  have t1 := TastesP_spec i
  have t2 := TastesP_spec (i + 1)
  rw [show needR a b = (((nd a.toNat b.toNat : Nat) : Int), 0) from if_neg (by omega)] at n1
  rw [show needR b a = (((nd b.toNat a.toNat : Nat) : Int), 0) from if_neg (by omega)] at n2
  rw [show needR (a + 1) b = (((nd (a + 1).toNat b.toNat : Nat) : Int), 0) from if_neg (by omega)] at n3
  rw [show tastesR i = (((tst i.toNat : Nat) : Int), 0) from if_neg (by omega)] at t1
  rw [show tastesR (i + 1) = (((tst (i + 1).toNat : Nat) : Int), 0) from if_neg (by omega)] at t2
  obtain ⟨f1, f2, f3, f4⟩ := nd_facts (a := a.toNat) (b := b.toNat) (by omega)
  obtain ⟨g1, g2, g3⟩ := tst_facts (n := i.toNat) (by omega) (by omega)
  have f4 := f4 (by omega)
  rw [show a.toNat + 1 = (a + 1).toNat by omega] at f4
  rw [show i.toNat + 1 = (i + 1).toNat by omega] at g2 g3
  rw [← f1] at n2
  obtain ⟨q, q1, q2, q3, q4⟩ := fibL_step i.toNat 20 1 2 1
  have q5 : q < 20 := by
    rcases Nat.lt_or_ge q 20 with h | h
    · exact h
    · have := q3 19 (by omega)
      rw [show ((1 : Nat) : Int) = 1 from rfl, show ((2 : Nat) : Int) = 2 from rfl, fib_big] at this
      omega
  have q4 := q4 q5
  rw [g1, q2] at t1
  have hq2 : tst (i + 1).toNat ≤ 1 + q + 1 ∧ 1 + q ≤ tst (i + 1).toNat := by omega
  rw [show ((1 : Nat) : Int) = 1 from rfl, show ((2 : Nat) : Int) = 2 from rfl] at q3 q4
  have hone : a + b = 1 → nd a.toNat b.toNat = 1 := fun h => by
    have : (a.toNat = 0 ∧ b.toNat = 1) ∨ (a.toNat = 1 ∧ b.toNat = 0) := by omega
    rcases this with ⟨e1, e2⟩ | ⟨e1, e2⟩ <;> rw [e1, e2] <;> decide +kernel
  have hzero : nd a.toNat b.toNat = 0 ↔ a + b = 0 := ⟨fun h => by have := f2.1 h; omega, fun h => f2.2 (by omega)⟩
  clear f1 f2 g1
  generalize nd a.toNat b.toNat = m at *
  generalize nd (a + 1).toNat b.toNat = k at *
  generalize tst (i + 1).toNat = u at *
  have hsx := fun f => fibS_succ f 1 2 1
  have hsl := fun f => fibS_l f 1 2 1
  have hs0 : fibS 1 2 1 0 = (1, 2, 1) := rfl
  have hbd : ∀ f, f < 20 → 0 ≤ (fibS 1 2 1 f).1 ∧ (fibS 1 2 1 f).1 ≤ 20000 ∧ 0 ≤ (fibS 1 2 1 f).2.1 ∧ (fibS 1 2 1 f).2.1 ≤ 20000 := by decide
  generalize fibS 1 2 1 = F at *
  subst ha; subst hb; subst hi
  refine Fn.of_ex (cuts := []) tys hM Try.func14 rfl Try.call14 rfl ?_
  show exC Try.prog T [] _ false none 0 (entry 142 [u8 l, u8 r, u8 p]) (finQ T [ResultVar.tmp 6] _)
  conv => whnf
  repeat' first | ((first | refine Ob.a ?_ | refine Sp.tt ?_ | refine Sp.ff ?_ | refine Sp.yes ?_ | refine Sp.no ?_ | refine Sp.nyes ?_ | refine Sp.nno ?_);conv=>whnf) | (refine Sp.ne (fun hc => ?_) (fun hc => ?_) <;> (conv=>whnf)) | (refine Sp.dec (fun hc => ?_) (fun hc => ?_) <;> (conv=>whnf)) | (refine Sp.ndec (fun hc => ?_) (fun hc => ?_) <;> (conv=>whnf)) | (refine Sp.mk (fun hc => ?_) (fun hc => ?_) <;> (conv=>whnf)) | (apply Cl.go;(conv=>whnf); (first | refine Ob.call (n1) ?_ | refine Ob.call (n2) ?_ | refine Ob.call (n3) ?_ | refine Ob.call (t1) ?_ | refine Ob.call (t2) ?_);(conv=>whnf)) | (refine Fi.a ?_;conv=>whnf) | (refine Ob.b ?_;conv=>whnf)
  all_goals try (exfalso; omega)
  all_goals try (exact absurd (decide_eq_decide.2 (show ((m : Int) = 0) ↔ ((l : Int) % 30 + (r : Int) % 31 = 0) from ⟨fun h => hzero.1 (by omega), fun h => by have := hzero.2 h; omega⟩)) (by assumption))
  all_goals
    refine Lp.snap [0, 1, 2, 6, 15, 16, 136, 137, 138, 139, 140, 141] 100 ?_
    (conv=>whnf)
    refine LpB.go 142 ({f : Nat // f ≤ q}) 0 (fun ⟨f, _⟩ nx => ([(20, .d (int (F f).1)), (21, .d (int (F f).2.1)), (22, .d (int (F f).2.2))], [])) (fun p => q - p.1) (⟨0, by omega⟩) ?_ ?_
    · rintro ⟨f, hf⟩
      by_cases hfq : f < q
      · have h3 := q3 f hfq
        have h4 := congrArg Prod.fst (hsx f).symm
        have h5 := congrArg (fun z => z.2.1) (hsx f).symm
        have h6 := congrArg (fun z => z.2.2) (hsx f).symm
        simp only at h4 h5 h6
        have h7 := hbd f (by omega)
        have h8 := hsl f
        conv => whnf
        repeat' first | ((first | refine Ob.a ?_ | refine Sp.tt ?_ | refine Sp.ff ?_ | refine Sp.yes ?_ | refine Sp.no ?_ | refine Sp.nyes ?_ | refine Sp.nno ?_);conv=>whnf) | (refine Sp.ne (fun hc => ?_) (fun hc => ?_) <;> (conv=>whnf)) | (refine Sp.dec (fun hc => ?_) (fun hc => ?_) <;> (conv=>whnf)) | (refine Sp.ndec (fun hc => ?_) (fun hc => ?_) <;> (conv=>whnf)) | (refine Sp.mk (fun hc => ?_) (fun hc => ?_) <;> (conv=>whnf)) | (refine Fi.a ?_;conv=>whnf) | (refine Ob.b ?_;conv=>whnf)
        all_goals first | (exfalso; omega) | exact ⟨rfl, ⟨f + 1, by omega⟩, Lf, by simp only; omega⟩
      · obtain rfl : f = q := by omega
        have h8 := hsl f
        conv => whnf
        repeat' first | ((first | refine Ob.a ?_ | refine Sp.tt ?_ | refine Sp.ff ?_ | refine Sp.yes ?_ | refine Sp.no ?_ | refine Sp.nyes ?_ | refine Sp.nno ?_);conv=>whnf) | (refine Sp.ne (fun hc => ?_) (fun hc => ?_) <;> (conv=>whnf)) | (refine Sp.dec (fun hc => ?_) (fun hc => ?_) <;> (conv=>whnf)) | (refine Sp.ndec (fun hc => ?_) (fun hc => ?_) <;> (conv=>whnf)) | (refine Sp.mk (fun hc => ?_) (fun hc => ?_) <;> (conv=>whnf)) | (apply Cl.go;(conv=>whnf); (first | refine Ob.call (hw) ?_);(conv=>whnf)) | (refine Fi.a ?_;conv=>whnf) | (refine Ob.b ?_;conv=>whnf)
        all_goals first | (exfalso; omega) | exact Lf | (exact absurd (by simp; omega) hc)
    · have h1 := congrArg Prod.fst hs0.symm
      have h2 := congrArg (fun z => z.2.1) hs0.symm
      have h3 := congrArg (fun z => z.2.2) hs0.symm
      simp only at h1 h2 h3
      exact Lf
end Go.Px.Try

namespace Go.Proofs.Ytofcdpkanjiefaa.biteNeededDone
open Go.ChangeShapes Go.WideShapes Go.ChangeAt Go.RowKit
open Go.Px
open Go.Px.Try (own laidOut)
set_option maxRecDepth 100000 in
theorem lifted (os : Os) (started : os.Started) (H : Type) (enc : TypeId × Value → H) :
    ReturnsInHanded {} Try.checked os 14 .any (Rows.biteNeededSpec.pre6 enc Try.prog Try.f14 Rows.biteNeededRow.domain false) (Rows.biteNeededSpec.post enc Try.prog Try.f14 false true false false) := by
  refine returnsInHanded_of_change (C := Try.checked) own started (by kernel_rfl) Try.func14
    (ChangeSpec.witness6 (enc := enc) (C := Try.checked) false ⟨#[], #[.int .u8 0, .int .u8 0, .int .u8 0], []⟩ 8 (by kernel_rfl) (by kernel_rfl) (by kernel_rfl) (by kernel_rfl)) ?_
  intro W base args ds gs before hval0 hW hcnd _
  have hval : ∀ (j : Nat) t v, Try.f14.params[j]? = some t → args[j]? = some v → Value.okWide Try.prog W .any base t v := hval0
  have hW' := hW
  obtain ⟨p, q, hA0, hV, rfl, hfz, hnd⟩ := hW
  have hA : DataW.TrodAll enc Try.prog W 0 (fun _ => true) true Try.f14.params.toList args.toList ds p := hA0
  rw [Try.params14] at hA hval
  obtain ⟨v0, vs0, d0, ds0, p0, q0, hargs, rfl, rfl, h0, r0⟩ := trodAll_cons hA
  obtain ⟨v1, vs1, d1, ds1, p1, q1, rfl, rfl, rfl, h1, r1⟩ := trodAll_cons r0
  obtain ⟨v2, vs2, d2, ds2, p2, q2, rfl, rfl, rfl, h2, r2⟩ := trodAll_cons r1
  obtain ⟨rfl, rfl, rfl⟩ := trodAll_nil r2
  obtain rfl : args = #[v0, v1, v2] := by cases args; simp_all
  obtain ⟨rfl, rfl⟩ := trodVars_none hV
  have lt0 : ∀ x ∈ p0, x.block < W.heap.size := by have k := h0; obtain ⟨m, hm⟩ := k; exact DataW.trod_lt m _ _ _ hm
  obtain ⟨x0, g0, e0⟩ := Go.Px.Try.u8_arg h0 (hval 0 5 v0 rfl rfl)
  have lt1 : ∀ x ∈ p1, x.block < W.heap.size := by have k := h1; obtain ⟨m, hm⟩ := k; exact DataW.trod_lt m _ _ _ hm
  obtain ⟨x1, g1, e1⟩ := Go.Px.Try.u8_arg h1 (hval 1 5 v1 rfl rfl)
  have lt2 : ∀ x ∈ p2, x.block < W.heap.size := by have k := h2; obtain ⟨m, hm⟩ := k; exact DataW.trod_lt m _ _ _ hm
  obtain ⟨x2, g2, e2⟩ := Go.Px.Try.u8_arg h2 (hval 2 5 v2 rfl rfl)
  clear hA0 hval0
  refine ((Go.Px.Try.BiteNeeded_spec x0 x1 x2 g0 g1 g2).2 (All W) W [v0, v1, v2] (fun _ h => h) ⟨e0, e1, e2, trivial⟩).mono fun e W' ⟨v, S', he, hr, _, _, bel⟩ => ?_
  obtain rfl : v = .bool true := hr
  subst he
  exact ⟨_, rfl, _, _, _, [], _, [], hW', trodAll_mk1 (shut_bool Try.underlying4 _), (trodAll_cons_mk (Below.trod laidOut (by kernel_rfl) (of_decide_eq_true (by kernel_rfl)) h0 bel lt0) (trodAll_cons_mk (Below.trod laidOut (by kernel_rfl) (of_decide_eq_true (by kernel_rfl)) h1 bel lt1) (trodAll_cons_mk (Below.trod laidOut (by kernel_rfl) (of_decide_eq_true (by kernel_rfl)) h2 bel lt2) trodAll_mk0))), rfl, bel.frame _, fun h => by cases h⟩
theorem over : Rows.biteNeededRow.holds Try.pinned (OpenSpec.ofChange Rows.biteNeededSpec) :=
  OpenClaim.holds_of_wide 14 Try.f14 rfl rfl rfl rfl rfl rfl rfl ⟨rfl, rfl, rfl, rfl, rfl⟩ rfl rfl rfl rfl rfl (by kernel_rfl) Try.func14 (by kernel_rfl)
    (of_decide_eq_true (by kernel_rfl)) (by unfold Func.isWrapper; first | (rw [if_pos (by decide +kernel)]; kernel_rfl) | (rw [if_neg (by decide +kernel)]; exact ⟨rfl, rfl⟩))
    (fun os started H enc _ => lifted os started H enc)
theorem proved : Rows.BiteNeededSaid := over
#print axioms proved
end Go.Proofs.Ytofcdpkanjiefaa.biteNeededDone
