/- Texts of this proof, joined (LwA): a small program logic over the model, and what functions of the program give. No statement of the seat is proved here. -/
import Derived.Test.YtbgpdcbljjdjnaaJ7
set_option linter.unusedVariables false
set_option linter.unusedSimpArgs false

/-! LwA -/
namespace Go.Px.Try
open Go Go.Proofs Go.Px
set_option maxRecDepth 100000
def Lens (t : List (List Int)) : Prop := t.length ≤ 9223372036854775807 ∧ ∀ w ∈ t, w.length ≤ 9223372036854775807
theorem ifl_len {c : Prop} [Decidable c] {l : List Int} (h : l.length < 1000000) : (if c then l else []).length < 1000000 := by
 split
 ·exact h
 ·simp
theorem lst_small {F : List (List Int)} (hs : SmallM F) (S : Nat → Bool) : (lst F.length S).length < 1000000 := by
 have := lst_length_le F.length S
 have := hs.l
 omega
set_option maxHeartbeats 8000000 in
theorem TraceMixes_spec (F : List (List Int)) (x : Int) (hF : Lens F) : Fn Try.prog 3 [mixD F, int x] (bool true) := by
 have g1 := great_spec F hF.1 hF.2
 have g2 := Works_spec
 by_cases hw : wideOk F
 ·rw [decide_eq_true hw] at g1
  have hs := mix_small hw
  have h1 := SacksP_spec F hs x
  have h2 := Sacks_spec F hs x
  have h3 := CountP_spec F hs x
  have h4 := Count_spec F hs x
  have h5 := CheckMixP_spec F hs
  have h6 := CheckMix_spec F hs.l hs.i
  have h7 := ints_same (if nodeE F [x] = 0 then sacksL F x.toNat else []) (ifl_len (lst_small hs _))
  generalize (if nodeE F [x] = 0 then sacksL F x.toNat else []) = a at *
  generalize (if nodeE F [x] = 0 then cg F (fun _ => false) x.toNat else 0) = b at *
  generalize nodeE F [x] = e at *
  generalize checkM F = k at *
  refine Fn.of_ex (cuts := []) tys hM Try.func3 rfl Try.call3 rfl ?_
  show exC Try.prog T [] _ false none 0 (entry 68 [mixD F, int x]) (finQ T [ResultVar.tmp 4] _)
  conv => whnf
  repeat' first | ((first | refine Ob.a ?_ | refine Sp.tt ?_ | refine Sp.ff ?_ | refine Sp.yes ?_ | refine Sp.no ?_ | refine Sp.nyes ?_ | refine Sp.nno ?_);conv=>whnf) | ((first | refine Sp.ne (fun hc => ?_) fun hc => ?_ | refine Sp.dec (fun hc => ?_) fun hc => ?_ | refine Sp.ndec (fun hc => ?_) fun hc => ?_ | refine Sp.mk (fun hc => ?_) fun hc => ?_) <;> conv => whnf) | (apply Cl.go;(conv=>whnf); (first | refine Ob.call (g1) ?_ | refine Ob.call (h1) ?_ | refine Ob.call (h2) ?_ | refine Ob.call (h3) ?_ | refine Ob.call (h4) ?_ | refine Ob.call (h5) ?_ | refine Ob.call (h6) ?_ | refine Ob.call (h7) ?_ | refine Ob.call (g2) ?_);(conv=>whnf)) | (refine Fi.a ?_;conv=>whnf) | (refine Ob.b ?_;conv=>whnf)
  all_goals first | (exfalso; omega) | (rename_i hq; exact absurd rfl hq) | exact Lf
 ·rw [decide_eq_false hw] at g1
  refine Fn.of_ex (cuts := []) tys hM Try.func3 rfl Try.call3 rfl ?_
  show exC Try.prog T [] _ false none 0 (entry 68 [mixD F, int x]) (finQ T [ResultVar.tmp 4] _)
  conv => whnf
  repeat' first | ((first | refine Ob.a ?_ | refine Sp.tt ?_ | refine Sp.ff ?_ | refine Sp.yes ?_ | refine Sp.no ?_ | refine Sp.nyes ?_ | refine Sp.nno ?_);conv=>whnf) | ((first | refine Sp.ne (fun hc => ?_) fun hc => ?_ | refine Sp.dec (fun hc => ?_) fun hc => ?_ | refine Sp.ndec (fun hc => ?_) fun hc => ?_ | refine Sp.mk (fun hc => ?_) fun hc => ?_) <;> conv => whnf) | (apply Cl.go;(conv=>whnf); (first | refine Ob.call (g1) ?_ | refine Ob.call (g2) ?_);(conv=>whnf)) | (refine Fi.a ?_;conv=>whnf) | (refine Ob.b ?_;conv=>whnf)
  all_goals exact Lf
theorem coL_len (F : List (List Int)) (a b : Nat) : (coL F a b).length ≤ F.length := by
 rw [coL_lst]; exact lst_length_le _ _
set_option maxHeartbeats 8000000 in
theorem TraceThroughs_spec (F : List (List Int)) (x y : Int) (hF : Lens F) : Fn Try.prog 4 [mixD F, int x, int y] (bool true) := by
 have g1 := great_spec F hF.1 hF.2
 have g2 := Works_spec
 by_cases hw : wideOk F
 ·rw [decide_eq_true hw] at g1
  have hs := mix_small hw
  have h1 := ThroughP_spec F hs x
  have h2 := Through_spec F hs x
  have h3 := PartsP_spec F hs x
  have h4 := Parts_spec F hs x
  have h5 := CommonP_spec F hs x y
  have h6 := Common_spec F hs x y
  have h7 := ints_same (if nodeE F [x] = 0 then thL F x.toNat else []) (ifl_len (lst_small hs _))
  have h8 := ints_same (if nodeE F [x, y] = 0 then coL F x.toNat y.toNat else []) (ifl_len (by have := coL_len F x.toNat y.toNat; have := hs.l; omega))
  have h9 := ratios_same (if nodeE F [x] = 0 then partsL F x.toNat else []) (by
   split
   ·have := partsL_len F x.toNat; have := hs.l; omega
   ·simp)
  generalize (if nodeE F [x] = 0 then thL F x.toNat else []) = a at *
  generalize (if nodeE F [x] = 0 then partsL F x.toNat else []) = b at *
  generalize (if nodeE F [x, y] = 0 then coL F x.toNat y.toNat else []) = c at *
  generalize nodeE F [x] = e at *
  generalize nodeE F [x, y] = f at *
  refine Fn.of_ex (cuts := []) tys hM Try.func4 rfl Try.call4 rfl ?_
  show exC Try.prog T [] _ false none 0 (entry 91 [mixD F, int x, int y]) (finQ T [ResultVar.tmp 6] _)
  conv => whnf
  repeat' first | ((first | refine Ob.a ?_ | refine Sp.tt ?_ | refine Sp.ff ?_ | refine Sp.yes ?_ | refine Sp.no ?_ | refine Sp.nyes ?_ | refine Sp.nno ?_);conv=>whnf) | ((first | refine Sp.ne (fun hc => ?_) fun hc => ?_ | refine Sp.dec (fun hc => ?_) fun hc => ?_ | refine Sp.ndec (fun hc => ?_) fun hc => ?_ | refine Sp.mk (fun hc => ?_) fun hc => ?_) <;> conv => whnf) | (apply Cl.go;(conv=>whnf); (first | refine Ob.call (g1) ?_ | refine Ob.call (h1) ?_ | refine Ob.call (h2) ?_ | refine Ob.call (h3) ?_ | refine Ob.call (h4) ?_ | refine Ob.call (h5) ?_ | refine Ob.call (h6) ?_ | refine Ob.call (h7) ?_ | refine Ob.call (h8) ?_ | refine Ob.call (h9) ?_ | refine Ob.call (g2) ?_);(conv=>whnf)) | (refine Fi.a ?_;conv=>whnf) | (refine Ob.b ?_;conv=>whnf)
  all_goals first | (exfalso; omega) | (rename_i hq; exact absurd rfl hq) | exact Lf
 ·rw [decide_eq_false hw] at g1
  refine Fn.of_ex (cuts := []) tys hM Try.func4 rfl Try.call4 rfl ?_
  show exC Try.prog T [] _ false none 0 (entry 91 [mixD F, int x, int y]) (finQ T [ResultVar.tmp 6] _)
  conv => whnf
  repeat' first | ((first | refine Ob.a ?_ | refine Sp.tt ?_ | refine Sp.ff ?_ | refine Sp.yes ?_ | refine Sp.no ?_ | refine Sp.nyes ?_ | refine Sp.nno ?_);conv=>whnf) | ((first | refine Sp.ne (fun hc => ?_) fun hc => ?_ | refine Sp.dec (fun hc => ?_) fun hc => ?_ | refine Sp.ndec (fun hc => ?_) fun hc => ?_ | refine Sp.mk (fun hc => ?_) fun hc => ?_) <;> conv => whnf) | (apply Cl.go;(conv=>whnf); (first | refine Ob.call (g1) ?_ | refine Ob.call (g2) ?_);(conv=>whnf)) | (refine Fi.a ?_;conv=>whnf) | (refine Ob.b ?_;conv=>whnf)
  all_goals exact Lf
/-- What both give for the first shortest cut. -/
def cutE (F : List (List Int)) (bad : List Int) (lot : Int) : List Int := if badE F bad lot = 0 then cutI F bad lot else []
theorem cutE_len (F : List (List Int)) (bad : List Int) (lot : Int) : (cutE F bad lot).length < 1000000 := by
 unfold cutE
 split
 ·rename_i h
  have hk := badE_ok.1 h
  have h1 := lam_bad hk
  have h2 := cut_len hk
  have h3 := hk.mix.l10
  have h4 := lst_length_le F.length fun i => decide ((i : Int) ∈ bad)
  rw [← lst_of_inc hk.ris.1 hk.ris.2] at h4
  omega
 ·simp
theorem CutP_eq (F : List (List Int)) (hs : SmallM F) (bad : List Int) (lot : Int) (hb : bad.length ≤ 1000) : Fn Try.prog 31 [mixD F, ints bad, int lot] (tpl [ints (cutE F bad lot), int (badE F bad lot)]) := CutP_spec F hs bad (by omega) lot
theorem Cut_eq (F : List (List Int)) (hs : SmallM F) (bad : List Int) (lot : Int) (hb : bad.length ≤ 1000) : Fn Try.prog 32 [mixD F, ints bad, int lot] (tpl [ints (cutE F bad lot), int (badE F bad lot)]) := Cut_spec F hs bad lot hb _ fun hk => cutOf_ref hk hb
set_option maxHeartbeats 8000000 in
theorem TraceCuts_spec (F : List (List Int)) (bad : List Int) (lot : Int) (cut : List Int) (hF : Lens F) : Fn Try.prog 5 [mixD F, ints bad, int lot, ints cut] (bool true) := by
 have g1 := great_spec F hF.1 hF.2
 have g2 := Works_spec
 by_cases hw : wideOk F
 ·rw [decide_eq_true hw] at g1
  have hs := mix_small hw
  by_cases hb : (bad.length : Int) ≤ 14
  ·by_cases hc : (cut.length : Int) ≤ 14
   ·have h1 := CutP_eq F hs bad lot (by omega)
    have h2 := Cut_eq F hs bad lot (by omega)
    have h3 := CheckCutP_spec F hs bad (by omega) lot cut (by omega)
    have h4 := CheckCut_spec F hs bad (by omega) lot cut (by omega)
    have h5 := ints_same (cutE F bad lot) (cutE_len F bad lot)
    generalize cutE F bad lot = c at *
    generalize checkCutR F bad lot cut = k at *
    generalize badE F bad lot = e at *
    refine Fn.of_ex (cuts := []) tys hM Try.func5 rfl Try.call5 rfl ?_
    show exC Try.prog T [] _ false none 0 (entry 64 [mixD F, ints bad, int lot, ints cut]) (finQ T [ResultVar.tmp 8] _)
    conv => whnf
    repeat' first | ((first | refine Ob.a ?_ | refine Sp.tt ?_ | refine Sp.ff ?_ | refine Sp.yes ?_ | refine Sp.no ?_ | refine Sp.nyes ?_ | refine Sp.nno ?_);conv=>whnf) | ((first | refine Sp.ne (fun hc => ?_) fun hc => ?_ | refine Sp.dec (fun hc => ?_) fun hc => ?_ | refine Sp.ndec (fun hc => ?_) fun hc => ?_ | refine Sp.mk (fun hc => ?_) fun hc => ?_) <;> conv => whnf) | (apply Cl.go;(conv=>whnf); (first | refine Ob.call (g1) ?_ | refine Ob.call (h1) ?_ | refine Ob.call (h2) ?_ | refine Ob.call (h3) ?_ | refine Ob.call (h4) ?_ | refine Ob.call (h5) ?_ | refine Ob.call (g2) ?_);(conv=>whnf)) | (refine Fi.a ?_;conv=>whnf) | (refine Ob.b ?_;conv=>whnf)
    all_goals first | (exfalso; omega) | (rename_i hq; exact absurd rfl hq) | exact Lf
   ·refine Fn.of_ex (cuts := []) tys hM Try.func5 rfl Try.call5 rfl ?_
    show exC Try.prog T [] _ false none 0 (entry 64 [mixD F, ints bad, int lot, ints cut]) (finQ T [ResultVar.tmp 8] _)
    conv => whnf
    repeat' first | ((first | refine Ob.a ?_ | refine Sp.tt ?_ | refine Sp.ff ?_ | refine Sp.yes ?_ | refine Sp.no ?_ | refine Sp.nyes ?_ | refine Sp.nno ?_);conv=>whnf) | ((first | refine Sp.ne (fun hc => ?_) fun hc => ?_ | refine Sp.dec (fun hc => ?_) fun hc => ?_ | refine Sp.ndec (fun hc => ?_) fun hc => ?_ | refine Sp.mk (fun hc => ?_) fun hc => ?_) <;> conv => whnf) | (apply Cl.go;(conv=>whnf); (first | refine Ob.call (g1) ?_ | refine Ob.call (g2) ?_);(conv=>whnf)) | (refine Fi.a ?_;conv=>whnf) | (refine Ob.b ?_;conv=>whnf)
    all_goals first | (exfalso; omega) | exact Lf
  ·refine Fn.of_ex (cuts := []) tys hM Try.func5 rfl Try.call5 rfl ?_
   show exC Try.prog T [] _ false none 0 (entry 64 [mixD F, ints bad, int lot, ints cut]) (finQ T [ResultVar.tmp 8] _)
   conv => whnf
   repeat' first | ((first | refine Ob.a ?_ | refine Sp.tt ?_ | refine Sp.ff ?_ | refine Sp.yes ?_ | refine Sp.no ?_ | refine Sp.nyes ?_ | refine Sp.nno ?_);conv=>whnf) | ((first | refine Sp.ne (fun hc => ?_) fun hc => ?_ | refine Sp.dec (fun hc => ?_) fun hc => ?_ | refine Sp.ndec (fun hc => ?_) fun hc => ?_ | refine Sp.mk (fun hc => ?_) fun hc => ?_) <;> conv => whnf) | (apply Cl.go;(conv=>whnf); (first | refine Ob.call (g1) ?_ | refine Ob.call (g2) ?_);(conv=>whnf)) | (refine Fi.a ?_;conv=>whnf) | (refine Ob.b ?_;conv=>whnf)
   all_goals first | (exfalso; omega) | exact Lf
 ·rw [decide_eq_false hw] at g1
  refine Fn.of_ex (cuts := []) tys hM Try.func5 rfl Try.call5 rfl ?_
  show exC Try.prog T [] _ false none 0 (entry 64 [mixD F, ints bad, int lot, ints cut]) (finQ T [ResultVar.tmp 8] _)
  conv => whnf
  repeat' first | ((first | refine Ob.a ?_ | refine Sp.tt ?_ | refine Sp.ff ?_ | refine Sp.yes ?_ | refine Sp.no ?_ | refine Sp.nyes ?_ | refine Sp.nno ?_);conv=>whnf) | ((first | refine Sp.ne (fun hc => ?_) fun hc => ?_ | refine Sp.dec (fun hc => ?_) fun hc => ?_ | refine Sp.ndec (fun hc => ?_) fun hc => ?_ | refine Sp.mk (fun hc => ?_) fun hc => ?_) <;> conv => whnf) | (apply Cl.go;(conv=>whnf); (first | refine Ob.call (g1) ?_ | refine Ob.call (g2) ?_);(conv=>whnf)) | (refine Fi.a ?_;conv=>whnf) | (refine Ob.b ?_;conv=>whnf)
  all_goals exact Lf
set_option maxHeartbeats 8000000 in
theorem TraceWays_spec (F : List (List Int)) (bad : List Int) (lot : Int) (ws : List (List Int)) (hF : Lens F) (hW : Lens ws) : Fn Try.prog 6 [mixD F, ints bad, int lot, slOf 1 ints [] ws] (bool true) := by
 have g1 := great_spec F hF.1 hF.2
 have g2 := Works_spec
 have g3 := wide_spec ws hW.1 hW.2
 by_cases hw : wideOk F
 ·rw [decide_eq_true hw] at g1
  have hs := mix_small hw
  by_cases hb : (bad.length : Int) ≤ 14
  ·by_cases hc : wideOk ws
   ·rw [decide_eq_true hc] at g3
    have h1 := CheckWaysP_spec F hs bad (by omega) lot ws (by have := hc.1; omega) fun w h => by have := hc.2 w h; omega
    have h2 := CheckWays_spec F hs bad (by omega) lot ws (by have := hc.1; omega) fun w h => by have := hc.2 w h; omega
    have h3 := WaysP_spec F hs bad (by omega) lot
    have h4 := Cut_eq F hs bad lot (by omega)
    generalize (if checkWaysR F bad lot ws = 0 then (ws.length : Int) else 0) = n at *
    generalize checkWaysR F bad lot ws = k at *
    by_cases h0 : badE F bad lot = 0
    ·have hk := badE_ok.1 h0
     rw [if_pos h0, h0] at h3
     change Fn _ _ _ (tpl [slOf 1 ints [] (wysI F bad lot), int 0]) at h3
     have hwl : (wysI F bad lot).length = lam0 F bad lot := wys_len hk
     have hcl : (cutE F bad lot).length = lam0 F bad lot := by unfold cutE; rw [if_pos h0]; exact cut_len hk
     have hww := wys_way hk
     have hl10 := hk.mix.l10
     have hlb := lam_bad hk
     have hwo : wideOk (wysI F bad lot) := ⟨by omega, fun w hw => by have := (hww w hw).2; omega⟩
     have h5 := wide_spec (wysI F bad lot) (by omega) fun w hw => by have := (hww w hw).2; omega
     rw [decide_eq_true hwo] at h5
     have h6 := CheckWays_spec F hs bad (by omega) lot (wysI F bad lot) (by omega) fun w hw => by have := (hww w hw).2; omega
     rw [wys_check hk, if_pos rfl] at h6
     rw [h0] at h4
     rw [← hcl] at hwl
     clear hcl hlb hww hwo
     generalize cutE F bad lot = c at *
     generalize wysI F bad lot = us at *
     have e9 : decide ((us.length : Int) = c.length) = true := decide_eq_true (by omega)
     refine Fn.of_ex (cuts := []) tys hM Try.func6 rfl Try.call6 rfl ?_
     show exC Try.prog T [] _ false none 0 (entry 105 [mixD F, ints bad, int lot, slOf 1 ints [] ws]) (finQ T [ResultVar.tmp 8] _)
     conv => whnf
     repeat' first | ((first | refine Ob.a ?_ | refine Sp.tt ?_ | refine Sp.ff ?_ | refine Sp.yes ?_ | refine Sp.no ?_ | refine Sp.nyes ?_ | refine Sp.nno ?_);conv=>whnf) | ((first | refine Sp.ne (fun hc => ?_) fun hc => ?_ | refine Sp.dec (fun hc => ?_) fun hc => ?_ | refine Sp.ndec (fun hc => ?_) fun hc => ?_ | refine Sp.mk (fun hc => ?_) fun hc => ?_) <;> conv => whnf) | (apply Cl.go;(conv=>whnf); (first | refine Ob.call (g1) ?_ | refine Ob.call (g3) ?_ | refine Ob.call (h1) ?_ | refine Ob.call (h2) ?_ | refine Ob.call (h3) ?_ | refine Ob.call (h4) ?_ | refine Ob.call (h5) ?_ | refine Ob.call (h6) ?_ | refine Ob.call (g2) ?_);(conv=>whnf)) | (refine Fi.a ?_;conv=>whnf) | (refine Ob.b ?_;conv=>whnf)
     all_goals first | (exfalso; omega) | (rename_i hq; exact absurd rfl hq) | exact Lf
    ·rw [if_neg h0] at h3
     have h5 := wide_spec [] (by simp) (by simp)
     rw [decide_eq_true (show wideOk [] from ⟨by simp, by simp⟩)] at h5
     generalize cutE F bad lot = c at *
     generalize badE F bad lot = e at *
     refine Fn.of_ex (cuts := []) tys hM Try.func6 rfl Try.call6 rfl ?_
     show exC Try.prog T [] _ false none 0 (entry 105 [mixD F, ints bad, int lot, slOf 1 ints [] ws]) (finQ T [ResultVar.tmp 8] _)
     conv => whnf
     repeat' first | ((first | refine Ob.a ?_ | refine Sp.tt ?_ | refine Sp.ff ?_ | refine Sp.yes ?_ | refine Sp.no ?_ | refine Sp.nyes ?_ | refine Sp.nno ?_);conv=>whnf) | ((first | refine Sp.ne (fun hc => ?_) fun hc => ?_ | refine Sp.dec (fun hc => ?_) fun hc => ?_ | refine Sp.ndec (fun hc => ?_) fun hc => ?_ | refine Sp.mk (fun hc => ?_) fun hc => ?_) <;> conv => whnf) | (apply Cl.go;(conv=>whnf); (first | refine Ob.call (g1) ?_ | refine Ob.call (g3) ?_ | refine Ob.call (h1) ?_ | refine Ob.call (h2) ?_ | refine Ob.call (h3) ?_ | refine Ob.call (h4) ?_ | refine Ob.call (h5) ?_ | refine Ob.call (g2) ?_);(conv=>whnf)) | (refine Fi.a ?_;conv=>whnf) | (refine Ob.b ?_;conv=>whnf)
     all_goals first | (exfalso; omega) | (rename_i hq; exact absurd rfl hq) | exact Lf
   ·rw [decide_eq_false hc] at g3
    refine Fn.of_ex (cuts := []) tys hM Try.func6 rfl Try.call6 rfl ?_
    show exC Try.prog T [] _ false none 0 (entry 105 [mixD F, ints bad, int lot, slOf 1 ints [] ws]) (finQ T [ResultVar.tmp 8] _)
    conv => whnf
    repeat' first | ((first | refine Ob.a ?_ | refine Sp.tt ?_ | refine Sp.ff ?_ | refine Sp.yes ?_ | refine Sp.no ?_ | refine Sp.nyes ?_ | refine Sp.nno ?_);conv=>whnf) | ((first | refine Sp.ne (fun hc => ?_) fun hc => ?_ | refine Sp.dec (fun hc => ?_) fun hc => ?_ | refine Sp.ndec (fun hc => ?_) fun hc => ?_ | refine Sp.mk (fun hc => ?_) fun hc => ?_) <;> conv => whnf) | (apply Cl.go;(conv=>whnf); (first | refine Ob.call (g1) ?_ | refine Ob.call (g3) ?_ | refine Ob.call (g2) ?_);(conv=>whnf)) | (refine Fi.a ?_;conv=>whnf) | (refine Ob.b ?_;conv=>whnf)
    all_goals first | (exfalso; omega) | exact Lf
  ·refine Fn.of_ex (cuts := []) tys hM Try.func6 rfl Try.call6 rfl ?_
   show exC Try.prog T [] _ false none 0 (entry 105 [mixD F, ints bad, int lot, slOf 1 ints [] ws]) (finQ T [ResultVar.tmp 8] _)
   conv => whnf
   repeat' first | ((first | refine Ob.a ?_ | refine Sp.tt ?_ | refine Sp.ff ?_ | refine Sp.yes ?_ | refine Sp.no ?_ | refine Sp.nyes ?_ | refine Sp.nno ?_);conv=>whnf) | ((first | refine Sp.ne (fun hc => ?_) fun hc => ?_ | refine Sp.dec (fun hc => ?_) fun hc => ?_ | refine Sp.ndec (fun hc => ?_) fun hc => ?_ | refine Sp.mk (fun hc => ?_) fun hc => ?_) <;> conv => whnf) | (apply Cl.go;(conv=>whnf); (first | refine Ob.call (g1) ?_ | refine Ob.call (g3) ?_ | refine Ob.call (g2) ?_);(conv=>whnf)) | (refine Fi.a ?_;conv=>whnf) | (refine Ob.b ?_;conv=>whnf)
   all_goals first | (exfalso; omega) | exact Lf
 ·rw [decide_eq_false hw] at g1
  refine Fn.of_ex (cuts := []) tys hM Try.func6 rfl Try.call6 rfl ?_
  show exC Try.prog T [] _ false none 0 (entry 105 [mixD F, ints bad, int lot, slOf 1 ints [] ws]) (finQ T [ResultVar.tmp 8] _)
  conv => whnf
  repeat' first | ((first | refine Ob.a ?_ | refine Sp.tt ?_ | refine Sp.ff ?_ | refine Sp.yes ?_ | refine Sp.no ?_ | refine Sp.nyes ?_ | refine Sp.nno ?_);conv=>whnf) | ((first | refine Sp.ne (fun hc => ?_) fun hc => ?_ | refine Sp.dec (fun hc => ?_) fun hc => ?_ | refine Sp.ndec (fun hc => ?_) fun hc => ?_ | refine Sp.mk (fun hc => ?_) fun hc => ?_) <;> conv => whnf) | (apply Cl.go;(conv=>whnf); (first | refine Ob.call (g1) ?_ | refine Ob.call (g2) ?_);(conv=>whnf)) | (refine Fi.a ?_;conv=>whnf) | (refine Ob.b ?_;conv=>whnf)
  all_goals exact Lf
theorem partsM5 : partsL mixM 5 = [(1, 4), (1, 2), (1, 4), (0, 1), (0, 1), (0, 1), (0, 1), (0, 1)] := by decide +kernel
set_option maxHeartbeats 8000000 in
theorem TraceKnown_spec : Fn Try.prog 14 [] (bool true) := by
 have g1 := eight_spec
 have g2 := Works_spec
 have h1 := w_sacks 7 [0, 1, 2] (by decide +kernel) (by decide +kernel)
 have h2 := w_count 5 4 (by decide +kernel) (by decide +kernel)
 have h3 := w_through 5 [] (by decide +kernel) (by decide +kernel)
 have h4 := w_parts 5 _ (by decide +kernel) partsM5
 have h5 := w_common 3 2 [] (by decide +kernel) (by decide +kernel)
 have h6 := w_cut bad4 (by simp) [1] cutD
 have h7 := w_checkCut [0, 1] 7 [0, 1] 0 (by simp) (by simp) (by decide +kernel)
 have h8 := CheckMixP_spec mixM smM
 rw [show checkM mixM = 0 by decide +kernel] at h8
 have i1 := ints_same [0, 1, 2] (by simp)
 have i2 := ints_same [1] (by simp)
 generalize mixM = F at *
 refine Fn.of_ex (cuts := []) tys hM Try.func14 rfl Try.call14 rfl ?_
 show exC Try.prog T [] _ false none 0 (entry 138 []) (finQ T [ResultVar.tmp 0] _)
 conv => whnf
 repeat' first | ((first | refine Ob.a ?_ | refine Sp.tt ?_ | refine Sp.ff ?_ | refine Sp.yes ?_ | refine Sp.no ?_ | refine Sp.nyes ?_ | refine Sp.nno ?_);conv=>whnf) | ((first | refine Sp.ne (fun hc => ?_) fun hc => ?_ | refine Sp.dec (fun hc => ?_) fun hc => ?_ | refine Sp.ndec (fun hc => ?_) fun hc => ?_ | refine Sp.mk (fun hc => ?_) fun hc => ?_) <;> conv => whnf) | (apply Cl.go;(conv=>whnf); (first | refine Ob.call (g1) ?_ | refine Ob.call (h1) ?_ | refine Ob.call (h2) ?_ | refine Ob.call (h3) ?_ | refine Ob.call (h4) ?_ | refine Ob.call (h5) ?_ | refine Ob.call (h6) ?_ | refine Ob.call (h7) ?_ | refine Ob.call (h8) ?_ | refine Ob.call (i1) ?_ | refine Ob.call (i2) ?_ | refine Ob.call (of_spec [0, 1, 2]) ?_ | refine Ob.call (of_spec [1]) ?_ | refine Ob.call (of_spec [0, 1]) ?_ | refine Ob.call (by_spec 1 4) ?_ | refine Ob.call (by_spec 1 2) ?_ | refine Ob.call (g2) ?_);(conv=>whnf)) | (refine Fi.a ?_;conv=>whnf) | (refine Ob.go (fun _ => ?_) (isI2 ⟨⟨_, rfl⟩, ⟨_, rfl⟩⟩ ⟨⟨_, rfl⟩, ⟨_, rfl⟩⟩);conv=>whnf) | (refine Ob.b ?_;conv=>whnf)
 all_goals exact Lf
end Go.Px.Try
