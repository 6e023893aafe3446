/- The statement PotPieces: two rows, the one behind the other, call back as many pots as both by themselves, have the shortest explanations of both together, and the weak pots apart of the one before those of the other one. Conditions: none. -/
import Derived.Test.YtiaeopgahkahbaaJ7
import Derived.Test.YtiaeopgahkahbaaRows
import Derived.Test.YtiaeopgahkahbaaJ6
set_option linter.unusedVariables false
set_option linter.unusedSimpArgs false
/-! LwPiece -/
namespace Go.Px.Try
open Go Go.Proofs Go.Px
set_option maxRecDepth 100000
def pcL (a b : Row) (i : Nat) : List Lot := a.lots ++ (b.lots.take i).map (shL a.pots)
def pcW (a b : Row) (i : Nat) : List Int := a.weak ++ (b.weak.take i).map (· + a.pots)
theorem pcL_succ (a b : Row) {i : Nat} (h : i < b.lots.length) : pcL a b (i + 1) = pcL a b i ++ [shL a.pots (b.lots.getD i default)] := by
  unfold pcL; rw [take_succ_getD _ _ default h, List.map_append, List.append_assoc]; rfl
theorem pcW_succ (a b : Row) {i : Nat} (h : i < b.weak.length) : pcW a b (i + 1) = pcW a b i ++ [b.weak.getD i 0 + a.pots] := by
  unfold pcW; rw [take_succ_getD _ _ 0 h, List.map_append, List.append_assoc]; rfl
theorem pcL_len (a b : Row) {i : Nat} (h : i ≤ b.lots.length) : (pcL a b i).length = a.lots.length + i := by
  unfold pcL; rw [List.length_append, List.length_map, List.length_take]; omega
theorem pcW_len (a b : Row) {i : Nat} (h : i ≤ b.weak.length) : (pcW a b i).length = a.weak.length + i := by
  unfold pcW; rw [List.length_append, List.length_map, List.length_take]; omega
theorem row_app0 {α : Type} {enc : α → DV} {d : α} {l : List α} {n : Nat} {z : Nat → DV} : ∀ j, j < n → CImp (apd 0 z (fun i => enc (l.getD i d)) j) (rowOf enc d l j) := fun j _ => by
  have e : apd 0 z (fun i => enc (l.getD i d)) j = rowOf enc d l j := by unfold apd; rw [if_neg (Nat.not_lt_zero j)]; rfl
  rw [e]; exact CImp.refl _
/-- What the walk needs. -/
structure PiT (a b x : Row) (f g h l : List Int) (n m : Int) : Prop where
  hw : Fn Try.prog 18 [] (bool true)
  sa : Fn Try.prog 44 [rowD a] (bool true)
  sb : Fn Try.prog 44 [rowD b] (bool true)
  ra : RowOk a
  rb : RowOk b
  g1 : a.pots + b.pots ≤ 40
  g2 : a.lots.length + b.lots.length ≤ 10
  g3 : a.weak.length + b.weak.length ≤ 12
  of0 : Fn Try.prog 49 [.v (.slice none 0 0)] (.v (.slice none 0 0))
  a1 : Fn Try.prog 45 [rowD a] (tpl [int n, bool true])
  a2 : Fn Try.prog 45 [rowD b] (tpl [int m, bool true])
  a3 : Fn Try.prog 45 [rowD x] (tpl [int (n + m), bool true])
  a4 : Fn Try.prog 35 [rowD a] (tpl [ints f, int 0])
  a5 : Fn Try.prog 35 [rowD b] (tpl [ints g, int 0])
  a6 : Fn Try.prog 35 [rowD x] (tpl [ints h, int 0])
  a7 : Fn Try.prog 39 [rowD x] (tpl [ints l, int 0])
  nr : -1000 ≤ n ∧ n ≤ 1000
  mr : -1000 ≤ m ∧ m ≤ 1000
  hh : h = f ++ g.map (· + a.pots)
  hl : l.length = h.length
  lens : f.length ≤ 12 ∧ g.length ≤ 12
  fr : ∀ y ∈ h, 0 ≤ y ∧ y < 40
  hx : x = ⟨a.pots + b.pots, pcL a b b.lots.length, pcW a b b.weak.length⟩
set_option maxHeartbeats 16000000 in
theorem pieces_walk {a b x : Row} {f g h l : List Int} {n m : Int} (t : PiT a b x f g h l n m) : Fn Try.prog 12 [rowD a, rowD b] (bool true) := by
  obtain ⟨hw, sa, sb, ⟨p1, p40, h10, h12, hlo, hrg, _⟩, ⟨q1, q40, i10, i12, ilo, irg, _⟩, g1, g2, g3, of0, a1, a2, a3, a4, a5, a6, a7, nr, mr, hh, hl, ⟨fl12, gl12⟩, fr, rfl⟩ := t
  have ilo2 : ∀ i : Nat, i < b.lots.length → (0 ≤ (b.lots.getD i default).lo ∧ (b.lots.getD i default).lo ≤ (b.lots.getD i default).hi ∧ (b.lots.getD i default).hi < b.pots) := fun i hi => ilo _ (getD_mem hi default)
  have irg2 : ∀ i : Nat, i < b.weak.length → 0 ≤ b.weak.getD i 0 ∧ b.weak.getD i 0 < b.pots := fun i hi => irg _ (getD_mem hi 0)
  clear hlo hrg ilo irg
  refine Fn.of_ex (cuts := []) tys hM Try.func12 rfl Try.call12 rfl ?_
  show exC Try.prog T [] _ false none 0 (entry 255 [rowD a, rowD b]) (finQ T [ResultVar.tmp 4] _)
  conv => whnf
  have e1 : pcL a b 0 = a.lots := by simp [pcL]
  have e2 : pcW a b 0 = a.weak := by simp [pcW]
  have s1 := fun (i : Int) (i0 : 0 ≤ i) (i1 : i < b.lots.length) => pcL_succ a b (i := i.toNat) (by omega)
  have s2 := fun (i : Int) (i0 : 0 ≤ i) (i1 : i < b.weak.length) => pcW_succ a b (i := i.toNat) (by omega)
  have l1 := fun (i : Nat) (h : i ≤ b.lots.length) => pcL_len a b h
  have l2 := fun (i : Nat) (h : i ≤ b.weak.length) => pcW_len a b h
  repeat' first | ((first | refine Ob.a ?_ | refine Sp.tt ?_ | refine Sp.ff ?_ | refine Sp.yes ?_ | refine Sp.no ?_ | refine Sp.nyes ?_ | refine Sp.nno ?_);conv=>whnf) | (refine Sp.ne (fun hc => ?_) (fun hc => ?_) <;> (conv=>whnf)) | (refine Sp.dec (fun hc => ?_) (fun hc => ?_) <;> (conv=>whnf)) | (refine Sp.ndec (fun hc => ?_) (fun hc => ?_) <;> (conv=>whnf)) | (refine Sp.mk (fun hc => ?_) (fun hc => ?_) <;> (conv=>whnf)) | (apply Cl.go;(conv=>whnf); (first | refine Ob.call (sa) ?_ | refine Ob.call (sb) ?_ | refine Ob.call (hw) ?_ | refine Ob.call (of0) ?_);(conv=>whnf)) | (refine Fi.a ?_;conv=>whnf) | (refine Ob.b ?_;conv=>whnf)
  refine Lp.snap [0, 1, 2, 3, 4, 5, 7, 8, 9, 10, 11, 12, 13, 14, 15, 16, 17, 18, 19, 20, 21, 22, 105, 106, 107, 108, 110, 111, 112, 113, 114, 115, 116, 117, 118, 119, 120, 121, 122, 123, 124, 125, 126, 127, 128, 129, 130, 131, 132, 133, 134, 135, 136, 137, 138, 139, 140, 141, 142, 143, 144, 145, 146, 147, 148, 149, 150, 151, 152, 153, 154, 155, 156, 157, 158, 159, 160, 161, 162, 163, 164, 165, 166, 167, 168, 169, 170, 171, 172, 173, 174, 175, 176, 177, 178, 179, 180, 181, 182, 183, 184, 185, 186, 187, 188, 189, 190, 191, 192, 193, 194, 195, 196, 197, 198, 199, 200, 201, 202, 203, 204, 205, 206, 207, 208, 210, 211, 212, 214, 215, 216, 217, 218, 219, 220, 221, 222, 223, 224, 225, 226, 227, 228, 229, 230, 231, 232, 233, 234, 235, 236, 237, 238, 239, 240, 241, 242, 243, 244, 245, 246, 247, 248, 249, 250, 251, 252, 254] 150 ?_
  (conv=>whnf)
  refine LpB.go 255 ({p : Int × List Lot // (0 ≤ p.1 ∧ p.1 ≤ b.lots.length) ∧ p.2 = pcL a b p.1.toNat}) 0 (fun ⟨(i, o), _⟩ nx => ([(6, .d (int i))], [(53, .cs true 3 (nthL [.d (int (a.pots + b.pots)), .ms 47 2 0 o.length, .ms 51 1 0 a.weak.length])), (47, .row true 51 2 o.length (rowOf lotD default o))])) (fun p => (b.lots.length - p.1.1).toNat) (⟨(0, a.lots), ⟨by simp, by simp only; omega⟩, e1.symm⟩) ?_ ?_
  · rintro ⟨⟨i, o⟩, ⟨i0, i1⟩, ho⟩
    simp only at i0 i1 ho
    have hol := l1 i.toNat (by omega)
    rw [← ho] at hol
    by_cases hi : i < b.lots.length
    · obtain ⟨j1, j2, j3⟩ := ilo2 i.toNat (by omega)
      have hs : pcL a b (i + 1).toNat = o ++ [shL a.pots (b.lots.getD i.toNat default)] := by
        rw [ho, show (i + 1).toNat = i.toNat + 1 by omega, s1 i i0 hi]
      conv => whnf
      repeat' first | ((first | refine Ob.a ?_ | refine Sp.tt ?_ | refine Sp.ff ?_ | refine Sp.yes ?_ | refine Sp.no ?_ | refine Sp.nyes ?_ | refine Sp.nno ?_);conv=>whnf) | (refine Sp.ne (fun hc => ?_) (fun hc => ?_) <;> (conv=>whnf)) | (refine Sp.dec (fun hc => ?_) (fun hc => ?_) <;> (conv=>whnf)) | (refine Sp.ndec (fun hc => ?_) (fun hc => ?_) <;> (conv=>whnf)) | (refine Sp.mk (fun hc => ?_) (fun hc => ?_) <;> (conv=>whnf)) | (refine Fi.a ?_;conv=>whnf) | (refine Ob.b ?_;conv=>whnf)
      refine ⟨rfl, ⟨(i + 1, o ++ [shL a.pots (b.lots.getD i.toNat default)]), ⟨by simp only; omega, by simp only; omega⟩, hs.symm⟩, ?_, by simp only; omega⟩
      repeat' first | (refine Edge.fast ?_) | ((conv=>whnf); first | exact True.intro | (refine And.intro ?_ ?_) | exact rfl | exact Nat.le_of_eq (Nat.zero_add _) | exact ImpS.refl _ | ((conv => arg 1; whnf); first | exact ImpS.refl _ | (refine ImpS.nil_eq ?_) | (refine ImpS.vnil_eq ?_) | (refine ImpS.row ?_) | (refine ImpS.rowN ?_ ?_) | (refine ImpS.sl_eq ?_) | (refine ImpS.expl rfl ?_)) | (refine row_snoc' ?_) | exact MImp.refl _ | exact cimp_none | exact cimp_same | exact List.not_mem_nil | exact DImp.refl _) | exact rfl | (refine And.intro ?_ ?_) | exact ImpS.refl _
      all_goals first | omega | (simp; done) | refine row_snoc' (l := o) ?_
      repeat' first | (refine Edge.fast ?_) | ((conv=>whnf); first | exact True.intro | (refine And.intro ?_ ?_) | exact rfl | exact Nat.le_of_eq (Nat.zero_add _) | exact ImpS.refl _ | ((conv => arg 1; whnf); first | exact ImpS.refl _ | (refine ImpS.nil_eq ?_) | (refine ImpS.vnil_eq ?_) | (refine ImpS.row ?_) | (refine ImpS.rowN ?_ ?_) | (refine ImpS.sl_eq ?_) | (refine ImpS.expl rfl ?_)) | (refine row_snoc' ?_) | (apply row_upd) | exact cimp_none | exact cimp_same | exact List.not_mem_nil | exact DImp.refl _) | exact rfl | (refine And.intro ?_ ?_) | exact ImpS.refl _
    · have eo : o = pcL a b b.lots.length := by rw [ho, show i.toNat = b.lots.length by omega]
      rw [← eo] at a3 a6 a7
      clear s1 l1
      conv => whnf
      repeat' first | ((first | refine Ob.a ?_ | refine Sp.tt ?_ | refine Sp.ff ?_ | refine Sp.yes ?_ | refine Sp.no ?_ | refine Sp.nyes ?_ | refine Sp.nno ?_);conv=>whnf) | (refine Sp.ne (fun hc => ?_) (fun hc => ?_) <;> (conv=>whnf)) | (refine Sp.dec (fun hc => ?_) (fun hc => ?_) <;> (conv=>whnf)) | (refine Sp.ndec (fun hc => ?_) (fun hc => ?_) <;> (conv=>whnf)) | (refine Sp.mk (fun hc => ?_) (fun hc => ?_) <;> (conv=>whnf)) | (refine Fi.a ?_;conv=>whnf) | (refine Ob.b ?_;conv=>whnf)
      refine Lp.snap [0, 1, 2, 3, 4, 5, 8, 9, 10, 11, 12, 13, 14, 15, 16, 17, 18, 19, 20, 21, 22, 125, 126, 127, 128, 129, 130, 131, 132, 133, 134, 135, 136, 137, 138, 139, 140, 141, 142, 143, 144, 145, 146, 147, 148, 149, 150, 151, 152, 153, 154, 155, 156, 157, 158, 159, 160, 161, 162, 163, 164, 165, 166, 167, 168, 169, 170, 171, 172, 173, 174, 175, 176, 177, 178, 179, 180, 181, 182, 183, 184, 185, 186, 187, 188, 189, 190, 191, 192, 193, 194, 195, 196, 197, 198, 199, 200, 201, 202, 203, 204, 205, 206, 207, 208, 210, 211, 212, 214, 215, 216, 217, 218, 219, 220, 221, 222, 223, 224, 225, 226, 227, 228, 229, 230, 231, 232, 233, 234, 235, 236, 237, 238, 239, 240, 241, 242, 243, 244, 245, 246, 247, 248, 249, 250, 251, 252, 254] 150 ?_
      (conv=>whnf)
      refine LpB.go 255 ({p : Int × List Int // (0 ≤ p.1 ∧ p.1 ≤ b.weak.length) ∧ p.2 = pcW a b p.1.toNat}) 0 (fun ⟨(k, w), _⟩ nx => ([(7, .d (int k))], [(53, .cs true 3 (nthL [.d (int (a.pots + b.pots)), .ms 47 2 0 o.length, .ms 51 1 0 w.length])), (51, .row true 3 1 w.length (rowOf int 0 w))])) (fun p => (b.weak.length - p.1.1).toNat) (⟨(0, a.weak), ⟨by simp, by simp only; omega⟩, e2.symm⟩) ?_ ?_
      · rintro ⟨⟨k, w⟩, ⟨k0, k1⟩, hwi⟩
        simp only at k0 k1 hwi
        have hwl := l2 k.toNat (by omega)
        rw [← hwi] at hwl
        by_cases hk : k < b.weak.length
        · obtain ⟨j1, j2⟩ := irg2 k.toNat (by omega)
          have hs : pcW a b (k + 1).toNat = w ++ [b.weak.getD k.toNat 0 + a.pots] := by
            rw [hwi, show (k + 1).toNat = k.toNat + 1 by omega, s2 k k0 hk]
          conv => whnf
          repeat' first | ((first | refine Ob.a ?_ | refine Sp.tt ?_ | refine Sp.ff ?_ | refine Sp.yes ?_ | refine Sp.no ?_ | refine Sp.nyes ?_ | refine Sp.nno ?_);conv=>whnf) | (refine Sp.ne (fun hc => ?_) (fun hc => ?_) <;> (conv=>whnf)) | (refine Sp.dec (fun hc => ?_) (fun hc => ?_) <;> (conv=>whnf)) | (refine Sp.ndec (fun hc => ?_) (fun hc => ?_) <;> (conv=>whnf)) | (refine Sp.mk (fun hc => ?_) (fun hc => ?_) <;> (conv=>whnf)) | (refine Fi.a ?_;conv=>whnf) | (refine Ob.b ?_;conv=>whnf)
          refine ⟨rfl, ⟨(k + 1, w ++ [b.weak.getD k.toNat 0 + a.pots]), ⟨by simp only; omega, by simp only; omega⟩, hs.symm⟩, ?_, by simp only; omega⟩
          repeat' first | (refine Edge.fast ?_) | ((conv=>whnf); first | exact True.intro | (refine And.intro ?_ ?_) | exact rfl | exact Nat.le_of_eq (Nat.zero_add _) | exact ImpS.refl _ | ((conv => arg 1; whnf); first | exact ImpS.refl _ | (refine ImpS.nil_eq ?_) | (refine ImpS.vnil_eq ?_) | (refine ImpS.row ?_) | (refine ImpS.rowN ?_ ?_) | (refine ImpS.sl_eq ?_) | (refine ImpS.expl rfl ?_)) | (refine row_snoc' ?_) | exact MImp.refl _ | exact cimp_none | exact cimp_same | exact List.not_mem_nil | exact DImp.refl _) | exact rfl | (refine And.intro ?_ ?_) | exact ImpS.refl _
          all_goals first | omega | (simp; done) | refine row_snoc' (l := w) ?_
          repeat' first | (refine Edge.fast ?_) | ((conv=>whnf); first | exact True.intro | (refine And.intro ?_ ?_) | exact rfl | exact Nat.le_of_eq (Nat.zero_add _) | exact ImpS.refl _ | ((conv => arg 1; whnf); first | exact ImpS.refl _ | (refine ImpS.nil_eq ?_) | (refine ImpS.vnil_eq ?_) | (refine ImpS.row ?_) | (refine ImpS.rowN ?_ ?_) | (refine ImpS.sl_eq ?_) | (refine ImpS.expl rfl ?_)) | (refine row_snoc' ?_) | (apply row_upd) | exact cimp_none | exact cimp_same | exact List.not_mem_nil | exact DImp.refl _) | exact rfl | (refine And.intro ?_ ?_) | exact ImpS.refl _
        · have ew : w = pcW a b b.weak.length := by rw [hwi, show k.toNat = b.weak.length by omega]
          rw [← ew] at a3 a6 a7
          clear s2 l2
          have hlen : (h.length : Int) = f.length + g.length := by rw [hh]; simp
          have hl' : (l.length : Int) = h.length := by omega
          have F1 : ∀ j : Nat, j < f.length → h.getD j 0 = f.getD j 0 := fun j hj => by
            rw [hh, List.getD_eq_getElem?_getD, List.getElem?_append_left hj, ← List.getD_eq_getElem?_getD]
          have F2 : ∀ j : Nat, ¬ j < f.length → j < h.length → h.getD j 0 - a.pots = g.getD (j - f.length) 0 := fun j hj hj2 => by
            have hj3 : j - f.length < g.length := by omega
            rw [hh, List.getD_eq_getElem?_getD, List.getElem?_append_right (by omega), List.getElem?_map, List.getD_eq_getElem?_getD, List.getElem?_eq_getElem hj3]
            simp
          have F3 : ∀ j : Nat, j < h.length → 0 ≤ h.getD j 0 ∧ h.getD j 0 < 40 := fun j hj => fr _ (getD_mem hj 0)
          clear hh
          conv => whnf
          repeat' first | ((first | refine Ob.a ?_ | refine Sp.tt ?_ | refine Sp.ff ?_ | refine Sp.yes ?_ | refine Sp.no ?_ | refine Sp.nyes ?_ | refine Sp.nno ?_);conv=>whnf) | (refine Sp.ne (fun hc => ?_) (fun hc => ?_) <;> (conv=>whnf)) | (refine Sp.dec (fun hc => ?_) (fun hc => ?_) <;> (conv=>whnf)) | (refine Sp.ndec (fun hc => ?_) (fun hc => ?_) <;> (conv=>whnf)) | (refine Sp.mk (fun hc => ?_) (fun hc => ?_) <;> (conv=>whnf)) | (apply Cl.go;(conv=>whnf); (first | refine Ob.call (a1) ?_ | refine Ob.call (a2) ?_ | refine Ob.call (a3) ?_ | refine Ob.call (a4) ?_ | refine Ob.call (a5) ?_ | refine Ob.call (a6) ?_ | refine Ob.call (a7) ?_);(conv=>whnf)) | (refine Fi.a ?_;conv=>whnf) | (refine Ob.b ?_;conv=>whnf)
          refine Lp.snap [0, 1, 2, 14, 16, 18, 254] 250 ?_
          (conv=>whnf)
          refine LpB.go 255 ({i : Int // 0 ≤ i ∧ i ≤ h.length}) 0 (fun ⟨q, _⟩ nx => ([(22, .d (int q))], [])) (fun p => (h.length - p.1).toNat) (⟨0, by omega, by omega⟩) ?_ ?_
          · rintro ⟨q, q0, qh⟩
            have F1 : q < f.length → h.getD q.toNat 0 = f.getD q.toNat 0 := fun h => F1 q.toNat (by omega)
            have F2 : ¬ q < f.length → q < h.length → h.getD q.toNat 0 - a.pots = g.getD (q - f.length).toNat 0 := fun h1 h2 => by
              have := F2 q.toNat (by omega) (by omega)
              rw [this]; congr 1; omega
            have F3 : q < h.length → 0 ≤ h.getD q.toNat 0 ∧ h.getD q.toNat 0 < 40 := fun h => F3 q.toNat (by omega)
            conv => whnf
            repeat' first | ((first | refine Ob.a ?_ | refine Sp.tt ?_ | refine Sp.ff ?_ | refine Sp.yes ?_ | refine Sp.no ?_ | refine Sp.nyes ?_ | refine Sp.nno ?_);conv=>whnf) | (refine Sp.ne (fun hc => ?_) (fun hc => ?_) <;> (conv=>whnf)) | (refine Sp.dec (fun hc => ?_) (fun hc => ?_) <;> (conv=>whnf)) | (refine Sp.ndec (fun hc => ?_) (fun hc => ?_) <;> (conv=>whnf)) | (refine Sp.mk (fun hc => ?_) (fun hc => ?_) <;> (conv=>whnf)) | (apply Cl.go;(conv=>whnf); (first | refine Ob.call (hw) ?_);(conv=>whnf)) | (refine Fi.a ?_;conv=>whnf) | (refine Ob.b ?_;conv=>whnf)
            all_goals first | exact Lf | exact ⟨rfl, ⟨q + 1, by omega, by omega⟩, Lf, by simp only; omega⟩ | skip
          · exact Lf
      · conv => whnf
        repeat' first | (refine Edge.fast ?_) | ((conv=>whnf); first | exact True.intro | (refine And.intro ?_ ?_) | exact rfl | exact Nat.le_of_eq (Nat.zero_add _) | exact ImpS.refl _ | ((conv => arg 1; whnf); first | exact ImpS.refl _ | (refine ImpS.nil_eq ?_) | (refine ImpS.vnil_eq ?_) | (refine ImpS.row ?_) | (refine ImpS.rowN ?_ ?_) | (refine ImpS.sl_eq ?_) | (refine ImpS.expl rfl ?_)) | (refine row_snoc' ?_) | exact MImp.refl _ | exact cimp_none | exact cimp_same | exact List.not_mem_nil | exact DImp.refl _) | exact rfl | (refine And.intro ?_ ?_) | exact ImpS.refl _
        all_goals first | omega | (simp; done) | exact row_app0 | skip
  · conv => whnf
    repeat' first | (refine Edge.fast ?_) | ((conv=>whnf); first | exact True.intro | (refine And.intro ?_ ?_) | exact rfl | exact Nat.le_of_eq (Nat.zero_add _) | exact ImpS.refl _ | ((conv => arg 1; whnf); first | exact ImpS.refl _ | (refine ImpS.nil_eq ?_) | (refine ImpS.vnil_eq ?_) | (refine ImpS.row ?_) | (refine ImpS.rowN ?_ ?_) | (refine ImpS.sl_eq ?_) | (refine ImpS.expl rfl ?_)) | (refine row_snoc' ?_) | exact MImp.refl _ | exact cimp_none | exact cimp_same | exact List.not_mem_nil | exact DImp.refl _) | exact rfl | (refine And.intro ?_ ?_) | exact ImpS.refl _
    all_goals first | omega | (simp; done) | exact row_app0 | skip
end Go.Px.Try

/-! LwMor0 -/
namespace Go.Px.Try
open Go Go.Proofs Go.Px
set_option maxRecDepth 100000
theorem LeastP_known {r : Row} (hr : RowOk r) : Fn Try.prog 26 [rowD r] (tpl [int (leastPR r).1, int (rowError r)]) := by
  have h := LeastP_spec r (by have := hr.l10; omega) (by have := hr.w12; omega)
  have e : (leastPR r).2 = rowError r := by
    unfold leastPR; split
    · rfl
    · rename_i h; exact (Decidable.of_not_not h).symm
  rwa [e] at h
theorem of_nil : Fn Try.prog 49 [.v (.slice none 0 0)] (.v (.slice none 0 0)) := by
  refine Fn.of_ex (cuts := []) tys hM Try.func49 rfl Try.call49 rfl ?_
  show exC Try.prog T [] _ false none 0 (entry 4 [.v (.slice none 0 0)]) (finQ T [ResultVar.tmp 2] _)
  conv => whnf
  repeat' first | ((first | refine Ob.a ?_ | refine Sp.tt ?_ | refine Sp.ff ?_ | refine Sp.yes ?_ | refine Sp.no ?_ | refine Sp.nyes ?_ | refine Sp.nno ?_);conv=>whnf) | (refine Sp.ne (fun hc => ?_) (fun hc => ?_) <;> (conv=>whnf)) | (refine Sp.dec (fun hc => ?_) (fun hc => ?_) <;> (conv=>whnf)) | (refine Sp.ndec (fun hc => ?_) (fun hc => ?_) <;> (conv=>whnf)) | (refine Sp.mk (fun hc => ?_) (fun hc => ?_) <;> (conv=>whnf)) | (refine Fi.a ?_;conv=>whnf) | (refine Ob.b ?_;conv=>whnf)
  all_goals exact Lf
theorem cut_getD {α : Type} (L : List α) (d : α) {k : Nat} (hk : k < L.length) (j : Nat) : (L.take k ++ L.drop (k + 1)).getD j d = if j < k then L.getD j d else L.getD (j + 1) d := by
  simp only [List.getD_eq_getElem?_getD]
  rw [List.getElem?_append, List.length_take, Nat.min_eq_left (by omega)]
  split
  · rw [List.getElem?_take]; rw [if_pos (by assumption)]
  · rw [List.getElem?_drop]; congr 2; omega
theorem cut_len {α : Type} (L : List α) {k : Nat} (hk : k < L.length) : (L.take k ++ L.drop (k + 1)).length + 1 = L.length := by
  simp [List.length_take, List.length_drop]; omega
/-- A list without one of its elements, as the program puts it together. -/
theorem ImpS.cut {α : Type} {t : Bool} {k n o m : Nat} {enc : α → DV} {d : α} {L : List α} {z f g : Nat → DV} (hm : m < L.length) (hn : n + 1 = L.length) (ho : o = m) (hf : ∀ j, j < m → f j = enc (L.getD j d)) (hg : ∀ j, m + j + 1 < L.length → g j = enc (L.getD (m + j + 1) d)) :
    ImpS (.sl t k n fun i => apd o (apd 0 z f) g (0 + i)) (slOf k enc d (L.take m ++ L.drop (m + 1))) := by
  subst ho
  have hl := cut_len L hm
  refine ImpS.fn (by omega) fun j hj => ?_
  rw [cut_getD L d hm]
  unfold apd
  rw [Nat.zero_add]
  by_cases h : j < o
  · rw [if_pos h, if_pos h, if_neg (Nat.not_lt_zero j), Nat.sub_zero]; exact hf j h
  · rw [if_neg h, if_neg h, hg (j - o) (by omega), show o + (j - o) + 1 = j + 1 by omega]
theorem ImpS.appdM {α : Type} {t : Bool} {k n o : Nat} {enc : α → DV} {d : α} {L : List α} {x : α} {z g : Nat → DV} (hn : n = L.length + 1) (ho : o = L.length) (hg : DImp (g 0) (enc x)) : ImpS (.sl t k n fun i => apd o (apd 0 z (fun i => enc (L.getD i d))) g (0 + i)) (slOf k enc d (L ++ [x])) := by
  subst ho; subst hn
  refine ⟨Imp.sl (fun e => by cases e) (by simp) fun j hj => ?_⟩
  rw [Nat.zero_add]
  unfold apd
  by_cases h : j < L.length
  · rw [if_pos h, if_neg (by omega), Nat.sub_zero]
    refine Imp.of_eq ?_
    show enc (L.getD j d) = _
    rw [List.getD_eq_getElem?_getD, List.getD_eq_getElem?_getD, List.getElem?_append_left h]
  · have : j = L.length := by omega
    subst this
    rw [if_neg h, Nat.sub_self, List.getD_eq_getElem?_getD, List.getElem?_append_right (Nat.le_refl _)]
    simpa using hg.imp
/-- What the walk needs. -/
structure MoT (r : Row) (wl lt : Nat) (mo : Lot) (n : Int) (b : List Int) : Prop where
  hw : Fn Try.prog 18 [] (bool true)
  hs : Fn Try.prog 44 [rowD r] (bool true)
  hl : r.lots.length < 10
  h12 : r.weak.length ≤ 12
  hwl : wl < 256
  hlt : lt < 256
  of0 : Fn Try.prog 49 [.v (.slice none 0 0)] (.v (.slice none 0 0))
  a1 : Fn Try.prog 45 [rowD r] (tpl [int n, bool true])
  a2 : ∀ k : Nat, k < r.weak.length → ∃ m, m ≤ n ∧ Fn Try.prog 45 [rowD ⟨r.pots, r.lots, r.weak.take k ++ r.weak.drop (k + 1)⟩] (tpl [int m, bool true])
  a3 : notGreat (more r mo) ∧ checkRow (more r mo) = 0 → ∃ m, m ≤ n ∧ Fn Try.prog 45 [rowD (more r mo)] (tpl [int m, bool true])
  h0 : r.lots.length = 0 → n = 0 ∧ r.weak.length = 0
  a4 : Fn Try.prog 30 [rowD r] (tpl [ints b, int 0])
  hb : b.length = r.lots.length
  hbr : ∀ i : Nat, i < r.lots.length → 0 ≤ b.getD i 0 ∧ b.getD i 0 ≤ 2
  a5 : ∀ i : Nat, i < r.lots.length → ∃ m e, Fn Try.prog 26 [rowD (less1 r i)] (tpl [int m, int e]) ∧ ((b.getD i 0 = 2 ∧ (e = 22 ∨ e = 0 ∧ n < m)) ∨ (b.getD i 0 ≠ 2 ∧ e = 0 ∧ m = n))
end Go.Px.Try

/-! LwPiece2 -/
namespace Go.Px.Try
open Go Go.Proofs Go.Px
set_option maxRecDepth 100000
theorem cat_eq (a b : Row) : cat a b = ⟨a.pots + b.pots, pcL a b b.lots.length, pcW a b b.weak.length⟩ := by
  unfold cat pcL pcW; rw [List.take_length, List.take_length]
set_option maxHeartbeats 4000000 in
theorem PotPieces_spec (a b : Row) : Fn Try.prog 12 [rowD a, rowD b] (bool true) := by
  have hw := Works_spec
  by_cases h1 : notGreat a ∧ rowError a = 0
  case neg =>
    have hf := notSound_fn h1
    refine Fn.of_ex (cuts := []) tys hM Try.func12 rfl Try.call12 rfl ?_
    show exC Try.prog T [] _ false none 0 (entry 255 [rowD a, rowD b]) (finQ T [ResultVar.tmp 4] _)
    conv => whnf
    repeat' first | ((first | refine Ob.a ?_ | refine Sp.tt ?_ | refine Sp.ff ?_ | refine Sp.yes ?_ | refine Sp.no ?_ | refine Sp.nyes ?_ | refine Sp.nno ?_);conv=>whnf) | (refine Sp.ne (fun hc => ?_) (fun hc => ?_) <;> (conv=>whnf)) | (refine Sp.dec (fun hc => ?_) (fun hc => ?_) <;> (conv=>whnf)) | (refine Sp.ndec (fun hc => ?_) (fun hc => ?_) <;> (conv=>whnf)) | (refine Sp.mk (fun hc => ?_) (fun hc => ?_) <;> (conv=>whnf)) | (apply Cl.go;(conv=>whnf); (first | refine Ob.call (hf) ?_ | refine Ob.call (hw) ?_);(conv=>whnf)) | (refine Fi.a ?_;conv=>whnf) | (refine Ob.b ?_;conv=>whnf)
    all_goals exact Lf
  have hf := sound_fn h1
  by_cases h2 : notGreat b ∧ rowError b = 0
  case neg =>
    have hg := notSound_fn h2
    refine Fn.of_ex (cuts := []) tys hM Try.func12 rfl Try.call12 rfl ?_
    show exC Try.prog T [] _ false none 0 (entry 255 [rowD a, rowD b]) (finQ T [ResultVar.tmp 4] _)
    conv => whnf
    repeat' first | ((first | refine Ob.a ?_ | refine Sp.tt ?_ | refine Sp.ff ?_ | refine Sp.yes ?_ | refine Sp.no ?_ | refine Sp.nyes ?_ | refine Sp.nno ?_);conv=>whnf) | (refine Sp.ne (fun hc => ?_) (fun hc => ?_) <;> (conv=>whnf)) | (refine Sp.dec (fun hc => ?_) (fun hc => ?_) <;> (conv=>whnf)) | (refine Sp.ndec (fun hc => ?_) (fun hc => ?_) <;> (conv=>whnf)) | (refine Sp.mk (fun hc => ?_) (fun hc => ?_) <;> (conv=>whnf)) | (apply Cl.go;(conv=>whnf); (first | refine Ob.call (hf) ?_ | refine Ob.call (hg) ?_ | refine Ob.call (hw) ?_);(conv=>whnf)) | (refine Fi.a ?_;conv=>whnf) | (refine Ob.b ?_;conv=>whnf)
    all_goals exact Lf
  have hg := sound_fn h2
  have ha := sound_of h1.2
  have hb := sound_of h2.2
  have a1 := ha.ok.p1
  have a40 := ha.ok.p40
  have a10 := ha.ok.l10
  have a12 := ha.ok.w12
  have b1 := hb.ok.p1
  have b40 := hb.ok.p40
  have b10 := hb.ok.l10
  have b12 := hb.ok.w12
  by_cases h3 : a.pots + b.pots ≤ 40 ∧ (a.lots.length : Int) + b.lots.length ≤ 10 ∧ (a.weak.length : Int) + b.weak.length ≤ 12
  case neg =>
    by_cases h4 : 40 < a.pots + b.pots
    · refine Fn.of_ex (cuts := []) tys hM Try.func12 rfl Try.call12 rfl ?_
      show exC Try.prog T [] _ false none 0 (entry 255 [rowD a, rowD b]) (finQ T [ResultVar.tmp 4] _)
      conv => whnf
      repeat' first | ((first | refine Ob.a ?_ | refine Sp.tt ?_ | refine Sp.ff ?_ | refine Sp.yes ?_ | refine Sp.no ?_ | refine Sp.nyes ?_ | refine Sp.nno ?_);conv=>whnf) | (refine Sp.ne (fun hc => ?_) (fun hc => ?_) <;> (conv=>whnf)) | (refine Sp.dec (fun hc => ?_) (fun hc => ?_) <;> (conv=>whnf)) | (refine Sp.ndec (fun hc => ?_) (fun hc => ?_) <;> (conv=>whnf)) | (refine Sp.mk (fun hc => ?_) (fun hc => ?_) <;> (conv=>whnf)) | (apply Cl.go;(conv=>whnf); (first | refine Ob.call (hf) ?_ | refine Ob.call (hg) ?_ | refine Ob.call (hw) ?_);(conv=>whnf)) | (refine Fi.a ?_;conv=>whnf) | (refine Ob.b ?_;conv=>whnf)
      all_goals exact Lf
    by_cases h5 : 10 < (a.lots.length : Int) + b.lots.length
    · refine Fn.of_ex (cuts := []) tys hM Try.func12 rfl Try.call12 rfl ?_
      show exC Try.prog T [] _ false none 0 (entry 255 [rowD a, rowD b]) (finQ T [ResultVar.tmp 4] _)
      conv => whnf
      repeat' first | ((first | refine Ob.a ?_ | refine Sp.tt ?_ | refine Sp.ff ?_ | refine Sp.yes ?_ | refine Sp.no ?_ | refine Sp.nyes ?_ | refine Sp.nno ?_);conv=>whnf) | (refine Sp.ne (fun hc => ?_) (fun hc => ?_) <;> (conv=>whnf)) | (refine Sp.dec (fun hc => ?_) (fun hc => ?_) <;> (conv=>whnf)) | (refine Sp.ndec (fun hc => ?_) (fun hc => ?_) <;> (conv=>whnf)) | (refine Sp.mk (fun hc => ?_) (fun hc => ?_) <;> (conv=>whnf)) | (apply Cl.go;(conv=>whnf); (first | refine Ob.call (hf) ?_ | refine Ob.call (hg) ?_ | refine Ob.call (hw) ?_);(conv=>whnf)) | (refine Fi.a ?_;conv=>whnf) | (refine Ob.b ?_;conv=>whnf)
      all_goals exact Lf
    have h6 : 12 < (a.weak.length : Int) + b.weak.length := by omega
    refine Fn.of_ex (cuts := []) tys hM Try.func12 rfl Try.call12 rfl ?_
    show exC Try.prog T [] _ false none 0 (entry 255 [rowD a, rowD b]) (finQ T [ResultVar.tmp 4] _)
    conv => whnf
    repeat' first | ((first | refine Ob.a ?_ | refine Sp.tt ?_ | refine Sp.ff ?_ | refine Sp.yes ?_ | refine Sp.no ?_ | refine Sp.nyes ?_ | refine Sp.nno ?_);conv=>whnf) | (refine Sp.ne (fun hc => ?_) (fun hc => ?_) <;> (conv=>whnf)) | (refine Sp.dec (fun hc => ?_) (fun hc => ?_) <;> (conv=>whnf)) | (refine Sp.ndec (fun hc => ?_) (fun hc => ?_) <;> (conv=>whnf)) | (refine Sp.mk (fun hc => ?_) (fun hc => ?_) <;> (conv=>whnf)) | (apply Cl.go;(conv=>whnf); (first | refine Ob.call (hf) ?_ | refine Ob.call (hg) ?_ | refine Ob.call (hw) ?_);(conv=>whnf)) | (refine Fi.a ?_;conv=>whnf) | (refine Ob.b ?_;conv=>whnf)
    all_goals exact Lf
  obtain ⟨g1, g2, g3⟩ := h3
  have hxo := cat_ok ha.ok hb.ok g1 (by omega) (by omega)
  obtain ⟨hx, hopt⟩ := cat_sound ha hb hxo
  have x10 := hxo.l10
  have x12 := hxo.w12
  have e3 := least_spec hx
  rw [hopt] at e3
  have e4 := ApartP_spec a (by omega) (by omega)
  rw [Sound.apart ha.ok] at e4
  have e5 := ApartP_spec b (by omega) (by omega)
  rw [Sound.apart hb.ok] at e5
  have e6 := ApartP_spec (cat a b) (by omega) (by omega)
  rw [Sound.apart hxo] at e6
  have e7 := FewestP_spec (cat a b) (by omega) (by omega)
  obtain ⟨U, hU, f1, f2, f3⟩ := hx.few
  rw [f1] at e7
  have na := ha.rng
  have nb := hb.rng
  have la := apF_len a
  have lb := apF_len b
  exact pieces_walk (a := a) (b := b) (x := cat a b) ⟨hw, hf, hg, ha.ok, hb.ok, g1, by omega, by omega, of_nil, least_spec ha, least_spec hb, e3, e4, e5, e6, e7, by omega, by omega, cat_apart ha.ok hb.ok, f3, ⟨show (apF a none a.weak).length ≤ 12 by omega, show (apF b none b.weak).length ≤ 12 by omega⟩,
    fun y hy => by
      have := hxo.rng y ((apF_sub (cat a b) (cat a b).weak none).mem hy)
      have e : (cat a b).pots = a.pots + b.pots := rfl
      omega, cat_eq a b⟩
end Go.Px.Try

namespace Go.Proofs.Ytiaeopgahkahbaa.potPiecesDone
open Go.ChangeShapes Go.WideShapes Go.ChangeAt Go.RowKit
open Go.Px
open Go.Px.Try (own laidOut)
set_option maxRecDepth 100000 in
theorem lifted (os : Os) (started : os.Started) (H : Type) (enc : TypeId × Value → H) :
    ReturnsInHanded {} Try.checked os 12 .any (Rows.potPiecesSpec.pre6 enc Try.prog Try.f12 Rows.potPiecesRow.domain false) (Rows.potPiecesSpec.post enc Try.prog Try.f12 false true false false) := by
  refine returnsInHanded_of_change (C := Try.checked) own started (by kernel_rfl) Try.func12
    (ChangeSpec.witness6 (enc := enc) (C := Try.checked) false ⟨#[], #[.agg #[.int .i64 0, .slice none 0 0, .slice none 0 0], .agg #[.int .i64 0, .slice none 0 0, .slice none 0 0]], []⟩ 8 (by kernel_rfl) (by kernel_rfl) (by kernel_rfl) (by kernel_rfl)) ?_
  intro W base args ds gs before hval0 hW hcnd _
  have hval : ∀ (j : Nat) t v, Try.f12.params[j]? = some t → args[j]? = some v → Value.okWide Try.prog W .any base t v := hval0
  have hW' := hW
  obtain ⟨p, q, hA0, hV, rfl, hfz, hnd⟩ := hW
  have hA : DataW.TrodAll enc Try.prog W 0 (fun _ => true) true Try.f12.params.toList args.toList ds p := hA0
  rw [Try.params12] at hA hval
  obtain ⟨v0, vs0, d0, ds0, p0, q0, hargs, rfl, rfl, h0, r0⟩ := trodAll_cons hA
  obtain ⟨v1, vs1, d1, ds1, p1, q1, rfl, rfl, rfl, h1, r1⟩ := trodAll_cons r0
  obtain ⟨rfl, rfl, rfl⟩ := trodAll_nil r1
  obtain rfl : args = #[v0, v1] := by cases args; simp_all
  obtain ⟨rfl, rfl⟩ := trodVars_none hV
  have lt0 : ∀ x ∈ p0, x.block < W.heap.size := by have k := h0; obtain ⟨m, hm⟩ := k; exact DataW.trod_lt m _ _ _ hm
  obtain ⟨x0, g0, e0⟩ := Go.Px.Try.row_arg h0 (hval 0 25 v0 rfl rfl)
  have lt1 : ∀ x ∈ p1, x.block < W.heap.size := by have k := h1; obtain ⟨m, hm⟩ := k; exact DataW.trod_lt m _ _ _ hm
  obtain ⟨x1, g1, e1⟩ := Go.Px.Try.row_arg h1 (hval 1 25 v1 rfl rfl)
  clear hA0 hval0
  refine ((Go.Px.Try.PotPieces_spec x0 x1).2 (All W) W [v0, v1] (fun _ h => h) ⟨e0, e1, trivial⟩).mono fun e W' ⟨v, S', he, hr, _, _, bel⟩ => ?_
  obtain rfl : v = .bool true := hr
  subst he
  exact ⟨_, rfl, _, _, _, [], _, [], hW', trodAll_mk1 (shut_bool Try.underlying4 _), (trodAll_cons_mk (Below.trod laidOut (by kernel_rfl) (of_decide_eq_true (by kernel_rfl)) h0 bel lt0) (trodAll_cons_mk (Below.trod laidOut (by kernel_rfl) (of_decide_eq_true (by kernel_rfl)) h1 bel lt1) trodAll_mk0)), rfl, bel.frame _, fun h => by cases h⟩
theorem over : Rows.potPiecesRow.holds Try.pinned (OpenSpec.ofChange Rows.potPiecesSpec) :=
  OpenClaim.holds_of_wide 12 Try.f12 rfl rfl rfl rfl rfl rfl rfl ⟨rfl, rfl, rfl, rfl, rfl⟩ rfl rfl rfl rfl rfl (by kernel_rfl) Try.func12 (by kernel_rfl)
    (of_decide_eq_true (by kernel_rfl)) (by unfold Func.isWrapper; first | (rw [if_pos (by decide +kernel)]; kernel_rfl) | (rw [if_neg (by decide +kernel)]; exact ⟨rfl, rfl⟩))
    (fun os started H enc _ => lifted os started H enc)
theorem proved : Rows.PotPiecesSaid := over
#print axioms proved
end Go.Proofs.Ytiaeopgahkahbaa.potPiecesDone
