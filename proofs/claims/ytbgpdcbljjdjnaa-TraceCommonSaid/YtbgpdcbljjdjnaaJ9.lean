/- Texts of this proof, joined (FrT): a small program logic over the model, and what functions of the program give. No statement of the seat is proved here. -/
import Derived.Test.YtbgpdcbljjdjnaaJ3
import Derived.Test.YtbgpdcbljjdjnaaJ7
import Derived.Test.YtbgpdcbljjdjnaaJ8
set_option linter.unusedVariables false
set_option linter.unusedSimpArgs false

/-! FrT -/
namespace Go.Px.Try
open Go Go.Proofs Go.Px
theorem own : ownKnob Try.prog.godebug = none := by kernel_rfl
theorem laidOut : laidOutB Try.prog = true := by kernel_rfl
def I64 (n : Int) : Prop := (Lit.int .i64 n).wf = true
theorem I64_rng {n : Int} (h : I64 n) : -9223372036854775808 ≤ n ∧ n ≤ 9223372036854775807 := by
 simp only [I64, Lit.wf, IntKind.min, IntKind.max, Bool.and_eq_true, decide_eq_true_eq] at h
 have h1 := h.1
 have h2 := h.2
 simp [IntKind.signed, IntKind.bits] at h1 h2
 omega
theorem opnInts : Opn true Try.prog 27 (fun l : List Int => [ints l]) (fun l => (∀ n ∈ l, I64 n) ∧ l.length ≤ maxLen) :=
 Opn.slice (k := 1) Try.underlying27 (by kernel_rfl) (by decide) (fun _ => rfl) (fun a x hx => by simp at hx; rcases hx with rfl; trivial) 0 (Opn.int Try.underlying3)
theorem opnInts' : Opn false Try.prog 27 (fun l : List Int => [ints l]) (fun l => (∀ n ∈ l, I64 n) ∧ l.length ≤ maxLen) :=
 Opn.slice (k := 1) Try.underlying27 (by kernel_rfl) (by decide) (fun _ => rfl) (fun a x hx => by simp at hx; rcases hx with rfl; trivial) 0 (Opn.int Try.underlying3)
def rowsG (t : List (List Int)) : Prop := (∀ l ∈ t, (∀ n ∈ l, I64 n) ∧ l.length ≤ maxLen) ∧ t.length ≤ maxLen
theorem opnRows : Opn true Try.prog 22 (fun t : List (List Int) => [slOf 1 (fun l => elD [ints l]) [] t]) rowsG :=
 Opn.slice (k := 1) Try.underlying22 (by kernel_rfl) (by decide) (fun _ => rfl) (fun a x hx => by simp at hx; rcases hx with rfl; trivial) [] opnInts'
theorem opnMix : Opn true Try.prog 24 (fun t : List (List Int) => [rowsD t]) rowsG :=
 Opn.map (Opn.struct Try.underlying24 (by kernel_rfl) (OpnL.cons opnRows OpnL.nil)) (fun p => p.1) fun p h => ⟨rfl, h.1⟩
theorem rowsG_len {t : List (List Int)} (h : rowsG t) : t.length ≤ 9223372036854775807 ∧ ∀ w ∈ t, w.length ≤ 9223372036854775807 := by
 have h1 := h.2
 unfold maxLen at h1
 refine ⟨by omega, fun w hw => ?_⟩
 have h2 := (h.1 w hw).2
 unfold maxLen at h2; omega
set_option maxRecDepth 100000 in
/-- The statement's mix. -/
theorem mix_arg {H : Type} {enc : TypeId × Value → H} {w : World} {base : Nat} {v : Value} {d : DataW H} {ps : List MemPlace} (ht : DataW.Trod enc Try.prog w 0 (fun _ => true) true 24 v d ps) (hv : Value.okWide Try.prog w .any base 24 v) :
  ∃ F : List (List Int), (F.length ≤ 9223372036854775807 ∧ ∀ w ∈ F, w.length ≤ 9223372036854775807) ∧ Rep (All w) w (mixD F) v := by
 simp only [Value.okWide, Try.underlying24] at hv
 obtain ⟨cs, rfl, _, hrow⟩ := hv
 obtain ⟨m, hg, hc⟩ := Opn.arg opnMix ht fun _ => plain_row hrow
 exact ⟨m, rowsG_len hg, Cells.st hc⟩
set_option maxRecDepth 100000 in
/-- A list of lists. -/
theorem rows_arg {H : Type} {enc : TypeId × Value → H} {w : World} {base : Nat} {v : Value} {d : DataW H} {ps : List MemPlace} (ht : DataW.Trod enc Try.prog w 0 (fun _ => true) true 22 v d ps) (hv : Value.okWide Try.prog w .any base 22 v) :
  ∃ t : List (List Int), (t.length ≤ 9223372036854775807 ∧ ∀ w ∈ t, w.length ≤ 9223372036854775807) ∧ Rep (All w) w (slOf 1 ints [] t) v := by
 have hs := plain_slice Try.underlying22 hv
 obtain ⟨a, len, cap, rfl⟩ := Go.WideShapes.okWide_slice Try.underlying22 hv
 obtain ⟨l, hg, hc⟩ := Opn.arg opnRows ht fun _ => hs
 exact ⟨l, rowsG_len hg, hc.one rfl⟩
set_option maxRecDepth 100000 in
theorem ints_arg {H : Type} {enc : TypeId × Value → H} {w : World} {base : Nat} {v : Value} {d : DataW H} {ps : List MemPlace} (ht : DataW.Trod enc Try.prog w 0 (fun _ => true) true 27 v d ps) (hv : Value.okWide Try.prog w .any base 27 v) :
  ∃ l : List Int, ((∀ n ∈ l, I64 n) ∧ l.length ≤ maxLen) ∧ Rep (All w) w (ints l) v := by
 have hs := plain_slice Try.underlying27 hv
 obtain ⟨a, len, cap, rfl⟩ := Go.WideShapes.okWide_slice Try.underlying27 hv
 obtain ⟨l, hg, hc⟩ := Opn.arg opnInts ht fun _ => hs
 exact ⟨l, hg, hc.one rfl⟩
set_option maxRecDepth 100000 in
theorem int_arg {H : Type} {enc : TypeId × Value → H} {w : World} {base : Nat} {v : Value} {d : DataW H} {ps : List MemPlace} (ht : DataW.Trod enc Try.prog w 0 (fun _ => true) true 3 v d ps) (hv : Value.okWide Try.prog w .any base 3 v) :
  ∃ n : Int, (-9223372036854775808 ≤ n ∧ n ≤ 9223372036854775807) ∧ Rep (All w) w (int n) v := by
 obtain ⟨n, hg, hc⟩ := Opn.arg (Opn.int (q := false) Try.underlying3) ht fun h => by cases h
 obtain ⟨k, rfl⟩ := Go.WideShapes.okWide_int Try.underlying3 hv
 exact ⟨n, I64_rng hg, hc.one rfl⟩
set_option maxRecDepth 100000 in
theorem u16_arg {H : Type} {enc : TypeId × Value → H} {w : World} {base : Nat} {v : Value} {d : DataW H} {ps : List MemPlace} (ht : DataW.Trod enc Try.prog w 0 (fun _ => true) true 51 v d ps) (hv : Value.okWide Try.prog w .any base 51 v) :
  ∃ n : Nat, n < 65536 ∧ Rep (All w) w (u16 n) v := by
 obtain ⟨n, hg, hc⟩ := Opn.arg (Opn.int (q := false) Try.underlying51) ht fun h => by cases h
 obtain ⟨k, rfl⟩ := Go.WideShapes.okWide_int Try.underlying51 hv
 have hr := hc.one rfl
 simp only [Lit.wf, IntKind.min, IntKind.max, Bool.and_eq_true, decide_eq_true_eq] at hg
 have hn : n = (n.toNat : Int) := by have := hg.1; simp [IntKind.signed] at this; omega
 refine ⟨n.toNat, by have := hg.2; simp [IntKind.signed, IntKind.bits] at this; omega, ?_⟩
 rw [hn] at hr; exact hr
set_option maxRecDepth 100000 in
theorem u8_arg {H : Type} {enc : TypeId × Value → H} {w : World} {base : Nat} {v : Value} {d : DataW H} {ps : List MemPlace} (ht : DataW.Trod enc Try.prog w 0 (fun _ => true) true 5 v d ps) (hv : Value.okWide Try.prog w .any base 5 v) :
  ∃ n : Nat, n < 256 ∧ Rep (All w) w (u8 n) v := by
 obtain ⟨n, hg, hc⟩ := Opn.arg (Opn.int (q := false) Try.underlying5) ht fun h => by cases h
 obtain ⟨k, rfl⟩ := Go.WideShapes.okWide_int Try.underlying5 hv
 have hr := hc.one rfl
 simp only [Lit.wf, IntKind.min, IntKind.max, Bool.and_eq_true, decide_eq_true_eq] at hg
 have hn : n = (n.toNat : Int) := by have := hg.1; simp [IntKind.signed] at this; omega
 refine ⟨n.toNat, by have := hg.2; simp [IntKind.signed, IntKind.bits] at this; omega, ?_⟩
 rw [hn] at hr; exact hr
def U8 (n : Int) : Prop := (Lit.int .u8 n).wf = true
theorem U8_rng {n : Int} (h : U8 n) : 0 ≤ n ∧ n < 256 := by
 simp only [U8, Lit.wf, IntKind.min, IntKind.max, Bool.and_eq_true, decide_eq_true_eq] at h
 have h1 := h.1
 have h2 := h.2
 simp [IntKind.signed, IntKind.bits] at h1 h2
 omega
theorem opnU8s : Opn true Try.prog 52 (fun l : List Int => [slOf 1 (fun n => .v (.int .u8 n)) 0 l]) (fun l => (∀ n ∈ l, U8 n) ∧ l.length ≤ maxLen) :=
 Opn.slice (k := 1) Try.underlying52 (by kernel_rfl) (by decide) (fun _ => rfl) (fun a x hx => by simp at hx; rcases hx with rfl; trivial) 0 (Opn.int (q := false) Try.underlying5)
set_option maxRecDepth 100000 in
theorem u8s_arg {H : Type} {enc : TypeId × Value → H} {w : World} {base : Nat} {v : Value} {d : DataW H} {ps : List MemPlace} (ht : DataW.Trod enc Try.prog w 0 (fun _ => true) true 52 v d ps) (hv : Value.okWide Try.prog w .any base 52 v) :
  ∃ l : List Nat, ((∀ x ∈ l, x < 256) ∧ l.length ≤ maxLen) ∧ Rep (All w) w (u8s l) v := by
 have hs := plain_slice Try.underlying52 hv
 obtain ⟨a, len, cap, rfl⟩ := Go.WideShapes.okWide_slice Try.underlying52 hv
 obtain ⟨l, hg, hc⟩ := Opn.arg opnU8s ht fun _ => hs
 refine ⟨l.map Int.toNat, ⟨fun x hx => ?_, by rw [List.length_map]; exact hg.2⟩, ?_⟩
 ·obtain ⟨y, hy, rfl⟩ := List.mem_map.1 hx
  have := U8_rng (hg.1 y hy); omega
 ·have hr := hc.one rfl
  have e : u8s (l.map Int.toNat) = slOf 1 (fun n => .v (.int .u8 n)) 0 l := by
   unfold u8s slOf
   rw [List.length_map]
   congr 1
   funext i
   rw [List.getD_eq_getElem?_getD, List.getD_eq_getElem?_getD, List.getElem?_map]
   cases h : l[i]? with
   | none => rfl
   | some y =>
    have := U8_rng (hg.1 y (List.mem_of_getElem? h))
    show DV.v (.int .u8 ((y.toNat : Nat) : Int)) = .v (.int .u8 y)
    rw [Int.toNat_of_nonneg this.1]
  rw [e]; exact hr
end Go.Px.Try
