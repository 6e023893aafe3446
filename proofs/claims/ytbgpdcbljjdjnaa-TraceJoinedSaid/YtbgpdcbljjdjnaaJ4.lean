/- Texts of this proof, joined (Ty, Tm1, Tm2, Tm3, Tm4, Tm5, Tm6, Tm7, Tf1, Tm8, Tf2, Tf3, Tf4, Lib, Tf6, Tp1, Tp2): a small program logic over the model, and what functions of the program give. No statement of the seat is proved here. -/
import Derived.Test.YtbgpdcbljjdjnaaRows
import Derived.Test.YtbgpdcbljjdjnaaJ3
set_option linter.unusedVariables false
set_option linter.unusedSimpArgs false

/-! Ty -/
namespace Go.Px.Try
open Go Go.Proofs Go.Px
theorem TsOk.nil (P : Program) : TsOk P (fun _ => none) := fun _ _ h => by cases h
theorem TsOk.cons {P : Program} {t : Nat} {ti : TI} {f : Nat → Option TI} (h : TOk P ti t) (hl : TsOk P f) : TsOk P (fun j => bif Nat.beq t j then some ti else f j) := by
 intro t' ti' ht
 simp only at ht
 cases hb : Nat.beq t t' with
 | true => rw [hb] at ht; obtain rfl := Nat.eq_of_beq_eq_true hb; cases ht; exact h
 | false => rw [hb] at ht; exact hl t' ti' ht
theorem info_of {P : Program} {t : Nat} {i : TypeInfo} (h : P.types[t]? = some i) : P.info? t = some i := by
 unfold Tables.info?
 rw [if_pos (Array.getElem?_eq_some_iff.1 h).1]; exact h
theorem oneAll {cs : Array Value} (h : (cs.toList.all Value.oneCell') = true) : ∀ u ∈ cs, u.oneCell' = true := fun u hu => List.all_eq_true.1 h u (Array.mem_toList_iff.2 hu)
def ti27 : TI := ⟨TypeDesc.slice 3, Value.slice none 0 0, 1, 24, none, none⟩
def ti3 : TI := ⟨TypeDesc.int IntKind.i64, Value.int IntKind.i64 0, 1, 8, none, none⟩
def ti24 : TI := ⟨TypeDesc.struct #[{ name := "From", type := 22, offset := 0, embedded := false, tag := "", pkgPath := "", byteOffset := 0 }], Value.agg #[Value.slice none 0 0], 1, 24, none, none⟩
def ti22 : TI := ⟨TypeDesc.slice 27, Value.slice none 0 0, 1, 24, none, none⟩
def ti66 : TI := ⟨TypeDesc.struct #[{ name := "Num", type := 2, offset := 0, embedded := false, tag := "", pkgPath := "", byteOffset := 0 }, { name := "Den", type := 2, offset := 1, embedded := false, tag := "", pkgPath := "", byteOffset := 8 }], Value.agg #[Value.int IntKind.i64 0, Value.int IntKind.i64 0], 2, 16, some 2, none⟩
def ti36 : TI := ⟨TypeDesc.slice 66, Value.slice none 0 0, 1, 24, none, none⟩
def ti2 : TI := ⟨TypeDesc.int IntKind.i64, Value.int IntKind.i64 0, 1, 8, none, none⟩
def ti4 : TI := ⟨TypeDesc.bool, Value.bool false, 1, 1, none, none⟩
def ti73 : TI := ⟨TypeDesc.pointer 99, Value.pointer none, 1, 8, none, none⟩
def ti77 : TI := ⟨TypeDesc.array 10 2, Value.agg #[Value.int IntKind.i64 0, Value.int IntKind.i64 0, Value.int IntKind.i64 0, Value.int IntKind.i64 0, Value.int IntKind.i64 0, Value.int IntKind.i64 0, Value.int IntKind.i64 0, Value.int IntKind.i64 0, Value.int IntKind.i64 0, Value.int IntKind.i64 0], 10, 80, some 10, none⟩
def ti108 : TI := ⟨TypeDesc.map 112 3, Value.map none, 1, 8, none, some ⟨true, 2⟩⟩
def ti28 : TI := ⟨TypeDesc.int IntKind.i64, Value.int IntKind.i64 0, 1, 8, none, none⟩
def ti99 : TI := ⟨TypeDesc.struct #[{ name := "TraceMix", type := 24, offset := 0, embedded := true, tag := "", pkgPath := "", byteOffset := 0 }, { name := "bad", type := 27, offset := 1, embedded := false, tag := "", pkgPath := "senvy/trace", byteOffset := 24 }, { name := "lot", type := 3, offset := 2, embedded := false, tag := "", pkgPath := "senvy/trace", byteOffset := 48 }], Value.agg #[Value.slice none 0 0, Value.slice none 0 0, Value.int IntKind.i64 0], 3, 56, none, none⟩
def ti5 : TI := ⟨TypeDesc.int IntKind.u8, Value.int IntKind.u8 0, 1, 1, none, none⟩
def ti133 : TI := ⟨TypeDesc.int IntKind.u64, Value.int IntKind.u64 0, 1, 8, none, none⟩
def ti9 : TI := ⟨TypeDesc.string, Value.string { data := #[] }, 1, 16, none, none⟩
def ti112 : TI := ⟨TypeDesc.struct #[{ name := "from", type := 3, offset := 0, embedded := false, tag := "", pkgPath := "senvy/trace", byteOffset := 0 }, { name := "to", type := 3, offset := 1, embedded := false, tag := "", pkgPath := "senvy/trace", byteOffset := 8 }], Value.agg #[Value.int IntKind.i64 0, Value.int IntKind.i64 0], 2, 16, none, none⟩
def ti52 : TI := ⟨TypeDesc.slice 5, Value.slice none 0 0, 1, 24, none, none⟩
def ti51 : TI := ⟨TypeDesc.int IntKind.u16, Value.int IntKind.u16 0, 1, 2, none, none⟩
def ti79 : TI := ⟨TypeDesc.func #[3] #[4] false, Value.nilFunc, 1, 8, none, none⟩
def ti137 : TI := ⟨TypeDesc.pointer 3, Value.pointer none, 1, 8, none, none⟩
def ti107 : TI := ⟨TypeDesc.int IntKind.u64, Value.int IntKind.u64 0, 1, 8, none, none⟩
def ti101 : TI := ⟨TypeDesc.func #[79] #[] false, Value.nilFunc, 1, 8, none, none⟩
def ti95 : TI := ⟨TypeDesc.func #[27] #[4] false, Value.nilFunc, 1, 8, none, none⟩
def ti131 : TI := ⟨TypeDesc.int IntKind.u64, Value.int IntKind.u64 0, 1, 8, none, none⟩
def ti129 : TI := ⟨TypeDesc.int IntKind.u32, Value.int IntKind.u32 0, 1, 4, none, none⟩
def ti10 : TI := ⟨TypeDesc.string, Value.string { data := #[] }, 1, 16, none, none⟩
def ti16 : TI := ⟨TypeDesc.pointer 147, Value.pointer none, 1, 8, none, none⟩
def ti8 : TI := ⟨TypeDesc.struct #[{ name := "x", type := 2, offset := 0, embedded := false, tag := "", pkgPath := "runtime", byteOffset := 0 }, { name := "y", type := 3, offset := 1, embedded := false, tag := "", pkgPath := "runtime", byteOffset := 8 }, { name := "signed", type := 4, offset := 2, embedded := false, tag := "", pkgPath := "runtime", byteOffset := 16 }, { name := "code", type := 6, offset := 3, embedded := false, tag := "", pkgPath := "runtime", byteOffset := 17 }], Value.agg #[Value.int IntKind.i64 0, Value.int IntKind.i64 0, Value.bool false, Value.int IntKind.u8 0], 4, 24, none, none⟩
def ti11 : TI := ⟨TypeDesc.string, Value.string { data := #[] }, 1, 16, none, none⟩
def ti14 : TI := ⟨TypeDesc.struct #[{ name := "msg", type := 9, offset := 0, embedded := false, tag := "", pkgPath := "runtime", byteOffset := 0 }, { name := "addr", type := 12, offset := 1, embedded := false, tag := "", pkgPath := "runtime", byteOffset := 16 }], Value.agg #[Value.string { data := #[] }, Value.int IntKind.u64 0], 2, 24, none, none⟩
def ti19 : TI := ⟨TypeDesc.struct #[{ name := "typ", type := 17, offset := 0, embedded := false, tag := "", pkgPath := "internal/runtime/maps", byteOffset := 0 }], Value.agg #[Value.pointer none], 1, 8, none, none⟩
def ti15 : TI := ⟨TypeDesc.pointer 144, Value.pointer none, 1, 8, none, none⟩
def ti116 : TI := ⟨TypeDesc.func #[3, 3] #[4] false, Value.nilFunc, 1, 8, none, none⟩
def ti17 : TI := ⟨TypeDesc.pointer 156, Value.pointer none, 1, 8, none, none⟩
def ti121 : TI := ⟨TypeDesc.int IntKind.i64, Value.int IntKind.i64 0, 1, 8, none, none⟩
def ti139 : TI := ⟨TypeDesc.pointer 133, Value.pointer none, 1, 8, none, none⟩
def ti150 : TI := ⟨TypeDesc.int IntKind.u8, Value.int IntKind.u8 0, 1, 1, none, none⟩
def ti6 : TI := ⟨TypeDesc.int IntKind.u8, Value.int IntKind.u8 0, 1, 1, none, none⟩
def ti12 : TI := ⟨TypeDesc.int IntKind.u64, Value.int IntKind.u64 0, 1, 8, none, none⟩
def ti96 : TI := ⟨TypeDesc.slice 2, Value.slice none 0 0, 1, 24, none, none⟩
theorem tok27 : TOk Try.prog ti27 27 := ⟨Try.underlying27, by rw [info_of Try.type27]; rfl, rfl, oneAll rfl, fun _ => ⟨rfl, rfl⟩, nofun, nofun⟩
theorem tok3 : TOk Try.prog ti3 3 := ⟨Try.underlying3, by rw [info_of Try.type3]; rfl, rfl, oneAll rfl, fun _ => ⟨rfl, rfl⟩, nofun, nofun⟩
theorem tok24 : TOk Try.prog ti24 24 := ⟨Try.underlying24, by rw [info_of Try.type24]; rfl, rfl, oneAll rfl, nofun, nofun, nofun⟩
theorem tok22 : TOk Try.prog ti22 22 := ⟨Try.underlying22, by rw [info_of Try.type22]; rfl, rfl, oneAll rfl, fun _ => ⟨rfl, rfl⟩, nofun, nofun⟩
theorem tok66 : TOk Try.prog ti66 66 := ⟨Try.underlying66, by rw [info_of Try.type66]; rfl, rfl, oneAll rfl, nofun, fun _ h => by cases h; exact eqT_struct Try.underlying66 Try.stoodInHeld66 Try.eqGuardType66 ⟨by decide, rfl, Try.underlying2, by decide, rfl, Try.underlying2, trivial⟩, nofun⟩
theorem tok36 : TOk Try.prog ti36 36 := ⟨Try.underlying36, by rw [info_of Try.type36]; rfl, rfl, oneAll rfl, fun _ => ⟨rfl, rfl⟩, nofun, nofun⟩
theorem tok2 : TOk Try.prog ti2 2 := ⟨Try.underlying2, by rw [info_of Try.type2]; rfl, rfl, oneAll rfl, fun _ => ⟨rfl, rfl⟩, nofun, nofun⟩
theorem tok4 : TOk Try.prog ti4 4 := ⟨Try.underlying4, by rw [info_of Try.type4]; rfl, rfl, oneAll rfl, fun _ => ⟨rfl, rfl⟩, nofun, nofun⟩
theorem tok73 : TOk Try.prog ti73 73 := ⟨Try.underlying73, by rw [info_of Try.type73]; rfl, rfl, oneAll rfl, fun _ => ⟨rfl, rfl⟩, nofun, nofun⟩
theorem tok77 : TOk Try.prog ti77 77 := ⟨Try.underlying77, by rw [info_of Try.type77]; rfl, rfl, oneAll rfl, nofun, fun _ h => by cases h; exact eqT_array Try.underlying77 Try.eqGuardType77 Try.underlying2 (info_of Try.type2) rfl, nofun⟩
theorem tok108 : TOk Try.prog ti108 108 := ⟨Try.underlying108, by rw [info_of Try.type108]; rfl, rfl, oneAll rfl, fun _ => ⟨rfl, rfl⟩, nofun, fun _ h => by cases h; exact mapT Try.underlying108 (keyOk_struct Try.underlying112 Try.stoodInHeld112 Try.eqGuardType112 ⟨by decide, rfl, Try.underlying3, by decide, rfl, Try.underlying3, trivial⟩) fun w => Try.zeroValue3 w⟩
theorem tok28 : TOk Try.prog ti28 28 := ⟨Try.underlying28, by rw [info_of Try.type28]; rfl, rfl, oneAll rfl, fun _ => ⟨rfl, rfl⟩, nofun, nofun⟩
theorem tok99 : TOk Try.prog ti99 99 := ⟨Try.underlying99, by rw [info_of Try.type99]; rfl, rfl, oneAll rfl, nofun, nofun, nofun⟩
theorem tok5 : TOk Try.prog ti5 5 := ⟨Try.underlying5, by rw [info_of Try.type5]; rfl, rfl, oneAll rfl, fun _ => ⟨rfl, rfl⟩, nofun, nofun⟩
theorem tok133 : TOk Try.prog ti133 133 := ⟨Try.underlying133, by rw [info_of Try.type133]; rfl, rfl, oneAll rfl, fun _ => ⟨rfl, rfl⟩, nofun, nofun⟩
theorem tok9 : TOk Try.prog ti9 9 := ⟨Try.underlying9, by rw [info_of Try.type9]; rfl, rfl, oneAll rfl, fun _ => ⟨rfl, rfl⟩, nofun, nofun⟩
theorem tok112 : TOk Try.prog ti112 112 := ⟨Try.underlying112, by rw [info_of Try.type112]; rfl, rfl, oneAll rfl, nofun, nofun, nofun⟩
theorem tok52 : TOk Try.prog ti52 52 := ⟨Try.underlying52, by rw [info_of Try.type52]; rfl, rfl, oneAll rfl, fun _ => ⟨rfl, rfl⟩, nofun, nofun⟩
theorem tok51 : TOk Try.prog ti51 51 := ⟨Try.underlying51, by rw [info_of Try.type51]; rfl, rfl, oneAll rfl, fun _ => ⟨rfl, rfl⟩, nofun, nofun⟩
theorem tok79 : TOk Try.prog ti79 79 := ⟨Try.underlying79, by rw [info_of Try.type79]; rfl, rfl, oneAll rfl, fun _ => ⟨rfl, rfl⟩, nofun, nofun⟩
theorem tok137 : TOk Try.prog ti137 137 := ⟨Try.underlying137, by rw [info_of Try.type137]; rfl, rfl, oneAll rfl, fun _ => ⟨rfl, rfl⟩, nofun, nofun⟩
theorem tok107 : TOk Try.prog ti107 107 := ⟨Try.underlying107, by rw [info_of Try.type107]; rfl, rfl, oneAll rfl, fun _ => ⟨rfl, rfl⟩, nofun, nofun⟩
theorem tok101 : TOk Try.prog ti101 101 := ⟨Try.underlying101, by rw [info_of Try.type101]; rfl, rfl, oneAll rfl, fun _ => ⟨rfl, rfl⟩, nofun, nofun⟩
theorem tok95 : TOk Try.prog ti95 95 := ⟨Try.underlying95, by rw [info_of Try.type95]; rfl, rfl, oneAll rfl, fun _ => ⟨rfl, rfl⟩, nofun, nofun⟩
theorem tok131 : TOk Try.prog ti131 131 := ⟨Try.underlying131, by rw [info_of Try.type131]; rfl, rfl, oneAll rfl, fun _ => ⟨rfl, rfl⟩, nofun, nofun⟩
theorem tok129 : TOk Try.prog ti129 129 := ⟨Try.underlying129, by rw [info_of Try.type129]; rfl, rfl, oneAll rfl, fun _ => ⟨rfl, rfl⟩, nofun, nofun⟩
theorem tok10 : TOk Try.prog ti10 10 := ⟨Try.underlying10, by rw [info_of Try.type10]; rfl, rfl, oneAll rfl, fun _ => ⟨rfl, rfl⟩, nofun, nofun⟩
theorem tok16 : TOk Try.prog ti16 16 := ⟨Try.underlying16, by rw [info_of Try.type16]; rfl, rfl, oneAll rfl, fun _ => ⟨rfl, rfl⟩, nofun, nofun⟩
theorem tok8 : TOk Try.prog ti8 8 := ⟨Try.underlying8, by rw [info_of Try.type8]; rfl, rfl, oneAll rfl, nofun, nofun, nofun⟩
theorem tok11 : TOk Try.prog ti11 11 := ⟨Try.underlying11, by rw [info_of Try.type11]; rfl, rfl, oneAll rfl, fun _ => ⟨rfl, rfl⟩, nofun, nofun⟩
theorem tok14 : TOk Try.prog ti14 14 := ⟨Try.underlying14, by rw [info_of Try.type14]; rfl, rfl, oneAll rfl, nofun, nofun, nofun⟩
theorem tok19 : TOk Try.prog ti19 19 := ⟨Try.underlying19, by rw [info_of Try.type19]; rfl, rfl, oneAll rfl, nofun, nofun, nofun⟩
theorem tok15 : TOk Try.prog ti15 15 := ⟨Try.underlying15, by rw [info_of Try.type15]; rfl, rfl, oneAll rfl, fun _ => ⟨rfl, rfl⟩, nofun, nofun⟩
theorem tok116 : TOk Try.prog ti116 116 := ⟨Try.underlying116, by rw [info_of Try.type116]; rfl, rfl, oneAll rfl, fun _ => ⟨rfl, rfl⟩, nofun, nofun⟩
theorem tok17 : TOk Try.prog ti17 17 := ⟨Try.underlying17, by rw [info_of Try.type17]; rfl, rfl, oneAll rfl, fun _ => ⟨rfl, rfl⟩, nofun, nofun⟩
theorem tok121 : TOk Try.prog ti121 121 := ⟨Try.underlying121, by rw [info_of Try.type121]; rfl, rfl, oneAll rfl, fun _ => ⟨rfl, rfl⟩, nofun, nofun⟩
theorem tok139 : TOk Try.prog ti139 139 := ⟨Try.underlying139, by rw [info_of Try.type139]; rfl, rfl, oneAll rfl, fun _ => ⟨rfl, rfl⟩, nofun, nofun⟩
theorem tok150 : TOk Try.prog ti150 150 := ⟨Try.underlying150, by rw [info_of Try.type150]; rfl, rfl, oneAll rfl, fun _ => ⟨rfl, rfl⟩, nofun, nofun⟩
theorem tok6 : TOk Try.prog ti6 6 := ⟨Try.underlying6, by rw [info_of Try.type6]; rfl, rfl, oneAll rfl, fun _ => ⟨rfl, rfl⟩, nofun, nofun⟩
theorem tok12 : TOk Try.prog ti12 12 := ⟨Try.underlying12, by rw [info_of Try.type12]; rfl, rfl, oneAll rfl, fun _ => ⟨rfl, rfl⟩, nofun, nofun⟩
theorem tok96 : TOk Try.prog ti96 96 := ⟨Try.underlying96, by rw [info_of Try.type96]; rfl, rfl, oneAll rfl, fun _ => ⟨rfl, rfl⟩, nofun, nofun⟩
def T (j : Nat) : Option TI :=
 bif Nat.beq 27 j then some ti27 else
 bif Nat.beq 3 j then some ti3 else
 bif Nat.beq 24 j then some ti24 else
 bif Nat.beq 22 j then some ti22 else
 bif Nat.beq 66 j then some ti66 else
 bif Nat.beq 36 j then some ti36 else
 bif Nat.beq 2 j then some ti2 else
 bif Nat.beq 4 j then some ti4 else
 bif Nat.beq 73 j then some ti73 else
 bif Nat.beq 77 j then some ti77 else
 bif Nat.beq 108 j then some ti108 else
 bif Nat.beq 28 j then some ti28 else
 bif Nat.beq 99 j then some ti99 else
 bif Nat.beq 5 j then some ti5 else
 bif Nat.beq 133 j then some ti133 else
 bif Nat.beq 9 j then some ti9 else
 bif Nat.beq 112 j then some ti112 else
 bif Nat.beq 52 j then some ti52 else
 bif Nat.beq 51 j then some ti51 else
 bif Nat.beq 79 j then some ti79 else
 bif Nat.beq 137 j then some ti137 else
 bif Nat.beq 107 j then some ti107 else
 bif Nat.beq 101 j then some ti101 else
 bif Nat.beq 95 j then some ti95 else
 bif Nat.beq 131 j then some ti131 else
 bif Nat.beq 129 j then some ti129 else
 bif Nat.beq 10 j then some ti10 else
 bif Nat.beq 16 j then some ti16 else
 bif Nat.beq 8 j then some ti8 else
 bif Nat.beq 11 j then some ti11 else
 bif Nat.beq 14 j then some ti14 else
 bif Nat.beq 19 j then some ti19 else
 bif Nat.beq 15 j then some ti15 else
 bif Nat.beq 116 j then some ti116 else
 bif Nat.beq 17 j then some ti17 else
 bif Nat.beq 121 j then some ti121 else
 bif Nat.beq 139 j then some ti139 else
 bif Nat.beq 150 j then some ti150 else
 bif Nat.beq 6 j then some ti6 else
 bif Nat.beq 12 j then some ti12 else
 bif Nat.beq 96 j then some ti96 else
 none
theorem tys : TsOk Try.prog T := TsOk.cons tok27 (TsOk.cons tok3 (TsOk.cons tok24 (TsOk.cons tok22 (TsOk.cons tok66 (TsOk.cons tok36 (TsOk.cons tok2 (TsOk.cons tok4 (TsOk.cons tok73 (TsOk.cons tok77 (TsOk.cons tok108 (TsOk.cons tok28 (TsOk.cons tok99 (TsOk.cons tok5 (TsOk.cons tok133 (TsOk.cons tok9 (TsOk.cons tok112 (TsOk.cons tok52 (TsOk.cons tok51 (TsOk.cons tok79 (TsOk.cons tok137 (TsOk.cons tok107 (TsOk.cons tok101 (TsOk.cons tok95 (TsOk.cons tok131 (TsOk.cons tok129 (TsOk.cons tok10 (TsOk.cons tok16 (TsOk.cons tok8 (TsOk.cons tok11 (TsOk.cons tok14 (TsOk.cons tok19 (TsOk.cons tok15 (TsOk.cons tok116 (TsOk.cons tok17 (TsOk.cons tok121 (TsOk.cons tok139 (TsOk.cons tok150 (TsOk.cons tok6 (TsOk.cons tok12 (TsOk.cons tok96 (TsOk.nil _)))))))))))))))))))))))))))))))))))))))))
end Go.Px.Try

/-! Tm1 -/
namespace Go.Px.Try
open Go Go.Proofs Go.Px
/-! ### Sums -/
def sm (f : Nat → Int) : Nat → Int
 | 0 => 0
 | n + 1 => sm f n + f n
theorem sm_congr {f g : Nat → Int} : ∀ {n : Nat}, (∀ i, i < n → f i = g i) → sm f n = sm g n
 | 0, _ => rfl
 | n + 1, h => by rw [sm, sm, sm_congr fun i hi => h i (by omega), h n (by omega)]
theorem sm_add (f g : Nat → Int) : ∀ n, sm (fun i => f i + g i) n = sm f n + sm g n
 | 0 => rfl
 | n + 1 => by rw [sm, sm, sm, sm_add f g n]; omega
theorem sm_neg (f : Nat → Int) : ∀ n, sm (fun i => - f i) n = - sm f n
 | 0 => rfl
 | n + 1 => by rw [sm, sm, sm_neg f n]; omega
theorem sm_zero {f : Nat → Int} {n : Nat} (h : ∀ i, i < n → f i = 0) : sm f n = 0 := by
 rw [sm_congr (g := fun _ => 0) h]
 induction n with
 | zero => rfl
 | succ n ih => rw [sm, ih fun i hi => h i (by omega)]; rfl
theorem sm_nn {f : Nat → Int} : ∀ {n : Nat}, (∀ i, i < n → 0 ≤ f i) → 0 ≤ sm f n
 | 0, _ => Int.le_refl _
 | n + 1, h => by
  have := sm_nn (f := f) (n := n) fun i hi => h i (by omega)
  have := h n (by omega)
  rw [sm]; omega
theorem sm_le {f g : Nat → Int} : ∀ {n : Nat}, (∀ i, i < n → f i ≤ g i) → sm f n ≤ sm g n
 | 0, _ => Int.le_refl _
 | n + 1, h => by
  have := sm_le (f := f) (g := g) (n := n) fun i hi => h i (by omega)
  have := h n (by omega)
  rw [sm, sm]; omega
theorem sm_one {f : Nat → Int} {k : Nat} (h : ∀ i, i ≠ k → f i = 0) : ∀ {n : Nat}, k < n → sm f n = f k
 | n + 1, hk => by
  rw [sm]
  by_cases e : k = n
  ·subst e; rw [sm_zero fun i hi => h i (by omega)]; omega
  ·rw [sm_one h (by omega), h n (fun h' => e h'.symm)]; omega
theorem sm_swap (f : Nat → Nat → Int) (m : Nat) : ∀ n, sm (fun i => sm (f i) m) n = sm (fun j => sm (fun i => f i j) n) m
 | 0 => by rw [sm]; exact (sm_zero fun i _ => rfl).symm
 | n + 1 => by rw [sm, sm_swap f m n, ← sm_add]; exact sm_congr fun i _ => rfl
theorem sm_ge_one {f : Nat → Int} {k : Nat} : ∀ {n : Nat}, (∀ i, i < n → 0 ≤ f i) → k < n → f k ≤ sm f n
 | n + 1, h, hk => by
  rw [sm]
  by_cases e : k = n
  ·subst e; have := sm_nn (f := f) (n := k) fun i hi => h i (by omega); omega
  ·have := sm_ge_one (f := f) (k := k) (n := n) (fun i hi => h i (by omega)) (by omega)
   have := h n (by omega); omega
theorem sm_split (f : Nat → Int) (n : Nat) : ∀ m, sm f (n + m) = sm f n + sm (fun i => f (n + i)) m
 | 0 => by simp [sm]
 | m + 1 => by rw [← Nat.add_assoc, sm, sm, sm_split f n m]; omega
/-- Sums over pairs: points that begin and end a node. -/
theorem sm_pairs (f : Nat → Int) : ∀ n, sm f (2 * n) = sm (fun i => f (2 * i) + f (2 * i + 1)) n
 | 0 => rfl
 | n + 1 => by rw [show 2 * (n + 1) = 2 * n + 1 + 1 by omega, sm, sm, sm_pairs f n, sm]; omega
/-! ### Flows: N points, the first one of which is 0; cap: how much can flow along an edge; φ: what flows (back: as much less) -/
structure Flow (N : Nat) (t : Nat) (cap φ : Nat → Nat → Int) (v : Int) : Prop where
 skew : ∀ a b, φ a b = - φ b a
 le : ∀ a b, φ a b ≤ cap a b
 net : ∀ a, a < N → sm (φ a) N = if a = 0 then v else if a = t then - v else 0
/-- One edge more. -/
def push (φ : Nat → Nat → Int) (a b : Nat) : Nat → Nat → Int := fun x y => if x = a ∧ y = b then φ x y + 1 else if x = b ∧ y = a then φ x y - 1 else φ x y
theorem push_skew {φ : Nat → Nat → Int} (h : ∀ a b, φ a b = - φ b a) {a b : Nat} (hab : a ≠ b) : ∀ x y, push φ a b x y = - push φ a b y x := fun x y => by
 have hs := h x y
 unfold push
 by_cases h1 : x = a ∧ y = b
 ·rw [if_pos h1, if_neg (fun e : y = a ∧ x = b => hab (by omega)), if_pos ⟨h1.2, h1.1⟩]; omega
 ·rw [if_neg h1]
  by_cases h2 : x = b ∧ y = a
  ·rw [if_pos h2, if_pos ⟨h2.2, h2.1⟩]; omega
  ·rw [if_neg h2, if_neg (fun e : y = a ∧ x = b => h2 ⟨e.2, e.1⟩), if_neg (fun e : y = b ∧ x = a => h1 ⟨e.2, e.1⟩)]; exact hs
theorem sm_upd {f g : Nat → Int} {k : Nat} {d : Int} (h : ∀ i, i ≠ k → g i = f i) (hk : g k = f k + d) : ∀ {n : Nat}, k < n → sm g n = sm f n + d
 | n + 1, hn => by
  rw [sm, sm]
  by_cases e : k = n
  ·subst e; rw [sm_congr fun i hi => h i (by omega), hk]; omega
  ·rw [sm_upd h hk (by omega), h n (fun h' => e h'.symm)]; omega
theorem push_net {φ : Nat → Nat → Int} {a b N : Nat} (hab : a ≠ b) (ha : a < N) (hb : b < N) (x : Nat) : sm (push φ a b x) N = sm (φ x) N + (if x = a then 1 else 0) - (if x = b then 1 else 0) := by
 by_cases h1 : x = a
 ·subst h1
  have q1 : ∀ i, i ≠ b → push φ x b x i = φ x i := fun i hi => by unfold push; rw [if_neg (fun e => hi e.2), if_neg (fun e => hab e.1)]
  have q2 : push φ x b x b = φ x b + 1 := by unfold push; rw [if_pos ⟨rfl, rfl⟩]
  rw [sm_upd q1 q2 hb, if_pos rfl, if_neg hab]
  omega
 ·by_cases h2 : x = b
  ·subst h2
   have q1 : ∀ i, i ≠ a → push φ a x x i = φ x i := fun i hi => by unfold push; rw [if_neg (fun e => h1 e.1), if_neg (fun e => hi e.2)]
   have q2 : push φ a x x a = φ x a + -1 := by unfold push; rw [if_neg (fun e => h1 e.1), if_pos ⟨rfl, rfl⟩]; omega
   rw [sm_upd q1 q2 ha, if_neg h1, if_pos rfl]
   omega
  ·rw [if_neg h1, if_neg h2]
   have : sm (push φ a b x) N = sm (φ x) N := sm_congr fun i _ => by unfold push; rw [if_neg (fun e => h1 e.1), if_neg (fun e => h2 e.1)]
   omega
/-- More along a row of edges. -/
def pushes (φ : Nat → Nat → Int) : List Nat → Nat → Nat → Int
 | a :: b :: l => pushes (push φ a b) (b :: l)
 | _ => φ
/-- A row of edges with room. -/
def roomy (cap φ : Nat → Nat → Int) : List Nat → Prop
 | a :: b :: l => φ a b < cap a b ∧ roomy cap φ (b :: l)
 | _ => True
theorem roomy_congr {cap φ ψ : Nat → Nat → Int} : ∀ {l : List Nat} {a : Nat}, (∀ x y, x ≠ a → y ≠ a → ψ x y = φ x y) → a ∉ l → roomy cap φ l → roomy cap ψ l
 | [], _, _, _, _ => trivial
 | [_], _, _, _, _ => trivial
 | x :: y :: l, a, h, ha, hr => by
  obtain ⟨h1, h2⟩ := hr
  refine ⟨?_, roomy_congr h (fun hm => ha (List.mem_cons_of_mem _ hm)) h2⟩
  rw [h x y (fun e => ha (by rw [e]; exact List.mem_cons_self ..)) (fun e => ha (by rw [e]; exact List.mem_cons_of_mem _ (List.mem_cons_self ..)))]
  exact h1
theorem pushes_ok {N : Nat} {cap : Nat → Nat → Int} (hcap : ∀ a b, 0 ≤ cap a b) : ∀ (l : List Nat) (φ : Nat → Nat → Int) (a : Nat), (∀ a b, φ a b = - φ b a) → (∀ a b, φ a b ≤ cap a b) → roomy cap φ (a :: l) → (a :: l).Nodup → (∀ x ∈ a :: l, x < N) →
  (∀ x y, pushes φ (a :: l) x y = - pushes φ (a :: l) y x) ∧ (∀ x y, pushes φ (a :: l) x y ≤ cap x y) ∧ ∀ x, sm (pushes φ (a :: l) x) N = sm (φ x) N + (if x = a then 1 else 0) - (if x = (a :: l).getLast (List.cons_ne_nil _ _) then 1 else 0)
 | [], φ, a, hs, hl, _, _, _ => ⟨hs, hl, fun x => by show sm (φ x) N = sm (φ x) N + _ - _; rw [List.getLast_singleton]; omega⟩
 | b :: l, φ, a, hs, hl, hr, hn, hN => by
  obtain ⟨h1, h2⟩ := hr
  have hab : a ≠ b := fun e => by
   rw [List.nodup_cons] at hn; exact hn.1 (by rw [e]; exact List.mem_cons_self ..)
  have ha : a ∉ b :: l := (List.nodup_cons.1 hn).1
  have hle : ∀ x y, push φ a b x y ≤ cap x y := fun x y => by
   unfold push
   split
   ·rename_i e; rw [e.1, e.2]; omega
   ·split
    ·have := hl x y; omega
    ·exact hl x y
  have hro : roomy cap (push φ a b) (b :: l) := roomy_congr (a := a) (fun x y hx hy => by unfold push; rw [if_neg (fun e => hx e.1), if_neg (fun e => hy e.2)]) ha h2
  obtain ⟨i1, i2, i3⟩ := pushes_ok hcap l (push φ a b) b (push_skew hs hab) hle hro (List.nodup_cons.1 hn).2 fun x hx => hN x (List.mem_cons_of_mem _ hx)
  refine ⟨i1, i2, fun x => ?_⟩
  show sm (pushes (push φ a b) (b :: l) x) N = _
  rw [i3 x, push_net hab (hN a (List.mem_cons_self ..)) (hN b (by simp)), List.getLast_cons (List.cons_ne_nil _ _)]
  omega
/-- One more can flow. -/
theorem Flow.more {N t : Nat} {cap φ : Nat → Nat → Int} {v : Int} (h : Flow N t cap φ v) (hcap : ∀ a b, 0 ≤ cap a b) (ht : t ≠ 0) {l : List Nat} (hr : roomy cap φ (0 :: l)) (hn : (0 :: l).Nodup) (hN : ∀ x ∈ 0 :: l, x < N) (hlast : (0 :: l).getLast (List.cons_ne_nil _ _) = t) : Flow N t cap (pushes φ (0 :: l)) (v + 1) := by
 obtain ⟨h1, h2, h3⟩ := pushes_ok hcap l φ 0 h.skew h.le hr hn hN
 refine ⟨h1, h2, fun a ha => ?_⟩
 rw [h3, h.net a ha, hlast]
 by_cases e : a = 0
 ·subst e; rw [if_pos rfl, if_pos rfl, if_neg (Ne.symm ht), if_pos rfl]; omega
 ·by_cases e2 : a = t
  ·subst e2; simp [e]; omega
  ·simp [e, e2]
/-- What flows is what goes out of a set of points. -/
theorem Flow.cross {N t : Nat} {cap φ : Nat → Nat → Int} {v : Int} (h : Flow N t cap φ v) (h0 : 0 < N) {R : Nat → Bool} (hR : R 0 = true) (ht : R t = false) (hfull : ∀ a b, a < N → b < N → R a = true → R b = false → φ a b = cap a b) :
  v = sm (fun a => sm (fun b => if R a = true ∧ R b = false then cap a b else 0) N) N := by
 have e1 : sm (fun a => if R a = true then sm (φ a) N else 0) N = v := by
  rw [sm_one (f := fun a => if a < N then (if R a = true then sm (φ a) N else 0) else 0) (k := 0) (n := N) (fun i hi => ?_) h0 |> fun e => (sm_congr (g := fun a => if a < N then (if R a = true then sm (φ a) N else 0) else 0) (fun i hi => (if_pos hi).symm)).trans e]
  ·rw [if_pos h0, if_pos hR, h.net 0 h0, if_pos rfl]
  ·by_cases hiN : i < N
   ·rw [if_pos hiN]
    by_cases hRi : R i = true
    ·rw [if_pos hRi, h.net i hiN, if_neg hi, if_neg (fun e => by rw [e, ht] at hRi; cases hRi)]
    ·rw [if_neg hRi]
   ·rw [if_neg hiN]
 have e2 : sm (fun a => if R a = true then sm (φ a) N else 0) N = sm (fun a => sm (fun b => if R a = true ∧ R b = true then φ a b else 0) N) N + sm (fun a => sm (fun b => if R a = true ∧ R b = false then φ a b else 0) N) N := by
  rw [← sm_add]
  refine sm_congr fun a _ => ?_
  rw [← sm_add]
  by_cases hRa : R a = true
  ·rw [if_pos hRa]
   refine sm_congr fun b _ => ?_
   cases hRb : R b <;> simp [hRa]
  ·rw [if_neg hRa]
   exact (sm_zero fun b _ => by simp [hRa]).symm
 have e3 : sm (fun a => sm (fun b => if R a = true ∧ R b = true then φ a b else 0) N) N = 0 := by
  have hsw := sm_swap (fun a b => if R a = true ∧ R b = true then φ a b else 0) N N
  have hneg : sm (fun j => sm (fun i => if R i = true ∧ R j = true then φ i j else 0) N) N = - sm (fun a => sm (fun b => if R a = true ∧ R b = true then φ a b else 0) N) N := by
   rw [← sm_neg]
   refine sm_congr fun j _ => ?_
   rw [← sm_neg]
   refine sm_congr fun i _ => ?_
   by_cases hh : R i = true ∧ R j = true
   ·rw [if_pos hh, if_pos ⟨hh.2, hh.1⟩]; exact h.skew i j
   ·rw [if_neg hh, if_neg (fun e => hh ⟨e.2, e.1⟩)]; rfl
  omega
 have e4 : sm (fun a => sm (fun b => if R a = true ∧ R b = false then φ a b else 0) N) N = sm (fun a => sm (fun b => if R a = true ∧ R b = false then cap a b else 0) N) N := by
  refine sm_congr fun a ha => sm_congr fun b hb => ?_
  by_cases hh : R a = true ∧ R b = false
  ·rw [if_pos hh, if_pos hh]; exact hfull a b ha hb hh.1 hh.2
  ·rw [if_neg hh, if_neg hh]
 omega
end Go.Px.Try

/-! Tm2 -/
namespace Go.Px.Try
open Go Go.Proofs Go.Px
def frm (F : List (List Int)) (i : Nat) : List Int := F.getD i []
/-- Of each node's list all have a lesser index. -/
structure MixOk (F : List (List Int)) : Prop where
 l1 : 1 ≤ F.length
 l10 : F.length ≤ 10
 ris : ∀ i, i < F.length → (∀ x ∈ frm F i, 0 ≤ x ∧ x < i) ∧ (frm F i).Pairwise (· < ·)
/-- A bad way comes to a node, without some nodes. -/
def frF (F : List (List Int)) (bad : Nat → Bool) (W : Nat → Bool) : Nat → Nat → Bool
 | 0, _ => false
 | f + 1, i => !W i && (if frm F i = [] then bad i else (frm F i).any fun k => frF F bad W f k.toNat)
theorem frF_more {F : List (List Int)} (h : MixOk F) (bad W : Nat → Bool) : ∀ (f g i : Nat), i < f → i < g → i < F.length → frF F bad W f i = frF F bad W g i
 | 0, _, _, h, _, _ => by omega
 | _, 0, _, _, h, _ => by omega
 | f + 1, g + 1, i, hf, hg, hi => by
  rw [frF, frF]
  congr 1
  by_cases e : frm F i = []
  ·rw [if_pos e, if_pos e]
  ·rw [if_neg e, if_neg e, Bool.eq_iff_iff, List.any_eq_true, List.any_eq_true]
   have key : ∀ k ∈ frm F i, frF F bad W f k.toNat = frF F bad W g k.toNat := fun k hk => by
    have := (h.ris i hi).1 k hk
    exact frF_more h bad W f g k.toNat (by omega) (by omega) (by omega)
   constructor
   ·rintro ⟨k, hk, hh⟩; exact ⟨k, hk, by rw [← key k hk]; exact hh⟩
   ·rintro ⟨k, hk, hh⟩; exact ⟨k, hk, by rw [key k hk]; exact hh⟩
def fr (F : List (List Int)) (bad W : Nat → Bool) (i : Nat) : Bool := frF F bad W (i + 1) i
theorem fr_eq {F : List (List Int)} (h : MixOk F) (bad W : Nat → Bool) {i : Nat} (hi : i < F.length) : fr F bad W i = (!W i && (if frm F i = [] then bad i else (frm F i).any fun k => fr F bad W k.toNat)) := by
 unfold fr
 rw [frF]
 congr 1
 by_cases e : frm F i = []
 ·rw [if_pos e, if_pos e]
 ·rw [if_neg e, if_neg e, Bool.eq_iff_iff, List.any_eq_true, List.any_eq_true]
  have key : ∀ k ∈ frm F i, frF F bad W i k.toNat = frF F bad W (k.toNat + 1) k.toNat := fun k hk => by
   have := (h.ris i hi).1 k hk
   exact frF_more h bad W _ _ k.toNat (by omega) (by omega) (by omega)
  constructor
  ·rintro ⟨k, hk, hh⟩; exact ⟨k, hk, by rw [← key k hk]; exact hh⟩
  ·rintro ⟨k, hk, hh⟩; exact ⟨k, hk, by rw [key k hk]; exact hh⟩
theorem fr_true {F : List (List Int)} (h : MixOk F) {bad W : Nat → Bool} {i : Nat} (hi : i < F.length) : fr F bad W i = true ↔ W i = false ∧ ((frm F i = [] ∧ bad i = true) ∨ ∃ k : Nat, (k : Int) ∈ frm F i ∧ fr F bad W k = true) := by
 rw [fr_eq h bad W hi, Bool.and_eq_true, Bool.not_eq_true']
 refine and_congr_right fun _ => ?_
 by_cases e : frm F i = []
 ·rw [if_pos e]
  constructor
  ·intro hb; exact .inl ⟨e, hb⟩
  ·rintro (⟨_, hb⟩ | ⟨k, hk, _⟩)
   ·exact hb
   ·rw [e] at hk; cases hk
 ·rw [if_neg e, List.any_eq_true]
  constructor
  ·rintro ⟨k, hk, hh⟩
   have := (h.ris i hi).1 k hk
   exact .inr ⟨k.toNat, by rw [Int.toNat_of_nonneg this.1]; exact hk, hh⟩
  ·rintro (⟨e', _⟩ | ⟨k, hk, hh⟩)
   ·exact absurd e' e
   ·exact ⟨(k : Int), hk, by rw [Int.toNat_natCast]; exact hh⟩
/-! ### Edges -/
def pin (i : Nat) : Nat := 1 + 2 * i
def pout (i : Nat) : Nat := 2 + 2 * i
/-- An edge from a point to another one. -/
def edgeB (F : List (List Int)) (bad W : Nat → Bool) (lot : Nat) (u v : Nat) : Bool :=
 if u = 0 then (decide (v % 2 = 1) && decide ((v - 1) / 2 < F.length) && bad ((v - 1) / 2))
 else if u % 2 = 1 then (decide (v = u + 1) && decide ((u - 1) / 2 < F.length) && decide ((u - 1) / 2 ≠ lot) && !W ((u - 1) / 2))
 else (decide (v % 2 = 1) && decide ((v - 1) / 2 < F.length) && decide (((((u - 2) / 2 : Nat)) : Int) ∈ frm F ((v - 1) / 2)))
def capB (F : List (List Int)) (bad W : Nat → Bool) (lot : Nat) (u v : Nat) : Int := if edgeB F bad W lot u v = true then 1 else 0
theorem edge_src {F : List (List Int)} {bad W : Nat → Bool} {lot i : Nat} : edgeB F bad W lot 0 (pin i) = true ↔ i < F.length ∧ bad i = true := by
 unfold edgeB pin
 rw [if_pos rfl, show (1 + 2 * i - 1) / 2 = i by omega]
 simp only [Bool.and_eq_true, decide_eq_true_eq]
 exact ⟨fun h => ⟨h.1.2, h.2⟩, fun h => ⟨⟨by omega, h.1⟩, h.2⟩⟩
theorem edge_in {F : List (List Int)} {bad W : Nat → Bool} {lot i : Nat} : edgeB F bad W lot (pin i) (pout i) = true ↔ i < F.length ∧ i ≠ lot ∧ W i = false := by
 unfold edgeB pin pout
 rw [if_neg (by omega), if_pos (by omega), show (1 + 2 * i - 1) / 2 = i by omega]
 simp only [Bool.and_eq_true, decide_eq_true_eq, Bool.not_eq_true']
 exact ⟨fun h => ⟨h.1.1.2, h.1.2, h.2⟩, fun h => ⟨⟨⟨by omega, h.1⟩, h.2.1⟩, h.2.2⟩⟩
theorem edge_out {F : List (List Int)} {bad W : Nat → Bool} {lot k i : Nat} : edgeB F bad W lot (pout k) (pin i) = true ↔ i < F.length ∧ (k : Int) ∈ frm F i := by
 unfold edgeB pin pout
 rw [if_neg (by omega), if_neg (by omega), show (1 + 2 * i - 1) / 2 = i by omega, show (2 + 2 * k - 2) / 2 = k by omega]
 simp only [Bool.and_eq_true, decide_eq_true_eq]
 exact ⟨fun h => ⟨h.1.2, h.2⟩, fun h => ⟨⟨by omega, h.1⟩, h.2⟩⟩
theorem cap_nn (F : List (List Int)) (bad W : Nat → Bool) (lot u v : Nat) : 0 ≤ capB F bad W lot u v := by unfold capB; split <;> omega
theorem cap_src0 {F : List (List Int)} {bad W : Nat → Bool} {lot v : Nat} (h : v % 2 = 0) : capB F bad W lot 0 v = 0 := by
 unfold capB edgeB
 rw [if_pos rfl, decide_eq_false (show ¬ v % 2 = 1 by omega)]; simp
theorem cap_one {F : List (List Int)} {bad W : Nat → Bool} {lot u v : Nat} (h : edgeB F bad W lot u v = true) : capB F bad W lot u v = 1 := if_pos h
theorem sm_points (f : Nat → Int) : ∀ n, sm f (1 + 2 * n) = f 0 + sm (fun i => f (pin i) + f (pout i)) n
 | 0 => by simp [sm]
 | n + 1 => by
  rw [show 1 + 2 * (n + 1) = (1 + 2 * n) + 1 + 1 by omega, sm, sm, sm_points f n, sm]
  have e1 : pin n = 1 + 2 * n := rfl
  have e2 : pout n = 1 + 2 * n + 1 := by unfold pout; omega
  rw [e1, e2]; omega
/-- How many nodes of a set. -/
def cntS (C : Nat → Bool) (n : Nat) : Int := sm (fun i => if C i = true then 1 else 0) n
/-- Where nothing more flows there is a cut of no more nodes than what flows. -/
theorem ex_cut {F : List (List Int)} (h : MixOk F) {bad W : Nat → Bool} {lot : Nat} (hlot : lot < F.length) (hne : frm F lot ≠ []) (hbad : ∀ i, bad i = true → frm F i = []) {φ : Nat → Nat → Int} {v : Int}
  (hf : Flow (1 + 2 * F.length) (pin lot) (capB F bad W lot) φ v) {R : Nat → Bool} (h0 : R 0 = true) (ht : R (pin lot) = false) (hfull : ∀ a b, a < 1 + 2 * F.length → b < 1 + 2 * F.length → R a = true → R b = false → φ a b = capB F bad W lot a b) :
  ∃ C : Nat → Bool, (∀ i, C i = true → i < F.length ∧ i ≠ lot) ∧ cntS C F.length ≤ v ∧ fr F bad (fun i => W i || C i) lot = false := by
 have hv := hf.cross (by omega) h0 ht hfull
 -- what crosses, from a point
 generalize hX : (fun a b => if R a = true ∧ R b = false then capB F bad W lot a b else 0) = X at hv
 have hXe : ∀ a b, X a b = if R a = true ∧ R b = false then capB F bad W lot a b else 0 := fun a b => by rw [← hX]
 have hXn : ∀ a b, 0 ≤ X a b := fun a b => by rw [hXe]; split; exact cap_nn ..; exact Int.le_refl _
 have hv2 : v = sm (fun a => sm (X a) (1 + 2 * F.length)) (1 + 2 * F.length) := by rw [hv, ← hX]
 have hrow0 : sm (X 0) (1 + 2 * F.length) = sm (fun i => X 0 (pin i)) F.length := by
  rw [sm_points]
  have e0 : X 0 0 = 0 := by rw [hXe, cap_src0 (by rfl)]; simp
  rw [e0, Int.zero_add]
  refine sm_congr fun i _ => ?_
  have : X 0 (pout i) = 0 := by rw [hXe, cap_src0 (by unfold pout; omega)]; simp
  omega
 have hsum : v = sm (fun i => X 0 (pin i) + (sm (X (pin i)) (1 + 2 * F.length) + sm (X (pout i)) (1 + 2 * F.length))) F.length := by
  rw [hv2, sm_points, hrow0, ← sm_add]
 -- a node is taken if something crosses at it
 obtain ⟨C, hCd⟩ : ∃ C : Nat → Bool, ∀ i, C i = decide (i < F.length ∧ i ≠ lot ∧ 0 < X 0 (pin i) + (sm (X (pin i)) (1 + 2 * F.length) + sm (X (pout i)) (1 + 2 * F.length))) := ⟨_, fun i => rfl⟩
 refine ⟨C, fun i hi => ?_, ?_, ?_⟩
 ·rw [hCd] at hi
  have := of_decide_eq_true hi; exact ⟨this.1, this.2.1⟩
 ·rw [hsum]
  refine sm_le fun i hi => ?_
  have a1 := hXn 0 (pin i)
  have a2 : 0 ≤ sm (X (pin i)) (1 + 2 * F.length) := sm_nn fun j _ => hXn _ _
  have a3 : 0 ≤ sm (X (pout i)) (1 + 2 * F.length) := sm_nn fun j _ => hXn _ _
  split
  ·rename_i hc; rw [hCd] at hc; have := (of_decide_eq_true hc).2.2; omega
  ·omega
 ·-- a way without all of these would end among the points that are reached
  have hC : ∀ i, i < F.length → i ≠ lot → (X 0 (pin i) = 1 ∨ (∃ b, b < 1 + 2 * F.length ∧ X (pin i) b = 1) ∨ ∃ b, b < 1 + 2 * F.length ∧ X (pout i) b = 1) →
    C i = true := fun i hi hil hx => by
   rw [hCd]
   refine decide_eq_true ⟨hi, hil, ?_⟩
   have a1 := hXn 0 (pin i)
   have a2 : 0 ≤ sm (X (pin i)) (1 + 2 * F.length) := sm_nn fun j _ => hXn _ _
   have a3 : 0 ≤ sm (X (pout i)) (1 + 2 * F.length) := sm_nn fun j _ => hXn _ _
   rcases hx with hx | ⟨b, hb, hx⟩ | ⟨b, hb, hx⟩
   ·omega
   ·have := sm_ge_one (f := X (pin i)) (k := b) (n := 1 + 2 * F.length) (fun j _ => hXn _ _) hb; omega
   ·have := sm_ge_one (f := X (pout i)) (k := b) (n := 1 + 2 * F.length) (fun j _ => hXn _ _) hb; omega
  have hC' : ∀ i, i < F.length → i ≠ lot → C i = false → X 0 (pin i) ≠ 1 ∧ (∀ b, b < 1 + 2 * F.length → X (pin i) b ≠ 1) ∧ ∀ b, b < 1 + 2 * F.length → X (pout i) b ≠ 1 := fun i hi hil hc =>
   ⟨fun e => (by have := hC i hi hil (.inl e); rw [hc] at this; cases this), fun b hb e => (by have := hC i hi hil (.inr (.inl ⟨b, hb, e⟩)); rw [hc] at this; cases this), fun b hb e => (by have := hC i hi hil (.inr (.inr ⟨b, hb, e⟩)); rw [hc] at this; cases this)⟩
  have hstep : ∀ a b, R a = true → edgeB F bad W lot a b = true → X a b ≠ 1 → R b = true := fun a b ha he hx => by
   cases hb : R b with
   | true => rfl
   | false => exact absurd (by rw [hXe, if_pos ⟨ha, hb⟩, cap_one he]) hx
  have key : ∀ i, i ≤ lot → fr F bad (fun i => W i || C i) i = true → R (pin i) = true := by
   intro i
   induction i using Nat.strongRecOn with
   | ind i ih =>
    intro hil hfr
    have hi : i < F.length := by omega
    obtain ⟨hw, hcase⟩ := (fr_true h hi).1 hfr
    rw [Bool.or_eq_false_iff] at hw
    rcases hcase with ⟨he, hb⟩ | ⟨k, hk, hfk⟩
    ·have hil' : i ≠ lot := fun e => hne (e ▸ he)
     exact hstep 0 (pin i) h0 (edge_src.2 ⟨hi, hb⟩) (hC' i hi hil' hw.2).1
    ·have hki := (h.ris i hi).1 _ hk
     have hkF : k < F.length := by omega
     have hkl : k ≠ lot := by omega
     have hRk := ih k (by omega) (by omega) hfk
     have hwk := ((fr_true h hkF).1 hfk).1
     rw [Bool.or_eq_false_iff] at hwk
     obtain ⟨_, c2, c3⟩ := hC' k hkF hkl hwk.2
     have hRo := hstep _ _ hRk (edge_in.2 ⟨hkF, hkl, hwk.1⟩) (c2 _ (by unfold pout; omega))
     exact hstep _ _ hRo (edge_out.2 ⟨hi, hk⟩) (c3 _ (by unfold pin; omega))
  cases hfin : fr F bad (fun i => W i || C i) lot with
  | false => rfl
  | true => have := key lot (Nat.le_refl _) hfin; rw [ht] at this; cases this
end Go.Px.Try

/-! Tm3 -/
namespace Go.Px.Try
open Go Go.Proofs Go.Px
theorem edge_cases {F : List (List Int)} {bad W : Nat → Bool} {lot u v : Nat} (h : edgeB F bad W lot u v = true) :
  (u = 0 ∧ ∃ i, v = pin i ∧ i < F.length ∧ bad i = true) ∨ (∃ i, u = pin i ∧ v = pout i ∧ i < F.length ∧ i ≠ lot ∧ W i = false) ∨ ∃ k i, u = pout k ∧ v = pin i ∧ i < F.length ∧ (k : Int) ∈ frm F i := by
 unfold edgeB at h
 by_cases h0 : u = 0
 ·rw [if_pos h0] at h
  simp only [Bool.and_eq_true, decide_eq_true_eq] at h
  exact .inl ⟨h0, (v - 1) / 2, by unfold pin; omega, h.1.2, h.2⟩
 ·rw [if_neg h0] at h
  by_cases h1 : u % 2 = 1
  ·rw [if_pos h1] at h
   simp only [Bool.and_eq_true, decide_eq_true_eq, Bool.not_eq_true'] at h
   exact .inr (.inl ⟨(u - 1) / 2, by unfold pin; omega, by unfold pout; omega, h.1.1.2, h.1.2, h.2⟩)
  ·rw [if_neg h1] at h
   simp only [Bool.and_eq_true, decide_eq_true_eq] at h
   exact .inr (.inr ⟨(u - 2) / 2, (v - 1) / 2, by unfold pout; omega, by unfold pin; omega, h.1.2, h.2⟩)
/-- Where there is no edge back, what flows is 0 or 1. -/
theorem Flow.one {N t : Nat} {F : List (List Int)} {bad W : Nat → Bool} {lot : Nat} {φ : Nat → Nat → Int} {v : Int} (hf : Flow N t (capB F bad W lot) φ v) {a b : Nat} (hb : edgeB F bad W lot b a = false) : (φ a b = 0 ∨ φ a b = 1) ∧ (φ a b = 1 → edgeB F bad W lot a b = true) := by
 have h1 := hf.le a b
 have h2 := hf.le b a
 have h3 := hf.skew a b
 have e : capB F bad W lot b a = 0 := by unfold capB; rw [hb]; simp
 rw [e] at h2
 cases he : edgeB F bad W lot a b with
 | true => rw [cap_one he] at h1; exact ⟨by omega, fun _ => rfl⟩
 | false =>
  have e2 : capB F bad W lot a b = 0 := by unfold capB; rw [he]; simp
  rw [e2] at h1
  exact ⟨by omega, fun h => by omega⟩
theorem Flow.none {N t : Nat} {F : List (List Int)} {bad W : Nat → Bool} {lot : Nat} {φ : Nat → Nat → Int} {v : Int} (hf : Flow N t (capB F bad W lot) φ v) {a b : Nat} (ha : edgeB F bad W lot a b = false) (hb : edgeB F bad W lot b a = false) : φ a b = 0 := by
 obtain ⟨h1, h2⟩ := hf.one hb
 rcases h1 with h | h
 ·exact h
 ·rw [h2 h] at ha; cases ha
theorem not_edge {F : List (List Int)} {bad W : Nat → Bool} {lot u v : Nat} (h : ¬ edgeB F bad W lot u v = true) : edgeB F bad W lot u v = false := by
 cases e : edgeB F bad W lot u v with
 | false => rfl
 | true => exact absurd e h
section
variable {F : List (List Int)} (h : MixOk F) {bad W : Nat → Bool} {lot : Nat} {φ : Nat → Nat → Int} {v : Int} (hf : Flow (1 + 2 * F.length) (pin lot) (capB F bad W lot) φ v)
include h
theorem no_back_in (i : Nat) : edgeB F bad W lot (pout i) (pin i) = false := not_edge fun e => by
 obtain ⟨h1, h2⟩ := edge_out.1 e
 have := (h.ris i h1).1 _ h2
 omega
theorem no_back_out (k i : Nat) (hk : edgeB F bad W lot (pout k) (pin i) = true) : edgeB F bad W lot (pin i) (pout k) = false := not_edge fun e => by
 rcases edge_cases e with ⟨a, _⟩ | ⟨j, a, b, _⟩ | ⟨j, i', a, _⟩
 ·unfold pin at a; omega
 ·have : k = i := by unfold pin pout at *; omega
  subst this
  rw [no_back_in h] at hk; cases hk
 ·unfold pin pout at a; omega
theorem no_back_src (i : Nat) : edgeB F bad W lot (pin i) 0 = false := not_edge fun e => by
 have _ := h
 rcases edge_cases e with ⟨a, _⟩ | ⟨j, a, b, _⟩ | ⟨j, i', a, _⟩
 ·unfold pin at a; omega
 ·unfold pout at b; omega
 ·unfold pin pout at a; omega
include hf
theorem flow_in (i : Nat) : φ (pin i) (pout i) = 0 ∨ φ (pin i) (pout i) = 1 := (hf.one (no_back_in h i)).1
theorem flow_src (i : Nat) : φ 0 (pin i) = 0 ∨ φ 0 (pin i) = 1 := (hf.one (no_back_src h i)).1
theorem flow_out {k i : Nat} (hki : k ≠ i) : φ (pout k) (pin i) = 0 ∨ φ (pout k) (pin i) = 1 := by
 by_cases e : edgeB F bad W lot (pout k) (pin i) = true
 ·exact (hf.one (no_back_out h k i e)).1
 ·refine .inl (hf.none (not_edge e) (not_edge fun e' => ?_))
  rcases edge_cases e' with ⟨a, _⟩ | ⟨j, a, b, _⟩ | ⟨j, i', a, _⟩
  ·unfold pin at a; omega
  ·unfold pin pout at *; omega
  ·unfold pin pout at a; omega
theorem flow_edge {k i : Nat} (he : φ (pout k) (pin i) = 1) : i < F.length ∧ (k : Int) ∈ frm F i := by
 by_cases hki : k = i
 ·subst hki
  have h1 := hf.le (pout k) (pin k)
  have : capB F bad W lot (pout k) (pin k) = 0 := by unfold capB; rw [no_back_in h]; simp
  omega
 ·have h1 := hf.le (pout k) (pin i)
  by_cases e : edgeB F bad W lot (pout k) (pin i) = true
  ·exact edge_out.1 e
  ·have : capB F bad W lot (pout k) (pin i) = 0 := by unfold capB; rw [if_neg e]
   omega
/-- What comes to a node goes through it. -/
theorem flow_come {i : Nat} (hi : i < F.length) (hil : i ≠ lot) : φ (pin i) (pout i) = φ 0 (pin i) + sm (fun k => if k = i then 0 else φ (pout k) (pin i)) F.length := by
 have _ := h
 have hn := hf.net (pin i) (by unfold pin; omega)
 rw [if_neg (by unfold pin; omega), if_neg (by unfold pin; omega), sm_points] at hn
 have e1 : sm (fun k => φ (pin i) (pin k) + φ (pin i) (pout k)) F.length = φ (pin i) (pout i) + sm (fun k => if k = i then 0 else - φ (pout k) (pin i)) F.length := by
  have hz : ∀ k, φ (pin i) (pin k) = 0 := fun k => hf.none (not_edge fun e => by
   rcases edge_cases e with ⟨a, _⟩ | ⟨j, a, b, _⟩ | ⟨j, i', a, _⟩ <;> unfold pin pout at * <;> omega) (not_edge fun e => by
   rcases edge_cases e with ⟨a, _⟩ | ⟨j, a, b, _⟩ | ⟨j, i', a, _⟩ <;> unfold pin pout at * <;> omega)
  have e2 : sm (fun k => φ (pin i) (pin k) + φ (pin i) (pout k)) F.length = sm (fun k => (if k = i then φ (pin i) (pout i) else 0) + (if k = i then 0 else - φ (pout k) (pin i))) F.length := sm_congr fun k _ => by
   rw [hz k]
   by_cases e : k = i
   ·subst e; rw [if_pos rfl, if_pos rfl]; omega
   ·rw [if_neg e, if_neg e]; have := hf.skew (pin i) (pout k); omega
  rw [e2, sm_add, sm_one (f := fun k => if k = i then φ (pin i) (pout i) else 0) (k := i) (fun j hj => if_neg hj) hi, if_pos rfl]
 rw [e1] at hn
 have e3 := hf.skew (pin i) 0
 have e4 : sm (fun k => if k = i then 0 else - φ (pout k) (pin i)) F.length = - sm (fun k => if k = i then 0 else φ (pout k) (pin i)) F.length := by
  rw [← sm_neg]; exact sm_congr fun k _ => by split <;> omega
 omega
theorem flow_go {i : Nat} (hi : i < F.length) : φ (pin i) (pout i) = sm (fun j => if j = i then 0 else φ (pout i) (pin j)) F.length := by
 have _ := h
 have hn := hf.net (pout i) (by unfold pout; omega)
 rw [if_neg (by unfold pout; omega), if_neg (by unfold pin pout; omega), sm_points] at hn
 have h0 : φ (pout i) 0 = 0 := hf.none (not_edge fun e => by
   rcases edge_cases e with ⟨a, _⟩ | ⟨j, a, b, _⟩ | ⟨j, i', a, b, _⟩ <;> unfold pin pout at * <;> omega) (not_edge fun e => by
   rcases edge_cases e with ⟨a, i', b, _⟩ | ⟨j, a, b, _⟩ | ⟨j, i', a, b, _⟩ <;> unfold pin pout at * <;> omega)
 have hz : ∀ k, φ (pout i) (pout k) = 0 := fun k => hf.none (not_edge fun e => by
   rcases edge_cases e with ⟨a, _⟩ | ⟨j, a, b, _⟩ | ⟨j, i', a, b, _⟩ <;> unfold pin pout at * <;> omega) (not_edge fun e => by
   rcases edge_cases e with ⟨a, _⟩ | ⟨j, a, b, _⟩ | ⟨j, i', a, b, _⟩ <;> unfold pin pout at * <;> omega)
 have e2 : sm (fun k => φ (pout i) (pin k) + φ (pout i) (pout k)) F.length = sm (fun k => (if k = i then φ (pout i) (pin i) else 0) + (if k = i then 0 else φ (pout i) (pin k))) F.length := sm_congr fun k _ => by
  rw [hz k]
  by_cases e : k = i
  ·subst e; rw [if_pos rfl, if_pos rfl]
  ·rw [if_neg e, if_neg e]; omega
 rw [e2, sm_add, sm_one (f := fun k => if k = i then φ (pout i) (pin i) else 0) (k := i) (fun j hj => if_neg hj) hi, if_pos rfl] at hn
 have := hf.skew (pin i) (pout i)
 omega
/-- What comes to the lot. -/
theorem flow_lot (hlot : lot < F.length) (hbl : bad lot = false) : v = sm (fun k => if k = lot then 0 else φ (pout k) (pin lot)) F.length ∧ φ (pin lot) (pout lot) = 0 := by
 have hth : φ (pin lot) (pout lot) = 0 := hf.none (not_edge fun e => (edge_in.1 e).2.1 rfl) (no_back_in h lot)
 have hs0 : φ (pin lot) 0 = 0 := hf.none (no_back_src h lot) (not_edge fun e => by have := (edge_src.1 e).2; rw [hbl] at this; cases this)
 have hn := hf.net (pin lot) (by unfold pin; omega)
 rw [if_neg (by unfold pin; omega), if_pos rfl, sm_points, hs0] at hn
 have hz : ∀ k, φ (pin lot) (pin k) = 0 := fun k => hf.none (not_edge fun e => by
   rcases edge_cases e with ⟨a, _⟩ | ⟨j, a, b, _⟩ | ⟨j, i', a, _⟩ <;> unfold pin pout at * <;> omega) (not_edge fun e => by
   rcases edge_cases e with ⟨a, _⟩ | ⟨j, a, b, _⟩ | ⟨j, i', a, _⟩ <;> unfold pin pout at * <;> omega)
 have e2 : sm (fun k => φ (pin lot) (pin k) + φ (pin lot) (pout k)) F.length = sm (fun k => - (if k = lot then 0 else φ (pout k) (pin lot))) F.length := sm_congr fun k _ => by
  rw [hz k]
  by_cases e : k = lot
  ·subst e; rw [if_pos rfl, hth]; rfl
  ·rw [if_neg e]; have := hf.skew (pin lot) (pout k); omega
 rw [e2, sm_neg] at hn
 exact ⟨by omega, hth⟩
end
end Go.Px.Try

/-! Tm4 -/
namespace Go.Px.Try
open Go Go.Proofs Go.Px
/-- What flows between nodes (g), and from the first point to bad sacks (s): v comes to the lot. -/
structure FG (F : List (List Int)) (bad W : Nat → Bool) (lot : Nat) (g : Nat → Nat → Bool) (s : Nat → Bool) (v : Nat) : Prop where
 ge : ∀ {k i}, g k i = true → i < F.length ∧ (k : Int) ∈ frm F i ∧ k ≠ lot ∧ W k = false
 se : ∀ {i}, s i = true → bad i = true
 out : ∀ {k i j}, g k i = true → g k j = true → i = j
 come : ∀ {i j}, i ≠ lot → g i j = true → s i = true ∨ ∃ k, g k i = true
 cnt : cntS (fun k => g k lot) F.length = v
/-- The first node of a list that is not used and from which something flows; the last one of all, if there is none. -/
def pickS (g : Nat → Nat → Bool) (U : Nat → Bool) (cur : Nat) (out x : Int) : Int := if U out.toNat = true ∨ g out.toNat cur = false then x else out
def pickK (F : List (List Int)) (g : Nat → Nat → Bool) (U : Nat → Bool) (cur : Nat) : Int := ((frm F cur).drop 1).foldl (pickS g U cur) ((frm F cur).getD 0 0)
def mark (U : Nat → Bool) (k : Nat) : Nat → Bool := fun i => if i = k then true else U i
/-- Back from a node to a bad sack. -/
def backW (F : List (List Int)) (g : Nat → Nat → Bool) (s : Nat → Bool) : Nat → (Nat → Bool) → List Nat → List Nat × (Nat → Bool)
 | 0, U, w => (w, U)
 | f + 1, U, w => if s (w.headD 0) = true then (w, U) else
   backW F g s f (mark U (pickK F g U (w.headD 0)).toNat) ((pickK F g U (w.headD 0)).toNat :: w)
theorem pick_good {g : Nat → Nat → Bool} {U : Nat → Bool} {cur : Nat} : ∀ (l : List Int) (a : Int), (∃ x, x ∈ a :: l ∧ U x.toNat = false ∧ g x.toNat cur = true) → U (l.foldl (pickS g U cur) a).toNat = false ∧ g (l.foldl (pickS g U cur) a).toNat cur = true ∧ l.foldl (pickS g U cur) a ∈ a :: l
 | [], a, ⟨x, hx, h1, h2⟩ => by
  have : x = a := by simpa using hx
  subst this
  exact ⟨h1, h2, List.mem_cons_self ..⟩
 | b :: l, a, ⟨x, hx, h1, h2⟩ => by
  rw [List.foldl_cons]
  by_cases hb : U a.toNat = true ∨ g a.toNat cur = false
  ·have e : pickS g U cur a b = b := if_pos hb
   rw [e]
   have hxa : x ≠ a := fun e => by
    subst e
    rcases hb with hb | hb
    ·rw [h1] at hb; cases hb
    ·rw [h2] at hb; cases hb
   obtain ⟨i1, i2, i3⟩ := pick_good l b ⟨x, by
    rcases List.mem_cons.1 hx with h | h
    ·exact absurd h hxa
    ·exact h, h1, h2⟩
   exact ⟨i1, i2, List.mem_cons_of_mem _ i3⟩
  ·have e : pickS g U cur a b = a := if_neg hb
   rw [e]
   have ha1 : U a.toNat = false := by
    cases h : U a.toNat with
    | false => rfl
    | true => exact absurd (.inl h) hb
   have ha2 : g a.toNat cur = true := by
    cases h : g a.toNat cur with
    | true => rfl
    | false => exact absurd (.inr h) hb
   obtain ⟨i1, i2, i3⟩ := pick_good l a ⟨a, List.mem_cons_self .., ha1, ha2⟩
   refine ⟨i1, i2, ?_⟩
   rcases List.mem_cons.1 i3 with h | h
   ·rw [h]; exact List.mem_cons_self ..
   ·exact List.mem_cons_of_mem _ (List.mem_cons_of_mem _ h)
theorem pickK_good {F : List (List Int)} (hF : MixOk F) {g : Nat → Nat → Bool} {U : Nat → Bool} {cur k : Nat} (hc : cur < F.length) (hk : (k : Int) ∈ frm F cur) (hU : U k = false) (hg : g k cur = true) :
  ∃ q : Nat, pickK F g U cur = q ∧ (q : Int) ∈ frm F cur ∧ U q = false ∧ g q cur = true := by
 unfold pickK
 cases hl : frm F cur with
 | nil => rw [hl] at hk; cases hk
 | cons a l =>
  obtain ⟨i1, i2, i3⟩ := pick_good (g := g) (U := U) (cur := cur) l a ⟨k, by rw [← hl]; exact hk, by rw [Int.toNat_natCast]; exact hU, by rw [Int.toNat_natCast]; exact hg⟩
  have hm : List.foldl (pickS g U cur) a l ∈ frm F cur := by rw [hl]; exact i3
  have h0 := ((hF.ris cur hc).1 _ hm).1
  refine ⟨(List.foldl (pickS g U cur) a l).toNat, ?_, ?_, i1, i2⟩
  ·show List.foldl (pickS g U cur) a l = _
   omega
  ·rw [Int.toNat_of_nonneg h0, ← hl]; exact hm
/-- A way along which something flows. -/
def gW (g : Nat → Nat → Bool) : List Nat → Prop
 | a :: b :: l => g a b = true ∧ gW g (b :: l)
 | _ => True
/-- A way back from the lot, as far as it goes. -/
structure PW (g : Nat → Nat → Bool) (lot : Nat) (U : Nat → Bool) (w : List Nat) (U' : Nat → Bool) : Prop where
 ne : w ≠ []
 way : gW g w
 last : w.getLast? = some lot
 inc : w.Pairwise (· < ·)
 fresh : ∀ k ∈ w, k ≠ lot → U k = false
 used : ∀ k, U' k = true ↔ U k = true ∨ (k ∈ w ∧ k ≠ lot)
theorem gW_succ {g : Nat → Nat → Bool} {lot : Nat} : ∀ {w : List Nat} {k : Nat}, gW g w → w.getLast? = some lot → k ∈ w → k ≠ lot → ∃ j ∈ w, g k j = true
 | [], k, _, _, h, _ => by cases h
 | [a], k, _, hl, h, hk => by
  have e : k = a := by simpa using h
  have e2 : a = lot := by simpa using hl
  exact absurd (e.trans e2) hk
 | a :: b :: l, k, ⟨h1, h2⟩, hl, h, hk => by
  rcases List.mem_cons.1 h with e | h
  ·subst e; exact ⟨b, by simp, h1⟩
  ·obtain ⟨j, hj, hh⟩ := gW_succ h2 (by simpa using hl) h hk
   exact ⟨j, List.mem_cons_of_mem _ hj, hh⟩
/-- All ways so far, and what is used. -/
structure WInv (F : List (List Int)) (lot : Nat) (g : Nat → Nat → Bool) (s : Nat → Bool) (r : Nat) (ws : List (List Nat)) (U : Nat → Bool) : Prop where
 len : ws.length = r
 way : ∀ w ∈ ws, gW g w ∧ w.getLast? = some lot ∧ 2 ≤ w.length ∧ s (w.headD 0) = true ∧ w.Pairwise (· < ·)
 used : ∀ k, U k = true ↔ k ≠ lot ∧ ∃ w ∈ ws, k ∈ w
 apart : ws.Pairwise fun a b => ∀ k, k ∈ a → k ∈ b → k = lot
 cnt : cntS (fun k => g k lot && U k) F.length = r
theorem cnt_lt {A B : Nat → Bool} : ∀ {n : Nat}, cntS A n < cntS B n → ∃ k, k < n ∧ B k = true ∧ A k = false
 | 0, h => by unfold cntS at h; simp [sm] at h
 | n + 1, h => by
  by_cases hn : B n = true ∧ A n = false
  ·exact ⟨n, by omega, hn⟩
  ·have : cntS A n < cntS B n := by
    unfold cntS at h ⊢
    rw [sm, sm] at h
    cases hA : A n <;> cases hB : B n <;> simp [hA, hB] at h hn <;> omega
   obtain ⟨k, h1, h2⟩ := cnt_lt this
   exact ⟨k, by omega, h2⟩
theorem cnt_add {A B : Nat → Bool} {k : Nat} (hB : ∀ i, i ≠ k → B i = A i) (hk : B k = true) (hA : A k = false) {n : Nat} (hn : k < n) : cntS B n = cntS A n + 1 := by
 unfold cntS
 exact sm_upd (k := k) (d := 1) (fun i hi => by rw [hB i hi]) (by rw [hk, hA]; rfl) hn
theorem back_ok {F : List (List Int)} (hF : MixOk F) {bad W : Nat → Bool} {lot : Nat} {g : Nat → Nat → Bool} {s : Nat → Bool} {v : Nat} (hG : FG F bad W lot g s v) (hlot : lot < F.length) {U : Nat → Bool} (hcl : ∀ k j, U k = true → g k j = true → j = lot ∨ U j = true) (hUl : U lot = false) (hex : ∃ k, g k lot = true ∧ U k = false) (hsl : s lot = false) :
  ∀ (f : Nat) (w : List Nat) (U' : Nat → Bool), w.headD 0 < f → PW g lot U w U' → ∃ w' U'', backW F g s f U' w = (w', U'') ∧ PW g lot U w' U'' ∧ s (w'.headD 0) = true ∧ 2 ≤ w'.length
 | 0, w, U', hf, _ => by omega
 | f + 1, w, U', hf, hp => by
  rw [backW]
  obtain ⟨cur, w0, rfl⟩ : ∃ cur w0, w = cur :: w0 := by
   cases w with
   | nil => exact absurd rfl hp.ne
   | cons a l => exact ⟨a, l, rfl⟩
  have hh : (cur :: w0).headD 0 = cur := rfl
  rw [hh] at hf ⊢
  by_cases hs : s cur = true
  ·rw [if_pos hs]
   refine ⟨_, _, rfl, hp, hs, ?_⟩
   cases w0 with
   | nil =>
    have : cur = lot := by have := hp.last; simpa using this
    subst this; rw [hsl] at hs; cases hs
   | cons b l => simp
  ·rw [if_neg hs]
   -- from where it comes
   have hpred : ∃ k, g k cur = true ∧ U' k = false := by
    by_cases hcl' : cur = lot
    ·subst hcl'
     obtain ⟨k, h1, h2⟩ := hex
     refine ⟨k, h1, ?_⟩
     cases h : U' k with
     | false => rfl
     | true =>
      rcases (hp.used k).1 h with h' | ⟨h', h''⟩
      ·rw [h2] at h'; cases h'
      ·have hlt := (hF.ris _ hlot).1 _ (hG.ge h1).2.1
       rcases List.mem_cons.1 h' with e | e
       ·exact absurd e h''
       ·have := (List.pairwise_cons.1 hp.inc).1 k e; omega
    ·-- something goes on from it
     have hgo : ∃ j, g cur j = true := by
      obtain ⟨j, _, hj⟩ := gW_succ hp.way hp.last (List.mem_cons_self ..) hcl'
      exact ⟨j, hj⟩
     obtain ⟨j, hj⟩ := hgo
     rcases hG.come hcl' hj with h | ⟨k, hk⟩
     ·exact absurd h hs
     ·refine ⟨k, hk, ?_⟩
      cases h : U' k with
      | false => rfl
      | true =>
       rcases (hp.used k).1 h with h' | ⟨h', h''⟩
       ·rcases hcl k cur h' hk with e | e
        ·exact absurd e hcl'
        ·have := hp.fresh cur (List.mem_cons_self ..) hcl'; rw [e] at this; cases this
       ·have hck := (hG.ge hk)
        have hlt := (hF.ris _ hck.1).1 _ hck.2.1
        rcases List.mem_cons.1 h' with e | e
        ·omega
        ·have := (List.pairwise_cons.1 hp.inc).1 k e; omega
   obtain ⟨k, hk, hUk⟩ := hpred
   have hgk := hG.ge hk
   obtain ⟨q, e1, e2, e3, e4⟩ := pickK_good hF hgk.1 hgk.2.1 hUk hk
   rw [e1, Int.toNat_natCast]
   have hlt := (hF.ris _ hgk.1).1 _ e2
   have hql := (hG.ge e4).2.2.1
   refine back_ok hF hG hlot hcl hUl hex hsl f (q :: cur :: w0) _ (by show q < f; omega) ⟨by simp, ⟨e4, hp.way⟩, by have := hp.last; simpa using this, ?_, fun x hx hxl => ?_, fun x => ?_⟩
   ·refine List.pairwise_cons.2 ⟨fun x hx => ?_, hp.inc⟩
    rcases List.mem_cons.1 hx with e | e
    ·omega
    ·have := (List.pairwise_cons.1 hp.inc).1 x e; omega
   ·rcases List.mem_cons.1 hx with e | e
    ·subst e
     cases h : U x with
     | false => rfl
     | true => have := (hp.used x).2 (.inl h); rw [e3] at this; cases this
    ·exact hp.fresh x e hxl
   ·unfold mark
    by_cases e : x = q
    ·rw [if_pos e]; subst e
     exact ⟨fun _ => .inr ⟨List.mem_cons_self .., hql⟩, fun _ => rfl⟩
    ·rw [if_neg e, hp.used x]
     constructor
     ·rintro (h | ⟨h, h'⟩)
      ·exact .inl h
      ·exact .inr ⟨List.mem_cons_of_mem _ h, h'⟩
     ·rintro (h | ⟨h, h'⟩)
      ·exact .inl h
      ·rcases List.mem_cons.1 h with e' | e'
       ·exact absurd e' e
       ·exact .inr ⟨e', h'⟩
/-- Round by round. -/
def waysGo (F : List (List Int)) (g : Nat → Nat → Bool) (s : Nat → Bool) (lot : Nat) : Nat → List (List Nat) × (Nat → Bool)
 | 0 => ([], fun _ => false)
 | r + 1 => ((waysGo F g s lot r).1 ++ [(backW F g s (lot + 1) (waysGo F g s lot r).2 [lot]).1], (backW F g s (lot + 1) (waysGo F g s lot r).2 [lot]).2)
theorem ways_ok {F : List (List Int)} (hF : MixOk F) {bad W : Nat → Bool} {lot : Nat} {g : Nat → Nat → Bool} {s : Nat → Bool} {v : Nat} (hG : FG F bad W lot g s v) (hlot : lot < F.length) (hsl : s lot = false) : ∀ r, r ≤ v → WInv F lot g s r (waysGo F g s lot r).1 (waysGo F g s lot r).2
 | 0, _ => ⟨rfl, (fun w (h : w ∈ []) => (by cases h)), (fun k => ⟨fun (h : false = true) => (by cases h), fun (h : k ≠ lot ∧ ∃ w ∈ [], k ∈ w) => (by obtain ⟨_, w, hw, _⟩ := h; cases hw)⟩), List.Pairwise.nil, by unfold cntS; exact sm_zero fun i _ => by show (if (g i lot && false) = true then (1 : Int) else 0) = 0; simp⟩
 | r + 1, hr => by
  have ih := ways_ok hF hG hlot hsl r (by omega)
  generalize hw : waysGo F g s lot r = p at ih
  obtain ⟨ws, U⟩ := p
  simp only at ih
  have hUl : U lot = false := by
   cases h : U lot with
   | false => rfl
   | true => exact absurd rfl ((ih.used lot).1 h).1
  have hex : ∃ k, g k lot = true ∧ U k = false := by
   obtain ⟨k, h1, h2, h3⟩ := cnt_lt (A := fun k => g k lot && U k) (B := fun k => g k lot) (n := F.length) (by rw [ih.cnt, hG.cnt]; omega)
   exact ⟨k, h2, by rw [h2] at h3; simpa using h3⟩
  have hcl : ∀ k j, U k = true → g k j = true → j = lot ∨ U j = true := fun k j hk hj => by
   obtain ⟨h1, w, h2, h3⟩ := (ih.used k).1 hk
   obtain ⟨a1, a2, _⟩ := ih.way w h2
   obtain ⟨j', h4, h5⟩ := gW_succ a1 a2 h3 h1
   have := hG.out hj h5
   subst this
   by_cases e : j = lot
   ·exact .inl e
   ·exact .inr ((ih.used j).2 ⟨e, w, h2, h4⟩)
  obtain ⟨w', U', e1, hp, hs, hl⟩ := back_ok hF hG hlot hcl hUl hex hsl (lot + 1) [lot] U (by show lot < lot + 1; omega) ⟨by simp, trivial, rfl, List.pairwise_singleton _ _, fun k hk hkl => absurd (by simpa using hk) hkl, fun k => ⟨fun h => .inl h, fun h => by
   rcases h with h | ⟨h, h'⟩
   ·exact h
   ·exact absurd (by simpa using h) h'⟩⟩
  have hgo : waysGo F g s lot (r + 1) = (ws ++ [w'], U') := by rw [waysGo, hw]; simp only [e1]
  rw [hgo]
  refine ⟨by simp [ih.len], fun w hw => ?_, fun k => ?_, ?_, ?_⟩
  ·rcases List.mem_append.1 hw with h | h
   ·exact ih.way w h
   ·rw [List.mem_singleton.1 h]; exact ⟨hp.way, hp.last, hl, hs, hp.inc⟩
  ·show U' k = true ↔ _
   rw [hp.used k, ih.used k]
   constructor
   ·rintro (⟨h1, w, h2, h3⟩ | ⟨h1, h2⟩)
    ·exact ⟨h1, w, List.mem_append_left _ h2, h3⟩
    ·exact ⟨h2, w', by simp, h1⟩
   ·rintro ⟨h1, w, h2, h3⟩
    rcases List.mem_append.1 h2 with h | h
    ·exact .inl ⟨h1, w, h, h3⟩
    ·rw [List.mem_singleton.1 h] at h3; exact .inr ⟨h3, h1⟩
  ·show (ws ++ [w']).Pairwise _
   refine List.pairwise_append.2 ⟨ih.apart, List.pairwise_singleton _ _, fun a ha b hb k hka hkb => ?_⟩
   rw [List.mem_singleton.1 hb] at hkb
   by_cases e : k = lot
   ·exact e
   ·have := hp.fresh k hkb e
    rw [(ih.used k).2 ⟨e, a, ha, hka⟩] at this; cases this
  ·-- the one before the lot
   show cntS (fun k => g k lot && U' k) F.length = _
   have hprev : ∃ k, k ∈ w' ∧ g k lot = true ∧ k ≠ lot := by
    have : ∀ (w : List Nat), gW g w → w.getLast? = some lot → 2 ≤ w.length → ∃ k, k ∈ w ∧ g k lot = true := by
     intro w
     induction w with
     | nil => intro _ h; cases h
     | cons a l ih =>
      intro h1 h2 h3
      cases l with
      | nil => simp at h3
      | cons b l =>
       cases l with
       | nil =>
        have : b = lot := by simpa using h2
        subst this
        exact ⟨a, by simp, h1.1⟩
       | cons c l =>
        obtain ⟨k, k1, k2⟩ := ih h1.2 (by simpa using h2) (by simp)
        exact ⟨k, List.mem_cons_of_mem _ k1, k2⟩
    obtain ⟨k, k1, k2⟩ := this w' hp.way hp.last hl
    exact ⟨k, k1, k2, (hG.ge k2).2.2.1⟩
   obtain ⟨k, k1, k2, k3⟩ := hprev
   have hkF : k < F.length := by
    have h1 := hG.ge k2
    have := (hF.ris _ h1.1).1 _ h1.2.1
    omega
   have hB : ∀ i, i ≠ k → (g i lot && U' i) = (g i lot && U i) := fun i hi => by
    -- no other one of the way flows to the lot
    cases hgi : g i lot with
    | false => rfl
    | true =>
     simp only [Bool.true_and]
     rw [Bool.eq_iff_iff, hp.used i]
     constructor
     ·rintro (h | ⟨h, h'⟩)
      ·exact h
      ·exfalso
       -- both k and i stand before the lot
       have uniq : ∀ (w : List Nat), gW g w → w.getLast? = some lot → w.Pairwise (· < ·) → ∀ x y, x ∈ w → y ∈ w → g x lot = true → g y lot = true → x = y := by
        intro w
        induction w with
        | nil => intro _ _ _ x y hx; cases hx
        | cons a l ih =>
         intro h1 h2 h3 x y hx hy gx gy
         cases l with
         | nil =>
          have ex : x = a := by simpa using hx
          have ey : y = a := by simpa using hy
          rw [ex, ey]
         | cons b l =>
          have hnl : ∀ z, z ∈ a :: b :: l → z = a → g z lot = true → b = lot := fun z _ e gz => by subst e; exact hG.out h1.1 gz
          have hpl := List.pairwise_cons.1 h3
          have hbl : b = lot → l = [] := fun e => by
           cases l with
           | nil => rfl
           | cons c l =>
            have h5 : (c :: l).getLast? = some lot := by simpa using h2
            have h6 : lot ∈ c :: l := List.mem_of_getLast? h5
            have := (List.pairwise_cons.1 hpl.2).1 lot h6
            omega
          have hsub : ∀ z, z ∈ b :: l → g z lot = true → b = lot → False := fun z hz gz e => by
           have := hbl e
           subst this
           have : z = b := by simpa using hz
           rw [this, e] at gz
           exact (hG.ge gz).2.2.1 rfl
          rcases List.mem_cons.1 hx with ex | hx'
          ·rcases List.mem_cons.1 hy with ey | hy'
           ·rw [ex, ey]
           ·exact (hsub y hy' gy (hnl x hx ex gx)).elim
          ·rcases List.mem_cons.1 hy with ey | hy'
           ·exact (hsub x hx' gx (hnl y hy ey gy)).elim
           ·exact ih h1.2 (by simpa using h2) hpl.2 x y hx' hy' gx gy
       exact hi (uniq w' hp.way hp.last hp.inc i k h k1 hgi k2)
     ·intro h; exact .inl h
   have hk1 : (g k lot && U' k) = true := by rw [k2, Bool.true_and]; exact (hp.used k).2 (.inr ⟨k1, k3⟩)
   have hk2 : (g k lot && U k) = false := by rw [k2, Bool.true_and]; exact hp.fresh k k1 k3
   rw [cnt_add (A := fun k => g k lot && U k) (k := k) hB hk1 hk2 hkF, ih.cnt]
   rfl
end Go.Px.Try

/-! Tm5 -/
namespace Go.Px.Try
open Go Go.Proofs Go.Px
theorem sm_two {f : Nat → Int} {i j : Nat} (hij : i ≠ j) : ∀ {n : Nat}, (∀ k, k < n → 0 ≤ f k) → i < n → j < n → f i + f j ≤ sm f n
 | n + 1, h, hi, hj => by
  rw [sm]
  by_cases e : i = n
  ·subst e
   have := sm_ge_one (f := f) (k := j) (n := i) (fun k hk => h k (by omega)) (by omega)
   omega
  ·by_cases e2 : j = n
   ·subst e2
    have := sm_ge_one (f := f) (k := i) (n := j) (fun k hk => h k (by omega)) (by omega)
    omega
   ·have := sm_two hij (n := n) (fun k hk => h k (by omega)) (by omega) (by omega)
    have := h n (by omega)
    omega
theorem sm_pos {f : Nat → Int} : ∀ {n : Nat}, 0 < sm f n → ∃ k, k < n ∧ 0 < f k
 | 0, h => by simp [sm] at h
 | n + 1, h => by
  rw [sm] at h
  by_cases e : 0 < f n
  ·exact ⟨n, by omega, e⟩
  ·obtain ⟨k, h1, h2⟩ := sm_pos (f := f) (n := n) (by omega)
   exact ⟨k, by omega, h2⟩
def gOf (φ : Nat → Nat → Int) (k i : Nat) : Bool := decide (φ (pout k) (pin i) = 1)
def sOf (φ : Nat → Nat → Int) (i : Nat) : Bool := decide (φ 0 (pin i) = 1)
theorem fg_of {F : List (List Int)} (h : MixOk F) {bad W : Nat → Bool} {lot : Nat} {φ : Nat → Nat → Int} {v : Nat} (hf : Flow (1 + 2 * F.length) (pin lot) (capB F bad W lot) φ v) (hlot : lot < F.length) (hbl : bad lot = false) : FG F bad W lot (gOf φ) (sOf φ) v := by
 have hnn : ∀ i k, 0 ≤ (if k = i then 0 else φ (pout i) (pin k)) := fun i k => by
  split
  ·exact Int.le_refl _
  ·rename_i e; rcases flow_out h hf (k := i) (i := k) (fun e' => e e'.symm) with h | h <;> omega
 have hnn' : ∀ i k, 0 ≤ (if k = i then 0 else φ (pout k) (pin i)) := fun i k => by
  split
  ·exact Int.le_refl _
  ·rename_i e; rcases flow_out h hf (k := k) (i := i) e with h | h <;> omega
 have hne : ∀ {k i}, gOf φ k i = true → k < F.length ∧ i < F.length ∧ (k : Int) ∈ frm F i ∧ k ≠ i ∧ φ (pout k) (pin i) = 1 := fun {k i} hg => by
  have e := of_decide_eq_true hg
  obtain ⟨h1, h2⟩ := flow_edge h hf e
  have := (h.ris i h1).1 _ h2
  exact ⟨by omega, h1, h2, by omega, e⟩
 have hthr : ∀ {k i}, gOf φ k i = true → φ (pin k) (pout k) = 1 := fun {k i} hg => by
  obtain ⟨h1, h2, _, h4, h5⟩ := hne hg
  have hgo := flow_go h hf h1
  have := sm_ge_one (f := fun j => if j = k then 0 else φ (pout k) (pin j)) (k := i) (n := F.length) (fun j _ => hnn k j) h2
  simp only [if_neg (fun e : i = k => h4 e.symm)] at this
  rcases flow_in h hf k with e | e <;> omega
 refine ⟨fun {k i} hg => ?_, fun {i} hs => ?_, fun {k i j} h1 h2 => ?_, fun {i j} hil hg => ?_, ?_⟩
 ·obtain ⟨_, h2, h3, _, _⟩ := hne hg
  have he := (hf.one (no_back_in h k)).2 (hthr hg)
  obtain ⟨_, e2, e3⟩ := edge_in.1 he
  exact ⟨h2, h3, e2, e3⟩
 ·exact (edge_src.1 ((hf.one (no_back_src h i)).2 (of_decide_eq_true hs))).2
 ·refine Decidable.byContradiction fun hij => ?_
  obtain ⟨a1, a2, _, a4, a5⟩ := hne h1
  obtain ⟨_, b2, _, b4, b5⟩ := hne h2
  have hgo := flow_go h hf a1
  have := sm_two (f := fun j => if j = k then 0 else φ (pout k) (pin j)) hij (n := F.length) (fun j _ => hnn k j) a2 b2
  simp only [if_neg (fun e : i = k => a4 e.symm), if_neg (fun e : j = k => b4 e.symm)] at this
  rcases flow_in h hf k with e | e <;> omega
 ·obtain ⟨h1, _⟩ := hne hg
  have hc := flow_come h hf h1 hil
  have ht := hthr hg
  rcases flow_src h hf i with e | e
  ·right
   obtain ⟨k, k1, k2⟩ := sm_pos (f := fun k => if k = i then 0 else φ (pout k) (pin i)) (n := F.length) (by omega)
   have hki : k ≠ i := fun e => by simp only [if_pos e] at k2; omega
   simp only [if_neg hki] at k2
   refine ⟨k, decide_eq_true ?_⟩
   rcases flow_out h hf hki with e | e <;> omega
  ·exact .inl (decide_eq_true e)
 ·obtain ⟨h1, _⟩ := flow_lot h hf hlot hbl
  rw [h1]
  unfold cntS
  refine sm_congr fun k _ => ?_
  by_cases e : k = lot
  ·subst e
   rw [if_pos rfl, if_neg (fun hg => (hne hg).2.2.2.1 rfl)]
  ·rw [if_neg e]
   rcases flow_out h hf e with e2 | e2
   ·rw [e2]; simp [gOf, e2]
   ·rw [e2]; simp [gOf, e2]
/-- A way whose nodes are all free comes to its end. -/
theorem way_free {F : List (List Int)} (h : MixOk F) {bad W Y : Nat → Bool} {lot : Nat} {g : Nat → Nat → Bool} {s : Nat → Bool} {v : Nat} (hG : FG F bad W lot g s v) (hbad : ∀ i, bad i = true → frm F i = []) :
  ∀ (w : List Nat), gW g w → 2 ≤ w.length → s (w.headD 0) = true → (∀ k ∈ w, Y k = false) → fr F bad Y (w.getLastD 0) = true := by
 have step : ∀ (w : List Nat) (a : Nat), gW g (a :: w) → fr F bad Y a = true → (∀ k ∈ w, Y k = false) → fr F bad Y ((a :: w).getLastD 0) = true := by
  intro w
  induction w with
  | nil => intro a _ ha _; exact ha
  | cons b l ih =>
   intro a h1 ha hY
   have hg := hG.ge h1.1
   have hb : fr F bad Y b = true := (fr_true h hg.1).2 ⟨hY b (List.mem_cons_self ..), .inr ⟨a, hg.2.1, ha⟩⟩
   exact ih b h1.2 hb fun k hk => hY k (List.mem_cons_of_mem _ hk)
 intro w h1 h2 h3 hY
 cases w with
 | nil => simp at h2
 | cons a w =>
  have hb := hG.se h3
  have haF : a < F.length := by
   cases w with
   | nil => simp at h2
   | cons b l =>
    have hg := hG.ge h1.1
    have := (h.ris _ hg.1).1 _ hg.2.1
    omega
  exact step w a h1 ((fr_true h haF).2 ⟨hY a (List.mem_cons_self ..), .inl ⟨hbad a hb, hb⟩⟩) fun k hk => hY k (List.mem_cons_of_mem _ hk)
theorem cnt_rem {A : Nat → Bool} {k n : Nat} (hk : k < n) (hA : A k = true) : cntS (fun i => if i = k then false else A i) n + 1 = cntS A n := by
 refine (cnt_add (k := k) (fun i hi => ?_) hA ?_ hk).symm
 ·rw [if_neg hi]
 ·rw [if_pos rfl]
/-- Ways apart: a set that has a node of each one has as many nodes. -/
theorem hit_cnt {n lot : Nat} : ∀ (ws : List (List Nat)) (X : Nat → Bool), ws.Pairwise (fun a b => ∀ k, k ∈ a → k ∈ b → k = lot) → (∀ w ∈ ws, ∃ k ∈ w, X k = true ∧ k < n ∧ k ≠ lot) → (ws.length : Int) ≤ cntS X n
 | [], X, _, _ => by
  show (0 : Int) ≤ _
  unfold cntS; exact sm_nn fun i _ => by split <;> omega
 | w :: ws, X, hp, hx => by
  obtain ⟨k, h1, h2, h3, h4⟩ := hx w (List.mem_cons_self ..)
  have hp2 := List.pairwise_cons.1 hp
  have ih := hit_cnt ws (fun i => if i = k then false else X i) hp2.2 fun w' hw' => by
   obtain ⟨k', a1, a2, a3, a4⟩ := hx w' (List.mem_cons_of_mem _ hw')
   refine ⟨k', a1, ?_, a3, a4⟩
   rw [if_neg (fun e : k' = k => h4 (hp2.1 w' hw' k h1 (by rw [← e]; exact a1)))]; exact a2
  have := cnt_rem h3 h2
  simp only [List.length_cons]
  omega
/-- No cut has fewer nodes than there are ways apart. -/
theorem cut_ge {F : List (List Int)} (h : MixOk F) {bad W : Nat → Bool} {lot : Nat} {g : Nat → Nat → Bool} {s : Nat → Bool} {v r : Nat} (hG : FG F bad W lot g s v) (hbad : ∀ i, bad i = true → frm F i = []) (hWl : W lot = false) {ws : List (List Nat)} {U : Nat → Bool} (hI : WInv F lot g s r ws U) {X : Nat → Bool} (hXl : X lot = false) (hX : fr F bad (fun i => W i || X i) lot = false) : (r : Int) ≤ cntS X F.length := by
 rw [← hI.len]
 refine hit_cnt ws X hI.apart fun w hw => ?_
 obtain ⟨a1, a2, a3, a4, a5⟩ := hI.way w hw
 refine Classical.byContradiction fun hn => ?_
 have hlast : w.getLastD 0 = lot := by
  cases w with
  | nil => simp at a3
  | cons a l => rw [List.getLastD_eq_getLast?, a2]; rfl
 have := way_free (Y := fun i => W i || X i) h hG hbad w a1 a3 a4 fun k hk => by
  by_cases e : k = lot
  ·subst e; rw [hWl, hXl]; rfl
  ·obtain ⟨j, _, hj⟩ := gW_succ a1 a2 hk e
   have hg := hG.ge hj
   have hkF : k < F.length := by have := (h.ris _ hg.1).1 _ hg.2.1; omega
   cases hXk : X k with
   | false => rw [hg.2.2.2]; rfl
   | true => exact absurd ⟨k, hk, hXk, hkF, e⟩ hn
 rw [hlast, hX] at this
 cases this
end Go.Px.Try

/-! Tm6 -/
namespace Go.Px.Try
open Go Go.Proofs Go.Px
/-- How many nodes a shortest cut has, besides some nodes. -/
structure Lam (F : List (List Int)) (bad : Nat → Bool) (lot : Nat) (W : Nat → Bool) (v : Nat) : Prop where
 att : ∃ C : Nat → Bool, (∀ i, C i = true → i < F.length ∧ i ≠ lot) ∧ cntS C F.length = v ∧ fr F bad (fun i => W i || C i) lot = false
 low : ∀ X : Nat → Bool, X lot = false → fr F bad (fun i => W i || X i) lot = false → (v : Int) ≤ cntS X F.length
theorem Lam.uniq {F : List (List Int)} {bad : Nat → Bool} {lot : Nat} {W : Nat → Bool} {v v' : Nat} (h : Lam F bad lot W v) (h' : Lam F bad lot W v') : v = v' := by
 obtain ⟨C, c1, c2, c3⟩ := h.att
 obtain ⟨C', d1, d2, d3⟩ := h'.att
 have hl : ∀ {C : Nat → Bool}, (∀ i, C i = true → i < F.length ∧ i ≠ lot) → C lot = false := fun {C} hc => by
  cases e : C lot with
  | false => rfl
  | true => exact absurd rfl (hc lot e).2
 have := h.low C' (hl d1) d3
 have := h'.low C (hl c1) c3
 omega
theorem cnt_nn (A : Nat → Bool) (n : Nat) : 0 ≤ cntS A n := sm_nn fun i _ => by split <;> omega
theorem cnt_mono {A B : Nat → Bool} {n : Nat} (h : ∀ i, i < n → A i = true → B i = true) : cntS A n ≤ cntS B n := sm_le fun i hi => by
 by_cases e : A i = true
 ·rw [if_pos e, if_pos (h i hi e)]; exact Int.le_refl _
 ·rw [if_neg e]; split <;> omega
theorem cnt_congr {A B : Nat → Bool} {n : Nat} (h : ∀ i, i < n → A i = B i) : cntS A n = cntS B n := sm_congr fun i hi => by rw [h i hi]
theorem cnt_mark {A : Nat → Bool} {k n : Nat} (hk : k < n) (hA : A k = false) : cntS (mark A k) n = cntS A n + 1 :=
 cnt_add (k := k) (fun i hi => if_neg hi) (if_pos rfl) hA hk
theorem cnt_mark_le (A : Nat → Bool) (k n : Nat) : cntS (mark A k) n ≤ cntS A n + 1 := by
 by_cases hk : k < n
 ·cases hA : A k with
  | false => rw [cnt_mark hk hA]; exact Int.le_refl _
  | true =>
   have : cntS (mark A k) n = cntS A n := cnt_congr fun i _ => by
    unfold mark; split
    ·rename_i e; subst e; exact hA.symm
    ·rfl
   omega
 ·have : cntS (mark A k) n = cntS A n := cnt_congr fun i hi => by unfold mark; rw [if_neg (by omega)]
  omega
theorem fr_anti {F : List (List Int)} (h : MixOk F) {bad W W' : Nat → Bool} (hW : ∀ i, W i = true → W' i = true) : ∀ i, i < F.length → fr F bad W' i = true → fr F bad W i = true := by
 intro i
 induction i using Nat.strongRecOn with
 | ind i ih =>
  intro hi hf
  obtain ⟨h1, h2⟩ := (fr_true h hi).1 hf
  refine (fr_true h hi).2 ⟨?_, ?_⟩
  ·cases e : W i with
   | false => rfl
   | true => rw [hW i e] at h1; cases h1
  ·rcases h2 with h2 | ⟨k, hk, hfk⟩
   ·exact .inl h2
   ·have := (h.ris i hi).1 _ hk
    exact .inr ⟨k, hk, ih k (by omega) (by omega) hfk⟩
theorem fr_more_set {F : List (List Int)} (h : MixOk F) {bad W W' : Nat → Bool} {lot : Nat} (hlot : lot < F.length) (hW : ∀ i, W i = true → W' i = true) (hc : fr F bad W lot = false) : fr F bad W' lot = false := by
 cases e : fr F bad W' lot with
 | false => rfl
 | true => rw [fr_anti h hW lot hlot e] at hc; cases hc
theorem fr_same {F : List (List Int)} {bad W W' : Nat → Bool} {lot : Nat} (hW : ∀ i, W i = W' i) : fr F bad W lot = fr F bad W' lot := by
 rw [show W = W' from funext hW]
/-- With one more node at most one less is needed. -/
theorem Lam.step {F : List (List Int)} (h : MixOk F) {bad : Nat → Bool} {lot : Nat} (hlot : lot < F.length) {W : Nat → Bool} {k v v' : Nat} (hk : k ≠ lot) (h1 : Lam F bad lot W v) (h2 : Lam F bad lot (mark W k) v') : v' ≤ v ∧ v ≤ v' + 1 := by
 constructor
 ·obtain ⟨C, c1, c2, c3⟩ := h1.att
  have hCl : C lot = false := by
   cases e : C lot with
   | false => rfl
   | true => exact absurd rfl (c1 lot e).2
  have := h2.low C hCl (fr_more_set h hlot (fun i hi => by
   unfold mark; split
   ·rfl
   ·exact hi) c3)
  omega
 ·obtain ⟨C, c1, c2, c3⟩ := h2.att
  have hCl : C lot = false := by
   cases e : C lot with
   | false => rfl
   | true => exact absurd rfl (c1 lot e).2
  have := h1.low (mark C k) (by unfold mark; rw [if_neg (Ne.symm hk)]; exact hCl) (by
   rw [fr_same (W' := fun i => mark W k i || C i)]
   ·exact c3
   ·intro i; unfold mark; by_cases e : i = k
    ·rw [if_pos e, if_pos e, Bool.or_true, Bool.true_or]
    ·rw [if_neg e, if_neg e])
  have h3 := cnt_mark_le C k F.length
  omega
/-- A set of nodes that is a cut of the least size. -/
structure MinCut (F : List (List Int)) (bad : Nat → Bool) (lot : Nat) (m : Nat) (X : Nat → Bool) : Prop where
 in' : ∀ i, X i = true → i < F.length ∧ i ≠ lot
 cnt : cntS X F.length = m
 cut : fr F bad X lot = false
/-- Some shortest cut has all of a set just if so many less are needed. -/
theorem lam_ext {F : List (List Int)} {bad : Nat → Bool} {lot : Nat} {O : Nat → Bool} {m l : Nat} (hO : ∀ i, O i = true → i < F.length ∧ i ≠ lot) (hc : cntS O F.length + l = m) {v : Nat} (hv : Lam F bad lot O v) (hm : ∀ X : Nat → Bool, X lot = false → fr F bad X lot = false → (m : Int) ≤ cntS X F.length) :
  l ≤ v ∧ (v = l ↔ ∃ X, MinCut F bad lot m X ∧ ∀ i, O i = true → X i = true) := by
 have hlf : ∀ {C : Nat → Bool}, (∀ i, C i = true → i < F.length ∧ i ≠ lot) → C lot = false := fun {C} hc => by
  cases e : C lot with
  | false => rfl
  | true => exact absurd rfl (hc lot e).2
 have hor : ∀ (A B : Nat → Bool) (n : Nat), cntS (fun i => A i || B i) n ≤ cntS A n + cntS B n := fun A B n => by
  unfold cntS
  rw [← sm_add]
  refine sm_le fun i _ => ?_
  show (if (A i || B i) = true then (1 : Int) else 0) ≤ (if A i = true then 1 else 0) + if B i = true then 1 else 0
  cases A i <;> cases B i <;> decide
 obtain ⟨C, c1, c2, c3⟩ := hv.att
 have hu : ∀ i, (O i || C i) = true → i < F.length ∧ i ≠ lot := fun i hi => by
  rcases Bool.or_eq_true _ _ |>.mp hi with h | h
  ·exact hO i h
  ·exact c1 i h
 have h1 := hm (fun i => O i || C i) (by show (O lot || C lot) = false; rw [hlf hO, hlf c1]; rfl) c3
 have h2 := hor O C F.length
 refine ⟨by omega, ?_, ?_⟩
 ·rintro rfl
  exact ⟨fun i => O i || C i, ⟨hu, by omega, c3⟩, fun i hi => by show (O i || C i) = true; rw [hi]; rfl⟩
 ·rintro ⟨X, hX, hsub⟩
  -- the others of the cut are enough
  have hd : cntS (fun i => X i && !O i) F.length = l := by
   have : cntS X F.length = cntS O F.length + cntS (fun i => X i && !O i) F.length := by
    unfold cntS
    rw [← sm_add]
    refine sm_congr fun i _ => ?_
    show (if X i = true then (1 : Int) else 0) = (if O i = true then 1 else 0) + if (X i && !O i) = true then 1 else 0
    cases hOi : O i with
    | true => rw [hsub i hOi]; decide
    | false => cases X i <;> decide
   have := hX.cnt
   omega
  have h3 := hv.low (fun i => X i && !O i) (by show (X lot && !O lot) = false; rw [hlf hX.in']; rfl) (by
   rw [fr_same (W' := X)]
   ·exact hX.cut
   ·intro i
    cases hOi : O i with
    | true => rw [hsub i hOi]; rfl
    | false => simp)
  omega
end Go.Px.Try

/-! Tm7 -/
namespace Go.Px.Try
open Go Go.Proofs Go.Px
def inS (l : List Nat) : Nat → Bool := fun i => l.contains i
theorem inS_iff {l : List Nat} {i : Nat} : inS l i = true ↔ i ∈ l := by simp [inS]
theorem inS_not {l : List Nat} {i : Nat} : inS l i = false ↔ i ∉ l := by
 rw [← inS_iff]; cases inS l i <;> simp
theorem cnt_list : ∀ {l : List Nat} {n : Nat}, l.Nodup → (∀ i ∈ l, i < n) → cntS (inS l) n = l.length
 | [], n, _, _ => by unfold cntS; exact sm_zero fun i _ => by simp [inS]
 | a :: l, n, hn, hl => by
  have h := List.nodup_cons.1 hn
  have ih := cnt_list h.2 fun i hi => hl i (List.mem_cons_of_mem _ hi)
  rw [cnt_add (A := inS l) (B := inS (a :: l)) (k := a) (fun i hi => ?_) (inS_iff.2 (List.mem_cons_self ..)) (inS_not.2 h.1) (hl a (List.mem_cons_self ..)), ih]
  ·simp
  ·rw [Bool.eq_iff_iff, inS_iff, inS_iff]
   exact ⟨fun h => (List.mem_cons.1 h).resolve_left hi, fun h => List.mem_cons_of_mem _ h⟩
/-- Node by node: the nodes that are taken, and how many are left to be taken. -/
def grdy (lam : (Nat → Bool) → Nat) (lot m : Nat) : Nat → List Nat × Nat
 | 0 => ([], m)
 | i + 1 => if (grdy lam lot m i).2 = 0 then grdy lam lot m i
   else if i ≠ lot ∧ lam (inS ((grdy lam lot m i).1 ++ [i])) < (grdy lam lot m i).2 then ((grdy lam lot m i).1 ++ [i], (grdy lam lot m i).2 - 1) else grdy lam lot m i
section
variable {F : List (List Int)} {bad : Nat → Bool} {lot : Nat} {lam : (Nat → Bool) → Nat} {m : Nat}
structure GInv (F : List (List Int)) (bad : Nat → Bool) (lot : Nat) (lam : (Nat → Bool) → Nat) (m i : Nat) (o : List Nat) (l : Nat) : Prop where
 lt : ∀ k ∈ o, k < i ∧ k ≠ lot
 inc : o.Pairwise (· < ·)
 lam : lam (inS o) = l
 len : o.length + l = m
 not : ∀ j, j < i → j ≠ lot → j ∉ o → ¬ ∃ X, MinCut F bad lot m X ∧ (∀ k ∈ o, k < j → X k = true) ∧ X j = true
theorem nodup_inc {o : List Nat} (h : o.Pairwise (· < ·)) : o.Nodup := h.imp fun h => by omega
theorem grdy_ok (hlam : ∀ W : Nat → Bool, W lot = false → Lam F bad lot W (lam W)) (hm : lam (fun _ => false) = m) : ∀ i, i ≤ F.length → GInv F bad lot lam m i (grdy lam lot m i).1 (grdy lam lot m i).2
 | 0, _ => ⟨(fun k (h : k ∈ []) => (by cases h)), List.Pairwise.nil, by rw [← hm]; rfl, by simp [grdy], fun j hj => by omega⟩
 | i + 1, hi => by
  have ih := grdy_ok hlam hm i (by omega)
  rw [grdy]
  generalize grdy lam lot m i = p at ih
  obtain ⟨o, l⟩ := p
  simp only at ih ⊢
  have hnd := nodup_inc ih.inc
  have hlotN : lot ∉ o := fun h => (ih.lt lot h).2 rfl
  have hm0 : ∀ X : Nat → Bool, X lot = false → fr F bad X lot = false → (m : Int) ≤ cntS X F.length := fun X hX hc => by
   have := (hlam (fun _ => false) rfl).low X hX (by rw [fr_same (W' := X) fun i => by simp]; exact hc)
   omega
  have hfl : ∀ {X : Nat → Bool}, MinCut F bad lot m X → ∀ (S : List Nat), S.Nodup → (∀ k ∈ S, X k = true) → S.length ≤ m := fun {X} hX S hS hin => by
   have h1 := cnt_list hS fun k hk => (hX.in' k (hin k hk)).1
   have h2 := cnt_mono (A := inS S) (B := X) (n := F.length) fun k _ hk => hin k (inS_iff.1 hk)
   have := hX.cnt
   omega
  by_cases h0 : l = 0
  ·rw [if_pos h0]
   refine ⟨fun k hk => ⟨by have := (ih.lt k hk).1; omega, (ih.lt k hk).2⟩, ih.inc, ih.lam, ih.len, fun j hj hjl hjo => ?_⟩
   by_cases e : j = i
   ·subst e
    rintro ⟨X, hX, h1, h2⟩
    have := hfl hX (j :: o) (List.nodup_cons.2 ⟨hjo, hnd⟩) fun k hk => by
     rcases List.mem_cons.1 hk with h | h
     ·rw [h]; exact h2
     ·exact h1 k h (ih.lt k h).1
    have := ih.len
    simp only [List.length_cons] at *
    omega
   ·exact ih.not j (by omega) hjl hjo
  ·rw [if_neg h0]
   have hsnoc : ∀ k, inS (o ++ [i]) k = true ↔ k ∈ o ∨ k = i := fun k => by rw [inS_iff]; simp
   have hio : i ∉ o := fun h => by have := (ih.lt i h).1; omega
   -- what the test tells
   have htest : i ≠ lot → (lam (inS (o ++ [i])) < l ↔ ∃ X, MinCut F bad lot m X ∧ (∀ k ∈ o, X k = true) ∧ X i = true) := fun hil => by
    have hO : ∀ k, inS (o ++ [i]) k = true → k < F.length ∧ k ≠ lot := fun k hk => by
     rcases (hsnoc k).1 hk with h | h
     ·exact ⟨by have := (ih.lt k h).1; omega, (ih.lt k h).2⟩
     ·subst h; exact ⟨by omega, hil⟩
    have hc := cnt_list (l := o ++ [i]) (n := F.length) (List.nodup_append.2 ⟨hnd, by simp, fun a ha b hb e => by rw [List.mem_singleton.1 hb] at e; subst e; exact hio ha⟩) fun k hk => (hO k (inS_iff.2 hk)).1
    have hl := ih.len
    rw [List.length_append] at hc
    simp only [List.length_cons, List.length_nil] at hc
    have hWl : inS (o ++ [i]) lot = false := by
     rw [inS_not]; intro h
     rcases List.mem_append.1 h with h | h
     ·exact hlotN h
     ·exact hil (List.mem_singleton.1 h).symm
    obtain ⟨e1, e2⟩ := lam_ext (l := l - 1) hO (by rw [hc]; omega) (hlam _ hWl) hm0
    constructor
    ·intro hlt
     obtain ⟨X, hX, hsub⟩ := e2.1 (by omega)
     exact ⟨X, hX, fun k hk => hsub k ((hsnoc k).2 (.inl hk)), hsub i ((hsnoc i).2 (.inr rfl))⟩
    ·rintro ⟨X, hX, h1, h2⟩
     have := e2.2 ⟨X, hX, fun k hk => by
      rcases (hsnoc k).1 hk with h | h
      ·exact h1 k h
      ·rw [h]; exact h2⟩
     omega
   by_cases ht : i ≠ lot ∧ lam (inS (o ++ [i])) < l
   ·rw [if_pos ht]
    have hWl : inS (o ++ [i]) lot = false := by
     rw [inS_not]; intro h
     rcases List.mem_append.1 h with h | h
     ·exact hlotN h
     ·exact ht.1 (List.mem_singleton.1 h).symm
    refine ⟨fun k hk => ?_, ?_, ?_, ?_, fun j hj hjl hjo => ?_⟩
    ·rcases List.mem_append.1 hk with h | h
     ·exact ⟨by have := (ih.lt k h).1; omega, (ih.lt k h).2⟩
     ·rw [List.mem_singleton.1 h]; exact ⟨by omega, ht.1⟩
    ·exact List.pairwise_append.2 ⟨ih.inc, List.pairwise_singleton _ _, fun a ha b hb => by rw [List.mem_singleton.1 hb]; exact (ih.lt a ha).1⟩
    ·-- one less
     have hO : ∀ k, inS (o ++ [i]) k = true → k < F.length ∧ k ≠ lot := fun k hk => by
      rcases (hsnoc k).1 hk with h | h
      ·exact ⟨by have := (ih.lt k h).1; omega, (ih.lt k h).2⟩
      ·subst h; exact ⟨by omega, ht.1⟩
     have hc := cnt_list (l := o ++ [i]) (n := F.length) (List.nodup_append.2 ⟨hnd, by simp, fun a ha b hb e => by rw [List.mem_singleton.1 hb] at e; subst e; exact hio ha⟩) fun k hk => (hO k (inS_iff.2 hk)).1
     have hl := ih.len
     rw [List.length_append] at hc
     simp only [List.length_cons, List.length_nil] at hc
     obtain ⟨e1, _⟩ := lam_ext (l := l - 1) hO (by rw [hc]; omega) (hlam _ hWl) hm0
     have := ht.2
     show lam (inS (o ++ [i])) = l - 1
     omega
    ·have := ih.len
     simp only [List.length_append, List.length_cons, List.length_nil]; omega
    ·have hji : j ≠ i := fun e => hjo (by rw [e]; simp)
     rintro ⟨X, hX, h1, h2⟩
     exact ih.not j (by omega) hjl (fun h => hjo (List.mem_append_left _ h)) ⟨X, hX, fun k hk hkj => h1 k (List.mem_append_left _ hk) hkj, h2⟩
   ·rw [if_neg ht]
    refine ⟨fun k hk => ⟨by have := (ih.lt k hk).1; omega, (ih.lt k hk).2⟩, ih.inc, ih.lam, ih.len, fun j hj hjl hjo => ?_⟩
    by_cases e : j = i
    ·subst e
     rintro ⟨X, hX, h1, h2⟩
     exact ht ⟨hjl, (htest hjl).2 ⟨X, hX, fun k hk => h1 k hk (ih.lt k hk).1, h2⟩⟩
    ·exact ih.not j (by omega) hjl hjo
/-- At the end it is a shortest cut. -/
theorem grdy_end (hlam : ∀ W : Nat → Bool, W lot = false → Lam F bad lot W (lam W)) (hm : lam (fun _ => false) = m) {o : List Nat} {l : Nat} (h : GInv F bad lot lam m F.length o l) : l = 0 ∧ MinCut F bad lot m (inS o) := by
 have hnd := nodup_inc h.inc
 have hO : ∀ k, inS o k = true → k < F.length ∧ k ≠ lot := fun k hk => h.lt k (inS_iff.1 hk)
 have hc := cnt_list hnd fun k hk => (h.lt k hk).1
 have hWl : inS o lot = false := inS_not.2 fun e => (h.lt lot e).2 rfl
 have hm0 : ∀ X : Nat → Bool, X lot = false → fr F bad X lot = false → (m : Int) ≤ cntS X F.length := fun X hX hc => by
  have := (hlam (fun _ => false) rfl).low X hX (by rw [fr_same (W' := X) fun i => by simp]; exact hc)
  omega
 have hlen := h.len
 obtain ⟨_, e2⟩ := lam_ext (l := l) hO (by rw [hc]; omega) (hlam _ hWl) hm0
 obtain ⟨X, hX, hsub⟩ := e2.1 h.lam
 have hl0 : l = 0 := by
  refine Decidable.byContradiction fun hne => ?_
  obtain ⟨k, h1, h2, h3⟩ := cnt_lt (A := inS o) (B := X) (n := F.length) (by rw [hc, hX.cnt]; omega)
  exact h.not k h1 (hX.in' k h2).2 (inS_not.1 h3) ⟨X, hX, fun j hj _ => hsub j (inS_iff.2 hj), h2⟩
 refine ⟨hl0, hO, by rw [hc]; omega, ?_⟩
 have : ∀ k, k < F.length → inS o k = X k := fun k hk => by
  cases hXk : X k with
  | false =>
   cases ho : inS o k with
   | false => rfl
   | true => rw [hsub k ho] at hXk; cases hXk
  | true =>
   cases ho : inS o k with
   | true => rfl
   | false =>
    have h5 := cnt_mono (A := mark (inS o) k) (B := X) (n := F.length) fun j _ hj => by
     unfold mark at hj
     by_cases e : j = k
     ·rw [e]; exact hXk
     ·rw [if_neg e] at hj; exact hsub j hj
    rw [cnt_mark hk ho, hc, hX.cnt] at h5
    omega
 rw [fr_same (W' := X) fun k => ?_]
 ·exact hX.cut
 ·by_cases hk : k < F.length
  ·exact this k hk
  ·have a : inS o k = false := inS_not.2 fun e => hk (h.lt k e).1
   have b : X k = false := by
    cases e : X k with
    | false => rfl
    | true => exact absurd (hX.in' k e).1 hk
   rw [a, b]
end
/-! ### The definition's search -/
/-- The first cut of so many nodes that begins with some and goes on with those from one on. -/
def grwR (F : List (List Int)) (bad : Nat → Bool) (lot many : Nat) : Nat → List Nat → Nat → Option (List Nat)
 | f, begun, i => if begun.length = many then (if fr F bad (inS begun) lot = false then some begun else none) else
  match f with
  | 0 => none
  | f + 1 => if i = lot then grwR F bad lot many f begun (i + 1) else
    match grwR F bad lot many f (begun ++ [i]) (i + 1) with
    | some l => some l
    | none => grwR F bad lot many f begun (i + 1)
theorem grwR_some {F : List (List Int)} {bad : Nat → Bool} {lot many : Nat} : ∀ (f : Nat) (begun : List Nat) (i : Nat) (l : List Nat), grwR F bad lot many f begun i = some l → begun.Pairwise (· < ·) → (∀ k ∈ begun, k < i ∧ k ≠ lot) →
  (∃ t, l = begun ++ t) ∧ l.length = many ∧ fr F bad (inS l) lot = false ∧ l.Pairwise (· < ·) ∧ ∀ k ∈ l, k < i + f ∧ k ≠ lot
 | f, begun, i, l, h, hp, hk => by
  unfold grwR at h
  by_cases hl : begun.length = many
  ·rw [if_pos hl] at h
   split at h
   ·rename_i hc
    cases h
    exact ⟨⟨[], by simp⟩, hl, hc, hp, fun k hkk => ⟨by have := (hk k hkk).1; omega, (hk k hkk).2⟩⟩
   ·cases h
  ·rw [if_neg hl] at h
   cases f with
   | zero => cases h
   | succ f =>
    simp only at h
    by_cases hil : i = lot
    ·rw [if_pos hil] at h
     obtain ⟨a1, a2, a3, a4, a5⟩ := grwR_some f begun (i + 1) l h hp fun k hkk => ⟨by have := (hk k hkk).1; omega, (hk k hkk).2⟩
     exact ⟨a1, a2, a3, a4, fun k hkk => ⟨by have := (a5 k hkk).1; omega, (a5 k hkk).2⟩⟩
    ·rw [if_neg hil] at h
     cases hr : grwR F bad lot many f (begun ++ [i]) (i + 1) with
     | some l' =>
      rw [hr] at h; cases h
      obtain ⟨⟨t, a1⟩, a2, a3, a4, a5⟩ := grwR_some f (begun ++ [i]) (i + 1) l hr (List.pairwise_append.2 ⟨hp, List.pairwise_singleton _ _, fun a ha b hb => by rw [List.mem_singleton.1 hb]; exact (hk a ha).1⟩) fun k hkk => by
       rcases List.mem_append.1 hkk with h | h
       ·exact ⟨by have := (hk k h).1; omega, (hk k h).2⟩
       ·rw [List.mem_singleton.1 h]; exact ⟨by omega, hil⟩
      exact ⟨⟨i :: t, by rw [a1, List.append_assoc]; rfl⟩, a2, a3, a4, fun k hkk => ⟨by have := (a5 k hkk).1; omega, (a5 k hkk).2⟩⟩
     | none =>
      rw [hr] at h
      obtain ⟨a1, a2, a3, a4, a5⟩ := grwR_some f begun (i + 1) l h hp fun k hkk => ⟨by have := (hk k hkk).1; omega, (hk k hkk).2⟩
      exact ⟨a1, a2, a3, a4, fun k hkk => ⟨by have := (a5 k hkk).1; omega, (a5 k hkk).2⟩⟩
theorem filter_next {o : List Nat} (hinc : o.Pairwise (· < ·)) (i : Nat) : (o.filter fun k => decide (k < i + 1)) = if i ∈ o then (o.filter fun k => decide (k < i)) ++ [i] else o.filter fun k => decide (k < i) := by
 induction o with
 | nil => simp
 | cons a t ih =>
  rw [List.pairwise_cons] at hinc
  have iht := ih hinc.2
  by_cases ha : a < i
  ·rw [List.filter_cons_of_pos (by simp; omega), List.filter_cons_of_pos (by simpa using ha), iht]
   by_cases hit : i ∈ t
   ·rw [if_pos hit, if_pos (List.mem_cons_of_mem _ hit)]; rfl
   ·rw [if_neg hit, if_neg (fun e => (List.mem_cons.1 e).elim (fun e => by omega) hit)]
  ·have hnone : (t.filter fun k => decide (k < i)) = [] := by
    rw [List.filter_eq_nil_iff]
    intro b hb
    have := hinc.1 b hb
    simp; omega
   by_cases hai : a = i
   ·subst hai
    have hnone2 : (t.filter fun k => decide (k < a + 1)) = [] := by
     rw [List.filter_eq_nil_iff]
     intro b hb
     have := hinc.1 b hb
     simp; omega
    rw [List.filter_cons_of_pos (by simp), List.filter_cons_of_neg (by simp), hnone, hnone2, if_pos (List.mem_cons_self ..)]; rfl
   ·have hnone2 : (t.filter fun k => decide (k < i + 1)) = [] := by
     rw [List.filter_eq_nil_iff]
     intro b hb
     have := hinc.1 b hb
     simp; omega
    rw [List.filter_cons_of_neg (by simp; omega), List.filter_cons_of_neg (by simpa using ha), hnone, hnone2, if_neg]
    intro e
    rcases List.mem_cons.1 e with e | e
    ·exact hai e.symm
    ·have := hinc.1 i e; omega
/-- It finds the one that is found node by node. -/
theorem grwR_grdy {F : List (List Int)} {bad : Nat → Bool} {lot : Nat} {lam : (Nat → Bool) → Nat} {m : Nat} {o : List Nat} (hlam : ∀ W : Nat → Bool, W lot = false → Lam F bad lot W (lam W)) (hm : lam (fun _ => false) = m) (h : GInv F bad lot lam m F.length o 0) (hX : MinCut F bad lot m (inS o)) :
  ∀ (f i : Nat), i + f = F.length → grwR F bad lot m f (o.filter fun k => decide (k < i)) i = some o
 | f, i, hf => by
  have hlen : o.length = m := by have := h.len; omega
  have hnd := nodup_inc h.inc
  have hall : (o.filter fun k => decide (k < i)).length = m → (o.filter fun k => decide (k < i)) = o := fun e => by
   rw [List.filter_eq_self]
   intro a ha
   have hsub : (o.filter fun k => decide (k < i)).Sublist o := List.filter_sublist
   have := hsub.eq_of_length (by rw [e, hlen])
   rw [← this] at ha
   exact (List.mem_filter.1 ha).2
  unfold grwR
  by_cases hl : (o.filter fun k => decide (k < i)).length = m
  ·rw [if_pos hl, hall hl, if_pos hX.cut]
  ·rw [if_neg hl]
   cases f with
   | zero =>
    exfalso
    apply hl
    have : (o.filter fun k => decide (k < i)) = o := by
     rw [List.filter_eq_self]
     intro a ha
     have := (h.lt a ha).1
     exact decide_eq_true (by omega)
    rw [this]; exact hlen
   | succ f =>
    simp only
    have hnx := filter_next h.inc i
    have ih := grwR_grdy hlam hm h hX f (i + 1) (by omega)
    by_cases hil : i = lot
    ·rw [if_pos hil]
     rw [if_neg (fun e => (h.lt i e).2 hil)] at hnx
     rw [hnx] at ih; exact ih
    ·rw [if_neg hil]
     by_cases hio : i ∈ o
     ·rw [if_pos hio] at hnx
      rw [hnx] at ih; rw [ih]
     ·rw [if_neg hio] at hnx
      rw [hnx] at ih
      cases hr : grwR F bad lot m f ((o.filter fun k => decide (k < i)) ++ [i]) (i + 1) with
      | none => exact ih
      | some l =>
       exfalso
       obtain ⟨⟨t, a1⟩, a2, a3, a4, a5⟩ := grwR_some f _ (i + 1) l hr (List.pairwise_append.2 ⟨h.inc.sublist List.filter_sublist, List.pairwise_singleton _ _, fun a ha b hb => by rw [List.mem_singleton.1 hb]; exact of_decide_eq_true (List.mem_filter.1 ha).2⟩) fun k hkk => by
        rcases List.mem_append.1 hkk with hh | hh
        ·exact ⟨by have := of_decide_eq_true (List.mem_filter.1 hh).2; omega, (h.lt k (List.mem_filter.1 hh).1).2⟩
        ·rw [List.mem_singleton.1 hh]; exact ⟨by omega, hil⟩
       refine h.not i (by omega) hil hio ⟨inS l, ⟨fun k hk => ?_, ?_, a3⟩, fun k hk hki => ?_, ?_⟩
       ·have := a5 k (inS_iff.1 hk); exact ⟨by omega, this.2⟩
       ·rw [cnt_list (nodup_inc a4) fun k hk => by have := (a5 k hk).1; omega, a2]
       ·rw [inS_iff, a1]
        exact List.mem_append_left _ (List.mem_append_left _ (List.mem_filter.2 ⟨hk, decide_eq_true hki⟩))
       ·rw [inS_iff, a1]
        exact List.mem_append_left _ (List.mem_append_right _ (List.mem_singleton_self _))
end Go.Px.Try

/-! Tf1 -/
namespace Go.Px.Try
open Go Go.Proofs Go.Px
set_option maxRecDepth 100000
theorem hM : Try.prog.follows .mixedOrders = true := Checked.mixed Try.checked
theorem getD_mem {α : Type} {l : List α} {i : Nat} (h : i < l.length) (d : α) : l.getD i d ∈ l := by
 rw [List.getD_eq_getElem?_getD, List.getElem?_eq_getElem h]; exact List.getElem_mem h
theorem mem_getD {α : Type} {l : List α} {x : α} {d : α} (h : x ∈ l) : ∃ j, j < l.length ∧ l.getD j d = x := by
 obtain ⟨j, hj, rfl⟩ := List.getElem_of_mem h
 exact ⟨j, hj, by rw [List.getD_eq_getElem?_getD, List.getElem?_eq_getElem hj]; rfl⟩
theorem take_succ_getD {α : Type} (l : List α) (i : Nat) (d : α) (h : i < l.length) : l.take (i + 1) = l.take i ++ [l.getD i d] := by
 rw [List.take_add_one, List.getD_eq_getElem?_getD, List.getElem?_eq_getElem h]; rfl
theorem inc_getD {l : List Int} (h : l.Pairwise (· < ·)) (i j : Nat) (hij : i < j) (hj : j < l.length) : l.getD i 0 < l.getD j 0 := by
 rw [List.getD_eq_getElem?_getD, List.getElem?_eq_getElem (by omega), List.getD_eq_getElem?_getD, List.getElem?_eq_getElem hj]
 exact List.pairwise_iff_getElem.1 h i j (by omega) hj hij
def rowsD (F : List (List Int)) : DV := slOf 1 ints [] F
def mixD (F : List (List Int)) : DV := st [rowsD F]
/-- A strictly increasing list of numbers from 0 on, below another one. -/
def rsL (l : List Int) (b : Int) : Prop := (∀ x ∈ l, 0 ≤ x ∧ x < b) ∧ l.Pairwise (· < ·)
instance (l : List Int) (b : Int) : Decidable (rsL l b) := by unfold rsL; exact inferInstance
def RsTo (l : List Int) (b : Int) (k : Nat) : Prop := ∀ j, j < k → (0 ≤ l.getD j 0 ∧ l.getD j 0 < b) ∧ (0 < j → l.getD (j - 1) 0 < l.getD j 0)
theorem rsTo_iff {l : List Int} {b : Int} : RsTo l b l.length ↔ rsL l b := by
 constructor
 ·intro h
  refine ⟨fun x hx => ?_, ?_⟩
  ·obtain ⟨j, hj, rfl⟩ := mem_getD (d := 0) hx
   exact (h j hj).1
  ·rw [List.pairwise_iff_getElem]
   have key : ∀ d i (hi : i < l.length) (hj : i + d + 1 < l.length), l[i] < l[i + d + 1] := by
    intro d
    induction d with
    | zero =>
     intro i hi hj
     have := (h (i + 1) hj).2 (by omega)
     rw [List.getD_eq_getElem?_getD, List.getElem?_eq_getElem (by omega), List.getD_eq_getElem?_getD, List.getElem?_eq_getElem hj] at this
     exact this
    | succ d ih =>
     intro i hi hj
     have h1 := ih i hi (by omega)
     have h2 := (h (i + (d + 1) + 1) hj).2 (by omega)
     rw [List.getD_eq_getElem?_getD, List.getElem?_eq_getElem (by omega), List.getD_eq_getElem?_getD, List.getElem?_eq_getElem hj] at h2
     exact Int.lt_trans h1 h2
   intro i j hi hj hij
   have := key (j - i - 1) i hi (by omega)
   simpa [show i + (j - i - 1) + 1 = j by omega] using this
 ·rintro ⟨h1, h2⟩ j hj
  refine ⟨h1 _ (getD_mem hj 0), fun h0 => ?_⟩
  exact inc_getD h2 (j - 1) j (by omega) hj
set_option maxHeartbeats 4000000 in
theorem Rising_spec (l : List Int) (b : Int) (hl : l.length < 1000000) : Fn Try.prog 47 [ints l, int b] (bool (decide (rsL l b))) := by
 refine Fn.hide (D := fun r : Bool => bool r) fun r hr => ?_
 have h0 : ¬ rsL l b → r = false := fun h => by rw [← hr.h]; exact decide_eq_false h
 have h1 : rsL l b → r = true := fun h => by rw [← hr.h]; exact decide_eq_true h
 refine Fn.of_ex (cuts := []) tys hM Try.func47 rfl Try.call47 rfl ?_
 show exC Try.prog T [] _ false none 0 (entry 41 [ints l, int b]) (finQ T [ResultVar.tmp 4] _)
 conv => whnf
 repeat' first | ((first | refine Ob.a ?_ | refine Sp.tt ?_ | refine Sp.ff ?_ | refine Sp.yes ?_ | refine Sp.no ?_ | refine Sp.nyes ?_ | refine Sp.nno ?_ | refine Fi.a ?_);conv=>whnf) | ((first | refine Sp.ne ?_ ?_ | refine Sp.dec ?_ ?_ | refine Sp.ndec ?_ ?_ | refine Sp.mk ?_ ?_) <;> intro hc <;> conv => whnf) | (refine Ob.b ?_;conv=>whnf)
 refine Lp.snap [0, 1] 40 ?_
 (conv=>whnf)
 refine LpB.go 41 ({i : Int // (0 ≤ i ∧ i ≤ l.length) ∧ RsTo l b i.toNat}) 0 (fun ⟨i, _⟩ nx => ([(5, .d (int i))], [])) (fun p => (l.length - p.1).toNat) (⟨0, ⟨by omega, by omega⟩, fun j hj => by simp at hj⟩) ?_ ?_
 ·rintro ⟨i, ⟨i0, i1⟩, hinv⟩
  have f1 : i < l.length → (l.getD i.toNat 0 < 0 ∨ b ≤ l.getD i.toNat 0 ∨ (0 < i ∧ l.getD i.toNat 0 ≤ l.getD (i - 1).toNat 0)) → r = false := fun hi hb => h0 fun hr => by
   have := (rsTo_iff.2 hr) i.toNat (by omega)
   rw [show i.toNat - 1 = (i - 1).toNat by omega] at this
   omega
  have f2 : i < l.length → 0 ≤ l.getD i.toNat 0 → l.getD i.toNat 0 < b → (0 < i → l.getD (i - 1).toNat 0 < l.getD i.toNat 0) → RsTo l b (i + 1).toNat := fun hi a1 a2 a3 j hj => by
   by_cases e : j < i.toNat
   ·exact hinv j e
   ·obtain rfl : j = i.toNat := by omega
    refine ⟨⟨a1, a2⟩, fun h => ?_⟩
    rw [show i.toNat - 1 = (i - 1).toNat by omega]
    exact a3 (by omega)
  have f3 : ¬ i < l.length → r = true := fun hi => h1 (rsTo_iff.1 (by rw [show l.length = i.toNat by omega]; exact hinv))
  conv => whnf
  repeat' first | ((first | refine Ob.a ?_ | refine Sp.tt ?_ | refine Sp.ff ?_ | refine Sp.yes ?_ | refine Sp.no ?_ | refine Sp.nyes ?_ | refine Sp.nno ?_ | refine Fi.a ?_);conv=>whnf) | ((first | refine Sp.ne ?_ ?_ | refine Sp.dec ?_ ?_ | refine Sp.ndec ?_ ?_ | refine Sp.mk ?_ ?_) <;> intro hc <;> conv => whnf) | (refine Ob.b ?_;conv=>whnf)
  all_goals first | (have e := f1 (by omega) (by omega); exact Lf) | (have e := f2 (by omega) (by omega) (by omega) (by omega); exact ⟨rfl, ⟨i + 1, ⟨by omega, by omega⟩, e⟩, Lf, by simp only; omega⟩) | (have e := f3 (by omega); exact Lf)
 ·exact Lf
set_option maxHeartbeats 4000000 in
theorem Has_spec (l : List Int) (n : Int) (hl : l.length < 1000000) : Fn Try.prog 46 [ints l, int n] (bool (decide (n ∈ l))) := by
 refine Fn.hide (D := fun r : Bool => bool r) fun r hr => ?_
 have h0 : (∀ j : Int, 0 ≤ j → j < l.length → l.getD j.toNat 0 ≠ n) → r = false := fun h => by
  rw [← hr.h]; exact decide_eq_false fun hm => by
   obtain ⟨j, hj, e⟩ := mem_getD (d := 0) hm
   exact h j (by omega) (by omega) (by rw [Int.toNat_natCast]; exact e)
 have h1 : ∀ j : Int, 0 ≤ j → j < l.length → l.getD j.toNat 0 = n → r = true := fun j a b e => by rw [← hr.h]; exact decide_eq_true (e ▸ getD_mem (by omega) 0)
 clear hr
 refine Fn.of_ex (cuts := []) tys hM Try.func46 rfl Try.call46 rfl ?_
 show exC Try.prog T [] _ false none 0 (entry 18 [ints l, int n]) (finQ T [ResultVar.tmp 4] _)
 conv => whnf
 repeat' first | ((first | refine Ob.a ?_ | refine Sp.tt ?_ | refine Sp.ff ?_ | refine Sp.yes ?_ | refine Sp.no ?_ | refine Sp.nyes ?_ | refine Sp.nno ?_ | refine Fi.a ?_);conv=>whnf) | ((first | refine Sp.ne ?_ ?_ | refine Sp.dec ?_ ?_ | refine Sp.ndec ?_ ?_ | refine Sp.mk ?_ ?_) <;> intro hc <;> conv => whnf) | (refine Ob.b ?_;conv=>whnf)
 refine Lp.snap [0, 1] 40 ?_
 (conv=>whnf)
 refine LpB.go 18 ({i : Int // (0 ≤ i ∧ i ≤ l.length) ∧ ∀ j : Int, 0 ≤ j → j < i → l.getD j.toNat 0 ≠ n}) 0 (fun ⟨i, _⟩ nx => ([(5, .d (int i))], [])) (fun p => (l.length - p.1).toNat) (⟨0, ⟨by omega, by omega⟩, fun j a b => by omega⟩) ?_ ?_
 ·rintro ⟨i, ⟨i0, i1⟩, hinv⟩
  have h1 := h1 i i0
  have h0' : ¬ i < l.length → r = false := fun h => h0 fun j a b => hinv j a (by omega)
  conv => whnf
  repeat' first | ((first | refine Ob.a ?_ | refine Sp.tt ?_ | refine Sp.ff ?_ | refine Sp.yes ?_ | refine Sp.no ?_ | refine Sp.nyes ?_ | refine Sp.nno ?_ | refine Fi.a ?_);conv=>whnf) | ((first | refine Sp.ne ?_ ?_ | refine Sp.dec ?_ ?_ | refine Sp.ndec ?_ ?_ | refine Sp.mk ?_ ?_) <;> intro hc <;> conv => whnf) | (refine Ob.b ?_;conv=>whnf)
  all_goals first | (have e := h1 (by omega) (by assumption); exact Lf) | (have e := h0' (by omega); exact Lf) | exact ⟨rfl, ⟨i + 1, ⟨by omega, by omega⟩, fun j a b => if e : j = i then (by subst e; assumption) else hinv j a (by omega)⟩, Lf, by simp only; omega⟩
 ·exact Lf
def elOkM (F : List (List Int)) : Prop := ∀ i, i < F.length → ∀ x ∈ F.getD i [], 0 ≤ x ∧ x < (i : Int)
instance (F : List (List Int)) : Decidable (elOkM F) := by unfold elOkM; exact inferInstance
def rsM (F : List (List Int)) : Prop := ∀ i, i < F.length → rsL (F.getD i []) i
instance (F : List (List Int)) : Decidable (rsM F) := by unfold rsM; exact inferInstance
/-- The error of a mix. -/
def checkM (F : List (List Int)) : Int := if F.length < 1 ∨ 10 < F.length then 6 else if elOkM F then (if rsM F then 0 else 16) else 2
theorem checkM_ok {F : List (List Int)} : checkM F = 0 ↔ MixOk F := by
 unfold checkM
 constructor
 ·intro h
  split at h
  ·cases h
  ·split at h
   ·split at h
    ·rename_i h1 h2 h3
     exact ⟨by omega, by omega, fun i hi => h3 i hi⟩
    ·cases h
   ·cases h
 ·intro h
  have h1 := h.l1
  have h2 := h.l10
  rw [if_neg (by omega), if_pos (show elOkM F from fun i hi => (h.ris i hi).1), if_pos (show rsM F from fun i hi => h.ris i hi)]
set_option maxHeartbeats 8000000 in
theorem CheckMix_spec (F : List (List Int)) (hl : F.length < 1000000) (hi : ∀ l ∈ F, l.length < 1000000) : Fn Try.prog 22 [mixD F] (int (checkM F)) := by
 refine Fn.hide (D := fun r : Int => int r) fun c hr => ?_
 have hc := hr.h
 have c1 : ((F.length : Int) < 1 ∨ 10 < (F.length : Int)) → c = 6 := fun h => by rw [← hc]; exact if_pos (by omega)
 have c2 : 1 ≤ (F.length : Int) → (F.length : Int) ≤ 10 → ∀ i k : Int, 0 ≤ i → i < F.length → 0 ≤ k → k < (F.getD i.toNat []).length → ((F.getD i.toNat []).getD k.toNat 0 < 0 ∨ i ≤ (F.getD i.toNat []).getD k.toNat 0) → c = 2 := fun a b i k i0 i1 k0 k1 h => by
  rw [← hc]; unfold checkM
  rw [if_neg (by omega), if_neg]
  intro he
  have := he i.toNat (by omega) _ (getD_mem (i := k.toNat) (by omega) 0)
  omega
 have c3 : 1 ≤ (F.length : Int) → (F.length : Int) ≤ 10 → elOkM F → c = if rsM F then 0 else 16 := fun a b h => by
  rw [← hc]; unfold checkM
  rw [if_neg (by omega), if_pos h]
 have hlen : ∀ i : Int, 0 ≤ i → i < F.length → ((F.getD i.toNat []).length : Int) < 1000000 := fun i a b => by
  have := hi _ (getD_mem (i := i.toNat) (by omega) [])
  omega
 have hR := fun (i : Int) (a : 0 ≤ i) (b : i < F.length) => Rising_spec (F.getD i.toNat []) i (by have := hlen i a b; omega)
 clear hc hr
 by_cases hn : (F.length : Int) < 1 ∨ 10 < (F.length : Int)
 ·have e := c1 hn
  refine Fn.of_ex (cuts := []) tys hM Try.func22 rfl Try.call22 rfl ?_
  show exC Try.prog T [] _ false none 0 (entry 69 [mixD F]) (finQ T [ResultVar.tmp 2] _)
  conv => whnf
  repeat' first | ((first | refine Ob.a ?_ | refine Sp.tt ?_ | refine Sp.ff ?_ | refine Sp.yes ?_ | refine Sp.no ?_ | refine Sp.nyes ?_ | refine Sp.nno ?_ | refine Fi.a ?_);conv=>whnf) | ((first | refine Sp.ne ?_ ?_ | refine Sp.dec ?_ ?_ | refine Sp.ndec ?_ ?_ | refine Sp.mk ?_ ?_) <;> intro hc <;> conv => whnf) | (refine Ob.b ?_;conv=>whnf)
  all_goals exact Lf
 have c2 := c2 (by omega) (by omega)
 have c3 := c3 (by omega) (by omega)
 clear c1
 refine Fn.of_ex (cuts := []) tys hM Try.func22 rfl Try.call22 rfl ?_
 show exC Try.prog T [] _ false none 0 (entry 69 [mixD F]) (finQ T [ResultVar.tmp 2] _)
 conv => whnf
 repeat' first | ((first | refine Ob.a ?_ | refine Sp.tt ?_ | refine Sp.ff ?_ | refine Sp.yes ?_ | refine Sp.no ?_ | refine Sp.nyes ?_ | refine Sp.nno ?_ | refine Fi.a ?_);conv=>whnf) | ((first | refine Sp.ne ?_ ?_ | refine Sp.dec ?_ ?_ | refine Sp.ndec ?_ ?_ | refine Sp.mk ?_ ?_) <;> intro hc <;> conv => whnf) | (refine Ob.b ?_;conv=>whnf)
 all_goals try (exfalso; omega)
 refine Lp.snap [0, 1, 5, 54, 55, 56, 57, 59, 60, 61, 62, 63, 64, 65, 66, 67] 40 ?_
 (conv=>whnf)
 refine LpB.go 69 ({i : Int // (0 ≤ i ∧ i ≤ F.length) ∧ ∀ j, j < i.toNat → ∀ x ∈ F.getD j [], 0 ≤ x ∧ x < (j : Int)}) 0 (fun ⟨i, _⟩ nx => ([(3, .d (int i))], [])) (fun p => (F.length - p.1).toNat) (⟨0, ⟨by omega, by omega⟩, fun j hj => by simp at hj⟩) ?_ ?_
 ·rintro ⟨i, ⟨i0, i1⟩, hinv⟩
  by_cases hil : i < F.length
  ·have hlen := hlen i i0 hil
   conv => whnf
   repeat' first | ((first | refine Ob.a ?_ | refine Sp.tt ?_ | refine Sp.ff ?_ | refine Sp.yes ?_ | refine Sp.no ?_ | refine Sp.nyes ?_ | refine Sp.nno ?_ | refine Fi.a ?_);conv=>whnf) | ((first | refine Sp.ne ?_ ?_ | refine Sp.dec ?_ ?_ | refine Sp.ndec ?_ ?_ | refine Sp.mk ?_ ?_) <;> intro hc <;> conv => whnf) | (refine Ob.b ?_;conv=>whnf)
   refine Lp.snap [0, 1, 3, 5, 16, 17, 18, 19, 21, 22, 54, 55, 56, 57, 59, 60, 61, 62, 63, 64, 65, 66, 67] 40 ?_
   (conv=>whnf)
   refine LpB.go 69 ({k : Int // (0 ≤ k ∧ k ≤ (F.getD i.toNat []).length) ∧ ∀ j : Int, 0 ≤ j → j < k → 0 ≤ (F.getD i.toNat []).getD j.toNat 0 ∧ (F.getD i.toNat []).getD j.toNat 0 < i}) 0 (fun ⟨k, _⟩ nx => ([(4, .d (int k))], [])) (fun p => ((F.getD i.toNat []).length - p.1).toNat) (⟨0, ⟨by omega, by omega⟩, fun j a b => by omega⟩) ?_ ?_
   ·rintro ⟨k, ⟨k0, k1⟩, hk⟩
    have c2 := c2 i k i0 hil k0
    have hend : ¬ k < (F.getD i.toNat []).length → ∀ j, j < (i + 1).toNat → ∀ x ∈ F.getD j [], 0 ≤ x ∧ x < (j : Int) := fun h j hj x hx => by
     by_cases e : j < i.toNat
     ·exact hinv j e x hx
     ·obtain rfl : j = i.toNat := by omega
      obtain ⟨q, hq, rfl⟩ := mem_getD (d := 0) hx
      have := hk q (by omega) (by omega)
      rw [Int.toNat_natCast] at this
      omega
    conv => whnf
    repeat' first | ((first | refine Ob.a ?_ | refine Sp.tt ?_ | refine Sp.ff ?_ | refine Sp.yes ?_ | refine Sp.no ?_ | refine Sp.nyes ?_ | refine Sp.nno ?_ | refine Fi.a ?_);conv=>whnf) | ((first | refine Sp.ne ?_ ?_ | refine Sp.dec ?_ ?_ | refine Sp.ndec ?_ ?_ | refine Sp.mk ?_ ?_) <;> intro hc <;> conv => whnf) | (refine Ob.b ?_;conv=>whnf)
    all_goals first | (have e := c2 (by omega) (by omega); exact Lf) | exact ⟨rfl, ⟨i + 1, ⟨by omega, by omega⟩, hend (by omega)⟩, Lf, by simp only; omega⟩ | exact ⟨rfl, ⟨k + 1, ⟨by omega, by omega⟩, fun j a b => if e : j = k then (by subst e; omega) else hk j a (by omega)⟩, Lf, by simp only; omega⟩
   ·exact Lf
  ·have c3 := c3 fun j hj => hinv j (by omega)
   conv => whnf
   repeat' first | ((first | refine Ob.a ?_ | refine Sp.tt ?_ | refine Sp.ff ?_ | refine Sp.yes ?_ | refine Sp.no ?_ | refine Sp.nyes ?_ | refine Sp.nno ?_ | refine Fi.a ?_);conv=>whnf) | ((first | refine Sp.ne ?_ ?_ | refine Sp.dec ?_ ?_ | refine Sp.ndec ?_ ?_ | refine Sp.mk ?_ ?_) <;> intro hc <;> conv => whnf) | (refine Ob.b ?_;conv=>whnf)
   refine Lp.snap [0, 1] 40 ?_
   (conv=>whnf)
   refine LpB.go 69 ({i : Int // (0 ≤ i ∧ i ≤ F.length) ∧ ∀ j, j < i.toNat → rsL (F.getD j []) j}) 0 (fun ⟨i, _⟩ nx => ([(5, .d (int i))], [])) (fun p => (F.length - p.1).toNat) (⟨0, ⟨by omega, by omega⟩, fun j hj => by simp at hj⟩) ?_ ?_
   ·rintro ⟨i, ⟨i0, i1⟩, hq⟩
    by_cases hil : i < F.length
    ·have hR := hR i i0 hil
     by_cases hc : rsL (F.getD i.toNat []) i
     ·rw [decide_eq_true hc] at hR
      have e : ∀ j, j < (i + 1).toNat → rsL (F.getD j []) j := fun j hj => by
       by_cases e : j < i.toNat
       ·exact hq j e
       ·obtain rfl : j = i.toNat := by omega
        rwa [Int.toNat_of_nonneg i0]
      conv => whnf
      repeat' first | ((first | refine Ob.a ?_ | refine Sp.tt ?_ | refine Sp.ff ?_ | refine Sp.yes ?_ | refine Sp.no ?_ | refine Sp.nyes ?_ | refine Sp.nno ?_ | refine Fi.a ?_);conv=>whnf) | ((first | refine Sp.ne ?_ ?_ | refine Sp.dec ?_ ?_ | refine Sp.ndec ?_ ?_ | refine Sp.mk ?_ ?_) <;> intro hc <;> conv => whnf) | (apply Cl.go;(conv=>whnf); (first | refine Ob.call (hR) ?_);(conv=>whnf)) | (refine Ob.b ?_;conv=>whnf)
      exact ⟨rfl, ⟨i + 1, ⟨by omega, by omega⟩, e⟩, Lf, by simp only; omega⟩
     ·rw [decide_eq_false hc] at hR
      have e : c = 16 := by
       rw [c3, if_neg]
       intro h
       have := h i.toNat (by omega)
       rw [Int.toNat_of_nonneg i0] at this
       exact hc this
      conv => whnf
      repeat' first | ((first | refine Ob.a ?_ | refine Sp.tt ?_ | refine Sp.ff ?_ | refine Sp.yes ?_ | refine Sp.no ?_ | refine Sp.nyes ?_ | refine Sp.nno ?_ | refine Fi.a ?_);conv=>whnf) | ((first | refine Sp.ne ?_ ?_ | refine Sp.dec ?_ ?_ | refine Sp.ndec ?_ ?_ | refine Sp.mk ?_ ?_) <;> intro hc <;> conv => whnf) | (apply Cl.go;(conv=>whnf); (first | refine Ob.call (hR) ?_);(conv=>whnf)) | (refine Ob.b ?_;conv=>whnf)
      exact Lf
    ·have e : c = 0 := by
      rw [c3, if_pos]
      exact fun j hj => hq j (by omega)
     conv => whnf
     repeat' first | ((first | refine Ob.a ?_ | refine Sp.tt ?_ | refine Sp.ff ?_ | refine Sp.yes ?_ | refine Sp.no ?_ | refine Sp.nyes ?_ | refine Sp.nno ?_ | refine Fi.a ?_);conv=>whnf) | ((first | refine Sp.ne ?_ ?_ | refine Sp.dec ?_ ?_ | refine Sp.ndec ?_ ?_ | refine Sp.mk ?_ ?_) <;> intro hc <;> conv => whnf) | (refine Ob.b ?_;conv=>whnf)
     exact Lf
   ·exact Lf
 ·exact Lf
end Go.Px.Try

/-! Tm8 -/
namespace Go.Px.Try
open Go Go.Proofs Go.Px
/-! ### Sets of numbers, as lists and as bits -/
def lst (n : Nat) (S : Nat → Bool) : List Int := ((List.range n).filter S).map fun i : Nat => (i : Int)
theorem lst_succ (n : Nat) (S : Nat → Bool) : lst (n + 1) S = lst n S ++ (if S n then [(n : Int)] else []) := by
 unfold lst
 rw [List.range_succ, List.filter_append, List.map_append]
 congr 1
 cases h : S n <;> simp [h]
theorem mem_lst {n : Nat} {S : Nat → Bool} {x : Int} : x ∈ lst n S ↔ ∃ i, i < n ∧ S i = true ∧ x = (i : Int) := by
 unfold lst
 simp only [List.mem_map, List.mem_filter, List.mem_range]
 constructor
 ·rintro ⟨i, ⟨h1, h2⟩, rfl⟩; exact ⟨i, h1, h2, rfl⟩
 ·rintro ⟨i, h1, h2, rfl⟩; exact ⟨i, ⟨h1, h2⟩, rfl⟩
theorem mem_lst_nat {n : Nat} {S : Nat → Bool} {i : Nat} : (i : Int) ∈ lst n S ↔ i < n ∧ S i = true := by
 rw [mem_lst]
 constructor
 ·rintro ⟨j, h1, h2, h3⟩
  have : i = j := by omega
  subst this; exact ⟨h1, h2⟩
 ·rintro ⟨h1, h2⟩; exact ⟨i, h1, h2, rfl⟩
theorem lst_inc (n : Nat) (S : Nat → Bool) : (lst n S).Pairwise (· < ·) := by
 unfold lst
 rw [List.pairwise_map]
 refine (List.Pairwise.filter S (List.pairwise_lt_range)).imp ?_
 intro a b h; omega
theorem lst_congr {n : Nat} {S S' : Nat → Bool} (h : ∀ i, i < n → S i = S' i) : lst n S = lst n S' := by
 induction n with
 | zero => rfl
 | succ n ih => rw [lst_succ, lst_succ, ih fun i hi => h i (by omega), h n (by omega)]
theorem lst_length_le (n : Nat) (S : Nat → Bool) : (lst n S).length ≤ n := by
 unfold lst; rw [List.length_map]
 exact Nat.le_trans (List.length_filter_le _ _) (by simp)
theorem lst_cnt (S : Nat → Bool) : ∀ n, ((lst n S).length : Int) = cntS S n
 | 0 => rfl
 | n + 1 => by
  rw [lst_succ, List.length_append]
  have := lst_cnt S n
  unfold cntS at *
  rw [sm, ← this]
  cases h : S n <;> simp
/-- An increasing list of numbers below n is the list of its elements. -/
theorem lst_of_inc {n : Nat} {l : List Int} (hl : ∀ x ∈ l, 0 ≤ x ∧ x < (n : Int)) (hi : l.Pairwise (· < ·)) : l = lst n fun i => decide ((i : Int) ∈ l) := by
 have key : ∀ (a b : List Int), a.Pairwise (· < ·) → b.Pairwise (· < ·) → (∀ x, x ∈ a ↔ x ∈ b) → a = b := by
  intro a
  induction a with
  | nil =>
   intro b _ _ h
   cases b with
   | nil => rfl
   | cons y b => exact absurd ((h y).2 (List.mem_cons_self ..)) (by simp)
  | cons x a ih =>
   intro b ha hb h
   cases b with
   | nil => exact absurd ((h x).1 (List.mem_cons_self ..)) (by simp)
   | cons y b =>
    have ha' := List.pairwise_cons.1 ha
    have hb' := List.pairwise_cons.1 hb
    have hxy : x = y := by
     rcases List.mem_cons.1 ((h x).1 (List.mem_cons_self ..)) with e | e
     ·exact e
     ·rcases List.mem_cons.1 ((h y).2 (List.mem_cons_self ..)) with e2 | e2
      ·exact e2.symm
      ·have := ha'.1 y e2; have := hb'.1 x e; omega
    subst hxy
    rw [ih b ha'.2 hb'.2 fun z => ?_]
    constructor
    ·intro hz
     rcases List.mem_cons.1 ((h z).1 (List.mem_cons_of_mem _ hz)) with e | e
     ·subst e; exact absurd (ha'.1 z hz) (by omega)
     ·exact e
    ·intro hz
     rcases List.mem_cons.1 ((h z).2 (List.mem_cons_of_mem _ hz)) with e | e
     ·subst e; exact absurd (hb'.1 z hz) (by omega)
     ·exact e
 refine key _ _ hi (lst_inc _ _) fun x => ?_
 rw [mem_lst]
 constructor
 ·intro hx
  obtain ⟨h1, h2⟩ := hl x hx
  exact ⟨x.toNat, by omega, decide_eq_true (by rwa [Int.toNat_of_nonneg h1]), by omega⟩
 ·rintro ⟨i, _, h2, rfl⟩
  exact of_decide_eq_true h2
def bset (b : Nat) : Nat → Bool := fun i => decide (b / 2 ^ i % 2 = 1)
def listed (b n : Nat) : List Int := lst n (bset b)
theorem bset_test (n i : Nat) : bset n i = n.testBit i := by
 unfold bset
 rw [Nat.testBit_eq_decide_div_mod_eq]
theorem bset_or (b k i : Nat) : bset (b ||| 2 ^ k) i = (bset b i || decide (i = k)) := by
 rw [bset_test, bset_test, Nat.testBit_or, Nat.testBit_two_pow]
 congr 1
 exact decide_eq_decide.2 eq_comm
theorem bset_pow (k i : Nat) : bset (2 ^ k) i = decide (i = k) := by
 rw [bset_test, Nat.testBit_two_pow]
 exact decide_eq_decide.2 eq_comm
theorem bset_all (k i : Nat) : bset (2 ^ k - 1) i = decide (i < k) := by
 rw [bset_test, Nat.testBit_two_pow_sub_one]
theorem bset_zero (i : Nat) : bset 0 i = false := by rw [bset_test, Nat.zero_testBit]
/-- The bits of a list of numbers. -/
def bitsL : List Int → Nat
 | [] => 0
 | x :: l => 2 ^ x.toNat ||| bitsL l
def bitsT (l : List Int) (k : Nat) : Nat := (l.take k).foldl (fun b x => b ||| 2 ^ x.toNat) 0
theorem bitsT_succ {l : List Int} {k : Nat} (h : k < l.length) : bitsT l (k + 1) = bitsT l k ||| 2 ^ (l.getD k 0).toNat := by
 unfold bitsT
 rw [List.take_add_one, List.foldl_append, List.getD_eq_getElem?_getD, List.getElem?_eq_getElem h]
 rfl
theorem bset_fold (l : List Int) (b i : Nat) : bset (l.foldl (fun b x => b ||| 2 ^ x.toNat) b) i = (bset b i || l.any fun x => decide (i = x.toNat)) := by
 induction l generalizing b with
 | nil => simp
 | cons x l ih => rw [List.foldl_cons, ih, bset_or, List.any_cons, Bool.or_assoc]
def bitsOf (l : List Int) : Nat := bitsT l l.length
theorem bset_bits {l : List Int} (h : ∀ x ∈ l, 0 ≤ x) (i : Nat) : bset (bitsOf l) i = decide ((i : Int) ∈ l) := by
 unfold bitsOf bitsT
 rw [List.take_length, bset_fold, bset_zero, Bool.false_or, Bool.eq_iff_iff, List.any_eq_true]
 constructor
 ·rintro ⟨x, hx, e⟩
  have := h x hx
  have e := of_decide_eq_true e
  exact decide_eq_true (by rw [show (i : Int) = x by omega]; exact hx)
 ·intro hd
  exact ⟨(i : Int), of_decide_eq_true hd, by simp⟩
theorem bitsT_lt {l : List Int} {n : Nat} (h : ∀ x ∈ l, 0 ≤ x ∧ x < (n : Int)) : ∀ k, bitsT l k < 2 ^ n := by
 intro k
 unfold bitsT
 have key : ∀ (l : List Int) (b : Nat), (∀ x ∈ l, 0 ≤ x ∧ x < (n : Int)) → b < 2 ^ n → l.foldl (fun b x => b ||| 2 ^ x.toNat) b < 2 ^ n := by
  intro l
  induction l with
  | nil => intro b _ hb; exact hb
  | cons x l ih =>
   intro b hl hb
   have := hl x (List.mem_cons_self ..)
   exact ih _ (fun y hy => hl y (List.mem_cons_of_mem _ hy)) (Nat.or_lt_two_pow hb (Nat.pow_lt_pow_right (by omega) (by omega)))
 exact key _ _ (fun x hx => h x (List.mem_of_mem_take hx)) (Nat.two_pow_pos n)
/-! ### Of which nodes a node comes -/
def cmF (F : List (List Int)) : Nat → Nat → Nat → Bool
 | 0, _, _ => false
 | f + 1, i, o => decide (i = o) || (frm F i).any fun k => cmF F f k.toNat o
theorem cmF_more {F : List (List Int)} (h : MixOk F) (o : Nat) : ∀ (f g i : Nat), i < f → i < g → i < F.length → cmF F f i o = cmF F g i o
 | 0, _, _, h, _, _ => by omega
 | _, 0, _, _, h, _ => by omega
 | f + 1, g + 1, i, hf, hg, hi => by
  rw [cmF, cmF]
  congr 1
  rw [Bool.eq_iff_iff, List.any_eq_true, List.any_eq_true]
  have key : ∀ k ∈ frm F i, cmF F f k.toNat o = cmF F g k.toNat o := fun k hk => by
   have := (h.ris i hi).1 k hk
   exact cmF_more h o f g k.toNat (by omega) (by omega) (by omega)
  constructor
  ·rintro ⟨k, hk, hh⟩; exact ⟨k, hk, by rw [← key k hk]; exact hh⟩
  ·rintro ⟨k, hk, hh⟩; exact ⟨k, hk, by rw [key k hk]; exact hh⟩
/-- Does the node i come of o? -/
def cm (F : List (List Int)) (i o : Nat) : Bool := cmF F (i + 1) i o
theorem cm_eq {F : List (List Int)} (h : MixOk F) (o : Nat) {i : Nat} (hi : i < F.length) : cm F i o = (decide (i = o) || (frm F i).any fun k => cm F k.toNat o) := by
 unfold cm
 rw [cmF]
 congr 1
 rw [Bool.eq_iff_iff, List.any_eq_true, List.any_eq_true]
 have key : ∀ k ∈ frm F i, cmF F i k.toNat o = cmF F (k.toNat + 1) k.toNat o := fun k hk => by
  have := (h.ris i hi).1 k hk
  exact cmF_more h o _ _ k.toNat (by omega) (by omega) (by omega)
 constructor
 ·rintro ⟨k, hk, hh⟩; exact ⟨k, hk, by rw [← key k hk]; exact hh⟩
 ·rintro ⟨k, hk, hh⟩; exact ⟨k, hk, by rw [key k hk]; exact hh⟩
theorem cm_true {F : List (List Int)} (h : MixOk F) {o i : Nat} (hi : i < F.length) : cm F i o = true ↔ i = o ∨ ∃ k : Nat, (k : Int) ∈ frm F i ∧ cm F k o = true := by
 rw [cm_eq h o hi, Bool.or_eq_true, decide_eq_true_eq, List.any_eq_true]
 refine or_congr_right ?_
 constructor
 ·rintro ⟨k, hk, hh⟩
  have := (h.ris i hi).1 k hk
  exact ⟨k.toNat, by rw [Int.toNat_of_nonneg this.1]; exact hk, hh⟩
 ·rintro ⟨k, hk, hh⟩
  exact ⟨(k : Int), hk, by rw [Int.toNat_natCast]; exact hh⟩
theorem frm_lt {F : List (List Int)} (h : MixOk F) {i k : Nat} (hi : i < F.length) (hk : (k : Int) ∈ frm F i) : k < i := by
 have := (h.ris i hi).1 _ hk; omega
theorem cm_self {F : List (List Int)} (h : MixOk F) {i : Nat} (hi : i < F.length) : cm F i i = true := (cm_true h hi).2 (.inl rfl)
theorem cm_le {F : List (List Int)} (h : MixOk F) {o : Nat} : ∀ i, i < F.length → cm F i o = true → o ≤ i := by
 intro i
 induction i using Nat.strongRecOn with
 | ind i ih =>
  intro hi hc
  rcases (cm_true h hi).1 hc with e | ⟨k, hk, hc⟩
  ·omega
  ·have := frm_lt h hi hk
   have := ih k this (by omega) hc
   omega
theorem cm_trans {F : List (List Int)} (h : MixOk F) {a b : Nat} : ∀ i, i < F.length → cm F i a = true → cm F a b = true → cm F i b = true := by
 intro i
 induction i using Nat.strongRecOn with
 | ind i ih =>
  intro hi h1 h2
  rcases (cm_true h hi).1 h1 with e | ⟨k, hk, hc⟩
  ·subst e; exact h2
  ·have := frm_lt h hi hk
   exact (cm_true h hi).2 (.inr ⟨k, hk, ih k this (by omega) hc h2⟩)
/-- Each node comes of some sack. -/
theorem cm_sack {F : List (List Int)} (h : MixOk F) : ∀ i, i < F.length → ∃ s, s ≤ i ∧ frm F s = [] ∧ cm F i s = true := by
 intro i
 induction i using Nat.strongRecOn with
 | ind i ih =>
  intro hi
  by_cases e : frm F i = []
  ·exact ⟨i, Nat.le_refl _, e, cm_self h hi⟩
  ·obtain ⟨x, hx⟩ := List.exists_mem_of_ne_nil _ e
   have hx0 := (h.ris i hi).1 x hx
   obtain ⟨s, h1, h2, h3⟩ := ih x.toNat (by omega) (by omega)
   exact ⟨s, by omega, h2, (cm_true h hi).2 (.inr ⟨x.toNat, by rw [Int.toNat_of_nonneg hx0.1]; exact hx, h3⟩)⟩
theorem cm_of_sack {F : List (List Int)} (h : MixOk F) {i o : Nat} (hi : i < F.length) (hs : frm F i = []) : cm F i o = decide (i = o) := by
 rw [cm_eq h o hi, hs]; simp
/-! ### How many ways there are -/
def isum (l : List Int) (f : Nat → Int) : Int := (l.map fun k => f k.toNat).sum
theorem isum_nil (f : Nat → Int) : isum [] f = 0 := rfl
theorem isum_snoc (l : List Int) (x : Int) (f : Nat → Int) : isum (l ++ [x]) f = isum l f + f x.toNat := by
 unfold isum; rw [List.map_append, List.sum_append]; simp
theorem isum_congr {l : List Int} {f g : Nat → Int} (h : ∀ k ∈ l, f k.toNat = g k.toNat) : isum l f = isum l g := by
 unfold isum; rw [List.map_congr_left h]
theorem isum_nn {l : List Int} {f : Nat → Int} (h : ∀ k ∈ l, 0 ≤ f k.toNat) : 0 ≤ isum l f := by
 induction l with
 | nil => exact Int.le_refl _
 | cons x l ih =>
  have h1 := h x (List.mem_cons_self ..)
  have h2 := ih fun k hk => h k (List.mem_cons_of_mem _ hk)
  unfold isum at *
  rw [List.map_cons, List.sum_cons]; omega
theorem isum_pos {l : List Int} {f : Nat → Int} (h : ∀ k ∈ l, 0 ≤ f k.toNat) : 0 < isum l f ↔ ∃ k ∈ l, 0 < f k.toNat := by
 induction l with
 | nil => simp [isum]
 | cons x l ih =>
  have h1 := h x (List.mem_cons_self ..)
  have h2 := isum_nn fun k hk => h k (List.mem_cons_of_mem _ hk)
  have ih := ih fun k hk => h k (List.mem_cons_of_mem _ hk)
  have e : isum (x :: l) f = f x.toNat + isum l f := by unfold isum; rw [List.map_cons, List.sum_cons]
  rw [e]
  constructor
  ·intro hp
   by_cases hx : 0 < f x.toNat
   ·exact ⟨x, List.mem_cons_self .., hx⟩
   ·obtain ⟨k, hk, hp⟩ := ih.1 (by omega)
    exact ⟨k, List.mem_cons_of_mem _ hk, hp⟩
  ·rintro ⟨k, hk, hp⟩
   rcases List.mem_cons.1 hk with e | hk
   ·subst e; omega
   ·have := ih.2 ⟨k, hk, hp⟩; omega
/-- An increasing list below n: what it sums is at most what all below n sum. -/
theorem isum_le {f : Nat → Int} : ∀ {n : Nat} {l : List Int}, (∀ x ∈ l, 0 ≤ x ∧ x < (n : Int)) → l.Pairwise (· < ·) → (∀ i, i < n → 0 ≤ f i) → isum l f ≤ sm f n
 | 0, l, hl, _, _ => by
  cases l with
  | nil => exact Int.le_refl _
  | cons x l => have := hl x (List.mem_cons_self ..); omega
 | n + 1, l, hl, hp, hf => by
  have e := lst_of_inc hl hp
  rw [lst_succ] at e
  have hsub : ∀ x ∈ lst n (fun i => decide ((i : Int) ∈ l)), 0 ≤ x ∧ x < (n : Int) := fun x hx => by
   obtain ⟨i, h1, _, rfl⟩ := mem_lst.1 hx; omega
  have ih := isum_le (n := n) hsub (lst_inc _ _) fun i hi => hf i (by omega)
  have hn := hf n (by omega)
  rw [e, sm]
  split
  ·rw [isum_snoc, Int.toNat_natCast]; omega
  ·rw [List.append_nil]; omega
def cgF (F : List (List Int)) (gone : Nat → Bool) : Nat → Nat → Int
 | 0, _ => 0
 | f + 1, i => if gone i = true then 0 else if frm F i = [] then 1 else isum (frm F i) fun k => cgF F gone f k
theorem cgF_more {F : List (List Int)} (h : MixOk F) (gone : Nat → Bool) : ∀ (f g i : Nat), i < f → i < g → i < F.length → cgF F gone f i = cgF F gone g i
 | 0, _, _, h, _, _ => by omega
 | _, 0, _, _, h, _ => by omega
 | f + 1, g + 1, i, hf, hg, hi => by
  rw [cgF, cgF]
  have : isum (frm F i) (fun k => cgF F gone f k) = isum (frm F i) (fun k => cgF F gone g k) := isum_congr fun k hk => by
   have := (h.ris i hi).1 k hk
   exact cgF_more h gone f g k.toNat (by omega) (by omega) (by omega)
  rw [this]
/-- How many ways there are to a node, without those that are gone. -/
def cg (F : List (List Int)) (gone : Nat → Bool) (i : Nat) : Int := cgF F gone (i + 1) i
theorem cg_eq {F : List (List Int)} (h : MixOk F) (gone : Nat → Bool) {i : Nat} (hi : i < F.length) : cg F gone i = if gone i = true then 0 else if frm F i = [] then 1 else isum (frm F i) (cg F gone) := by
 unfold cg
 rw [cgF]
 have : isum (frm F i) (fun k => cgF F gone i k) = isum (frm F i) (fun k => cgF F gone (k + 1) k) := isum_congr fun k hk => by
  have := (h.ris i hi).1 k hk
  exact cgF_more h gone _ _ k.toNat (by omega) (by omega) (by omega)
 rw [this]
theorem cg_nn {F : List (List Int)} (h : MixOk F) (gone : Nat → Bool) : ∀ i, i < F.length → 0 ≤ cg F gone i := by
 intro i
 induction i using Nat.strongRecOn with
 | ind i ih =>
  intro hi
  rw [cg_eq h gone hi]
  split
  ·omega
  ·split
   ·omega
   ·exact isum_nn fun k hk => by
     have := (h.ris i hi).1 k hk
     exact ih k.toNat (by omega) (by omega)
theorem sm_pow (f : Nat → Int) : ∀ n, (∀ i, i < n → f i ≤ 2 ^ i) → sm f n ≤ 2 ^ n - 1
 | 0, _ => by simp [sm]
 | n + 1, h => by
  have h1 := sm_pow f n fun i hi => h i (by omega)
  have h2 := h n (by omega)
  rw [sm, Int.pow_succ]; omega
theorem pow_pos' : ∀ n : Nat, (1 : Int) ≤ 2 ^ n
 | 0 => by simp
 | n + 1 => by have := pow_pos' n; rw [Int.pow_succ]; omega
theorem cg_le {F : List (List Int)} (h : MixOk F) (gone : Nat → Bool) : ∀ i, i < F.length → cg F gone i ≤ 2 ^ i := by
 intro i
 induction i using Nat.strongRecOn with
 | ind i ih =>
  intro hi
  have hp := pow_pos' i
  rw [cg_eq h gone hi]
  split
  ·omega
  ·split
   ·omega
   ·have h1 := isum_le (f := cg F gone) (h.ris i hi).1 (h.ris i hi).2 fun j hj => cg_nn h gone j (by omega)
    have h2 := sm_pow (cg F gone) i fun j hj => ih j hj (by omega)
    omega
theorem cg_take_le {F : List (List Int)} (h : MixOk F) (gone : Nat → Bool) {i : Nat} (hi : i < F.length) (k : Nat) : 0 ≤ isum ((frm F i).take k) (cg F gone) ∧ isum ((frm F i).take k) (cg F gone) ≤ 2 ^ i := by
 have hsub : ∀ x ∈ (frm F i).take k, 0 ≤ x ∧ x < (i : Int) := fun x hx => (h.ris i hi).1 x (List.mem_of_mem_take hx)
 have h1 := isum_le (f := cg F gone) hsub ((h.ris i hi).2.sublist (List.take_sublist ..)) fun j hj => cg_nn h gone j (by omega)
 have h2 := sm_pow (cg F gone) i fun j hj => cg_le h gone j (by omega)
 refine ⟨isum_nn fun x hx => cg_nn h gone _ (by have := hsub x hx; omega), by omega⟩
/-- There is a way just if there is one that comes to the node without those that are gone. -/
theorem cg_pos {F : List (List Int)} (h : MixOk F) (gone : Nat → Bool) : ∀ i, i < F.length → (0 < cg F gone i ↔ fr F (fun _ => true) gone i = true) := by
 intro i
 induction i using Nat.strongRecOn with
 | ind i ih =>
  intro hi
  rw [cg_eq h gone hi, fr_true h hi]
  by_cases hg : gone i = true
  ·rw [if_pos hg]; simp [hg]
  ·rw [if_neg hg]
   have hg' : gone i = false := by simpa using hg
   by_cases e : frm F i = []
   ·rw [if_pos e]; simp [hg', e]
   ·rw [if_neg e, isum_pos fun k hk => cg_nn h gone _ (by have := (h.ris i hi).1 k hk; omega)]
    constructor
    ·rintro ⟨k, hk, hp⟩
     have hk0 := (h.ris i hi).1 k hk
     exact ⟨hg', .inr ⟨k.toNat, by rw [Int.toNat_of_nonneg hk0.1]; exact hk, (ih k.toNat (by omega) (by omega)).1 hp⟩⟩
    ·rintro ⟨_, ⟨e', _⟩ | ⟨k, hk, hp⟩⟩
     ·exact absurd e' e
     ·have := frm_lt h hi hk
      exact ⟨(k : Int), hk, by rw [Int.toNat_natCast]; exact (ih k this (by omega)).2 hp⟩
end Go.Px.Try

/-! Tf2 -/
namespace Go.Px.Try
open Go Go.Proofs Go.Px
set_option maxRecDepth 100000
/-- The error of a mix, and of nodes. -/
def nodeE (F : List (List Int)) (l : List Int) : Int := if checkM F ≠ 0 then checkM F else if ∀ x ∈ l, 0 ≤ x ∧ x < (F.length : Int) then 0 else 2
theorem nodeE_ok {F : List (List Int)} {l : List Int} : nodeE F l = 0 ↔ MixOk F ∧ ∀ x ∈ l, 0 ≤ x ∧ x < (F.length : Int) := by
 unfold nodeE
 rw [← checkM_ok]
 by_cases h : checkM F = 0
 ·rw [if_neg (by simp [h])]
  by_cases h2 : ∀ x ∈ l, 0 ≤ x ∧ x < (F.length : Int)
  ·rw [if_pos h2]; exact ⟨fun _ => ⟨h, h2⟩, fun _ => rfl⟩
  ·rw [if_neg h2]; exact ⟨fun h => (by cases h), fun h => absurd h.2 h2⟩
 ·rw [if_pos h]; exact ⟨fun h2 => absurd h2 h, fun h2 => absurd h2.1 h⟩
structure SmallM (F : List (List Int)) : Prop where
 l : F.length < 1000000
 i : ∀ l ∈ F, l.length < 1000000
set_option maxHeartbeats 8000000 in
theorem nodeError_spec (F : List (List Int)) (hs : SmallM F) (l : List Int) (hl : l.length < 1000000) : Fn Try.prog 56 [mixD F, ints l] (int (nodeE F l)) := by
 have hC := CheckMix_spec F hs.l hs.i
 have hs1 := hs.l
 refine Fn.hide (D := fun r : Int => int r) fun c hr => ?_
 have hc := hr.h
 by_cases h0 : checkM F = 0
 ·have c1 : (∀ j : Int, 0 ≤ j → j < l.length → 0 ≤ l.getD j.toNat 0 ∧ l.getD j.toNat 0 < F.length) → c = 0 := fun h => by
   rw [← hc]; unfold nodeE
   rw [if_neg (by simp [h0]), if_pos fun x hx => by
    obtain ⟨j, hj, rfl⟩ := mem_getD (d := 0) hx
    have := h j (by omega) (by omega)
    rwa [Int.toNat_natCast] at this]
  have c2 : ∀ j : Int, 0 ≤ j → j < l.length → (l.getD j.toNat 0 < 0 ∨ (F.length : Int) ≤ l.getD j.toNat 0) → c = 2 := fun j a b h => by
   rw [← hc]; unfold nodeE
   rw [if_neg (by simp [h0]), if_neg fun h' => by
    have := h' _ (getD_mem (i := j.toNat) (by omega) 0); omega]
  rw [h0] at hC
  clear hc hr
  refine Fn.of_ex (cuts := []) tys hM Try.func56 rfl Try.call56 rfl ?_
  show exC Try.prog T [] _ false none 0 (entry 32 [mixD F, ints l]) (finQ T [ResultVar.tmp 4] _)
  conv => whnf
  repeat' first | ((first | refine Ob.a ?_ | refine Sp.tt ?_ | refine Sp.ff ?_ | refine Sp.yes ?_ | refine Sp.no ?_ | refine Sp.nyes ?_ | refine Sp.nno ?_ | refine Fi.a ?_);conv=>whnf) | ((first | refine Sp.ne ?_ ?_ | refine Sp.dec ?_ ?_ | refine Sp.ndec ?_ ?_ | refine Sp.mk ?_ ?_) <;> intro hc <;> conv => whnf) | (apply Cl.go;(conv=>whnf); (first | refine Ob.call (hC) ?_);(conv=>whnf)) | (refine Ob.b ?_;conv=>whnf)
  all_goals try (rename_i hq; exact absurd rfl hq)
  refine Lp.snap [0, 1, 2] 40 ?_
  (conv=>whnf)
  refine LpB.go 32 ({i : Int // (0 ≤ i ∧ i ≤ l.length) ∧ ∀ j : Int, 0 ≤ j → j < i → 0 ≤ l.getD j.toNat 0 ∧ l.getD j.toNat 0 < F.length}) 0 (fun ⟨i, _⟩ nx => ([(5, .d (int i))], [])) (fun p => (l.length - p.1).toNat) (⟨0, ⟨by omega, by omega⟩, fun j a b => by omega⟩) ?_ ?_
  ·rintro ⟨i, ⟨i0, i1⟩, hinv⟩
   have c2 := c2 i i0
   have c1' : ¬ i < l.length → c = 0 := fun h => c1 fun j a b => hinv j a (by omega)
   conv => whnf
   repeat' first | ((first | refine Ob.a ?_ | refine Sp.tt ?_ | refine Sp.ff ?_ | refine Sp.yes ?_ | refine Sp.no ?_ | refine Sp.nyes ?_ | refine Sp.nno ?_ | refine Fi.a ?_);conv=>whnf) | ((first | refine Sp.ne ?_ ?_ | refine Sp.dec ?_ ?_ | refine Sp.ndec ?_ ?_ | refine Sp.mk ?_ ?_) <;> intro hc <;> conv => whnf) | (refine Ob.b ?_;conv=>whnf)
   all_goals first | (have e := c2 (by omega) (by omega); exact Lf) | (have e := c1' (by omega); exact Lf) | exact ⟨rfl, ⟨i + 1, ⟨by omega, by omega⟩, fun j a b => if e : j = i then (by subst e; omega) else hinv j a (by omega)⟩, Lf, by simp only; omega⟩
  ·exact Lf
 ·have e : c = checkM F := by rw [← hc]; exact if_pos h0
  have hq : ∀ x, checkM F = x → x ≠ 0 := fun x hx => hx ▸ h0
  generalize checkM F = k at *
  have hk := hq k rfl
  refine Fn.of_ex (cuts := []) tys hM Try.func56 rfl Try.call56 rfl ?_
  show exC Try.prog T [] _ false none 0 (entry 32 [mixD F, ints l]) (finQ T [ResultVar.tmp 4] _)
  conv => whnf
  repeat' first | ((first | refine Ob.a ?_ | refine Sp.tt ?_ | refine Sp.ff ?_ | refine Sp.yes ?_ | refine Sp.no ?_ | refine Sp.nyes ?_ | refine Sp.nno ?_ | refine Fi.a ?_);conv=>whnf) | ((first | refine Sp.ne ?_ ?_ | refine Sp.dec ?_ ?_ | refine Sp.ndec ?_ ?_ | refine Sp.mk ?_ ?_) <;> intro hc <;> conv => whnf) | (apply Cl.go;(conv=>whnf); (first | refine Ob.call (hC) ?_);(conv=>whnf)) | (refine Ob.b ?_;conv=>whnf)
  all_goals first | exact Lf | (exfalso; omega)
set_option maxHeartbeats 8000000 in
theorem Comes_spec (F : List (List Int)) (hm : MixOk F) (o : Int) (o0 : 0 ≤ o) : ∀ (n : Nat) (i : Int), 0 ≤ i → i < n → i < F.length → Fn Try.prog 51 [mixD F, int i, int o] (bool (cm F i.toNat o.toNat))
 | 0, i, h0, h1, _ => by omega
 | n + 1, i, h0, h1, hF => by
  have ih := fun (x : Int) (a : 0 ≤ x) (b : x < i) => Comes_spec F hm o o0 n x a (by omega) (by omega)
  have heq := cm_eq hm o.toNat (i := i.toNat) (by omega)
  have hl10 := hm.l10
  have hel := (hm.ris i.toNat (by omega)).1
  have hfl : ((F.getD i.toNat []).length : Int) ≤ 10 := by
   have h1 := lst_of_inc (hm.ris i.toNat (by omega)).1 (hm.ris i.toNat (by omega)).2
   have h2 : (frm F i.toNat).length ≤ i.toNat := by rw [h1]; exact lst_length_le _ _
   show ((frm F i.toNat).length : Int) ≤ 10
   omega
  generalize hr : cm F i.toNat o.toNat = r at heq ⊢
  change r = (decide (i.toNat = o.toNat) || (F.getD i.toNat []).any fun k => cm F k.toNat o.toNat) at heq
  change ∀ x ∈ F.getD i.toNat [], 0 ≤ x ∧ x < (i.toNat : Int) at hel
  by_cases hio : i = o
  ·have e : r = true := by rw [heq, decide_eq_true (by rw [hio])]; rfl
   refine Fn.of_ex (cuts := []) tys hM Try.func51 rfl Try.call51 rfl ?_
   show exC Try.prog T [] _ false none 0 (entry 32 [mixD F, int i, int o]) (finQ T [ResultVar.tmp 6] _)
   conv => whnf
   repeat' first | ((first | refine Ob.a ?_ | refine Sp.tt ?_ | refine Sp.ff ?_ | refine Sp.yes ?_ | refine Sp.no ?_ | refine Sp.nyes ?_ | refine Sp.nno ?_ | refine Fi.a ?_);conv=>whnf) | ((first | refine Sp.ne ?_ ?_ | refine Sp.dec ?_ ?_ | refine Sp.ndec ?_ ?_ | refine Sp.mk ?_ ?_) <;> intro hc <;> conv => whnf) | (refine Ob.b ?_;conv=>whnf)
   all_goals first | exact Lf | (exfalso; omega)
  ·rw [decide_eq_false (by omega), Bool.false_or] at heq
   have h2 : ∀ k : Int, 0 ≤ k → k < (F.getD i.toNat []).length → cm F ((F.getD i.toNat []).getD k.toNat 0).toNat o.toNat = true → r = true := fun k a b h => by
    rw [heq, List.any_eq_true]; exact ⟨_, getD_mem (by omega) 0, h⟩
   have h3 : (∀ k : Int, 0 ≤ k → k < (F.getD i.toNat []).length → cm F ((F.getD i.toNat []).getD k.toNat 0).toNat o.toNat = false) → r = false := fun h => by
    rw [heq, List.any_eq_false]
    intro x hx
    obtain ⟨j, hj, rfl⟩ := mem_getD (d := 0) hx
    have := h j (by omega) (by omega)
    rw [Int.toNat_natCast] at this
    rw [this]; simp
   clear heq hr
   refine Fn.of_ex (cuts := []) tys hM Try.func51 rfl Try.call51 rfl ?_
   show exC Try.prog T [] _ false none 0 (entry 32 [mixD F, int i, int o]) (finQ T [ResultVar.tmp 6] _)
   conv => whnf
   repeat' first | ((first | refine Ob.a ?_ | refine Sp.tt ?_ | refine Sp.ff ?_ | refine Sp.yes ?_ | refine Sp.no ?_ | refine Sp.nyes ?_ | refine Sp.nno ?_ | refine Fi.a ?_);conv=>whnf) | ((first | refine Sp.ne ?_ ?_ | refine Sp.dec ?_ ?_ | refine Sp.ndec ?_ ?_ | refine Sp.mk ?_ ?_) <;> intro hc <;> conv => whnf) | (refine Ob.b ?_;conv=>whnf)
   refine Lp.snap [0, 1, 2, 3] 40 ?_
   (conv=>whnf)
   refine LpB.go 32 ({k : Int // (0 ≤ k ∧ k ≤ (F.getD i.toNat []).length) ∧ ∀ j : Int, 0 ≤ j → j < k → cm F ((F.getD i.toNat []).getD j.toNat 0).toNat o.toNat = false}) 0 (fun ⟨k, _⟩ nx => ([(7, .d (int k))], [])) (fun p => ((F.getD i.toNat []).length - p.1).toNat) (⟨0, ⟨by omega, by omega⟩, fun j a b => by omega⟩) ?_ ?_
   ·rintro ⟨k, ⟨k0, k1⟩, hinv⟩
    by_cases hk : k < (F.getD i.toNat []).length
    ·have hx := hel _ (getD_mem (i := k.toNat) (by omega) 0)
     have ih := ih ((F.getD i.toNat []).getD k.toNat 0) (by omega) (by omega)
     have h2 := h2 k k0 hk
     generalize hb : cm F ((F.getD i.toNat []).getD k.toNat 0).toNat o.toNat = b at *
     cases b with
     | true =>
      have e := h2 rfl
      conv => whnf
      repeat' first | ((first | refine Ob.a ?_ | refine Sp.tt ?_ | refine Sp.ff ?_ | refine Sp.yes ?_ | refine Sp.no ?_ | refine Sp.nyes ?_ | refine Sp.nno ?_ | refine Fi.a ?_);conv=>whnf) | ((first | refine Sp.ne ?_ ?_ | refine Sp.dec ?_ ?_ | refine Sp.ndec ?_ ?_ | refine Sp.mk ?_ ?_) <;> intro hc <;> conv => whnf) | (apply Cl.go;(conv=>whnf); (first | refine Ob.call (ih) ?_);(conv=>whnf)) | (refine Ob.b ?_;conv=>whnf)
      all_goals exact Lf
     | false =>
      have e : ∀ j : Int, 0 ≤ j → j < k + 1 → cm F ((F.getD i.toNat []).getD j.toNat 0).toNat o.toNat = false := fun j a b => if e : j = k then (by subst e; exact hb) else hinv j a (by omega)
      conv => whnf
      repeat' first | ((first | refine Ob.a ?_ | refine Sp.tt ?_ | refine Sp.ff ?_ | refine Sp.yes ?_ | refine Sp.no ?_ | refine Sp.nyes ?_ | refine Sp.nno ?_ | refine Fi.a ?_);conv=>whnf) | ((first | refine Sp.ne ?_ ?_ | refine Sp.dec ?_ ?_ | refine Sp.ndec ?_ ?_ | refine Sp.mk ?_ ?_) <;> intro hc <;> conv => whnf) | (apply Cl.go;(conv=>whnf); (first | refine Ob.call (ih) ?_);(conv=>whnf)) | (refine Ob.b ?_;conv=>whnf)
      exact ⟨rfl, ⟨k + 1, ⟨by omega, by omega⟩, e⟩, Lf, by simp only; omega⟩
    ·have e := h3 fun j a b => hinv j a (by omega)
     conv => whnf
     repeat' first | ((first | refine Ob.a ?_ | refine Sp.tt ?_ | refine Sp.ff ?_ | refine Sp.yes ?_ | refine Sp.no ?_ | refine Sp.nyes ?_ | refine Sp.nno ?_ | refine Fi.a ?_);conv=>whnf) | ((first | refine Sp.ne ?_ ?_ | refine Sp.dec ?_ ?_ | refine Sp.ndec ?_ ?_ | refine Sp.mk ?_ ?_) <;> intro hc <;> conv => whnf) | (refine Ob.b ?_;conv=>whnf)
     all_goals exact Lf
   ·exact Lf
theorem bitAnd (b k : Nat) : band .i64 ((b : Int) / 2 ^ k) 1 = ((b / 2 ^ k % 2 : Nat) : Int) := by
 have e : ((b : Int) / 2 ^ k) = ((b / 2 ^ k : Nat) : Int) := by simp
 rw [e]
 generalize b / 2 ^ k = c
 unfold band
 have h : (BitVec.ofInt IntKind.i64.bits (c : Int) &&& BitVec.ofInt IntKind.i64.bits 1).toNat = c % 2 := by
  have e1 : BitVec.ofInt IntKind.i64.bits (c : Int) = BitVec.ofNat 64 c := BitVec.ofInt_natCast 64 c
  have e2 : BitVec.ofInt IntKind.i64.bits 1 = BitVec.ofNat 64 1 := rfl
  rw [e1, e2]
  show (BitVec.ofNat 64 c &&& BitVec.ofNat 64 1).toNat = _
  rw [BitVec.toNat_and, BitVec.toNat_ofNat, BitVec.toNat_ofNat, show 1 % 2 ^ 64 = 1 from rfl, Nat.and_one_is_mod, Nat.mod_mod_of_dvd]
  decide
 rw [h, wrap_in]
 simp only [inR]
 omega
set_option maxHeartbeats 4000000 in
theorem Listed_spec (b n : Nat) (hb : b < 2 ^ 60) (hn : n ≤ 60) : Fn Try.prog 43 [int b, int n] (ints (listed b n)) := by
 refine Fn.hide (D := fun r : List Int => ints r) fun c hc => ?_
 have hc0 := hc.h
 refine Fn.of_ex (cuts := []) tys hM Try.func43 rfl Try.call43 rfl ?_
 show exC Try.prog T [] _ false none 0 (entry 22 [int b, int n]) (finQ T [ResultVar.tmp 4] _)
 conv => whnf
 repeat' first | ((first | refine Ob.a ?_ | refine Sp.tt ?_ | refine Sp.ff ?_ | refine Sp.yes ?_ | refine Sp.no ?_ | refine Sp.nyes ?_ | refine Sp.nno ?_ | refine Fi.a ?_);conv=>whnf) | ((first | refine Sp.ne ?_ ?_ | refine Sp.dec ?_ ?_ | refine Sp.ndec ?_ ?_ | refine Sp.mk ?_ ?_) <;> intro hc <;> conv => whnf) | (refine Ob.b ?_;conv=>whnf)
 refine Lp.snap [0, 1, 4, 21] 40 ?_
 (conv=>whnf)
 refine LpB.go 22 ({q : Int × List Int // (0 ≤ q.1 ∧ q.1 ≤ n) ∧ q.2 = listed b q.1.toNat}) 0 (fun ⟨(i, o), _⟩ nx => ([(6, .d (int i)), (5, .ms 1 1 0 o.length)], [(1, .row true 3 1 o.length (rowOf int 0 o))])) (fun p => (n - p.1.1).toNat) (⟨(0, []), ⟨by simp, by simp⟩, rfl⟩) ?_ ?_
 ·rintro ⟨⟨i, o⟩, ⟨i0, i1⟩, ho⟩
  simp only at i0 i1 ho
  have hb2 := bitAnd b i.toNat
  have hlen : o.length ≤ i.toNat := by rw [ho]; exact lst_length_le _ _
  have hs : listed b (i + 1).toNat = o ++ if b / 2 ^ i.toNat % 2 = 1 then [i] else [] := by
   rw [show (i + 1).toNat = i.toNat + 1 by omega, listed, lst_succ, ho]
   congr 1
   unfold bset
   rw [Int.toNat_of_nonneg i0]
   simp
  have he : ¬ i < n → o = c := fun hi => by rw [ho, ← hc0, show i.toNat = n by omega]
  have h60 : i < n → i < 64 := fun hi => by omega
  by_cases hbit : b / 2 ^ i.toNat % 2 = 1
  ·rw [if_pos hbit] at hs
   have hq : ((b / 2 ^ i.toNat % 2 : Nat) : Int) = 1 := by omega
   rw [hq] at hb2
   conv => whnf
   repeat' first | ((first | refine Ob.a ?_ | refine Sp.tt ?_ | refine Sp.ff ?_ | refine Sp.yes ?_ | refine Sp.no ?_ | refine Sp.nyes ?_ | refine Sp.nno ?_ | refine Fi.a ?_);conv=>whnf) | ((first | refine Sp.ne ?_ ?_ | refine Sp.dec ?_ ?_ | refine Sp.ndec ?_ ?_ | refine Sp.mk ?_ ?_) <;> intro hc <;> conv => whnf) | (refine Ob.b ?_;conv=>whnf)
   all_goals first | (have e := he (by omega); exact Lf) | exact ⟨rfl, ⟨(i + 1, o ++ [i]), ⟨by simp only; omega, by simp only; omega⟩, hs.symm⟩, Lf, by simp only; omega⟩
  ·rw [if_neg hbit, List.append_nil] at hs
   have hq : ((b / 2 ^ i.toNat % 2 : Nat) : Int) = 0 := by omega
   rw [hq] at hb2
   conv => whnf
   repeat' first | ((first | refine Ob.a ?_ | refine Sp.tt ?_ | refine Sp.ff ?_ | refine Sp.yes ?_ | refine Sp.no ?_ | refine Sp.nyes ?_ | refine Sp.nno ?_ | refine Fi.a ?_);conv=>whnf) | ((first | refine Sp.ne ?_ ?_ | refine Sp.dec ?_ ?_ | refine Sp.ndec ?_ ?_ | refine Sp.mk ?_ ?_) <;> intro hc <;> conv => whnf) | (refine Ob.b ?_;conv=>whnf)
   all_goals first | (have e := he (by omega); exact Lf) | exact ⟨rfl, ⟨(i + 1, o), ⟨by simp only; omega, by simp only; omega⟩, hs.symm⟩, Lf, by simp only; omega⟩
 ·exact Lf
end Go.Px.Try

/-! Tf3 -/
namespace Go.Px.Try
open Go Go.Proofs Go.Px
set_option maxRecDepth 100000
theorem frm_len {F : List (List Int)} (h : MixOk F) {i : Nat} (hi : i < F.length) : (frm F i).length ≤ i := by
 rw [lst_of_inc (h.ris i hi).1 (h.ris i hi).2]; exact lst_length_le _ _
def sackB (F : List (List Int)) (i : Nat) : Bool := decide (frm F i = [])
def sacksL (F : List (List Int)) (x : Nat) : List Int := lst F.length fun i => sackB F i && cm F x i
set_option maxHeartbeats 8000000 in
theorem Sacks_spec (F : List (List Int)) (hs : SmallM F) (x : Int) : Fn Try.prog 18 [mixD F, int x] (tpl [ints (if nodeE F [x] = 0 then sacksL F x.toNat else []), int (nodeE F [x])]) := by
 have hE := nodeError_spec F hs [x] (by simp)
 have hk := @nodeE_ok F [x]
 by_cases h0 : nodeE F [x] = 0
 ·rw [if_pos h0]
  rw [h0] at hE ⊢
  obtain ⟨hm, hx⟩ := hk.1 h0
  have hx := hx x (by simp)
  have hl10 := hm.l10
  have hC := fun (i : Int) (a : 0 ≤ i) => Comes_spec F hm i a (F.length + 1) x hx.1 (by omega) hx.2
  clear hk h0
  refine Fn.hide (D := fun r : List Int => tpl [ints r, int 0]) fun c hc => ?_
  have hc0 := hc.h
  clear hc
  refine Fn.of_ex (cuts := []) tys hM Try.func18 rfl Try.call18 rfl ?_
  show exC Try.prog T [] _ false none 0 (entry 42 [mixD F, int x]) (finQ T [ResultVar.tmp 4, ResultVar.tmp 5] _)
  conv => whnf
  repeat' first | ((first | refine Ob.a ?_ | refine Sp.tt ?_ | refine Sp.ff ?_ | refine Sp.yes ?_ | refine Sp.no ?_ | refine Sp.nyes ?_ | refine Sp.nno ?_ | refine Fi.a ?_);conv=>whnf) | ((first | refine Sp.ne ?_ ?_ | refine Sp.dec ?_ ?_ | refine Sp.ndec ?_ ?_ | refine Sp.mk ?_ ?_) <;> intro hc <;> conv => whnf) | (apply Cl.go;(conv=>whnf); (first | refine Ob.call (hE) ?_);(conv=>whnf)) | (refine Ob.b ?_;conv=>whnf)
  all_goals try (rename_i hq; exact absurd rfl hq)
  refine Lp.snap [0, 1, 2, 4, 5, 41] 40 ?_
  (conv=>whnf)
  refine LpB.go 42 ({q : Int × List Int // (0 ≤ q.1 ∧ q.1 ≤ F.length) ∧ q.2 = lst q.1.toNat fun i => sackB F i && cm F x.toNat i}) 0 (fun ⟨(i, o), _⟩ nx => ([(7, .d (int i)), (6, .ms 8 1 0 o.length)], [(8, .row true 3 1 o.length (rowOf int 0 o))])) (fun p => (F.length - p.1.1).toNat) (⟨(0, []), ⟨by simp, by simp⟩, rfl⟩) ?_ ?_
  ·rintro ⟨⟨i, o⟩, ⟨i0, i1⟩, ho⟩
   simp only at i0 i1 ho
   have hlen : o.length ≤ i.toNat := by rw [ho]; exact lst_length_le _ _
   by_cases hi : i < F.length
   ·have hC := hC i i0
    have hfl := frm_len hm (i := i.toNat) (by omega)
    change (F.getD i.toNat []).length ≤ i.toNat at hfl
    have hst : lst (i + 1).toNat (fun i => sackB F i && cm F x.toNat i) = o ++ if (decide ((F.getD i.toNat []).length = 0) && cm F x.toNat i.toNat) = true then [i] else [] := by
     rw [show (i + 1).toNat = i.toNat + 1 by omega, lst_succ, ho, Int.toNat_of_nonneg i0]
     congr 2
     unfold sackB
     rw [show decide (frm F i.toNat = []) = decide ((F.getD i.toNat []).length = 0) from decide_eq_decide.2 List.length_eq_zero_iff.symm]
    by_cases hz : (F.getD i.toNat []).length = 0
    ·rw [decide_eq_true hz, Bool.true_and] at hst
     have hz' : ((F.getD i.toNat []).length : Int) = 0 := by omega
     generalize cm F x.toNat i.toNat = b at *
     cases b with
     | true =>
      rw [if_pos rfl] at hst
      conv => whnf
      repeat' first | ((first | refine Ob.a ?_ | refine Sp.tt ?_ | refine Sp.ff ?_ | refine Sp.yes ?_ | refine Sp.no ?_ | refine Sp.nyes ?_ | refine Sp.nno ?_ | refine Fi.a ?_);conv=>whnf) | ((first | refine Sp.ne ?_ ?_ | refine Sp.dec ?_ ?_ | refine Sp.ndec ?_ ?_ | refine Sp.mk ?_ ?_) <;> intro hc <;> conv => whnf) | (apply Cl.go;(conv=>whnf); (first | refine Ob.call (hC) ?_);(conv=>whnf)) | (refine Ob.b ?_;conv=>whnf)
      all_goals first | exact ⟨rfl, ⟨(i + 1, o ++ [i]), ⟨by simp only; omega, by simp only; omega⟩, hst.symm⟩, Lf, by simp only; omega⟩ | (exfalso; omega)
     | false =>
      rw [if_neg (by simp), List.append_nil] at hst
      conv => whnf
      repeat' first | ((first | refine Ob.a ?_ | refine Sp.tt ?_ | refine Sp.ff ?_ | refine Sp.yes ?_ | refine Sp.no ?_ | refine Sp.nyes ?_ | refine Sp.nno ?_ | refine Fi.a ?_);conv=>whnf) | ((first | refine Sp.ne ?_ ?_ | refine Sp.dec ?_ ?_ | refine Sp.ndec ?_ ?_ | refine Sp.mk ?_ ?_) <;> intro hc <;> conv => whnf) | (apply Cl.go;(conv=>whnf); (first | refine Ob.call (hC) ?_);(conv=>whnf)) | (refine Ob.b ?_;conv=>whnf)
      all_goals first | exact ⟨rfl, ⟨(i + 1, o), ⟨by simp only; omega, by simp only; omega⟩, hst.symm⟩, Lf, by simp only; omega⟩ | (exfalso; omega)
    ·rw [decide_eq_false hz, Bool.false_and, if_neg (by simp), List.append_nil] at hst
     conv => whnf
     repeat' first | ((first | refine Ob.a ?_ | refine Sp.tt ?_ | refine Sp.ff ?_ | refine Sp.yes ?_ | refine Sp.no ?_ | refine Sp.nyes ?_ | refine Sp.nno ?_ | refine Fi.a ?_);conv=>whnf) | ((first | refine Sp.ne ?_ ?_ | refine Sp.dec ?_ ?_ | refine Sp.ndec ?_ ?_ | refine Sp.mk ?_ ?_) <;> intro hc <;> conv => whnf) | (refine Ob.b ?_;conv=>whnf)
     all_goals first | exact ⟨rfl, ⟨(i + 1, o), ⟨by simp only; omega, by simp only; omega⟩, hst.symm⟩, Lf, by simp only; omega⟩ | (exfalso; omega)
   ·have e : o = c := by rw [ho, ← hc0, show i.toNat = F.length by omega]; rfl
    conv => whnf
    repeat' first | ((first | refine Ob.a ?_ | refine Sp.tt ?_ | refine Sp.ff ?_ | refine Sp.yes ?_ | refine Sp.no ?_ | refine Sp.nyes ?_ | refine Sp.nno ?_ | refine Fi.a ?_);conv=>whnf) | ((first | refine Sp.ne ?_ ?_ | refine Sp.dec ?_ ?_ | refine Sp.ndec ?_ ?_ | refine Sp.mk ?_ ?_) <;> intro hc <;> conv => whnf) | (refine Ob.b ?_;conv=>whnf)
    exact Lf
  ·exact Lf
 ·rw [if_neg h0]
  clear hk
  generalize nodeE F [x] = k at *
  refine Fn.of_ex (cuts := []) tys hM Try.func18 rfl Try.call18 rfl ?_
  show exC Try.prog T [] _ false none 0 (entry 42 [mixD F, int x]) (finQ T [ResultVar.tmp 4, ResultVar.tmp 5] _)
  conv => whnf
  repeat' first | ((first | refine Ob.a ?_ | refine Sp.tt ?_ | refine Sp.ff ?_ | refine Sp.yes ?_ | refine Sp.no ?_ | refine Sp.nyes ?_ | refine Sp.nno ?_ | refine Fi.a ?_);conv=>whnf) | ((first | refine Sp.ne ?_ ?_ | refine Sp.dec ?_ ?_ | refine Sp.ndec ?_ ?_ | refine Sp.mk ?_ ?_) <;> intro hc <;> conv => whnf) | (apply Cl.go;(conv=>whnf); (first | refine Ob.call (hE) ?_);(conv=>whnf)) | (refine Ob.b ?_;conv=>whnf)
  all_goals first | exact Lf | (exfalso; omega)
theorem isum_take_succ {l : List Int} {k : Int} (f : Nat → Int) (k0 : 0 ≤ k) (h : k < l.length) : isum (l.take (k + 1).toNat) f = isum (l.take k.toNat) f + f (l.getD k.toNat 0).toNat := by
 rw [show (k + 1).toNat = k.toNat + 1 by omega, take_succ_getD l k.toNat 0 (by omega), isum_snoc]
set_option maxHeartbeats 8000000 in
theorem CountOf_spec (F : List (List Int)) (hm : MixOk F) : ∀ (n : Nat) (i : Int), 0 ≤ i → i < n → i < F.length → Fn Try.prog 59 [mixD F, int i] (int (cg F (fun _ => false) i.toNat))
 | 0, i, h0, h1, _ => by omega
 | n + 1, i, h0, h1, hF => by
  have ih := fun (x : Int) (a : 0 ≤ x) (b : x < i) => CountOf_spec F hm n x a (by omega) (by omega)
  have heq := cg_eq hm (fun _ => false) (i := i.toNat) (by omega)
  have hl10 := hm.l10
  have hel := (hm.ris i.toNat (by omega)).1
  have hfl := frm_len hm (i := i.toNat) (by omega)
  have htk := cg_take_le hm (fun _ => false) (i := i.toNat) (by omega)
  have hpw : (2 : Int) ^ i.toNat ≤ 1024 := by
   have : i.toNat < 10 := by omega
   have h : ∀ j, j < 10 → (2 : Int) ^ j ≤ 1024 := by decide
   exact h _ this
  rw [if_neg (by simp)] at heq
  generalize hr : cg F (fun _ => false) i.toNat = r at heq ⊢
  clear hr
  change ∀ x ∈ F.getD i.toNat [], 0 ≤ x ∧ x < (i.toNat : Int) at hel
  change (F.getD i.toNat []).length ≤ i.toNat at hfl
  change ∀ k, 0 ≤ isum ((F.getD i.toNat []).take k) (cg F fun _ => false) ∧ isum ((F.getD i.toNat []).take k) (cg F fun _ => false) ≤ 2 ^ i.toNat at htk
  change r = if F.getD i.toNat [] = [] then 1 else isum (F.getD i.toNat []) (cg F fun _ => false) at heq
  by_cases hz : F.getD i.toNat [] = []
  ·rw [if_pos hz] at heq
   have hz' : ((F.getD i.toNat []).length : Int) = 0 := by rw [hz]; rfl
   refine Fn.of_ex (cuts := []) tys hM Try.func59 rfl Try.call59 rfl ?_
   show exC Try.prog T [] _ false none 0 (entry 37 [mixD F, int i]) (finQ T [ResultVar.tmp 4] _)
   conv => whnf
   repeat' first | ((first | refine Ob.a ?_ | refine Sp.tt ?_ | refine Sp.ff ?_ | refine Sp.yes ?_ | refine Sp.no ?_ | refine Sp.nyes ?_ | refine Sp.nno ?_ | refine Fi.a ?_);conv=>whnf) | ((first | refine Sp.ne ?_ ?_ | refine Sp.dec ?_ ?_ | refine Sp.ndec ?_ ?_ | refine Sp.mk ?_ ?_) <;> intro hc <;> conv => whnf) | (refine Ob.b ?_;conv=>whnf)
   all_goals first | exact Lf | (exfalso; omega)
  ·rw [if_neg hz] at heq
   have hz' : ¬ ((F.getD i.toNat []).length : Int) = 0 := fun h => hz (List.length_eq_zero_iff.1 (by omega))
   refine Fn.of_ex (cuts := []) tys hM Try.func59 rfl Try.call59 rfl ?_
   show exC Try.prog T [] _ false none 0 (entry 37 [mixD F, int i]) (finQ T [ResultVar.tmp 4] _)
   conv => whnf
   repeat' first | ((first | refine Ob.a ?_ | refine Sp.tt ?_ | refine Sp.ff ?_ | refine Sp.yes ?_ | refine Sp.no ?_ | refine Sp.nyes ?_ | refine Sp.nno ?_ | refine Fi.a ?_);conv=>whnf) | ((first | refine Sp.ne ?_ ?_ | refine Sp.dec ?_ ?_ | refine Sp.ndec ?_ ?_ | refine Sp.mk ?_ ?_) <;> intro hc <;> conv => whnf) | (refine Ob.b ?_;conv=>whnf)
   all_goals try (exfalso; omega)
   refine Lp.snap [0, 1, 2, 4, 36] 40 ?_
   (conv=>whnf)
   refine LpB.go 37 ({q : Int × Int // (0 ≤ q.1 ∧ q.1 ≤ (F.getD i.toNat []).length) ∧ q.2 = isum ((F.getD i.toNat []).take q.1.toNat) (cg F fun _ => false)}) 0 (fun ⟨(k, s), _⟩ nx => ([(6, .d (int k)), (5, .d (int s))], [])) (fun p => ((F.getD i.toNat []).length - p.1.1).toNat) (⟨(0, 0), ⟨by simp, by simp⟩, rfl⟩) ?_ ?_
   ·rintro ⟨⟨k, s⟩, ⟨k0, k1⟩, hinv⟩
    simp only at k0 k1 hinv
    have hb := htk k.toNat
    rw [← hinv] at hb
    by_cases hk : k < (F.getD i.toNat []).length
    ·have hx := hel _ (getD_mem (i := k.toNat) (by omega) 0)
     have ih := ih ((F.getD i.toNat []).getD k.toNat 0) (by omega) (by omega)
     have hsucc := isum_take_succ (cg F fun _ => false) k0 hk
     have hb2 := htk (k + 1).toNat
     rw [← hinv] at hsucc
     rw [hsucc] at hb2
     generalize cg F (fun _ => false) ((F.getD i.toNat []).getD k.toNat 0).toNat = v at *
     conv => whnf
     repeat' first | ((first | refine Ob.a ?_ | refine Sp.tt ?_ | refine Sp.ff ?_ | refine Sp.yes ?_ | refine Sp.no ?_ | refine Sp.nyes ?_ | refine Sp.nno ?_ | refine Fi.a ?_);conv=>whnf) | ((first | refine Sp.ne ?_ ?_ | refine Sp.dec ?_ ?_ | refine Sp.ndec ?_ ?_ | refine Sp.mk ?_ ?_) <;> intro hc <;> conv => whnf) | (apply Cl.go;(conv=>whnf); (first | refine Ob.call (ih) ?_);(conv=>whnf)) | (refine Ob.b ?_;conv=>whnf)
     exact ⟨rfl, ⟨(k + 1, s + v), ⟨by simp only; omega, by simp only; omega⟩, hsucc.symm⟩, Lf, by simp only; omega⟩
    ·have e : s = r := by rw [hinv, heq, List.take_of_length_le (by omega)]
     conv => whnf
     repeat' first | ((first | refine Ob.a ?_ | refine Sp.tt ?_ | refine Sp.ff ?_ | refine Sp.yes ?_ | refine Sp.no ?_ | refine Sp.nyes ?_ | refine Sp.nno ?_ | refine Fi.a ?_);conv=>whnf) | ((first | refine Sp.ne ?_ ?_ | refine Sp.dec ?_ ?_ | refine Sp.ndec ?_ ?_ | refine Sp.mk ?_ ?_) <;> intro hc <;> conv => whnf) | (refine Ob.b ?_;conv=>whnf)
     all_goals exact Lf
   ·exact Lf
set_option maxHeartbeats 4000000 in
theorem Count_spec (F : List (List Int)) (hs : SmallM F) (x : Int) : Fn Try.prog 20 [mixD F, int x] (tpl [int (if nodeE F [x] = 0 then cg F (fun _ => false) x.toNat else 0), int (nodeE F [x])]) := by
 have hE := nodeError_spec F hs [x] (by simp)
 have hk := @nodeE_ok F [x]
 by_cases h0 : nodeE F [x] = 0
 ·rw [if_pos h0]
  rw [h0] at hE ⊢
  obtain ⟨hm, hx⟩ := hk.1 h0
  have hx := hx x (by simp)
  have hC := CountOf_spec F hm (F.length + 1) x hx.1 (by omega) hx.2
  clear hk h0
  generalize cg F (fun _ => false) x.toNat = c at *
  refine Fn.of_ex (cuts := []) tys hM Try.func20 rfl Try.call20 rfl ?_
  show exC Try.prog T [] _ false none 0 (entry 18 [mixD F, int x]) (finQ T [ResultVar.tmp 4, ResultVar.tmp 5] _)
  conv => whnf
  repeat' first | ((first | refine Ob.a ?_ | refine Sp.tt ?_ | refine Sp.ff ?_ | refine Sp.yes ?_ | refine Sp.no ?_ | refine Sp.nyes ?_ | refine Sp.nno ?_ | refine Fi.a ?_);conv=>whnf) | ((first | refine Sp.ne ?_ ?_ | refine Sp.dec ?_ ?_ | refine Sp.ndec ?_ ?_ | refine Sp.mk ?_ ?_) <;> intro hc <;> conv => whnf) | (apply Cl.go;(conv=>whnf); (first | refine Ob.call (hE) ?_ | refine Ob.call (hC) ?_);(conv=>whnf)) | (refine Ob.b ?_;conv=>whnf)
  all_goals first | exact Lf | (rename_i hq; exact absurd rfl hq)
 ·rw [if_neg h0]
  clear hk
  generalize nodeE F [x] = k at *
  refine Fn.of_ex (cuts := []) tys hM Try.func20 rfl Try.call20 rfl ?_
  show exC Try.prog T [] _ false none 0 (entry 18 [mixD F, int x]) (finQ T [ResultVar.tmp 4, ResultVar.tmp 5] _)
  conv => whnf
  repeat' first | ((first | refine Ob.a ?_ | refine Sp.tt ?_ | refine Sp.ff ?_ | refine Sp.yes ?_ | refine Sp.no ?_ | refine Sp.nyes ?_ | refine Sp.nno ?_ | refine Fi.a ?_);conv=>whnf) | ((first | refine Sp.ne ?_ ?_ | refine Sp.dec ?_ ?_ | refine Sp.ndec ?_ ?_ | refine Sp.mk ?_ ?_) <;> intro hc <;> conv => whnf) | (apply Cl.go;(conv=>whnf); (first | refine Ob.call (hE) ?_);(conv=>whnf)) | (refine Ob.b ?_;conv=>whnf)
  all_goals first | exact Lf | (exfalso; omega)
set_option maxHeartbeats 8000000 in
theorem Free_spec (F : List (List Int)) (hm : MixOk F) (s w : Nat) : ∀ (n : Nat) (i : Int), 0 ≤ i → i < n → i < F.length → Fn Try.prog 63 [mixD F, int s, int w, int i] (bool (fr F (bset s) (bset w) i.toNat))
 | 0, i, h0, h1, _ => by omega
 | n + 1, i, h0, h1, hF => by
  have ih := fun (x : Int) (a : 0 ≤ x) (b : x < i) => Free_spec F hm s w n x a (by omega) (by omega)
  have heq := fr_eq hm (bset s) (bset w) (i := i.toNat) (by omega)
  have hl10 := hm.l10
  have hel := (hm.ris i.toNat (by omega)).1
  have hfl := frm_len hm (i := i.toNat) (by omega)
  have hbw := bitAnd w i.toNat
  have hbs := bitAnd s i.toNat
  generalize hr : fr F (bset s) (bset w) i.toNat = r at heq ⊢
  clear hr
  change ∀ x ∈ F.getD i.toNat [], 0 ≤ x ∧ x < (i.toNat : Int) at hel
  change (F.getD i.toNat []).length ≤ i.toNat at hfl
  change r = (!bset w i.toNat && if F.getD i.toNat [] = [] then bset s i.toNat else (F.getD i.toNat []).any fun k => fr F (bset s) (bset w) k.toNat) at heq
  by_cases hw : w / 2 ^ i.toNat % 2 = 1
  ·have e : r = false := by rw [heq, show bset w i.toNat = true from decide_eq_true hw]; rfl
   have hq : ((w / 2 ^ i.toNat % 2 : Nat) : Int) = 1 := by omega
   rw [hq] at hbw
   clear heq
   refine Fn.of_ex (cuts := []) tys hM Try.func63 rfl Try.call63 rfl ?_
   show exC Try.prog T [] _ false none 0 (entry 49 [mixD F, int s, int w, int i]) (finQ T [ResultVar.tmp 8] _)
   conv => whnf
   repeat' first | ((first | refine Ob.a ?_ | refine Sp.tt ?_ | refine Sp.ff ?_ | refine Sp.yes ?_ | refine Sp.no ?_ | refine Sp.nyes ?_ | refine Sp.nno ?_ | refine Fi.a ?_);conv=>whnf) | ((first | refine Sp.ne ?_ ?_ | refine Sp.dec ?_ ?_ | refine Sp.ndec ?_ ?_ | refine Sp.mk ?_ ?_) <;> intro hc <;> conv => whnf) | (refine Ob.b ?_;conv=>whnf)
   all_goals first | exact Lf | (exfalso; omega)
  rw [show bset w i.toNat = false from decide_eq_false hw, Bool.not_false, Bool.true_and] at heq
  have hq : ((w / 2 ^ i.toNat % 2 : Nat) : Int) = 0 := by omega
  rw [hq] at hbw
  by_cases hz : F.getD i.toNat [] = []
  ·rw [if_pos hz] at heq
   have hz' : ((F.getD i.toNat []).length : Int) = 0 := by rw [hz]; rfl
   by_cases hsb : s / 2 ^ i.toNat % 2 = 1
   ·have e : r = true := by rw [heq]; exact decide_eq_true hsb
    have hq : ((s / 2 ^ i.toNat % 2 : Nat) : Int) = 1 := by omega
    rw [hq] at hbs
    have e2 : decide (band .i64 ((s : Int) / 2 ^ i.toNat) 1 = 1) = r := by rw [hbs, e]; rfl
    refine Fn.of_ex (cuts := []) tys hM Try.func63 rfl Try.call63 rfl ?_
    show exC Try.prog T [] _ false none 0 (entry 49 [mixD F, int s, int w, int i]) (finQ T [ResultVar.tmp 8] _)
    conv => whnf
    repeat' first | ((first | refine Ob.a ?_ | refine Sp.tt ?_ | refine Sp.ff ?_ | refine Sp.yes ?_ | refine Sp.no ?_ | refine Sp.nyes ?_ | refine Sp.nno ?_ | refine Fi.a ?_);conv=>whnf) | ((first | refine Sp.ne ?_ ?_ | refine Sp.dec ?_ ?_ | refine Sp.ndec ?_ ?_ | refine Sp.mk ?_ ?_) <;> intro hc <;> conv => whnf) | (refine Ob.b ?_;conv=>whnf)
    all_goals first | exact ⟨trivial, e2⟩ | exact Lf | (exfalso; omega)
   ·have e : r = false := by rw [heq]; exact decide_eq_false hsb
    have hq : ((s / 2 ^ i.toNat % 2 : Nat) : Int) = 0 := by omega
    rw [hq] at hbs
    have e2 : decide (band .i64 ((s : Int) / 2 ^ i.toNat) 1 = 1) = r := by rw [hbs, e]; rfl
    refine Fn.of_ex (cuts := []) tys hM Try.func63 rfl Try.call63 rfl ?_
    show exC Try.prog T [] _ false none 0 (entry 49 [mixD F, int s, int w, int i]) (finQ T [ResultVar.tmp 8] _)
    conv => whnf
    repeat' first | ((first | refine Ob.a ?_ | refine Sp.tt ?_ | refine Sp.ff ?_ | refine Sp.yes ?_ | refine Sp.no ?_ | refine Sp.nyes ?_ | refine Sp.nno ?_ | refine Fi.a ?_);conv=>whnf) | ((first | refine Sp.ne ?_ ?_ | refine Sp.dec ?_ ?_ | refine Sp.ndec ?_ ?_ | refine Sp.mk ?_ ?_) <;> intro hc <;> conv => whnf) | (refine Ob.b ?_;conv=>whnf)
    all_goals first | exact ⟨trivial, e2⟩ | exact Lf | (exfalso; omega)
  ·rw [if_neg hz] at heq
   have hz' : ¬ ((F.getD i.toNat []).length : Int) = 0 := fun h => hz (List.length_eq_zero_iff.1 (by omega))
   have h2 : ∀ k : Int, 0 ≤ k → k < (F.getD i.toNat []).length → fr F (bset s) (bset w) ((F.getD i.toNat []).getD k.toNat 0).toNat = true → r = true := fun k a b h => by
    rw [heq, List.any_eq_true]; exact ⟨_, getD_mem (by omega) 0, h⟩
   have h3 : (∀ k : Int, 0 ≤ k → k < (F.getD i.toNat []).length → fr F (bset s) (bset w) ((F.getD i.toNat []).getD k.toNat 0).toNat = false) → r = false := fun h => by
    rw [heq, List.any_eq_false]
    intro x hx
    obtain ⟨j, hj, rfl⟩ := mem_getD (d := 0) hx
    have := h j (by omega) (by omega)
    rw [Int.toNat_natCast] at this
    rw [this]; simp
   clear heq hbs
   refine Fn.of_ex (cuts := []) tys hM Try.func63 rfl Try.call63 rfl ?_
   show exC Try.prog T [] _ false none 0 (entry 49 [mixD F, int s, int w, int i]) (finQ T [ResultVar.tmp 8] _)
   conv => whnf
   repeat' first | ((first | refine Ob.a ?_ | refine Sp.tt ?_ | refine Sp.ff ?_ | refine Sp.yes ?_ | refine Sp.no ?_ | refine Sp.nyes ?_ | refine Sp.nno ?_ | refine Fi.a ?_);conv=>whnf) | ((first | refine Sp.ne ?_ ?_ | refine Sp.dec ?_ ?_ | refine Sp.ndec ?_ ?_ | refine Sp.mk ?_ ?_) <;> intro hc <;> conv => whnf) | (refine Ob.b ?_;conv=>whnf)
   all_goals try (exfalso; omega)
   refine Lp.snap [0, 1, 2, 3, 4] 40 ?_
   (conv=>whnf)
   refine LpB.go 49 ({k : Int // (0 ≤ k ∧ k ≤ (F.getD i.toNat []).length) ∧ ∀ j : Int, 0 ≤ j → j < k → fr F (bset s) (bset w) ((F.getD i.toNat []).getD j.toNat 0).toNat = false}) 0 (fun ⟨k, _⟩ nx => ([(9, .d (int k))], [])) (fun p => ((F.getD i.toNat []).length - p.1).toNat) (⟨0, ⟨by omega, by omega⟩, fun j a b => by omega⟩) ?_ ?_
   ·rintro ⟨k, ⟨k0, k1⟩, hinv⟩
    by_cases hk : k < (F.getD i.toNat []).length
    ·have hx := hel _ (getD_mem (i := k.toNat) (by omega) 0)
     have ih := ih ((F.getD i.toNat []).getD k.toNat 0) (by omega) (by omega)
     have h2 := h2 k k0 hk
     generalize hb : fr F (bset s) (bset w) ((F.getD i.toNat []).getD k.toNat 0).toNat = b at *
     cases b with
     | true =>
      have e := h2 rfl
      conv => whnf
      repeat' first | ((first | refine Ob.a ?_ | refine Sp.tt ?_ | refine Sp.ff ?_ | refine Sp.yes ?_ | refine Sp.no ?_ | refine Sp.nyes ?_ | refine Sp.nno ?_ | refine Fi.a ?_);conv=>whnf) | ((first | refine Sp.ne ?_ ?_ | refine Sp.dec ?_ ?_ | refine Sp.ndec ?_ ?_ | refine Sp.mk ?_ ?_) <;> intro hc <;> conv => whnf) | (apply Cl.go;(conv=>whnf); (first | refine Ob.call (ih) ?_);(conv=>whnf)) | (refine Ob.b ?_;conv=>whnf)
      all_goals exact Lf
     | false =>
      have e : ∀ j : Int, 0 ≤ j → j < k + 1 → fr F (bset s) (bset w) ((F.getD i.toNat []).getD j.toNat 0).toNat = false := fun j a b => if e : j = k then (by subst e; exact hb) else hinv j a (by omega)
      conv => whnf
      repeat' first | ((first | refine Ob.a ?_ | refine Sp.tt ?_ | refine Sp.ff ?_ | refine Sp.yes ?_ | refine Sp.no ?_ | refine Sp.nyes ?_ | refine Sp.nno ?_ | refine Fi.a ?_);conv=>whnf) | ((first | refine Sp.ne ?_ ?_ | refine Sp.dec ?_ ?_ | refine Sp.ndec ?_ ?_ | refine Sp.mk ?_ ?_) <;> intro hc <;> conv => whnf) | (apply Cl.go;(conv=>whnf); (first | refine Ob.call (ih) ?_);(conv=>whnf)) | (refine Ob.b ?_;conv=>whnf)
      exact ⟨rfl, ⟨k + 1, ⟨by omega, by omega⟩, e⟩, Lf, by simp only; omega⟩
    ·have e := h3 fun j a b => hinv j a (by omega)
     conv => whnf
     repeat' first | ((first | refine Ob.a ?_ | refine Sp.tt ?_ | refine Sp.ff ?_ | refine Sp.yes ?_ | refine Sp.no ?_ | refine Sp.nyes ?_ | refine Sp.nno ?_ | refine Fi.a ?_);conv=>whnf) | ((first | refine Sp.ne ?_ ?_ | refine Sp.dec ?_ ?_ | refine Sp.ndec ?_ ?_ | refine Sp.mk ?_ ?_) <;> intro hc <;> conv => whnf) | (refine Ob.b ?_;conv=>whnf)
     all_goals exact Lf
   ·exact Lf
end Go.Px.Try

/-! Tf4 -/
namespace Go.Px.Try
open Go Go.Proofs Go.Px
set_option maxRecDepth 100000
theorem fr_congr {F : List (List Int)} (h : MixOk F) {bad bad' W W' : Nat → Bool} (hb : ∀ i, i < F.length → bad i = bad' i) (hW : ∀ i, i < F.length → W i = W' i) : ∀ i, i < F.length → fr F bad W i = fr F bad' W' i := by
 intro i
 induction i using Nat.strongRecOn with
 | ind i ih =>
  intro hi
  rw [fr_eq h bad W hi, fr_eq h bad' W' hi, hW i hi, hb i hi]
  congr 1
  by_cases e : frm F i = []
  ·rw [if_pos e, if_pos e]
  ·rw [if_neg e, if_neg e, Bool.eq_iff_iff, List.any_eq_true, List.any_eq_true]
   have key : ∀ k ∈ frm F i, fr F bad W k.toNat = fr F bad' W' k.toNat := fun k hk => by
    have := (h.ris i hi).1 k hk
    exact ih k.toNat (by omega) (by omega)
   constructor
   ·rintro ⟨k, hk, hh⟩; exact ⟨k, hk, by rw [← key k hk]; exact hh⟩
   ·rintro ⟨k, hk, hh⟩; exact ⟨k, hk, by rw [key k hk]; exact hh⟩
/-- Comes all of a node through i? -/
def thB (F : List (List Int)) (x i : Nat) : Bool := decide (i ≠ x) && !fr F (fun _ => true) (fun j => decide (j = i)) x
def thL (F : List (List Int)) (x : Nat) : List Int := lst F.length (thB F x)
theorem shl1 (n : Nat) : (1 : Int) * 2 ^ n = ((2 ^ n : Nat) : Int) := by simp
theorem pow1024 {n : Nat} (h : n ≤ 10) : (2 : Int) ^ n ≤ 1024 := by
 have h : ∀ j, j < 11 → (2 : Int) ^ j ≤ 1024 := by decide
 exact h n (by omega)
set_option maxHeartbeats 8000000 in
theorem Through_spec (F : List (List Int)) (hs : SmallM F) (x : Int) : Fn Try.prog 25 [mixD F, int x] (tpl [ints (if nodeE F [x] = 0 then thL F x.toNat else []), int (nodeE F [x])]) := by
 have hE := nodeError_spec F hs [x] (by simp)
 have hk := @nodeE_ok F [x]
 by_cases h0 : nodeE F [x] = 0
 ·rw [if_pos h0]
  rw [h0] at hE ⊢
  obtain ⟨hm, hx⟩ := hk.1 h0
  have hx := hx x (by simp)
  have hl10 := hm.l10
  have hFr : ∀ i : Int, 0 ≤ i → i < F.length → Fn Try.prog 63 [mixD F, int (1 * 2 ^ (F.length : Int).toNat - 1), int (1 * 2 ^ i.toNat), int x] (bool (fr F (fun _ => true) (fun j => decide (j = i.toNat)) x.toNat)) := fun i i0 i1 => by
   rw [Int.toNat_natCast]
   have h := Free_spec F hm (2 ^ F.length - 1) (2 ^ i.toNat) (F.length + 1) x hx.1 (by omega) hx.2
   have hp : 1 ≤ 2 ^ F.length := Nat.one_le_two_pow
   rw [show ((2 ^ F.length - 1 : Nat) : Int) = 1 * 2 ^ F.length - 1 by rw [shl1]; omega, ← shl1] at h
   rw [fr_congr hm (bad' := fun _ => true) (W' := fun j => decide (j = i.toNat)) (fun j hj => by rw [bset_all]; exact decide_eq_true hj) (fun j hj => bset_pow _ _) x.toNat (by omega)] at h
   exact h
  have p1 : (2 : Int) ^ (F.length : Int).toNat ≤ 1024 := pow1024 (by omega)
  have p0 := pow_pos' (F.length : Int).toNat
  have p2 : ∀ i : Int, 0 ≤ i → i < F.length → (2 : Int) ^ i.toNat ≤ 1024 := fun i a b => pow1024 (by omega)
  have p3 : ∀ i : Int, 1 ≤ (2 : Int) ^ i.toNat := fun i => pow_pos' _
  clear hk h0
  refine Fn.hide (D := fun r : List Int => tpl [ints r, int 0]) fun c hc => ?_
  have hc0 := hc.h
  clear hc
  refine Fn.of_ex (cuts := []) tys hM Try.func25 rfl Try.call25 rfl ?_
  show exC Try.prog T [] _ false none 0 (entry 45 [mixD F, int x]) (finQ T [ResultVar.tmp 4, ResultVar.tmp 5] _)
  conv => whnf
  repeat' first | ((first | refine Ob.a ?_ | refine Sp.tt ?_ | refine Sp.ff ?_ | refine Sp.yes ?_ | refine Sp.no ?_ | refine Sp.nyes ?_ | refine Sp.nno ?_ | refine Fi.a ?_);conv=>whnf) | ((first | refine Sp.ne ?_ ?_ | refine Sp.dec ?_ ?_ | refine Sp.ndec ?_ ?_ | refine Sp.mk ?_ ?_) <;> intro hc <;> conv => whnf) | (apply Cl.go;(conv=>whnf); (first | refine Ob.call (hE) ?_);(conv=>whnf)) | (refine Ob.b ?_;conv=>whnf)
  all_goals try (rename_i hq; exact absurd rfl hq)
  refine Lp.snap [0, 1, 2, 4, 5, 44] 40 ?_
  (conv=>whnf)
  refine LpB.go 45 ({q : Int × List Int // (0 ≤ q.1 ∧ q.1 ≤ F.length) ∧ q.2 = lst q.1.toNat (thB F x.toNat)}) 0 (fun ⟨(i, o), _⟩ nx => ([(7, .d (int i)), (6, .ms 8 1 0 o.length)], [(8, .row true 3 1 o.length (rowOf int 0 o))])) (fun p => (F.length - p.1.1).toNat) (⟨(0, []), ⟨by simp, by simp⟩, rfl⟩) ?_ ?_
  ·rintro ⟨⟨i, o⟩, ⟨i0, i1⟩, ho⟩
   simp only at i0 i1 ho
   have hlen : o.length ≤ i.toNat := by rw [ho]; exact lst_length_le _ _
   by_cases hi : i < F.length
   ·have hFr := hFr i i0 hi
    have p2 := p2 i i0 hi
    have p3 := p3 i
    have hst : lst (i + 1).toNat (thB F x.toNat) = o ++ if (decide (i ≠ x) && !fr F (fun _ => true) (fun j => decide (j = i.toNat)) x.toNat) = true then [i] else [] := by
     rw [show (i + 1).toNat = i.toNat + 1 by omega, lst_succ, ho, Int.toNat_of_nonneg i0]
     congr 2
     unfold thB
     rw [show decide (i.toNat ≠ x.toNat) = decide (i ≠ x) from decide_eq_decide.2 (by omega)]
    by_cases hz : i = x
    ·rw [decide_eq_false (not_not_intro hz), Bool.false_and, if_neg (by simp), List.append_nil] at hst
     conv => whnf
     repeat' first | ((first | refine Ob.a ?_ | refine Sp.tt ?_ | refine Sp.ff ?_ | refine Sp.yes ?_ | refine Sp.no ?_ | refine Sp.nyes ?_ | refine Sp.nno ?_ | refine Fi.a ?_);conv=>whnf) | ((first | refine Sp.ne ?_ ?_ | refine Sp.dec ?_ ?_ | refine Sp.ndec ?_ ?_ | refine Sp.mk ?_ ?_) <;> intro hc <;> conv => whnf) | (refine Ob.b ?_;conv=>whnf)
     all_goals first | exact ⟨rfl, ⟨(i + 1, o), ⟨by simp only; omega, by simp only; omega⟩, hst.symm⟩, Lf, by simp only; omega⟩ | (exfalso; omega)
    ·rw [decide_eq_true hz, Bool.true_and] at hst
     generalize fr F (fun _ => true) (fun j => decide (j = i.toNat)) x.toNat = b at *
     cases b with
     | false =>
      rw [Bool.not_false, if_pos rfl] at hst
      conv => whnf
      repeat' first | ((first | refine Ob.a ?_ | refine Sp.tt ?_ | refine Sp.ff ?_ | refine Sp.yes ?_ | refine Sp.no ?_ | refine Sp.nyes ?_ | refine Sp.nno ?_ | refine Fi.a ?_);conv=>whnf) | ((first | refine Sp.ne ?_ ?_ | refine Sp.dec ?_ ?_ | refine Sp.ndec ?_ ?_ | refine Sp.mk ?_ ?_) <;> intro hc <;> conv => whnf) | (apply Cl.go;(conv=>whnf); (first | refine Ob.call (hFr) ?_);(conv=>whnf)) | (refine Ob.b ?_;conv=>whnf)
      all_goals first | exact ⟨rfl, ⟨(i + 1, o ++ [i]), ⟨by simp only; omega, by simp only; omega⟩, hst.symm⟩, Lf, by simp only; omega⟩ | (exfalso; omega)
     | true =>
      rw [if_neg (by simp), List.append_nil] at hst
      conv => whnf
      repeat' first | ((first | refine Ob.a ?_ | refine Sp.tt ?_ | refine Sp.ff ?_ | refine Sp.yes ?_ | refine Sp.no ?_ | refine Sp.nyes ?_ | refine Sp.nno ?_ | refine Fi.a ?_);conv=>whnf) | ((first | refine Sp.ne ?_ ?_ | refine Sp.dec ?_ ?_ | refine Sp.ndec ?_ ?_ | refine Sp.mk ?_ ?_) <;> intro hc <;> conv => whnf) | (apply Cl.go;(conv=>whnf); (first | refine Ob.call (hFr) ?_);(conv=>whnf)) | (refine Ob.b ?_;conv=>whnf)
      all_goals first | exact ⟨rfl, ⟨(i + 1, o), ⟨by simp only; omega, by simp only; omega⟩, hst.symm⟩, Lf, by simp only; omega⟩ | (exfalso; omega)
   ·have e : o = c := by rw [ho, ← hc0, show i.toNat = F.length by omega]; rfl
    conv => whnf
    repeat' first | ((first | refine Ob.a ?_ | refine Sp.tt ?_ | refine Sp.ff ?_ | refine Sp.yes ?_ | refine Sp.no ?_ | refine Sp.nyes ?_ | refine Sp.nno ?_ | refine Fi.a ?_);conv=>whnf) | ((first | refine Sp.ne ?_ ?_ | refine Sp.dec ?_ ?_ | refine Sp.ndec ?_ ?_ | refine Sp.mk ?_ ?_) <;> intro hc <;> conv => whnf) | (refine Ob.b ?_;conv=>whnf)
    exact Lf
  ·exact Lf
 ·rw [if_neg h0]
  clear hk
  generalize nodeE F [x] = k at *
  refine Fn.of_ex (cuts := []) tys hM Try.func25 rfl Try.call25 rfl ?_
  show exC Try.prog T [] _ false none 0 (entry 45 [mixD F, int x]) (finQ T [ResultVar.tmp 4, ResultVar.tmp 5] _)
  conv => whnf
  repeat' first | ((first | refine Ob.a ?_ | refine Sp.tt ?_ | refine Sp.ff ?_ | refine Sp.yes ?_ | refine Sp.no ?_ | refine Sp.nyes ?_ | refine Sp.nno ?_ | refine Fi.a ?_);conv=>whnf) | ((first | refine Sp.ne ?_ ?_ | refine Sp.dec ?_ ?_ | refine Sp.ndec ?_ ?_ | refine Sp.mk ?_ ?_) <;> intro hc <;> conv => whnf) | (apply Cl.go;(conv=>whnf); (first | refine Ob.call (hE) ?_);(conv=>whnf)) | (refine Ob.b ?_;conv=>whnf)
  all_goals first | exact Lf | (exfalso; omega)
end Go.Px.Try

/-! Lib -/
namespace Go.Px.Try
open Go Go.Proofs Go.Px
set_option maxRecDepth 100000
def ixf {α : Type} (p : α → Bool) (l : List α) : Int := match l.findIdx? p with
 | some i => i
 | none => -1
theorem ixf_found {α : Type} {p : α → Bool} {l : List α} {d : α} {i : Nat} (hi : i < l.length) (h : p (l.getD i d) = true) (hn : ∀ j, j < i → p (l.getD j d) = false) : ixf p l = i := by
 have : l.findIdx? p = some i := by
  rw [List.findIdx?_eq_some_iff_getElem]
  refine ⟨hi, ?_, fun j hj => ?_⟩
  ·rw [List.getD_eq_getElem?_getD, List.getElem?_eq_getElem hi] at h; exact h
  ·have := hn j hj
   rw [List.getD_eq_getElem?_getD, List.getElem?_eq_getElem (by omega)] at this
   simpa using this
 unfold ixf
 rw [this]
theorem ixf_none {α : Type} {p : α → Bool} {l : List α} {d : α} (hn : ∀ j, j < l.length → p (l.getD j d) = false) : ixf p l = -1 := by
 have : l.findIdx? p = none := by
  rw [List.findIdx?_eq_none_iff]
  intro x hx
  obtain ⟨j, hj, rfl⟩ := List.getElem_of_mem hx
  have := hn j hj
  rw [List.getD_eq_getElem?_getD, List.getElem?_eq_getElem hj] at this
  exact this
 unfold ixf
 rw [this]
theorem ixf_any {α : Type} (p : α → Bool) (l : List α) : decide (0 ≤ ixf p l) = l.any p := by
 unfold ixf
 cases h : l.findIdx? p with
 | some i =>
  have := (List.findIdx?_eq_some_iff_getElem.1 h)
  obtain ⟨hi, hp, _⟩ := this
  rw [List.any_eq_true.2 ⟨l[i], List.getElem_mem hi, hp⟩]
  exact decide_eq_true (by simp)
 | none =>
  have := List.findIdx?_eq_none_iff.1 h
  rw [List.any_eq_false.2 fun x hx => by simp [this x hx]]
  decide
set_option maxHeartbeats 8000000 in
theorem index_ints1 (l : List Int) (g : Nat) (c : Nat → DV) (p : Int → Bool) (hl : l.length < 1000000) (hp : ∀ x ∈ l, Fn Try.prog g [int x, c 0] (bool (p x))) : Fn Try.prog 84 [slOf 1 int 0 l, .fn g 0 1 (fun _ => .top) c] (int (ixf p l)) := by
 refine Fn.hide (D := fun r : Int => int r) fun r hr => ?_
 refine Fn.of_ex (cuts := []) tys hM Try.func84 rfl Try.call84 rfl ?_
 show exC Try.prog T [] _ false none 0 (entry 19 [slOf 1 int 0 l, .fn g 0 1 (fun _ => .top) c]) (finQ T [ResultVar.tmp 4] _)
 conv => whnf
 repeat' first | ((first | refine Ob.a ?_ | refine Sp.tt ?_ | refine Sp.ff ?_ | refine Sp.yes ?_ | refine Sp.no ?_ | refine Sp.nyes ?_ | refine Sp.nno ?_ | refine Fi.a ?_);conv=>whnf) | ((first | refine Sp.ne ?_ ?_ | refine Sp.dec ?_ ?_ | refine Sp.ndec ?_ ?_ | refine Sp.mk ?_ ?_) <;> intro hc <;> conv => whnf) | (refine Ob.b ?_;conv=>whnf)
 refine Lp.snap [0, 1, 7] 40 ?_
 (conv=>whnf)
 refine LpB.go 19 ({i : Int // 0 ≤ i ∧ i ≤ l.length ∧ ∀ j : Int, 0 ≤ j → j < i → p (l.getD j.toNat 0) = false}) 0 (fun ⟨i, _⟩ nx => ([(8, .d (int i))], [])) (fun p => (l.length - p.1).toNat) (⟨0, by omega, by omega, fun j _ _ => by omega⟩) ?_ ?_
 ·rintro ⟨i, hi0, hi, hinv⟩
  have hpi : i < l.length → Fn Try.prog g [int (l.getD i.toNat 0), c 0] (bool (p (l.getD i.toNat 0))) := fun h => hp _ (getD_mem (by omega) _)
  have hfound : i < l.length → p (l.getD i.toNat 0) = true → r = i := fun h hx => by
   rw [← hr.h]
   refine ixf_found (d := 0) (i := i.toNat) (by omega) hx (fun j hj => ?_) |>.trans (by omega)
   have := hinv j (by omega) (by omega)
   rwa [Int.toNat_natCast] at this
  have hnone : ¬ i < l.length → r = -1 := fun h => by
   rw [← hr.h]
   refine ixf_none (d := 0) fun j hj => ?_
   have := hinv j (by omega) (by omega)
   rwa [Int.toNat_natCast] at this
  conv => whnf
  repeat' first | ((first | refine Ob.a ?_ | refine Sp.tt ?_ | refine Sp.ff ?_ | refine Sp.yes ?_ | refine Sp.no ?_ | refine Sp.nyes ?_ | refine Sp.nno ?_ | refine Fi.a ?_);conv=>whnf) | ((first | refine Sp.ne ?_ ?_ | refine Sp.dec ?_ ?_ | refine Sp.ndec ?_ ?_ | refine Sp.mk ?_ ?_) <;> intro hc <;> conv => whnf) | (apply Cl.go;(conv=>whnf); (first | refine Ob.call (hpi (by omega)) ?_);(conv=>whnf)) | (refine Ob.b ?_;conv=>whnf)
  ·have e := hfound (by omega) hc
   exact Lf
  ·exact ⟨rfl, ⟨i + 1, by omega, by omega, fun j h1 h2 => if e : j = i then e ▸ hc else hinv j h1 (by omega)⟩, Lf, by simp only; omega⟩
  ·have e := hnone (by omega)
   exact Lf
 ·exact Lf
set_option maxHeartbeats 8000000 in
theorem contains_ints1 (l : List Int) (g : Nat) (c : Nat → DV) (p : Int → Bool) (hl : l.length < 1000000) (hp : ∀ x ∈ l, Fn Try.prog g [int x, c 0] (bool (p x))) : Fn Try.prog 66 [slOf 1 int 0 l, .fn g 0 1 (fun _ => .top) c] (bool (l.any p)) := by
 have ha := ixf_any p l
 have hx := index_ints1 l g c p hl hp
 generalize ixf p l = x at *
 rw [← ha]
 refine Fn.of_ex (cuts := []) tys hM Try.func66 rfl Try.call66 rfl ?_
 show exC Try.prog T [] _ false none 0 (entry 9 [slOf 1 int 0 l, .fn g 0 1 (fun _ => .top) c]) (finQ T [ResultVar.tmp 4] _)
 conv => whnf
 repeat' first | ((first | refine Ob.a ?_ | refine Sp.tt ?_ | refine Sp.ff ?_ | refine Sp.yes ?_ | refine Sp.no ?_ | refine Sp.nyes ?_ | refine Sp.nno ?_ | refine Fi.a ?_);conv=>whnf) | ((first | refine Sp.ne ?_ ?_ | refine Sp.dec ?_ ?_ | refine Sp.ndec ?_ ?_ | refine Sp.mk ?_ ?_) <;> intro hc <;> conv => whnf) | (apply Cl.go;(conv=>whnf); (first | refine Ob.call (hx) ?_);(conv=>whnf)) | (refine Ob.b ?_;conv=>whnf)
 all_goals exact Lf
set_option maxHeartbeats 8000000 in
theorem index_ints2 (l : List Int) (g : Nat) (c : Nat → DV) (p : Int → Bool) (hl : l.length < 1000000) (hp : ∀ x ∈ l, Fn Try.prog g [int x, c 0, c 1] (bool (p x))) : Fn Try.prog 84 [slOf 1 int 0 l, .fn g 0 2 (fun _ => .top) c] (int (ixf p l)) := by
 refine Fn.hide (D := fun r : Int => int r) fun r hr => ?_
 refine Fn.of_ex (cuts := []) tys hM Try.func84 rfl Try.call84 rfl ?_
 show exC Try.prog T [] _ false none 0 (entry 19 [slOf 1 int 0 l, .fn g 0 2 (fun _ => .top) c]) (finQ T [ResultVar.tmp 4] _)
 conv => whnf
 repeat' first | ((first | refine Ob.a ?_ | refine Sp.tt ?_ | refine Sp.ff ?_ | refine Sp.yes ?_ | refine Sp.no ?_ | refine Sp.nyes ?_ | refine Sp.nno ?_ | refine Fi.a ?_);conv=>whnf) | ((first | refine Sp.ne ?_ ?_ | refine Sp.dec ?_ ?_ | refine Sp.ndec ?_ ?_ | refine Sp.mk ?_ ?_) <;> intro hc <;> conv => whnf) | (refine Ob.b ?_;conv=>whnf)
 refine Lp.snap [0, 1, 7] 40 ?_
 (conv=>whnf)
 refine LpB.go 19 ({i : Int // 0 ≤ i ∧ i ≤ l.length ∧ ∀ j : Int, 0 ≤ j → j < i → p (l.getD j.toNat 0) = false}) 0 (fun ⟨i, _⟩ nx => ([(8, .d (int i))], [])) (fun p => (l.length - p.1).toNat) (⟨0, by omega, by omega, fun j _ _ => by omega⟩) ?_ ?_
 ·rintro ⟨i, hi0, hi, hinv⟩
  have hpi : i < l.length → Fn Try.prog g [int (l.getD i.toNat 0), c 0, c 1] (bool (p (l.getD i.toNat 0))) := fun h => hp _ (getD_mem (by omega) _)
  have hfound : i < l.length → p (l.getD i.toNat 0) = true → r = i := fun h hx => by
   rw [← hr.h]
   refine ixf_found (d := 0) (i := i.toNat) (by omega) hx (fun j hj => ?_) |>.trans (by omega)
   have := hinv j (by omega) (by omega)
   rwa [Int.toNat_natCast] at this
  have hnone : ¬ i < l.length → r = -1 := fun h => by
   rw [← hr.h]
   refine ixf_none (d := 0) fun j hj => ?_
   have := hinv j (by omega) (by omega)
   rwa [Int.toNat_natCast] at this
  conv => whnf
  repeat' first | ((first | refine Ob.a ?_ | refine Sp.tt ?_ | refine Sp.ff ?_ | refine Sp.yes ?_ | refine Sp.no ?_ | refine Sp.nyes ?_ | refine Sp.nno ?_ | refine Fi.a ?_);conv=>whnf) | ((first | refine Sp.ne ?_ ?_ | refine Sp.dec ?_ ?_ | refine Sp.ndec ?_ ?_ | refine Sp.mk ?_ ?_) <;> intro hc <;> conv => whnf) | (apply Cl.go;(conv=>whnf); (first | refine Ob.call (hpi (by omega)) ?_);(conv=>whnf)) | (refine Ob.b ?_;conv=>whnf)
  ·have e := hfound (by omega) hc
   exact Lf
  ·exact ⟨rfl, ⟨i + 1, by omega, by omega, fun j h1 h2 => if e : j = i then e ▸ hc else hinv j h1 (by omega)⟩, Lf, by simp only; omega⟩
  ·have e := hnone (by omega)
   exact Lf
 ·exact Lf
set_option maxHeartbeats 8000000 in
theorem contains_ints2 (l : List Int) (g : Nat) (c : Nat → DV) (p : Int → Bool) (hl : l.length < 1000000) (hp : ∀ x ∈ l, Fn Try.prog g [int x, c 0, c 1] (bool (p x))) : Fn Try.prog 66 [slOf 1 int 0 l, .fn g 0 2 (fun _ => .top) c] (bool (l.any p)) := by
 have ha := ixf_any p l
 have hx := index_ints2 l g c p hl hp
 generalize ixf p l = x at *
 rw [← ha]
 refine Fn.of_ex (cuts := []) tys hM Try.func66 rfl Try.call66 rfl ?_
 show exC Try.prog T [] _ false none 0 (entry 9 [slOf 1 int 0 l, .fn g 0 2 (fun _ => .top) c]) (finQ T [ResultVar.tmp 4] _)
 conv => whnf
 repeat' first | ((first | refine Ob.a ?_ | refine Sp.tt ?_ | refine Sp.ff ?_ | refine Sp.yes ?_ | refine Sp.no ?_ | refine Sp.nyes ?_ | refine Sp.nno ?_ | refine Fi.a ?_);conv=>whnf) | ((first | refine Sp.ne ?_ ?_ | refine Sp.dec ?_ ?_ | refine Sp.ndec ?_ ?_ | refine Sp.mk ?_ ?_) <;> intro hc <;> conv => whnf) | (apply Cl.go;(conv=>whnf); (first | refine Ob.call (hx) ?_);(conv=>whnf)) | (refine Ob.b ?_;conv=>whnf)
 all_goals exact Lf
set_option maxHeartbeats 8000000 in
theorem index_ways1 (l : List (List Int)) (g : Nat) (c : Nat → DV) (p : (List Int) → Bool) (hl : l.length < 1000000) (hp : ∀ x ∈ l, Fn Try.prog g [ints x, c 0] (bool (p x))) : Fn Try.prog 97 [slOf 1 ints [] l, .fn g 0 1 (fun _ => .top) c] (int (ixf p l)) := by
 refine Fn.hide (D := fun r : Int => int r) fun r hr => ?_
 refine Fn.of_ex (cuts := []) tys hM Try.func97 rfl Try.call97 rfl ?_
 show exC Try.prog T [] _ false none 0 (entry 19 [slOf 1 ints [] l, .fn g 0 1 (fun _ => .top) c]) (finQ T [ResultVar.tmp 4] _)
 conv => whnf
 repeat' first | ((first | refine Ob.a ?_ | refine Sp.tt ?_ | refine Sp.ff ?_ | refine Sp.yes ?_ | refine Sp.no ?_ | refine Sp.nyes ?_ | refine Sp.nno ?_ | refine Fi.a ?_);conv=>whnf) | ((first | refine Sp.ne ?_ ?_ | refine Sp.dec ?_ ?_ | refine Sp.ndec ?_ ?_ | refine Sp.mk ?_ ?_) <;> intro hc <;> conv => whnf) | (refine Ob.b ?_;conv=>whnf)
 refine Lp.snap [0, 1, 7] 40 ?_
 (conv=>whnf)
 refine LpB.go 19 ({i : Int // 0 ≤ i ∧ i ≤ l.length ∧ ∀ j : Int, 0 ≤ j → j < i → p (l.getD j.toNat []) = false}) 0 (fun ⟨i, _⟩ nx => ([(8, .d (int i))], [])) (fun p => (l.length - p.1).toNat) (⟨0, by omega, by omega, fun j _ _ => by omega⟩) ?_ ?_
 ·rintro ⟨i, hi0, hi, hinv⟩
  have hpi : i < l.length → Fn Try.prog g [ints (l.getD i.toNat []), c 0] (bool (p (l.getD i.toNat []))) := fun h => hp _ (getD_mem (by omega) _)
  have hfound : i < l.length → p (l.getD i.toNat []) = true → r = i := fun h hx => by
   rw [← hr.h]
   refine ixf_found (d := []) (i := i.toNat) (by omega) hx (fun j hj => ?_) |>.trans (by omega)
   have := hinv j (by omega) (by omega)
   rwa [Int.toNat_natCast] at this
  have hnone : ¬ i < l.length → r = -1 := fun h => by
   rw [← hr.h]
   refine ixf_none (d := []) fun j hj => ?_
   have := hinv j (by omega) (by omega)
   rwa [Int.toNat_natCast] at this
  conv => whnf
  repeat' first | ((first | refine Ob.a ?_ | refine Sp.tt ?_ | refine Sp.ff ?_ | refine Sp.yes ?_ | refine Sp.no ?_ | refine Sp.nyes ?_ | refine Sp.nno ?_ | refine Fi.a ?_);conv=>whnf) | ((first | refine Sp.ne ?_ ?_ | refine Sp.dec ?_ ?_ | refine Sp.ndec ?_ ?_ | refine Sp.mk ?_ ?_) <;> intro hc <;> conv => whnf) | (apply Cl.go;(conv=>whnf); (first | refine Ob.call (hpi (by omega)) ?_);(conv=>whnf)) | (refine Ob.b ?_;conv=>whnf)
  ·have e := hfound (by omega) hc
   exact Lf
  ·exact ⟨rfl, ⟨i + 1, by omega, by omega, fun j h1 h2 => if e : j = i then e ▸ hc else hinv j h1 (by omega)⟩, Lf, by simp only; omega⟩
  ·have e := hnone (by omega)
   exact Lf
 ·exact Lf
set_option maxHeartbeats 8000000 in
theorem contains_ways1 (l : List (List Int)) (g : Nat) (c : Nat → DV) (p : (List Int) → Bool) (hl : l.length < 1000000) (hp : ∀ x ∈ l, Fn Try.prog g [ints x, c 0] (bool (p x))) : Fn Try.prog 75 [slOf 1 ints [] l, .fn g 0 1 (fun _ => .top) c] (bool (l.any p)) := by
 have ha := ixf_any p l
 have hx := index_ways1 l g c p hl hp
 generalize ixf p l = x at *
 rw [← ha]
 refine Fn.of_ex (cuts := []) tys hM Try.func75 rfl Try.call75 rfl ?_
 show exC Try.prog T [] _ false none 0 (entry 9 [slOf 1 ints [] l, .fn g 0 1 (fun _ => .top) c]) (finQ T [ResultVar.tmp 4] _)
 conv => whnf
 repeat' first | ((first | refine Ob.a ?_ | refine Sp.tt ?_ | refine Sp.ff ?_ | refine Sp.yes ?_ | refine Sp.no ?_ | refine Sp.nyes ?_ | refine Sp.nno ?_ | refine Fi.a ?_);conv=>whnf) | ((first | refine Sp.ne ?_ ?_ | refine Sp.dec ?_ ?_ | refine Sp.ndec ?_ ?_ | refine Sp.mk ?_ ?_) <;> intro hc <;> conv => whnf) | (apply Cl.go;(conv=>whnf); (first | refine Ob.call (hx) ?_);(conv=>whnf)) | (refine Ob.b ?_;conv=>whnf)
 all_goals exact Lf
end Go.Px.Try

/-! Tf6 -/
namespace Go.Px.Try
open Go Go.Proofs Go.Px
set_option maxRecDepth 100000
theorem bitOr (b k : Nat) (hb : b < 2 ^ 20) (hk : k < 20) : bor .i64 (b : Int) (1 * 2 ^ k) = ((b ||| 2 ^ k : Nat) : Int) := by
 have hk2 : 2 ^ k < 2 ^ 20 := Nat.pow_lt_pow_right (by omega) hk
 have hor : b ||| 2 ^ k < 2 ^ 20 := Nat.or_lt_two_pow hb hk2
 have e0 : ((1 : Int) * 2 ^ k) = ((2 ^ k : Nat) : Int) := by simp
 rw [e0]
 unfold bor
 have h : (BitVec.ofInt IntKind.i64.bits (b : Int) ||| BitVec.ofInt IntKind.i64.bits ((2 ^ k : Nat) : Int)).toNat = b ||| 2 ^ k := by
  have e1 : BitVec.ofInt IntKind.i64.bits (b : Int) = BitVec.ofNat 64 b := BitVec.ofInt_natCast 64 b
  have e2 : BitVec.ofInt IntKind.i64.bits ((2 ^ k : Nat) : Int) = BitVec.ofNat 64 (2 ^ k) := BitVec.ofInt_natCast 64 _
  rw [e1, e2]
  show (BitVec.ofNat 64 b ||| BitVec.ofNat 64 (2 ^ k)).toNat = _
  rw [BitVec.toNat_or, BitVec.toNat_ofNat, BitVec.toNat_ofNat, Nat.mod_eq_of_lt (by omega), Nat.mod_eq_of_lt (by omega)]
 rw [h, wrap_in]
 simp only [inR]
 omega
set_option maxHeartbeats 4000000 in
theorem Bits_spec (l : List Int) (hl : l.length < 1000000) (h : ∀ x ∈ l, 0 ≤ x ∧ x < 20) : Fn Try.prog 49 [ints l] (int (bitsOf l)) := by
 have hlt := bitsT_lt (n := 20) h
 have hp2 : ∀ k : Nat, k < 20 → (1 : Int) ≤ 2 ^ k ∧ (2 : Int) ^ k ≤ 1048576 := by decide
 generalize hr : bitsOf l = r
 refine Fn.of_ex (cuts := []) tys hM Try.func49 rfl Try.call49 rfl ?_
 show exC Try.prog T [] _ false none 0 (entry 19 [ints l]) (finQ T [ResultVar.tmp 2] _)
 conv => whnf
 repeat' first | ((first | refine Ob.a ?_ | refine Sp.tt ?_ | refine Sp.ff ?_ | refine Sp.yes ?_ | refine Sp.no ?_ | refine Sp.nyes ?_ | refine Sp.nno ?_ | refine Fi.a ?_);conv=>whnf) | ((first | refine Sp.ne ?_ ?_ | refine Sp.dec ?_ ?_ | refine Sp.ndec ?_ ?_ | refine Sp.mk ?_ ?_) <;> intro hc <;> conv => whnf) | (refine Ob.b ?_;conv=>whnf)
 refine Lp.snap [0, 2, 18] 40 ?_
 (conv=>whnf)
 refine LpB.go 19 ({i : Int // 0 ≤ i ∧ i ≤ l.length}) 0 (fun ⟨i, _⟩ nx => ([(4, .d (int i)), (3, .d (int (bitsT l i.toNat)))], [])) (fun p => (l.length - p.1).toNat) (⟨0, by omega, by omega⟩) ?_ ?_
 ·rintro ⟨i, i0, i1⟩
  by_cases hi : i < l.length
  ·have hx := h _ (getD_mem (i := i.toNat) (by omega) 0)
   have hb := bitOr (bitsT l i.toNat) (l.getD i.toNat 0).toNat (hlt _) (by omega)
   have hp := hp2 (l.getD i.toNat 0).toNat (by omega)
   have hs : ((bitsT l i.toNat ||| 2 ^ (l.getD i.toNat 0).toNat : Nat) : Int) = bitsT l (i + 1).toNat := by rw [show (i + 1).toNat = i.toNat + 1 by omega, bitsT_succ (by omega)]
   rw [hs] at hb
   conv => whnf
   repeat' first | ((first | refine Ob.a ?_ | refine Sp.tt ?_ | refine Sp.ff ?_ | refine Sp.yes ?_ | refine Sp.no ?_ | refine Sp.nyes ?_ | refine Sp.nno ?_ | refine Fi.a ?_);conv=>whnf) | ((first | refine Sp.ne ?_ ?_ | refine Sp.dec ?_ ?_ | refine Sp.ndec ?_ ?_ | refine Sp.mk ?_ ?_) <;> intro hc <;> conv => whnf) | (refine Ob.b ?_;conv=>whnf)
   all_goals first | exact ⟨rfl, ⟨i + 1, by omega, by omega⟩, Lf, by simp only; omega⟩
  ·have e : bitsT l i.toNat = r := by rw [← hr, show i.toNat = l.length by omega]; rfl
   conv => whnf
   repeat' first | ((first | refine Ob.a ?_ | refine Sp.tt ?_ | refine Sp.ff ?_ | refine Sp.yes ?_ | refine Sp.no ?_ | refine Sp.nyes ?_ | refine Sp.nno ?_ | refine Fi.a ?_);conv=>whnf) | ((first | refine Sp.ne ?_ ?_ | refine Sp.dec ?_ ?_ | refine Sp.ndec ?_ ?_ | refine Sp.mk ?_ ?_) <;> intro hc <;> conv => whnf) | (refine Ob.b ?_;conv=>whnf)
   exact Lf
 ·exact Lf
/-- The numbers of a list. -/
def inZ (l : List Int) : Nat → Bool := fun i => decide ((i : Int) ∈ l)
theorem inZ_bits {l : List Int} (h : ∀ x ∈ l, 0 ≤ x) : bset (bitsOf l) = inZ l := funext fun i => bset_bits h i
/-- The error of a mix, of bad sacks, and of a lot. -/
def badE (F : List (List Int)) (bad : List Int) (lot : Int) : Int :=
 if nodeE F [lot] ≠ 0 then nodeE F [lot] else if rsL bad F.length ∧ frm F lot.toNat ≠ [] ∧ ∀ x ∈ bad, frm F x.toNat = [] then 0 else 2
structure BadOk (F : List (List Int)) (bad : List Int) (lot : Int) : Prop where
 mix : MixOk F
 l0 : 0 ≤ lot
 l1 : lot < F.length
 ris : rsL bad F.length
 ne : frm F lot.toNat ≠ []
 sk : ∀ x ∈ bad, frm F x.toNat = []
theorem badE_ok {F : List (List Int)} {bad : List Int} {lot : Int} : badE F bad lot = 0 ↔ BadOk F bad lot := by
 unfold badE
 by_cases h : nodeE F [lot] = 0
 ·rw [if_neg (by simp [h])]
  obtain ⟨h1, h2⟩ := nodeE_ok.1 h
  have h2 := h2 lot (by simp)
  by_cases h3 : rsL bad F.length ∧ frm F lot.toNat ≠ [] ∧ ∀ x ∈ bad, frm F x.toNat = []
  ·rw [if_pos h3]; exact ⟨fun _ => ⟨h1, h2.1, h2.2, h3.1, h3.2.1, h3.2.2⟩, fun _ => rfl⟩
  ·rw [if_neg h3]; exact ⟨fun h => (by cases h), fun h => absurd ⟨h.ris, h.ne, h.sk⟩ h3⟩
 ·rw [if_pos h]
  exact ⟨fun h2 => absurd h2 h, fun h2 => absurd (nodeE_ok.2 ⟨h2.mix, fun x hx => by rw [List.mem_singleton.1 hx]; exact ⟨h2.l0, h2.l1⟩⟩) h⟩
set_option maxHeartbeats 8000000 in
theorem BadError_spec (F : List (List Int)) (hs : SmallM F) (bad : List Int) (hb : bad.length < 1000000) (lot : Int) : Fn Try.prog 72 [mixD F, ints bad, int lot] (int (badE F bad lot)) := by
 have hE := nodeError_spec F hs [lot] (by simp)
 have hR := Rising_spec bad F.length hb
 refine Fn.hide (D := fun r : Int => int r) fun c hr => ?_
 have hc := hr.h
 clear hr
 by_cases h0 : nodeE F [lot] = 0
 ·obtain ⟨hm, hx⟩ := nodeE_ok.1 h0
  have hx := hx lot (by simp)
  have hl10 := hm.l10
  have hk : c = if rsL bad F.length ∧ frm F lot.toNat ≠ [] ∧ ∀ x ∈ bad, frm F x.toNat = [] then 0 else 2 := by rw [← hc]; exact if_neg (by simp [h0])
  have hfl := frm_len hm (i := lot.toNat) (by omega)
  change (F.getD lot.toNat []).length ≤ lot.toNat at hfl
  clear hc
  rw [h0] at hE
  by_cases h1 : rsL bad F.length
  ·rw [decide_eq_true h1] at hR
   by_cases h2 : F.getD lot.toNat [] = []
   ·have e : c = 2 := by rw [hk, if_neg fun h => h.2.1 h2]
    have hz : ((F.getD lot.toNat []).length : Int) = 0 := by rw [h2]; rfl
    clear hk
    refine Fn.of_ex (cuts := []) tys hM Try.func72 rfl Try.call72 rfl ?_
    show exC Try.prog T [] _ false none 0 (entry 48 [mixD F, ints bad, int lot]) (finQ T [ResultVar.tmp 6] _)
    conv => whnf
    repeat' first | ((first | refine Ob.a ?_ | refine Sp.tt ?_ | refine Sp.ff ?_ | refine Sp.yes ?_ | refine Sp.no ?_ | refine Sp.nyes ?_ | refine Sp.nno ?_ | refine Fi.a ?_);conv=>whnf) | ((first | refine Sp.ne ?_ ?_ | refine Sp.dec ?_ ?_ | refine Sp.ndec ?_ ?_ | refine Sp.mk ?_ ?_) <;> intro hc <;> conv => whnf) | (apply Cl.go;(conv=>whnf); (first | refine Ob.call (hE) ?_ | refine Ob.call (hR) ?_);(conv=>whnf)) | (refine Ob.b ?_;conv=>whnf)
    all_goals first | exact Lf | (exfalso; omega) | (rename_i hq; exact absurd rfl hq)
   ·have hz : ¬ ((F.getD lot.toNat []).length : Int) = 0 := fun h => h2 (List.length_eq_zero_iff.1 (by omega))
    have c1 : (∀ j : Int, 0 ≤ j → j < bad.length → (F.getD (bad.getD j.toNat 0).toNat []).length = 0) → c = 0 := fun h => by
     rw [hk, if_pos]
     refine ⟨h1, h2, fun x hx => ?_⟩
     obtain ⟨j, hj, rfl⟩ := mem_getD (d := 0) hx
     have := h j (by omega) (by omega)
     rw [Int.toNat_natCast] at this
     exact List.length_eq_zero_iff.1 this
    have c2 : ∀ j : Int, 0 ≤ j → j < bad.length → 0 < (F.getD (bad.getD j.toNat 0).toNat []).length → c = 2 := fun j a b h => by
     rw [hk, if_neg]
     intro h'
     have h3 : F.getD (bad.getD j.toNat 0).toNat [] = [] := h'.2.2 _ (getD_mem (i := j.toNat) (by omega) 0)
     rw [h3] at h; simp at h
    have hbl : ∀ j : Int, 0 ≤ j → j < bad.length → 0 ≤ bad.getD j.toNat 0 ∧ bad.getD j.toNat 0 < F.length := fun j a b => h1.1 _ (getD_mem (by omega) 0)
    have hfb : ∀ j : Int, 0 ≤ j → j < bad.length → (F.getD (bad.getD j.toNat 0).toNat []).length ≤ 10 := fun j a b => by
     have h3 := hbl j a b
     have h4 := frm_len hm (i := (bad.getD j.toNat 0).toNat) (by omega)
     change (F.getD (bad.getD j.toNat 0).toNat []).length ≤ (bad.getD j.toNat 0).toNat at h4
     omega
    clear hk
    refine Fn.of_ex (cuts := []) tys hM Try.func72 rfl Try.call72 rfl ?_
    show exC Try.prog T [] _ false none 0 (entry 48 [mixD F, ints bad, int lot]) (finQ T [ResultVar.tmp 6] _)
    conv => whnf
    repeat' first | ((first | refine Ob.a ?_ | refine Sp.tt ?_ | refine Sp.ff ?_ | refine Sp.yes ?_ | refine Sp.no ?_ | refine Sp.nyes ?_ | refine Sp.nno ?_ | refine Fi.a ?_);conv=>whnf) | ((first | refine Sp.ne ?_ ?_ | refine Sp.dec ?_ ?_ | refine Sp.ndec ?_ ?_ | refine Sp.mk ?_ ?_) <;> intro hc <;> conv => whnf) | (apply Cl.go;(conv=>whnf); (first | refine Ob.call (hE) ?_ | refine Ob.call (hR) ?_);(conv=>whnf)) | (refine Ob.b ?_;conv=>whnf)
    all_goals try first | (exfalso; omega) | (rename_i hq; exact absurd rfl hq)
    refine Lp.snap [0, 1, 2, 3] 40 ?_
    (conv=>whnf)
    refine LpB.go 48 ({i : Int // (0 ≤ i ∧ i ≤ bad.length) ∧ ∀ j : Int, 0 ≤ j → j < i → (F.getD (bad.getD j.toNat 0).toNat []).length = 0}) 0 (fun ⟨i, _⟩ nx => ([(7, .d (int i))], [])) (fun p => (bad.length - p.1).toNat) (⟨0, ⟨by omega, by omega⟩, fun j a b => by omega⟩) ?_ ?_
    ·rintro ⟨i, ⟨i0, i1⟩, hinv⟩
     by_cases hi : i < bad.length
     ·have hbl := hbl i i0 hi
      have hfb := hfb i i0 hi
      have c2 := c2 i i0 hi
      by_cases hq : 0 < (F.getD (bad.getD i.toNat 0).toNat []).length
      ·have e := c2 hq
       conv => whnf
       repeat' first | ((first | refine Ob.a ?_ | refine Sp.tt ?_ | refine Sp.ff ?_ | refine Sp.yes ?_ | refine Sp.no ?_ | refine Sp.nyes ?_ | refine Sp.nno ?_ | refine Fi.a ?_);conv=>whnf) | ((first | refine Sp.ne ?_ ?_ | refine Sp.dec ?_ ?_ | refine Sp.ndec ?_ ?_ | refine Sp.mk ?_ ?_) <;> intro hc <;> conv => whnf) | (refine Ob.b ?_;conv=>whnf)
       all_goals first | exact Lf | (exfalso; omega)
      ·conv => whnf
       repeat' first | ((first | refine Ob.a ?_ | refine Sp.tt ?_ | refine Sp.ff ?_ | refine Sp.yes ?_ | refine Sp.no ?_ | refine Sp.nyes ?_ | refine Sp.nno ?_ | refine Fi.a ?_);conv=>whnf) | ((first | refine Sp.ne ?_ ?_ | refine Sp.dec ?_ ?_ | refine Sp.ndec ?_ ?_ | refine Sp.mk ?_ ?_) <;> intro hc <;> conv => whnf) | (refine Ob.b ?_;conv=>whnf)
       all_goals first | exact ⟨rfl, ⟨i + 1, ⟨by omega, by omega⟩, fun j a b => if e : j = i then (by subst e; omega) else hinv j a (by omega)⟩, Lf, by simp only; omega⟩ | (exfalso; omega)
     ·have e := c1 fun j a b => hinv j a (by omega)
      conv => whnf
      repeat' first | ((first | refine Ob.a ?_ | refine Sp.tt ?_ | refine Sp.ff ?_ | refine Sp.yes ?_ | refine Sp.no ?_ | refine Sp.nyes ?_ | refine Sp.nno ?_ | refine Fi.a ?_);conv=>whnf) | ((first | refine Sp.ne ?_ ?_ | refine Sp.dec ?_ ?_ | refine Sp.ndec ?_ ?_ | refine Sp.mk ?_ ?_) <;> intro hc <;> conv => whnf) | (refine Ob.b ?_;conv=>whnf)
      exact Lf
    ·exact Lf
  ·rw [decide_eq_false h1] at hR
   have e : c = 2 := by rw [hk, if_neg fun h => h1 h.1]
   clear hk
   refine Fn.of_ex (cuts := []) tys hM Try.func72 rfl Try.call72 rfl ?_
   show exC Try.prog T [] _ false none 0 (entry 48 [mixD F, ints bad, int lot]) (finQ T [ResultVar.tmp 6] _)
   conv => whnf
   repeat' first | ((first | refine Ob.a ?_ | refine Sp.tt ?_ | refine Sp.ff ?_ | refine Sp.yes ?_ | refine Sp.no ?_ | refine Sp.nyes ?_ | refine Sp.nno ?_ | refine Fi.a ?_);conv=>whnf) | ((first | refine Sp.ne ?_ ?_ | refine Sp.dec ?_ ?_ | refine Sp.ndec ?_ ?_ | refine Sp.mk ?_ ?_) <;> intro hc <;> conv => whnf) | (apply Cl.go;(conv=>whnf); (first | refine Ob.call (hE) ?_ | refine Ob.call (hR) ?_);(conv=>whnf)) | (refine Ob.b ?_;conv=>whnf)
   all_goals first | exact Lf | (exfalso; omega) | (rename_i hq; exact absurd rfl hq)
 ·have e : c = nodeE F [lot] := by rw [← hc]; exact if_pos h0
  clear hc
  generalize nodeE F [lot] = k at *
  refine Fn.of_ex (cuts := []) tys hM Try.func72 rfl Try.call72 rfl ?_
  show exC Try.prog T [] _ false none 0 (entry 48 [mixD F, ints bad, int lot]) (finQ T [ResultVar.tmp 6] _)
  conv => whnf
  repeat' first | ((first | refine Ob.a ?_ | refine Sp.tt ?_ | refine Sp.ff ?_ | refine Sp.yes ?_ | refine Sp.no ?_ | refine Sp.nyes ?_ | refine Sp.nno ?_ | refine Fi.a ?_);conv=>whnf) | ((first | refine Sp.ne ?_ ?_ | refine Sp.dec ?_ ?_ | refine Sp.ndec ?_ ?_ | refine Sp.mk ?_ ?_) <;> intro hc <;> conv => whnf) | (apply Cl.go;(conv=>whnf); (first | refine Ob.call (hE) ?_);(conv=>whnf)) | (refine Ob.b ?_;conv=>whnf)
  all_goals first | exact Lf | (exfalso; omega)
def checkCutR (F : List (List Int)) (bad : List Int) (lot : Int) (cut : List Int) : Int :=
 if badE F bad lot ≠ 0 then badE F bad lot else if ¬ rsL cut F.length ∨ lot ∈ cut then 2 else if fr F (inZ bad) (inZ cut) lot.toNat = true then 26 else 0
set_option maxHeartbeats 8000000 in
theorem CheckCut_spec (F : List (List Int)) (hs : SmallM F) (bad : List Int) (hb : bad.length < 1000000) (lot : Int) (cut : List Int) (hcl : cut.length < 1000000) :
  Fn Try.prog 34 [mixD F, ints bad, int lot, ints cut] (int (checkCutR F bad lot cut)) := by
 have hE := BadError_spec F hs bad hb lot
 have hR := Rising_spec cut F.length hcl
 have hH := Has_spec cut lot hcl
 have hl1 := hs.l
 by_cases h0 : badE F bad lot = 0
 ·have hk := badE_ok.1 h0
  have hm := hk.mix
  have hl10 := hm.l10
  have hl0 := hk.l0
  have hll := hk.l1
  rw [h0] at hE
  have hun : checkCutR F bad lot cut = if ¬ rsL cut F.length ∨ lot ∈ cut then 2 else if fr F (inZ bad) (inZ cut) lot.toNat = true then 26 else 0 := if_neg (by simp [h0])
  rw [hun]
  by_cases h1 : rsL cut F.length
  ·by_cases h2 : lot ∈ cut
   ·rw [if_pos (.inr h2)]
    rw [decide_eq_true h1] at hR
    rw [decide_eq_true h2] at hH
    refine Fn.of_ex (cuts := []) tys hM Try.func34 rfl Try.call34 rfl ?_
    show exC Try.prog T [] _ false none 0 (entry 36 [mixD F, ints bad, int lot, ints cut]) (finQ T [ResultVar.tmp 8] _)
    conv => whnf
    repeat' first | ((first | refine Ob.a ?_ | refine Sp.tt ?_ | refine Sp.ff ?_ | refine Sp.yes ?_ | refine Sp.no ?_ | refine Sp.nyes ?_ | refine Sp.nno ?_ | refine Fi.a ?_);conv=>whnf) | ((first | refine Sp.ne ?_ ?_ | refine Sp.dec ?_ ?_ | refine Sp.ndec ?_ ?_ | refine Sp.mk ?_ ?_) <;> intro hc <;> conv => whnf) | (apply Cl.go;(conv=>whnf); (first | refine Ob.call (hE) ?_ | refine Ob.call (hR) ?_ | refine Ob.call (hH) ?_);(conv=>whnf)) | (refine Ob.b ?_;conv=>whnf)
    all_goals first | exact Lf | (exfalso; omega) | (rename_i hq; exact absurd rfl hq)
   ·rw [if_neg (by simp [h1, h2])]
    have hbb := Bits_spec bad hb fun x hx => by have := hk.ris.1 x hx; omega
    have hbc := Bits_spec cut hcl fun x hx => by have := h1.1 x hx; omega
    have hF := Free_spec F hm (bitsOf bad) (bitsOf cut) (F.length + 1) lot hk.l0 (by omega) hk.l1
    rw [inZ_bits fun x hx => (hk.ris.1 x hx).1, inZ_bits fun x hx => (h1.1 x hx).1] at hF
    rw [decide_eq_true h1] at hR
    rw [decide_eq_false h2] at hH
    generalize fr F (inZ bad) (inZ cut) lot.toNat = b at *
    cases b with
    | true =>
     rw [if_pos rfl]
     refine Fn.of_ex (cuts := []) tys hM Try.func34 rfl Try.call34 rfl ?_
     show exC Try.prog T [] _ false none 0 (entry 36 [mixD F, ints bad, int lot, ints cut]) (finQ T [ResultVar.tmp 8] _)
     conv => whnf
     repeat' first | ((first | refine Ob.a ?_ | refine Sp.tt ?_ | refine Sp.ff ?_ | refine Sp.yes ?_ | refine Sp.no ?_ | refine Sp.nyes ?_ | refine Sp.nno ?_ | refine Fi.a ?_);conv=>whnf) | ((first | refine Sp.ne ?_ ?_ | refine Sp.dec ?_ ?_ | refine Sp.ndec ?_ ?_ | refine Sp.mk ?_ ?_) <;> intro hc <;> conv => whnf) | (apply Cl.go;(conv=>whnf); (first | refine Ob.call (hE) ?_ | refine Ob.call (hR) ?_ | refine Ob.call (hH) ?_ | refine Ob.call (hbb) ?_ | refine Ob.call (hbc) ?_ | refine Ob.call (hF) ?_);(conv=>whnf)) | (refine Ob.b ?_;conv=>whnf)
     all_goals first | exact Lf | (exfalso; omega) | (rename_i hq; exact absurd rfl hq)
    | false =>
     rw [if_neg (by simp)]
     refine Fn.of_ex (cuts := []) tys hM Try.func34 rfl Try.call34 rfl ?_
     show exC Try.prog T [] _ false none 0 (entry 36 [mixD F, ints bad, int lot, ints cut]) (finQ T [ResultVar.tmp 8] _)
     conv => whnf
     repeat' first | ((first | refine Ob.a ?_ | refine Sp.tt ?_ | refine Sp.ff ?_ | refine Sp.yes ?_ | refine Sp.no ?_ | refine Sp.nyes ?_ | refine Sp.nno ?_ | refine Fi.a ?_);conv=>whnf) | ((first | refine Sp.ne ?_ ?_ | refine Sp.dec ?_ ?_ | refine Sp.ndec ?_ ?_ | refine Sp.mk ?_ ?_) <;> intro hc <;> conv => whnf) | (apply Cl.go;(conv=>whnf); (first | refine Ob.call (hE) ?_ | refine Ob.call (hR) ?_ | refine Ob.call (hH) ?_ | refine Ob.call (hbb) ?_ | refine Ob.call (hbc) ?_ | refine Ob.call (hF) ?_);(conv=>whnf)) | (refine Ob.b ?_;conv=>whnf)
     all_goals first | exact Lf | (exfalso; omega) | (rename_i hq; exact absurd rfl hq)
  ·rw [if_pos (.inl h1)]
   rw [decide_eq_false h1] at hR
   refine Fn.of_ex (cuts := []) tys hM Try.func34 rfl Try.call34 rfl ?_
   show exC Try.prog T [] _ false none 0 (entry 36 [mixD F, ints bad, int lot, ints cut]) (finQ T [ResultVar.tmp 8] _)
   conv => whnf
   repeat' first | ((first | refine Ob.a ?_ | refine Sp.tt ?_ | refine Sp.ff ?_ | refine Sp.yes ?_ | refine Sp.no ?_ | refine Sp.nyes ?_ | refine Sp.nno ?_ | refine Fi.a ?_);conv=>whnf) | ((first | refine Sp.ne ?_ ?_ | refine Sp.dec ?_ ?_ | refine Sp.ndec ?_ ?_ | refine Sp.mk ?_ ?_) <;> intro hc <;> conv => whnf) | (apply Cl.go;(conv=>whnf); (first | refine Ob.call (hE) ?_ | refine Ob.call (hR) ?_ | refine Ob.call (hH) ?_);(conv=>whnf)) | (refine Ob.b ?_;conv=>whnf)
   all_goals first | exact Lf | (exfalso; omega) | (rename_i hq; exact absurd rfl hq)
 ·have hun : checkCutR F bad lot cut = badE F bad lot := if_pos h0
  rw [hun]
  generalize badE F bad lot = k at *
  refine Fn.of_ex (cuts := []) tys hM Try.func34 rfl Try.call34 rfl ?_
  show exC Try.prog T [] _ false none 0 (entry 36 [mixD F, ints bad, int lot, ints cut]) (finQ T [ResultVar.tmp 8] _)
  conv => whnf
  repeat' first | ((first | refine Ob.a ?_ | refine Sp.tt ?_ | refine Sp.ff ?_ | refine Sp.yes ?_ | refine Sp.no ?_ | refine Sp.nyes ?_ | refine Sp.nno ?_ | refine Fi.a ?_);conv=>whnf) | ((first | refine Sp.ne ?_ ?_ | refine Sp.dec ?_ ?_ | refine Sp.ndec ?_ ?_ | refine Sp.mk ?_ ?_) <;> intro hc <;> conv => whnf) | (apply Cl.go;(conv=>whnf); (first | refine Ob.call (hE) ?_);(conv=>whnf)) | (refine Ob.b ?_;conv=>whnf)
  all_goals first | exact Lf | (exfalso; omega)
end Go.Px.Try

/-! Tp1 -/
namespace Go.Px.Try
open Go Go.Proofs Go.Px
set_option maxRecDepth 100000
def cellP (x : Int) : DV := .pt (.ag 1 fun _ => int x) 0
def nilP : DV := .v (.pointer none)
def nilS : DV := .v (.slice none 0 0)
theorem index_spec (l : List Int) (v : Int) (hl : l.length < 1000000) : Fn Try.prog 96 [ints l, int v] (int (ixf (fun x => decide (v = x)) l)) := by
 refine Fn.hide (D := fun r : Int => int r) fun r hr => ?_
 have hfound : ∀ i : Int, 0 ≤ i → i < l.length → v = l.getD i.toNat 0 → (∀ j : Int, 0 ≤ j → j < i → v ≠ l.getD j.toNat 0) → r = i := fun i i0 h hx hinv => by
  rw [← hr.h]
  refine (ixf_found (p := fun x => decide (v = x)) (l := l) (d := (0 : Int)) (i := i.toNat) (by omega) (decide_eq_true (p := v = l.getD i.toNat 0) hx) (fun j hj => ?_)).trans (by omega)
  have := hinv j (by omega) (by omega)
  rw [Int.toNat_natCast] at this
  exact decide_eq_false this
 have hnone : (∀ j : Int, 0 ≤ j → j < l.length → v ≠ l.getD j.toNat 0) → r = -1 := fun h => by
  rw [← hr.h]
  refine ixf_none (d := (0 : Int)) fun j hj => ?_
  have := h j (by omega) (by omega)
  rw [Int.toNat_natCast] at this
  exact decide_eq_false this
 clear hr
 refine Fn.of_ex (cuts := []) tys hM Try.func96 rfl Try.call96 rfl ?_
 show exC Try.prog T [] _ false none 0 (entry 19 [ints l, int v]) (finQ T [ResultVar.tmp 4] _)
 conv => whnf
 repeat' first | ((first | refine Ob.a ?_ | refine Sp.tt ?_ | refine Sp.ff ?_ | refine Sp.yes ?_ | refine Sp.no ?_ | refine Sp.nyes ?_ | refine Sp.nno ?_ | refine Fi.a ?_);conv=>whnf) | ((first | refine Sp.ne ?_ ?_ | refine Sp.dec ?_ ?_ | refine Sp.ndec ?_ ?_ | refine Sp.mk ?_ ?_) <;> intro hc <;> conv => whnf) | (refine Ob.b ?_;conv=>whnf)
 refine Lp.snap [0, 1, 7] 40 ?_
 (conv=>whnf)
 refine LpB.go 19 ({i : Int // (0 ≤ i ∧ i ≤ l.length) ∧ ∀ j : Int, 0 ≤ j → j < i → v ≠ l.getD j.toNat 0}) 0 (fun ⟨i, _⟩ nx => ([(8, .d (int i))], [])) (fun p => (l.length - p.1).toNat) (⟨0, ⟨by omega, by omega⟩, fun j _ _ => by omega⟩) ?_ ?_
 ·rintro ⟨i, ⟨i0, i1⟩, hinv⟩
  have hfound := hfound i i0
  have hnone' : ¬ i < l.length → r = -1 := fun h => hnone fun j a b => hinv j a (by omega)
  conv => whnf
  repeat' first | ((first | refine Ob.a ?_ | refine Sp.tt ?_ | refine Sp.ff ?_ | refine Sp.yes ?_ | refine Sp.no ?_ | refine Sp.nyes ?_ | refine Sp.nno ?_ | refine Fi.a ?_);conv=>whnf) | ((first | refine Sp.ne ?_ ?_ | refine Sp.dec ?_ ?_ | refine Sp.ndec ?_ ?_ | refine Sp.mk ?_ ?_) <;> intro hc <;> conv => whnf) | (refine Ob.b ?_;conv=>whnf)
  all_goals first | (have e := hfound (by omega) (by assumption) hinv; exact Lf) | (have e := hnone' (by omega); exact Lf) | exact ⟨rfl, ⟨i + 1, ⟨by omega, by omega⟩, fun j a b => if e : j = i then (by subst e; assumption) else hinv j a (by omega)⟩, Lf, by simp only; omega⟩
 ·exact Lf
theorem contains_spec (l : List Int) (v : Int) (hl : l.length < 1000000) : Fn Try.prog 74 [ints l, int v] (bool (decide (v ∈ l))) := by
 have ha := ixf_any (fun x => decide (v = x)) l
 have hx := index_spec l v hl
 have he : decide (v ∈ l) = l.any fun x => decide (v = x) := by
  rw [Bool.eq_iff_iff, decide_eq_true_eq, List.any_eq_true]
  exact ⟨fun h => ⟨v, h, by simp⟩, fun ⟨x, hx, e⟩ => by rw [of_decide_eq_true e]; exact hx⟩
 generalize ixf (fun x => decide (v = x)) l = x at *
 rw [he, ← ha]
 clear he ha
 refine Fn.of_ex (cuts := []) tys hM Try.func74 rfl Try.call74 rfl ?_
 show exC Try.prog T [] _ false none 0 (entry 9 [ints l, int v]) (finQ T [ResultVar.tmp 4] _)
 conv => whnf
 repeat' first | ((first | refine Ob.a ?_ | refine Sp.tt ?_ | refine Sp.ff ?_ | refine Sp.yes ?_ | refine Sp.no ?_ | refine Sp.nyes ?_ | refine Sp.nno ?_ | refine Fi.a ?_);conv=>whnf) | ((first | refine Sp.ne ?_ ?_ | refine Sp.dec ?_ ?_ | refine Sp.ndec ?_ ?_ | refine Sp.mk ?_ ?_) <;> intro hc <;> conv => whnf) | (apply Cl.go;(conv=>whnf); (first | refine Ob.call (hx) ?_);(conv=>whnf)) | (refine Ob.b ?_;conv=>whnf)
 all_goals exact Lf
theorem within1_spec (x lo hi : Int) : Fn Try.prog 81 [int x, cellP lo, cellP hi] (bool (!decide ((lo ≤ x ∧ x ≤ hi)))) := by
 refine Fn.hide (D := fun r : Bool => bool r) fun r hr => ?_
 have e1 : x < lo → r = true := fun h => by rw [← hr.h]; simp; omega
 have e2 : lo ≤ x → decide (hi < x) = r := fun h => by rw [← hr.h, ← decide_not]; exact decide_eq_decide.2 (by omega)
 refine Fn.of_ex (cuts := []) tys hM Try.func81 rfl Try.call81 rfl ?_
 show exC Try.prog T [] _ false none 0 (entry 13 [int x, cellP lo, cellP hi]) (finQ T [ResultVar.tmp 4] _)
 conv => whnf
 repeat' first | ((first | refine Ob.a ?_ | refine Sp.tt ?_ | refine Sp.ff ?_ | refine Sp.yes ?_ | refine Sp.no ?_ | refine Sp.nyes ?_ | refine Sp.nno ?_ | refine Fi.a ?_);conv=>whnf) | ((first | refine Sp.ne ?_ ?_ | refine Sp.dec ?_ ?_ | refine Sp.ndec ?_ ?_ | refine Sp.mk ?_ ?_) <;> intro hc <;> conv => whnf) | (refine Ob.b ?_;conv=>whnf)
 all_goals first | (have e := e1 (by omega); exact Lf) | (have e := e2 (by omega); exact Lf)
theorem within_spec (lo hi : Int) (l : List Int) (hl : l.length < 1000000) : Fn Try.prog 60 [int lo, int hi, ints l] (bool (decide (∀ x ∈ l, (lo ≤ x ∧ x ≤ hi)))) := by
 have hc := contains_ints2 l 81 (fun j => [cellP lo, cellP hi].getD j .top) (fun x => !decide ((lo ≤ x ∧ x ≤ hi))) hl (fun x _ => within1_spec x lo hi)
 have e : (decide (∀ x ∈ l, (lo ≤ x ∧ x ≤ hi))) = !(l.any fun x => !decide ((lo ≤ x ∧ x ≤ hi))) := by
  rw [Bool.eq_iff_iff]
  simp
 rw [e]
 generalize (l.any fun x => !decide ((lo ≤ x ∧ x ≤ hi))) = b at *
 refine Fn.of_ex (cuts := []) tys hM Try.func60 rfl Try.call60 rfl ?_
 show exC Try.prog T [] _ false none 0 (entry 11 [int lo, int hi, ints l]) (finQ T [ResultVar.tmp 6] _)
 conv => whnf
 repeat' first | ((first | refine Ob.a ?_ | refine Sp.tt ?_ | refine Sp.ff ?_ | refine Sp.yes ?_ | refine Sp.no ?_ | refine Sp.nyes ?_ | refine Sp.nno ?_ | refine Fi.a ?_);conv=>whnf) | ((first | refine Sp.ne ?_ ?_ | refine Sp.dec ?_ ?_ | refine Sp.ndec ?_ ?_ | refine Sp.mk ?_ ?_) <;> intro hc <;> conv => whnf) | (apply Cl.go;(conv=>whnf); (first | refine Ob.call (hc) ?_);(conv=>whnf)) | (refine Ob.b ?_;conv=>whnf)
 all_goals exact Lf
theorem within_is (lo hi : Int) (l : List Int) (q : Prop) [Decidable q] (hl : l.length < 1000000) (e : (∀ x ∈ l, lo ≤ x ∧ x ≤ hi) ↔ q) : Fn Try.prog 60 [int lo, int hi, ints l] (bool (decide q)) := by
 rw [← decide_eq_decide.2 e]; exact within_spec lo hi l hl
theorem within_one (lo hi x : Int) : Fn Try.prog 60 [int lo, int hi, ints [x]] (bool (decide (lo ≤ x ∧ x ≤ hi))) := within_is lo hi [x] _ (by simp) (by simp)
theorem RsTo_step {l : List Int} {b : Int} {i : Int} (i0 : 0 ≤ i) (hi : i < l.length) (h : RsTo l b i.toNat) (h1 : 0 ≤ l.getD i.toNat 0 ∧ l.getD i.toNat 0 < b) (h2 : 0 < i → l.getD (i - 1).toNat 0 < l.getD i.toNat 0) : RsTo l b (i + 1).toNat := fun j hj => by
 by_cases e : j < i.toNat
 ·exact h j e
 ·obtain rfl : j = i.toNat := by omega
  refine ⟨h1, fun h => ?_⟩
  rw [show i.toNat - 1 = (i - 1).toNat by omega]
  exact h2 (by omega)
set_option maxHeartbeats 4000000 in
theorem rising_spec (l : List Int) (b : Int) (hl : l.length < 1000000) (hb : -1000000 ≤ b ∧ b ≤ 1000000) : Fn Try.prog 61 [ints l, int b] (bool (decide (rsL l b))) := by
 have hW := fun lo x => within_one lo (b - 1) x
 refine Fn.hide (D := fun r : Bool => bool r) fun r hr => ?_
 have h0 : ¬ rsL l b → r = false := fun h => by rw [← hr.h]; exact decide_eq_false h
 have h1 : rsL l b → r = true := fun h => by rw [← hr.h]; exact decide_eq_true h
 clear hr
 refine Fn.of_ex (cuts := []) tys hM Try.func61 rfl Try.call61 rfl ?_
 show exC Try.prog T [] _ false none 0 (entry 24 [ints l, int b]) (finQ T [ResultVar.tmp 4] _)
 conv => whnf
 repeat' first | ((first | refine Ob.a ?_ | refine Sp.tt ?_ | refine Sp.ff ?_ | refine Sp.yes ?_ | refine Sp.no ?_ | refine Sp.nyes ?_ | refine Sp.nno ?_ | refine Fi.a ?_);conv=>whnf) | ((first | refine Sp.ne ?_ ?_ | refine Sp.dec ?_ ?_ | refine Sp.ndec ?_ ?_ | refine Sp.mk ?_ ?_) <;> intro hc <;> conv => whnf) | (refine Ob.b ?_;conv=>whnf)
 refine Lp.snap [0, 1, 8, 9] 40 ?_
 (conv=>whnf)
 refine LpB.go 24 ({q : Int × Int // (0 ≤ q.1 ∧ q.1 ≤ l.length) ∧ RsTo l b q.1.toNat ∧ (q.1 = 0 → q.2 = 0) ∧ (0 < q.1 → q.2 = l.getD (q.1 - 1).toNat 0 + 1) ∧ 0 ≤ q.2 ∧ q.2 ≤ 1000000}) 0 (fun ⟨(i, nx'), _⟩ nx => ([(10, .d (int i)), (5, .d (int nx'))], [])) (fun p => (l.length - p.1.1).toNat) (⟨(0, 0), ⟨by simp, by simp⟩, (fun j hj => by simp at hj), (fun _ => rfl), (fun h => absurd h (by simp)), by simp, by simp⟩) ?_ ?_
 ·rintro ⟨⟨i, nx'⟩, ⟨i0, i1⟩, hinv, e0, e1, n0, n1⟩
  simp only at i0 i1 hinv e0 e1 n0 n1
  by_cases hi : i < l.length
  ·have hW := hW nx' (l.getD i.toNat 0)
   have hprev : 0 < i → 0 ≤ l.getD (i - 1).toNat 0 := fun h => (hinv (i - 1).toNat (by omega)).1.1
   by_cases hc : nx' ≤ l.getD i.toNat 0 ∧ l.getD i.toNat 0 ≤ b - 1
   ·rw [decide_eq_true hc] at hW
    have e : RsTo l b (i + 1).toNat := RsTo_step i0 hi hinv (by omega) (fun h => by have := e1 h; omega)
    conv => whnf
    repeat' first | ((first | refine Ob.a ?_ | refine Sp.tt ?_ | refine Sp.ff ?_ | refine Sp.yes ?_ | refine Sp.no ?_ | refine Sp.nyes ?_ | refine Sp.nno ?_ | refine Fi.a ?_);conv=>whnf) | ((first | refine Sp.ne ?_ ?_ | refine Sp.dec ?_ ?_ | refine Sp.ndec ?_ ?_ | refine Sp.mk ?_ ?_) <;> intro hc <;> conv => whnf) | (apply Cl.go;(conv=>whnf); (first | refine Ob.call (hW) ?_);(conv=>whnf)) | (refine Ob.b ?_;conv=>whnf)
    all_goals first | exact ⟨rfl, ⟨(i + 1, l.getD i.toNat 0 + 1), ⟨by simp only; omega, by simp only; omega⟩, e, (fun h => by simp only at h; omega), (fun _ => by simp only; rw [show (i + 1 - 1 : Int) = i by omega]), by simp only; omega, by simp only; omega⟩, Lf, by simp only; omega⟩
   ·rw [decide_eq_false hc] at hW
    have e : r = false := h0 fun hr => by
     have := (rsTo_iff.2 hr) i.toNat (by omega)
     rw [show i.toNat - 1 = (i - 1).toNat by omega] at this
     by_cases h : 0 < i
     ·have h3 := e1 h
      have h4 := this.2 (by omega)
      omega
     ·have h3 := e0 (by omega)
      omega
    conv => whnf
    repeat' first | ((first | refine Ob.a ?_ | refine Sp.tt ?_ | refine Sp.ff ?_ | refine Sp.yes ?_ | refine Sp.no ?_ | refine Sp.nyes ?_ | refine Sp.nno ?_ | refine Fi.a ?_);conv=>whnf) | ((first | refine Sp.ne ?_ ?_ | refine Sp.dec ?_ ?_ | refine Sp.ndec ?_ ?_ | refine Sp.mk ?_ ?_) <;> intro hc <;> conv => whnf) | (apply Cl.go;(conv=>whnf); (first | refine Ob.call (hW) ?_);(conv=>whnf)) | (refine Ob.b ?_;conv=>whnf)
    all_goals first | exact Lf
  ·have e : r = true := h1 (rsTo_iff.1 (by rw [show l.length = i.toNat by omega]; exact hinv))
   conv => whnf
   repeat' first | ((first | refine Ob.a ?_ | refine Sp.tt ?_ | refine Sp.ff ?_ | refine Sp.yes ?_ | refine Sp.no ?_ | refine Sp.nyes ?_ | refine Sp.nno ?_ | refine Fi.a ?_);conv=>whnf) | ((first | refine Sp.ne ?_ ?_ | refine Sp.dec ?_ ?_ | refine Sp.ndec ?_ ?_ | refine Sp.mk ?_ ?_) <;> intro hc <;> conv => whnf) | (refine Ob.b ?_;conv=>whnf)
   all_goals exact Lf
 ·exact Lf
set_option maxHeartbeats 8000000 in
theorem CheckMixP_spec (F : List (List Int)) (hs : SmallM F) : Fn Try.prog 21 [mixD F] (int (checkM F)) := by
 have hl := hs.l
 have hlen : ∀ i : Int, 0 ≤ i → i < F.length → (F.getD i.toNat []).length < 1000000 := fun i a b => hs.i _ (getD_mem (i := i.toNat) (by omega) [])
 have hW0 := within_one 1 10 F.length
 have hW := fun (i : Int) (a : 0 ≤ i) (b : i < F.length) => within_spec 0 (i - 1) (F.getD i.toNat []) (hlen i a b)
 have hR := fun (i : Int) (a : 0 ≤ i) (b : i < F.length) => rising_spec (F.getD i.toNat []) i (hlen i a b) (by omega)
 refine Fn.hide (D := fun r : Int => int r) fun c hr => ?_
 have hc := hr.h
 clear hr
 by_cases hn : 1 ≤ (F.length : Int) ∧ (F.length : Int) ≤ 10
 ·rw [decide_eq_true hn] at hW0
  have hc : c = if elOkM F then (if rsM F then 0 else 16) else 2 := by rw [← hc]; unfold checkM; rw [if_neg (by omega)]
  by_cases he : elOkM F
  ·rw [if_pos he] at hc
   have hW : ∀ i : Int, 0 ≤ i → i < F.length → Fn Try.prog 60 [int 0, int (i - 1), ints (F.getD i.toNat [])] (bool true) := fun i a b => by
    have h := hW i a b
    rw [decide_eq_true fun x hx => by
     have := he i.toNat (by omega) x hx
     omega] at h
    exact h
   have c1 : rsM F → c = 0 := fun h => by rw [hc, if_pos h]
   have c2 : ∀ i : Int, 0 ≤ i → i < F.length → ¬ rsL (F.getD i.toNat []) i → c = 16 := fun i a b h => by
    rw [hc, if_neg]
    intro h'
    have := h' i.toNat (by omega)
    rw [Int.toNat_of_nonneg a] at this
    exact h this
   clear hc he
   refine Fn.of_ex (cuts := []) tys hM Try.func21 rfl Try.call21 rfl ?_
   show exC Try.prog T [] _ false none 0 (entry 40 [mixD F]) (finQ T [ResultVar.tmp 2] _)
   conv => whnf
   repeat' first | ((first | refine Ob.a ?_ | refine Sp.tt ?_ | refine Sp.ff ?_ | refine Sp.yes ?_ | refine Sp.no ?_ | refine Sp.nyes ?_ | refine Sp.nno ?_ | refine Fi.a ?_);conv=>whnf) | ((first | refine Sp.ne ?_ ?_ | refine Sp.dec ?_ ?_ | refine Sp.ndec ?_ ?_ | refine Sp.mk ?_ ?_) <;> intro hc <;> conv => whnf) | (apply Cl.go;(conv=>whnf); (first | refine Ob.call (hW0) ?_);(conv=>whnf)) | (refine Ob.b ?_;conv=>whnf)
   refine Lp.snap [0, 1, 5, 6, 14, 15, 27, 28, 29, 30, 32, 33, 34, 35, 36, 37, 39] 40 ?_
   (conv=>whnf)
   refine LpB.go 40 ({i : Int // 0 ≤ i ∧ i ≤ F.length}) 0 (fun ⟨i, _⟩ nx => ([(16, .d (int i))], [])) (fun p => (F.length - p.1).toNat) (⟨0, by omega, by omega⟩) ?_ ?_
   ·rintro ⟨i, i0, i1⟩
    by_cases hi : i < F.length
    ·have hW := hW i i0 hi
     conv => whnf
     repeat' first | ((first | refine Ob.a ?_ | refine Sp.tt ?_ | refine Sp.ff ?_ | refine Sp.yes ?_ | refine Sp.no ?_ | refine Sp.nyes ?_ | refine Sp.nno ?_ | refine Fi.a ?_);conv=>whnf) | ((first | refine Sp.ne ?_ ?_ | refine Sp.dec ?_ ?_ | refine Sp.ndec ?_ ?_ | refine Sp.mk ?_ ?_) <;> intro hc <;> conv => whnf) | (apply Cl.go;(conv=>whnf); (first | refine Ob.call (hW) ?_);(conv=>whnf)) | (refine Ob.b ?_;conv=>whnf)
     all_goals first | exact ⟨rfl, ⟨i + 1, by omega, by omega⟩, Lf, by simp only; omega⟩
    ·conv => whnf
     repeat' first | ((first | refine Ob.a ?_ | refine Sp.tt ?_ | refine Sp.ff ?_ | refine Sp.yes ?_ | refine Sp.no ?_ | refine Sp.nyes ?_ | refine Sp.nno ?_ | refine Fi.a ?_);conv=>whnf) | ((first | refine Sp.ne ?_ ?_ | refine Sp.dec ?_ ?_ | refine Sp.ndec ?_ ?_ | refine Sp.mk ?_ ?_) <;> intro hc <;> conv => whnf) | (refine Ob.b ?_;conv=>whnf)
     refine Lp.snap [0, 28, 29] 40 ?_
     (conv=>whnf)
     refine LpB.go 40 ({i : Int // (0 ≤ i ∧ i ≤ F.length) ∧ ∀ j, j < i.toNat → rsL (F.getD j []) j}) 0 (fun ⟨i, _⟩ nx => ([(30, .d (int i))], [])) (fun p => (F.length - p.1).toNat) (⟨0, ⟨by omega, by omega⟩, fun j hj => by simp at hj⟩) ?_ ?_
     ·rintro ⟨i, ⟨i0, i1⟩, hinv⟩
      by_cases hi : i < F.length
      ·have hR := hR i i0 hi
       by_cases hq : rsL (F.getD i.toNat []) i
       ·rw [decide_eq_true hq] at hR
        have e : ∀ j, j < (i + 1).toNat → rsL (F.getD j []) j := fun j hj => by
         by_cases e : j < i.toNat
         ·exact hinv j e
         ·obtain rfl : j = i.toNat := by omega
          rwa [Int.toNat_of_nonneg i0]
        conv => whnf
        repeat' first | ((first | refine Ob.a ?_ | refine Sp.tt ?_ | refine Sp.ff ?_ | refine Sp.yes ?_ | refine Sp.no ?_ | refine Sp.nyes ?_ | refine Sp.nno ?_ | refine Fi.a ?_);conv=>whnf) | ((first | refine Sp.ne ?_ ?_ | refine Sp.dec ?_ ?_ | refine Sp.ndec ?_ ?_ | refine Sp.mk ?_ ?_) <;> intro hc <;> conv => whnf) | (apply Cl.go;(conv=>whnf); (first | refine Ob.call (hR) ?_);(conv=>whnf)) | (refine Ob.b ?_;conv=>whnf)
        all_goals first | exact ⟨rfl, ⟨i + 1, ⟨by omega, by omega⟩, e⟩, Lf, by simp only; omega⟩
       ·rw [decide_eq_false hq] at hR
        have e := c2 i i0 hi hq
        conv => whnf
        repeat' first | ((first | refine Ob.a ?_ | refine Sp.tt ?_ | refine Sp.ff ?_ | refine Sp.yes ?_ | refine Sp.no ?_ | refine Sp.nyes ?_ | refine Sp.nno ?_ | refine Fi.a ?_);conv=>whnf) | ((first | refine Sp.ne ?_ ?_ | refine Sp.dec ?_ ?_ | refine Sp.ndec ?_ ?_ | refine Sp.mk ?_ ?_) <;> intro hc <;> conv => whnf) | (apply Cl.go;(conv=>whnf); (first | refine Ob.call (hR) ?_);(conv=>whnf)) | (refine Ob.b ?_;conv=>whnf)
        all_goals first | exact Lf
      ·have e := c1 fun j hj => hinv j (by omega)
       conv => whnf
       repeat' first | ((first | refine Ob.a ?_ | refine Sp.tt ?_ | refine Sp.ff ?_ | refine Sp.yes ?_ | refine Sp.no ?_ | refine Sp.nyes ?_ | refine Sp.nno ?_ | refine Fi.a ?_);conv=>whnf) | ((first | refine Sp.ne ?_ ?_ | refine Sp.dec ?_ ?_ | refine Sp.ndec ?_ ?_ | refine Sp.mk ?_ ?_) <;> intro hc <;> conv => whnf) | (refine Ob.b ?_;conv=>whnf)
       all_goals exact Lf
     ·exact Lf
   ·exact Lf
  ·rw [if_neg he] at hc
   have hbad : ∃ i, i < F.length ∧ ¬ ∀ x ∈ F.getD i [], 0 ≤ x ∧ x ≤ (i : Int) - 1 := by
    refine Classical.byContradiction fun hno => he fun i hi x hx => ?_
    refine Classical.byContradiction fun hn => hno ⟨i, hi, fun h => hn ?_⟩
    have := h x hx; omega
   have hend : ∀ i : Int, i = F.length → (∀ j, j < i.toNat → ∀ x ∈ F.getD j [], 0 ≤ x ∧ x ≤ (j : Int) - 1) → False := fun i hi h => by
    obtain ⟨j, hj, hn⟩ := hbad
    exact hn (h j (by omega))
   clear hbad he
   refine Fn.of_ex (cuts := []) tys hM Try.func21 rfl Try.call21 rfl ?_
   show exC Try.prog T [] _ false none 0 (entry 40 [mixD F]) (finQ T [ResultVar.tmp 2] _)
   conv => whnf
   repeat' first | ((first | refine Ob.a ?_ | refine Sp.tt ?_ | refine Sp.ff ?_ | refine Sp.yes ?_ | refine Sp.no ?_ | refine Sp.nyes ?_ | refine Sp.nno ?_ | refine Fi.a ?_);conv=>whnf) | ((first | refine Sp.ne ?_ ?_ | refine Sp.dec ?_ ?_ | refine Sp.ndec ?_ ?_ | refine Sp.mk ?_ ?_) <;> intro hc <;> conv => whnf) | (apply Cl.go;(conv=>whnf); (first | refine Ob.call (hW0) ?_);(conv=>whnf)) | (refine Ob.b ?_;conv=>whnf)
   refine Lp.snap [0, 1, 5, 6, 14, 15, 27, 28, 29, 30, 32, 33, 34, 35, 36, 37, 39] 40 ?_
   (conv=>whnf)
   refine LpB.go 40 ({i : Int // (0 ≤ i ∧ i ≤ F.length) ∧ ∀ j, j < i.toNat → ∀ x ∈ F.getD j [], 0 ≤ x ∧ x ≤ (j : Int) - 1}) 0 (fun ⟨i, _⟩ nx => ([(16, .d (int i))], [])) (fun p => (F.length - p.1).toNat) (⟨0, ⟨by omega, by omega⟩, fun j hj => by simp at hj⟩) ?_ ?_
   ·rintro ⟨i, ⟨i0, i1⟩, hinv⟩
    by_cases hi : i < F.length
    ·have hW := hW i i0 hi
     by_cases hq : ∀ x ∈ F.getD i.toNat [], 0 ≤ x ∧ x ≤ i - 1
     ·rw [decide_eq_true hq] at hW
      have e : ∀ j, j < (i + 1).toNat → ∀ x ∈ F.getD j [], 0 ≤ x ∧ x ≤ (j : Int) - 1 := fun j hj => by
       by_cases e : j < i.toNat
       ·exact hinv j e
       ·obtain rfl : j = i.toNat := by omega
        rwa [Int.toNat_of_nonneg i0]
      conv => whnf
      repeat' first | ((first | refine Ob.a ?_ | refine Sp.tt ?_ | refine Sp.ff ?_ | refine Sp.yes ?_ | refine Sp.no ?_ | refine Sp.nyes ?_ | refine Sp.nno ?_ | refine Fi.a ?_);conv=>whnf) | ((first | refine Sp.ne ?_ ?_ | refine Sp.dec ?_ ?_ | refine Sp.ndec ?_ ?_ | refine Sp.mk ?_ ?_) <;> intro hc <;> conv => whnf) | (apply Cl.go;(conv=>whnf); (first | refine Ob.call (hW) ?_);(conv=>whnf)) | (refine Ob.b ?_;conv=>whnf)
      all_goals first | exact ⟨rfl, ⟨i + 1, ⟨by omega, by omega⟩, e⟩, Lf, by simp only; omega⟩
     ·rw [decide_eq_false hq] at hW
      conv => whnf
      repeat' first | ((first | refine Ob.a ?_ | refine Sp.tt ?_ | refine Sp.ff ?_ | refine Sp.yes ?_ | refine Sp.no ?_ | refine Sp.nyes ?_ | refine Sp.nno ?_ | refine Fi.a ?_);conv=>whnf) | ((first | refine Sp.ne ?_ ?_ | refine Sp.dec ?_ ?_ | refine Sp.ndec ?_ ?_ | refine Sp.mk ?_ ?_) <;> intro hc <;> conv => whnf) | (apply Cl.go;(conv=>whnf); (first | refine Ob.call (hW) ?_);(conv=>whnf)) | (refine Ob.b ?_;conv=>whnf)
      all_goals first | exact Lf
    ·exact (hend i (by omega) hinv).elim
   ·exact Lf
 ·rw [decide_eq_false hn] at hW0
  have e : c = 6 := by rw [← hc]; exact if_pos (by omega)
  clear hc
  refine Fn.of_ex (cuts := []) tys hM Try.func21 rfl Try.call21 rfl ?_
  show exC Try.prog T [] _ false none 0 (entry 40 [mixD F]) (finQ T [ResultVar.tmp 2] _)
  conv => whnf
  repeat' first | ((first | refine Ob.a ?_ | refine Sp.tt ?_ | refine Sp.ff ?_ | refine Sp.yes ?_ | refine Sp.no ?_ | refine Sp.nyes ?_ | refine Sp.nno ?_ | refine Fi.a ?_);conv=>whnf) | ((first | refine Sp.ne ?_ ?_ | refine Sp.dec ?_ ?_ | refine Sp.ndec ?_ ?_ | refine Sp.mk ?_ ?_) <;> intro hc <;> conv => whnf) | (apply Cl.go;(conv=>whnf); (first | refine Ob.call (hW0) ?_);(conv=>whnf)) | (refine Ob.b ?_;conv=>whnf)
  all_goals first | exact Lf
end Go.Px.Try

/-! Tp2 -/
namespace Go.Px.Try
open Go Go.Proofs Go.Px
set_option maxRecDepth 100000
def netA (F : List (List Int)) (B : DV) (l : Int) : DV := st [rowsD F, B, int l]
def netD (F : List (List Int)) (B : DV) (l : Int) : DV := .pt (netA F B l) 0
theorem sack_spec (F : List (List Int)) (hs : SmallM F) (B : DV) (l i : Int) (i0 : 0 ≤ i) (i1 : i < F.length) : Fn Try.prog 55 [netD F B l, int i] (bool (sackB F i.toNat)) := by
 have e : decide (((F.getD i.toNat []).length : Int) = 0) = sackB F i.toNat := by
  unfold sackB
  refine decide_eq_decide.2 ?_
  show _ ↔ F.getD i.toNat [] = []
  rw [← List.length_eq_zero_iff]; omega
 have hl := hs.l
 generalize sackB F i.toNat = r at *
 refine Fn.of_ex (cuts := []) tys hM Try.func55 rfl Try.call55 rfl ?_
 show exC Try.prog T [] _ false none 0 (entry 15 [netD F B l, int i]) (finQ T [ResultVar.tmp 4] _)
 conv => whnf
 repeat' first | ((first | refine Ob.a ?_ | refine Sp.tt ?_ | refine Sp.ff ?_ | refine Sp.yes ?_ | refine Sp.no ?_ | refine Sp.nyes ?_ | refine Sp.nno ?_ | refine Fi.a ?_);conv=>whnf) | ((first | refine Sp.ne ?_ ?_ | refine Sp.dec ?_ ?_ | refine Sp.ndec ?_ ?_ | refine Sp.mk ?_ ?_) <;> intro hc <;> conv => whnf) | (refine Yl.a ?_ ?_ <;> (conv=>whnf)) | (refine Ob.b ?_;conv=>whnf)
 all_goals exact Lf
theorem sacks1_spec (F : List (List Int)) (hs : SmallM F) (B : DV) (l i : Int) (i0 : 0 ≤ i) (i1 : i < F.length) : Fn Try.prog 110 [int i, .pt (.ag 1 fun _ => netD F B l) 0] (bool (!sackB F i.toNat)) := by
 have h := sack_spec F hs B l i i0 i1
 generalize sackB F i.toNat = r at *
 refine Fn.of_ex (cuts := []) tys hM Try.func110 rfl Try.call110 rfl ?_
 show exC Try.prog T [] _ false none 0 (entry 8 [int i, .pt (.ag 1 fun _ => netD F B l) 0]) (finQ T [ResultVar.tmp 3] _)
 conv => whnf
 repeat' first | ((first | refine Ob.a ?_ | refine Sp.tt ?_ | refine Sp.ff ?_ | refine Sp.yes ?_ | refine Sp.no ?_ | refine Sp.nyes ?_ | refine Sp.nno ?_ | refine Fi.a ?_);conv=>whnf) | ((first | refine Sp.ne ?_ ?_ | refine Sp.dec ?_ ?_ | refine Sp.ndec ?_ ?_ | refine Sp.mk ?_ ?_) <;> intro hc <;> conv => whnf) | (apply Cl.go;(conv=>whnf); (first | refine Ob.call (h) ?_);(conv=>whnf)) | (refine Yl.a ?_ ?_ <;> (conv=>whnf)) | (refine Ob.b ?_;conv=>whnf)
 all_goals exact Lf
theorem sacks_spec (F : List (List Int)) (hs : SmallM F) (B : DV) (l : Int) (L : List Int) (hL : ∀ x ∈ L, 0 ≤ x ∧ x < (F.length : Int)) (hl : L.length < 1000000) : Fn Try.prog 87 [netD F B l, ints L] (bool (decide (∀ x ∈ L, frm F x.toNat = []))) := by
 have hc := contains_ints1 L 110 (fun _ => .pt (.ag 1 fun _ => netD F B l) 0) (fun x => !sackB F x.toNat) hl (fun x hx => sacks1_spec F hs B l x (hL x hx).1 (hL x hx).2)
 have e : decide (∀ x ∈ L, frm F x.toNat = []) = !(L.any fun x => !sackB F x.toNat) := by
  rw [Bool.eq_iff_iff]
  simp [sackB]
 rw [e]
 generalize (L.any fun x => !sackB F x.toNat) = b at *
 refine Fn.of_ex (cuts := []) tys hM Try.func87 rfl Try.call87 rfl ?_
 show exC Try.prog T [] _ false none 0 (entry 9 [netD F B l, ints L]) (finQ T [ResultVar.tmp 4] _)
 conv => whnf
 repeat' first | ((first | refine Ob.a ?_ | refine Sp.tt ?_ | refine Sp.ff ?_ | refine Sp.yes ?_ | refine Sp.no ?_ | refine Sp.nyes ?_ | refine Sp.nno ?_ | refine Fi.a ?_);conv=>whnf) | ((first | refine Sp.ne ?_ ?_ | refine Sp.dec ?_ ?_ | refine Sp.ndec ?_ ?_ | refine Sp.mk ?_ ?_) <;> intro hc <;> conv => whnf) | (apply Cl.go;(conv=>whnf); (first | refine Ob.call (hc) ?_);(conv=>whnf)) | (refine Yl.a ?_ ?_ <;> (conv=>whnf)) | (refine Ob.b ?_;conv=>whnf)
 all_goals exact Lf
def itC (F : List (List Int)) (B : DV) (l i : Int) : List DV := [.pt (.ag 1 fun _ => netD F B l) 0, cellP i]
def itF (F : List (List Int)) (B : DV) (l i : Int) : DV := .fn 98 0 2 (fun _ => .top) (fun j => (itC F B l i).getD j .top)
theorem list_spec (F : List (List Int)) (B : DV) (l i : Int) : Fn Try.prog 80 [netD F B l, int i] (itF F B l i) := by
 refine Fn.of_ex (cuts := []) tys hM Try.func80 rfl Try.call80 rfl ?_
 show exC Try.prog T [] _ false none 0 (entry 6 [netD F B l, int i]) (finQ T [ResultVar.tmp 4] _)
 conv => whnf
 repeat' first | ((first | refine Ob.a ?_ | refine Sp.tt ?_ | refine Sp.ff ?_ | refine Sp.yes ?_ | refine Sp.no ?_ | refine Sp.nyes ?_ | refine Sp.nno ?_ | refine Fi.a ?_);conv=>whnf) | ((first | refine Sp.ne ?_ ?_ | refine Sp.dec ?_ ?_ | refine Sp.ndec ?_ ?_ | refine Sp.mk ?_ ?_) <;> intro hc <;> conv => whnf) | (refine Yl.a ?_ ?_ <;> (conv=>whnf)) | (refine Ob.b ?_;conv=>whnf)
 all_goals exact Lf
set_option maxHeartbeats 8000000 in
theorem list1_spec (F : List (List Int)) (hs : SmallM F) (B : DV) (l i : Int) (i0 : 0 ≤ i) (i1 : i < F.length) (L : List Int) (hL : F.getD i.toNat [] = L) : Seq Try.prog 98 [] (itC F B l i) L.length (fun k => [int (L.getD k 0)]) := by
 have hl : L.length < 1000000 := by rw [← hL]; exact hs.i _ (getD_mem (by omega) [])
 have hl1 := hs.l
 refine Seq.of_ex (cuts := []) tys hM Try.func98 rfl Try.call98 rfl rfl fun ly => ?_
 show exC Try.prog T [] _ false (some ⟨ly, _, _⟩) 0 (entry 24 ([] ++ [.v (.func (.yield ly) #[] #[])] ++ itC F B l i)) (finY _)
 conv => whnf
 repeat' first | ((first | refine Ob.a ?_ | refine Sp.tt ?_ | refine Sp.ff ?_ | refine Sp.yes ?_ | refine Sp.no ?_ | refine Sp.nyes ?_ | refine Sp.nno ?_ | refine Fi.a ?_);conv=>whnf) | ((first | refine Sp.ne ?_ ?_ | refine Sp.dec ?_ ?_ | refine Sp.ndec ?_ ?_ | refine Sp.mk ?_ ?_) <;> intro hc <;> conv => whnf) | (refine Yl.a ?_ ?_ <;> (conv=>whnf)) | (refine Ob.b ?_;conv=>whnf)
 refine Lp.go 24 {k : Int // 0 ≤ k ∧ k ≤ L.length} (fun ⟨k, _⟩ => ⟨0, [(0, .d (.v (.func (.yield ly) #[] #[]))), (13, .d (ints L)), (14, .d (int L.length)), (15, .d (int k))], [], some k.toNat⟩) (fun p => (L.length - p.1).toNat) ⟨0, by omega, by omega⟩ ?_ ?_ rfl (fun _ => rfl)
 ·rintro ⟨k, k0, k1⟩
  by_cases hk : k < L.length
  ·have e : some (k.toNat + 1) = some (k + 1).toNat := by congr 1; omega
   have e2 : k.toNat < L.length := by omega
   conv => whnf
   repeat' first | ((first | refine Ob.a ?_ | refine Sp.tt ?_ | refine Sp.ff ?_ | refine Sp.yes ?_ | refine Sp.no ?_ | refine Sp.nyes ?_ | refine Sp.nno ?_ | refine Fi.a ?_);conv=>whnf) | ((first | refine Sp.ne ?_ ?_ | refine Sp.dec ?_ ?_ | refine Sp.ndec ?_ ?_ | refine Sp.mk ?_ ?_) <;> intro hc <;> conv => whnf) | (refine Yl.a ?_ ?_ <;> (conv=>whnf)) | (refine Ob.b ?_;conv=>whnf)
   all_goals first | exact .inl rfl | exact ⟨rfl, ⟨k + 1, by omega, by omega⟩, Lf, by simp only; omega⟩
  ·have e : k.toNat = L.length := by omega
   conv => whnf
   repeat' first | ((first | refine Ob.a ?_ | refine Sp.tt ?_ | refine Sp.ff ?_ | refine Sp.yes ?_ | refine Sp.no ?_ | refine Sp.nyes ?_ | refine Sp.nno ?_ | refine Fi.a ?_);conv=>whnf) | ((first | refine Sp.ne ?_ ?_ | refine Sp.dec ?_ ?_ | refine Sp.ndec ?_ ?_ | refine Sp.mk ?_ ?_) <;> intro hc <;> conv => whnf) | (refine Yl.a ?_ ?_ <;> (conv=>whnf)) | (refine Ob.b ?_;conv=>whnf)
   exact .inr (congrArg some e)
 ·have eL : F.getD (0 + i.toNat) [] = L := by rw [Nat.zero_add]; exact hL
  exact Lf
set_option maxHeartbeats 4000000 in
theorem open_err (F : List (List Int)) (hs : SmallM F) (L : List Int) (hl : L.length < 1000000) (h : nodeE F L ≠ 0) : Fn Try.prog 53 [mixD F, ints L] (tpl [nilP, int (nodeE F L)]) := by
 have hC := CheckMixP_spec F hs
 have hW := within_spec 0 (F.length - 1) L hl
 have hl1 := hs.l
 by_cases h0 : checkM F = 0
 ·have hq : ¬ ∀ x ∈ L, 0 ≤ x ∧ x ≤ (F.length : Int) - 1 := fun hx => h (nodeE_ok.2 ⟨checkM_ok.1 h0, fun x hx' => by have := hx x hx'; omega⟩)
  have e : nodeE F L = 2 := by
   unfold nodeE
   rw [if_neg (by simp [h0]), if_neg fun hx => hq fun x hx' => by have := hx x hx'; omega]
  rw [decide_eq_false hq] at hW
  rw [h0] at hC
  rw [e]
  clear hq e h h0
  refine Fn.of_ex (cuts := []) tys hM Try.func53 rfl Try.call53 rfl ?_
  show exC Try.prog T [] _ false none 0 (entry 22 [mixD F, ints L]) (finQ T [ResultVar.tmp 4, ResultVar.tmp 5] _)
  conv => whnf
  repeat' first | ((first | refine Ob.a ?_ | refine Sp.tt ?_ | refine Sp.ff ?_ | refine Sp.yes ?_ | refine Sp.no ?_ | refine Sp.nyes ?_ | refine Sp.nno ?_ | refine Fi.a ?_);conv=>whnf) | ((first | refine Sp.ne ?_ ?_ | refine Sp.dec ?_ ?_ | refine Sp.ndec ?_ ?_ | refine Sp.mk ?_ ?_) <;> intro hc <;> conv => whnf) | (apply Cl.go;(conv=>whnf); (first | refine Ob.call (hC) ?_ | refine Ob.call (hW) ?_);(conv=>whnf)) | (refine Yl.a ?_ ?_ <;> (conv=>whnf)) | (refine Ob.b ?_;conv=>whnf)
  all_goals first | exact Lf | (rename_i hq; exact absurd rfl hq)
 ·have e : nodeE F L = checkM F := if_pos h0
  rw [e]
  clear e h hW
  generalize checkM F = k at *
  refine Fn.of_ex (cuts := []) tys hM Try.func53 rfl Try.call53 rfl ?_
  show exC Try.prog T [] _ false none 0 (entry 22 [mixD F, ints L]) (finQ T [ResultVar.tmp 4, ResultVar.tmp 5] _)
  conv => whnf
  repeat' first | ((first | refine Ob.a ?_ | refine Sp.tt ?_ | refine Sp.ff ?_ | refine Sp.yes ?_ | refine Sp.no ?_ | refine Sp.nyes ?_ | refine Sp.nno ?_ | refine Fi.a ?_);conv=>whnf) | ((first | refine Sp.ne ?_ ?_ | refine Sp.dec ?_ ?_ | refine Sp.ndec ?_ ?_ | refine Sp.mk ?_ ?_) <;> intro hc <;> conv => whnf) | (apply Cl.go;(conv=>whnf); (first | refine Ob.call (hC) ?_);(conv=>whnf)) | (refine Yl.a ?_ ?_ <;> (conv=>whnf)) | (refine Ob.b ?_;conv=>whnf)
  all_goals first | exact Lf | (exfalso; omega)
def netR (F : List (List Int)) : Res := .cs true 3 fun j => .d ([rowsD F, nilS, int 0].getD j .top)
def netY : AV := .tp 2 fun j => match j with
 | 0 => .ref 0 0
 | _ => .d (int 0)
set_option maxHeartbeats 4000000 in
theorem open_spec (F : List (List Int)) (hs : SmallM F) (L : List Int) (hl : L.length < 1000000) (h : nodeE F L = 0) : FnN Try.prog 53 [mixD F, ints L] (netR F) netY := by
 have hC := CheckMixP_spec F hs
 have hW := within_spec 0 (F.length - 1) L hl
 have hl1 := hs.l
 obtain ⟨hm, hx⟩ := nodeE_ok.1 h
 have h0 := checkM_ok.2 hm
 have hl10 := hm.l10
 have hl11 := hm.l1
 rw [h0] at hC
 rw [decide_eq_true (fun x hx' => by have := hx x hx'; omega)] at hW
 clear h h0 hx
 refine FnN.of_ex (cuts := []) tys hM Try.func53 rfl Try.call53 rfl ?_
 show exC Try.prog T [] _ false none 0 (entry 22 [mixD F, ints L]) (finG T 0 [ResultVar.tmp 4, ResultVar.tmp 5] _ _)
 conv => whnf
 repeat' first | ((first | refine Ob.a ?_ | refine Sp.tt ?_ | refine Sp.ff ?_ | refine Sp.yes ?_ | refine Sp.no ?_ | refine Sp.nyes ?_ | refine Sp.nno ?_ | refine Fi.a ?_);conv=>whnf) | ((first | refine Sp.ne ?_ ?_ | refine Sp.dec ?_ ?_ | refine Sp.ndec ?_ ?_ | refine Sp.mk ?_ ?_) <;> intro hc <;> conv => whnf) | (apply Cl.go;(conv=>whnf); (first | refine Ob.call (hC) ?_ | refine Ob.call (hW) ?_);(conv=>whnf)) | (refine Yl.a ?_ ?_ <;> (conv=>whnf)) | (refine Ob.b ?_;conv=>whnf)
 all_goals first | (rename_i hq; exact absurd rfl hq) | exact Lf
end Go.Px.Try
